/- The fund: what members are asked for on top. In plain Lean. No condition. -/
import Derived.Test.YtjkfadaedgidpaaSpecFU
import Derived.Test.YtjkfadaedgidpaaSpecR
namespace Go.Proofs.Ytjkfadaedgidpaa
open Go.RowKit
set_option linter.unusedVariables false
set_option linter.unusedSimpArgs false
def ndV (r : RollV) (ws : List Int) : List Int := ws.map fun w => (findX MemV.no w zMem r.mems).need
theorem ndV_snoc (r : RollV) (ws : List Int) (w : Int) : ndV r (ws ++ [w]) = ndV r ws ++ [(findX MemV.no w zMem r.mems).need] := by simp [ndV]
theorem ndV_len (r : RollV) (ws : List Int) : (ndV r ws).length = ws.length := by simp [ndV]
theorem ndV_get {r : RollV} {ws : List Int} {i : Nat} (h : i < ws.length) : (ndV r ws).getD i 0 = (findX MemV.no (ws.getD i 0) zMem r.mems).need := by
  simp [ndV, List.getD_eq_getElem?_getD, h]
def nsE (r : RollV) (ws : List Int) : Int := bif rollE r != 0 then rollE r else bif !whosOk ws then 3 else sumE (ndV r ws)
def nsN (r : RollV) (ws : List Int) : Int := bif rollE r != 0 then 0 else bif !whosOk ws then 0 else sumV (ndV r ws)
def aqE (r : RollV) (c amt : Int) (ws : List Int) : Int := bif nsE r ws != 0 then nsE r ws else bif !curOk c then 3 else boE 2 c amt (nsN r ws) ws (ndV r ws)
def aqV (r : RollV) (c amt : Int) (ws : List Int) : List LegV := bif nsE r ws != 0 then [] else bif !curOk c then [] else boV 2 c amt (nsN r ws) ws (ndV r ws)
theorem memR_all {p : Option MemV} : ∀ {l : List MemV}, chk memOk MemV.no p l = true → ∀ x ∈ l, memOk x = true
  | [], _, x, hx => by simp at hx
  | y :: l, h, x, hx => by
    simp only [chk, Bool.and_eq_true] at h
    rcases List.mem_cons.1 hx with rfl | hx
    · exact h.1.1
    · exact memR_all h.2 x hx
theorem findM_or {n : Int} : ∀ {l : List MemV}, (hasX MemV.no n l = true ∧ findX MemV.no n zMem l ∈ l) ∨ findX MemV.no n zMem l = zMem
  | [] => .inr rfl
  | x :: l => by
    cases hx : x.no == n with
    | true => left; simp only [hasX, findX, hx, cond_true]; simp
    | false =>
      simp only [hasX, findX, hx, cond_false, Bool.false_or]
      rcases findM_or (n := n) (l := l) with g | g
      · exact .inl ⟨g.1, List.mem_cons_of_mem _ g.2⟩
      · exact .inr g
theorem need_bnd {r : RollV} (h : rollE r = 0) (n : Int) : 0 ≤ (findX MemV.no n zMem r.mems).need ∧ (findX MemV.no n zMem r.mems).need ≤ 4611686018427387904 := by
  have hr : rollOk r = true := by
    cases e : rollOk r with
    | true => rfl
    | false => simp [rollE, e] at h
  simp only [rollOk, Bool.and_eq_true] at hr
  rcases findM_or (n := n) (l := r.mems) with g | g
  · have := memR_all hr.1.1 _ g.2
    simp only [memOk, List.all_cons, List.all_nil, Bool.and_true, Bool.and_eq_true, decide_eq_true_eq] at this
    have h2 := rt_le this.1.2
    omega
  · rw [g]; simp [zMem]
theorem need_has {l : List MemV} {n : Int} (h : 0 < (findX MemV.no n zMem l).need) : hasX MemV.no n l = true := by
  rcases findM_or (n := n) (l := l) with g | g
  · exact g.1
  · rw [g] at h; simp [zMem] at h
/- Who bears how much: whatever is borne. -/
structure BoF (k c amt : Int) (ws g : List Int) : Prop where
  kk : k = 2 ∨ k = 3
  cur : curOk c = true
  who : whosOk ws = true
  glen : g.length = ws.length
  a0 : 0 ≤ amt
  a1 : amt ≤ 4611686018427387904
  w0 : ∀ x ∈ g, 0 ≤ x ∧ x ≤ 4611686018427387904
  sre : sRE amt g = 0
  spe : splitE amt g = 0
  len : (splitV amt g).length = ws.length
  p0 : ∀ i, 0 ≤ (splitV amt g).getD i 0
  pw : ∀ i, i < ws.length → (splitV amt g).getD i 0 ≤ g.getD i 0
  ps : (splitV amt g).sum = amt
theorem boF_of {k c amt : Int} {ws g : List Int} (hk : k = 2 ∨ k = 3) (hc : curOk c = true) (hw : whosOk ws = true) (hgl : g.length = ws.length) (hW : ∀ x ∈ g, 0 ≤ x ∧ x ≤ 4611686018427387904) (ha : amtBad amt = false) (hm : decide (amt > g.sum) = false) : BoF k c amt ws g := by
  simp only [amtBad, List.all_cons, List.all_nil, Bool.and_true, Bool.or_eq_false_iff, decide_eq_false_iff_not, Bool.not_eq_false'] at ha
  have hab := rt_le ha.2
  have hle := of_decide_eq_false hm
  have hfew := whos_few hw
  have hre : sRE amt g = 0 := sRE_may ⟨⟨by omega, by omega⟩, hW, by omega⟩
  have hsn := sumNN fun x hx => (hW x hx).1
  have hp : splitE amt g = 0 := by
    rcases Nat.eq_zero_or_pos (sN g) with hS | hS
    · rw [splitE_zero hre hS, show (amt == 0) = true by simp; omega]; rfl
    · exact splitE_prt hre hS
  have hpl := split_len hre hp
  have hg0 : ∀ i, i < ws.length → 0 ≤ g.getD i 0 := fun i hi => (hW _ (getD_mem (by omega))).1
  refine ⟨hk, hc, hw, hgl, by omega, by omega, hW, hre, hp, by omega, fun i => ?_, fun i hi => ?_, ?_⟩
  · rcases Nat.eq_zero_or_pos (sN g) with hS | hS
    · rw [splitV_zero hre hS (by omega), zeros_get]; exact Int.le_refl _
    · rw [splitV_prt hre hS]; exact prt_nn _ _ _
  · rcases Nat.eq_zero_or_pos (sN g) with hS | hS
    · rw [splitV_zero hre hS (by omega), zeros_get]; exact hg0 i hi
    · rw [splitV_prt hre hS]; exact prt_cap hS (by omega) (hg0 i hi)
  · rcases Nat.eq_zero_or_pos (sN g) with hS | hS
    · rw [splitV_zero hre hS (by omega)]; simp [zerosI]; omega
    · rw [splitV_prt hre hS, prt_sum hS]; omega
def aG (k c amt : Int) (ws ps : List Int) : List LegV := bTl k c ws ps ps.length ++ [lossL c amt]
theorem aLeg_in {k c : Int} {ws ps : List Int} {y : LegV} : y ∈ bTl k c ws ps ps.length ↔ ∃ i, i < ps.length ∧ y = bLeg k c ws ps i := by
  simp only [bTl, List.mem_map, List.mem_range]
  constructor
  · rintro ⟨i, h1, h2⟩; exact ⟨i, h1, h2.symm⟩
  · rintro ⟨i, h1, h2⟩; exact ⟨i, h1, h2.symm⟩
theorem aG_asc {k c amt : Int} {ws g : List Int} (h : BoF k c amt ws g) : Asc (aG k c amt ws (splitV amt g)) := by
  rw [aG, Asc, List.pairwise_append]
  refine ⟨?_, by simp, fun x hx y hy => ?_⟩
  · rw [bTl, List.pairwise_map]
    refine (List.pairwise_lt_range (n := (splitV amt g).length)).imp_of_mem fun {a b} ha hb hlt => ?_
    rw [List.mem_range] at ha hb
    exact acLt_iff.2 (.inr ⟨rfl, .inl (whos_lt h.who hlt (by rw [← h.len]; omega))⟩)
  · obtain ⟨i, hi, rfl⟩ := aLeg_in.1 hx
    rw [List.mem_singleton.1 hy]
    refine acLt_iff.2 (.inl ?_)
    show k < 6
    have := h.kk; omega
theorem aG_ok {k c amt : Int} {ws g : List Int} (h : BoF k c amt ws g) : (aG k c amt ws (splitV amt g)).all legOk = true := by
  rw [aG, List.all_append, Bool.and_eq_true]
  constructor
  · rw [List.all_eq_true]
    intro y hy
    obtain ⟨i, hi, rfl⟩ := aLeg_in.1 hy
    have hi2 : i < ws.length := by rw [← h.len]; exact hi
    have hb := whos_get h.who hi2
    have hw := h.w0 _ (getD_mem (p := g) (k := i) (by rw [h.glen]; exact hi2))
    have hp := h.pw i hi2
    have hp0 := h.p0 i
    simp only [legOk, bLeg, Bool.and_eq_true]
    refine ⟨fAc_ok h.kk ⟨hb.1, hb.2.1⟩ h.cur, ?_⟩
    rw [ng_eq hp0 (by omega)]
    exact rt_of (by omega) (by omega)
  · have := h.a0
    have := h.a1
    simp only [List.all_cons, List.all_nil, Bool.and_true, legOk, lossL, loss_ok h.cur, Bool.true_and]
    exact rt_of (by omega) (by omega)
theorem a_join {k c amt : Int} {ws g : List Int} (h : BoF k c amt ws g) :
    joinR (boL k c amt ws (splitV amt g)) = 0 ∧ joinV (boL k c amt ws (splitV amt g)) = (aG k c amt ws (splitV amt g)).filter fun y => y.amt != 0 := by
  have ha := aG_asc h
  have hk := aG_ok h
  have hj := join_asc ha hk
  have hk2 : (boL k c amt ws (splitV amt g)).all legOk = true := by
    rw [aG, List.all_append, Bool.and_eq_true] at hk
    rw [boL, bAll, List.all_cons, hk.1]
    have := hk.2
    simp only [List.all_cons, List.all_nil, Bool.and_true] at this
    rw [this]; rfl
  have hs := same_join hk2 hk fun a => sumA_front a _ _
  exact ⟨by rw [hs.1]; exact hj.1, by rw [hs.2]; exact hj.2⟩
/- An assessment that may be. -/
theorem as_open {r : RollV} {c amt : Int} {ws : List Int} (h : aqE r c amt ws = 0) : rollE r = 0 ∧ whosOk ws = true ∧ curOk c = true ∧ amtBad amt = false ∧ decide (amt > (ndV r ws).sum) = false ∧ nsE r ws = 0 ∧ nsN r ws = (ndV r ws).sum := by
  have h1 : nsE r ws = 0 := by
    simp only [aqE] at h
    cases e : nsE r ws != 0 with
    | true => rw [e] at h; simpa only [cond_true] using h
    | false => simpa using e
  have e1 : (nsE r ws != 0) = false := by simp [h1]
  have h2 : rollE r = 0 := by
    simp only [nsE] at h1
    cases e : rollE r != 0 with
    | true => rw [e] at h1; simpa only [cond_true] using h1
    | false => simpa using e
  have h3 : whosOk ws = true := by
    cases e : whosOk ws with
    | true => rfl
    | false => simp [nsE, h2, e] at h1
  have h4 : sumE (ndV r ws) = 0 := by simpa [nsE, h2, h3] using h1
  have h5 : curOk c = true := by
    cases e : curOk c with
    | true => rfl
    | false => simp [aqE, e1, e] at h
  obtain ⟨r1, r2, r3⟩ := sumE_zero h4
  have h6 : nsN r ws = (ndV r ws).sum := by simp [nsN, h2, h3, r3]
  have h7 : boE 2 c amt (ndV r ws).sum ws (ndV r ws) = 0 := by simpa only [aqE, e1, h5, Bool.not_true, cond_false, h6] using h
  have h8 : amtBad amt = false := by
    cases e : amtBad amt with
    | false => rfl
    | true => simp [boE, e] at h7
  refine ⟨h2, h3, h5, h8, ?_, h1, h6⟩
  cases e : decide (amt > (ndV r ws).sum) with
  | false => rfl
  | true => simp only [boE, h8, e, cond_true, cond_false] at h7; cases h7
theorem as_facts {r : RollV} {c amt : Int} {ws : List Int} (h : aqE r c amt ws = 0) : BoF 2 c amt ws (ndV r ws) := by
  obtain ⟨h1, h2, h3, h4, h5, _, _⟩ := as_open h
  refine boF_of (.inl rfl) h3 h2 (ndV_len r ws) (fun x hx => ?_) h4 h5
  obtain ⟨w, _, rfl⟩ := List.mem_map.1 hx
  exact need_bnd h1 w
theorem aqV_eq {r : RollV} {c amt : Int} {ws : List Int} (h : aqE r c amt ws = 0) : aqV r c amt ws = (aG 2 c amt ws (splitV amt (ndV r ws))).filter fun y => y.amt != 0 := by
  obtain ⟨h1, h2, h3, h4, h5, h6, h7⟩ := as_open h
  have hF := as_facts h
  have e1 : (nsE r ws != 0) = false := by simp [h6]
  have e2 : (splitE amt (ndV r ws) != 0) = false := by simp [hF.spe]
  simp only [aqV, e1, h3, Bool.not_true, cond_false, h7, boV, h4, h5, e2]
  exact (a_join hF).2
theorem as_R {r : RollV} {c amt : Int} {ws : List Int} (h : aqE r c amt ws = 0) : joinR (boL 2 c amt ws (splitV amt (ndV r ws))) = 0 ∧ aqV r c amt ws = joinV (boL 2 c amt ws (splitV amt (ndV r ws))) := by
  have hj := a_join (as_facts h)
  exact ⟨hj.1, by rw [aqV_eq h, hj.2]⟩
theorem aqV_bad {r : RollV} {c amt : Int} {ws : List Int} (h : aqE r c amt ws ≠ 0) : aqV r c amt ws = [] := by
  cases h1 : nsE r ws != 0 with
  | true => simp only [aqV, h1, cond_true]
  | false =>
    cases h0 : curOk c with
    | false => simp only [aqV, h1, h0, Bool.not_false, cond_true, cond_false]
    | true =>
      simp only [aqE, h1, h0, Bool.not_true, cond_false] at h
      simp only [aqV, h1, h0, Bool.not_true, cond_false, boV]
      simp only [boE] at h
      cases h2 : amtBad amt with
      | true => rfl
      | false =>
        cases h3 : decide (amt > nsN r ws) with
        | true => rfl
        | false =>
          cases h4 : splitE amt (ndV r ws) != 0 with
          | true => rfl
          | false =>
            simp only [h2, h3, h4, cond_false] at h ⊢
            simp only [joinV, show (joinR (boL 2 c amt ws (splitV amt (ndV r ws))) == 0) = false by simpa using h, cond_false]
theorem aqV_len (r : RollV) (c amt : Int) (ws : List Int) : (aqV r c amt ws).length ≤ ws.length + 1 := by
  by_cases h : aqE r c amt ws = 0
  · rw [aqV_eq h]
    have h1 := List.length_filter_le (fun y : LegV => y.amt != 0) (aG 2 c amt ws (splitV amt (ndV r ws)))
    have h2 : (aG 2 c amt ws (splitV amt (ndV r ws))).length = ws.length + 1 := by
      rw [aG, List.length_append, bTl_len, (as_facts h).len]; rfl
    omega
  · rw [aqV_bad h]; simp
theorem bS_T2 {c : Int} {ws ps : List Int} : ∀ n, (∀ i, i < n → ngW (ps.getD i 0) = - ps.getD i 0) → n ≤ ps.length → bS (bTl 2 c ws ps n) = (ps.take n).sum
  | 0, _, _ => by simp [bTl, bS]
  | n + 1, h, hl => by
    have ih := bS_T2 (c := c) (ws := ws) (ps := ps) n (fun i hi => h i (by omega)) (by omega)
    have hx := h n (by omega)
    have e : (ps.take (n + 1)).sum = (ps.take n).sum + ps.getD n 0 := by
      rw [List.take_add_one, List.sum_append, List.getD_eq_getElem?_getD, List.getElem?_eq_getElem (by omega)]; simp
    rw [bTl_succ, bS_app, ih, e]
    simp only [bS, bLeg, fAc, hx, show ((2 : Int) == 6) = false from rfl, cond_false]; omega
theorem as_ng {r : RollV} {c amt : Int} {ws : List Int} (h : aqE r c amt ws = 0) {i : Nat} (hi : i < ws.length) : ngW ((splitV amt (ndV r ws)).getD i 0) = - (splitV amt (ndV r ws)).getD i 0 := by
  have hF := as_facts h
  have h1 := hF.p0 i
  have h2 := hF.pw i hi
  have h3 := hF.w0 _ (getD_mem (p := ndV r ws) (k := i) (by rw [ndV_len]; exact hi))
  exact ng_eq h1 (by omega)
theorem as_bears {r : RollV} {c amt : Int} {ws : List Int} (h : aqE r c amt ws = 0) : bS (aqV r c amt ws) = amt := by
  have hF := as_facts h
  rw [aqV_eq h, bS_nz, aG, bS_app, bS_T2 _ (fun i hi => as_ng h (by rw [← hF.len]; exact hi)) (Nat.le_refl _), List.take_length, hF.ps]
  simp [bS, lossL, fAc]
theorem as_leg {r : RollV} {c amt : Int} {ws : List Int} (h : aqE r c amt ws = 0) {y : LegV} (hy : y ∈ aqV r c amt ws) :
    y.ac.kind = 6 ∨ (y.ac.kind = 2 ∧ y.ac.cur = c ∧ hasX MemV.no y.ac.who r.mems = true ∧ y.amt < 0 ∧ -4611686018427387904 ≤ y.amt ∧ - y.amt ≤ (findX MemV.no y.ac.who zMem r.mems).need) := by
  have hF := as_facts h
  rw [aqV_eq h, List.mem_filter, aG, List.mem_append, aLeg_in, List.mem_singleton, hF.len] at hy
  obtain ⟨h2, h1⟩ := hy
  rcases h2 with ⟨i, hi, rfl⟩ | rfl
  · right
    have hn := as_ng h hi
    have hp0 := hF.p0 i
    have hpw := hF.pw i hi
    have hw := hF.w0 _ (getD_mem (p := ndV r ws) (k := i) (by rw [ndV_len]; exact hi))
    have hg := ndV_get (r := r) hi
    have ea : (bLeg 2 c ws (splitV amt (ndV r ws)) i).amt = - (splitV amt (ndV r ws)).getD i 0 := hn
    rw [ea] at h1 ⊢
    have h1 : - (splitV amt (ndV r ws)).getD i 0 ≠ 0 := by simpa using h1
    have hnd : 0 < (findX MemV.no (ws.getD i 0) zMem r.mems).need := by rw [← hg]; omega
    refine ⟨rfl, rfl, need_has hnd, by omega, by omega, ?_⟩
    show - - _ ≤ (findX MemV.no (ws.getD i 0) zMem r.mems).need
    rw [← hg]; omega
  · exact .inl rfl
theorem aS_nn {r : RollV} {c amt : Int} {ws : List Int} (h : aqE r c amt ws = 0) : ∀ {A : List LegV}, (∀ y ∈ A, y ∈ aqV r c amt ws) → 0 ≤ bS A
  | [], _ => Int.le_refl _
  | y :: A, hA => by
    have ih := aS_nn h (A := A) fun z hz => hA z (by simp [hz])
    simp only [bS]
    rcases as_leg h (hA y (by simp)) with g | g
    · rw [show (y.ac.kind == 6) = true by simp [g]]; simp only [cond_true]; omega
    · rw [show (y.ac.kind == 6) = false by simp [g.1]]; simp only [cond_false]; omega
theorem aS_step {r : RollV} {c amt : Int} {ws : List Int} (h : aqE r c amt ws = 0) {q t : List LegV} {z : LegV} (hs : aqV r c amt ws = q ++ z :: t) :
    (z.ac.kind = 6 → bS (q ++ [z]) = bS q) ∧ (z.ac.kind = 2 → IntKind.wrap .i64 (bS q - z.amt) = bS (q ++ [z])) := by
  have e1 : bS (q ++ [z]) = bS q + (bif z.ac.kind == 6 then 0 else - z.amt) := by rw [bS_app]; simp [bS]
  have e2 : bS (q ++ [z]) + bS t = amt := by
    have := bS_app (q ++ [z]) t
    rw [← this, show (q ++ [z]) ++ t = q ++ z :: t by simp, ← hs]; exact as_bears h
  have n1 := aS_nn h (A := q ++ [z]) fun y hy => by rw [hs, show q ++ z :: t = (q ++ [z]) ++ t by simp]; exact List.mem_append_left _ hy
  have n2 := aS_nn h (A := t) fun y hy => by rw [hs]; simp [hy]
  have ha := (as_facts h).a1
  constructor
  · intro hk; rw [e1, hk]; simp
  · intro hk
    rw [hk] at e1
    simp only [show ((2 : Int) == 6) = false from rfl, cond_false] at e1
    rw [wrapI (by omega) (by omega)]; omega
theorem as_cur {r : RollV} {c amt : Int} {ws : List Int} (h : aqE r c amt ws = 0) (c2 : Int) : sumC c2 (aqV r c amt ws) = 0 := by
  have hF := as_facts h
  obtain ⟨h1, h2⟩ := as_R h
  rw [h2, join_curs h1, boL, bAll, sumC_cons, sumC_T _ (fun i hi => as_ng h (by rw [← hF.len]; exact hi)) (Nat.le_refl _), List.take_length, hF.ps]
  simp only [lossL, fAc]
  cases c == c2 with
  | true => simp only [cond_true]; omega
  | false => rfl
theorem as_chk {r : RollV} {c amt : Int} {ws : List Int} (h : aqE r c amt ws = 0) : (amt == 0 || chkE (aqV r c amt ws) == 0) = true := by
  cases e : amt == 0 with
  | true => rfl
  | false =>
    have ha : amt ≠ 0 := by simpa using e
    have hF := as_facts h
    rw [Bool.false_or, beq_iff_eq]
    refine (chkE_iff _).2 ⟨fun e => ?_, ?_, ?_, as_cur h 0, as_cur h 1, as_cur h 2⟩
    · have : lossL c amt ∈ aqV r c amt ws := by
        rw [aqV_eq h, List.mem_filter, aG, List.mem_append]
        exact ⟨.inr (by simp), by simpa [lossL] using ha⟩
      rw [e] at this; cases this
    · have h1 := aqV_len r c amt ws
      have h2 := whos_few hF.who
      omega
    · obtain ⟨h1, h2⟩ := as_R h
      rw [h2]; exact join_ok h1
end Go.Proofs.Ytjkfadaedgidpaa
