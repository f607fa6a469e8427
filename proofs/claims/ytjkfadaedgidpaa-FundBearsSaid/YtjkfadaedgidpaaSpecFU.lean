/- The fund: shares, who bears what. In plain Lean. No condition. -/
import Derived.Test.YtjkfadaedgidpaaSpecLD
import Derived.Test.YtjkfadaedgidpaaSpecJH
namespace Go.Proofs.Ytjkfadaedgidpaa
open Go.RowKit
set_option linter.unusedVariables false
set_option linter.unusedSimpArgs false
def curOk (c : Int) : Bool := decide (c ≥ 0) && decide (c < 3)
def whoBad (l : List Int) (i : Nat) : Bool := decide (l.getD i 0 < 1) || decide (l.getD i 0 > 16) || (decide ((i : Int) > 0) && decide (l.getD (i - 1) 0 ≥ l.getD i 0))
def whosTo (l : List Int) (n : Nat) : Bool := (List.range n).all fun i => !whoBad l i
def whosOk (l : List Int) : Bool := whosTo l l.length
theorem whosTo_succ (l : List Int) (n : Nat) : whosTo l (n + 1) = (whosTo l n && !whoBad l n) := by simp [whosTo, List.range_succ]
theorem whos_no {l : List Int} {i : Nat} (hi : i < l.length) (h : whoBad l i = true) : whosOk l = false := by
  cases e : whosOk l with
  | false => rfl
  | true =>
    simp only [whosOk, whosTo, List.all_eq_true, List.mem_range] at e
    have := e i hi
    rw [h] at this; cases this
def fAc (k w c : Int) : AcV := ⟨k, w, c⟩
def shV (c : Int) (bal : List LegV) (ws : List Int) : List Int := ws.map fun w => ofL (fAc 3 w c) bal
theorem shV_snoc (c : Int) (bal : List LegV) (ws : List Int) (w : Int) : shV c bal (ws ++ [w]) = shV c bal ws ++ [ofL (fAc 3 w c) bal] := by simp [shV]
theorem shV_len (c : Int) (bal : List LegV) (ws : List Int) : (shV c bal ws).length = ws.length := by simp [shV]
def shBad (c : Int) (ws : List Int) : Bool := !curOk c || !whosOk ws
def shE (s : LedV) (c : Int) (ws : List Int) : Int := bif ledE s != 0 then ledE s else bif shBad c ws then 3 else sumE (shV c s.bal ws)
def shN (s : LedV) (c : Int) (ws : List Int) : Int := bif ledE s != 0 then 0 else bif shBad c ws then 0 else sumV (shV c s.bal ws)
/- Who bears what. -/
def ngW (p : Int) : Int := IntKind.wrap .i64 (0 - p)
def bLeg (k c : Int) (ws ps : List Int) (i : Nat) : LegV := ⟨fAc k (ws.getD i 0) c, ngW (ps.getD i 0)⟩
def bTl (k c : Int) (ws ps : List Int) (n : Nat) : List LegV := (List.range n).map (bLeg k c ws ps)
theorem bTl_succ (k c : Int) (ws ps : List Int) (n : Nat) : bTl k c ws ps (n + 1) = bTl k c ws ps n ++ [bLeg k c ws ps n] := by simp [bTl, List.range_succ]
theorem bTl_len (k c : Int) (ws ps : List Int) (n : Nat) : (bTl k c ws ps n).length = n := by simp [bTl]
def lossL (c amt : Int) : LegV := ⟨fAc 6 0 c, amt⟩
def bAll (k c amt : Int) (ws ps : List Int) (n : Nat) : List LegV := lossL c amt :: bTl k c ws ps n
theorem bAll_succ (k c amt : Int) (ws ps : List Int) (n : Nat) : bAll k c amt ws ps (n + 1) = bAll k c amt ws ps n ++ [bLeg k c ws ps n] := by rw [bAll, bTl_succ]; rfl
theorem bAll_len (k c amt : Int) (ws ps : List Int) (n : Nat) : (bAll k c amt ws ps n).length = n + 1 := by simp [bAll, bTl_len]
def amtBad (amt : Int) : Bool := decide (amt < 0) || !([amt].all rightN)
def boL (k c amt : Int) (ws ps : List Int) : List LegV := bAll k c amt ws ps ps.length
def boE (k c amt most : Int) (ws wg : List Int) : Int := bif amtBad amt then 3 else bif decide (amt > most) then 13 else bif splitE amt wg != 0 then splitE amt wg else joinR (boL k c amt ws (splitV amt wg))
def boV (k c amt most : Int) (ws wg : List Int) : List LegV := bif amtBad amt then [] else bif decide (amt > most) then [] else bif splitE amt wg != 0 then [] else joinV (boL k c amt ws (splitV amt wg))
def lvE (s : LedV) (c amt : Int) (ws : List Int) : Int := bif shE s c ws != 0 then shE s c ws else boE 3 c amt (shN s c ws) ws (shV c s.bal ws)
def lvV (s : LedV) (c amt : Int) (ws : List Int) : List LegV := bif shE s c ws != 0 then [] else boV 3 c amt (shN s c ws) ws (shV c s.bal ws)
theorem splitV_any (t : Int) (l : List Int) : (splitV t l).length ≤ l.length := by
  by_cases h : sRE t l = 0
  · rcases Nat.eq_zero_or_pos (sN l) with hS | hS
    · by_cases ht : t = 0
      · rw [splitV_zero h hS ht]; simp [zerosI]
      · rw [splitV_none h hS ht]; simp
    · rw [splitV_prt h hS, prt_len]; exact Nat.le_refl _
  · rw [show splitV t l = [] by simp only [splitV, show (sRE t l == 0) = false by simpa using h, cond_false]]; simp
/- What is known of whos. -/
theorem whos_get {l : List Int} (h : whosOk l = true) {i : Nat} (hi : i < l.length) : 1 ≤ l.getD i 0 ∧ l.getD i 0 ≤ 16 ∧ (0 < i → l.getD (i - 1) 0 < l.getD i 0) := by
  simp only [whosOk, whosTo, List.all_eq_true, List.mem_range] at h
  have := h i hi
  simp only [whoBad, Bool.not_eq_true', Bool.or_eq_false_iff, Bool.and_eq_false_iff, decide_eq_false_iff_not] at this
  omega
theorem whos_lt {l : List Int} (h : whosOk l = true) : ∀ {k i : Nat}, i < k → k < l.length → l.getD i 0 < l.getD k 0
  | 0, i, hi, hk => by omega
  | k + 1, i, hi, hk => by
    have h1 := (whos_get h hk).2.2 (by omega)
    simp only [Nat.add_sub_cancel] at h1
    rcases Nat.lt_succ_iff_lt_or_eq.1 hi with c | c
    · have := whos_lt h c (by omega); omega
    · subst c; exact h1
theorem whos_few {l : List Int} (h : whosOk l = true) : l.length ≤ 16 := by
  have aux : ∀ k, k < l.length → (k : Int) + 1 ≤ l.getD k 0 := by
    intro k
    induction k with
    | zero => intro hk; have := whos_get h hk; omega
    | succ k ih =>
      intro hk
      have h1 := ih (by omega)
      have h2 := whos_lt h (i := k) (k := k + 1) (by omega) hk
      omega
  rcases Nat.eq_zero_or_pos l.length with c | c
  · omega
  · have h1 := aux (l.length - 1) (by omega)
    have h2 := whos_get h (i := l.length - 1) (by omega)
    omega
theorem fAc_ok {k w c : Int} (hk : k = 2 ∨ k = 3) (hw : 1 ≤ w ∧ w ≤ 16) (hc : curOk c = true) : acOk (fAc k w c) = true := by
  simp only [curOk, Bool.and_eq_true, decide_eq_true_eq] at hc
  have a1 : ¬ c < 0 := by omega
  have a2 : ¬ 3 ≤ c := by omega
  rcases hk with rfl | rfl <;> simp [acOk, acBad, acOwn, fAc, Bool.cond_eq_ite, a1, a2, hw.1, hw.2]
theorem loss_ok {c : Int} (hc : curOk c = true) : acOk (fAc 6 0 c) = true := by
  simp only [curOk, Bool.and_eq_true, decide_eq_true_eq] at hc
  have a1 : ¬ c < 0 := by omega
  have a2 : ¬ 3 ≤ c := by omega
  simp [acOk, acBad, acOwn, fAc, Bool.cond_eq_ite, a1, a2]
/- A row of legs in order, each at its own account: joined it is what is not 0. -/
theorem asc_none {a : AcV} : ∀ {G : List LegV}, (∀ y ∈ G, y.ac ≠ a) → sumA a G = 0
  | [], _ => rfl
  | x :: G, h => by
    have hx : acSame x.ac a = false := by
      cases e : acSame x.ac a with
      | false => rfl
      | true => exact absurd (acSame_iff.1 e) (h x (by simp))
    simp only [sumA, hx, cond_false]
    rw [asc_none fun y hy => h y (by simp [hy])]; rfl
theorem join_asc {G : List LegV} (ha : Asc G) (hl : G.all legOk = true) : joinR G = 0 ∧ joinV G = G.filter fun y => y.amt != 0 := by
  have hR : joinR G = 0 := by
    rcases jR hl with h | ⟨_, y, hy, hb⟩
    · exact h.1
    · exfalso
      rw [asc_sum ha y hy, ok_rt hl y hy] at hb; cases hb
  refine ⟨hR, asc_eq (jA G hR) (List.Pairwise.sublist List.filter_sublist ha) fun y => ?_⟩
  rw [jM hR y, List.mem_filter]
  constructor
  · rintro ⟨h1, h2⟩
    obtain ⟨z, hz, he⟩ := sumA_mem (S := G) (a := y.ac) (by rw [← h1]; exact h2)
    have hz2 := asc_sum ha z hz
    rw [he] at hz2
    have : y = z := by
      obtain ⟨ya, yb⟩ := y; obtain ⟨za, zb⟩ := z
      simp only at he h1 hz2
      rw [he, h1, hz2]
    rw [this] at h2 ⊢
    exact ⟨hz, by simpa using h2⟩
  · rintro ⟨h1, h2⟩
    exact ⟨(asc_sum ha y h1).symm, by simpa using h2⟩
/- What a levy that may be is like. -/
theorem led_good {s : LedV} (h : ledE s = 0) : Good s := (ledE_iff s).1 h
theorem rt_of {n : Int} (h : -4611686018427387904 ≤ n) (h2 : n ≤ 4611686018427387904) : rightN n = true := by simp [rightN]; omega
theorem shV_get {c : Int} {bal : List LegV} {ws : List Int} {i : Nat} (h : i < ws.length) : (shV c bal ws).getD i 0 = ofL (fAc 3 (ws.getD i 0) c) bal := by
  simp [shV, List.getD_eq_getElem?_getD, h]
structure LvF (s : LedV) (c amt : Int) (ws : List Int) : Prop where
  good : Good s
  cur : curOk c = true
  who : whosOk ws = true
  a0 : 0 ≤ amt
  a1 : amt ≤ 4611686018427387904
  w0 : ∀ x ∈ shV c s.bal ws, 0 ≤ x ∧ x ≤ 4611686018427387904
  le : amt ≤ (shV c s.bal ws).sum
  sum : (shV c s.bal ws).sum ≤ 4611686018427387904
  sre : sRE amt (shV c s.bal ws) = 0
  spe : splitE amt (shV c s.bal ws) = 0
  len : (splitV amt (shV c s.bal ws)).length = ws.length
  p0 : ∀ i, 0 ≤ (splitV amt (shV c s.bal ws)).getD i 0
  pw : ∀ i, (splitV amt (shV c s.bal ws)).getD i 0 ≤ (shV c s.bal ws).getD i 0 ∨ ws.length ≤ i
  ps : (splitV amt (shV c s.bal ws)).sum = amt
theorem sumE_zero {l : List Int} (h : sumE l = 0) : l.all rightN = true ∧ rightN l.sum = true ∧ sumV l = l.sum := by
  simp only [sumE] at h
  cases h1 : l.all rightN with
  | false => rw [h1] at h; simp at h
  | true =>
    cases h2 : rightN l.sum with
    | false => rw [h1, h2] at h; simp at h
    | true => exact ⟨rfl, rfl, (sumE_ok h1 h2).2⟩
theorem rt_le {n : Int} (h : rightN n = true) : -4611686018427387904 ≤ n ∧ n ≤ 4611686018427387904 := by
  simp [rightN] at h; omega
theorem sh_weights {s : LedV} {c : Int} {ws : List Int} (hg : Good s) (hc : curOk c = true) (hw : whosOk ws = true) : ∀ x ∈ shV c s.bal ws, 0 ≤ x ∧ x ≤ 4611686018427387904 := fun x hx => by
  obtain ⟨w, hm, rfl⟩ := List.mem_map.1 hx
  obtain ⟨i, hi, hwi⟩ := List.mem_iff_getElem.1 hm
  have hb := whos_get hw hi
  rw [List.getD_eq_getElem?_getD, List.getElem?_eq_getElem hi] at hb
  simp only [Option.getD_some, hwi] at hb
  have ha := fAc_ok (k := 3) (.inr rfl) ⟨hb.1, hb.2.1⟩ hc
  rw [ofL_sum hg.asc]
  have h1 := good_fl hg (fAc 3 w c)
  have h2 := rt_le (good_rt hg (fAc 3 w c))
  have h3 : flo (fAc 3 w c) = 0 := by simp only [flo, ha, Bool.true_and]; rfl
  omega
theorem sumNN {l : List Int} (hl : ∀ x ∈ l, 0 ≤ x) : l.sum = (sN l : Int) := by
  induction l with
  | nil => rfl
  | cons x l ih =>
    have h0 := hl x (by simp)
    have := ih fun y hy => hl y (by simp [hy])
    simp only [sN, List.map_cons, List.sum_cons] at this ⊢
    rw [this]; omega
theorem lvF_of {s : LedV} {c amt : Int} {ws : List Int} (hl : ledE s = 0) (hb : shBad c ws = false) (hs : sumE (shV c s.bal ws) = 0) (ha : amtBad amt = false) (hm : decide (amt > (shV c s.bal ws).sum) = false) : LvF s c amt ws := by
  obtain ⟨r1, r2, r3⟩ := sumE_zero hs
  have hG := led_good hl
  simp only [shBad, Bool.or_eq_false_iff, Bool.not_eq_false'] at hb
  have hW := sh_weights hG hb.1 hb.2
  simp only [amtBad, List.all_cons, List.all_nil, Bool.and_true, Bool.or_eq_false_iff, decide_eq_false_iff_not, Bool.not_eq_false'] at ha
  have hab := rt_le ha.2
  have hle := of_decide_eq_false hm
  have hlen := shV_len c s.bal ws
  have hfew := whos_few hb.2
  have hre : sRE amt (shV c s.bal ws) = 0 := sRE_may ⟨⟨by omega, by omega⟩, hW, by omega⟩
  have hsn := sumNN fun x hx => (hW x hx).1
  have hp : splitE amt (shV c s.bal ws) = 0 := by
    rcases Nat.eq_zero_or_pos (sN (shV c s.bal ws)) with hS | hS
    · rw [splitE_zero hre hS, show (amt == 0) = true by simp; omega]; rfl
    · exact splitE_prt hre hS
  have hpl := split_len hre hp
  have hg0 : ∀ i, i < ws.length → 0 ≤ (shV c s.bal ws).getD i 0 := fun i hi => (hW _ (getD_mem (by omega))).1
  refine ⟨hG, hb.1, hb.2, by omega, by omega, hW, by omega, (rt_le r2).2, hre, hp, by omega, fun i => ?_, fun i => ?_, ?_⟩
  · rcases Nat.eq_zero_or_pos (sN (shV c s.bal ws)) with hS | hS
    · rw [splitV_zero hre hS (by omega), zeros_get]; exact Int.le_refl _
    · rw [splitV_prt hre hS]; exact prt_nn _ _ _
  · rcases Nat.lt_or_ge i ws.length with hi | hi
    · left
      rcases Nat.eq_zero_or_pos (sN (shV c s.bal ws)) with hS | hS
      · rw [splitV_zero hre hS (by omega), zeros_get]; exact hg0 i hi
      · rw [splitV_prt hre hS]; exact prt_cap hS (by omega) (hg0 i hi)
    · exact .inr hi
  · rcases Nat.eq_zero_or_pos (sN (shV c s.bal ws)) with hS | hS
    · rw [splitV_zero hre hS (by omega)]; simp [zerosI]; omega
    · rw [splitV_prt hre hS, prt_sum hS]; omega
theorem sh_open {s : LedV} {c : Int} {ws : List Int} (h1 : shE s c ws = 0) : ledE s = 0 ∧ shBad c ws = false ∧ sumE (shV c s.bal ws) = 0 ∧ shN s c ws = (shV c s.bal ws).sum := by
  have hl : ledE s = 0 := by
    simp only [shE] at h1
    cases e : ledE s != 0 with
    | true => rw [e] at h1; simpa using h1
    | false => simpa using e
  have hb : shBad c ws = false := by
    cases e : shBad c ws with
    | false => rfl
    | true => simp [shE, hl, e] at h1
  have hs : sumE (shV c s.bal ws) = 0 := by simpa [shE, hl, hb] using h1
  obtain ⟨r1, r2, r3⟩ := sumE_zero hs
  exact ⟨hl, hb, hs, by simp [shN, hl, hb, r3]⟩
theorem lv_open {s : LedV} {c amt : Int} {ws : List Int} (h : lvE s c amt ws = 0) : shE s c ws = 0 ∧ amtBad amt = false ∧ decide (amt > (shV c s.bal ws).sum) = false := by
  have h1 : shE s c ws = 0 := by
    simp only [lvE] at h
    cases e : shE s c ws != 0 with
    | true => rw [e] at h; simp only [cond_true] at h; exact h
    | false => simpa using e
  obtain ⟨hl, hb, hs, hn⟩ := sh_open h1
  have h2 : boE 3 c amt (shV c s.bal ws).sum ws (shV c s.bal ws) = 0 := by
    have e : (shE s c ws != 0) = false := by simp [h1]
    simpa only [lvE, e, cond_false, hn] using h
  have ha : amtBad amt = false := by
    cases e : amtBad amt with
    | false => rfl
    | true => simp [boE, e] at h2
  refine ⟨h1, ha, ?_⟩
  cases e : decide (amt > (shV c s.bal ws).sum) with
  | false => rfl
  | true => simp only [boE, ha, e, cond_true, cond_false] at h2; cases h2
theorem lv_facts {s : LedV} {c amt : Int} {ws : List Int} (h : lvE s c amt ws = 0) : LvF s c amt ws := by
  obtain ⟨h1, h2, h3⟩ := lv_open h
  obtain ⟨hl, hb, hs, hn⟩ := sh_open h1
  exact lvF_of hl hb hs h2 h3
/- Its legs. -/
def bG (c amt : Int) (ws ps : List Int) : List LegV := bTl 3 c ws ps ps.length ++ [lossL c amt]
theorem bLeg_in {c : Int} {ws ps : List Int} {y : LegV} : y ∈ bTl 3 c ws ps ps.length ↔ ∃ i, i < ps.length ∧ y = bLeg 3 c ws ps i := by
  simp only [bTl, List.mem_map, List.mem_range]
  constructor
  · rintro ⟨i, h1, h2⟩; exact ⟨i, h1, h2.symm⟩
  · rintro ⟨i, h1, h2⟩; exact ⟨i, h1, h2.symm⟩
theorem bG_asc {c amt : Int} {ws ps : List Int} (hw : whosOk ws = true) (hl : ps.length = ws.length) : Asc (bG c amt ws ps) := by
  rw [bG, Asc, List.pairwise_append]
  refine ⟨?_, by simp, fun x hx y hy => ?_⟩
  · rw [bTl, List.pairwise_map]
    refine (List.pairwise_lt_range (n := ps.length)).imp_of_mem fun {a b} ha hb h => ?_
    rw [List.mem_range] at ha hb
    exact acLt_iff.2 (.inr ⟨rfl, .inl (whos_lt hw h (by omega))⟩)
  · obtain ⟨i, hi, rfl⟩ := bLeg_in.1 hx
    rw [List.mem_singleton.1 hy]
    exact acLt_iff.2 (.inl (by show (3 : Int) < 6; decide))
theorem ng_eq {p : Int} (h : 0 ≤ p) (h1 : p ≤ 4611686018427387904) : ngW p = -p := by
  rw [ngW, wrapI (by omega) (by omega)]; omega
theorem bG_ok {s : LedV} {c amt : Int} {ws : List Int} (h : LvF s c amt ws) : (bG c amt ws (splitV amt (shV c s.bal ws))).all legOk = true := by
  rw [bG, List.all_append, Bool.and_eq_true]
  constructor
  · rw [List.all_eq_true]
    intro y hy
    obtain ⟨i, hi, rfl⟩ := bLeg_in.1 hy
    have hi2 : i < ws.length := by rw [← h.len]; exact hi
    have hb := whos_get h.who hi2
    have hw := h.w0 _ (getD_mem (p := shV c s.bal ws) (k := i) (by rw [shV_len]; exact hi2))
    have hp := (h.pw i).resolve_right (by omega)
    have hp0 := h.p0 i
    simp only [legOk, bLeg, Bool.and_eq_true]
    refine ⟨fAc_ok (.inr rfl) ⟨hb.1, hb.2.1⟩ h.cur, ?_⟩
    rw [ng_eq hp0 (by omega)]
    exact rt_of (by omega) (by omega)
  · have := h.a0
    have := h.a1
    simp only [List.all_cons, List.all_nil, Bool.and_true, legOk, lossL, loss_ok h.cur, Bool.true_and]
    exact rt_of (by omega) (by omega)
theorem sumA_front (a : AcV) (x : LegV) (T : List LegV) : sumA a (x :: T) = sumA a (T ++ [x]) := by
  rw [sumA_app]; simp only [sumA]; omega
theorem lv_join {s : LedV} {c amt : Int} {ws : List Int} (h : LvF s c amt ws) :
    joinR (boL 3 c amt ws (splitV amt (shV c s.bal ws))) = 0 ∧ joinV (boL 3 c amt ws (splitV amt (shV c s.bal ws))) = (bG c amt ws (splitV amt (shV c s.bal ws))).filter fun y => y.amt != 0 := by
  have ha := bG_asc (c := c) (amt := amt) h.who h.len
  have hk := bG_ok h
  have hj := join_asc ha hk
  have hk2 : (boL 3 c amt ws (splitV amt (shV c s.bal ws))).all legOk = true := by
    rw [bG, List.all_append, Bool.and_eq_true] at hk
    rw [boL, bAll, List.all_cons, hk.1]
    have := hk.2
    simp only [List.all_cons, List.all_nil, Bool.and_true] at this
    rw [this]; rfl
  have hs := same_join hk2 hk fun a => sumA_front a _ _
  exact ⟨by rw [hs.1]; exact hj.1, by rw [hs.2]; exact hj.2⟩
theorem lv_yes {s : LedV} {c amt : Int} {ws : List Int} (h1 : shE s c ws = 0) (h2 : amtBad amt = false) (h3 : decide (amt > (shV c s.bal ws).sum) = false) : lvE s c amt ws = 0 := by
  obtain ⟨hl, hb, hs, hn⟩ := sh_open h1
  have hF := lvF_of hl hb hs h2 h3
  have e : (shE s c ws != 0) = false := by simp [h1]
  have e2 : (splitE amt (shV c s.bal ws) != 0) = false := by simp [hF.spe]
  simp only [lvE, e, cond_false, hn, boE, h2, h3, e2]
  exact (lv_join hF).1
theorem lvV_eq {s : LedV} {c amt : Int} {ws : List Int} (h : lvE s c amt ws = 0) : lvV s c amt ws = (bG c amt ws (splitV amt (shV c s.bal ws))).filter fun y => y.amt != 0 := by
  have hF := lv_facts h
  have h1 : (shE s c ws != 0) = false := by
    cases e : shE s c ws != 0 with
    | false => rfl
    | true => simp only [lvE, e, cond_true] at h; simp [h] at e
  simp only [lvE, h1, cond_false] at h
  have h2 : amtBad amt = false := by
    cases e : amtBad amt with
    | false => rfl
    | true => simp [boE, e] at h
  have h3 : decide (amt > shN s c ws) = false := by
    cases e : decide (amt > shN s c ws) with
    | false => rfl
    | true => simp only [boE, h2, e, cond_true, cond_false] at h; cases h
  have h4 : (splitE amt (shV c s.bal ws) != 0) = false := by simp [hF.spe]
  simp only [lvV, h1, boV, h2, h3, h4, cond_false]
  exact (lv_join hF).2
theorem lvV_bad {s : LedV} {c amt : Int} {ws : List Int} (h : lvE s c amt ws ≠ 0) : lvV s c amt ws = [] := by
  cases h1 : shE s c ws != 0 with
  | true => simp only [lvV, h1, cond_true]
  | false =>
    simp only [lvE, h1, cond_false] at h
    simp only [lvV, h1, cond_false, boV]
    simp only [boE] at h
    cases h2 : amtBad amt with
    | true => rfl
    | false =>
      cases h3 : decide (amt > shN s c ws) with
      | true => rfl
      | false =>
        cases h4 : splitE amt (shV c s.bal ws) != 0 with
        | true => rfl
        | false =>
          simp only [h2, h3, h4, cond_false] at h ⊢
          simp only [joinV, show (joinR (boL 3 c amt ws (splitV amt (shV c s.bal ws))) == 0) = false by simpa using h, cond_false]
theorem lvV_len (s : LedV) (c amt : Int) (ws : List Int) : (lvV s c amt ws).length ≤ ws.length + 1 := by
  by_cases h : lvE s c amt ws = 0
  · rw [lvV_eq h]
    have h1 := List.length_filter_le (fun y : LegV => y.amt != 0) (bG c amt ws (splitV amt (shV c s.bal ws)))
    have h2 : (bG c amt ws (splitV amt (shV c s.bal ws))).length = ws.length + 1 := by
      rw [bG, List.length_append, bTl_len, (lv_facts h).len]; rfl
    omega
  · rw [lvV_bad h]; simp
def brF (w n : Int) (x : LegV) : Int := bif x.ac.kind == 3 && x.ac.who == w then IntKind.wrap .i64 (n - x.amt) else n
def brW (w : Int) (l : List LegV) : Int := l.foldl (brF w) 0
theorem lv_mem {s : LedV} {c amt : Int} {ws : List Int} (h : lvE s c amt ws = 0) {y : LegV} : y ∈ lvV s c amt ws ↔ y.amt ≠ 0 ∧ ((∃ i, i < ws.length ∧ y = bLeg 3 c ws (splitV amt (shV c s.bal ws)) i) ∨ y = lossL c amt) := by
  have hF := lv_facts h
  rw [lvV_eq h, List.mem_filter, bG, List.mem_append, bLeg_in, List.mem_singleton, hF.len]
  constructor
  · rintro ⟨h1, h2⟩; exact ⟨by simpa using h2, h1⟩
  · rintro ⟨h1, h2⟩; exact ⟨h2, by simpa using h1⟩
theorem lv_asc {s : LedV} {c amt : Int} {ws : List Int} (h : lvE s c amt ws = 0) : Asc (lvV s c amt ws) := by
  have hF := lv_facts h
  rw [lvV_eq h]
  exact List.Pairwise.sublist List.filter_sublist (bG_asc hF.who hF.len)
theorem who_inj {ws : List Int} (hw : whosOk ws = true) {i j : Nat} (hi : i < ws.length) (hj : j < ws.length) (h : ws.getD i 0 = ws.getD j 0) : i = j := by
  rcases Nat.lt_trichotomy i j with c | c | c
  · have := whos_lt hw c hj; omega
  · exact c
  · have := whos_lt hw c hi; omega
theorem lv_bnd {s : LedV} {c amt : Int} {ws : List Int} (hF : LvF s c amt ws) {i : Nat} (hi : i < ws.length) : 0 ≤ (splitV amt (shV c s.bal ws)).getD i 0 ∧ (splitV amt (shV c s.bal ws)).getD i 0 ≤ (shV c s.bal ws).getD i 0 ∧ (shV c s.bal ws).getD i 0 ≤ 4611686018427387904 := by
  have h1 := hF.w0 _ (getD_mem (p := shV c s.bal ws) (k := i) (by rw [shV_len]; exact hi))
  exact ⟨hF.p0 i, (hF.pw i).resolve_right (by omega), h1.2⟩
def brs (L : List LegV) (ws : List Int) : List Int := ws.map fun w => brW w L
theorem wk21e : lvE ⟨0, [⟨⟨1, 0, 0⟩, -40⟩, ⟨⟨3, 1, 0⟩, 30⟩, ⟨⟨3, 2, 0⟩, 10⟩]⟩ 0 10 [1, 2, 3] = 0 := by
  have hg : Good ⟨0, [⟨⟨1, 0, 0⟩, -40⟩, ⟨⟨3, 1, 0⟩, 30⟩, ⟨⟨3, 2, 0⟩, 10⟩]⟩ := (ledOk_iff _).1 (by decide)
  have h1 : shE ⟨0, [⟨⟨1, 0, 0⟩, -40⟩, ⟨⟨3, 1, 0⟩, 30⟩, ⟨⟨3, 2, 0⟩, 10⟩]⟩ 0 [1, 2, 3] = 0 := by
    have hl := (ledE_iff _).2 hg
    simp only [shE, hl]
    decide
  exact lv_yes h1 (by decide) (by decide)
theorem wk21 : lvV ⟨0, [⟨⟨1, 0, 0⟩, -40⟩, ⟨⟨3, 1, 0⟩, 30⟩, ⟨⟨3, 2, 0⟩, 10⟩]⟩ 0 10 [1, 2, 3] = [⟨⟨3, 1, 0⟩, -8⟩, ⟨⟨3, 2, 0⟩, -2⟩, ⟨⟨6, 0, 0⟩, 10⟩] := by
  rw [lvV_eq wk21e]
  rfl
theorem lv_sumA {s : LedV} {c amt : Int} {ws : List Int} (h : lvE s c amt ws = 0) {i : Nat} (hi : i < ws.length) : sumA (fAc 3 (ws.getD i 0) c) (lvV s c amt ws) = - (splitV amt (shV c s.bal ws)).getD i 0 := by
  have hF := lv_facts h
  have hb := lv_bnd hF hi
  have hn := ng_eq hb.1 (by omega)
  by_cases hz : (splitV amt (shV c s.bal ws)).getD i 0 = 0
  · rw [hz, asc_none fun y hy e => ?_]; · rfl
    rcases ((lv_mem h).1 hy).2 with ⟨j, hj, rfl⟩ | rfl
    · have : ws.getD j 0 = ws.getD i 0 := congrArg AcV.who e
      have hij := who_inj hF.who hj hi this
      subst hij
      exact ((lv_mem h).1 hy).1 (by show ngW _ = 0; rw [hn, hz]; rfl)
    · have : (6 : Int) = 3 := congrArg AcV.kind e
      omega
  · have hm : bLeg 3 c ws (splitV amt (shV c s.bal ws)) i ∈ lvV s c amt ws := (lv_mem h).2 ⟨by show ngW _ ≠ 0; rw [hn]; omega, .inl ⟨i, hi, rfl⟩⟩
    have := asc_sum (lv_asc h) _ hm
    rw [show (bLeg 3 c ws (splitV amt (shV c s.bal ws)) i).ac = fAc 3 (ws.getD i 0) c from rfl, show (bLeg 3 c ws (splitV amt (shV c s.bal ws)) i).amt = ngW ((splitV amt (shV c s.bal ws)).getD i 0) from rfl, hn] at this
    exact this
theorem lv_other {s : LedV} {c amt : Int} {ws : List Int} (h : lvE s c amt ws = 0) {a : AcV} (ha : a ≠ fAc 6 0 c) (hb : ∀ i, i < ws.length → a ≠ fAc 3 (ws.getD i 0) c) : sumA a (lvV s c amt ws) = 0 :=
  asc_none fun y hy e => by
    rcases ((lv_mem h).1 hy).2 with ⟨j, hj, rfl⟩ | rfl
    · exact hb j hj e.symm
    · exact ha e.symm
theorem lv_R {s : LedV} {c amt : Int} {ws : List Int} (h : lvE s c amt ws = 0) : joinR (boL 3 c amt ws (splitV amt (shV c s.bal ws))) = 0 ∧ lvV s c amt ws = joinV (boL 3 c amt ws (splitV amt (shV c s.bal ws))) := by
  have hj := lv_join (lv_facts h)
  exact ⟨hj.1, by rw [lvV_eq h, hj.2]⟩
theorem lv_ok {s : LedV} {c amt : Int} {ws : List Int} (h : lvE s c amt ws = 0) : (lvV s c amt ws).all legOk = true := by
  obtain ⟨h1, h2⟩ := lv_R h
  rw [h2]; exact join_ok h1
theorem sumC_T {k c c2 : Int} {ws ps : List Int} : ∀ n, (∀ i, i < n → ngW (ps.getD i 0) = - ps.getD i 0) → n ≤ ps.length → sumC c2 (bTl k c ws ps n) = bif c == c2 then - (ps.take n).sum else 0
  | 0, _, _ => by simp [bTl, sumC, curL, amts]
  | n + 1, h, hl => by
    have ih := sumC_T (k := k) (c := c) (c2 := c2) (ws := ws) (ps := ps) n (fun i hi => h i (by omega)) (by omega)
    have hx := h n (by omega)
    rw [bTl_succ, sumC_app, ih, sumC_cons]
    have e : (ps.take (n + 1)).sum = (ps.take n).sum + ps.getD n 0 := by
      rw [List.take_add_one, List.sum_append, List.getD_eq_getElem?_getD, List.getElem?_eq_getElem (by omega)]; simp
    rw [e]
    simp only [bLeg, fAc, hx, show sumC c2 [] = 0 from rfl]
    cases c == c2 with
    | true => simp only [cond_true]; omega
    | false => simp
theorem lv_cur {s : LedV} {c amt : Int} {ws : List Int} (h : lvE s c amt ws = 0) (c2 : Int) : sumC c2 (lvV s c amt ws) = 0 := by
  have hF := lv_facts h
  obtain ⟨h1, h2⟩ := lv_R h
  rw [h2, join_curs h1, boL, bAll, sumC_cons, sumC_T _ (fun i hi => ?_) (Nat.le_refl _), List.take_length, hF.ps]
  · simp only [lossL, fAc]
    cases c == c2 with
    | true => simp only [cond_true]; omega
    | false => rfl
  · have hb := lv_bnd hF (i := i) (by rw [← hF.len]; exact hi)
    exact ng_eq hb.1 (by omega)
theorem lv_chk {s : LedV} {c amt : Int} {ws : List Int} (h : lvE s c amt ws = 0) (ha : amt ≠ 0) : chkE (lvV s c amt ws) = 0 := by
  have hF := lv_facts h
  refine (chkE_iff _).2 ⟨fun e => ?_, ?_, lv_ok h, lv_cur h 0, lv_cur h 1, lv_cur h 2⟩
  · have : lossL c amt ∈ lvV s c amt ws := (lv_mem h).2 ⟨ha, .inr rfl⟩
    rw [e] at this; cases this
  · have h1 := lvV_len s c amt ws
    have h2 := whos_few hF.who
    omega
theorem lv_low {s : LedV} {c amt : Int} {ws : List Int} (h : lvE s c amt ws = 0) (hj : joinR (lvV s c amt ws ++ s.bal) = 0) : low (joinV (lvV s c amt ws ++ s.bal)) = false := by
  have hF := lv_facts h
  cases e : low (joinV (lvV s c amt ws ++ s.bal)) with
  | false => rfl
  | true =>
    exfalso
    simp only [low, List.any_eq_true, decide_eq_true_eq] at e
    obtain ⟨y, hy, hlt⟩ := e
    have hm := (jM hj y).1 hy
    have hok : rightN y.amt = true := by
      have := List.all_eq_true.1 (join_ok hj) y hy
      simp only [legOk, Bool.and_eq_true] at this; exact this.2
    have hr := rt_le hok
    rw [hm.1, sumA_app] at hlt hr
    have hg := good_fl hF.good y.ac
    by_cases h6 : y.ac = fAc 6 0 c
    · rw [h6] at hlt hr hg
      have : flo (fAc 6 0 c) = -4611686018427387904 := by
        simp only [flo, fAc]; cases acOk ⟨6, 0, c⟩ <;> rfl
      omega
    · by_cases h3 : ∃ i, i < ws.length ∧ y.ac = fAc 3 (ws.getD i 0) c
      · obtain ⟨i, hi, he⟩ := h3
        have hb := lv_bnd hF hi
        have hs := shV_get (c := c) (bal := s.bal) hi
        rw [ofL_sum hF.good.asc] at hs
        rw [he, lv_sumA h hi] at hlt
        have hw := whos_get hF.who hi
        have : flo (fAc 3 (ws.getD i 0) c) = 0 := by
          have ha := fAc_ok (k := 3) (w := ws.getD i 0) (.inr rfl) ⟨hw.1, hw.2.1⟩ hF.cur
          simp only [flo, ha, Bool.true_and]; rfl
        omega
      · rw [lv_other h h6 fun i hi he => h3 ⟨i, hi, he⟩] at hlt
        omega
theorem lv_post {s : LedV} {c amt : Int} {ws : List Int} (h : lvE s c amt ws = 0) (ha : amt ≠ 0) (id : Int) (hid : ¬ id ≤ s.last ∨ idBad id = true) : postE s id (lvV s c amt ws) = 0 ∨ postE s id (lvV s c amt ws) = 1 ∨ (postE s id (lvV s c amt ws) = 3 ∧ idBad id = true) := by
  have hF := lv_facts h
  have hl : ledOk s = true := (ledOk_iff s).2 hF.good
  have hall : (lvV s c amt ws ++ s.bal).all legOk = true := all_app (lv_ok h) hF.good.ok
  simp only [postE, hl, Bool.not_true, cond_false, lv_chk h ha]
  cases hb : idBad id with
  | true => exact .inr (.inr ⟨rfl, rfl⟩)
  | false =>
    have hlt : decide (id ≤ s.last) = false := decide_eq_false (hid.resolve_right (by rw [hb]; decide))
    simp only [cond_false, hlt]
    rcases jR hall with ⟨e, _⟩ | ⟨e, _⟩
    · left
      rw [e, lv_low h e]; rfl
    · right; left
      rw [e]; rfl
/- What is there behind it. -/
theorem lv_new {s : LedV} {c amt : Int} {ws : List Int} {id : Int} (h : lvE s c amt ws = 0) (hp : postE s id (lvV s c amt ws) = 0) : shE (postV s id (lvV s c amt ws)) c ws = 0 ∧ shN (postV s id (lvV s c amt ws)) c ws = shN s c ws - amt := by
  have hF := lv_facts h
  obtain ⟨h1, _, _⟩ := lv_open h
  obtain ⟨hl, hb, hs, hn⟩ := sh_open h1
  have hG := post_good hp
  have e : ∀ i, i < ws.length → (shV c (postV s id (lvV s c amt ws)).bal ws).getD i 0 = (shV c s.bal ws).getD i 0 - (splitV amt (shV c s.bal ws)).getD i 0 := fun i hi => by
    rw [shV_get hi, shV_get hi, once_of hp, lv_sumA h hi, ofL_sum hF.good.asc]; omega
  have hsum : ∀ A B C : List Int, A.length = B.length → B.length = C.length → (∀ i, i < A.length → A.getD i 0 = B.getD i 0 - C.getD i 0) → A.sum = B.sum - C.sum := by
    intro A
    induction A with
    | nil => intro B C h1 h2 _; cases B with
      | nil => cases C with
        | nil => rfl
        | cons _ _ => simp at h2
      | cons _ _ => simp at h1
    | cons a A ih =>
      intro B C h1 h2 h3
      cases B with
      | nil => simp at h1
      | cons b B =>
        cases C with
        | nil => simp at h2
        | cons d C =>
          have h0 := h3 0 (by simp)
          simp only [List.getD_cons_zero] at h0
          have := ih B C (by simpa using h1) (by simpa using h2) fun i hi => by
            have := h3 (i + 1) (by simp; omega)
            simpa only [List.getD_cons_succ] using this
          simp only [List.sum_cons, this, h0]; omega
  have hS := hsum (shV c (postV s id (lvV s c amt ws)).bal ws) (shV c s.bal ws) (splitV amt (shV c s.bal ws)) (by rw [shV_len, shV_len]) (by rw [shV_len, hF.len]) (fun i hi => e i (by rw [shV_len] at hi; exact hi))
  rw [hF.ps] at hS
  have hW := sh_weights hG hF.cur hF.who
  have h0 := hF.a0
  have hle := hF.le
  have hsu := hF.sum
  have r1 : (shV c (postV s id (lvV s c amt ws)).bal ws).all rightN = true := by
    rw [List.all_eq_true]; intro x hx; have := hW x hx; exact rt_of (by omega) (by omega)
  have r2 : rightN (shV c (postV s id (lvV s c amt ws)).bal ws).sum = true := by rw [hS]; exact rt_of (by omega) (by omega)
  have hl2 : ledE (postV s id (lvV s c amt ws)) = 0 := (ledE_iff _).2 hG
  obtain ⟨z1, z2⟩ := sumE_ok r1 r2
  refine ⟨by simp [shE, hl2, hb, z1], ?_⟩
  rw [hn]
  simp [shN, hl2, hb, z2]; omega
theorem one_share {s : LedV} {c : Int} {ws : List Int} (h : shE s c ws = 0) {w : Int} (hw : w ∈ ws) : shE s c [w] = 0 ∧ shN s c [w] = ofL (fAc 3 w c) s.bal := by
  obtain ⟨hl, hb, hs, hn⟩ := sh_open h
  have hb2 := hb
  simp only [shBad, Bool.or_eq_false_iff, Bool.not_eq_false'] at hb2
  obtain ⟨i, hi, hwi⟩ := List.mem_iff_getElem.1 hw
  have hg := whos_get hb2.2 hi
  rw [List.getD_eq_getElem?_getD, List.getElem?_eq_getElem hi] at hg
  simp only [Option.getD_some, hwi] at hg
  have hx := sh_weights (led_good hl) hb2.1 hb2.2 (ofL (fAc 3 w c) s.bal) (List.mem_map.2 ⟨w, hw, rfl⟩)
  have hr : rightN (ofL (fAc 3 w c) s.bal) = true := rt_of (by omega) (by omega)
  have hb3 : shBad c [w] = false := by
    have : whosOk [w] = true := by
      simp only [whosOk, whosTo, List.length_singleton, List.range_one, List.all_cons, List.all_nil, Bool.and_true, whoBad, List.getD_cons_zero]
      simp; omega
    simp only [shBad, hb2.1, this]; rfl
  have r1 : (shV c s.bal [w]).all rightN = true := by simp [shV, hr]
  have r2 : rightN (shV c s.bal [w]).sum = true := by simp [shV, hr]
  obtain ⟨z1, z2⟩ := sumE_ok r1 r2
  refine ⟨by simp [shE, hl, hb3, z1], ?_⟩
  simp only [shN, hl, hb3, z2]
  simp [shV]
theorem lv_iff {s : LedV} {c amt : Int} {ws : List Int} (h : shE s c ws = 0) : (lvE s c amt ws == 0) = (decide (amt ≥ 0) && decide (amt ≤ shN s c ws)) := by
  obtain ⟨hl, hb, hs, hn⟩ := sh_open h
  obtain ⟨r1, r2, r3⟩ := sumE_zero hs
  rw [hn]
  cases e : decide (amt ≥ 0) && decide (amt ≤ (shV c s.bal ws).sum) with
  | true =>
    simp only [Bool.and_eq_true, decide_eq_true_eq] at e
    have hr := rt_le r2
    have ha : amtBad amt = false := by
      have hra : rightN amt = true := rt_of (by omega) (by omega)
      simp only [amtBad, List.all_cons, List.all_nil, Bool.and_true, hra]
      simp; omega
    rw [lv_yes h ha (decide_eq_false (by omega))]; rfl
  | false =>
    cases e2 : lvE s c amt ws == 0 with
    | false => rfl
    | true =>
      have hF := lv_facts (by simpa using e2 : lvE s c amt ws = 0)
      have := hF.a0
      have := hF.le
      simp at e; omega
/- What the two laws ask. -/
theorem sh_none {s : LedV} {c : Int} {ws : List Int} (h : (shE s c ws != 0) = true) : shN s c ws = 0 := by
  simp only [shE, shN] at h ⊢
  cases h1 : ledE s != 0 with
  | true => rfl
  | false =>
    cases h2 : shBad c ws with
    | true => rfl
    | false =>
      simp only [h1, h2, cond_false] at h ⊢
      simp only [sumE, sumV] at h ⊢
      cases a : (shV c s.bal ws).all rightN with
      | false => rfl
      | true =>
        cases b : rightN (shV c s.bal ws).sum with
        | false => rfl
        | true => rw [a, b] at h; simp at h
theorem sum_nn {l : List Int} (h : ∀ x ∈ l, 0 ≤ x) : 0 ≤ l.sum := by rw [sumNN h]; omega
theorem sh_step {s : LedV} {c : Int} {ws pre post : List Int} {x : Int} (h : shE s c ws = 0) (hs : ws = pre ++ x :: post) : IntKind.wrap .i64 ((shV c s.bal pre).sum + shN s c [x]) = (shV c s.bal (pre ++ [x])).sum := by
  obtain ⟨hl, hb, hz, hn⟩ := sh_open h
  have hb2 := hb
  simp only [shBad, Bool.or_eq_false_iff, Bool.not_eq_false'] at hb2
  have hW := sh_weights (led_good hl) hb2.1 hb2.2
  have hx := (one_share h (w := x) (by rw [hs]; simp)).2
  obtain ⟨r1, r2, r3⟩ := sumE_zero hz
  have hr := rt_le r2
  have e1 : (shV c s.bal (pre ++ [x])).sum = (shV c s.bal pre).sum + ofL (fAc 3 x c) s.bal := by rw [shV_snoc, List.sum_append]; simp
  have e2 : (shV c s.bal ws).sum = (shV c s.bal (pre ++ [x])).sum + (shV c s.bal post).sum := by
    rw [hs, show pre ++ x :: post = (pre ++ [x]) ++ post by simp, shV, List.map_append, List.sum_append]; rfl
  have n1 := sum_nn (l := shV c s.bal (pre ++ [x])) fun y hy => (hW y (by rw [hs, show pre ++ x :: post = (pre ++ [x]) ++ post by simp, shV, List.map_append]; exact List.mem_append_left _ hy)).1
  have n2 := sum_nn (l := shV c s.bal post) fun y hy => (hW y (by rw [hs, show pre ++ x :: post = (pre ++ [x]) ++ post by simp, shV, List.map_append]; exact List.mem_append_right _ hy)).1
  rw [hx, ← e1, wrapI (by omega) (by omega)]
def bS : List LegV → Int
  | [] => 0
  | y :: l => (bif y.ac.kind == 6 then 0 else - y.amt) + bS l
theorem bS_app (A B : List LegV) : bS (A ++ B) = bS A + bS B := by
  induction A with
  | nil => simp [bS]
  | cons y A ih => simp only [List.cons_append, bS, ih]; omega
theorem bS_nz (A : List LegV) : bS (A.filter fun y => y.amt != 0) = bS A := by
  induction A with
  | nil => rfl
  | cons y A ih =>
    cases e : y.amt != 0 with
    | true => simp only [List.filter_cons, e, if_true, bS, ih]
    | false =>
      simp only [List.filter_cons, e, Bool.false_eq_true, if_false, ih]
      have : y.amt = 0 := by simpa using e
      simp only [bS, this]; cases y.ac.kind == 6 <;> simp
theorem bS_T {c : Int} {ws ps : List Int} : ∀ n, (∀ i, i < n → ngW (ps.getD i 0) = - ps.getD i 0) → n ≤ ps.length → bS (bTl 3 c ws ps n) = (ps.take n).sum
  | 0, _, _ => by simp [bTl, bS]
  | n + 1, h, hl => by
    have ih := bS_T (c := c) (ws := ws) (ps := ps) n (fun i hi => h i (by omega)) (by omega)
    have hx := h n (by omega)
    have e : (ps.take (n + 1)).sum = (ps.take n).sum + ps.getD n 0 := by
      rw [List.take_add_one, List.sum_append, List.getD_eq_getElem?_getD, List.getElem?_eq_getElem (by omega)]; simp
    rw [bTl_succ, bS_app, ih, e]
    simp only [bS, bLeg, fAc, hx, show ((3 : Int) == 6) = false from rfl, cond_false]; omega
theorem lv_bears {s : LedV} {c amt : Int} {ws : List Int} (h : lvE s c amt ws = 0) : bS (lvV s c amt ws) = amt := by
  have hF := lv_facts h
  rw [lvV_eq h, bS_nz, bG, bS_app, bS_T _ (fun i hi => ?_) (Nat.le_refl _), List.take_length, hF.ps]
  · simp [bS, lossL, fAc]
  · have hb := lv_bnd hF (i := i) (by rw [← hF.len]; exact hi)
    exact ng_eq hb.1 (by omega)
theorem lv_leg {s : LedV} {c amt : Int} {ws : List Int} (h : lvE s c amt ws = 0) {y : LegV} (hy : y ∈ lvV s c amt ws) :
    (y.ac.kind = 6 ∧ y.amt = amt ∧ y.ac.cur = c) ∨ (y.ac.kind = 3 ∧ y.ac.cur = c ∧ y.ac.who ∈ ws ∧ y.amt < 0 ∧ -4611686018427387904 ≤ y.amt ∧ - y.amt ≤ ofL y.ac s.bal) := by
  have hF := lv_facts h
  obtain ⟨h1, h2⟩ := (lv_mem h).1 hy
  rcases h2 with ⟨i, hi, rfl⟩ | rfl
  · right
    have hb := lv_bnd hF hi
    have hn := ng_eq hb.1 (by omega)
    have hg := shV_get (c := c) (bal := s.bal) hi
    have ea : (bLeg 3 c ws (splitV amt (shV c s.bal ws)) i).amt = - (splitV amt (shV c s.bal ws)).getD i 0 := hn
    rw [ea] at h1 ⊢
    refine ⟨rfl, rfl, getD_mem hi, by omega, by omega, ?_⟩
    show - - _ ≤ ofL (fAc 3 (ws.getD i 0) c) s.bal
    rw [← hg]; omega
  · exact .inl ⟨rfl, rfl, rfl⟩
theorem bS_nn {s : LedV} {c amt : Int} {ws : List Int} (h : lvE s c amt ws = 0) : ∀ {A : List LegV}, (∀ y ∈ A, y ∈ lvV s c amt ws) → 0 ≤ bS A
  | [], _ => Int.le_refl _
  | y :: A, hA => by
    have ih := bS_nn h (A := A) fun z hz => hA z (by simp [hz])
    simp only [bS]
    rcases lv_leg h (hA y (by simp)) with g | g
    · rw [show (y.ac.kind == 6) = true by simp [g.1]]; simp only [cond_true]; omega
    · rw [show (y.ac.kind == 6) = false by simp [g.1]]; simp only [cond_false]; omega
theorem bS_step {s : LedV} {c amt : Int} {ws : List Int} (h : lvE s c amt ws = 0) {q r : List LegV} {z : LegV} (hs : lvV s c amt ws = q ++ z :: r) :
    (z.ac.kind = 6 → bS (q ++ [z]) = bS q) ∧ (z.ac.kind = 3 → IntKind.wrap .i64 (bS q - z.amt) = bS (q ++ [z])) := by
  have e1 : bS (q ++ [z]) = bS q + (bif z.ac.kind == 6 then 0 else - z.amt) := by rw [bS_app]; simp [bS]
  have e2 : bS (q ++ [z]) + bS r = amt := by
    have := bS_app (q ++ [z]) r
    rw [← this, show (q ++ [z]) ++ r = q ++ z :: r by simp, ← hs]; exact lv_bears h
  have n1 := bS_nn h (A := q ++ [z]) fun y hy => by rw [hs, show q ++ z :: r = (q ++ [z]) ++ r by simp]; exact List.mem_append_left _ hy
  have n2 := bS_nn h (A := r) fun y hy => by rw [hs]; simp [hy]
  have hF := lv_facts h
  have ha := hF.a1
  constructor
  · intro hk; rw [e1, hk]; simp
  · intro hk
    rw [hk] at e1
    simp only [show ((3 : Int) == 6) = false from rfl, cond_false] at e1
    rw [wrapI (by omega) (by omega)]; omega
theorem lv_nil {s : LedV} {c : Int} {ws : List Int} (h : lvE s c 0 ws = 0) : lvV s c 0 ws = [] := by
  cases e : lvV s c 0 ws with
  | nil => rfl
  | cons y l =>
    exfalso
    have hb := lv_bears h
    have hy : y ∈ lvV s c 0 ws := by rw [e]; simp
    have n2 := bS_nn h (A := l) fun z hz => by rw [e]; simp [hz]
    have hz := ((lv_mem h).1 hy).1
    rw [e, bS] at hb
    rcases lv_leg h hy with g | g
    · exact hz g.2.1
    · rw [show (y.ac.kind == 6) = false by simp [g.1]] at hb
      simp only [cond_false] at hb; omega
end Go.Proofs.Ytjkfadaedgidpaa
