/- The fund: shares, who bears what. In plain Lean. No condition. -/
import Derived.Test.YtjkfadaedgidpaaSpecLD
import Derived.Test.YtjkfadaedgidpaaSpecJH
namespace Go.Proofs.Ytjkfadaedgidpaa
open Go.RowKit
set_option linter.unusedVariables false
set_option linter.unusedSimpArgs false
def curOk (c : Int) : Bool := decide (c ≥ 0) && decide (c < 3)
def whoBad (l : List Int) (i : Nat) : Bool := decide (l.getD i 0 < 1) || decide (l.getD i 0 > 16) || (decide ((i : Int) > 0) && decide (l.getD (i - 1) 0 ≥ l.getD i 0))
def whosTo (l : List Int) (n : Nat) : Bool := (List.range n).all fun i => !whoBad l i
def whosOk (l : List Int) : Bool := whosTo l l.length
theorem whosTo_succ (l : List Int) (n : Nat) : whosTo l (n + 1) = (whosTo l n && !whoBad l n) := by simp [whosTo, List.range_succ]
theorem whos_no {l : List Int} {i : Nat} (hi : i < l.length) (h : whoBad l i = true) : whosOk l = false := by
  cases e : whosOk l with
  | false => rfl
  | true =>
    simp only [whosOk, whosTo, List.all_eq_true, List.mem_range] at e
    have := e i hi
    rw [h] at this; cases this
def fAc (k w c : Int) : AcV := ⟨k, w, c⟩
def shV (c : Int) (bal : List LegV) (ws : List Int) : List Int := ws.map fun w => ofL (fAc 3 w c) bal
theorem shV_snoc (c : Int) (bal : List LegV) (ws : List Int) (w : Int) : shV c bal (ws ++ [w]) = shV c bal ws ++ [ofL (fAc 3 w c) bal] := by simp [shV]
theorem shV_len (c : Int) (bal : List LegV) (ws : List Int) : (shV c bal ws).length = ws.length := by simp [shV]
def shBad (c : Int) (ws : List Int) : Bool := !curOk c || !whosOk ws
def shE (s : LedV) (c : Int) (ws : List Int) : Int := bif ledE s != 0 then ledE s else bif shBad c ws then 3 else sumE (shV c s.bal ws)
def shN (s : LedV) (c : Int) (ws : List Int) : Int := bif ledE s != 0 then 0 else bif shBad c ws then 0 else sumV (shV c s.bal ws)
/- Who bears what. -/
def ngW (p : Int) : Int := IntKind.wrap .i64 (0 - p)
def bLeg (k c : Int) (ws ps : List Int) (i : Nat) : LegV := ⟨fAc k (ws.getD i 0) c, ngW (ps.getD i 0)⟩
def bTl (k c : Int) (ws ps : List Int) (n : Nat) : List LegV := (List.range n).map (bLeg k c ws ps)
theorem bTl_succ (k c : Int) (ws ps : List Int) (n : Nat) : bTl k c ws ps (n + 1) = bTl k c ws ps n ++ [bLeg k c ws ps n] := by simp [bTl, List.range_succ]
theorem bTl_len (k c : Int) (ws ps : List Int) (n : Nat) : (bTl k c ws ps n).length = n := by simp [bTl]
def lossL (c amt : Int) : LegV := ⟨fAc 6 0 c, amt⟩
def bAll (k c amt : Int) (ws ps : List Int) (n : Nat) : List LegV := lossL c amt :: bTl k c ws ps n
theorem bAll_succ (k c amt : Int) (ws ps : List Int) (n : Nat) : bAll k c amt ws ps (n + 1) = bAll k c amt ws ps n ++ [bLeg k c ws ps n] := by rw [bAll, bTl_succ]; rfl
theorem bAll_len (k c amt : Int) (ws ps : List Int) (n : Nat) : (bAll k c amt ws ps n).length = n + 1 := by simp [bAll, bTl_len]
def amtBad (amt : Int) : Bool := decide (amt < 0) || !([amt].all rightN)
def boL (k c amt : Int) (ws ps : List Int) : List LegV := bAll k c amt ws ps ps.length
def boE (k c amt most : Int) (ws wg : List Int) : Int := bif amtBad amt then 3 else bif decide (amt > most) then 13 else bif splitE amt wg != 0 then splitE amt wg else joinR (boL k c amt ws (splitV amt wg))
def boV (k c amt most : Int) (ws wg : List Int) : List LegV := bif amtBad amt then [] else bif decide (amt > most) then [] else bif splitE amt wg != 0 then [] else joinV (boL k c amt ws (splitV amt wg))
def lvE (s : LedV) (c amt : Int) (ws : List Int) : Int := bif shE s c ws != 0 then shE s c ws else boE 3 c amt (shN s c ws) ws (shV c s.bal ws)
def lvV (s : LedV) (c amt : Int) (ws : List Int) : List LegV := bif shE s c ws != 0 then [] else boV 3 c amt (shN s c ws) ws (shV c s.bal ws)
theorem splitV_any (t : Int) (l : List Int) : (splitV t l).length ≤ l.length := by
  by_cases h : sRE t l = 0
  · rcases Nat.eq_zero_or_pos (sN l) with hS | hS
    · by_cases ht : t = 0
      · rw [splitV_zero h hS ht]; simp [zerosI]
      · rw [splitV_none h hS ht]; simp
    · rw [splitV_prt h hS, prt_len]; exact Nat.le_refl _
  · rw [show splitV t l = [] by simp only [splitV, show (sRE t l == 0) = false by simpa using h, cond_false]]; simp
/- What is known of whos. -/
theorem whos_get {l : List Int} (h : whosOk l = true) {i : Nat} (hi : i < l.length) : 1 ≤ l.getD i 0 ∧ l.getD i 0 ≤ 16 ∧ (0 < i → l.getD (i - 1) 0 < l.getD i 0) := by
  simp only [whosOk, whosTo, List.all_eq_true, List.mem_range] at h
  have := h i hi
  simp only [whoBad, Bool.not_eq_true', Bool.or_eq_false_iff, Bool.and_eq_false_iff, decide_eq_false_iff_not] at this
  omega
theorem whos_lt {l : List Int} (h : whosOk l = true) : ∀ {k i : Nat}, i < k → k < l.length → l.getD i 0 < l.getD k 0
  | 0, i, hi, hk => by omega
  | k + 1, i, hi, hk => by
    have h1 := (whos_get h hk).2.2 (by omega)
    simp only [Nat.add_sub_cancel] at h1
    rcases Nat.lt_succ_iff_lt_or_eq.1 hi with c | c
    · have := whos_lt h c (by omega); omega
    · subst c; exact h1
theorem whos_few {l : List Int} (h : whosOk l = true) : l.length ≤ 16 := by
  have aux : ∀ k, k < l.length → (k : Int) + 1 ≤ l.getD k 0 := by
    intro k
    induction k with
    | zero => intro hk; have := whos_get h hk; omega
    | succ k ih =>
      intro hk
      have h1 := ih (by omega)
      have h2 := whos_lt h (i := k) (k := k + 1) (by omega) hk
      omega
  rcases Nat.eq_zero_or_pos l.length with c | c
  · omega
  · have h1 := aux (l.length - 1) (by omega)
    have h2 := whos_get h (i := l.length - 1) (by omega)
    omega
theorem fAc_ok {k w c : Int} (hk : k = 2 ∨ k = 3) (hw : 1 ≤ w ∧ w ≤ 16) (hc : curOk c = true) : acOk (fAc k w c) = true := by
  simp only [curOk, Bool.and_eq_true, decide_eq_true_eq] at hc
  have a1 : ¬ c < 0 := by omega
  have a2 : ¬ 3 ≤ c := by omega
  rcases hk with rfl | rfl <;> simp [acOk, acBad, acOwn, fAc, Bool.cond_eq_ite, a1, a2, hw.1, hw.2]
theorem loss_ok {c : Int} (hc : curOk c = true) : acOk (fAc 6 0 c) = true := by
  simp only [curOk, Bool.and_eq_true, decide_eq_true_eq] at hc
  have a1 : ¬ c < 0 := by omega
  have a2 : ¬ 3 ≤ c := by omega
  simp [acOk, acBad, acOwn, fAc, Bool.cond_eq_ite, a1, a2]
/- A row of legs in order, each at its own account: joined it is what is not 0. -/
theorem asc_none {a : AcV} : ∀ {G : List LegV}, (∀ y ∈ G, y.ac ≠ a) → sumA a G = 0
  | [], _ => rfl
  | x :: G, h => by
    have hx : acSame x.ac a = false := by
      cases e : acSame x.ac a with
      | false => rfl
      | true => exact absurd (acSame_iff.1 e) (h x (by simp))
    simp only [sumA, hx, cond_false]
    rw [asc_none fun y hy => h y (by simp [hy])]; rfl
theorem join_asc {G : List LegV} (ha : Asc G) (hl : G.all legOk = true) : joinR G = 0 ∧ joinV G = G.filter fun y => y.amt != 0 := by
  have hR : joinR G = 0 := by
    rcases jR hl with h | ⟨_, y, hy, hb⟩
    · exact h.1
    · exfalso
      rw [asc_sum ha y hy, ok_rt hl y hy] at hb; cases hb
  refine ⟨hR, asc_eq (jA G hR) (List.Pairwise.sublist List.filter_sublist ha) fun y => ?_⟩
  rw [jM hR y, List.mem_filter]
  constructor
  · rintro ⟨h1, h2⟩
    obtain ⟨z, hz, he⟩ := sumA_mem (S := G) (a := y.ac) (by rw [← h1]; exact h2)
    have hz2 := asc_sum ha z hz
    rw [he] at hz2
    have : y = z := by
      obtain ⟨ya, yb⟩ := y; obtain ⟨za, zb⟩ := z
      simp only at he h1 hz2
      rw [he, h1, hz2]
    rw [this] at h2 ⊢
    exact ⟨hz, by simpa using h2⟩
  · rintro ⟨h1, h2⟩
    exact ⟨(asc_sum ha y h1).symm, by simpa using h2⟩
/- What a levy that may be is like. -/
theorem led_good {s : LedV} (h : ledE s = 0) : Good s := (ledE_iff s).1 h
theorem rt_of {n : Int} (h : -4611686018427387904 ≤ n) (h2 : n ≤ 4611686018427387904) : rightN n = true := by simp [rightN]; omega
theorem shV_get {c : Int} {bal : List LegV} {ws : List Int} {i : Nat} (h : i < ws.length) : (shV c bal ws).getD i 0 = ofL (fAc 3 (ws.getD i 0) c) bal := by
  simp [shV, List.getD_eq_getElem?_getD, h]
structure LvF (s : LedV) (c amt : Int) (ws : List Int) : Prop where
  good : Good s
  cur : curOk c = true
  who : whosOk ws = true
  a0 : 0 ≤ amt
  a1 : amt ≤ 4611686018427387904
  w0 : ∀ x ∈ shV c s.bal ws, 0 ≤ x ∧ x ≤ 4611686018427387904
  le : amt ≤ (shV c s.bal ws).sum
  sum : (shV c s.bal ws).sum ≤ 4611686018427387904
  sre : sRE amt (shV c s.bal ws) = 0
  spe : splitE amt (shV c s.bal ws) = 0
  len : (splitV amt (shV c s.bal ws)).length = ws.length
  p0 : ∀ i, 0 ≤ (splitV amt (shV c s.bal ws)).getD i 0
  pw : ∀ i, (splitV amt (shV c s.bal ws)).getD i 0 ≤ (shV c s.bal ws).getD i 0 ∨ ws.length ≤ i
  ps : (splitV amt (shV c s.bal ws)).sum = amt
theorem sumE_zero {l : List Int} (h : sumE l = 0) : l.all rightN = true ∧ rightN l.sum = true ∧ sumV l = l.sum := by
  simp only [sumE] at h
  cases h1 : l.all rightN with
  | false => rw [h1] at h; simp at h
  | true =>
    cases h2 : rightN l.sum with
    | false => rw [h1, h2] at h; simp at h
    | true => exact ⟨rfl, rfl, (sumE_ok h1 h2).2⟩
theorem rt_le {n : Int} (h : rightN n = true) : -4611686018427387904 ≤ n ∧ n ≤ 4611686018427387904 := by
  simp [rightN] at h; omega
theorem sh_weights {s : LedV} {c : Int} {ws : List Int} (hg : Good s) (hc : curOk c = true) (hw : whosOk ws = true) : ∀ x ∈ shV c s.bal ws, 0 ≤ x ∧ x ≤ 4611686018427387904 := fun x hx => by
  obtain ⟨w, hm, rfl⟩ := List.mem_map.1 hx
  obtain ⟨i, hi, hwi⟩ := List.mem_iff_getElem.1 hm
  have hb := whos_get hw hi
  rw [List.getD_eq_getElem?_getD, List.getElem?_eq_getElem hi] at hb
  simp only [Option.getD_some, hwi] at hb
  have ha := fAc_ok (k := 3) (.inr rfl) ⟨hb.1, hb.2.1⟩ hc
  rw [ofL_sum hg.asc]
  have h1 := good_fl hg (fAc 3 w c)
  have h2 := rt_le (good_rt hg (fAc 3 w c))
  have h3 : flo (fAc 3 w c) = 0 := by simp only [flo, ha, Bool.true_and]; rfl
  omega
theorem sumNN {l : List Int} (hl : ∀ x ∈ l, 0 ≤ x) : l.sum = (sN l : Int) := by
  induction l with
  | nil => rfl
  | cons x l ih =>
    have h0 := hl x (by simp)
    have := ih fun y hy => hl y (by simp [hy])
    simp only [sN, List.map_cons, List.sum_cons] at this ⊢
    rw [this]; omega
theorem lvF_of {s : LedV} {c amt : Int} {ws : List Int} (hl : ledE s = 0) (hb : shBad c ws = false) (hs : sumE (shV c s.bal ws) = 0) (ha : amtBad amt = false) (hm : decide (amt > (shV c s.bal ws).sum) = false) : LvF s c amt ws := by
  obtain ⟨r1, r2, r3⟩ := sumE_zero hs
  have hG := led_good hl
  simp only [shBad, Bool.or_eq_false_iff, Bool.not_eq_false'] at hb
  have hW := sh_weights hG hb.1 hb.2
  simp only [amtBad, List.all_cons, List.all_nil, Bool.and_true, Bool.or_eq_false_iff, decide_eq_false_iff_not, Bool.not_eq_false'] at ha
  have hab := rt_le ha.2
  have hle := of_decide_eq_false hm
  have hlen := shV_len c s.bal ws
  have hfew := whos_few hb.2
  have hre : sRE amt (shV c s.bal ws) = 0 := sRE_may ⟨⟨by omega, by omega⟩, hW, by omega⟩
  have hsn := sumNN fun x hx => (hW x hx).1
  have hp : splitE amt (shV c s.bal ws) = 0 := by
    rcases Nat.eq_zero_or_pos (sN (shV c s.bal ws)) with hS | hS
    · rw [splitE_zero hre hS, show (amt == 0) = true by simp; omega]; rfl
    · exact splitE_prt hre hS
  have hpl := split_len hre hp
  have hg0 : ∀ i, i < ws.length → 0 ≤ (shV c s.bal ws).getD i 0 := fun i hi => (hW _ (getD_mem (by omega))).1
  refine ⟨hG, hb.1, hb.2, by omega, by omega, hW, by omega, (rt_le r2).2, hre, hp, by omega, fun i => ?_, fun i => ?_, ?_⟩
  · rcases Nat.eq_zero_or_pos (sN (shV c s.bal ws)) with hS | hS
    · rw [splitV_zero hre hS (by omega), zeros_get]; exact Int.le_refl _
    · rw [splitV_prt hre hS]; exact prt_nn _ _ _
  · rcases Nat.lt_or_ge i ws.length with hi | hi
    · left
      rcases Nat.eq_zero_or_pos (sN (shV c s.bal ws)) with hS | hS
      · rw [splitV_zero hre hS (by omega), zeros_get]; exact hg0 i hi
      · rw [splitV_prt hre hS]; exact prt_cap hS (by omega) (hg0 i hi)
    · exact .inr hi
  · rcases Nat.eq_zero_or_pos (sN (shV c s.bal ws)) with hS | hS
    · rw [splitV_zero hre hS (by omega)]; simp [zerosI]; omega
    · rw [splitV_prt hre hS, prt_sum hS]; omega
theorem sh_open {s : LedV} {c : Int} {ws : List Int} (h1 : shE s c ws = 0) : ledE s = 0 ∧ shBad c ws = false ∧ sumE (shV c s.bal ws) = 0 ∧ shN s c ws = (shV c s.bal ws).sum := by
  have hl : ledE s = 0 := by
    simp only [shE] at h1
    cases e : ledE s != 0 with
    | true => rw [e] at h1; simpa using h1
    | false => simpa using e
  have hb : shBad c ws = false := by
    cases e : shBad c ws with
    | false => rfl
    | true => simp [shE, hl, e] at h1
  have hs : sumE (shV c s.bal ws) = 0 := by simpa [shE, hl, hb] using h1
  obtain ⟨r1, r2, r3⟩ := sumE_zero hs
  exact ⟨hl, hb, hs, by simp [shN, hl, hb, r3]⟩
theorem lv_open {s : LedV} {c amt : Int} {ws : List Int} (h : lvE s c amt ws = 0) : shE s c ws = 0 ∧ amtBad amt = false ∧ decide (amt > (shV c s.bal ws).sum) = false := by
  have h1 : shE s c ws = 0 := by
    simp only [lvE] at h
    cases e : shE s c ws != 0 with
    | true => rw [e] at h; simp only [cond_true] at h; exact h
    | false => simpa using e
  obtain ⟨hl, hb, hs, hn⟩ := sh_open h1
  have h2 : boE 3 c amt (shV c s.bal ws).sum ws (shV c s.bal ws) = 0 := by
    have e : (shE s c ws != 0) = false := by simp [h1]
    simpa only [lvE, e, cond_false, hn] using h
  have ha : amtBad amt = false := by
    cases e : amtBad amt with
    | false => rfl
    | true => simp [boE, e] at h2
  refine ⟨h1, ha, ?_⟩
  cases e : decide (amt > (shV c s.bal ws).sum) with
  | false => rfl
  | true => simp only [boE, ha, e, cond_true, cond_false] at h2; cases h2
theorem lv_facts {s : LedV} {c amt : Int} {ws : List Int} (h : lvE s c amt ws = 0) : LvF s c amt ws := by
  obtain ⟨h1, h2, h3⟩ := lv_open h
  obtain ⟨hl, hb, hs, hn⟩ := sh_open h1
  exact lvF_of hl hb hs h2 h3
/- Its legs. -/
def bG (c amt : Int) (ws ps : List Int) : List LegV := bTl 3 c ws ps ps.length ++ [lossL c amt]
theorem bLeg_in {c : Int} {ws ps : List Int} {y : LegV} : y ∈ bTl 3 c ws ps ps.length ↔ ∃ i, i < ps.length ∧ y = bLeg 3 c ws ps i := by
  simp only [bTl, List.mem_map, List.mem_range]
  constructor
  · rintro ⟨i, h1, h2⟩; exact ⟨i, h1, h2.symm⟩
  · rintro ⟨i, h1, h2⟩; exact ⟨i, h1, h2.symm⟩
theorem bG_asc {c amt : Int} {ws ps : List Int} (hw : whosOk ws = true) (hl : ps.length = ws.length) : Asc (bG c amt ws ps) := by
  rw [bG, Asc, List.pairwise_append]
  refine ⟨?_, by simp, fun x hx y hy => ?_⟩
  · rw [bTl, List.pairwise_map]
    refine (List.pairwise_lt_range (n := ps.length)).imp_of_mem fun {a b} ha hb h => ?_
    rw [List.mem_range] at ha hb
    exact acLt_iff.2 (.inr ⟨rfl, .inl (whos_lt hw h (by omega))⟩)
  · obtain ⟨i, hi, rfl⟩ := bLeg_in.1 hx
    rw [List.mem_singleton.1 hy]
    exact acLt_iff.2 (.inl (by show (3 : Int) < 6; decide))
theorem ng_eq {p : Int} (h : 0 ≤ p) (h1 : p ≤ 4611686018427387904) : ngW p = -p := by
  rw [ngW, wrapI (by omega) (by omega)]; omega
theorem bG_ok {s : LedV} {c amt : Int} {ws : List Int} (h : LvF s c amt ws) : (bG c amt ws (splitV amt (shV c s.bal ws))).all legOk = true := by
  rw [bG, List.all_append, Bool.and_eq_true]
  constructor
  · rw [List.all_eq_true]
    intro y hy
    obtain ⟨i, hi, rfl⟩ := bLeg_in.1 hy
    have hi2 : i < ws.length := by rw [← h.len]; exact hi
    have hb := whos_get h.who hi2
    have hw := h.w0 _ (getD_mem (p := shV c s.bal ws) (k := i) (by rw [shV_len]; exact hi2))
    have hp := (h.pw i).resolve_right (by omega)
    have hp0 := h.p0 i
    simp only [legOk, bLeg, Bool.and_eq_true]
    refine ⟨fAc_ok (.inr rfl) ⟨hb.1, hb.2.1⟩ h.cur, ?_⟩
    rw [ng_eq hp0 (by omega)]
    exact rt_of (by omega) (by omega)
  · have := h.a0
    have := h.a1
    simp only [List.all_cons, List.all_nil, Bool.and_true, legOk, lossL, loss_ok h.cur, Bool.true_and]
    exact rt_of (by omega) (by omega)
theorem sumA_front (a : AcV) (x : LegV) (T : List LegV) : sumA a (x :: T) = sumA a (T ++ [x]) := by
  rw [sumA_app]; simp only [sumA]; omega
theorem lv_join {s : LedV} {c amt : Int} {ws : List Int} (h : LvF s c amt ws) :
    joinR (boL 3 c amt ws (splitV amt (shV c s.bal ws))) = 0 ∧ joinV (boL 3 c amt ws (splitV amt (shV c s.bal ws))) = (bG c amt ws (splitV amt (shV c s.bal ws))).filter fun y => y.amt != 0 := by
  have ha := bG_asc (c := c) (amt := amt) h.who h.len
  have hk := bG_ok h
  have hj := join_asc ha hk
  have hk2 : (boL 3 c amt ws (splitV amt (shV c s.bal ws))).all legOk = true := by
    rw [bG, List.all_append, Bool.and_eq_true] at hk
    rw [boL, bAll, List.all_cons, hk.1]
    have := hk.2
    simp only [List.all_cons, List.all_nil, Bool.and_true] at this
    rw [this]; rfl
  have hs := same_join hk2 hk fun a => sumA_front a _ _
  exact ⟨by rw [hs.1]; exact hj.1, by rw [hs.2]; exact hj.2⟩
theorem lv_yes {s : LedV} {c amt : Int} {ws : List Int} (h1 : shE s c ws = 0) (h2 : amtBad amt = false) (h3 : decide (amt > (shV c s.bal ws).sum) = false) : lvE s c amt ws = 0 := by
  obtain ⟨hl, hb, hs, hn⟩ := sh_open h1
  have hF := lvF_of hl hb hs h2 h3
  have e : (shE s c ws != 0) = false := by simp [h1]
  have e2 : (splitE amt (shV c s.bal ws) != 0) = false := by simp [hF.spe]
  simp only [lvE, e, cond_false, hn, boE, h2, h3, e2]
  exact (lv_join hF).1
end Go.Proofs.Ytjkfadaedgidpaa
