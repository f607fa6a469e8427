/- The fund: shares, who bears what. In plain Lean. No condition. -/
import Derived.Test.YtjkfadaedgidpaaSpecLX
import Derived.Test.YtjkfadaedgidpaaSpecJH
import Derived.Test.YtjkfadaedgidpaaSpecR
namespace Go.Proofs.Ytjkfadaedgidpaa
open Go.RowKit
set_option linter.unusedVariables false
set_option linter.unusedSimpArgs false
def curOk (c : Int) : Bool := decide (c ≥ 0) && decide (c < 3)
def whoBad (l : List Int) (i : Nat) : Bool := decide (l.getD i 0 < 1) || decide (l.getD i 0 > 16) || (decide ((i : Int) > 0) && decide (l.getD (i - 1) 0 ≥ l.getD i 0))
def whosTo (l : List Int) (n : Nat) : Bool := (List.range n).all fun i => !whoBad l i
def whosOk (l : List Int) : Bool := whosTo l l.length
theorem whosTo_succ (l : List Int) (n : Nat) : whosTo l (n + 1) = (whosTo l n && !whoBad l n) := by simp [whosTo, List.range_succ]
theorem whos_no {l : List Int} {i : Nat} (hi : i < l.length) (h : whoBad l i = true) : whosOk l = false := by
 cases e : whosOk l with
 | false => rfl
 | true =>
  simp only [whosOk, whosTo, List.all_eq_true, List.mem_range] at e
  have := e i hi
  rw [h] at this; cases this
def fAc (k w c : Int) : AcV := ⟨k, w, c⟩
def shV (c : Int) (bal : List LegV) (ws : List Int) : List Int := ws.map fun w => ofL (fAc 3 w c) bal
theorem shV_snoc (c : Int) (bal : List LegV) (ws : List Int) (w : Int) : shV c bal (ws ++ [w]) = shV c bal ws ++ [ofL (fAc 3 w c) bal] := by simp [shV]
theorem shV_len (c : Int) (bal : List LegV) (ws : List Int) : (shV c bal ws).length = ws.length := by simp [shV]
def shBad (c : Int) (ws : List Int) : Bool := !curOk c || !whosOk ws
def shE (s : LedV) (c : Int) (ws : List Int) : Int := bif ledE s != 0 then ledE s else bif shBad c ws then 3 else sumE (shV c s.bal ws)
def shN (s : LedV) (c : Int) (ws : List Int) : Int := bif ledE s != 0 then 0 else bif shBad c ws then 0 else sumV (shV c s.bal ws)
def ngW (p : Int) : Int := IntKind.wrap .i64 (0 - p)
def bLeg (k c : Int) (ws ps : List Int) (i : Nat) : LegV := ⟨fAc k (ws.getD i 0) c, ngW (ps.getD i 0)⟩
def bTl (k c : Int) (ws ps : List Int) (n : Nat) : List LegV := (List.range n).map (bLeg k c ws ps)
theorem bTl_succ (k c : Int) (ws ps : List Int) (n : Nat) : bTl k c ws ps (n + 1) = bTl k c ws ps n ++ [bLeg k c ws ps n] := by simp [bTl, List.range_succ]
theorem bTl_len (k c : Int) (ws ps : List Int) (n : Nat) : (bTl k c ws ps n).length = n := by simp [bTl]
def lossL (c amt : Int) : LegV := ⟨fAc 6 0 c, amt⟩
def bAll (k c amt : Int) (ws ps : List Int) (n : Nat) : List LegV := lossL c amt :: bTl k c ws ps n
theorem bAll_succ (k c amt : Int) (ws ps : List Int) (n : Nat) : bAll k c amt ws ps (n + 1) = bAll k c amt ws ps n ++ [bLeg k c ws ps n] := by rw [bAll, bTl_succ]; rfl
theorem bAll_len (k c amt : Int) (ws ps : List Int) (n : Nat) : (bAll k c amt ws ps n).length = n + 1 := by simp [bAll, bTl_len]
def amtBad (amt : Int) : Bool := decide (amt < 0) || !([amt].all rightN)
def boL (k c amt : Int) (ws ps : List Int) : List LegV := bAll k c amt ws ps ps.length
def boE (k c amt most : Int) (ws wg : List Int) : Int := bif amtBad amt then 3 else bif decide (amt > most) then 13 else bif splitE amt wg != 0 then splitE amt wg else joinR (boL k c amt ws (splitV amt wg))
def boV (k c amt most : Int) (ws wg : List Int) : List LegV := bif amtBad amt then [] else bif decide (amt > most) then [] else bif splitE amt wg != 0 then [] else joinV (boL k c amt ws (splitV amt wg))
def lvE (s : LedV) (c amt : Int) (ws : List Int) : Int := bif shE s c ws != 0 then shE s c ws else boE 3 c amt (shN s c ws) ws (shV c s.bal ws)
def lvV (s : LedV) (c amt : Int) (ws : List Int) : List LegV := bif shE s c ws != 0 then [] else boV 3 c amt (shN s c ws) ws (shV c s.bal ws)
theorem splitV_any (t : Int) (l : List Int) : (splitV t l).length ≤ l.length := by
 by_cases h : sRE t l = 0
 ·rcases Nat.eq_zero_or_pos (sN l) with hS | hS
  ·by_cases ht : t = 0
   ·rw [splitV_zero h hS ht]; simp [zerosI]
   ·rw [splitV_none h hS ht]; simp
  ·rw [splitV_prt h hS, prt_len]; exact Nat.le_refl _
 ·rw [show splitV t l = [] by simp only [splitV, show (sRE t l == 0) = false by simpa using h, cond_false]]; simp
theorem whos_get {l : List Int} (h : whosOk l = true) {i : Nat} (hi : i < l.length) : 1 ≤ l.getD i 0 ∧ l.getD i 0 ≤ 16 ∧ (0 < i → l.getD (i - 1) 0 < l.getD i 0) := by
 simp only [whosOk, whosTo, List.all_eq_true, List.mem_range] at h
 have := h i hi
 simp only [whoBad, Bool.not_eq_true', Bool.or_eq_false_iff, Bool.and_eq_false_iff, decide_eq_false_iff_not] at this
 omega
theorem whos_lt {l : List Int} (h : whosOk l = true) : ∀ {k i : Nat}, i < k → k < l.length → l.getD i 0 < l.getD k 0
 | 0, i, hi, hk => by omega
 | k + 1, i, hi, hk => by
  have h1 := (whos_get h hk).2.2 (by omega)
  simp only [Nat.add_sub_cancel] at h1
  rcases Nat.lt_succ_iff_lt_or_eq.1 hi with c | c
  ·have := whos_lt h c (by omega); omega
  ·subst c; exact h1
theorem whos_few {l : List Int} (h : whosOk l = true) : l.length ≤ 16 := by
 have aux : ∀ k, k < l.length → (k : Int) + 1 ≤ l.getD k 0 := by
  intro k
  induction k with
  | zero => intro hk; have := whos_get h hk; omega
  | succ k ih =>
   intro hk
   have h1 := ih (by omega)
   have h2 := whos_lt h (i := k) (k := k + 1) (by omega) hk
   omega
 rcases Nat.eq_zero_or_pos l.length with c | c
 ·omega
 ·have h1 := aux (l.length - 1) (by omega)
  have h2 := whos_get h (i := l.length - 1) (by omega)
  omega
theorem fAc_ok {k w c : Int} (hk : k = 2 ∨ k = 3) (hw : 1 ≤ w ∧ w ≤ 16) (hc : curOk c = true) : acOk (fAc k w c) = true := by
 simp only [curOk, Bool.and_eq_true, decide_eq_true_eq] at hc
 have a1 : ¬ c < 0 := by omega
 have a2 : ¬ 3 ≤ c := by omega
 rcases hk with rfl | rfl <;> simp [acOk, acBad, acOwn, fAc, Bool.cond_eq_ite, a1, a2, hw.1, hw.2]
theorem loss_ok {c : Int} (hc : curOk c = true) : acOk (fAc 6 0 c) = true := by
 simp only [curOk, Bool.and_eq_true, decide_eq_true_eq] at hc
 have a1 : ¬ c < 0 := by omega
 have a2 : ¬ 3 ≤ c := by omega
 simp [acOk, acBad, acOwn, fAc, Bool.cond_eq_ite, a1, a2]
theorem join_asc {G : List LegV} (ha : Asc G) (hl : G.all legOk = true) : joinR G = 0 ∧ joinV G = G.filter fun y => y.amt != 0 := by
 have hR : joinR G = 0 := by
  rcases jR hl with h | ⟨_, y, hy, hb⟩
  ·exact h.1
  ·exfalso
   rw [asc_sum ha y hy, ok_rt hl y hy] at hb; cases hb
 refine ⟨hR, asc_eq (jA G hR) (List.Pairwise.sublist List.filter_sublist ha) fun y => ?_⟩
 rw [jM hR y, List.mem_filter]
 constructor
 ·rintro ⟨h1, h2⟩
  obtain ⟨z, hz, he⟩ := sumA_mem (S := G) (a := y.ac) (by rw [← h1]; exact h2)
  have hz2 := asc_sum ha z hz
  rw [he] at hz2
  have : y = z := by
   obtain ⟨ya, yb⟩ := y; obtain ⟨za, zb⟩ := z
   simp only at he h1 hz2
   rw [he, h1, hz2]
  rw [this] at h2 ⊢
  exact ⟨hz, by simpa using h2⟩
 ·rintro ⟨h1, h2⟩
  exact ⟨(asc_sum ha y h1).symm, by simpa using h2⟩
theorem led_good {s : LedV} (h : ledE s = 0) : Good s := (ledE_iff s).1 h
theorem rt_of {n : Int} (h : -4611686018427387904 ≤ n) (h2 : n ≤ 4611686018427387904) : rightN n = true := by simp [rightN]; omega
structure LvF (s : LedV) (c amt : Int) (ws : List Int) : Prop where
 good : Good s
 cur : curOk c = true
 who : whosOk ws = true
 a0 : 0 ≤ amt
 a1 : amt ≤ 4611686018427387904
 w0 : ∀ x ∈ shV c s.bal ws, 0 ≤ x ∧ x ≤ 4611686018427387904
 le : amt ≤ (shV c s.bal ws).sum
 sum : (shV c s.bal ws).sum ≤ 4611686018427387904
 sre : sRE amt (shV c s.bal ws) = 0
 spe : splitE amt (shV c s.bal ws) = 0
 len : (splitV amt (shV c s.bal ws)).length = ws.length
 p0 : ∀ i, 0 ≤ (splitV amt (shV c s.bal ws)).getD i 0
 pw : ∀ i, (splitV amt (shV c s.bal ws)).getD i 0 ≤ (shV c s.bal ws).getD i 0 ∨ ws.length ≤ i
 ps : (splitV amt (shV c s.bal ws)).sum = amt
theorem sumE_zero {l : List Int} (h : sumE l = 0) : l.all rightN = true ∧ rightN l.sum = true ∧ sumV l = l.sum := by
 simp only [sumE] at h
 cases h1 : l.all rightN with
 | false => rw [h1] at h; simp at h
 | true =>
  cases h2 : rightN l.sum with
  | false => rw [h1, h2] at h; simp at h
  | true => exact ⟨rfl, rfl, (sumE_ok h1 h2).2⟩
theorem rt_le {n : Int} (h : rightN n = true) : -4611686018427387904 ≤ n ∧ n ≤ 4611686018427387904 := by
 simp [rightN] at h; omega
theorem sh_weights {s : LedV} {c : Int} {ws : List Int} (hg : Good s) (hc : curOk c = true) (hw : whosOk ws = true) : ∀ x ∈ shV c s.bal ws, 0 ≤ x ∧ x ≤ 4611686018427387904 := fun x hx => by
 obtain ⟨w, hm, rfl⟩ := List.mem_map.1 hx
 obtain ⟨i, hi, hwi⟩ := List.mem_iff_getElem.1 hm
 have hb := whos_get hw hi
 rw [List.getD_eq_getElem?_getD, List.getElem?_eq_getElem hi] at hb
 simp only [Option.getD_some, hwi] at hb
 have ha := fAc_ok (k := 3) (.inr rfl) ⟨hb.1, hb.2.1⟩ hc
 rw [ofL_sum hg.asc]
 have h1 := good_fl hg (fAc 3 w c)
 have h2 := rt_le (good_rt hg (fAc 3 w c))
 have h3 : flo (fAc 3 w c) = 0 := by simp only [flo, ha, Bool.true_and]; rfl
 omega
theorem sumNN {l : List Int} (hl : ∀ x ∈ l, 0 ≤ x) : l.sum = (sN l : Int) := by
 induction l with
 | nil => rfl
 | cons x l ih =>
  have h0 := hl x (by simp)
  have := ih fun y hy => hl y (by simp [hy])
  simp only [sN, List.map_cons, List.sum_cons] at this ⊢
  rw [this]; omega
theorem lvF_of {s : LedV} {c amt : Int} {ws : List Int} (hl : ledE s = 0) (hb : shBad c ws = false) (hs : sumE (shV c s.bal ws) = 0) (ha : amtBad amt = false) (hm : decide (amt > (shV c s.bal ws).sum) = false) : LvF s c amt ws := by
 obtain ⟨r1, r2, r3⟩ := sumE_zero hs
 have hG := led_good hl
 simp only [shBad, Bool.or_eq_false_iff, Bool.not_eq_false'] at hb
 have hW := sh_weights hG hb.1 hb.2
 simp only [amtBad, List.all_cons, List.all_nil, Bool.and_true, Bool.or_eq_false_iff, decide_eq_false_iff_not, Bool.not_eq_false'] at ha
 have hab := rt_le ha.2
 have hle := of_decide_eq_false hm
 have hlen := shV_len c s.bal ws
 have hfew := whos_few hb.2
 have hre : sRE amt (shV c s.bal ws) = 0 := sRE_may ⟨⟨by omega, by omega⟩, hW, by omega⟩
 have hsn := sumNN fun x hx => (hW x hx).1
 have hp : splitE amt (shV c s.bal ws) = 0 := by
  rcases Nat.eq_zero_or_pos (sN (shV c s.bal ws)) with hS | hS
  ·rw [splitE_zero hre hS, show (amt == 0) = true by simp; omega]; rfl
  ·exact splitE_prt hre hS
 have hpl := split_len hre hp
 have hg0 : ∀ i, i < ws.length → 0 ≤ (shV c s.bal ws).getD i 0 := fun i hi => (hW _ (getD_mem (by omega))).1
 refine ⟨hG, hb.1, hb.2, by omega, by omega, hW, by omega, (rt_le r2).2, hre, hp, by omega, fun i => ?_, fun i => ?_, ?_⟩
 ·rcases Nat.eq_zero_or_pos (sN (shV c s.bal ws)) with hS | hS
  ·rw [splitV_zero hre hS (by omega), zeros_get]; exact Int.le_refl _
  ·rw [splitV_prt hre hS]; exact prt_nn _ _ _
 ·rcases Nat.lt_or_ge i ws.length with hi | hi
  ·left
   rcases Nat.eq_zero_or_pos (sN (shV c s.bal ws)) with hS | hS
   ·rw [splitV_zero hre hS (by omega), zeros_get]; exact hg0 i hi
   ·rw [splitV_prt hre hS]; exact prt_cap hS (by omega) (hg0 i hi)
  ·exact .inr hi
 ·rcases Nat.eq_zero_or_pos (sN (shV c s.bal ws)) with hS | hS
  ·rw [splitV_zero hre hS (by omega)]; simp [zerosI]; omega
  ·rw [splitV_prt hre hS, prt_sum hS]; omega
theorem sh_open {s : LedV} {c : Int} {ws : List Int} (h1 : shE s c ws = 0) : ledE s = 0 ∧ shBad c ws = false ∧ sumE (shV c s.bal ws) = 0 ∧ shN s c ws = (shV c s.bal ws).sum := by
 have hl : ledE s = 0 := by
  simp only [shE] at h1
  cases e : ledE s != 0 with
  | true => rw [e] at h1; simpa using h1
  | false => simpa using e
 have hb : shBad c ws = false := by
  cases e : shBad c ws with
  | false => rfl
  | true => simp [shE, hl, e] at h1
 have hs : sumE (shV c s.bal ws) = 0 := by simpa [shE, hl, hb] using h1
 obtain ⟨r1, r2, r3⟩ := sumE_zero hs
 exact ⟨hl, hb, hs, by simp [shN, hl, hb, r3]⟩
theorem lv_open {s : LedV} {c amt : Int} {ws : List Int} (h : lvE s c amt ws = 0) : shE s c ws = 0 ∧ amtBad amt = false ∧ decide (amt > (shV c s.bal ws).sum) = false := by
 have h1 : shE s c ws = 0 := by
  simp only [lvE] at h
  cases e : shE s c ws != 0 with
  | true => rw [e] at h; simp only [cond_true] at h; exact h
  | false => simpa using e
 obtain ⟨hl, hb, hs, hn⟩ := sh_open h1
 have h2 : boE 3 c amt (shV c s.bal ws).sum ws (shV c s.bal ws) = 0 := by
  have e : (shE s c ws != 0) = false := by simp [h1]
  simpa only [lvE, e, cond_false, hn] using h
 have ha : amtBad amt = false := by
  cases e : amtBad amt with
  | false => rfl
  | true => simp [boE, e] at h2
 refine ⟨h1, ha, ?_⟩
 cases e : decide (amt > (shV c s.bal ws).sum) with
 | false => rfl
 | true => simp only [boE, ha, e, cond_true, cond_false] at h2; cases h2
theorem lv_facts {s : LedV} {c amt : Int} {ws : List Int} (h : lvE s c amt ws = 0) : LvF s c amt ws := by
 obtain ⟨h1, h2, h3⟩ := lv_open h
 obtain ⟨hl, hb, hs, hn⟩ := sh_open h1
 exact lvF_of hl hb hs h2 h3
def bG (c amt : Int) (ws ps : List Int) : List LegV := bTl 3 c ws ps ps.length ++ [lossL c amt]
theorem bLeg_in {c : Int} {ws ps : List Int} {y : LegV} : y ∈ bTl 3 c ws ps ps.length ↔ ∃ i, i < ps.length ∧ y = bLeg 3 c ws ps i := by
 simp only [bTl, List.mem_map, List.mem_range]
 constructor
 ·rintro ⟨i, h1, h2⟩; exact ⟨i, h1, h2.symm⟩
 ·rintro ⟨i, h1, h2⟩; exact ⟨i, h1, h2.symm⟩
theorem bG_asc {c amt : Int} {ws ps : List Int} (hw : whosOk ws = true) (hl : ps.length = ws.length) : Asc (bG c amt ws ps) := by
 rw [bG, Asc, List.pairwise_append]
 refine ⟨?_, by simp, fun x hx y hy => ?_⟩
 ·rw [bTl, List.pairwise_map]
  refine (List.pairwise_lt_range (n := ps.length)).imp_of_mem fun {a b} ha hb h => ?_
  rw [List.mem_range] at ha hb
  exact acLt_iff.2 (.inr ⟨rfl, .inl (whos_lt hw h (by omega))⟩)
 ·obtain ⟨i, hi, rfl⟩ := bLeg_in.1 hx
  rw [List.mem_singleton.1 hy]
  exact acLt_iff.2 (.inl (by show (3 : Int) < 6; decide))
theorem ng_eq {p : Int} (h : 0 ≤ p) (h1 : p ≤ 4611686018427387904) : ngW p = -p := by
 rw [ngW, wrapI (by omega) (by omega)]; omega
theorem bG_ok {s : LedV} {c amt : Int} {ws : List Int} (h : LvF s c amt ws) : (bG c amt ws (splitV amt (shV c s.bal ws))).all legOk = true := by
 rw [bG, List.all_append, Bool.and_eq_true]
 constructor
 ·rw [List.all_eq_true]
  intro y hy
  obtain ⟨i, hi, rfl⟩ := bLeg_in.1 hy
  have hi2 : i < ws.length := by rw [← h.len]; exact hi
  have hb := whos_get h.who hi2
  have hw := h.w0 _ (getD_mem (p := shV c s.bal ws) (k := i) (by rw [shV_len]; exact hi2))
  have hp := (h.pw i).resolve_right (by omega)
  have hp0 := h.p0 i
  simp only [legOk, bLeg, Bool.and_eq_true]
  refine ⟨fAc_ok (.inr rfl) ⟨hb.1, hb.2.1⟩ h.cur, ?_⟩
  rw [ng_eq hp0 (by omega)]
  exact rt_of (by omega) (by omega)
 ·have := h.a0
  have := h.a1
  simp only [List.all_cons, List.all_nil, Bool.and_true, legOk, lossL, loss_ok h.cur, Bool.true_and]
  exact rt_of (by omega) (by omega)
theorem sumA_front (a : AcV) (x : LegV) (T : List LegV) : sumA a (x :: T) = sumA a (T ++ [x]) := by
 rw [sumA_app]; simp only [sumA]; omega
theorem lv_join {s : LedV} {c amt : Int} {ws : List Int} (h : LvF s c amt ws) :
  joinR (boL 3 c amt ws (splitV amt (shV c s.bal ws))) = 0 ∧ joinV (boL 3 c amt ws (splitV amt (shV c s.bal ws))) = (bG c amt ws (splitV amt (shV c s.bal ws))).filter fun y => y.amt != 0 := by
 have ha := bG_asc (c := c) (amt := amt) h.who h.len
 have hk := bG_ok h
 have hj := join_asc ha hk
 have hk2 : (boL 3 c amt ws (splitV amt (shV c s.bal ws))).all legOk = true := by
  rw [bG, List.all_append, Bool.and_eq_true] at hk
  rw [boL, bAll, List.all_cons, hk.1]
  have := hk.2
  simp only [List.all_cons, List.all_nil, Bool.and_true] at this
  rw [this]; rfl
 have hs := same_join hk2 hk fun a => sumA_front a _ _
 exact ⟨by rw [hs.1]; exact hj.1, by rw [hs.2]; exact hj.2⟩
theorem lv_yes {s : LedV} {c amt : Int} {ws : List Int} (h1 : shE s c ws = 0) (h2 : amtBad amt = false) (h3 : decide (amt > (shV c s.bal ws).sum) = false) : lvE s c amt ws = 0 := by
 obtain ⟨hl, hb, hs, hn⟩ := sh_open h1
 have hF := lvF_of hl hb hs h2 h3
 have e : (shE s c ws != 0) = false := by simp [h1]
 have e2 : (splitE amt (shV c s.bal ws) != 0) = false := by simp [hF.spe]
 simp only [lvE, e, cond_false, hn, boE, h2, h3, e2]
 exact (lv_join hF).1
theorem lvV_eq {s : LedV} {c amt : Int} {ws : List Int} (h : lvE s c amt ws = 0) : lvV s c amt ws = (bG c amt ws (splitV amt (shV c s.bal ws))).filter fun y => y.amt != 0 := by
 have hF := lv_facts h
 have h1 : (shE s c ws != 0) = false := by
  cases e : shE s c ws != 0 with
  | false => rfl
  | true => simp only [lvE, e, cond_true] at h; simp [h] at e
 simp only [lvE, h1, cond_false] at h
 have h2 : amtBad amt = false := by
  cases e : amtBad amt with
  | false => rfl
  | true => simp [boE, e] at h
 have h3 : decide (amt > shN s c ws) = false := by
  cases e : decide (amt > shN s c ws) with
  | false => rfl
  | true => simp only [boE, h2, e, cond_true, cond_false] at h; cases h
 have h4 : (splitE amt (shV c s.bal ws) != 0) = false := by simp [hF.spe]
 simp only [lvV, h1, boV, h2, h3, h4, cond_false]
 exact (lv_join hF).2
def brF (w n : Int) (x : LegV) : Int := bif x.ac.kind == 3 && x.ac.who == w then IntKind.wrap .i64 (n - x.amt) else n
def brW (w : Int) (l : List LegV) : Int := l.foldl (brF w) 0
def brs (L : List LegV) (ws : List Int) : List Int := ws.map fun w => brW w L
theorem wk21e : lvE ⟨0, [⟨⟨1, 0, 0⟩, -40⟩, ⟨⟨3, 1, 0⟩, 30⟩, ⟨⟨3, 2, 0⟩, 10⟩]⟩ 0 10 [1, 2, 3] = 0 := by
 have hg : Good ⟨0, [⟨⟨1, 0, 0⟩, -40⟩, ⟨⟨3, 1, 0⟩, 30⟩, ⟨⟨3, 2, 0⟩, 10⟩]⟩ := (ledOk_iff _).1 (by decide)
 have h1 : shE ⟨0, [⟨⟨1, 0, 0⟩, -40⟩, ⟨⟨3, 1, 0⟩, 30⟩, ⟨⟨3, 2, 0⟩, 10⟩]⟩ 0 [1, 2, 3] = 0 := by
  have hl := (ledE_iff _).2 hg
  simp only [shE, hl]
  decide
 exact lv_yes h1 (by decide) (by decide)
theorem wk21 : lvV ⟨0, [⟨⟨1, 0, 0⟩, -40⟩, ⟨⟨3, 1, 0⟩, 30⟩, ⟨⟨3, 2, 0⟩, 10⟩]⟩ 0 10 [1, 2, 3] = [⟨⟨3, 1, 0⟩, -8⟩, ⟨⟨3, 2, 0⟩, -2⟩, ⟨⟨6, 0, 0⟩, 10⟩] := by
 rw [lvV_eq wk21e]
 rfl
def bS : List LegV → Int
 | [] => 0
 | y :: l => (bif y.ac.kind == 6 then 0 else - y.amt) + bS l
end Go.Proofs.Ytjkfadaedgidpaa
namespace Go.Proofs.Ytjkfadaedgidpaa
open Go.RowKit
set_option linter.unusedVariables false
set_option linter.unusedSimpArgs false
def ndV (r : RollV) (ws : List Int) : List Int := ws.map fun w => (findX MemV.no w zMem r.mems).need
def nsE (r : RollV) (ws : List Int) : Int := bif rollE r != 0 then rollE r else bif !whosOk ws then 3 else sumE (ndV r ws)
def nsN (r : RollV) (ws : List Int) : Int := bif rollE r != 0 then 0 else bif !whosOk ws then 0 else sumV (ndV r ws)
def aqE (r : RollV) (c amt : Int) (ws : List Int) : Int := bif nsE r ws != 0 then nsE r ws else bif !curOk c then 3 else boE 2 c amt (nsN r ws) ws (ndV r ws)
def aqV (r : RollV) (c amt : Int) (ws : List Int) : List LegV := bif nsE r ws != 0 then [] else bif !curOk c then [] else boV 2 c amt (nsN r ws) ws (ndV r ws)
theorem memR_all {p : Option MemV} : ∀ {l : List MemV}, chk memOk MemV.no p l = true → ∀ x ∈ l, memOk x = true
 | [], _, x, hx => by simp at hx
 | y :: l, h, x, hx => by
  simp only [chk, Bool.and_eq_true] at h
  rcases List.mem_cons.1 hx with rfl | hx
  ·exact h.1.1
  ·exact memR_all h.2 x hx
structure BoF (k c amt : Int) (ws g : List Int) : Prop where
 kk : k = 2 ∨ k = 3
 cur : curOk c = true
 who : whosOk ws = true
 glen : g.length = ws.length
 a0 : 0 ≤ amt
 a1 : amt ≤ 4611686018427387904
 w0 : ∀ x ∈ g, 0 ≤ x ∧ x ≤ 4611686018427387904
 sre : sRE amt g = 0
 spe : splitE amt g = 0
 len : (splitV amt g).length = ws.length
 p0 : ∀ i, 0 ≤ (splitV amt g).getD i 0
 pw : ∀ i, i < ws.length → (splitV amt g).getD i 0 ≤ g.getD i 0
 ps : (splitV amt g).sum = amt
def aG (k c amt : Int) (ws ps : List Int) : List LegV := bTl k c ws ps ps.length ++ [lossL c amt]
end Go.Proofs.Ytjkfadaedgidpaa
namespace Go.Proofs.Ytjkfadaedgidpaa
open Go.RowKit
set_option linter.unusedVariables false
set_option linter.unusedSimpArgs false
structure FdV where
 who : Int
 cur : Int
 amount : Int
def fdueC (d : FdV) : List D := [iv d.who, iv d.cur, iv d.amount]
def fds (l : List FdV) : D := .sl 3 (l.map fdueC)
def lkN (bal : List LegV) (c : Int) (m : MemV) : Int := if (0 : Int) > IntKind.wrap .i64 (m.need - ofL (fAc 3 m.no c) bal) then 0 else IntKind.wrap .i64 (m.need - ofL (fAc 3 m.no c) bal)
def chN (bal : List LegV) (c : Int) (m : MemV) : Int := if (0 : Int) > ofL (fAc 2 m.no c) bal then 0 else ofL (fAc 2 m.no c) bal
def pyN (bal : List LegV) (c : Int) (m : MemV) : Int := if chN bal c m < lkN bal c m then chN bal c m else lkN bal c m
theorem py_eq (bal : List LegV) (c : Int) (m : MemV) : (if chN bal c m < lkN bal c m then chN bal c m else lkN bal c m) = pyN bal c m := rfl
def rfL1 (bal : List LegV) (c : Int) (m : MemV) : List LegV := bif m.state != 1 then [] else moveL (fAc 2 m.no c) (fAc 3 m.no c) (pyN bal c m)
def rfD1 (bal : List LegV) (c : Int) (m : MemV) : List FdV := bif m.state != 1 then [] else bif decide (lkN bal c m > pyN bal c m) then [⟨m.no, c, IntKind.wrap .i64 (lkN bal c m - pyN bal c m)⟩] else []
def rfLs (bal : List LegV) (c : Int) (ms : List MemV) : List LegV := ms.flatMap (rfL1 bal c)
def rfDs (bal : List LegV) (c : Int) (ms : List MemV) : List FdV := ms.flatMap (rfD1 bal c)
theorem rfLs_snoc (bal : List LegV) (c : Int) (ms : List MemV) (m : MemV) : rfLs bal c (ms ++ [m]) = rfLs bal c ms ++ rfL1 bal c m := by simp [rfLs]
theorem rfDs_snoc (bal : List LegV) (c : Int) (ms : List MemV) (m : MemV) : rfDs bal c (ms ++ [m]) = rfDs bal c ms ++ rfD1 bal c m := by simp [rfDs]
theorem rfLs_len (bal : List LegV) (c : Int) (ms : List MemV) : (rfLs bal c ms).length ≤ 2 * ms.length := by
 induction ms with
 | nil => simp [rfLs]
 | cons m ms ih =>
  simp only [rfLs, List.flatMap_cons, List.length_append, List.length_cons] at ih ⊢
  have : (rfL1 bal c m).length ≤ 2 := by
   simp only [rfL1]
   cases m.state != 1 <;> simp [moveL]
  omega
theorem rfDs_len (bal : List LegV) (c : Int) (ms : List MemV) : (rfDs bal c ms).length ≤ ms.length := by
 induction ms with
 | nil => simp [rfDs]
 | cons m ms ih =>
  simp only [rfDs, List.flatMap_cons, List.length_append, List.length_cons] at ih ⊢
  have : (rfD1 bal c m).length ≤ 1 := by
   simp only [rfD1]
   cases m.state != 1 with
   | true => simp
   | false => cases decide (lkN bal c m > pyN bal c m) <;> simp
  omega
def rfE (s : LedV) (r : RollV) (c : Int) : Int := bif ledE s != 0 then ledE s else bif rollE r != 0 then rollE r else bif !curOk c then 3 else joinR (rfLs s.bal c r.mems)
def rfV (s : LedV) (r : RollV) (c : Int) : List LegV := bif rfE s r c != 0 then [] else joinV (rfLs s.bal c r.mems)
def rfU (s : LedV) (r : RollV) (c : Int) : List FdV := bif rfE s r c != 0 then [] else rfDs s.bal c r.mems
theorem mem_asc : ∀ {p : Option MemV} {l : List MemV}, chk memOk MemV.no p l = true → l.Pairwise (fun a b => a.no < b.no) ∧ ∀ y, p = some y → ∀ x ∈ l, y.no < x.no
 | _, [], _ => ⟨List.Pairwise.nil, fun _ _ _ hx => by cases hx⟩
 | p, x :: l, h => by
  simp only [chk, Bool.and_eq_true] at h
  obtain ⟨⟨h1, h2⟩, h3⟩ := h
  obtain ⟨i1, i2⟩ := mem_asc h3
  have hx := i2 x rfl
  refine ⟨List.pairwise_cons.2 ⟨hx, i1⟩, fun y hy z hz => ?_⟩
  subst hy
  simp only [Bool.not_eq_true', decide_eq_false_iff_not] at h2
  rcases List.mem_cons.1 hz with rfl | hz
  ·omega
  ·have := hx z hz; omega
theorem mem_few : ∀ {l : List MemV} {lo : Int}, 0 ≤ lo → lo ≤ 16 → (∀ x ∈ l, lo < x.no ∧ x.no ≤ 16) → l.Pairwise (fun a b => a.no < b.no) → (l.length : Int) ≤ 16 - lo
 | [], lo, h0, h1, _, _ => by simp; omega
 | x :: l, lo, h0, h1, h, hp => by
  have hx := h x (by simp)
  have hp2 := List.pairwise_cons.1 hp
  have := mem_few (l := l) (lo := x.no) (by omega) hx.2 (fun y hy => ⟨hp2.1 y hy, (h y (by simp [hy])).2⟩) hp2.2
  simp only [List.length_cons]; omega
theorem rf_open {s : LedV} {r : RollV} {c : Int} (h : rfE s r c = 0) : ledE s = 0 ∧ rollE r = 0 ∧ curOk c = true ∧ joinR (rfLs s.bal c r.mems) = 0 := by
 have h1 : ledE s = 0 := by
  cases e : ledE s != 0 with
  | true => simp only [rfE, e, cond_true] at h; exact h
  | false => simpa using e
 have e1 : (ledE s != 0) = false := by simp [h1]
 have h2 : rollE r = 0 := by
  cases e : rollE r != 0 with
  | true => simp only [rfE, e1, e, cond_true, cond_false] at h; exact h
  | false => simpa using e
 have e2 : (rollE r != 0) = false := by simp [h2]
 cases h3 : curOk c with
 | false => simp [rfE, e1, e2, h3] at h
 | true => exact ⟨h1, h2, rfl, by simpa only [rfE, e1, e2, h3, Bool.not_true, cond_false] using h⟩
theorem roll_mems {r : RollV} (h : rollE r = 0) : r.mems.Pairwise (fun a b => a.no < b.no) ∧ (∀ m ∈ r.mems, memOk m = true) ∧ r.mems.length ≤ 16 := by
 have hr : rollOk r = true := by
  cases e : rollOk r with
  | true => rfl
  | false => simp [rollE, e] at h
 simp only [rollOk, Bool.and_eq_true] at hr
 have ha := (mem_asc hr.1.1).1
 have hk := memR_all hr.1.1
 refine ⟨ha, hk, ?_⟩
 have := mem_few (l := r.mems) (lo := 0) (by omega) (by omega) (fun x hx => ?_) ha
 ·omega
 ·have := hk x hx
  simp only [memOk, inR, Bool.and_eq_true, decide_eq_true_eq] at this
  omega
structure MF (bal : List LegV) (c : Int) (m : MemV) : Prop where
 no : 1 ≤ m.no ∧ m.no ≤ 16
 need : 0 ≤ m.need ∧ m.need ≤ 4611686018427387904
 had : 0 ≤ ofL (fAc 3 m.no c) bal ∧ ofL (fAc 3 m.no c) bal ≤ 4611686018427387904
 cash : -4611686018427387904 ≤ ofL (fAc 2 m.no c) bal ∧ ofL (fAc 2 m.no c) bal ≤ 4611686018427387904
 lk : (m.need ≤ ofL (fAc 3 m.no c) bal ∧ lkN bal c m = 0) ∨ (ofL (fAc 3 m.no c) bal < m.need ∧ lkN bal c m = m.need - ofL (fAc 3 m.no c) bal)
 ch : (ofL (fAc 2 m.no c) bal ≤ 0 ∧ chN bal c m = 0) ∨ (0 < ofL (fAc 2 m.no c) bal ∧ chN bal c m = ofL (fAc 2 m.no c) bal)
 py : (chN bal c m < lkN bal c m ∧ pyN bal c m = chN bal c m) ∨ (lkN bal c m ≤ chN bal c m ∧ pyN bal c m = lkN bal c m)
theorem mf_of {s : LedV} {c : Int} {m : MemV} (hg : Good s) (hc : curOk c = true) (hm : memOk m = true) : MF s.bal c m := by
 simp only [memOk, inR, List.all_cons, List.all_nil, Bool.and_true, Bool.and_eq_true, decide_eq_true_eq] at hm
 obtain ⟨⟨⟨h1, _⟩, h3⟩, h4⟩ := hm
 have h5 := rt_le h3
 have hf := fAc_ok (k := 3) (w := m.no) (.inr rfl) ⟨by omega, by omega⟩ hc
 have e3 := ofL_sum (a := fAc 3 m.no c) hg.asc
 have e2 := ofL_sum (a := fAc 2 m.no c) hg.asc
 have f3 := good_fl hg (fAc 3 m.no c)
 have r3 := rt_le (good_rt hg (fAc 3 m.no c))
 have r2 := rt_le (good_rt hg (fAc 2 m.no c))
 have hfl : flo (fAc 3 m.no c) = 0 := by simp only [flo, hf, Bool.true_and]; rfl
 have hw : IntKind.wrap .i64 (m.need - ofL (fAc 3 m.no c) s.bal) = m.need - ofL (fAc 3 m.no c) s.bal := wrapI (by omega) (by omega)
 refine ⟨⟨by omega, by omega⟩, ⟨by omega, by omega⟩, ⟨by omega, by omega⟩, ⟨by omega, by omega⟩, ?_, ?_, ?_⟩
 ·simp only [lkN, hw]; split <;> omega
 ·simp only [chN]; split <;> omega
 ·simp only [pyN]; split <;> omega
theorem MF.pb {bal : List LegV} {c : Int} {m : MemV} (h : MF bal c m) : 0 ≤ pyN bal c m ∧ pyN bal c m ≤ lkN bal c m ∧ lkN bal c m ≤ 4611686018427387904 := by
 have h1 := h.need; have h2 := h.had; have h3 := h.cash; have h4 := h.lk; have h5 := h.ch; have h6 := h.py
 omega
theorem MF.legs {bal : List LegV} {c : Int} {m : MemV} (h : MF bal c m) : rfL1 bal c m = bif m.state != 1 then [] else [⟨fAc 2 m.no c, - pyN bal c m⟩, ⟨fAc 3 m.no c, pyN bal c m⟩] := by
 have hp := h.pb
 have hr : rightN (pyN bal c m) = true := rt_of (by omega) (by omega)
 simp only [rfL1, moveL, hr, cond_true]
 rw [show (0 : Int) - pyN bal c m = - pyN bal c m by omega]
theorem sumA_two {a b1 b2 : AcV} {n1 n2 : Int} : sumA a [⟨b1, n1⟩, ⟨b2, n2⟩] = (bif acSame b1 a then n1 else 0) + (bif acSame b2 a then n2 else 0) := by
 simp only [sumA]; omega
theorem sumA_L1 {bal : List LegV} {c : Int} {m : MemV} (h : MF bal c m) : sumA (fAc 3 m.no c) (rfL1 bal c m) = (bif m.state != 1 then 0 else pyN bal c m) ∧ sumA (fAc 2 m.no c) (rfL1 bal c m) = (bif m.state != 1 then 0 else - pyN bal c m) := by
 rw [h.legs]
 cases m.state != 1 with
 | true => exact ⟨rfl, rfl⟩
 | false => simp [sumA_two, acSame, fAc]
theorem sumA_L1_off {bal : List LegV} {c k w : Int} {m : MemV} (h : MF bal c m) (hn : m.no ≠ w) : sumA (fAc k w c) (rfL1 bal c m) = 0 := by
 rw [h.legs]
 cases m.state != 1 with
 | true => rfl
 | false =>
  have e : (m.no == w) = false := by simp [hn]
  simp [sumA_two, acSame, fAc, e]
theorem sumA_L1_nn {bal : List LegV} {c : Int} {m : MemV} (h : MF bal c m) {a : AcV} (ha : a.kind ≠ 2) : 0 ≤ sumA a (rfL1 bal c m) := by
 have hp := h.pb
 rw [h.legs]
 cases m.state != 1 with
 | true => exact Int.le_refl _
 | false =>
  rw [cond_false, sumA_two]
  have : acSame (fAc 2 m.no c) a = false := by
   cases e : acSame (fAc 2 m.no c) a with
   | false => rfl
   | true => exact absurd (congrArg AcV.kind (acSame_iff.1 e)).symm ha
  rw [this]
  cases acSame (fAc 3 m.no c) a <;> simp <;> omega
theorem sumA_Ls_off {bal : List LegV} {c k w : Int} : ∀ {ms : List MemV}, (∀ m ∈ ms, MF bal c m ∧ m.no ≠ w) → sumA (fAc k w c) (rfLs bal c ms) = 0
 | [], _ => rfl
 | m :: ms, h => by
  have h1 := h m (by simp)
  rw [rfLs, List.flatMap_cons, sumA_app, sumA_L1_off h1.1 h1.2, show ms.flatMap (rfL1 bal c) = rfLs bal c ms from rfl, sumA_Ls_off fun x hx => h x (by simp [hx])]; rfl
theorem sumA_Ls_nn {bal : List LegV} {c : Int} {a : AcV} (ha : a.kind ≠ 2) : ∀ {ms : List MemV}, (∀ m ∈ ms, MF bal c m) → 0 ≤ sumA a (rfLs bal c ms)
 | [], _ => Int.le_refl _
 | m :: ms, h => by
  have h1 := sumA_L1_nn (h m (by simp)) ha
  have h2 := sumA_Ls_nn ha (ms := ms) fun x hx => h x (by simp [hx])
  rw [rfLs, List.flatMap_cons, sumA_app]; rw [rfLs] at h2; omega
theorem sumA_Ls {bal : List LegV} {c : Int} {ms : List MemV} (hf : ∀ m ∈ ms, MF bal c m) (hp : ms.Pairwise fun a b => a.no < b.no) {m : MemV} (hm : m ∈ ms) :
  sumA (fAc 3 m.no c) (rfLs bal c ms) = (bif m.state != 1 then 0 else pyN bal c m) ∧ sumA (fAc 2 m.no c) (rfLs bal c ms) = (bif m.state != 1 then 0 else - pyN bal c m) := by
 obtain ⟨A, B, rfl⟩ := List.append_of_mem hm
 rw [List.pairwise_append, List.pairwise_cons] at hp
 have hA : ∀ x ∈ A, MF bal c x ∧ x.no ≠ m.no := fun x hx => ⟨hf x (by simp [hx]), by have := hp.2.2 x hx m (by simp); omega⟩
 have hB : ∀ x ∈ B, MF bal c x ∧ x.no ≠ m.no := fun x hx => ⟨hf x (by simp [hx]), by have := hp.2.1.1 x hx; omega⟩
 have e : ∀ a, sumA a (rfLs bal c (A ++ m :: B)) = sumA a (rfLs bal c A) + (sumA a (rfL1 bal c m) + sumA a (rfLs bal c B)) := fun a => by
  rw [rfLs, List.flatMap_append, List.flatMap_cons, sumA_app, sumA_app]; rfl
 have h1 := sumA_L1 (hf m (by simp))
 constructor
 ·rw [e, sumA_Ls_off hA, sumA_Ls_off hB, h1.1]; omega
 ·rw [e, sumA_Ls_off hA, sumA_Ls_off hB, h1.2]; omega
theorem sumC_Ls {bal : List LegV} {c : Int} (c2 : Int) : ∀ {ms : List MemV}, (∀ m ∈ ms, MF bal c m) → sumC c2 (rfLs bal c ms) = 0
 | [], _ => by simp [rfLs, sumC, curL, amts]
 | m :: ms, h => by
  have ih := sumC_Ls c2 (ms := ms) fun x hx => h x (by simp [hx])
  rw [rfLs, List.flatMap_cons, sumC_app, show ms.flatMap (rfL1 bal c) = rfLs bal c ms from rfl, ih, (h m (by simp)).legs]
  cases m.state != 1 with
  | true => simp [sumC, curL, amts]
  | false =>
   simp only [cond_false, sumC_cons, fAc, show sumC c2 [] = 0 from rfl]
   cases c == c2 <;> simp <;> omega
theorem rf_facts {s : LedV} {r : RollV} {c : Int} (h : rfE s r c = 0) : Good s ∧ (∀ m ∈ r.mems, MF s.bal c m) ∧ r.mems.Pairwise (fun a b => a.no < b.no) ∧ r.mems.length ≤ 16 ∧ joinR (rfLs s.bal c r.mems) = 0 ∧ rfV s r c = joinV (rfLs s.bal c r.mems) ∧ rfU s r c = rfDs s.bal c r.mems := by
 obtain ⟨h1, h2, h3, h4⟩ := rf_open h
 have hg := led_good h1
 obtain ⟨m1, m2, m3⟩ := roll_mems h2
 have e : (rfE s r c != 0) = false := by simp [h]
 exact ⟨hg, fun m hm => mf_of hg h3 (m2 m hm), m1, m3, h4, by simp only [rfV, e, cond_false], by simp only [rfU, e, cond_false]⟩
theorem joinV_length (l : List LegV) : (joinV l).length ≤ l.length := by
 simp only [joinV]
 cases (joinR l == 0) with
 | false => simp
 | true => have := joinO_len (legSort l); rw [legSort_len] at this; exact this
theorem rf_post {s : LedV} {r : RollV} {c : Int} (h : rfE s r c = 0) (hn : rfV s r c ≠ []) (id : Int) (hid : ¬ id ≤ s.last) (hb : idBad id = false) : postE s id (rfV s r c) = 0 ∨ postE s id (rfV s r c) = 1 := by
 obtain ⟨hg, hm, hp, hl, hj, hv, _⟩ := rf_facts h
 have hok : (rfV s r c).all legOk = true := by rw [hv]; exact join_ok hj
 have hlen : (rfV s r c).length ≤ 64 := by
  have h1 := joinV_length (rfLs s.bal c r.mems)
  have h2 := rfLs_len s.bal c r.mems
  rw [hv]; omega
 have hcur : ∀ c2, sumC c2 (rfV s r c) = 0 := fun c2 => by rw [hv, join_curs hj, sumC_Ls c2 hm]
 have hchk : chkE (rfV s r c) = 0 := (chkE_iff _).2 ⟨hn, hlen, hok, hcur 0, hcur 1, hcur 2⟩
 have hlo : ledOk s = true := (ledOk_iff s).2 hg
 have hall : (rfV s r c ++ s.bal).all legOk = true := all_app hok hg.ok
 have hlt : decide (id ≤ s.last) = false := decide_eq_false hid
 have hlow : ∀ hj2 : joinR (rfV s r c ++ s.bal) = 0, low (joinV (rfV s r c ++ s.bal)) = false := fun hj2 => by
  cases e : low (joinV (rfV s r c ++ s.bal)) with
  | false => rfl
  | true =>
   exfalso
   simp only [low, List.any_eq_true, decide_eq_true_eq] at e
   obtain ⟨y, hy, hlt⟩ := e
   have hm2 := (jM hj2 y).1 hy
   have hok2 : rightN y.amt = true := by
    have := List.all_eq_true.1 (join_ok hj2) y hy
    simp only [legOk, Bool.and_eq_true] at this; exact this.2
   have hr := rt_le hok2
   rw [hm2.1, sumA_app] at hlt hr
   have hgf := good_fl hg y.ac
   by_cases hk : y.ac.kind = 2
   ·have : flo y.ac = -4611686018427387904 := by
     simp only [flo, hk]; cases acOk y.ac <;> rfl
    omega
   ·have := sumA_Ls_nn (bal := s.bal) (c := c) hk hm
    rw [hv, join_sum hj] at hlt
    omega
 simp only [postE, hlo, Bool.not_true, cond_false, hchk, hb, hlt]
 rcases jR hall with ⟨e, _⟩ | ⟨e, _⟩
 ·left; rw [e, hlow e]; rfl
 ·right; rw [e]; rfl
def rfT (s : LedV) (r : RollV) (c : Int) : LedV := bif (rfV s r c).isEmpty then s else postV s (s.last + 1) (rfV s r c)
theorem rfT_len (s : LedV) (r : RollV) (c : Int) : (rfT s r c).bal.length ≤ (rfV s r c).length + s.bal.length := by
 rw [rfT]
 cases (rfV s r c).isEmpty with
 | true => simp only [cond_true]; omega
 | false => exact postV_len s (s.last + 1) (rfV s r c)
theorem rf_of {s : LedV} {r : RollV} {c : Int} (h : rfE s r c = 0) (hp : rfV s r c ≠ [] → postE s (s.last + 1) (rfV s r c) = 0) (a : AcV) : ofL a (rfT s r c).bal = ofL a s.bal + sumA a (rfLs s.bal c r.mems) := by
 obtain ⟨hg, hm, _, hl, hj, hv, _⟩ := rf_facts h
 rw [← join_sum hj, ← hv, rfT]
 cases e : rfV s r c with
 | nil => simp [sumA]
 | cons y t =>
  rw [e] at hp
  have := once_of (hp (by simp)) a
  rw [List.isEmpty_cons, cond_false, this, ofL_sum hg.asc]; omega
theorem rf_has {s : LedV} {r : RollV} {c : Int} (h : rfE s r c = 0) (hp : rfV s r c ≠ [] → postE s (s.last + 1) (rfV s r c) = 0) {m : MemV} (hm : m ∈ r.mems) :
  ofL (fAc 3 m.no c) (rfT s r c).bal = ofL (fAc 3 m.no c) s.bal + (bif m.state != 1 then 0 else pyN s.bal c m) ∧ ofL (fAc 2 m.no c) (rfT s r c).bal = ofL (fAc 2 m.no c) s.bal - (bif m.state != 1 then 0 else pyN s.bal c m) := by
 obtain ⟨hg, hf, hw, hl, hj, hv, _⟩ := rf_facts h
 obtain ⟨h1, h2⟩ := sumA_Ls hf hw hm
 rw [rf_of h hp, rf_of h hp, h1, h2]
 refine ⟨rfl, ?_⟩
 cases m.state != 1 with
 | true => simp
 | false => simp only [cond_false]; omega
end Go.Proofs.Ytjkfadaedgidpaa
