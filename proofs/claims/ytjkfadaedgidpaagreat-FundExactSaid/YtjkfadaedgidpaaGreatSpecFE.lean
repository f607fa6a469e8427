/- The fund: shares, who bears what. In plain Lean. No condition. -/
import Derived.Test.YtjkfadaedgidpaaGreatSpecLD
import Derived.Test.YtjkfadaedgidpaaGreatSpecJK
import Derived.Test.YtjkfadaedgidpaaGreatSpecM
import Derived.Test.YtjkfadaedgidpaaGreatSpecJL
namespace Go.Proofs.YtjkfadaedgidpaaGreat
open Go.RowKit
set_option linter.unusedVariables false
set_option linter.unusedSimpArgs false
def curOk (c : Int) : Bool := decide (c ≥ 0) && decide (c < 3)
def whoBad (l : List Int) (i : Nat) : Bool := decide (l.getD i 0 < 1) || decide (l.getD i 0 > 16) || (decide ((i : Int) > 0) && decide (l.getD (i - 1) 0 ≥ l.getD i 0))
def whosTo (l : List Int) (n : Nat) : Bool := (List.range n).all fun i => !whoBad l i
def whosOk (l : List Int) : Bool := whosTo l l.length
theorem whosTo_succ (l : List Int) (n : Nat) : whosTo l (n + 1) = (whosTo l n && !whoBad l n) := by simp [whosTo, List.range_succ]
theorem whos_no {l : List Int} {i : Nat} (hi : i < l.length) (h : whoBad l i = true) : whosOk l = false := by
 cases e : whosOk l with
 | false => rfl
 | true =>
  simp only [whosOk, whosTo, List.all_eq_true, List.mem_range] at e
  have := e i hi
  rw [h] at this; cases this
def fAc (k w c : Int) : AcV := ⟨k, w, c⟩
def shV (c : Int) (bal : List LegV) (ws : List Int) : List Int := ws.map fun w => ofL (fAc 3 w c) bal
theorem shV_snoc (c : Int) (bal : List LegV) (ws : List Int) (w : Int) : shV c bal (ws ++ [w]) = shV c bal ws ++ [ofL (fAc 3 w c) bal] := by simp [shV]
theorem shV_len (c : Int) (bal : List LegV) (ws : List Int) : (shV c bal ws).length = ws.length := by simp [shV]
def shBad (c : Int) (ws : List Int) : Bool := !curOk c || !whosOk ws
def shE (s : LedV) (c : Int) (ws : List Int) : Int := bif ledE s != 0 then ledE s else bif shBad c ws then 3 else sumE (shV c s.bal ws)
def shN (s : LedV) (c : Int) (ws : List Int) : Int := bif ledE s != 0 then 0 else bif shBad c ws then 0 else sumV (shV c s.bal ws)
def ngW (p : Int) : Int := IntKind.wrap .i64 (0 - p)
def bLeg (k c : Int) (ws ps : List Int) (i : Nat) : LegV := ⟨fAc k (ws.getD i 0) c, ngW (ps.getD i 0)⟩
def bTl (k c : Int) (ws ps : List Int) (n : Nat) : List LegV := (List.range n).map (bLeg k c ws ps)
theorem bTl_succ (k c : Int) (ws ps : List Int) (n : Nat) : bTl k c ws ps (n + 1) = bTl k c ws ps n ++ [bLeg k c ws ps n] := by simp [bTl, List.range_succ]
theorem bTl_len (k c : Int) (ws ps : List Int) (n : Nat) : (bTl k c ws ps n).length = n := by simp [bTl]
def lossL (c amt : Int) : LegV := ⟨fAc 6 0 c, amt⟩
def bAll (k c amt : Int) (ws ps : List Int) (n : Nat) : List LegV := lossL c amt :: bTl k c ws ps n
theorem bAll_succ (k c amt : Int) (ws ps : List Int) (n : Nat) : bAll k c amt ws ps (n + 1) = bAll k c amt ws ps n ++ [bLeg k c ws ps n] := by rw [bAll, bTl_succ]; rfl
theorem bAll_len (k c amt : Int) (ws ps : List Int) (n : Nat) : (bAll k c amt ws ps n).length = n + 1 := by simp [bAll, bTl_len]
def amtBad (amt : Int) : Bool := decide (amt < 0) || !([amt].all rightN)
def boL (k c amt : Int) (ws ps : List Int) : List LegV := bAll k c amt ws ps ps.length
def boE (k c amt most : Int) (ws wg : List Int) : Int := bif amtBad amt then 3 else bif decide (amt > most) then 13 else bif splitE amt wg != 0 then splitE amt wg else joinR (boL k c amt ws (splitV amt wg))
def boV (k c amt most : Int) (ws wg : List Int) : List LegV := bif amtBad amt then [] else bif decide (amt > most) then [] else bif splitE amt wg != 0 then [] else joinV (boL k c amt ws (splitV amt wg))
def lvE (s : LedV) (c amt : Int) (ws : List Int) : Int := bif shE s c ws != 0 then shE s c ws else boE 3 c amt (shN s c ws) ws (shV c s.bal ws)
def lvV (s : LedV) (c amt : Int) (ws : List Int) : List LegV := bif shE s c ws != 0 then [] else boV 3 c amt (shN s c ws) ws (shV c s.bal ws)
theorem splitV_any (t : Int) (l : List Int) : (splitV t l).length ≤ l.length := by
 by_cases h : sRE t l = 0
 ·rcases Nat.eq_zero_or_pos (sN l) with hS | hS
  ·by_cases ht : t = 0
   ·rw [splitV_zero h hS ht]; simp [zerosI]
   ·rw [splitV_none h hS ht]; simp
  ·rw [splitV_prt h hS, prt_len]; exact Nat.le_refl _
 ·rw [show splitV t l = [] by simp only [splitV, show (sRE t l == 0) = false by simpa using h, cond_false]]; simp
theorem whos_get {l : List Int} (h : whosOk l = true) {i : Nat} (hi : i < l.length) : 1 ≤ l.getD i 0 ∧ l.getD i 0 ≤ 16 ∧ (0 < i → l.getD (i - 1) 0 < l.getD i 0) := by
 simp only [whosOk, whosTo, List.all_eq_true, List.mem_range] at h
 have := h i hi
 simp only [whoBad, Bool.not_eq_true', Bool.or_eq_false_iff, Bool.and_eq_false_iff, decide_eq_false_iff_not] at this
 omega
theorem whos_lt {l : List Int} (h : whosOk l = true) : ∀ {k i : Nat}, i < k → k < l.length → l.getD i 0 < l.getD k 0
 | 0, i, hi, hk => by omega
 | k + 1, i, hi, hk => by
  have h1 := (whos_get h hk).2.2 (by omega)
  simp only [Nat.add_sub_cancel] at h1
  rcases Nat.lt_succ_iff_lt_or_eq.1 hi with c | c
  ·have := whos_lt h c (by omega); omega
  ·subst c; exact h1
theorem whos_few {l : List Int} (h : whosOk l = true) : l.length ≤ 16 := by
 have aux : ∀ k, k < l.length → (k : Int) + 1 ≤ l.getD k 0 := by
  intro k
  induction k with
  | zero => intro hk; have := whos_get h hk; omega
  | succ k ih =>
   intro hk
   have h1 := ih (by omega)
   have h2 := whos_lt h (i := k) (k := k + 1) (by omega) hk
   omega
 rcases Nat.eq_zero_or_pos l.length with c | c
 ·omega
 ·have h1 := aux (l.length - 1) (by omega)
  have h2 := whos_get h (i := l.length - 1) (by omega)
  omega
theorem fAc_ok {k w c : Int} (hk : k = 2 ∨ k = 3) (hw : 1 ≤ w ∧ w ≤ 16) (hc : curOk c = true) : acOk (fAc k w c) = true := by
 simp only [curOk, Bool.and_eq_true, decide_eq_true_eq] at hc
 have a1 : ¬ c < 0 := by omega
 have a2 : ¬ 3 ≤ c := by omega
 rcases hk with rfl | rfl <;> simp [acOk, acBad, acOwn, fAc, Bool.cond_eq_ite, a1, a2, hw.1, hw.2]
theorem loss_ok {c : Int} (hc : curOk c = true) : acOk (fAc 6 0 c) = true := by
 simp only [curOk, Bool.and_eq_true, decide_eq_true_eq] at hc
 have a1 : ¬ c < 0 := by omega
 have a2 : ¬ 3 ≤ c := by omega
 simp [acOk, acBad, acOwn, fAc, Bool.cond_eq_ite, a1, a2]
theorem join_asc {G : List LegV} (ha : Asc G) (hl : G.all legOk = true) : joinR G = 0 ∧ joinV G = G.filter fun y => y.amt != 0 := by
 have hR : joinR G = 0 := by
  rcases jR hl with h | ⟨_, y, hy, hb⟩
  ·exact h.1
  ·exfalso
   rw [asc_sum ha y hy, ok_rt hl y hy] at hb; cases hb
 refine ⟨hR, asc_eq (jA G hR) (List.Pairwise.sublist List.filter_sublist ha) fun y => ?_⟩
 rw [jM hR y, List.mem_filter]
 constructor
 ·rintro ⟨h1, h2⟩
  obtain ⟨z, hz, he⟩ := sumA_mem (S := G) (a := y.ac) (by rw [← h1]; exact h2)
  have hz2 := asc_sum ha z hz
  rw [he] at hz2
  have : y = z := by
   obtain ⟨ya, yb⟩ := y; obtain ⟨za, zb⟩ := z
   simp only at he h1 hz2
   rw [he, h1, hz2]
  rw [this] at h2 ⊢
  exact ⟨hz, by simpa using h2⟩
 ·rintro ⟨h1, h2⟩
  exact ⟨(asc_sum ha y h1).symm, by simpa using h2⟩
theorem led_good {s : LedV} (h : ledE s = 0) : Good s := (ledE_iff s).1 h
theorem rt_of {n : Int} (h : -4611686018427387904 ≤ n) (h2 : n ≤ 4611686018427387904) : rightN n = true := by simp [rightN]; omega
structure LvF (s : LedV) (c amt : Int) (ws : List Int) : Prop where
 good : Good s
 cur : curOk c = true
 who : whosOk ws = true
 a0 : 0 ≤ amt
 a1 : amt ≤ 4611686018427387904
 w0 : ∀ x ∈ shV c s.bal ws, 0 ≤ x ∧ x ≤ 4611686018427387904
 le : amt ≤ (shV c s.bal ws).sum
 sum : (shV c s.bal ws).sum ≤ 4611686018427387904
 sre : sRE amt (shV c s.bal ws) = 0
 spe : splitE amt (shV c s.bal ws) = 0
 len : (splitV amt (shV c s.bal ws)).length = ws.length
 p0 : ∀ i, 0 ≤ (splitV amt (shV c s.bal ws)).getD i 0
 pw : ∀ i, (splitV amt (shV c s.bal ws)).getD i 0 ≤ (shV c s.bal ws).getD i 0 ∨ ws.length ≤ i
 ps : (splitV amt (shV c s.bal ws)).sum = amt
theorem sumE_zero {l : List Int} (h : sumE l = 0) : l.all rightN = true ∧ rightN l.sum = true ∧ sumV l = l.sum := by
 simp only [sumE] at h
 cases h1 : l.all rightN with
 | false => rw [h1] at h; simp at h
 | true =>
  cases h2 : rightN l.sum with
  | false => rw [h1, h2] at h; simp at h
  | true => exact ⟨rfl, rfl, (sumE_ok h1 h2).2⟩
theorem rt_le {n : Int} (h : rightN n = true) : -4611686018427387904 ≤ n ∧ n ≤ 4611686018427387904 := by
 simp [rightN] at h; omega
theorem sh_weights {s : LedV} {c : Int} {ws : List Int} (hg : Good s) (hc : curOk c = true) (hw : whosOk ws = true) : ∀ x ∈ shV c s.bal ws, 0 ≤ x ∧ x ≤ 4611686018427387904 := fun x hx => by
 obtain ⟨w, hm, rfl⟩ := List.mem_map.1 hx
 obtain ⟨i, hi, hwi⟩ := List.mem_iff_getElem.1 hm
 have hb := whos_get hw hi
 rw [List.getD_eq_getElem?_getD, List.getElem?_eq_getElem hi] at hb
 simp only [Option.getD_some, hwi] at hb
 have ha := fAc_ok (k := 3) (.inr rfl) ⟨hb.1, hb.2.1⟩ hc
 rw [ofL_sum hg.asc]
 have h1 := good_fl hg (fAc 3 w c)
 have h2 := rt_le (good_rt hg (fAc 3 w c))
 have h3 : flo (fAc 3 w c) = 0 := by simp only [flo, ha, Bool.true_and]; rfl
 omega
theorem sumNN {l : List Int} (hl : ∀ x ∈ l, 0 ≤ x) : l.sum = (sN l : Int) := by
 induction l with
 | nil => rfl
 | cons x l ih =>
  have h0 := hl x (by simp)
  have := ih fun y hy => hl y (by simp [hy])
  simp only [sN, List.map_cons, List.sum_cons] at this ⊢
  rw [this]; omega
theorem lvF_of {s : LedV} {c amt : Int} {ws : List Int} (hl : ledE s = 0) (hb : shBad c ws = false) (hs : sumE (shV c s.bal ws) = 0) (ha : amtBad amt = false) (hm : decide (amt > (shV c s.bal ws).sum) = false) : LvF s c amt ws := by
 obtain ⟨r1, r2, r3⟩ := sumE_zero hs
 have hG := led_good hl
 simp only [shBad, Bool.or_eq_false_iff, Bool.not_eq_false'] at hb
 have hW := sh_weights hG hb.1 hb.2
 simp only [amtBad, List.all_cons, List.all_nil, Bool.and_true, Bool.or_eq_false_iff, decide_eq_false_iff_not, Bool.not_eq_false'] at ha
 have hab := rt_le ha.2
 have hle := of_decide_eq_false hm
 have hlen := shV_len c s.bal ws
 have hfew := whos_few hb.2
 have hre : sRE amt (shV c s.bal ws) = 0 := sRE_may ⟨⟨by omega, by omega⟩, hW, by omega⟩
 have hsn := sumNN fun x hx => (hW x hx).1
 have hp : splitE amt (shV c s.bal ws) = 0 := by
  rcases Nat.eq_zero_or_pos (sN (shV c s.bal ws)) with hS | hS
  ·rw [splitE_zero hre hS, show (amt == 0) = true by simp; omega]; rfl
  ·exact splitE_prt hre hS
 have hpl := split_len hre hp
 have hg0 : ∀ i, i < ws.length → 0 ≤ (shV c s.bal ws).getD i 0 := fun i hi => (hW _ (getD_mem (by omega))).1
 refine ⟨hG, hb.1, hb.2, by omega, by omega, hW, by omega, (rt_le r2).2, hre, hp, by omega, fun i => ?_, fun i => ?_, ?_⟩
 ·rcases Nat.eq_zero_or_pos (sN (shV c s.bal ws)) with hS | hS
  ·rw [splitV_zero hre hS (by omega), zeros_get]; exact Int.le_refl _
  ·rw [splitV_prt hre hS]; exact prt_nn _ _ _
 ·rcases Nat.lt_or_ge i ws.length with hi | hi
  ·left
   rcases Nat.eq_zero_or_pos (sN (shV c s.bal ws)) with hS | hS
   ·rw [splitV_zero hre hS (by omega), zeros_get]; exact hg0 i hi
   ·rw [splitV_prt hre hS]; exact prt_cap hS (by omega) (hg0 i hi)
  ·exact .inr hi
 ·rcases Nat.eq_zero_or_pos (sN (shV c s.bal ws)) with hS | hS
  ·rw [splitV_zero hre hS (by omega)]; simp [zerosI]; omega
  ·rw [splitV_prt hre hS, prt_sum hS]; omega
theorem sh_open {s : LedV} {c : Int} {ws : List Int} (h1 : shE s c ws = 0) : ledE s = 0 ∧ shBad c ws = false ∧ sumE (shV c s.bal ws) = 0 ∧ shN s c ws = (shV c s.bal ws).sum := by
 have hl : ledE s = 0 := by
  simp only [shE] at h1
  cases e : ledE s != 0 with
  | true => rw [e] at h1; simpa using h1
  | false => simpa using e
 have hb : shBad c ws = false := by
  cases e : shBad c ws with
  | false => rfl
  | true => simp [shE, hl, e] at h1
 have hs : sumE (shV c s.bal ws) = 0 := by simpa [shE, hl, hb] using h1
 obtain ⟨r1, r2, r3⟩ := sumE_zero hs
 exact ⟨hl, hb, hs, by simp [shN, hl, hb, r3]⟩
theorem lv_open {s : LedV} {c amt : Int} {ws : List Int} (h : lvE s c amt ws = 0) : shE s c ws = 0 ∧ amtBad amt = false ∧ decide (amt > (shV c s.bal ws).sum) = false := by
 have h1 : shE s c ws = 0 := by
  simp only [lvE] at h
  cases e : shE s c ws != 0 with
  | true => rw [e] at h; simp only [cond_true] at h; exact h
  | false => simpa using e
 obtain ⟨hl, hb, hs, hn⟩ := sh_open h1
 have h2 : boE 3 c amt (shV c s.bal ws).sum ws (shV c s.bal ws) = 0 := by
  have e : (shE s c ws != 0) = false := by simp [h1]
  simpa only [lvE, e, cond_false, hn] using h
 have ha : amtBad amt = false := by
  cases e : amtBad amt with
  | false => rfl
  | true => simp [boE, e] at h2
 refine ⟨h1, ha, ?_⟩
 cases e : decide (amt > (shV c s.bal ws).sum) with
 | false => rfl
 | true => simp only [boE, ha, e, cond_true, cond_false] at h2; cases h2
theorem lv_facts {s : LedV} {c amt : Int} {ws : List Int} (h : lvE s c amt ws = 0) : LvF s c amt ws := by
 obtain ⟨h1, h2, h3⟩ := lv_open h
 obtain ⟨hl, hb, hs, hn⟩ := sh_open h1
 exact lvF_of hl hb hs h2 h3
def bG (c amt : Int) (ws ps : List Int) : List LegV := bTl 3 c ws ps ps.length ++ [lossL c amt]
theorem bLeg_in {c : Int} {ws ps : List Int} {y : LegV} : y ∈ bTl 3 c ws ps ps.length ↔ ∃ i, i < ps.length ∧ y = bLeg 3 c ws ps i := by
 simp only [bTl, List.mem_map, List.mem_range]
 constructor
 ·rintro ⟨i, h1, h2⟩; exact ⟨i, h1, h2.symm⟩
 ·rintro ⟨i, h1, h2⟩; exact ⟨i, h1, h2.symm⟩
theorem bG_asc {c amt : Int} {ws ps : List Int} (hw : whosOk ws = true) (hl : ps.length = ws.length) : Asc (bG c amt ws ps) := by
 rw [bG, Asc, List.pairwise_append]
 refine ⟨?_, by simp, fun x hx y hy => ?_⟩
 ·rw [bTl, List.pairwise_map]
  refine (List.pairwise_lt_range (n := ps.length)).imp_of_mem fun {a b} ha hb h => ?_
  rw [List.mem_range] at ha hb
  exact acLt_iff.2 (.inr ⟨rfl, .inl (whos_lt hw h (by omega))⟩)
 ·obtain ⟨i, hi, rfl⟩ := bLeg_in.1 hx
  rw [List.mem_singleton.1 hy]
  exact acLt_iff.2 (.inl (by show (3 : Int) < 6; decide))
theorem ng_eq {p : Int} (h : 0 ≤ p) (h1 : p ≤ 4611686018427387904) : ngW p = -p := by
 rw [ngW, wrapI (by omega) (by omega)]; omega
theorem bG_ok {s : LedV} {c amt : Int} {ws : List Int} (h : LvF s c amt ws) : (bG c amt ws (splitV amt (shV c s.bal ws))).all legOk = true := by
 rw [bG, List.all_append, Bool.and_eq_true]
 constructor
 ·rw [List.all_eq_true]
  intro y hy
  obtain ⟨i, hi, rfl⟩ := bLeg_in.1 hy
  have hi2 : i < ws.length := by rw [← h.len]; exact hi
  have hb := whos_get h.who hi2
  have hw := h.w0 _ (getD_mem (p := shV c s.bal ws) (k := i) (by rw [shV_len]; exact hi2))
  have hp := (h.pw i).resolve_right (by omega)
  have hp0 := h.p0 i
  simp only [legOk, bLeg, Bool.and_eq_true]
  refine ⟨fAc_ok (.inr rfl) ⟨hb.1, hb.2.1⟩ h.cur, ?_⟩
  rw [ng_eq hp0 (by omega)]
  exact rt_of (by omega) (by omega)
 ·have := h.a0
  have := h.a1
  simp only [List.all_cons, List.all_nil, Bool.and_true, legOk, lossL, loss_ok h.cur, Bool.true_and]
  exact rt_of (by omega) (by omega)
theorem sumA_front (a : AcV) (x : LegV) (T : List LegV) : sumA a (x :: T) = sumA a (T ++ [x]) := by
 rw [sumA_app]; simp only [sumA]; omega
theorem lv_join {s : LedV} {c amt : Int} {ws : List Int} (h : LvF s c amt ws) :
  joinR (boL 3 c amt ws (splitV amt (shV c s.bal ws))) = 0 ∧ joinV (boL 3 c amt ws (splitV amt (shV c s.bal ws))) = (bG c amt ws (splitV amt (shV c s.bal ws))).filter fun y => y.amt != 0 := by
 have ha := bG_asc (c := c) (amt := amt) h.who h.len
 have hk := bG_ok h
 have hj := join_asc ha hk
 have hk2 : (boL 3 c amt ws (splitV amt (shV c s.bal ws))).all legOk = true := by
  rw [bG, List.all_append, Bool.and_eq_true] at hk
  rw [boL, bAll, List.all_cons, hk.1]
  have := hk.2
  simp only [List.all_cons, List.all_nil, Bool.and_true] at this
  rw [this]; rfl
 have hs := same_join hk2 hk fun a => sumA_front a _ _
 exact ⟨by rw [hs.1]; exact hj.1, by rw [hs.2]; exact hj.2⟩
theorem lv_yes {s : LedV} {c amt : Int} {ws : List Int} (h1 : shE s c ws = 0) (h2 : amtBad amt = false) (h3 : decide (amt > (shV c s.bal ws).sum) = false) : lvE s c amt ws = 0 := by
 obtain ⟨hl, hb, hs, hn⟩ := sh_open h1
 have hF := lvF_of hl hb hs h2 h3
 have e : (shE s c ws != 0) = false := by simp [h1]
 have e2 : (splitE amt (shV c s.bal ws) != 0) = false := by simp [hF.spe]
 simp only [lvE, e, cond_false, hn, boE, h2, h3, e2]
 exact (lv_join hF).1
theorem lvV_eq {s : LedV} {c amt : Int} {ws : List Int} (h : lvE s c amt ws = 0) : lvV s c amt ws = (bG c amt ws (splitV amt (shV c s.bal ws))).filter fun y => y.amt != 0 := by
 have hF := lv_facts h
 have h1 : (shE s c ws != 0) = false := by
  cases e : shE s c ws != 0 with
  | false => rfl
  | true => simp only [lvE, e, cond_true] at h; simp [h] at e
 simp only [lvE, h1, cond_false] at h
 have h2 : amtBad amt = false := by
  cases e : amtBad amt with
  | false => rfl
  | true => simp [boE, e] at h
 have h3 : decide (amt > shN s c ws) = false := by
  cases e : decide (amt > shN s c ws) with
  | false => rfl
  | true => simp only [boE, h2, e, cond_true, cond_false] at h; cases h
 have h4 : (splitE amt (shV c s.bal ws) != 0) = false := by simp [hF.spe]
 simp only [lvV, h1, boV, h2, h3, h4, cond_false]
 exact (lv_join hF).2
theorem lvV_bad {s : LedV} {c amt : Int} {ws : List Int} (h : lvE s c amt ws ≠ 0) : lvV s c amt ws = [] := by
 cases h1 : shE s c ws != 0 with
 | true => simp only [lvV, h1, cond_true]
 | false =>
  simp only [lvE, h1, cond_false] at h
  simp only [lvV, h1, cond_false, boV]
  simp only [boE] at h
  cases h2 : amtBad amt with
  | true => rfl
  | false =>
   cases h3 : decide (amt > shN s c ws) with
   | true => rfl
   | false =>
    cases h4 : splitE amt (shV c s.bal ws) != 0 with
    | true => rfl
    | false =>
     simp only [h2, h3, h4, cond_false] at h ⊢
     simp only [joinV, show (joinR (boL 3 c amt ws (splitV amt (shV c s.bal ws))) == 0) = false by simpa using h, cond_false]
theorem lvV_len (s : LedV) (c amt : Int) (ws : List Int) : (lvV s c amt ws).length ≤ ws.length + 1 := by
 by_cases h : lvE s c amt ws = 0
 ·rw [lvV_eq h]
  have h1 := List.length_filter_le (fun y : LegV => y.amt != 0) (bG c amt ws (splitV amt (shV c s.bal ws)))
  have h2 : (bG c amt ws (splitV amt (shV c s.bal ws))).length = ws.length + 1 := by
   rw [bG, List.length_append, bTl_len, (lv_facts h).len]; rfl
  omega
 ·rw [lvV_bad h]; simp
def brF (w n : Int) (x : LegV) : Int := bif x.ac.kind == 3 && x.ac.who == w then IntKind.wrap .i64 (n - x.amt) else n
def brW (w : Int) (l : List LegV) : Int := l.foldl (brF w) 0
def brs (L : List LegV) (ws : List Int) : List Int := ws.map fun w => brW w L
theorem wk21e : lvE ⟨0, [⟨⟨1, 0, 0⟩, -40⟩, ⟨⟨3, 1, 0⟩, 30⟩, ⟨⟨3, 2, 0⟩, 10⟩]⟩ 0 10 [1, 2, 3] = 0 := by
 have hg : Good ⟨0, [⟨⟨1, 0, 0⟩, -40⟩, ⟨⟨3, 1, 0⟩, 30⟩, ⟨⟨3, 2, 0⟩, 10⟩]⟩ := (ledOk_iff _).1 (by decide)
 have h1 : shE ⟨0, [⟨⟨1, 0, 0⟩, -40⟩, ⟨⟨3, 1, 0⟩, 30⟩, ⟨⟨3, 2, 0⟩, 10⟩]⟩ 0 [1, 2, 3] = 0 := by
  have hl := (ledE_iff _).2 hg
  simp only [shE, hl]
  decide
 exact lv_yes h1 (by decide) (by decide)
theorem wk21 : lvV ⟨0, [⟨⟨1, 0, 0⟩, -40⟩, ⟨⟨3, 1, 0⟩, 30⟩, ⟨⟨3, 2, 0⟩, 10⟩]⟩ 0 10 [1, 2, 3] = [⟨⟨3, 1, 0⟩, -8⟩, ⟨⟨3, 2, 0⟩, -2⟩, ⟨⟨6, 0, 0⟩, 10⟩] := by
 rw [lvV_eq wk21e]
 rfl
def bS : List LegV → Int
 | [] => 0
 | y :: l => (bif y.ac.kind == 6 then 0 else - y.amt) + bS l
end Go.Proofs.YtjkfadaedgidpaaGreat
namespace Go.Proofs.YtjkfadaedgidpaaGreat
open Go.RowKit
set_option linter.unusedVariables false
set_option linter.unusedSimpArgs false
def ndV (r : RollV) (ws : List Int) : List Int := ws.map fun w => (findX MemV.no w zMem r.mems).need
theorem ndV_snoc (r : RollV) (ws : List Int) (w : Int) : ndV r (ws ++ [w]) = ndV r ws ++ [(findX MemV.no w zMem r.mems).need] := by simp [ndV]
theorem ndV_len (r : RollV) (ws : List Int) : (ndV r ws).length = ws.length := by simp [ndV]
def nsE (r : RollV) (ws : List Int) : Int := bif rollE r != 0 then rollE r else bif !whosOk ws then 3 else sumE (ndV r ws)
def nsN (r : RollV) (ws : List Int) : Int := bif rollE r != 0 then 0 else bif !whosOk ws then 0 else sumV (ndV r ws)
def aqE (r : RollV) (c amt : Int) (ws : List Int) : Int := bif nsE r ws != 0 then nsE r ws else bif !curOk c then 3 else boE 2 c amt (nsN r ws) ws (ndV r ws)
def aqV (r : RollV) (c amt : Int) (ws : List Int) : List LegV := bif nsE r ws != 0 then [] else bif !curOk c then [] else boV 2 c amt (nsN r ws) ws (ndV r ws)
theorem memR_all {p : Option MemV} : ∀ {l : List MemV}, chk memOk MemV.no p l = true → ∀ x ∈ l, memOk x = true
 | [], _, x, hx => by simp at hx
 | y :: l, h, x, hx => by
  simp only [chk, Bool.and_eq_true] at h
  rcases List.mem_cons.1 hx with rfl | hx
  ·exact h.1.1
  ·exact memR_all h.2 x hx
theorem findM_or {n : Int} : ∀ {l : List MemV}, (hasX MemV.no n l = true ∧ findX MemV.no n zMem l ∈ l) ∨ findX MemV.no n zMem l = zMem
 | [] => .inr rfl
 | x :: l => by
  cases hx : x.no == n with
  | true => left; simp only [hasX, findX, hx, cond_true]; simp
  | false =>
   simp only [hasX, findX, hx, cond_false, Bool.false_or]
   rcases findM_or (n := n) (l := l) with g | g
   ·exact .inl ⟨g.1, List.mem_cons_of_mem _ g.2⟩
   ·exact .inr g
theorem need_bnd {r : RollV} (h : rollE r = 0) (n : Int) : 0 ≤ (findX MemV.no n zMem r.mems).need ∧ (findX MemV.no n zMem r.mems).need ≤ 4611686018427387904 := by
 have hr : rollOk r = true := by
  cases e : rollOk r with
  | true => rfl
  | false => simp [rollE, e] at h
 simp only [rollOk, Bool.and_eq_true] at hr
 rcases findM_or (n := n) (l := r.mems) with g | g
 ·have := memR_all hr.1.1 _ g.2
  simp only [memOk, List.all_cons, List.all_nil, Bool.and_true, Bool.and_eq_true, decide_eq_true_eq] at this
  have h2 := rt_le this.1.2
  omega
 ·rw [g]; simp [zMem]
structure BoF (k c amt : Int) (ws g : List Int) : Prop where
 kk : k = 2 ∨ k = 3
 cur : curOk c = true
 who : whosOk ws = true
 glen : g.length = ws.length
 a0 : 0 ≤ amt
 a1 : amt ≤ 4611686018427387904
 w0 : ∀ x ∈ g, 0 ≤ x ∧ x ≤ 4611686018427387904
 sre : sRE amt g = 0
 spe : splitE amt g = 0
 len : (splitV amt g).length = ws.length
 p0 : ∀ i, 0 ≤ (splitV amt g).getD i 0
 pw : ∀ i, i < ws.length → (splitV amt g).getD i 0 ≤ g.getD i 0
 ps : (splitV amt g).sum = amt
theorem boF_of {k c amt : Int} {ws g : List Int} (hk : k = 2 ∨ k = 3) (hc : curOk c = true) (hw : whosOk ws = true) (hgl : g.length = ws.length) (hW : ∀ x ∈ g, 0 ≤ x ∧ x ≤ 4611686018427387904) (ha : amtBad amt = false) (hm : decide (amt > g.sum) = false) : BoF k c amt ws g := by
 simp only [amtBad, List.all_cons, List.all_nil, Bool.and_true, Bool.or_eq_false_iff, decide_eq_false_iff_not, Bool.not_eq_false'] at ha
 have hab := rt_le ha.2
 have hle := of_decide_eq_false hm
 have hfew := whos_few hw
 have hre : sRE amt g = 0 := sRE_may ⟨⟨by omega, by omega⟩, hW, by omega⟩
 have hsn := sumNN fun x hx => (hW x hx).1
 have hp : splitE amt g = 0 := by
  rcases Nat.eq_zero_or_pos (sN g) with hS | hS
  ·rw [splitE_zero hre hS, show (amt == 0) = true by simp; omega]; rfl
  ·exact splitE_prt hre hS
 have hpl := split_len hre hp
 have hg0 : ∀ i, i < ws.length → 0 ≤ g.getD i 0 := fun i hi => (hW _ (getD_mem (by omega))).1
 refine ⟨hk, hc, hw, hgl, by omega, by omega, hW, hre, hp, by omega, fun i => ?_, fun i hi => ?_, ?_⟩
 ·rcases Nat.eq_zero_or_pos (sN g) with hS | hS
  ·rw [splitV_zero hre hS (by omega), zeros_get]; exact Int.le_refl _
  ·rw [splitV_prt hre hS]; exact prt_nn _ _ _
 ·rcases Nat.eq_zero_or_pos (sN g) with hS | hS
  ·rw [splitV_zero hre hS (by omega), zeros_get]; exact hg0 i hi
  ·rw [splitV_prt hre hS]; exact prt_cap hS (by omega) (hg0 i hi)
 ·rcases Nat.eq_zero_or_pos (sN g) with hS | hS
  ·rw [splitV_zero hre hS (by omega)]; simp [zerosI]; omega
  ·rw [splitV_prt hre hS, prt_sum hS]; omega
def aG (k c amt : Int) (ws ps : List Int) : List LegV := bTl k c ws ps ps.length ++ [lossL c amt]
theorem aLeg_in {k c : Int} {ws ps : List Int} {y : LegV} : y ∈ bTl k c ws ps ps.length ↔ ∃ i, i < ps.length ∧ y = bLeg k c ws ps i := by
 simp only [bTl, List.mem_map, List.mem_range]
 constructor
 ·rintro ⟨i, h1, h2⟩; exact ⟨i, h1, h2.symm⟩
 ·rintro ⟨i, h1, h2⟩; exact ⟨i, h1, h2.symm⟩
theorem aG_asc {k c amt : Int} {ws g : List Int} (h : BoF k c amt ws g) : Asc (aG k c amt ws (splitV amt g)) := by
 rw [aG, Asc, List.pairwise_append]
 refine ⟨?_, by simp, fun x hx y hy => ?_⟩
 ·rw [bTl, List.pairwise_map]
  refine (List.pairwise_lt_range (n := (splitV amt g).length)).imp_of_mem fun {a b} ha hb hlt => ?_
  rw [List.mem_range] at ha hb
  exact acLt_iff.2 (.inr ⟨rfl, .inl (whos_lt h.who hlt (by rw [← h.len]; omega))⟩)
 ·obtain ⟨i, hi, rfl⟩ := aLeg_in.1 hx
  rw [List.mem_singleton.1 hy]
  refine acLt_iff.2 (.inl ?_)
  show k < 6
  have := h.kk; omega
theorem aG_ok {k c amt : Int} {ws g : List Int} (h : BoF k c amt ws g) : (aG k c amt ws (splitV amt g)).all legOk = true := by
 rw [aG, List.all_append, Bool.and_eq_true]
 constructor
 ·rw [List.all_eq_true]
  intro y hy
  obtain ⟨i, hi, rfl⟩ := aLeg_in.1 hy
  have hi2 : i < ws.length := by rw [← h.len]; exact hi
  have hb := whos_get h.who hi2
  have hw := h.w0 _ (getD_mem (p := g) (k := i) (by rw [h.glen]; exact hi2))
  have hp := h.pw i hi2
  have hp0 := h.p0 i
  simp only [legOk, bLeg, Bool.and_eq_true]
  refine ⟨fAc_ok h.kk ⟨hb.1, hb.2.1⟩ h.cur, ?_⟩
  rw [ng_eq hp0 (by omega)]
  exact rt_of (by omega) (by omega)
 ·have := h.a0
  have := h.a1
  simp only [List.all_cons, List.all_nil, Bool.and_true, legOk, lossL, loss_ok h.cur, Bool.true_and]
  exact rt_of (by omega) (by omega)
theorem a_join {k c amt : Int} {ws g : List Int} (h : BoF k c amt ws g) :
  joinR (boL k c amt ws (splitV amt g)) = 0 ∧ joinV (boL k c amt ws (splitV amt g)) = (aG k c amt ws (splitV amt g)).filter fun y => y.amt != 0 := by
 have ha := aG_asc h
 have hk := aG_ok h
 have hj := join_asc ha hk
 have hk2 : (boL k c amt ws (splitV amt g)).all legOk = true := by
  rw [aG, List.all_append, Bool.and_eq_true] at hk
  rw [boL, bAll, List.all_cons, hk.1]
  have := hk.2
  simp only [List.all_cons, List.all_nil, Bool.and_true] at this
  rw [this]; rfl
 have hs := same_join hk2 hk fun a => sumA_front a _ _
 exact ⟨by rw [hs.1]; exact hj.1, by rw [hs.2]; exact hj.2⟩
theorem as_open {r : RollV} {c amt : Int} {ws : List Int} (h : aqE r c amt ws = 0) : rollE r = 0 ∧ whosOk ws = true ∧ curOk c = true ∧ amtBad amt = false ∧ decide (amt > (ndV r ws).sum) = false ∧ nsE r ws = 0 ∧ nsN r ws = (ndV r ws).sum := by
 have h1 : nsE r ws = 0 := by
  simp only [aqE] at h
  cases e : nsE r ws != 0 with
  | true => rw [e] at h; simpa only [cond_true] using h
  | false => simpa using e
 have e1 : (nsE r ws != 0) = false := by simp [h1]
 have h2 : rollE r = 0 := by
  simp only [nsE] at h1
  cases e : rollE r != 0 with
  | true => rw [e] at h1; simpa only [cond_true] using h1
  | false => simpa using e
 have h3 : whosOk ws = true := by
  cases e : whosOk ws with
  | true => rfl
  | false => simp [nsE, h2, e] at h1
 have h4 : sumE (ndV r ws) = 0 := by simpa [nsE, h2, h3] using h1
 have h5 : curOk c = true := by
  cases e : curOk c with
  | true => rfl
  | false => simp [aqE, e1, e] at h
 obtain ⟨r1, r2, r3⟩ := sumE_zero h4
 have h6 : nsN r ws = (ndV r ws).sum := by simp [nsN, h2, h3, r3]
 have h7 : boE 2 c amt (ndV r ws).sum ws (ndV r ws) = 0 := by simpa only [aqE, e1, h5, Bool.not_true, cond_false, h6] using h
 have h8 : amtBad amt = false := by
  cases e : amtBad amt with
  | false => rfl
  | true => simp [boE, e] at h7
 refine ⟨h2, h3, h5, h8, ?_, h1, h6⟩
 cases e : decide (amt > (ndV r ws).sum) with
 | false => rfl
 | true => simp only [boE, h8, e, cond_true, cond_false] at h7; cases h7
theorem as_facts {r : RollV} {c amt : Int} {ws : List Int} (h : aqE r c amt ws = 0) : BoF 2 c amt ws (ndV r ws) := by
 obtain ⟨h1, h2, h3, h4, h5, _, _⟩ := as_open h
 refine boF_of (.inl rfl) h3 h2 (ndV_len r ws) (fun x hx => ?_) h4 h5
 obtain ⟨w, _, rfl⟩ := List.mem_map.1 hx
 exact need_bnd h1 w
theorem aqV_eq {r : RollV} {c amt : Int} {ws : List Int} (h : aqE r c amt ws = 0) : aqV r c amt ws = (aG 2 c amt ws (splitV amt (ndV r ws))).filter fun y => y.amt != 0 := by
 obtain ⟨h1, h2, h3, h4, h5, h6, h7⟩ := as_open h
 have hF := as_facts h
 have e1 : (nsE r ws != 0) = false := by simp [h6]
 have e2 : (splitE amt (ndV r ws) != 0) = false := by simp [hF.spe]
 simp only [aqV, e1, h3, Bool.not_true, cond_false, h7, boV, h4, h5, e2]
 exact (a_join hF).2
theorem aqV_bad {r : RollV} {c amt : Int} {ws : List Int} (h : aqE r c amt ws ≠ 0) : aqV r c amt ws = [] := by
 cases h1 : nsE r ws != 0 with
 | true => simp only [aqV, h1, cond_true]
 | false =>
  cases h0 : curOk c with
  | false => simp only [aqV, h1, h0, Bool.not_false, cond_true, cond_false]
  | true =>
   simp only [aqE, h1, h0, Bool.not_true, cond_false] at h
   simp only [aqV, h1, h0, Bool.not_true, cond_false, boV]
   simp only [boE] at h
   cases h2 : amtBad amt with
   | true => rfl
   | false =>
    cases h3 : decide (amt > nsN r ws) with
    | true => rfl
    | false =>
     cases h4 : splitE amt (ndV r ws) != 0 with
     | true => rfl
     | false =>
      simp only [h2, h3, h4, cond_false] at h ⊢
      simp only [joinV, show (joinR (boL 2 c amt ws (splitV amt (ndV r ws))) == 0) = false by simpa using h, cond_false]
theorem aqV_len (r : RollV) (c amt : Int) (ws : List Int) : (aqV r c amt ws).length ≤ ws.length + 1 := by
 by_cases h : aqE r c amt ws = 0
 ·rw [aqV_eq h]
  have h1 := List.length_filter_le (fun y : LegV => y.amt != 0) (aG 2 c amt ws (splitV amt (ndV r ws)))
  have h2 : (aG 2 c amt ws (splitV amt (ndV r ws))).length = ws.length + 1 := by
   rw [aG, List.length_append, bTl_len, (as_facts h).len]; rfl
  omega
 ·rw [aqV_bad h]; simp
end Go.Proofs.YtjkfadaedgidpaaGreat
namespace Go.Proofs.YtjkfadaedgidpaaGreat
open Go.RowKit
set_option linter.unusedVariables false
set_option linter.unusedSimpArgs false
structure FdV where
 who : Int
 cur : Int
 amount : Int
def fdueC (d : FdV) : List D := [iv d.who, iv d.cur, iv d.amount]
def fds (l : List FdV) : D := .sl 3 (l.map fdueC)
def lkN (bal : List LegV) (c : Int) (m : MemV) : Int := if (0 : Int) > IntKind.wrap .i64 (m.need - ofL (fAc 3 m.no c) bal) then 0 else IntKind.wrap .i64 (m.need - ofL (fAc 3 m.no c) bal)
def chN (bal : List LegV) (c : Int) (m : MemV) : Int := if (0 : Int) > ofL (fAc 2 m.no c) bal then 0 else ofL (fAc 2 m.no c) bal
def pyN (bal : List LegV) (c : Int) (m : MemV) : Int := if chN bal c m < lkN bal c m then chN bal c m else lkN bal c m
theorem py_eq (bal : List LegV) (c : Int) (m : MemV) : (if chN bal c m < lkN bal c m then chN bal c m else lkN bal c m) = pyN bal c m := rfl
def rfL1 (bal : List LegV) (c : Int) (m : MemV) : List LegV := bif m.state != 1 then [] else moveL (fAc 2 m.no c) (fAc 3 m.no c) (pyN bal c m)
def rfD1 (bal : List LegV) (c : Int) (m : MemV) : List FdV := bif m.state != 1 then [] else bif decide (lkN bal c m > pyN bal c m) then [⟨m.no, c, IntKind.wrap .i64 (lkN bal c m - pyN bal c m)⟩] else []
def rfLs (bal : List LegV) (c : Int) (ms : List MemV) : List LegV := ms.flatMap (rfL1 bal c)
def rfDs (bal : List LegV) (c : Int) (ms : List MemV) : List FdV := ms.flatMap (rfD1 bal c)
theorem rfLs_snoc (bal : List LegV) (c : Int) (ms : List MemV) (m : MemV) : rfLs bal c (ms ++ [m]) = rfLs bal c ms ++ rfL1 bal c m := by simp [rfLs]
theorem rfDs_snoc (bal : List LegV) (c : Int) (ms : List MemV) (m : MemV) : rfDs bal c (ms ++ [m]) = rfDs bal c ms ++ rfD1 bal c m := by simp [rfDs]
theorem rfLs_len (bal : List LegV) (c : Int) (ms : List MemV) : (rfLs bal c ms).length ≤ 2 * ms.length := by
 induction ms with
 | nil => simp [rfLs]
 | cons m ms ih =>
  simp only [rfLs, List.flatMap_cons, List.length_append, List.length_cons] at ih ⊢
  have : (rfL1 bal c m).length ≤ 2 := by
   simp only [rfL1]
   cases m.state != 1 <;> simp [moveL]
  omega
theorem rfDs_len (bal : List LegV) (c : Int) (ms : List MemV) : (rfDs bal c ms).length ≤ ms.length := by
 induction ms with
 | nil => simp [rfDs]
 | cons m ms ih =>
  simp only [rfDs, List.flatMap_cons, List.length_append, List.length_cons] at ih ⊢
  have : (rfD1 bal c m).length ≤ 1 := by
   simp only [rfD1]
   cases m.state != 1 with
   | true => simp
   | false => cases decide (lkN bal c m > pyN bal c m) <;> simp
  omega
def rfE (s : LedV) (r : RollV) (c : Int) : Int := bif ledE s != 0 then ledE s else bif rollE r != 0 then rollE r else bif !curOk c then 3 else joinR (rfLs s.bal c r.mems)
def rfV (s : LedV) (r : RollV) (c : Int) : List LegV := bif rfE s r c != 0 then [] else joinV (rfLs s.bal c r.mems)
def rfU (s : LedV) (r : RollV) (c : Int) : List FdV := bif rfE s r c != 0 then [] else rfDs s.bal c r.mems
theorem mem_asc : ∀ {p : Option MemV} {l : List MemV}, chk memOk MemV.no p l = true → l.Pairwise (fun a b => a.no < b.no) ∧ ∀ y, p = some y → ∀ x ∈ l, y.no < x.no
 | _, [], _ => ⟨List.Pairwise.nil, fun _ _ _ hx => by cases hx⟩
 | p, x :: l, h => by
  simp only [chk, Bool.and_eq_true] at h
  obtain ⟨⟨h1, h2⟩, h3⟩ := h
  obtain ⟨i1, i2⟩ := mem_asc h3
  have hx := i2 x rfl
  refine ⟨List.pairwise_cons.2 ⟨hx, i1⟩, fun y hy z hz => ?_⟩
  subst hy
  simp only [Bool.not_eq_true', decide_eq_false_iff_not] at h2
  rcases List.mem_cons.1 hz with rfl | hz
  ·omega
  ·have := hx z hz; omega
theorem mem_few : ∀ {l : List MemV} {lo : Int}, 0 ≤ lo → lo ≤ 16 → (∀ x ∈ l, lo < x.no ∧ x.no ≤ 16) → l.Pairwise (fun a b => a.no < b.no) → (l.length : Int) ≤ 16 - lo
 | [], lo, h0, h1, _, _ => by simp; omega
 | x :: l, lo, h0, h1, h, hp => by
  have hx := h x (by simp)
  have hp2 := List.pairwise_cons.1 hp
  have := mem_few (l := l) (lo := x.no) (by omega) hx.2 (fun y hy => ⟨hp2.1 y hy, (h y (by simp [hy])).2⟩) hp2.2
  simp only [List.length_cons]; omega
theorem roll_mems {r : RollV} (h : rollE r = 0) : r.mems.Pairwise (fun a b => a.no < b.no) ∧ (∀ m ∈ r.mems, memOk m = true) ∧ r.mems.length ≤ 16 := by
 have hr : rollOk r = true := by
  cases e : rollOk r with
  | true => rfl
  | false => simp [rollE, e] at h
 simp only [rollOk, Bool.and_eq_true] at hr
 have ha := (mem_asc hr.1.1).1
 have hk := memR_all hr.1.1
 refine ⟨ha, hk, ?_⟩
 have := mem_few (l := r.mems) (lo := 0) (by omega) (by omega) (fun x hx => ?_) ha
 ·omega
 ·have := hk x hx
  simp only [memOk, inR, Bool.and_eq_true, decide_eq_true_eq] at this
  omega
structure MF (bal : List LegV) (c : Int) (m : MemV) : Prop where
 no : 1 ≤ m.no ∧ m.no ≤ 16
 need : 0 ≤ m.need ∧ m.need ≤ 4611686018427387904
 had : 0 ≤ ofL (fAc 3 m.no c) bal ∧ ofL (fAc 3 m.no c) bal ≤ 4611686018427387904
 cash : -4611686018427387904 ≤ ofL (fAc 2 m.no c) bal ∧ ofL (fAc 2 m.no c) bal ≤ 4611686018427387904
 lk : (m.need ≤ ofL (fAc 3 m.no c) bal ∧ lkN bal c m = 0) ∨ (ofL (fAc 3 m.no c) bal < m.need ∧ lkN bal c m = m.need - ofL (fAc 3 m.no c) bal)
 ch : (ofL (fAc 2 m.no c) bal ≤ 0 ∧ chN bal c m = 0) ∨ (0 < ofL (fAc 2 m.no c) bal ∧ chN bal c m = ofL (fAc 2 m.no c) bal)
 py : (chN bal c m < lkN bal c m ∧ pyN bal c m = chN bal c m) ∨ (lkN bal c m ≤ chN bal c m ∧ pyN bal c m = lkN bal c m)
theorem mf_of {s : LedV} {c : Int} {m : MemV} (hg : Good s) (hc : curOk c = true) (hm : memOk m = true) : MF s.bal c m := by
 simp only [memOk, inR, List.all_cons, List.all_nil, Bool.and_true, Bool.and_eq_true, decide_eq_true_eq] at hm
 obtain ⟨⟨⟨h1, _⟩, h3⟩, h4⟩ := hm
 have h5 := rt_le h3
 have hf := fAc_ok (k := 3) (w := m.no) (.inr rfl) ⟨by omega, by omega⟩ hc
 have e3 := ofL_sum (a := fAc 3 m.no c) hg.asc
 have e2 := ofL_sum (a := fAc 2 m.no c) hg.asc
 have f3 := good_fl hg (fAc 3 m.no c)
 have r3 := rt_le (good_rt hg (fAc 3 m.no c))
 have r2 := rt_le (good_rt hg (fAc 2 m.no c))
 have hfl : flo (fAc 3 m.no c) = 0 := by simp only [flo, hf, Bool.true_and]; rfl
 have hw : IntKind.wrap .i64 (m.need - ofL (fAc 3 m.no c) s.bal) = m.need - ofL (fAc 3 m.no c) s.bal := wrapI (by omega) (by omega)
 refine ⟨⟨by omega, by omega⟩, ⟨by omega, by omega⟩, ⟨by omega, by omega⟩, ⟨by omega, by omega⟩, ?_, ?_, ?_⟩
 ·simp only [lkN, hw]; split <;> omega
 ·simp only [chN]; split <;> omega
 ·simp only [pyN]; split <;> omega
theorem MF.pb {bal : List LegV} {c : Int} {m : MemV} (h : MF bal c m) : 0 ≤ pyN bal c m ∧ pyN bal c m ≤ lkN bal c m ∧ lkN bal c m ≤ 4611686018427387904 := by
 have h1 := h.need; have h2 := h.had; have h3 := h.cash; have h4 := h.lk; have h5 := h.ch; have h6 := h.py
 omega
theorem MF.legs {bal : List LegV} {c : Int} {m : MemV} (h : MF bal c m) : rfL1 bal c m = bif m.state != 1 then [] else [⟨fAc 2 m.no c, - pyN bal c m⟩, ⟨fAc 3 m.no c, pyN bal c m⟩] := by
 have hp := h.pb
 have hr : rightN (pyN bal c m) = true := rt_of (by omega) (by omega)
 simp only [rfL1, moveL, hr, cond_true]
 rw [show (0 : Int) - pyN bal c m = - pyN bal c m by omega]
theorem sumA_two {a b1 b2 : AcV} {n1 n2 : Int} : sumA a [⟨b1, n1⟩, ⟨b2, n2⟩] = (bif acSame b1 a then n1 else 0) + (bif acSame b2 a then n2 else 0) := by
 simp only [sumA]; omega
theorem joinV_length (l : List LegV) : (joinV l).length ≤ l.length := by
 simp only [joinV]
 cases (joinR l == 0) with
 | false => simp
 | true => have := joinO_len (legSort l); rw [legSort_len] at this; exact this
def rfT (s : LedV) (r : RollV) (c : Int) : LedV := bif (rfV s r c).isEmpty then s else postV s (s.last + 1) (rfV s r c)
end Go.Proofs.YtjkfadaedgidpaaGreat
namespace Go.Proofs.YtjkfadaedgidpaaGreat
open Go.RowKit
set_option linter.unusedVariables false
set_option linter.unusedSimpArgs false
def spoilFd (d : FdV) : FdV := ⟨-77, d.cur, d.amount⟩
theorem cur_in (c : Int) : inR c 0 2 = curOk c := by
 rw [Bool.eq_iff_iff]; simp only [inR, curOk, Bool.and_eq_true, decide_eq_true_eq]; omega
theorem amt_in (a : Int) : inR a 0 4611686018427387904 = !amtBad a := by
 rw [Bool.eq_iff_iff]
 simp only [inR, amtBad, rightN, List.all_cons, List.all_nil, Bool.and_true, Bool.and_eq_true, decide_eq_true_eq, Bool.not_or, Bool.not_not, Bool.not_eq_true', Bool.or_eq_false_iff, decide_eq_false_iff_not]; omega
theorem who_in (l : List Int) (i : Nat) : whoBad l i = (!inR (l.getD i 0) 1 16 || (decide ((i : Int) > 0) && decide (l.getD (i - 1) 0 ≥ l.getD i 0))) := by
 simp only [whoBad, inR]
 congr 1
 rw [Bool.eq_iff_iff]
 simp only [Bool.or_eq_true, decide_eq_true_eq, Bool.not_eq_true', Bool.and_eq_false_iff, decide_eq_false_iff_not]; omega
theorem led_bad {s : LedV} (h : ledOk s = false) : (ledE s != 0) = true ∧ ledE s = 14 := by simp [ledE, h]
theorem led_ok {s : LedV} (h : ledOk s = true) : (ledE s != 0) = false ∧ ledE s = 0 := by simp [ledE, h]
theorem roll_bad {r : RollV} (h : rollOk r = false) : (rollE r != 0) = true ∧ rollE r = 14 := by simp [rollE, h]
theorem roll_ok {r : RollV} (h : rollOk r = true) : (rollE r != 0) = false ∧ rollE r = 0 := by simp [rollE, h]
theorem sum_all {l : List Int} (h : ∀ x ∈ l, 0 ≤ x ∧ x ≤ 4611686018427387904) : (sumV l = bif rightN l.sum then l.sum else 0) ∧ (rightN l.sum = false → sumE l = 1) ∧ (rightN l.sum = true → sumE l = 0) := by
 have ha : l.all rightN = true := List.all_eq_true.2 fun x hx => by
  have := h x hx
  exact rt_of (by omega) (by omega)
 refine ⟨by simp [sumV, ha], fun e => by simp [sumE, ha, e], fun e => by simp [sumE, ha, e]⟩
theorem sh_w {s : LedV} {c : Int} {ws : List Int} (hl : ledOk s = true) (hw : whosOk ws = true) (hc : curOk c = true) : ∀ x ∈ shV c s.bal ws, 0 ≤ x ∧ x ≤ 4611686018427387904 :=
 sh_weights (led_good (led_ok hl).2) hc hw
theorem nd_w {r : RollV} {ws : List Int} (hr : rollOk r = true) : ∀ x ∈ ndV r ws, 0 ≤ x ∧ x ≤ 4611686018427387904 := fun x hx => by
 obtain ⟨w, _, rfl⟩ := List.mem_map.1 hx
 exact need_bnd (roll_ok hr).2 w
theorem sh_bad {c : Int} {ws : List Int} : shBad c ws = !(whosOk ws && curOk c) := by
 simp only [shBad]; cases curOk c <;> cases whosOk ws <;> rfl
theorem lv_spl {s : LedV} {c amt : Int} {ws : List Int} (h : (shE s c ws != 0) = false) (ha : amtBad amt = false) (hm : decide (amt > shN s c ws) = false) : splitE amt (shV c s.bal ws) = 0 := by
 have h1 : shE s c ws = 0 := by simpa using h
 obtain ⟨a1, a2, a3, a4⟩ := sh_open h1
 exact (lvF_of a1 a2 a3 ha (by rw [← a4]; exact hm)).spe
theorem sh_few {s : LedV} {c : Int} {ws : List Int} (h : (shE s c ws != 0) = false) : ws.length ≤ 16 := by
 have h1 : shE s c ws = 0 := by simpa using h
 obtain ⟨_, a2, _, _⟩ := sh_open h1
 exact whos_few (by simp only [shBad, Bool.or_eq_false_iff, Bool.not_eq_false'] at a2; exact a2.2)
theorem ns_open {r : RollV} {ws : List Int} (h : (nsE r ws != 0) = false) : rollE r = 0 ∧ whosOk ws = true ∧ sumE (ndV r ws) = 0 ∧ nsN r ws = (ndV r ws).sum := by
 have h1 : nsE r ws = 0 := by simpa using h
 simp only [nsE, nsN] at h1 ⊢
 cases he : (rollE r != 0) with
 | true => rw [he] at h1; simp only [cond_true] at h1; simp [h1] at he
 | false =>
  rw [he] at h1
  cases hw : whosOk ws with
  | false => rw [hw] at h1; simp at h1
  | true =>
   rw [hw] at h1
   simp only [cond_false, Bool.not_true] at h1 ⊢
   exact ⟨by simpa using he, trivial, h1, (sumE_zero h1).2.2⟩
theorem ns_few {r : RollV} {ws : List Int} (h : (nsE r ws != 0) = false) : ws.length ≤ 16 := whos_few (ns_open h).2.1
theorem as_spl {r : RollV} {c amt : Int} {ws : List Int} (h : (nsE r ws != 0) = false) (hc : curOk c = true) (ha : amtBad amt = false) (hm : decide (amt > nsN r ws) = false) : splitE amt (ndV r ws) = 0 := by
 obtain ⟨a1, a2, a3, a4⟩ := ns_open h
 have hr : rollOk r = true := by
  cases e : rollOk r with
  | true => rfl
  | false => simp [rollE, e] at a1
 exact (boF_of (.inl rfl) hc a2 (ndV_len r ws) (nd_w hr) ha (by rw [← a4]; exact hm)).spe
theorem sumA_L1_b {bal : List LegV} {c : Int} {m : MemV} (h : MF bal c m) (a : AcV) : (-4611686018427387904 ≤ sumA a (rfL1 bal c m) ∧ sumA a (rfL1 bal c m) ≤ 4611686018427387904) ∧ (a.who ≠ m.no → sumA a (rfL1 bal c m) = 0) := by
 have hp := h.pb
 rw [h.legs]
 cases m.state != 1 with
 | true => exact ⟨by simp [sumA], fun _ => rfl⟩
 | false =>
  rw [cond_false, sumA_two]
  cases e1 : acSame (fAc 2 m.no c) a with
  | false =>
   cases e2 : acSame (fAc 3 m.no c) a with
   | false => simp
   | true => exact ⟨by simp only [cond_true, cond_false]; omega, fun hn => absurd (congrArg AcV.who (acSame_iff.1 e2)).symm hn⟩
  | true =>
   have hk := congrArg AcV.kind (acSame_iff.1 e1)
   cases e2 : acSame (fAc 3 m.no c) a with
   | true =>
    have hk2 := congrArg AcV.kind (acSame_iff.1 e2)
    rw [← hk] at hk2; simp [fAc] at hk2
   | false => exact ⟨by simp only [cond_true, cond_false]; omega, fun hn => absurd (congrArg AcV.who (acSame_iff.1 e1)).symm hn⟩
theorem sumA_Ls_none {bal : List LegV} {c : Int} {a : AcV} : ∀ {ms : List MemV}, (∀ m ∈ ms, MF bal c m ∧ a.who ≠ m.no) → sumA a (rfLs bal c ms) = 0
 | [], _ => rfl
 | m :: ms, h => by
  have h1 := h m (by simp)
  rw [rfLs, List.flatMap_cons, sumA_app, (sumA_L1_b h1.1 a).2 h1.2, show ms.flatMap (rfL1 bal c) = rfLs bal c ms from rfl, sumA_Ls_none fun x hx => h x (by simp [hx])]; rfl
theorem sumA_Ls_b {bal : List LegV} {c : Int} (a : AcV) : ∀ {ms : List MemV}, (∀ m ∈ ms, MF bal c m) → ms.Pairwise (fun a b => a.no < b.no) → -4611686018427387904 ≤ sumA a (rfLs bal c ms) ∧ sumA a (rfLs bal c ms) ≤ 4611686018427387904
 | [], _, _ => by simp [rfLs, sumA]
 | m :: ms, h, hp => by
  have h1 := h m (by simp)
  have hb := sumA_L1_b h1 a
  have ih := sumA_Ls_b a (ms := ms) (fun x hx => h x (by simp [hx])) (List.pairwise_cons.1 hp).2
  rw [rfLs, List.flatMap_cons, sumA_app, show ms.flatMap (rfL1 bal c) = rfLs bal c ms from rfl]
  by_cases e : a.who = m.no
  ·rw [sumA_Ls_none (ms := ms) fun x hx => ⟨h x (by simp [hx]), by have := (List.pairwise_cons.1 hp).1 x hx; omega⟩]; omega
  ·rw [hb.2 e]; omega
theorem Ls_ok {bal : List LegV} {c : Int} (hc : curOk c = true) {ms : List MemV} (h : ∀ m ∈ ms, MF bal c m) : (rfLs bal c ms).all legOk = true := by
 rw [List.all_eq_true]
 intro y hy
 obtain ⟨m, hm, hy⟩ := List.mem_flatMap.1 hy
 have hF := h m hm
 have hp := hF.pb
 rw [hF.legs] at hy
 cases hs : (m.state != 1) with
 | true => rw [hs] at hy; cases hy
 | false =>
  rw [hs, cond_false] at hy
  rcases List.mem_cons.1 hy with rfl | hy
  ·simp only [legOk, fAc_ok (.inl rfl) hF.no hc, Bool.true_and]; exact rt_of (by omega) (by omega)
  ·obtain rfl := List.mem_singleton.1 hy
   simp only [legOk, fAc_ok (.inr rfl) hF.no hc, Bool.true_and]; exact rt_of (by omega) (by omega)
theorem rf_join {s : LedV} {r : RollV} {c : Int} (hl : ledOk s = true) (hr : rollOk r = true) (hc : curOk c = true) : joinR (rfLs s.bal c r.mems) = 0 := by
 obtain ⟨h1, h2, h3⟩ := roll_mems (roll_ok hr).2
 have hF : ∀ m ∈ r.mems, MF s.bal c m := fun m hm => mf_of (led_good (led_ok hl).2) hc (h2 m hm)
 exact (ref_good (Ls_ok hc hF) fun a _ => by have := sumA_Ls_b a hF h1; exact rt_of this.1 this.2).1
theorem rf_no {s : LedV} {r : RollV} {c : Int} (h : (ledOk s && rollOk r) = false) : rfE s r c = 14 ∧ rfV s r c = [] ∧ rfU s r c = [] := by
 have e : rfE s r c = 14 := by
  cases h1 : ledOk s with
  | false => simp [rfE, (led_bad h1).2]
  | true => rw [h1, Bool.true_and] at h; simp [rfE, (led_ok h1).2, (roll_bad h).2]
 exact ⟨e, by simp [rfV, e], by simp [rfU, e]⟩
theorem rf_cur {s : LedV} {r : RollV} {c : Int} (hl : ledOk s = true) (hr : rollOk r = true) (hc : curOk c = false) : rfE s r c = 3 ∧ rfV s r c = [] ∧ rfU s r c = [] := by
 have e : rfE s r c = 3 := by simp only [rfE, (led_ok hl).1, (roll_ok hr).1, hc, Bool.not_false, cond_true, cond_false]
 exact ⟨e, by simp [rfV, e], by simp [rfU, e]⟩
theorem rf_yes {s : LedV} {r : RollV} {c : Int} (hl : ledOk s = true) (hr : rollOk r = true) (hc : curOk c = true) : joinR (rfLs s.bal c r.mems) = 0 ∧ rfE s r c = 0 ∧ rfV s r c = joinV (rfLs s.bal c r.mems) ∧ rfU s r c = rfDs s.bal c r.mems := by
 have hj := rf_join (s := s) hl hr hc
 have e : rfE s r c = 0 := by simp only [rfE, (led_ok hl).1, (roll_ok hr).1, hc, Bool.not_true, cond_false, hj]
 exact ⟨hj, e, by simp [rfV, e], by simp [rfU, e]⟩
end Go.Proofs.YtjkfadaedgidpaaGreat
namespace Go.Proofs.YtjkfadaedgidpaaGreat
open Go.RowKit
theorem rfV_len (s : LedV) (r : RollV) (c : Int) : (rfV s r c).length ≤ 2 * r.mems.length := by
 have h1 := joinV_length (rfLs s.bal c r.mems)
 have h2 := rfLs_len s.bal c r.mems
 simp only [rfV]
 cases (rfE s r c != 0) <;> simp only [cond_true, cond_false, List.length_nil] <;> omega
theorem rfU_len (s : LedV) (r : RollV) (c : Int) : (rfU s r c).length ≤ r.mems.length := by
 have h2 := rfDs_len s.bal c r.mems
 simp only [rfU]
 cases (rfE s r c != 0) <;> simp only [cond_true, cond_false, List.length_nil] <;> omega
end Go.Proofs.YtjkfadaedgidpaaGreat
