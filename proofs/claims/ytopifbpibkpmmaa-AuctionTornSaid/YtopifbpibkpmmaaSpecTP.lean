/- Positions torn up: who bears how much, and what stands behind it. In plain Lean. No condition. -/
import Derived.Test.YtopifbpibkpmmaaSpecKF
import Derived.Test.YtopifbpibkpmmaaSpecU
import Derived.Test.YtopifbpibkpmmaaSpecJF
namespace Go.Proofs.Ytopifbpibkpmmaa
open Go.RowKit
set_option linter.unusedVariables false
set_option linter.unusedSimpArgs false
structure KeyV where
 who : Int
 inst : Int
def keyK (k : KeyV) : List D := [iv k.who, iv k.inst]
def tP (s n : Int) (p : PosV) : Bool := p.inst == n && decide (s * p.qty < 0)
def tF (s n : Int) (l : List PosV) : List PosV := l.filter (tP s n)
def tWt (s : Int) (p : PosV) : Int := (0 - s) * p.qty
def tWs (s : Int) (T : List PosV) : List Int := T.map (tWt s)
def tWho (T : List PosV) : List Int := T.map PosV.who
theorem tF_yes {s n : Int} {p : PosV} (h : tP s n p = true) (l : List PosV) : tF s n (l ++ [p]) = tF s n l ++ [p] := by simp [tF, h]
theorem tF_no {s n : Int} {p : PosV} (h : tP s n p = false) (l : List PosV) : tF s n (l ++ [p]) = tF s n l := by simp [tF, h]
theorem tF_len (s n : Int) (l : List PosV) : (tF s n l).length ≤ l.length := List.length_filter_le _ _
theorem sgn_cases (q : Int) : (q < 0 ∧ cmpI q 0 = -1) ∨ (q > 0 ∧ cmpI q 0 = 1) ∨ (q = 0 ∧ cmpI q 0 = 0) := by
 unfold cmpI
 by_cases h : q < 0
 ·simp [h]
 ·by_cases h2 : q > 0
  ·simp [h, h2]
  ·simp [h, h2]; omega
def sOk (s : Int) : Prop := s = -1 ∨ s = 0 ∨ s = 1
theorem sgn_ok (q : Int) : sOk (cmpI q 0) := by rcases sgn_cases q with h | h | h <;> simp [sOk, h.2]
theorem smul_b {s x : Int} (h : sOk s) (hx : -1099511627776 ≤ x ∧ x ≤ 1099511627776) : (-1099511627776 ≤ s * x ∧ s * x ≤ 1099511627776) ∧ (0 - s) * x = -(s * x) := by
 rcases h with rfl | rfl | rfl <;> omega
theorem tWt_pos {s n : Int} {p : PosV} (hs : sOk s) (h : tP s n p = true) : p.inst = n ∧ 0 < tWt s p ∧ tWt s p = -(s * p.qty) := by
 simp only [tP, Bool.and_eq_true, beq_iff_eq, decide_eq_true_eq] at h
 refine ⟨h.1, ?_⟩
 have h2 := h.2
 simp only [tWt]
 rcases hs with rfl | rfl | rfl <;> omega
theorem t_level {s n : Int} (hs : sOk s) : ∀ {l : List PosV}, ∃ o : Int, 0 ≤ o ∧ s * lF PosV.qty n l = o - (tWs s (tF s n l)).sum ∧ ∀ p ∈ l, p.inst = n → s * p.qty ≤ o
 | [] => ⟨0, by omega, by simp [lF, tF, tWs], by simp⟩
 | p :: l => by
  obtain ⟨o, h0, h1, h2⟩ := t_level (l := l) hs
  cases hi : (p.inst == n) with
  | false =>
   have ht : tP s n p = false := by simp [tP, hi]
   refine ⟨o, h0, ?_, fun q hq hn => ?_⟩
   ·simp only [lF, hi, cond_false, tF, List.filter_cons, ht, Bool.false_eq_true, if_false, Int.zero_add] at h1 ⊢; exact h1
   ·rcases List.mem_cons.1 hq with rfl | hq
    ·rw [hn] at hi; simp at hi
    ·exact h2 q hq hn
  | true =>
   cases ht : tP s n p with
   | true =>
    have hw := tWt_pos hs ht
    refine ⟨o, h0, ?_, fun q hq hn => ?_⟩
    ·simp only [lF, hi, cond_true, tF, List.filter_cons, ht, if_true, tWs, List.map_cons, List.sum_cons] at h1 ⊢
     rw [hw.2.2, Int.mul_add, h1]; omega
    ·rcases List.mem_cons.1 hq with rfl | hq
     ·have := hw.2; omega
     ·exact h2 q hq hn
   | false =>
    have hp : 0 ≤ s * p.qty := by
     simp only [tP, hi, Bool.true_and, decide_eq_false_iff_not] at ht; omega
    refine ⟨o + s * p.qty, by omega, ?_, fun q hq hn => ?_⟩
    ·simp only [lF, hi, cond_true, tF, List.filter_cons, ht, Bool.false_eq_true, if_false] at h1 ⊢
     rw [Int.mul_add, h1]; omega
    ·rcases List.mem_cons.1 hq with rfl | hq
     ·omega
     ·have := h2 q hq hn; omega
def flI (W P : List Int) (i : Nat) : List FillV := (List.range i).flatMap fun j => bif decide (P.getD j 0 > 0) then [(⟨W.getD j 0, P.getD j 0, 0⟩ : FillV)] else []
theorem flI_succ (W P : List Int) (i : Nat) : flI W P (i + 1) = flI W P i ++ (bif decide (P.getD i 0 > 0) then [(⟨W.getD i 0, P.getD i 0, 0⟩ : FillV)] else []) := by simp [flI, List.range_succ]
theorem flI_len (W P : List Int) : ∀ i, (flI W P i).length ≤ i
 | 0 => by simp [flI]
 | i + 1 => by
  have := flI_len W P i
  rw [flI_succ, List.length_append]
  cases decide (P.getD i 0 > 0) <;> simp <;> omega
def fQ (u : Int) (F : List FillV) : Int := ((F.filter fun f => f.frm == u).map FillV.qty).sum
def fS (F : List FillV) : Int := (F.map FillV.qty).sum
theorem fQ_app (u : Int) (A B : List FillV) : fQ u (A ++ B) = fQ u A + fQ u B := by simp [fQ, List.filter_append]
theorem fS_app (A B : List FillV) : fS (A ++ B) = fS A + fS B := by simp [fS]
theorem fS_flI {W P : List Int} (hP : ∀ i, 0 ≤ P.getD i 0) : ∀ i, i ≤ P.length → fS (flI W P i) = (P.take i).sum
 | 0, _ => by simp [flI, fS]
 | i + 1, h => by
  have ih := fS_flI (W := W) hP i (by omega)
  have h0 := hP i
  rw [flI_succ, fS_app, ih, List.take_add_one, List.sum_append]
  have e : P.getD i 0 = P[i] := by simp [List.getD, List.getElem?_eq_getElem (show i < P.length by omega)]
  rw [List.getElem?_eq_getElem (show i < P.length by omega)]
  cases hd : decide (P.getD i 0 > 0) with
  | true => simp [fS, List.getElem?_eq_getElem (show i < P.length by omega)]
  | false =>
   have : ¬ P.getD i 0 > 0 := of_decide_eq_false hd
   have h9 : P[i] = 0 := by omega
   simp [fS, h9]
theorem fl_pos {W P : List Int} : ∀ {i : Nat} {f : FillV}, f ∈ flI W P i → ∃ j, j < i ∧ f = ⟨W.getD j 0, P.getD j 0, 0⟩ ∧ 0 < P.getD j 0 := fun {i f} h => by
 simp only [flI, List.mem_flatMap, List.mem_range] at h
 obtain ⟨j, hj, h⟩ := h
 cases hd : decide (P.getD j 0 > 0) with
 | true => rw [hd] at h; simp at h; exact ⟨j, hj, h, of_decide_eq_true hd⟩
 | false => rw [hd] at h; simp at h
theorem fQ_none {u : Int} {F : List FillV} (h : ∀ f ∈ F, f.frm ≠ u) : fQ u F = 0 := by
 have : F.filter (fun f => f.frm == u) = [] := List.filter_eq_nil_iff.2 fun f hf => by simpa using h f hf
 simp [fQ, this]
theorem fQ_flI {W P : List Int} (hd : ∀ j k, j < W.length → k < W.length → W.getD j 0 = W.getD k 0 → j = k) (hP : ∀ i, 0 ≤ P.getD i 0) {k : Nat} (hk : k < W.length) :
  ∀ i, i ≤ W.length → fQ (W.getD k 0) (flI W P i) = if k < i then P.getD k 0 else 0
 | 0, _ => by simp [flI, fQ]
 | i + 1, h => by
  have ih := fQ_flI hd hP hk i (by omega)
  rw [flI_succ, fQ_app, ih]
  have h0 := hP i
  by_cases e : k = i
  ·subst e
   rw [if_neg (by omega), if_pos (by omega)]
   cases hd2 : decide (P.getD k 0 > 0) with
   | true => simp [fQ]
   | false =>
    have : ¬ P.getD k 0 > 0 := of_decide_eq_false hd2
    have h9 : P.getD k 0 = 0 := by omega
    rw [h9]; simp [fQ]
  ·have hne : W.getD i 0 ≠ W.getD k 0 := fun c => e (hd k i hk (by omega) c.symm)
   have h1 : fQ (W.getD k 0) (bif decide (P.getD i 0 > 0) then [(⟨W.getD i 0, P.getD i 0, 0⟩ : FillV)] else []) = 0 := by
    cases decide (P.getD i 0 > 0) with
    | true =>
     have hb : (W.getD i 0 == W.getD k 0) = false := by simpa using hne
     simp only [fQ, cond_true, List.filter_cons, List.filter_nil, hb, Bool.false_eq_true, if_false, List.map_nil, List.sum_nil]
    | false => simp [fQ]
   rw [h1]
   by_cases h2 : k < i
   ·rw [if_pos h2, if_pos (by omega)]; omega
   ·rw [if_neg h2, if_neg (by omega)]; omega
def tSide (w n : Int) (ps : List PosV) : Int := cmpI (ofP w n ps).qty 0
def tT (w n : Int) (ps : List PosV) : List PosV := tF (tSide w n ps) n ps
def tParts (w n m : Int) (ps : List PosV) : List Int := splitV m (tWs (tSide w n ps) (tT w n ps))
def tearV (w n m : Int) (ps : List PosV) : List FillV := flI (tWho (tT w n ps)) (tParts w n m ps) (tParts w n m ps).length
def tAll (w n : Int) (ps : List PosV) : Int := (tWs (tSide w n ps) (tT w n ps)).sum
theorem tT_mem {w n : Int} {b : BookV} (hG : GoodB b) {p : PosV} (h : p ∈ tT w n b.poss) : p ∈ b.poss ∧ p.inst = n ∧ (0 < tWt (tSide w n b.poss) p ∧ tWt (tSide w n b.poss) p ≤ 1099511627776) ∧ tWt (tSide w n b.poss) p = -(tSide w n b.poss * p.qty) ∧ keyOk p.who p.inst = true := by
 obtain ⟨hp, ht⟩ := List.mem_filter.1 h
 have hs := sgn_ok (ofP w n b.poss).qty
 have h1 := tWt_pos hs ht
 have h2 := posOk_iff.1 (hG.ok p hp)
 have h3 := smul_b hs (x := p.qty) ⟨h2.2.1, h2.2.2.1⟩
 have e : tSide w n b.poss = cmpI (ofP w n b.poss).qty 0 := rfl
 rw [← e] at h1 h3
 exact ⟨hp, h1.1, ⟨h1.2.1, by omega⟩, h1.2.2, h2.1⟩
theorem t_len {b : BookV} (hG : GoodB b) (w n : Int) : (tT w n b.poss).length ≤ 128 := Nat.le_trans (tF_len _ _ _) (grow_len hG).2
theorem t_len16 {b : BookV} (hG : GoodB b) (s n : Int) : (tF s n b.poss).length ≤ 16 := by
 have hA : Asc (tF s n b.poss) := List.Pairwise.filter _ hG.asc
 have hin : ∀ p ∈ tF s n b.poss, p ∈ b.poss ∧ p.inst = n := fun p hp => by
  obtain ⟨h1, h2⟩ := List.mem_filter.1 hp
  simp only [tP, Bool.and_eq_true, beq_iff_eq] at h2
  exact ⟨h1, h2.1⟩
 have h := inc_len (l := (tF s n b.poss).map PosV.who) (a := 1) (b := 17) ?_ (fun x hx => ?_) (by omega)
 ·rw [List.length_map] at h; omega
 ·refine List.pairwise_map.2 (hA.imp_of_mem fun {p q} hp hq hpq => ?_)
  have := pLt_iff.1 hpq
  have := (hin p hp).2
  have := (hin q hq).2
  omega
 ·obtain ⟨p, hp, rfl⟩ := List.mem_map.1 hx
  have := keyOk_iff.1 (posOk_iff.1 (hG.ok p (hin p hp).1)).1
  omega
theorem t_may {b : BookV} (hG : GoodB b) {w n m : Int} (h0 : 0 ≤ m) (h1 : m ≤ 1099511627776) : mayOk m (tWs (tSide w n b.poss) (tT w n b.poss)) := by
 refine ⟨by omega, fun x hx => ?_, by have := t_len hG w n; simp [tWs]; omega⟩
 obtain ⟨p, hp, rfl⟩ := List.mem_map.1 hx
 have := (tT_mem hG hp).2.2.1
 omega
theorem sN_sum : ∀ {l : List Int}, (∀ x ∈ l, 0 ≤ x) → ((sN l : Nat) : Int) = l.sum
 | [], _ => rfl
 | x :: l, h => by
  have ih := sN_sum (l := l) fun y hy => h y (List.mem_cons_of_mem _ hy)
  have := h x (by simp)
  simp only [sN, List.map_cons, List.sum_cons] at ih ⊢
  omega
theorem t_nn {b : BookV} (hG : GoodB b) (w n : Int) : ∀ x ∈ tWs (tSide w n b.poss) (tT w n b.poss), 0 < x := fun x hx => by
 obtain ⟨p, hp, rfl⟩ := List.mem_map.1 hx
 exact (tT_mem hG hp).2.2.1.1
structure TornF (b : BookV) (w n m : Int) : Prop where
 e : splitE m (tWs (tSide w n b.poss) (tT w n b.poss)) = 0
 len : (tParts w n m b.poss).length = (tT w n b.poss).length
 nn : ∀ i, 0 ≤ (tParts w n m b.poss).getD i 0
 cap : ∀ i, (tParts w n m b.poss).getD i 0 ≤ (tWs (tSide w n b.poss) (tT w n b.poss)).getD i 0
 sum : (tParts w n m b.poss).sum = m
theorem torn_f {b : BookV} (hG : GoodB b) {w n m : Int} (h0 : 0 ≤ m) (h1 : m ≤ 1099511627776) (h2 : m ≤ tAll w n b.poss) : TornF b w n m := by
 have hm := t_may hG (w := w) (n := n) h0 h1
 have hr := sRE_may hm
 have hnn := t_nn hG w n
 have hN := sN_sum (l := tWs (tSide w n b.poss) (tT w n b.poss)) fun x hx => Int.le_of_lt (hnn x hx)
 have hget : ∀ i, 0 ≤ (tWs (tSide w n b.poss) (tT w n b.poss)).getD i 0 := fun i => by
  by_cases hi : i < (tWs (tSide w n b.poss) (tT w n b.poss)).length
  ·rw [List.getD_eq_getElem?_getD, List.getElem?_eq_getElem hi]; exact Int.le_of_lt (hnn _ (List.getElem_mem hi))
  ·rw [List.getD_eq_getElem?_getD, List.getElem?_eq_none (by omega)]; simp
 have hl0 : (tWs (tSide w n b.poss) (tT w n b.poss)).length = (tT w n b.poss).length := by simp [tWs]
 simp only [tAll] at h2
 by_cases hS : 0 < sN (tWs (tSide w n b.poss) (tT w n b.poss))
 ·have hv := splitV_prt hr hS
  have he := splitE_prt hr hS
  refine ⟨he, ?_, fun i => ?_, fun i => ?_, ?_⟩
  ·simp only [tParts]; rw [split_len hr he, hl0]
  ·simp only [tParts]; rw [hv]; exact prt_nn _ _ _
  ·simp only [tParts]; rw [hv]; exact prt_cap hS (by omega) (hget i)
  ·simp only [tParts]; rw [hv, prt_sum hS]; omega
 ·have hS0 : sN (tWs (tSide w n b.poss) (tT w n b.poss)) = 0 := by omega
  have hm0 : m = 0 := by omega
  have hv := splitV_zero hr hS0 hm0
  refine ⟨by rw [splitE_zero hr hS0, hm0]; rfl, ?_, fun i => ?_, fun i => ?_, ?_⟩
  ·simp only [tParts]; rw [hv]; simp [zerosI, hl0]
  ·simp only [tParts]; rw [hv, zeros_get]; exact Int.le_refl _
  ·simp only [tParts]; rw [hv, zeros_get]; exact hget i
  ·simp only [tParts]; rw [hv, hm0]; simp [zerosI]
theorem t_enough {b : BookV} (hG : GoodB b) {w n m : Int} (hn : 1 ≤ n ∧ n ≤ 8) (h : m ≤ (ofP w n b.poss).qty ∨ m ≤ -(ofP w n b.poss).qty) : m ≤ tAll w n b.poss ∨ m ≤ 0 := by
 have hs := sgn_ok (ofP w n b.poss).qty
 obtain ⟨o, h0, h1, h2⟩ := t_level (n := n) (l := b.poss) hs
 rw [hG.lev n hn.1 hn.2, Int.mul_zero] at h1
 have e : tAll w n b.poss = (tWs (cmpI (ofP w n b.poss).qty 0) (tF (cmpI (ofP w n b.poss).qty 0) n b.poss)).sum := rfl
 by_cases hx : ∃ p ∈ b.poss, p.who = w ∧ p.inst = n
 ·obtain ⟨p, hp, hw, hi⟩ := hx
  have h3 := h2 p hp hi
  have hq : (ofP w n b.poss).qty = p.qty := by rw [ofP_sum hG.asc, ← hw, ← hi]; exact asc_key hG.asc hp _
  rw [hq] at h h3 e h1
  rcases sgn_cases p.qty with ⟨k1, k2⟩ | ⟨k1, k2⟩ | ⟨k1, k2⟩
  ·rw [k2] at h1 h3 e; left; omega
  ·rw [k2] at h1 h3 e; left; omega
  ·right; omega
 ·right
  have hq : (ofP w n b.poss).qty = 0 := by
   rw [ofP_sum hG.asc]
   exact sF_none fun p hp hh => hx ⟨p, hp, hh⟩
  omega
theorem of_key {b : BookV} (hG : GoodB b) {w n : Int} (h : (ofP w n b.poss).qty ≠ 0) : keyOk w n = true := by
 by_cases hx : ∃ p ∈ b.poss, p.who = w ∧ p.inst = n
 ·obtain ⟨p, hp, hw, hi⟩ := hx
  have := (posOk_iff.1 (hG.ok p hp)).1
  rwa [hw, hi] at this
 ·have hq : (ofP w n b.poss).qty = 0 := by
   rw [ofP_sum hG.asc]
   exact sF_none fun p hp hh => hx ⟨p, hp, hh⟩
  exact absurd hq h
theorem who_nd {b : BookV} (hG : GoodB b) (w n : Int) : ∀ j k, j < (tWho (tT w n b.poss)).length → k < (tWho (tT w n b.poss)).length → (tWho (tT w n b.poss)).getD j 0 = (tWho (tT w n b.poss)).getD k 0 → j = k := by
 have hA : Asc (tT w n b.poss) := List.Pairwise.filter _ hG.asc
 have key : ∀ j k, j < k → k < (tWho (tT w n b.poss)).length → (tWho (tT w n b.poss)).getD j 0 ≠ (tWho (tT w n b.poss)).getD k 0 := fun j k hjk hk e => by
  have hk' : k < (tT w n b.poss).length := by simpa [tWho] using hk
  have h1 := List.pairwise_iff_getElem.1 hA j k (by omega) hk' hjk
  have h2 := pLt_iff.1 h1
  have i1 := (tT_mem hG (List.getElem_mem (show j < (tT w n b.poss).length by omega))).2.1
  have i2 := (tT_mem hG (List.getElem_mem hk')).2.1
  simp only [tWho, List.getD_eq_getElem?_getD, List.getElem?_map, List.getElem?_eq_getElem hk', List.getElem?_eq_getElem (show j < (tT w n b.poss).length by omega), Option.map_some, Option.getD_some] at e
  omega
 intro j k hj hk e
 rcases Nat.lt_trichotomy j k with h | h | h
 ·exact absurd e (key j k h hk)
 ·exact h
 ·exact absurd e.symm (key k j h hj)
theorem part_of {b : BookV} (hG : GoodB b) {w n m : Int} (hT : TornF b w n m) {p : PosV} (hp : p ∈ tT w n b.poss) : 0 ≤ fQ p.who (tearV w n m b.poss) ∧ fQ p.who (tearV w n m b.poss) ≤ tWt (tSide w n b.poss) p := by
 obtain ⟨k, hk, e⟩ := List.mem_iff_getElem.1 hp
 have hkW : k < (tWho (tT w n b.poss)).length := by simpa [tWho] using hk
 have eW : (tWho (tT w n b.poss)).getD k 0 = p.who := by simp [tWho, List.getD_eq_getElem?_getD, List.getElem?_eq_getElem hk, e]
 have eT : (tWs (tSide w n b.poss) (tT w n b.poss)).getD k 0 = tWt (tSide w n b.poss) p := by simp [tWs, List.getD_eq_getElem?_getD, List.getElem?_eq_getElem hk, e]
 have hf := fQ_flI (P := tParts w n m b.poss) (who_nd hG w n) hT.nn hkW (tParts w n m b.poss).length (by rw [hT.len]; simp [tWho])
 rw [if_pos (by rw [hT.len]; exact hk), eW] at hf
 have h1 := hT.nn k
 have h2 := hT.cap k
 rw [eT] at h2
 rw [tearV, hf]
 exact ⟨h1, h2⟩
theorem fill_of {b : BookV} (hG : GoodB b) {w n m : Int} (hT : TornF b w n m) {f : FillV} (hf : f ∈ tearV w n m b.poss) : ∃ p ∈ tT w n b.poss, f.frm = p.who ∧ 0 < f.qty ∧ f.price = 0 := by
 obtain ⟨j, hj, e, h0⟩ := fl_pos hf
 rw [hT.len] at hj
 refine ⟨(tT w n b.poss)[j], List.getElem_mem hj, ?_, by rw [e]; exact h0, by rw [e]⟩
 rw [e]; simp [tWho, List.getD_eq_getElem?_getD, List.getElem?_eq_getElem hj]
theorem part_none {b : BookV} (hG : GoodB b) {w n m u : Int} (hT : TornF b w n m) (h : ∀ p ∈ tT w n b.poss, p.who ≠ u) : fQ u (tearV w n m b.poss) = 0 :=
 fQ_none fun f hf => by
  obtain ⟨p, hp, e, _⟩ := fill_of hG hT hf
  rw [e]; exact h p hp
theorem fill_all {b : BookV} {w n m : Int} (hT : TornF b w n m) : fS (tearV w n m b.poss) = m := by
 rw [tearV, fS_flI hT.nn _ (Nat.le_refl _), List.take_length, hT.sum]
theorem fill_le : ∀ {F : List FillV}, (∀ f ∈ F, 0 ≤ f.qty) → ∀ f ∈ F, f.qty ≤ fS F
 | [], _, f, hf => by cases hf
 | g :: F, h, f, hf => by
  have hs : 0 ≤ fS F := by
   clear hf
   induction F with
   | nil => simp [fS]
   | cons x F ih =>
    have := ih (fun y hy => h y (by rcases List.mem_cons.1 hy with rfl | hy <;> simp [*]))
    have := h x (by simp)
    simp only [fS, List.map_cons, List.sum_cons] at *
    omega
  have e : fS (g :: F) = g.qty + fS F := by simp [fS]
  have := h g (by simp)
  rcases List.mem_cons.1 hf with rfl | hf
  ·omega
  ·have := fill_le (fun y hy => h y (List.mem_cons_of_mem _ hy)) f hf; omega
def setP (c : Int) (f : FillV) : FillV := ⟨f.frm, f.qty, c⟩
theorem fQ_set (u c : Int) (F : List FillV) : fQ u (F.map (setP c)) = fQ u F := by
 induction F with
 | nil => rfl
 | cons f F ih =>
  simp only [fQ, List.map_cons, List.filter_cons, setP] at ih ⊢
  cases (f.frm == u) <;> simp [setP] at ih ⊢ <;> omega
theorem fS_set (c : Int) (F : List FillV) : fS (F.map (setP c)) = fS F := by simp [fS, setP, Function.comp_def]
theorem lgs_sum (w n : Int) (long : Bool) (u k : Int) : ∀ F : List FillV, sF PosV.qty u k (lgs w n long F) = bif n == k then lq long (fQ u F) - (bif w == u then lq long (fS F) else 0) else 0
 | [] => by
  simp only [lgs, List.flatMap_nil, sF, fQ, fS]
  cases (n == k) <;> cases (w == u) <;> cases long <;> simp [lq]
 | f :: F => by
  have ih := lgs_sum w n long u k F
  have e : lgs w n long (f :: F) = lg1 w n long f ++ lgs w n long F := by simp [lgs]
  have e2 : fQ u (f :: F) = (bif f.frm == u then f.qty else 0) + fQ u F := by
   simp only [fQ, List.filter_cons]
   cases (f.frm == u) <;> simp
  have e3 : fS (f :: F) = f.qty + fS F := by simp [fS]
  rw [e, sF_app, ih, e2, e3]
  simp only [lg1, sF, kSame]
  cases (n == k) <;> cases (f.frm == u) <;> cases (w == u) <;> cases long <;> simp [lq] <;> omega
theorem lgs_lev (w n : Int) (long : Bool) (k : Int) (F : List FillV) : lF PosV.qty k (lgs w n long F) = 0 := by
 induction F with
 | nil => rfl
 | cons f F ih =>
  have e : lgs w n long (f :: F) = lg1 w n long f ++ lgs w n long F := by simp [lgs]
  rw [e, lF_app, ih]
  simp only [lg1, lF]
  cases (n == k) <;> simp <;> omega
def Qbnd (b : BookV) (c : Int) : Prop := ∀ w n, keyOk w n = true → -c ≤ sF PosV.qty w n b.poss ∧ sF PosV.qty w n b.poss ≤ c
theorem qb_enter {b : BookV} {c : Int} (h : Qbnd b c) {t : TradeV} (he : enterE b t = 0) : Qbnd (enterV b t) (c + 1048576) := fun w n hk => by
 have h1 := (enter_sum he hk).1
 have h2 := (legs_sum (enter_ok.1 he).2.1 w n).1
 have h3 := h w n hk
 rw [h1]; omega
theorem qb_cancel {b : BookV} {c : Int} (h : Qbnd b c) {no : Int} (he : cancelE b no = 0) : Qbnd (cancelV b no) (c + 1048576) := fun w n hk => by
 have h1 := (cancel_sum he hk).1
 obtain ⟨pre, t, post, _, _, _, hr, e1, _⟩ := cancel_split he
 have h2 := (legs_sum hr w n).1
 have h3 := h w n hk
 rw [h1, e1]; omega
theorem qb_up {b : BookV} {c d : Int} (h : Qbnd b c) (hd : c ≤ d) : Qbnd b d := fun w n hk => by have := h w n hk; omega
theorem qb_do {b : BookV} {c : Int} (h : Qbnd b c) (a : ActV) : Qbnd (grow1B b a) (c + 2097152) := by
 simp only [grow1B]
 cases hc : (doE b a == 0) with
 | false => exact qb_up h (by omega)
 | true =>
  have hc : doE b a = 0 := by simpa using hc
  simp only [cond_true, doE, doV] at hc ⊢
  cases h3 : (doK a == 3) with
  | true => rw [h3] at hc; exact qb_up (qb_cancel h hc) (by omega)
  | false =>
   rw [h3] at hc
   cases h4 : (doK a == 4) with
   | true =>
    rw [h4] at hc
    obtain ⟨e1, e2⟩ := correct_ok.1 hc
    rw [cond_false, cond_true, (correct_val e1).2.1]
    exact qb_up (qb_enter (qb_cancel h e1) e2) (by omega)
   | false =>
    rw [h4] at hc
    cases h5 : (doK a == 5) with
    | true => exact fun w n hk => by have := h w n hk; simp only [clearB, cond_true, cond_false]; omega
    | false => rw [h5] at hc; exact qb_up (qb_enter h hc) (by omega)
theorem qb_grow : ∀ {l : List ActV} {b : BookV} {c : Int}, Qbnd b c → Qbnd (l.foldl grow1B b) (c + 2097152 * l.length)
 | [], b, c, h => by simpa using h
 | a :: l, b, c, h => by
  have := qb_grow (l := l) (qb_do h a)
  rw [List.foldl_cons, List.length_cons]
  exact qb_up this (by omega)
theorem qb_grown (l : List ActV) : Qbnd (grownB l) 209715200 := by
 have h0 : Qbnd ⟨0, [], []⟩ 0 := fun w n _ => by simp [sF]
 have := qb_grow (l := l.take 100) h0
 exact qb_up this (by have := List.length_take_le 100 l; omega)
structure TornL (b : BookV) (w n m c : Int) : Prop where
 e : lgE ((tearV w n m b.poss).map (setP c)) = 0
 add : addE b (lgs w n (decide ((ofP w n b.poss).qty > 0)) ((tearV w n m b.poss).map (setP c))) = 0 ∨ addE b (lgs w n (decide ((ofP w n b.poss).qty > 0)) ((tearV w n m b.poss).map (setP c))) = 1
theorem lq_b {long : Bool} {x : Int} : lq long x = x ∨ lq long x = -x := by cases long <;> simp [lq]
theorem torn_l {b : BookV} (hG : GoodB b) (hQ : Qbnd b 209715200) {w n m c : Int} (hq : (ofP w n b.poss).qty ≠ 0) (hm : 1 ≤ m) (hm2 : m ≤ (ofP w n b.poss).qty ∨ m ≤ -(ofP w n b.poss).qty) (hc : 0 ≤ c ∧ c ≤ 1073741824) (hT : TornF b w n m) : TornL b w n m c := by
 have hk := of_key hG hq
 have hqb := hQ w n hk
 have hqs : (ofP w n b.poss).qty = sF PosV.qty w n b.poss := by rw [ofP_sum hG.asc]
 have hall := fill_all hT
 have hle := fill_le (F := tearV w n m b.poss) fun f hf => by obtain ⟨_, _, _, h, _⟩ := fill_of hG hT hf; omega
 have hmb : m ≤ 209715200 := by omega
 have hfq : ∀ f ∈ tearV w n m b.poss, 0 < f.qty ∧ f.qty ≤ 209715200 := fun f hf => by
  obtain ⟨_, _, _, h, _⟩ := fill_of hG hT hf
  have := hle f hf
  omega
 have hfc : ∀ f ∈ tearV w n m b.poss, 0 ≤ f.qty * c ∧ f.qty * c ≤ 225179981368524800 := fun f hf => by
  have h1 := hfq f hf
  exact ⟨Int.mul_nonneg (by omega) hc.1, by
   have := Int.mul_le_mul h1.2 hc.2 hc.1 (by omega : (0 : Int) ≤ 209715200)
   omega⟩
 have hok : ((tearV w n m b.poss).map (setP c)).all lgOk = true := by
  rw [List.all_eq_true]
  intro g hg
  obtain ⟨f, hf, rfl⟩ := List.mem_map.1 hg
  have := hfq f hf
  simp only [lgOk, setP, Bool.and_eq_true, inR_iff]; omega
 have hcc : ((tearV w n m b.poss).map (setP c)).all lgC = true := by
  rw [List.all_eq_true]
  intro g hg
  obtain ⟨f, hf, rfl⟩ := List.mem_map.1 hg
  have := hfc f hf
  exact rightN_iff.2 (by simp only [setP]; omega)
 have hR : RtL (lgs w n (decide ((ofP w n b.poss).qty > 0)) ((tearV w n m b.poss).map (setP c))) := fun p hp => by
  simp only [lgs, List.mem_flatMap, List.mem_map] at hp
  obtain ⟨g, ⟨f, hf, rfl⟩, hp⟩ := hp
  have h1 := hfq f hf
  have h2 := hfc f hf
  obtain ⟨x, hx, ex, _⟩ := fill_of hG hT hf
  obtain ⟨_, hxi, _, _, hxk⟩ := tT_mem hG hx
  rw [hxi, ← ex] at hxk
  have l1 := @lq_b (decide ((ofP w n b.poss).qty > 0)) f.qty
  have l2 := @lq_b (decide ((ofP w n b.poss).qty > 0)) (f.qty * c)
  simp only [lg1, setP, List.mem_cons, List.not_mem_nil, or_false] at hp
  rcases hp with rfl | rfl
  ·exact ⟨hxk, rightN_iff.2 (by simp only; omega), rightN_iff.2 (by simp only; omega)⟩
  ·exact ⟨hk, rightN_iff.2 (by simp only; omega), rightN_iff.2 (by simp only; omega)⟩
 refine ⟨lgE_ok hok hcc, ?_⟩
 have h1 : bookOk b = true := (bookOk_iff b).2 hG
 have h2 := RtL_any.2 hR
 have h3 : levelOk (lgs w n (decide ((ofP w n b.poss).qty > 0)) ((tearV w n m b.poss).map (setP c))) = true := (levelOk_iff fun p hp => (hR p hp).2.1).2 fun k _ _ => lgs_lev _ _ _ _ _
 simp only [addE, h1, h2, h3, Bool.not_true, cond_false]
 cases allK.any (jBad (b.poss ++ lgs w n (decide ((ofP w n b.poss).qty > 0)) ((tearV w n m b.poss).map (setP c)))) <;> simp
theorem torn_pos {b : BookV} (hG : GoodB b) {w n m c : Int} (hq : (ofP w n b.poss).qty ≠ 0) (hm : 1 ≤ m) (hm2 : m ≤ (ofP w n b.poss).qty ∨ m ≤ -(ofP w n b.poss).qty) (hT : TornF b w n m)
  {d : BookV} (hd : d = addV b (lgs w n (decide ((ofP w n b.poss).qty > 0)) ((tearV w n m b.poss).map (setP c)))) (hA : addE b (lgs w n (decide ((ofP w n b.poss).qty > 0)) ((tearV w n m b.poss).map (setP c))) = 0) :
  (∀ x ∈ b.poss, (x.qty ≤ 0 → x.qty ≤ (ofP x.who x.inst d.poss).qty ∧ (ofP x.who x.inst d.poss).qty ≤ 0) ∧ (0 ≤ x.qty → 0 ≤ (ofP x.who x.inst d.poss).qty ∧ (ofP x.who x.inst d.poss).qty ≤ x.qty)) ∧
  (ofP w n d.poss).qty = (ofP w n b.poss).qty - lq (decide ((ofP w n b.poss).qty > 0)) m ∧ tsQ (iF n d.poss) = 0 := by
 have hD : GoodB d := by rw [hd]; exact add_good hA
 have hk := of_key hG hq
 have hsum : ∀ u k, keyOk u k = true → (ofP u k d.poss).qty = sF PosV.qty u k b.poss + (bif n == k then lq (decide ((ofP w n b.poss).qty > 0)) (fQ u (tearV w n m b.poss)) - (bif w == u then lq (decide ((ofP w n b.poss).qty > 0)) m else 0) else 0) := fun u k hk => by
  rw [ofP_sum hD.asc]
  simp only
  rw [hd, (add_sum hA hk).1, lgs_sum, fQ_set, fS_set, fill_all hT]
 have hqs : (ofP w n b.poss).qty = sF PosV.qty w n b.poss := by rw [ofP_sum hG.asc]
 have hs0 : tSide w n b.poss = cmpI (ofP w n b.poss).qty 0 := rfl
 have hwn : ∀ p ∈ tT w n b.poss, p.who ≠ w := fun p hp e => by
  obtain ⟨h1, h2, h3, h4, _⟩ := tT_mem hG hp
  have : p.qty = (ofP w n b.poss).qty := by rw [hqs, ← e, ← h2]; exact (asc_key hG.asc h1 _).symm
  rw [hs0] at h3 h4
  rcases sgn_cases (ofP w n b.poss).qty with ⟨k1, k2⟩ | ⟨k1, k2⟩ | ⟨k1, k2⟩ <;> rw [k2] at h3 h4 <;> omega
 have hw0 := part_none hG hT hwn
 refine ⟨fun x hx => ?_, ?_, ?_⟩
 ·have hxk := (posOk_iff.1 (hG.ok x hx)).1
  have e := hsum x.who x.inst hxk
  rw [asc_key hG.asc hx] at e
  cases hi : (n == x.inst) with
  | false => rw [hi, cond_false] at e; rw [e]; omega
  | true =>
   have hi' : x.inst = n := (show n = x.inst by simpa using hi).symm
   rw [hi, cond_true] at e
   cases hxw : (w == x.who) with
   | true =>
    have hxw' : x.who = w := (show w = x.who by simpa using hxw).symm
    have hxq : x.qty = (ofP w n b.poss).qty := by rw [hqs, ← hxw', ← hi']; exact (asc_key hG.asc hx _).symm
    rw [hxw, cond_true, hxw', hw0] at e
    rw [hxw', e, hxq]
    rcases sgn_cases (ofP w n b.poss).qty with ⟨k1, k2⟩ | ⟨k1, k2⟩ | ⟨k1, k2⟩
    ·rw [show decide ((ofP w n b.poss).qty > 0) = false from decide_eq_false (by omega)]; simp only [lq, cond_false]; omega
    ·rw [show decide ((ofP w n b.poss).qty > 0) = true from decide_eq_true (by omega)]; simp only [lq, cond_true]; omega
    ·exact absurd k1 hq
   | false =>
    rw [hxw, cond_false] at e
    cases ht : tP (tSide w n b.poss) n x with
    | true =>
     have hxT : x ∈ tT w n b.poss := List.mem_filter.2 ⟨hx, ht⟩
     obtain ⟨_, _, h3, h4, _⟩ := tT_mem hG hxT
     have hp := part_of hG hT hxT
     rw [e]
     rw [hs0] at h3 h4 hp
     rcases sgn_cases (ofP w n b.poss).qty with ⟨k1, k2⟩ | ⟨k1, k2⟩ | ⟨k1, k2⟩
     ·rw [k2] at h3 h4 hp
      rw [show decide ((ofP w n b.poss).qty > 0) = false from decide_eq_false (by omega)]; simp only [lq, cond_false]; omega
     ·rw [k2] at h3 h4 hp
      rw [show decide ((ofP w n b.poss).qty > 0) = true from decide_eq_true (by omega)]; simp only [lq, cond_true]; omega
     ·exact absurd k1 hq
    | false =>
     have h0 : fQ x.who (tearV w n m b.poss) = 0 := part_none hG hT fun p hp hh => by
      obtain ⟨h1, h2, _⟩ := tT_mem hG hp
      have hpx : pLt p x = false ∧ pLt x p = false := by
       constructor <;> (cases hc : pLt _ _ with
        | false => rfl
        | true => have := pLt_iff.1 hc; omega)
      have : p = x := by
       have ha := hG.asc
       by_cases hne : p = x
       ·exact hne
       ·exfalso
        obtain ⟨i, hi1, e1⟩ := List.mem_iff_getElem.1 h1
        obtain ⟨j, hj1, e2⟩ := List.mem_iff_getElem.1 hx
        rcases Nat.lt_trichotomy i j with hij | hij | hij
        ·have := List.pairwise_iff_getElem.1 ha i j hi1 hj1 hij
         rw [e1, e2, hpx.1] at this; cases this
        ·subst hij; exact hne (e1.symm.trans e2)
        ·have := List.pairwise_iff_getElem.1 ha j i hj1 hi1 hij
         rw [e1, e2, hpx.2] at this; cases this
      subst this
      have := (List.mem_filter.1 hp).2
      rw [hs0] at ht
      have e9 : tP (cmpI (ofP w n b.poss).qty 0) n p = true := this
      rw [e9] at ht; cases ht
     rw [h0] at e
     rw [e]
     cases decide ((ofP w n b.poss).qty > 0) <;> simp only [lq, cond_true, cond_false] <;> omega
 ·have e := hsum w n hk
  rw [hw0] at e
  simp only [beq_self_eq_true, cond_true] at e
  rw [e, ← hqs]
  cases decide ((ofP w n b.poss).qty > 0) <;> simp only [lq, cond_true, cond_false] <;> omega
 ·have hnn := keyOk_iff.1 hk
  have e1 : ((iF n d.poss).map PosV.qty).sum = 0 := by rw [iF, lF_filter]; exact hD.lev n hnn.2.1 hnn.2.2
  simp only [tsQ, e1]
  cases tsB (iF n d.poss) <;> rfl
theorem mod_at {a A : Int} (h : 0 < A) (h2 : A ≤ 1099511627776) : ∃ K : Int, IntKind.wrap .i64 ((IntKind.wrap .u64 a).tmod A) = K ∧ 0 ≤ K ∧ K < A := by
 have h0 : 0 ≤ IntKind.wrap .u64 a := by rw [wrapU_]; omega
 have h3 := Int.tmod_nonneg A h0
 have h4 := Int.tmod_lt_of_pos (IntKind.wrap .u64 a) h
 exact ⟨_, wrapI (by omega) (by omega), h3, h4⟩
theorem t_sumb {s n : Int} (hs : sOk s) : ∀ {l : List PosV}, (∀ p ∈ l, posOk p = true) → 0 ≤ (tWs s (tF s n l)).sum ∧ (tWs s (tF s n l)).sum ≤ 1099511627776 * (l.length : Int)
 | [], _ => by simp [tF, tWs]
 | p :: l, h => by
  have ih := t_sumb (n := n) hs (l := l) fun q hq => h q (List.mem_cons_of_mem _ hq)
  have hp := posOk_iff.1 (h p (by simp))
  have hb := smul_b hs (x := p.qty) ⟨hp.2.1, hp.2.2.1⟩
  simp only [List.length_cons]
  cases ht : tP s n p with
  | true =>
   have hw := tWt_pos hs ht
   have e : (tWs s (tF s n (p :: l))).sum = tWt s p + (tWs s (tF s n l)).sum := by simp [tF, tWs, ht]
   rw [e]; omega
  | false =>
   have e : tF s n (p :: l) = tF s n l := by simp [tF, ht]
   rw [e]; omega
theorem t_zero {w n : Int} {ps : List PosV} (h : (ofP w n ps).qty = 0) : tAll w n ps = 0 ∧ tearV w n 0 ps = [] := by
 have hs : tSide w n ps = 0 := by simp only [tSide, h]; rfl
 have hT : tT w n ps = [] := by
  simp only [tT, tF, hs]
  exact List.filter_eq_nil_iff.2 fun p _ => by simp [tP]
 refine ⟨by simp [tAll, hT, tWs], ?_⟩
 have hr : sRE 0 [] = 0 := by decide
 simp only [tearV, tParts, hT, tWs, List.map_nil]
 rw [splitV_zero hr rfl rfl]; rfl
theorem tear_len {b : BookV} {w n m : Int} (hG : GoodB b) (hT : TornF b w n m) : (tearV w n m b.poss).length ≤ 128 := by
 have h1 := flI_len (tWho (tT w n b.poss)) (tParts w n m b.poss) (tParts w n m b.poss).length
 have h2 := hT.len
 have h3 := t_len hG w n
 simp only [tearV]; omega
theorem intsD_get {p : List Int} {k : Nat} (h : k < p.length) : (p.map fun n => [iv n]).getD k [] = [iv (p.getD k 0)] := by
 rw [List.getD_eq_getElem?_getD, List.getD_eq_getElem?_getD, List.getElem?_map, List.getElem?_eq_getElem h]; rfl
theorem fset (A post : List FillV) (x : FillV) (c : Int) {k : Nat} (hk : k = A.length) : (aV ((A ++ x :: post).map fillC)).set k [.d (iv x.frm), .d (iv x.qty), .d (iv c)] = aV ((A ++ [setP c x] ++ post).map fillC) := by
 subst hk; simp [aV, fillC, setP]
theorem fill_at {M A B : List FillV} {x : FillV} {n : Nat} (h : M = A ++ x :: B) (hn : n = A.length) : (M.map fillC).getD n [] = [iv x.frm, iv x.qty, iv x.price] := by
 rw [h, List.map_append]; exact gd_mid' (A := A.map fillC) _ _ (by simpa using hn)
theorem of_bnd {b : BookV} (hG : GoodB b) (w n : Int) : -1099511627776 ≤ (ofP w n b.poss).qty ∧ (ofP w n b.poss).qty ≤ 1099511627776 := by
 rw [ofP_sum hG.asc]; exact (good_fit hG).1
end Go.Proofs.Ytopifbpibkpmmaa
