/- Books: what legs that are added do to positions. In plain Lean. No condition. -/
import Derived.Test.YtopifbpibkpmmaaSpecA
namespace Go.Proofs.Ytopifbpibkpmmaa
open Go.RowKit
set_option linter.unusedVariables false
set_option linter.unusedSimpArgs false
def kSame (w n : Int) (p : PosV) : Bool := p.who == w && p.inst == n
def sF (f : PosV → Int) (w n : Int) : List PosV → Int
 | [] => 0
 | p :: l => (bif kSame w n p then f p else 0) + sF f w n l
def lF (f : PosV → Int) (n : Int) : List PosV → Int
 | [] => 0
 | p :: l => (bif p.inst == n then f p else 0) + lF f n l
theorem sF_app (f : PosV → Int) (w n : Int) : ∀ a b : List PosV, sF f w n (a ++ b) = sF f w n a + sF f w n b
 | [], b => by simp [sF]
 | p :: a, b => by simp only [List.cons_append, sF, sF_app f w n a b]; omega
theorem lF_app (f : PosV → Int) (n : Int) : ∀ a b : List PosV, lF f n (a ++ b) = lF f n a + lF f n b
 | [], b => by simp [lF]
 | p :: a, b => by simp only [List.cons_append, lF, lF_app f n a b]; omega
theorem sF_filter (f : PosV → Int) (w n : Int) : ∀ l : List PosV, ((l.filter (kSame w n)).map f).sum = sF f w n l
 | [] => rfl
 | p :: l => by
  have ih := sF_filter f w n l
  simp only [List.filter_cons, sF]
  cases kSame w n p <;> simp [ih]
theorem lF_filter (f : PosV → Int) (n : Int) : ∀ l : List PosV, ((l.filter fun p => p.inst == n).map f).sum = lF f n l
 | [] => rfl
 | p :: l => by
  have ih := lF_filter f n l
  simp only [List.filter_cons, lF]
  cases (p.inst == n) <;> simp [ih]
theorem kSame_iff {w n : Int} {p : PosV} : kSame w n p = true ↔ (p.who = w ∧ p.inst = n) := by simp [kSame]
theorem keyOk_iff {w n : Int} : keyOk w n = true ↔ ((1 ≤ w ∧ w ≤ 16) ∧ 1 ≤ n ∧ n ≤ 8) := by simp [keyOk]; omega
theorem keyLt_iff {a b c d : Int} : keyLt a b c d = true ↔ (a < c ∨ (a = c ∧ b < d)) := by simp [keyLt]
theorem pLt_iff {p q : PosV} : pLt p q = true ↔ (p.who < q.who ∨ (p.who = q.who ∧ p.inst < q.inst)) := keyLt_iff
theorem rightN_iff {n : Int} : rightN n = true ↔ (-4611686018427387904 ≤ n ∧ n ≤ 4611686018427387904) := by simp [rightN]
theorem posOk_iff {p : PosV} : posOk p = true ↔ (keyOk p.who p.inst = true ∧ -1099511627776 ≤ p.qty ∧ p.qty ≤ 1099511627776 ∧ rightN p.cost = true ∧ (p.qty ≠ 0 ∨ p.cost ≠ 0)) := by
 simp only [posOk, posBad, List.all_cons, List.all_nil, Bool.and_true]
 cases keyOk p.who p.inst <;> cases rightN p.cost <;> by_cases h1 : p.qty < -1099511627776 <;> by_cases h2 : p.qty > 1099511627776 <;> by_cases h3 : p.qty = 0 <;> by_cases h4 : p.cost = 0 <;> simp [h1, h2, h3, h4] <;> omega
def Asc (l : List PosV) : Prop := l.Pairwise fun p q => pLt p q = true
theorem pLt_tr (x y z : PosV) (h1 : pLt x y = true) (h2 : pLt y z = true) : pLt x z = true := by
 have h1 := pLt_iff.1 h1; have h2 := pLt_iff.1 h2
 exact pLt_iff.2 (by omega)
theorem tLt_iff {s t : TradeV} : tLt s t = true ↔ s.no < t.no := by simp [tLt]
theorem chkR_iff {α : Type} {ok : α → Bool} {lt : α → α → Bool} (tr : ∀ x y z, lt x y = true → lt y z = true → lt x z = true) : ∀ {l : List α} {p : Option α},
  chkR ok lt p l = true ↔ ((∀ x ∈ l, ok x = true) ∧ (∀ y, p = some y → ∀ x ∈ l, lt y x = true) ∧ l.Pairwise fun x y => lt x y = true)
 | [], p => by simp [chkR]
 | x :: l, p => by
  simp only [chkR, Bool.and_eq_true, chkR_iff tr (l := l)]
  constructor
  ·rintro ⟨⟨h1, h2⟩, h3, h4, h5⟩
   refine ⟨fun z hz => ?_, fun y hy z hz => ?_, List.pairwise_cons.2 ⟨h4 x rfl, h5⟩⟩
   ·rcases List.mem_cons.1 hz with rfl | hz
    ·exact h1
    ·exact h3 z hz
   ·subst hy
    rcases List.mem_cons.1 hz with rfl | hz
    ·exact h2
    ·exact tr _ _ _ h2 (h4 x rfl z hz)
  ·rintro ⟨h1, h2, h3⟩
   have h3' := List.pairwise_cons.1 h3
   refine ⟨⟨h1 x (by simp), ?_⟩, fun z hz => h1 z (List.mem_cons_of_mem _ hz), fun y hy => ?_, h3'.2⟩
   ·cases p with
    | none => rfl
    | some y => exact h2 y rfl x (by simp)
   ·cases hy; exact h3'.1
theorem levelQ_sum (l : List PosV) (n : Int) : (levelQ l n).sum = lF PosV.qty n l := lF_filter _ _ _
theorem levelI_iff {l : List PosV} (h : ∀ p ∈ l, rightN p.qty = true) (n : Int) : levelI l n = true ↔ lF PosV.qty n l = 0 := by
 have hr : (levelQ l n).all rightN = true := List.all_eq_true.2 fun x hx => by
  obtain ⟨p, hp, rfl⟩ := List.mem_map.1 hx
  exact h p (List.mem_filter.1 hp).1
 simp only [levelI, sumE, sumV, hr, cond_true, Bool.true_and, levelQ_sum]
 cases hc : rightN (lF PosV.qty n l) with
 | true => simp
 | false =>
  have : lF PosV.qty n l ≠ 0 := fun e => by rw [e] at hc; cases hc
  simp [this]
theorem levelOk_iff {l : List PosV} (h : ∀ p ∈ l, rightN p.qty = true) : levelOk l = true ↔ ∀ n : Int, 1 ≤ n → n ≤ 8 → lF PosV.qty n l = 0 := by
 simp only [levelOk, levelTo, List.all_eq_true, List.mem_range]
 constructor
 ·intro hh n h1 h2
  obtain ⟨k, rfl⟩ := Int.eq_ofNat_of_zero_le (show 0 ≤ n by omega)
  have := hh (k - 1) (by omega)
  rw [show ((k - 1 : Nat) : Int) + 1 = (k : Int) by omega] at this
  exact (levelI_iff h _).1 this
 ·intro hh i hi
  exact (levelI_iff h _).2 (hh _ (by omega) (by omega))
structure GoodB (b : BookV) : Prop where
 nx0 : 0 ≤ b.next
 nx1 : b.next ≤ 1099511627776
 len : b.trades.length ≤ 128
 tr : ∀ t ∈ b.trades, rtOk t = true ∧ 1 ≤ t.no ∧ t.no ≤ b.next
 tasc : b.trades.Pairwise fun s t => s.no < t.no
 ok : ∀ p ∈ b.poss, posOk p = true
 asc : Asc b.poss
 lev : ∀ n : Int, 1 ≤ n → n ≤ 8 → lF PosV.qty n b.poss = 0
theorem pos_rt {p : PosV} (h : posOk p = true) : rightN p.qty = true ∧ rightN p.cost = true := by
 have := posOk_iff.1 h
 exact ⟨rightN_iff.2 (by omega), this.2.2.2.1⟩
theorem trOk_iff {n : Int} {t : TradeV} : trOk n t = true ↔ (rtOk t = true ∧ 1 ≤ t.no ∧ t.no ≤ n) := by
 simp only [trOk, trBad]
 cases rtOk t <;> by_cases h1 : t.no < 1 <;> by_cases h2 : t.no > n <;> simp [h1, h2] <;> omega
theorem bookOk_iff (b : BookV) : bookOk b = true ↔ GoodB b := by
 simp only [bookOk, bookTail, Bool.and_eq_true, Bool.not_eq_true', Bool.or_eq_false_iff, Bool.not_eq_false', decide_eq_false_iff_not]
 rw [chkR_iff pLt_tr, chkR_iff (fun x y z h1 h2 => tLt_iff.2 (by have := tLt_iff.1 h1; have := tLt_iff.1 h2; omega))]
 constructor
 ·rintro ⟨⟨⟨h1, _, h2⟩, h3, _, h4⟩, ⟨⟨h5, h6⟩, h7⟩, h8⟩
  have hq : ∀ p ∈ b.poss, rightN p.qty = true := fun p hp => (pos_rt (h1 p hp)).1
  refine ⟨by omega, by omega, by omega, fun t ht => trOk_iff.1 (h3 t ht), ?_, h1, h2, (levelOk_iff hq).1 h5⟩
  exact h4.imp fun h => tLt_iff.1 h
 ·intro h
  have hq : ∀ p ∈ b.poss, rightN p.qty = true := fun p hp => (pos_rt (h.ok p hp)).1
  have := h.nx0; have := h.nx1; have := h.len
  exact ⟨⟨⟨h.ok, (fun y hy => by cases hy), h.asc⟩, fun t ht => trOk_iff.2 (h.tr t ht), (fun y hy => by cases hy), h.tasc.imp fun h => tLt_iff.2 h⟩, ⟨⟨(levelOk_iff hq).2 h.lev, by omega⟩, by omega⟩, by omega⟩
theorem bookE_iff (b : BookV) : bookE b = 0 ↔ GoodB b := by rw [← bookOk_iff]; simp only [bookE]; cases bookOk b <;> simp
theorem goodB0 : GoodB ⟨0, [], []⟩ := ⟨by simp, by simp, by simp, (fun t h => by cases h), List.Pairwise.nil, (fun p h => by cases h), List.Pairwise.nil, fun n _ _ => rfl⟩
def kN (w : Int) (n : Nat) : List (Int × Int) := (List.range n).map fun (i : Nat) => (w, (i : Int) + 1)
def kW (w : Nat) : List (Int × Int) := (List.range w).flatMap fun (i : Nat) => kN ((i : Int) + 1) 8
def allK : List (Int × Int) := kW 16
theorem kN_succ (w : Int) (n : Nat) : kN w (n + 1) = kN w n ++ [(w, (n : Int) + 1)] := by simp [kN, List.range_succ]
theorem kW_succ (w : Nat) : kW (w + 1) = kW w ++ kN ((w : Int) + 1) 8 := by simp [kW, List.range_succ]
theorem kN_mem {w : Int} {n : Nat} {k : Int × Int} : k ∈ kN w n ↔ (k.1 = w ∧ 1 ≤ k.2 ∧ k.2 ≤ n) := by
 simp only [kN, List.mem_map, List.mem_range]
 constructor
 ·rintro ⟨i, hi, rfl⟩; simp; omega
 ·rintro ⟨h1, h2, h3⟩
  obtain ⟨a, b⟩ := k
  simp only at h1 h2 h3
  obtain ⟨j, rfl⟩ := Int.eq_ofNat_of_zero_le (show 0 ≤ b by omega)
  exact ⟨j - 1, by omega, by rw [h1, show ((j - 1 : Nat) : Int) + 1 = (j : Int) by omega]⟩
theorem kW_mem {w : Nat} {k : Int × Int} : k ∈ kW w ↔ ((1 ≤ k.1 ∧ k.1 ≤ w) ∧ 1 ≤ k.2 ∧ k.2 ≤ 8) := by
 simp only [kW, List.mem_flatMap, List.mem_range, kN_mem]
 constructor
 ·rintro ⟨i, hi, h1, h2, h3⟩; omega
 ·rintro ⟨⟨h1, h2⟩, h3, h4⟩
  exact ⟨(k.1 - 1).toNat, by omega, by omega, h3, by omega⟩
theorem allK_mem {k : Int × Int} : k ∈ allK ↔ keyOk k.1 k.2 = true := by rw [allK, kW_mem, keyOk_iff]; omega
theorem kN_asc (w : Int) : ∀ n, (kN w n).Pairwise fun a b => keyLt a.1 a.2 b.1 b.2 = true
 | 0 => by simp [kN]
 | n + 1 => by
  rw [kN_succ]
  refine List.pairwise_append.2 ⟨kN_asc w n, by simp, fun a ha b hb => ?_⟩
  have h1 := kN_mem.1 ha
  obtain rfl := List.mem_singleton.1 hb
  exact keyLt_iff.2 (by simp only; omega)
theorem kW_asc : ∀ w, (kW w).Pairwise fun a b => keyLt a.1 a.2 b.1 b.2 = true
 | 0 => by simp [kW]
 | w + 1 => by
  rw [kW_succ]
  refine List.pairwise_append.2 ⟨kW_asc w, kN_asc _ 8, fun a ha b hb => ?_⟩
  have h1 := kW_mem.1 ha
  have h2 := kN_mem.1 hb
  exact keyLt_iff.2 (by omega)
theorem kN_len (w : Int) (n : Nat) : (kN w n).length = n := by simp [kN]
theorem kW_len : ∀ w, (kW w).length = 8 * w
 | 0 => rfl
 | w + 1 => by rw [kW_succ, List.length_append, kW_len w, kN_len]; omega
def kF (w n : Int) (l : List PosV) : List PosV := l.filter (kSame w n)
def jBad (l : List PosV) (k : Int × Int) : Bool := tsE (kF k.1 k.2 l) != 0 || decide (tsQ (kF k.1 k.2 l) < -1099511627776) || decide (tsQ (kF k.1 k.2 l) > 1099511627776)
def jOne (l : List PosV) (k : Int × Int) : List PosV := bif tsQ (kF k.1 k.2 l) != 0 || tsC (kF k.1 k.2 l) != 0 then [⟨k.1, k.2, tsQ (kF k.1 k.2 l), tsC (kF k.1 k.2 l)⟩] else []
def jOut (l : List PosV) (K : List (Int × Int)) : List PosV := K.flatMap (jOne l)
theorem jOut_app (l : List PosV) (K L : List (Int × Int)) : jOut l (K ++ L) = jOut l K ++ jOut l L := by simp [jOut]
theorem jOut_len (l : List PosV) (K : List (Int × Int)) : (jOut l K).length ≤ K.length := by
 induction K with
 | nil => simp [jOut]
 | cons k K ih =>
  simp only [jOut, List.flatMap_cons, List.length_append, List.length_cons] at ih ⊢
  have : (jOne l k).length ≤ 1 := by simp only [jOne]; cases (tsQ (kF k.1 k.2 l) != 0 || tsC (kF k.1 k.2 l) != 0) <;> simp
  omega
def badLeg (p : PosV) : Bool := !keyOk p.who p.inst || !([p.qty, p.cost].all rightN)
theorem badLeg_iff {p : PosV} : badLeg p = false ↔ (keyOk p.who p.inst = true ∧ rightN p.qty = true ∧ rightN p.cost = true) := by
 simp only [badLeg, List.all_cons, List.all_nil, Bool.and_true]
 cases keyOk p.who p.inst <;> cases rightN p.qty <;> cases rightN p.cost <;> simp
def addE (b : BookV) (g : List PosV) : Int :=
 bif !bookOk b then 14 else bif g.any badLeg then 3 else bif !levelOk g then 12 else bif allK.any (jBad (b.poss ++ g)) then 1 else 0
def addV (b : BookV) (g : List PosV) : BookV := bif addE b g == 0 then ⟨b.next, b.trades, jOut (b.poss ++ g) allK⟩ else ⟨0, [], []⟩
def RtL (l : List PosV) : Prop := ∀ p ∈ l, keyOk p.who p.inst = true ∧ rightN p.qty = true ∧ rightN p.cost = true
theorem RtL.app {a b : List PosV} (h : RtL a) (k : RtL b) : RtL (a ++ b) := fun p hp => by
 rcases List.mem_append.1 hp with hp | hp
 ·exact h p hp
 ·exact k p hp
theorem GoodB.rt {b : BookV} (h : GoodB b) : RtL b.poss := fun p hp => ⟨(posOk_iff.1 (h.ok p hp)).1, pos_rt (h.ok p hp)⟩
theorem RtL_any {g : List PosV} : g.any badLeg = false ↔ RtL g := by
 rw [List.any_eq_false]
 constructor
 ·intro h p hp
  have := h p hp
  exact badLeg_iff.1 (by simpa using this)
 ·intro h p hp
  have := badLeg_iff.2 (h p hp)
  simp [this]
theorem ts_rt {l : List PosV} (h : RtL l) (w n : Int) : tsA (kF w n l) = true := by
 simp only [tsA, Bool.and_eq_true, List.all_eq_true]
 refine ⟨fun x hx => ?_, fun x hx => ?_⟩ <;> (obtain ⟨p, hp, rfl⟩ := List.mem_map.1 hx)
 ·exact (h p (List.mem_filter.1 hp).1).2.1
 ·exact (h p (List.mem_filter.1 hp).1).2.2
theorem ts_vals {l : List PosV} (h : RtL l) (w n : Int) : tsE (kF w n l) = (bif rightN (sF PosV.qty w n l) && rightN (sF PosV.cost w n l) then 0 else 1) ∧
  tsQ (kF w n l) = (bif rightN (sF PosV.qty w n l) && rightN (sF PosV.cost w n l) then sF PosV.qty w n l else 0) ∧ tsC (kF w n l) = (bif rightN (sF PosV.qty w n l) && rightN (sF PosV.cost w n l) then sF PosV.cost w n l else 0) := by
 have ha := ts_rt h w n
 have e1 : ((kF w n l).map PosV.qty).sum = sF PosV.qty w n l := sF_filter _ _ _ _
 have e2 : ((kF w n l).map PosV.cost).sum = sF PosV.cost w n l := sF_filter _ _ _ _
 have hb : tsB (kF w n l) = (rightN (sF PosV.qty w n l) && rightN (sF PosV.cost w n l)) := by
  simp only [tsB, ha, Bool.true_and, e1, e2]
 simp only [tsE, tsQ, tsC, ha, hb, cond_true, e1, e2, and_self]
def jFit (l : List PosV) (k : Int × Int) : Prop := (-1099511627776 ≤ sF PosV.qty k.1 k.2 l ∧ sF PosV.qty k.1 k.2 l ≤ 1099511627776) ∧ rightN (sF PosV.cost k.1 k.2 l) = true
theorem jBad_iff {l : List PosV} (h : RtL l) (k : Int × Int) : jBad l k = false ↔ jFit l k := by
 obtain ⟨h1, h2, h3⟩ := ts_vals h k.1 k.2
 simp only [jBad, h1, h2, jFit]
 cases hq : rightN (sF PosV.qty k.1 k.2 l) with
 | false =>
  simp only [Bool.false_and, cond_false]
  constructor
  ·intro h; simp at h
  ·rintro ⟨h4, _⟩
   have : rightN (sF PosV.qty k.1 k.2 l) = true := rightN_iff.2 (by omega)
   rw [this] at hq; cases hq
 | true =>
  cases hc : rightN (sF PosV.cost k.1 k.2 l) with
  | false => simp
  | true => simp
theorem jFit_vals {l : List PosV} (h : RtL l) {k : Int × Int} (hf : jFit l k) : tsE (kF k.1 k.2 l) = 0 ∧ tsQ (kF k.1 k.2 l) = sF PosV.qty k.1 k.2 l ∧ tsC (kF k.1 k.2 l) = sF PosV.cost k.1 k.2 l := by
 obtain ⟨h1, h2, h3⟩ := ts_vals h k.1 k.2
 have hq : rightN (sF PosV.qty k.1 k.2 l) = true := rightN_iff.2 (by have := hf.1; omega)
 rw [h1, h2, h3, hq, hf.2]
 exact ⟨rfl, rfl, rfl⟩
theorem add_ok {b : BookV} {g : List PosV} : addE b g = 0 ↔ (GoodB b ∧ RtL g ∧ (∀ n : Int, 1 ≤ n → n ≤ 8 → lF PosV.qty n g = 0) ∧ ∀ k ∈ allK, jFit (b.poss ++ g) k) := by
 rw [← bookOk_iff]
 simp only [addE]
 cases h1 : bookOk b with
 | false => simp
 | true =>
  have hG := (bookOk_iff b).1 h1
  cases h2 : g.any badLeg with
  | true =>
   simp only [Bool.not_true, cond_false, cond_true]
   constructor
   ·intro h; simp at h
   ·rintro ⟨_, h, _⟩
    rw [RtL_any.2 h] at h2; cases h2
  | false =>
   have hR := RtL_any.1 h2
   have hq : ∀ p ∈ g, rightN p.qty = true := fun p hp => (hR p hp).2.1
   rw [← levelOk_iff hq]
   cases h3 : levelOk g with
   | false => simp
   | true =>
    cases h4 : allK.any (jBad (b.poss ++ g)) with
    | true =>
     simp only [Bool.not_true, cond_false, cond_true]
     constructor
     ·intro h; simp at h
     ·rintro ⟨_, _, _, h⟩
      obtain ⟨k, hk, hb⟩ := List.any_eq_true.1 h4
      rw [(jBad_iff (hG.rt.app hR) k).2 (h k hk)] at hb; cases hb
    | false =>
     simp only [Bool.not_true, cond_false, true_and, true_iff]
     refine ⟨hR, fun k hk => (jBad_iff (hG.rt.app hR) k).1 ?_⟩
     have := List.any_eq_false.1 h4 k hk
     simpa using this
theorem add_val {b : BookV} {g : List PosV} (h : addE b g = 0) : addV b g = ⟨b.next, b.trades, jOut (b.poss ++ g) allK⟩ := by simp only [addV, h]; rfl
theorem add_no {b : BookV} {g : List PosV} (h : addE b g ≠ 0) : addV b g = ⟨0, [], []⟩ := by simp only [addV, show (addE b g == 0) = false by simpa using h]; rfl
theorem jOne_mem {l : List PosV} (h : RtL l) {k : Int × Int} (hf : jFit l k) {p : PosV} : p ∈ jOne l k ↔ (p.who = k.1 ∧ p.inst = k.2 ∧ p.qty = sF PosV.qty k.1 k.2 l ∧ p.cost = sF PosV.cost k.1 k.2 l ∧ (p.qty ≠ 0 ∨ p.cost ≠ 0)) := by
 obtain ⟨_, h2, h3⟩ := jFit_vals h hf
 simp only [jOne, h2, h3]
 cases hc : (sF PosV.qty k.1 k.2 l != 0 || sF PosV.cost k.1 k.2 l != 0) with
 | true =>
  simp only [cond_true, List.mem_singleton]
  have hc : sF PosV.qty k.1 k.2 l ≠ 0 ∨ sF PosV.cost k.1 k.2 l ≠ 0 := by simpa using hc
  constructor
  ·rintro rfl; exact ⟨rfl, rfl, rfl, rfl, hc⟩
  ·rintro ⟨h1, h2, h3, h4, _⟩
   cases p; simp at h1 h2 h3 h4 ⊢; exact ⟨h1, h2, h3, h4⟩
 | false =>
  simp only [cond_false, List.not_mem_nil, false_iff]
  have hc : sF PosV.qty k.1 k.2 l = 0 ∧ sF PosV.cost k.1 k.2 l = 0 := by simpa using hc
  rintro ⟨_, _, h3, h4, h5⟩
  rw [h3, h4, hc.1, hc.2] at h5
  simp at h5
theorem jOut_mem {l : List PosV} (h : RtL l) (hf : ∀ k ∈ allK, jFit l k) {p : PosV} : p ∈ jOut l allK ↔ (keyOk p.who p.inst = true ∧ p.qty = sF PosV.qty p.who p.inst l ∧ p.cost = sF PosV.cost p.who p.inst l ∧ (p.qty ≠ 0 ∨ p.cost ≠ 0)) := by
 simp only [jOut, List.mem_flatMap]
 constructor
 ·rintro ⟨k, hk, hp⟩
  obtain ⟨h1, h2, h3, h4, h5⟩ := (jOne_mem h (hf k hk)).1 hp
  have := allK_mem.1 hk
  rw [h1, h2]
  exact ⟨this, h3, h4, h5⟩
 ·rintro ⟨h1, h2, h3, h4⟩
  have hk := allK_mem (k := (p.who, p.inst)).2 h1
  exact ⟨_, hk, (jOne_mem h (hf _ hk)).2 ⟨rfl, rfl, h2, h3, h4⟩⟩
theorem jOne_key {l : List PosV} {k : Int × Int} {p : PosV} (hp : p ∈ jOne l k) : p.who = k.1 ∧ p.inst = k.2 := by
 simp only [jOne] at hp
 cases hc : (tsQ (kF k.1 k.2 l) != 0 || tsC (kF k.1 k.2 l) != 0) with
 | true => rw [hc] at hp; simp at hp; rw [hp]; exact ⟨rfl, rfl⟩
 | false => rw [hc] at hp; simp at hp
theorem jOut_asc (l : List PosV) : ∀ {K : List (Int × Int)}, K.Pairwise (fun a b => keyLt a.1 a.2 b.1 b.2 = true) → Asc (jOut l K)
 | [], _ => by simp [jOut, Asc]
 | k :: K, h => by
  have h' := List.pairwise_cons.1 h
  simp only [jOut, List.flatMap_cons]
  refine List.pairwise_append.2 ⟨?_, jOut_asc l h'.2, fun x hx y hy => ?_⟩
  ·simp only [jOne]; cases (tsQ (kF k.1 k.2 l) != 0 || tsC (kF k.1 k.2 l) != 0) <;> simp
  ·obtain ⟨j, hj, hy⟩ := List.mem_flatMap.1 hy
   obtain ⟨e1, e2⟩ := jOne_key hx
   obtain ⟨e3, e4⟩ := jOne_key hy
   show keyLt x.who x.inst y.who y.inst = true
   rw [e1, e2, e3, e4]
   exact h'.1 j hj
theorem asc_key {l : List PosV} (h : Asc l) {p : PosV} (hp : p ∈ l) (f : PosV → Int) : sF f p.who p.inst l = f p := by
 induction l with
 | nil => cases hp
 | cons x l ih =>
  have h' := List.pairwise_cons.1 h
  simp only [sF]
  rcases List.mem_cons.1 hp with rfl | hp
  ·rw [show kSame p.who p.inst p = true from kSame_iff.2 ⟨rfl, rfl⟩, cond_true]
   have : ∀ m : List PosV, (∀ y ∈ m, pLt p y = true) → sF f p.who p.inst m = 0 := by
    intro m
    induction m with
    | nil => intro _; rfl
    | cons y m ihm =>
     intro hm
     have := pLt_iff.1 (hm y (by simp))
     simp only [sF]
     rw [show kSame p.who p.inst y = false by
      cases hc : kSame p.who p.inst y with
      | false => rfl
      | true => have := kSame_iff.1 hc; omega, cond_false, ihm fun z hz => hm z (List.mem_cons_of_mem _ hz)]
     rfl
   rw [this l h'.1]; omega
  ·have := pLt_iff.1 (h'.1 p hp)
   rw [show kSame p.who p.inst x = false by
    cases hc : kSame p.who p.inst x with
    | false => rfl
    | true => have := kSame_iff.1 hc; omega, cond_false, ih h'.2 hp]
   omega
theorem sF_none {f : PosV → Int} {w n : Int} : ∀ {l : List PosV}, (∀ p ∈ l, ¬ (p.who = w ∧ p.inst = n)) → sF f w n l = 0
 | [], _ => rfl
 | p :: l, h => by
  simp only [sF]
  rw [show kSame w n p = false by
   cases hc : kSame w n p with
   | false => rfl
   | true => exact absurd (kSame_iff.1 hc) (h p (by simp)), cond_false, sF_none fun q hq => h q (List.mem_cons_of_mem _ hq)]
  rfl
def kSum (f : PosV → Int) (n : Int) (l : List PosV) : List (Int × Int) → Int
 | [] => 0
 | k :: K => (bif k.2 == n then sF f k.1 k.2 l else 0) + kSum f n l K
theorem kSum_nil (f : PosV → Int) (n : Int) : ∀ K, kSum f n [] K = 0
 | [] => rfl
 | k :: K => by simp only [kSum, sF, kSum_nil f n K]; cases (k.2 == n) <;> rfl
theorem kSum_no (f : PosV → Int) (n : Int) (p : PosV) (l : List PosV) : ∀ {K : List (Int × Int)}, (p.who, p.inst) ∉ K → kSum f n (p :: l) K = kSum f n l K
 | [], _ => rfl
 | k :: K, h => by
  simp only [List.mem_cons, not_or] at h
  simp only [kSum, sF, kSum_no f n p l h.2]
  rw [show kSame k.1 k.2 p = false by
   cases hc : kSame k.1 k.2 p with
   | false => rfl
   | true => have := kSame_iff.1 hc; exact absurd (by rw [this.1, this.2]) h.1]
  cases (k.2 == n) <;> simp
theorem kSum_cons (f : PosV → Int) (n : Int) (p : PosV) (l : List PosV) : ∀ {K : List (Int × Int)}, K.Nodup → (p.who, p.inst) ∈ K → kSum f n (p :: l) K = (bif p.inst == n then f p else 0) + kSum f n l K
 | [], _, h => by cases h
 | k :: K, hn, h => by
  have hn' := List.nodup_cons.1 hn
  rcases List.mem_cons.1 h with e | h
  ·subst e
   simp only [kSum, sF]
   rw [kSum_no f n p l hn'.1, show kSame p.who p.inst p = true from kSame_iff.2 ⟨rfl, rfl⟩]
   cases (p.inst == n) <;> simp; omega
  ·have hne : k ≠ (p.who, p.inst) := fun e => by rw [e] at hn'; exact hn'.1 h
   simp only [kSum, sF, kSum_cons f n p l hn'.2 h]
   rw [show kSame k.1 k.2 p = false by
    cases hc : kSame k.1 k.2 p with
    | false => rfl
    | true => have := kSame_iff.1 hc; exact absurd (by rw [this.1, this.2]) hne]
   cases (k.2 == n) <;> simp <;> omega
theorem allK_nodup : allK.Nodup := (kW_asc 16).imp fun h e => by subst e; have := keyLt_iff.1 h; omega
theorem kSum_all (f : PosV → Int) (n : Int) : ∀ {l : List PosV}, (∀ p ∈ l, keyOk p.who p.inst = true) → kSum f n l allK = lF f n l
 | [], _ => kSum_nil f n _
 | p :: l, h => by
  rw [kSum_cons f n p l allK_nodup (allK_mem.2 (h p (by simp))), kSum_all f n fun q hq => h q (List.mem_cons_of_mem _ hq)]
  rfl
theorem kSum_out {l m : List PosV} (f : PosV → Int) (n : Int) : ∀ {K : List (Int × Int)}, (∀ k ∈ K, sF f k.1 k.2 l = sF f k.1 k.2 m) → kSum f n l K = kSum f n m K
 | [], _ => rfl
 | k :: K, h => by simp only [kSum, h k (by simp), kSum_out f n fun j hj => h j (List.mem_cons_of_mem _ hj)]
theorem out_sum {l : List PosV} (h : RtL l) (hf : ∀ k ∈ allK, jFit l k) {w n : Int} (hk : keyOk w n = true) : sF PosV.qty w n (jOut l allK) = sF PosV.qty w n l ∧ sF PosV.cost w n (jOut l allK) = sF PosV.cost w n l := by
 have hasc := jOut_asc l (kW_asc 16)
 by_cases h0 : sF PosV.qty w n l ≠ 0 ∨ sF PosV.cost w n l ≠ 0
 ·have hp : (⟨w, n, sF PosV.qty w n l, sF PosV.cost w n l⟩ : PosV) ∈ jOut l allK := (jOut_mem h hf).2 ⟨hk, rfl, rfl, h0⟩
  exact ⟨asc_key hasc hp PosV.qty, asc_key hasc hp PosV.cost⟩
 ·have hn : ∀ p ∈ jOut l allK, ¬ (p.who = w ∧ p.inst = n) := fun p hp ⟨e1, e2⟩ => by
   obtain ⟨_, h2, h3, h4⟩ := (jOut_mem h hf).1 hp
   rw [h2, h3, e1, e2] at h4
   exact h0 h4
  rw [sF_none hn, sF_none hn]
  constructor
  ·by_cases e : sF PosV.qty w n l = 0
   ·exact e.symm
   ·exact absurd (.inl e) h0
  ·by_cases e : sF PosV.cost w n l = 0
   ·exact e.symm
   ·exact absurd (.inr e) h0
theorem out_lev {l : List PosV} (h : RtL l) (hf : ∀ k ∈ allK, jFit l k) (n : Int) : lF PosV.qty n (jOut l allK) = lF PosV.qty n l ∧ lF PosV.cost n (jOut l allK) = lF PosV.cost n l := by
 have ho : ∀ p ∈ jOut l allK, keyOk p.who p.inst = true := fun p hp => ((jOut_mem h hf).1 hp).1
 have hl : ∀ p ∈ l, keyOk p.who p.inst = true := fun p hp => (h p hp).1
 constructor
 ·rw [← kSum_all _ n ho, ← kSum_all _ n hl]
  exact kSum_out _ n fun k hk => (out_sum h hf (allK_mem.1 hk)).1
 ·rw [← kSum_all _ n ho, ← kSum_all _ n hl]
  exact kSum_out _ n fun k hk => (out_sum h hf (allK_mem.1 hk)).2
theorem add_good {b : BookV} {g : List PosV} (h : addE b g = 0) : GoodB (addV b g) := by
 obtain ⟨hG, hR, hL, hf⟩ := add_ok.1 h
 have hA := hG.rt.app hR
 rw [add_val h]
 refine ⟨hG.nx0, hG.nx1, hG.len, hG.tr, hG.tasc, fun p hp => ?_, jOut_asc _ (kW_asc 16), fun n h1 h2 => ?_⟩
 ·obtain ⟨h1, h2, h3, h4⟩ := (jOut_mem hA hf).1 hp
  have := hf _ (allK_mem (k := (p.who, p.inst)).2 h1)
  refine posOk_iff.2 ⟨h1, ?_, ?_, ?_, h4⟩
  ·rw [h2]; exact this.1.1
  ·rw [h2]; exact this.1.2
  ·rw [h3]; exact this.2
 ·rw [(out_lev hA hf n).1, lF_app, hG.lev n h1 h2, hL n h1 h2]; rfl
theorem add_sum {b : BookV} {g : List PosV} (h : addE b g = 0) {w n : Int} (hk : keyOk w n = true) : sF PosV.qty w n (addV b g).poss = sF PosV.qty w n b.poss + sF PosV.qty w n g ∧ sF PosV.cost w n (addV b g).poss = sF PosV.cost w n b.poss + sF PosV.cost w n g := by
 obtain ⟨hG, hR, hL, hf⟩ := add_ok.1 h
 rw [add_val h]; simp only
 have := out_sum (hG.rt.app hR) hf hk
 rw [this.1, this.2, sF_app, sF_app]
 exact ⟨rfl, rfl⟩
theorem add_lev {b : BookV} {g : List PosV} (h : addE b g = 0) (n : Int) : lF PosV.cost n (addV b g).poss = lF PosV.cost n b.poss + lF PosV.cost n g := by
 obtain ⟨hG, hR, hL, hf⟩ := add_ok.1 h
 rw [add_val h]; simp only
 rw [(out_lev (hG.rt.app hR) hf n).2, lF_app]
theorem good_fit {b : BookV} (h : GoodB b) {w n : Int} : (-1099511627776 ≤ sF PosV.qty w n b.poss ∧ sF PosV.qty w n b.poss ≤ 1099511627776) ∧ rightN (sF PosV.cost w n b.poss) = true := by
 by_cases hn : ∃ q ∈ b.poss, q.who = w ∧ q.inst = n
 ·obtain ⟨q, hq, rfl, rfl⟩ := hn
  rw [asc_key h.asc hq, asc_key h.asc hq]
  have := posOk_iff.1 (h.ok q hq)
  exact ⟨⟨this.2.1, this.2.2.1⟩, this.2.2.2.1⟩
 ·have hn : ∀ q ∈ b.poss, ¬ (q.who = w ∧ q.inst = n) := fun q hq e => hn ⟨q, hq, e⟩
  rw [sF_none hn, sF_none hn]
  exact ⟨by omega, rfl⟩
def ofP (w n : Int) : List PosV → PosV
 | [] => ⟨w, n, 0, 0⟩
 | p :: l => bif kSame w n p then p else ofP w n l
theorem ofP_sum {w n : Int} : ∀ {l : List PosV}, Asc l → ofP w n l = ⟨w, n, sF PosV.qty w n l, sF PosV.cost w n l⟩
 | [], _ => rfl
 | p :: l, h => by
  have h' := List.pairwise_cons.1 h
  simp only [ofP]
  cases hc : kSame w n p with
  | true =>
   obtain ⟨rfl, rfl⟩ := kSame_iff.1 hc
   rw [cond_true, asc_key h (p := p) (by simp) PosV.qty, asc_key h (p := p) (by simp) PosV.cost]
  | false => rw [cond_false, ofP_sum h'.2]; simp only [sF, hc, cond_false]; congr 1 <;> omega
def iF (n : Int) (l : List PosV) : List PosV := l.filter fun p => p.inst == n
end Go.Proofs.Ytopifbpibkpmmaa
