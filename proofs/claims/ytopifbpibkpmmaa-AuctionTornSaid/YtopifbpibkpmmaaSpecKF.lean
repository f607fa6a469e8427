/- Books, as the other reading has them. In plain Lean. No condition. -/
import Derived.Test.YtopifbpibkpmmaaSpecKC
namespace Go.Proofs.Ytopifbpibkpmmaa
open Go.RowKit
set_option linter.unusedVariables false
set_option linter.unusedSimpArgs false
theorem chk_pos {ps : List PosV} (h : chkR posOk pLt none ps = chkR posOk pLt ps.getLast? []) : chkR posOk pLt none ps = true ∧ ∀ p ∈ ps, posOk p = true := by
 have h : chkR posOk pLt none ps = true := by rw [h]; rfl
 exact ⟨h, ((chkR_iff pLt_tr).1 h).1⟩
theorem inR_iff {n a b : Int} : inR n a b = true ↔ (a ≤ n ∧ n ≤ b) := by simp [inR]
theorem posOk_ref (x : PosV) : (!posOk x) = (((!keyOk x.who x.inst || !inR x.qty (-1099511627776) 1099511627776) || !rightN x.cost) || (x.qty == 0 && x.cost == 0)) := by
 rw [Bool.eq_iff_iff]
 simp only [Bool.or_eq_true, Bool.and_eq_true, Bool.not_eq_true', ← Bool.not_eq_true, posOk_iff, inR_iff, beq_iff_eq]
 cases keyOk x.who x.inst <;> cases rightN x.cost <;> simp <;> omega
theorem rtOk_ref (t : TradeV) : ((((tradeOk t && inR t.buyer 1 16) && inR t.seller 1 16) && (t.buyer != t.seller)) && inR t.inst 1 8) = rtOk t := by
 rw [Bool.eq_iff_iff]
 simp only [rtOk, tradeOk, inR, keyOk, Bool.and_eq_true, decide_eq_true_eq, bne_iff_ne]
 constructor <;> intro h <;> omega
theorem trOk_ref (nx : Int) (x : TradeV) : (!trOk nx x) = (!rtOk x || !inR x.no 1 nx) := by
 rw [Bool.eq_iff_iff]
 simp only [Bool.or_eq_true, Bool.not_eq_true', ← Bool.not_eq_true, trOk_iff, inR_iff]
 cases rtOk x <;> simp
theorem rb_head {nx : Int} {ts : List TradeV} {ps : List PosV} (h : (!inR nx 0 1099511627776 || decide ((ts.length : Int) > 128)) = true) : bookOk ⟨nx, ts, ps⟩ = false := by
 cases hb : bookOk ⟨nx, ts, ps⟩ with
 | false => rfl
 | true =>
  have hG := (bookOk_iff _).1 hb
  have h0 := hG.nx0; have h1 := hG.nx1; have h2 := hG.len
  simp only at h0 h1 h2
  rw [inR_iff.2 ⟨h0, h1⟩] at h
  simp at h; omega
theorem rb_tail {nx : Int} {ts : List TradeV} {ps : List PosV} (h : (!inR nx 0 1099511627776 || decide ((ts.length : Int) > 128)) = false) (hl : levelTo ps 8 = true) : bookTail ⟨nx, ts, ps⟩ = false := by
 simp only [Bool.or_eq_false_iff, Bool.not_eq_false', inR_iff, decide_eq_false_iff_not] at h
 simp only [bookTail, levelOk, hl, Bool.or_eq_false_iff, decide_eq_false_iff_not]
 exact ⟨⟨⟨rfl, by omega⟩, by omega⟩, by omega⟩
theorem rb_lev {nx : Int} {ts : List TradeV} {ps : List PosV} {k : Nat} (hk : k < 8) (h : levelI ps (k + 1) = false) : bookOk ⟨nx, ts, ps⟩ = false := by
 have := levelTo_false hk h
 simp [bookOk, bookTail, this]
theorem lev_ref {ps : List PosV} (hall : ∀ p ∈ ps, posOk p = true) (n : Int) : (!rightN (levelQ ps n).sum || ((bif rightN (levelQ ps n).sum then (levelQ ps n).sum else 0) != 0)) = !levelI ps n := by
 have hr : (levelQ ps n).all rightN = true := List.all_eq_true.2 fun x hx => by
  obtain ⟨p, hp, rfl⟩ := List.mem_map.1 hx
  exact (pos_rt (hall p (List.mem_filter.1 hp).1)).1
 simp only [levelI, sumE, sumV, hr, cond_true, Bool.true_and]
 cases hc : rightN (levelQ ps n).sum <;> simp [bne]
theorem levQ_bnd {ps : List PosV} (hall : ∀ p ∈ ps, posOk p = true) (n : Int) : ∀ x ∈ levelQ ps n, -9223372036854775808 ≤ x ∧ x < 9223372036854775808 := fun x hx => by
 obtain ⟨p, hp, rfl⟩ := List.mem_map.1 hx
 have := rightN_iff.1 (pos_rt (hall p (List.mem_filter.1 hp).1)).1
 omega
end Go.Proofs.Ytopifbpibkpmmaa
namespace Go.Proofs.Ytopifbpibkpmmaa
open Go.RowKit
set_option linter.unusedVariables false
set_option linter.unusedSimpArgs false
theorem badLeg_ref (x : PosV) : badLeg x = ((!keyOk x.who x.inst || !rightN x.qty) || !rightN x.cost) := by
 simp only [badLeg, List.all_cons, List.all_nil, Bool.and_true]
 cases keyOk x.who x.inst <;> cases rightN x.qty <;> cases rightN x.cost <;> rfl
theorem lev_refR {ps : List PosV} (h : RtL ps) (n : Int) : (!rightN (levelQ ps n).sum || ((bif rightN (levelQ ps n).sum then (levelQ ps n).sum else 0) != 0)) = !levelI ps n := by
 have hr : (levelQ ps n).all rightN = true := List.all_eq_true.2 fun x hx => by
  obtain ⟨p, hp, rfl⟩ := List.mem_map.1 hx
  exact (h p (List.mem_filter.1 hp).1).2.1
 simp only [levelI, sumE, sumV, hr, cond_true, Bool.true_and]
 cases hc : rightN (levelQ ps n).sum <;> simp [bne]
theorem levQ_bndR {ps : List PosV} (h : RtL ps) (n : Int) : ∀ x ∈ levelQ ps n, -9223372036854775808 ≤ x ∧ x < 9223372036854775808 := fun x hx => by
 obtain ⟨p, hp, rfl⟩ := List.mem_map.1 hx
 have := rightN_iff.1 (h p (List.mem_filter.1 hp).1).2.1
 omega
def qcL (f : PosV → Int) (w n : Int) (ps g : List PosV) : List Int := f (ofP w n ps) :: (kF w n g).map f
theorem qcL_yes {f : PosV → Int} {w n : Int} {x : PosV} (h : kSame w n x = true) (ps pre : List PosV) : qcL f w n ps (pre ++ [x]) = qcL f w n ps pre ++ [f x] := by simp [qcL, kF, h]
theorem qcL_no {f : PosV → Int} {w n : Int} {x : PosV} (h : kSame w n x = false) (ps pre : List PosV) : qcL f w n ps (pre ++ [x]) = qcL f w n ps pre := by simp [qcL, kF, h]
theorem qcL_len (f : PosV → Int) (w n : Int) (ps g : List PosV) : (qcL f w n ps g).length ≤ g.length + 1 := by
 simp only [qcL, List.length_cons, List.length_map, kF]
 have := List.length_filter_le (kSame w n) g
 omega
theorem qcL_sum {w n : Int} {b : BookV} (hG : GoodB b) (g : List PosV) : (qcL PosV.qty w n b.poss g).sum = sF PosV.qty w n (b.poss ++ g) ∧ (qcL PosV.cost w n b.poss g).sum = sF PosV.cost w n (b.poss ++ g) := by
 simp only [qcL, List.sum_cons, sF_app, ofP_sum hG.asc, kF, sF_filter, and_self]
theorem qcL_bnd {b : BookV} (hG : GoodB b) {g : List PosV} (h : RtL g) (w n : Int) : (∀ x ∈ qcL PosV.qty w n b.poss g, -9223372036854775808 ≤ x ∧ x < 9223372036854775808) ∧ (∀ x ∈ qcL PosV.cost w n b.poss g, -9223372036854775808 ≤ x ∧ x < 9223372036854775808) := by
 have hf := good_fit hG (w := w) (n := n)
 have hc := rightN_iff.1 hf.2
 simp only [qcL, ofP_sum hG.asc]
 refine ⟨fun x hx => ?_, fun x hx => ?_⟩
 ·rcases List.mem_cons.1 hx with rfl | hx
  ·omega
  ·obtain ⟨p, hp, rfl⟩ := List.mem_map.1 hx
   have := rightN_iff.1 (h p (List.mem_filter.1 hp).1).2.1
   omega
 ·rcases List.mem_cons.1 hx with rfl | hx
  ·omega
  ·obtain ⟨p, hp, rfl⟩ := List.mem_map.1 hx
   have := rightN_iff.1 (h p (List.mem_filter.1 hp).1).2.2
   omega
theorem radd_bad {l : List PosV} (h : RtL l) (w n : Int) : ((!rightN (sF PosV.qty w n l) || !rightN (sF PosV.cost w n l)) || !inR (bif rightN (sF PosV.qty w n l) then sF PosV.qty w n l else 0) (-1099511627776) 1099511627776) = jBad l (w, n) := by
 obtain ⟨h1, h2, h3⟩ := ts_vals h w n
 simp only [jBad, h1, h2]
 cases rightN (sF PosV.qty w n l) <;> cases rightN (sF PosV.cost w n l) <;> simp [inR]
 rw [Bool.eq_iff_iff]; simp
theorem radd_val {l : List PosV} (h : RtL l) {w n : Int} (hb : jBad l (w, n) = false) : (bif rightN (sF PosV.qty w n l) then sF PosV.qty w n l else 0) = tsQ (kF w n l) ∧ (bif rightN (sF PosV.cost w n l) then sF PosV.cost w n l else 0) = tsC (kF w n l) := by
 have hf := (jBad_iff h (w, n)).1 hb
 obtain ⟨_, h2, h3⟩ := jFit_vals h hf
 simp only at h2 h3
 have hq : rightN (sF PosV.qty w n l) = true := rightN_iff.2 (by have := hf.1; simp only at this; omega)
 have hc : rightN (sF PosV.cost w n l) = true := hf.2
 rw [h2, h3, hq, hc]
 exact ⟨rfl, rfl⟩
theorem both_no {n : Int} {ps : List PosV} {x : PosV} (hx : x ∈ ps) (hs : (x.inst == n) = true) (h : (!rightN x.qty || !rightN x.cost) = true) : tsQ (iF n ps) = 0 ∧ tsC (iF n ps) = 0 := by
 have hm : x ∈ iF n ps := List.mem_filter.2 ⟨hx, hs⟩
 have hb : tsB (iF n ps) = false := by
  cases hc : tsB (iF n ps) with
  | false => rfl
  | true =>
   simp only [tsB, tsA, Bool.and_eq_true, List.all_eq_true] at hc
   rw [hc.1.1.1 _ (List.mem_map.2 ⟨x, hm, rfl⟩), hc.1.1.2 _ (List.mem_map.2 ⟨x, hm, rfl⟩)] at h
   cases h
 simp only [tsQ, tsC, hb, cond_false, and_self]
theorem both_a {n : Int} {x : PosV} (hs : (x.inst == n) = true) (h : (!rightN x.qty || !rightN x.cost) = false) {pre : List PosV} (ha : tsA (iF n pre) = true) : tsA (iF n (pre ++ [x])) = true := by
 simp only [Bool.or_eq_false_iff, Bool.not_eq_false'] at h
 simp only [tsA, Bool.and_eq_true] at ha ⊢
 simp [iF, hs, h.1, h.2] at ha ⊢
 exact ha
theorem both_b {n : Int} {x : PosV} (hs : (x.inst == n) = false) {pre : List PosV} (ha : tsA (iF n pre) = true) : tsA (iF n (pre ++ [x])) = true := by
 rw [show iF n (pre ++ [x]) = iF n pre by simp [iF, hs]]; exact ha
theorem both_bnd {l : List PosV} (ha : tsA l = true) : (∀ x ∈ l.map PosV.qty, -9223372036854775808 ≤ x ∧ x < 9223372036854775808) ∧ (∀ x ∈ l.map PosV.cost, -9223372036854775808 ≤ x ∧ x < 9223372036854775808) := by
 simp only [tsA, Bool.and_eq_true, List.all_eq_true] at ha
 exact ⟨fun x hx => by have := rightN_iff.1 (ha.1 x hx); omega, fun x hx => by have := rightN_iff.1 (ha.2 x hx); omega⟩
theorem both_bad {l : List PosV} (ha : tsA l = true) (h : (!rightN (l.map PosV.qty).sum || !rightN (l.map PosV.cost).sum) = true) : tsQ l = 0 ∧ tsC l = 0 := by
 have hb : tsB l = false := by
  simp only [tsB, ha, Bool.true_and]
  revert h
  cases rightN (l.map PosV.qty).sum <;> cases rightN (l.map PosV.cost).sum <;> simp
 simp only [tsQ, tsC, hb, cond_false, and_self]
theorem both_val {l : List PosV} (ha : tsA l = true) (h : (!rightN (l.map PosV.qty).sum || !rightN (l.map PosV.cost).sum) = false) : (bif rightN (l.map PosV.qty).sum then (l.map PosV.qty).sum else 0) = tsQ l ∧ (bif rightN (l.map PosV.cost).sum then (l.map PosV.cost).sum else 0) = tsC l := by
 simp only [Bool.or_eq_false_iff, Bool.not_eq_false'] at h
 have hb : tsB l = true := by simp only [tsB, ha, h.1, h.2, Bool.and_self]
 simp only [tsQ, tsC, hb, h.1, h.2, cond_true, and_self]
end Go.Proofs.Ytopifbpibkpmmaa
