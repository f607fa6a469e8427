/- A second run over a book, in plain terms. No condition. -/
import Derived.Test.YtdgkiemehmmobaaSpecP
namespace Go.Proofs.Ytdgkiemehmmobaa
open Go.RowKit
set_option linter.unusedVariables false
set_option linter.unusedSimpArgs false
def ofP (w n : Int) : List PosV → PosV
  | [] => ⟨w, n, 0, 0⟩
  | p :: ps => bif p.who == w && p.inst == n then p else ofP w n ps
def posA (p : PosV) : AV := .ag ((posC p).map .d)
theorem newP_facts {r : RollV} {p : PosV} (h : stE r p = 0) : stE r (newP r p) = 0 ∧ newP r (newP r p) = newP r p ∧ worthV (newP r p) (iOf r (newP r p)).mult (mkV r (newP r p)) = 0 := by
  obtain ⟨h1, h2, h3, h4, h5⟩ := stE_zero h
  have e1 : iOf r (newP r p) = iOf r p := rfl
  have e2 : mkV r (newP r p) = mkV r p := rfl
  have e3 : mkE r (newP r p) = mkE r p := rfl
  have e4 : newP r (newP r p) = newP r p := rfl
  have b1 : worthBad (newP r p) (iOf r p).mult (mkV r p) = false := by
    have h2' := h2
    simp [worthBad] at h2'
    obtain ⟨⟨⟨⟨⟨⟨a1, a2⟩, a3⟩, a4⟩, a5⟩, a6⟩, a7⟩ := h2'
    show worthBad ⟨p.who, p.inst, p.qty, p.qty * mkV r p⟩ (iOf r p).mult (mkV r p) = false
    simp [worthBad]
    exact ⟨⟨⟨⟨⟨⟨a1, a2⟩, h5⟩, a4⟩, a5⟩, a6⟩, a7⟩
  have t : worthT (newP r p) (iOf r p).mult (mkV r p) = 0 := by
    simp only [worthT, newP]
    rw [Int.neg_mul, Int.mul_assoc (iOf r p).mult, Int.mul_comm (iOf r p).mult]
    omega
  obtain ⟨w1, w2⟩ := worth_of b1 (by rw [t]; rfl)
  refine ⟨?_, e4, by rw [e1, e2, w2, t]⟩
  rw [stE_c (by rw [e3, h1]; rfl) (by simp only [stW, e1, e2, w1]; rfl), e2]
  show (bif rightN (p.qty * mkV r p) then (0 : Int) else 1) = 0
  rw [h5]; rfl
theorem mem_newPs {r : RollV} {l : List PosV} {q : PosV} (h : q ∈ newPs r l) : ∃ p ∈ l, q = newP r p ∧ liveP q = true := by
  simp only [newPs, List.mem_filter, List.mem_map] at h
  obtain ⟨⟨p, h1, rfl⟩, h2⟩ := h
  exact ⟨p, h1, rfl, h2⟩
theorem newPs_sum (r : RollV) (n : Int) : ∀ (l : List PosV), (levelQ (newPs r l) n).sum = (levelQ l n).sum
  | [] => rfl
  | p :: l => by
    have ih := newPs_sum r n l
    have e : newPs r (p :: l) = (bif liveP (newP r p) then [newP r p] else []) ++ newPs r l := by
      cases h : liveP (newP r p) <;> simp [newPs, h]
    have e2 : ∀ q (k : List PosV), levelQ (q :: k) n = (bif q.inst == n then [q.qty] else []) ++ levelQ k n := fun q k => by
      cases h : q.inst == n <;> simp [levelQ, h]
    rw [e, e2 p l]
    cases h : liveP (newP r p)
    · have hq : p.qty = 0 := by
        simp only [liveP, newP, Bool.or_eq_false_iff, bne_eq_false_iff_eq] at h; exact h.1
      rw [cond_false, List.nil_append, ih]
      cases p.inst == n <;> simp [hq]
    · rw [cond_true, List.singleton_append, e2]
      show ((bif p.inst == n then [p.qty] else []) ++ levelQ (newPs r l) n).sum = _
      rw [List.sum_append, List.sum_append, ih]
theorem level_of {l : List PosV} (h : ∀ p ∈ l, rightN p.qty = true) (h2 : ∀ n : Int, 1 ≤ n → n ≤ 8 → (levelQ l n).sum = 0) : levelOk l = true := by
  refine List.all_eq_true.2 fun k hk => ?_
  have hk := List.mem_range.1 hk
  have h3 := h2 ((k : Int) + 1) (by omega) (by omega)
  have h4 : (levelQ l ((k : Int) + 1)).all rightN = true := List.all_eq_true.2 fun x hx => by
    simp only [levelQ, List.mem_map, List.mem_filter] at hx
    obtain ⟨p, ⟨hp, _⟩, rfl⟩ := hx
    exact h p hp
  simp only [levelI, sumE, sumV, h4, h3, cond_true, Bool.true_and]
  decide
theorem posOk_iff (p : PosV) : posOk p = true ↔ keyOk p.who p.inst = true ∧ -1099511627776 ≤ p.qty ∧ p.qty ≤ 1099511627776 ∧ rightN p.cost = true ∧ liveP p = true := by
  simp only [posOk, posBad, liveP, List.all_cons, List.all_nil, Bool.and_true]
  cases keyOk p.who p.inst <;> cases rightN p.cost <;> by_cases h1 : p.qty = 0 <;> by_cases h2 : p.cost = 0 <;> simp [h1, h2] <;> omega
theorem bookOk_of {b : BookV} (h1 : chkR posOk pLt none b.poss = true) (h2 : chkR (trOk b.next) tLt none b.trades = true) (h3 : levelOk b.poss = true) (h4 : b.trades.length ≤ 128) (h5 : 0 ≤ b.next) (h6 : b.next ≤ 1099511627776) : bookOk b = true := by
  simp only [bookOk, bookTail, h1, h2, h3]
  simp; omega
theorem bookOk_new {r : RollV} {b : BookV} (h : bookOk b = true) (hs : ∀ p ∈ b.poss, stE r p = 0) : bookOk ⟨b.next, b.trades, newPs r b.poss⟩ = true := by
  obtain ⟨h1, h2, h3, h4, h5, h6⟩ := book_parts h
  have hok : ∀ q ∈ newPs r b.poss, posOk q = true := fun q hq => by
    obtain ⟨p, hp, rfl, hl⟩ := mem_newPs hq
    have hp1 := (posOk_iff p).1 (chkR_all h1 p hp)
    exact (posOk_iff _).2 ⟨hp1.1, hp1.2.1, hp1.2.2.1, (stE_zero (hs p hp)).2.2.2.2, hl⟩
  refine bookOk_of (chkR_of (fun y hy => by cases hy) hok ?_) h2 (level_of (fun q hq => ?_) fun n k1 k2 => ?_) h4 h5 h6
  · have hp := chkR_pair pLt_tr h1
    exact (List.Pairwise.map (newP r) (fun a b hab => hab) hp).filter _
  · have := (posOk_iff q).1 (hok q hq)
    simp [rightN]; omega
  · show (levelQ (newPs r b.poss) n).sum = 0
    rw [newPs_sum]
    exact level_sum h3 k1 k2
theorem rollE_zero {r : RollV} (h : rollOk r = true) : rollE r = 0 := by simp [rollE, h]
theorem bookE_zero {b : BookV} (h : bookOk b = true) : bookE b = 0 := by simp [bookE, h]
theorem ofP_none {w n : Int} : ∀ {l : List PosV}, (∀ q ∈ l, (q.who == w && q.inst == n) = false) → ofP w n l = ⟨w, n, 0, 0⟩
  | [], _ => rfl
  | q :: l, h => by simp only [ofP, h q (by simp), cond_false]; exact ofP_none fun x hx => h x (by simp [hx])
theorem ofP_new {r : RollV} : ∀ {l : List PosV}, (l.Pairwise fun a b => pLt a b = true) → ∀ p ∈ l, (ofP p.who p.inst (newPs r l)).qty = p.qty
  | [], _, p, hp => by simp at hp
  | q :: l, hw, p, hp => by
    rw [List.pairwise_cons] at hw
    have e : newPs r (q :: l) = (bif liveP (newP r q) then [newP r q] else []) ++ newPs r l := by
      cases h : liveP (newP r q) <;> simp [newPs, h]
    rw [e]
    rcases List.mem_cons.1 hp with rfl | hp
    · cases h : liveP (newP r p)
      · have hq : p.qty = 0 := by
          simp only [liveP, newP, Bool.or_eq_false_iff, bne_eq_false_iff_eq] at h; exact h.1
        rw [cond_false, List.nil_append, ofP_none, hq]
        intro x hx
        obtain ⟨y, hy, rfl, _⟩ := mem_newPs hx
        have := (pLt_iff p y).1 (hw.1 y hy)
        simp only [newP, Bool.and_eq_false_iff, beq_eq_false_iff_ne]
        omega
      · rw [cond_true, List.singleton_append]
        simp [ofP, newP]
    · have hlt := (pLt_iff q p).1 (hw.1 p hp)
      have hne : (q.who == p.who && q.inst == p.inst) = false := by
        simp only [Bool.and_eq_false_iff, beq_eq_false_iff_ne]; omega
      cases h : liveP (newP r q)
      · rw [cond_false, List.nil_append]; exact ofP_new hw.2 p hp
      · rw [cond_true, List.singleton_append]
        have e3 : ((newP r q).who == p.who && (newP r q).inst == p.inst) = false := hne
        simp only [ofP, e3, cond_false]
        exact ofP_new hw.2 p hp
theorem newPs_twice {r : RollV} {l : List PosV} : newPs r (newPs r l) = newPs r l := by
  have h : ∀ q ∈ newPs r l, newP r q = q ∧ liveP q = true := fun q hq => by
    obtain ⟨p, _, rfl, hl⟩ := mem_newPs hq
    exact ⟨rfl, hl⟩
  have e : (newPs r l).map (newP r) = newPs r l := by
    conv => rhs; rw [← List.map_id (newPs r l)]
    exact List.map_congr_left fun q hq => (h q hq).1
  show ((newPs r l).map (newP r)).filter liveP = _
  rw [e, List.filter_eq_self]
  exact fun q hq => (h q hq).2
theorem again_law {r : RollV} {b : BookV} (h : runE r b = 0) : (∀ p ∈ b.poss, (ofP p.who p.inst (newPs r b.poss)).qty = p.qty) ∧ runE r ⟨b.next, b.trades, newPs r b.poss⟩ = 0 ∧
    ∀ p ∈ newPs r b.poss, worthV p (iOf r p).mult (mkV r p) = 0 := by
  obtain ⟨h1, h2, h3⟩ := runE_zero h
  refine ⟨ofP_new (chkR_pair pLt_tr (book_parts h2).1), ?_, fun q hq => ?_⟩
  · rw [runE_poss (rollE_zero h1) (bookE_zero (bookOk_new h2 h3))]
    refine firstE_of fun q hq => ?_
    obtain ⟨p, hp, rfl, _⟩ := mem_newPs hq
    exact (newP_facts (h3 p hp)).1
  · obtain ⟨p, hp, rfl, _⟩ := mem_newPs hq
    exact (newP_facts (h3 p hp)).2.2
end Go.Proofs.Ytdgkiemehmmobaa
