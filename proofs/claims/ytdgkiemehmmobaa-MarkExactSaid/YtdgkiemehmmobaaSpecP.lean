/- What a run over a book wins, in plain terms. No condition. -/
import Derived.Test.YtdgkiemehmmobaaSpecO
namespace Go.Proofs.Ytdgkiemehmmobaa
open Go.RowKit
set_option linter.unusedVariables false
set_option linter.unusedSimpArgs false
/- Orders. -/
theorem chkR_all {α : Type} {ok : α → Bool} {lt : α → α → Bool} : ∀ {p : Option α} {l : List α}, chkR ok lt p l = true → ∀ x ∈ l, ok x = true
  | _, [], _, x, hx => by simp at hx
  | p, y :: l, h, x, hx => by
    simp only [chkR, Bool.and_eq_true] at h
    rcases List.mem_cons.1 hx with rfl | hx
    · exact h.1.1
    · exact chkR_all h.2 x hx
theorem chkR_lt {α : Type} {ok : α → Bool} {lt : α → α → Bool} (tr : ∀ a b c, lt a b = true → lt b c = true → lt a c = true) : ∀ {x : α} {l : List α}, chkR ok lt (some x) l = true → ∀ y ∈ l, lt x y = true
  | _, [], _, y, hy => by simp at hy
  | x, z :: l, h, y, hy => by
    simp only [chkR, Bool.and_eq_true] at h
    rcases List.mem_cons.1 hy with rfl | hy
    · exact h.1.2
    · exact tr _ _ _ h.1.2 (chkR_lt tr h.2 y hy)
theorem chkR_pair {α : Type} {ok : α → Bool} {lt : α → α → Bool} (tr : ∀ a b c, lt a b = true → lt b c = true → lt a c = true) : ∀ {p : Option α} {l : List α}, chkR ok lt p l = true → l.Pairwise fun a b => lt a b = true
  | _, [], _ => List.Pairwise.nil
  | p, x :: l, h => by
    simp only [chkR, Bool.and_eq_true] at h
    exact List.Pairwise.cons (chkR_lt tr h.2) (chkR_pair tr h.2)
theorem chkR_of {α : Type} {ok : α → Bool} {lt : α → α → Bool} : ∀ {p : Option α} {l : List α}, (∀ y, p = some y → ∀ x ∈ l, lt y x = true) → (∀ x ∈ l, ok x = true) → (l.Pairwise fun a b => lt a b = true) → chkR ok lt p l = true
  | _, [], _, _, _ => rfl
  | p, x :: l, hp, h, hw => by
    rw [List.pairwise_cons] at hw
    simp only [chkR, Bool.and_eq_true]
    refine ⟨⟨h x (by simp), ?_⟩, chkR_of (fun y hy => by injection hy with hy; subst hy; exact hw.1) (fun y hy => h y (by simp [hy])) hw.2⟩
    cases p with
    | none => rfl
    | some y => exact hp y rfl x (by simp)
theorem pLt_iff (p q : PosV) : pLt p q = true ↔ p.who < q.who ∨ p.who = q.who ∧ p.inst < q.inst := by simp [pLt, keyLt]
theorem pLt_tr (a b c : PosV) (h : pLt a b = true) (h2 : pLt b c = true) : pLt a c = true := by
  rw [pLt_iff] at h h2 ⊢; omega
/- Numbers rise: each stands there once. -/
theorem chk_lt {α : Type} {ok : α → Bool} {no : α → Int} : ∀ {x : α} {l : List α}, chk ok no (some x) l = true → ∀ y ∈ l, no x < no y
  | _, [], _, y, hy => by simp at hy
  | x, z :: l, h, y, hy => by
    simp only [chk, Bool.and_eq_true, Bool.not_eq_true', decide_eq_false_iff_not] at h
    rcases List.mem_cons.1 hy with rfl | hy
    · omega
    · have := chk_lt h.2 y hy; omega
theorem chk_find {α : Type} {ok : α → Bool} {no : α → Int} {z : α} : ∀ {p : Option α} {l : List α}, chk ok no p l = true → ∀ x ∈ l, findX no (no x) z l = x
  | _, [], _, x, hx => by simp at hx
  | p, y :: l, h, x, hx => by
    simp only [chk, Bool.and_eq_true] at h
    rcases List.mem_cons.1 hx with rfl | hx
    · simp [findX]
    · have := chk_lt h.2 x hx
      have e : (no y == no x) = false := by simp; omega
      simp only [findX, e, cond_false]
      exact chk_find h.2 x hx
/- What a position has won that may be marked. -/
theorem stE_zero {r : RollV} {p : PosV} (h : stE r p = 0) : mkE r p = 0 ∧ worthBad p (iOf r p).mult (mkV r p) = false ∧ rightN (worthT p (iOf r p).mult (mkV r p)) = true ∧
    worthV p (iOf r p).mult (mkV r p) = worthT p (iOf r p).mult (mkV r p) ∧ rightN (p.qty * mkV r p) = true := by
  cases h1 : mkE r p != 0
  · cases h2 : stW r p != 0
    · rw [stE_c h1 h2] at h
      have h3 : rightN (p.qty * mkV r p) = true := by revert h; cases rightN (p.qty * mkV r p) <;> simp
      obtain ⟨a, b, c⟩ := worth_zero (show worthE p (iOf r p).mult (mkV r p) = 0 by simpa [stW] using h2)
      exact ⟨by simpa using h1, a, b, c, h3⟩
    · rw [stE_w h1 h2] at h
      rw [h] at h2; simp at h2
  · rw [stE_mk h1] at h
    rw [h] at h1; simp at h1
theorem firstE_all {α : Type} {f : α → Int} : ∀ {l : List α}, firstE f l = 0 → ∀ x ∈ l, f x = 0
  | [], _, x, hx => by simp at hx
  | y :: l, h, x, hx => by
    simp only [firstE] at h
    cases hy : f y != 0
    · rw [hy, cond_false] at h
      rcases List.mem_cons.1 hx with rfl | hx
      · simpa using hy
      · exact firstE_all h x hx
    · rw [hy, cond_true] at h
      rw [h] at hy; simp at hy
theorem firstE_of {α : Type} {f : α → Int} : ∀ {l : List α}, (∀ x ∈ l, f x = 0) → firstE f l = 0
  | [], _ => rfl
  | y :: l, h => by
    simp only [firstE, show (f y != 0) = false from by rw [h y (by simp)]; rfl, cond_false]
    exact firstE_of fun x hx => h x (by simp [hx])
theorem runE_zero {r : RollV} {b : BookV} (h : runE r b = 0) : rollOk r = true ∧ bookOk b = true ∧ ∀ p ∈ b.poss, stE r p = 0 := by
  by_cases h1 : rollE r = 0
  · by_cases h2 : bookE b = 0
    · rw [runE_poss h1 h2] at h
      refine ⟨?_, ?_, firstE_all h⟩
      · revert h1; unfold rollE; cases rollOk r <;> simp
      · revert h2; unfold bookE; cases bookOk b <;> simp
    · rw [runE_book h1 h2] at h; exact (h2 h).elim
  · rw [runE_roll h1] at h; exact (h1 h).elim
theorem run_ok {r : RollV} {b : BookV} (h : runE r b = 0) : runN r b = b.next ∧ runT r b = b.trades ∧ runP r b = newPs r b.poss ∧ runD r b = b.poss.map (dueOf r) := by
  simp [runN, runT, runP, runD, h]
theorem run_no {r : RollV} {b : BookV} (h : runE r b ≠ 0) : runN r b = 0 ∧ runT r b = [] ∧ runP r b = [] ∧ runD r b = [] := by
  have e : (runE r b == 0) = false := by simpa using h
  simp [runN, runT, runP, runD, e]
/- An instrument's positions. -/
def isI (i : InstV) (p : PosV) : Bool := p.inst == i.no
def zW (r : RollV) (i : InstV) (l : List PosV) : List Int := (l.filter (isI i)).map fun p => worthV p (iOf r p).mult (mkV r p)
def zC (i : InstV) (l : List PosV) : List Int := (l.filter (isI i)).map fun p => -p.cost * i.mult
theorem zW_yes {r : RollV} {i : InstV} {p : PosV} (h : isI i p = true) (pre : List PosV) : zW r i (pre ++ [p]) = zW r i pre ++ [worthV p (iOf r p).mult (mkV r p)] := by simp [zW, h]
theorem zW_no {r : RollV} {i : InstV} {p : PosV} (h : isI i p = false) (pre : List PosV) : zW r i (pre ++ [p]) = zW r i pre := by simp [zW, h]
theorem zC_yes {i : InstV} {p : PosV} (h : isI i p = true) (pre : List PosV) : zC i (pre ++ [p]) = zC i pre ++ [-p.cost * i.mult] := by simp [zC, h]
theorem zC_no {i : InstV} {p : PosV} (h : isI i p = false) (pre : List PosV) : zC i (pre ++ [p]) = zC i pre := by simp [zC, h]
theorem zW_len (r : RollV) (i : InstV) (l : List PosV) : (zW r i l).length ≤ l.length := by
  simp only [zW, List.length_map]; exact List.length_filter_le _ _
theorem zC_len (i : InstV) (l : List PosV) : (zC i l).length ≤ l.length := by
  simp only [zC, List.length_map]; exact List.length_filter_le _ _
theorem worthV_bd (p : PosV) (m k : Int) : -4611686018427387904 ≤ worthV p m k ∧ worthV p m k ≤ 4611686018427387904 := by
  unfold worthV
  cases worthBad p m k
  · cases hr : rightN (worthT p m k)
    · simp
    · simp only [cond_false, cond_true]
      simp [rightN] at hr; omega
  · simp
theorem level_sum {l : List PosV} (h : levelOk l = true) {n : Int} (h1 : 1 ≤ n) (h2 : n ≤ 8) : (levelQ l n).sum = 0 := by
  have hk : (n - 1).toNat ∈ List.range 8 := List.mem_range.2 (by omega)
  have := List.all_eq_true.1 h _ hk
  rw [show (((n - 1).toNat : Nat) : Int) + 1 = n from by omega] at this
  simp only [levelI, Bool.and_eq_true, beq_iff_eq, sumE, sumV] at this
  cases ha : (levelQ l n).all rightN
  · rw [ha] at this; simp at this
  · cases hb : rightN (levelQ l n).sum
    · rw [ha, hb] at this; simp at this
    · rw [ha, hb] at this; simpa using this.2
theorem book_parts {b : BookV} (h : bookOk b = true) : chkR posOk pLt none b.poss = true ∧ chkR (trOk b.next) tLt none b.trades = true ∧ levelOk b.poss = true ∧ b.trades.length ≤ 128 ∧ 0 ≤ b.next ∧ b.next ≤ 1099511627776 := by
  simp only [bookOk, bookTail, Bool.and_eq_true, Bool.not_eq_true', Bool.or_eq_false_iff, Bool.not_eq_false', decide_eq_false_iff_not] at h
  obtain ⟨⟨a, b⟩, ⟨⟨c, d⟩, e⟩, f⟩ := h
  exact ⟨a, b, c, by omega, by omega, by omega⟩
theorem roll_inst {r : RollV} (h : rollOk r = true) : chk instOk InstV.no none r.insts = true := by
  simp only [rollOk, Bool.and_eq_true] at h; exact h.1.2
theorem inst_bd {i : InstV} (h : instOk i = true) : 1 ≤ i.no ∧ i.no ≤ 8 ∧ 1 ≤ i.mult ∧ i.mult ≤ 1024 := by
  simp only [instOk, inR, Bool.and_eq_true, decide_eq_true_eq] at h
  omega
theorem zero_sum {r : RollV} {i : InstV} {l : List PosV} (h : ∀ p ∈ l, isI i p = true → iOf r p = i ∧ worthV p (iOf r p).mult (mkV r p) = i.mult * p.qty * priceV i + -p.cost * i.mult) :
    (zW r i l).sum = i.mult * priceV i * (levelQ l i.no).sum + (zC i l).sum := by
  induction l with
  | nil => simp [zW, zC, levelQ]
  | cons p l ih =>
    have ih := ih fun q hq => h q (by simp [hq])
    cases hp : isI i p
    · have e1 : zW r i (p :: l) = zW r i l := by simp [zW, hp]
      have e2 : zC i (p :: l) = zC i l := by simp [zC, hp]
      have e3 : levelQ (p :: l) i.no = levelQ l i.no := by
        have : (p.inst == i.no) = false := hp
        simp [levelQ, this]
      rw [e1, e2, e3]; exact ih
    · have hh := (h p (by simp) hp).2
      have e1 : zW r i (p :: l) = worthV p (iOf r p).mult (mkV r p) :: zW r i l := by simp [zW, hp]
      have e2 : zC i (p :: l) = -p.cost * i.mult :: zC i l := by simp [zC, hp]
      have e3 : levelQ (p :: l) i.no = p.qty :: levelQ l i.no := by
        have : (p.inst == i.no) = true := hp
        simp [levelQ, this]
      rw [e1, e2, e3, List.sum_cons, List.sum_cons, List.sum_cons, hh, ih, Int.mul_add]
      have : i.mult * p.qty * priceV i = i.mult * priceV i * p.qty := by grind
      omega
theorem zero_law {r : RollV} {b : BookV} {i : InstV} (h : runE r b = 0) (hi : i ∈ r.insts) : (zW r i b.poss).sum = (zC i b.poss).sum := by
  obtain ⟨h1, h2, h3⟩ := runE_zero h
  have hc := roll_inst h1
  have hb := inst_bd (chk_all hc i hi)
  rw [zero_sum fun p hp hpi => ?_, level_sum (book_parts h2).2.2.1 hb.1 hb.2.1]
  · simp
  · have he : p.inst = i.no := by simpa [isI] using hpi
    have hf : iOf r p = i := by simp only [iOf, he]; exact chk_find hc i hi
    obtain ⟨_, _, _, hv, _⟩ := stE_zero (h3 p hp)
    refine ⟨hf, ?_⟩
    rw [hv]
    simp only [worthT, mkV, hf]
theorem zW_bd {r : RollV} {i : InstV} {l : List PosV} : ∀ x ∈ zW r i l, -4611686018427387904 ≤ x ∧ x ≤ 4611686018427387904 := fun x hx => by
  simp only [zW, List.mem_map] at hx
  obtain ⟨p, _, rfl⟩ := hx
  exact worthV_bd _ _ _
theorem zW_fits {r : RollV} {i : InstV} {l : List PosV} (hl : l.length ≤ 500000) : fitsW (zW r i l).sum = true := by
  have h1 := sum_bd (f := fun x : Int => x) (b := 4611686018427387904) (l := zW r i l) zW_bd
  have h2 := zW_len r i l
  have h3 := len_mul (n := (zW r i l).length) (b := 4611686018427387904) (by omega) (by decide)
  rw [List.map_id''] at h1
  · simp only [fitsW]
    rw [Bool.and_eq_true, decide_eq_true_eq, decide_eq_true_eq]
    omega
  · intro x; rfl
theorem zC_bd {r : RollV} {b : BookV} {i : InstV} (h : runE r b = 0) (hi : i ∈ r.insts) : ∀ x ∈ zC i b.poss, -4722366482869645213696 ≤ x ∧ x ≤ 4722366482869645213696 := fun x hx => by
  obtain ⟨h1, h2, h3⟩ := runE_zero h
  have hc := roll_inst h1
  simp only [zC, List.mem_map, List.mem_filter] at hx
  obtain ⟨p, ⟨hp, hpi⟩, rfl⟩ := hx
  have he : p.inst = i.no := by simpa [isI] using hpi
  have hf : iOf r p = i := by simp only [iOf, he]; exact chk_find hc i hi
  have := (worth_bounds (stE_zero (h3 p hp)).2.1).2.2.2.2.2
  rw [hf] at this
  exact this
/- One of the positions that are marked. -/
theorem cost_facts {r : RollV} {p : PosV} (h : stE r p = 0) : IntKind.wrap .i64 (0 - p.cost) = -p.cost ∧ -4611686018427387904 ≤ p.cost ∧ p.cost ≤ 4611686018427387904 := by
  have h2 := (stE_zero h).2.1
  refine ⟨(worth_bounds h2).2.2.2.1, ?_⟩
  simp [worthBad, rightN] at h2
  omega
def dueD (r : RollV) (p : PosV) : List D := [iv p.who, iv (iOf r p).cur, iv (worthV p (iOf r p).mult (mkV r p))]
theorem dues2 (r : RollV) (l : List PosV) : (l.map (dueOf r)).map dueC = l.map (dueD r) := by simp [dueD, dueOf, dueC, Function.comp_def]
end Go.Proofs.Ytdgkiemehmmobaa
