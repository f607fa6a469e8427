/- The legs that pay dues; the page's way to net dues. In plain Lean. No condition. -/
import Derived.Test.YtcpkhnciplfmkaaSpecNB
namespace Go.Proofs.Ytcpkhnciplfmkaa
open Go.RowKit
set_option linter.unusedVariables false
set_option linter.unusedSimpArgs false
def varL (x : LegV) : LegV := ⟨⟨5, 0, x.ac.cur⟩, 0 - x.amt⟩
def cashL (x : LegV) : LegV := ⟨⟨2, x.ac.who, x.ac.cur⟩, x.amt⟩
def payL : List LegV → List LegV
  | [] => []
  | x :: t => cashL x :: varL x :: payL t
theorem payL_snoc (x : LegV) : ∀ l : List LegV, payL (l ++ [x]) = payL l ++ [cashL x, varL x]
  | [] => rfl
  | y :: l => by simp only [List.cons_append, payL, payL_snoc x l]
theorem payL_len : ∀ l : List LegV, (payL l).length = 2 * l.length
  | [] => rfl
  | y :: l => by simp only [payL, List.length_cons, payL_len l]; omega
def nlR (l : List LegV) : Int := bif l.all legOk then (bif netR l != 0 then netR l else joinR (payL (netV l))) else 3
def nlV (l : List LegV) : List LegV := bif nlR l == 0 then joinV (payL (netV l)) else []
theorem cash_ac {x : LegV} (h : x.ac.kind = 2) : cashL x = x := by
  cases x with
  | mk ac amt =>
    cases ac
    simp only at h
    subst h
    rfl
theorem pay_sum {a : AcV} (ha : a.kind = 2) : ∀ {n : List LegV}, K2 n → sumA a (payL n) = sumA a n
  | [], _ => rfl
  | x :: n, h => by
    have hv : acSame (varL x).ac a = false := by simp [acSame, varL, ha]
    simp only [payL, sumA, hv, cond_false, pay_sum ha h.cons.2, cash_ac h.cons.1]; omega
theorem pay_cur (c : Int) : ∀ n : List LegV, sumC c (payL n) = 0
  | [] => rfl
  | x :: n => by
    simp only [payL, sumC_cons, pay_cur c n, cashL, varL]
    cases (x.ac.cur == c) <;> simp <;> omega
theorem pay_ok : ∀ {n : List LegV}, K2 n → n.all legOk = true → (payL n).all legOk = true
  | [], _, _ => rfl
  | x :: n, hk, h => by
    simp only [List.all_cons, Bool.and_eq_true] at h
    have ih := pay_ok hk.cons.2 h.2
    have h1 := h.1
    have hv : legOk (varL x) = true := by
      have h2 := h.1
      simp only [legOk, Bool.and_eq_true] at h2 ⊢
      refine ⟨?_, rightN_neg h2.2⟩
      have h3 := h2.1
      simp only [acOk] at h3
      have hb : acBad x.ac = false := by
        cases hc : acBad x.ac with
        | false => rfl
        | true => rw [hc] at h3; cases h3
      have hcr : 0 ≤ x.ac.cur ∧ x.ac.cur < 3 := by
        simp [acBad, Bool.cond_eq_ite] at hb
        omega
      have hb2 : acBad (varL x).ac = false := by
        show acBad ⟨5, 0, x.ac.cur⟩ = false
        simp [acBad]
        omega
      simp only [acOk, hb2, cond_false]
      rfl
    simp only [payL, List.all_cons, hv, ih, Bool.and_true, cash_ac hk.cons.1]
    exact h1
theorem legOk_rt {l : List LegV} (h : l.all legOk = true) : rtOk l = true := by
  rw [rtOk, List.all_eq_true]
  intro x hx
  have := List.all_eq_true.1 h x hx
  simp only [legOk, Bool.and_eq_true] at this
  exact this.2
theorem net_legOk {l : List LegV} (h : l.all legOk = true) (hn : netR l = 0) : (netV l).all legOk = true := by
  rw [List.all_eq_true]
  intro y hy
  obtain ⟨z, hz, e⟩ := nS hn hy
  have h1 := List.all_eq_true.1 h z hz
  have h2 := List.all_eq_true.1 (net_ok hn) y hy
  simp only [legOk, Bool.and_eq_true] at h1 ⊢
  exact ⟨by rw [← e]; exact h1.1, h2⟩
theorem nl_zero {l : List LegV} (h : nlR l = 0) : l.all legOk = true ∧ netR l = 0 ∧ joinR (payL (netV l)) = 0 ∧ nlV l = joinV (payL (netV l)) := by
  have hv : nlV l = joinV (payL (netV l)) := by simp only [nlV, h]; rfl
  simp only [nlR] at h
  cases h1 : l.all legOk with
  | false => rw [h1] at h; cases h
  | true =>
    rw [h1, cond_true] at h
    cases h2 : (netR l != 0) with
    | true => rw [h2, cond_true] at h; rw [h] at h2; cases h2
    | false => rw [h2, cond_false] at h; exact ⟨rfl, by simpa using h2, h, hv⟩
theorem nl_no {l : List LegV} (h : nlR l ≠ 0) : nlV l = [] := by simp only [nlV, show (nlR l == 0) = false by simpa using h]; rfl
theorem nl_net {l : List LegV} (h : netR l ≠ 0) : nlR l ≠ 0 := by
  simp only [nlR]
  cases l.all legOk with
  | false => simp
  | true => simp only [cond_true, show (netR l != 0) = true by simpa using h]; exact h
theorem nlV_len (l : List LegV) : (nlV l).length ≤ 2 * l.length := by
  simp only [nlV]
  cases nlR l == 0 with
  | false => simp
  | true =>
    simp only [cond_true]
    have h1 : (joinV (payL (netV l))).length ≤ (payL (netV l)).length := by
      simp only [joinV]
      cases joinR (payL (netV l)) == 0 with
      | true => have := joinO_len (legSort (payL (netV l))); rw [legSort_len] at this; exact this
      | false => simp
    have := netV_len l
    rw [payL_len] at h1; omega
def isCash (x : LegV) : Bool := x.ac.kind == 2
theorem pay_kinds : ∀ {n : List LegV} {z : LegV}, z ∈ payL n → z.ac.kind = 2 ∨ z.ac.kind = 5
  | [], z, h => by cases h
  | x :: n, z, h => by
    simp only [payL, List.mem_cons] at h
    rcases h with rfl | rfl | h
    · exact .inl rfl
    · exact .inr rfl
    · exact pay_kinds h
theorem nl_kinds {l : List LegV} (h : nlR l = 0) {x : LegV} (hx : x ∈ nlV l) : x.ac.kind = 2 ∨ x.ac.kind = 5 := by
  obtain ⟨_, _, h3, h4⟩ := nl_zero h
  rw [h4] at hx
  obtain ⟨z, hz, e⟩ := jS h3 hx
  rw [← e]; exact pay_kinds hz
theorem nl_cash {l : List LegV} (hk : K2 l) (h : nlR l = 0) : (nlV l).filter isCash = netV l := by
  obtain ⟨h1, h2, h3, h4⟩ := nl_zero h
  rw [h4]
  refine asc_eq (List.Pairwise.filter _ (jA _ h3)) (nA h2) fun x => ?_
  rw [List.mem_filter, jM h3, nM h2]
  constructor
  · rintro ⟨⟨e1, e2⟩, e3⟩
    have e3 : x.ac.kind = 2 := by simpa [isCash] using e3
    rw [pay_sum e3 (nK hk), net_sum h2] at e1
    exact ⟨e1, e2⟩
  · rintro ⟨e1, e2⟩
    have e3 : x.ac.kind = 2 := nK hk x ((nM h2 x).2 ⟨e1, e2⟩)
    refine ⟨⟨?_, e2⟩, by simp [isCash, e3]⟩
    rw [pay_sum e3 (nK hk), net_sum h2]; exact e1
theorem nl_some {l : List LegV} (hk : K2 l) (h : nlR l = 0) (h0 : nlV l = []) : netV l = [] := by
  rw [← nl_cash hk h, h0]; rfl
theorem nl_check {l : List LegV} (h : nlR l = 0) (h1 : nlV l ≠ []) (h2 : (nlV l).length ≤ 64) : chkE (nlV l) = 0 := by
  obtain ⟨_, _, h3, h4⟩ := nl_zero h
  rw [h4] at h1 h2 ⊢
  exact (chkE_iff _).2 ⟨h1, h2, join_ok h3, by rw [join_curs h3, pay_cur], by rw [join_curs h3, pay_cur], by rw [join_curs h3, pay_cur]⟩
theorem cash_at {l pre post : List LegV} {x : LegV} (hk : K2 l) (h : nlR l = 0) (hs : nlV l = pre ++ x :: post) (hx : isCash x = true) : netV l = pre.filter isCash ++ x :: post.filter isCash := by
  rw [← nl_cash hk h, hs, List.filter_append, List.filter_cons, hx]; rfl
theorem cash_yes {x : LegV} (h : isCash x = true) (l : List LegV) : (l ++ [x]).filter isCash = l.filter isCash ++ [x] := by simp [List.filter_append, h]
theorem cash_no {x : LegV} (h : isCash x = false) (l : List LegV) : (l ++ [x]).filter isCash = l.filter isCash := by simp [List.filter_append, h]
theorem nl_fin {l : List LegV} (hk : K2 l) (h : nlR l = 0) :
    (decide (((nlV l).length : Int) > 0) && decide (((nlV l).length : Int) ≤ 64) && (chkE (nlV l) != 0) || (((nlV l).length : Int) == 0) && decide (((netV l).length : Int) > 0)) = false := by
  rw [Bool.or_eq_false_iff]
  constructor
  · by_cases h1 : 0 < (nlV l).length
    · by_cases h2 : (nlV l).length ≤ 64
      · rw [nl_check h (List.length_pos_iff.1 h1) h2]; simp
      · have : ¬ ((nlV l).length : Int) ≤ 64 := by omega
        rw [show decide (((nlV l).length : Int) ≤ 64) = false from decide_eq_false this]; simp
    · rw [show decide (((nlV l).length : Int) > 0) = false from decide_eq_false (by omega)]; rfl
  · by_cases h1 : (nlV l).length = 0
    · rw [nl_some hk h (List.eq_nil_of_length_eq_zero h1)]; simp
    · rw [show (((nlV l).length : Int) == 0) = false by simpa using h1]; rfl
/- The page's way: the least key beyond the last one. -/
def zD : LegV := ⟨⟨2, 0, 0⟩, 0⟩
def cand (k0 : Bool) (last x : LegV) : Bool := k0 || dLt last x
def selS (k0 : Bool) (last : LegV) (s : Bool × LegV) (x : LegV) : Bool × LegV := bif cand k0 last x && (!s.1 || dLt x s.2) then (true, x) else s
def sel (k0 : Bool) (last : LegV) (l : List LegV) : Bool × LegV := l.foldl (selS k0 last) (false, zD)
theorem sel_nil (k0 : Bool) (last : LegV) : sel k0 last [] = (false, zD) := rfl
theorem sel_snoc (k0 : Bool) (last : LegV) (l : List LegV) (x : LegV) : sel k0 last (l ++ [x]) = selS k0 last (sel k0 last l) x := by simp [sel]
theorem dLt_irr (a : LegV) : dLt a a = false := by
  cases h : dLt a a with
  | false => rfl
  | true => have := dLt_iff.1 h; omega
theorem sel_spec (k0 : Bool) (last : LegV) (l : List LegV) : ((sel k0 last l).1 = false → ∀ x ∈ l, cand k0 last x = false) ∧
    ((sel k0 last l).1 = true → (sel k0 last l).2 ∈ l ∧ cand k0 last (sel k0 last l).2 = true ∧ ∀ x ∈ l, cand k0 last x = true → dLt x (sel k0 last l).2 = false) := by
  have key : ∀ (p : List LegV), p.reverse.reverse = p := fun p => List.reverse_reverse p
  rw [← key l]
  generalize l.reverse = r
  induction r with
  | nil => simp [sel_nil]
  | cons x r ih =>
    rw [List.reverse_cons, sel_snoc]
    obtain ⟨i1, i2⟩ := ih
    generalize sel k0 last r.reverse = s at i1 i2 ⊢
    obtain ⟨s1, s2⟩ := s
    simp only at i1 i2
    simp only [selS]
    cases hc : cand k0 last x with
    | false =>
      simp only [Bool.false_and, cond_false]
      refine ⟨fun h y hy => ?_, fun h => ?_⟩
      · rcases List.mem_append.1 hy with hy | hy
        · exact i1 h y hy
        · rw [List.mem_singleton.1 hy]; exact hc
      · obtain ⟨j1, j2, j3⟩ := i2 h
        refine ⟨List.mem_append_left _ j1, j2, fun y hy hyc => ?_⟩
        rcases List.mem_append.1 hy with hy | hy
        · exact j3 y hy hyc
        · rw [List.mem_singleton.1 hy, hc] at hyc; cases hyc
    | true =>
      cases s1 with
      | false =>
        simp only [Bool.not_false, Bool.true_or, Bool.true_and, cond_true]
        refine ⟨fun h => (by cases h), fun _ => ⟨by simp, hc, fun y hy hyc => ?_⟩⟩
        rcases List.mem_append.1 hy with hy | hy
        · rw [i1 rfl y hy] at hyc; cases hyc
        · rw [List.mem_singleton.1 hy]; exact dLt_irr x
      | true =>
        obtain ⟨j1, j2, j3⟩ := i2 rfl
        cases hl : dLt x s2 with
        | false =>
          simp only [Bool.not_true, Bool.false_or, Bool.and_false, cond_false]
          refine ⟨fun h => (by cases h), fun _ => ⟨List.mem_append_left _ j1, j2, fun y hy hyc => ?_⟩⟩
          rcases List.mem_append.1 hy with hy | hy
          · exact j3 y hy hyc
          · rw [List.mem_singleton.1 hy]; exact hl
        | true =>
          simp only [Bool.not_true, Bool.false_or, Bool.and_self, cond_true]
          refine ⟨fun h => (by cases h), fun _ => ⟨by simp, hc, fun y hy hyc => ?_⟩⟩
          rcases List.mem_append.1 hy with hy | hy
          · cases hd : dLt y x with
            | false => rfl
            | true =>
              have h1 := dLt_iff.1 hd
              have h2 := dLt_iff.1 hl
              have h3 := j3 y hy hyc
              have h4 : dLt y s2 = true := dLt_iff.2 (by omega)
              rw [h4] at h3; cases h3
          · rw [List.mem_singleton.1 hy]; exact dLt_irr x
/- The keys, each once, ascending. -/
def KeyS (l C : List LegV) : Prop := C.Pairwise (fun a b => dLt a b = true) ∧ (∀ c ∈ C, c ∈ l) ∧ ∀ x ∈ l, ∃ c ∈ C, c.ac = x.ac
theorem comp_mem {x : LegV} {l : List LegV} (h : x ∈ comp l) : x ∈ l := by
  cases l with
  | nil => exact h
  | cons y t =>
    rcases List.mem_cons.1 h with rfl | h
    · simp
    · exact List.mem_cons_of_mem _ (compT_mem h)
theorem keys_of : ∀ (n : Nat) (S : List LegV), S.length ≤ n → Srt lgLt S → K2 S → KeyS S (comp S)
  | _, [], _, _, _ => ⟨List.Pairwise.nil, by simp [comp], by simp⟩
  | 0, x :: S, h, _, _ => by simp at h
  | n + 1, x :: S, hn, hs, hk => by
    obtain ⟨A, B, rfl, hA, hB⟩ := run_of x S
    have hkB : K2 B := fun y hy => hk y (by simp [hy])
    have ih := keys_of n B (by simp at hn; omega) (srt_drop (A := x :: A) hs) hkB
    rw [comp_run hk hA hB]
    have hBx : ∀ y ∈ B, acSame y.ac x.ac = false := by
      rcases hB with rfl | ⟨b, t, rfl, hb⟩
      · intro y hy; cases hy
      · exact srt_past (x := x) (List.pairwise_cons.2 ⟨fun y hy => (List.pairwise_cons.1 hs).1 y (List.mem_append_right _ hy), srt_drop (A := A) (List.pairwise_cons.1 hs).2⟩) hb
    refine ⟨List.pairwise_cons.2 ⟨fun y hy => ?_, ih.1⟩, fun c hc => ?_, fun z hz => ?_⟩
    · have hyB := comp_mem hy
      have h1 : acLt y.ac x.ac = false := (List.pairwise_cons.1 hs).1 y (List.mem_append_right _ hyB)
      rw [dLt_ac ((hk x (by simp)).trans (hkB y hyB).symm)]
      cases hc : acLt x.ac y.ac with
      | true => rfl
      | false => have := hBx y hyB; rw [acLt_eq h1 hc, acSame_refl] at this; cases this
    · rcases List.mem_cons.1 hc with rfl | hc
      · simp
      · have := comp_mem hc; simp [this]
    · rcases List.mem_cons.1 hz with rfl | hz
      · exact ⟨z, by simp, rfl⟩
      · rcases List.mem_append.1 hz with hz | hz
        · exact ⟨x, by simp, (acSame_iff.1 (hA z hz)).symm⟩
        · obtain ⟨c, hc, e⟩ := ih.2.2 z hz
          exact ⟨c, by simp [hc], e⟩
theorem key_s {l : List LegV} (hk : K2 l) : KeyS l (comp (dueSort l)) := by
  rw [dueSort_eq hk]
  obtain ⟨h1, h2, h3⟩ := keys_of _ (legSort l) (Nat.le_refl _) (Srt_isort acLt_swo l) hk.sort
  exact ⟨h1, fun c hc => legSort_mem.1 (h2 c hc), fun x hx => h3 x (legSort_mem.2 hx)⟩
def LastOf (P : List LegV) (last : LegV) : Prop := ∀ P' p, P = P' ++ [p] → last.ac = p.ac
theorem sel_none {l C : List LegV} (h : KeyS l C) {last : LegV} (hL : LastOf C last) (hC : C = [] → l = []) : (sel (C.length == 0) last l).1 = false := by
  cases hs : (sel (C.length == 0) last l).1 with
  | false => rfl
  | true =>
    exfalso
    obtain ⟨h1, h2, _⟩ := (sel_spec _ last l).2 hs
    generalize (sel (C.length == 0) last l).2 = y at h1 h2
    rcases List.eq_nil_or_concat C with rfl | ⟨P, p, rfl⟩
    · rw [hC rfl] at h1; cases h1
    · have e := hL P p (by simp)
      obtain ⟨c, hc, ec⟩ := h.2.2 y h1
      simp only [cand, List.concat_eq_append, List.length_append, List.length_singleton, show (P.length + 1 == 0) = false from rfl, Bool.false_or] at h2
      have h3 := dLt_iff.1 h2
      rw [e, ← ec] at h3
      rw [List.concat_eq_append] at hc
      rcases List.mem_append.1 hc with hc | hc
      · have hp := h.1
        rw [List.concat_eq_append] at hp
        have := dLt_iff.1 ((List.pairwise_append.1 hp).2.2 c hc p (by simp))
        omega
      · rw [List.mem_singleton.1 hc] at h3; omega
theorem sel_next {l C P R : List LegV} {c last : LegV} (h : KeyS l C) (hC : C = P ++ c :: R) (hL : LastOf P last) : (sel (P.length == 0) last l).1 = true ∧ (sel (P.length == 0) last l).2.ac = c.ac := by
  have hcl : c ∈ l := h.2.1 c (by rw [hC]; simp)
  have hp := h.1
  rw [hC] at hp
  obtain ⟨_, p2, p3⟩ := List.pairwise_append.1 hp
  have p2' := (List.pairwise_cons.1 p2).1
  have hcc : cand (P.length == 0) last c = true := by
    rcases List.eq_nil_or_concat P with rfl | ⟨P', p, rfl⟩
    · rfl
    · have e := hL P' p (by simp)
      have := dLt_iff.1 (p3 p (by simp) c (by simp))
      simp only [cand, Bool.or_eq_true]
      exact .inr (dLt_iff.2 (by rw [e]; exact this))
  have hs : (sel (P.length == 0) last l).1 = true := by
    cases hs : (sel (P.length == 0) last l).1 with
    | true => rfl
    | false => rw [(sel_spec _ last l).1 hs c hcl] at hcc; cases hcc
  refine ⟨hs, ?_⟩
  obtain ⟨h1, h2, h3⟩ := (sel_spec _ last l).2 hs
  generalize (sel (P.length == 0) last l).2 = y at h1 h2 h3 ⊢
  obtain ⟨d, hd, ed⟩ := h.2.2 y h1
  have h4 := h3 c hcl hcc
  rw [hC] at hd
  have hny : ¬ _ := fun hh => by rw [dLt_iff.2 hh] at h4; cases h4
  rw [← ed] at hny
  rw [← ed]
  rcases List.mem_append.1 hd with hd | hd
  · exfalso
    rcases List.eq_nil_or_concat P with rfl | ⟨P', p, rfl⟩
    · cases hd
    · have e := hL P' p (by simp)
      simp only [cand, List.concat_eq_append, List.length_append, List.length_singleton, show (P'.length + 1 == 0) = false from rfl, Bool.false_or] at h2
      have h5 := dLt_iff.1 h2
      rw [e, ← ed] at h5
      rw [List.concat_eq_append] at hd
      rcases List.mem_append.1 hd with hd | hd
      · rw [List.concat_eq_append] at hp
        have := dLt_iff.1 ((List.pairwise_append.1 (List.pairwise_append.1 hp).1).2.2 d hd p (by simp))
        omega
      · rw [List.mem_singleton.1 hd] at h5; omega
  · rcases List.mem_cons.1 hd with rfl | hd
    · rfl
    · exact absurd (dLt_iff.1 (p2' d hd)) hny
theorem comp_nil {l : List LegV} (h : comp l = []) : l = [] := by
  cases l with
  | nil => rfl
  | cons x t => simp [comp] at h
theorem last_nil (x : LegV) : LastOf [] x := fun P' p h => by simp at h
theorem last_snoc {P : List LegV} {c x : LegV} (h : x.ac = c.ac) : LastOf (P ++ [c]) x := fun P' p e => by
  have := List.append_inj' e rfl
  simp at this
  rw [h, this.2]
theorem nat_eq0 (n : Nat) : (((n : Nat) : Int) == 0) = (n == 0) := by
  rw [Bool.eq_iff_iff]; simp
theorem dLt_eq (a b : LegV) : (decide (a.ac.who < b.ac.who) || (a.ac.who == b.ac.who && decide (a.ac.cur < b.ac.cur))) = dLt a b := by
  rw [Bool.eq_iff_iff, dLt_iff]; simp
theorem leg_all {l : List LegV} (h : (l.all fun x => acOk x.ac) = true) : l.all legOk = rtOk l := by
  induction l with
  | nil => rfl
  | cons x l ih =>
    simp only [List.all_cons, Bool.and_eq_true] at h
    simp only [List.all_cons, rtOk, ih h.2, legOk, h.1, Bool.true_and]
theorem nl_bad {l : List LegV} (h : (l.all fun x => acOk x.ac) = true) (hn : netR l ≠ 0) : nlR l = netR l := by
  simp only [nlR, leg_all h]
  cases hr : rtOk l with
  | true => simp only [cond_true, show (netR l != 0) = true by simpa using hn]
  | false => simp only [cond_false, netR, hr]
end Go.Proofs.Ytcpkhnciplfmkaa
