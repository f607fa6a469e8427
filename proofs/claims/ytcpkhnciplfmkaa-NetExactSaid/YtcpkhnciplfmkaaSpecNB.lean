/- Dues netted: what holds of the net, of nets of parts, of dues turned round. In plain Lean. No condition. -/
import Derived.Test.YtcpkhnciplfmkaaSpecNA
namespace Go.Proofs.Ytcpkhnciplfmkaa
open Go.RowKit
set_option linter.unusedVariables false
set_option linter.unusedSimpArgs false
theorem nF {l : List LegV} (h : rtOk l = true) : JoinF_ (legSort l) := join_facts _ _ (Nat.le_refl _) (Srt_isort acLt_swo l) (fun y hy => rt_of h y (legSort_mem.1 hy))
theorem netR_rt {l : List LegV} (h : netR l = 0) : rtOk l = true := by
  simp only [netR] at h
  cases hc : rtOk l with
  | true => rfl
  | false => rw [hc] at h; cases h
theorem nR {l : List LegV} (h : rtOk l = true) : (netR l = 0 ∧ ¬ Big l) ∨ (netR l = 1 ∧ Big l) := by
  have e : netR l = joinE (legSort l) := by simp only [netR, h, cond_true]
  rw [e, ← big_srt]; exact (nF h).err
theorem nBig {l : List LegV} (h : netR l = 0) : ¬ Big l := by
  rcases nR (netR_rt h) with ⟨_, hb⟩ | ⟨e, _⟩
  · exact hb
  · rw [h] at e; cases e
theorem nV {l : List LegV} (h : netR l = 0) : netV l = joinO (legSort l) := by simp only [netV, h]; rfl
theorem nV0 {l : List LegV} (h : netR l ≠ 0) : netV l = [] := by
  simp only [netV, show (netR l == 0) = false by simpa using h]; rfl
theorem nM {l : List LegV} (h : netR l = 0) (y : LegV) : y ∈ netV l ↔ (y.amt = sumA y.ac l ∧ y.amt ≠ 0) := by
  rw [nV h, (nF (netR_rt h)).mem (fun hb => nBig h (big_srt.1 hb)) y, sumA_sort]
theorem nA {l : List LegV} (h : netR l = 0) : Asc (netV l) := by rw [nV h]; exact (nF (netR_rt h)).asc
theorem nS {l : List LegV} (h : netR l = 0) {y : LegV} (hy : y ∈ netV l) : ∃ z ∈ l, z.ac = y.ac := by
  rw [nV h] at hy
  obtain ⟨z, hz, e⟩ := (nF (netR_rt h)).sub y hy
  exact ⟨z, legSort_mem.1 hz, e⟩
theorem nK {l : List LegV} (hk : K2 l) : K2 (netV l) := fun y hy => by
  by_cases h : netR l = 0
  · obtain ⟨z, hz, e⟩ := nS h hy
    rw [← e]; exact hk z hz
  · rw [nV0 h] at hy; cases hy
theorem same_net {l m : List LegV} (hl : rtOk l = true) (hm : rtOk m = true) (hs : ∀ a, sumA a l = sumA a m) : netR l = netR m ∧ netV l = netV m := by
  rcases nR hl with ⟨e, hb⟩ | ⟨e, hb⟩
  · rcases nR hm with ⟨e2, hb2⟩ | ⟨e2, hb2⟩
    · refine ⟨by rw [e, e2], asc_eq (nA e) (nA e2) fun x => ?_⟩
      rw [nM e, nM e2, hs]
    · exact absurd (big_of (fun a => (hs a).symm) hb2) hb
  · rcases nR hm with ⟨e2, hb2⟩ | ⟨e2, hb2⟩
    · exact absurd (big_of hs hb) hb2
    · exact ⟨by rw [e, e2], by rw [nV0 (by rw [e]; decide), nV0 (by rw [e2]; decide)]⟩
theorem rtOk_app (l m : List LegV) : rtOk (l ++ m) = (rtOk l && rtOk m) := by simp [rtOk]
theorem net_rev (l : List LegV) : netR l.reverse = netR l ∧ netV l.reverse = netV l := by
  have ha : rtOk l.reverse = rtOk l := by simp [rtOk]
  cases h : rtOk l with
  | true => exact same_net (ha.trans h) h (sumA_rev · l)
  | false =>
    have e1 : netR l = 3 := by simp only [netR, h, cond_false]
    have e2 : netR l.reverse = 3 := by simp only [netR, ha.trans h, cond_false]
    exact ⟨by rw [e1, e2], by rw [nV0 (by rw [e2]; decide), nV0 (by rw [e1]; decide)]⟩
theorem net_sum {l : List LegV} (h : netR l = 0) (a : AcV) : sumA a (netV l) = sumA a l := by
  by_cases h0 : sumA a l = 0
  · rw [h0]
    refine sumA_none fun b hb => ?_
    cases hc : acSame b.ac a with
    | false => rfl
    | true =>
      have := (nM h b).1 hb
      rw [acSame_iff.1 hc, h0] at this
      exact absurd this.1 this.2
  · have hm : (⟨a, sumA a l⟩ : LegV) ∈ netV l := (nM h _).2 ⟨rfl, h0⟩
    exact asc_sum (nA h) _ hm
theorem net_ok {l : List LegV} (h : netR l = 0) : rtOk (netV l) = true := by
  rw [rtOk, List.all_eq_true]
  intro y hy
  obtain ⟨z, hz, e⟩ := nS h hy
  rw [((nM h y).1 hy).1, ← e]
  cases hc : rightN (sumA z.ac l) with
  | true => rfl
  | false => exact absurd ⟨z, hz, hc⟩ (nBig h)
theorem net_again {l : List LegV} (h : netR l = 0) : netR (netV l) = 0 ∧ netV (netV l) = netV l := by
  have e := same_net (net_ok h) (netR_rt h) (net_sum h)
  exact ⟨e.1.trans h, e.2⟩
theorem net_many {l m : List LegV} (h1 : netR l = 0) (h2 : netR m = 0) : netR (netV l ++ netV m) = netR (l ++ m) ∧ netV (netV l ++ netV m) = netV (l ++ m) :=
  same_net (by rw [rtOk_app, net_ok h1, net_ok h2]; rfl) (by rw [rtOk_app, netR_rt h1, netR_rt h2]; rfl) (fun a => by rw [sumA_app, sumA_app, net_sum h1, net_sum h2])
/- What one of the dues' keys has. -/
theorem gr_in {l : List LegV} (hk : K2 l) (h : netR l = 0) {x : LegV} (hx : x ∈ l) : grE x.ac.who x.ac.cur l = 0 ∧ grV x.ac.who x.ac.cur l = sumA x.ac l := by
  have hr : rightN (sumA x.ac l) = true := by
    cases hc : rightN (sumA x.ac l) with
    | true => rfl
    | false => exact absurd ⟨x, hx, hc⟩ (nBig h)
  have e := gr_ok (hk x hx) hk (netR_rt h)
  rw [hr] at e
  exact e
def keyS (x y : LegV) : Bool := y.ac.who == x.ac.who && y.ac.cur == x.ac.cur
theorem keyS_ac {x y : LegV} (hx : x.ac.kind = 2) (hy : y.ac.kind = 2) : keyS x y = acSame y.ac x.ac := by simp [keyS, acSame, hx, hy]
def cntK (x : LegV) (l : List LegV) : Nat := (l.filter (keyS x)).length
theorem cnt_yes {x y : LegV} (h : keyS x y = true) (l : List LegV) : cntK x (l ++ [y]) = cntK x l + 1 := by simp [cntK, List.filter_append, h]
theorem cnt_no {x y : LegV} (h : keyS x y = false) (l : List LegV) : cntK x (l ++ [y]) = cntK x l := by simp [cntK, List.filter_append, h]
theorem cnt_le (x : LegV) (l : List LegV) : cntK x l ≤ l.length := List.length_filter_le _ _
theorem cnt_zero {x : LegV} (hx : x.ac.kind = 2) : ∀ {S : List LegV}, K2 S → (∀ y ∈ S, acSame y.ac x.ac = false) → cntK x S = 0
  | [], _, _ => rfl
  | y :: S, hk, h => by
    have ih := cnt_zero hx (S := S) hk.cons.2 (fun z hz => h z (List.mem_cons_of_mem _ hz))
    simp only [cntK, List.filter_cons, keyS_ac hx hk.cons.1, h y (by simp)] at ih ⊢
    exact ih
theorem cnt_one {x : LegV} (hx : x.ac.kind = 2) : ∀ {S : List LegV}, K2 S → Asc S → (∃ y ∈ S, y.ac = x.ac) → cntK x S = 1
  | [], _, _, h => by obtain ⟨y, hy, _⟩ := h; cases hy
  | z :: S, hk, ha, h => by
    have ha' := List.pairwise_cons.1 ha
    cases hc : acSame z.ac x.ac with
    | true =>
      have hz := acSame_iff.1 hc
      have h0 : cntK x S = 0 := cnt_zero hx hk.cons.2 fun y hy => by
        cases hd : acSame y.ac x.ac with
        | false => rfl
        | true => have := ha'.1 y hy; rw [hz, acSame_iff.1 hd, acLt_irr] at this; cases this
      simp only [cntK, List.filter_cons, keyS_ac hx hk.cons.1, hc, if_true, List.length_cons] at h0 ⊢
      omega
    | false =>
      have ih := cnt_one hx hk.cons.2 ha'.2 (by
        obtain ⟨y, hy, e⟩ := h
        rcases List.mem_cons.1 hy with rfl | hy
        · rw [e, acSame_refl] at hc; cases hc
        · exact ⟨y, hy, e⟩)
      simp only [cntK, List.filter_cons, keyS_ac hx hk.cons.1, hc] at ih ⊢
      exact ih
theorem cnt_net {l : List LegV} (hk : K2 l) (h : netR l = 0) {x : LegV} (hx : x ∈ l) : (sumA x.ac l = 0 ∧ cntK x (netV l) = 0) ∨ (sumA x.ac l ≠ 0 ∧ cntK x (netV l) = 1) := by
  by_cases h0 : sumA x.ac l = 0
  · refine .inl ⟨h0, cnt_zero (hk x hx) (nK hk) fun y hy => ?_⟩
    cases hc : acSame y.ac x.ac with
    | false => rfl
    | true =>
      have := (nM h y).1 hy
      rw [acSame_iff.1 hc, h0] at this
      exact absurd this.1 this.2
  · exact .inr ⟨h0, cnt_one (hk x hx) (nK hk) (nA h) ⟨⟨x.ac, sumA x.ac l⟩, (nM h _).2 ⟨rfl, h0⟩, rfl⟩⟩
theorem net_amt {l : List LegV} (hk : K2 l) (h : netR l = 0) {x y : LegV} (hx : x ∈ l) (hy : y ∈ netV l) (hs : keyS x y = true) : y.amt = sumA x.ac l ∧ sumA x.ac l ≠ 0 := by
  rw [keyS_ac (hk x hx) (nK hk y hy)] at hs
  have := (nM h y).1 hy
  rw [acSame_iff.1 hs] at this
  exact ⟨this.1, by rw [← this.1]; exact this.2⟩
theorem net_len (l : List LegV) : (netV l).length ≤ l.length := netV_len l
theorem asc_next {S A B : List LegV} {x y : LegV} (h : Asc S) (hk : K2 S) (hS : S = A ++ x :: y :: B) : x.ac.who < y.ac.who ∨ (x.ac.who = y.ac.who ∧ x.ac.cur < y.ac.cur) := by
  subst hS
  have h1 := (List.pairwise_append.1 h).2.1
  have h2 := acLt_iff.1 ((List.pairwise_cons.1 h1).1 y (by simp))
  have k1 := hk x (by simp)
  have k2 := hk y (by simp)
  omega
theorem two_at {S : List LegV} {i : Nat} (h1 : 1 ≤ i) (h : i < S.length) : ∃ A u v B, S = A ++ u :: v :: B ∧ A.length = i - 1 := by
  refine ⟨S.take (i - 1), S[i - 1], S[i], S.drop (i + 1), ?_, by rw [List.length_take]; omega⟩
  have e1 : S.drop (i - 1) = S[i - 1] :: S.drop (i - 1 + 1) := List.drop_eq_getElem_cons (by omega)
  have e2 : S.drop i = S[i] :: S.drop (i + 1) := List.drop_eq_getElem_cons h
  rw [show i - 1 + 1 = i by omega, e2] at e1
  rw [← e1, List.take_append_drop]
/- Turned round. -/
def negD (x : LegV) : LegV := ⟨x.ac, 0 - x.amt⟩
theorem sumA_negr (a : AcV) (l : List LegV) : sumA a (l.map negD) = - sumA a l := by
  induction l with
  | nil => rfl
  | cons x l ih =>
    simp only [List.map_cons, sumA, ih, negD]
    cases acSame x.ac a <;> simp <;> omega
theorem negD_rt {l : List LegV} (h : rtOk l = true) : rtOk (l.map negD) = true := by
  rw [rtOk, List.all_eq_true] at h ⊢
  intro y hy
  obtain ⟨x, hx, rfl⟩ := List.mem_map.1 hy
  exact rightN_neg (h x hx)
theorem K2.neg {l : List LegV} (h : K2 l) : K2 (l.map negD) := fun y hy => by
  obtain ⟨x, hx, rfl⟩ := List.mem_map.1 hy
  exact h x hx
theorem K2.app {l m : List LegV} (h : K2 l) (k : K2 m) : K2 (l ++ m) := fun y hy => (List.mem_append.1 hy).elim (h y) (k y)
theorem K2.rev {l : List LegV} (h : K2 l) : K2 l.reverse := fun y hy => h y (List.mem_reverse.1 hy)
theorem K2.take {l : List LegV} (h : K2 l) (n : Nat) : K2 (l.take n) := fun y hy => h y (List.mem_of_mem_take hy)
theorem K2.drop {l : List LegV} (h : K2 l) (n : Nat) : K2 (l.drop n) := fun y hy => h y (List.mem_of_mem_drop hy)
theorem zero_net {l : List LegV} (h : rtOk l = true) : netR (l ++ (l.map negD).reverse) = 0 ∧ netV (l ++ (l.map negD).reverse) = [] := by
  have hr : rtOk (l ++ (l.map negD).reverse) = true := by
    rw [rtOk_app, h, Bool.true_and, rtOk, List.all_reverse]
    exact negD_rt h
  have e := same_net (m := []) hr rfl fun a => by rw [sumA_app, sumA_rev, sumA_negr]; simp only [sumA]; omega
  have h0 : netR [] = 0 := by simp [netR, rtOk, legSort, isort, isortA, joinE]
  exact ⟨e.1.trans h0, by rw [e.2, nV h0]; simp [legSort, isort, isortA, joinO]⟩
/- Sums of one currency, as the program's numbers have them. -/
def wSum (c : Int) (l : List LegV) : Int := IntKind.wrap .i64 (sumC c l)
theorem wrap_add (a b : Int) : IntKind.wrap .i64 (IntKind.wrap .i64 a + b) = IntKind.wrap .i64 (a + b) := by
  simp only [wrapI_]; omega
theorem wSum_yes {c : Int} {x : LegV} (h : (x.ac.cur == c) = true) (l : List LegV) : IntKind.wrap .i64 (wSum c l + x.amt) = wSum c (l ++ [x]) := by
  have : sumC c [x] = x.amt := by rw [sumC_cons, h]; simp [sumC, curL, amts]
  rw [wSum, wrap_add, wSum, sumC_app, this]
theorem wSum_no {c : Int} {x : LegV} (h : (x.ac.cur == c) = false) (l : List LegV) : wSum c (l ++ [x]) = wSum c l := by
  have : sumC c [x] = 0 := by rw [sumC_cons, h]; simp [sumC, curL, amts]
  rw [wSum, sumC_app, this, wSum, Int.add_zero]
theorem wSum_nil (c : Int) : wSum c [] = 0 := by simp [wSum, sumC, curL, amts]; decide
theorem net_curs {l : List LegV} (h : netR l = 0) (c : Int) : wSum c (netV l) = wSum c l := by
  have hk := netR_rt h
  have e := join_cur c _ (legSort l) (Nat.le_refl _) (Srt_isort acLt_swo l) (fun y hy => rt_of hk y (legSort_mem.1 hy)) (fun hb => nBig h (big_srt.1 hb))
  simp only [wSum]
  rw [nV h, e, legSort, isort, sumC_isort]
  simp [sumC, curL, amts]
theorem modK {a : Int} {n : Nat} (h : 0 < n) (hn : n ≤ 1000000) : ∃ K : Nat, IntKind.wrap .i64 (IntKind.wrap .u64 ((IntKind.wrap .u64 a).tmod (n : Int))) = (K : Int) ∧ K < n := by
  have h0 : 0 ≤ IntKind.wrap .u64 a := by rw [wrapU_]; omega
  refine ⟨((IntKind.wrap .u64 a).tmod (n : Int)).toNat, ?_, ?_⟩
  · have h1 := Int.tmod_nonneg (n : Int) h0
    have h2 := Int.tmod_lt_of_pos (IntKind.wrap .u64 a) (show (0 : Int) < n by omega)
    rw [wrapU (by omega) (by omega), wrapI (by omega) (by omega)]; omega
  · have h1 := Int.tmod_nonneg (n : Int) h0
    have h2 := Int.tmod_lt_of_pos (IntKind.wrap .u64 a) (show (0 : Int) < n by omega)
    omega
theorem modK' {a : Int} {n : Nat} (h : 0 < n) (hn : n ≤ 1000000) : ∃ K : Nat, IntKind.wrap .i64 ((IntKind.wrap .u64 a).tmod (n : Int)) = (K : Int) ∧ K < n := by
  obtain ⟨K, h1, h2⟩ := modK (a := a) h hn
  refine ⟨K, ?_, h2⟩
  have h0 : 0 ≤ IntKind.wrap .u64 a := by rw [wrapU_]; omega
  have h1' := Int.tmod_nonneg (n : Int) h0
  have h2' := Int.tmod_lt_of_pos (IntKind.wrap .u64 a) (show (0 : Int) < n by omega)
  rw [wrapU (n := (IntKind.wrap .u64 a).tmod (n : Int)) (by omega) (by omega)] at h1
  exact h1
/- A due, as it comes in. -/
structure DueV where
  who : Int
  cur : Int
  amt : Int
def dueC2 (d : DueV) : List D := [iv d.who, iv d.cur, iv d.amt]
def dueL (d : DueV) : LegV := ⟨⟨2, d.who, d.cur⟩, d.amt⟩
theorem dueL_k (l : List DueV) : K2 (l.map dueL) := fun y hy => by
  obtain ⟨x, _, rfl⟩ := List.mem_map.1 hy
  rfl
theorem dueL_d (l : List DueV) : dues (l.map dueL) = .sl 3 (l.map dueC2) := by simp [dues, dueC, dueL, dueC2]
def wkD : List LegV := [⟨⟨2, 1, 0⟩, 5⟩, ⟨⟨2, 2, 0⟩, 3⟩, ⟨⟨2, 1, 0⟩, -7⟩, ⟨⟨2, 2, 0⟩, -3⟩]
theorem wk17 : netR wkD = 0 ∧ netV wkD = [⟨⟨2, 1, 0⟩, -2⟩] := by
  have hs : legSort wkD = [⟨⟨2, 1, 0⟩, 5⟩, ⟨⟨2, 1, 0⟩, -7⟩, ⟨⟨2, 2, 0⟩, 3⟩, ⟨⟨2, 2, 0⟩, -3⟩] := by rfl
  have h1 : joinE (legSort wkD) = 0 := by rw [hs]; simp [joinE, acSame, amts, sumE, rightN]
  have h2 : joinO (legSort wkD) = [⟨⟨2, 1, 0⟩, -2⟩] := by rw [hs]; simp [joinO, acSame, amts, sumV, rightN]
  have h3 : netR wkD = 0 := by simp only [netR, h1]; rfl
  exact ⟨h3, by rw [nV h3, h2]⟩
theorem wkD_k : K2 wkD := by intro x hx; simp [wkD] at hx; rcases hx with rfl | rfl | rfl | rfl <;> rfl
end Go.Proofs.Ytcpkhnciplfmkaa
