/- Legs: what is joined depends on the sums alone. In plain Lean. No condition. -/
import Derived.Test.YtcpkhnciplfmkaaSpecY
namespace Go.Proofs.Ytcpkhnciplfmkaa
open Go.RowKit
set_option linter.unusedVariables false
set_option linter.unusedSimpArgs false
abbrev lgLt : LegV → LegV → Bool := fun a b => acLt a.ac b.ac
def Rt_ (S : List LegV) : Prop := ∀ y ∈ S, rightN y.amt = true
def Big (S : List LegV) : Prop := ∃ y ∈ S, rightN (sumA y.ac S) = false
theorem sumE_rt {l : List Int} (h1 : l.all rightN = true) : sumE l = bif rightN l.sum then 0 else 1 := by simp [sumE, h1]
theorem amts_rt {S : List LegV} (h : Rt_ S) : (amts S).all rightN = true := by
  rw [List.all_eq_true]
  intro y hy
  obtain ⟨z, hz, rfl⟩ := List.mem_map.1 hy
  exact h z hz
/- Ascending, each account once. -/
def Asc (S : List LegV) : Prop := S.Pairwise fun a b => acLt a.ac b.ac = true
theorem acLt_irr (a : AcV) : acLt a a = false := by
  cases h : acLt a a with
  | false => rfl
  | true => have := acLt_iff.1 h; omega
theorem asc_eq : ∀ {A B : List LegV}, Asc A → Asc B → (∀ x, x ∈ A ↔ x ∈ B) → A = B
  | [], [], _, _, _ => rfl
  | [], b :: B, _, _, h => by have := (h b).2 (by simp); cases this
  | a :: A, [], _, _, h => by have := (h a).1 (by simp); cases this
  | a :: A, b :: B, hA, hB, h => by
    have hA' := List.pairwise_cons.1 hA
    have hB' := List.pairwise_cons.1 hB
    have hab : a = b := by
      rcases List.mem_cons.1 ((h a).1 (by simp)) with e | e
      · exact e
      · rcases List.mem_cons.1 ((h b).2 (by simp)) with e2 | e2
        · exact e2.symm
        · have h1 := hB'.1 a e
          have h2 := hA'.1 b e2
          have h3 := acLt_iff.1 h1
          have h4 := acLt_iff.1 h2
          omega
    subst hab
    congr 1
    refine asc_eq hA'.2 hB'.2 fun x => ⟨fun hx => ?_, fun hx => ?_⟩
    · rcases List.mem_cons.1 ((h x).1 (List.mem_cons_of_mem _ hx)) with e | e
      · subst e; have := hA'.1 x hx; rw [acLt_irr] at this; cases this
      · exact e
    · rcases List.mem_cons.1 ((h x).2 (List.mem_cons_of_mem _ hx)) with e | e
      · subst e; have := hB'.1 x hx; rw [acLt_irr] at this; cases this
      · exact e
/- The facts of what is joined, of a sorted row of legs with amounts that are money. -/
structure JoinF_ (S : List LegV) : Prop where
  err : (joinE S = 0 ∧ ¬ Big S) ∨ (joinE S = 1 ∧ Big S)
  mem : ¬ Big S → ∀ y, y ∈ joinO S ↔ (y.amt = sumA y.ac S ∧ y.amt ≠ 0)
  asc : Asc (joinO S)
  sub : ∀ y ∈ joinO S, ∃ z ∈ S, z.ac = y.ac
theorem sumA_mem {a : AcV} : ∀ {S : List LegV}, sumA a S ≠ 0 → ∃ z ∈ S, z.ac = a
  | [], h => absurd rfl h
  | x :: S, h => by
    cases hc : acSame x.ac a with
    | true => exact ⟨x, by simp, acSame_iff.1 hc⟩
    | false =>
      simp only [sumA, hc, cond_false, Int.zero_add] at h
      obtain ⟨z, hz, e⟩ := sumA_mem h
      exact ⟨z, List.mem_cons_of_mem _ hz, e⟩
theorem join_facts : ∀ (n : Nat) (S : List LegV), S.length ≤ n → Srt lgLt S → Rt_ S → JoinF_ S
  | _, [], _, _, _ => by
    refine ⟨.inl ⟨by simp [joinE], fun ⟨y, hy, _⟩ => by cases hy⟩, fun _ y => ?_, by simp [joinO, Asc], by simp [joinO]⟩
    simp only [joinO, sumA, List.not_mem_nil, false_iff]
    rintro ⟨h1, h2⟩; exact h2 h1
  | 0, x :: S, h, _, _ => by simp at h
  | n + 1, x :: S, h, hs, hr => by
    obtain ⟨A, B, rfl, hA, hB⟩ := run_of x S
    have hj := join_step hA hB
    have hq := run_sums hs hA hB
    have hrA : Rt_ (x :: A) := fun y hy => hr y (by rcases List.mem_cons.1 hy with rfl | hy <;> simp [*])
    have hrB : Rt_ B := fun y hy => hr y (by simp [hy])
    have h1 := amts_rt hrA
    have ih := join_facts n B (by simp at h; omega) (srt_drop (A := x :: A) hs) hrB
    have hE := sumE_rt h1
    have hBx : ∀ y ∈ B, acSame y.ac x.ac = false := by
      rcases hB with rfl | ⟨b, t, rfl, hb⟩
      · intro y hy; cases hy
      · exact srt_past (x := x) (List.pairwise_cons.2 ⟨fun y hy => (List.pairwise_cons.1 hs).1 y (List.mem_append_right _ hy), srt_drop (A := A) (List.pairwise_cons.1 hs).2⟩) hb
    have hBs : ∀ y ∈ B, sumA y.ac B = sumA y.ac (x :: (A ++ B)) := fun y hy => by
      refine hq.2.2 y.ac ?_
      cases hc : acSame x.ac y.ac with
      | false => rfl
      | true => have := hBx y hy; rw [acSame_iff.1 hc, acSame_refl] at this; cases this
    have hAs : ∀ y ∈ x :: A, y.ac = x.ac := fun y hy => by
      rcases List.mem_cons.1 hy with rfl | hy
      · rfl
      · exact acSame_iff.1 (hA y hy)
    have hBig : Big (x :: (A ++ B)) ↔ rightN (sumA x.ac (x :: (A ++ B))) = false ∨ Big B := by
      constructor
      · rintro ⟨y, hy, hb⟩
        have hy' : y ∈ (x :: A) ++ B := by simpa using hy
        rcases List.mem_append.1 hy' with hy | hy
        · rw [hAs y hy] at hb; exact .inl hb
        · exact .inr ⟨y, hy, by rw [hBs y hy]; exact hb⟩
      · rintro (hb | ⟨y, hy, hb⟩)
        · exact ⟨x, by simp, hb⟩
        · exact ⟨y, by simp [hy], by rw [← hBs y hy]; exact hb⟩
    have hlt : ∀ y ∈ B, acLt x.ac y.ac = true := fun y hy => by
      cases hc : acLt x.ac y.ac with
      | true => rfl
      | false =>
        have h2 : acLt y.ac x.ac = false := (List.pairwise_cons.1 hs).1 y (List.mem_append_right _ hy)
        have := hBx y hy
        rw [acLt_eq h2 hc, acSame_refl] at this; cases this
    have hsub : ∀ y ∈ joinO (x :: (A ++ B)), ∃ z ∈ x :: (A ++ B), z.ac = y.ac := fun y hy => by
      rw [hj.2] at hy
      rcases List.mem_append.1 hy with hy | hy
      · cases hc : (sumV (amts (x :: A)) != 0) with
        | true => rw [hc] at hy; simp at hy; exact ⟨x, by simp, by rw [hy]⟩
        | false => rw [hc] at hy; simp at hy
      · obtain ⟨z, hz, e⟩ := ih.sub y hy
        exact ⟨z, by simp [hz], e⟩
    refine ⟨?_, fun hb y => ?_, ?_, hsub⟩
    · rw [hj.1, hE, hq.1, hBig]
      cases hc : rightN (sumA x.ac (x :: (A ++ B))) with
      | false => exact .inr ⟨rfl, .inl rfl⟩
      | true =>
        rcases ih.err with ⟨e, hb⟩ | ⟨e, hb⟩
        · exact .inl ⟨e, fun h => h.elim (fun h => by cases h) hb⟩
        · exact .inr ⟨e, .inr hb⟩
    · have hb' : ¬ _ := fun h => hb (hBig.2 h)
      have hc : rightN (sumA x.ac (x :: (A ++ B))) = true := by
        cases hc : rightN (sumA x.ac (x :: (A ++ B))) with
        | true => rfl
        | false => exact absurd (.inl hc) hb'
      have hv : sumV (amts (x :: A)) = sumA x.ac (x :: (A ++ B)) := by rw [(sumE_ok h1 (by rw [hq.1]; exact hc)).2, hq.1]
      rw [hj.2, List.mem_append, hv, ih.mem (fun h => hb' (.inr h)) y]
      cases hxy : acSame x.ac y.ac with
      | true =>
        have e := acSame_iff.1 hxy
        rw [← e, hq.2.1]
        constructor
        · rintro (h | ⟨h1, h2⟩)
          · cases hz : (sumA x.ac (x :: (A ++ B)) != 0) with
            | true => rw [hz] at h; simp at h; rw [h]; exact ⟨rfl, by simpa using hz⟩
            | false => rw [hz] at h; simp at h
          · exact absurd h1 h2
        · rintro ⟨h1, h2⟩
          left
          rw [show (sumA x.ac (x :: (A ++ B)) != 0) = true by simpa [h1] using h2]
          cases y; simp at e h1 ⊢; exact ⟨e.symm, h1⟩
      | false =>
        rw [hq.2.2 y.ac hxy]
        constructor
        · rintro (h | h)
          · cases hz : (sumA x.ac (x :: (A ++ B)) != 0) with
            | true => rw [hz] at h; simp at h; rw [h, acSame_refl] at hxy; cases hxy
            | false => rw [hz] at h; simp at h
          · exact h
        · exact fun h => .inr h
    · rw [hj.2]
      refine List.pairwise_append.2 ⟨?_, ih.asc, fun a ha b hb => ?_⟩
      · cases (sumV (amts (x :: A)) != 0) <;> simp
      · obtain ⟨z, hz, e⟩ := ih.sub b hb
        cases hc : (sumV (amts (x :: A)) != 0) with
        | true => rw [hc] at ha; simp at ha; rw [ha, ← e]; exact hlt z hz
        | false => rw [hc] at ha; simp at ha
theorem sumA_srt (a : AcV) (l : List LegV) : sumA a (legSort l) = sumA a l := sumA_sort a l
theorem big_srt {l : List LegV} : Big (legSort l) ↔ Big l := by
  constructor <;> rintro ⟨y, hy, h⟩
  · exact ⟨y, legSort_mem.1 hy, by rw [← sumA_sort]; exact h⟩
  · exact ⟨y, legSort_mem.2 hy, by rw [sumA_sort]; exact h⟩
theorem ok_rt {l : List LegV} (h : l.all legOk = true) : Rt_ l := fun y hy => by
  have := List.all_eq_true.1 h y hy
  simp only [legOk, Bool.and_eq_true] at this
  exact this.2
theorem jF {l : List LegV} (h : l.all legOk = true) : JoinF_ (legSort l) := join_facts _ _ (Nat.le_refl _) (Srt_isort acLt_swo l) (fun y hy => ok_rt h y (legSort_mem.1 hy))
theorem jR {l : List LegV} (h : l.all legOk = true) : (joinR l = 0 ∧ ¬ Big l) ∨ (joinR l = 1 ∧ Big l) := by
  have e : joinR l = joinE (legSort l) := by simp only [joinR, h, cond_true]
  rw [e, ← big_srt]; exact (jF h).err
theorem jBig {l : List LegV} (h : joinR l = 0) : ¬ Big l := by
  rcases jR (joinR_ok h) with ⟨_, hb⟩ | ⟨e, _⟩
  · exact hb
  · rw [h] at e; cases e
theorem jV {l : List LegV} (h : joinR l = 0) : joinV l = joinO (legSort l) := by simp only [joinV, h]; rfl
theorem jM {l : List LegV} (h : joinR l = 0) (y : LegV) : y ∈ joinV l ↔ (y.amt = sumA y.ac l ∧ y.amt ≠ 0) := by
  rw [jV h, (jF (joinR_ok h)).mem (fun hb => jBig h (big_srt.1 hb)) y, sumA_sort]
theorem jA (l : List LegV) (h : joinR l = 0) : Asc (joinV l) := by rw [jV h]; exact (jF (joinR_ok h)).asc
theorem jS {l : List LegV} (h : joinR l = 0) {y : LegV} (hy : y ∈ joinV l) : ∃ z ∈ l, z.ac = y.ac := by
  rw [jV h] at hy
  obtain ⟨z, hz, e⟩ := (jF (joinR_ok h)).sub y hy
  exact ⟨z, legSort_mem.1 hz, e⟩
theorem big_of {l m : List LegV} (hs : ∀ a, sumA a l = sumA a m) : Big l → Big m := by
  rintro ⟨y, hy, h⟩
  have hn : sumA y.ac m ≠ 0 := fun e => by rw [hs, e] at h; cases h
  obtain ⟨z, hz, e⟩ := sumA_mem hn
  exact ⟨z, hz, by rw [e, ← hs]; exact h⟩
theorem same_join {l m : List LegV} (hl : l.all legOk = true) (hm : m.all legOk = true) (hs : ∀ a, sumA a l = sumA a m) : joinR l = joinR m ∧ joinV l = joinV m := by
  rcases jR hl with ⟨e, hb⟩ | ⟨e, hb⟩
  · rcases jR hm with ⟨e2, hb2⟩ | ⟨e2, hb2⟩
    · refine ⟨by rw [e, e2], asc_eq (jA l e) (jA m e2) fun x => ?_⟩
      rw [jM e, jM e2, hs]
    · exact absurd (big_of (fun a => (hs a).symm) hb2) hb
  · rcases jR hm with ⟨e2, hb2⟩ | ⟨e2, hb2⟩
    · exact absurd (big_of hs hb) hb2
    · refine ⟨by rw [e, e2], ?_⟩
      simp only [joinV, e, e2]; rfl
theorem sumA_rev (a : AcV) : ∀ l : List LegV, sumA a l.reverse = sumA a l
  | [] => rfl
  | x :: l => by rw [List.reverse_cons, sumA_app, sumA_rev a l]; simp only [sumA]; omega
theorem join_rev (l : List LegV) : joinR l.reverse = joinR l ∧ joinV l.reverse = joinV l := by
  have ha : l.reverse.all legOk = l.all legOk := by simp
  cases h : l.all legOk with
  | true => exact same_join (ha.trans h) h (sumA_rev · l)
  | false =>
    have e1 : joinR l = 3 := by simp only [joinR, h, cond_false]
    have e2 : joinR l.reverse = 3 := by simp only [joinR, ha.trans h, cond_false]
    refine ⟨by rw [e1, e2], ?_⟩
    simp only [joinV, e1, e2]; rfl
theorem asc_sum : ∀ {j : List LegV}, Asc j → ∀ y ∈ j, sumA y.ac j = y.amt
  | [], _, y, hy => by cases hy
  | x :: j, h, y, hy => by
    have h' := List.pairwise_cons.1 h
    rcases List.mem_cons.1 hy with rfl | hy
    · simp only [sumA, acSame_refl, cond_true]
      rw [sumA_none fun b hb => ?_]; · omega
      cases hc : acSame b.ac y.ac with
      | false => rfl
      | true => have := h'.1 b hb; rw [acSame_iff.1 hc, acLt_irr] at this; cases this
    · have hn : acSame x.ac y.ac = false := by
        cases hc : acSame x.ac y.ac with
        | false => rfl
        | true => have := h'.1 y hy; rw [acSame_iff.1 hc, acLt_irr] at this; cases this
      simp only [sumA, hn, cond_false, asc_sum h'.2 y hy]; omega
theorem join_sum {l : List LegV} (h : joinR l = 0) (a : AcV) : sumA a (joinV l) = sumA a l := by
  by_cases h0 : sumA a l = 0
  · rw [h0]
    refine sumA_none fun b hb => ?_
    cases hc : acSame b.ac a with
    | false => rfl
    | true =>
      have := (jM h b).1 hb
      rw [acSame_iff.1 hc, h0] at this
      exact absurd this.1 this.2
  · have hm : (⟨a, sumA a l⟩ : LegV) ∈ joinV l := (jM h _).2 ⟨rfl, h0⟩
    exact asc_sum (jA l h) _ hm
theorem join_ok {l : List LegV} (h : joinR l = 0) : (joinV l).all legOk = true := by
  rw [List.all_eq_true]
  intro y hy
  obtain ⟨z, hz, e⟩ := jS h hy
  have hk := List.all_eq_true.1 (joinR_ok h) z hz
  simp only [legOk, Bool.and_eq_true] at hk ⊢
  refine ⟨by rw [← e]; exact hk.1, ?_⟩
  rw [((jM h y).1 hy).1, ← e]
  cases hc : rightN (sumA z.ac l) with
  | true => rfl
  | false => exact absurd ⟨z, hz, hc⟩ (jBig h)
theorem join_again {l : List LegV} (h : joinR l = 0) : joinR (joinV l) = 0 ∧ joinV (joinV l) = joinV l := by
  have e := same_join (join_ok h) (joinR_ok h) (join_sum h)
  exact ⟨e.1.trans h, e.2⟩
/- Sums of one currency. -/
def sumC (c : Int) (l : List LegV) : Int := (amts (curL c l)).sum
theorem sumC_cons (c : Int) (x : LegV) (l : List LegV) : sumC c (x :: l) = (bif x.ac.cur == c then x.amt else 0) + sumC c l := by
  simp only [sumC, curL, List.filter_cons]
  cases x.ac.cur == c <;> simp [amts]
theorem sumC_app (c : Int) : ∀ (l m : List LegV), sumC c (l ++ m) = sumC c l + sumC c m
  | [], m => by simp [sumC, curL, amts]
  | x :: l, m => by rw [List.cons_append, sumC_cons, sumC_cons, sumC_app c l m]; omega
theorem sumC_ins (c : Int) {lt : LegV → LegV → Bool} (x : LegV) : ∀ l : List LegV, sumC c (insX lt x l) = sumC c (x :: l)
  | [] => rfl
  | y :: l => by
    simp only [insX]
    cases lt x y with
    | true => rfl
    | false => simp only [cond_false]; rw [sumC_cons, sumC_ins c x l, sumC_cons, sumC_cons, sumC_cons]; omega
theorem sumC_isort (c : Int) {lt : LegV → LegV → Bool} : ∀ l acc : List LegV, sumC c (isortA lt acc l) = sumC c acc + sumC c l
  | [], acc => by simp [isortA, sumC, curL, amts]
  | x :: l, acc => by rw [isortA, sumC_isort c l, sumC_ins, sumC_cons, sumC_cons]; omega
theorem sumC_run (c : Int) {x : LegV} : ∀ {A : List LegV}, (∀ y ∈ A, y.ac = x.ac) → sumC c A = bif x.ac.cur == c then (amts A).sum else 0
  | [], _ => by cases (x.ac.cur == c) <;> rfl
  | y :: A, h => by
    rw [sumC_cons, sumC_run c (x := x) (fun z hz => h z (List.mem_cons_of_mem _ hz)), h y (by simp)]
    cases (x.ac.cur == c) <;> simp [amts]
theorem join_cur (c : Int) : ∀ (n : Nat) (S : List LegV), S.length ≤ n → Srt lgLt S → Rt_ S → ¬ Big S → sumC c (joinO S) = sumC c S
  | _, [], _, _, _, _ => by simp [joinO]
  | 0, x :: S, h, _, _, _ => by simp at h
  | n + 1, x :: S, h, hs, hr, hb => by
    obtain ⟨A, B, rfl, hA, hB⟩ := run_of x S
    have hj := join_step hA hB
    have hq := run_sums hs hA hB
    have hrA : Rt_ (x :: A) := fun y hy => hr y (by rcases List.mem_cons.1 hy with rfl | hy <;> simp [*])
    have hc : rightN (sumA x.ac (x :: (A ++ B))) = true := by
      cases hc : rightN (sumA x.ac (x :: (A ++ B))) with
      | true => rfl
      | false => exact absurd ⟨x, by simp, hc⟩ hb
    have hv : sumV (amts (x :: A)) = (amts (x :: A)).sum := (sumE_ok (amts_rt hrA) (by rw [hq.1]; exact hc)).2
    have hbB : ¬ Big B := by
      rintro ⟨y, hy, h2⟩
      refine hb ⟨y, by simp [hy], ?_⟩
      have hyx : acSame x.ac y.ac = false := by
        cases hc2 : acSame x.ac y.ac with
        | false => rfl
        | true => rw [← acSame_iff.1 hc2, hq.2.1] at h2; cases h2
      rw [← hq.2.2 y.ac hyx]; exact h2
    have ih := join_cur c n B (by simp at h; omega) (srt_drop (A := x :: A) hs) (fun y hy => hr y (by simp [hy])) hbB
    have hr2 := sumC_run c (x := x) (A := x :: A) (fun y hy => by
      rcases List.mem_cons.1 hy with rfl | hy
      · rfl
      · exact acSame_iff.1 (hA y hy))
    rw [hj.2, sumC_app, ih, show x :: (A ++ B) = (x :: A) ++ B from rfl, sumC_app, hr2, hv]
    congr 1
    cases hz : ((amts (x :: A)).sum != 0) with
    | true => simp only [cond_true, sumC_cons]; cases (x.ac.cur == c) <;> simp [sumC, curL, amts]
    | false =>
      have hz : (amts (x :: A)).sum = 0 := by simpa using hz
      rw [hz]; cases (x.ac.cur == c) <;> rfl
theorem join_curs {l : List LegV} (h : joinR l = 0) (c : Int) : sumC c (joinV l) = sumC c l := by
  have hk := joinR_ok h
  have e := join_cur c _ (legSort l) (Nat.le_refl _) (Srt_isort acLt_swo l) (fun y hy => ok_rt hk y (legSort_mem.1 hy)) (fun hb => jBig h (big_srt.1 hb))
  rw [jV h, e, legSort, isort, sumC_isort]
  simp [sumC, curL, amts]
theorem chkC_iff {l : List LegV} (h : l.all legOk = true) (c : Int) : chkC c l = false ↔ sumC c l = 0 := by
  have h1 : (amts (curL c l)).all rightN = true := amts_rt fun y hy => ok_rt h y (List.mem_filter.1 hy).1
  have he := sumE_rt h1
  cases hc : rightN (amts (curL c l)).sum with
  | true =>
    have hv := sumE_ok h1 hc
    simp [chkC, hv.1, hv.2, sumC]
  | false =>
    rw [hc] at he
    simp only [chkC, he, sumC]
    constructor
    · intro h; cases h
    · intro h; rw [h] at hc; cases hc
theorem chkE_iff (l : List LegV) : chkE l = 0 ↔ (l ≠ [] ∧ l.length ≤ 64 ∧ l.all legOk = true ∧ sumC 0 l = 0 ∧ sumC 1 l = 0 ∧ sumC 2 l = 0) := by
  simp only [chkE]
  cases l with
  | nil => simp
  | cons x t =>
    have h0 : ((((x :: t).length : Nat) : Int) == 0) = false := by simp; omega
    rw [h0, cond_false]
    by_cases h1 : (x :: t).length ≤ 64
    · rw [show decide ((((x :: t).length : Nat) : Int) > 64) = false from decide_eq_false (by omega), cond_false]
      cases h2 : (x :: t).all legOk with
      | false => simp
      | true =>
        rw [← chkC_iff h2, ← chkC_iff h2, ← chkC_iff h2]
        cases chkC 0 (x :: t) <;> cases chkC 1 (x :: t) <;> cases chkC 2 (x :: t) <;> simp [h1] <;> simpa using h1
    · rw [show decide ((((x :: t).length : Nat) : Int) > 64) = true from decide_eq_true (by omega), cond_true]
      simp only [ne_eq, reduceCtorEq, not_false_eq_true, true_and]
      constructor
      · intro h; cases h
      · intro h; exact absurd h.1 h1
theorem joins_check {l : List LegV} (h : joinR l = 0) (h1 : chkE l = 0) (h2 : joinV l ≠ []) (h3 : (joinV l).length ≤ 64) : chkE (joinV l) = 0 := by
  have e := (chkE_iff l).1 h1
  exact (chkE_iff _).2 ⟨h2, h3, join_ok h, by rw [join_curs h]; exact e.2.2.2.1, by rw [join_curs h]; exact e.2.2.2.2.1, by rw [join_curs h]; exact e.2.2.2.2.2⟩
theorem many_check {l m : List LegV} (h1 : chkE l = 0) (h2 : chkE m = 0) (h3 : (l ++ m).length ≤ 64) : chkE (l ++ m) = 0 := by
  have e := (chkE_iff l).1 h1
  have f := (chkE_iff m).1 h2
  exact (chkE_iff _).2 ⟨by simp [e.1], h3, by rw [List.all_append, e.2.2.1, f.2.2.1]; rfl, by rw [sumC_app, e.2.2.2.1, f.2.2.2.1]; rfl, by rw [sumC_app, e.2.2.2.2.1, f.2.2.2.2.1]; rfl, by rw [sumC_app, e.2.2.2.2.2, f.2.2.2.2.2]; rfl⟩
theorem many_join {l m : List LegV} (h1 : joinR l = 0) (h2 : joinR m = 0) : joinR (joinV l ++ joinV m) = joinR (l ++ m) ∧ joinV (joinV l ++ joinV m) = joinV (l ++ m) :=
  same_join (by rw [List.all_append, join_ok h1, join_ok h2]; rfl) (by rw [List.all_append, joinR_ok h1, joinR_ok h2]; rfl) (fun a => by rw [sumA_app, sumA_app, join_sum h1, join_sum h2])
theorem joins_fin {l : List LegV} (h : joinR l = 0) : (chkE l != 0 || (((joinV l).length : Int) == 0) || decide (((joinV l).length : Int) > 64) || chkE (joinV l) == 0) = true := by
  by_cases h1 : chkE l = 0
  · by_cases h2 : joinV l = []
    · simp [h2]
    · by_cases h3 : (joinV l).length ≤ 64
      · simp [joins_check h h1 h2 h3]
      · have : decide (((joinV l).length : Int) > 64) = true := decide_eq_true (by omega)
        simp [this]
  · simp [h1]
theorem many_fin (l m : List LegV) : (chkE l == 0 && chkE m == 0 && decide (((l.length + m.length : Nat) : Int) ≤ 64) && chkE (l ++ m) != 0) = false := by
  by_cases h1 : chkE l = 0
  · by_cases h2 : chkE m = 0
    · by_cases h3 : (l ++ m).length ≤ 64
      · simp [many_check h1 h2 h3]
      · have : decide (((l.length + m.length : Nat) : Int) ≤ 64) = false := decide_eq_false (by simp at h3 ⊢; omega)
        rw [this]; simp
    · simp [h2]
  · simp [h1]
end Go.Proofs.Ytcpkhnciplfmkaa
