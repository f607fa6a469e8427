/- Legs of a posting: which may stand, what they are joined. In plain Lean. No condition. -/
import Derived.Test.YtjkfadaedgidpaaGreatSort
import Derived.Test.YtjkfadaedgidpaaGreatSpecM
namespace Go.Proofs.YtjkfadaedgidpaaGreat
open Go.RowKit
set_option linter.unusedVariables false
set_option linter.unusedSimpArgs false
structure AcV where
 kind : Int
 who : Int
 cur : Int
structure LegV where
 ac : AcV
 amt : Int
def acC (a : AcV) : List D := [iv a.kind, iv a.who, iv a.cur]
def legC (l : LegV) : List D := [iv l.ac.kind, iv l.ac.who, iv l.ac.cur, iv l.amt]
def legs (l : List LegV) : D := .sl 4 (l.map legC)
def acSame (a b : AcV) : Bool := a.kind == b.kind && a.who == b.who && a.cur == b.cur
theorem acSame_iff {a b : AcV} : acSame a b = true ↔ a = b := by
 cases a; cases b; simp [acSame, and_assoc]
def acLt (a b : AcV) : Bool := bif a.kind != b.kind then decide (a.kind < b.kind) else bif a.who != b.who then decide (a.who < b.who) else decide (a.cur < b.cur)
theorem acLt_iff {a b : AcV} : acLt a b = true ↔ a.kind < b.kind ∨ (a.kind = b.kind ∧ (a.who < b.who ∨ (a.who = b.who ∧ a.cur < b.cur))) := by
 simp only [acLt]
 by_cases h1 : a.kind = b.kind
 ·by_cases h2 : a.who = b.who
  ·simp [h1, h2]
  ·simp [h1, h2]
 ·simp [h1]
theorem acLt_swo : Swo (fun a b : LegV => acLt a.ac b.ac) where
 asym a b h := by
  have h := acLt_iff.1 h
  cases h2 : acLt b.ac a.ac with
  | false => rfl
  | true => have h2 := acLt_iff.1 h2; omega
 tr a b c h1 h2 := by
  cases h3 : acLt c.ac a.ac with
  | false => rfl
  | true =>
   exfalso
   have h3 := acLt_iff.1 h3
   have h1 : ¬ _ := fun h => by rw [acLt_iff.2 h] at h1; cases h1
   have h2 : ¬ _ := fun h => by rw [acLt_iff.2 h] at h2; cases h2
   omega
theorem acLt_eq {a b : AcV} (h1 : acLt a b = false) (h2 : acLt b a = false) : a = b := by
 have h1 : ¬ _ := fun h => by rw [acLt_iff.2 h] at h1; cases h1
 have h2 : ¬ _ := fun h => by rw [acLt_iff.2 h] at h2; cases h2
 cases a; cases b
 simp only [AcV.mk.injEq] at h1 h2 ⊢
 omega
def legSort (l : List LegV) : List LegV := isort (fun a b : LegV => acLt a.ac b.ac) l
def legCmp (a b : LegV) : Int := bif acLt a.ac b.ac then -1 else bif acLt b.ac a.ac then 1 else 0
def legD : List D → LegV
 | [.v (.int _ a), .v (.int _ b), .v (.int _ c), .v (.int _ d)] => ⟨⟨a, b, c⟩, d⟩
 | _ => ⟨⟨0, 0, 0⟩, 0⟩
def isLeg (x : List D) : Prop := ∃ b, x = legC b
theorem okM_legs (l : List LegV) : okM isLeg (l.map legC) := fun e he => by
 obtain ⟨b, _, rfl⟩ := List.mem_map.1 he
 exact ⟨b, rfl⟩
def legCmpD (x y : List D) : Int := legCmp (legD x) (legD y)
theorem legCmp_lt (a b : LegV) : decide (legCmp a b < 0) = acLt a.ac b.ac := by
 cases h1 : acLt a.ac b.ac <;> cases h2 : acLt b.ac a.ac <;> simp [legCmp, h1, h2]
theorem legCmpD_lt (x y : List D) : ltc legCmpD x y = acLt (legD x).ac (legD y).ac := legCmp_lt _ _
theorem legCmp_swo : Swo (ltc legCmpD) where
 asym a b h := by rw [legCmpD_lt] at h ⊢; exact acLt_swo.asym (legD a) (legD b) h
 tr a b c h1 h2 := by rw [legCmpD_lt] at h1 h2 ⊢; exact acLt_swo.tr (legD a) (legD b) (legD c) h1 h2
theorem isort_mapL {α β : Type} (f : α → β) {lt : α → α → Bool} {lt' : β → β → Bool} (h : ∀ a b, lt' (f a) (f b) = lt a b) (l : List α) : isort lt' (l.map f) = (isort lt l).map f := by
 have ins : ∀ (x : α) (l : List α), insX lt' (f x) (l.map f) = (insX lt x l).map f := by
  intro x l
  induction l with
  | nil => rfl
  | cons y l ih =>
   simp only [List.map_cons, insX, h]
   cases lt x y with
   | true => rfl
   | false => simp [ih]
 have aux : ∀ (l acc : List α), isortA lt' (acc.map f) (l.map f) = (isortA lt acc l).map f := by
  intro l
  induction l with
  | nil => intro acc; rfl
  | cons x l ih => intro acc; simp only [List.map_cons, isortA, ins, ih]
 exact aux l []
theorem sort_legs (l : List LegV) : isort (ltc legCmpD) (l.map legC) = (legSort l).map legC := isort_mapL legC (fun a b => legCmp_lt a b) l
theorem legSort_len (l : List LegV) : (legSort l).length = l.length := isort_len l
theorem legSort_mem {l : List LegV} {x : LegV} : x ∈ legSort l ↔ x ∈ l := by
 have aux : ∀ (l acc : List LegV), x ∈ isortA (fun a b : LegV => acLt a.ac b.ac) acc l ↔ x ∈ acc ∨ x ∈ l := by
  intro l
  induction l with
  | nil => intro acc; simp [isortA]
  | cons y l ih =>
   intro acc
   simp only [isortA, ih, insX_mem, List.mem_cons]
   constructor
   ·rintro ((h | h) | h)
    ·exact .inr (.inl h)
    ·exact .inl h
    ·exact .inr (.inr h)
   ·rintro (h | h | h)
    ·exact .inl (.inr h)
    ·exact .inl (.inl h)
    ·exact .inr h
 rw [legSort, isort, aux]; simp
def amts (l : List LegV) : List Int := l.map LegV.amt
def joinE : List LegV → Int
 | [] => 0
 | x :: xs => bif sumE (amts ((x :: xs).takeWhile fun y => acSame y.ac x.ac)) != 0 then sumE (amts ((x :: xs).takeWhile fun y => acSame y.ac x.ac)) else joinE (xs.dropWhile fun y => acSame y.ac x.ac)
termination_by l => l.length
decreasing_by
 have := (List.dropWhile_sublist (fun y : LegV => acSame y.ac x.ac) (l := xs)).length_le
 simp only [List.length_cons]; omega
def joinO : List LegV → List LegV
 | [] => []
 | x :: xs => (bif sumV (amts ((x :: xs).takeWhile fun y => acSame y.ac x.ac)) != 0 then [(⟨x.ac, sumV (amts ((x :: xs).takeWhile fun y => acSame y.ac x.ac))⟩ : LegV)] else []) ++ joinO (xs.dropWhile fun y => acSame y.ac x.ac)
termination_by l => l.length
decreasing_by
 have := (List.dropWhile_sublist (fun y : LegV => acSame y.ac x.ac) (l := xs)).length_le
 simp only [List.length_cons]; omega
theorem tw_app {p : LegV → Bool} : ∀ {A B : List LegV}, (∀ a ∈ A, p a = true) → (B = [] ∨ ∃ b t, B = b :: t ∧ p b = false) → (A ++ B).takeWhile p = A ∧ (A ++ B).dropWhile p = B
 | [], B, _, h => by
  rcases h with rfl | ⟨b, t, rfl, hb⟩
  ·simp
  ·simp [List.takeWhile, List.dropWhile, hb]
 | a :: A, B, hA, h => by
  have ih := tw_app (A := A) (fun a ha => hA a (List.mem_cons_of_mem _ ha)) h
  simp [List.takeWhile, List.dropWhile, hA a (by simp), ih]
theorem acSame_refl (a : AcV) : acSame a a = true := acSame_iff.2 rfl
theorem join_step {x : LegV} {A B : List LegV} (hA : ∀ a ∈ A, acSame a.ac x.ac = true) (hB : B = [] ∨ ∃ b t, B = b :: t ∧ acSame b.ac x.ac = false) :
  joinE (x :: (A ++ B)) = (bif sumE (amts (x :: A)) != 0 then sumE (amts (x :: A)) else joinE B) ∧
  joinO (x :: (A ++ B)) = (bif sumV (amts (x :: A)) != 0 then [(⟨x.ac, sumV (amts (x :: A))⟩ : LegV)] else []) ++ joinO B := by
 have h := tw_app (p := fun y => acSame y.ac x.ac) hA hB
 have h2 : (x :: (A ++ B)).takeWhile (fun y => acSame y.ac x.ac) = x :: A := by simp [List.takeWhile, acSame_refl, h.1]
 constructor
 ·rw [joinE, h2, h.2]
 ·rw [joinO, h2, h.2]
def acBad (a : AcV) : Bool := bif (bif (bif decide (a.kind < 1) then true else decide (a.kind > 6)) then true else decide (a.cur < 0)) then true else decide (a.cur ≥ 3)
def acOwn (k : Int) : Bool := bif k == 2 then true else k == 3
def acOk (a : AcV) : Bool := bif acBad a then false else bif acOwn a.kind then (bif decide (a.who ≥ 1) then decide (a.who ≤ 16) else false) else a.who == 0
theorem acBad_ref (a : AcV) : acBad a = (bif (bif (bif decide (a.cur < 0) then true else decide (a.cur ≥ 3)) then true else decide (a.kind < 1)) then true else decide (a.kind > 6)) := by
 simp only [acBad]
 cases decide (a.kind < 1) <;> cases decide (a.kind > 6) <;> cases decide (a.cur < 0) <;> cases decide (a.cur ≥ 3) <;> rfl
def legOk (l : LegV) : Bool := acOk l.ac && rightN l.amt
def joinR (l : List LegV) : Int := bif l.all legOk then joinE (legSort l) else 3
def joinV (l : List LegV) : List LegV := bif joinR l == 0 then joinO (legSort l) else []
theorem joinO_len : ∀ (l : List LegV), (joinO l).length ≤ l.length := by
 intro l
 induction l using joinO.induct with
 | case1 => simp [joinO]
 | case2 x xs ih =>
  rw [joinO, List.length_append]
  have := (List.dropWhile_sublist (fun y : LegV => acSame y.ac x.ac) (l := xs)).length_le
  simp only [List.length_cons]
  cases (sumV (amts ((x :: xs).takeWhile fun y => acSame y.ac x.ac)) != 0) <;> simp <;> omega
def turnL (l : LegV) : LegV := ⟨l.ac, 0 - (bif rightN l.amt then l.amt else 0)⟩
def spoilL (l : LegV) : LegV := ⟨⟨l.ac.kind, -77, l.ac.cur⟩, l.amt⟩
def moveL (a b : AcV) (n : Int) : List LegV := [⟨a, 0 - (bif rightN n then n else 0)⟩, ⟨b, bif rightN n then n else 0⟩]
end Go.Proofs.YtjkfadaedgidpaaGreat
namespace Go.Proofs.YtjkfadaedgidpaaGreat
open Go.RowKit
set_option linter.unusedVariables false
set_option linter.unusedSimpArgs false
def sumA (a : AcV) : List LegV → Int
 | [] => 0
 | x :: xs => (bif acSame x.ac a then x.amt else 0) + sumA a xs
theorem sumA_app (a : AcV) : ∀ (l m : List LegV), sumA a (l ++ m) = sumA a l + sumA a m
 | [], m => by simp [sumA]
 | x :: l, m => by simp only [List.cons_append, sumA, sumA_app a l m]; omega
theorem sumA_ins (a : AcV) {lt : LegV → LegV → Bool} (x : LegV) : ∀ l : List LegV, sumA a (insX lt x l) = sumA a (x :: l)
 | [] => rfl
 | y :: l => by
  simp only [insX]
  cases lt x y with
  | true => rfl
  | false => simp only [cond_false, sumA, sumA_ins a x l]; omega
theorem sumA_isort (a : AcV) {lt : LegV → LegV → Bool} : ∀ l acc : List LegV, sumA a (isortA lt acc l) = sumA a acc + sumA a l
 | [], acc => by simp [isortA, sumA]
 | x :: l, acc => by simp only [isortA, sumA_isort a l, sumA_ins, sumA]; omega
theorem sumA_sort (a : AcV) (l : List LegV) : sumA a (legSort l) = sumA a l := by simp [legSort, isort, sumA_isort, sumA]
theorem sumA_run {x : LegV} : ∀ {A : List LegV}, (∀ y ∈ A, acSame y.ac x.ac = true) → (amts A).sum = sumA x.ac A ∧ ∀ a, acSame x.ac a = false → sumA a A = 0
 | [], _ => ⟨rfl, fun _ _ => rfl⟩
 | y :: A, h => by
  have ih := sumA_run (A := A) (fun z hz => h z (List.mem_cons_of_mem _ hz))
  have hy := h y (by simp)
  refine ⟨?_, fun a ha => ?_⟩
  ·have := ih.1
   simp only [amts, List.map_cons, List.sum_cons] at this ⊢
   rw [this]; simp only [sumA, hy, cond_true]
  ·simp only [sumA, acSame_iff.1 hy, ha, cond_false, ih.2 a ha]; rfl
theorem sumA_none {a : AcV} : ∀ {B : List LegV}, (∀ b ∈ B, acSame b.ac a = false) → sumA a B = 0
 | [], _ => rfl
 | b :: B, h => by simp only [sumA, h b (by simp), cond_false, sumA_none (fun z hz => h z (List.mem_cons_of_mem _ hz))]; rfl
theorem srt_past {x b : LegV} {B : List LegV} (h : Srt (fun a b : LegV => acLt a.ac b.ac) (x :: (b :: B))) (hb : acSame b.ac x.ac = false) : ∀ y ∈ b :: B, acSame y.ac x.ac = false := by
 intro y hy
 cases hc : acSame y.ac x.ac with
 | false => rfl
 | true =>
  exfalso
  have e := acSame_iff.1 hc
  have h1 := (List.pairwise_cons.1 h).1 b (by simp)
  have h2 : acLt y.ac b.ac = false := by
   rcases List.mem_cons.1 hy with rfl | hy
   ·rw [e] at hb; rw [acSame_refl] at hb; cases hb
   ·exact (List.pairwise_cons.1 (List.pairwise_cons.1 h).2).1 y hy
  rw [e] at h2
  rw [acLt_eq h1 h2, acSame_refl] at hb
  cases hb
theorem run_of (x : LegV) (xs : List LegV) : ∃ A B, xs = A ++ B ∧ (∀ a ∈ A, acSame a.ac x.ac = true) ∧ (B = [] ∨ ∃ b t, B = b :: t ∧ acSame b.ac x.ac = false) := by
 induction xs with
 | nil => exact ⟨[], [], rfl, by simp, .inl rfl⟩
 | cons y ys ih =>
  cases h : acSame y.ac x.ac with
  | false => exact ⟨[], y :: ys, rfl, by simp, .inr ⟨y, ys, rfl, h⟩⟩
  | true =>
   obtain ⟨A, B, rfl, hA, hB⟩ := ih
   refine ⟨y :: A, B, rfl, fun a ha => ?_, hB⟩
   rcases List.mem_cons.1 ha with rfl | ha
   ·exact h
   ·exact hA a ha
theorem srt_drop {lt : LegV → LegV → Bool} : ∀ {A B : List LegV}, Srt lt (A ++ B) → Srt lt B
 | [], B, h => h
 | a :: A, B, h => srt_drop (A := A) (List.pairwise_cons.1 h).2
theorem sumE_ok {l : List Int} (h1 : l.all rightN = true) (h2 : rightN l.sum = true) : sumE l = 0 ∧ sumV l = l.sum := by simp [sumE, sumV, h1, h2]
theorem run_sums {x : LegV} {A B : List LegV} (h : Srt (fun a b : LegV => acLt a.ac b.ac) (x :: (A ++ B))) (hA : ∀ a ∈ A, acSame a.ac x.ac = true) (hB : B = [] ∨ ∃ b t, B = b :: t ∧ acSame b.ac x.ac = false) :
  (amts (x :: A)).sum = sumA x.ac (x :: (A ++ B)) ∧ sumA x.ac B = 0 ∧ ∀ a, acSame x.ac a = false → sumA a B = sumA a (x :: (A ++ B)) := by
 have hr := sumA_run (x := x) (A := x :: A) (fun y hy => by
  rcases List.mem_cons.1 hy with rfl | hy
  ·exact acSame_refl _
  ·exact hA y hy)
 have h0 : sumA x.ac B = 0 := by
  rcases hB with rfl | ⟨b, t, rfl, hb⟩
  ·rfl
  ·refine sumA_none (srt_past (x := x) ?_ hb)
   refine List.pairwise_cons.2 ⟨fun y hy => (List.pairwise_cons.1 h).1 y (List.mem_append_right _ hy), srt_drop (A := A) (List.pairwise_cons.1 h).2⟩
 have e : x :: (A ++ B) = (x :: A) ++ B := rfl
 refine ⟨?_, h0, fun a ha => ?_⟩
 ·rw [hr.1, e, sumA_app, h0]; omega
 ·rw [e, sumA_app, hr.2 a ha]; omega
theorem joinR_ok {l : List LegV} (h : joinR l = 0) : l.all legOk = true := by
 simp only [joinR] at h
 cases hc : l.all legOk with
 | true => rfl
 | false => rw [hc] at h; cases h
def curL (c : Int) (l : List LegV) : List LegV := l.filter fun x => x.ac.cur == c
def chkC (c : Int) (l : List LegV) : Bool := bif sumE (amts (curL c l)) != 0 then true else sumV (amts (curL c l)) != 0
def chkE (l : List LegV) : Int := bif (l.length : Int) == 0 then 2 else bif decide ((l.length : Int) > 64) then 5 else bif !(l.all legOk) then 3 else bif chkC 0 l || chkC 1 l || chkC 2 l then 12 else 0
end Go.Proofs.YtjkfadaedgidpaaGreat
namespace Go.Proofs.YtjkfadaedgidpaaGreat
open Go.RowKit
set_option linter.unusedVariables false
set_option linter.unusedSimpArgs false
abbrev lgLt : LegV → LegV → Bool := fun a b => acLt a.ac b.ac
def Rt_ (S : List LegV) : Prop := ∀ y ∈ S, rightN y.amt = true
def Big (S : List LegV) : Prop := ∃ y ∈ S, rightN (sumA y.ac S) = false
theorem sumE_rt {l : List Int} (h1 : l.all rightN = true) : sumE l = bif rightN l.sum then 0 else 1 := by simp [sumE, h1]
theorem amts_rt {S : List LegV} (h : Rt_ S) : (amts S).all rightN = true := by
 rw [List.all_eq_true]
 intro y hy
 obtain ⟨z, hz, rfl⟩ := List.mem_map.1 hy
 exact h z hz
def Asc (S : List LegV) : Prop := S.Pairwise fun a b => acLt a.ac b.ac = true
theorem acLt_irr (a : AcV) : acLt a a = false := by
 cases h : acLt a a with
 | false => rfl
 | true => have := acLt_iff.1 h; omega
theorem asc_eq : ∀ {A B : List LegV}, Asc A → Asc B → (∀ x, x ∈ A ↔ x ∈ B) → A = B
 | [], [], _, _, _ => rfl
 | [], b :: B, _, _, h => by have := (h b).2 (by simp); cases this
 | a :: A, [], _, _, h => by have := (h a).1 (by simp); cases this
 | a :: A, b :: B, hA, hB, h => by
  have hA' := List.pairwise_cons.1 hA
  have hB' := List.pairwise_cons.1 hB
  have hab : a = b := by
   rcases List.mem_cons.1 ((h a).1 (by simp)) with e | e
   ·exact e
   ·rcases List.mem_cons.1 ((h b).2 (by simp)) with e2 | e2
    ·exact e2.symm
    ·have h1 := hB'.1 a e
     have h2 := hA'.1 b e2
     have h3 := acLt_iff.1 h1
     have h4 := acLt_iff.1 h2
     omega
  subst hab
  congr 1
  refine asc_eq hA'.2 hB'.2 fun x => ⟨fun hx => ?_, fun hx => ?_⟩
  ·rcases List.mem_cons.1 ((h x).1 (List.mem_cons_of_mem _ hx)) with e | e
   ·subst e; have := hA'.1 x hx; rw [acLt_irr] at this; cases this
   ·exact e
  ·rcases List.mem_cons.1 ((h x).2 (List.mem_cons_of_mem _ hx)) with e | e
   ·subst e; have := hB'.1 x hx; rw [acLt_irr] at this; cases this
   ·exact e
structure JoinF_ (S : List LegV) : Prop where
 err : (joinE S = 0 ∧ ¬ Big S) ∨ (joinE S = 1 ∧ Big S)
 mem : ¬ Big S → ∀ y, y ∈ joinO S ↔ (y.amt = sumA y.ac S ∧ y.amt ≠ 0)
 asc : Asc (joinO S)
 sub : ∀ y ∈ joinO S, ∃ z ∈ S, z.ac = y.ac
theorem sumA_mem {a : AcV} : ∀ {S : List LegV}, sumA a S ≠ 0 → ∃ z ∈ S, z.ac = a
 | [], h => absurd rfl h
 | x :: S, h => by
  cases hc : acSame x.ac a with
  | true => exact ⟨x, by simp, acSame_iff.1 hc⟩
  | false =>
   simp only [sumA, hc, cond_false, Int.zero_add] at h
   obtain ⟨z, hz, e⟩ := sumA_mem h
   exact ⟨z, List.mem_cons_of_mem _ hz, e⟩
theorem join_facts : ∀ (n : Nat) (S : List LegV), S.length ≤ n → Srt lgLt S → Rt_ S → JoinF_ S
 | _, [], _, _, _ => by
  refine ⟨.inl ⟨by simp [joinE], fun ⟨y, hy, _⟩ => by cases hy⟩, fun _ y => ?_, by simp [joinO, Asc], by simp [joinO]⟩
  simp only [joinO, sumA, List.not_mem_nil, false_iff]
  rintro ⟨h1, h2⟩; exact h2 h1
 | 0, x :: S, h, _, _ => by simp at h
 | n + 1, x :: S, h, hs, hr => by
  obtain ⟨A, B, rfl, hA, hB⟩ := run_of x S
  have hj := join_step hA hB
  have hq := run_sums hs hA hB
  have hrA : Rt_ (x :: A) := fun y hy => hr y (by rcases List.mem_cons.1 hy with rfl | hy <;> simp [*])
  have hrB : Rt_ B := fun y hy => hr y (by simp [hy])
  have h1 := amts_rt hrA
  have ih := join_facts n B (by simp at h; omega) (srt_drop (A := x :: A) hs) hrB
  have hE := sumE_rt h1
  have hBx : ∀ y ∈ B, acSame y.ac x.ac = false := by
   rcases hB with rfl | ⟨b, t, rfl, hb⟩
   ·intro y hy; cases hy
   ·exact srt_past (x := x) (List.pairwise_cons.2 ⟨fun y hy => (List.pairwise_cons.1 hs).1 y (List.mem_append_right _ hy), srt_drop (A := A) (List.pairwise_cons.1 hs).2⟩) hb
  have hBs : ∀ y ∈ B, sumA y.ac B = sumA y.ac (x :: (A ++ B)) := fun y hy => by
   refine hq.2.2 y.ac ?_
   cases hc : acSame x.ac y.ac with
   | false => rfl
   | true => have := hBx y hy; rw [acSame_iff.1 hc, acSame_refl] at this; cases this
  have hAs : ∀ y ∈ x :: A, y.ac = x.ac := fun y hy => by
   rcases List.mem_cons.1 hy with rfl | hy
   ·rfl
   ·exact acSame_iff.1 (hA y hy)
  have hBig : Big (x :: (A ++ B)) ↔ rightN (sumA x.ac (x :: (A ++ B))) = false ∨ Big B := by
   constructor
   ·rintro ⟨y, hy, hb⟩
    have hy' : y ∈ (x :: A) ++ B := by simpa using hy
    rcases List.mem_append.1 hy' with hy | hy
    ·rw [hAs y hy] at hb; exact .inl hb
    ·exact .inr ⟨y, hy, by rw [hBs y hy]; exact hb⟩
   ·rintro (hb | ⟨y, hy, hb⟩)
    ·exact ⟨x, by simp, hb⟩
    ·exact ⟨y, by simp [hy], by rw [← hBs y hy]; exact hb⟩
  have hlt : ∀ y ∈ B, acLt x.ac y.ac = true := fun y hy => by
   cases hc : acLt x.ac y.ac with
   | true => rfl
   | false =>
    have h2 : acLt y.ac x.ac = false := (List.pairwise_cons.1 hs).1 y (List.mem_append_right _ hy)
    have := hBx y hy
    rw [acLt_eq h2 hc, acSame_refl] at this; cases this
  have hsub : ∀ y ∈ joinO (x :: (A ++ B)), ∃ z ∈ x :: (A ++ B), z.ac = y.ac := fun y hy => by
   rw [hj.2] at hy
   rcases List.mem_append.1 hy with hy | hy
   ·cases hc : (sumV (amts (x :: A)) != 0) with
    | true => rw [hc] at hy; simp at hy; exact ⟨x, by simp, by rw [hy]⟩
    | false => rw [hc] at hy; simp at hy
   ·obtain ⟨z, hz, e⟩ := ih.sub y hy
    exact ⟨z, by simp [hz], e⟩
  refine ⟨?_, fun hb y => ?_, ?_, hsub⟩
  ·rw [hj.1, hE, hq.1, hBig]
   cases hc : rightN (sumA x.ac (x :: (A ++ B))) with
   | false => exact .inr ⟨rfl, .inl rfl⟩
   | true =>
    rcases ih.err with ⟨e, hb⟩ | ⟨e, hb⟩
    ·exact .inl ⟨e, fun h => h.elim (fun h => by cases h) hb⟩
    ·exact .inr ⟨e, .inr hb⟩
  ·have hb' : ¬ _ := fun h => hb (hBig.2 h)
   have hc : rightN (sumA x.ac (x :: (A ++ B))) = true := by
    cases hc : rightN (sumA x.ac (x :: (A ++ B))) with
    | true => rfl
    | false => exact absurd (.inl hc) hb'
   have hv : sumV (amts (x :: A)) = sumA x.ac (x :: (A ++ B)) := by rw [(sumE_ok h1 (by rw [hq.1]; exact hc)).2, hq.1]
   rw [hj.2, List.mem_append, hv, ih.mem (fun h => hb' (.inr h)) y]
   cases hxy : acSame x.ac y.ac with
   | true =>
    have e := acSame_iff.1 hxy
    rw [← e, hq.2.1]
    constructor
    ·rintro (h | ⟨h1, h2⟩)
     ·cases hz : (sumA x.ac (x :: (A ++ B)) != 0) with
      | true => rw [hz] at h; simp at h; rw [h]; exact ⟨rfl, by simpa using hz⟩
      | false => rw [hz] at h; simp at h
     ·exact absurd h1 h2
    ·rintro ⟨h1, h2⟩
     left
     rw [show (sumA x.ac (x :: (A ++ B)) != 0) = true by simpa [h1] using h2]
     cases y; simp at e h1 ⊢; exact ⟨e.symm, h1⟩
   | false =>
    rw [hq.2.2 y.ac hxy]
    constructor
    ·rintro (h | h)
     ·cases hz : (sumA x.ac (x :: (A ++ B)) != 0) with
      | true => rw [hz] at h; simp at h; rw [h, acSame_refl] at hxy; cases hxy
      | false => rw [hz] at h; simp at h
     ·exact h
    ·exact fun h => .inr h
  ·rw [hj.2]
   refine List.pairwise_append.2 ⟨?_, ih.asc, fun a ha b hb => ?_⟩
   ·cases (sumV (amts (x :: A)) != 0) <;> simp
   ·obtain ⟨z, hz, e⟩ := ih.sub b hb
    cases hc : (sumV (amts (x :: A)) != 0) with
    | true => rw [hc] at ha; simp at ha; rw [ha, ← e]; exact hlt z hz
    | false => rw [hc] at ha; simp at ha
theorem big_srt {l : List LegV} : Big (legSort l) ↔ Big l := by
 constructor <;> rintro ⟨y, hy, h⟩
 ·exact ⟨y, legSort_mem.1 hy, by rw [← sumA_sort]; exact h⟩
 ·exact ⟨y, legSort_mem.2 hy, by rw [sumA_sort]; exact h⟩
theorem ok_rt {l : List LegV} (h : l.all legOk = true) : Rt_ l := fun y hy => by
 have := List.all_eq_true.1 h y hy
 simp only [legOk, Bool.and_eq_true] at this
 exact this.2
theorem jF {l : List LegV} (h : l.all legOk = true) : JoinF_ (legSort l) := join_facts _ _ (Nat.le_refl _) (Srt_isort acLt_swo l) (fun y hy => ok_rt h y (legSort_mem.1 hy))
theorem jR {l : List LegV} (h : l.all legOk = true) : (joinR l = 0 ∧ ¬ Big l) ∨ (joinR l = 1 ∧ Big l) := by
 have e : joinR l = joinE (legSort l) := by simp only [joinR, h, cond_true]
 rw [e, ← big_srt]; exact (jF h).err
theorem jBig {l : List LegV} (h : joinR l = 0) : ¬ Big l := by
 rcases jR (joinR_ok h) with ⟨_, hb⟩ | ⟨e, _⟩
 ·exact hb
 ·rw [h] at e; cases e
theorem jV {l : List LegV} (h : joinR l = 0) : joinV l = joinO (legSort l) := by simp only [joinV, h]; rfl
theorem jM {l : List LegV} (h : joinR l = 0) (y : LegV) : y ∈ joinV l ↔ (y.amt = sumA y.ac l ∧ y.amt ≠ 0) := by
 rw [jV h, (jF (joinR_ok h)).mem (fun hb => jBig h (big_srt.1 hb)) y, sumA_sort]
theorem jA (l : List LegV) (h : joinR l = 0) : Asc (joinV l) := by rw [jV h]; exact (jF (joinR_ok h)).asc
theorem big_of {l m : List LegV} (hs : ∀ a, sumA a l = sumA a m) : Big l → Big m := by
 rintro ⟨y, hy, h⟩
 have hn : sumA y.ac m ≠ 0 := fun e => by rw [hs, e] at h; cases h
 obtain ⟨z, hz, e⟩ := sumA_mem hn
 exact ⟨z, hz, by rw [e, ← hs]; exact h⟩
theorem same_join {l m : List LegV} (hl : l.all legOk = true) (hm : m.all legOk = true) (hs : ∀ a, sumA a l = sumA a m) : joinR l = joinR m ∧ joinV l = joinV m := by
 rcases jR hl with ⟨e, hb⟩ | ⟨e, hb⟩
 ·rcases jR hm with ⟨e2, hb2⟩ | ⟨e2, hb2⟩
  ·refine ⟨by rw [e, e2], asc_eq (jA l e) (jA m e2) fun x => ?_⟩
   rw [jM e, jM e2, hs]
  ·exact absurd (big_of (fun a => (hs a).symm) hb2) hb
 ·rcases jR hm with ⟨e2, hb2⟩ | ⟨e2, hb2⟩
  ·exact absurd (big_of hs hb) hb2
  ·refine ⟨by rw [e, e2], ?_⟩
   simp only [joinV, e, e2]; rfl
theorem asc_sum : ∀ {j : List LegV}, Asc j → ∀ y ∈ j, sumA y.ac j = y.amt
 | [], _, y, hy => by cases hy
 | x :: j, h, y, hy => by
  have h' := List.pairwise_cons.1 h
  rcases List.mem_cons.1 hy with rfl | hy
  ·simp only [sumA, acSame_refl, cond_true]
   rw [sumA_none fun b hb => ?_]; · omega
   cases hc : acSame b.ac y.ac with
   | false => rfl
   | true => have := h'.1 b hb; rw [acSame_iff.1 hc, acLt_irr] at this; cases this
  ·have hn : acSame x.ac y.ac = false := by
    cases hc : acSame x.ac y.ac with
    | false => rfl
    | true => have := h'.1 y hy; rw [acSame_iff.1 hc, acLt_irr] at this; cases this
   simp only [sumA, hn, cond_false, asc_sum h'.2 y hy]; omega
def sumC (c : Int) (l : List LegV) : Int := (amts (curL c l)).sum
theorem chkC_iff {l : List LegV} (h : l.all legOk = true) (c : Int) : chkC c l = false ↔ sumC c l = 0 := by
 have h1 : (amts (curL c l)).all rightN = true := amts_rt fun y hy => ok_rt h y (List.mem_filter.1 hy).1
 have he := sumE_rt h1
 cases hc : rightN (amts (curL c l)).sum with
 | true =>
  have hv := sumE_ok h1 hc
  simp [chkC, hv.1, hv.2, sumC]
 | false =>
  rw [hc] at he
  simp only [chkC, he, sumC]
  constructor
  ·intro h; cases h
  ·intro h; rw [h] at hc; cases hc
end Go.Proofs.YtjkfadaedgidpaaGreat
namespace Go.Proofs.YtjkfadaedgidpaaGreat
open Go.RowKit
set_option linter.unusedVariables false
set_option linter.unusedSimpArgs false
def oneA (k w c : Nat) : List AcV := bif acOk ⟨k, w, c⟩ then [⟨k, w, c⟩] else []
def cL (k w c : Nat) : List AcV := (List.range c).flatMap fun c => oneA k w c
def wL (k w : Nat) : List AcV := (List.range w).flatMap fun w => cL k w 3
def kL (k : Nat) : List AcV := (List.range k).flatMap fun j => wL (j + 1) 17
def allAc : List AcV := kL 6
theorem cL_succ (k w c : Nat) : cL k w (c + 1) = cL k w c ++ oneA k w c := by simp [cL, List.range_succ]
theorem wL_succ (k w : Nat) : wL k (w + 1) = wL k w ++ cL k w 3 := by simp [wL, List.range_succ]
theorem kL_succ (k : Nat) : kL (k + 1) = kL k ++ wL (k + 1) 17 := by simp [kL, List.range_succ]
theorem oneA_len (k w c : Nat) : (oneA k w c).length ≤ 1 := by simp only [oneA]; cases acOk ⟨k, w, c⟩ <;> simp
theorem cL_len (k w : Nat) : ∀ c, (cL k w c).length ≤ c
 | 0 => by simp [cL]
 | c + 1 => by rw [cL_succ, List.length_append]; have := cL_len k w c; have := oneA_len k w c; omega
theorem wL_len (k : Nat) : ∀ w, (wL k w).length ≤ 3 * w
 | 0 => by simp [wL]
 | w + 1 => by rw [wL_succ, List.length_append]; have := wL_len k w; have := cL_len k w 3; omega
theorem kL_len : ∀ k, (kL k).length ≤ 51 * k
 | 0 => by simp [kL]
 | k + 1 => by rw [kL_succ, List.length_append]; have := kL_len k; have := wL_len (k + 1) 17; omega
theorem oneA_mem {k w c : Nat} {a : AcV} (h : a ∈ oneA k w c) : a = ⟨k, w, c⟩ ∧ acOk a = true := by
 simp only [oneA] at h
 cases hc : acOk ⟨k, w, c⟩ with
 | true => rw [hc] at h; simp at h; exact ⟨h, by rw [h]; exact hc⟩
 | false => rw [hc] at h; simp at h
theorem allAc_mem {a : AcV} (h : acOk a = true) : a ∈ allAc := by
 have hb : acBad a = false := by
  cases hc : acBad a with
  | false => rfl
  | true => simp only [acOk, hc] at h; cases h
 have h1 : 1 ≤ a.kind ∧ a.kind ≤ 6 ∧ 0 ≤ a.cur ∧ a.cur < 3 := by
  simp only [acBad] at hb
  by_cases k1 : a.kind < 1
  ·simp [k1] at hb
  ·by_cases k2 : a.kind > 6
   ·simp [k1, k2] at hb
   ·by_cases k3 : a.cur < 0
    ·simp [k1, k2, k3] at hb
    ·by_cases k4 : a.cur ≥ 3
     ·simp [k1, k2, k3, k4] at hb
     ·omega
 have h2 : 0 ≤ a.who ∧ a.who ≤ 16 := by
  simp only [acOk, hb, cond_false] at h
  cases ho : acOwn a.kind with
  | true =>
   rw [ho] at h
   by_cases k1 : a.who ≥ 1
   ·by_cases k2 : a.who ≤ 16
    ·omega
    ·simp [k1, k2] at h
   ·simp [k1] at h
  | false => rw [ho] at h; simp at h; omega
 obtain ⟨kd, wh, cr⟩ := a
 simp only at h1 h2
 obtain ⟨k, rfl⟩ := Int.eq_ofNat_of_zero_le (show 0 ≤ kd by omega)
 obtain ⟨w, rfl⟩ := Int.eq_ofNat_of_zero_le (show 0 ≤ wh by omega)
 obtain ⟨c, rfl⟩ := Int.eq_ofNat_of_zero_le (show 0 ≤ cr by omega)
 simp only [allAc, kL, wL, cL, List.mem_flatMap, List.mem_range]
 refine ⟨k - 1, by omega, w, by omega, c, by omega, ?_⟩
 rw [show k - 1 + 1 = k by omega, oneA]
 rw [show acOk ⟨(k : Int), (w : Int), (c : Int)⟩ = true from h]; simp
def AscA (S : List AcV) : Prop := S.Pairwise fun a b => acLt a b = true
theorem cL_in {k w c : Nat} {a : AcV} (h : a ∈ cL k w c) : a.kind = k ∧ a.who = w ∧ 0 ≤ a.cur ∧ a.cur < c := by
 simp only [cL, List.mem_flatMap, List.mem_range] at h
 obtain ⟨c', hc, h⟩ := h
 rw [(oneA_mem h).1]; simp; omega
theorem wL_in {k w : Nat} {a : AcV} (h : a ∈ wL k w) : a.kind = k ∧ 0 ≤ a.who ∧ a.who < w := by
 simp only [wL, List.mem_flatMap, List.mem_range] at h
 obtain ⟨w', hw, h⟩ := h
 have := cL_in h
 exact ⟨this.1, by omega, by omega⟩
theorem kL_in {k : Nat} {a : AcV} (h : a ∈ kL k) : a.kind ≤ k := by
 simp only [kL, List.mem_flatMap, List.mem_range] at h
 obtain ⟨j, hj, h⟩ := h
 have := wL_in h
 omega
theorem cL_asc (k w : Nat) : ∀ c, AscA (cL k w c)
 | 0 => by simp [cL, AscA]
 | c + 1 => by
  rw [cL_succ]
  refine List.pairwise_append.2 ⟨cL_asc k w c, ?_, fun a ha b hb => ?_⟩
  ·simp only [oneA]; cases acOk ⟨k, w, c⟩ <;> simp
  ·have h1 := cL_in ha
   rw [(oneA_mem hb).1, acLt_iff]; simp; omega
theorem wL_asc (k : Nat) : ∀ w, AscA (wL k w)
 | 0 => by simp [wL, AscA]
 | w + 1 => by
  rw [wL_succ]
  refine List.pairwise_append.2 ⟨wL_asc k w, cL_asc k w 3, fun a ha b hb => ?_⟩
  have h1 := wL_in ha
  have h2 := cL_in hb
  rw [acLt_iff]; omega
theorem kL_asc : ∀ k, AscA (kL k)
 | 0 => by simp [kL, AscA]
 | k + 1 => by
  rw [kL_succ]
  refine List.pairwise_append.2 ⟨kL_asc k, wL_asc (k + 1) 17, fun a ha b hb => ?_⟩
  have h1 := kL_in ha
  have h2 := wL_in hb
  rw [acLt_iff]; omega
def rOne (l : List LegV) (a : AcV) : List LegV := bif sumA a l != 0 then [⟨a, sumA a l⟩] else []
def rOut (l : List LegV) (A : List AcV) : List LegV := A.flatMap (rOne l)
theorem rOut_snoc (l : List LegV) (A : List AcV) (a : AcV) : rOut l (A ++ [a]) = rOut l A ++ rOne l a := by simp [rOut]
theorem rOut_len (l : List LegV) (A : List AcV) : (rOut l A).length ≤ A.length := by
 induction A with
 | nil => simp [rOut]
 | cons a A ih =>
  simp only [rOut, List.flatMap_cons, List.length_append, List.length_cons] at ih ⊢
  have : (rOne l a).length ≤ 1 := by simp only [rOne]; cases (sumA a l != 0) <;> simp
  omega
theorem rOne_mem {l : List LegV} {a : AcV} {y : LegV} : y ∈ rOne l a ↔ (y.ac = a ∧ y.amt = sumA a l ∧ y.amt ≠ 0) := by
 simp only [rOne]
 cases hc : (sumA a l != 0) with
 | true =>
  have hc : sumA a l ≠ 0 := by simpa using hc
  simp only [cond_true, List.mem_singleton]
  constructor
  ·rintro rfl; exact ⟨rfl, rfl, hc⟩
  ·rintro ⟨h1, h2, _⟩; cases y; simp at h1 h2 ⊢; exact ⟨h1, h2⟩
 | false =>
  have hc : sumA a l = 0 := by simpa using hc
  simp only [cond_false, List.not_mem_nil, false_iff]
  rintro ⟨_, h2, h3⟩; rw [hc] at h2; exact h3 h2
theorem rOut_asc {l : List LegV} : ∀ {A : List AcV}, AscA A → Asc (rOut l A)
 | [], _ => by simp [rOut, Asc]
 | a :: A, h => by
  have h' := List.pairwise_cons.1 h
  simp only [rOut, List.flatMap_cons]
  refine List.pairwise_append.2 ⟨?_, rOut_asc h'.2, fun x hx y hy => ?_⟩
  ·simp only [rOne]; cases (sumA a l != 0) <;> simp
  ·obtain ⟨b, hb, hy⟩ := List.mem_flatMap.1 hy
   rw [(rOne_mem.1 hx).1, (rOne_mem.1 hy).1]
   exact h'.1 b hb
theorem big_all {l : List LegV} (h : l.all legOk = true) : Big l ↔ ∃ a ∈ allAc, rightN (sumA a l) = false := by
 constructor
 ·rintro ⟨y, hy, hb⟩
  have hk := List.all_eq_true.1 h y hy
  simp only [legOk, Bool.and_eq_true] at hk
  exact ⟨y.ac, allAc_mem hk.1, hb⟩
 ·rintro ⟨a, _, hb⟩
  have hn : sumA a l ≠ 0 := fun e => by rw [e] at hb; cases hb
  obtain ⟨z, hz, e⟩ := sumA_mem hn
  exact ⟨z, hz, by rw [e]; exact hb⟩
theorem rOut_join {l : List LegV} (h : joinR l = 0) : rOut l allAc = joinV l := by
 refine asc_eq (rOut_asc (kL_asc 6)) (jA l h) fun y => ?_
 rw [jM h, rOut, List.mem_flatMap]
 constructor
 ·rintro ⟨a, ha, hy⟩
  have := rOne_mem.1 hy
  rw [this.1]; exact ⟨this.2.1, this.2.2⟩
 ·rintro ⟨h1, h2⟩
  have hn : sumA y.ac l ≠ 0 := by rw [← h1]; exact h2
  obtain ⟨z, hz, e⟩ := sumA_mem hn
  have hk := List.all_eq_true.1 (joinR_ok h) z hz
  simp only [legOk, Bool.and_eq_true] at hk
  exact ⟨y.ac, allAc_mem (by rw [← e]; exact hk.1), rOne_mem.2 ⟨rfl, h1, h2⟩⟩
theorem ref_bad {l : List LegV} {a : AcV} (h : l.all legOk = true) (ha : a ∈ allAc) (hb : rightN (sumA a l) = false) : joinR l = 1 ∧ joinV l = [] := by
 rcases jR h with ⟨_, hn⟩ | ⟨e, _⟩
 ·exact absurd ((big_all h).2 ⟨a, ha, hb⟩) hn
 ·exact ⟨e, by simp only [joinV, e]; rfl⟩
theorem ref_good {l : List LegV} (h : l.all legOk = true) (ha : ∀ a ∈ allAc, rightN (sumA a l) = true) : joinR l = 0 ∧ joinV l = rOut l allAc := by
 rcases jR h with ⟨e, _⟩ | ⟨_, hn⟩
 ·exact ⟨e, (rOut_join e).symm⟩
 ·obtain ⟨a, h1, h2⟩ := (big_all h).1 hn
  rw [ha a h1] at h2; cases h2
def amtA (a : AcV) (l : List LegV) : List Int := amts (l.filter fun x => acSame x.ac a)
theorem amtA_sum (a : AcV) : ∀ l : List LegV, (amtA a l).sum = sumA a l
 | [] => rfl
 | x :: l => by
  have ih := amtA_sum a l
  simp only [amtA, List.filter_cons] at ih ⊢
  simp only [sumA]
  cases hc : acSame x.ac a <;> simp [amts] at ih ⊢ <;> omega
theorem rt_bound {l : List Int} (h : l.all rightN = true) : ∀ x ∈ l, -9223372036854775808 ≤ x ∧ x < 9223372036854775808 := fun x hx => by
 have := List.all_eq_true.1 h x hx
 simp [rightN] at this; omega
end Go.Proofs.YtjkfadaedgidpaaGreat
