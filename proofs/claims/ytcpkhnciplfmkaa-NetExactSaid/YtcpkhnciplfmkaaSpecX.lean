/- Legs of a posting: which may stand, what they are joined. In plain Lean. No condition. -/
import Derived.Test.YtcpkhnciplfmkaaSort
import Derived.Test.YtcpkhnciplfmkaaSpecA
import Derived.Test.YtcpkhnciplfmkaaSpecR
namespace Go.Proofs.Ytcpkhnciplfmkaa
open Go.RowKit
set_option linter.unusedVariables false
set_option linter.unusedSimpArgs false
structure AcV where
  kind : Int
  who : Int
  cur : Int
structure LegV where
  ac : AcV
  amt : Int
def acC (a : AcV) : List D := [iv a.kind, iv a.who, iv a.cur]
def legC (l : LegV) : List D := [iv l.ac.kind, iv l.ac.who, iv l.ac.cur, iv l.amt]
def legs (l : List LegV) : D := .sl 4 (l.map legC)
def acSame (a b : AcV) : Bool := a.kind == b.kind && a.who == b.who && a.cur == b.cur
theorem acSame_iff {a b : AcV} : acSame a b = true ↔ a = b := by
  cases a; cases b; simp [acSame, and_assoc]
def acLt (a b : AcV) : Bool := bif a.kind != b.kind then decide (a.kind < b.kind) else bif a.who != b.who then decide (a.who < b.who) else decide (a.cur < b.cur)
theorem acLt_iff {a b : AcV} : acLt a b = true ↔ a.kind < b.kind ∨ (a.kind = b.kind ∧ (a.who < b.who ∨ (a.who = b.who ∧ a.cur < b.cur))) := by
  simp only [acLt]
  by_cases h1 : a.kind = b.kind
  · by_cases h2 : a.who = b.who
    · simp [h1, h2]
    · simp [h1, h2]
  · simp [h1]
theorem acLt_swo : Swo (fun a b : LegV => acLt a.ac b.ac) where
  asym a b h := by
    have h := acLt_iff.1 h
    cases h2 : acLt b.ac a.ac with
    | false => rfl
    | true => have h2 := acLt_iff.1 h2; omega
  tr a b c h1 h2 := by
    cases h3 : acLt c.ac a.ac with
    | false => rfl
    | true =>
      exfalso
      have h3 := acLt_iff.1 h3
      have h1 : ¬ _ := fun h => by rw [acLt_iff.2 h] at h1; cases h1
      have h2 : ¬ _ := fun h => by rw [acLt_iff.2 h] at h2; cases h2
      omega
theorem acLt_eq {a b : AcV} (h1 : acLt a b = false) (h2 : acLt b a = false) : a = b := by
  have h1 : ¬ _ := fun h => by rw [acLt_iff.2 h] at h1; cases h1
  have h2 : ¬ _ := fun h => by rw [acLt_iff.2 h] at h2; cases h2
  cases a; cases b
  simp only [AcV.mk.injEq] at h1 h2 ⊢
  omega
def legSort (l : List LegV) : List LegV := isort (fun a b : LegV => acLt a.ac b.ac) l
/- The sort at cells. -/
def legCmp (a b : LegV) : Int := bif acLt a.ac b.ac then -1 else bif acLt b.ac a.ac then 1 else 0
def legD : List D → LegV
  | [.v (.int _ a), .v (.int _ b), .v (.int _ c), .v (.int _ d)] => ⟨⟨a, b, c⟩, d⟩
  | _ => ⟨⟨0, 0, 0⟩, 0⟩
def isLeg (x : List D) : Prop := ∃ b, x = legC b
theorem okM_legs (l : List LegV) : okM isLeg (l.map legC) := fun e he => by
  obtain ⟨b, _, rfl⟩ := List.mem_map.1 he
  exact ⟨b, rfl⟩
def legCmpD (x y : List D) : Int := legCmp (legD x) (legD y)
theorem legCmp_lt (a b : LegV) : decide (legCmp a b < 0) = acLt a.ac b.ac := by
  cases h1 : acLt a.ac b.ac <;> cases h2 : acLt b.ac a.ac <;> simp [legCmp, h1, h2]
theorem legCmpD_lt (x y : List D) : ltc legCmpD x y = acLt (legD x).ac (legD y).ac := legCmp_lt _ _
theorem legCmp_swo : Swo (ltc legCmpD) where
  asym a b h := by rw [legCmpD_lt] at h ⊢; exact acLt_swo.asym (legD a) (legD b) h
  tr a b c h1 h2 := by rw [legCmpD_lt] at h1 h2 ⊢; exact acLt_swo.tr (legD a) (legD b) (legD c) h1 h2
theorem isort_mapL {α β : Type} (f : α → β) {lt : α → α → Bool} {lt' : β → β → Bool} (h : ∀ a b, lt' (f a) (f b) = lt a b) (l : List α) : isort lt' (l.map f) = (isort lt l).map f := by
  have ins : ∀ (x : α) (l : List α), insX lt' (f x) (l.map f) = (insX lt x l).map f := by
    intro x l
    induction l with
    | nil => rfl
    | cons y l ih =>
      simp only [List.map_cons, insX, h]
      cases lt x y with
      | true => rfl
      | false => simp [ih]
  have aux : ∀ (l acc : List α), isortA lt' (acc.map f) (l.map f) = (isortA lt acc l).map f := by
    intro l
    induction l with
    | nil => intro acc; rfl
    | cons x l ih => intro acc; simp only [List.map_cons, isortA, ins, ih]
  exact aux l []
theorem sort_legs (l : List LegV) : isort (ltc legCmpD) (l.map legC) = (legSort l).map legC := isort_mapL legC (fun a b => legCmp_lt a b) l
theorem legSort_len (l : List LegV) : (legSort l).length = l.length := isort_len l
theorem legSort_mem {l : List LegV} {x : LegV} : x ∈ legSort l ↔ x ∈ l := by
  have aux : ∀ (l acc : List LegV), x ∈ isortA (fun a b : LegV => acLt a.ac b.ac) acc l ↔ x ∈ acc ∨ x ∈ l := by
    intro l
    induction l with
    | nil => intro acc; simp [isortA]
    | cons y l ih =>
      intro acc
      simp only [isortA, ih, insX_mem, List.mem_cons]
      constructor
      · rintro ((h | h) | h)
        · exact .inr (.inl h)
        · exact .inl h
        · exact .inr (.inr h)
      · rintro (h | h | h)
        · exact .inl (.inr h)
        · exact .inl (.inl h)
        · exact .inr h
  rw [legSort, isort, aux]; simp

/- Runs of one account. -/
def amts (l : List LegV) : List Int := l.map LegV.amt
def joinE : List LegV → Int
  | [] => 0
  | x :: xs => bif sumE (amts ((x :: xs).takeWhile fun y => acSame y.ac x.ac)) != 0 then sumE (amts ((x :: xs).takeWhile fun y => acSame y.ac x.ac)) else joinE (xs.dropWhile fun y => acSame y.ac x.ac)
termination_by l => l.length
decreasing_by
  have := (List.dropWhile_sublist (fun y : LegV => acSame y.ac x.ac) (l := xs)).length_le
  simp only [List.length_cons]; omega
def joinO : List LegV → List LegV
  | [] => []
  | x :: xs => (bif sumV (amts ((x :: xs).takeWhile fun y => acSame y.ac x.ac)) != 0 then [(⟨x.ac, sumV (amts ((x :: xs).takeWhile fun y => acSame y.ac x.ac))⟩ : LegV)] else []) ++ joinO (xs.dropWhile fun y => acSame y.ac x.ac)
termination_by l => l.length
decreasing_by
  have := (List.dropWhile_sublist (fun y : LegV => acSame y.ac x.ac) (l := xs)).length_le
  simp only [List.length_cons]; omega
theorem tw_app {p : LegV → Bool} : ∀ {A B : List LegV}, (∀ a ∈ A, p a = true) → (B = [] ∨ ∃ b t, B = b :: t ∧ p b = false) → (A ++ B).takeWhile p = A ∧ (A ++ B).dropWhile p = B
  | [], B, _, h => by
    rcases h with rfl | ⟨b, t, rfl, hb⟩
    · simp
    · simp [List.takeWhile, List.dropWhile, hb]
  | a :: A, B, hA, h => by
    have ih := tw_app (A := A) (fun a ha => hA a (List.mem_cons_of_mem _ ha)) h
    simp [List.takeWhile, List.dropWhile, hA a (by simp), ih]
theorem acSame_refl (a : AcV) : acSame a a = true := acSame_iff.2 rfl
theorem join_step {x : LegV} {A B : List LegV} (hA : ∀ a ∈ A, acSame a.ac x.ac = true) (hB : B = [] ∨ ∃ b t, B = b :: t ∧ acSame b.ac x.ac = false) :
    joinE (x :: (A ++ B)) = (bif sumE (amts (x :: A)) != 0 then sumE (amts (x :: A)) else joinE B) ∧
    joinO (x :: (A ++ B)) = (bif sumV (amts (x :: A)) != 0 then [(⟨x.ac, sumV (amts (x :: A))⟩ : LegV)] else []) ++ joinO B := by
  have h := tw_app (p := fun y => acSame y.ac x.ac) hA hB
  have h2 : (x :: (A ++ B)).takeWhile (fun y => acSame y.ac x.ac) = x :: A := by simp [List.takeWhile, acSame_refl, h.1]
  constructor
  · rw [joinE, h2, h.2]
  · rw [joinO, h2, h.2]
def acBad (a : AcV) : Bool := bif (bif (bif decide (a.kind < 1) then true else decide (a.kind > 6)) then true else decide (a.cur < 0)) then true else decide (a.cur ≥ 3)
def acOwn (k : Int) : Bool := bif k == 2 then true else k == 3
def acOk (a : AcV) : Bool := bif acBad a then false else bif acOwn a.kind then (bif decide (a.who ≥ 1) then decide (a.who ≤ 16) else false) else a.who == 0
theorem acBad_ref (a : AcV) : acBad a = (bif (bif (bif decide (a.cur < 0) then true else decide (a.cur ≥ 3)) then true else decide (a.kind < 1)) then true else decide (a.kind > 6)) := by
  simp only [acBad]
  cases decide (a.kind < 1) <;> cases decide (a.kind > 6) <;> cases decide (a.cur < 0) <;> cases decide (a.cur ≥ 3) <;> rfl
def legOk (l : LegV) : Bool := acOk l.ac && rightN l.amt
def joinR (l : List LegV) : Int := bif l.all legOk then joinE (legSort l) else 3
def joinV (l : List LegV) : List LegV := bif joinR l == 0 then joinO (legSort l) else []
theorem joinO_len : ∀ (l : List LegV), (joinO l).length ≤ l.length := by
  intro l
  induction l using joinO.induct with
  | case1 => simp [joinO]
  | case2 x xs ih =>
    rw [joinO, List.length_append]
    have := (List.dropWhile_sublist (fun y : LegV => acSame y.ac x.ac) (l := xs)).length_le
    simp only [List.length_cons]
    cases (sumV (amts ((x :: xs).takeWhile fun y => acSame y.ac x.ac)) != 0) <;> simp <;> omega
def turnL (l : LegV) : LegV := ⟨l.ac, 0 - (bif rightN l.amt then l.amt else 0)⟩
def spoilL (l : LegV) : LegV := ⟨⟨l.ac.kind, -77, l.ac.cur⟩, l.amt⟩
def moveL (a b : AcV) (n : Int) : List LegV := [⟨a, 0 - (bif rightN n then n else 0)⟩, ⟨b, bif rightN n then n else 0⟩]
end Go.Proofs.Ytcpkhnciplfmkaa
