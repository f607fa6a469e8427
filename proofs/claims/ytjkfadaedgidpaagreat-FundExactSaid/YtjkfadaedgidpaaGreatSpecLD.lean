/- Ledgers: right ones, what is posted. In plain Lean. No condition. -/
import Derived.Test.YtjkfadaedgidpaaGreatSpecE
namespace Go.Proofs.YtjkfadaedgidpaaGreat
open Go.RowKit
set_option linter.unusedVariables false
set_option linter.unusedSimpArgs false
structure LedV where
 last : Int
 bal : List LegV
def ledC (l : LedV) : List D := [iv l.last, legs l.bal]
def flo (a : AcV) : Int := bif acOk a && (a.kind == 3 || a.kind == 4) then 0 else -4611686018427387904
def lxLt (x y : LegV) : Bool := acLt x.ac y.ac
def balBad (x : LegV) : Bool := !acOk x.ac || !([x.amt].all rightN) || x.amt == 0 || decide (x.amt < flo x.ac)
def balOk (x : LegV) : Bool := !balBad x
def chkR {α : Type} (ok : α → Bool) (lt : α → α → Bool) : Option α → List α → Bool
 | _, [] => true
 | p, x :: xs => ok x && (match p with | none => true | some y => lt y x) && chkR ok lt (some x) xs
theorem chkR_step {α : Type} (ok : α → Bool) (lt : α → α → Bool) (pre post : List α) (x : α) :
  chkR ok lt pre.getLast? (x :: post) = ((!(!ok x || (decide ((pre.length : Int) > 0) && !lt (lastOr x pre) x))) && chkR ok lt (pre ++ [x]).getLast? post) := by
 rcases List.eq_nil_or_concat pre with rfl | ⟨q, y, rfl⟩
 ·simp [chkR]
 ·simp [chkR, lastOr]
theorem chkR_iff {α : Type} {ok : α → Bool} {lt : α → α → Bool} (tr : ∀ x y z, lt x y = true → lt y z = true → lt x z = true) : ∀ {l : List α} {p : Option α},
  chkR ok lt p l = true ↔ ((∀ x ∈ l, ok x = true) ∧ (∀ y, p = some y → ∀ x ∈ l, lt y x = true) ∧ l.Pairwise fun x y => lt x y = true)
 | [], p => by simp [chkR]
 | x :: l, p => by
  simp only [chkR, Bool.and_eq_true, chkR_iff tr (l := l)]
  constructor
  ·rintro ⟨⟨h1, h2⟩, h3, h4, h5⟩
   refine ⟨fun z hz => ?_, fun y hy z hz => ?_, List.pairwise_cons.2 ⟨h4 x rfl, h5⟩⟩
   ·rcases List.mem_cons.1 hz with rfl | hz
    ·exact h1
    ·exact h3 z hz
   ·subst hy
    rcases List.mem_cons.1 hz with rfl | hz
    ·exact h2
    ·exact tr _ _ _ h2 (h4 x rfl z hz)
  ·rintro ⟨h1, h2, h3⟩
   have h3' := List.pairwise_cons.1 h3
   refine ⟨⟨h1 x (by simp), ?_⟩, fun z hz => h1 z (List.mem_cons_of_mem _ hz), fun y hy => ?_, h3'.2⟩
   ·cases p with
    | none => rfl
    | some y => exact h2 y rfl x (by simp)
   ·cases hy; exact h3'.1
def sumsL (c : Int) (g : Int → Bool) (l : List LegV) : List Int := amts (l.filter fun x => x.ac.cur == c && g x.ac.kind)
theorem sumsL_yes {x : LegV} {c : Int} {g : Int → Bool} (h : (x.ac.cur == c && g x.ac.kind) = true) (pre : List LegV) : sumsL c g (pre ++ [x]) = sumsL c g pre ++ [x.amt] := by
 simp only [sumsL, List.filter_append, List.filter_cons, h, List.filter_nil, amts, List.map_append]; rfl
theorem sumsL_no {x : LegV} {c : Int} {g : Int → Bool} (h : (x.ac.cur == c && g x.ac.kind) = false) (pre : List LegV) : sumsL c g (pre ++ [x]) = sumsL c g pre := by
 simp only [sumsL, List.filter_append, List.filter_cons, h, List.filter_nil, amts, List.map_append]; simp
theorem sumsL_len (c : Int) (g : Int → Bool) (l : List LegV) : (sumsL c g l).length ≤ l.length := by simp only [sumsL, amts, List.length_map]; exact List.length_filter_le _ _
theorem sumsL_all (c : Int) (l : List LegV) : sumsL c (fun _ => true) l = amts (curL c l) := by simp [sumsL, curL]
theorem sumsL_rt {l : List LegV} (h : l.all legOk = true) (c : Int) (g : Int → Bool) : (sumsL c g l).all rightN = true := amts_rt fun y hy => ok_rt h y (List.mem_filter.1 hy).1
def curBad (c : Int) (l : List LegV) : Bool := sumE (sumsL c (fun _ => true) l) != 0 || sumV (sumsL c (fun _ => true) l) != 0
def ledOk (l : LedV) : Bool := !decide (l.last < 0) && chkR balOk lxLt none l.bal && !(curBad 0 l.bal || curBad 1 l.bal || curBad 2 l.bal)
def ledE (l : LedV) : Int := bif ledOk l then 0 else 14
def ofL (a : AcV) : List LegV → Int
 | [] => 0
 | x :: t => bif acSame x.ac a then x.amt else ofL a t
def low (l : List LegV) : Bool := l.any fun x => decide (x.amt < flo x.ac)
def idBad (id : Int) : Bool := decide (id < 1) || decide (id > 1099511627776)
def postE (l : LedV) (id : Int) (g : List LegV) : Int :=
 bif !ledOk l then 14 else bif idBad id then 3 else bif decide (id ≤ l.last) then 18 else
 bif chkE g != 0 then chkE g else bif joinR (g ++ l.bal) != 0 then joinR (g ++ l.bal) else bif low (joinV (g ++ l.bal)) then 13 else 0
def postV (l : LedV) (id : Int) (g : List LegV) : LedV := bif postE l id g == 0 then ⟨id, joinV (g ++ l.bal)⟩ else ⟨0, []⟩
def totE (l : LedV) (c : Int) (ks : List Int) : Int := bif ledOk l then sumE (sumsL c (fun k => ks.contains k) l.bal) else 14
def totV (l : LedV) (c : Int) (ks : List Int) : Int := bif ledOk l then sumV (sumsL c (fun k => ks.contains k) l.bal) else 0
structure Good (l : LedV) : Prop where
 last : 0 ≤ l.last
 ok : l.bal.all legOk = true
 nz : ∀ y ∈ l.bal, y.amt ≠ 0
 fl : ∀ y ∈ l.bal, flo y.ac ≤ y.amt
 asc : Asc l.bal
 cur : sumC 0 l.bal = 0 ∧ sumC 1 l.bal = 0 ∧ sumC 2 l.bal = 0
theorem balOk_iff (x : LegV) : balOk x = true ↔ (legOk x = true ∧ x.amt ≠ 0 ∧ flo x.ac ≤ x.amt) := by
 simp only [balOk, balBad, legOk, List.all_cons, List.all_nil, Bool.and_true]
 cases acOk x.ac <;> cases rightN x.amt <;> simp
theorem lxLt_tr (x y z : LegV) (h1 : lxLt x y = true) (h2 : lxLt y z = true) : lxLt x z = true := by
 have h1 := acLt_iff.1 h1
 have h2 := acLt_iff.1 h2
 exact acLt_iff.2 (by omega)
theorem curBad_iff {l : List LegV} (h : l.all legOk = true) (c : Int) : curBad c l = false ↔ sumC c l = 0 := by
 rw [← chkC_iff h]
 simp only [curBad, sumsL_all, chkC]
 cases (sumE (amts (curL c l)) != 0) <;> simp
theorem ledOk_iff (l : LedV) : ledOk l = true ↔ Good l := by
 simp only [ledOk, Bool.and_eq_true, Bool.not_eq_true', Bool.or_eq_false_iff, decide_eq_false_iff_not]
 rw [chkR_iff lxLt_tr]
 constructor
 ·rintro ⟨⟨h1, h2, _, h3⟩, ⟨h4, h5⟩, h6⟩
  have ha : l.bal.all legOk = true := List.all_eq_true.2 fun y hy => ((balOk_iff y).1 (h2 y hy)).1
  exact ⟨by omega, ha, fun y hy => ((balOk_iff y).1 (h2 y hy)).2.1, fun y hy => ((balOk_iff y).1 (h2 y hy)).2.2, h3, (curBad_iff ha 0).1 h4, (curBad_iff ha 1).1 h5, (curBad_iff ha 2).1 h6⟩
 ·rintro ⟨h1, h2, h3, h4, h5, h6, h7, h8⟩
  exact ⟨⟨by omega, fun y hy => (balOk_iff y).2 ⟨List.all_eq_true.1 h2 y hy, h3 y hy, h4 y hy⟩, fun y hy => (by cases hy), h5⟩, ⟨(curBad_iff h2 0).2 h6, (curBad_iff h2 1).2 h7⟩, (curBad_iff h2 2).2 h8⟩
theorem ledE_iff (l : LedV) : ledE l = 0 ↔ Good l := by
 rw [← ledOk_iff]; simp only [ledE]; cases ledOk l <;> simp
theorem ofL_sum {a : AcV} : ∀ {l : List LegV}, Asc l → ofL a l = sumA a l
 | [], _ => rfl
 | x :: l, h => by
  have h' := List.pairwise_cons.1 h
  simp only [ofL, sumA]
  cases hc : acSame x.ac a with
  | true =>
   rw [cond_true, cond_true, sumA_none fun b hb => ?_]; · omega
   cases hc2 : acSame b.ac a with
   | false => rfl
   | true => have := h'.1 b hb; rw [acSame_iff.1 hc2, acSame_iff.1 hc, acLt_irr] at this; cases this
  | false => rw [cond_false, cond_false, ofL_sum h'.2]; omega
end Go.Proofs.YtjkfadaedgidpaaGreat
namespace Go.Proofs.YtjkfadaedgidpaaGreat
open Go.RowKit
set_option linter.unusedVariables false
set_option linter.unusedSimpArgs false
theorem flo_neg (a : AcV) : -4611686018427387904 ≤ flo a ∧ flo a ≤ 0 := by
 simp only [flo]
 cases acOk a && (a.kind == 3 || a.kind == 4) <;> simp
theorem good_rt {l : LedV} (h : Good l) (a : AcV) : rightN (sumA a l.bal) = true := by
 by_cases h0 : sumA a l.bal = 0
 ·rw [h0]; rfl
 ·obtain ⟨z, hz, e⟩ := sumA_mem h0
  rw [← e, asc_sum h.asc z hz]
  exact ok_rt h.ok z hz
theorem good_fl {l : LedV} (h : Good l) (a : AcV) : flo a ≤ sumA a l.bal := by
 by_cases h0 : sumA a l.bal = 0
 ·rw [h0]; exact (flo_neg a).2
 ·obtain ⟨z, hz, e⟩ := sumA_mem h0
  have := h.fl z hz
  rw [← e, asc_sum h.asc z hz]; exact this
def bankOf (a : AcV) : AcV := ⟨1, 0, a.cur⟩
def kSum (c : Int) (g : Int → Bool) (l : List LegV) : Int := (sumsL c g l).sum
theorem kSum_cons (c : Int) (g : Int → Bool) (x : LegV) (l : List LegV) : kSum c g (x :: l) = (bif x.ac.cur == c && g x.ac.kind then x.amt else 0) + kSum c g l := by
 simp only [kSum, sumsL, List.filter_cons]
 cases (x.ac.cur == c && g x.ac.kind) <;> simp [amts]
theorem kSum_same (c : Int) {g h : Int → Bool} : ∀ {l : List LegV}, (∀ y ∈ l, g y.ac.kind = h y.ac.kind) → kSum c g l = kSum c h l
 | [], _ => rfl
 | x :: l, e => by rw [kSum_cons, kSum_cons, e x (by simp), kSum_same c fun y hy => e y (List.mem_cons_of_mem _ hy)]
def kIn (k : Int) : Bool := !(decide (k < 1) || decide (k > 6))
def skipK (pre : List Int) (k : Int) : Bool := (bif !kIn k then true else pre.contains k)
def seenL (pre : List Int) : List Bool := [false, pre.contains 1, pre.contains 2, pre.contains 3, pre.contains 4, pre.contains 5, pre.contains 6]
def cntL (pre : List Int) : Nat := (seenL pre).countP id
end Go.Proofs.YtjkfadaedgidpaaGreat
namespace Go.Proofs.YtjkfadaedgidpaaGreat
open Go.RowKit
set_option linter.unusedVariables false
set_option linter.unusedSimpArgs false
structure PstV where
 id : Int
 legs : List LegV
def pstC (p : PstV) : List D := [iv p.id, legs p.legs]
def psts (l : List PstV) : D := .sl 2 (l.map pstC)
def long (p : PstV) : Bool := decide ((p.legs.length : Int) > 200)
def heavyP (l : List PstV) : Bool := decide ((l.length : Int) > 200) || l.any long
def FewP (l : List PstV) : Prop := l.length ≤ 200 ∧ ∀ p ∈ l, p.legs.length ≤ 200
def grow1 (s : LedV) (p : PstV) : LedV := bif postE s p.id p.legs == 0 then postV s p.id p.legs else s
def growF (l : List PstV) : LedV := l.foldl grow1 ⟨0, []⟩
def growK (s : LedV) (p : PstV) : Int := bif postE s p.id p.legs == 0 then 1 else 0
def growC : LedV → List PstV → Int
 | _, [] => 0
 | s, p :: l => growK s p + growC (grow1 s p) l
def grownV (l : List PstV) : LedV := growF (l.take 40)
def grownN (l : List PstV) : Int := growC ⟨0, []⟩ (l.take 40)
end Go.Proofs.YtjkfadaedgidpaaGreat
namespace Go.Proofs.YtjkfadaedgidpaaGreat
open Go.RowKit
set_option linter.unusedVariables false
set_option linter.unusedSimpArgs false
def G6 (k : Int) : Bool := ([1, 2, 3, 4, 5, 6] : List Int).contains k
theorem rt_amts {l : List LegV} (h : ∀ x ∈ l, rightN x.amt = true) (c : Int) (g : Int → Bool) : (sumsL c g l).all rightN = true := amts_rt fun y hy => h y (List.mem_filter.1 hy).1
theorem chk_all {l : List LegV} (h : chkR balOk lxLt none l = true) : l.all legOk = true ∧ ∀ x ∈ l, rightN x.amt = true := by
 have h2 := ((chkR_iff lxLt_tr).1 h).1
 have ha : l.all legOk = true := List.all_eq_true.2 fun y hy => ((balOk_iff y).1 (h2 y hy)).1
 exact ⟨ha, fun x hx => ok_rt ha x hx⟩
theorem kind_ok {l : List LegV} (h : l.all legOk = true) : ∀ y ∈ l, 1 ≤ y.ac.kind ∧ y.ac.kind ≤ 6 := by
 intro y hy
 have := List.all_eq_true.1 h y hy
 simp only [legOk, Bool.and_eq_true, acOk] at this
 have hb : acBad y.ac = false := by
  cases hc : acBad y.ac with
  | false => rfl
  | true => rw [hc] at this; cases this.1
 simp only [acBad] at hb
 by_cases k1 : y.ac.kind < 1
 ·simp [k1] at hb
 ·by_cases k2 : y.ac.kind > 6
  ·simp [k1, k2] at hb
  ·omega
theorem tot_cur {l : List LegV} (h : l.all legOk = true) (c : Int) : (!(rightN (kSum c (fun k => ([1, 2, 3, 4, 5, 6] : List Int).contains k) l)) || ((bif rightN (kSum c (fun k => ([1, 2, 3, 4, 5, 6] : List Int).contains k) l) then kSum c (fun k => ([1, 2, 3, 4, 5, 6] : List Int).contains k) l else 0) != 0)) = curBad c l := by
 have e : kSum c (fun k => ([1, 2, 3, 4, 5, 6] : List Int).contains k) l = kSum c (fun _ => true) l := kSum_same c fun y hy => by
  have := kind_ok h y hy
  have : y.ac.kind = 1 ∨ y.ac.kind = 2 ∨ y.ac.kind = 3 ∨ y.ac.kind = 4 ∨ y.ac.kind = 5 ∨ y.ac.kind = 6 := by omega
  rcases this with e | e | e | e | e | e <;> rw [e] <;> rfl
 rw [e]
 have hr := sumsL_rt h c (fun _ => true)
 simp only [curBad, sumE, sumV, hr, Bool.true_and, kSum]
 cases rightN (sumsL c (fun _ => true) l).sum <;> simp
def amtB (a : AcV) (b : Int) (g : List LegV) : List Int := b :: amtA a g
def lowA (m : List LegV) (A : List AcV) : Bool := A.any fun a => decide (sumA a m < flo a)
def seenA (pre : List Int) : List AV := (seenL pre).map fun b => AV.d (D.v (.bool b))
end Go.Proofs.YtjkfadaedgidpaaGreat
