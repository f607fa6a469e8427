/- A sum in parts: who gets one more; what the parts are like. In plain Lean. No condition. -/
import Derived.Test.YtjkfadaedgidpaaSpecJD
namespace Go.Proofs.Ytjkfadaedgidpaa
open Go.RowKit
set_option linter.unusedVariables false
set_option linter.unusedSimpArgs false
def bt (a b : RestV) : Prop := b.r < a.r ∨ (a.r = b.r ∧ a.at_ < b.at_)
theorem insX_bt {x : RestV} : ∀ {l : List RestV}, l.Pairwise bt → (∀ y ∈ l, y.at_ < x.at_) → (insX restLt x l).Pairwise bt
 | [], _, _ => by simp [insX]
 | y :: l, h, hx => by
  have h1 := List.pairwise_cons.1 h
  simp only [insX]
  cases e : restLt x y with
  | true =>
   have hr := restLt_iff.1 e
   simp only [cond_true, List.pairwise_cons]
   refine ⟨fun z hz => ?_, h1.1, h1.2⟩
   rcases List.mem_cons.1 hz with rfl | hz
   ·exact Or.inl hr
   ·have := h1.1 z hz; simp only [bt] at this ⊢; omega
  | false =>
   have hr : ¬ y.r < x.r := fun c => by rw [restLt_iff.2 c] at e; cases e
   simp only [cond_false, List.pairwise_cons]
   refine ⟨fun z hz => ?_, insX_bt h1.2 fun z hz => hx z (List.mem_cons_of_mem _ hz)⟩
   rcases (insX_mem (lt := restLt)).1 hz with rfl | hz
   ·have := hx y (by simp); simp only [bt]; omega
   ·exact h1.1 z hz
theorem isortA_bt : ∀ {l acc : List RestV}, acc.Pairwise bt → (∀ y ∈ acc, ∀ x ∈ l, y.at_ < x.at_) → l.Pairwise (fun a b => a.at_ < b.at_) → (isortA restLt acc l).Pairwise bt
 | [], acc, h, _, _ => h
 | x :: l, acc, h, hx, hl => by
  have h1 := List.pairwise_cons.1 hl
  refine isortA_bt (l := l) (insX_bt h fun y hy => hx y hy x (by simp)) (fun y hy z hz => ?_) h1.2
  rcases (insX_mem (lt := restLt)).1 hy with rfl | hy
  ·exact h1.1 z hz
  ·exact hx y hy z (List.mem_cons_of_mem _ hz)
theorem isortA_mem {z : RestV} : ∀ {l acc : List RestV}, z ∈ isortA restLt acc l ↔ z ∈ acc ∨ z ∈ l
 | [], acc => by simp [isortA]
 | x :: l, acc => by
  simp only [isortA, isortA_mem (l := l), insX_mem, List.mem_cons]
  constructor
  ·rintro ((h | h) | h) <;> simp [h]
  ·rintro (h | h | h) <;> simp [h]
def rTot (l : List RestV) : Nat := (l.map RestV.r).sum
theorem insX_tot {x : RestV} : ∀ {l : List RestV}, rTot (insX restLt x l) = x.r + rTot l
 | [] => by simp [insX, rTot]
 | y :: l => by
  have ih := insX_tot (x := x) (l := l)
  simp only [rTot] at ih
  simp only [insX]
  cases restLt x y with
  | true => simp [rTot]
  | false => simp only [cond_false, rTot, List.map_cons, List.sum_cons]; omega
theorem isortA_tot : ∀ {l acc : List RestV}, rTot (isortA restLt acc l) = rTot acc + rTot l
 | [], acc => by simp [isortA, rTot]
 | x :: l, acc => by
  simp only [isortA, isortA_tot (l := l), insX_tot]
  simp only [rTot, List.map_cons, List.sum_cons]; omega
theorem rsV_at (T S : Nat) (l : List Int) : (rsV T S l).Pairwise (fun a b => a.at_ < b.at_) := by
 simp only [rsV, List.pairwise_map]
 have : ∀ (l : List Int) (k : Nat), (l.zipIdx k).Pairwise (fun a b => a.2 < b.2) := by
  intro l
  induction l with
  | nil => intro k; simp
  | cons x l ih =>
   intro k
   simp only [List.zipIdx_cons, List.pairwise_cons]
   refine ⟨fun p hp => ?_, ih (k + 1)⟩
   have := List.le_snd_of_mem_zipIdx hp
   exact this
 exact this l 0
theorem rsV_mem {T S : Nat} {l : List Int} {x : RestV} : x ∈ rsV T S l ↔ x.at_ < l.length ∧ x.r = T * (l.getD x.at_ 0).toNat % S := by
 simp only [rsV, List.mem_map]
 constructor
 ·rintro ⟨⟨w, i⟩, hp, rfl⟩
  have h := List.mem_zipIdx' hp
  simp only at h ⊢
  refine ⟨h.1, ?_⟩
  rw [h.2, List.getD_eq_getElem?_getD, List.getElem?_eq_getElem h.1]; rfl
 ·rintro ⟨h1, h2⟩
  obtain ⟨r, i⟩ := x
  simp only at h1 h2
  refine ⟨(l[i], i), List.mk_mem_zipIdx_iff_getElem?.2 (List.getElem?_eq_getElem h1), ?_⟩
  simp only [h2, List.getD_eq_getElem?_getD, List.getElem?_eq_getElem h1, Option.getD_some]
def ordR (T S : Nat) (l : List Int) : List RestV := restOrder (rsV T S l)
theorem ordR_len (T S : Nat) (l : List Int) : (ordR T S l).length = l.length := by rw [ordR, restOrder, isort_len, rsV_len]
theorem ordR_bt (T S : Nat) (l : List Int) : (ordR T S l).Pairwise bt := isortA_bt List.Pairwise.nil (by simp) (rsV_at T S l)
theorem ordR_mem {T S : Nat} {l : List Int} {x : RestV} : x ∈ ordR T S l ↔ x.at_ < l.length ∧ x.r = T * (l.getD x.at_ 0).toNat % S := by
 rw [ordR, restOrder, isort, isortA_mem, rsV_mem]; simp
theorem rTot_rsV (T S : Nat) (l : List Int) : rTot (rsV T S l) = rSum T S l := by
 simp only [rTot, rsV, List.map_map, rSum]
 congr 1
 have : ∀ (l : List Int) (k : Nat), (l.zipIdx k).map (RestV.r ∘ fun p => (⟨T * p.1.toNat % S, p.2⟩ : RestV)) = l.map fun w => T * w.toNat % S := by
  intro l
  induction l with
  | nil => intro k; rfl
  | cons x l ih => intro k; simp only [List.zipIdx_cons, List.map_cons, ih]; rfl
 exact this l 0
theorem ordR_tot (T S : Nat) (l : List Int) : rTot (ordR T S l) = rSum T S l := by
 rw [ordR, restOrder, isort, isortA_tot, rTot_rsV]; simp [rTot]
theorem getD_set_ (p : List Int) (i k : Nat) (v : Int) : (p.set k v).getD i 0 = if k = i ∧ i < p.length then v else p.getD i 0 := by
 simp only [List.getD_eq_getElem?_getD, List.getElem?_set]
 by_cases h : k = i
 ·subst h
  by_cases h2 : k < p.length
  ·simp [h2]
  ·simp [h2]
 ·simp [h]
theorem bump_get {p : List Int} {k i : Nat} (hk : k < p.length) : (bump p k).getD i 0 = p.getD i 0 + (if k = i then 1 else 0) := by
 rw [bump, getD_set_]
 by_cases h : k = i
 ·subst h; simp [hk]
 ·simp [h]
theorem bumpV_get {i : Nat} : ∀ {ks : List Nat} {p : List Int}, (∀ k ∈ ks, k < p.length) → ks.Nodup → (bumpV p ks).getD i 0 = p.getD i 0 + (if i ∈ ks then 1 else 0)
 | [], p, _, _ => by simp [bumpV]
 | k :: ks, p, h, hn => by
  have hn := List.nodup_cons.1 hn
  have e : bumpV p (k :: ks) = bumpV (bump p k) ks := rfl
  rw [e, bumpV_get (fun j hj => by rw [bump_len]; exact h j (List.mem_cons_of_mem _ hj)) hn.2, bump_get (h k (by simp))]
  by_cases h1 : k = i
  ·subst h1; simp [hn.1]
  ·simp [h1, List.mem_cons, show ¬ i = k from fun c => h1 c.symm]
theorem bump_sum : ∀ {p : List Int} {k : Nat}, k < p.length → (bump p k).sum = p.sum + 1
 | [], k, h => by simp at h
 | x :: p, 0, h => by simp [bump]; omega
 | x :: p, k + 1, h => by
  have ih := bump_sum (p := p) (k := k) (by simpa using h)
  simp only [bump] at ih
  simp only [bump, List.set_cons_succ, List.sum_cons, List.getD_cons_succ]; omega
theorem bumpV_sum : ∀ {ks : List Nat} {p : List Int}, (∀ k ∈ ks, k < p.length) → (bumpV p ks).sum = p.sum + ks.length
 | [], p, _ => by simp [bumpV]
 | k :: ks, p, h => by
  have e : bumpV p (k :: ks) = bumpV (bump p k) ks := rfl
  rw [e, bumpV_sum (fun j hj => by rw [bump_len]; exact h j (List.mem_cons_of_mem _ hj)), bump_sum (h k (by simp))]
  simp only [List.length_cons]; omega
def atK (T S : Nat) (l : List Int) (k : Nat) : List Nat := ((ordR T S l).take k).map RestV.at_
theorem atK_lt {T S : Nat} {l : List Int} {k i : Nat} (h : i ∈ atK T S l k) : i < l.length := by
 obtain ⟨x, hx, rfl⟩ := List.mem_map.1 h
 exact (ordR_mem.1 (List.mem_of_mem_take hx)).1
theorem ordR_nd (T S : Nat) (l : List Int) : ((ordR T S l).map RestV.at_).Nodup := by
 rw [List.Nodup, List.pairwise_map]
 refine (ordR_bt T S l).imp_of_mem fun {a b} ha hb h c => ?_
 have h1 := ordR_mem.1 ha
 have h2 := ordR_mem.1 hb
 rw [c, ← h2.2] at h1
 simp only [bt] at h; omega
theorem atK_nd (T S : Nat) (l : List Int) (k : Nat) : (atK T S l k).Nodup := by
 rw [atK, List.map_take]
 exact (List.take_sublist _ _).nodup (ordR_nd T S l)
theorem atK_len {T S : Nat} {l : List Int} {k : Nat} (h : k ≤ l.length) : (atK T S l k).length = k := by
 rw [atK, List.length_map, List.length_take, ordR_len]; omega
def rOf (T S : Nat) (l : List Int) (i : Nat) : RestV := ⟨T * (l.getD i 0).toNat % S, i⟩
theorem tot_le {S : Nat} : ∀ {l : List RestV}, (∀ x ∈ l, x.r ≤ S) → rTot l ≤ l.length * S
 | [], _ => by simp [rTot]
 | x :: l, h => by
  have ih := tot_le (l := l) fun y hy => h y (List.mem_cons_of_mem _ hy)
  have := h x (by simp)
  simp only [rTot, List.map_cons, List.sum_cons, List.length_cons, Nat.add_mul, Nat.one_mul] at ih ⊢
  omega
theorem tot_zero {l : List RestV} (h : ∀ x ∈ l, x.r = 0) : rTot l = 0 := by
 have := tot_le (S := 0) (l := l) (fun x hx => by rw [h x hx]; exact Nat.le_refl _)
 simpa using this
theorem left_eq (T : Nat) (l : List Int) : (sN l : Int) * leftV T (sN l) l = (rSum T (sN l) l : Int) := by
 have h1 := left_sum (T := T) (S := sN l) l
 simp only [leftV, Int.mul_sub]
 rw [Int.mul_comm (sN l : Int) (T : Int)]; omega
theorem atK_pos {T : Nat} {l : List Int} (hS : 0 < sN l) {i : Nat} (hi : i ∈ atK T (sN l) l (leftV T (sN l) l).toNat) : 0 < T * (l.getD i 0).toNat % sN l := by
 obtain ⟨x, hx, rfl⟩ := List.mem_map.1 hi
 have hx2 := ordR_mem.1 (List.mem_of_mem_take hx)
 rw [← hx2.2]
 refine Nat.pos_of_ne_zero fun h0 => ?_
 have hlb := left_bnd (T := T) hS
 have hle := left_eq T l
 generalize hk : leftV T (sN l) l = L at *
 obtain ⟨k, rfl⟩ : ∃ k : Nat, L = k := ⟨L.toNat, by omega⟩
 simp only [Int.toNat_natCast] at hx
 obtain ⟨A, B, hAB⟩ := List.append_of_mem hx
 have hlen := congrArg List.length hAB
 simp only [List.length_take, List.length_append, List.length_cons, ordR_len] at hlen
 have hO : ordR T (sN l) l = A ++ x :: (B ++ (ordR T (sN l) l).drop k) := by
  rw [← List.cons_append, ← List.append_assoc, ← hAB, List.take_append_drop]
 have hp := ordR_bt T (sN l) l
 have ht := ordR_tot T (sN l) l
 have hm : ∀ y ∈ ordR T (sN l) l, y.r ≤ sN l - 1 := fun y hy => by
  rw [(ordR_mem.1 hy).2]; have := Nat.mod_lt (T * (l.getD y.at_ 0).toNat) hS; omega
 generalize B ++ (ordR T (sN l) l).drop k = C at hO
 rw [hO] at hp ht hm
 have hC : rTot C = 0 := tot_zero fun y hy => by
  have h1 := (List.pairwise_cons.1 (List.pairwise_append.1 hp).2.1).1 y hy
  simp only [bt] at h1; omega
 have hA := tot_le (l := A) (S := sN l - 1) fun y hy => hm y (by simp [hy])
 have ht : rTot A + (x.r + rTot C) = rSum T (sN l) l := by rw [← ht]; simp [rTot]
 have hle : sN l * k = rSum T (sN l) l := by exact_mod_cast hle
 have hAk : A.length + 1 ≤ k := by omega
 have h5 : A.length * (sN l - 1) ≤ A.length * sN l := Nat.mul_le_mul_left _ (by omega)
 have h6 : (A.length + 1) * sN l ≤ k * sN l := Nat.mul_le_mul_right _ hAk
 rw [Nat.mul_comm (sN l) k] at hle
 rw [Nat.add_mul, Nat.one_mul] at h6
 omega
def prt (T : Nat) (l : List Int) : List Int := bumpV (qsV T (sN l) l) (atK T (sN l) l (leftV T (sN l) l).toNat)
theorem prt_len (T : Nat) (l : List Int) : (prt T l).length = l.length := by rw [prt, bumpV_len, qsV_len]
theorem qsV_get (T S : Nat) (l : List Int) (i : Nat) : (qsV T S l).getD i 0 = ((T * (l.getD i 0).toNat / S : Nat) : Int) := by
 by_cases h : i < l.length
 ·simp [qsV, List.getD_eq_getElem?_getD, List.getElem?_eq_getElem h]
 ·simp [qsV, List.getD_eq_getElem?_getD, List.getElem?_eq_none (Nat.le_of_not_lt h)]
def won (T : Nat) (l : List Int) (i : Nat) : Prop := i ∈ atK T (sN l) l (leftV T (sN l) l).toNat
instance (T : Nat) (l : List Int) (i : Nat) : Decidable (won T l i) := inferInstanceAs (Decidable (i ∈ _))
theorem prt_get (T : Nat) (l : List Int) (i : Nat) : (prt T l).getD i 0 = ((T * (l.getD i 0).toNat / sN l : Nat) : Int) + (if won T l i then 1 else 0) := by
 rw [prt, bumpV_get (fun k hk => by rw [qsV_len]; exact atK_lt hk) (atK_nd _ _ _ _), qsV_get]; rfl
theorem prt_sum {T : Nat} {l : List Int} (hS : 0 < sN l) : (prt T l).sum = T := by
 have hlb := left_bnd (T := T) hS
 rw [prt, bumpV_sum (fun k hk => by rw [qsV_len]; exact atK_lt hk), atK_len (by omega)]
 have : leftV T (sN l) l = (T : Int) - (qsV T (sN l) l).sum := rfl
 omega
theorem won_pos {T : Nat} {l : List Int} (hS : 0 < sN l) {i : Nat} (h : won T l i) : 0 < T * (l.getD i 0).toNat % sN l := atK_pos hS h
def mayOk (t : Int) (l : List Int) : Prop := (0 ≤ t ∧ t ≤ 4611686018427387904) ∧ (∀ x ∈ l, 0 ≤ x ∧ x ≤ 4611686018427387904) ∧ l.length ≤ 200
theorem sRE_may {t : Int} {l : List Int} (h : mayOk t l) : sRE t l = 0 := by
 obtain ⟨ht, hl, hn⟩ := h
 have h1 : sBad t l = false := by
  simp only [sBad, Bool.or_eq_false_iff, Bool.not_eq_false', List.all_eq_true, decide_eq_false_iff_not]
  refine ⟨⟨by omega, fun x hx => ?_⟩, fun x hx => ?_⟩
  ·rw [List.mem_singleton] at hx; subst hx; simp [rightN]; omega
  ·have := hl x hx; simp [rightN]; omega
 have h2 : l.any ngI = false := List.any_eq_false.2 fun x hx => by
  have := hl x hx; simp [ngI]; omega
 have h3 : decide ((l.length : Int) > 1024) = false := decide_eq_false (by omega)
 simp only [sRE, h1, h2, h3, cond_false]
theorem splitV_prt {t : Int} {l : List Int} (h : sRE t l = 0) (hS : 0 < sN l) : splitV t l = prt t.toNat l := by
 simp only [splitV, h, show (sN l == 0) = false by simp; omega]; rfl
theorem splitE_prt {t : Int} {l : List Int} (h : sRE t l = 0) (hS : 0 < sN l) : splitE t l = 0 := by
 simp only [splitE, h, show (sN l == 0) = false by simp; omega]; rfl
theorem splitV_zero {t : Int} {l : List Int} (h : sRE t l = 0) (hS : sN l = 0) (ht : t = 0) : splitV t l = zerosI l.length := by
 subst ht; simp only [splitV, h, hS]; rfl
theorem splitE_zero {t : Int} {l : List Int} (h : sRE t l = 0) (hS : sN l = 0) : splitE t l = bif t == 0 then 0 else 2 := by
 simp only [splitE, h, hS]; rfl
theorem splitV_none {t : Int} {l : List Int} (h : sRE t l = 0) (hS : sN l = 0) (ht : t ≠ 0) : splitV t l = [] := by
 simp only [splitV, h, hS, show (t == 0) = false by simpa using ht]; rfl
theorem prt_bnd (T : Nat) (l : List Int) (i : Nat) : ((T * (l.getD i 0).toNat / sN l : Nat) : Int) ≤ (prt T l).getD i 0 ∧ (prt T l).getD i 0 ≤ ((T * (l.getD i 0).toNat / sN l : Nat) : Int) + 1 := by
 rw [prt_get]; split <;> omega
theorem prt_nn (T : Nat) (l : List Int) (i : Nat) : 0 ≤ (prt T l).getD i 0 := by
 have := (prt_bnd T l i).1; have h2 : (0 : Int) ≤ ((T * (l.getD i 0).toNat / sN l : Nat) : Int) := Int.natCast_nonneg _; omega
theorem prt_cap {T : Nat} {l : List Int} (hS : 0 < sN l) (hT : T ≤ sN l) {i : Nat} (h0 : 0 ≤ l.getD i 0) : (prt T l).getD i 0 ≤ l.getD i 0 := by
 rw [prt_get]
 have hq : T * (l.getD i 0).toNat / sN l ≤ (l.getD i 0).toNat := by
  rw [Nat.mul_comm]; exact q_le hT
 split
 case isFalse => omega
 case isTrue hw =>
  have h1 := won_pos hS hw
  have h2 := Nat.div_add_mod (T * (l.getD i 0).toNat) (sN l)
  have : T * (l.getD i 0).toNat / sN l ≠ (l.getD i 0).toNat := fun c => by
   rw [c] at h2
   have := Nat.mul_le_mul_right (l.getD i 0).toNat hT
   omega
  omega
theorem left_mid {T : Nat} {l pre post : List Int} {x : Int} (hS : 0 < sN l) (hsp : l = pre ++ x :: post) : 0 ≤ leftV T (sN l) (pre ++ [x]) ∧ leftV T (sN l) (pre ++ [x]) ≤ T := by
 have h1 := left_bnd (T := T) hS
 have h2 := left_pre T (sN l) (pre ++ [x]) post
 have e : (pre ++ [x]) ++ post = l := by rw [hsp]; simp
 rw [e] at h2; omega
theorem ord_mid {T : Nat} {l : List Int} {A B : List RestV} {y : RestV} (hT : T ≤ 4611686018427387904) (h : ordR T (sN l) l = A ++ y :: B) : y.at_ < l.length ∧ 0 ≤ (bumpV (qsV T (sN l) l) (A.map RestV.at_)).getD y.at_ 0 ∧ (bumpV (qsV T (sN l) l) (A.map RestV.at_)).getD y.at_ 0 ≤ 4611686018427387905 := by
 have hy : y.at_ < l.length := (ordR_mem.1 (show y ∈ ordR T (sN l) l by rw [h]; simp)).1
 have e : A.map RestV.at_ = atK T (sN l) l A.length := by rw [atK, h]; simp
 rw [e, bumpV_get (fun k hk => by rw [qsV_len]; exact atK_lt hk) (atK_nd _ _ _ _), qsV_get]
 have hw : (l.getD y.at_ 0).toNat ≤ sN l := by
  rw [List.getD_eq_getElem?_getD, List.getElem?_eq_getElem hy]; exact w_le (List.getElem_mem hy)
 have := q_le (T := T) hw
 generalize T * (l.getD y.at_ 0).toNat / sN l = q at *
 refine ⟨hy, ?_, ?_⟩ <;> split <;> omega
theorem oneI_get {p : List Int} {k : Nat} (h : k < p.length) : ((p.map fun n => [iv n]).map fun x => x.map AV.d).getD k [] = [.d (iv (p.getD k 0))] := by
 simp [List.getD_eq_getElem?_getD, List.getElem?_eq_getElem h]
theorem oneI_set (p : List Int) (k : Nat) : ((p.map fun n => [iv n]).map fun x => x.map AV.d).set k [.d (iv (p.getD k 0 + 1))] = (((bump p k).map fun n => [iv n]).map fun x => x.map AV.d) := by
 simp [bump, List.map_set]
theorem split_len {t : Int} {l : List Int} (h : sRE t l = 0) (he : splitE t l = 0) : (splitV t l).length = l.length := by
 rcases Nat.eq_zero_or_pos (sN l) with hS | hS
 ·rw [splitE_zero h hS] at he
  have : t = 0 := by
   by_cases c : t = 0
   ·exact c
   ·rw [show (t == 0) = false by simpa using c] at he; simp at he
  rw [splitV_zero h hS this]; simp [zerosI]
 ·rw [splitV_prt h hS, prt_len]
theorem zeros_get (n i : Nat) : (zerosI n).getD i 0 = 0 := by
 simp only [zerosI, List.getD_eq_getElem?_getD, List.getElem?_replicate]; split <;> rfl
def sclR (k : Nat) (x : RestV) : RestV := ⟨k * x.r, x.at_⟩
end Go.Proofs.Ytjkfadaedgidpaa
