/- A sum in parts: what the parts are like. In plain Lean. No condition. -/
import Derived.Test.YtfpicdhfoflcgaaSpecJE
namespace Go.Proofs.Ytfpicdhfoflcgaa
open Go.RowKit
set_option linter.unusedVariables false
set_option linter.unusedSimpArgs false
def mayOk (t : Int) (l : List Int) : Prop := (0 ≤ t ∧ t ≤ 4611686018427387904) ∧ (∀ x ∈ l, 0 ≤ x ∧ x ≤ 4611686018427387904) ∧ l.length ≤ 200
theorem sRE_may {t : Int} {l : List Int} (h : mayOk t l) : sRE t l = 0 := by
  obtain ⟨ht, hl, hn⟩ := h
  have h1 : sBad t l = false := by
    simp only [sBad, Bool.or_eq_false_iff, Bool.not_eq_false', List.all_eq_true, decide_eq_false_iff_not]
    refine ⟨⟨by omega, fun x hx => ?_⟩, fun x hx => ?_⟩
    · rw [List.mem_singleton] at hx; subst hx; simp [rightN]; omega
    · have := hl x hx; simp [rightN]; omega
  have h2 : l.any ngI = false := List.any_eq_false.2 fun x hx => by
    have := hl x hx; simp [ngI]; omega
  have h3 : decide ((l.length : Int) > 1024) = false := decide_eq_false (by omega)
  simp only [sRE, h1, h2, h3, cond_false]
theorem splitV_prt {t : Int} {l : List Int} (h : sRE t l = 0) (hS : 0 < sN l) : splitV t l = prt t.toNat l := by
  simp only [splitV, h, show (sN l == 0) = false by simp; omega]; rfl
theorem splitE_prt {t : Int} {l : List Int} (h : sRE t l = 0) (hS : 0 < sN l) : splitE t l = 0 := by
  simp only [splitE, h, show (sN l == 0) = false by simp; omega]; rfl
theorem splitV_zero {t : Int} {l : List Int} (h : sRE t l = 0) (hS : sN l = 0) (ht : t = 0) : splitV t l = zerosI l.length := by
  subst ht; simp only [splitV, h, hS]; rfl
theorem splitE_zero {t : Int} {l : List Int} (h : sRE t l = 0) (hS : sN l = 0) : splitE t l = bif t == 0 then 0 else 2 := by
  simp only [splitE, h, hS]; rfl
theorem splitV_none {t : Int} {l : List Int} (h : sRE t l = 0) (hS : sN l = 0) (ht : t ≠ 0) : splitV t l = [] := by
  simp only [splitV, h, hS, show (t == 0) = false by simpa using ht]; rfl
theorem prt_bnd (T : Nat) (l : List Int) (i : Nat) : ((T * (l.getD i 0).toNat / sN l : Nat) : Int) ≤ (prt T l).getD i 0 ∧ (prt T l).getD i 0 ≤ ((T * (l.getD i 0).toNat / sN l : Nat) : Int) + 1 := by
  rw [prt_get]; split <;> omega
theorem prt_nn (T : Nat) (l : List Int) (i : Nat) : 0 ≤ (prt T l).getD i 0 := by
  have := (prt_bnd T l i).1; have h2 : (0 : Int) ≤ ((T * (l.getD i 0).toNat / sN l : Nat) : Int) := Int.natCast_nonneg _; omega
theorem prt_zero {T : Nat} {l : List Int} (hS : 0 < sN l) {i : Nat} (h : l.getD i 0 = 0) : (prt T l).getD i 0 = 0 := by
  rw [prt_get]
  have e : T * (l.getD i 0).toNat = 0 := by rw [h]; simp
  have hw : ¬ won T l i := fun c => by have := won_pos hS c; rw [e] at this; simp at this
  rw [if_neg hw, e]; simp
theorem prt_cap {T : Nat} {l : List Int} (hS : 0 < sN l) (hT : T ≤ sN l) {i : Nat} (h0 : 0 ≤ l.getD i 0) : (prt T l).getD i 0 ≤ l.getD i 0 := by
  rw [prt_get]
  have hq : T * (l.getD i 0).toNat / sN l ≤ (l.getD i 0).toNat := by
    rw [Nat.mul_comm]; exact q_le hT
  split
  case isFalse => omega
  case isTrue hw =>
    have h1 := won_pos hS hw
    have h2 := Nat.div_add_mod (T * (l.getD i 0).toNat) (sN l)
    have : T * (l.getD i 0).toNat / sN l ≠ (l.getD i 0).toNat := fun c => by
      rw [c] at h2
      have := Nat.mul_le_mul_right (l.getD i 0).toNat hT
      omega
    omega
theorem prt_near {T : Nat} {l : List Int} (hS : 0 < sN l) (i : Nat) (h0 : 0 ≤ l.getD i 0) : ((prt T l).getD i 0 - 1) * (sN l : Int) < (T : Int) * l.getD i 0 ∧ (T : Int) * l.getD i 0 < ((prt T l).getD i 0 + 1) * (sN l : Int) := by
  obtain ⟨w, hw⟩ : ∃ w : Nat, l.getD i 0 = w := ⟨_, (Int.toNat_of_nonneg h0).symm⟩
  rw [prt_get, hw]
  simp only [Int.toNat_natCast]
  have h2 := Nat.div_add_mod (T * w) (sN l)
  have h3 := Nat.mod_lt (T * w) hS
  have hp : won T l i → 0 < T * w % sN l := fun h => by have := won_pos hS h; rwa [hw, Int.toNat_natCast] at this
  generalize T * w % sN l = r at *
  generalize T * w / sN l = q at *
  have e : (T : Int) * (w : Int) = (sN l : Int) * q + r := by exact_mod_cast h2.symm
  have hS' : (0 : Int) < sN l := by omega
  rw [e, Int.mul_comm (sN l : Int) q]
  split
  case isTrue h =>
    have := hp h
    simp only [Int.sub_mul, Int.add_mul, Int.one_mul]
    omega
  case isFalse =>
    simp only [Int.sub_mul, Int.add_mul, Int.one_mul]
    omega
theorem left_mid {T : Nat} {l pre post : List Int} {x : Int} (hS : 0 < sN l) (hsp : l = pre ++ x :: post) : 0 ≤ leftV T (sN l) (pre ++ [x]) ∧ leftV T (sN l) (pre ++ [x]) ≤ T := by
  have h1 := left_bnd (T := T) hS
  have h2 := left_pre T (sN l) (pre ++ [x]) post
  have e : (pre ++ [x]) ++ post = l := by rw [hsp]; simp
  rw [e] at h2; omega
theorem ord_mid {T : Nat} {l : List Int} {A B : List RestV} {y : RestV} (hT : T ≤ 4611686018427387904) (h : ordR T (sN l) l = A ++ y :: B) : y.at_ < l.length ∧ 0 ≤ (bumpV (qsV T (sN l) l) (A.map RestV.at_)).getD y.at_ 0 ∧ (bumpV (qsV T (sN l) l) (A.map RestV.at_)).getD y.at_ 0 ≤ 4611686018427387905 := by
  have hy : y.at_ < l.length := (ordR_mem.1 (show y ∈ ordR T (sN l) l by rw [h]; simp)).1
  have e : A.map RestV.at_ = atK T (sN l) l A.length := by rw [atK, h]; simp
  rw [e, bumpV_get (fun k hk => by rw [qsV_len]; exact atK_lt hk) (atK_nd _ _ _ _), qsV_get]
  have hw : (l.getD y.at_ 0).toNat ≤ sN l := by
    rw [List.getD_eq_getElem?_getD, List.getElem?_eq_getElem hy]; exact w_le (List.getElem_mem hy)
  have := q_le (T := T) hw
  generalize T * (l.getD y.at_ 0).toNat / sN l = q at *
  refine ⟨hy, ?_, ?_⟩ <;> split <;> omega
theorem oneI_get {p : List Int} {k : Nat} (h : k < p.length) : ((p.map fun n => [iv n]).map fun x => x.map AV.d).getD k [] = [.d (iv (p.getD k 0))] := by
  simp [List.getD_eq_getElem?_getD, List.getElem?_eq_getElem h]
theorem oneI_set (p : List Int) (k : Nat) : ((p.map fun n => [iv n]).map fun x => x.map AV.d).set k [.d (iv (p.getD k 0 + 1))] = (((bump p k).map fun n => [iv n]).map fun x => x.map AV.d) := by
  simp [bump, List.map_set]
/- Fairness. -/
theorem prt_mono {T : Nat} {l : List Int} (hS : 0 < sN l) {i k : Nat} (hi : i < l.length) (hk0 : 0 ≤ l.getD k 0) (h : l.getD k 0 < l.getD i 0) : (prt T l).getD k 0 ≤ (prt T l).getD i 0 := by
  have hm : T * (l.getD k 0).toNat ≤ T * (l.getD i 0).toNat := Nat.mul_le_mul_left _ (by omega)
  have hq : T * (l.getD k 0).toNat / sN l ≤ T * (l.getD i 0).toNat / sN l := Nat.div_le_div_right hm
  by_cases hqe : T * (l.getD k 0).toNat / sN l = T * (l.getD i 0).toNat / sN l
  · rw [prt_get, prt_get, hqe]
    have : won T l k → won T l i := fun hw => by
      have h1 := won_pos hS hw
      refine won_up hi (Or.inl ?_) hw
      simp only [rOf]
      have d1 := Nat.div_add_mod (T * (l.getD k 0).toNat) (sN l)
      have d2 := Nat.div_add_mod (T * (l.getD i 0).toNat) (sN l)
      rw [hqe] at d1
      have hT : 0 < T := Nat.pos_of_ne_zero fun c => by subst c; simp at h1
      have : T * (l.getD k 0).toNat < T * (l.getD i 0).toNat := (Nat.mul_lt_mul_left hT).2 (by omega)
      omega
    by_cases hw : won T l k
    · rw [if_pos hw, if_pos (this hw)]; exact Int.le_refl _
    · rw [if_neg hw]; split <;> omega
  · have h1 := (prt_bnd T l k).2
    have h2 := (prt_bnd T l i).1
    omega
theorem prt_same {T : Nat} {l : List Int} {i k : Nat} (hik : i < k) (hk : k < l.length) (h : l.getD i 0 = l.getD k 0) : (prt T l).getD k 0 ≤ (prt T l).getD i 0 ∧ (prt T l).getD i 0 ≤ (prt T l).getD k 0 + 1 := by
  rw [prt_get, prt_get, h]
  have : won T l k → won T l i := fun hw => won_up (by omega) (Or.inr ⟨by simp only [rOf, h], hik⟩) hw
  by_cases hw : won T l k
  · rw [if_pos hw, if_pos (this hw)]; omega
  · rw [if_neg hw]; split <;> omega
theorem split_len {t : Int} {l : List Int} (h : sRE t l = 0) (he : splitE t l = 0) : (splitV t l).length = l.length := by
  rcases Nat.eq_zero_or_pos (sN l) with hS | hS
  · rw [splitE_zero h hS] at he
    have : t = 0 := by
      by_cases c : t = 0
      · exact c
      · rw [show (t == 0) = false by simpa using c] at he; simp at he
    rw [splitV_zero h hS this]; simp [zerosI]
  · rw [splitV_prt h hS, prt_len]
theorem zeros_get (n i : Nat) : (zerosI n).getD i 0 = 0 := by
  simp only [zerosI, List.getD_eq_getElem?_getD, List.getElem?_replicate]; split <;> rfl
theorem split_fair {t : Int} {l : List Int} (h : sRE t l = 0) (he : splitE t l = 0) (hl : ∀ x ∈ l, 0 ≤ x) {i k : Nat} (hik : i < k) (hk : k < l.length) :
    (l.getD i 0 = l.getD k 0 → (splitV t l).getD k 0 ≤ (splitV t l).getD i 0 ∧ (splitV t l).getD i 0 ≤ (splitV t l).getD k 0 + 1) ∧ (l.getD k 0 < l.getD i 0 → (splitV t l).getD k 0 ≤ (splitV t l).getD i 0) ∧ (l.getD i 0 < l.getD k 0 → (splitV t l).getD i 0 ≤ (splitV t l).getD k 0) := by
  have hg : ∀ j, 0 ≤ l.getD j 0 := fun j => by
    by_cases c : j < l.length
    · rw [List.getD_eq_getElem?_getD, List.getElem?_eq_getElem c]; exact hl _ (List.getElem_mem c)
    · rw [List.getD_eq_getElem?_getD, List.getElem?_eq_none (Nat.le_of_not_lt c)]; exact Int.le_refl _
  rcases Nat.eq_zero_or_pos (sN l) with hS | hS
  · rw [splitE_zero h hS] at he
    have : t = 0 := by
      by_cases c : t = 0
      · exact c
      · rw [show (t == 0) = false by simpa using c] at he; simp at he
    rw [splitV_zero h hS this]; simp only [zeros_get]; omega
  · rw [splitV_prt h hS]
    exact ⟨fun e => prt_same hik hk e, fun e => prt_mono hS (by omega) (hg k) e, fun e => prt_mono hS hk (hg i) e⟩
/- Scaling. -/
theorem sN_mul (k : Nat) : ∀ l : List Int, sN (l.map fun w => w * (k : Int)) = k * sN l
  | [] => by simp [sN]
  | w :: l => by
    have ih := sN_mul k l
    have e : (w * (k : Int)).toNat = k * w.toNat := by
      rcases Int.le_total 0 w with h | h
      · obtain ⟨n, rfl⟩ := Int.eq_ofNat_of_zero_le h
        have : ((n : Int) * (k : Int)) = ((k * n : Nat) : Int) := by rw [Int.natCast_mul, Int.mul_comm]
        rw [this, Int.toNat_natCast, Int.toNat_natCast]
      · have : w * (k : Int) ≤ 0 := Int.mul_nonpos_of_nonpos_of_nonneg h (Int.natCast_nonneg k)
        rw [Int.toNat_of_nonpos this, Int.toNat_of_nonpos h]; simp
    simp only [sN, List.map_cons, List.sum_cons] at ih ⊢
    rw [ih, e, Nat.mul_add]
theorem toNat_mul (w : Int) (k : Nat) : (w * (k : Int)).toNat = k * w.toNat := by
  have := sN_mul k [w]; simpa [sN] using this
theorem qsV_mul {T S k : Nat} (hk : 0 < k) (l : List Int) : qsV T (k * S) (l.map fun w => w * (k : Int)) = qsV T S l := by
  simp only [qsV, List.map_map]
  refine List.map_congr_left fun w _ => ?_
  simp only [Function.comp_apply, toNat_mul]
  rw [← Nat.mul_assoc, Nat.mul_comm T k, Nat.mul_assoc, Nat.mul_div_mul_left _ _ hk]
def sclR (k : Nat) (x : RestV) : RestV := ⟨k * x.r, x.at_⟩
theorem rsV_mul (T S k : Nat) (l : List Int) : rsV T (k * S) (l.map fun w => w * (k : Int)) = (rsV T S l).map (sclR k) := by
  simp only [rsV, List.map_map, List.zipIdx_map]
  refine List.map_congr_left fun p _ => ?_
  simp only [Function.comp_apply, sclR, Prod.map, id, toNat_mul]
  rw [← Nat.mul_assoc, Nat.mul_comm T k, Nat.mul_assoc, Nat.mul_mod_mul_left]
theorem restLt_scl {k : Nat} (hk : 0 < k) (a b : RestV) : restLt (sclR k a) (sclR k b) = restLt a b := by
  rw [Bool.eq_iff_iff, restLt_iff, restLt_iff]
  exact Nat.mul_lt_mul_left hk
theorem atK_mul {T S k n : Nat} (hk : 0 < k) (l : List Int) : atK T (k * S) (l.map fun w => w * (k : Int)) n = atK T S l n := by
  simp only [atK, ordR, restOrder, rsV_mul]
  rw [isort_mapR (sclR k) (restLt_scl hk), ← List.map_take, List.map_map]; rfl
theorem prt_mul {T k : Nat} (hk : 0 < k) (l : List Int) : prt T (l.map fun w => w * (k : Int)) = prt T l := by
  simp only [prt, sN_mul, qsV_mul hk, atK_mul hk, leftV]
theorem split_mul {t : Int} {l : List Int} {k : Nat} (hk : 0 < k) (h : sRE t l = 0) (h2 : sRE t (l.map fun w => w * (k : Int)) = 0) : splitV t (l.map fun w => w * (k : Int)) = splitV t l ∧ splitE t (l.map fun w => w * (k : Int)) = splitE t l := by
  have hs := sN_mul k l
  rcases Nat.eq_zero_or_pos (sN l) with hS | hS
  · have hS2 : sN (l.map fun w => w * (k : Int)) = 0 := by rw [hs, hS]; simp
    rw [splitE_zero h hS, splitE_zero h2 hS2]
    refine ⟨?_, rfl⟩
    by_cases ht : t = 0
    · rw [splitV_zero h hS ht, splitV_zero h2 hS2 ht, List.length_map]
    · rw [splitV_none h hS ht, splitV_none h2 hS2 ht]
  · have hS2 : 0 < sN (l.map fun w => w * (k : Int)) := by rw [hs]; exact Nat.mul_pos hk hS
    rw [splitE_prt h hS, splitE_prt h2 hS2, splitV_prt h hS, splitV_prt h2 hS2, prt_mul hk]
    exact ⟨rfl, rfl⟩
end Go.Proofs.Ytfpicdhfoflcgaa
