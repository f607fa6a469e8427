/- Dues: sorted, each key once, netted: the sums of legs of one kind. In plain Lean. No condition. -/
import Derived.Test.YtcpkhnciplfmkaaSpecZ
import Derived.Test.YtcpkhnciplfmkaaClone
import Derived.Test.YtcpkhnciplfmkaaClr
namespace Go.Proofs.Ytcpkhnciplfmkaa
open Go.RowKit
set_option linter.unusedVariables false
set_option linter.unusedSimpArgs false
def cmpI (a b : Int) : Int := bif decide (a < b) then -1 else bif decide (a > b) then 1 else 0
def orI : List Int → Int
  | [] => 0
  | x :: xs => bif x != 0 then x else orI xs
def dueC (d : LegV) : List D := [iv d.ac.who, iv d.ac.cur, iv d.amt]
def dues (l : List LegV) : D := .sl 3 (l.map dueC)
def K2 (l : List LegV) : Prop := ∀ x ∈ l, x.ac.kind = 2
def dueCmp (a b : LegV) : Int := orI [cmpI a.ac.who b.ac.who, cmpI a.ac.cur b.ac.cur]
def dLt (a b : LegV) : Bool := decide (dueCmp a b < 0)
theorem cmpI_cases (a b : Int) : (a < b ∧ cmpI a b = -1) ∨ (a > b ∧ cmpI a b = 1) ∨ (a = b ∧ cmpI a b = 0) := by
  unfold cmpI
  by_cases h : a < b
  · simp [h]
  · by_cases h2 : a > b
    · simp [h, h2]
    · simp [h, h2]; omega
theorem dLt_iff {a b : LegV} : dLt a b = true ↔ a.ac.who < b.ac.who ∨ (a.ac.who = b.ac.who ∧ a.ac.cur < b.ac.cur) := by
  rw [dLt, decide_eq_true_iff]
  simp only [dueCmp, orI]
  rcases cmpI_cases a.ac.who b.ac.who with h | h | h <;> rcases cmpI_cases a.ac.cur b.ac.cur with k | k | k <;> rw [h.2, k.2] <;> simp <;> omega
theorem dLt_swo : Swo dLt where
  asym a b h := by
    have h := dLt_iff.1 h
    cases h2 : dLt b a with
    | false => rfl
    | true => have h2 := dLt_iff.1 h2; omega
  tr a b c h1 h2 := by
    cases h3 : dLt c a with
    | false => rfl
    | true =>
      exfalso
      have h3 := dLt_iff.1 h3
      have h1 : ¬ _ := fun h => by rw [dLt_iff.2 h] at h1; cases h1
      have h2 : ¬ _ := fun h => by rw [dLt_iff.2 h] at h2; cases h2
      omega
theorem dLt_ac {a b : LegV} (h : a.ac.kind = b.ac.kind) : dLt a b = acLt a.ac b.ac := by
  rw [Bool.eq_iff_iff, dLt_iff, acLt_iff]; omega
def dueSort (l : List LegV) : List LegV := isort dLt l
theorem K2.cons {x : LegV} {l : List LegV} (h : K2 (x :: l)) : x.ac.kind = 2 ∧ K2 l := ⟨h x (by simp), fun y hy => h y (by simp [hy])⟩
theorem insX_congr {x : LegV} : ∀ {l : List LegV}, x.ac.kind = 2 → K2 l → insX dLt x l = insX lgLt x l
  | [], _, _ => rfl
  | y :: l, hx, h => by
    have hy := h.cons
    simp only [insX, dLt_ac (hx.trans hy.1.symm), insX_congr hx hy.2]
theorem K2.ins {lt : LegV → LegV → Bool} {x : LegV} {l : List LegV} (hx : x.ac.kind = 2) (h : K2 l) : K2 (insX lt x l) := fun y hy => by
  rcases insX_mem.1 hy with rfl | hy
  · exact hx
  · exact h y hy
theorem isortA_congr : ∀ {l acc : List LegV}, K2 l → K2 acc → isortA dLt acc l = isortA lgLt acc l
  | [], acc, _, _ => rfl
  | x :: l, acc, h, ha => by
    have hx := h.cons
    simp only [isortA]
    rw [insX_congr hx.1 ha]
    exact isortA_congr hx.2 (ha.ins hx.1)
theorem dueSort_eq {l : List LegV} (h : K2 l) : dueSort l = legSort l := isortA_congr h (by intro x hx; cases hx)
theorem dueSort_len (l : List LegV) : (dueSort l).length = l.length := isort_len l
/- The sort at cells. -/
def dueD : List D → LegV
  | [.v (.int _ b), .v (.int _ c), .v (.int _ d)] => ⟨⟨2, b, c⟩, d⟩
  | _ => ⟨⟨0, 0, 0⟩, 0⟩
def isDue (x : List D) : Prop := ∃ b, x = dueC b
theorem okM_dues (l : List LegV) : okM isDue (l.map dueC) := fun e he => by
  obtain ⟨b, _, rfl⟩ := List.mem_map.1 he
  exact ⟨b, rfl⟩
def dueCmpD (x y : List D) : Int := dueCmp (dueD x) (dueD y)
theorem dueCmpD_swo : Swo (ltc dueCmpD) where
  asym a b h := dLt_swo.asym (dueD a) (dueD b) h
  tr a b c h1 h2 := dLt_swo.tr (dueD a) (dueD b) (dueD c) h1 h2
theorem sort_dues (l : List LegV) : isort (ltc dueCmpD) (l.map dueC) = (dueSort l).map dueC := isort_mapL dueC (fun a b => rfl) l
/- Each key once. -/
def dueEq (a b : LegV) : Bool := a.ac.who == b.ac.who && a.ac.cur == b.ac.cur
theorem dueEq_ac {a b : LegV} (h : a.ac.kind = b.ac.kind) : dueEq a b = acSame a.ac b.ac := by
  simp [dueEq, acSame, h]
def compT (p : LegV) : List LegV → List LegV
  | [] => []
  | y :: t => bif dueEq y p then compT y t else y :: compT y t
def comp : List LegV → List LegV
  | [] => []
  | x :: t => x :: compT x t
theorem compT_len : ∀ (p : LegV) (l : List LegV), (compT p l).length ≤ l.length
  | p, [] => by simp [compT]
  | p, y :: t => by
    have := compT_len y t
    simp only [compT]
    cases dueEq y p <;> simp <;> omega
theorem comp_len (l : List LegV) : (comp l).length ≤ l.length := by
  cases l with
  | nil => simp [comp]
  | cons x t => have := compT_len x t; simp only [comp, List.length_cons]; omega
theorem compT_mem {x : LegV} : ∀ {p : LegV} {l : List LegV}, x ∈ compT p l → x ∈ l
  | p, [], h => by simp [compT] at h
  | p, y :: t, h => by
    simp only [compT] at h
    cases hc : dueEq y p with
    | true => rw [hc] at h; exact List.mem_cons_of_mem _ (compT_mem h)
    | false =>
      rw [hc] at h
      rcases List.mem_cons.1 h with rfl | h
      · simp
      · exact List.mem_cons_of_mem _ (compT_mem h)
theorem compT_run {x : LegV} : ∀ {A B : List LegV} (p : LegV), p.ac = x.ac → K2 (x :: (A ++ B)) → (∀ a ∈ A, acSame a.ac x.ac = true) → (B = [] ∨ ∃ b t, B = b :: t ∧ acSame b.ac x.ac = false) → compT p (A ++ B) = comp B
  | [], B, p, hp, hk, _, hB => by
    rcases hB with rfl | ⟨b, t, rfl, hb⟩
    · rfl
    · have k1 := hk x (by simp)
      have k2 := hk b (by simp)
      simp only [List.nil_append, compT, comp]
      rw [dueEq_ac (by rw [hp, k1, k2]), hp, hb]; rfl
  | a :: A, B, p, hp, hk, hA, hB => by
    have ha := acSame_iff.1 (hA a (by simp))
    simp only [List.cons_append, compT]
    rw [dueEq_ac (by rw [hp, ha]), hp, ha, acSame_refl, cond_true]
    exact compT_run a ha (fun y hy => hk y (by simp at hy ⊢; rcases hy with h | h | h <;> simp [h])) (fun z hz => hA z (List.mem_cons_of_mem _ hz)) hB
theorem comp_run {x : LegV} {A B : List LegV} (hk : K2 (x :: (A ++ B))) (hA : ∀ a ∈ A, acSame a.ac x.ac = true) (hB : B = [] ∨ ∃ b t, B = b :: t ∧ acSame b.ac x.ac = false) : comp (x :: (A ++ B)) = x :: comp B := by
  show x :: compT x (A ++ B) = _
  rw [compT_run x rfl hk hA hB]
/- What one has of dues. -/
def rtOk (l : List LegV) : Bool := l.all fun x => rightN x.amt
def ofKey (who cur : Int) (l : List LegV) : List LegV := l.filter fun x => x.ac.who == who && x.ac.cur == cur
def grE (who cur : Int) (l : List LegV) : Int := bif rtOk l then sumE (amts (ofKey who cur l)) else 3
def grV (who cur : Int) (l : List LegV) : Int := bif rtOk l then sumV (amts (ofKey who cur l)) else 0
def badI : Nat → List LegV → Int
  | _, [] => -1
  | k, x :: t => bif !rightN x.amt then (k : Int) else badI (k + 1) t
theorem badI_ge : ∀ (l : List LegV) (k : Nat), decide (badI k l ≥ 0) = !rtOk l
  | [], k => by simp [badI, rtOk]
  | x :: t, k => by
    have ih := badI_ge t (k + 1)
    rcases Bool.eq_false_or_eq_true (rightN x.amt) with h | h
    · simp only [rtOk] at ih
      simp only [badI, rtOk, List.all_cons, h, Bool.not_true, cond_false, Bool.true_and]
      exact ih
    · simp [badI, rtOk, h]
theorem badI_rt (l : List LegV) : decide (badI 0 l ≥ 0) = !rtOk l := badI_ge l 0
theorem key_yes {w c : Int} {x : LegV} (h : (x.ac.who == w && x.ac.cur == c) = true) (l : List LegV) : amts (ofKey w c (l ++ [x])) = amts (ofKey w c l) ++ [x.amt] := by simp [ofKey, List.filter_append, h, amts]
theorem key_no {w c : Int} {x : LegV} (h : (x.ac.who == w && x.ac.cur == c) = false) (l : List LegV) : amts (ofKey w c (l ++ [x])) = amts (ofKey w c l) := by simp [ofKey, List.filter_append, h, amts]
theorem amts_key_len (w c : Int) (l : List LegV) : (amts (ofKey w c l)).length ≤ l.length := by
  rw [amts, List.length_map]; exact List.length_filter_le _ _
def netE (l : List LegV) : List LegV → Int
  | [] => 0
  | d :: ks => bif grE d.ac.who d.ac.cur l != 0 then grE d.ac.who d.ac.cur l else netE l ks
def netO (l : List LegV) : List LegV → List LegV
  | [] => []
  | d :: ks => (bif grV d.ac.who d.ac.cur l != 0 then [(⟨⟨2, d.ac.who, d.ac.cur⟩, grV d.ac.who d.ac.cur l⟩ : LegV)] else []) ++ netO l ks
def netR (l : List LegV) : Int := bif rtOk l then joinE (legSort l) else 3
def netV (l : List LegV) : List LegV := bif netR l == 0 then joinO (legSort l) else []
theorem rt_of {l : List LegV} (h : rtOk l = true) : Rt_ l := fun y hy => List.all_eq_true.1 h y hy
theorem key_sum {a : AcV} (ha : a.kind = 2) : ∀ {l : List LegV}, K2 l → (amts (ofKey a.who a.cur l)).sum = sumA a l
  | [], _ => rfl
  | x :: l, h => by
    have hx := h.cons
    have ih := key_sum ha hx.2
    have e : (x.ac.who == a.who && x.ac.cur == a.cur) = acSame x.ac a := by simp [acSame, hx.1, ha]
    simp only [ofKey, List.filter_cons, e] at ih ⊢
    cases hc : acSame x.ac a with
    | true => simp only [if_true, amts, List.map_cons, List.sum_cons, sumA, hc, cond_true] at ih ⊢; rw [ih]
    | false => simp only [Bool.false_eq_true, if_false, sumA, hc, cond_false] at ih ⊢; rw [ih]; omega
theorem key_rt {who cur : Int} {l : List LegV} (h : rtOk l = true) : (amts (ofKey who cur l)).all rightN = true := amts_rt fun y hy => rt_of h y (List.mem_filter.1 hy).1
theorem gr_ok {a : AcV} (ha : a.kind = 2) {l : List LegV} (hk : K2 l) (h : rtOk l = true) : grE a.who a.cur l = (bif rightN (sumA a l) then 0 else 1) ∧ grV a.who a.cur l = (bif rightN (sumA a l) then sumA a l else 0) := by
  have h1 := key_rt (who := a.who) (cur := a.cur) h
  have h2 := key_sum ha hk
  constructor
  · simp only [grE, h, cond_true, sumE, h1, h2]
  · simp only [grV, h, cond_true, sumV, h1, h2, Bool.true_and]
theorem net_join {l : List LegV} (hk : K2 l) (h : rtOk l = true) : ∀ (n : Nat) (S : List LegV), S.length ≤ n → Srt lgLt S → Rt_ S → K2 S → (∀ y ∈ S, sumA y.ac S = sumA y.ac l) → netE l (comp S) = joinE S ∧ netO l (comp S) = joinO S
  | _, [], _, _, _, _, _ => by simp [comp, netE, netO, joinE, joinO]
  | 0, x :: S, hn, _, _, _, _ => by simp at hn
  | n + 1, x :: S, hn, hs, hr, hkS, hsum => by
    obtain ⟨A, B, rfl, hA, hB⟩ := run_of x S
    have hj := join_step hA hB
    have hq := run_sums hs hA hB
    have hx := hkS.cons
    have hkB : K2 B := fun y hy => hkS y (by simp [hy])
    have hrA : Rt_ (x :: A) := fun y hy => hr y (by rcases List.mem_cons.1 hy with rfl | hy <;> simp [*])
    have hrB : Rt_ B := fun y hy => hr y (by simp [hy])
    have hBx : ∀ y ∈ B, acSame y.ac x.ac = false := by
      rcases hB with rfl | ⟨b, t, rfl, hb⟩
      · intro y hy; cases hy
      · exact srt_past (x := x) (List.pairwise_cons.2 ⟨fun y hy => (List.pairwise_cons.1 hs).1 y (List.mem_append_right _ hy), srt_drop (A := A) (List.pairwise_cons.1 hs).2⟩) hb
    have hBs : ∀ y ∈ B, sumA y.ac B = sumA y.ac l := fun y hy => by
      have := hq.2.2 y.ac (by
        cases hc : acSame x.ac y.ac with
        | false => rfl
        | true => have := hBx y hy; rw [acSame_iff.1 hc, acSame_refl] at this; cases this)
      rw [this]; exact hsum y (by simp [hy])
    have ih := net_join hk h n B (by simp at hn; omega) (srt_drop (A := x :: A) hs) hrB hkB hBs
    have hg := gr_ok hx.1 hk h
    have h1 := amts_rt hrA
    have hE : sumE (amts (x :: A)) = grE x.ac.who x.ac.cur l := by rw [sumE_rt h1, hq.1, hsum x (by simp), hg.1]
    have hV : sumV (amts (x :: A)) = grV x.ac.who x.ac.cur l := by rw [hg.2, sumV, h1, Bool.true_and, hq.1, hsum x (by simp)]
    have hxe : (⟨2, x.ac.who, x.ac.cur⟩ : AcV) = x.ac := by
      have := hx.1
      cases hxa : x.ac
      rw [hxa] at this
      simp only at this ⊢
      rw [this]
    rw [comp_run hkS hA hB, hj.1, hj.2, hE, hV]
    simp only [netE, netO, ih.1, ih.2, hxe]
    exact ⟨trivial, trivial⟩
theorem K2.sort {l : List LegV} (h : K2 l) : K2 (legSort l) := fun y hy => h y (legSort_mem.1 hy)
theorem net_of {l : List LegV} (hk : K2 l) (h : rtOk l = true) : netE l (comp (dueSort l)) = netR l ∧ (netR l = 0 → netO l (comp (dueSort l)) = netV l) := by
  have e := net_join hk h _ (legSort l) (Nat.le_refl _) (Srt_isort acLt_swo l) (fun y hy => rt_of h y (legSort_mem.1 hy)) hk.sort (fun y _ => sumA_sort _ _)
  rw [dueSort_eq hk, e.1, e.2]
  refine ⟨by simp only [netR, h, cond_true], fun h0 => by simp only [netV, h0]; rfl⟩
theorem netO_app (l : List LegV) : ∀ (A B : List LegV), netO l (A ++ B) = netO l A ++ netO l B
  | [], B => rfl
  | a :: A, B => by simp only [List.cons_append, netO, netO_app l A B, List.append_assoc]
theorem netO_len (l : List LegV) : ∀ (A : List LegV), (netO l A).length ≤ A.length
  | [] => by simp [netO]
  | a :: A => by
    have := netO_len l A
    simp only [netO, List.length_append, List.length_cons]
    cases (grV a.ac.who a.ac.cur l != 0) <;> simp <;> omega
theorem netO_yes {l : List LegV} {x : LegV} (h : (grV x.ac.who x.ac.cur l != 0) = true) (A : List LegV) : netO l (A ++ [x]) = netO l A ++ [⟨⟨2, x.ac.who, x.ac.cur⟩, grV x.ac.who x.ac.cur l⟩] := by
  rw [netO_app]; simp only [netO, h, cond_true, List.append_nil]
theorem netO_no {l : List LegV} {x : LegV} (h : (grV x.ac.who x.ac.cur l != 0) = false) (A : List LegV) : netO l (A ++ [x]) = netO l A := by
  rw [netO_app]; simp only [netO, h, cond_false, List.append_nil]
theorem netV_len (l : List LegV) : (netV l).length ≤ l.length := by
  simp only [netV]
  cases netR l == 0 with
  | true => have := joinO_len (legSort l); rw [legSort_len] at this; exact this
  | false => simp
/- The compaction, step by step. -/
def zDue : List D := [iv 0, iv 0, iv 0]
def compZ (l : List LegV) : List (List D) := (comp l).map dueC ++ List.replicate (l.length - (comp l).length) zDue
theorem compZ_flat (l : List LegV) : ∀ x, x ∈ compZ l → flatDs x := fun x hx => by
  rcases List.mem_append.1 hx with hx | hx
  · obtain ⟨y, _, rfl⟩ := List.mem_map.1 hx
    simp [flatDs, flatD, dueC]
  · rw [List.eq_of_mem_replicate hx]; simp [flatDs, flatD, zDue]
theorem dues_flat (l : List LegV) : ∀ x, x ∈ l.map dueC → flatDs x := fun x hx => by
  obtain ⟨y, _, rfl⟩ := List.mem_map.1 hx
  simp [flatDs, flatD, dueC]
theorem compZ_self {l : List LegV} (h : comp l = l) : compZ l = l.map dueC := by simp [compZ, h]
theorem compZ_len (l : List LegV) : (compZ l).length = l.length := by
  have := comp_len l
  simp [compZ]; omega
def CmO (l P : List LegV) (p : LegV) (R : List LegV) : Prop := l = P ++ p :: R ∧ comp l = P ++ p :: compT p R
theorem CmO.start (x : LegV) (t : List LegV) : CmO (x :: t) [] x t := ⟨rfl, rfl⟩
theorem CmO.next {l P R : List LegV} {p y : LegV} (h : CmO l P p (y :: R)) (hy : dueEq y p = false) : CmO l (P ++ [p]) y R := by
  obtain ⟨h1, h2⟩ := h
  refine ⟨by rw [h1]; simp, ?_⟩
  rw [h2, compT, hy]; simp
theorem CmO.all {l P : List LegV} {p : LegV} (h : CmO l P p []) : comp l = l := by rw [h.2, h.1]; rfl
theorem comp_short {l : List LegV} (h : l.length < 2) : comp l = l := by
  match l, h with
  | [], _ => rfl
  | [x], _ => rfl
  | x :: y :: t, h => simp at h; omega
def CmI (l H W J : List LegV) (q : LegV) (B M : List LegV) : Prop := M = H ++ (W ++ (J ++ q :: B)) ∧ comp l = H ++ (W ++ compT q B) ∧ M.length = l.length
theorem CmO.dup {l P R : List LegV} {p y : LegV} (h : CmO l P p (y :: R)) (hy : dueEq y p = true) : CmI l (P ++ [p]) [] [] y R l := by
  obtain ⟨h1, h2⟩ := h
  refine ⟨by rw [h1]; simp, ?_, rfl⟩
  rw [h2, compT, hy]; simp
theorem CmI.skip {l H W J B M : List LegV} {q b : LegV} (h : CmI l H W J q (b :: B) M) (hb : dueEq b q = true) : CmI l H W (J ++ [q]) b B M := by
  obtain ⟨h1, h2, h3⟩ := h
  refine ⟨by rw [h1]; simp, ?_, h3⟩
  rw [h2, compT, hb]; rfl
theorem CmI.take {l H W J B M : List LegV} {q b : LegV} (h : CmI l H W J q (b :: B) M) (hb : dueEq b q = false) : CmI l H (W ++ [b]) (J ++ [q]).tail b B (M.set (H.length + W.length) b) := by
  obtain ⟨h1, h2, h3⟩ := h
  refine ⟨?_, ?_, by rw [List.length_set]; exact h3⟩
  · obtain ⟨z, T, hT⟩ : ∃ z T, J ++ q :: b :: B = z :: T := by cases J with
      | nil => exact ⟨_, _, rfl⟩
      | cons j J => exact ⟨_, _, rfl⟩
    have e : M = (H ++ W) ++ z :: T := by rw [h1, hT]; simp
    have e2 : T = (J ++ [q]).tail ++ b :: B := by
      have := congrArg List.tail hT
      simp only [List.tail_cons] at this
      rw [← this]
      cases J <;> simp
    rw [e, show H.length + W.length = (H ++ W).length by simp, e2]
    simp
  · rw [h2, compT, hb]; simp
theorem CmI.fin {l H W J M : List LegV} {q : LegV} (h : CmI l H W J q [] M) : comp l = H ++ W ∧ M = (H ++ W) ++ (J ++ [q]) ∧ (H ++ W).length + (J.length + 1) = l.length := by
  obtain ⟨h1, h2, h3⟩ := h
  have e : M = (H ++ W) ++ (J ++ [q]) := by rw [h1]; simp
  refine ⟨by rw [h2]; simp [compT], e, ?_⟩
  rw [← h3, e]; simp; omega
theorem clr_comp {l H W J M : List LegV} {q : LegV} (h : CmI l H W J q [] M) : clrEls (aV (M.map dueC)) (H ++ W).length (J.length + 1) [.int .i64 0, .int .i64 0, .int .i64 0] = aV (compZ l) := by
  obtain ⟨h1, h2, h3⟩ := h.fin
  have e1 : l.length - (H ++ W).length = J.length + 1 := by omega
  have e2 : aV (M.map dueC) = aV ((H ++ W).map dueC) ++ aV ((J ++ [q]).map dueC) := by rw [h2]; simp [aV]
  have e3 : (aV ((H ++ W).map dueC)).length = (H ++ W).length := by simp [aV]
  have e4 : (aV ((J ++ [q]).map dueC)).length = J.length + 1 := by simp [aV]
  unfold clrEls
  rw [e2, List.take_left' e3, List.drop_of_length_le (by rw [List.length_append]; omega), List.append_nil, compZ, h1, e1]
  simp [aV, zDue]
theorem aV_dset (M : List LegV) (k : Nat) (b : LegV) : (aV (M.map dueC)).set k [.d (iv b.ac.who), .d (iv b.ac.cur), .d (iv b.amt)] = aV ((M.set k b).map dueC) := by simp [aV, dueC, List.map_set]
theorem due_at {M A B : List LegV} {x : LegV} {n : Nat} (h : M = A ++ x :: B) (hn : n = A.length) : (M.map dueC).getD n [] = [iv x.ac.who, iv x.ac.cur, iv x.amt] := by
  rw [h, List.map_append]; exact gd_mid' (A := A.map dueC) _ _ (by simpa using hn)
end Go.Proofs.Ytcpkhnciplfmkaa
