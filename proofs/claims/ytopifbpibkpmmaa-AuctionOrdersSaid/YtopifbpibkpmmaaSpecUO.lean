/- Bids in order: which one of those handed in stands where. In plain Lean. No condition. -/
import Derived.Test.YtopifbpibkpmmaaSpecU
namespace Go.Proofs.Ytopifbpibkpmmaa
open Go.RowKit
set_option linter.unusedVariables false
set_option linter.unusedSimpArgs false
def bidEq (a b : BidV) : Bool := a.who == b.who && a.inst == b.inst && (a.frm == b.frm && (a.qty == b.qty && a.price == b.price))
theorem bidEq_iff {a b : BidV} : bidEq a b = true ↔ a = b := by
  obtain ⟨a1, a2, a3, a4, a5⟩ := a
  obtain ⟨b1, b2, b3, b4, b5⟩ := b
  simp only [bidEq, Bool.and_eq_true, beq_iff_eq, BidV.mk.injEq]
  constructor <;> intro h <;> simp_all
def bz : BidV := ⟨0, 0, 0, 0, 0⟩
theorem isortA_memO {α : Type} {lt : α → α → Bool} {z : α} : ∀ {l acc : List α}, z ∈ isortA lt acc l ↔ z ∈ acc ∨ z ∈ l
  | [], acc => by simp [isortA]
  | x :: l, acc => by
    simp only [isortA, isortA_memO (l := l), insX_mem, List.mem_cons]
    constructor
    · rintro ((h | h) | h) <;> simp [h]
    · rintro (h | h | h) <;> simp [h]
def pLt (long : Bool) (p q : BidV × Nat) : Bool := bidLt long p.1 q.1
theorem pLt_swo (long : Bool) : Swo (pLt long) where
  asym a b h := (bidLt_swo long).asym a.1 b.1 h
  tr a b c h1 h2 := (bidLt_swo long).tr a.1 b.1 c.1 h1 h2
def mord (long : Bool) (l : List BidV) : List (BidV × Nat) := isort (pLt long) l.zipIdx
theorem mord_fst (long : Bool) (l : List BidV) : (mord long l).map Prod.fst = bidOrder long l := by
  rw [mord, ← isort_map Prod.fst (lt := pLt long) (lt' := bidLt long) (fun a b => rfl)]; simp [bidOrder]
def pR (long : Bool) (p q : BidV × Nat) : Prop := pLt long p q = true ∨ (pLt long q p = false ∧ p.2 < q.2)
theorem insX_pR {long : Bool} {x : BidV × Nat} : ∀ {l : List (BidV × Nat)}, l.Pairwise (pR long) → (∀ y ∈ l, y.2 < x.2) → (insX (pLt long) x l).Pairwise (pR long)
  | [], _, _ => by simp [insX]
  | y :: l, h, hx => by
    have h1 := List.pairwise_cons.1 h
    simp only [insX]
    cases e : pLt long x y with
    | true =>
      simp only [cond_true, List.pairwise_cons]
      refine ⟨fun z hz => ?_, h1.1, h1.2⟩
      rcases List.mem_cons.1 hz with rfl | hz
      · exact Or.inl e
      · left
        have hyz : pLt long z y = false := by
          rcases h1.1 z hz with h | h
          · exact (pLt_swo long).asym _ _ h
          · exact h.1
        cases e2 : pLt long x z with
        | true => rfl
        | false => rw [(pLt_swo long).tr y z x hyz e2] at e; cases e
    | false =>
      simp only [cond_false, List.pairwise_cons]
      refine ⟨fun z hz => ?_, insX_pR h1.2 fun z hz => hx z (List.mem_cons_of_mem _ hz)⟩
      rcases insX_mem.1 hz with rfl | hz
      · exact Or.inr ⟨e, hx y (by simp)⟩
      · exact h1.1 z hz
theorem isortA_pR {long : Bool} : ∀ {l acc : List (BidV × Nat)}, acc.Pairwise (pR long) → (∀ y ∈ acc, ∀ x ∈ l, y.2 < x.2) → l.Pairwise (fun a b => a.2 < b.2) → (isortA (pLt long) acc l).Pairwise (pR long)
  | [], acc, h, _, _ => h
  | x :: l, acc, h, hx, hl => by
    have h1 := List.pairwise_cons.1 hl
    refine isortA_pR (l := l) (insX_pR h fun y hy => hx y hy x (by simp)) (fun y hy z hz => ?_) h1.2
    rcases insX_mem.1 hy with rfl | hy
    · exact h1.1 z hz
    · exact hx y hy z (List.mem_cons_of_mem _ hz)
theorem zip_asc {α : Type} : ∀ (l : List α) (k : Nat), (l.zipIdx k).Pairwise (fun a b => a.2 < b.2) := by
  intro l
  induction l with
  | nil => intro k; simp
  | cons x l ih =>
    intro k
    simp only [List.zipIdx_cons, List.pairwise_cons]
    refine ⟨fun p hp => ?_, ih (k + 1)⟩
    have := List.le_snd_of_mem_zipIdx hp
    exact this
theorem mord_pw (long : Bool) (l : List BidV) : (mord long l).Pairwise (pR long) := isortA_pR List.Pairwise.nil (by simp) (zip_asc l 0)
theorem mord_len (long : Bool) (l : List BidV) : (mord long l).length = l.length := by rw [mord, isort_len]; simp
theorem mord_mem {long : Bool} {l : List BidV} {p : BidV × Nat} : p ∈ mord long l ↔ l[p.2]? = some p.1 := by
  rw [mord, isort, isortA_memO]
  simp only [List.not_mem_nil, false_or]
  obtain ⟨b, k⟩ := p
  exact List.mk_mem_zipIdx_iff_getElem?
theorem mord_nd (long : Bool) (l : List BidV) : ((mord long l).map Prod.snd).Nodup := by
  rw [List.Nodup, List.pairwise_map]
  refine (mord_pw long l).imp_of_mem fun {a b} ha hb h c => ?_
  have h1 := mord_mem.1 ha
  have h2 := mord_mem.1 hb
  rw [c, h2] at h1
  have e : b.1 = a.1 := by injection h1
  rcases h with h | h
  · have h3 := (pLt_swo long).asym _ _ h
    simp only [pLt, e] at h h3
    rw [h] at h3; cases h3
  · omega
def atO (long : Bool) (l : List BidV) (i : Nat) : Nat := ((mord long l).map Prod.snd).getD i 0
def usedO (long : Bool) (l : List BidV) (i : Nat) : List Bool := (List.range l.length).map fun k => decide (k ∈ ((mord long l).map Prod.snd).take i)
def wasO (long : Bool) (l : List BidV) : Nat → Int
  | 0 => -1
  | i + 1 => (atO long l i : Int)
theorem usedO_len (long : Bool) (l : List BidV) (i : Nat) : (usedO long l i).length = l.length := by simp [usedO]
theorem usedO_get {long : Bool} {l : List BidV} {i k : Nat} (h : k < l.length) : (usedO long l i).getD k false = decide (k ∈ ((mord long l).map Prod.snd).take i) := by
  simp [usedO, List.getD_eq_getElem?_getD, h]
theorem usedO_zero (long : Bool) (l : List BidV) : usedO long l 0 = List.replicate l.length false := by simp [usedO, List.map_const']
theorem mord_i {long : Bool} {l : List BidV} {i : Nat} (h : i < l.length) : ∃ p, (mord long l)[i]? = some p ∧ p.2 = atO long l i ∧ p.1 = (bidOrder long l).getD i bz ∧ p ∈ mord long l := by
  have hm : i < (mord long l).length := by rw [mord_len]; exact h
  refine ⟨(mord long l)[i], List.getElem?_eq_getElem hm, ?_, ?_, List.getElem_mem hm⟩
  · simp [atO, List.getD_eq_getElem?_getD, hm]
  · rw [← mord_fst]; simp [List.getD_eq_getElem?_getD, hm]
theorem atO_lt {long : Bool} {l : List BidV} {i : Nat} (h : i < l.length) : atO long l i < l.length := by
  obtain ⟨p, h1, h2, h3, h4⟩ := mord_i (long := long) h
  rw [← h2]
  have := mord_mem.1 h4
  exact (List.getElem?_eq_some_iff.1 this).1
theorem atO_get {long : Bool} {l : List BidV} {i : Nat} (h : i < l.length) : l.getD (atO long l i) bz = (bidOrder long l).getD i bz := by
  obtain ⟨p, h1, h2, h3, h4⟩ := mord_i (long := long) h
  rw [← h2, ← h3, List.getD_eq_getElem?_getD, mord_mem.1 h4]; rfl
theorem snd_take {long : Bool} {l : List BidV} {i : Nat} (h : i < l.length) : ((mord long l).map Prod.snd).take (i + 1) = ((mord long l).map Prod.snd).take i ++ [atO long l i] := by
  have hm : i < ((mord long l).map Prod.snd).length := by rw [List.length_map, mord_len]; exact h
  rw [List.take_add_one, atO, List.getD_eq_getElem?_getD, List.getElem?_eq_getElem hm]; rfl
theorem used_at {long : Bool} {l : List BidV} {i : Nat} (h : i < l.length) : (usedO long l i).getD (atO long l i) false = false := by
  rw [usedO_get (atO_lt h)]
  refine decide_eq_false fun hc => ?_
  have hnd := mord_nd long l
  rw [← List.take_append_drop (i + 1) ((mord long l).map Prod.snd), snd_take h] at hnd
  have := (List.nodup_append.1 (List.nodup_append.1 hnd).1).2.2 _ hc _ (List.mem_singleton.2 rfl)
  exact this rfl
theorem used_set {long : Bool} {l : List BidV} {i : Nat} (h : i < l.length) : (usedO long l i).set (atO long l i) true = usedO long l (i + 1) := by
  apply List.ext_getElem (by simp [usedO])
  intro k h1 h2
  have hk : k < l.length := by simpa [usedO] using h2
  simp only [List.getElem_set, usedO, List.getElem_map, List.getElem_range, snd_take h, List.mem_append, List.mem_singleton]
  by_cases e : atO long l i = k
  · simp [e]
  · have e2 : ¬ k = atO long l i := fun c => e c.symm
    simp [e, e2]
theorem used_lo {long : Bool} {l : List BidV} {i k : Nat} (h : i < l.length) (hk : k < atO long l i) : (!(usedO long l i).getD k false && bidEq ((bidOrder long l).getD i bz) (l.getD k bz)) = false := by
  have hkl : k < l.length := Nat.lt_trans hk (atO_lt h)
  rw [usedO_get hkl]
  cases hb : bidEq ((bidOrder long l).getD i bz) (l.getD k bz) with
  | false => simp
  | true =>
    have e := bidEq_iff.1 hb
    obtain ⟨p, h1, h2, h3, h4⟩ := mord_i (long := long) h
    have hq : (l.getD k bz, k) ∈ mord long l := mord_mem.2 (by rw [List.getD_eq_getElem?_getD, List.getElem?_eq_getElem hkl]; rfl)
    obtain ⟨j, hj, hje⟩ := List.mem_iff_getElem.1 hq
    have hji : j < i := by
      rcases Nat.lt_trichotomy j i with c | c | c
      · exact c
      · subst c
        rw [List.getElem?_eq_getElem hj, hje] at h1
        injection h1 with h1
        rw [← h1] at h2; simp only at h2; omega
      · exfalso
        have hm : i < (mord long l).length := by rw [mord_len]; exact h
        have hr := List.pairwise_iff_getElem.1 (mord_pw long l) i j hm hj c
        rw [List.getElem?_eq_getElem hm] at h1
        injection h1 with h1
        rw [h1, hje] at hr
        rcases hr with hr | hr
        · simp only [pLt, h3, ← e] at hr
          have := (bidLt_swo long).asym _ _ hr
          rw [hr] at this; cases this
        · have := hr.2; simp only [h2] at this; omega
    have : k ∈ ((mord long l).map Prod.snd).take i := by
      rw [← List.map_take]
      refine List.mem_map.2 ⟨(l.getD k bz, k), ?_, rfl⟩
      rw [← hje]
      exact List.mem_take_iff_getElem.2 ⟨j, by omega, rfl⟩
    simp [this]
theorem used_hit {long : Bool} {l : List BidV} {i : Nat} (h : i < l.length) : (!(usedO long l i).getD (atO long l i) false && bidEq ((bidOrder long l).getD i bz) (l.getD (atO long l i) bz)) = true := by
  rw [used_at h, atO_get h, bidEq_iff.2 rfl]; rfl
theorem ord_cond {long : Bool} {l : List BidV} {i : Nat} (h : i + 1 < l.length) :
    ((((bidOrder long l).getD i bz).price != ((bidOrder long l).getD (i + 1) bz).price && (decide (((bidOrder long l).getD i bz).price > ((bidOrder long l).getD (i + 1) bz).price) != long)) ||
     (((bidOrder long l).getD i bz).price == ((bidOrder long l).getD (i + 1) bz).price && (decide (((bidOrder long l).getD i bz).frm > ((bidOrder long l).getD (i + 1) bz).frm) || (((bidOrder long l).getD i bz).frm == ((bidOrder long l).getD (i + 1) bz).frm && decide ((atO long l i : Int) > (atO long l (i + 1) : Int)))))) = false := by
  obtain ⟨p, p1, p2, p3, p4⟩ := mord_i (long := long) (l := l) (i := i) (by omega)
  obtain ⟨q, q1, q2, q3, q4⟩ := mord_i (long := long) h
  have hm : i + 1 < (mord long l).length := by rw [mord_len]; exact h
  have hr := List.pairwise_iff_getElem.1 (mord_pw long l) i (i + 1) (by omega) hm (by omega)
  rw [List.getElem?_eq_getElem (by omega)] at p1
  rw [List.getElem?_eq_getElem hm] at q1
  injection p1 with p1
  injection q1 with q1
  rw [p1, q1] at hr
  rw [← p3, ← q3, ← p2, ← q2]
  have hr : bidAhead long p.1 q.1 ∨ (¬ bidAhead long q.1 p.1 ∧ p.2 < q.2) := by
    rcases hr with hr | hr
    · exact .inl (bidLt_iff.1 hr)
    · refine .inr ⟨fun c => ?_, hr.2⟩
      have h1 := hr.1
      simp only [pLt] at h1
      rw [bidLt_iff.2 c] at h1; cases h1
  simp only [bidAhead] at hr
  generalize p.1.price = a at *
  generalize q.1.price = b at *
  generalize p.1.frm = c at *
  generalize q.1.frm = d at *
  cases long <;> simp at hr ⊢ <;> omega
theorem isortA_id {α : Type} {lt : α → α → Bool} : ∀ {l acc : List α}, Srt lt (acc ++ l) → isortA lt acc l = acc ++ l
  | [], acc, _ => by simp [isortA]
  | x :: l, acc, h => by
    have h1 := (List.pairwise_append.1 h).2.2
    have e : insX lt x acc = acc ++ [x] := by
      have := insX_mid (lt := lt) (x := x) (A := acc) (B := []) (fun a ha => h1 a ha x (by simp)) (by simp)
      simpa using this
    simp only [isortA, e]
    rw [isortA_id (l := l) (by simpa using h)]; simp
theorem bidOrder_again (long : Bool) (l : List BidV) : bidOrder long (bidOrder long l) = bidOrder long l := by
  have h := Srt_isort (bidLt_swo long) l
  have := isortA_id (l := isort (bidLt long) l) (acc := []) (by simpa using h)
  simpa [bidOrder, isort] using this
/- Pieces of one item. -/
theorem one_of {l : List BidV} {i : Nat} (h : i < l.length) : ((l.map bidC).take (i + 1)).drop i = [l.getD i bz].map bidC := by
  rw [← List.map_take, ← List.map_drop]
  congr 1
  rw [List.take_add_one, List.getElem?_eq_getElem h, List.drop_append_of_le_length (by simp; omega)]
  simp [List.getD_eq_getElem?_getD, h]
theorem bidsD_get {l : List BidV} {i : Nat} (h : i < l.length) : (l.map bidC).getD i [] = bidC (l.getD i bz) := by
  simp [List.getD_eq_getElem?_getD, List.getElem?_eq_getElem h]
theorem get_u {L : List Bool} {i : Nat} (h : i < L.length) : ((L.map fun b => [D.v (.bool b)]).map fun x => x.map AV.d).getD i [] = [.d (.v (.bool (L.getD i false)))] := by
  simp [List.getD_eq_getElem?_getD, List.getElem?_eq_getElem h]
theorem set_u (L : List Bool) (i : Nat) (b : Bool) : ((L.map fun b => [D.v (.bool b)]).map fun x => x.map AV.d).set i [.d (.v (.bool b))] = (((L.set i b).map fun b => [D.v (.bool b)]).map fun x => x.map AV.d) := by
  rw [List.map_set, List.map_set]; rfl
end Go.Proofs.Ytopifbpibkpmmaa
