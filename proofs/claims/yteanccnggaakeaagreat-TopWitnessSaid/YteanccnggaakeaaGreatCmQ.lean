/- Regions whose order is drawn: what the text alone tells. No condition. -/
import Derived.Test.YteanccnggaakeaaGreatCmP
namespace Go.Proofs.YteanccnggaakeaaGreat
open Go.RowKit
set_option linter.unusedVariables false
set_option linter.unusedSimpArgs false

/- Edges that bind. -/
def bnd (e : Edge) : Bool := Region.binds .any e
def Closed (ops : List Oper) (L : Nat → Bool) : Prop := ∀ j o, ops[j]? = some o → L j = true → ∀ e ∈ o.after, bnd e = true → L e.on = true
/- i has been carried out wherever j may be. -/
def Before (ops : List Oper) (i j : Nat) : Prop := ∀ L, Closed ops L → (∀ o, ops[j]? = some o → ∀ e ∈ o.after, bnd e = true → L e.on = true) → L i = true
theorem Before.of_listed {ops : List Oper} {i j : Nat} {o : Oper} (h : Before ops i j) {L : Nat → Bool} (hc : Closed ops L) (hj : L j = true) : L i = true :=
  h L hc fun o ho => hc j o ho hj
/- The temporaries that an operation looks at. -/
def looks (ops : List Oper) (o : Oper) : List Nat := (o.op.operands.toList.filterMap fun | .tmp t => some t | _ => none) ++ (match gTmp ops o with | some (d, _) => [d] | none => [])
theorem looks_op {ops : List Oper} {o : Oper} {x : Operand} {t : Nat} (hx : x ∈ o.op.operands.toList) (ht : x = .tmp t) : t ∈ looks ops o := by
  subst ht
  exact List.mem_append_left _ (List.mem_filterMap.2 ⟨.tmp t, hx, rfl⟩)
theorem looks_g {ops : List Oper} {o : Oper} {d : Nat} {b : Bool} (h : gTmp ops o = some (d, b)) : d ∈ looks ops o := by
  refine List.mem_append_right _ ?_
  rw [h]
  simp
structure Inf where
  i : Nat
  dst : Option Nat
  lk : List Nat
  kd : Kd
  m : Nat
def Kd.heavyB : Kd → Bool
  | .heavy => true
  | _ => false
def Kd.lightB : Kd → Bool
  | .light => true
  | _ => false
def Kd.loadB : Kd → Bool
  | .load => true
  | _ => false
def mask (ms : List Nat) (es : List Edge) : Nat := es.foldl (fun m e => if bnd e then m ||| (1 <<< e.on) ||| ms.getD e.on 0 else m) 0
def infs (all : List Oper) : List Oper → Nat → List Nat → Option (List Inf)
  | [], _, _ => some []
  | o :: l, k, ms => if (o.after.toList.all fun e => !bnd e || Nat.blt e.on k) = true then (infs all l (k + 1) (ms ++ [mask ms o.after.toList])).map (⟨k, o.dst, looks all o, kd o.op, mask ms o.after.toList⟩ :: ·) else none
def hasD (d : Option Nat) (l : List Nat) : Bool := match d with | some d => l.contains d | none => false
def sameD : Option Nat → Option Nat → Bool
  | some a, some b => a == b
  | _, _ => false
/- Of two operations, a ahead of b in the text. -/
def okPair (a b : Inf) : Bool := b.m.testBit a.i || !(hasD a.dst b.lk || hasD b.dst a.lk || (b.kd.heavyB && (a.kd.heavyB || a.kd.lightB)))
def pr (a b : Inf) : Option (Nat × Nat) := if b.m.testBit a.i then none else if a.kd.loadB && b.kd.heavyB then some (a.i, b.i) else if a.kd.heavyB && b.kd.loadB then some (b.i, a.i) else none
def prs : List Inf → Bool
  | [] => true
  | a :: l => !hasD a.dst a.lk && l.all (fun b => okPair a b && !sameD a.dst b.dst) && prs l
def psL : List Inf → List (Nat × Nat)
  | [] => []
  | a :: l => l.filterMap (pr a) ++ psL l
def dr (ops : List Oper) : Option (List (Nat × Nat)) := match infs ops ops 0 [] with | some l => if prs l then some (psL l) else none | none => none

theorem mask_bit {ms : List Nat} : ∀ {es : List Edge} {m i : Nat}, (es.foldl (fun m e => if bnd e then m ||| (1 <<< e.on) ||| ms.getD e.on 0 else m) m).testBit i = true → m.testBit i = true ∨ ∃ e ∈ es, bnd e = true ∧ (i = e.on ∨ (ms.getD e.on 0).testBit i = true)
  | [], m, i, h => .inl h
  | e :: es, m, i, h => by
    simp only [List.foldl_cons] at h
    rcases mask_bit h with h | ⟨e', h1, h2, h3⟩
    · split at h
      · rename_i hb
        simp only [Nat.testBit_or, Bool.or_eq_true] at h
        rcases h with (h | h) | h
        · exact .inl h
        · refine .inr ⟨e, by simp, hb, .inl ?_⟩
          rw [Nat.one_shiftLeft, Nat.testBit_two_pow] at h
          exact (of_decide_eq_true h).symm
        · exact .inr ⟨e, by simp, hb, .inr h⟩
      · exact .inl h
    · exact .inr ⟨e', by simp [h1], h2, h3⟩
theorem mask_before {ops : List Oper} {ms : List Nat} {j : Nat} {o : Oper} (ho : ops[j]? = some o) (hms : ∀ q i, (ms.getD q 0).testBit i = true → Before ops i q) {i : Nat} (h : (mask ms o.after.toList).testBit i = true) : Before ops i j := fun L hc hr => by
  rcases mask_bit h with h | ⟨e, h1, h2, h3⟩
  · simp at h
  · have he := hr o ho e (by simpa using h1) h2
    rcases h3 with rfl | h3
    · exact he
    · exact (hms _ _ h3) L hc fun o' ho' => hc _ o' ho' he
structure InfOK (ops : List Oper) (j : Nat) (o : Oper) (a : Inf) : Prop where
  i : a.i = j
  dst : a.dst = o.dst
  lk : a.lk = looks ops o
  kd : a.kd = Go.Proofs.YteanccnggaakeaaGreat.kd o.op
  m : ∀ i, a.m.testBit i = true → Before ops i j
  after : ∀ e ∈ o.after, bnd e = true → e.on < j
theorem infs_get {ops : List Oper} : ∀ {l : List Oper} {k : Nat} {ms : List Nat} {is : List Inf}, infs ops l k ms = some is → (∀ j, l[j]? = ops[k + j]?) → ms.length = k → (∀ q i, (ms.getD q 0).testBit i = true → Before ops i q) →
    ∀ j o, l[j]? = some o → ∃ a, is[j]? = some a ∧ InfOK ops (k + j) o a
  | [], k, ms, is, h, _, _, _, j, o, ho => by simp at ho
  | o0 :: l, k, ms, is, h, hl, hk, hms, j, o, ho => by
    simp only [infs] at h
    split at h
    · rename_i hb
      obtain ⟨is', h1, rfl⟩ := Option.map_eq_some_iff.1 h
      have ho0 : ops[k]? = some o0 := by simpa using (hl 0).symm
      have hm0 : ∀ i, (mask ms o0.after.toList).testBit i = true → Before ops i k := fun i hi => mask_before ho0 hms hi
      cases j with
      | zero =>
        simp at ho
        subst ho
        refine ⟨⟨k, o0.dst, looks ops o0, kd o0.op, mask ms o0.after.toList⟩, by simp, ?_⟩
        rw [Nat.add_zero]
        refine ⟨rfl, rfl, rfl, rfl, hm0, fun e he hbe => ?_⟩
        have := List.all_eq_true.1 hb e (by simpa using he)
        simp only [hbe, Bool.not_true, Bool.false_or] at this
        exact blt_t this
      | succ j =>
        obtain ⟨a, k1, k2⟩ := infs_get h1 (fun j => by have := hl (j + 1); simpa [Nat.add_assoc, Nat.add_comm 1 j] using this) (by simp [hk]) (fun q i hq => by
          rw [List.getD_eq_getElem?_getD, List.getElem?_append] at hq
          split at hq
          · exact hms q i (by rw [List.getD_eq_getElem?_getD]; exact hq)
          · rename_i hge
            by_cases hqe : q = ms.length
            · subst hqe
              simp at hq
              rw [hk]
              exact hm0 i hq
            · rw [List.getElem?_eq_none (by simp; omega)] at hq
              simp at hq) j o (by simpa using ho)
        exact ⟨a, by simpa using k1, by rw [show k + (j + 1) = k + 1 + j by omega]; exact k2⟩
    · cases h
theorem prs_get : ∀ {l : List Inf}, prs l = true → ∀ {i j : Nat} {a b : Inf}, i < j → l[i]? = some a → l[j]? = some b → okPair a b = true ∧ sameD a.dst b.dst = false ∧ ∀ p, pr a b = some p → p ∈ psL l
  | [], h, i, j, a, b, hij, ha, hb => by simp at ha
  | c :: l, h, i, j, a, b, hij, ha, hb => by
    simp only [prs, Bool.and_eq_true, List.all_eq_true] at h
    obtain ⟨⟨h1, h2⟩, h3⟩ := h
    cases j with
    | zero => omega
    | succ j =>
      have hb : l[j]? = some b := by simpa using hb
      cases i with
      | zero =>
        simp at ha
        subst ha
        obtain ⟨k1, k2⟩ := h2 b (List.mem_of_getElem? hb)
        refine ⟨k1, by simpa using k2, fun p hp => ?_⟩
        simp only [psL]
        exact List.mem_append_left _ (List.mem_filterMap.2 ⟨b, List.mem_of_getElem? hb, hp⟩)
      | succ i =>
        obtain ⟨k1, k2, k3⟩ := prs_get h3 (i := i) (j := j) (by omega) (by simpa using ha) hb
        refine ⟨k1, k2, fun p hp => ?_⟩
        simp only [psL]
        exact List.mem_append_right _ (k3 p hp)
theorem prs_self : ∀ {l : List Inf}, prs l = true → ∀ {i : Nat} {a : Inf}, l[i]? = some a → hasD a.dst a.lk = false
  | [], h, i, a, ha => by simp at ha
  | c :: l, h, i, a, ha => by
    simp only [prs, Bool.and_eq_true] at h
    cases i with
    | zero =>
      simp at ha
      subst ha
      simpa using h.1.1
    | succ i => exact prs_self h.2 (by simpa using ha)
/- What the text tells of a region. -/
structure DrOK (ops : List Oper) (ps : List (Nat × Nat)) : Prop where
  after : ∀ j o, ops[j]? = some o → ∀ e ∈ o.after, bnd e = true → e.on < j
  look : ∀ (i j : Nat) (oi oj : Oper) (t : Nat), ops[i]? = some oi → ops[j]? = some oj → oi.dst = some t → t ∈ looks ops oj → (i < j ∧ Before ops i j) ∨ (j < i ∧ Before ops j i)
  dst : ∀ (i j : Nat) (oi oj : Oper) (t : Nat), ops[i]? = some oi → ops[j]? = some oj → oi.dst = some t → oj.dst = some t → i = j
  heavy : ∀ (i j : Nat) (oi oj : Oper), ops[i]? = some oi → ops[j]? = some oj → i < j → kd oj.op = .heavy → kd oi.op = .heavy ∨ kd oi.op = .light → Before ops i j
  load : ∀ (i j : Nat) (oi oj : Oper), ops[i]? = some oi → ops[j]? = some oj → kd oi.op = .load → kd oj.op = .heavy → Before ops i j ∨ Before ops j i ∨ (i, j) ∈ ps
theorem heavyB_eq {k : Kd} : k.heavyB = true ↔ k = .heavy := by cases k <;> simp [Kd.heavyB]
theorem lightB_eq {k : Kd} : k.lightB = true ↔ k = .light := by cases k <;> simp [Kd.lightB]
theorem loadB_eq {k : Kd} : k.loadB = true ↔ k = .load := by cases k <;> simp [Kd.loadB]
theorem dr_ok {ops : List Oper} {ps : List (Nat × Nat)} (h : dr ops = some ps) : DrOK ops ps := by
  unfold dr at h
  split at h
  · rename_i l hl
    split at h
    · rename_i hp
      injection h with h
      subst h
      have get := infs_get hl (fun j => by simp) rfl (fun q i hq => by simp at hq)
      have get : ∀ j o, ops[j]? = some o → ∃ a, l[j]? = some a ∧ InfOK ops j o a := fun j o ho => by
        obtain ⟨a, h1, h2⟩ := get j o ho
        rw [Nat.zero_add] at h2
        exact ⟨a, h1, h2⟩
      have hd : ∀ {d : Option Nat} {t : Nat} {l : List Nat}, d = some t → t ∈ l → hasD d l = true := fun h1 h2 => by
        subst h1
        simpa [hasD] using h2
      have bef : ∀ (i j : Nat) (oi oj : Oper), ops[i]? = some oi → ops[j]? = some oj → i < j → ∃ a b, InfOK ops i oi a ∧ InfOK ops j oj b ∧ (b.m.testBit a.i = true → Before ops i j) ∧ okPair a b = true ∧ sameD a.dst b.dst = false ∧ ∀ p, pr a b = some p → p ∈ psL l := fun i j oi oj hi hj hij => by
        obtain ⟨a, a1, a2⟩ := get i oi hi
        obtain ⟨b, b1, b2⟩ := get j oj hj
        obtain ⟨k1, k2, k3⟩ := prs_get hp hij a1 b1
        exact ⟨a, b, a2, b2, fun hb => b2.m i (by rw [← a2.i]; exact hb), k1, k2, k3⟩
      refine ⟨fun j o ho => (get j o ho).elim fun a h => h.2.after, fun i j oi oj t hi hj hdt hlt => ?_, fun i j oi oj t hi hj h1 h2 => ?_, fun i j oi oj hi hj hij h1 h2 => ?_, fun i j oi oj hi hj h1 h2 => ?_⟩
      · rcases Nat.lt_trichotomy i j with hij | rfl | hij
        · obtain ⟨a, b, a2, b2, k0, k1, _⟩ := bef i j oi oj hi hj hij
          refine .inl ⟨hij, k0 ?_⟩
          have : hasD a.dst b.lk = true := hd (by rw [a2.dst]; exact hdt) (by rw [b2.lk]; exact hlt)
          simpa [okPair, this] using k1
        · rw [hi] at hj
          injection hj with hj
          subst hj
          obtain ⟨a, a1, a2⟩ := get i oi hi
          have h1 := prs_self hp a1
          rw [hd (by rw [a2.dst]; exact hdt) (by rw [a2.lk]; exact hlt)] at h1
          cases h1
        · obtain ⟨a, b, a2, b2, k0, k1, _⟩ := bef j i oj oi hj hi hij
          refine .inr ⟨hij, k0 ?_⟩
          have : hasD b.dst a.lk = true := hd (by rw [b2.dst]; exact hdt) (by rw [a2.lk]; exact hlt)
          simpa [okPair, this] using k1
      · rcases Nat.lt_trichotomy i j with hij | rfl | hij
        · obtain ⟨a, b, a2, b2, _, _, k2, _⟩ := bef i j oi oj hi hj hij
          rw [a2.dst, b2.dst, h1, h2] at k2
          simp [sameD] at k2
        · rfl
        · obtain ⟨a, b, a2, b2, _, _, k2, _⟩ := bef j i oj oi hj hi hij
          rw [a2.dst, b2.dst, h1, h2] at k2
          simp [sameD] at k2
      · obtain ⟨a, b, a2, b2, k0, k1, _⟩ := bef i j oi oj hi hj hij
        refine k0 ?_
        have e1 : b.kd.heavyB = true := heavyB_eq.2 (by rw [b2.kd]; exact h1)
        have e2 : (a.kd.heavyB || a.kd.lightB) = true := by
          rw [Bool.or_eq_true]
          rcases h2 with h2 | h2
          · exact .inl (heavyB_eq.2 (by rw [a2.kd]; exact h2))
          · exact .inr (lightB_eq.2 (by rw [a2.kd]; exact h2))
        simpa [okPair, e1, e2] using k1
      · rcases Nat.lt_trichotomy i j with hij | rfl | hij
        · obtain ⟨a, b, a2, b2, k0, _, _, k3⟩ := bef i j oi oj hi hj hij
          cases hb : b.m.testBit a.i with
          | true => exact .inl (k0 hb)
          | false =>
            have e1 : a.kd.loadB = true := loadB_eq.2 (by rw [a2.kd]; exact h1)
            have e2 : b.kd.heavyB = true := heavyB_eq.2 (by rw [b2.kd]; exact h2)
            have := k3 (a.i, b.i) (by simp [pr, hb, e1, e2])
            rw [a2.i, b2.i] at this
            exact .inr (.inr this)
        · rw [hi] at hj
          injection hj with hj
          subst hj
          rw [h1] at h2
          cases h2
        · obtain ⟨a, b, a2, b2, k0, _, _, k3⟩ := bef j i oj oi hj hi hij
          cases hb : b.m.testBit a.i with
          | true => exact .inr (.inl (k0 hb))
          | false =>
            have e1 : b.kd.loadB = true := loadB_eq.2 (by rw [b2.kd]; exact h1)
            have e2 : a.kd.heavyB = true := heavyB_eq.2 (by rw [a2.kd]; exact h2)
            have e3 : a.kd.loadB = false := by
              rw [a2.kd, h2]; rfl
            have := k3 (b.i, a.i) (by simp [pr, hb, e1, e2, e3])
            rw [a2.i, b2.i] at this
            exact .inr (.inr this)
    · cases h
  · cases h
end Go.Proofs.YteanccnggaakeaaGreat
