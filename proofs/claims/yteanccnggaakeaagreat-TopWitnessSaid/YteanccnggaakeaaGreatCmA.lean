/- Values without variables, where their rows lie, tries. No condition. -/
import Derived.Test.YteanccnggaakeaaGreatRows
import Derived.WalkKit
import Derived.WalkSpells
import Derived.WalkLawsBesides
import Derived.Still
import Derived.Laws.MakeOwn
import Derived.Maps.AppendAt
namespace Go.Proofs.YteanccnggaakeaaGreat
open Go.RowKit
set_option linter.unusedVariables false
set_option linter.unusedSimpArgs false

inductive CV where
  | pos (k : IntKind) (m : Nat)
  | neg (k : IntKind) (m : Nat)
  | bo (x : Bool)
  | val (x : Value)
  | ref (r n s : Nat)
  | sub (r o n s : Nat)
  | win (r i o n : Nat)
  | ptr (r i o : Nat)
  | ag (cs : List CV)
  | tp (cs : List CV)
  | cl (f : FuncId) (cs : List CV)

/- Where rows lie: which names are in use; block, capacity, cells of an element. -/
structure Gh where
  dom : Nat → Prop
  bt : Nat → Nat
  kp : Nat → Nat
  sz : Nat → Nat

mutual
def R (G : Gh) : CV → Value → Prop
  | .pos k m, y => y = .int k (.ofNat m)
  | .neg k m, y => y = .int k (.negSucc m)
  | .bo x, y => y = .bool x
  | .val x, y => y = x
  | .ref r n s, y => G.dom r ∧ G.sz r = s ∧ n ≤ G.kp r ∧ y = .slice (some ⟨G.bt r, 0, none⟩) n (G.kp r)
  | .sub r o n s, y => G.dom r ∧ G.sz r = s ∧ ∃ A c, y = .slice A n c ∧ n ≤ c ∧ (n = 0 ∨ A = some ⟨G.bt r, o * s, none⟩)
  | .win r i o n, y => G.dom r ∧ ∃ A c, y = .slice A n c ∧ n ≤ c ∧ (n = 0 ∨ A = some ⟨G.bt r, i * G.sz r + o, none⟩)
  | .ptr r i o, y => G.dom r ∧ y = .pointer (some ⟨G.bt r, i * G.sz r + o, none⟩)
  | .ag cs, y => ∃ vs : List Value, y = .agg vs.toArray ∧ Rs G cs vs
  | .tp cs, y => ∃ vs : List Value, y = .tuple vs.toArray ∧ Rt G cs vs
  | .cl f cs, y => ∃ us vs : List Value, y = .func (.func f) us.toArray vs.toArray ∧ Rt G cs (.tuple us.toArray :: vs)
def Rs (G : Gh) : List CV → List Value → Prop
  | [], vs => vs = []
  | x :: xs, vs => ∃ u t, vs = u :: t ∧ R G x u ∧ u.oneCell' = true ∧ Rs G xs t
def Rt (G : Gh) : List CV → List Value → Prop
  | [], vs => vs = []
  | x :: xs, vs => ∃ u t, vs = u :: t ∧ R G x u ∧ Rt G xs t
end
def Rss (G : Gh) (sz : Nat) : List (List CV) → List Value → Prop
  | [], vs => vs = []
  | e :: es, vs => ∃ u t, vs = u ++ t ∧ u.length = sz ∧ Rs G e u ∧ Rss G sz es t

def Gh.le (G G' : Gh) : Prop := ∀ r, G.dom r → G'.dom r ∧ G'.bt r = G.bt r ∧ G'.kp r = G.kp r ∧ G'.sz r = G.sz r
theorem Gh.le.refl (G : Gh) : G.le G := fun _ h => ⟨h, rfl, rfl, rfl⟩
theorem Gh.le.trans {G G' G'' : Gh} (h : G.le G') (k : G'.le G'') : G.le G'' := fun r hr => by
  obtain ⟨a1, a2, a3, a4⟩ := h r hr
  obtain ⟨b1, b2, b3, b4⟩ := k r a1
  exact ⟨b1, b2.trans a2, b3.trans a3, b4.trans a4⟩

section
variable {G G' : Gh}
mutual
theorem R.up (hl : G.le G') : ∀ (x : CV) (y : Value), R G x y → R G' x y
  | .pos k m, y, h => by simpa only [R] using h
  | .neg k m, y, h => by simpa only [R] using h
  | .bo x, y, h => by simpa only [R] using h
  | .val x, y, h => by simpa only [R] using h
  | .ref r n s, y, h => by
    simp only [R] at h ⊢
    obtain ⟨h1, h0, h2, h3⟩ := h
    obtain ⟨a1, a2, a3, a4⟩ := hl r h1
    exact ⟨a1, by rw [a4]; exact h0, by rw [a3]; exact h2, by rw [a2, a3]; exact h3⟩
  | .sub r o n s, y, h => by
    simp only [R] at h ⊢
    obtain ⟨h1, h0, h2⟩ := h
    obtain ⟨a1, a2, a3, a4⟩ := hl r h1
    exact ⟨a1, by rw [a4]; exact h0, by rw [a2]; exact h2⟩
  | .win r i o n, y, h => by
    simp only [R] at h ⊢
    obtain ⟨h1, h2⟩ := h
    obtain ⟨a1, a2, a3, a4⟩ := hl r h1
    exact ⟨a1, by rw [a2, a4]; exact h2⟩
  | .ptr r i o, y, h => by
    simp only [R] at h ⊢
    obtain ⟨h1, h2⟩ := h
    obtain ⟨a1, a2, a3, a4⟩ := hl r h1
    exact ⟨a1, by rw [a2, a4]; exact h2⟩
  | .ag cs, y, h => by
    simp only [R] at h ⊢
    obtain ⟨vs, h1, h2⟩ := h
    exact ⟨vs, h1, Rs.up hl cs vs h2⟩
  | .tp cs, y, h => by
    simp only [R] at h ⊢
    obtain ⟨vs, h1, h2⟩ := h
    exact ⟨vs, h1, Rt.up hl cs vs h2⟩
  | .cl f cs, y, h => by
    simp only [R] at h ⊢
    obtain ⟨us, vs, h1, h2⟩ := h
    exact ⟨us, vs, h1, Rt.up hl cs _ h2⟩
theorem Rs.up (hl : G.le G') : ∀ (xs : List CV) (vs : List Value), Rs G xs vs → Rs G' xs vs
  | [], vs, h => by simpa only [Rs] using h
  | x :: xs, vs, h => by
    simp only [Rs] at h ⊢
    obtain ⟨u, t, h1, h2, h3, h4⟩ := h
    exact ⟨u, t, h1, R.up hl x u h2, h3, Rs.up hl xs t h4⟩
theorem Rt.up (hl : G.le G') : ∀ (xs : List CV) (vs : List Value), Rt G xs vs → Rt G' xs vs
  | [], vs, h => by simpa only [Rt] using h
  | x :: xs, vs, h => by
    simp only [Rt] at h ⊢
    obtain ⟨u, t, h1, h2, h4⟩ := h
    exact ⟨u, t, h1, R.up hl x u h2, Rt.up hl xs t h4⟩
end
theorem Rss.up (hl : G.le G') {sz : Nat} : ∀ (xs : List (List CV)) (vs : List Value), Rss G sz xs vs → Rss G' sz xs vs
  | [], vs, h => by simpa only [Rss] using h
  | x :: xs, vs, h => by
    simp only [Rss] at h ⊢
    obtain ⟨u, t, h1, h2, h3, h4⟩ := h
    exact ⟨u, t, h1, h2, Rs.up hl x u h3, Rss.up hl xs t h4⟩
end

section
variable {G : Gh}
theorem Rt.length : ∀ {xs : List CV} {vs : List Value}, Rt G xs vs → xs.length = vs.length
  | [], vs, h => by simp only [Rt] at h; subst h; rfl
  | x :: xs, vs, h => by
    simp only [Rt] at h
    obtain ⟨u, t, rfl, _, h⟩ := h
    simp [Rt.length h]
theorem Rt.get : ∀ {xs : List CV} {vs : List Value}, Rt G xs vs → ∀ (t : Nat) (x : CV), xs[t]? = some x → ∃ u, vs[t]? = some u ∧ R G x u
  | [], vs, h, t, x, hx => by simp at hx
  | y :: xs, vs, h, t, x, hx => by
    simp only [Rt] at h
    obtain ⟨u, t', rfl, h1, h2⟩ := h
    cases t with
    | zero => simp at hx; subst hx; exact ⟨u, by simp, h1⟩
    | succ t => simpa using Rt.get h2 t x (by simpa using hx)
theorem Rt.append : ∀ {xs : List CV} {vs : List Value} {ys : List CV} {us : List Value}, Rt G xs vs → Rt G ys us → Rt G (xs ++ ys) (vs ++ us)
  | [], vs, ys, us, h, k => by simp only [Rt] at h; subst h; simpa using k
  | x :: xs, vs, ys, us, h, k => by
    simp only [Rt] at h
    obtain ⟨u, t, rfl, h1, h⟩ := h
    simp only [List.cons_append, Rt]
    exact ⟨u, t ++ us, rfl, h1, Rt.append h k⟩
theorem Rs.length : ∀ {xs : List CV} {vs : List Value}, Rs G xs vs → xs.length = vs.length
  | [], vs, h => by simp only [Rs] at h; subst h; rfl
  | x :: xs, vs, h => by
    simp only [Rs] at h
    obtain ⟨u, t, rfl, _, _, h⟩ := h
    simp [Rs.length h]
theorem Rs.get : ∀ {xs : List CV} {vs : List Value}, Rs G xs vs → ∀ (t : Nat) (x : CV), xs[t]? = some x → ∃ u, vs[t]? = some u ∧ R G x u ∧ u.oneCell' = true
  | [], vs, h, t, x, hx => by simp at hx
  | y :: xs, vs, h, t, x, hx => by
    simp only [Rs] at h
    obtain ⟨u, t', rfl, h1, h3, h2⟩ := h
    cases t with
    | zero => simp at hx; subst hx; exact ⟨u, by simp, h1, h3⟩
    | succ t => simpa using Rs.get h2 t x (by simpa using hx)
theorem Rs.drop : ∀ {xs : List CV} {vs : List Value} (n : Nat), Rs G xs vs → Rs G (xs.drop n) (vs.drop n)
  | xs, vs, 0, h => by simpa using h
  | [], vs, n + 1, h => by simp only [Rs] at h; subst h; simp [Rs]
  | x :: xs, vs, n + 1, h => by
    simp only [Rs] at h
    obtain ⟨u, t, rfl, _, _, h⟩ := h
    simpa using Rs.drop n h
theorem Rs.take : ∀ {xs : List CV} {vs : List Value} (n : Nat), Rs G xs vs → Rs G (xs.take n) (vs.take n)
  | xs, vs, 0, h => by simp [Rs]
  | [], vs, n + 1, h => by simp only [Rs] at h; subst h; simp [Rs]
  | x :: xs, vs, n + 1, h => by
    simp only [Rs] at h
    obtain ⟨u, t, rfl, h1, h2, h⟩ := h
    simp only [List.take_succ_cons, Rs]
    exact ⟨u, _, rfl, h1, h2, Rs.take n h⟩
theorem Rs.append : ∀ {xs : List CV} {vs : List Value} {ys : List CV} {us : List Value}, Rs G xs vs → Rs G ys us → Rs G (xs ++ ys) (vs ++ us)
  | [], vs, ys, us, h, k => by simp only [Rs] at h; subst h; simpa using k
  | x :: xs, vs, ys, us, h, k => by
    simp only [Rs] at h
    obtain ⟨u, t, rfl, h1, h2, h⟩ := h
    simp only [List.cons_append, Rs]
    exact ⟨u, t ++ us, rfl, h1, h2, Rs.append h k⟩
theorem Rs.one : ∀ {xs : List CV} {vs : List Value}, Rs G xs vs → ∀ u ∈ vs, u.oneCell' = true
  | [], vs, h, u, hu => by simp only [Rs] at h; subst h; simp at hu
  | x :: xs, vs, h, u, hu => by
    simp only [Rs] at h
    obtain ⟨u', t, rfl, h1, h2, h⟩ := h
    rcases List.mem_cons.1 hu with rfl | hu
    · exact h2
    · exact Rs.one h u hu
theorem Rss.flat {sz : Nat} : ∀ {xs : List (List CV)} {vs : List Value}, Rss G sz xs vs → vs.length = xs.length * sz
  | [], vs, h => by simp only [Rss] at h; subst h; simp
  | x :: xs, vs, h => by
    simp only [Rss] at h
    obtain ⟨u, t, rfl, h1, h2, h⟩ := h
    simp only [List.length_append, h1, Rss.flat h, List.length_cons, Nat.succ_mul]
    omega
/- Element i of a row: its cells. -/
theorem Rss.get {sz : Nat} : ∀ {xs : List (List CV)} {vs : List Value}, Rss G sz xs vs → ∀ (i : Nat) (e : List CV), xs[i]? = some e →
    ∃ us, us.length = sz ∧ Rs G e us ∧ ∀ j u, us[j]? = some u → vs[i * sz + j]? = some u
  | [], vs, h, i, e, hx => by simp at hx
  | x :: xs, vs, h, i, e, hx => by
    simp only [Rss] at h
    obtain ⟨u, t, rfl, h1, h2, h⟩ := h
    cases i with
    | zero =>
      simp at hx; subst hx
      refine ⟨u, h1, h2, fun j v hv => ?_⟩
      have hj := (List.getElem?_eq_some_iff.1 hv).1
      rw [Nat.zero_mul, Nat.zero_add, List.getElem?_append_left hj]
      exact hv
    | succ i =>
      obtain ⟨us, k1, k2, k3⟩ := Rss.get h i e (by simpa using hx)
      refine ⟨us, k1, k2, fun j v hv => ?_⟩
      rw [List.getElem?_append_right (by rw [h1, Nat.succ_mul]; omega), h1, show (i + 1) * sz + j - sz = i * sz + j by rw [Nat.succ_mul]; omega]
      exact k3 j v hv
theorem Rss.append {sz : Nat} : ∀ {xs ys : List (List CV)} {vs us : List Value}, Rss G sz xs vs → Rss G sz ys us → Rss G sz (xs ++ ys) (vs ++ us)
  | [], ys, vs, us, h, k => by simp only [Rss] at h; subst h; simpa using k
  | x :: xs, ys, vs, us, h, k => by
    simp only [Rss] at h
    obtain ⟨u, t, rfl, h1, h2, h⟩ := h
    simp only [List.cons_append, Rss]
    exact ⟨u, t ++ us, by simp, h1, h2, Rss.append h k⟩
theorem Rss.drop {sz : Nat} : ∀ {xs : List (List CV)} {vs : List Value} (n : Nat), Rss G sz xs vs → Rss G sz (xs.drop n) (vs.drop (n * sz))
  | xs, vs, 0, h => by simpa using h
  | [], vs, n + 1, h => by simp only [Rss] at h; subst h; simp [Rss]
  | x :: xs, vs, n + 1, h => by
    simp only [Rss] at h
    obtain ⟨u, t, rfl, h1, h2, h⟩ := h
    rw [List.drop_succ_cons, show (n + 1) * sz = u.length + n * sz by rw [h1, Nat.succ_mul]; omega, List.drop_append]
    rw [List.drop_of_length_le (show u.length ≤ u.length + n * sz by omega), List.nil_append, show u.length + n * sz - u.length = n * sz by omega]
    exact Rss.drop n h
theorem Rss.take {sz : Nat} : ∀ {xs : List (List CV)} {vs : List Value} (n : Nat), Rss G sz xs vs → Rss G sz (xs.take n) (vs.take (n * sz))
  | xs, vs, 0, h => by simp [Rss]
  | [], vs, n + 1, h => by simp only [Rss] at h; subst h; simp [Rss]
  | x :: xs, vs, n + 1, h => by
    simp only [Rss] at h
    obtain ⟨u, t, rfl, h1, h2, h⟩ := h
    rw [List.take_succ_cons, show (n + 1) * sz = u.length + n * sz by rw [h1, Nat.succ_mul]; omega, List.take_append]
    rw [List.take_of_length_le (show u.length ≤ u.length + n * sz by omega), show u.length + n * sz - u.length = n * sz by omega]
    simp only [Rss]
    exact ⟨u, _, rfl, h1, h2, Rss.take n h⟩
theorem Rss.one {sz : Nat} : ∀ {xs : List (List CV)} {vs : List Value}, Rss G sz xs vs → ∀ u ∈ vs, u.oneCell' = true
  | [], vs, h, u, hu => by simp only [Rss] at h; subst h; simp at hu
  | x :: xs, vs, h, u, hu => by
    simp only [Rss] at h
    obtain ⟨v, t, rfl, h1, h2, h⟩ := h
    rcases List.mem_append.1 hu with hu | hu
    · exact Rs.one h2 u hu
    · exact Rss.one h u hu
end

/- Tries: a tree of numbers; p: what goes to the right. -/
inductive Tr (α : Type) where
  | leaf (x : α)
  | node (p : Nat) (l r : Tr α)
section
variable {α β : Type}
noncomputable def Tr.getK (t : Tr α) (k : Nat) (K : α → β) : β := Tr.rec (fun x => K x) (fun p _ _ gl gr => Bool.rec gl gr (Nat.ble p k)) t
noncomputable def Tr.setK (t : Tr α) (k : Nat) (x : α) : (Tr α → β) → β :=
  Tr.rec (fun _ K => K (.leaf x)) (fun p l r sl sr K => Bool.rec (sl fun l' => K (.node p l' r)) (sr fun r' => K (.node p l r')) (Nat.ble p k)) t
def Tr.get : Tr α → Nat → α
  | .leaf x, _ => x
  | .node p l r, k => if p ≤ k then r.get k else l.get k
def Tr.set : Tr α → Nat → α → Tr α
  | .leaf _, _, x => .leaf x
  | .node p l r, k, x => if p ≤ k then .node p l (r.set k x) else .node p (l.set k x) r
theorem Tr.getK_eq (k : Nat) (K : α → β) : ∀ t : Tr α, t.getK k K = K (t.get k)
  | .leaf x => rfl
  | .node p l r => by
    show Bool.rec (l.getK k K) (r.getK k K) (Nat.ble p k) = K (Tr.get (.node p l r) k)
    rw [Tr.get]
    cases h : Nat.ble p k with
    | true => rw [if_pos (Nat.le_of_ble_eq_true h)]; exact Tr.getK_eq k K r
    | false => rw [if_neg (fun hh => by rw [Nat.ble_eq_true_of_le hh] at h; cases h)]; exact Tr.getK_eq k K l
theorem Tr.setK_eq (k : Nat) (x : α) : ∀ (t : Tr α) (K : Tr α → β), t.setK k x K = K (t.set k x)
  | .leaf x, K => rfl
  | .node p l r, K => by
    show Bool.rec (l.setK k x fun l' => K (.node p l' r)) (r.setK k x fun r' => K (.node p l r')) (Nat.ble p k) = K (Tr.set (.node p l r) k x)
    rw [Tr.set]
    cases h : Nat.ble p k with
    | true => rw [if_pos (Nat.le_of_ble_eq_true h)]; exact Tr.setK_eq k x r _
    | false => rw [if_neg (fun hh => by rw [Nat.ble_eq_true_of_le hh] at h; cases h)]; exact Tr.setK_eq k x l _
/- Each leaf is one number's. -/
def Tr.wf : Tr α → Nat → Nat → Prop
  | .leaf _, lo, hi => hi ≤ lo + 1
  | .node p l r, lo, hi => l.wf lo p ∧ r.wf p hi
theorem Tr.get_set (x : α) : ∀ (t : Tr α) (lo hi k j : Nat), t.wf lo hi → lo ≤ k → k < hi → lo ≤ j → j < hi → (t.set k x).get j = if j = k then x else t.get j
  | .leaf y, lo, hi, k, j, h, h1, h2, h3, h4 => by
    simp only [Tr.wf] at h
    rw [if_pos (by omega)]
    rfl
  | .node p l r, lo, hi, k, j, h, h1, h2, h3, h4 => by
    simp only [Tr.wf] at h
    rw [Tr.set]
    by_cases hk : p ≤ k
    · rw [if_pos hk]
      simp only [Tr.get]
      by_cases hj : p ≤ j
      · rw [if_pos hj, if_pos hj]; exact Tr.get_set x r p hi k j h.2 hk h2 hj h4
      · rw [if_neg hj, if_neg hj, if_neg (by omega)]
    · rw [if_neg hk]
      simp only [Tr.get]
      by_cases hj : p ≤ j
      · rw [if_pos hj, if_pos hj, if_neg (by omega)]
      · rw [if_neg hj, if_neg hj]; exact Tr.get_set x l lo p k j h.1 h1 (by omega) h3 (by omega)
theorem Tr.wf_set (x : α) : ∀ (t : Tr α) (lo hi k : Nat), t.wf lo hi → (t.set k x).wf lo hi
  | .leaf y, lo, hi, k, h => h
  | .node p l r, lo, hi, k, h => by
    simp only [Tr.wf] at h
    rw [Tr.set]
    split
    · exact ⟨h.1, Tr.wf_set x r p hi k h.2⟩
    · exact ⟨Tr.wf_set x l lo p k h.1, h.2⟩
/- A number at its head. -/
noncomputable def fN (n : Nat) (K : Nat → β) : β := Nat.rec (K 0) (fun m _ => K m) (Nat.add n 1)
theorem fN_eq (n : Nat) (K : Nat → β) : fN n K = K n := rfl
/- The tree of 2^d numbers from lo on. -/
noncomputable def Tr.mk (x : α) (d : Nat) : Nat → Tr α := Nat.rec (fun _ => .leaf x) (fun d ih lo => fN (Nat.add lo (Nat.pow 2 d)) fun p => .node p (ih lo) (ih p)) d
theorem Tr.mk_s (x : α) (d lo : Nat) : Tr.mk x (d + 1) lo = .node (lo + 2 ^ d) (Tr.mk x d lo) (Tr.mk x d (lo + 2 ^ d)) := rfl
theorem Tr.wf_mk (x : α) : ∀ (d lo : Nat), (Tr.mk x d lo).wf lo (lo + 2 ^ d)
  | 0, lo => by show lo + 2 ^ 0 ≤ lo + 1; simp
  | d + 1, lo => by
    rw [Tr.mk_s]
    refine ⟨Tr.wf_mk x d lo, ?_⟩
    have := Tr.wf_mk x d (lo + 2 ^ d)
    rwa [show lo + 2 ^ d + 2 ^ d = lo + 2 ^ (d + 1) by rw [Nat.pow_succ]; omega] at this
theorem Tr.get_mk (x : α) : ∀ (d lo k : Nat), (Tr.mk x d lo).get k = x
  | 0, lo, k => rfl
  | d + 1, lo, k => by
    rw [Tr.mk_s, Tr.get]
    split
    · exact Tr.get_mk x d _ k
    · exact Tr.get_mk x d _ k
end
end Go.Proofs.YteanccnggaakeaaGreat
