/- Abstract states, and when a frame and a world fit one; steps that keep the fit. No condition. -/
import Derived.Test.YtjkfadaedgidpaaGreatAbsA
namespace Go.Proofs.YtjkfadaedgidpaaGreat
open Go.RowKit
set_option linter.unusedVariables false
set_option linter.unusedSimpArgs false
structure AS where
 tm : List AV
 mem : Nat → Option ARow
structure Eff where
 val : AV
 mem : List (Nat × ARow)
def ovr : List (Nat × ARow) → (Nat → Option ARow) → Nat → Option ARow
 | [], m => m
 | (r, row) :: l, m => fun x => if x = r then some row else ovr l m x
def AS.app (s : AS) (dst : Option Tmp) (e : Eff) : AS :=
 { tm := match dst with | some d => s.tm.set d e.val | none => s.tm, mem := ovr e.mem s.mem }
def AS.ev (s : AS) : Operand → AV
 | .tmp t => s.tm.getD t .any
 | .const v => .d (.v v)
 | .func f => .d (.v (.func (.func f) #[] #[]))
 | .global g => .d (.v (.pointer (some ⟨g, 0, none⟩)))
structure Out (B : Nat → Prop) (w w' : World) : Prop where
 os : w'.os = w.os
 tape : w'.tape = w.tape
 output : w'.output = w.output
 size : w.heap.size ≤ w'.heap.size
 block : ∀ k, k < w.heap.size → ¬ B k → w'.heap[k]? = w.heap[k]?
theorem Out.refl (B : Nat → Prop) (w : World) : Out B w w := ⟨rfl, rfl, rfl, Nat.le_refl _, fun _ _ _ => rfl⟩
theorem Out.trans {B : Nat → Prop} {a b c : World} (h : Out B a b) (k : Out B b c) : Out B a c :=
 ⟨k.os.trans h.os, k.tape.trans h.tape, k.output.trans h.output, Nat.le_trans h.size k.size, fun i hi hb => (k.block i (Nat.lt_of_lt_of_le hi h.size) hb).trans (h.block i hi hb)⟩
theorem Out.of_below {B : Nat → Prop} {w w' : World} (h : Below w.heap.size w w') : Out B w w' := ⟨h.os, h.tape, h.output, h.size, fun k hk _ => h.block k hk⟩
theorem Out.below {w w' : World} (h : Out (fun k => w.heap.size ≤ k) w w') : Below w.heap.size w w' := ⟨h.os, h.tape, h.output, h.size, fun k hk => h.block k hk (by omega)⟩
def RowAt (B : Nat → Prop) (G : Gh) (w : World) (r : Nat) (row : ARow) : Prop :=
 G.sz r = row.sz ∧
 ((G.bt r = none ∧ row.els = []) ∨
  ∃ b cur vs, G.bt r = some b ∧ B b ∧ ¬ G.I b ∧ w.heap[b]? = some (.cells cur row.ty (0, 0)) ∧ Rss G w row.sz row.els vs ∧ cur.toList.take vs.length = vs ∧
   cur.size = G.kp r * row.sz ∧ G.kp r ≤ maxLen ∧ row.els.length ≤ G.kp r)
def Apart (G : Gh) (m : Nat → Option ARow) : Prop :=
 ∀ r r' row row' b, r ≠ r' → m r = some row → m r' = some row' → row.g → row'.g → G.bt r = some b → G.bt r' = some b →
  row.uq = false ∧ row.fam = row'.fam ∧ row.sz = row'.sz ∧ (row.ap = true → row'.els.length ≤ row.els.length ∧ row'.ap = false)
structure Env where
 own : Nat → Prop
 pin : Nat → Option Nat
 cap : Nat → Nat
def pinned (r : Nat) : Prop := 1000000000 ≤ r
structure Sim (B : Env) (w0 : World) (G : Gh) (s : AS) (a : Act) (w : World) : Prop where
 defers : a.defers = []
 tm : Rt G w s.tm a.tmps.toList
 below : Out B.own w0 w
 base : ∀ k, w.heap.size ≤ k → B.own k
 imm : ∀ b, G.I b → b < w.heap.size
 rows : ∀ r row, s.mem r = some row → row.g → RowAt B.own G w r row
 apart : Apart G s.mem
 wft : ∀ r, r ∈ AV.idsL s.tm → s.mem r ≠ none
 pins : ∀ r row, s.mem r = some row → pinned r → G.bt r = B.pin r ∧ G.kp r = B.cap r
 wfm : ∀ r row, s.mem r = some row → ∀ e, e ∈ row.els → ∀ r', r' ∈ AV.idsL e → s.mem r' ≠ none
theorem Rt.length {G : Gh} {w : World} : ∀ {xs : List AV} {vs : List Value}, Rt G w xs vs → xs.length = vs.length
 | [], vs, h => by simp only [Rt] at h; subst h; rfl
 | x :: xs, vs, h => by
  simp only [Rt] at h
  obtain ⟨u, t, rfl, _, h⟩ := h
  simp [Rt.length h]
theorem Rt.get {G : Gh} {w : World} : ∀ {xs : List AV} {vs : List Value}, Rt G w xs vs → ∀ (t : Nat) (x : AV), xs[t]? = some x → ∃ u, vs[t]? = some u ∧ R G w x u
 | [], vs, h, t, x, hx => by simp at hx
 | y :: xs, vs, h, t, x, hx => by
  simp only [Rt] at h
  obtain ⟨u, t', rfl, h1, h2⟩ := h
  cases t with
  | zero => simp at hx; subst hx; exact ⟨u, by simp, h1⟩
  | succ t => simpa using Rt.get h2 t x (by simpa using hx)
theorem Rt.set {G : Gh} {w : World} : ∀ {xs : List AV} {vs : List Value}, Rt G w xs vs → ∀ (t : Nat) {x : AV} {u : Value}, R G w x u → Rt G w (xs.set t x) (vs.set t u)
 | [], vs, h, t, x, u, hx => by simp only [Rt] at h; subst h; simp [Rt]
 | y :: xs, vs, h, t, x, u, hx => by
  simp only [Rt] at h
  obtain ⟨u', t', rfl, h1, h2⟩ := h
  cases t with
  | zero => simp only [List.set_cons_zero, Rt]; exact ⟨u, t', rfl, hx, h2⟩
  | succ t => simp only [List.set_cons_succ, Rt]; exact ⟨u', t'.set t u, rfl, h1, Rt.set h2 t hx⟩
theorem Rs.length {G : Gh} {w : World} : ∀ {xs : List AV} {vs : List Value}, Rs G w xs vs → xs.length = vs.length
 | [], vs, h => by simp only [Rs] at h; subst h; rfl
 | x :: xs, vs, h => by
  simp only [Rs] at h
  obtain ⟨u, t, rfl, _, _, h⟩ := h
  simp [Rs.length h]
theorem Rs.get {G : Gh} {w : World} : ∀ {xs : List AV} {vs : List Value}, Rs G w xs vs → ∀ (t : Nat) (x : AV), xs[t]? = some x → ∃ u, vs[t]? = some u ∧ R G w x u ∧ u.oneCell' = true
 | [], vs, h, t, x, hx => by simp at hx
 | y :: xs, vs, h, t, x, hx => by
  simp only [Rs] at h
  obtain ⟨u, t', rfl, h1, h3, h2⟩ := h
  cases t with
  | zero => simp at hx; subst hx; exact ⟨u, by simp, h1, h3⟩
  | succ t => simpa using Rs.get h2 t x (by simpa using hx)
theorem Rs.set {G : Gh} {w : World} : ∀ {xs : List AV} {vs : List Value}, Rs G w xs vs → ∀ (t : Nat) {x : AV} {u : Value}, R G w x u → u.oneCell' = true → Rs G w (xs.set t x) (vs.set t u)
 | [], vs, h, t, x, u, hx, ho => by simp only [Rs] at h; subst h; simp [Rs]
 | y :: xs, vs, h, t, x, u, hx, ho => by
  simp only [Rs] at h
  obtain ⟨u', t', rfl, h1, h3, h2⟩ := h
  cases t with
  | zero => simp only [List.set_cons_zero, Rs]; exact ⟨u, t', rfl, hx, ho, h2⟩
  | succ t => simp only [List.set_cons_succ, Rs]; exact ⟨u', t'.set t u, rfl, h1, h3, Rs.set h2 t hx ho⟩
theorem Rs.drop {G : Gh} {w : World} : ∀ {xs : List AV} {vs : List Value} (n : Nat), Rs G w xs vs → Rs G w (xs.drop n) (vs.drop n)
 | xs, vs, 0, h => by simpa using h
 | [], vs, n + 1, h => by simp only [Rs] at h; subst h; simp [Rs]
 | x :: xs, vs, n + 1, h => by
  simp only [Rs] at h
  obtain ⟨u, t, rfl, _, _, h⟩ := h
  simpa using Rs.drop n h
theorem Rs.take {G : Gh} {w : World} : ∀ {xs : List AV} {vs : List Value} (n : Nat), Rs G w xs vs → Rs G w (xs.take n) (vs.take n)
 | xs, vs, 0, h => by simp [Rs]
 | [], vs, n + 1, h => by simp only [Rs] at h; subst h; simp [Rs]
 | x :: xs, vs, n + 1, h => by
  simp only [Rs] at h
  obtain ⟨u, t, rfl, h1, h2, h⟩ := h
  simp only [List.take_succ_cons, Rs]
  exact ⟨u, _, rfl, h1, h2, Rs.take n h⟩
theorem Rs.append {G : Gh} {w : World} : ∀ {xs : List AV} {vs : List Value} {ys : List AV} {us : List Value}, Rs G w xs vs → Rs G w ys us → Rs G w (xs ++ ys) (vs ++ us)
 | [], vs, ys, us, h, k => by simp only [Rs] at h; subst h; simpa using k
 | x :: xs, vs, ys, us, h, k => by
  simp only [Rs] at h
  obtain ⟨u, t, rfl, h1, h2, h⟩ := h
  simp only [List.cons_append, Rs]
  exact ⟨u, t ++ us, rfl, h1, h2, Rs.append h k⟩
theorem Rs.one {G : Gh} {w : World} : ∀ {xs : List AV} {vs : List Value}, Rs G w xs vs → ∀ u ∈ vs, u.oneCell' = true
 | [], vs, h, u, hu => by simp only [Rs] at h; subst h; simp at hu
 | x :: xs, vs, h, u, hu => by
  simp only [Rs] at h
  obtain ⟨u', t, rfl, h1, h2, h⟩ := h
  rcases List.mem_cons.1 hu with rfl | hu
  ·exact h2
  ·exact Rs.one h u hu
theorem RDs.length {I : Nat → Prop} {w : World} : ∀ {xs : List D} {vs : List Value}, RDs I w xs vs → xs.length = vs.length
 | [], vs, h => by simp only [RDs] at h; subst h; rfl
 | x :: xs, vs, h => by
  simp only [RDs] at h
  obtain ⟨u, t, rfl, _, _, h⟩ := h
  simp [RDs.length h]
theorem RDs.get {I : Nat → Prop} {w : World} : ∀ {xs : List D} {vs : List Value}, RDs I w xs vs → ∀ (t : Nat) (x : D), xs[t]? = some x → ∃ u, vs[t]? = some u ∧ RD I w x u ∧ u.oneCell' = true
 | [], vs, h, t, x, hx => by simp at hx
 | y :: xs, vs, h, t, x, hx => by
  simp only [RDs] at h
  obtain ⟨u, t', rfl, h1, h3, h2⟩ := h
  cases t with
  | zero => simp at hx; subst hx; exact ⟨u, by simp, h1, h3⟩
  | succ t => simpa using RDs.get h2 t x (by simpa using hx)
theorem RDs.drop {I : Nat → Prop} {w : World} : ∀ {xs : List D} {vs : List Value} (n : Nat), RDs I w xs vs → RDs I w (xs.drop n) (vs.drop n)
 | xs, vs, 0, h => by simpa using h
 | [], vs, n + 1, h => by simp only [RDs] at h; subst h; simp [RDs]
 | x :: xs, vs, n + 1, h => by
  simp only [RDs] at h
  obtain ⟨u, t, rfl, _, _, h⟩ := h
  simpa using RDs.drop n h
theorem RDs.take {I : Nat → Prop} {w : World} : ∀ {xs : List D} {vs : List Value} (n : Nat), RDs I w xs vs → RDs I w (xs.take n) (vs.take n)
 | xs, vs, 0, h => by simp [RDs]
 | [], vs, n + 1, h => by simp only [RDs] at h; subst h; simp [RDs]
 | x :: xs, vs, n + 1, h => by
  simp only [RDs] at h
  obtain ⟨u, t, rfl, h1, h2, h⟩ := h
  simp only [List.take_succ_cons, RDs]
  exact ⟨u, _, rfl, h1, h2, RDs.take n h⟩
theorem Rs.of_RDs {G : Gh} {w : World} : ∀ {xs : List D} {vs : List Value}, RDs G.I w xs vs → Rs G w (xs.map .d) vs
 | [], vs, h => by simp only [RDs] at h; subst h; simp [Rs]
 | x :: xs, vs, h => by
  simp only [RDs] at h
  obtain ⟨u, t, rfl, h1, h2, h⟩ := h
  simp only [List.map_cons, Rs, R]
  exact ⟨u, t, rfl, h1, h2, Rs.of_RDs h⟩
theorem Rss.flat {G : Gh} {w : World} {sz : Nat} : ∀ {xs : List (List AV)} {vs : List Value}, Rss G w sz xs vs → vs.length = xs.length * sz
 | [], vs, h => by simp only [Rss] at h; subst h; simp
 | x :: xs, vs, h => by
  simp only [Rss] at h
  obtain ⟨u, t, rfl, h1, h2, h⟩ := h
  simp only [List.length_append, h1, Rss.flat h, List.length_cons, Nat.succ_mul]
  omega
theorem Rss.get {G : Gh} {w : World} {sz : Nat} : ∀ {xs : List (List AV)} {vs : List Value}, Rss G w sz xs vs → ∀ (i : Nat) (e : List AV), xs[i]? = some e →
  ∃ us, us.length = sz ∧ Rs G w e us ∧ ∀ j u, us[j]? = some u → vs[i * sz + j]? = some u
 | [], vs, h, i, e, hx => by simp at hx
 | x :: xs, vs, h, i, e, hx => by
  simp only [Rss] at h
  obtain ⟨u, t, rfl, h1, h2, h⟩ := h
  cases i with
  | zero =>
   simp at hx; subst hx
   refine ⟨u, h1, h2, fun j v hv => ?_⟩
   have hj := (List.getElem?_eq_some_iff.1 hv).1
   rw [Nat.zero_mul, Nat.zero_add, List.getElem?_append_left hj]
   exact hv
  | succ i =>
   obtain ⟨us, k1, k2, k3⟩ := Rss.get h i e (by simpa using hx)
   refine ⟨us, k1, k2, fun j v hv => ?_⟩
   rw [List.getElem?_append_right (by rw [h1, Nat.succ_mul]; omega), h1, show (i + 1) * sz + j - sz = i * sz + j by rw [Nat.succ_mul]; omega]
   exact k3 j v hv
theorem RDss.flat {I : Nat → Prop} {w : World} {sz : Nat} : ∀ {xs : List (List D)} {vs : List Value}, RDss I w sz xs vs → vs.length = xs.length * sz
 | [], vs, h => by simp only [RDss] at h; subst h; simp
 | x :: xs, vs, h => by
  simp only [RDss] at h
  obtain ⟨u, t, rfl, h1, h2, h⟩ := h
  simp only [List.length_append, h1, RDss.flat h, List.length_cons, Nat.succ_mul]
  omega
theorem RDss.get {I : Nat → Prop} {w : World} {sz : Nat} : ∀ {xs : List (List D)} {vs : List Value}, RDss I w sz xs vs → ∀ (i : Nat) (e : List D), xs[i]? = some e →
  ∃ us, us.length = sz ∧ RDs I w e us ∧ ∀ j u, us[j]? = some u → vs[i * sz + j]? = some u
 | [], vs, h, i, e, hx => by simp at hx
 | x :: xs, vs, h, i, e, hx => by
  simp only [RDss] at h
  obtain ⟨u, t, rfl, h1, h2, h⟩ := h
  cases i with
  | zero =>
   simp at hx; subst hx
   refine ⟨u, h1, h2, fun j v hv => ?_⟩
   have hj := (List.getElem?_eq_some_iff.1 hv).1
   rw [Nat.zero_mul, Nat.zero_add, List.getElem?_append_left hj]
   exact hv
  | succ i =>
   obtain ⟨us, k1, k2, k3⟩ := RDss.get h i e (by simpa using hx)
   refine ⟨us, k1, k2, fun j v hv => ?_⟩
   rw [List.getElem?_append_right (by rw [h1, Nat.succ_mul]; omega), h1, show (i + 1) * sz + j - sz = i * sz + j by rw [Nat.succ_mul]; omega]
   exact k3 j v hv
theorem Rss.append {G : Gh} {w : World} {sz : Nat} : ∀ {xs ys : List (List AV)} {vs us : List Value}, Rss G w sz xs vs → Rss G w sz ys us → Rss G w sz (xs ++ ys) (vs ++ us)
 | [], ys, vs, us, h, k => by simp only [Rss] at h; subst h; simpa using k
 | x :: xs, ys, vs, us, h, k => by
  simp only [Rss] at h
  obtain ⟨u, t, rfl, h1, h2, h⟩ := h
  simp only [List.cons_append, Rss]
  exact ⟨u, t ++ us, by simp, h1, h2, Rss.append h k⟩
theorem Rss.of_RDss {G : Gh} {w : World} {sz : Nat} : ∀ {xs : List (List D)} {vs : List Value}, RDss G.I w sz xs vs → Rss G w sz (xs.map (·.map .d)) vs
 | [], vs, h => by simp only [RDss] at h; subst h; simp [Rss]
 | x :: xs, vs, h => by
  simp only [RDss] at h
  obtain ⟨u, t, rfl, h1, h2, h⟩ := h
  simp only [List.map_cons, Rss]
  exact ⟨u, t, rfl, h1, Rs.of_RDs h2, Rss.of_RDss h⟩
theorem Rss.one {G : Gh} {w : World} {sz : Nat} : ∀ {xs : List (List AV)} {vs : List Value}, Rss G w sz xs vs → ∀ u ∈ vs, u.oneCell' = true
 | [], vs, h, u, hu => by simp only [Rss] at h; subst h; simp at hu
 | x :: xs, vs, h, u, hu => by
  simp only [Rss] at h
  obtain ⟨v, t, rfl, h1, h2, h⟩ := h
  rcases List.mem_append.1 hu with hu | hu
  ·exact Rs.one h2 u hu
  ·exact Rss.one h u hu
theorem cellsAt.drop {w : World} {b o : Nat} {vs : List Value} (h : cellsAt w b o vs) (n : Nat) : cellsAt w b (o + n) (vs.drop n) := fun j u hu => by
 rw [Nat.add_assoc]
 exact h (n + j) u (by rw [← hu, List.getElem?_drop])
theorem cellsAt.sub {w : World} {b o k : Nat} {vs us : List Value} (h : cellsAt w b o vs) (hs : ∀ j u, us[j]? = some u → vs[k + j]? = some u) : cellsAt w b (o + k) us := fun j u hu => by
 rw [Nat.add_assoc]
 exact h (k + j) u (hs j u hu)
theorem cellsAt.of_block {w : World} {b : Nat} {cur : Array Value} {t : TypeId} {vs : List Value} (h : w.heap[b]? = some (.cells cur t (0, 0))) (hv : cur.toList.take vs.length = vs) : cellsAt w b 0 vs := fun j u hu => by
 rw [Nat.zero_add, cell_of_row w b j cur t (0, 0) h]
 rw [← hv, List.getElem?_take] at hu
 split at hu
 ·simpa using hu
 ·simp at hu
theorem Sim.ev {B : Env} {w0 : World} {G : Gh} {s : AS} {a : Act} {w : World} (h : Sim B w0 G s a w) (x : Operand) : R G w (s.ev x) (a.eval x) := by
 cases x with
 | tmp t =>
  unfold AS.ev Act.eval
  cases hx : s.tm[t]? with
  | none => simp [List.getD, hx, R]
  | some x =>
   obtain ⟨u, hu, hr⟩ := h.tm.get t x hx
   have : a.tmps.getD t undef = u := by
    rw [Array.getD_eq_getD_getElem?, ← Array.getElem?_toList, hu]
    rfl
   simp only [List.getD, hx, Option.getD_some, this]
   exact hr
 | const v => simp [AS.ev, Act.eval, R, RD]
 | func f => simp [AS.ev, Act.eval, R, RD]
 | global g => simp [AS.ev, Act.eval, R, RD]
theorem AV.mem_idsL {x : AV} {xs : List AV} {r : Nat} (hx : x ∈ xs) (hr : r ∈ x.ids) : r ∈ AV.idsL xs := by
 induction xs with
 | nil => simp at hx
 | cons y xs ih =>
  simp only [AV.idsL, List.mem_append]
  rcases List.mem_cons.1 hx with rfl | hx
  ·exact .inl hr
  ·exact .inr (ih hx)
theorem AV.of_mem_idsL {xs : List AV} {r : Nat} (hr : r ∈ AV.idsL xs) : ∃ x, x ∈ xs ∧ r ∈ x.ids := by
 induction xs with
 | nil => simp [AV.idsL] at hr
 | cons y xs ih =>
  simp only [AV.idsL, List.mem_append] at hr
  rcases hr with hr | hr
  ·exact ⟨y, by simp, hr⟩
  ·obtain ⟨x, h1, h2⟩ := ih hr
   exact ⟨x, by simp [h1], h2⟩
end Go.Proofs.YtjkfadaedgidpaaGreat
