/- Well-formed states stay so; the lexical order of a region serves every order. No condition. -/
import Derived.Test.YtjkfadaedgidpaaGreatAbsE
namespace Go.Proofs.YtjkfadaedgidpaaGreat
open Go.RowKit
set_option linter.unusedVariables false
set_option linter.unusedSimpArgs false
theorem idsL_mapD : ∀ (l : List D), AV.idsL (l.map .d) = []
 | [] => rfl
 | x :: l => by simp [AV.idsL, AV.ids, idsL_mapD l]
theorem idsL_mapV : ∀ (l : List Value), AV.idsL (l.map fun u => .d (.v u)) = []
 | [] => rfl
 | x :: l => by simp [AV.idsL, AV.ids, idsL_mapV l]
theorem idsL_append : ∀ (l k : List AV), AV.idsL (l ++ k) = AV.idsL l ++ AV.idsL k
 | [], k => rfl
 | x :: l, k => by simp [AV.idsL, idsL_append l k]
theorem idsL_sub {l k : List AV} (h : ∀ x, x ∈ l → x ∈ k) {r : Nat} (hr : r ∈ AV.idsL l) : r ∈ AV.idsL k := by
 obtain ⟨x, h1, h2⟩ := AV.of_mem_idsL hr
 exact AV.mem_idsL (h x h1) h2
theorem idsL_set {l : List AV} {d : Nat} {v : AV} {r : Nat} (hr : r ∈ AV.idsL (l.set d v)) : r ∈ AV.idsL l ∨ r ∈ v.ids := by
 obtain ⟨x, h1, h2⟩ := AV.of_mem_idsL hr
 rcases List.mem_or_eq_of_mem_set h1 with h1 | rfl
 ·exact .inl (AV.mem_idsL h1 h2)
 ·exact .inr h2
theorem ids_cellsOf {x : AV} {r : Nat} (hr : r ∈ AV.idsL x.cellsOf) : r ∈ x.ids := by
 unfold AV.cellsOf at hr
 split at hr
 ·simpa [AV.ids] using hr
 ·rw [idsL_mapD] at hr; simp at hr
 ·rw [idsL_mapV] at hr; simp at hr
 ·simpa [AV.idsL] using hr
theorem idsL_splice {l new : List AV} {o r : Nat} (hr : r ∈ AV.idsL (splice l o new)) : r ∈ AV.idsL l ∨ r ∈ AV.idsL new := by
 unfold splice at hr
 rw [idsL_append, idsL_append] at hr
 rcases List.mem_append.1 hr with hr | hr
 ·rcases List.mem_append.1 hr with hr | hr
  ·exact .inl (idsL_sub (fun x hx => List.mem_of_mem_take hx) hr)
  ·exact .inr hr
 ·exact .inl (idsL_sub (fun x hx => List.mem_of_mem_drop hx) hr)
theorem bare_ids {x : AV} {r : Nat} (hr : r ∈ x.bare.ids) : r ∈ x.ids := by
 unfold AV.bare at hr
 split at hr
 ·simpa [AV.ids] using hr
 ·exact hr
theorem AS.Wf.at_ {s : AS} (h : s.Wf) (x : Operand) : ∀ r, r ∈ (s.at x).ids → s.mem r ≠ none := by
 intro r hr
 have hr := bare_ids hr
 cases x with
 | tmp t =>
  unfold AS.ev at hr
  cases hx : s.tm[t]? with
  | none => simp [List.getD, hx, AV.ids] at hr
  | some x =>
   simp only [List.getD, hx, Option.getD_some] at hr
   exact h.1 r (AV.mem_idsL (List.mem_of_getElem? hx) hr)
 | const v => simp [AS.ev, AV.ids] at hr
 | func f => simp [AS.ev, AV.ids] at hr
 | global g => simp [AS.ev, AV.ids] at hr
mutual
theorem ren_ids (f : Nat → Nat) : ∀ (x : AV) (r : Nat), r ∈ (x.ren f).ids → ∃ r', r' ∈ x.ids ∧ r = f r'
 | .any, r, h => by simp [AV.ren, AV.ids] at h
 | .d x, r, h => by simp [AV.ren, AV.ids] at h
 | .ep cs, r, h => by simp [AV.ren, AV.ids] at h
 | .ref r' n, r, h => by simp only [AV.ren, AV.ids, List.mem_singleton] at h; exact ⟨r', by simp [AV.ids], h⟩
 | .ptr r' i o, r, h => by simp only [AV.ren, AV.ids, List.mem_singleton] at h; exact ⟨r', by simp [AV.ids], h⟩
 | .ag cs, r, h => by
  simp only [AV.ren, AV.ids] at h ⊢
  exact renL_ids f cs r h
 | .tp cs, r, h => by
  simp only [AV.ren, AV.ids] at h ⊢
  exact renL_ids f cs r h
 | .wh g x, r, h => by
  simp only [AV.ren, AV.ids] at h ⊢
  exact ren_ids f x r h
 | .cl g cs, r, h => by
  simp only [AV.ren, AV.ids] at h ⊢
  exact renL_ids f cs r h
theorem renL_ids (f : Nat → Nat) : ∀ (xs : List AV) (r : Nat), r ∈ AV.idsL (AV.renL f xs) → ∃ r', r' ∈ AV.idsL xs ∧ r = f r'
 | [], r, h => by simp [AV.renL, AV.idsL] at h
 | x :: xs, r, h => by
  simp only [AV.renL, AV.idsL, List.mem_append] at h ⊢
  rcases h with h | h
  ·obtain ⟨r', h1, h2⟩ := ren_ids f x r h
   exact ⟨r', .inl h1, h2⟩
  ·obtain ⟨r', h1, h2⟩ := renL_ids f xs r h
   exact ⟨r', .inr h1, h2⟩
end
theorem mem_addRows' {G : Prop} {base : Nat} : ∀ {os : List ORow} {k j : Nat}, j < os.length → ∃ row, (base + (k + j), row) ∈ addRows G base k os
 | [], k, j, h => by simp at h
 | o :: os, k, j, h => by
  cases j with
  | zero => exact ⟨_, by simp only [addRows, Nat.add_zero]; exact List.mem_cons_self⟩
  | succ j =>
   obtain ⟨row, hr⟩ := mem_addRows' (G := G) (base := base) (os := os) (k := k + 1) (j := j) (by simpa using h)
   exact ⟨row, by simp only [addRows]; rw [show k + (j + 1) = k + 1 + j by omega]; exact List.mem_cons_of_mem _ hr⟩
theorem foldl_splice_ids {l : List (Nat × Operand)} {s : AS} {g : Nat × Operand → Nat} (hs : s.Wf) : ∀ (z : List AV), (∀ r, r ∈ AV.idsL z → s.mem r ≠ none) →
  ∀ r, r ∈ AV.idsL (l.foldl (fun b p => splice b (g p) (s.at p.2).cellsOf) z) → s.mem r ≠ none := by
 induction l with
 | nil => intro z hz r hr; exact hz r hr
 | cons p l ih =>
  intro z hz r hr
  simp only [List.foldl_cons] at hr
  refine ih _ (fun r hr => ?_) r hr
  rcases idsL_splice hr with hr | hr
  ·exact hz r hr
  ·exact hs.at_ p.2 r (ids_cellsOf hr)
theorem acore_ids {P : Program} {s : AS} {G : Prop} {o : Oper} {e : Eff} (hs : s.Wf) (h : acore P s G o e) :
  (∀ r, r ∈ e.val.ids → s.mem r ≠ none ∨ ∃ row, (r, row) ∈ e.mem) ∧ (∀ r row, (r, row) ∈ e.mem → ∀ el, el ∈ row.els → ∀ r', r' ∈ AV.idsL el → s.mem r' ≠ none) := by
 have nil : ∀ v, e = ⟨v, []⟩ → (∀ r, r ∈ v.ids → s.mem r ≠ none) → (∀ r, r ∈ e.val.ids → s.mem r ≠ none ∨ ∃ row, (r, row) ∈ e.mem) ∧ (∀ r row, (r, row) ∈ e.mem → ∀ el, el ∈ row.els → ∀ r', r' ∈ AV.idsL el → s.mem r' ≠ none) :=
  fun v he hv => by subst he; exact ⟨fun r hr => .inl (hv r hr), fun r row hr => by simp at hr⟩
 have nilD : ∀ x, e = ⟨.d x, []⟩ → (∀ r, r ∈ e.val.ids → s.mem r ≠ none ∨ ∃ row, (r, row) ∈ e.mem) ∧ (∀ r row, (r, row) ∈ e.mem → ∀ el, el ∈ row.els → ∀ r', r' ∈ AV.idsL el → s.mem r' ≠ none) :=
  fun x he => nil _ he (fun r hr => by simp [AV.ids] at hr)
 have one : ∀ v d row, (∀ r, r ∈ v.ids → r = d) → (∀ el, el ∈ row.els → ∀ r', r' ∈ AV.idsL el → s.mem r' ≠ none) → e = ⟨v, [(d, row)]⟩ →
   (∀ r, r ∈ e.val.ids → s.mem r ≠ none ∨ ∃ row, (r, row) ∈ e.mem) ∧ (∀ r row, (r, row) ∈ e.mem → ∀ el, el ∈ row.els → ∀ r', r' ∈ AV.idsL el → s.mem r' ≠ none) := fun v d row hv hrow he => by
  subst he
  refine ⟨fun r hr => .inr ⟨row, by simp [hv r hr]⟩, fun r row' hr => ?_⟩
  simp only [List.mem_cons, List.not_mem_nil, or_false, Prod.mk.injEq] at hr
  rw [hr.2]
  exact hrow
 have hat := hs.at_
 unfold acore at h
 split at h
 ·exact nil _ h.2 (hat _)
 ·exact nil _ h.2 (hat _)
 ·obtain ⟨t, p, q, _, _, _, _, h⟩ := h; exact nilD _ h
 ·obtain ⟨a, b, _, _, _, h⟩ := h; exact nilD _ h
 ·obtain ⟨a, _, _, h⟩ := h; exact nilD _ h
 ·obtain ⟨a, _, _, h⟩ := h; exact nilD _ h
 ·rename_i x i _
  obtain ⟨cs, v, h1, h2, _, h⟩ := h
  refine nil _ h fun r hr => hat x r ?_
  rw [h1]
  simp only [AV.ids]
  exact AV.mem_idsL (List.mem_of_getElem? h2) hr
 ·rename_i x f _
  obtain ⟨off, _, _, h⟩ := h
  have hx := hat x
  generalize s.at x = v at *
  split at h
  ·exact nil _ h (fun r hr => hx r (by simpa [AV.ids] using hr))
  ·exact nil _ h (fun r hr => by simp [AV.ids] at hr)
  ·exact nil _ h (fun r hr => by simp [AV.ids] at hr)
  ·exact h.elim
 ·rename_i x ix _
  obtain ⟨kd, n, _, _, h⟩ := h
  have hx := hat x
  generalize s.at x = v at *
  split at h
  ·exact nil _ h.2.2 (fun r hr => by simp [AV.ids] at hr)
  ·exact nil _ h.2.2 (fun r hr => hx r (by simpa [AV.ids] using hr))
  ·obtain ⟨m, e', _, _, h⟩ := h; exact nil _ h (fun r hr => hx r (by simpa [AV.ids] using hr))
  ·obtain ⟨m, e', _, _, h⟩ := h; exact nil _ h (fun r hr => by simp [AV.ids] at hr)
  ·exact h.elim
 ·rename_i x ix _
  obtain ⟨kd, n, m, e', cs, _, _, _, _, _, hx, _, _, h⟩ := h
  refine nil _ h fun r hr => ?_
  cases hn : cs[n.toNat]? with
  | none => rw [List.getD, hn] at hr; simp [AV.ids] at hr
  | some u =>
   rw [List.getD, hn] at hr
   rcases hx with hx | ⟨ds, hx, rfl⟩
   ·refine hat x r ?_
    rw [hx]
    simp only [AV.ids]
    exact AV.mem_idsL (List.mem_of_getElem? hn) hr
   ·obtain ⟨d, _, rfl⟩ := List.mem_map.1 (List.mem_of_getElem? hn)
    simp [AV.ids] at hr
 ·rename_i x f _
  obtain ⟨off, e', cs, _, _, hx, _, h⟩ := h
  have hcs : ∀ r, r ∈ AV.idsL cs → s.mem r ≠ none := fun r hr => by
   rcases hx with hx | ⟨ds, hx, rfl⟩
   ·exact hat x r (by rw [hx]; exact hr)
   ·rw [idsL_mapD] at hr; simp at hr
  unfold cond at h
  split at h
  ·refine nil _ h.2 fun r hr => hcs r ?_
   simp only [AV.ids] at hr
   exact idsL_sub (fun x hx => List.mem_of_mem_drop (List.mem_of_mem_take hx)) hr
  ·refine nil _ h.2 fun r hr => hcs r ?_
   cases ho : cs[off]? with
   | none => rw [List.getD, ho] at hr; simp [AV.ids] at hr
   | some x =>
    rw [List.getD, ho] at hr
    exact AV.mem_idsL (List.mem_of_getElem? ho) hr
 ·obtain ⟨f, _, _, _, h⟩ := h
  refine nil _ h fun r hr => ?_
  simp only [AV.ids] at hr
  have key : ∀ (l : List Operand), r ∈ AV.idsL (l.map s.at) → s.mem r ≠ none := fun l => by
   induction l with
   | nil => intro h; simp [AV.idsL] at h
   | cons x l ih =>
    intro h
    simp only [List.map_cons, AV.idsL, List.mem_append] at h
    rcases h with h | h
    ·exact hat x r h
    ·exact ih h
  exact key _ hr
 ·obtain ⟨_, _, h⟩ := h
  split at h
  ·obtain ⟨row, hr, h⟩ := h
   rename_i i o' _
   have hel : ∀ r', r' ∈ AV.idsL (row.els.getD i []) → s.mem r' ≠ none := fun r' hr' => by
    cases hi : row.els[i]? with
    | none => simp [List.getD, hi, AV.idsL] at hr'
    | some el =>
     simp only [List.getD, hi, Option.getD_some] at hr'
     exact hs.2 _ row hr el (List.mem_of_getElem? hi) r' hr'
   unfold cond at h
   split at h
   ·refine nil _ h.2 fun r hr => hel r ?_
    simp only [AV.ids] at hr
    exact idsL_sub (fun x hx => List.mem_of_mem_drop (List.mem_of_mem_take hx)) hr
   ·refine nil _ h.2 fun r hr => hel r ?_
    cases ho : (row.els.getD i [])[o']? with
    | none => rw [List.getD, ho] at hr; simp [AV.ids] at hr
    | some x =>
     rw [List.getD, ho] at hr
     exact AV.mem_idsL (List.mem_of_getElem? ho) hr
  ·unfold cond at h
   split at h <;> exact nilD _ h.2
  ·unfold cond at h
   split at h <;> exact nilD _ h.2
  ·exact h.elim
 ·rename_i x y _
  obtain ⟨hG, _, _, _, r, i, o', row, _, hm, _, _, hi, _, _, _, rfl⟩ := h
  refine ⟨fun r hr => by simp [AV.ids] at hr, fun r' row' hr el hel r'' hr'' => ?_⟩
  simp only [List.mem_cons, List.not_mem_nil, or_false, Prod.mk.injEq] at hr
  rw [hr.2] at hel
  simp only at hel
  rcases List.mem_or_eq_of_mem_set hel with hel | rfl
  ·exact hs.2 _ row hm el hel r'' hr''
  ·rcases idsL_splice hr'' with hr'' | hr''
   ·refine hs.2 _ row hm (row.els.getD i []) ?_ r'' hr''
    rw [List.getD, List.getElem?_eq_getElem hi]
    exact List.getElem_mem hi
   ·exact hat y r'' (ids_cellsOf hr'')
 ·rename_i x _
  obtain ⟨d, hd, hlt, hm, _, h⟩ := h
  refine one _ d _ (by simp [AV.ids]) (fun el hel r' hr' => ?_) h
  simp only [newRow1, List.mem_singleton] at hel
  subst hel
  exact hat x r' (ids_cellsOf hr')
 ·obtain ⟨d, z, hd, hlt, hm, _, _, h⟩ := h
  refine one _ d _ (by simp [AV.ids]) (fun el hel r' hr' => ?_) h
  simp only [newRow1, List.mem_singleton] at hel
  subst hel
  rw [idsL_mapV] at hr'
  simp at hr'
 ·obtain ⟨z, _, h⟩ := h
  have hz : ∀ r, r ∈ AV.idsL (z.map fun u => AV.d (.v u)) → s.mem r ≠ none := fun r hr => by rw [idsL_mapV] at hr; simp at hr
  split at h
  ·obtain ⟨_, _, _, _, h⟩ := h
   refine nil _ h fun r hr => ?_
   simp only [AV.ids] at hr
   exact foldl_splice_ids hs _ hz r hr
  ·obtain ⟨_, _, _, _, h⟩ := h
   refine nil _ h fun r hr => ?_
   simp only [AV.ids] at hr
   exact foldl_splice_ids hs _ hz r hr
  ·exact h.elim
 ·obtain ⟨d, e', hd, hlt, hm, _, _, _, _, _, _, _, h⟩ := h
  refine one _ d _ (by simp [AV.ids]) (fun el hel r' hr' => ?_) h
  simp only [newRow1, List.mem_map] at hel
  obtain ⟨p, hp, rfl⟩ := hel
  exact hat p.2 r' (ids_cellsOf hr')
 ·obtain ⟨d, e', k, k', n, z, hd, hlt, hm, _, _, _, _, _, _, _, h⟩ := h
  refine one _ d _ (by simp [AV.ids]) (fun el hel r' hr' => ?_) h
  simp only [newRow1] at hel
  rw [(List.mem_replicate.1 hel).2, idsL_mapV] at hr'
  simp at hr'
 ·obtain ⟨_, sz, els, i, j, _, _, _, _, _, h⟩ := h
  exact nilD _ h
 ·rename_i c hop
  split at h
  ·obtain ⟨x, t, _, _, _, _, h⟩ := h
   split at h
   ·exact nilD _ h
   ·exact nilD _ h
   ·exact nilD _ h
   ·exact h.elim
  ·obtain ⟨l, _, _, h⟩ := h; exact nilD _ h
  ·obtain ⟨l, _, _, h⟩ := h; exact nilD _ h
  ·obtain ⟨hG, x, y, t, e', d, new, _, _, _, hd, hlt, hm, _, _, _, _, _, _, _, h⟩ := h
   have data : ∀ (l : List (List D)) (el : List AV), el ∈ l.map (·.map .d) → ∀ r', r' ∈ AV.idsL el → s.mem r' ≠ none := fun l el hel r' hr' => by
    obtain ⟨k, _, rfl⟩ := List.mem_map.1 hel
    rw [idsL_mapD] at hr'
    simp at hr'
   split at h
   ·obtain ⟨_, _, h⟩ := h
    exact one _ d _ (by simp [AV.ids]) (fun el hel r' hr' => data _ el hel r' hr') h
   ·obtain ⟨row, old, hr, _, _, _, _, _, _, _, _, rfl⟩ := h
    refine ⟨fun r' hr' => ?_, fun r' row' hr' el hel r'' hr'' => ?_⟩
    ·simp only [AV.ids, List.mem_singleton] at hr'
     exact .inr ⟨_, by rw [hr']; exact List.mem_cons_of_mem _ List.mem_cons_self⟩
    ·simp only [List.mem_cons, List.not_mem_nil, or_false, Prod.mk.injEq] at hr'
     rcases hr' with ⟨_, rfl⟩ | ⟨_, rfl⟩
     ·exact hs.2 _ row hr el hel r'' hr''
     ·exact data _ el hel r'' hr''
   ·exact h.elim
  ·rcases h with ⟨fid, ds, cs, rows, res, _, _, _, _, d, hd, hl, hm, hids, rfl⟩ | ⟨_, _, v, _, _, _, h⟩
   case inr =>
    refine nil _ h fun r hr => ?_
    unfold ofV at hr
    split at hr
    ·simp only [AV.ids] at hr; rw [idsL_mapV] at hr; simp at hr
    ·simp [AV.ids] at hr
   refine ⟨fun r hr => ?_, fun r row hr el hel r' hr' => ?_⟩
   ·obtain ⟨r', h1, rfl⟩ := ren_ids _ _ _ hr
    obtain ⟨row, hrow⟩ := mem_addRows' (G := G) (base := 1000 * (d + 1)) (k := 0) (hids r' h1)
    exact .inr ⟨row, by simpa using hrow⟩
   ·obtain ⟨j, o', hj, rfl, rfl⟩ := mem_addRows hr
    simp only [ORow.row, List.mem_map] at hel
    obtain ⟨l, _, rfl⟩ := hel
    rw [idsL_mapD] at hr'
    simp at hr'
  ·exact h.elim
 ·exact h.elim
theorem ovr_some {l : List (Nat × ARow)} {m : Nat → Option ARow} {r : Nat} (h : m r ≠ none ∨ ∃ row, (r, row) ∈ l) : ovr l m r ≠ none := by
 induction l with
 | nil => rcases h with h | ⟨row, h⟩; exact h; simp at h
 | cons p l ih =>
  obtain ⟨q, row'⟩ := p
  simp only [ovr]
  split
  ·simp
  ·rename_i hne
   refine ih ?_
   rcases h with h | ⟨row, h⟩
   ·exact .inl h
   ·refine .inr ⟨row, ?_⟩
    rcases List.mem_cons.1 h with h | h
    ·injection h with h1 h2; exact (hne h1).elim
    ·exact h
theorem ovr_mem {l : List (Nat × ARow)} {m : Nat → Option ARow} {r : Nat} {row : ARow} (h : ovr l m r = some row) : (r, row) ∈ l ∨ ((∀ row', (r, row') ∉ l) ∧ m r = some row) := by
 induction l with
 | nil => exact .inr ⟨by simp, h⟩
 | cons p l ih =>
  obtain ⟨q, row'⟩ := p
  simp only [ovr] at h
  split at h
  ·rename_i he; subst he; injection h with h; subst h; exact .inl (by simp)
  ·rename_i hne
   rcases ih h with h | ⟨h1, h2⟩
   ·exact .inl (by simp [h])
   ·exact .inr ⟨fun row'' hr => by
     rcases List.mem_cons.1 hr with hr | hr
     ·injection hr with e1 _; exact hne e1
     ·exact h1 row'' hr, h2⟩
theorem ovr_none {l : List (Nat × ARow)} {m : Nat → Option ARow} {r : Nat} (h : ∀ row, (r, row) ∉ l) : ovr l m r = m r := by
 induction l with
 | nil => rfl
 | cons p l ih =>
  obtain ⟨q, row'⟩ := p
  simp only [ovr]
  rw [if_neg (fun e => h row' (by subst e; simp))]
  exact ih fun row hr => h row (by simp [hr])
theorem wrapE_mem (o : Oper) (G : Prop) (e : Eff) : (wrapE o G e).mem = e.mem := by
 unfold wrapE; split <;> rfl
theorem wrapE_ids (o : Oper) (G : Prop) (e : Eff) : (wrapE o G e).val.ids = e.val.ids := by
 unfold wrapE; split <;> simp [AV.ids]
theorem AS.Wf.app {P : Program} {s : AS} {G : Prop} {o : Oper} {e : Eff} (hs : s.Wf) (h : acore P s G o e) : (s.app o.dst (wrapE o G e)).Wf := by
 obtain ⟨h1, h2⟩ := acore_ids hs h
 have hm : (s.app o.dst (wrapE o G e)).mem = ovr e.mem s.mem := by simp [AS.app, wrapE_mem]
 refine ⟨fun r hr => ?_, fun r row hr el hel r' hr' => ?_⟩
 ·rw [hm]
  have hr' : r ∈ AV.idsL s.tm ∨ r ∈ e.val.ids := by
   unfold AS.app at hr
   cases hd : o.dst with
   | none => rw [hd] at hr; exact .inl hr
   | some d =>
    rw [hd] at hr
    rcases idsL_set hr with hr | hr
    ·exact .inl hr
    ·rw [wrapE_ids] at hr; exact .inr hr
  rcases hr' with hr' | hr'
  ·exact ovr_some (.inl (hs.1 r hr'))
  ·exact ovr_some (h1 r hr')
 ·rw [hm] at hr ⊢
  rcases ovr_mem hr with hr | ⟨_, hr⟩
  ·exact ovr_some (.inl (h2 r row hr el hel r' hr'))
  ·exact ovr_some (.inl (hs.2 r row hr el hel r' hr'))
end Go.Proofs.YtjkfadaedgidpaaGreat
