/- A region's operations over abstract states: guards, the lexical order, any order. No condition. -/
import Derived.Test.YtjkfadaedgidpaaGreatAbsC
import Derived.Still
namespace Go.Proofs.YtjkfadaedgidpaaGreat
open Go.RowKit
set_option linter.unusedVariables false
set_option linter.unusedSimpArgs false
def gcond (ops : Array Oper) (s : AS) (o : Oper) : Option Prop :=
 match o.guard with
 | none => some True
 | some (j, want) =>
  match (ops[j]?).bind (·.dst) with
  | some d =>
   match (s.tm.getD d .any).bare with
   | .d (.v (.bool t)) => some ((s.tm.getD d .any).ok ∧ t = want)
   | _ => none
  | none => none
def wrapE (o : Oper) (G : Prop) (e : Eff) : Eff :=
 match o.guard with
 | none => e
 | some _ => { e with val := .wh G e.val }
def aYield (P : Program) (ops : Array Oper) (o : Oper) (G : Prop) (e : Eff) (s : AS) : Prop := gcond ops s o = some G ∧ acore P s G o e
def aStep (P : Program) (ops : Array Oper) (o : Oper) (K : AS → Prop) (s : AS) : Prop := ∃ G e, aYield P ops o G e s ∧ K (s.app o.dst (wrapE o G e))
def aLex (P : Program) (ops : Array Oper) (Q : AS → Prop) : List Oper → AS → Prop
 | [], s => Q s
 | o :: rest, s => aStep P ops o (aLex P ops Q rest) s
def aOp (P : Program) (ops : Array Oper) (i : Nat) (K : AS → Prop) (s : AS) : Prop :=
 match ops[i]? with
 | none => K s
 | some o => aStep P ops o K s
theorem aStep_mono {P : Program} {ops : Array Oper} {o : Oper} {K K' : AS → Prop} {s : AS} (h : ∀ s, K s → K' s) (hh : aStep P ops o K s) : aStep P ops o K' s := by
 obtain ⟨G, e, h1, h2⟩ := hh
 exact ⟨G, e, h1, h _ h2⟩
def AS.Wf (s : AS) : Prop := (∀ r, r ∈ AV.idsL s.tm → s.mem r ≠ none) ∧ (∀ r row, s.mem r = some row → ∀ e, e ∈ row.els → ∀ r', r' ∈ AV.idsL e → s.mem r' ≠ none)
def isStore (o : Oper) : Bool := match o.op with | .store _ _ _ => true | _ => false
def isAppend (o : Oper) : Bool := match o.op with | .call { callee := .builtin .append, .. } => true | _ => false
def owner (r : Nat) : Nat := if r < 1000 then r else r / 1000 - 1
def EffOk (s : AS) (G : Prop) (o : Oper) (e : Eff) : Prop :=
 ∀ r row, (r, row) ∈ e.mem → (row.g → G) ∧
  ((s.mem r = none ∧ ∃ d, o.dst = some d ∧ d < 1000 ∧ owner r = d) ∨
   ∃ row0, s.mem r = some row0 ∧ row.g = row0.g ∧ row.ty = row0.ty ∧ row.sz = row0.sz ∧ row.els.length = row0.els.length ∧ (isStore o = true ∨ (isAppend o = true ∧ row.els = row0.els)))
theorem owner_lo {d : Nat} (h : d < 1000) : owner d = d := by simp [owner, h]
theorem owner_hi {d j : Nat} (h : j < 1000) : owner (1000 * (d + 1) + j) = d := by
 unfold owner
 rw [if_neg (by omega)]
 omega
theorem owner_np {r d : Nat} (h : owner r = d) (hd : d < 1000) : ¬ pinned r := by
 unfold owner at h
 unfold pinned
 split at h <;> omega
theorem mem_addRows {G : Prop} {base : Nat} : ∀ {os : List ORow} {k r : Nat} {row : ARow}, (r, row) ∈ addRows G base k os → ∃ j o, os[j]? = some o ∧ r = base + (k + j) ∧ row = { o.row (base + (k + j)) with g := G }
 | [], k, r, row, h => by simp [addRows] at h
 | o :: os, k, r, row, h => by
  simp only [addRows, List.mem_cons, Prod.mk.injEq] at h
  rcases h with ⟨rfl, rfl⟩ | h
  ·exact ⟨0, o, by simp, by omega, by simp⟩
  ·obtain ⟨j, o', h1, h2, h3⟩ := mem_addRows h
   exact ⟨j + 1, o', by simpa using h1, by omega, by rw [h3, show k + 1 + j = k + (j + 1) by omega]⟩
theorem acore_effOk {P : Program} {s : AS} {G : Prop} {o : Oper} {e : Eff} (h : acore P s G o e) : EffOk s G o e := by
 have nil : ∀ v, e = ⟨v, []⟩ → EffOk s G o e := fun v he => by subst he; intro r row hr; simp at hr
 have one : ∀ v d row, o.dst = some d → d < 1000 → s.mem d = none → (row.g → G) → e = ⟨v, [(d, row)]⟩ → EffOk s G o e := fun v d row hd hlt hm hg he => by
  subst he
  intro r row' hr
  simp only [List.mem_cons, List.not_mem_nil, or_false, Prod.mk.injEq] at hr
  obtain ⟨rfl, rfl⟩ := hr
  exact ⟨hg, .inl ⟨hm, r, hd, hlt, owner_lo hlt⟩⟩
 unfold acore at h
 split at h
 ·exact nil _ h.2
 ·exact nil _ h.2
 ·obtain ⟨t, p, q, _, _, _, _, h⟩ := h; exact nil _ h
 ·obtain ⟨a, b, _, _, _, h⟩ := h; exact nil _ h
 ·obtain ⟨a, _, _, h⟩ := h; exact nil _ h
 ·obtain ⟨a, _, _, h⟩ := h; exact nil _ h
 ·obtain ⟨cs, v, _, _, _, h⟩ := h; exact nil _ h
 ·obtain ⟨off, _, _, h⟩ := h
  split at h
  ·exact nil _ h
  ·exact nil _ h
  ·exact nil _ h
  ·exact h.elim
 ·obtain ⟨kd, n, _, _, h⟩ := h
  split at h
  ·exact nil _ h.2.2
  ·exact nil _ h.2.2
  ·obtain ⟨m, e', _, _, h⟩ := h; exact nil _ h
  ·obtain ⟨m, e', _, _, h⟩ := h; exact nil _ h
  ·exact h.elim
 ·obtain ⟨kd, n, m, e', cs, _, _, _, _, _, _, _, _, h⟩ := h; exact nil _ h
 ·obtain ⟨off, e', cs, _, _, _, _, h⟩ := h
  unfold cond at h
  split at h <;> exact nil _ h.2
 ·obtain ⟨f, _, _, _, h⟩ := h; exact nil _ h
 ·obtain ⟨_, _, h⟩ := h
  split at h
  ·obtain ⟨row, _, h⟩ := h
   unfold cond at h
   split at h <;> exact nil _ h.2
  ·unfold cond at h
   split at h <;> exact nil _ h.2
  ·unfold cond at h
   split at h <;> exact nil _ h.2
  ·exact h.elim
 ·rename_i hop
  obtain ⟨hG, _, _, _, r, i, o', row, _, hm, _, _, _, _, _, _, rfl⟩ := h
  intro r' row' hr
  simp only [List.mem_cons, List.not_mem_nil, or_false, Prod.mk.injEq] at hr
  obtain ⟨rfl, rfl⟩ := hr
  exact ⟨fun _ => hG, .inr ⟨row, hm, rfl, rfl, rfl, by simp, .inl (by simp [isStore, hop])⟩⟩
 ·obtain ⟨d, hd, hlt, hm, _, h⟩ := h; exact one _ d _ hd hlt hm (fun h => h) h
 ·obtain ⟨d, z, hd, hlt, hm, _, _, h⟩ := h; exact one _ d _ hd hlt hm (fun h => h) h
 ·obtain ⟨z, _, h⟩ := h
  split at h
  ·obtain ⟨_, _, _, _, h⟩ := h; exact nil _ h
  ·obtain ⟨_, _, _, _, h⟩ := h; exact nil _ h
  ·exact h.elim
 ·obtain ⟨d, e', hd, hlt, hm, _, _, _, _, _, _, _, h⟩ := h; exact one _ d _ hd hlt hm (fun h => h) h
 ·obtain ⟨d, e', k, k', n, z, hd, hlt, hm, _, _, _, _, _, _, _, h⟩ := h; exact one _ d _ hd hlt hm (fun h => h) h
 ·obtain ⟨_, sz, els, i, j, _, _, _, _, _, h⟩ := h; exact nil _ h
 ·rename_i c hop
  split at h
  ·obtain ⟨x, t, _, _, _, _, h⟩ := h
   split at h
   ·exact nil _ h
   ·exact nil _ h
   ·exact nil _ h
   ·exact h.elim
  ·obtain ⟨l, _, _, h⟩ := h; exact nil _ h
  ·obtain ⟨l, _, _, h⟩ := h; exact nil _ h
  ·rename_i hb
   obtain ⟨hG, x, y, t, e', d, new, _, _, _, hd, hlt, hm, _, _, _, _, _, _, _, h⟩ := h
   have hap : isAppend o = true := by
    obtain ⟨cl, ar, at_⟩ := c
    simp only at hb
    subst hb
    simp [isAppend, hop]
   split at h
   ·obtain ⟨_, _, h⟩ := h; exact one _ d _ hd hlt hm (fun _ => hG) h
   ·obtain ⟨row, old, hr, _, _, _, _, _, _, _, _, rfl⟩ := h
    intro r' row' hr'
    simp only [List.mem_cons, List.not_mem_nil, or_false, Prod.mk.injEq] at hr'
    rcases hr' with ⟨rfl, rfl⟩ | ⟨rfl, rfl⟩
    ·exact ⟨fun _ => hG, .inr ⟨row, hr, rfl, rfl, rfl, rfl, .inr ⟨hap, rfl⟩⟩⟩
    ·exact ⟨fun _ => hG, .inl ⟨hm, r', hd, hlt, owner_lo hlt⟩⟩
   ·exact h.elim
  ·rcases h with ⟨fid, ds, cs, rows, res, _, _, _, _, d, hd, hl, hm, _, rfl⟩ | ⟨_, _, _, _, _, _, h⟩
   case inr => exact nil _ h
   intro r' row' hr'
   obtain ⟨j, o', hj, rfl, rfl⟩ := mem_addRows hr'
   have hjl : j < rows.length := (List.getElem?_eq_some_iff.1 hj).1
   refine ⟨fun h => h, .inl ⟨by simpa using hm j hjl, d, hd, hl.1, ?_⟩⟩
   rw [Nat.zero_add]
   exact owner_hi (by omega)
  ·exact h.elim
 ·exact h.elim
end Go.Proofs.YtjkfadaedgidpaaGreat
