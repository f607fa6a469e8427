/- When a world fits rows; steps that keep the fit; what an operation does; frames. No condition. -/
import Derived.Test.YteanccnggaakeaaGreatCmA
namespace Go.Proofs.YteanccnggaakeaaGreat
open Go.RowKit
set_option linter.unusedVariables false
set_option linter.unusedSimpArgs false

/- A row: of a type, of so many cells an element; or one that nobody uses any more. -/
inductive CR where
  | live (ty sz : Nat) (els : List (List CV))
  | dead
/- Names lie below. -/
def NM : Nat := 65536
def upd {α : Type} (f : Nat → α) (k : Nat) (x : α) : Nat → α := fun j => if j = k then x else f j
theorem upd_same {α : Type} (f : Nat → α) (k : Nat) (x : α) : upd f k x k = x := if_pos rfl
theorem upd_ne {α : Type} (f : Nat → α) {j k : Nat} (x : α) (h : j ≠ k) : upd f k x j = f j := if_neg h

structure RowAt (G : Gh) (w : World) (r ty sz : Nat) (els : List (List CV)) : Prop where
  hsz : G.sz r = sz
  cap : G.kp r ≤ maxLen
  len : els.length ≤ G.kp r
  at_ : ∃ cur vs, w.heap[G.bt r]? = some (.cells cur ty (0, 0)) ∧ Rss G sz els vs ∧ cur.toList.take vs.length = vs ∧ cur.size = G.kp r * sz

/- F: blocks of others, which stay as they were in w0. -/
structure Fit (F : Nat → Prop) (w0 : World) (G : Gh) (M : Nat → CR) (w : World) : Prop where
  os : w.os = w0.os
  tape : w.tape = w0.tape
  output : w.output = w0.output
  size : w0.heap.size ≤ w.heap.size
  low : ∀ b, F b → b < w0.heap.size
  keep : ∀ b, F b → w.heap[b]? = w0.heap[b]?
  dlt : ∀ r, G.dom r → r < NM
  rows : ∀ r ty sz els, G.dom r → M r = .live ty sz els → RowAt G w r ty sz els
  inj : ∀ r r', G.dom r → G.dom r' → M r ≠ .dead → M r' ≠ .dead → G.bt r = G.bt r' → r = r'
  off : ∀ r, G.dom r → M r ≠ .dead → ¬ F (G.bt r)

def Free (nb nb' : Nat) (G : Gh) : Prop := ∀ r, nb ≤ r → r < nb' → ¬ G.dom r
structure Step (nb nb' : Nat) (G G' : Gh) : Prop where
  le : G.le G'
  new : ∀ r, G'.dom r → G.dom r ∨ (nb ≤ r ∧ r < nb')
theorem Step.refl (nb : Nat) (G : Gh) : Step nb nb G G := ⟨.refl G, fun _ h => .inl h⟩
theorem Step.trans {a b c : Nat} {G G' G'' : Gh} (h : Step a b G G') (k : Step b c G' G'') (h1 : a ≤ b) (h2 : b ≤ c) : Step a c G G'' :=
  ⟨h.le.trans k.le, fun r hr => by
    rcases k.new r hr with hr | hr
    · rcases h.new r hr with hr | hr
      · exact .inl hr
      · exact .inr (by omega)
    · exact .inr (by omega)⟩
theorem Step.wide {a b c d : Nat} {G G' : Gh} (h : Step b c G G') (h1 : a ≤ b) (h2 : c ≤ d) : Step a d G G' :=
  ⟨h.le, fun r hr => (h.new r hr).imp id fun hr => by omega⟩
theorem Free.sub {a b c d : Nat} {G : Gh} (h : Free a d G) (h1 : a ≤ b) (h2 : c ≤ d) : Free b c G := fun r hr hr' => h r (by omega) (by omega)
theorem Free.next {a b c : Nat} {G G' : Gh} (h : Free a c G) (k : Step a b G G') (h1 : a ≤ b) : Free b c G' := fun r hr hr' hd => by
  rcases k.new r hd with hd | hd
  · exact h r (by omega) hr' hd
  · omega

theorem live_ne {ty sz : Nat} {els : List (List CV)} : CR.live ty sz els ≠ .dead := fun h => by cases h
theorem ne_dead {x : CR} (h : x ≠ .dead) : ∃ ty sz els, x = .live ty sz els := by
  cases x with
  | live ty sz els => exact ⟨ty, sz, els, rfl⟩
  | dead => exact (h rfl).elim
theorem RowAt.block_lt {G : Gh} {w : World} {r ty sz : Nat} {els : List (List CV)} (h : RowAt G w r ty sz els) : G.bt r < w.heap.size := by
  obtain ⟨cur, vs, h1, _⟩ := h.at_
  exact (Array.getElem?_eq_some_iff.1 h1).1
theorem RowAt.move {G G' : Gh} {w w' : World} {r ty sz : Nat} {els : List (List CV)} (h : RowAt G w r ty sz els) (hl : G.le G') (hd : G.dom r) (hb : w'.heap[G.bt r]? = w.heap[G.bt r]?) : RowAt G' w' r ty sz els := by
  obtain ⟨_, a2, a3, a4⟩ := hl r hd
  obtain ⟨cur, vs, h1, h2, h3, h4⟩ := h.at_
  exact ⟨by rw [a4]; exact h.hsz, by rw [a3]; exact h.cap, by rw [a3]; exact h.len, cur, vs, by rw [a2, hb]; exact h1, Rss.up hl _ _ h2, h3, by rw [a3]; exact h4⟩

section
variable {F : Nat → Prop} {w0 w w' : World} {G G' : Gh} {M M' : Nat → CR}
theorem Fit.block_lt (h : Fit F w0 G M w) {r : Nat} (hd : G.dom r) (hm : M r ≠ .dead) : G.bt r < w.heap.size := by
  obtain ⟨ty, sz, els, e⟩ := ne_dead hm
  exact (h.rows r ty sz els hd e).block_lt
theorem Fit.forget (h : Fit F w0 G M w) (hm : ∀ r, G.dom r → M' r = M r ∨ M' r = .dead) : Fit F w0 G M' w := by
  have key : ∀ r, G.dom r → M' r ≠ .dead → M r = M' r := fun r hd hn => by
    rcases hm r hd with e | e
    · exact e.symm
    · exact (hn e).elim
  refine ⟨h.os, h.tape, h.output, h.size, h.low, h.keep, h.dlt, fun r ty sz els hd hr => h.rows r ty sz els hd ((key r hd (by rw [hr]; exact live_ne)).trans hr), fun r r' hd hd' hr hr' hb => h.inj r r' hd hd' (by rw [key r hd hr]; exact hr) (by rw [key r' hd' hr']; exact hr') hb, fun r hd hr => h.off r hd (by rw [key r hd hr]; exact hr)⟩
theorem Fit.drawn (h : Fit F w0 G M w) (n : Nat) : Fit F w0 G M { w with drawn := n } :=
  ⟨h.os, h.tape, h.output, h.size, h.low, h.keep, h.dlt, fun r ty sz els hd hr => (h.rows r ty sz els hd hr).move (.refl G) hd rfl, h.inj, h.off⟩

def Gh.add (G : Gh) (d b k sz : Nat) : Gh := { dom := fun r => r = d ∨ G.dom r, bt := upd G.bt d b, kp := upd G.kp d k, sz := upd G.sz d sz }
theorem Gh.add_le {d b k sz : Nat} (hd : ¬ G.dom d) : G.le (G.add d b k sz) := fun r hr => by
  have hne : r ≠ d := fun e => hd (e ▸ hr)
  exact ⟨.inr hr, upd_ne _ _ hne, upd_ne _ _ hne, upd_ne _ _ hne⟩
theorem Gh.add_at {d b k sz : Nat} : (G.add d b k sz).dom d ∧ (G.add d b k sz).bt d = b ∧ (G.add d b k sz).kp d = k ∧ (G.add d b k sz).sz d = sz := ⟨.inl rfl, upd_same _ _ _, upd_same _ _ _, upd_same _ _ _⟩
theorem Step.add {d b k sz : Nat} (hd : ¬ G.dom d) : Step d (d + 1) G (G.add d b k sz) := ⟨Gh.add_le hd, fun r hr => by
  rcases hr with rfl | hr
  · exact .inr (by omega)
  · exact .inl hr⟩

/- A new name d for block b, which is new, or that of a row that is given up. -/
theorem Fit.put (h : Fit F w0 G M w) {d b k sz ty : Nat} {els : List (List CV)} (hd : ¬ G.dom d) (hn : d < NM) (hsub : ∀ r, M' r = M r ∨ M' r = .dead)
    (hb : ∀ r, G.dom r → M' r ≠ .dead → G.bt r ≠ b) (hF : ¬ F b) (hos : w'.os = w.os) (htape : w'.tape = w.tape) (hout : w'.output = w.output) (hsize : w.heap.size ≤ w'.heap.size)
    (hold : ∀ j, j < w.heap.size → j ≠ b → w'.heap[j]? = w.heap[j]?) (hrow : RowAt (G.add d b k sz) w' d ty sz els) : Fit F w0 (G.add d b k sz) (upd M' d (.live ty sz els)) w' := by
  have hf := h.forget (M' := M') fun r _ => hsub r
  have hle : G.le (G.add d b k sz) := Gh.add_le hd
  have hdom : ∀ r, (G.add d b k sz).dom r → r = d ∨ (r ≠ d ∧ G.dom r) := fun r hr => by
    by_cases e : r = d
    · exact .inl e
    · exact .inr ⟨e, hr.resolve_left e⟩
  refine ⟨hos.trans h.os, htape.trans h.tape, hout.trans h.output, Nat.le_trans h.size hsize, h.low, fun j hj => ?_, fun r hr => ?_, fun r ty' sz' els' hr hm => ?_, fun r r' hr hr' hm hm' e => ?_, fun r hr hm => ?_⟩
  · exact (hold j (Nat.lt_of_lt_of_le (h.low j hj) h.size) (fun e => hF (e ▸ hj))).trans (h.keep j hj)
  · rcases hdom r hr with rfl | ⟨_, hr⟩
    · exact hn
    · exact h.dlt r hr
  · rcases hdom r hr with rfl | ⟨hne, hr⟩
    · rw [upd_same] at hm
      cases hm
      exact hrow
    · rw [upd_ne _ _ hne] at hm
      have hl : M' r ≠ .dead := by rw [hm]; exact live_ne
      have hra := hf.rows r _ _ _ hr hm
      exact hra.move hle hr (hold _ hra.block_lt (hb r hr hl))
  · rcases hdom r hr with rfl | ⟨hne, hq⟩ <;> rcases hdom r' hr' with rfl | ⟨hne', hq'⟩
    · rfl
    · rw [upd_ne _ _ hne'] at hm'
      rw [(Gh.add_at).2.1, (hle r' hq').2.1] at e
      exact (hb r' hq' hm' e.symm).elim
    · rw [upd_ne _ _ hne] at hm
      rw [(Gh.add_at).2.1, (hle r hq).2.1] at e
      exact (hb r hq hm e).elim
    · rw [upd_ne _ _ hne] at hm
      rw [upd_ne _ _ hne'] at hm'
      rw [(hle r hq).2.1, (hle r' hq').2.1] at e
      exact hf.inj r r' hq hq' hm hm' e
  · rcases hdom r hr with rfl | ⟨hne, hr⟩
    · rw [(Gh.add_at).2.1]; exact hF
    · rw [upd_ne _ _ hne] at hm
      rw [(hle r hr).2.1]
      exact hf.off r hr hm
/- A new row in a new block. -/
theorem Fit.newRow (h : Fit F w0 G M w) {d k sz ty : Nat} {els : List (List CV)} (hd : ¬ G.dom d) (hn : d < NM) (hos : w'.os = w.os) (htape : w'.tape = w.tape) (hout : w'.output = w.output) (hsize : w.heap.size ≤ w'.heap.size)
    (hold : ∀ j, j < w.heap.size → w'.heap[j]? = w.heap[j]?) (hrow : RowAt (G.add d w.heap.size k sz) w' d ty sz els) : Fit F w0 (G.add d w.heap.size k sz) (upd M d (.live ty sz els)) w' :=
  h.put hd hn (fun _ => .inl rfl) (fun r hr hm => Nat.ne_of_lt (h.block_lt hr hm)) (fun hF => by have := h.low _ hF; have := h.size; omega) hos htape hout hsize (fun j hj _ => hold j hj) hrow
/- A row that is written. -/
theorem Fit.store (h : Fit F w0 G M w) {r ty sz : Nat} {els : List (List CV)} (hd : G.dom r) (hm : M r ≠ .dead) (hos : w'.os = w.os) (htape : w'.tape = w.tape) (hout : w'.output = w.output) (hsize : w.heap.size ≤ w'.heap.size)
    (hold : ∀ j, j ≠ G.bt r → w'.heap[j]? = w.heap[j]?) (hrow : RowAt G w' r ty sz els) : Fit F w0 G (upd M r (.live ty sz els)) w' := by
  have lv : ∀ r', upd M r (.live ty sz els) r' ≠ .dead → M r' ≠ .dead := fun r' hr' => by
    by_cases e : r' = r
    · rw [e]; exact hm
    · rwa [upd_ne _ _ e] at hr'
  refine ⟨hos.trans h.os, htape.trans h.tape, hout.trans h.output, Nat.le_trans h.size hsize, h.low, fun j hj => ?_, h.dlt, fun r' ty' sz' els' hr' hm' => ?_, fun r1 r2 h1 h2 m1 m2 e => h.inj r1 r2 h1 h2 (lv r1 m1) (lv r2 m2) e, fun r1 h1 m1 => h.off r1 h1 (lv r1 m1)⟩
  · exact (hold j (fun e => h.off r hd hm (e ▸ hj))).trans (h.keep j hj)
  · by_cases e : r' = r
    · subst e
      rw [upd_same] at hm'
      cases hm'
      exact hrow
    · rw [upd_ne _ _ e] at hm'
      have hl : M r' ≠ .dead := by rw [hm']; exact live_ne
      exact (h.rows r' _ _ _ hr' hm').move (.refl G) hr' (hold _ fun eb => e (h.inj r' r hr' hd hl hm eb))

/- Rows of one's own and others. -/
noncomputable def mix (X : Nat → Prop) (E M : Nat → CR) (r : Nat) : CR := @ite _ (X r) (Classical.propDecidable _) (E r) (M r)
theorem mix_in {X : Nat → Prop} {E M : Nat → CR} {r : Nat} (h : X r) : mix X E M r = E r := if_pos h
theorem mix_out {X : Nat → Prop} {E M : Nat → CR} {r : Nat} (h : ¬ X r) : mix X E M r = M r := if_neg h
def FX (F X : Nat → Prop) (E : Nat → CR) (G : Gh) (b : Nat) : Prop := F b ∨ ∃ r, X r ∧ G.dom r ∧ E r ≠ .dead ∧ G.bt r = b
theorem Fit.split {X : Nat → Prop} {E : Nat → CR} (h : Fit F w0 G (mix X E M) w) (hX : ∀ r, X r → M r = .dead) : Fit (FX F X E G) w G M w := by
  have out : ∀ r, M r ≠ .dead → ¬ X r ∧ mix X E M r = M r := fun r hr => by
    have : ¬ X r := fun hx => hr (hX r hx)
    exact ⟨this, mix_out this⟩
  refine ⟨rfl, rfl, rfl, Nat.le_refl _, fun b hb => ?_, fun _ _ => rfl, h.dlt, fun r ty sz els hd hm => ?_, fun r r' hd hd' hm hm' e => h.inj r r' hd hd' (by rw [(out r hm).2]; exact hm) (by rw [(out r' hm').2]; exact hm') e, fun r hd hm hF => ?_⟩
  · rcases hb with hb | ⟨r, hx, hd, hm, rfl⟩
    · exact Nat.lt_of_lt_of_le (h.low b hb) h.size
    · exact h.block_lt hd (by rw [mix_in hx]; exact hm)
  · exact h.rows r ty sz els hd (by rw [(out r (by rw [hm]; exact live_ne)).2]; exact hm)
  · obtain ⟨hx, e⟩ := out r hm
    rcases hF with hF | ⟨r', hx', hd', hm', eb⟩
    · exact h.off r hd (by rw [e]; exact hm) hF
    · exact hx (h.inj r' r hd' hd (by rw [mix_in hx']; exact hm') (by rw [e]; exact hm) eb ▸ hx')
theorem Fit.join {X : Nat → Prop} {E : Nat → CR} {nb nb' : Nat} (h : Fit F w0 G (mix X E M) w) (k : Fit (FX F X E G) w G' M' w') (hs : Step nb nb' G G') (hd : ∀ r, X r → r < nb ∨ nb' ≤ r) : Fit F w0 G' (mix X E M') w' := by
  have old : ∀ r, X r → G'.dom r → G.dom r := fun r hx hr => by
    rcases hs.new r hr with hr | hr
    · exact hr
    · have := hd r hx; omega
  have hfx : ∀ r, X r → G.dom r → E r ≠ .dead → FX F X E G (G'.bt r) := fun r hx hr he => .inr ⟨r, hx, hr, he, ((hs.le r hr).2.1).symm⟩
  refine ⟨k.os.trans h.os, k.tape.trans h.tape, k.output.trans h.output, Nat.le_trans h.size k.size, h.low, fun b hb => (k.keep b (.inl hb)).trans (h.keep b hb), k.dlt, fun r ty sz els hr hm => ?_, fun r r' hr hr' hm hm' e => ?_, fun r hr hm => ?_⟩
  · by_cases hx : X r
    · rw [mix_in hx] at hm
      have hr0 := old r hx hr
      have := h.rows r ty sz els hr0 (by rw [mix_in hx]; exact hm)
      exact this.move hs.le hr0 (k.keep _ (.inr ⟨r, hx, hr0, by rw [hm]; exact live_ne, rfl⟩))
    · rw [mix_out hx] at hm
      exact k.rows r ty sz els hr hm
  · by_cases hx : X r <;> by_cases hx' : X r'
    · have hr0 := old r hx hr
      have hr0' := old r' hx' hr'
      rw [(hs.le r hr0).2.1, (hs.le r' hr0').2.1] at e
      exact h.inj r r' hr0 hr0' (by rw [mix_in hx] at hm ⊢; exact hm) (by rw [mix_in hx'] at hm' ⊢; exact hm') e
    · rw [mix_in hx] at hm
      rw [mix_out hx'] at hm'
      exact (k.off r' hr' hm' (e ▸ hfx r hx (old r hx hr) hm)).elim
    · rw [mix_out hx] at hm
      rw [mix_in hx'] at hm'
      exact (k.off r hr hm (e ▸ hfx r' hx' (old r' hx' hr') hm')).elim
    · rw [mix_out hx] at hm
      rw [mix_out hx'] at hm'
      exact k.inj r r' hr hr' hm hm' e
  · by_cases hx : X r
    · rw [mix_in hx] at hm
      have hr0 := old r hx hr
      rw [(hs.le r hr0).2.1]
      exact h.off r hr0 (by rw [mix_in hx]; exact hm)
    · rw [mix_out hx] at hm
      exact fun hF => k.off r hr hm (.inl hF)
end

/- What an operation does: its operands' values come from ev. -/
def Sees (G : Gh) (ev : Operand → CV) (a : Act) (o : Oper) : Prop := ∀ x, x ∈ o.op.operands.toList → R G (ev x) (a.eval x)
def OpOK (P : Program) (ev : Operand → CV) (o : Oper) (M : Nat → CR) (nb : Nat) (v : CV) (M' : Nat → CR) (nb' : Nat) : Prop :=
  nb ≤ nb' ∧ ∀ (F : Nat → Prop) (w0 : World) (G : Gh) (a : Act) (w : World) (K : Act → World → Prop) (Q : Exit → Act → World → Prop), Fit F w0 G M w → Free nb nb' G → Sees G ev a o →
    (∀ G' y w', Step nb nb' G G' → R G' v y → Fit F w0 G' M' w' → K (a.put o.dst y) w') → o.wp P a w K Q
def LoadOK (P : Program) (ev : Operand → CV) (o : Oper) (M : Nat → CR) (v : CV) : Prop :=
  ∀ (F : Nat → Prop) (w0 : World) (G : Gh) (a : Act) (w : World), Fit F w0 G M w → Sees G ev a o → ∃ y, R G v y ∧ (execOp a.eval o).run P w = .ok (.value y) w
def PureOK (P : Program) (ev : Operand → CV) (o : Oper) (v : CV) : Prop :=
  ∀ (G : Gh) (a : Act), Sees G ev a o → ∃ y, R G v y ∧ ∀ w : World, (execOp a.eval o).run P w = .ok (.value y) w
def LightOK (P : Program) (ev : Operand → CV) (o : Oper) (nb : Nat) (v : CV) (row : CR) : Prop := ∀ M, OpOK P ev o M nb v (upd M nb row) (nb + 1)
section
variable {P : Program} {ev : Operand → CV} {o : Oper} {M M' : Nat → CR} {v : CV} {nb nb' : Nat}
theorem PureOK.load (h : PureOK P ev o v) : LoadOK P ev o M v := fun F w0 G a w hF hs => by
  obtain ⟨y, h1, h2⟩ := h G a hs
  exact ⟨y, h1, h2 w⟩
theorem LoadOK.op (h : LoadOK P ev o M v) : OpOK P ev o M nb v M nb := ⟨Nat.le_refl _, fun F w0 G a w K Q hF _ hs hk => by
  obtain ⟨y, h1, h2⟩ := h F w0 G a w hF hs
  unfold Oper.wp
  rw [h2]
  exact hk G y w (.refl _ _) h1 hF⟩
theorem OpOK.frame (h : OpOK P ev o M nb v M' nb') {X : Nat → Prop} {E : Nat → CR} (hX : ∀ r, X r → M r = .dead) (hd : ∀ r, X r → r < nb ∨ nb' ≤ r) : OpOK P ev o (mix X E M) nb v (mix X E M') nb' :=
  ⟨h.1, fun F w0 G a w K Q hF hfr hs hk => h.2 (FX F X E G) w G a w K Q (hF.split hX) hfr hs fun G' y w' h1 h2 h3 => hk G' y w' h1 h2 (hF.join h3 h1 hd)⟩
end
/- What a call does. -/
def CC (P : Program) (f : FuncId) (args : List CV) (M : Nat → CR) (nb : Nat) (v : CV) (M' : Nat → CR) (nb' : Nat) : Prop :=
  nb ≤ nb' ∧ ∀ (F : Nat → Prop) (w0 : World) (G : Gh) (w : World) (vs : List Value), Fit F w0 G M w → Free nb nb' G → Rt G args vs →
    Calls P f vs.toArray w fun e w' => ∃ y G', e = .returned y ∧ Step nb nb' G G' ∧ R G' v y ∧ Fit F w0 G' M' w'
theorem CC.frame {P : Program} {f : FuncId} {args : List CV} {M M' : Nat → CR} {v : CV} {nb nb' : Nat} (h : CC P f args M nb v M' nb') {X : Nat → Prop} {E : Nat → CR} (hX : ∀ r, X r → M r = .dead) (hd : ∀ r, X r → r < nb ∨ nb' ≤ r) :
    CC P f args (mix X E M) nb v (mix X E M') nb' :=
  ⟨h.1, fun F w0 G w vs hF hfr hs => (h.2 (FX F X E G) w G w vs (hF.split hX) hfr hs).mono fun e w' ⟨y, G', h1, h2, h3, h4⟩ => ⟨y, G', h1, h2, h3, hF.join h4 h2 hd⟩⟩
end Go.Proofs.YteanccnggaakeaaGreat
