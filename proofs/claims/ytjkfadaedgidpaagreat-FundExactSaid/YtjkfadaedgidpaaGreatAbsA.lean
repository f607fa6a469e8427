/- Abstract values over the model's memory: what reads only old or sealed memory (D), and what a call holds (AV). No condition. -/
import Derived.Test.YtjkfadaedgidpaaGreatRows
import Derived.WalkKit
import Derived.WalkSpells
import Derived.WalkLawsBesides
namespace Go.Proofs.YtjkfadaedgidpaaGreat
open Go.RowKit
set_option linter.unusedVariables false
set_option linter.unusedSimpArgs false
inductive D where
 | v (x : Value)
 | agg (cs : List D)
 | sl (sz : Nat) (els : List (List D))
 | pt (cs : List D)
 | fn (f : FuncId) (cs : List D)
inductive AV where
 | any
 | d (x : D)
 | ep (cs : List D)
 | ref (r n : Nat)
 | ptr (r i o : Nat)
 | ag (cs : List AV)
 | tp (cs : List AV)
 | wh (g : Prop) (x : AV)
 | cl (f : FuncId) (cs : List AV)
structure ARow where
 g : Prop
 ty : TypeId
 sz : Nat
 uq : Bool
 ap : Bool
 fam : Nat
 els : List (List AV)
structure Gh where
 I : Nat → Prop
 bt : Nat → Option Nat
 kp : Nat → Nat
 sz : Nat → Nat
def cellsAt (w : World) (b o : Nat) (vs : List Value) : Prop := ∀ j u, vs[j]? = some u → w.cell? ⟨b, o + j, none⟩ = some u
mutual
def RD (I : Nat → Prop) (w : World) : D → Value → Prop
 | .v x, y => y = x
 | .agg cs, y => ∃ vs : List Value, y = .agg vs.toArray ∧ RDs I w cs vs
 | .sl sz els, y => ∃ A c, y = .slice A els.length c ∧ (els = [] ∨ ∃ b o vs, A = some ⟨b, o, none⟩ ∧ I b ∧ RDss I w sz els vs ∧ cellsAt w b o vs ∧ els.length ≤ c)
 | .pt cs, y => ∃ b o vs, y = .pointer (some ⟨b, o, none⟩) ∧ I b ∧ RDs I w cs vs ∧ cellsAt w b o vs
 | .fn f cs, y => ∃ vs : List Value, y = .func (.func f) #[] vs.toArray ∧ RDs I w cs vs
def RDs (I : Nat → Prop) (w : World) : List D → List Value → Prop
 | [], vs => vs = []
 | x :: xs, vs => ∃ u t, vs = u :: t ∧ RD I w x u ∧ u.oneCell' = true ∧ RDs I w xs t
def RDss (I : Nat → Prop) (w : World) (sz : Nat) : List (List D) → List Value → Prop
 | [], vs => vs = []
 | e :: es, vs => ∃ u t, vs = u ++ t ∧ u.length = sz ∧ RDs I w e u ∧ RDss I w sz es t
end
mutual
def R (G : Gh) (w : World) : AV → Value → Prop
 | .any, _ => True
 | .d x, y => RD G.I w x y
 | .ep cs, y => ∃ b o vs, y = .pointer (some ⟨b, o, none⟩) ∧ G.I b ∧ RDs G.I w cs vs ∧ cellsAt w b o vs
 | .ref r n, y => (G.bt r = none ∧ n = 0 ∧ y = .slice none 0 0) ∨ ∃ b, G.bt r = some b ∧ y = .slice (some ⟨b, 0, none⟩) n (G.kp r)
 | .ptr r i o, y => ∃ b, G.bt r = some b ∧ y = .pointer (some ⟨b, i * G.sz r + o, none⟩)
 | .ag cs, y => ∃ vs : List Value, y = .agg vs.toArray ∧ Rs G w cs vs
 | .tp cs, y => ∃ vs : List Value, y = .tuple vs.toArray ∧ Rt G w cs vs
 | .wh g x, y => (g → R G w x y) ∧ (¬ g → y = undef)
 | .cl f cs, y => ∃ vs : List Value, y = .func (.func f) #[] vs.toArray ∧ Rs G w cs vs
def Rs (G : Gh) (w : World) : List AV → List Value → Prop
 | [], vs => vs = []
 | x :: xs, vs => ∃ u t, vs = u :: t ∧ R G w x u ∧ u.oneCell' = true ∧ Rs G w xs t
def Rt (G : Gh) (w : World) : List AV → List Value → Prop
 | [], vs => vs = []
 | x :: xs, vs => ∃ u t, vs = u :: t ∧ R G w x u ∧ Rt G w xs t
end
def Rss (G : Gh) (w : World) (sz : Nat) : List (List AV) → List Value → Prop
 | [], vs => vs = []
 | e :: es, vs => ∃ u t, vs = u ++ t ∧ u.length = sz ∧ Rs G w e u ∧ Rss G w sz es t
theorem cellsAt.keep {w w' : World} {b o : Nat} {vs : List Value} (h : cellsAt w b o vs) (hk : w'.heap[b]? = w.heap[b]?) : cellsAt w' b o vs :=
 fun j u hu => (World.cell?_of_block (a := ⟨b, o + j, none⟩) hk).trans (h j u hu)
section keepD
variable {I I' : Nat → Prop} {w w' : World}
mutual
theorem RD.keep (hI : ∀ b, I b → I' b) (hw : ∀ b, I b → w'.heap[b]? = w.heap[b]?) : ∀ (x : D) (y : Value), RD I w x y → RD I' w' x y
 | .v x, y, h => by simpa only [RD] using h
 | .agg cs, y, h => by
  simp only [RD] at h ⊢
  obtain ⟨vs, h1, h2⟩ := h
  exact ⟨vs, h1, RDs.keep hI hw cs vs h2⟩
 | .sl sz els, y, h => by
  simp only [RD] at h ⊢
  obtain ⟨A, c, h1, h2⟩ := h
  refine ⟨A, c, h1, ?_⟩
  rcases h2 with h2 | ⟨b, o, vs, h3, h4, h5, h6, h7⟩
  ·exact .inl h2
  ·exact .inr ⟨b, o, vs, h3, hI b h4, RDss.keep hI hw sz els vs h5, h6.keep (hw b h4), h7⟩
 | .pt cs, y, h => by
  simp only [RD] at h ⊢
  obtain ⟨b, o, vs, h1, h2, h3, h4⟩ := h
  exact ⟨b, o, vs, h1, hI b h2, RDs.keep hI hw cs vs h3, h4.keep (hw b h2)⟩
 | .fn f cs, y, h => by
  simp only [RD] at h ⊢
  obtain ⟨vs, h1, h2⟩ := h
  exact ⟨vs, h1, RDs.keep hI hw cs vs h2⟩
theorem RDs.keep (hI : ∀ b, I b → I' b) (hw : ∀ b, I b → w'.heap[b]? = w.heap[b]?) : ∀ (xs : List D) (vs : List Value), RDs I w xs vs → RDs I' w' xs vs
 | [], vs, h => by simpa only [RDs] using h
 | x :: xs, vs, h => by
  simp only [RDs] at h ⊢
  obtain ⟨u, t, h1, h2, h3, h4⟩ := h
  exact ⟨u, t, h1, RD.keep hI hw x u h2, h3, RDs.keep hI hw xs t h4⟩
theorem RDss.keep (hI : ∀ b, I b → I' b) (hw : ∀ b, I b → w'.heap[b]? = w.heap[b]?) (sz : Nat) : ∀ (xs : List (List D)) (vs : List Value), RDss I w sz xs vs → RDss I' w' sz xs vs
 | [], vs, h => by simpa only [RDss] using h
 | x :: xs, vs, h => by
  simp only [RDss] at h ⊢
  obtain ⟨u, t, h1, h2, h3, h4⟩ := h
  exact ⟨u, t, h1, h2, RDs.keep hI hw x u h3, RDss.keep hI hw sz xs t h4⟩
end
end keepD
mutual
def AV.ids : AV → List Nat
 | .any => []
 | .d _ => []
 | .ep _ => []
 | .ref r _ => [r]
 | .ptr r _ _ => [r]
 | .ag cs => AV.idsL cs
 | .tp cs => AV.idsL cs
 | .wh _ x => AV.ids x
 | .cl _ cs => AV.idsL cs
def AV.idsL : List AV → List Nat
 | [] => []
 | x :: xs => AV.ids x ++ AV.idsL xs
end
section keepA
variable {G G' : Gh} {w w' : World}
def Gh.on (G G' : Gh) (l : List Nat) : Prop := ∀ r, r ∈ l → G'.bt r = G.bt r ∧ G'.kp r = G.kp r ∧ G'.sz r = G.sz r
mutual
theorem R.keep (hI : ∀ b, G.I b → G'.I b) (hw : ∀ b, G.I b → w'.heap[b]? = w.heap[b]?) : ∀ (x : AV) (y : Value), G.on G' x.ids → R G w x y → R G' w' x y
 | .any, y, _, h => by simp only [R]
 | .d x, y, _, h => by
  simp only [R] at h ⊢
  exact RD.keep hI hw x y h
 | .ep cs, y, _, h => by
  simp only [R] at h ⊢
  obtain ⟨b, o, vs, h1, h2, h3, h4⟩ := h
  exact ⟨b, o, vs, h1, hI b h2, RDs.keep hI hw cs vs h3, h4.keep (hw b h2)⟩
 | .ref r n, y, hg, h => by
  obtain ⟨e1, e2, e3⟩ := hg r (by simp [AV.ids])
  simp only [R] at h ⊢
  rw [e1, e2]
  exact h
 | .ptr r i o, y, hg, h => by
  obtain ⟨e1, e2, e3⟩ := hg r (by simp [AV.ids])
  simp only [R] at h ⊢
  rw [e1, e3]
  exact h
 | .ag cs, y, hg, h => by
  simp only [R] at h ⊢
  obtain ⟨vs, h1, h2⟩ := h
  exact ⟨vs, h1, Rs.keep hI hw cs vs (by simpa only [AV.ids] using hg) h2⟩
 | .tp cs, y, hg, h => by
  simp only [R] at h ⊢
  obtain ⟨vs, h1, h2⟩ := h
  exact ⟨vs, h1, Rt.keep hI hw cs vs (by simpa only [AV.ids] using hg) h2⟩
 | .wh g x, y, hg, h => by
  simp only [R] at h ⊢
  exact ⟨fun hgg => R.keep hI hw x y (by simpa only [AV.ids] using hg) (h.1 hgg), h.2⟩
 | .cl f cs, y, hg, h => by
  simp only [R] at h ⊢
  obtain ⟨vs, h1, h2⟩ := h
  exact ⟨vs, h1, Rs.keep hI hw cs vs (by simpa only [AV.ids] using hg) h2⟩
theorem Rs.keep (hI : ∀ b, G.I b → G'.I b) (hw : ∀ b, G.I b → w'.heap[b]? = w.heap[b]?) : ∀ (xs : List AV) (vs : List Value), G.on G' (AV.idsL xs) → Rs G w xs vs → Rs G' w' xs vs
 | [], vs, _, h => by simpa only [Rs] using h
 | x :: xs, vs, hg, h => by
  simp only [Rs] at h ⊢
  obtain ⟨u, t, h1, h2, h3, h4⟩ := h
  exact ⟨u, t, h1, R.keep hI hw x u (fun r hr => hg r (by simp [AV.idsL, hr])) h2, h3, Rs.keep hI hw xs t (fun r hr => hg r (by simp [AV.idsL, hr])) h4⟩
theorem Rt.keep (hI : ∀ b, G.I b → G'.I b) (hw : ∀ b, G.I b → w'.heap[b]? = w.heap[b]?) : ∀ (xs : List AV) (vs : List Value), G.on G' (AV.idsL xs) → Rt G w xs vs → Rt G' w' xs vs
 | [], vs, _, h => by simpa only [Rt] using h
 | x :: xs, vs, hg, h => by
  simp only [Rt] at h ⊢
  obtain ⟨u, t, h1, h2, h4⟩ := h
  exact ⟨u, t, h1, R.keep hI hw x u (fun r hr => hg r (by simp [AV.idsL, hr])) h2, Rt.keep hI hw xs t (fun r hr => hg r (by simp [AV.idsL, hr])) h4⟩
end
theorem Rss.keep (hI : ∀ b, G.I b → G'.I b) (hw : ∀ b, G.I b → w'.heap[b]? = w.heap[b]?) (sz : Nat) : ∀ (xs : List (List AV)) (vs : List Value), (∀ e ∈ xs, G.on G' (AV.idsL e)) → Rss G w sz xs vs → Rss G' w' sz xs vs
 | [], vs, _, h => by simpa only [Rss] using h
 | x :: xs, vs, hg, h => by
  simp only [Rss] at h ⊢
  obtain ⟨u, t, h1, h2, h3, h4⟩ := h
  exact ⟨u, t, h1, h2, Rs.keep hI hw x u (hg x (by simp)) h3, Rss.keep hI hw sz xs t (fun e he => hg e (by simp [he])) h4⟩
end keepA
end Go.Proofs.YtjkfadaedgidpaaGreat
