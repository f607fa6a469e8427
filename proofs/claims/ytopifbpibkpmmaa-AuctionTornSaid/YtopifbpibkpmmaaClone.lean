/- slices.Clone, at flat items of any type: its contract over abstract values, off the kit's own one. No condition. -/
import Derived.Shelf.Lay
import Derived.Ground.SlgnProg
import Derived.Shelf.SlicesE.Clone
import Derived.Test.YtopifbpibkpmmaaAbsS
namespace Go.Proofs.Ytopifbpibkpmmaa
open Go.Shelf Go.RowKit Go.Lib
set_option linter.unusedVariables false
set_option linter.unusedSimpArgs false
section
variable {P : Program} {ρ : Ren}
set_option maxHeartbeats 2000000 in
set_option maxRecDepth 100000 in
theorem clone_zero (L : SlLaysE0.n41 P ρ) (i0 : TypeInfo) (z : Value) (size bytes : Nat) (hi : P.info? (ρ.t 23) = some i0) (hz0 : i0.zero = some z) (hz1 : i0.size = size) (hz2 : i0.bytes = bytes) (hzs : z.cells.size = size) (hsz : 0 < size)
  (a : Addr) (c : Nat) (w : World) :
  Calls P (ρ.f 41) #[.slice (some a) 0 c] w fun e w' => ∃ v', e = .returned v' ∧ w'.ownsRow w.heap.size (ρ.t 23) size v' 0 [] ∧ v' ≠ .slice none 0 0 ∧ Below w.heap.size w w' := by
 have z23 : ∀ w, (Go.sizeOf (ρ.t 23)).run P w = .ok size w := fun w => by simp [sizeOf, typeInfo, hi, hz1]
 have mixed := L.mixed; have t4 := L.t4; have a4 := L.a4; have z4 := L.z4; have v4 := L.v4; have t22 := L.t22; have a22 := L.a22; have z22 := L.z22; have v22 := L.v22
 have q22 : ∀ (w : World) (a : Option Addr) (n c n' c' : Nat), (binOp .eql (ρ.t 22) (.slice a n c) (.slice none n' c')).run P w = .ok (.bool a.isNone) w := fun w a n c n' c' => Lib.run_eql_slice_nil w _ _ a n c n' c' L.t22
 have u22 : ∀ w, Sem.run P (underlying (ρ.t 22)) w = .ok (TypeDesc.slice (ρ.t 23)) w := run_underlying t22
 obtain ⟨_, _, FG⟩ := L.f41
 go_enter FG, SlBodyN.n41_ntmps ρ
 go_wp2_with (at_builtin; refine wpList_append_own _ rfl _ _ (ρ.t 22) rfl w.heap.size (ρ.t 23) i0 z size bytes t22 hi hz0 hz1 hz2 hzs hsz _ _ _ rfl (World.ownsRow_made w #[] 0 (Nat.le_refl _) (Nat.zero_le _) (by simp)) a 0 c [] rfl (by simp) (by intro j u hj; simp at hj) (by intro u hu; cases hu) (by unfold maxLen; omega) (by omega) (by simp) ?_)
 intro v' w1 hown hgrow hnil
 go_wp2
 go_ret
 refine ⟨v', rfl, by simpa using hown, ?_, ?_⟩
 ·exact hnil
 ·exact ((Below.refl _ w).alloc (Nat.le_refl _) _).grown hgrow (by simp) (by intro k hk; simp [Value.ownBlock] at hk; omega)
end
theorem cell1_ptr (r i o : Nat) : (AV.ptr r i o).cell1 = True := rfl
theorem RDss.one {I : Nat → Prop} {w : World} {sz : Nat} : ∀ {xs : List (List D)} {vs : List Value}, RDss I w sz xs vs → ∀ u ∈ vs, u.oneCell' = true
 | [], vs, h => by
  simp only [RDss] at h
  subst h
  intro u hu; cases hu
 | x :: xs, vs, h => by
  simp only [RDss] at h
  obtain ⟨u, t, rfl, _, h1, h2⟩ := h
  intro y hy
  rcases List.mem_append.1 hy with hy | hy
  ·have aux : ∀ (xs : List D) (vs : List Value), RDs I w xs vs → ∀ u ∈ vs, u.oneCell' = true := by
    intro xs
    induction xs with
    | nil => intro vs h u hu; simp only [RDs] at h; subst h; cases hu
    | cons x xs ih =>
     intro vs h u hu
     simp only [RDs] at h
     obtain ⟨a, t, rfl, _, h3, h4⟩ := h
     rcases List.mem_cons.1 hu with rfl | hu
     ·exact h3
     ·exact ih _ h4 u hu
   exact aux _ _ h1 y hy
  ·exact RDss.one h2 y hy
theorem Rss.of_flat {I : Nat → Prop} {w w' : World} {G : Gh} {sz : Nat} : ∀ {xs : List (List D)} {vs : List Value}, (∀ l, l ∈ xs → flatDs l) → RDss I w sz xs vs → Rss G w' sz (xs.map (·.map .d)) vs
 | [], vs, _, h => by simpa only [RDss, Rss, List.map_nil] using h
 | x :: xs, vs, hf, h => by
  simp only [RDss] at h
  obtain ⟨u, t, rfl, h0, h1, h2⟩ := h
  simp only [List.map_cons, Rss]
  exact ⟨u, t, rfl, h0, Rs.of_RDs (RDs.flat _ _ (hf x (by simp)) h1), Rss.of_flat (fun l hl => hf l (List.mem_cons_of_mem _ hl)) h2⟩
theorem acalls_clone {P : Program} {ρ : Ren} {f : FuncId} {T : TypeId} (L : SlLaysE0.n41 P ρ) (hf : ρ.f 41 = f) (ht : ρ.t 23 = T) (i0 : TypeInfo) (z : Value) (size bytes : Nat) (hi : P.info? T = some i0) (hz0 : i0.zero = some z) (hz1 : i0.size = size) (hz2 : i0.bytes = bytes) (hzs : z.cells.size = size) (hsz : 0 < size)
  (els : List (List D)) (hfl : ∀ l, l ∈ els → flatDs l) (hn : els.length ≤ 1000000) (hb : els.length * bytes ≤ 140737488355328) :
  ACalls P f [.sl size els] [⟨T, size, els⟩] (.ref 0 els.length) := by
 subst hf ht
 have z23 : ∀ w, (Go.sizeOf (ρ.t 23)).run P w = .ok size w := fun w => by simp [sizeOf, typeInfo, hi, hz1]
 intro I w vs hI hvs
 simp only [RDt] at hvs
 obtain ⟨y, t, rfl, hy, rfl⟩ := hvs
 simp only [RD] at hy
 obtain ⟨A, c, rfl, hA⟩ := hy
 have fin : ∀ (v' : Value) (w' : World) (cells : List Value), w'.ownsRow w.heap.size (ρ.t 23) size v' els.length cells → Below w.heap.size w w' → RDss I w size els cells →
   ∃ v G, Ending.returned v' = .returned v ∧ Below w.heap.size w w' ∧ (∀ b, G.I b → w.heap.size ≤ b ∧ b < w'.heap.size) ∧
   (∀ j o, ([⟨ρ.t 23, size, els⟩] : List ORow)[j]? = some o → RowAt (fun b => w.heap.size ≤ b) G w' j (o.row j)) ∧
   (∀ j j' b, j < 1 → j' < 1 → j ≠ j' → G.bt j = some b → G.bt j' = some b → False) ∧
   (∀ r, r ∈ (AV.ref 0 els.length).ids → r < 1) ∧ R G w' (.ref 0 els.length) v := by
  intro v' w' cells hown hbelow hcells
  obtain ⟨hl, ⟨rfl, h0⟩ | ⟨g, cap, cur, rfl, hg, hh, hc1, hc2, hc3, hc4⟩⟩ := hown
  ·have he : els = [] := List.eq_nil_of_length_eq_zero h0
   subst he
   refine ⟨_, ⟨fun _ => False, fun _ => none, fun _ => 0, fun _ => size⟩, rfl, hbelow, fun b hb => hb.elim, ?_, fun j j' b h1 h2 h3 => by omega, by simp [AV.ids], .inl ⟨rfl, rfl, rfl⟩⟩
   intro j o ho
   cases j with
   | zero =>
    simp at ho
    subst ho
    exact ⟨rfl, .inl ⟨rfl, rfl⟩⟩
   | succ j => simp at ho
  ·refine ⟨_, ⟨fun _ => False, fun _ => some g, fun _ => cap, fun _ => size⟩, rfl, hbelow, fun b hb => hb.elim, ?_, fun j j' b h1 h2 h3 => by omega, by simp [AV.ids], .inr ⟨g, rfl, rfl⟩⟩
   intro j o ho
   cases j with
   | zero =>
    simp at ho
    subst ho
    refine ⟨rfl, .inr ⟨g, cur, cells, rfl, hg, fun h => h, hh, Rss.of_flat hfl hcells, by rw [hl]; exact hc4, hc3, hc2, ?_⟩⟩
    simp only [ORow.row, List.length_map]; exact hc1
   | succ j => simp at ho
 rcases hA with rfl | ⟨b, o, cells, rfl, hIb, hcells, hat, _⟩
 ·cases A with
  | none =>
   refine (AnyE.slices_Clone_nil L _ _ _).mono fun e w' h => ?_
   obtain ⟨rfl, rfl⟩ := h
   exact fin _ _ [] ⟨by simp, .inl ⟨rfl, rfl⟩⟩ (Below.refl _ _) (by simp [RDss])
  | some a =>
   refine (clone_zero L i0 z size bytes hi hz0 hz1 hz2 hzs hsz a c w).mono fun e w' h => ?_
   obtain ⟨v', rfl, hown, _, hbelow⟩ := h
   exact fin _ _ [] hown hbelow (by simp [RDss])
 ·refine (AnyE.slices_Clone L i0 z size bytes hi hz0 hz1 hz2 hzs hsz z23 b o els.length c cells w hcells.flat (Nat.le_trans hn (by decide)) hb hat hcells.one).mono fun e w' h => ?_
  obtain ⟨v', rfl, hown, _, hbelow⟩ := h
  exact fin _ _ cells hown hbelow hcells
theorem acalls_cloneT {P : Program} {ρ : Ren} {f : FuncId} {T : TypeId} (L : SlLaysE0.n41 P ρ) (hf : ρ.f 41 = f) (ht : ρ.t 23 = T) (size bytes : Nat) (zs : List Value) (hz : zeroT P T = some zs) (hs : szT P T = size) (hb : byT P T = bytes) (hl : zs.length = size) (h0 : 0 < size) (h1 : bytes ≤ 100000)
  (els : List (List D)) (hfl : ∀ l, l ∈ els → flatDs l) (hn : els.length ≤ 1000000) : ACalls P f [.sl size els] [⟨T, size, els⟩] (.ref 0 els.length) := by
 cases hi : P.info? T with
 | none => simp [zeroT, hi] at hz
 | some i0 =>
  cases hz0 : i0.zero with
  | none => simp [zeroT, hi, hz0] at hz
  | some z =>
   simp [zeroT, hi, hz0] at hz
   simp [szT, hi] at hs
   simp [byT, hi] at hb
   refine acalls_clone L hf ht i0 z size bytes hi hz0 hs hb ?_ h0 els hfl hn ?_
   ·rw [← hl, ← hz]; simp
   ·exact Nat.le_trans (Nat.mul_le_mul hn h1) (by decide)
end Go.Proofs.Ytopifbpibkpmmaa
