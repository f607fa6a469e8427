/- Rows of one's own ahead of a return. No condition. -/
import Derived.Test.YtjkfadaedgidpaaGreatMvt
namespace Go.Proofs.YtjkfadaedgidpaaGreat
open Go.RowKit
set_option linter.unusedVariables false
set_option linter.unusedSimpArgs false
section
variable {f : Nat → Nat} {V : List Nat}
theorem VLes.cons_ {x y : AV} {xs ys : List AV} (h : VLe f V x y) (h2 : VLes f V xs ys) : VLes f V (x :: xs) (y :: ys) := by
 simp only [VLes]; exact ⟨_, _, rfl, h, h2⟩
theorem VLes.nil_ : VLes f V [] [] := by simp only [VLes]
theorem VLe.refE {r r0 n n' : Nat} (h : r ∉ V) (hf : f r = r0) (hn : n = n') : VLe f V (.ref r0 n) (.ref r n') := by subst hf; subst hn; exact .inr (.inl ⟨rfl, by simpa [AV.ids] using h⟩)
theorem VLe.ptrE {r r0 i o : Nat} (h : r ∉ V) (hf : f r = r0) : VLe f V (.ptr r0 i o) (.ptr r i o) := by subst hf; exact .inr (.inl ⟨rfl, by simpa [AV.ids] using h⟩)
theorem VLe.dE {x y : D} (h : x = y) : VLe f V (.d x) (.d y) := by subst h; exact VLe.still rfl
theorem VLess.one_ {xs ys : List AV} (h : VLes f V xs ys) : VLess f V [xs] [ys] := by
 simp only [VLess]; exact ⟨_, _, rfl, h, rfl⟩
theorem RowLe.cells {m' : Nat → Option ARow} {r : Nat} {g : Prop} {ty : TypeId} {sz : Nat} {uq ap : Bool} {fam : Nat} {els els' : List (List AV)} (h : VLess f V els els') :
  RowLe f V m' r ⟨g, ty, sz, uq, ap, fam, els⟩ ⟨g, ty, sz, uq, ap, fam, els'⟩ := ⟨id, rfl, rfl, fun _ => rfl, id, .inl, h⟩
end
def famK (m : List (Nat × ARow)) (r fam : Nat) : Bool := m.all fun p => p.1 == r || p.2.fam != fam
theorem RowLe.uq_ {m : List (Nat × ARow)} {r : Nat} {ty : TypeId} {sz : Nat} {uq ap : Bool} {fam : Nat} {els els' : List (List AV)} (h : famK m r fam = true) (he : els' = els) (hi : ∀ e ∈ els, AV.idsL e = []) :
  RowLe id [] (lookR m) r ⟨True, ty, sz, uq, ap, fam, els⟩ ⟨True, ty, sz, true, ap, fam, els'⟩ := by
 subst he
 refine ⟨id, rfl, rfl, fun _ => rfl, id, fun _ => .inr fun r2 row2 h2 _ hne => ?_, VLess.still hi⟩
 have := List.all_eq_true.1 h _ (lookR_mem h2)
 simp only [Bool.or_eq_true, beq_iff_eq, bne_iff_ne, ne_eq] at this
 rcases this with this | this
 ·exact (hne this).elim
 ·exact this
theorem ids_data {L : List (List D)} : ∀ e ∈ L.map (·.map AV.d), AV.idsL e = [] := fun e he => by
 obtain ⟨l, _, rfl⟩ := List.mem_map.1 he
 exact idsL_data l
theorem RowLe.uq2 {f : Nat → Nat} {V : List Nat} {m' : Nat → Option ARow} {r : Nat} {ty : TypeId} {sz : Nat} {ap ap' uq' : Bool} {fam fam' : Nat} {els els' : List (List AV)} (he : els' = els) (ha : ap' = true → ap = true) (hi : ∀ e ∈ els, AV.idsL e = []) :
  RowLe f V m' r ⟨True, ty, sz, true, ap, fam, els⟩ ⟨True, ty, sz, uq', ap', fam', els'⟩ := by
 subst he
 exact ⟨id, rfl, rfl, (fun h => by cases h), ha, fun _ => .inl rfl, VLess.still hi⟩
end Go.Proofs.YtjkfadaedgidpaaGreat
