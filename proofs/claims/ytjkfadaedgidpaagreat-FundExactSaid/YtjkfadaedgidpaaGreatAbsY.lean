/- Results of several new slices; new slices read as data. No condition. -/
import Derived.Test.YtjkfadaedgidpaaGreatAbsX
import Derived.Laws.StructEq
namespace Go.Proofs.YtjkfadaedgidpaaGreat
open Go.RowKit
set_option linter.unusedVariables false
set_option linter.unusedSimpArgs false
def doneRs (s : AS) : List Nat → List ORow → Prop
 | [], [] => True
 | h :: hs, o :: os => (∃ row, s.mem h = some row ∧ row.g ∧ row.ty = o.ty ∧ row.sz = o.sz ∧ row.els = o.els.map (·.map .d) ∧ row.uq = true) ∧ (∀ l, l ∈ o.els → flatDs l) ∧ doneRs s hs os
 | _, _ => False
theorem doneRs_get {s : AS} : ∀ {hs : List Nat} {os : List ORow}, doneRs s hs os → hs.length = os.length ∧ (∀ o, o ∈ os → ∀ l, l ∈ o.els → flatDs l) ∧
  ∀ j o, os[j]? = some o → ∃ row, s.mem (hs.getD j 0) = some row ∧ row.g ∧ row.ty = o.ty ∧ row.sz = o.sz ∧ row.els = o.els.map (·.map .d) ∧ row.uq = true
 | [], [], _ => ⟨rfl, by simp, by simp⟩
 | [], _ :: _, h => h.elim
 | _ :: _, [], h => h.elim
 | h :: hs, o :: os, hh => by
  obtain ⟨h1, h2, h3⟩ := hh
  obtain ⟨k1, k2, k3⟩ := doneRs_get h3
  refine ⟨by simp [k1], fun x hx => ?_, fun j x hx => ?_⟩
  ·rcases List.mem_cons.1 hx with rfl | hx
   ·exact h2
   ·exact k2 x hx
  ·cases j with
   | zero => simp at hx; subst hx; simpa using h1
   | succ j => simpa using k3 j x (by simpa using hx)
theorem doneN {P : Program} {rs : List ResultVar} {rows : List ORow} {res : AV} {s : AS} (hs : List Nat) (hc : resCs P s rs) (hr : resAll (rs.map (resA P s)) = res.ren (fun j => hs.getD j 0)) (hf : flatA res) (hi : ∀ j, j ∈ res.ids → j < rows.length)
  (hd : hs.Nodup) (hrows : doneRs s hs rows) : ResOk P rs rows res s := by
 obtain ⟨k1, k2, k3⟩ := doneRs_get hrows
 refine ⟨_, _, resVs_of hc, hr, hf, k2, hi, fun j j' h1 h2 he => ?_, fun j o ho => ?_⟩
 ·have g1 : hs.getD j 0 = hs[j]'(by omega) := by simp [List.getD, List.getElem?_eq_getElem (show j < hs.length by omega)]
  have g2 : hs.getD j' 0 = hs[j']'(by omega) := by simp [List.getD, List.getElem?_eq_getElem (show j' < hs.length by omega)]
  rw [g1, g2] at he
  exact (List.getElem_inj hd).1 he
 ·obtain ⟨row, m1, m2, m3, m4, m5, m6⟩ := k3 j o ho
  exact ⟨row, m1, m2, m3, m4, m5, .inr m6⟩
mutual
def frzV (rows : List ORow) : AV → D
 | .d x => x
 | .ref r n => match rows[r]? with | some o => .sl o.sz o.els | none => .v undef
 | .ag cs => .agg (frzL rows cs)
 | _ => .v undef
def frzL (rows : List ORow) : List AV → List D
 | [] => []
 | x :: xs => frzV rows x :: frzL rows xs
end
mutual
def frzOk (rows : List ORow) : AV → Prop
 | .d x => True
 | .ref r n => match rows[r]? with | some o => n = o.els.length | none => False
 | .ag cs => frzOkL rows cs
 | _ => False
def frzOkL (rows : List ORow) : List AV → Prop
 | [] => True
 | x :: xs => frzOk rows x ∧ frzOkL rows xs
end
section
variable {rows : List ORow} {B : Nat → Prop} {G : Gh} {w : World}
theorem frz_row {r n : Nat} {o : ORow} {y : Value} (hrow : RowAt B G w r (o.row r)) (hn : n = o.els.length) (h : R G w (.ref r n) y) {I' : Nat → Prop} (hI : ∀ b, G.I b → I' b) (hb : ∀ b, G.bt r = some b → I' b) :
  RD I' w (.sl o.sz o.els) y := by
 subst hn
 simp only [R] at h
 simp only [RD]
 obtain ⟨hsz, hrow⟩ := hrow
 rcases hrow with ⟨h1, h2⟩ | ⟨b, cur, vs, h1, h2, h3, h4, h5, h6, h7, h8, h9⟩
 ·rcases h with ⟨_, h3, rfl⟩ | ⟨b, h3, _⟩
  ·exact ⟨none, 0, by rw [h3], .inl (List.eq_nil_of_length_eq_zero h3)⟩
  ·rw [h1] at h3; cases h3
 ·rcases h with ⟨k1, _⟩ | ⟨b', k1, rfl⟩
  ·rw [k1] at h1; cases h1
  ·rw [h1] at k1
   injection k1 with k1
   subst k1
   refine ⟨some ⟨b, 0, none⟩, G.kp r, rfl, .inr ⟨b, 0, vs, rfl, hb b h1, ?_, fun j u hu => ?_, by simpa [ORow.row] using h9⟩⟩
   ·exact RDss.keep hI (fun _ _ => rfl) _ _ _ (RDss.of_Rss h5)
   ·have hj : j < vs.length := (List.getElem?_eq_some_iff.1 hu).1
    have : cur[j]? = some u := by
     rw [← Array.getElem?_toList]
     rw [← h6] at hu
     rw [List.getElem?_take] at hu
     rw [if_pos hj] at hu
     exact hu
    simp only [World.cell?, h4, Nat.zero_add, this, Option.isSome_none, Bool.false_eq_true, if_false]
mutual
theorem frz_R {I' : Nat → Prop} (hrows : ∀ j o, rows[j]? = some o → RowAt B G w j (o.row j)) (hI : ∀ b, G.I b → I' b) (hb : ∀ j b, j < rows.length → G.bt j = some b → I' b) :
  ∀ (x : AV) (y : Value), frzOk rows x → R G w x y → RD I' w (frzV rows x) y
 | .any, y, h, _ => by simp [frzOk] at h
 | .d x, y, _, h => by
  simp only [R] at h
  simp only [frzV]
  exact RD.keep hI (fun _ _ => rfl) _ _ h
 | .ep cs, y, h, _ => by simp [frzOk] at h
 | .ref r n, y, hk, h => by
  simp only [frzOk] at hk
  simp only [frzV]
  cases ho : rows[r]? with
  | none => rw [ho] at hk; exact hk.elim
  | some o =>
   rw [ho] at hk
   exact frz_row (hrows r o ho) hk h hI fun b hbt => hb r b (List.getElem?_eq_some_iff.1 ho).1 hbt
 | .ptr r i o, y, h, _ => by simp [frzOk] at h
 | .ag cs, y, hk, h => by
  simp only [frzOk] at hk
  simp only [R] at h
  simp only [frzV, RD]
  obtain ⟨vs, rfl, h⟩ := h
  exact ⟨vs, rfl, frz_Rs hrows hI hb cs vs hk h⟩
 | .tp cs, y, h, _ => by simp [frzOk] at h
 | .wh g x, y, h, _ => by simp [frzOk] at h
 | .cl g cs, y, h, _ => by simp [frzOk] at h
theorem frz_Rs {I' : Nat → Prop} (hrows : ∀ j o, rows[j]? = some o → RowAt B G w j (o.row j)) (hI : ∀ b, G.I b → I' b) (hb : ∀ j b, j < rows.length → G.bt j = some b → I' b) :
  ∀ (xs : List AV) (vs : List Value), frzOkL rows xs → Rs G w xs vs → RDs I' w (frzL rows xs) vs
 | [], vs, _, h => by simpa only [Rs, frzL, RDs] using h
 | x :: xs, vs, hk, h => by
  simp only [frzOkL] at hk
  simp only [Rs] at h
  simp only [frzL, RDs]
  obtain ⟨u, t, rfl, h1, h2, h3⟩ := h
  exact ⟨u, t, rfl, frz_R hrows hI hb x u hk.1 h1, h2, frz_Rs hrows hI hb xs t hk.2 h3⟩
end
theorem frz_Rt {I' : Nat → Prop} (hrows : ∀ j o, rows[j]? = some o → RowAt B G w j (o.row j)) (hI : ∀ b, G.I b → I' b) (hb : ∀ j b, j < rows.length → G.bt j = some b → I' b) :
  ∀ (xs : List AV) (vs : List Value), frzOkL rows xs → Rt G w xs vs → RDt I' w (frzL rows xs) vs
 | [], vs, _, h => by simpa only [Rt, frzL, RDt] using h
 | x :: xs, vs, hk, h => by
  simp only [frzOkL] at hk
  simp only [Rt] at h
  simp only [frzL, RDt]
  obtain ⟨u, t, rfl, h1, h3⟩ := h
  exact ⟨u, t, rfl, frz_R hrows hI hb x u hk.1 h1, frz_Rt hrows hI hb xs t hk.2 h3⟩
end
theorem Rt.of_RDt' {I : Nat → Prop} {g : Gh} (hg : g.I = I) {w : World} : ∀ {xs : List D} {vs : List Value}, RDt I w xs vs → Rt g w (xs.map .d) vs
 | [], vs, h => by simpa [Rt, RDt] using h
 | x :: xs, vs, h => by
  simp only [RDt] at h
  simp only [List.map_cons, Rt]
  obtain ⟨u, t, rfl, h1, h⟩ := h
  exact ⟨u, t, rfl, by simp only [R]; rw [hg]; exact h1, Rt.of_RDt' hg h⟩
section
variable {P : Program} {f : FuncId} {args : List D} {rows : List ORow}
theorem frz_blocks {w w' : World} {G : Gh} (hG : ∀ b, G.I b → w.heap.size ≤ b ∧ b < w'.heap.size) (hrows : ∀ j o, rows[j]? = some o → RowAt (fun b => w.heap.size ≤ b) G w' j (o.row j)) :
  ∀ b, (G.I b ∨ ∃ j, j < rows.length ∧ G.bt j = some b) → w.heap.size ≤ b ∧ b < w'.heap.size := fun b h => by
 rcases h with h | ⟨j, hj, h⟩
 ·exact hG b h
 ·obtain ⟨_, hrow⟩ := hrows j rows[j] (List.getElem?_eq_getElem hj)
  rcases hrow with ⟨h1, _⟩ | ⟨b', cur, vs, h1, h2, h3, h4, _⟩
  ·rw [h1] at h; cases h
  ·rw [h1] at h
   injection h with h
   subst h
   exact ⟨h2, (Array.getElem?_eq_some_iff.1 h4).1⟩
theorem ACalls.freeze {res : AV} (h : ACalls P f args rows res) (hk : frzOk rows res) : ACalls P f args [] (.d (frzV rows res)) := fun I w vs hI hvs => by
 refine (h I w vs hI hvs).mono fun e w' ⟨v, G, he, hb, hG, hrows, _, _, hv⟩ => ?_
 refine ⟨v, ⟨fun b => G.I b ∨ ∃ j, j < rows.length ∧ G.bt j = some b, fun _ => none, fun _ => 0, fun _ => 0⟩, he, hb, frz_blocks hG hrows, fun j o ho => by simp at ho, fun j j' b h1 => by simp at h1, fun r hr => by simp [AV.ids] at hr, ?_⟩
 simp only [R]
 exact frz_R hrows (fun b hb => .inl hb) (fun j b hj hbt => .inr ⟨j, hj, hbt⟩) res v hk hv
theorem ACalls.freezeT {cs : List AV} (h : ACalls P f args rows (.tp cs)) (hk : frzOkL rows cs) : ACalls P f args [] (.tp ((frzL rows cs).map .d)) := fun I w vs hI hvs => by
 refine (h I w vs hI hvs).mono fun e w' ⟨v, G, he, hb, hG, hrows, _, _, hv⟩ => ?_
 refine ⟨v, ⟨fun b => G.I b ∨ ∃ j, j < rows.length ∧ G.bt j = some b, fun _ => none, fun _ => 0, fun _ => 0⟩, he, hb, frz_blocks hG hrows, fun j o ho => by simp at ho, fun j j' b h1 => by simp at h1, fun r hr => ?_, ?_⟩
 ·simp only [AV.ids] at hr
  rw [idsL_mapD] at hr
  simp at hr
 simp only [R] at hv ⊢
 obtain ⟨us, rfl, hv⟩ := hv
 exact ⟨us, rfl, Rt.of_RDt' rfl (frz_Rt hrows (fun b hb => .inl hb) (fun j b hj hbt => .inr ⟨j, hj, hbt⟩) cs us hk hv)⟩
end
section
variable {f : Nat → Nat} {V : List Nat}
theorem VLe.still {x : AV} (h : x.ids = []) : VLe f V x x := .inr (.inl ⟨(ren_nil f x h).symm, by simp [h]⟩)
theorem VLe.ptr_ {r i o : Nat} (h : r ∉ V) : VLe f V (.ptr (f r) i o) (.ptr r i o) := .inr (.inl ⟨rfl, by simpa [AV.ids] using h⟩)
theorem VLes.still : ∀ {xs : List AV}, AV.idsL xs = [] → VLes f V xs xs
 | [], _ => by simp only [VLes]
 | x :: xs, h => by
  simp only [AV.idsL, List.append_eq_nil_iff] at h
  simp only [VLes]
  exact ⟨_, _, rfl, VLe.still h.1, VLes.still h.2⟩
theorem VLess.still : ∀ {xs : List (List AV)}, (∀ e ∈ xs, AV.idsL e = []) → VLess f V xs xs
 | [], _ => by simp only [VLess]
 | x :: xs, h => by
  simp only [VLess]
  exact ⟨_, _, rfl, VLes.still (h x (by simp)), VLess.still fun e he => h e (by simp [he])⟩
theorem RowLe.same {m' : Nat → Option ARow} {r : Nat} {g : Prop} {ty : TypeId} {sz : Nat} {uq ap : Bool} {fam : Nat} {els els' : List (List AV)} (h : els' = els) (hi : ∀ e ∈ els, AV.idsL e = []) :
  RowLe f V m' r ⟨g, ty, sz, uq, ap, fam, els⟩ ⟨g, ty, sz, uq, ap, fam, els'⟩ := by
 subst h
 exact ⟨id, rfl, rfl, fun _ => rfl, id, .inl, VLess.still hi⟩
theorem RowLe.still {m' : Nat → Option ARow} {r : Nat} {row : ARow} (h : ∀ e ∈ row.els, AV.idsL e = []) : RowLe f V m' r row row := ⟨id, rfl, rfl, fun _ => rfl, id, .inl, VLess.still h⟩
end
def avC {α : Type} (f : α → List D) (x : α) : List AV := (f x).map .d
theorem avC_map {α : Type} (f : α → List D) (l : List α) : (l.map f).map (·.map .d) = l.map (avC f) := by simp [avC]
theorem idsL_avC {α : Type} (f : α → List D) (l : List α) : ∀ e ∈ l.map (avC f), AV.idsL e = [] := fun e he => by
 obtain ⟨x, _, rfl⟩ := List.mem_map.1 he
 exact idsL_data _
theorem set_mid {α β : Type} (f : α → β) (a b : List α) (x : α) (y : β) : ((a ++ x :: b).map f).set ((a.length : Int).toNat) y = a.map f ++ y :: b.map f := by simp
theorem lt_midN {α : Type} (a b : List α) (x : α) : ((a.length : Int).toNat < (a ++ x :: b).length) = True := by
 simp only [List.length_append, List.length_cons, eq_iff_iff, iff_true]; omega
end Go.Proofs.YtjkfadaedgidpaaGreat
