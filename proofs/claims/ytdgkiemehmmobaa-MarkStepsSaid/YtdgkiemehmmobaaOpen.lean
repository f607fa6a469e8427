/- Openers: arguments of the laws, opened. No condition. -/
import Derived.Test.YtdgkiemehmmobaaAbsV
import Derived.Test.YtdgkiemehmmobaaSpecN
namespace Go.Proofs.Ytdgkiemehmmobaa
open Go.ChangeShapes Go.WideShapes Go.ChangeAt Go.RowKit
set_option linter.unusedVariables false
set_option linter.unusedSimpArgs false
set_option linter.constructorNameAsVariable false

theorem own_ : ownKnob Try.prog.godebug = none := by kernel_rfl
theorem laid_ : laidOutB Try.prog = true := by kernel_rfl
theorem inv_list {α : Type} {f : α → List D} : ∀ {els : List (List D)}, (∀ el ∈ els, ∃ p, el = f p) → ∃ l : List α, els = l.map f
  | [], _ => ⟨[], rfl⟩
  | e :: els, h => by
    obtain ⟨p, rfl⟩ := h e (by simp)
    obtain ⟨l, rfl⟩ := inv_list (els := els) fun el hel => h el (List.mem_cons_of_mem _ hel)
    exact ⟨p :: l, rfl⟩
theorem inv_pos {cs : List D} (h : TC Try.prog 3 25 cs) : ∃ p, cs = posC p := by
  simp only [TC, Try.underlying25, Try.underlying23, Try.underlying3, Segs, List.map_cons, List.map_nil, List.replicate] at h
  obtain ⟨_, _, rfl, ⟨_, _, rfl, ⟨n0, rfl, wn0⟩, _, _, rfl, ⟨n1, rfl, wn1⟩, rfl⟩, _, _, rfl, ⟨n2, rfl, wn2⟩, _, _, rfl, ⟨n3, rfl, wn3⟩, rfl⟩ := h
  exact ⟨⟨n0, n1, n2, n3⟩, rfl⟩
theorem cells_pos : Try.prog.cellsOf 25 = 4 := by kernel_rfl
theorem inv_inst {cs : List D} (h : TC Try.prog 3 33 cs) : ∃ p, cs = instC p := by
  simp only [TC, Try.underlying33, Try.underlying3, Try.underlying31, Segs, List.map_cons, List.map_nil, List.replicate] at h
  obtain ⟨_, _, rfl, ⟨n0, rfl, wn0⟩, _, _, rfl, ⟨n1, rfl, wn1⟩, _, _, rfl, ⟨n2, rfl, wn2⟩, _, _, rfl, ⟨n3, rfl, wn3⟩, _, _, rfl, ⟨n4, rfl, wn4⟩, _, _, rfl, ⟨n5, rfl, wn5⟩, _, _, rfl, ⟨_, _, rfl, ⟨n6, rfl, wn6⟩, _, _, rfl, ⟨n7, rfl, wn7⟩, _, _, rfl, ⟨n8, rfl, wn8⟩, _, _, rfl, ⟨n9, rfl, wn9⟩, _, _, rfl, ⟨n10, rfl, wn10⟩, _, _, rfl, ⟨n11, rfl, wn11⟩, rfl⟩, rfl⟩ := h
  exact ⟨⟨n0, n1, n2, n3, n4, n5, n6, n7, n8, n9, n10, n11⟩, rfl⟩
theorem cells_inst : Try.prog.cellsOf 33 = 12 := by kernel_rfl
theorem inv_key {cs : List D} (h : TC Try.prog 2 23 cs) : ∃ p, cs = keyC p := by
  simp only [TC, Try.underlying23, Try.underlying3, Segs, List.map_cons, List.map_nil, List.replicate] at h
  obtain ⟨_, _, rfl, ⟨n0, rfl, wn0⟩, _, _, rfl, ⟨n1, rfl, wn1⟩, rfl⟩ := h
  exact ⟨⟨n0, n1⟩, rfl⟩
theorem cells_key : Try.prog.cellsOf 23 = 2 := by kernel_rfl
end Go.Proofs.Ytdgkiemehmmobaa
