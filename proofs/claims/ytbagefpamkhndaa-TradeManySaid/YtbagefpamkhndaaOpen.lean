/- Openers: arguments of the laws, opened. No condition. -/
import Derived.Test.YtbagefpamkhndaaAbsV
import Derived.Test.YtbagefpamkhndaaSpecA
namespace Go.Proofs.Ytbagefpamkhndaa
open Go.ChangeShapes Go.WideShapes Go.ChangeAt Go.RowKit
set_option linter.unusedVariables false
set_option linter.unusedSimpArgs false

theorem own_ : ownKnob Try.prog.godebug = none := by kernel_rfl
theorem laid_ : laidOutB Try.prog = true := by kernel_rfl
theorem inv_list {α : Type} {f : α → List D} : ∀ {els : List (List D)}, (∀ el ∈ els, ∃ p, el = f p) → ∃ l : List α, els = l.map f
  | [], _ => ⟨[], rfl⟩
  | e :: els, h => by
    obtain ⟨p, rfl⟩ := h e (by simp)
    obtain ⟨l, rfl⟩ := inv_list (els := els) fun el hel => h el (List.mem_cons_of_mem _ hel)
    exact ⟨p :: l, rfl⟩
theorem inv_pos {cs : List D} (h : TC Try.prog 3 35 cs) : ∃ p, cs = posC p := by
  simp only [TC, Try.underlying35, Try.underlying33, Try.underlying3, Segs, List.map_cons, List.map_nil, List.replicate] at h
  obtain ⟨_, _, rfl, ⟨_, _, rfl, ⟨n0, rfl, wn0⟩, _, _, rfl, ⟨n1, rfl, wn1⟩, rfl⟩, _, _, rfl, ⟨n2, rfl, wn2⟩, _, _, rfl, ⟨n3, rfl, wn3⟩, rfl⟩ := h
  exact ⟨⟨n0, n1, n2, n3⟩, rfl⟩
theorem inv_trade {cs : List D} (h : TC Try.prog 3 30 cs) : ∃ p, cs = tradeC p := by
  simp only [TC, Try.underlying30, Try.underlying3, Try.underlying4, Segs, List.map_cons, List.map_nil, List.replicate] at h
  obtain ⟨_, _, rfl, ⟨n0, rfl, wn0⟩, _, _, rfl, ⟨n1, rfl, wn1⟩, _, _, rfl, ⟨n2, rfl, wn2⟩, _, _, rfl, ⟨n3, rfl, wn3⟩, _, _, rfl, ⟨n4, rfl, wn4⟩, _, _, rfl, ⟨n5, rfl, wn5⟩, _, _, rfl, ⟨b6, rfl⟩, rfl⟩ := h
  exact ⟨⟨n0, n1, n2, n3, n4, n5, b6⟩, rfl⟩
theorem cells_pos : Try.prog.cellsOf 35 = 4 := by kernel_rfl
theorem cells_trade : Try.prog.cellsOf 30 = 7 := by kernel_rfl
end Go.Proofs.Ytbagefpamkhndaa
