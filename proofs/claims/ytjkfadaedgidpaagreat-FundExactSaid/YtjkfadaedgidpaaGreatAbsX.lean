/- What plain types hold, opened one by one. No condition. -/
import Derived.Test.YtjkfadaedgidpaaGreatAbsW
import Derived.Test.YtjkfadaedgidpaaGreatAbsV
namespace Go.Proofs.YtjkfadaedgidpaaGreat
open Go.ChangeShapes Go.WideShapes Go.RowKit Go.Deep
set_option linter.unusedVariables false
set_option linter.unusedSimpArgs false
section
variable {P : Program} {k : Nat} {t e : TypeId} {cs : List D}
theorem tc_slice (hu : P.underlying t = some (.slice e)) (h : TC P (k + 1) t cs) : ∃ els, cs = [.sl (P.cellsOf e) els] ∧ els.length ≤ maxLen ∧ ∀ el ∈ els, TC P k e el := by
 unfold TC at h; rw [hu] at h; exact h
theorem tc_struct {fs : Array Field} (hu : P.underlying t = some (.struct fs)) (h : TC P (k + 1) t cs) : Segs (TC P k) (fs.toList.map (·.type)) cs := by
 unfold TC at h; rw [hu] at h; exact h
theorem tc_array {n : Nat} (hu : P.underlying t = some (.array n e)) (h : TC P (k + 1) t cs) : Segs (TC P k) (List.replicate n e) cs := by
 unfold TC at h; rw [hu] at h; exact h
theorem tc_int {q : IntKind} (hu : P.underlying t = some (.int q)) (h : TC P (k + 1) t cs) : ∃ n, cs = [.v (.int q n)] ∧ (Lit.int q n).wf = true := by
 unfold TC at h; rw [hu] at h; exact h
end
theorem inv_list {α : Type} {f : α → List D} : ∀ {els : List (List D)}, (∀ el ∈ els, ∃ p, el = f p) → ∃ l : List α, els = l.map f
 | [], _ => ⟨[], rfl⟩
 | e :: els, h => by
  obtain ⟨p, rfl⟩ := h e (by simp)
  obtain ⟨l, rfl⟩ := inv_list (els := els) fun el hel => h el (List.mem_cons_of_mem _ hel)
  exact ⟨p :: l, rfl⟩
def com64 (n : Int) : Int := IntKind.wrap .u64 (BitVec.ofInt (IntKind.bits .u64) (IntKind.max .u64) ^^^ BitVec.ofInt (IntKind.bits .u64) n).toNat
theorem u_xor (n : Int) : unV .xor (.int .u64 n) = .int .u64 (com64 n) := rfl
end Go.Proofs.YtjkfadaedgidpaaGreat
