/- What plain types hold, opened one by one. No condition. -/
import Derived.Test.YtcpkhnciplfmkaaAbsW
import Derived.Test.YtcpkhnciplfmkaaAbsV
namespace Go.Proofs.Ytcpkhnciplfmkaa
open Go.ChangeShapes Go.WideShapes Go.RowKit Go.Deep
set_option linter.unusedVariables false
set_option linter.unusedSimpArgs false
section
variable {P : Program} {k : Nat} {t e : TypeId} {cs : List D}
theorem tc_slice (hu : P.underlying t = some (.slice e)) (h : TC P (k + 1) t cs) : ∃ els, cs = [.sl (P.cellsOf e) els] ∧ els.length ≤ maxLen ∧ ∀ el ∈ els, TC P k e el := by
  unfold TC at h; rw [hu] at h; exact h
theorem tc_struct {fs : Array Field} (hu : P.underlying t = some (.struct fs)) (h : TC P (k + 1) t cs) : Segs (TC P k) (fs.toList.map (·.type)) cs := by
  unfold TC at h; rw [hu] at h; exact h
theorem tc_array {n : Nat} (hu : P.underlying t = some (.array n e)) (h : TC P (k + 1) t cs) : Segs (TC P k) (List.replicate n e) cs := by
  unfold TC at h; rw [hu] at h; exact h
theorem tc_int {q : IntKind} (hu : P.underlying t = some (.int q)) (h : TC P (k + 1) t cs) : ∃ n, cs = [.v (.int q n)] ∧ (Lit.int q n).wf = true := by
  unfold TC at h; rw [hu] at h; exact h
theorem tc_bool (hu : P.underlying t = some .bool) (h : TC P (k + 1) t cs) : ∃ b, cs = [.v (.bool b)] := by
  unfold TC at h; rw [hu] at h; exact h
theorem tc_string (hu : P.underlying t = some .string) (h : TC P (k + 1) t cs) : ∃ s : ByteArray, cs = [.v (.string s)] ∧ s.size ≤ maxLen := by
  unfold TC at h; rw [hu] at h; exact h
theorem segs_one {f : TypeId → List D → Prop} {t : TypeId} {ts : List TypeId} (h : Segs f (t :: ts) cs) : ∃ a b, cs = a ++ b ∧ f t a ∧ Segs f ts b := h
theorem segs_nil {f : TypeId → List D → Prop} (h : Segs f [] cs) : cs = [] := h
end
theorem inv_list {α : Type} {f : α → List D} : ∀ {els : List (List D)}, (∀ el ∈ els, ∃ p, el = f p) → ∃ l : List α, els = l.map f
  | [], _ => ⟨[], rfl⟩
  | e :: els, h => by
    obtain ⟨p, rfl⟩ := h e (by simp)
    obtain ⟨l, rfl⟩ := inv_list (els := els) fun el hel => h el (List.mem_cons_of_mem _ hel)
    exact ⟨p :: l, rfl⟩
def com64 (n : Int) : Int := IntKind.wrap .u64 (BitVec.ofInt (IntKind.bits .u64) (IntKind.max .u64) ^^^ BitVec.ofInt (IntKind.bits .u64) n).toNat
theorem u_xor (n : Int) : unV .xor (.int .u64 n) = .int .u64 (com64 n) := rfl
/- A list of items, with what is known of each item. -/
theorem inv_listP {α : Type} {f : α → List D} {Q : α → Prop} : ∀ {els : List (List D)}, (∀ el ∈ els, ∃ p, el = f p ∧ Q p) → ∃ l : List α, els = l.map f ∧ ∀ x ∈ l, Q x
  | [], _ => ⟨[], rfl, by simp⟩
  | e :: els, h => by
    obtain ⟨p, rfl, hp⟩ := h e (by simp)
    obtain ⟨l, rfl, hl⟩ := inv_listP (els := els) fun el hel => h el (List.mem_cons_of_mem _ hel)
    refine ⟨p :: l, rfl, fun x hx => ?_⟩
    rcases List.mem_cons.1 hx with rfl | hx
    · exact hp
    · exact hl x hx
end Go.Proofs.Ytcpkhnciplfmkaa
