import Derived.Test.YtcpkhnciplfmkaaSpecNA
namespace Go.Proofs.Ytcpkhnciplfmkaa
open Go.RowKit
set_option linter.unusedVariables false
set_option linter.unusedSimpArgs false

end Go.Proofs.Ytcpkhnciplfmkaa
namespace Go.Proofs
open Go.Shelf
shelf_lay_g SlLaysE0.n41 Slgn 41 at Try 22 as Try.layC22
end Go.Proofs
namespace Go.Proofs.Ytcpkhnciplfmkaa
open Go.RowKit
set_option linter.unusedVariables false
set_option linter.unusedSimpArgs false
theorem cloneDue (els : List (List D)) (hfl : ∀ l, l ∈ els → flatDs l) (hn : els.length ≤ 1000000) : ACalls Try.prog 22 [.sl 3 els] [⟨30, 3, els⟩] (.ref 0 els.length) :=
  acalls_cloneT Try.layC22 rfl rfl 3 24 [.int .i64 0, .int .i64 0, .int .i64 0] (by kernel_rfl) (by kernel_rfl) (by kernel_rfl) rfl (by decide) (by decide) els hfl hn

end Go.Proofs.Ytcpkhnciplfmkaa
