import Derived.Test.YtopifbpibkpmmaaWpA
namespace Go.Proofs.Ytopifbpibkpmmaa
open Go.RowKit
set_option linter.unusedVariables false
set_option linter.unusedSimpArgs false

end Go.Proofs.Ytopifbpibkpmmaa
namespace Go.Proofs
open Go.Shelf
shelf_lay_g SlLaysE0.n41 Slgn 41 at Try 27 as Try.layC27
end Go.Proofs
namespace Go.Proofs.Ytopifbpibkpmmaa
open Go.RowKit
set_option linter.unusedVariables false
set_option linter.unusedSimpArgs false
theorem cloneBid (els : List (List D)) (hfl : ∀ l, l ∈ els → flatDs l) (hn : els.length ≤ 1000000) : ACalls Try.prog 27 [.sl 5 els] [⟨31, 5, els⟩] (.ref 0 els.length) :=
  acalls_cloneT Try.layC27 rfl rfl 5 40 [.int .i64 0, .int .i64 0, .int .i64 0, .int .i64 0, .int .i64 0] (by kernel_rfl) (by kernel_rfl) (by kernel_rfl) rfl (by decide) (by decide) els hfl hn

end Go.Proofs.Ytopifbpibkpmmaa
namespace Go.Proofs
open Go.Shelf
shelf_lay_g SlLaysE0.n41 Slgn 41 at Try 93 as Try.layC93
end Go.Proofs
namespace Go.Proofs.Ytopifbpibkpmmaa
open Go.RowKit
set_option linter.unusedVariables false
set_option linter.unusedSimpArgs false
theorem cloneTr (els : List (List D)) (hfl : ∀ l, l ∈ els → flatDs l) (hn : els.length ≤ 1000000) : ACalls Try.prog 93 [.sl 7 els] [⟨86, 7, els⟩] (.ref 0 els.length) :=
  acalls_cloneT Try.layC93 rfl rfl 7 56 [.int .i64 0, .int .i64 0, .int .i64 0, .int .i64 0, .int .i64 0, .int .i64 0, .bool false] (by kernel_rfl) (by kernel_rfl) (by kernel_rfl) rfl (by decide) (by decide) els hfl hn

end Go.Proofs.Ytopifbpibkpmmaa
namespace Go.Proofs
open Go.Shelf
shelf_lay_g SlLaysE0.n41 Slgn 41 at Try 94 as Try.layC94
end Go.Proofs
namespace Go.Proofs.Ytopifbpibkpmmaa
open Go.RowKit
set_option linter.unusedVariables false
set_option linter.unusedSimpArgs false
theorem clonePo (els : List (List D)) (hfl : ∀ l, l ∈ els → flatDs l) (hn : els.length ≤ 1000000) : ACalls Try.prog 94 [.sl 4 els] [⟨46, 4, els⟩] (.ref 0 els.length) :=
  acalls_cloneT Try.layC94 rfl rfl 4 32 [.int .i64 0, .int .i64 0, .int .i64 0, .int .i64 0] (by kernel_rfl) (by kernel_rfl) (by kernel_rfl) rfl (by decide) (by decide) els hfl hn

end Go.Proofs.Ytopifbpibkpmmaa
