import Derived.Test.YtopifbpibkpmmaaWpA
namespace Go.Proofs.Ytopifbpibkpmmaa
open Go.RowKit
set_option linter.unusedVariables false
set_option linter.unusedSimpArgs false

end Go.Proofs.Ytopifbpibkpmmaa
namespace Go.Proofs
open Go.Shelf
def Try.layC27_ren : Go.Shelf.Ren := ⟨fun | 41 => 27 | n => n, fun | 22 => 22 | 23 => 31 | 4 => 4 | n => n, fun | n => n⟩
theorem Try.layC27 : Go.Proofs.SlLaysE0.n41 Try.prog Try.layC27_ren := {
  mixed := by kernel_rfl
  f41 := ⟨Try.f27.name, by decide, Try.func27.trans (congrArg some (by kernel_rfl))⟩
  t4 := Try.underlying4
  a4 := Try.isAgg4
  z4 := Try.sizeOf4
  v4 := Try.zeroValue4
  t22 := Try.underlying22
  a22 := Try.isAgg22
  z22 := Try.sizeOf22
  v22 := Try.zeroValue22 }
end Go.Proofs
namespace Go.Proofs.Ytopifbpibkpmmaa
open Go.RowKit
set_option linter.unusedVariables false
set_option linter.unusedSimpArgs false
theorem cloneBid (els : List (List D)) (hfl : ∀ l, l ∈ els → flatDs l) (hn : els.length ≤ 1000000) : ACalls Try.prog 27 [.sl 5 els] [⟨31, 5, els⟩] (.ref 0 els.length) :=
  acalls_cloneT Try.layC27 rfl rfl 5 40 [.int .i64 0, .int .i64 0, .int .i64 0, .int .i64 0, .int .i64 0] (by kernel_rfl) (by kernel_rfl) (by kernel_rfl) rfl (by decide) (by decide) els hfl hn

end Go.Proofs.Ytopifbpibkpmmaa
namespace Go.Proofs
open Go.Shelf
def Try.layC93_ren : Go.Shelf.Ren := ⟨fun | 41 => 93 | n => n, fun | 22 => 56 | 23 => 86 | 4 => 4 | n => n, fun | n => n⟩
theorem Try.layC93 : Go.Proofs.SlLaysE0.n41 Try.prog Try.layC93_ren := {
  mixed := by kernel_rfl
  f41 := ⟨Try.f93.name, by decide, Try.func93.trans (congrArg some (by kernel_rfl))⟩
  t4 := Try.underlying4
  a4 := Try.isAgg4
  z4 := Try.sizeOf4
  v4 := Try.zeroValue4
  t22 := Try.underlying56
  a22 := Try.isAgg56
  z22 := Try.sizeOf56
  v22 := Try.zeroValue56 }
end Go.Proofs
namespace Go.Proofs.Ytopifbpibkpmmaa
open Go.RowKit
set_option linter.unusedVariables false
set_option linter.unusedSimpArgs false
theorem cloneTr (els : List (List D)) (hfl : ∀ l, l ∈ els → flatDs l) (hn : els.length ≤ 1000000) : ACalls Try.prog 93 [.sl 7 els] [⟨86, 7, els⟩] (.ref 0 els.length) :=
  acalls_cloneT Try.layC93 rfl rfl 7 56 [.int .i64 0, .int .i64 0, .int .i64 0, .int .i64 0, .int .i64 0, .int .i64 0, .bool false] (by kernel_rfl) (by kernel_rfl) (by kernel_rfl) rfl (by decide) (by decide) els hfl hn

end Go.Proofs.Ytopifbpibkpmmaa
namespace Go.Proofs
open Go.Shelf
def Try.layC94_ren : Go.Shelf.Ren := ⟨fun | 41 => 94 | n => n, fun | 22 => 42 | 23 => 46 | 4 => 4 | n => n, fun | n => n⟩
theorem Try.layC94 : Go.Proofs.SlLaysE0.n41 Try.prog Try.layC94_ren := {
  mixed := by kernel_rfl
  f41 := ⟨Try.f94.name, by decide, Try.func94.trans (congrArg some (by kernel_rfl))⟩
  t4 := Try.underlying4
  a4 := Try.isAgg4
  z4 := Try.sizeOf4
  v4 := Try.zeroValue4
  t22 := Try.underlying42
  a22 := Try.isAgg42
  z22 := Try.sizeOf42
  v22 := Try.zeroValue42 }
end Go.Proofs
namespace Go.Proofs.Ytopifbpibkpmmaa
open Go.RowKit
set_option linter.unusedVariables false
set_option linter.unusedSimpArgs false
theorem clonePo (els : List (List D)) (hfl : ∀ l, l ∈ els → flatDs l) (hn : els.length ≤ 1000000) : ACalls Try.prog 94 [.sl 4 els] [⟨46, 4, els⟩] (.ref 0 els.length) :=
  acalls_cloneT Try.layC94 rfl rfl 4 32 [.int .i64 0, .int .i64 0, .int .i64 0, .int .i64 0] (by kernel_rfl) (by kernel_rfl) (by kernel_rfl) rfl (by decide) (by decide) els hfl hn

end Go.Proofs.Ytopifbpibkpmmaa
