/- MarkExact: for every input the law returns true, and what came in reads as it did. No condition. -/
import Derived.Test.YtdgkiemehmmobaaOpen
import Derived.Test.YtdgkiemehmmobaaWpV
namespace Go.Proofs.Ytdgkiemehmmobaa
open Go.ChangeShapes Go.WideShapes Go.ChangeAt Go.RowKit
set_option linter.unusedVariables false
set_option linter.unusedSimpArgs false
set_option linter.constructorNameAsVariable false

set_option maxRecDepth 100000 in
theorem markExact_lifted (os : Os) (started : os.Started) (H : Type) (enc : TypeId × Value → H) :
    ReturnsInHanded {} Try.checked os 5 .any (Rows.markExactSpec.pre6 enc Try.prog Try.f5 Rows.markExactRow.domain false) (Rows.markExactSpec.post enc Try.prog Try.f5 false true false false) := by
  refine returnsInHanded_of_change (C := Try.checked) own_ started (by kernel_rfl) Try.func5
    (ChangeSpec.witness6 (enc := enc) (C := Try.checked) false ⟨#[], #[(.agg #[(.slice none 0 0), (.slice none 0 0), (.slice none 0 0)]), (.agg #[(.int .i64 0), (.slice none 0 0), (.slice none 0 0)]), (.agg #[(.int .i64 0), (.int .i64 0), (.int .i64 0), (.int .i64 0)]), (.int .i64 0), (.int .i64 0), (.agg #[(.int .i64 0), (.int .i64 0), (.int .i64 0), (.int .i64 0), (.int .i64 0), (.int .i64 0), (.int .i64 0), (.int .i64 0), (.int .i64 0), (.int .i64 0), (.int .i64 0), (.int .i64 0)])], []⟩ 12 (by kernel_rfl) (by kernel_rfl) (by kernel_rfl) (by kernel_rfl)) ?_
  intro W base args ds gs before hval0 hW hcnd _
  have hval : ∀ (j : Nat) t v, Try.f5.params[j]? = some t → args[j]? = some v → Value.okWide Try.prog W .any base t v := hval0
  have hW' : DataW.Whole enc Try.prog Try.f5.params.toList Rows.markExactSpec.vars false W args.toList ds gs before := hW
  obtain ⟨p, q, hA0, hV, hpq, hfz, hnd⟩ := hW
  have hA : DataW.TrodAll enc Try.prog W 0 (fun _ => true) true Try.f5.params.toList args.toList ds p := hA0
  rw [Try.params5] at hA
  obtain ⟨v0, v1, v2, v3, v4, v5, d0, d1, d2, d3, d4, d5, p0, p1, p2, p3, p4, p5, rfl, rfl, rfl, h0, h1, h2, h3, h4, h5⟩ := trodAll_six hA
  obtain ⟨rfl, rfl⟩ := trodVars_none hV
  obtain ⟨ds0, hR0, hS0⟩ := rd_struct (k := 4) Try.underlying40 (by kernel_rfl) (hval 0 40 v0 rfl rfl) h0
  obtain ⟨r, rfl⟩ := inv_roll (j := 0) (by unfold TC; rw [Try.underlying40]; exact hS0)
  obtain ⟨ds1, hR1, hS1⟩ := rd_struct (k := 4) Try.underlying44 (by kernel_rfl) (hval 1 44 v1 rfl rfl) h1
  obtain ⟨b, rfl⟩ := inv_book (j := 0) (by unfold TC; rw [Try.underlying44]; exact hS1)
  obtain ⟨ds2, hR2, hS2⟩ := rd_struct (k := 2) Try.underlying25 (by kernel_rfl) (hval 2 25 v2 rfl rfl) h2
  obtain ⟨p, rfl⟩ := inv_pos (j := 0) (by unfold TC; rw [Try.underlying25]; exact hS2)
  obtain ⟨mu, hR3, hw3⟩ := rd_int Try.underlying3 (hval 3 3 v3 rfl rfl) h3
  obtain ⟨pr, hR4, hw4⟩ := rd_int Try.underlying3 (hval 4 3 v4 rfl rfl) h4
  obtain ⟨ds5, hR5, hS5⟩ := rd_struct (k := 2) Try.underlying33 (by kernel_rfl) (hval 5 33 v5 rfl rfl) h5
  obtain ⟨i, rfl⟩ := inv_inst (j := 0) (by unfold TC; rw [Try.underlying33]; exact hS5)
  refine (markExact_ r b p mu pr i (fun b => b < W.heap.size) W [v0, v1, v2, v3, v4, v5] (fun b h => h) ⟨v0, _, rfl, hR0, v1, _, rfl, hR1, v2, _, rfl, hR2, v3, _, rfl, hR3, v4, _, rfl, hR4, v5, _, rfl, hR5, rfl⟩).mono fun e W' ⟨v, G, he, hb, _, _, _, _, hv⟩ => ⟨v, he, ?_⟩
  have hv : v = .bool true := by simpa only [R, RD] using hv
  subst hv
  exact law_post (tb := 4) laid_ (by kernel_rfl) rfl rfl Try.underlying4 ⟨rfl, rfl, rfl⟩ hW' hb

theorem markExact_holds : Rows.MarkExactSaid :=
  OpenClaim.holds_of_wide 5 Try.f5 rfl rfl rfl rfl rfl rfl rfl ⟨rfl, rfl, rfl, rfl, rfl⟩ rfl rfl rfl rfl rfl (by kernel_rfl) Try.func5 (by kernel_rfl)
    (of_decide_eq_true (by kernel_rfl)) (by unfold Func.isWrapper; first | (rw [if_pos (by decide +kernel)]; kernel_rfl) | (rw [if_neg (by decide +kernel)]; exact ⟨rfl, rfl⟩))
    (fun os started H enc _ => markExact_lifted os started H enc)
#print axioms markExact_holds
end Go.Proofs.Ytdgkiemehmmobaa
