/- GreedyGrows: for every input the law returns true, and what came in reads as it did. No condition. -/
import Derived.Test.YtfpicdhfoflcgaaOpen
import Derived.Test.YtfpicdhfoflcgaaWpL
namespace Go.Proofs.Ytfpicdhfoflcgaa
open Go.ChangeShapes Go.WideShapes Go.ChangeAt Go.RowKit
set_option linter.unusedVariables false
set_option linter.unusedSimpArgs false
set_option linter.constructorNameAsVariable false

set_option maxRecDepth 100000 in
theorem greedyGrows_lifted (os : Os) (started : os.Started) (H : Type) (enc : TypeId × Value → H) :
    ReturnsInHanded {} Try.checked os 8 .any (Rows.greedyGrowsSpec.pre6 enc Try.prog Try.f8 Rows.greedyGrowsRow.domain false) (Rows.greedyGrowsSpec.post enc Try.prog Try.f8 false true false false) := by
  refine returnsInHanded_of_change (C := Try.checked) own_ started (by kernel_rfl) Try.func8
    (ChangeSpec.witness6 (enc := enc) (C := Try.checked) false ⟨#[], #[(.int .i64 0), (.int .i64 0), (.slice none 0 0), (.int .i64 0), (.int .i64 0)], []⟩ 12 (by kernel_rfl) (by kernel_rfl) (by kernel_rfl) (by kernel_rfl)) ?_
  intro W base args ds gs before hval0 hW hcnd _
  have hval : ∀ (j : Nat) t v, Try.f8.params[j]? = some t → args[j]? = some v → Value.okWide Try.prog W .any base t v := hval0
  have hW' : DataW.Whole enc Try.prog Try.f8.params.toList Rows.greedyGrowsSpec.vars false W args.toList ds gs before := hW
  obtain ⟨p, q, hA0, hV, hpq, hfz, hnd⟩ := hW
  have hA : DataW.TrodAll enc Try.prog W 0 (fun _ => true) true Try.f8.params.toList args.toList ds p := hA0
  rw [Try.params8] at hA
  obtain ⟨v0, v1, v2, v3, v4, d0, d1, d2, d3, d4, p0, p1, p2, p3, p4, rfl, rfl, rfl, h0, h1, h2, h3, h4⟩ := trodAll_five hA
  obtain ⟨rfl, rfl⟩ := trodVars_none hV
  obtain ⟨t, hR0, hw0⟩ := rd_int Try.underlying3 (hval 0 3 v0 rfl rfl) h0
  obtain ⟨u, hR1, hw1⟩ := rd_int Try.underlying3 (hval 1 3 v1 rfl rfl) h1
  obtain ⟨els2, hR2, hlen2, hT2⟩ := rd_slice (k := 1) Try.underlying22 (by kernel_rfl) (hval 2 22 v2 rfl rfl) h2
  obtain ⟨l, rfl⟩ := inv_list (fun el hel => inv_int (j := 0) (hT2 el hel))
  rw [cells_int] at hR2
  obtain ⟨a, hR3, hw3⟩ := rd_int Try.underlying3 (hval 3 3 v3 rfl rfl) h3
  obtain ⟨c, hR4, hw4⟩ := rd_int Try.underlying3 (hval 4 3 v4 rfl rfl) h4
  refine (greedyGrows_ t u l a c (fun b => b < W.heap.size) W [v0, v1, v2, v3, v4] (fun b h => h) ⟨v0, _, rfl, hR0, v1, _, rfl, hR1, v2, _, rfl, hR2, v3, _, rfl, hR3, v4, _, rfl, hR4, rfl⟩).mono fun e W' ⟨v, G, he, hb, _, _, _, _, hv⟩ => ⟨v, he, ?_⟩
  have hv : v = .bool true := by simpa only [R, RD] using hv
  subst hv
  exact law_post (tb := 4) laid_ (by kernel_rfl) rfl rfl Try.underlying4 ⟨rfl, rfl, rfl⟩ hW' hb

theorem greedyGrows_holds : Rows.GreedyGrowsSaid :=
  OpenClaim.holds_of_wide 8 Try.f8 rfl rfl rfl rfl rfl rfl rfl ⟨rfl, rfl, rfl, rfl, rfl⟩ rfl rfl rfl rfl rfl (by kernel_rfl) Try.func8 (by kernel_rfl)
    (of_decide_eq_true (by kernel_rfl)) (by unfold Func.isWrapper; first | (rw [if_pos (by decide +kernel)]; kernel_rfl) | (rw [if_neg (by decide +kernel)]; exact ⟨rfl, rfl⟩))
    (fun os started H enc _ => greedyGrows_lifted os started H enc)
#print axioms greedyGrows_holds
end Go.Proofs.Ytfpicdhfoflcgaa
