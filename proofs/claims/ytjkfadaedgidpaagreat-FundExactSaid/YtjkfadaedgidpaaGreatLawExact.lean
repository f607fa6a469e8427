/- FundExact: for every input the law returns true, and what came in reads as it did. No condition. -/
import Derived.Test.YtjkfadaedgidpaaGreatOpen
import Derived.Test.YtjkfadaedgidpaaGreatWpT
namespace Go.Proofs.YtjkfadaedgidpaaGreat
open Go.ChangeShapes Go.WideShapes Go.ChangeAt Go.RowKit
set_option linter.unusedVariables false
set_option linter.unusedSimpArgs false
set_option linter.constructorNameAsVariable false
set_option maxRecDepth 100000 in
theorem fundExact_lifted (os : Os) (started : os.Started) (H : Type) (enc : TypeId × Value → H) :
  ReturnsInHanded {} Tryz.checked os 3 .any (Rows.fundExactSpec.pre6 enc Tryz.prog Tryz.f3 Rows.fundExactRow.domain false) (Rows.fundExactSpec.post enc Tryz.prog Tryz.f3 false true false false) := by
 refine returnsInHanded_of_change (C := Tryz.checked) own_ started (by kernel_rfl) Tryz.func3
  (ChangeSpec.witness6 (enc := enc) (C := Tryz.checked) false ⟨#[], #[(.agg #[(.int .i64 0), (.slice none 0 0)]), (.agg #[(.slice none 0 0), (.slice none 0 0), (.slice none 0 0)]), (.int .i64 0), (.int .i64 0), (.slice none 0 0)], []⟩ 12 (by kernel_rfl) (by kernel_rfl) (by kernel_rfl) (by kernel_rfl)) ?_
 intro W base args ds gs before hval0 hW hcnd _
 have hval : ∀ (j : Nat) t v, Tryz.f3.params[j]? = some t → args[j]? = some v → Value.okWide Tryz.prog W .any base t v := hval0
 have hW' : DataW.Whole enc Tryz.prog Tryz.f3.params.toList Rows.fundExactSpec.vars false W args.toList ds gs before := hW
 obtain ⟨p, q, hA0, hV, hpq, hfz, hnd⟩ := hW
 have hA : DataW.TrodAll enc Tryz.prog W 0 (fun _ => true) true Tryz.f3.params.toList args.toList ds p := hA0
 rw [Tryz.params3] at hA
 obtain ⟨v0, v1, v2, v3, v4, d0, d1, d2, d3, d4, p0, p1, p2, p3, p4, rfl, rfl, rfl, h0, h1, h2, h3, h4⟩ := trodAll_five hA
 obtain ⟨rfl, rfl⟩ := trodVars_none hV
 obtain ⟨ds0, hR0, hS0⟩ := rd_struct (k := 4) Tryz.underlying24 (by kernel_rfl) (hval 0 24 v0 rfl rfl) h0
 obtain ⟨l, rfl⟩ := inv_led (j := 0) (by unfold TC; rw [Tryz.underlying24]; exact hS0)
 obtain ⟨ds1, hR1, hS1⟩ := rd_struct (k := 4) Tryz.underlying29 (by kernel_rfl) (hval 1 29 v1 rfl rfl) h1
 obtain ⟨r, rfl⟩ := inv_roll (j := 0) (by unfold TC; rw [Tryz.underlying29]; exact hS1)
 obtain ⟨c, hR2, hw2⟩ := rd_int Tryz.underlying3 (hval 2 3 v2 rfl rfl) h2
 obtain ⟨amt, hR3, hw3⟩ := rd_int Tryz.underlying3 (hval 3 3 v3 rfl rfl) h3
 obtain ⟨els4, hR4, hlen4, hT4⟩ := rd_slice (k := 1) Tryz.underlying30 (by kernel_rfl) (hval 4 30 v4 rfl rfl) h4
 obtain ⟨ws, rfl⟩ := inv_list (fun el hel => inv_int (j := 0) (hT4 el hel))
 rw [cells_int] at hR4
 refine (fundExact_ l.last l.bal r c amt ws (fun b => b < W.heap.size) W [v0, v1, v2, v3, v4] (fun b h => h) ⟨v0, _, rfl, hR0, v1, _, rfl, hR1, v2, _, rfl, hR2, v3, _, rfl, hR3, v4, _, rfl, hR4, rfl⟩).mono fun e W' ⟨v, G, he, hb, _, _, _, _, hv⟩ => ⟨v, he, ?_⟩
 have hv : v = .bool true := by simpa only [R, RD] using hv
 subst hv
 exact law_post (tb := 4) laid_ (by kernel_rfl) rfl rfl Tryz.underlying4 ⟨rfl, rfl, rfl⟩ hW' hb
theorem fundExact_holds : Rows.FundExactSaid :=
 OpenClaim.holds_of_wide 3 Tryz.f3 rfl rfl rfl rfl rfl rfl rfl ⟨rfl, rfl, rfl, rfl, rfl⟩ rfl rfl rfl rfl rfl (by kernel_rfl) Tryz.func3 (by kernel_rfl)
  (of_decide_eq_true (by kernel_rfl)) (by unfold Func.isWrapper; first | (rw [if_pos (by decide +kernel)]; kernel_rfl) | (rw [if_neg (by decide +kernel)]; exact ⟨rfl, rfl⟩))
  (fun os started H enc _ => fundExact_lifted os started H enc)
#print axioms fundExact_holds
end Go.Proofs.YtjkfadaedgidpaaGreat
