/- FundBears: for every input the law returns true, and what came in reads as it did. No condition. -/
import Derived.Test.YtjkfadaedgidpaaOpen
import Derived.Test.YtjkfadaedgidpaaWpL
namespace Go.Proofs.Ytjkfadaedgidpaa
open Go.ChangeShapes Go.WideShapes Go.ChangeAt Go.RowKit
set_option linter.unusedVariables false
set_option linter.unusedSimpArgs false
set_option linter.constructorNameAsVariable false

set_option maxRecDepth 100000 in
theorem inv_led2 {j : Nat} {cs : List D} (h : TC Try.prog (j + 5) 24 cs) : ∃ p, cs = ledC p ∧ p.last < 9223372036854775808 := by
  have g1 := tc_struct (k := j + 4) Try.underlying24 h
  simp only [Segs, List.map_cons, List.map_nil, List.replicate] at g1
  obtain ⟨_, _, rfl, h2, _, _, rfl, h3, rfl⟩ := g1
  obtain ⟨n4, rfl, wn4⟩ := tc_int (k := j + 3) Try.underlying3 h2
  obtain ⟨el5, rfl, hll5, tl5⟩ := tc_slice (k := j + 3) Try.underlying22 h3
  obtain ⟨l5, rfl⟩ := inv_list (fun el hel => inv_bal (j := j + 0) (tl5 el hel))
  exact ⟨⟨n4, l5⟩, by simp only [cells_bal]; rfl, by have h9 := wn4; simp only [Lit.wf, Bool.and_eq_true, decide_eq_true_eq] at h9; have h8 : n4 ≤ 9223372036854775807 := h9.2; show n4 < _; omega⟩
set_option maxRecDepth 100000 in
theorem fundBears_lifted (os : Os) (started : os.Started) (H : Type) (enc : TypeId × Value → H) :
    ReturnsInHanded {} Try.checked os 3 .any (Rows.fundBearsSpec.pre6 enc Try.prog Try.f3 Rows.fundBearsRow.domain false) (Rows.fundBearsSpec.post enc Try.prog Try.f3 false true false false) := by
  refine returnsInHanded_of_change (C := Try.checked) own_ started (by kernel_rfl) Try.func3
    (ChangeSpec.witness6 (enc := enc) (C := Try.checked) false ⟨#[], #[(.agg #[(.int .i64 0), (.slice none 0 0)]), (.int .i64 0), (.int .i64 0), (.slice none 0 0)], []⟩ 12 (by kernel_rfl) (by kernel_rfl) (by kernel_rfl) (by kernel_rfl)) ?_
  intro W base args ds gs before hval0 hW hcnd _
  have hval : ∀ (j : Nat) t v, Try.f3.params[j]? = some t → args[j]? = some v → Value.okWide Try.prog W .any base t v := hval0
  have hW' : DataW.Whole enc Try.prog Try.f3.params.toList Rows.fundBearsSpec.vars false W args.toList ds gs before := hW
  obtain ⟨p, q, hA0, hV, hpq, hfz, hnd⟩ := hW
  have hA : DataW.TrodAll enc Try.prog W 0 (fun _ => true) true Try.f3.params.toList args.toList ds p := hA0
  rw [Try.params3] at hA
  obtain ⟨v0, v1, v2, v3, d0, d1, d2, d3, p0, p1, p2, p3, rfl, rfl, rfl, h0, h1, h2, h3⟩ := trodAll_four hA
  obtain ⟨rfl, rfl⟩ := trodVars_none hV
  obtain ⟨ds0, hR0, hS0⟩ := rd_struct (k := 4) Try.underlying24 (by kernel_rfl) (hval 0 24 v0 rfl rfl) h0
  obtain ⟨l, rfl, hwl⟩ := inv_led2 (j := 0) (by unfold TC; rw [Try.underlying24]; exact hS0)
  obtain ⟨c, hR1, hw1⟩ := rd_int Try.underlying3 (hval 1 3 v1 rfl rfl) h1
  obtain ⟨amt, hR2, hw2⟩ := rd_int Try.underlying3 (hval 2 3 v2 rfl rfl) h2
  obtain ⟨els3, hR3, hlen3, hT3⟩ := rd_slice (k := 1) Try.underlying25 (by kernel_rfl) (hval 3 25 v3 rfl rfl) h3
  obtain ⟨ws, rfl⟩ := inv_list (fun el hel => inv_int (j := 0) (hT3 el hel))
  rw [cells_int] at hR3
  refine (fundBears_ l.last l.bal c amt ws hwl (fun b => b < W.heap.size) W [v0, v1, v2, v3] (fun b h => h) ⟨v0, _, rfl, hR0, v1, _, rfl, hR1, v2, _, rfl, hR2, v3, _, rfl, hR3, rfl⟩).mono fun e W' ⟨v, G, he, hb, _, _, _, _, hv⟩ => ⟨v, he, ?_⟩
  have hv : v = .bool true := by simpa only [R, RD] using hv
  subst hv
  exact law_post (tb := 4) laid_ (by kernel_rfl) rfl rfl Try.underlying4 ⟨rfl, rfl, rfl⟩ hW' hb

theorem fundBears_holds : Rows.FundBearsSaid :=
  OpenClaim.holds_of_wide 3 Try.f3 rfl rfl rfl rfl rfl rfl rfl ⟨rfl, rfl, rfl, rfl, rfl⟩ rfl rfl rfl rfl rfl (by kernel_rfl) Try.func3 (by kernel_rfl)
    (of_decide_eq_true (by kernel_rfl)) (by unfold Func.isWrapper; first | (rw [if_pos (by decide +kernel)]; kernel_rfl) | (rw [if_neg (by decide +kernel)]; exact ⟨rfl, rfl⟩))
    (fun os started H enc _ => fundBears_lifted os started H enc)
#print axioms fundBears_holds
end Go.Proofs.Ytjkfadaedgidpaa
