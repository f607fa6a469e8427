/- AuctionMore: for every input the law returns true, and what came in reads as it did. No condition. -/
import Derived.Test.YtopifbpibkpmmaaOpen
import Derived.Test.YtopifbpibkpmmaaWpU
namespace Go.Proofs.Ytopifbpibkpmmaa
open Go.ChangeShapes Go.WideShapes Go.ChangeAt Go.RowKit
set_option linter.unusedVariables false
set_option linter.unusedSimpArgs false
set_option linter.constructorNameAsVariable false

set_option maxRecDepth 100000 in
theorem auctionMore_lifted (os : Os) (started : os.Started) (H : Type) (enc : TypeId × Value → H) :
    ReturnsInHanded {} Try.checked os 5 .any (Rows.auctionMoreSpec.pre6 enc Try.prog Try.f5 Rows.auctionMoreRow.domain false) (Rows.auctionMoreSpec.post enc Try.prog Try.f5 false true false false) := by
  refine returnsInHanded_of_change (C := Try.checked) own_ started (by kernel_rfl) Try.func5
    (ChangeSpec.witness6 (enc := enc) (C := Try.checked) false ⟨#[], #[(.int .i64 0), (.slice none 0 0), (.agg #[(.int .i64 0), (.int .i64 0), (.int .i64 0), (.int .i64 0), (.int .i64 0)])], []⟩ 12 (by kernel_rfl) (by kernel_rfl) (by kernel_rfl) (by kernel_rfl)) ?_
  intro W base args ds gs before hval0 hW hcnd _
  have hval : ∀ (j : Nat) t v, Try.f5.params[j]? = some t → args[j]? = some v → Value.okWide Try.prog W .any base t v := hval0
  have hW' : DataW.Whole enc Try.prog Try.f5.params.toList Rows.auctionMoreSpec.vars false W args.toList ds gs before := hW
  obtain ⟨p, q, hA0, hV, hpq, hfz, hnd⟩ := hW
  have hA : DataW.TrodAll enc Try.prog W 0 (fun _ => true) true Try.f5.params.toList args.toList ds p := hA0
  rw [Try.params5] at hA
  obtain ⟨v0, v1, v2, d0, d1, d2, p0, p1, p2, rfl, rfl, rfl, h0, h1, h2⟩ := trodAll_three hA
  obtain ⟨rfl, rfl⟩ := trodVars_none hV
  obtain ⟨q, hR0, hw0⟩ := rd_int Try.underlying3 (hval 0 3 v0 rfl rfl) h0
  obtain ⟨els1, hR1, hlen1, hT1⟩ := rd_slice (k := 3) Try.underlying22 (by kernel_rfl) (hval 1 22 v1 rfl rfl) h1
  obtain ⟨l, rfl⟩ := inv_list (fun el hel => inv_bid (j := 0) (hT1 el hel))
  rw [cells_bid] at hR1
  obtain ⟨ds2, hR2, hS2⟩ := rd_struct (k := 2) Try.underlying31 (by kernel_rfl) (hval 2 31 v2 rfl rfl) h2
  obtain ⟨b, rfl⟩ := inv_bid (j := 0) (by unfold TC; rw [Try.underlying31]; exact hS2)
  refine (auctionMore_ q l b (fun b => b < W.heap.size) W [v0, v1, v2] (fun b h => h) ⟨v0, _, rfl, hR0, v1, _, rfl, hR1, v2, _, rfl, hR2, rfl⟩).mono fun e W' ⟨v, G, he, hb, _, _, _, _, hv⟩ => ⟨v, he, ?_⟩
  have hv : v = .bool true := by simpa only [R, RD] using hv
  subst hv
  exact law_post (tb := 4) laid_ (by kernel_rfl) rfl rfl Try.underlying4 ⟨rfl, rfl, rfl⟩ hW' hb

theorem auctionMore_holds : Rows.AuctionMoreSaid :=
  OpenClaim.holds_of_wide 5 Try.f5 rfl rfl rfl rfl rfl rfl rfl ⟨rfl, rfl, rfl, rfl, rfl⟩ rfl rfl rfl rfl rfl (by kernel_rfl) Try.func5 (by kernel_rfl)
    (of_decide_eq_true (by kernel_rfl)) (by unfold Func.isWrapper; first | (rw [if_pos (by decide +kernel)]; kernel_rfl) | (rw [if_neg (by decide +kernel)]; exact ⟨rfl, rfl⟩))
    (fun os started H enc _ => auctionMore_lifted os started H enc)
#print axioms auctionMore_holds
end Go.Proofs.Ytopifbpibkpmmaa
