/- AuctionTorn: for every input the law returns true, and what came in reads as it did. No condition. -/
import Derived.Test.YtopifbpibkpmmaaOpen
import Derived.Test.YtopifbpibkpmmaaWpL
namespace Go.Proofs.Ytopifbpibkpmmaa
open Go.ChangeShapes Go.WideShapes Go.ChangeAt Go.RowKit
set_option linter.unusedVariables false
set_option linter.unusedSimpArgs false
set_option linter.constructorNameAsVariable false
set_option maxRecDepth 100000 in
theorem auctionTorn_lifted (os : Os) (started : os.Started) (H : Type) (enc : TypeId × Value → H) :
  ReturnsInHanded {} Try.checked os 8 .any (Rows.auctionTornSpec.pre6 enc Try.prog Try.f8 Rows.auctionTornRow.domain false) (Rows.auctionTornSpec.post enc Try.prog Try.f8 false true false false) := by
 refine returnsInHanded_of_change (C := Try.checked) own_ started (by kernel_rfl) Try.func8
  (ChangeSpec.witness6 (enc := enc) (C := Try.checked) false ⟨#[], #[(.slice none 0 0), (.agg #[(.int .i64 0), (.int .i64 0)]), (.int .i64 0), (.int .i64 0)], []⟩ 12 (by kernel_rfl) (by kernel_rfl) (by kernel_rfl) (by kernel_rfl)) ?_
 intro W base args ds gs before hval0 hW hcnd _
 have hval : ∀ (j : Nat) t v, Try.f8.params[j]? = some t → args[j]? = some v → Value.okWide Try.prog W .any base t v := hval0
 have hW' : DataW.Whole enc Try.prog Try.f8.params.toList Rows.auctionTornSpec.vars false W args.toList ds gs before := hW
 obtain ⟨p, q, hA0, hV, hpq, hfz, hnd⟩ := hW
 have hA : DataW.TrodAll enc Try.prog W 0 (fun _ => true) true Try.f8.params.toList args.toList ds p := hA0
 rw [Try.params8] at hA
 obtain ⟨v0, v1, v2, v3, d0, d1, d2, d3, p0, p1, p2, p3, rfl, rfl, rfl, h0, h1, h2, h3⟩ := trodAll_four hA
 obtain ⟨rfl, rfl⟩ := trodVars_none hV
 obtain ⟨els0, hR0, hlen0, hT0⟩ := rd_slice (k := 3) Try.underlying55 (by kernel_rfl) (hval 0 55 v0 rfl rfl) h0
 obtain ⟨l, rfl⟩ := inv_list (fun el hel => inv_act (j := 0) (hT0 el hel))
 rw [cells_act] at hR0
 obtain ⟨ds1, hR1, hS1⟩ := rd_struct (k := 1) Try.underlying29 (by kernel_rfl) (hval 1 29 v1 rfl rfl) h1
 obtain ⟨k, rfl⟩ := inv_key (j := 0) (by unfold TC; rw [Try.underlying29]; exact hS1)
 obtain ⟨n, hR2, hw2⟩ := rd_int Try.underlying3 (hval 2 3 v2 rfl rfl) h2
 obtain ⟨price, hR3, hw3⟩ := rd_int Try.underlying3 (hval 3 3 v3 rfl rfl) h3
 refine (torn_ l k.who k.inst n price (fun b => b < W.heap.size) W [v0, v1, v2, v3] (fun b h => h) ⟨v0, _, rfl, hR0, v1, _, rfl, hR1, v2, _, rfl, hR2, v3, _, rfl, hR3, rfl⟩).mono fun e W' ⟨v, G, he, hb, _, _, _, _, hv⟩ => ⟨v, he, ?_⟩
 have hv : v = .bool true := by simpa only [R, RD] using hv
 subst hv
 exact law_post (tb := 4) laid_ (by kernel_rfl) rfl rfl Try.underlying4 ⟨rfl, rfl, rfl⟩ hW' hb
theorem auctionTorn_holds : Rows.AuctionTornSaid :=
 OpenClaim.holds_of_wide 8 Try.f8 rfl rfl rfl rfl rfl rfl rfl ⟨rfl, rfl, rfl, rfl, rfl⟩ rfl rfl rfl rfl rfl (by kernel_rfl) Try.func8 (by kernel_rfl)
  (of_decide_eq_true (by kernel_rfl)) (by unfold Func.isWrapper; first | (rw [if_pos (by decide +kernel)]; kernel_rfl) | (rw [if_neg (by decide +kernel)]; exact ⟨rfl, rfl⟩))
  (fun os started H enc _ => auctionTorn_lifted os started H enc)
#print axioms auctionTorn_holds
end Go.Proofs.Ytopifbpibkpmmaa
