/- The law TradeSums of chapter 12 returns true for every input, and what came in reads as it did. No condition. -/
import Derived.Test.YtbagefpamkhndaaAbsV
import Derived.Test.YtbagefpamkhndaaWkA
namespace Go.Proofs.Ytbagefpamkhndaa
open Go.ChangeShapes Go.WideShapes Go.ChangeAt Go.RowKit
set_option linter.unusedVariables false
set_option linter.unusedSimpArgs false

theorem own_ : ownKnob Try.prog.godebug = none := by kernel_rfl
theorem laid_ : laidOutB Try.prog = true := by kernel_rfl
theorem inv_list {α : Type} {f : α → List D} : ∀ {els : List (List D)}, (∀ el ∈ els, ∃ p, el = f p) → ∃ l : List α, els = l.map f
  | [], _ => ⟨[], rfl⟩
  | e :: els, h => by
    obtain ⟨p, rfl⟩ := h e (by simp)
    obtain ⟨l, rfl⟩ := inv_list (els := els) fun el hel => h el (List.mem_cons_of_mem _ hel)
    exact ⟨p :: l, rfl⟩
theorem inv_pos {cs : List D} (h : TC Try.prog 3 35 cs) : ∃ p : PosV, cs = posC p := by
  simp only [TC, Try.underlying35, Try.underlying33, Try.underlying3, Segs, List.map_cons, List.map_nil] at h
  obtain ⟨_, _, rfl, ⟨_, _, rfl, ⟨n1, rfl, _⟩, _, _, rfl, ⟨n2, rfl, _⟩, rfl⟩, _, _, rfl, ⟨n3, rfl, _⟩, _, _, rfl, ⟨n4, rfl, _⟩, rfl⟩ := h
  exact ⟨⟨n1, n2, n3, n4⟩, rfl⟩
theorem cells35 : Try.prog.cellsOf 35 = 4 := by kernel_rfl

set_option maxRecDepth 100000 in
theorem tradeSums_lifted (os : Os) (started : os.Started) (H : Type) (enc : TypeId × Value → H) :
    ReturnsInHanded {} Try.checked os 3 .any (Rows.tradeSumsSpec.pre6 enc Try.prog Try.f3 Rows.tradeSumsRow.domain false) (Rows.tradeSumsSpec.post enc Try.prog Try.f3 false true false false) := by
  refine returnsInHanded_of_change (C := Try.checked) own_ started (by kernel_rfl) Try.func3
    (ChangeSpec.witness6 (enc := enc) (C := Try.checked) false ⟨#[], #[.slice none 0 0], []⟩ 8 (by kernel_rfl) (by kernel_rfl) (by kernel_rfl) (by kernel_rfl)) ?_
  intro W base args ds gs before hval0 hW hcnd _
  have hval : ∀ (j : Nat) t v, Try.f3.params[j]? = some t → args[j]? = some v → Value.okWide Try.prog W .any base t v := hval0
  have hW' : DataW.Whole enc Try.prog Try.f3.params.toList Rows.tradeSumsSpec.vars false W args.toList ds gs before := hW
  obtain ⟨p, q, hA0, hV, hpq, hfz, hnd⟩ := hW
  have hA : DataW.TrodAll enc Try.prog W 0 (fun _ => true) true Try.f3.params.toList args.toList ds p := hA0
  rw [Try.params3] at hA
  obtain ⟨v0, d0, rfl, rfl, h0⟩ := trodAll_one hA
  obtain ⟨rfl, rfl⟩ := trodVars_none hV
  obtain ⟨els, hR, hlen, hT⟩ := rd_slice (k := 3) Try.underlying22 (by kernel_rfl) (hval 0 22 v0 rfl rfl) h0
  obtain ⟨l, rfl⟩ := inv_list (fun el hel => inv_pos (hT el hel))
  rw [cells35] at hR
  refine (tradeSums_ l (fun b => b < W.heap.size) W [v0] (fun b h => h) ⟨v0, [], rfl, hR, rfl⟩).mono fun e W' ⟨v, G, he, hb, _, _, _, _, hv⟩ => ⟨v, he, ?_⟩
  have hv : v = .bool true := by simpa only [R, RD] using hv
  subst hv
  exact law_post (tb := 4) laid_ (by kernel_rfl) rfl rfl Try.underlying4 ⟨rfl, rfl, rfl⟩ hW' hb

theorem tradeSums_holds : Rows.TradeSumsSaid :=
  OpenClaim.holds_of_wide 3 Try.f3 rfl rfl rfl rfl rfl rfl rfl ⟨rfl, rfl, rfl, rfl, rfl⟩ rfl rfl rfl rfl rfl (by kernel_rfl) Try.func3 (by kernel_rfl)
    (of_decide_eq_true (by kernel_rfl)) (by unfold Func.isWrapper; first | (rw [if_pos (by decide +kernel)]; kernel_rfl) | (rw [if_neg (by decide +kernel)]; exact ⟨rfl, rfl⟩))
    (fun os started H enc _ => tradeSums_lifted os started H enc)
#print axioms tradeSums_holds
end Go.Proofs.Ytbagefpamkhndaa
