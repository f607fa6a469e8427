/- TopWitness: it returns true, and what came in reads as it did. No condition. -/
import Derived.Test.YteanccnggaakeaaGreatCy9
import Derived.Test.YteanccnggaakeaaGreatCmY
import Derived.Test.YteanccnggaakeaaGreatRows
import Derived.ProofKit
import Derived.Below
import Derived.ChangeSame
import Derived.OpenShut
import Derived.Carry
namespace Go.Proofs.YteanccnggaakeaaGreat
open Go.ChangeShapes Go.WideShapes Go.ChangeAt Go.RowKit
set_option linter.unusedVariables false
set_option linter.unusedSimpArgs false
set_option linter.constructorNameAsVariable false

theorem Fit.below {w0 w : World} {G : Gh} {M : Nat → CR} (h : Fit (fun b => b < w0.heap.size) w0 G M w) : Below w0.heap.size w0 w := ⟨h.os, h.tape, h.output, h.size, fun k hk => h.keep k hk⟩
theorem run_true (W : World) : Calls Tryz.prog 7 #[] W fun e W' => e = .returned (.bool true) ∧ Below W.heap.size W W' := by
  have hF : Fit (fun b => b < W.heap.size) W ⟨fun _ => False, fun _ => 0, fun _ => 0, fun _ => 0⟩ noRows W := ⟨rfl, rfl, rfl, Nat.le_refl _, fun b hb => hb, fun _ _ => rfl, fun r hr => hr.elim, fun r _ _ _ hr => hr.elim, fun r _ hr => hr.elim, fun r hr => hr.elim⟩
  refine (e25_ok.calls.2 _ W _ W [] hF (fun r _ _ hd => hd) (by show Rt _ [] []; simp only [Rt])).mono fun e w' ⟨y, G', k1, _, k3, k4⟩ => ⟨?_, k4.below⟩
  have k3 : R G' (.bo true) y := k3
  simp only [R] at k3
  rw [k1, k3]
theorem own_ : ownKnob Tryz.prog.godebug = none := by kernel_rfl
set_option maxRecDepth 100000 in
theorem topWitness_lifted (os : Os) (started : os.Started) (H : Type) (enc : TypeId × Value → H) :
    ReturnsInHanded {} Tryz.checked os 7 .any (Rows.topWitnessSpec.pre6 enc Tryz.prog Tryz.f7 Rows.topWitnessRow.domain false) (Rows.topWitnessSpec.post enc Tryz.prog Tryz.f7 false true false false) := by
  refine returnsInHanded_of_change (C := Tryz.checked) own_ started (by kernel_rfl) Tryz.func7
    (ChangeSpec.witness6 (enc := enc) (C := Tryz.checked) false ⟨#[], #[], []⟩ 12 (by kernel_rfl) (by kernel_rfl) (by kernel_rfl) (by kernel_rfl)) ?_
  intro W base args ds gs before hval0 hW hcnd _
  have hW' : DataW.Whole enc Tryz.prog Tryz.f7.params.toList Rows.topWitnessSpec.vars false W args.toList ds gs before := hW
  obtain ⟨p, q, hA0, hV, hpq, hfz, hnd⟩ := hW
  have hA : DataW.TrodAll enc Tryz.prog W 0 (fun _ => true) true [] args.toList ds p := hA0
  obtain ⟨ha, rfl, rfl⟩ := trodAll_nil hA
  obtain ⟨rfl, rfl⟩ := trodVars_none hV
  have ha : args = #[] := by simpa using ha
  subst ha
  have hq : before = [] := hpq
  subst hq
  refine (run_true W).mono fun e W' ⟨he, hb⟩ => ⟨_, he, ?_⟩
  have hR : ∀ (b : Nat) (sp : Nat → Bool) (hd : Bool), DataW.TrodAll enc Tryz.prog W' b sp hd Tryz.f7.resultTypes.toList ((Value.bool true).resultList Tryz.f7.resultTypes.size) [.lit (.bool true)] [] := fun b sp hd =>
    trodAll_mk1 (t := 4) (shut_bool Tryz.underlying4 true)
  refine ⟨[], [], [], [], [], [], hW', hR _ _ _, rfl, rfl, World.keptBut_mono (fun x hx => ⟨hx, Or.inr (Or.inl hx)⟩) (hb.frame (· ∈ [])), fun _ => ?_⟩
  refine ⟨ok_one (t := 4) rfl rfl (okWide_bool_mk Tryz.underlying4 true), _, [], [], ⟨[], [], hR _ _ _, rfl, rfl, ?_, ?_⟩, ?_⟩
  · intro b off hp
    simp at hp
  · intro ha
    simp
  · intro x hx _
    simp at hx
theorem topWitness_holds : Rows.TopWitnessSaid :=
  OpenClaim.holds_of_wide 7 Tryz.f7 rfl rfl rfl rfl rfl rfl rfl ⟨rfl, rfl, rfl, rfl, rfl⟩ rfl rfl rfl rfl rfl (by kernel_rfl) Tryz.func7 closed_
    (of_decide_eq_true (by kernel_rfl)) (by unfold Func.isWrapper; first | (rw [if_pos (by decide +kernel)]; kernel_rfl) | (rw [if_neg (by decide +kernel)]; exact ⟨rfl, rfl⟩))
    (fun os started H enc _ => topWitness_lifted os started H enc)
#print axioms topWitness_holds
end Go.Proofs.YteanccnggaakeaaGreat
