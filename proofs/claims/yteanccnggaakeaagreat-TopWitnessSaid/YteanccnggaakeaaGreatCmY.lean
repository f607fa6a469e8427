/- Closed facts of the row of TopWitness, one by one. No condition. -/
import Derived.Test.YteanccnggaakeaaGreatCmX
import Derived.Test.YteanccnggaakeaaGreatRows
import Derived.JoinedOf
import Derived.KernelRfl
namespace Go.Proofs.YteanccnggaakeaaGreat
open Go
set_option linter.unusedVariables false
set_option maxRecDepth 1000000
set_option maxHeartbeats 0
theorem wf11 : ((Rows.topWitnessRow.recurses == Tryz.prog.recurses 7)) = true := by kernel_rfl
theorem wf12 : ((Rows.topWitnessRow.named == Tryz.prog.varsNamed 7)) = true := by kernel_rfl
theorem wf13 : ((Rows.topWitnessRow.maps == (Tryz.f7.params.toList ++ Rows.topWitnessSpec.plain.varTypes Tryz.prog).any (Tryz.prog.mapsRec ·))) = true := by kernel_rfl
theorem wf14 : ((Rows.topWitnessRow.ifaces == (Tryz.f7.params.toList ++ Rows.topWitnessSpec.plain.varTypes Tryz.prog).any (Tryz.prog.ifacesRec ·))) = true := by kernel_rfl
theorem wf15 : ((Rows.topWitnessRow.mapsOut == Tryz.prog.mapsAmong Tryz.f7.resultTypes.toList)) = true := by kernel_rfl
theorem wf16 : ((Rows.topWitnessRow.loops == (Tryz.f7.params.toList ++ Rows.topWitnessSpec.plain.varTypes Tryz.prog).any (Tryz.prog.loopsFrom ·))) = true := by kernel_rfl
theorem wf17 : ((Rows.topWitnessRow.wideKeys == (Tryz.f7.params.toList ++ Rows.topWitnessSpec.plain.varTypes Tryz.prog ++ Tryz.f7.resultTypes.toList).any (Tryz.prog.wideKeysFrom ·))) = true := by kernel_rfl
theorem wf18 : (Rows.topWitnessSpec.vars.all (Tryz.prog.varReadable ·)) = true := by kernel_rfl
theorem wf19 : (Tryz.f7.resultTypes.all (fun t => Tryz.prog.readableRec t && decide (t < Tryz.prog.types.size))) = true := by kernel_rfl
theorem wf20 : ((Rows.topWitnessRow.ifacesOut == Tryz.f7.resultTypes.toList.any (Tryz.prog.ifacesRec ·))) = true := by kernel_rfl
theorem wf21 : ((Rows.topWitnessRow.loopsOut == Tryz.f7.resultTypes.toList.any (Tryz.prog.loopsFrom ·))) = true := by kernel_rfl
theorem wf22 : ((Rows.topWitnessRow.plainKeys == Tryz.prog.plainKeys)) = true := by kernel_rfl
theorem wf23 : (Rows.topWitnessRow.shortTexts.isNone) = true := by kernel_rfl
theorem wf24 : (Tryz.prog.stopsHeard) = true := by kernel_rfl
theorem wf25 : (Tryz.prog.mayEnter) = true := by kernel_rfl
theorem wf26 : ((Rows.topWitnessRow.lifted == Tryz.prog.liftsFinal)) = true := by kernel_rfl
theorem wf27 : ((Tryz.prog.make == some Rows.topWitnessRow.make)) = true := by kernel_rfl
theorem wf28 : ((Rows.topWitnessRow.kinds == (if Rows.topWitnessRow.domain.isEmpty then [] else Tryz.f7.params.toList.map fun t => match Tryz.prog.underlying t with | some (.int k) => some k | _ => none))) = true := by kernel_rfl
theorem wf29 : ((Rows.topWitnessRow.pinned == Rows.topWitnessRow.pinnedBy)) = true := by kernel_rfl
theorem wf30 : ((Rows.topWitnessRow.veiled == (Tryz.f7.params.toList ++ Rows.topWitnessSpec.plain.varTypes Tryz.prog ++ Tryz.f7.resultTypes.toList).any (Tryz.prog.veiledRec ·))) = true := by kernel_rfl
theorem wf31 : (Rows.topWitnessRow.veiledFits Tryz.prog Tryz.f7.params.toList (Tryz.f7.params.toList ++ Rows.topWitnessSpec.plain.varTypes Tryz.prog ++ Tryz.f7.resultTypes.toList)) = true := by kernel_rfl
theorem closed_ : joinedFacts Tryz.prog 7 Tryz.f7 Rows.topWitnessSpec Rows.topWitnessRow = true := by
  unfold joinedFacts
  simp only [Bool.and_eq_true]
  exact ⟨⟨⟨⟨⟨⟨⟨⟨⟨⟨⟨⟨⟨⟨⟨⟨⟨⟨⟨⟨⟨⟨⟨⟨⟨⟨⟨⟨⟨⟨⟨wf0, wf1⟩, wf2⟩, wf3⟩, wf4⟩, wf5⟩, wf6⟩, wf7⟩, wf8⟩, wf9⟩, wf10⟩, wf11⟩, wf12⟩, wf13⟩, wf14⟩, wf15⟩, wf16⟩, wf17⟩, wf18⟩, wf19⟩, wf20⟩, wf21⟩, wf22⟩, wf23⟩, wf24⟩, wf25⟩, wf26⟩, wf27⟩, wf28⟩, wf29⟩, wf30⟩, wf31⟩
end Go.Proofs.YteanccnggaakeaaGreat
