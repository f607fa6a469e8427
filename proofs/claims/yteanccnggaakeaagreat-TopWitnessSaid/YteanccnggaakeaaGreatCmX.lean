/- Closed facts of the row of TopWitness, one by one. No condition. -/
import Derived.Test.YteanccnggaakeaaGreatChecked
import Derived.Test.YteanccnggaakeaaGreatRows
import Derived.JoinedOf
import Derived.KernelRfl
namespace Go.Proofs.YteanccnggaakeaaGreat
open Go
set_option linter.unusedVariables false
set_option maxRecDepth 1000000
set_option maxHeartbeats 0
theorem wf0 : (Rows.topWitnessRow.wf (OpenSpec.ofChange Rows.topWitnessSpec)) = true := by kernel_rfl
theorem wf1 : (laidOutB Tryz.prog) = true := by kernel_rfl
theorem wf2 : (mapsRowed Tryz.prog) = true := by kernel_rfl
theorem wf3 : (Tryz.f7.params.all (Tryz.prog.readableRec ·)) = true := by kernel_rfl
theorem wf4 : (namedTie Tryz.prog Rows.topWitnessRow.named Rows.topWitnessSpec.vars) = true := by kernel_rfl
theorem wf5 : ((Rows.topWitnessRow.stops == [])) = true := by kernel_rfl
theorem wf6 : ((Tryz.prog.stops == [])) = true := by kernel_rfl
theorem wf7 : ((Rows.topWitnessRow.knobs == [])) = true := by kernel_rfl
theorem wf8 : ((Tryz.prog.stopKnobs == [])) = true := by kernel_rfl
theorem wf9 : ((Rows.topWitnessRow.inPlace == Tryz.prog.inPlace 7)) = true := by kernel_rfl
theorem wf10 : ((Rows.topWitnessRow.unfollowed == Tryz.prog.unfollowed 7)) = true := by kernel_rfl
end Go.Proofs.YteanccnggaakeaaGreat
