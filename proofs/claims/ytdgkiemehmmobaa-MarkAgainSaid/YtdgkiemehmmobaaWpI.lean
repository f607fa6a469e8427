import Derived.Test.YtdgkiemehmmobaaSpecP
import Derived.Test.YtdgkiemehmmobaaWpH
namespace Go.Proofs.Ytdgkiemehmmobaa
open Go.RowKit
set_option linter.unusedVariables false
set_option linter.unusedSimpArgs false

theorem runF (r : RollV) (b : BookV) (hr : r.Small) (hb : b.Small) : ACalls Try.prog 18 [.agg (rollC r), .agg (bookC b)] [] (.tp [.d (.agg [iv (runN r b), .sl 7 ((runT r b).map tradeC), .sl 4 ((runP r b).map posC)]), .d (.sl 3 ((runD r b).map dueC)), .d (iv (runE r b))]) :=
  (run_ r b.next b.trades b.poss hr hb.trades hb.poss).freezeT (by simp [frzOk, frzOkL])
end Go.Proofs.Ytdgkiemehmmobaa
