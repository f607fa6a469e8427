/- Calls of the closed run. No condition. -/
import Derived.Test.YteanccnggaakeaaGreatCy8
namespace Go.Proofs.YteanccnggaakeaaGreat
set_option linter.unusedVariables false
set_option maxRecDepth 1000000
noncomputable def e25 : Ent := ⟨7, [], [], 0, .bo true, [], 22121⟩
set_option maxHeartbeats 0 in
theorem e25_ok : Good e25 := good_of (good_cons e0_ok (good_cons e1_ok (good_cons e2_ok (good_cons e3_ok (good_cons e4_ok (good_cons e5_ok (good_cons e10_ok (good_cons e11_ok (good_cons e22_ok (good_cons e24_ok good_nil)))))))))) tab_ok (fuel := 100000) (es := [e0, e1, e2, e3, e4, e5, e10, e11, e22, e24]) (fs := [(432, tabV)]) (by kernel_rfl)
end Go.Proofs.YteanccnggaakeaaGreat
