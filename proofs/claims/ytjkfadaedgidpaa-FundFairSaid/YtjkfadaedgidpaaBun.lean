/- Bundles of equations that always stand together, second part. No condition. -/
import Derived.Test.YtjkfadaedgidpaaAbsS
namespace Go.Proofs.Ytjkfadaedgidpaa
open Go.RowKit
set_option linter.unusedVariables false
theorem yyA : type_of% (And.intro @zzI @look_nil) := And.intro @zzI @look_nil
theorem yyB : type_of% (And.intro @List.cons_append.{0} (And.intro @List.nil_append.{0} (And.intro @true_implies (And.intro @implies_true.{0} (And.intro @implies_true.{1} (And.intro @and_true (And.intro @true_and (And.intro @zz0 @yyA)))))))) := And.intro @List.cons_append.{0} (And.intro @List.nil_append.{0} (And.intro @true_implies (And.intro @implies_true.{0} (And.intro @implies_true.{1} (And.intro @and_true (And.intro @true_and (And.intro @zz0 @yyA)))))))
theorem yyC : type_of% (And.intro @Option.some.injEq.{0} (And.intro @Option.map_some.{0, 0} (And.intro @exists_eq_left'.{1} @exists_eq_left.{1}))) := And.intro @Option.some.injEq.{0} (And.intro @Option.map_some.{0, 0} (And.intro @exists_eq_left'.{1} @exists_eq_left.{1}))
theorem yyE : type_of% (And.intro @eq_self.{1} @and_self) := And.intro @eq_self.{1} @and_self
theorem yyF : type_of% (And.intro @exists_eq'.{1} (And.intro @exists_eq.{1} (And.intro @forall_eq'.{1} @D.sl.injEq))) := And.intro @exists_eq'.{1} (And.intro @exists_eq.{1} (And.intro @forall_eq'.{1} @D.sl.injEq))
end Go.Proofs.Ytjkfadaedgidpaa
