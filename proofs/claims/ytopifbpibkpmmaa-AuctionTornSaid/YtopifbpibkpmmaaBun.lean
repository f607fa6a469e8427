/- Bundles of equations that always stand together, second part. No condition. -/
import Derived.Test.YtopifbpibkpmmaaAbsS
namespace Go.Proofs.Ytopifbpibkpmmaa
open Go.RowKit
set_option linter.unusedVariables false
theorem yyE : type_of% (And.intro @eq_self.{1} @and_self) := And.intro @eq_self.{1} @and_self
theorem yyF : type_of% (And.intro @exists_eq'.{1} (And.intro @exists_eq.{1} (And.intro @forall_eq'.{1} @D.sl.injEq))) := And.intro @exists_eq'.{1} (And.intro @exists_eq.{1} (And.intro @forall_eq'.{1} @D.sl.injEq))
section
variable {P : Program} {c x y : Code} {Q : Exit → AS → Prop} {n : Nat} {l l' : List (Nat × AV)} {m : List (Nat × ARow)}
theorem kpA (ks : List Nat) (h : AWp P c Q (S n l' m)) (e : keepL l ks = l' := by simp only [zzJ, Nat.reduceBEq]; rfl) : AWp P c Q (S n l m) := by
 subst e; exact awp_keepL ks h
theorem cnA {t : Tmp} {b : Bool} (h1 : b = true → AWp P x Q (S n l m)) (h2 : b = false → AWp P y Q (S n l m)) (ht : t < n := by decide) (hl : look l t = bv b := by simp only [look_cons, Nat.reduceBEq, cond_true, cond_false]; rfl) : AWp P (.cond (.tmp t) x y) Q (S n l m) :=
 awp_condS b ht hl h1 h2
theorem dnA {rs : List ResultVar} {res : AV} {s : AS} (hr : resAll (rs.map (resA P s)) = res) (hc : resCs P s rs := by simp only [resCs, resC]; trivial) (hf : flatA res := by simp [flatA, flatAs, flatD]) (hi : res.ids = [] := by simp [AV.ids, AV.idsL]) : ResOk P rs [] res s :=
 done0 hc hr hf hi
end
end Go.Proofs.Ytopifbpibkpmmaa
