/- Bundles of equations that always stand together, second part. No condition. -/
import Derived.Test.YtjkfadaedgidpaaGreatAbsS
namespace Go.Proofs.YtjkfadaedgidpaaGreat
open Go.RowKit
set_option linter.unusedVariables false
theorem yyE : type_of% (And.intro @eq_self.{1} @and_self) := And.intro @eq_self.{1} @and_self
theorem yyF : type_of% (And.intro @exists_eq'.{1} (And.intro @exists_eq.{1} (And.intro @forall_eq'.{1} @D.sl.injEq))) := And.intro @exists_eq'.{1} (And.intro @exists_eq.{1} (And.intro @forall_eq'.{1} @D.sl.injEq))
section
variable {P : Program} {c x y : Code} {Q : Exit → AS → Prop} {n : Nat} {l l' : List (Nat × AV)} {m : List (Nat × ARow)}
theorem kpA (ks : List Nat) (h : AWp P c Q (S n l' m)) (e : keepL l ks = l' := by simp only [zzJ, Nat.reduceBEq]; rfl) : AWp P c Q (S n l m) := by
 subst e; exact awp_keepL ks h
theorem cnA {t : Tmp} {b : Bool} (h1 : b = true → AWp P x Q (S n l m)) (h2 : b = false → AWp P y Q (S n l m)) (ht : t < n := by decide) (hl : look l t = bv b := by simp only [look_cons, Nat.reduceBEq, cond_true, cond_false]; rfl) : AWp P (.cond (.tmp t) x y) Q (S n l m) :=
 awp_condS b ht hl h1 h2
theorem dnA {rs : List ResultVar} {res : AV} {s : AS} (hr : resAll (rs.map (resA P s)) = res) (hc : resCs P s rs := by simp only [resCs, resC]; trivial) (hf : flatA res := by simp [flatA, flatAs, flatD]) (hi : res.ids = [] := by simp [AV.ids, AV.idsL]) : ResOk P rs [] res s :=
 done0 hc hr hf hi
theorem vA {f : Nat → Nat} {V : List Nat} {a b : AV} (h : VLe f V a b := by first | exact VLe.still rfl | exact VLe.nil_ (by decide) | exact VLe.nild_ | exact VLe.refl _ | exact VLe.ptrE (by simp) (by rfl) | exact VLe.refE (by simp) (by rfl) (by first | rfl | (simp; done) | (simp; omega)) | (refine VLe.dE (congrArg iv ?_); assumption) | exact VLe.dE (by first | rfl | simp)) : VLe f V a b := h
theorem rA {f : Nat → Nat} {V : List Nat} {m' : Nat → Option ARow} {r : Nat} {a b : ARow} (h : RowLe f V m' r a b := by first | exact RowLe.data_ (by first | rfl | simp) | exact RowLe.uq2 (by first | rfl | simp) (by simp) ids_data | exact RowLe.still (by simp [AV.idsL, AV.ids]) | exact RowLe.same (by simp) (by simp [AV.idsL, AV.ids])) : RowLe f V m' r a b := h
theorem leK {n : Nat} {l l' : List (Nat × AV)} {m m' : List (Nat × ARow)} (f : Nat → Nat) (V : List Nat) (hi : injK f V (m'.map (·.1)) = true := by rfl) (hl : leV f V l l' := by simp only [leV, look_cons, Nat.reduceBEq, cond_true, cond_false]; (repeat' first | apply And.intro | exact trivial | exact vA)) (hr : leR f V m m' m' := by repeat' first | apply And.intro | exact trivial | exact fun _ => ⟨_, rfl, rA⟩ | exact fun _ => rfl | (intro h; simp at h; done)) (hwl : wfV m' l' := by simp [wfV, AV.ids, AV.idsL, lookR, grow]) (hwr : wfR m' m' := by first | (simp [wfR]; done) | (repeat' first | apply And.intro | exact trivial | exact wf_data _ _ | (simp [AV.idsL, AV.ids, lookR]; done))) : Le (S n l m) (S n l' m') := le_SK f V hi hl hr hwl hwr
theorem evL0 {P : Program} {ops : Array Oper} {Q : AS → Prop} : ∀ (l : List Oper) (s : AS), (l.all fun o => o.guard.isNone) = true → evL P [] Q l s → aLex P ops Q l s
 | [], s, _, h => h
 | ⟨dst, op, ty, pos, aft, gd⟩ :: rest, s, hg, h => by
  rw [List.all_cons, Bool.and_eq_true] at hg
  unfold evL at h
  cases gd with
  | none =>
   rw [aLex_plain]
   exact st_mono (fun s h => evL0 rest s hg.2 h) (evS_st _ h)
  | some p => simp at hg
theorem awp_p0 {P : Program} {Q : Exit → AS → Prop} {s : AS} {id : Nat} {l : List Oper} (hm : P.follows .mixedOrders = true) (h : evL P [] (Q .normal) l s) (hg : (l.all fun o => o.guard.isNone) = true) : AWp P (.region id l.toArray false) Q s :=
 awp_region hm (fun h => absurd h (by decide)) (evL0 l s hg h)
theorem awp_q0 {P : Program} {Q : Exit → AS → Prop} {s : AS} {id : Nat} {l : List Oper} {y : Code} (hm : P.follows .mixedOrders = true) (h : ∀ K : AS → Prop, (∀ s, AWp P y Q s → K s) → evL P [] (aThen K Q .normal) l s) (hg : (l.all fun o => o.guard.isNone) = true) : AWp P (.seq (.region id l.toArray false) y) Q s :=
 awp_seq fun K hK => awp_p0 hm (h K hK) hg
theorem cgA {C : AS → Prop} {g : Option Prop} {ty : TypeId} {args : List Operand} {ts : List TypeId} {d : Tmp} {fid : FuncId} {ds : List D} {rows : List ORow} {res : AV} (hgo : goFn P fid) (hc : Gp g → ACalls P fid ds rows res)
  (h : asDs (S n l m) (atsL (S n l m) args) ds ∧ (Gp g → oksG (S n l m) args) ∧ freeN m (1000 * (d + 1)) rows.length ∧ nx P C (S n l m) (some d) g (res.ren (1000 * (d + 1) + ·)) (addRows (Gp g) (1000 * (d + 1)) 0 rows))
  (hids : ∀ r, r ∈ res.ids → r < rows.length := by simp [AV.ids, AV.idsL]) (hrl : d < 1000 ∧ rows.length ≤ 1000 := by simp) : stC P C (S n l m) (some d) g ty (.func fid) args ts := call_go hgo hc hids hrl h
theorem kK {K : AS → Prop} {y : Code} (hK : ∀ s, AWp P y Q s → K s) (ks : List Nat) (h : AWp P y Q (S n l' m)) (e : keepL l ks = l' := by simp only [zzJ, Nat.reduceBEq]; rfl) : K (S n l m) := hK _ (kpA ks h e)
end
end Go.Proofs.YtjkfadaedgidpaaGreat
