/- The machine of this program. No condition. -/
import Derived.Test.YteanccnggaakeaaGreatCmU
import Derived.Test.YteanccnggaakeaaGreatChecked
import Derived.Laws.Externs
import Derived.Shelf.Spec.BitsCarry
namespace Go.Proofs.YteanccnggaakeaaGreat
open Go.RowKit
set_option linter.unusedVariables false
set_option linter.unusedSimpArgs false

noncomputable def notGo (l : List Func) : Bool := List.rec true (fun f _ ih => Bool.rec ih false (f.name == "runtime.NumGoroutine")) l
theorem notGo_t : ∀ {l : List Func} {f : Nat} {fn : Func}, notGo l = true → l[f]? = some fn → (fn.name == "runtime.NumGoroutine") = false
  | [], f, fn, _, h => by simp at h
  | g :: l, f, fn, hg, h => by
    rcases rec_b (show (Bool.rec (notGo l) false (g.name == "runtime.NumGoroutine") : Bool) = true from hg) with ⟨_, h2⟩ | ⟨h1, h2⟩
    · cases h2
    · cases f with
      | zero => simp at h; subst h; exact h1
      | succ f => exact notGo_t h2 (by simpa using h)
noncomputable abbrev envOf (es : List Ent) (fs : List (Nat × CV)) : Env := ⟨Tryz.prog, 331, 448, es, fs⟩
theorem ext_ok (es : List Ent) (fs : List (Nat × CV)) : ExtOK (envOf es fs) where
  mixed := by kernel_rfl
  name := fun f fn h => notGo_t (l := Tryz.prog.funcs.toList) (f := f) (by kernel_rfl) (by rw [Array.getElem?_toList]; exact h)
  add := fun x y c w hc => by
    rw [run_callFunc_extern Tryz.func331 (by kernel_rfl) (by kernel_rfl) (by kernel_rfl) (e := add64Entry) (by kernel_rfl)]
    show ((add64Entry #[.int .u64 (x : Int), .int .u64 (y : Int), .int .u64 (c : Int)]).run Tryz.prog w).andThen _ = _
    rw [run_add64 (x : Int) (y : Int) (c : Int) (by omega) (by omega) (by omega) (by omega)]
    rfl
  sub := fun x y c w hc => by
    rw [run_callFunc_extern Tryz.func448 (by kernel_rfl) (by kernel_rfl) (by kernel_rfl) (e := sub64Entry) (by kernel_rfl)]
    show ((sub64Entry #[.int .u64 (x : Int), .int .u64 (y : Int), .int .u64 (c : Int)]).run Tryz.prog w).andThen _ = _
    rw [run_sub64 x y c hc]
    rfl
abbrev Good (e : Ent) : Prop := EntOK Tryz.prog e
theorem good_nil : ∀ e ∈ ([] : List Ent), Good e := fun e h => by simp at h
theorem good_cons {e : Ent} {l : List Ent} (h : Good e) (t : ∀ e ∈ l, Good e) : ∀ x ∈ e :: l, Good x := fun x hx => by
  rcases List.mem_cons.1 hx with rfl | hx
  · exact h
  · exact t x hx
theorem env_ok {es : List Ent} {fs : List (Nat × CV)} (hes : ∀ e ∈ es, Good e) (hfs : ∀ p ∈ fs, FsOK Tryz.prog p) : EnvOK (envOf es fs) := { toExtOK := ext_ok es fs, es := hes, fs := hfs }
theorem good_of {es : List Ent} {fs : List (Nat × CV)} {fuel : Nat} {e : Ent} (hes : ∀ e ∈ es, Good e) (hfs : ∀ p ∈ fs, FsOK Tryz.prog p) (h : topK (envOf es fs) fuel e = true) : Good e := ent_ok (env_ok hes hfs) h
theorem flat_of {f nb' : Nat} {v : CV} {post : List (Nat × CR)} (h : Good ⟨f, [], [], 0, v, post, nb'⟩) (hf : flat v = true) : FsOK Tryz.prog (f, v) := ⟨h.body, hf, _, _, h.calls⟩
end Go.Proofs.YteanccnggaakeaaGreat
