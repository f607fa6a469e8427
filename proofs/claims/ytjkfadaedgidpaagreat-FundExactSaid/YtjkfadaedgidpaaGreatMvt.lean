/- Calls that write into their arguments, over states that list what is known. No condition. -/
import Derived.Test.YtjkfadaedgidpaaGreatMut
namespace Go.Proofs.YtjkfadaedgidpaaGreat
open Go.RowKit
set_option linter.unusedVariables false
set_option linter.unusedSimpArgs false
theorem S_initA (as_ : List AV) (k : Nat) (m : List (Nat × ARow)) : (⟨as_ ++ List.replicate k .any, lookR m⟩ : AS) = S (as_.length + k) ((List.range as_.length).zip as_) m := by
 have hz : ∀ (as_ : List AV) (b i : Nat), look ((List.range' b as_.length).zip as_) (b + i) = as_.getD i .any := by
  intro as_
  induction as_ with
  | nil => intro b i; simp [look]
  | cons a as_ ih =>
   intro b i
   simp only [List.length_cons, List.range'_succ, List.zip_cons_cons, look]
   cases i with
   | zero => simp
   | succ i =>
    have h := ih (b + 1) i
    have h2 : (b + (i + 1) == b) = false := by simp
    rw [h2, cond_false]
    rw [show b + (i + 1) = b + 1 + i from by omega, h]
    simp
 simp only [S, AS.mk.injEq, and_true]
 apply List.ext_getElem
 ·simp
 ·intro i h1 h2
  have := hz as_ 0 i
  simp only [List.getElem_map, List.getElem_range]
  rw [List.range_eq_range']
  simp only [Nat.zero_add] at this
  rw [this, List.getElem_append]
  split
  ·rename_i h; simp [List.getD, h]
  ·rename_i h; simp [List.getD, h]
theorem mcalls_S {P : Program} {f : FuncId} {fn : Func} {c : Code} {margs : List MArg} {ms ms' rows : List ORow} {res : AV} {rs : List ResultVar} (hf : P.funcs[f]? = some fn) (hb : fn.body = some c) (hrs : fn.results.toList = rs) (n : Nat) (l : List (Nat × AV)) (m : List (Nat × ARow)) (hn : fn.ntmps = n) (hle : margs.length ≤ n)
  (hl : (List.range margs.length).zip (margs.map (mAv ms)) = l) (hm : pinRows 0 ms = m) (hlen' : ms'.length = ms.length) (hsz : ms'.map ORow.sz = ms.map ORow.sz) (hargs : (margs.all fun a => match a with | .m j => decide (j < ms.length) | .d _ => true | .a x => x.ids.all fun r => decide (r < ms.length)) = true)
  (h : AWp P c (aPost (ResOkM P rs ms' rows res)) (S n l m)) : MCalls P f margs ms ms' rows res := by
 refine mcalls_of hf hb hrs hlen' (fun j o o' h1 h2 => ?_) (fun j hj => ?_) (fun x hx r hr => by simpa using List.all_eq_true.1 (List.all_eq_true.1 hargs _ hx) r hr) ?_
 ·have := congrArg (fun q : List Nat => q[j]?) hsz
  simp only [List.getElem?_map, h1, h2, Option.map_some, Option.some.injEq] at this
  exact this
 ·simpa using List.all_eq_true.1 hargs _ hj
 ·have e := S_initA (margs.map (mAv ms)) (fn.ntmps - margs.length) (pinRows 0 ms)
  rw [e]
  rw [List.length_map, hl, hm, hn, show margs.length + (n - margs.length) = n from by omega]
  exact h
def doneMs (s : AS) : Nat → List ORow → Prop
 | _, [] => True
 | k, o :: os => (∃ row, s.mem (pinName k) = some row ∧ row.g ∧ row.ty = o.ty ∧ row.sz = o.sz ∧ row.els = o.els.map (·.map .d)) ∧ (∀ l, l ∈ o.els → flatDs l) ∧ doneMs s (k + 1) os
theorem doneMs_get {s : AS} : ∀ {k : Nat} {os : List ORow}, doneMs s k os → (∀ o, o ∈ os → ∀ l, l ∈ o.els → flatDs l) ∧
  ∀ j o, os[j]? = some o → ∃ row, s.mem (pinName (k + j)) = some row ∧ row.g ∧ row.ty = o.ty ∧ row.sz = o.sz ∧ row.els = o.els.map (·.map .d)
 | k, [], _ => ⟨by simp, by simp⟩
 | k, o :: os, h => by
  obtain ⟨h1, h2, h3⟩ := h
  obtain ⟨k2, k3⟩ := doneMs_get h3
  refine ⟨fun x hx => ?_, fun j x hx => ?_⟩
  ·rcases List.mem_cons.1 hx with rfl | hx
   ·exact h2
   ·exact k2 x hx
  ·cases j with
   | zero => simp at hx; subst hx; exact h1
   | succ j => rw [show k + (j + 1) = k + 1 + j from by omega]; exact k3 j x (by simpa using hx)
theorem doneM {P : Program} {rs : List ResultVar} {ms' rows : List ORow} {res : AV} {s : AS} (hs : List Nat) (hc : resCs P s rs) (hr : resAll (rs.map (resA P s)) = res.ren (fun r => if r < rows.length then hs.getD r 0 else pinName (r - rows.length))) (hf : flatA res)
  (hi : ∀ j, j ∈ res.ids → j < rows.length + ms'.length) (hd : hs.Nodup) (hlo : ∀ x, x ∈ hs → x < 1000000000) (hrows : doneRs s hs rows) (hm : doneMs s 0 ms') : ResOkM P rs ms' rows res s := by
 obtain ⟨k1, k2, k3⟩ := doneRs_get hrows
 obtain ⟨m2, m3⟩ := doneMs_get hm
 have at_ : ∀ j, j < rows.length → (if j < rows.length then hs.getD j 0 else pinName (j - rows.length)) = hs.getD j 0 := fun j hj => by rw [if_pos hj]
 refine ⟨_, _, resVs_of hc, hr, hf, k2, m2, hi, fun j j' h1 h2 he => ?_, fun j hj => ?_, fun j hj => ?_, fun j o ho => ?_, fun j o ho => ?_⟩
 ·simp only [at_ j h1, at_ j' h2] at he
  exact nodup_get hd (by omega) (by omega) he
 ·simp only [at_ j hj]
  have hj' : j < hs.length := by omega
  refine hlo _ ?_
  simp [List.getD, List.getElem?_eq_getElem hj']
 ·rw [if_neg (by omega)]
  congr 1; omega
 ·have hj := (List.getElem?_eq_some_iff.1 ho).1
  simp only [at_ j hj]
  exact k3 j o ho
 ·have := m3 j o ho
  rwa [Nat.zero_add] at this
section
variable (s : AS) (names : List Nat) (ms : List ORow)
theorem mArgs_nil : mArgs s names ms [] [] = True := by simp only [mArgs]
theorem mArgs_d (x : AV) (xs : List AV) (d : D) (gs : List MArg) : mArgs s names ms (x :: xs) (.d d :: gs) = ((asE s x d ∧ asF s x ∧ ∀ r, r ∈ x.ids → r ∉ names) ∧ mArgs s names ms xs gs) := by
 simp only [mArgs]
 apply propext
 constructor
 ·rintro ⟨a, t, h, h1, h2⟩; injection h with h h'; subst h h'; exact ⟨h2, h1⟩
 ·rintro ⟨h1, h2⟩; exact ⟨_, _, rfl, h2, h1⟩
theorem mArgs_m (x : AV) (xs : List AV) (j : Nat) (gs : List MArg) : mArgs s names ms (x :: xs) (.m j :: gs) = ((∃ o, ms[j]? = some o ∧ j < names.length ∧ x = .ref (names.getD j 0) o.els.length) ∧ mArgs s names ms xs gs) := by
 simp only [mArgs]
 apply propext
 constructor
 ·rintro ⟨a, t, h, h1, h2⟩; injection h with h h'; subst h h'; exact ⟨h2, h1⟩
 ·rintro ⟨h1, h2⟩; exact ⟨_, _, rfl, h2, h1⟩
theorem mRows_nil : mRows s [] [] [] = True := rfl
theorem mRows_cons (r : Nat) (rs : List Nat) (o o' : ORow) (os os' : List ORow) : mRows s (r :: rs) (o :: os) (o' :: os') = ((∃ row, s.mem r = some row ∧ row.g ∧ row.uq = true ∧ row.ty = o.ty ∧ row.sz = o.sz ∧ row.els = o.els.map (·.map .d)) ∧ o'.ty = o.ty ∧ o'.sz = o.sz ∧ (∀ l, l ∈ o'.els → flatDs l) ∧ mRows s rs os os') := rfl
end
def mNewL (m : List (Nat × ARow)) : List Nat → List ORow → List (Nat × ARow)
 | r :: rs, o :: os => (match lookR m r with | some row => [(r, { row with els := o.els.map (·.map .d) })] | none => []) ++ mNewL m rs os
 | _, _ => []
theorem mNew_S (n : Nat) (l : List (Nat × AV)) (m : List (Nat × ARow)) : ∀ (names : List Nat) (os : List ORow), mNew (S n l m) names os = mNewL m names os
 | [], os => by cases os <;> rfl
 | r :: rs, [] => rfl
 | r :: rs, o :: os => by
  simp only [mNew, mNewL, S_mem, mNew_S n l m rs os]
  cases lookR m r <;> rfl
def nxM (K : AS → Prop) (n : Nat) (l : List (Nat × AV)) (m : List (Nat × ARow)) (v : AV) (q : List (Nat × ARow)) : Option Tmp → Prop
 | some d => K (S n ((d, v) :: l) (q ++ m))
 | none => K (S n l (q ++ m))
section
variable {P : Program} {K : AS → Prop} {n : Nat} {l : List (Nat × AV)} {m : List (Nat × ARow)} {ty : TypeId} {pos : String} {aft : Array Edge} {args : List Operand} {ts : Array TypeId}
theorem S_ovr (q : List (Nat × ARow)) : ovr q (lookR m) = lookR (q ++ m) := by
 induction q with
 | nil => rfl
 | cons p q ih =>
  funext x
  simp only [ovr, List.cons_append, lookR, ih]
  by_cases h : x = p.1
  ·simp [h]
  ·have h2 : (x == p.1) = false := by simpa using h
   simp [h, h2]
theorem mut_go {dst : Option Tmp} {fid : FuncId} {margs : List MArg} {ms ms' rows : List ORow} {res : AV} (names : List Nat) (hgo : goFn P fid) (hc : MCalls P fid margs ms ms' rows res) (hids : ∀ r, r ∈ res.ids → r < rows.length + ms.length) (hnd : names.Nodup)
  (hd : match dst with | some d => d < 1000 ∧ rows.length ≤ 1000 | none => rows = [])
  (h : mArgs (S n l m) names ms (atsL (S n l m) args) margs ∧ oksL (S n l m) args ∧ mRows (S n l m) names ms ms' ∧ freeN m (mBase dst) rows.length ∧ nxM K n l m (res.ren (mName (mBase dst) rows.length names)) (addRows True (mBase dst) 0 rows ++ mNewL m names ms') dst) :
  MStep P (S n l m) ⟨dst, .call { callee := .value (.func fid), args := args.toArray, argTypes := ts }, ty, pos, aft, none⟩ K := by
 obtain ⟨h1, h2, h3, h4, h5⟩ := h
 refine ⟨rfl, _, _, fid, margs, ms, ms', rows, res, names, rfl, rfl, rfl, trivial, hgo, fun x hx => oksL_mem h2 x (by simpa using hx), ?_, hc, hids, h3, hnd, ?_, fun j hj => freeN_lt h4 hj, ?_⟩
 ·rw [show (args.toArray).toList = args from by simp, atsL_eq]
  exact h1
 ·cases dst with
  | none => exact .inr ⟨rfl, hd⟩
  | some d => exact .inl ⟨d, rfl, hd.1, hd.2⟩
 ·cases dst with
  | none =>
   simp only [nxM] at h5
   simp only [mTm, mNew_S]
   have e : (S n l m).mem = lookR m := rfl
   rw [e, S_ovr]
   exact h5
  | some d =>
   simp only [nxM] at h5
   simp only [mTm, mNew_S]
   have e : (S n l m).mem = lookR m := rfl
   rw [e, S_ovr]
   have e2 : (S n l m).tm.set d (res.ren (mName (mBase (some d)) rows.length names)) = (S n ((d, res.ren (mName (mBase (some d)) rows.length names)) :: l) m).tm := by
    have := S_app (n := n) (l := l) (m := m) (d := d) (v := res.ren (mName (mBase (some d)) rows.length names)) (q := [])
    have h6 := congrArg AS.tm this
    simpa [AS.app] using h6
   rw [e2]
   exact h5
end
end Go.Proofs.YtjkfadaedgidpaaGreat
