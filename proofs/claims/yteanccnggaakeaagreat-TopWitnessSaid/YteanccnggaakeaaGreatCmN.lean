/- Temporaries, guards, what code does; equal values. No condition. -/
import Derived.Test.YteanccnggaakeaaGreatCmM
namespace Go.Proofs.YteanccnggaakeaaGreat
open Go.RowKit
set_option linter.unusedVariables false
set_option linter.unusedSimpArgs false

/- The temporaries of a call: n of them. -/
def TmOK (n : Nat) (tm : Tr CV) : Prop := ∃ (t0 : Tr CV) (d : Nat), tm = .node n t0 (.leaf (.val undef)) ∧ t0.wf 0 (2 ^ d) ∧ n ≤ 2 ^ d
theorem TmOK.set {n : Nat} {tm : Tr CV} (h : TmOK n tm) {q : Nat} (hq : q < n) (v : CV) : TmOK n (tm.set q v) ∧ (tm.set q v).get = upd tm.get q v := by
  obtain ⟨t0, d, rfl, h1, h2⟩ := h
  have e : (Tr.node n t0 (.leaf (.val undef))).set q v = .node n (t0.set q v) (.leaf (.val undef)) := by rw [Tr.set, if_neg (by omega)]
  rw [e]
  refine ⟨⟨_, d, rfl, Tr.wf_set _ _ _ _ _ h1, h2⟩, ?_⟩
  funext t
  simp only [upd, Tr.get]
  by_cases ht : n ≤ t
  · rw [if_pos ht, if_pos ht, if_neg (by omega)]
  · rw [if_neg ht, if_neg ht]
    exact Tr.get_set v t0 0 (2 ^ d) q t h1 (Nat.zero_le _) (by omega) (Nat.zero_le _) (by omega)
noncomputable def tmNew (n : Nat) (K : Tr CV → Bool) : Bool := fN (Nat.add (Nat.log2 n) 1) fun d => K (.node n (Tr.mk (.val undef) d 0) (.leaf (.val undef)))
theorem tmNew_t {n : Nat} {K : Tr CV → Bool} (h : tmNew n K = true) : ∃ tm, K tm = true ∧ TmOK n tm ∧ tm.get = fun _ => .val undef := by
  refine ⟨_, h, ⟨_, Nat.log2 n + 1, rfl, ?_, ?_⟩, ?_⟩
  · have := Tr.wf_mk (CV.val undef) (Nat.log2 n + 1) 0
    rwa [Nat.zero_add] at this
  · exact Nat.le_of_lt Nat.lt_log2_self
  · funext t
    rw [Tr.get, Tr.get_mk]
    split <;> rfl
noncomputable def putK (n : Nat) (dst : Option Nat) (v : CV) (tm : Tr CV) (K : Tr CV → Bool) : Bool := Option.rec (K tm) (fun q => tst (Nat.blt q n) (tm.setK q v K)) dst
def putT (T : Nat → CV) (dst : Option Nat) (v : CV) : Nat → CV := match dst with | some q => upd T q v | none => T
theorem putK_t {n : Nat} {dst : Option Nat} {v : CV} {tm : Tr CV} {K : Tr CV → Bool} (hn : TmOK n tm) (h : putK n dst v tm K = true) : ∃ tm', K tm' = true ∧ TmOK n tm' ∧ tm'.get = putT tm.get dst v ∧ ∀ q, dst = some q → q < n := by
  cases dst with
  | none => exact ⟨tm, h, hn, rfl, fun q e => by cases e⟩
  | some q =>
    obtain ⟨h1, h2⟩ := tst_t (show tst (Nat.blt q n) (tm.setK q v K) = true from h)
    rw [Tr.setK_eq] at h2
    obtain ⟨k1, k2⟩ := hn.set (blt_t h1) v
    exact ⟨_, h2, k1, k2, fun q' e => by cases e; exact blt_t h1⟩
noncomputable def tmArgs (n : Nat) (args : List CV) : Nat → Tr CV → (Tr CV → Bool) → Bool := List.rec (fun _ t K => K t) (fun x _ ih k t K => tst (Nat.blt k n) (t.setK k x fun t => fN (Nat.add k 1) fun k => ih k t K)) args
theorem tmArgs_t {n : Nat} {K : Tr CV → Bool} : ∀ {args : List CV} {k : Nat} {tm : Tr CV}, TmOK n tm → tmArgs n args k tm K = true → ∃ tm', K tm' = true ∧ TmOK n tm' ∧ ∀ t, tm'.get t = if k ≤ t ∧ t < k + args.length then (args[t - k]?).getD (.val undef) else tm.get t
  | [], k, tm, hn, h => ⟨tm, h, hn, fun t => by rw [if_neg (by simp only [List.length_nil]; omega)]⟩
  | x :: args, k, tm, hn, h => by
    obtain ⟨h1, h2⟩ := tst_t (show tst (Nat.blt k n) (tm.setK k x fun t => fN (Nat.add k 1) fun k => tmArgs n args k t K) = true from h)
    rw [Tr.setK_eq, fN_eq] at h2
    obtain ⟨k1, k2⟩ := hn.set (blt_t h1) x
    obtain ⟨tm', h3, h4, h5⟩ := tmArgs_t k1 h2
    refine ⟨tm', h3, h4, fun t => ?_⟩
    have := h5 t
    rw [this, k2]
    simp only [List.length_cons]
    by_cases e : t = k
    · subst e
      rw [if_neg (by show ¬ (t + 1 ≤ t ∧ _); omega), if_pos (by omega), upd_same]
      simp
    · by_cases h6 : k ≤ t ∧ t < k + (args.length + 1)
      · rw [if_pos h6, if_pos (by show k + 1 ≤ t ∧ t < k + 1 + args.length; omega)]
        rw [show t - k = (t - (k + 1)) + 1 by omega, List.getElem?_cons_succ]
      · rw [if_neg h6, if_neg (by show ¬ (k + 1 ≤ t ∧ t < k + 1 + args.length); omega), upd_ne _ _ e]

/- When a frame and a world fit temporaries and rows. -/
structure St where
  T : Nat → CV
  M : Nat → CR
  nb : Nat
structure Sim (F : Nat → Prop) (w0 : World) (G : Gh) (n : Nat) (s : St) (a : Act) (w : World) : Prop where
  defers : a.defers = []
  size : a.tmps.size = n
  tm : ∀ t, R G (s.T t) (a.tmps.getD t undef)
  fit : Fit F w0 G s.M w
theorem evv_R {T : Nat → CV} {G : Gh} {a : Act} (h : ∀ t, R G (T t) (a.tmps.getD t undef)) (x : Operand) : R G (evv T x) (a.eval x) := by
  cases x with
  | tmp t => exact h t
  | const v => exact ofU_R v
  | global g => simp only [evv, R, Act.eval]
  | func f => simp only [evv, R, Act.eval]
theorem put_getD {a : Act} {q : Nat} {y : Value} (hq : q < a.tmps.size) (t : Nat) : (a.put (some q) y).tmps.getD t undef = if t = q then y else a.tmps.getD t undef := by
  simp only [Act.put, Array.getD_eq_getD_getElem?]
  by_cases e : t = q
  · subst e
    rw [if_pos rfl, Array.getElem?_setIfInBounds_self_of_lt hq]
    rfl
  · rw [if_neg e, Array.getElem?_setIfInBounds_ne (fun h => e h.symm)]
theorem Sim.put {F : Nat → Prop} {w0 w w' : World} {G G' : Gh} {n : Nat} {s : St} {a : Act} {dst : Option Nat} {v : CV} {y : Value} {M' : Nat → CR} {nb' : Nat} (h : Sim F w0 G n s a w) (hl : G.le G') (hy : R G' v y) (hf : Fit F w0 G' M' w') (hd : ∀ q, dst = some q → q < n) :
    Sim F w0 G' n ⟨putT s.T dst v, M', nb'⟩ (a.put dst y) w' := by
  cases dst with
  | none => exact ⟨h.defers, h.size, fun t => R.up hl _ _ (h.tm t), hf⟩
  | some q =>
    have hq : q < a.tmps.size := by rw [h.size]; exact hd q rfl
    refine ⟨h.defers, by simp [Act.put, h.size], fun t => ?_, hf⟩
    rw [put_getD hq]
    simp only [putT, upd]
    by_cases e : t = q
    · rw [if_pos e, if_pos e]; exact hy
    · rw [if_neg e, if_neg e]; exact R.up hl _ _ (h.tm t)

/- Is an operation wanted? -/
noncomputable def undK (x : Bool) (v : Value) : Bool := vCs (fun _ => false) (fun v => match v with | .tuple cs => (List.rec x (fun _ _ _ => false) cs.toList : Bool) | _ => false) v
theorem undK_t {x : Bool} {v : Value} (h : undK x v = true) : v = undef ∧ x = true := by
  cases v <;> first | (cases h; done) | skip
  rename_i cs
  have h' : (List.rec x (fun _ _ _ => false) cs.toList : Bool) = true := h
  cases hc : cs.toList with
  | nil => rw [hc] at h'; exact ⟨by unfold undef; congr 1; exact Array.toList_inj.1 hc, h'⟩
  | cons c l => rw [hc] at h'; cases h'
noncomputable def wantK (want : Bool) (yes no : Bool) (x : CV) : Bool := CV.cs (fun _ _ => false) (fun _ _ => false) (fun t => Bool.rec (Bool.rec yes no want) (Bool.rec no yes want) t) (undK no) (fun _ _ _ => false) (fun _ _ _ _ => false) (fun _ _ _ _ => false) (fun _ _ _ => false) (fun _ => false) (fun _ => false) (fun _ _ => false) x
noncomputable def xwant (ops : List Oper) (o : Oper) (tm : Tr CV) (yes no : Bool) : Bool :=
  Option.rec yes (fun jw => Prod.rec (fun j want => atL ops (fun oj => og oj.dst fun d => tm.getK d (wantK want yes no)) j) jw) o.guard
/- The temporary that an operation's guard looks at. -/
def gTmp (ops : List Oper) (o : Oper) : Option (Nat × Bool) := match o.guard with | none => none | some (j, want) => ((ops[j]?).bind (·.dst)).map fun d => (d, want)
def wantV (ops : List Oper) (T : Nat → CV) (o : Oper) : Option Bool :=
  match o.guard with
  | none => some true
  | some _ => match gTmp ops o with
    | some (d, want) => match T d with
      | .bo t => some (t == want)
      | .val v => (match v with | .tuple cs => if cs.toList.isEmpty then some false else none | _ => none)
      | _ => none
    | none => none
theorem xwant_t {ops : List Oper} {o : Oper} {tm : Tr CV} {yes no : Bool} (h : xwant ops o tm yes no = true) : (wantV ops tm.get o = some true ∧ yes = true) ∨ (wantV ops tm.get o = some false ∧ no = true ∧ o.guard ≠ none) := by
  unfold xwant at h
  unfold wantV gTmp
  cases hg : o.guard with
  | none => rw [hg] at h; exact .inl ⟨rfl, h⟩
  | some jw =>
    obtain ⟨j, want⟩ := jw
    rw [hg] at h
    obtain ⟨oj, h1, h2⟩ := atL_t (show atL ops (fun oj => og oj.dst fun d => tm.getK d (wantK want yes no)) j = true from h)
    obtain ⟨d, h3, h4⟩ := og_t h2
    rw [Tr.getK_eq] at h4
    simp only [h1, Option.bind_some, h3, Option.map_some]
    generalize tm.get d = x at *
    cases x <;> first | (cases h4; done) | skip
    · rename_i t
      have h5 : (Bool.rec (Bool.rec yes no want) (Bool.rec no yes want) t : Bool) = true := h4
      cases t <;> cases want
      · exact .inl ⟨rfl, h5⟩
      · exact .inr ⟨rfl, h5, by simp⟩
      · exact .inr ⟨rfl, h5, by simp⟩
      · exact .inl ⟨rfl, h5⟩
    · obtain ⟨rfl, h5⟩ := undK_t (show undK no _ = true from h4)
      exact .inr ⟨by simp [undef], h5, by simp⟩
theorem wantV_wanted {ops : Array Oper} {o : Oper} {T : Nat → CV} {G : Gh} {a : Act} {b : Bool} (h : wantV ops.toList T o = some b) (ht : ∀ d want, gTmp ops.toList o = some (d, want) → R G (T d) (a.tmps.getD d undef)) : Region.wanted o (yielded ops a.tmps) = b := by
  unfold wantV at h
  unfold Region.wanted
  unfold gTmp at h ht
  cases hg : o.guard with
  | none =>
    rw [hg] at h
    injection h
  | some jw =>
    obtain ⟨j, want⟩ := jw
    rw [hg] at h ht
    simp only at h ht ⊢
    unfold yielded
    cases hd : (ops.toList[j]?).bind (·.dst) with
    | none => rw [hd] at h; cases h
    | some d =>
      have hd' : (ops[j]?).bind (·.dst) = some d := by rw [← hd]; simp
      rw [hd] at h ht
      have hr := ht d want rfl
      rw [hd']
      simp only [Option.map_some, Option.bind_some] at h ⊢
      rw [Array.getD_eq_getD_getElem?] at hr
      generalize T d = x at *
      cases x <;> first | (cases h; done) | skip
      · rename_i t
        simp only [R] at hr
        simp only [Option.some.injEq] at h
        have : a.tmps[d]? = some (.bool t) := by
          cases hq : a.tmps[d]? with
          | none => rw [hq] at hr; simp [undef] at hr
          | some z => rw [hq] at hr; simp at hr; rw [hr]
        rw [this, ← h]
        cases t <;> cases want <;> rfl
      · rename_i v
        simp only [R] at hr
        cases v <;> first | (cases h; done) | skip
        rename_i cs
        simp only at h
        split at h
        · injection h with h
          subst h
          cases hq : a.tmps[d]? with
          | none => cases want <;> rfl
          | some z => rw [hq] at hr; simp at hr; rw [hr]; cases want <;> rfl
        · cases h

/- What code does from a state on: how it ends, and the state behind it. -/
inductive XT where
  | nm
  | ex (id : Nat)
  | rt
def XT.exit : XT → Exit
  | .nm => .normal
  | .ex id => .exit id
  | .rt => .ret
def CodeOK (P : Program) (n : Nat) (c : Code) (s : St) (e : XT) (s' : St) : Prop :=
  s.nb ≤ s'.nb ∧ ∀ (F : Nat → Prop) (w0 : World) (G : Gh) (a : Act) (w : World) (Q : Exit → Act → World → Prop), Sim F w0 G n s a w → Free s.nb s'.nb G → (∀ G' a' w', Step s.nb s'.nb G G' → Sim F w0 G' n s' a' w' → Q e.exit a' w') → c.wp P Q a w
def stOf (tm : Tr CV) (m : Tr CR) (nb : Nat) : St := ⟨tm.get, lk m, nb⟩
abbrev KE := XT → Tr CV → Tr CR → Nat → Bool
abbrev Run := Code → Nat → Tr CV → Tr CR → Nat → KE → Bool
def Ends (P : Program) (n : Nat) (c : Code) (tm : Tr CV) (m : Tr CR) (nb : Nat) (K : KE) : Prop :=
  ∃ e tm' m' nb', K e tm' m' nb' = true ∧ TmOK n tm' ∧ MemOK m' nb' ∧ CodeOK P n c (stOf tm m nb) e (stOf tm' m' nb')
def RunOK (P : Program) (run : Run) : Prop := ∀ (c : Code) (n : Nat) (tm : Tr CV) (m : Tr CR) (nb : Nat) (K : KE), TmOK n tm → MemOK m nb → run c n tm m nb K = true → Ends P n c tm m nb K

/- Equal values. -/
noncomputable def veq (v u : Value) : Bool :=
  match v, u with
  | .slice none 0 0, .slice none 0 0 => true
  | .pointer none, .pointer none => true
  | .nilFunc, .nilFunc => true
  | .func (.func f) a b, .func (.func g) a' b' => Nat.beq f g && a.toList.isEmpty && b.toList.isEmpty && a'.toList.isEmpty && b'.toList.isEmpty
  | .tuple a, .tuple b => a.toList.isEmpty && b.toList.isEmpty
  | .bool a, .bool b => Bool.rec (Bool.rec true false b) b a
  | .int k a, .int k' b => keq k k' && (match a, b with | .ofNat m, .ofNat n => Nat.beq m n | .negSucc m, .negSucc n => Nat.beq m n | _, _ => false)
  | _, _ => false
theorem arr_nil {α : Type} {a : Array α} (h : a.toList.isEmpty = true) : a = #[] := by
  apply Array.toList_inj.1
  simpa using h
theorem veq_t {v u : Value} (h : veq v u = true) : v = u := by
  unfold veq at h
  split at h
  · rfl
  · rfl
  · rfl
  · simp only [Bool.and_eq_true] at h
    obtain ⟨⟨⟨⟨h1, h2⟩, h3⟩, h4⟩, h5⟩ := h
    rw [Nat.eq_of_beq_eq_true h1, arr_nil h2, arr_nil h3, arr_nil h4, arr_nil h5]
  · simp only [Bool.and_eq_true] at h
    rw [arr_nil h.1, arr_nil h.2]
  · rename_i a b
    cases a <;> cases b <;> first | rfl | cases h
  · simp only [Bool.and_eq_true] at h
    obtain ⟨h1, h2⟩ := h
    rw [keq_t h1]
    split at h2
    · rw [Nat.eq_of_beq_eq_true h2]
    · rw [Nat.eq_of_beq_eq_true h2]
    · cases h2
  · cases h
noncomputable def and3 (a b x : Bool) : Bool := tst a (tst b x)
noncomputable def eqb (x : CV) : CV → Bool :=
  CV.rec (motive_1 := fun _ => CV → Bool) (motive_2 := fun _ => List CV → Bool)
    (fun k m y => CV.cs (fun k' m' => tst (keq k k') (Nat.beq m m')) (fun _ _ => false) (fun _ => false) (fun _ => false) (fun _ _ _ => false) (fun _ _ _ _ => false) (fun _ _ _ _ => false) (fun _ _ _ => false) (fun _ => false) (fun _ => false) (fun _ _ => false) y)
    (fun k m y => CV.cs (fun _ _ => false) (fun k' m' => tst (keq k k') (Nat.beq m m')) (fun _ => false) (fun _ => false) (fun _ _ _ => false) (fun _ _ _ _ => false) (fun _ _ _ _ => false) (fun _ _ _ => false) (fun _ => false) (fun _ => false) (fun _ _ => false) y)
    (fun b y => CV.cs (fun _ _ => false) (fun _ _ => false) (fun c => Bool.rec (Bool.rec true false c) c b) (fun _ => false) (fun _ _ _ => false) (fun _ _ _ _ => false) (fun _ _ _ _ => false) (fun _ _ _ => false) (fun _ => false) (fun _ => false) (fun _ _ => false) y)
    (fun v y => CV.cs (fun _ _ => false) (fun _ _ => false) (fun _ => false) (veq v) (fun _ _ _ => false) (fun _ _ _ _ => false) (fun _ _ _ _ => false) (fun _ _ _ => false) (fun _ => false) (fun _ => false) (fun _ _ => false) y)
    (fun r n s y => CV.cs (fun _ _ => false) (fun _ _ => false) (fun _ => false) (fun _ => false) (fun r' n' s' => tst (Nat.beq r r') (tst (Nat.beq n n') (Nat.beq s s'))) (fun _ _ _ _ => false) (fun _ _ _ _ => false) (fun _ _ _ => false) (fun _ => false) (fun _ => false) (fun _ _ => false) y)
    (fun r o n s y => CV.cs (fun _ _ => false) (fun _ _ => false) (fun _ => false) (fun _ => false) (fun _ _ _ => false) (fun r' o' n' s' => tst (Nat.beq r r') (tst (Nat.beq o o') (tst (Nat.beq n n') (Nat.beq s s')))) (fun _ _ _ _ => false) (fun _ _ _ => false) (fun _ => false) (fun _ => false) (fun _ _ => false) y)
    (fun r i o n y => CV.cs (fun _ _ => false) (fun _ _ => false) (fun _ => false) (fun _ => false) (fun _ _ _ => false) (fun _ _ _ _ => false) (fun r' i' o' n' => tst (Nat.beq r r') (tst (Nat.beq i i') (tst (Nat.beq o o') (Nat.beq n n')))) (fun _ _ _ => false) (fun _ => false) (fun _ => false) (fun _ _ => false) y)
    (fun r i o y => CV.cs (fun _ _ => false) (fun _ _ => false) (fun _ => false) (fun _ => false) (fun _ _ _ => false) (fun _ _ _ _ => false) (fun _ _ _ _ => false) (fun r' i' o' => tst (Nat.beq r r') (tst (Nat.beq i i') (Nat.beq o o'))) (fun _ => false) (fun _ => false) (fun _ _ => false) y)
    (fun _ ih y => CV.cs (fun _ _ => false) (fun _ _ => false) (fun _ => false) (fun _ => false) (fun _ _ _ => false) (fun _ _ _ _ => false) (fun _ _ _ _ => false) (fun _ _ _ => false) (fun l => ih l) (fun _ => false) (fun _ _ => false) y)
    (fun _ ih y => CV.cs (fun _ _ => false) (fun _ _ => false) (fun _ => false) (fun _ => false) (fun _ _ _ => false) (fun _ _ _ _ => false) (fun _ _ _ _ => false) (fun _ _ _ => false) (fun _ => false) (fun l => ih l) (fun _ _ => false) y)
    (fun f _ ih y => CV.cs (fun _ _ => false) (fun _ _ => false) (fun _ => false) (fun _ => false) (fun _ _ _ => false) (fun _ _ _ _ => false) (fun _ _ _ _ => false) (fun _ _ _ => false) (fun _ => false) (fun _ => false) (fun g l => tst (Nat.beq f g) (ih l)) y)
    (fun l => List.rec true (fun _ _ _ => false) l) (fun _ _ ihx ihl l => List.rec false (fun y k _ => tst (ihx y) (ihl k)) l) x
noncomputable def eqbL (l k : List CV) : Bool := eqb (.ag l) (.ag k)
mutual
theorem eqb_t : ∀ (x y : CV), eqb x y = true → x = y
  | .pos k m, y, h => by
    cases y <;> first | (cases h; done) | skip
    obtain ⟨h1, h2⟩ := tst_t h
    rw [keq_t h1, Nat.eq_of_beq_eq_true h2]
  | .neg k m, y, h => by
    cases y <;> first | (cases h; done) | skip
    obtain ⟨h1, h2⟩ := tst_t h
    rw [keq_t h1, Nat.eq_of_beq_eq_true h2]
  | .bo b, y, h => by
    cases y <;> first | (cases h; done) | skip
    rename_i c
    cases b <;> cases c <;> first | rfl | cases h
  | .val v, y, h => by
    cases y <;> first | (cases h; done) | skip
    rw [veq_t h]
  | .ref r n s, y, h => by
    cases y <;> first | (cases h; done) | skip
    obtain ⟨h1, h2⟩ := tst_t h
    obtain ⟨h3, h4⟩ := tst_t h2
    rw [Nat.eq_of_beq_eq_true h1, Nat.eq_of_beq_eq_true h3, Nat.eq_of_beq_eq_true h4]
  | .sub r o n s, y, h => by
    cases y <;> first | (cases h; done) | skip
    obtain ⟨h1, h2⟩ := tst_t h
    obtain ⟨h3, h4⟩ := tst_t h2
    obtain ⟨h5, h6⟩ := tst_t h4
    rw [Nat.eq_of_beq_eq_true h1, Nat.eq_of_beq_eq_true h3, Nat.eq_of_beq_eq_true h5, Nat.eq_of_beq_eq_true h6]
  | .win r i o n, y, h => by
    cases y <;> first | (cases h; done) | skip
    obtain ⟨h1, h2⟩ := tst_t h
    obtain ⟨h3, h4⟩ := tst_t h2
    obtain ⟨h5, h6⟩ := tst_t h4
    rw [Nat.eq_of_beq_eq_true h1, Nat.eq_of_beq_eq_true h3, Nat.eq_of_beq_eq_true h5, Nat.eq_of_beq_eq_true h6]
  | .ptr r i o, y, h => by
    cases y <;> first | (cases h; done) | skip
    obtain ⟨h1, h2⟩ := tst_t h
    obtain ⟨h3, h4⟩ := tst_t h2
    rw [Nat.eq_of_beq_eq_true h1, Nat.eq_of_beq_eq_true h3, Nat.eq_of_beq_eq_true h4]
  | .ag cs, y, h => by
    cases y <;> first | (cases h; done) | skip
    exact congrArg CV.ag (eqbL_t cs _ h)
  | .tp cs, y, h => by
    cases y <;> first | (cases h; done) | skip
    exact congrArg CV.tp (eqbL_t cs _ h)
  | .cl f cs, y, h => by
    cases y <;> first | (cases h; done) | skip
    obtain ⟨h1, h2⟩ := tst_t h
    rw [show f = _ from Nat.eq_of_beq_eq_true h1, eqbL_t cs _ (show eqbL cs _ = true from h2)]
theorem eqbL_t : ∀ (l k : List CV), eqbL l k = true → l = k
  | [], k, h => by
    cases k with
    | nil => rfl
    | cons y k => cases h
  | x :: l, k, h => by
    cases k with
    | nil => cases h
    | cons y k =>
      obtain ⟨h1, h2⟩ := tst_t (show tst (eqb x y) (eqbL l k) = true from h)
      rw [eqb_t x y h1, eqbL_t l k h2]
end
end Go.Proofs.YteanccnggaakeaaGreat
