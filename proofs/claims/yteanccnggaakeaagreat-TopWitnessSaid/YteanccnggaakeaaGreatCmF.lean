/- Operations without memory: numbers, comparisons, places. No condition. -/
import Derived.Test.YteanccnggaakeaaGreatCmE
namespace Go.Proofs.YteanccnggaakeaaGreat
open Go.RowKit
set_option linter.unusedVariables false
set_option linter.unusedSimpArgs false

/- The value of an operand. -/
def evv (T : Nat → CV) : Operand → CV
  | .tmp t => T t
  | .const v => ofU v
  | .global g => .val (.pointer (some ⟨g, 0, none⟩))
  | .func f => .val (.func (.func f) #[] #[])
noncomputable def evK (tm : Tr CV) (x : Operand) (K : CV → Bool) : Bool :=
  Operand.rec (fun t => tm.getK t K) (fun v => ofUK v K) (fun g => K (.val (.pointer (some ⟨g, 0, none⟩)))) (fun f => K (.val (.func (.func f) #[] #[]))) x
theorem evK_eq (tm : Tr CV) (x : Operand) (K : CV → Bool) : evK tm x K = K (evv tm.get x) := by
  cases x with
  | tmp t => exact Tr.getK_eq t K tm
  | const v => exact ofUK_eq v K
  | global g => rfl
  | func f => rfl

/- It goes on with what stands for the value of m, in whatever world; G, y: what is known of operands. -/

section
variable {P : Program}
/- What two values make: from ghosts that fit them. -/
def Two (P : Program) (f : Value → Value → Sem Value) (a b v : CV) : Prop := ∀ (G : Gh) (x y : Value), R G a x → R G b y → ∃ z, R G v z ∧ ∀ w : World, (f x y).run P w = .ok z w
def One (P : Program) (f : Value → Sem Value) (a v : CV) : Prop := ∀ (G : Gh) (x : Value), R G a x → ∃ z, R G v z ∧ ∀ w : World, (f x).run P w = .ok z w
theorem GoesZ.two {K : KV} {op : BinOp} {k k' : IntKind} {x y : Int} {a b : CV} (h : GoesZ K op k x y) (ha : a.gr = some (.int k x)) (hb : b.gr = some (.int k' y)) (hk : shiftB op = true ∨ k = k') (t : TypeId) (ox oy : Operand) :
    ∃ v, K v = true ∧ Two P (fun x y => do eqGuard op t ox oy x y; binOp op t x y) a b v := by
  obtain ⟨z, h1, v, h2, h3⟩ := h
  refine ⟨v, h2, fun G x' y' hx hy => ⟨z, gr_R h3, fun w => ?_⟩⟩
  rw [gr_eq ha hx, gr_eq hb hy]
  exact binZ_run h1 hk P t ox oy w
noncomputable def shK (op : BinOp) : Bool := BinOp.rec false false false false false false false false true true false false false false false false false op
theorem shK_eq (op : BinOp) : shK op = shiftB op := by cases op <;> rfl
noncomputable def kOk (op : BinOp) (k k' : IntKind) (x : Bool) : Bool := Bool.rec (tst (keq k k') x) x (shK op)
theorem kOk_t {op : BinOp} {k k' : IntKind} {x : Bool} (h : kOk op k k' x = true) : (shiftB op = true ∨ k = k') ∧ x = true := by
  rcases rec_b (show (Bool.rec (tst (keq k k') x) x (shK op) : Bool) = true from h) with ⟨h1, h2⟩ | ⟨h1, h2⟩
  · exact ⟨.inl (by rw [← shK_eq]; exact h1), h2⟩
  · obtain ⟨h3, h4⟩ := tst_t h2
    exact ⟨.inr (keq_t h3), h4⟩
/- Equal or not. -/
noncomputable def xEq (b : Bool) (op : BinOp) (K : KV) : Bool := BinOp.rec false false false false false false false false false false false (yB b K) (yB (Bool.rec true false b) K) false false false false op
theorem xEq_t {b : Bool} {op : BinOp} {K : KV} (h : xEq b op K = true) : (op = .eql ∧ Goes K (.bool b)) ∨ (op = .neq ∧ Goes K (.bool (!b))) := by
  cases op <;> first | (cases h; done) | skip
  · exact .inl ⟨rfl, yB_t h⟩
  · exact .inr ⟨rfl, by cases b <;> exact yB_t h⟩
def isBoolT (P : Program) (t : TypeId) : Bool := match P.underlying t with | some .bool => true | _ => false
def isSlT (P : Program) (t : TypeId) : Bool := match P.underlying t with | some (.slice _) => true | _ => false
def isPtT (P : Program) (t : TypeId) : Bool := match P.underlying t with | some (.pointer _) => true | _ => false
theorem eq_two {op : BinOp} {t : TypeId} {ox oy : Operand} {K : KV} {a b : CV} {e : Bool} (h : xEq e op K = true)
    (hg : ∀ (G : Gh) (x y : Value), R G a x → R G b y → (∀ w : World, (eqGuard op t ox oy x y).run P w = .ok () w) ∧ (∀ w : World, (Op.equal t x y).run P w = .ok e w) ∧ (∀ w : World, (binOp op t x y).run P w = (match op with | .eql => (do pure (.bool (← Op.equal t x y)) : Sem Value) | _ => (do pure (.bool (!(← Op.equal t x y))) : Sem Value)).run P w)) :
    ∃ v, K v = true ∧ Two P (fun x y => do eqGuard op t ox oy x y; binOp op t x y) a b v := by
  rcases xEq_t h with ⟨rfl, v, h1, h2⟩ | ⟨rfl, v, h1, h2⟩ <;> refine ⟨v, h1, fun G x y hx hy => ⟨_, gr_R h2, fun w => ?_⟩⟩ <;> obtain ⟨k1, k2, k3⟩ := hg G x y hx hy <;>
    simp only [Sem.run_bind, k1, Result.andThen_ok, k3, k2, Sem.run_pure]
noncomputable def xBool (P : Program) (t : TypeId) (op : BinOp) (p q : Bool) (K : KV) : Bool := tst (isBoolT P t) (xEq (Bool.rec (Bool.rec true false q) q p) op K)
theorem xBool_t {t : TypeId} {op : BinOp} {p q : Bool} {K : KV} (h : xBool P t op p q K = true) (ox oy : Operand) : ∃ v, K v = true ∧ Two P (fun x y => do eqGuard op t ox oy x y; binOp op t x y) (.bo p) (.bo q) v := by
  obtain ⟨h1, h2⟩ := tst_t h
  have hu : P.underlying t = some .bool := by
    unfold isBoolT at h1
    split at h1
    · assumption
    · cases h1
  have he : (Bool.rec (Bool.rec true false q) q p : Bool) = (p == q) := by cases p <;> cases q <;> rfl
  rw [he] at h2
  refine eq_two h2 fun G x y hx hy => ?_
  simp only [R] at hx hy
  subst hx hy
  refine ⟨fun w => by simp only [eqGuard]; split <;> rfl, fun w => run_equalIn_bool' w 9999 t p q hu, fun w => ?_⟩
  rcases xEq_t h2 with ⟨rfl, _⟩ | ⟨rfl, _⟩ <;> simp [binOp]
/- Against nil. -/
noncomputable def nilV (P : Program) (t : TypeId) (op : BinOp) (K : KV) (sl : Bool) (v : Value) : Bool :=
  vCs (fun _ => false) (fun v => match v with | .slice none 0 0 => tst sl (tst (isSlT P t) (xEq true op K)) | .pointer none => Bool.rec (tst (isPtT P t) (xEq true op K)) false sl | _ => false) v
noncomputable def xNil (P : Program) (t : TypeId) (op : BinOp) (K : KV) (sl : Bool) (a : CV) : Bool :=
  CV.rec (motive_1 := fun _ => Bool) (motive_2 := fun _ => PUnit) (fun _ _ => false) (fun _ _ => false) (fun _ => false) (nilV P t op K sl) (fun _ _ _ => tst sl (tst (isSlT P t) (xEq false op K))) (fun _ _ n _ => Nat.rec false (fun _ _ => tst sl (tst (isSlT P t) (xEq false op K))) n) (fun _ _ _ _ => false)
    (fun _ _ _ => Bool.rec (tst (isPtT P t) (xEq false op K)) false sl) (fun _ _ => false) (fun _ _ => false) (fun _ _ _ => false) .unit (fun _ _ _ _ => .unit) a
theorem eq_slice {t d0 : TypeId} (hu : P.underlying t = some (.slice d0)) (d : Nat) (A : Option Addr) (n c : Nat) (w : World) : (Op.equalIn (d + 1) t (.slice A n c) (.slice none 0 0)).run P w = .ok A.isNone w := by
  cases A <;> simp [Op.equalIn, run_underlying hu]
theorem eq_ptr {t d0 : TypeId} (hu : P.underlying t = some (.pointer d0)) (d : Nat) (A : Option Addr) (w : World) : (Op.equalIn (d + 1) t (.pointer A) (.pointer none)).run P w = .ok A.isNone w := by
  cases A <;> simp [Op.equalIn, run_underlying hu]
theorem sl_two {t : TypeId} {op : BinOp} {K : KV} {a : CV} {e : Bool} (h : tst (isSlT P t) (xEq e op K) = true) (ha : ∀ (G : Gh) (x : Value), R G a x → ∃ A n c, x = .slice A n c ∧ A.isNone = e) (ox oy : Operand) :
    ∃ v, K v = true ∧ Two P (fun x y => do eqGuard op t ox oy x y; binOp op t x y) a (.val (.slice none 0 0)) v := by
  obtain ⟨h1, h2⟩ := tst_t h
  have hu : ∃ d, P.underlying t = some (.slice d) := by
    unfold isSlT at h1
    split at h1
    · exact ⟨_, by assumption⟩
    · cases h1
  obtain ⟨d, hu⟩ := hu
  refine eq_two h2 fun G x y hx hy => ?_
  obtain ⟨A, n, c, rfl, hA⟩ := ha G x hx
  simp only [R] at hy
  subst hy
  refine ⟨fun w => by simp only [eqGuard]; split <;> rfl, fun w => ?_, fun w => ?_⟩
  · rw [← hA]; exact eq_slice hu 9999 A n c w
  · rcases xEq_t h2 with ⟨rfl, _⟩ | ⟨rfl, _⟩ <;> simp [binOp]
theorem pt_two {t : TypeId} {op : BinOp} {K : KV} {a : CV} {e : Bool} (h : tst (isPtT P t) (xEq e op K) = true) (ha : ∀ (G : Gh) (x : Value), R G a x → ∃ A, x = .pointer A ∧ A.isNone = e) (ox oy : Operand) :
    ∃ v, K v = true ∧ Two P (fun x y => do eqGuard op t ox oy x y; binOp op t x y) a (.val (.pointer none)) v := by
  obtain ⟨h1, h2⟩ := tst_t h
  have hu : ∃ d, P.underlying t = some (.pointer d) := by
    unfold isPtT at h1
    split at h1
    · exact ⟨_, by assumption⟩
    · cases h1
  obtain ⟨d, hu⟩ := hu
  refine eq_two h2 fun G x y hx hy => ?_
  obtain ⟨A, rfl, hA⟩ := ha G x hx
  simp only [R] at hy
  subst hy
  refine ⟨fun w => by simp only [eqGuard]; split <;> rfl, fun w => ?_, fun w => ?_⟩
  · rw [← hA]; exact eq_ptr hu 9999 A w
  · rcases xEq_t h2 with ⟨rfl, _⟩ | ⟨rfl, _⟩ <;> simp [binOp]
theorem nilV_t {t : TypeId} {op : BinOp} {K : KV} {sl : Bool} {v : Value} (h : nilV P t op K sl v = true) :
    (v = .slice none 0 0 ∧ sl = true ∧ tst (isSlT P t) (xEq true op K) = true) ∨ (v = .pointer none ∧ sl = false ∧ tst (isPtT P t) (xEq true op K) = true) := by
  cases v <;> first | (cases h; done) | skip
  · rename_i A
    cases A with
    | none =>
      rcases rec_b (show (Bool.rec (tst (isPtT P t) (xEq true op K)) false sl : Bool) = true from h) with ⟨_, h2⟩ | ⟨h1, h2⟩
      · cases h2
      · exact .inr ⟨rfl, h1, h2⟩
    | some A => cases h
  · rename_i A n c
    cases A with
    | none =>
      cases n with
      | zero =>
        cases c with
        | zero => obtain ⟨h1, h2⟩ := tst_t (show tst sl (tst (isSlT P t) (xEq true op K)) = true from h); exact .inl ⟨rfl, h1, h2⟩
        | succ c => cases h
      | succ n => cases h
    | some A => cases h
theorem xNil_t {t : TypeId} {op : BinOp} {K : KV} {sl : Bool} {a : CV} (h : xNil P t op K sl a = true) (ox oy : Operand) :
    ∃ v, K v = true ∧ Two P (fun x y => do eqGuard op t ox oy x y; binOp op t x y) a (.val (if sl = true then .slice none 0 0 else .pointer none)) v := by
  cases a <;> first | (cases h; done) | skip
  · rename_i v
    rcases nilV_t (show nilV P t op K sl v = true from h) with ⟨rfl, rfl, h⟩ | ⟨rfl, rfl, h⟩
    · exact sl_two h (fun G x hx => by simp only [R] at hx; exact ⟨_, _, _, hx, rfl⟩) ox oy
    · exact pt_two h (fun G x hx => by simp only [R] at hx; exact ⟨_, hx, rfl⟩) ox oy
  · obtain ⟨rfl, h⟩ := tst_t h
    exact sl_two h (fun G x hx => by simp only [R] at hx; obtain ⟨_, _, _, rfl⟩ := hx; exact ⟨_, _, _, rfl, rfl⟩) ox oy
  · rename_i r o n s
    cases n with
    | zero => cases h
    | succ n =>
      obtain ⟨rfl, h⟩ := tst_t (show tst sl (tst (isSlT P t) (xEq false op K)) = true from h)
      exact sl_two h (fun G x hx => by
        simp only [R] at hx
        obtain ⟨_, _, A, c, rfl, _, hA⟩ := hx
        rcases hA with hA | rfl
        · omega
        · exact ⟨_, _, _, rfl, rfl⟩) ox oy
  · rcases rec_b (show (Bool.rec (tst (isPtT P t) (xEq false op K)) false sl : Bool) = true from h) with ⟨_, h2⟩ | ⟨rfl, h2⟩
    · cases h2
    · exact pt_two h2 (fun G x hx => by simp only [R] at hx; obtain ⟨_, rfl⟩ := hx; exact ⟨_, rfl, rfl⟩) ox oy

/- Structs and arrays. -/
noncomputable def ceqK (q : Bool) (K : Bool → Bool) (x y : CV) : Bool :=
  CV.cs (fun k m => tst q (CV.cs (fun k' m' => tst (keq k k') (K (Nat.beq m m'))) (fun k' _ => tst (keq k k') (K false)) (fun _ => false) (fun _ => false) (fun _ _ _ => false) (fun _ _ _ _ => false) (fun _ _ _ _ => false) (fun _ _ _ => false) (fun _ => false) (fun _ => false) (fun _ _ => false) y))
    (fun k m => tst q (CV.cs (fun k' _ => tst (keq k k') (K false)) (fun k' m' => tst (keq k k') (K (Nat.beq m m'))) (fun _ => false) (fun _ => false) (fun _ _ _ => false) (fun _ _ _ _ => false) (fun _ _ _ _ => false) (fun _ _ _ => false) (fun _ => false) (fun _ => false) (fun _ _ => false) y))
    (fun b => Bool.rec (onBool (fun c => K (Bool.rec (Bool.rec true false c) c b)) y) false q) (fun _ => false) (fun _ _ _ => false) (fun _ _ _ _ => false) (fun _ _ _ _ => false) (fun _ _ _ => false) (fun _ => false) (fun _ => false) (fun _ _ => false) x
theorem ceqK_t {q : Bool} {K : Bool → Bool} {x y : CV} (h : ceqK q K x y = true) : ∃ u v b, x.gr = some u ∧ y.gr = some v ∧ K b = true ∧ ∀ l xs ys e, cmp l xs ys = some e → cmp (q :: l) (u :: xs) (v :: ys) = some (b && e) := by
  cases x <;> first | (cases h; done) | skip
  · rename_i k m
    obtain ⟨hq, h'⟩ := tst_t h
    subst hq
    cases y <;> first | (cases h'; done) | skip
    · rename_i k' m'
      obtain ⟨h1, h2⟩ := tst_t (show tst (keq k k') (K (Nat.beq m m')) = true from h')
      obtain rfl := keq_t h1
      refine ⟨_, _, _, rfl, rfl, h2, fun l xs ys e he => ?_⟩
      have : ((m : Int) == (m' : Int)) = Nat.beq m m' := by
        rw [Bool.eq_iff_iff]
        simp
        omega
      simp [cmp, he, this]
    · rename_i k' m'
      obtain ⟨h1, h2⟩ := tst_t (show tst (keq k k') (K false) = true from h')
      obtain rfl := keq_t h1
      exact ⟨_, _, _, rfl, rfl, h2, fun l xs ys e he => by simp [cmp, he]⟩
  · rename_i k m
    obtain ⟨hq, h'⟩ := tst_t h
    subst hq
    cases y <;> first | (cases h'; done) | skip
    · rename_i k' m'
      obtain ⟨h1, h2⟩ := tst_t (show tst (keq k k') (K false) = true from h')
      obtain rfl := keq_t h1
      exact ⟨_, _, _, rfl, rfl, h2, fun l xs ys e he => by simp [cmp, he]⟩
    · rename_i k' m'
      obtain ⟨h1, h2⟩ := tst_t (show tst (keq k k') (K (Nat.beq m m')) = true from h')
      obtain rfl := keq_t h1
      refine ⟨_, _, _, rfl, rfl, h2, fun l xs ys e he => ?_⟩
      have : (Int.negSucc m == Int.negSucc m') = Nat.beq m m' := by
        rw [Bool.eq_iff_iff]; simp
      simp [cmp, he, this]
  · rename_i b
    rcases rec_b (show (Bool.rec (onBool (fun c => K (Bool.rec (Bool.rec true false c) c b)) y) false q : Bool) = true from h) with ⟨_, h2⟩ | ⟨rfl, h2⟩
    · cases h2
    · obtain ⟨c, rfl, h3⟩ := onBool_t h2
      have he : (Bool.rec (Bool.rec true false c) c b : Bool) = (b == c) := by cases b <;> cases c <;> rfl
      rw [he] at h3
      exact ⟨_, _, _, rfl, rfl, h3, fun l xs ys e he => by simp [cmp, he]⟩
noncomputable def cmpK (l : List Bool) : List CV → List CV → Bool → (Bool → Bool) → Bool :=
  List.rec (fun xs ys c K => List.rec (List.rec (K c) (fun _ _ _ => false) ys) (fun _ _ _ => false) xs) (fun q _ ih xs ys c K => List.rec false (fun x xs _ => List.rec false (fun y ys _ => ceqK q (fun b => ih xs ys (Bool.rec false b c) K) x y) ys) xs) l
theorem cmpK_t {K : Bool → Bool} : ∀ {l : List Bool} {xs ys : List CV} {c : Bool}, cmpK l xs ys c K = true → ∃ us vs e, K (c && e) = true ∧ xs.map CV.gr = us.map some ∧ ys.map CV.gr = vs.map some ∧ cmp l us vs = some e
  | [], xs, ys, c, h => by
    cases xs with
    | nil =>
      cases ys with
      | nil => exact ⟨[], [], true, by rw [Bool.and_true]; exact h, rfl, rfl, rfl⟩
      | cons y ys => cases h
    | cons x xs => cases h
  | q :: l, xs, ys, c, h => by
    cases xs with
    | nil => cases h
    | cons x xs =>
      cases ys with
      | nil => cases h
      | cons y ys =>
        obtain ⟨u, v, b, h1, h2, h3, h4⟩ := ceqK_t (show ceqK q (fun b => cmpK l xs ys (Bool.rec false b c) K) x y = true from h)
        obtain ⟨us, vs, e, k1, k2, k3, k4⟩ := cmpK_t h3
        refine ⟨u :: us, v :: vs, b && e, ?_, by simp [h1, k2], by simp [h2, k3], h4 _ _ _ _ k4⟩
        rw [← k1]
        congr 1
        cases c <;> rfl
theorem Rs.gr {G : Gh} : ∀ {xs : List CV} {us vs : List Value}, xs.map CV.gr = us.map some → Rs G xs vs → vs = us
  | [], us, vs, h, hr => by
    simp only [Rs] at hr
    cases us with
    | nil => exact hr
    | cons u us => simp at h
  | x :: xs, us, vs, h, hr => by
    simp only [Rs] at hr
    obtain ⟨u', t, rfl, h1, _, h2⟩ := hr
    cases us with
    | nil => simp at h
    | cons u us =>
      simp only [List.map_cons, List.cons.injEq] at h
      rw [gr_eq h.1 h1, Rs.gr h.2 h2]
def eqT (P : Program) (t : TypeId) : Option (List Bool) := if (aggT P t && !P.eqGuardType P.depth t) = true then shp P 4 t else none
noncomputable def xAgg (P : Program) (t : TypeId) (op : BinOp) (a b : CV) (K : KV) : Bool := og (eqT P t) fun l => agK (fun xs => agK (fun ys => cmpK l xs ys true fun e => xEq e op K) b) a
theorem xAgg_t {t : TypeId} {op : BinOp} {a b : CV} {K : KV} (h : xAgg P t op a b K = true) (ox oy : Operand) : ∃ v, K v = true ∧ Two P (fun x y => do eqGuard op t ox oy x y; binOp op t x y) a b v := by
  obtain ⟨l, h1, h2⟩ := og_t h
  obtain ⟨xs, h3, ha⟩ := agK_t h2
  obtain ⟨ys, h4, hb⟩ := agK_t h3
  obtain ⟨us, vs, e, h5, h6, h7, h8⟩ := cmpK_t h4
  rw [Bool.true_and] at h5
  unfold eqT at h1
  split at h1
  · rename_i hc
    simp only [Bool.and_eq_true, Bool.not_eq_true'] at hc
    refine eq_two h5 fun G x y hx hy => ?_
    obtain ⟨xv, rfl, hxv⟩ := ha G x hx
    obtain ⟨yv, rfl, hyv⟩ := hb G y hy
    rw [hxv.gr h6, hyv.gr h7]
    refine ⟨fun w => run_eqGuard_agg w op t ox oy _ _ hc.2, fun w => (shp_run 4 t l h1 w 10000 (by omega) us vs e h8).1 hc.1, fun w => ?_⟩
    rcases xEq_t h5 with ⟨rfl, _⟩ | ⟨rfl, _⟩ <;> simp [binOp]
  · cases h1
noncomputable def xBin (P : Program) (op : BinOp) (t : TypeId) (a b : CV) (K : KV) : Bool :=
  CV.cs (fun k' n => CV.cs (fun k m => kOk op k k' (nInt op k m n K)) (fun k m => kOk op k k' (zInt op k (.negSucc m) (.ofNat n) K)) (fun _ => false) (fun _ => false) (fun _ _ _ => false) (fun _ _ _ _ => false) (fun _ _ _ _ => false) (fun _ _ _ => false) (fun _ => false) (fun _ => false) (fun _ _ => false) a)
    (fun k' n => CV.cs (fun k m => kOk op k k' (zInt op k (.ofNat m) (.negSucc n) K)) (fun k m => kOk op k k' (zInt op k (.negSucc m) (.negSucc n) K)) (fun _ => false) (fun _ => false) (fun _ _ _ => false) (fun _ _ _ _ => false) (fun _ _ _ _ => false) (fun _ _ _ => false) (fun _ => false) (fun _ => false) (fun _ _ => false) a)
    (fun q => onBool (fun p => xBool P t op p q K) a) (fun v => vCs (fun cs => xAgg P t op a (.val (.agg cs)) K) (fun v => match v with | .slice none 0 0 => xNil P t op K true a | .pointer none => xNil P t op K false a | _ => false) v)
    (fun _ _ _ => false) (fun _ _ _ _ => false) (fun _ _ _ _ => false) (fun _ _ _ => false) (fun l => xAgg P t op a (.ag l) K) (fun _ => false) (fun _ _ => false) b
theorem xBin_t {op : BinOp} {t : TypeId} {a b : CV} {K : KV} (h : xBin P op t a b K = true) (ox oy : Operand) : ∃ v, K v = true ∧ Two P (fun x y => do eqGuard op t ox oy x y; binOp op t x y) a b v := by
  cases b <;> first | (cases h; done) | skip
  · cases a <;> first | (cases h; done) | skip
    · obtain ⟨h1, h2⟩ := kOk_t h
      exact (nInt_t h2).two rfl rfl h1 t ox oy
    · obtain ⟨h1, h2⟩ := kOk_t h
      exact (zInt_t h2).two rfl rfl h1 t ox oy
  · cases a <;> first | (cases h; done) | skip
    · obtain ⟨h1, h2⟩ := kOk_t h
      exact (zInt_t h2).two rfl rfl h1 t ox oy
    · obtain ⟨h1, h2⟩ := kOk_t h
      exact (zInt_t h2).two rfl rfl h1 t ox oy
  · obtain ⟨p, rfl, h2⟩ := onBool_t h
    exact xBool_t h2 ox oy
  · rename_i v
    cases v <;> first | (cases h; done) | skip
    · rename_i A
      cases A with
      | none => exact xNil_t (sl := false) h ox oy
      | some A => cases h
    · rename_i A n c
      cases A with
      | none =>
        cases n with
        | zero =>
          cases c with
          | zero => exact xNil_t (sl := true) h ox oy
          | succ c => cases h
        | succ n => cases h
      | some A => cases h
    · exact xAgg_t h ox oy
  · exact xAgg_t h ox oy
noncomputable def xUn (op : UnOp) (a : CV) (K : KV) : Bool :=
  UnOp.rec (CV.cs (fun k m => zInt .sub k 0 (.ofNat m) K) (fun k m => zInt .sub k 0 (.negSucc m) K) (fun _ => false) (fun _ => false) (fun _ _ _ => false) (fun _ _ _ _ => false) (fun _ _ _ _ => false) (fun _ _ _ => false) (fun _ => false) (fun _ => false) (fun _ _ => false) a)
    (onNat (fun k m => zInt .xor k (if k.signed then -1 else k.max) (.ofNat m) K) a)
    (onBool (fun b => Bool.rec (K (.bo true)) (K (.bo false)) b) a) false op
theorem xUn_t {op : UnOp} {a : CV} {K : KV} (h : xUn op a K = true) : ∃ v, K v = true ∧ One P (Op.unary op) a v := by
  have sub : ∀ (k : IntKind) (m : Int), a.gr = some (.int k m) → GoesZ K .sub k 0 m → ∃ v, K v = true ∧ One P (Op.unary .neg) a v := fun k m ha ⟨z, h1, v, h2, h3⟩ => ⟨v, h2, fun G x hx => ⟨z, gr_R h3, fun w => by
    simp only [binZ, Option.some.injEq] at h1
    subst h1
    rw [gr_eq ha hx]
    simp [Op.unary, Op.intArith]⟩⟩
  cases op with
  | neg =>
    cases a <;> first | (cases h; done) | skip
    · exact sub _ _ rfl (zInt_t h)
    · exact sub _ _ rfl (zInt_t h)
  | not =>
    obtain ⟨b, rfl, h⟩ := onBool_t (show onBool (fun b => (Bool.rec (K (.bo true)) (K (.bo false)) b : Bool)) a = true from h)
    cases b with
    | true => exact ⟨_, h, fun G x hx => ⟨.bool false, by simp [R], fun w => by simp only [R] at hx; subst hx; simp [Op.unary]⟩⟩
    | false => exact ⟨_, h, fun G x hx => ⟨.bool true, by simp [R], fun w => by simp only [R] at hx; subst hx; simp [Op.unary]⟩⟩
  | xor =>
    obtain ⟨k, m, rfl, h'⟩ := onNat_t (show onNat (fun k m => zInt .xor k (if k.signed then -1 else k.max) (.ofNat m) K) a = true from h)
    obtain ⟨z, h1, v, h2, h3⟩ := zInt_t h'
    refine ⟨v, h2, fun G x hx => ⟨z, gr_R h3, fun w => ?_⟩⟩
    simp only [R] at hx
    subst hx
    simp only [binZ, Option.some.injEq] at h1
    subst h1
    simp [Op.unary, Op.intBits]
  | plus => cases h
def cInt (P : Program) (s d : TypeId) : Option IntKind := match P.underlying s, P.underlying d with | some _, some (.int k) => some k | _, _ => none
noncomputable def xCv (P : Program) (s d : TypeId) (a : CV) (K : KV) : Bool :=
  og (cInt P s d) fun k => CV.cs (fun _ m => wN k m K) (fun _ m => yI k (k.wrap (.negSucc m)) K) (fun _ => false) (fun _ => false) (fun _ _ _ => false) (fun _ _ _ _ => false) (fun _ _ _ _ => false) (fun _ _ _ => false) (fun _ => false) (fun _ => false) (fun _ _ => false) a
theorem xCv_t {s d : TypeId} {a : CV} {K : KV} (h : xCv P s d a K = true) : ∃ v, K v = true ∧ One P (convert s d) a v := by
  obtain ⟨k, h1, h2⟩ := og_t h
  have hu : (∃ e, P.underlying s = some e) ∧ P.underlying d = some (.int k) := by
    unfold cInt at h1
    split at h1
    · rename_i e k' he hk
      injection h1 with h1
      subst h1
      exact ⟨⟨e, he⟩, hk⟩
    · cases h1
  obtain ⟨⟨e, hs⟩, hd⟩ := hu
  have run : ∀ (q : IntKind) (n : Int) (w : World), (convert s d (.int q n)).run P w = .ok (.int k (k.wrap n)) w := fun q n w => by
    simp only [convert, Sem.run_bind, run_underlying hs, run_underlying hd, Result.andThen_ok]
    cases e <;> rfl
  cases a <;> first | (cases h2; done) | skip
  · obtain ⟨v, k1, k2⟩ := wN_t h2
    exact ⟨v, k1, fun G x hx => ⟨_, gr_R k2, fun w => by simp only [R] at hx; subst hx; exact run _ _ w⟩⟩
  · obtain ⟨v, k1, k2⟩ := yI_t h2
    exact ⟨v, k1, fun G x hx => ⟨_, gr_R k2, fun w => by simp only [R] at hx; subst hx; exact run _ _ w⟩⟩
end
end Go.Proofs.YteanccnggaakeaaGreat
