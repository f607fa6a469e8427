/- All operations but calls of functions. No condition. -/
import Derived.Test.YteanccnggaakeaaGreatCmL
namespace Go.Proofs.YteanccnggaakeaaGreat
open Go.RowKit
set_option linter.unusedVariables false
set_option linter.unusedSimpArgs false

noncomputable def evO (tm : Tr CV) (x : Option Operand) (K : Option CV → Bool) : Bool := Option.rec (K none) (fun x => evK tm x fun v => K (some v)) x
theorem evO_eq (tm : Tr CV) (x : Option Operand) (K : Option CV → Bool) : evO tm x K = K (x.map (evv tm.get)) := by
  cases x with
  | none => rfl
  | some x => exact evK_eq tm x _
noncomputable def xBuiltin (P : Program) (tm : Tr CV) (m : Tr CR) (nb : Nat) (K : KO) (b : Builtin) (args : List Operand) (ts : List TypeId) : Bool :=
  match b with
  | .len => (match args, ts with | [x], [t] => evK tm x fun a => xLen P t a fun v => K v m nb | _, _ => false)
  | .append => (match args, ts with | [x, y], [t, t'] => evK tm x fun a => evK tm y fun b => tst (Nat.beq t t') (xAppend P m nb t a b K) | _, _ => false)
  | .copy => (match args, ts with | [x, y], [t, t'] => evK tm x fun a => evK tm y fun b => xCopy P m nb t a b K | _, _ => false)
  | .max => (match args with | [x, y] => evK tm x fun a => evK tm y fun b => xMax a b fun v => K v m nb | _ => false)
  | .min => (match args with | [x, y] => evK tm x fun a => evK tm y fun b => xMin a b fun v => K v m nb | _ => false)
  | _ => false
noncomputable def xop (P : Program) (CK : Operand → List Operand → Bool) (tm : Tr CV) (m : Tr CR) (nb : Nat) (K : KO) (op : Op) : Bool :=
  Op.rec (motive := fun _ => Bool) (fun x => evK tm x fun v => K v m nb) (fun x => evK tm x fun v => K v m nb)
    (fun c x y => evK tm c (onBool fun t => Bool.rec (evK tm y fun v => K v m nb) (evK tm x fun v => K v m nb) t))
    (fun t => xAlloc P m nb t K) (fun t x => evK tm x fun a => xBox m nb t a K) (fun t ps => xBuild P tm t ps.toList fun v => K v m nb) (fun t n ps => xBuildSlice P tm m nb t n ps.toList K) (fun _ _ _ _ => false)
    (fun t x => evK tm x fun a => xLoad P m t a fun v => K v m nb) (fun t x y => evK tm x fun a => evK tm y fun b => xStore P m nb t a b K) (fun _ => false) (fun _ => false)
    (fun x => evK tm x (onPtr fun r i o => K (.ptr r i o) m nb)) (fun op t x y _ => evK tm x fun a => evK tm y fun b => xBin P op t a b fun v => K v m nb) (fun op _ x => evK tm x fun a => xUn op a fun v => K v m nb)
    (fun s d x => evK tm x fun a => xCv P s d a fun v => K v m nb) (fun _ _ => false) (fun _ _ => false) (fun fn first cap => xFunc tm fn first.toList cap.toList fun v => K v m nb) (fun _ _ => false) (fun _ _ => false)
    (fun t l c => evK tm l fun a => evK tm c fun b => xMakeSlice P m nb t a b K)
    (fun t x lo hi mx => evK tm x fun a => evO tm lo fun lo => evO tm hi fun hi => Option.rec (xSlice P t a lo hi fun v => K v m nb) (fun _ => false) mx)
    (fun t x f => evK tm x fun a => xFieldAddr P t f a fun v => K v m nb) (fun t x f => evK tm x fun a => xField P t f a fun v => K v m nb)
    (fun t x i => evK tm x fun a => evK tm i fun i => xIndexAddr P t a i fun v => K v m nb) (fun t x i => evK tm x fun a => evK tm i fun i => xIndex P t a i fun v => K v m nb)
    (fun _ _ _ _ => false) (fun _ _ _ _ => false) (fun _ _ _ => false) (fun _ _ _ _ => false) (fun _ _ => false) (fun _ _ => false) (fun _ => false) (fun _ _ _ _ => false)
    (fun x i => evK tm x fun a => xExtract i a fun v => K v m nb)
    (fun c => Call.rec (fun cl args ts => Callee.rec (fun f => CK f args.toList) (fun _ _ => false) (fun b => xBuiltin P tm m nb K b args.toList ts.toList) cl) c)
    (fun _ => false) (fun _ => false) (fun _ => false) (fun _ _ => false) (fun _ _ _ => false) (fun _ _ => false) op

inductive Kd where
  | pure | load | light | heavy
/- What an operation does with rows. -/
def kd : Op → Kd
  | .load _ _ => .load
  | .alloc _ => .light
  | .box _ _ => .light
  | .buildSlice _ _ _ => .light
  | .makeSlice _ _ _ => .light
  | .store _ _ _ => .heavy
  | .call { callee := .builtin .len, .. } => .pure
  | .call { callee := .builtin .max, .. } => .pure
  | .call { callee := .builtin .min, .. } => .pure
  | .call _ => .heavy
  | _ => .pure
def KdOK (P : Program) (ev : Operand → CV) (o : Oper) (m : Tr CR) (nb : Nat) (v : CV) (m' : Tr CR) (nb' : Nat) : Prop :=
  match kd o.op with
  | .pure => PureOK P ev o v ∧ m' = m ∧ nb' = nb
  | .load => (∃ t x, o.op = .load t x ∧ Loads P (lk m) t (ev x) v) ∧ m' = m ∧ nb' = nb
  | .light => nb < NM ∧ ∃ row, LightOK P ev o nb v row ∧ m' = m.set nb row ∧ nb' = nb + 1
  | .heavy => True
section
variable {P : Program} {ev : Operand → CV} {o : Oper} {m m' : Tr CR} {v : CV} {nb nb' : Nat}
theorem Loads.ok {t : TypeId} {x : Operand} {M : Nat → CR} (hop : o.op = .load t x) (h : Loads P M t (ev x) v) : LoadOK P ev o M v := fun F w0 G a w hF hs => by
  obtain ⟨ad, y, h1, h2, h3⟩ := h F w0 G w (a.eval x) hF (hs x (by simp [hop, Op.operands]))
  refine ⟨y, h2, ?_⟩
  simp only [execOp, hop, h1]
  exact run_value (loadAt_run h3)
theorem OpOK.of_run {M M' : Nat → CR} (hle : nb ≤ nb') (h : ∀ (F : Nat → Prop) (w0 : World) (G : Gh) (a : Act) (w : World), Fit F w0 G M w → Free nb nb' G → Sees G ev a o →
    ∃ G' y w', Step nb nb' G G' ∧ R G' v y ∧ Fit F w0 G' M' w' ∧ (execOp a.eval o).run P w = .ok (.value y) w') : OpOK P ev o M nb v M' nb' := ⟨hle, fun F w0 G a w K Q hF hfr hs hk => by
  obtain ⟨G', y, w', h1, h2, h3, h4⟩ := h F w0 G a w hF hfr hs
  unfold Oper.wp
  rw [h4]
  exact hk G' y w' h1 h2 h3⟩
theorem KdOK.op (h : KdOK P ev o m nb v m' nb') (hk : kd o.op ≠ .heavy) (hm : MemOK m nb) : OpOK P ev o (lk m) nb v (lk m') nb' ∧ MemOK m' nb' := by
  unfold KdOK at h
  split at h
  · obtain ⟨h1, rfl, rfl⟩ := h
    exact ⟨h1.load.op, hm⟩
  · obtain ⟨⟨t, x, h0, h1⟩, rfl, rfl⟩ := h
    exact ⟨(h1.ok h0).op, hm⟩
  · obtain ⟨hn, row, h1, rfl, rfl⟩ := h
    refine ⟨?_, hm.set hn (by omega) (by omega) _⟩
    rw [lk_set hm.wf hn]
    exact h1 _
  · rename_i h0; exact (hk h0).elim
/- What comes out of an operation. -/
def Out1 (P : Program) (ev : Operand → CV) (o : Oper) (m : Tr CR) (nb : Nat) (K : KO) : Prop := ∃ v m' nb', K v m' nb' = true ∧ MemOK m' nb' ∧ OpOK P ev o (lk m) nb v (lk m') nb' ∧ KdOK P ev o m nb v m' nb'
theorem out_pure {K : KO} (hk : kd o.op = .pure) (hm : MemOK m nb) (h : ∃ v, K v m nb = true ∧ PureOK P ev o v) : Out1 P ev o m nb K := by
  obtain ⟨v, h1, h2⟩ := h
  have : KdOK P ev o m nb v m nb := by
    unfold KdOK; rw [hk]; exact ⟨h2, rfl, rfl⟩
  exact ⟨v, m, nb, h1, hm, (this.op (by rw [hk]; exact fun h => by cases h) hm).1, this⟩
theorem out_light {K : KO} (hk : kd o.op = .light) (hm : MemOK m nb) (h : ∃ v row, K v (m.set nb row) (nb + 1) = true ∧ nb < NM ∧ LightOK P ev o nb v row) : Out1 P ev o m nb K := by
  obtain ⟨v, row, h1, h2, h3⟩ := h
  have : KdOK P ev o m nb v (m.set nb row) (nb + 1) := by
    unfold KdOK; rw [hk]; exact ⟨h2, row, h3, rfl, rfl⟩
  obtain ⟨k1, k2⟩ := this.op (by rw [hk]; exact fun h => by cases h) hm
  exact ⟨v, _, _, h1, k2, k1, this⟩
theorem out_heavy {K : KO} (hk : kd o.op = .heavy) (h : ∃ v m' nb', K v m' nb' = true ∧ MemOK m' nb' ∧ OpOK P ev o (lk m) nb v (lk m') nb') : Out1 P ev o m nb K := by
  obtain ⟨v, m', nb', h1, h2, h3⟩ := h
  exact ⟨v, m', nb', h1, h2, h3, by unfold KdOK; rw [hk]; trivial⟩
theorem light_of {row : CR} (h : ∀ (M : Nat → CR) (F : Nat → Prop) (w0 : World) (G : Gh) (a : Act) (w : World), Fit F w0 G M w → ¬ G.dom nb → Sees G ev a o →
    ∃ G' y w', Step nb (nb + 1) G G' ∧ R G' v y ∧ Fit F w0 G' (upd M nb row) w' ∧ (execOp a.eval o).run P w = .ok (.value y) w') : LightOK P ev o nb v row := fun M =>
  .of_run (by omega) fun F w0 G a w hF hfr hs => h M F w0 G a w hF (hfr nb (Nat.le_refl _) (by omega)) hs
theorem pure1 {f : Value → Sem Value} {x : Operand} (hop : ∀ ρ, execOp ρ o = (do pure (.value (← f (ρ x))) : Sem Next)) (hx : x ∈ o.op.operands.toList) (h : One P f (ev x) v) : PureOK P ev o v := fun G a hs => by
  obtain ⟨z, h1, h2⟩ := h G _ (hs x hx)
  exact ⟨z, h1, fun w => by rw [hop]; exact run_value (h2 w)⟩
theorem pure2 {f : Value → Value → Sem Value} {x y : Operand} (hop : ∀ ρ, execOp ρ o = (do pure (.value (← f (ρ x) (ρ y))) : Sem Next)) (hx : x ∈ o.op.operands.toList) (hy : y ∈ o.op.operands.toList) (h : Two P f (ev x) (ev y) v) : PureOK P ev o v := fun G a hs => by
  obtain ⟨z, h1, h2⟩ := h G _ _ (hs x hx) (hs y hy)
  exact ⟨z, h1, fun w => by rw [hop]; exact run_value (h2 w)⟩
theorem builtin_run {c : Call} {b : Builtin} {a : Act} {w w' : World} {y : Value} (hop : o.op = .call c) (hcl : c.callee = .builtin b) (h : (builtin b c.argTypes o.type (c.args.map fun | .const _ => true | _ => false) (c.args.map a.eval)).run P w = .ok (.value y) w') : (execOp a.eval o).run P w = .ok (.value y) w' := by
  simp only [execOp, hop, resolve, hcl, Sem.run_bind, Sem.run_pure, Result.andThen_ok, invoke]
  exact h
end
def isVCall : Op → Bool
  | .call { callee := .value _, .. } => true
  | _ => false
section
variable {P : Program} {tm : Tr CV} {o : Oper} {m : Tr CR} {nb : Nat} {K : KO}
theorem xBuiltin_t {c : Call} {b : Builtin} (hop : o.op = .call c) (hcl : c.callee = .builtin b) (hm : MemOK m nb) (h : xBuiltin P tm m nb K b c.args.toList c.argTypes.toList = true) : Out1 P (evv tm.get) o m nb K := by
  obtain ⟨callee, args, ts⟩ := c
  simp only at hcl
  subst hcl
  have hmem : ∀ x, x ∈ args.toList → x ∈ o.op.operands.toList := fun x hx => by
    rw [hop]
    simp only [Op.operands, Call.operands]
    simpa using hx
  unfold xBuiltin at h
  simp only at h
  split at h
  · split at h
    · rename_i x t e1 e2
      have e1 : args = #[x] := by rw [← Array.toList_inj, e1]
      have e2 : ts = #[t] := by rw [← Array.toList_inj, e2]
      subst e1 e2
      rw [evK_eq] at h
      obtain ⟨v, h1, h2⟩ := xLen_t h o.type
      refine out_pure (by rw [hop]; rfl) hm ⟨v, h1, fun G a hs => ?_⟩
      obtain ⟨z, k1, k2⟩ := h2 G _ (hs x (hmem x (by simp)))
      exact ⟨z, k1, fun w => builtin_run hop rfl (by simp only [List.map_toArray, List.map_cons, List.map_nil]; exact run_value (k2 w))⟩
    · cases h
  · split at h
    · rename_i x y t t' e1 e2
      have e1 : args = #[x, y] := by rw [← Array.toList_inj, e1]
      have e2 : ts = #[t, t'] := by rw [← Array.toList_inj, e2]
      subst e1 e2
      rw [evK_eq, evK_eq] at h
      obtain ⟨ht, h9⟩ := tst_t h
      obtain rfl := Nat.eq_of_beq_eq_true ht
      obtain ⟨v, m', nb', h1, h2, h3, h4⟩ := xAppend_t hm h9 o.type
      refine out_heavy (by rw [hop]; rfl) ⟨v, m', nb', h1, h3, .of_run h2 fun F w0 G a w hF hfr hs => ?_⟩
      obtain ⟨G', z, w', k1, k2, k3, k4⟩ := h4 F w0 G w _ _ hF hfr (hs x (hmem x (by simp))) (hs y (hmem y (by simp)))
      exact ⟨G', z, w', k1, k2, k3, builtin_run hop rfl (by show (do pure (.value (← _)) : Sem Next).run P w = _; rw [Sem.run_bind]; simp only [List.map_toArray, List.map_cons, List.map_nil]; rw [k4]; rfl)⟩
    · cases h
  · split at h
    · rename_i x y t t' e1 e2
      have e1 : args = #[x, y] := by rw [← Array.toList_inj, e1]
      have e2 : ts = #[t, t'] := by rw [← Array.toList_inj, e2]
      subst e1 e2
      rw [evK_eq, evK_eq] at h
      obtain ⟨v, m', nb', h1, h2, h3, h4⟩ := xCopy_t hm h t' o.type
      refine out_heavy (by rw [hop]; rfl) ⟨v, m', nb', h1, h3, .of_run h2 fun F w0 G a w hF hfr hs => ?_⟩
      obtain ⟨G', z, w', k1, k2, k3, k4⟩ := h4 F w0 G w _ _ hF hfr (hs x (hmem x (by simp))) (hs y (hmem y (by simp)))
      exact ⟨G', z, w', k1, k2, k3, builtin_run hop rfl (by show (do pure (.value (← _)) : Sem Next).run P w = _; rw [Sem.run_bind]; simp only [List.map_toArray, List.map_cons, List.map_nil]; rw [k4]; rfl)⟩
    · cases h
  · split at h
    · rename_i x y e1
      have e1 : args = #[x, y] := by rw [← Array.toList_inj, e1]
      subst e1
      rw [evK_eq, evK_eq] at h
      obtain ⟨v, h1, h2⟩ := xMax_t (P := P) h ts o.type
      refine out_pure (by rw [hop]; rfl) hm ⟨v, h1, fun G a hs => ?_⟩
      obtain ⟨z, k1, k2⟩ := h2 G _ _ (hs x (hmem x (by simp))) (hs y (hmem y (by simp)))
      exact ⟨z, k1, fun w => builtin_run hop rfl (by simp only [List.map_toArray, List.map_cons, List.map_nil]; exact run_value (k2 w))⟩
    · cases h
  · split at h
    · rename_i x y e1
      have e1 : args = #[x, y] := by rw [← Array.toList_inj, e1]
      subst e1
      rw [evK_eq, evK_eq] at h
      obtain ⟨v, h1, h2⟩ := xMin_t (P := P) h ts o.type
      refine out_pure (by rw [hop]; rfl) hm ⟨v, h1, fun G a hs => ?_⟩
      obtain ⟨z, k1, k2⟩ := h2 G _ _ (hs x (hmem x (by simp))) (hs y (hmem y (by simp)))
      exact ⟨z, k1, fun w => builtin_run hop rfl (by simp only [List.map_toArray, List.map_cons, List.map_nil]; exact run_value (k2 w))⟩
    · cases h
  · cases h
theorem xop_t {CK : Operand → List Operand → Bool} (hv : isVCall o.op = false) (hm : MemOK m nb) (h : xop P CK tm m nb K o.op = true) : Out1 P (evv tm.get) o m nb K := by
  cases hop : o.op <;> rw [hop] at h <;> first | (cases h; done) | skip
  case move x =>
    have h : (evK tm x fun v => K v m nb) = true := h
    rw [evK_eq] at h
    exact out_pure (by rw [hop]; rfl) hm ⟨_, h, fun G a hs => ⟨_, hs x (by simp [hop, Op.operands]), fun w => by simp only [execOp, hop]; rfl⟩⟩
  case assign x =>
    have h : (evK tm x fun v => K v m nb) = true := h
    rw [evK_eq] at h
    exact out_pure (by rw [hop]; rfl) hm ⟨_, h, fun G a hs => ⟨_, hs x (by simp [hop, Op.operands]), fun w => by simp only [execOp, hop]; rfl⟩⟩
  case pick c x y =>
    have h : evK tm c (onBool fun t => (Bool.rec (evK tm y fun v => K v m nb) (evK tm x fun v => K v m nb) t : Bool)) = true := h
    rw [evK_eq] at h
    obtain ⟨b, h1, h2⟩ := onBool_t h
    have hc : ∀ (G : Gh) (a : Act), Sees G (evv tm.get) a o → a.eval c = .bool b := fun G a hs => by
      have := hs c (by simp [hop, Op.operands])
      rw [h1] at this
      simpa only [R] using this
    cases b with
    | true =>
      have h2 : (evK tm x fun v => K v m nb) = true := h2
      rw [evK_eq] at h2
      exact out_pure (by rw [hop]; rfl) hm ⟨_, h2, fun G a hs => ⟨_, hs x (by simp [hop, Op.operands]), fun w => by simp [execOp, hop, hc G a hs, asBool]⟩⟩
    | false =>
      have h2 : (evK tm y fun v => K v m nb) = true := h2
      rw [evK_eq] at h2
      exact out_pure (by rw [hop]; rfl) hm ⟨_, h2, fun G a hs => ⟨_, hs y (by simp [hop, Op.operands]), fun w => by simp [execOp, hop, hc G a hs, asBool]⟩⟩
  case alloc t =>
    obtain ⟨v, row, h1, hn, h2⟩ := xAlloc_t (P := P) (show xAlloc P m nb t K = true from h)
    refine out_light (by rw [hop]; rfl) hm ⟨v, row, h1, hn, light_of fun M F w0 G a w hF hd hs => ?_⟩
    obtain ⟨G', y, w', k1, k2, k3, k4⟩ := h2 M F w0 G w (.bool true) hF hd (by simp only [R])
    exact ⟨G', y, w', k1, k2, k3, by simp only [execOp, hop]; rw [Sem.run_bind, k4]; rfl⟩
  case box t x =>
    have h : (evK tm x fun a => xBox m nb t a K) = true := h
    rw [evK_eq] at h
    obtain ⟨v, row, h1, hn, h2⟩ := xBox_t (P := P) h
    refine out_light (by rw [hop]; rfl) hm ⟨v, row, h1, hn, light_of fun M F w0 G a w hF hd hs => ?_⟩
    obtain ⟨G', y, w', k1, k2, k3, k4⟩ := h2 M F w0 G w _ hF hd (hs x (by simp [hop, Op.operands]))
    exact ⟨G', y, w', k1, k2, k3, by simp only [execOp, hop]; rw [Sem.run_bind, k4]; rfl⟩
  case build t parts =>
    obtain ⟨v, h1, h2⟩ := xBuild_t (show xBuild P tm t parts.toList (fun v => K v m nb) = true from h)
    refine out_pure (by rw [hop]; rfl) hm ⟨v, h1, fun G a hs => ?_⟩
    obtain ⟨y, k1, k2⟩ := h2 G a fun p hp => hs p.2 (by simp only [hop, Op.operands]; exact List.mem_map.2 ⟨p, hp, rfl⟩)
    exact ⟨y, k1, fun w => by simp only [execOp, hop]; exact run_value (k2 w)⟩
  case buildSlice t len parts =>
    obtain ⟨v, row, h1, hn, h2⟩ := xBuildSlice_t (show xBuildSlice P tm m nb t len parts.toList K = true from h)
    refine out_light (by rw [hop]; rfl) hm ⟨v, row, h1, hn, light_of fun M F w0 G a w hF hd hs => ?_⟩
    obtain ⟨G', y, w', k1, k2, k3, k4⟩ := h2 M F w0 G w a hF hd fun p hp => hs p.2 (by simp only [hop, Op.operands]; exact List.mem_map.2 ⟨p, hp, rfl⟩)
    exact ⟨G', y, w', k1, k2, k3, by simp only [execOp, hop]; rw [Sem.run_bind, k4]; rfl⟩
  case load t x =>
    have h : (evK tm x fun a => xLoad P m t a fun v => K v m nb) = true := h
    rw [evK_eq] at h
    obtain ⟨v, h1, h2⟩ := xLoad_t h
    have : KdOK P (evv tm.get) o m nb v m nb := by
      unfold KdOK
      rw [hop]
      exact ⟨⟨t, x, rfl, h2⟩, rfl, rfl⟩
    exact ⟨v, m, nb, h1, hm, ((h2.ok hop).op), this⟩
  case store t x y =>
    have h : (evK tm x fun a => evK tm y fun b => xStore P m nb t a b K) = true := h
    rw [evK_eq, evK_eq] at h
    obtain ⟨m', h1, h2, h3⟩ := xStore_t hm h
    refine out_heavy (by rw [hop]; rfl) ⟨_, m', nb, h1, h2, Nat.le_refl _, fun F w0 G a w K' Q hF hfr hs hk => ?_⟩
    obtain ⟨w', k1, k2⟩ := h3 F w0 G w _ _ hF (hs x (by simp [hop, Op.operands])) (hs y (by simp [hop, Op.operands]))
    have hrun : (execOp a.eval o).run P w = .ok .skip w' := by
      simp only [execOp, hop]
      rw [Sem.run_bind, k2]
      rfl
    unfold Oper.wp
    rw [hrun]
    exact hk G undef w' (.refl _ _) (by simp only [R]) k1
  case nilCheck x =>
    have h : evK tm x (onPtr fun r i o => K (.ptr r i o) m nb) = true := h
    rw [evK_eq] at h
    obtain ⟨r, i, o', h1, h2⟩ := onPtr_t h
    refine out_pure (by rw [hop]; rfl) hm ⟨_, h2, fun G a hs => ?_⟩
    have hx := hs x (by simp [hop, Op.operands])
    rw [h1] at hx
    have hx' := hx
    simp only [R] at hx'
    refine ⟨_, hx, fun w => ?_⟩
    simp only [execOp, hop, hx'.2]
    rfl
  case binOp op t x y t' =>
    have h : (evK tm x fun a => evK tm y fun b => xBin P op t a b fun v => K v m nb) = true := h
    rw [evK_eq, evK_eq] at h
    obtain ⟨v, h1, h2⟩ := xBin_t h x y
    exact out_pure (by rw [hop]; rfl) hm ⟨v, h1, pure2 (fun ρ => by simp only [execOp, hop]) (by simp [hop, Op.operands]) (by simp [hop, Op.operands]) h2⟩
  case unOp op t x =>
    have h : (evK tm x fun a => xUn op a fun v => K v m nb) = true := h
    rw [evK_eq] at h
    obtain ⟨v, h1, h2⟩ := xUn_t h
    exact out_pure (by rw [hop]; rfl) hm ⟨v, h1, pure1 (fun ρ => by simp only [execOp, hop]) (by simp [hop, Op.operands]) h2⟩
  case convert s d x =>
    have h : (evK tm x fun a => xCv P s d a fun v => K v m nb) = true := h
    rw [evK_eq] at h
    obtain ⟨v, h1, h2⟩ := xCv_t h
    exact out_pure (by rw [hop]; rfl) hm ⟨v, h1, pure1 (fun ρ => by simp only [execOp, hop]) (by simp [hop, Op.operands]) h2⟩
  case makeFunc fn first cap =>
    obtain ⟨v, h1, h2⟩ := xFunc_t (P := P) (show xFunc tm fn first.toList cap.toList (fun v => K v m nb) = true from h)
    refine out_pure (by rw [hop]; rfl) hm ⟨v, h1, fun G a hs => ?_⟩
    obtain ⟨y, k1, k2⟩ := h2 G a fun x hx => hs x (by simp only [hop, Op.operands]; simpa using hx)
    exact ⟨y, k1, fun w => by simp only [execOp, hop]; exact run_value (k2 w)⟩
  case makeSlice t l c =>
    have h : (evK tm l fun a => evK tm c fun b => xMakeSlice P m nb t a b K) = true := h
    rw [evK_eq, evK_eq] at h
    obtain ⟨v, row, h1, hn, h2⟩ := xMakeSlice_t h
    refine out_light (by rw [hop]; rfl) hm ⟨v, row, h1, hn, light_of fun M F w0 G a w hF hd hs => ?_⟩
    obtain ⟨G', y, w', k1, k2, k3, k4⟩ := h2 M F w0 G w _ _ hF hd (hs l (by simp [hop, Op.operands])) (hs c (by simp [hop, Op.operands]))
    exact ⟨G', y, w', k1, k2, k3, by simp only [execOp, hop]; rw [Sem.run_bind, k4]; rfl⟩
  case slice t x lo hi mx =>
    have h : (evK tm x fun a => evO tm lo fun lo => evO tm hi fun hi => (Option.rec (xSlice P t a lo hi fun v => K v m nb) (fun _ => false) mx : Bool)) = true := h
    rw [evK_eq, evO_eq, evO_eq] at h
    cases mx with
    | some mx => cases h
    | none =>
      obtain ⟨v, h1, h2⟩ := xSlice_t (show (xSlice P t (evv tm.get x) (lo.map (evv tm.get)) (hi.map (evv tm.get)) fun v => K v m nb) = true from h)
      refine out_pure (by rw [hop]; rfl) hm ⟨v, h1, fun G a hs => ?_⟩
      have hro : ∀ q : Option Operand, (∀ z, q = some z → z ∈ o.op.operands.toList) → Ro G (q.map (evv tm.get)) (q.map a.eval) := fun q hq => by
        cases q with
        | none => exact rfl
        | some z => exact ⟨_, rfl, hs z (hq z rfl)⟩
      obtain ⟨z, k1, k2⟩ := h2 G _ _ _ (hs x (by simp [hop, Op.operands])) (hro lo fun z hz => by simp [hop, Op.operands, hz]) (hro hi fun z hz => by simp [hop, Op.operands, hz])
      exact ⟨z, k1, fun w => by simp only [execOp, hop]; exact run_value (k2 w)⟩
  case fieldAddr t x f =>
    have h : (evK tm x fun a => xFieldAddr P t f a fun v => K v m nb) = true := h
    rw [evK_eq] at h
    obtain ⟨v, h1, h2⟩ := xFieldAddr_t h
    exact out_pure (by rw [hop]; rfl) hm ⟨v, h1, pure1 (fun ρ => by simp only [execOp, hop]) (by simp [hop, Op.operands]) h2⟩
  case field t x f =>
    have h : (evK tm x fun a => xField P t f a fun v => K v m nb) = true := h
    rw [evK_eq] at h
    obtain ⟨v, h1, h2⟩ := xField_t h
    exact out_pure (by rw [hop]; rfl) hm ⟨v, h1, pure1 (fun ρ => by simp only [execOp, hop]) (by simp [hop, Op.operands]) h2⟩
  case indexAddr t x i =>
    have h : (evK tm x fun a => evK tm i fun i => xIndexAddr P t a i fun v => K v m nb) = true := h
    rw [evK_eq, evK_eq] at h
    obtain ⟨v, h1, h2⟩ := xIndexAddr_t h
    exact out_pure (by rw [hop]; rfl) hm ⟨v, h1, pure2 (fun ρ => by simp only [execOp, hop]) (by simp [hop, Op.operands]) (by simp [hop, Op.operands]) h2⟩
  case index t x i =>
    have h : (evK tm x fun a => evK tm i fun i => xIndex P t a i fun v => K v m nb) = true := h
    rw [evK_eq, evK_eq] at h
    obtain ⟨v, h1, h2⟩ := xIndex_t h
    exact out_pure (by rw [hop]; rfl) hm ⟨v, h1, pure2 (fun ρ => by simp only [execOp, hop]) (by simp [hop, Op.operands]) (by simp [hop, Op.operands]) h2⟩
  case extract x i =>
    have h : (evK tm x fun a => xExtract i a fun v => K v m nb) = true := h
    rw [evK_eq] at h
    obtain ⟨v, h1, h2⟩ := xExtract_t (P := P) h
    exact out_pure (by rw [hop]; rfl) hm ⟨v, h1, pure1 (fun ρ => by simp only [execOp, hop]) (by simp [hop, Op.operands]) h2⟩
  case call c =>
    obtain ⟨cl, args, ts⟩ := c
    cases cl with
    | value f => rw [hop] at hv; cases hv
    | invoke r n => cases h
    | builtin b => exact xBuiltin_t hop rfl hm h
end
end Go.Proofs.YteanccnggaakeaaGreat
