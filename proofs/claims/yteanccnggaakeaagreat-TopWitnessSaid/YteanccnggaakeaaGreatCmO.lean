/- Calls: bodies, results, what was proved before, functions without a body. No condition. -/
import Derived.Test.YteanccnggaakeaaGreatCmN
namespace Go.Proofs.YteanccnggaakeaaGreat
open Go.RowKit
set_option linter.unusedVariables false
set_option linter.unusedSimpArgs false

/- A call that was proved before: with which rows, and what then. -/
structure Ent where
  f : Nat
  args : List CV
  pre : List (Nat × CR)
  nb : Nat
  res : CV
  post : List (Nat × CR)
  nb' : Nat
structure Env where
  P : Program
  add : Nat
  sub : Nat
  es : List Ent
  fs : List (Nat × CV)

/- Results. -/
noncomputable def xres (P : Program) (tm : Tr CV) (m : Tr CR) (rs : List ResultVar) : (List CV → Bool) → Bool :=
  List.rec (fun K => K []) (fun r _ ih K => ResultVar.rec (fun t => tm.getK t fun v => ih fun l => K (v :: l)) (fun p t => tm.getK p fun a => xLoad P m t a fun v => ih fun l => K (v :: l)) r) rs
noncomputable def xall (l : List CV) : CV := List.rec (.tp []) (fun x t _ => List.rec x (fun _ _ _ => .tp l) t) l
def resM (tmps : Array Value) (r : ResultVar) : Sem Value :=
  match r with
  | .tmp t => pure (tmps.getD t undef)
  | .cell a t => do loadVar t (← asAddr (tmps.getD a undef))
theorem results_eq (fn : Func) (tmps : Array Value) : results fn tmps = (do let vs ← fn.results.mapM (resM tmps); pure (if h : vs.size = 1 then vs[0] else .tuple vs)) := rfl
section
variable {P : Program} {tm : Tr CV} {m : Tr CR}
theorem xres_t : ∀ {rs : List ResultVar} {K : List CV → Bool}, xres P tm m rs K = true → ∃ l, K l = true ∧ ∀ (F : Nat → Prop) (w0 : World) (G : Gh) (a : Act) (w : World), (∀ t, R G (tm.get t) (a.tmps.getD t undef)) → Fit F w0 G (lk m) w →
    ∃ us, (rs.mapM (resM a.tmps)).run P w = .ok us w ∧ Rt G l us
  | [], K, h => ⟨[], h, fun F w0 G a w _ _ => ⟨[], rfl, by simp [Rt]⟩⟩
  | .tmp t :: rs, K, h => by
    have h : (tm.getK t fun v => xres P tm m rs fun l => K (v :: l)) = true := h
    rw [Tr.getK_eq] at h
    obtain ⟨l, h1, h2⟩ := xres_t h
    refine ⟨_, h1, fun F w0 G a w ht hF => ?_⟩
    obtain ⟨us, k1, k2⟩ := h2 F w0 G a w ht hF
    refine ⟨a.tmps.getD t undef :: us, ?_, by simp only [Rt]; exact ⟨_, us, rfl, ht t, k2⟩⟩
    simp only [List.mapM_cons, Sem.run_bind, k1, Result.andThen_ok, Sem.run_pure, resM]
  | .cell p t :: rs, K, h => by
    have h : (tm.getK p fun a => xLoad P m t a fun v => xres P tm m rs fun l => K (v :: l)) = true := h
    rw [Tr.getK_eq] at h
    obtain ⟨v, h1, h2⟩ := xLoad_t h
    obtain ⟨l, h3, h4⟩ := xres_t h1
    refine ⟨_, h3, fun F w0 G a w ht hF => ?_⟩
    obtain ⟨us, k1, k2⟩ := h4 F w0 G a w ht hF
    obtain ⟨ad, y, k3, k4, k5⟩ := h2 F w0 G w _ hF (ht p)
    refine ⟨y :: us, ?_, by simp only [Rt]; exact ⟨_, us, rfl, k4, k2⟩⟩
    simp only [List.mapM_cons, Sem.run_bind, k1, Result.andThen_ok, Sem.run_pure, resM, k3, asAddr, k5]
theorem results_run {fn : Func} {l : List CV} {G : Gh} {a : Act} {w : World} (h : ∃ us, (fn.results.toList.mapM (resM a.tmps)).run P w = .ok us w ∧ Rt G l us) : ∃ v, (results fn a.tmps).run P w = .ok v w ∧ R G (xall l) v := by
  obtain ⟨us, h1, h2⟩ := h
  have hl := h2.length
  refine ⟨if hh : us.length = 1 then us[0] else .tuple us.toArray, ?_, ?_⟩
  · rw [results_eq, Array.mapM_eq_mapM_toList]
    simp only [Sem.run_bind, Sem.run_map, h1, Result.andThen_ok, Sem.run_pure, List.size_toArray, List.getElem_toArray]
  · match l, us, h2 with
    | [], us, h2 => simp only [Rt] at h2; subst h2; simp [xall, R, Rt]
    | [x], us, h2 =>
      simp only [Rt] at h2
      obtain ⟨u, t, rfl, h3, rfl⟩ := h2
      simpa [xall] using h3
    | x :: y :: xs, us, h2 =>
      have hl := h2.length
      simp only [List.length_cons] at hl
      rw [dif_neg (by omega)]
      simp only [xall, R]
      exact ⟨us, rfl, h2⟩
/- A body. -/
noncomputable def xback (P : Program) (rs : List ResultVar) (K : KO) (e : XT) (tm : Tr CV) (m : Tr CR) (nb : Nat) : Bool :=
  XT.rec (xres P tm m rs fun l => K (xall l) m nb) (fun _ => false) (xres P tm m rs fun l => K (xall l) m nb) e
noncomputable def xbody (P : Program) (run : Run) (fn : Func) (body : Code) (l : List CV) (m : Tr CR) (nb : Nat) (K : KO) : Bool :=
  fN fn.ntmps fun n => tmNew n fun tm => tmArgs n l 0 tm fun tm => run body n tm m nb (xback P fn.results.toList K)
theorem tmArgs_len {n : Nat} {K : Tr CV → Bool} : ∀ {args : List CV} {k : Nat} {tm : Tr CV}, tmArgs n args k tm K = true → args = [] ∨ k + args.length ≤ n
  | [], k, tm, h => .inl rfl
  | x :: args, k, tm, h => by
    obtain ⟨h1, h2⟩ := tst_t (show tst (Nat.blt k n) (tm.setK k x fun t => fN (Nat.add k 1) fun k => tmArgs n args k t K) = true from h)
    rw [Tr.setK_eq, fN_eq] at h2
    have hk := blt_t h1
    rcases tmArgs_len h2 with rfl | h3
    · simp; omega
    · have h3 : k + 1 + args.length ≤ n := h3
      simp; omega
theorem xbody_t {run : Run} (hrun : RunOK P run) {fid : Nat} {fn : Func} {body : Code} {l : List CV} {nb : Nat} {K : KO} (hf : P.funcs[fid]? = some fn) (hb : fn.body = some body) (hm : MemOK m nb) (h : xbody P run fn body l m nb K = true) :
    ∃ v m' nb', K v m' nb' = true ∧ MemOK m' nb' ∧ CC P fid l (lk m) nb v (lk m') nb' := by
  have h : (tmNew fn.ntmps fun tm => tmArgs fn.ntmps l 0 tm fun tm => run body fn.ntmps tm m nb (xback P fn.results.toList K)) = true := h
  obtain ⟨tm0, h1, h2, h3⟩ := tmNew_t h
  have hlen : l.length ≤ fn.ntmps := by
    rcases tmArgs_len h1 with e | e
    · rw [e]; simp
    · omega
  obtain ⟨tm1, h4, h5, h6⟩ := tmArgs_t h2 h1
  obtain ⟨e, tm2, m', nb', k1, k2, k3, k4, k5⟩ := hrun body fn.ntmps tm1 m nb _ h5 hm h4
  have key : e.exit = .normal ∨ e.exit = .ret → xres P tm2 m' fn.results.toList (fun l => K (xall l) m' nb') = true → ∃ v m' nb', K v m' nb' = true ∧ MemOK m' nb' ∧ CC P fid l (lk m) nb v (lk m') nb' := fun he hx => by
    obtain ⟨rl, q1, q2⟩ := xres_t hx
    refine ⟨_, m', nb', q1, k3, k4, fun F w0 G w vs hF hfr hvs => ?_⟩
    have hvl := hvs.length
    refine calls_of_wp hf hb (k5 F w0 G _ w _ ⟨rfl, by simp; omega, fun t => ?_, hF⟩ hfr fun G' a' w' hst hS => ?_)
    · show R G (tm1.get t) _
      rw [h6 t, h3]
      simp only [Nat.zero_le, true_and, Nat.zero_add, Nat.sub_zero]
      rw [Array.getD_eq_getD_getElem?]
      by_cases ht : t < l.length
      · rw [if_pos ht]
        obtain ⟨u, u1, u2⟩ := hvs.get t l[t] (List.getElem?_eq_getElem ht)
        rw [Array.getElem?_append_left (by simp; omega)]
        simp only [List.getElem?_toArray, u1, Option.getD_some, List.getElem?_eq_getElem ht]
        exact u2
      · rw [if_neg ht, Array.getElem?_append_right (by simp; omega)]
        simp only [R, Array.getElem?_replicate]
        split <;> rfl
    · have fin : a'.defers = [] ∧ ∃ v, (results fn a'.tmps).run P w' = .ok v w' ∧ ∃ y G'', Ending.returned v = .returned y ∧ Step nb nb' G G'' ∧ R G'' (xall rl) y ∧ Fit F w0 G'' (lk m') w' := by
        obtain ⟨v, v1, v2⟩ := results_run (q2 F w0 G' a' w' hS.tm hS.fit)
        exact ⟨hS.defers, v, v1, v, G', rfl, hst, v2, hS.fit⟩
      rcases he with he | he <;> rw [he] <;> exact fin
  cases e with
  | nm => exact key (.inl rfl) k1
  | ex id => cases k1
  | rt => exact key (.inr rfl) k1
end

/- Functions without a body. -/
noncomputable def on64 (K : Nat → Bool) (x : CV) : Bool := onNat (fun k n => tst (keq k .u64) (K n)) x
theorem on64_t {K : Nat → Bool} {x : CV} (h : on64 K x = true) : ∃ n, x = .pos .u64 n ∧ K n = true := by
  obtain ⟨k, n, rfl, h1⟩ := onNat_t h
  obtain ⟨h2, h3⟩ := tst_t h1
  exact ⟨n, by rw [keq_t h2], h3⟩
noncomputable def on3 (K : CV → CV → CV → Bool) (l : List CV) : Bool := List.rec false (fun a l _ => List.rec false (fun b l _ => List.rec false (fun c l _ => List.rec (K a b c) (fun _ _ _ => false) l) l) l) l
theorem on3_t {K : CV → CV → CV → Bool} {l : List CV} (h : on3 K l = true) : ∃ a b c, l = [a, b, c] ∧ K a b c = true := by
  match l, h with
  | [a, b, c], h => exact ⟨a, b, c, rfl, h⟩
noncomputable def bK (a b : Bool) (c : Bool) : Bool := Bool.rec a b c
theorem bK_t {a b c : Bool} (h : bK a b c = true) : (c = true ∧ b = true) ∨ (c = false ∧ a = true) := rec_b h
noncomputable def xAdd (l : List CV) (K : KV) : Bool := on3 (fun a b c => on64 (fun x => on64 (fun y => on64 (fun z => tst (Nat.ble z 1) (fN ((x + y + z) % 18446744073709551616) fun s => fN ((x + y + z) / 18446744073709551616) fun q => K (.tp [.pos .u64 s, .pos .u64 q]))) c) b) a) l
noncomputable def xSub (l : List CV) (K : KV) : Bool := on3 (fun a b c => on64 (fun x => on64 (fun y => on64 (fun z => tst (Nat.ble z 1) (fN ((x + 18446744073709551616 - y - z) % 18446744073709551616) fun s => bK (K (.tp [.pos .u64 s, .pos .u64 0])) (K (.tp [.pos .u64 s, .pos .u64 1])) (Nat.blt x (Nat.add y z)))) c) b) a) l
abbrev uV (n : Nat) : Value := .int .u64 (.ofNat n)
structure ExtOK (E : Env) : Prop where
  mixed : E.P.follows .mixedOrders = true
  name : ∀ (f : Nat) (fn : Func), E.P.funcs[f]? = some fn → (fn.name == "runtime.NumGoroutine") = false
  add : ∀ (x y c : Nat) (w : World), c ≤ 1 → (callFunc E.add #[uV x, uV y, uV c]).run E.P w = .ok (.value (.tuple #[uV ((x + y + c) % 18446744073709551616), uV ((x + y + c) / 18446744073709551616)])) w
  sub : ∀ (x y c : Nat) (w : World), c ≤ 1 → (callFunc E.sub #[uV x, uV y, uV c]).run E.P w = .ok (.value (.tuple #[uV ((x + 18446744073709551616 - y - c) % 18446744073709551616), uV (if x < y + c then 1 else 0)])) w
noncomputable def xExt (E : Env) (fid : Nat) (l : List CV) (K : KV) : Bool := Bool.rec (Bool.rec false (xSub l K) (Nat.beq fid E.sub)) (xAdd l K) (Nat.beq fid E.add)
theorem xAdd_t {l : List CV} {K : KV} (h : xAdd l K = true) : ∃ x y z, l = [.pos .u64 x, .pos .u64 y, .pos .u64 z] ∧ z ≤ 1 ∧ K (.tp [.pos .u64 ((x + y + z) % 18446744073709551616), .pos .u64 ((x + y + z) / 18446744073709551616)]) = true := by
  obtain ⟨a, b, c, rfl, h3⟩ := on3_t h
  obtain ⟨x, rfl, h4⟩ := on64_t h3
  obtain ⟨y, rfl, h5⟩ := on64_t h4
  obtain ⟨z, rfl, h6⟩ := on64_t h5
  obtain ⟨h7, h8⟩ := tst_t h6
  rw [fN_eq, fN_eq] at h8
  exact ⟨x, y, z, rfl, Nat.le_of_ble_eq_true h7, h8⟩
theorem xSub_t {l : List CV} {K : KV} (h : xSub l K = true) : ∃ x y z, l = [.pos .u64 x, .pos .u64 y, .pos .u64 z] ∧ z ≤ 1 ∧ K (.tp [.pos .u64 ((x + 18446744073709551616 - y - z) % 18446744073709551616), .pos .u64 (if x < y + z then 1 else 0)]) = true := by
  obtain ⟨a, b, c, rfl, h3⟩ := on3_t h
  obtain ⟨x, rfl, h4⟩ := on64_t h3
  obtain ⟨y, rfl, h5⟩ := on64_t h4
  obtain ⟨z, rfl, h6⟩ := on64_t h5
  obtain ⟨h7, h8⟩ := tst_t h6
  rw [fN_eq] at h8
  refine ⟨x, y, z, rfl, Nat.le_of_ble_eq_true h7, ?_⟩
  rcases bK_t h8 with ⟨h9, h10⟩ | ⟨h9, h10⟩
  · rw [if_pos (show x < y + z from blt_t h9)]
    exact h10
  · rw [if_neg (fun hh : x < y + z => by
      have : Nat.blt x (Nat.add y z) = true := Nat.ble_eq_true_of_le hh
      rw [this] at h9
      cases h9)]
    exact h10
theorem xExt_t {E : Env} (hE : ExtOK E) {fid : Nat} {l : List CV} {K : KV} (h : xExt E fid l K = true) : ∃ v, K v = true ∧ ∀ (G : Gh) (vs : List Value), Rt G l vs → ∃ y, R G v y ∧ ∀ w : World, (callFunc fid vs.toArray).run E.P w = .ok (.value y) w := by
  have three : ∀ {x y c : Nat} {G : Gh} {vs : List Value}, Rt G [.pos .u64 x, .pos .u64 y, .pos .u64 c] vs → vs = [uV x, uV y, uV c] := fun h => by
    simp only [Rt, R] at h
    obtain ⟨u, t, rfl, rfl, u2, t2, rfl, rfl, u3, t3, rfl, rfl, rfl⟩ := h
    rfl
  have two : ∀ {G : Gh} (a b : Nat), R G (.tp [.pos .u64 a, .pos .u64 b]) (.tuple #[uV a, uV b]) := fun a b => by
    simp only [R, Rt]
    exact ⟨[uV a, uV b], rfl, _, _, rfl, rfl, _, _, rfl, rfl, rfl⟩
  rcases rec_b (show (Bool.rec (Bool.rec false (xSub l K) (Nat.beq fid E.sub)) (xAdd l K) (Nat.beq fid E.add) : Bool) = true from h) with ⟨h1, h2⟩ | ⟨_, h2⟩
  · obtain ⟨x, y, z, rfl, h7, h8⟩ := xAdd_t h2
    refine ⟨_, h8, fun G vs hvs => ⟨_, two _ _, fun w => ?_⟩⟩
    rw [three hvs, show fid = E.add from Nat.eq_of_beq_eq_true h1]
    exact hE.add x y z w h7
  · rcases rec_b h2 with ⟨h1, h2⟩ | ⟨_, h2⟩
    · obtain ⟨x, y, z, rfl, h7, h8⟩ := xSub_t h2
      refine ⟨_, h8, fun G vs hvs => ⟨_, two _ _, fun w => ?_⟩⟩
      rw [three hvs, show fid = E.sub from Nat.eq_of_beq_eq_true h1]
      exact hE.sub x y z w h7
    · cases h2
end Go.Proofs.YteanccnggaakeaaGreat
