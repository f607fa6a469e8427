/- The machine on code; calls proved beforehand. No condition. -/
import Derived.Test.YteanccnggaakeaaGreatCmT
namespace Go.Proofs.YteanccnggaakeaaGreat
open Go.RowKit
set_option linter.unusedVariables false
set_option linter.unusedSimpArgs false

abbrev KX := Tr CV → Tr CR → Nat → KE → Bool
noncomputable def xcode (E : Env) (run : Run) (n : Nat) (c : Code) : KX :=
  Code.rec (motive := fun _ => KX) (fun tm m nb K => K .nm tm m nb)
    (fun id ops draw tm m nb K => Bool.rec (xreg E run ops.toList n (K .nm) ops.toList tm m nb) (xdraw E run ops.toList n (K .nm) tm m nb) draw)
    (fun a b xa xb tm m nb K => xa tm m nb fun e tm m nb => XT.rec (xb tm m nb K) (fun id => K (.ex id) tm m nb) (K .rt tm m nb) e)
    (fun c a b xa xb tm m nb K => evK tm c (onBool fun t => Bool.rec (xb tm m nb K) (xa tm m nb K) t))
    (fun id c xc tm m nb K => xc tm m nb fun e tm m nb => XT.rec (K .nm tm m nb) (fun j => Bool.rec (K (.ex j) tm m nb) (K .nm tm m nb) (Nat.beq j id)) (K .rt tm m nb) e)
    (fun c xc tm m nb K => xc tm m nb fun e tm m nb => XT.rec (run (.loop c) n tm m nb K) (fun id => K (.ex id) tm m nb) (K .rt tm m nb) e)
    (fun _ _ _ _ _ _ _ _ _ _ => false)
    (fun id tm m nb K => K (.ex id) tm m nb)
    (fun _ _ _ _ _ _ => false) (fun _ _ _ _ _ => false) (fun _ _ _ _ _ => false)
    (fun tm m nb K => K .rt tm m nb)
    (fun _ _ _ _ _ => false) c
noncomputable def xrun (E : Env) (fuel : Nat) : Run := Nat.rec (fun _ _ _ _ _ _ => false) (fun _ r c n tm m nb K => xcode E r n c tm m nb K) fuel

section
variable {P : Program} {n : Nat} {a b c : Code} {s s1 s' : St} {e : XT}
theorem CodeOK.skip : CodeOK P n .skip s .nm s := ⟨Nat.le_refl _, fun F w0 G a w Q hS _ hq => wp_skip (hq G a w (.refl _ G) hS)⟩
theorem CodeOK.exit {id : Nat} : CodeOK P n (.exit id) s (.ex id) s := ⟨Nat.le_refl _, fun F w0 G a w Q hS _ hq => wp_exit (hq G a w (.refl _ G) hS)⟩
theorem CodeOK.ret : CodeOK P n .ret s .rt s := ⟨Nat.le_refl _, fun F w0 G a w Q hS _ hq => wp_ret (hq G a w (.refl _ G) hS)⟩
theorem CodeOK.seq (h : CodeOK P n a s .nm s1) (k : CodeOK P n b s1 e s') : CodeOK P n (.seq a b) s e s' :=
  ⟨Nat.le_trans h.1 k.1, fun F w0 G ac w Q hS hf hq => wp_seq (h.2 F w0 G ac w _ hS (hf.sub (Nat.le_refl _) k.1) fun G1 a1 w1 st1 hS1 =>
    k.2 F w0 G1 a1 w1 Q hS1 (hf.next st1 h.1) fun G2 a2 w2 st2 hS2 => hq G2 a2 w2 (st1.trans st2 h.1 k.1) hS2)⟩
theorem CodeOK.seqX (h : CodeOK P n a s e s') (he : e ≠ .nm) : CodeOK P n (.seq a b) s e s' :=
  ⟨h.1, fun F w0 G ac w Q hS hf hq => wp_seq (h.2 F w0 G ac w _ hS hf fun G1 a1 w1 st1 hS1 => by
    cases e with
    | nm => exact (he rfl).elim
    | ex id => exact hq G1 a1 w1 st1 hS1
    | rt => exact hq G1 a1 w1 st1 hS1)⟩
theorem CodeOK.cond {x : Operand} {t : Bool} (hx : evv s.T x = .bo t) (h : CodeOK P n (bif t then a else b) s e s') : CodeOK P n (.cond x a b) s e s' :=
  ⟨h.1, fun F w0 G ac w Q hS hf hq => by
    have hr := evv_R hS.tm x
    rw [hx] at hr
    have := h.2 F w0 G ac w Q hS hf hq
    cases t with
    | true => exact wp_cond_true (by simpa only [R] using hr) this
    | false => exact wp_cond_false (by simpa only [R] using hr) this⟩
def XT.out (id : Nat) : XT → XT
  | .nm => .nm
  | .ex j => if j = id then .nm else .ex j
  | .rt => .rt
theorem CodeOK.block {id : Nat} (h : CodeOK P n a s e s') : CodeOK P n (.block id a) s (e.out id) s' :=
  ⟨h.1, fun F w0 G ac w Q hS hf hq => wp_block (h.2 F w0 G ac w _ hS hf fun G1 a1 w1 st1 hS1 => by
    have := hq G1 a1 w1 st1 hS1
    cases e with
    | nm => exact this
    | ex j =>
      show (if j = id then Q .normal a1 w1 else Q (.exit j) a1 w1)
      by_cases hj : j = id
      · rw [if_pos hj]
        rwa [XT.out, if_pos hj] at this
      · rw [if_neg hj]
        rwa [XT.out, if_neg hj] at this
    | rt => exact this)⟩
inductive LoopTo (P : Program) (n : Nat) (c : Code) : St → XT → St → Prop
  | last {s s' : St} {e : XT} (h : CodeOK P n c s e s') (he : e ≠ .nm) : LoopTo P n c s e s'
  | more {s s1 s' : St} {e : XT} (h : CodeOK P n c s .nm s1) (k : LoopTo P n c s1 e s') : LoopTo P n c s e s'
theorem LoopTo.le (h : LoopTo P n c s e s') : s.nb ≤ s'.nb := by
  induction h with
  | last h _ => exact h.1
  | more h _ ih => exact Nat.le_trans h.1 ih
theorem LoopTo.arr (h : LoopTo P n c s e s') : ∀ (F : Nat → Prop) (w0 : World) (G : Gh) (a : Act) (w : World) (Q : Exit → Act → World → Prop), Sim F w0 G n s a w → Free s.nb s'.nb G → (∀ G' a' w', Go.Proofs.YteanccnggaakeaaGreat.Step s.nb s'.nb G G' → Sim F w0 G' n s' a' w' → Q e.exit a' w') →
    ∀ b k cs, ∃ e a' w', Q e a' w' ∧ Arrives P (lone (b.at a (.code c :: .inLoop c :: k)) cs w) b k cs e a' w' := by
  induction h with
  | @last s s' e h he =>
    intro F w0 G a w Q hS hf hq b k cs
    obtain ⟨e1, a1, w1, ⟨rfl, hq1⟩, harr⟩ := h.2 F w0 G a w (fun e1 a1 w1 => e1 = e.exit ∧ Q e1 a1 w1) hS hf (fun G' a' w' st hS' => ⟨rfl, hq G' a' w' st hS'⟩) b (.inLoop c :: k) cs
    cases e with
    | nm => exact (he rfl).elim
    | ex id => exact ⟨_, a1, w1, hq1, .pass (x := .inLoop c) rfl (fun _ _ => .inl (by simp [XT.exit])) harr⟩
    | rt => exact ⟨_, a1, w1, hq1, .pass (x := .inLoop c) rfl (fun _ _ => .inl (by simp [XT.exit])) harr⟩
  | @more s s1 s' e h k ih =>
    intro F w0 G a w Q hS hf hq b kk cs
    have hle := k.le
    obtain ⟨e1, a1, w1, ⟨rfl, G1, st1, hS1⟩, harr⟩ := h.2 F w0 G a w (fun e1 a1 w1 => e1 = .normal ∧ ∃ G1, Go.Proofs.YteanccnggaakeaaGreat.Step s.nb s1.nb G G1 ∧ Sim F w0 G1 n s1 a1 w1) hS (hf.sub (Nat.le_refl _) hle) (fun G' a' w' st hS' => ⟨rfl, G', st, hS'⟩) b (.inLoop c :: kk) cs
    obtain ⟨e2, a2, w2, hq2, harr2⟩ := ih F w0 G1 a1 w1 Q hS1 (hf.next st1 h.1) (fun G' a' w' st hS' => hq G' a' w' (st1.trans st h.1 hle) hS') b kk cs
    exact ⟨e2, a2, w2, hq2, .of_steps (Steps.trans harr (.one step_inLoop)) harr2⟩
theorem LoopTo.ok (h : LoopTo P n c s e s') : CodeOK P n (.loop c) s e s' :=
  ⟨h.le, fun F w0 G a w Q hS hf hq b k cs => by
    obtain ⟨e1, a1, w1, hq1, harr⟩ := h.arr F w0 G a w Q hS hf hq b k cs
    exact ⟨e1, a1, w1, hq1, .of_steps (.one step_loop) harr⟩⟩
def Does (P : Program) (n : Nat) (c : Code) (s : St) (e : XT) (s' : St) : Prop := match c with | .loop a => LoopTo P n a s e s' | c => CodeOK P n c s e s'
theorem Does.ok (h : Does P n c s e s') : CodeOK P n c s e s' := by
  cases c <;> first | exact h | exact LoopTo.ok h
end
def EndsD (P : Program) (n : Nat) (c : Code) (tm : Tr CV) (m : Tr CR) (nb : Nat) (K : KE) : Prop :=
  ∃ e tm' m' nb', K e tm' m' nb' = true ∧ TmOK n tm' ∧ MemOK m' nb' ∧ Does P n c (stOf tm m nb) e (stOf tm' m' nb')
def RunD (P : Program) (run : Run) : Prop := ∀ (c : Code) (n : Nat) (tm : Tr CV) (m : Tr CR) (nb : Nat) (K : KE), TmOK n tm → MemOK m nb → run c n tm m nb K = true → EndsD P n c tm m nb K
theorem EndsD.ok {P : Program} {n : Nat} {c : Code} {tm : Tr CV} {m : Tr CR} {nb : Nat} {K : KE} (h : EndsD P n c tm m nb K) : Ends P n c tm m nb K := by
  obtain ⟨e, tm', m', nb', h1, h2, h3, h4⟩ := h
  exact ⟨e, tm', m', nb', h1, h2, h3, h4.ok⟩
theorem RunD.ok {P : Program} {run : Run} (h : RunD P run) : RunOK P run := fun c n tm m nb K h1 h2 h3 => (h c n tm m nb K h1 h2 h3).ok
theorem xcode_t {E : Env} {run : Run} (hE : EnvOK E) (hrun : RunD E.P run) {n : Nat} (c : Code) : ∀ (tm : Tr CV) (m : Tr CR) (nb : Nat) (K : KE), TmOK n tm → MemOK m nb → xcode E run n c tm m nb K = true → EndsD E.P n c tm m nb K := by
  induction c with
  | skip => exact fun tm m nb K ht hm h => ⟨.nm, tm, m, nb, h, ht, hm, .skip⟩
  | region id ops draw =>
    intro tm m nb K ht hm h
    obtain ⟨e, tm', m', nb', h1, h2, h3, h4⟩ := region_ok hE hrun.ok (id := id) ht hm h
    exact ⟨e, tm', m', nb', h1, h2, h3, h4⟩
  | seq a b iha ihb =>
    intro tm m nb K ht hm h
    obtain ⟨e, tm1, m1, nb1, h1, h2, h3, h4⟩ := iha tm m nb _ ht hm h
    cases e with
    | nm =>
      obtain ⟨e, tm2, m2, nb2, k1, k2, k3, k4⟩ := ihb tm1 m1 nb1 K h2 h3 h1
      exact ⟨e, tm2, m2, nb2, k1, k2, k3, h4.ok.seq k4.ok⟩
    | ex id => exact ⟨_, tm1, m1, nb1, h1, h2, h3, h4.ok.seqX (fun h => by cases h)⟩
    | rt => exact ⟨_, tm1, m1, nb1, h1, h2, h3, h4.ok.seqX (fun h => by cases h)⟩
  | cond x a b iha ihb =>
    intro tm m nb K ht hm h
    have h : evK tm x (onBool fun t => Bool.rec (xcode E run n b tm m nb K) (xcode E run n a tm m nb K) t) = true := h
    rw [evK_eq] at h
    obtain ⟨t, ht1, ht2⟩ := onBool_t h
    cases t with
    | true =>
      obtain ⟨e, tm2, m2, nb2, k1, k2, k3, k4⟩ := iha tm m nb K ht hm ht2
      exact ⟨e, tm2, m2, nb2, k1, k2, k3, CodeOK.cond (t := true) ht1 k4.ok⟩
    | false =>
      obtain ⟨e, tm2, m2, nb2, k1, k2, k3, k4⟩ := ihb tm m nb K ht hm ht2
      exact ⟨e, tm2, m2, nb2, k1, k2, k3, CodeOK.cond (t := false) ht1 k4.ok⟩
  | block id a ih =>
    intro tm m nb K ht hm h
    obtain ⟨e, tm1, m1, nb1, h1, h2, h3, h4⟩ := ih tm m nb _ ht hm h
    cases e with
    | nm => exact ⟨_, tm1, m1, nb1, h1, h2, h3, h4.ok.block (id := id)⟩
    | ex j =>
      have h5 := h4.ok.block (id := id)
      rcases rec_b (show (Bool.rec (K (.ex j) tm1 m1 nb1) (K .nm tm1 m1 nb1) (Nat.beq j id) : Bool) = true from h1) with ⟨k1, k2⟩ | ⟨k1, k2⟩
      · rw [XT.out, if_pos (Nat.eq_of_beq_eq_true k1)] at h5
        exact ⟨_, tm1, m1, nb1, k2, h2, h3, h5⟩
      · rw [XT.out, if_neg (Nat.ne_of_beq_eq_false k1)] at h5
        exact ⟨_, tm1, m1, nb1, k2, h2, h3, h5⟩
    | rt => exact ⟨_, tm1, m1, nb1, h1, h2, h3, h4.ok.block (id := id)⟩
  | loop a ih =>
    intro tm m nb K ht hm h
    obtain ⟨e, tm1, m1, nb1, h1, h2, h3, h4⟩ := ih tm m nb _ ht hm h
    cases e with
    | nm =>
      obtain ⟨e, tm2, m2, nb2, k1, k2, k3, k4⟩ := hrun (.loop a) n tm1 m1 nb1 K h2 h3 h1
      exact ⟨e, tm2, m2, nb2, k1, k2, k3, LoopTo.more h4.ok k4⟩
    | ex id => exact ⟨_, tm1, m1, nb1, h1, h2, h3, LoopTo.last h4.ok (fun h => by cases h)⟩
    | rt => exact ⟨_, tm1, m1, nb1, h1, h2, h3, LoopTo.last h4.ok (fun h => by cases h)⟩
  | rangeFunc _ _ _ _ _ _ => exact fun tm m nb K ht hm h => by cases h
  | exit id => exact fun tm m nb K ht hm h => ⟨.ex id, tm, m, nb, h, ht, hm, .exit⟩
  | scope _ _ => exact fun tm m nb K ht hm h => by cases h
  | label _ => exact fun tm m nb K ht hm h => by cases h
  | goto _ => exact fun tm m nb K ht hm h => by cases h
  | ret => exact fun tm m nb K ht hm h => ⟨.rt, tm, m, nb, h, ht, hm, .ret⟩
  | refuse _ => exact fun tm m nb K ht hm h => by cases h
theorem xrun_t {E : Env} (hE : EnvOK E) : ∀ fuel, RunD E.P (xrun E fuel)
  | 0, c, n, tm, m, nb, K, _, _, h => by cases h
  | fuel + 1, c, n, tm, m, nb, K, ht, hm, h => xcode_t hE (xrun_t hE fuel) c tm m nb K ht hm h

/- A call proved beforehand. -/
noncomputable def chkP (e : Ent) (x : Bool) : Bool := Ent.rec (fun f args pre nb res post nb' => tst (Nat.ble nb nb') (tst (Nat.ble nb' NM) (List.rec
  (List.rec x (fun p _ ih => Prod.rec (fun r _ => tst (Nat.blt r nb') (tst (Nat.blt r NM) (tst (Bool.rec (List.rec false (fun q _ ih => Prod.rec (fun r' _ => Bool.rec ih true (Nat.beq r' r)) q) pre) true (Nat.ble nb r)) ih))) p) post)
  (fun p _ ih => Prod.rec (fun r _ => tst (Nat.blt r nb) ih) p) pre))) e
theorem chkPost {pre : List (Nat × CR)} {nb nb' : Nat} {x : Bool} : ∀ {post : List (Nat × CR)}, (List.rec x (fun p _ ih => Prod.rec (fun r _ => tst (Nat.blt r nb') (tst (Nat.blt r NM) (tst (Bool.rec (List.rec false (fun q _ ih => Prod.rec (fun r' _ => Bool.rec ih true (Nat.beq r' r)) q) pre) true (Nat.ble nb r)) ih))) p) post : Bool) = true →
    (∀ p ∈ post, p.1 < NM ∧ p.1 < nb' ∧ (p.1 ∈ nms pre ∨ nb ≤ p.1)) ∧ x = true
  | [], h => ⟨by simp, h⟩
  | (r, row) :: post, h => by
    obtain ⟨h1, h2⟩ := tst_t h
    obtain ⟨h3, h4⟩ := tst_t h2
    obtain ⟨h5, h6⟩ := tst_t h4
    obtain ⟨k1, k2⟩ := chkPost h6
    refine ⟨fun p hp => ?_, k2⟩
    rcases List.mem_cons.1 hp with rfl | hp
    · refine ⟨blt_t h3, blt_t h1, ?_⟩
      rcases rec_b h5 with ⟨h7, _⟩ | ⟨_, h7⟩
      · exact .inr (Nat.le_of_ble_eq_true h7)
      · refine .inl ?_
        clear h h1 h2 h3 h4 h5 h6 k1 k2
        induction pre with
        | nil => cases h7
        | cons q pre ih =>
          obtain ⟨r', row'⟩ := q
          rcases rec_b (show (Bool.rec (List.rec false (fun q _ ih => Prod.rec (fun r' _ => Bool.rec ih true (Nat.beq r' r)) q) pre) true (Nat.beq r' r) : Bool) = true from h7) with ⟨h8, _⟩ | ⟨_, h8⟩
          · exact nms_cons.2 (.inl (Nat.eq_of_beq_eq_true h8).symm)
          · exact nms_cons.2 (.inr (ih h8))
    · exact k1 p hp
theorem chkPre {nb : Nat} {x : Bool} : ∀ {pre : List (Nat × CR)}, (List.rec x (fun p _ ih => Prod.rec (fun r _ => tst (Nat.blt r nb) ih) p) pre : Bool) = true → (∀ p ∈ pre, p.1 < nb) ∧ x = true
  | [], h => ⟨by simp, h⟩
  | (r, row) :: pre, h => by
    obtain ⟨h1, h2⟩ := tst_t h
    obtain ⟨k1, k2⟩ := chkPre h2
    refine ⟨fun p hp => ?_, k2⟩
    rcases List.mem_cons.1 hp with rfl | hp
    · exact blt_t h1
    · exact k1 p hp
noncomputable def hasB (P : Program) (f : Nat) (K : Func → Code → Bool) : Bool := og (P.funcs[f]?) fun fn => Option.rec false (fun c => K fn c) fn.body
theorem hasB_t {P : Program} {f : Nat} {K : Func → Code → Bool} (h : hasB P f K = true) : ∃ fn c, P.funcs[f]? = some fn ∧ fn.body = some c ∧ K fn c = true := by
  obtain ⟨fn, h1, h2⟩ := og_t h
  cases hb : fn.body with
  | none => rw [hb] at h2; cases h2
  | some c => rw [hb] at h2; exact ⟨fn, c, h1, hb, h2⟩
noncomputable def topK (E : Env) (fuel : Nat) (e : Ent) : Bool := chkP e (Ent.rec (fun f args pre nb res post nb' => rowsK pre (Tr.mk .dead 16 0) fun m => hasB E.P f fun fn c => xbody E.P (xrun E fuel) fn c args m nb fun v m n' => tst (Nat.beq n' nb') (tst (eqb v res) (preK m post true))) e)
theorem mk_wf : (Tr.mk CR.dead 16 0).wf 0 NM := by
  have := Tr.wf_mk CR.dead 16 0
  rwa [Nat.zero_add] at this
theorem lk_mk : lk (Tr.mk CR.dead 16 0) = noRows := by
  funext r
  rw [lk, Tr.get_mk]
  split <;> first | rfl | (split <;> rfl)
theorem ent_ok {E : Env} {fuel : Nat} {e : Ent} (hE : EnvOK E) (h : topK E fuel e = true) : EntOK E.P e := by
  obtain ⟨f, args, pre, nb, res, post, nb'⟩ := e
  obtain ⟨h1, h2⟩ := tst_t h
  obtain ⟨h3, h4⟩ := tst_t h2
  obtain ⟨h5, h6⟩ := chkPre h4
  obtain ⟨h7, h8⟩ := chkPost h6
  have hnn : nb ≤ nb' := Nat.le_of_ble_eq_true h1
  have hnN : nb' ≤ NM := Nat.le_of_ble_eq_true h3
  have hpre : ∀ p ∈ pre, p.1 < NM := fun p hp => by have := h5 p hp; omega
  obtain ⟨m, k1, k2, k3⟩ := rowsK_t hpre mk_wf h8
  rw [lk_mk] at k3
  obtain ⟨fn, c, k4, k5, k6⟩ := hasB_t k1
  have hm : MemOK m nb := ⟨k2, fun r hr => by
    rw [k3, updL_out (fun hx => ?_)]
    · rfl
    · obtain ⟨p, hp1, hp2⟩ := List.mem_map.1 hx
      have := h5 p hp1
      omega⟩
  obtain ⟨v, m', n', q1, q2, q3⟩ := xbody_t (xrun_t hE fuel).ok k4 k5 hm k6
  obtain ⟨q4, q5⟩ := tst_t q1
  obtain ⟨q6, q7⟩ := tst_t q5
  obtain ⟨q8, _⟩ := preK_t q7
  have e1 := Nat.eq_of_beq_eq_true q4
  have e2 := eqb_t _ _ q6
  subst e1 e2
  rw [k3] at q3
  refine ⟨⟨fn, k4, by rw [k5]; rfl⟩, hnn, hpre, h7, ⟨q3.1, fun F w0 G w vs hF hfr hvs => (q3.2 F w0 G w vs hF hfr hvs).mono fun en w' ⟨y, G', z1, z2, z3, z4⟩ => ⟨y, G', z1, z2, z3, z4.forget fun r hd => ?_⟩⟩⟩
  by_cases hr : r ∈ nms post
  · refine .inl ?_
    exact updL_row (x := lk m' r) (fun p hp e1 => by
      have hN := (h7 p hp).1
      rw [← q8 p hp, e1, lk, if_pos (e1 ▸ hN)]) hr
  · exact .inr (updL_out hr)
end Go.Proofs.YteanccnggaakeaaGreat
