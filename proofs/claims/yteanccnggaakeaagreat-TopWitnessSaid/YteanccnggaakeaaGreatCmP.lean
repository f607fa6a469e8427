/- Calls of what was proved before; operations of all kinds; regions in the order of the text. No condition. -/
import Derived.Test.YteanccnggaakeaaGreatCmO
namespace Go.Proofs.YteanccnggaakeaaGreat
open Go.RowKit
set_option linter.unusedVariables false
set_option linter.unusedSimpArgs false

def updL (M : Nat → CR) : List (Nat × CR) → Nat → CR
  | [] => M
  | (r, row) :: l => updL (upd M r row) l
def nms (l : List (Nat × CR)) : List Nat := l.map (·.1)
theorem nms_cons {q r : Nat} {row : CR} {l : List (Nat × CR)} : r ∈ nms ((q, row) :: l) ↔ r = q ∨ r ∈ nms l := by simp [nms]
theorem updL_out : ∀ {l : List (Nat × CR)} {M : Nat → CR} {r : Nat}, r ∉ nms l → updL M l r = M r
  | [], M, r, h => rfl
  | (q, row) :: l, M, r, h => by
    simp only [nms, List.map_cons, List.mem_cons, not_or] at h
    rw [updL, updL_out (l := l) h.2, upd_ne _ _ h.1]
theorem updL_in : ∀ {l : List (Nat × CR)} {M M' : Nat → CR} {r : Nat}, r ∈ nms l → updL M l r = updL M' l r
  | [], M, M', r, h => by simp [nms] at h
  | (q, row) :: l, M, M', r, h => by
    simp only [updL]
    by_cases hr : r ∈ nms l
    · exact updL_in hr
    · rw [updL_out hr, updL_out hr]
      simp only [nms, List.map_cons, List.mem_cons] at h
      rcases h with rfl | h
      · rw [upd_same, upd_same]
      · exact (hr h).elim
theorem updL_row {x : CR} : ∀ {l : List (Nat × CR)} {M : Nat → CR} {r : Nat}, (∀ p ∈ l, p.1 = r → p.2 = x) → r ∈ nms l → updL M l r = x
  | [], M, r, h, hr => by simp [nms] at hr
  | (q, row) :: l, M, r, h, hr => by
    simp only [updL]
    by_cases hl : r ∈ nms l
    · exact updL_row (fun p hp => h p (by simp [hp])) hl
    · rw [updL_out hl]
      simp only [nms, List.map_cons, List.mem_cons] at hr
      rcases hr with rfl | hr
      · rw [upd_same]; exact h (r, row) (by simp) rfl
      · exact (hl hr).elim
noncomputable def noRows : Nat → CR := fun _ => .dead

/- Equal rows. -/
noncomputable def eqbLL (l k : List (List CV)) : Bool := List.rec (fun k => List.rec true (fun _ _ _ => false) k) (fun x _ ih k => List.rec false (fun y k _ => tst (eqbL x y) (ih k)) k) l k
theorem eqbLL_t : ∀ {l k : List (List CV)}, eqbLL l k = true → l = k
  | [], k, h => by
    cases k with
    | nil => rfl
    | cons y k => cases h
  | x :: l, k, h => by
    cases k with
    | nil => cases h
    | cons y k =>
      obtain ⟨h1, h2⟩ := tst_t (show tst (eqbL x y) (eqbLL l k) = true from h)
      rw [eqbL_t x y h1, eqbLL_t h2]
noncomputable def eqbR (a b : CR) : Bool := CR.rec (fun t s els => CR.rec (fun t' s' els' => tst (Nat.beq t t') (tst (Nat.beq s s') (eqbLL els els'))) false b) (CR.rec (fun _ _ _ => false) true b) a
theorem eqbR_t {a b : CR} (h : eqbR a b = true) : a = b := by
  cases a <;> cases b <;> first | (cases h; done) | skip
  · obtain ⟨h1, h2⟩ := tst_t h
    obtain ⟨h3, h4⟩ := tst_t h2
    rw [Nat.eq_of_beq_eq_true h1, Nat.eq_of_beq_eq_true h3, eqbLL_t h4]
  · rfl
noncomputable def preK (m : Tr CR) (l : List (Nat × CR)) (x : Bool) : Bool := List.rec x (fun p _ ih => Prod.rec (fun r row => m.getK r fun row' => tst (eqbR row row') ih) p) l
theorem preK_t {m : Tr CR} {x : Bool} : ∀ {l : List (Nat × CR)}, preK m l x = true → (∀ p ∈ l, m.get p.1 = p.2) ∧ x = true
  | [], h => ⟨by simp, h⟩
  | (r, row) :: l, h => by
    have h : (m.getK r fun row' => tst (eqbR row row') (preK m l x)) = true := h
    rw [Tr.getK_eq] at h
    obtain ⟨h1, h2⟩ := tst_t h
    obtain ⟨h3, h4⟩ := preK_t h2
    exact ⟨fun p hp => by
      rcases List.mem_cons.1 hp with rfl | hp
      · exact (eqbR_t h1).symm
      · exact h3 p hp, h4⟩
noncomputable def killK (l : List (Nat × CR)) (m : Tr CR) (K : Tr CR → Bool) : Bool := List.rec (fun m => K m) (fun p _ ih m => Prod.rec (fun r _ => m.setK r .dead ih) p) l m
noncomputable def rowsK (l : List (Nat × CR)) (m : Tr CR) (K : Tr CR → Bool) : Bool := List.rec (fun m => K m) (fun p _ ih m => Prod.rec (fun r row => m.setK r row ih) p) l m
theorem killK_t {K : Tr CR → Bool} : ∀ {l : List (Nat × CR)} {m : Tr CR}, (∀ p ∈ l, p.1 < NM) → m.wf 0 NM → killK l m K = true → ∃ m', K m' = true ∧ m'.wf 0 NM ∧ ∀ r, lk m' r = if r ∈ nms l then .dead else lk m r
  | [], m, _, hw, h => ⟨m, h, hw, fun r => by simp [nms]⟩
  | (q, row) :: l, m, hl, hw, h => by
    have h : m.setK q .dead (fun m => killK l m K) = true := h
    rw [Tr.setK_eq] at h
    have hq := hl (q, row) (by simp)
    obtain ⟨m', h1, h2, h3⟩ := killK_t (fun p hp => hl p (by simp [hp])) (Tr.wf_set _ _ _ _ _ hw) h
    refine ⟨m', h1, h2, fun r => ?_⟩
    rw [h3, lk_set hw hq]
    by_cases h4 : r ∈ nms l
    · rw [if_pos h4, if_pos (nms_cons.2 (.inr h4))]
    · rw [if_neg h4]
      by_cases h5 : r = q
      · rw [if_pos (nms_cons.2 (.inl h5)), h5, upd_same]
      · rw [if_neg (fun hh => (nms_cons.1 hh).elim h5 h4), upd_ne _ _ h5]
theorem rowsK_t {K : Tr CR → Bool} : ∀ {l : List (Nat × CR)} {m : Tr CR}, (∀ p ∈ l, p.1 < NM) → m.wf 0 NM → rowsK l m K = true → ∃ m', K m' = true ∧ m'.wf 0 NM ∧ lk m' = updL (lk m) l
  | [], m, _, hw, h => ⟨m, h, hw, rfl⟩
  | (q, row) :: l, m, hl, hw, h => by
    have h : m.setK q row (fun m => rowsK l m K) = true := h
    rw [Tr.setK_eq] at h
    obtain ⟨m', h1, h2, h3⟩ := rowsK_t (fun p hp => hl p (by simp [hp])) (Tr.wf_set _ _ _ _ _ hw) h
    exact ⟨m', h1, h2, by rw [h3, lk_set hw (hl (q, row) (by simp))]; rfl⟩

/- What is asked of what was proved before. -/
def HasBody (P : Program) (f : Nat) : Prop := ∃ fn, P.funcs[f]? = some fn ∧ fn.body.isSome = true
structure EntOK (P : Program) (e : Ent) : Prop where
  body : HasBody P e.f
  le : e.nb ≤ e.nb'
  pre : ∀ p ∈ e.pre, p.1 < NM
  post : ∀ p ∈ e.post, p.1 < NM ∧ p.1 < e.nb' ∧ (p.1 ∈ nms e.pre ∨ e.nb ≤ p.1)
  calls : CC P e.f e.args (updL noRows e.pre) e.nb e.res (updL noRows e.post) e.nb'
def flat : CV → Bool
  | .pos _ _ => true
  | .neg _ _ => true
  | .bo _ => true
  | .val _ => true
  | .ag cs => cs.all fun c => match c with | .pos _ _ => true | .neg _ _ => true | .bo _ => true | .val _ => true | _ => false
  | _ => false
theorem flat1 {G G' : Gh} {c : CV} {y : Value} (h : (match c with | .pos _ _ => true | .neg _ _ => true | .bo _ => true | .val _ => true | _ => false) = true) (hr : R G c y) : R G' c y := by
  cases c <;> first | (cases h; done) | skip
  all_goals simpa only [R] using hr
theorem flatL {G G' : Gh} : ∀ {cs : List CV} {vs : List Value}, (cs.all fun c => match c with | .pos _ _ => true | .neg _ _ => true | .bo _ => true | .val _ => true | _ => false) = true → Rs G cs vs → Rs G' cs vs
  | [], vs, h, hr => by simpa only [Rs] using hr
  | c :: cs, vs, h, hr => by
    simp only [List.all_cons, Bool.and_eq_true] at h
    simp only [Rs] at hr ⊢
    obtain ⟨u, t, rfl, h1, h2, h3⟩ := hr
    exact ⟨u, t, rfl, flat1 h.1 h1, h2, flatL h.2 h3⟩
theorem flat_R {G G' : Gh} {v : CV} {y : Value} (h : flat v = true) (hr : R G v y) : R G' v y := by
  cases v <;> first | (cases h; done) | skip
  case ag cs =>
    simp only [R] at hr ⊢
    obtain ⟨vs, h1, h2⟩ := hr
    exact ⟨vs, h1, flatL h h2⟩
  all_goals simpa only [R] using hr
structure FsOK (P : Program) (p : Nat × CV) : Prop where
  body : HasBody P p.1
  flat : flat p.2 = true
  calls : ∃ M' nb', CC P p.1 [] noRows 0 p.2 M' nb'
structure EnvOK (E : Env) : Prop extends ExtOK E where
  es : ∀ e ∈ E.es, EntOK E.P e
  fs : ∀ p ∈ E.fs, FsOK E.P p
theorem FsOK.cc {P : Program} {p : Nat × CV} (h : FsOK P p) (M : Nat → CR) (nb : Nat) : CC P p.1 [] M nb p.2 M nb := by
  obtain ⟨M', nb', h1⟩ := h.calls
  refine ⟨Nat.le_refl _, fun F w0 G w vs hF hfr hvs => ?_⟩
  have hb : Fit (fun b => b < w.heap.size) w ⟨fun _ => False, fun _ => 0, fun _ => 0, fun _ => 0⟩ noRows w := ⟨rfl, rfl, rfl, Nat.le_refl _, fun b hb => hb, fun _ _ => rfl, fun r hr => hr.elim, fun r _ _ _ hr => hr.elim, fun r _ hr => hr.elim, fun r hr => hr.elim⟩
  refine (h1.2 _ w _ w vs hb (fun r _ _ hd => hd) (by simpa only [Rt] using hvs)).mono fun e w' ⟨y, G', k1, k2, k3, k4⟩ => ⟨y, G, k1, .refl _ _, flat_R h.flat k3, ?_⟩
  refine ⟨k4.os.trans hF.os, k4.tape.trans hF.tape, k4.output.trans hF.output, Nat.le_trans hF.size k4.size, hF.low, fun b hb => (k4.keep b (Nat.lt_of_lt_of_le (hF.low b hb) hF.size)).trans (hF.keep b hb), hF.dlt, fun r ty sz els hd hm => ?_, hF.inj, hF.off⟩
  have := hF.rows r ty sz els hd hm
  exact this.move (.refl G) hd (k4.keep _ this.block_lt)
theorem EntOK.cc {P : Program} {e : Ent} (h : EntOK P e) {m : Tr CR} (hm : MemOK m e.nb) (hp : ∀ p ∈ e.pre, m.get p.1 = p.2) {m' : Tr CR} (hm' : ∀ r, lk m' r = updL (fun r => if r ∈ nms e.pre then .dead else lk m r) e.post r) :
    CC P e.f e.args (lk m) e.nb e.res (lk m') e.nb' := by
  obtain ⟨X, hXd⟩ : ∃ X : Nat → Prop, X = fun r => lk m r ≠ .dead ∧ r ∉ nms e.pre := ⟨_, rfl⟩
  have hX : ∀ r, X r → updL noRows e.pre r = .dead := fun r hr => by
    subst hXd
    rw [updL_out hr.2]
    rfl
  have hlow : ∀ r, X r → r < e.nb := fun r hr => Nat.lt_of_not_le fun hge => by
    subst hXd
    exact hr.1 (hm.low r hge)
  have hf := h.calls.frame (X := X) (E := lk m) hX (fun r hr => .inl (hlow r hr))
  refine ⟨h.le, fun F w0 G w vs hF hfr hvs => (hf.2 F w0 G w vs (hF.forget fun r hd => ?_) hfr hvs).mono fun en w' ⟨y, G', k1, k2, k3, k4⟩ => ⟨y, G', k1, k2, k3, k4.forget fun r hd => ?_⟩⟩
  · by_cases hx : X r
    · rw [mix_in hx]; exact .inl rfl
    · rw [mix_out hx]
      by_cases hr : r ∈ nms e.pre
      · refine .inl ?_
        rw [updL_row (x := lk m r) (fun p hp' e1 => ?_) hr]
        have hN := h.pre p hp'
        rw [← hp p hp', e1, lk, if_pos (e1 ▸ hN)]
      · exact .inr (updL_out hr)
  · rw [hm']
    by_cases hr : r ∈ nms e.post
    · have hnx : ¬ X r := fun hx => by
        have h1 := hlow r hx
        obtain ⟨p, hp1, hp2⟩ := List.mem_map.1 hr
        obtain ⟨_, _, h2⟩ := h.post p hp1
        rw [hp2] at h2
        subst hXd
        rcases h2 with h2 | h2
        · exact hx.2 h2
        · omega
      rw [mix_out hnx]
      exact .inl (updL_in hr)
    · rw [updL_out hr]
      by_cases hx : X r
      · rw [mix_in hx]
        subst hXd
        rw [if_neg hx.2]
        exact .inl rfl
      · subst hXd
        by_cases h1 : r ∈ nms e.pre
        · rw [if_pos h1]; exact .inr rfl
        · rw [if_neg h1]
          by_cases h2 : lk m r = .dead
          · exact .inr h2
          · exact (hx ⟨h2, h1⟩).elim
/- A call. -/
noncomputable def xes (fid : Nat) (l : List CV) (m : Tr CR) (nb : Nat) (K : KO) (next : Bool) (es : List Ent) : Bool :=
  List.rec next (fun e _ ih => Ent.rec (fun f args pre n res post n' => Bool.rec ih (Bool.rec ih (Bool.rec ih (preK m pre (killK pre m fun m => rowsK post m fun m => K res m n')) (eqbL args l)) (Nat.beq f fid)) (Nat.beq n nb)) e) es
noncomputable def xfs (fid : Nat) (l : List CV) (m : Tr CR) (nb : Nat) (K : KO) (next : Bool) (fs : List (Nat × CV)) : Bool :=
  List.rec next (fun p _ ih => Prod.rec (fun f v => Bool.rec ih (List.rec (K v m nb) (fun _ _ _ => false) l) (Nat.beq f fid)) p) fs
noncomputable def xcall (E : Env) (run : Run) (fid : Nat) (l : List CV) (m : Tr CR) (nb : Nat) (K : KO) : Bool :=
  xfs fid l m nb K (xes fid l m nb K (og (E.P.funcs[fid]?) fun fn => Option.rec (xExt E fid l fun v => K v m nb) (fun body => xbody E.P run fn body l m nb K) fn.body) E.es) E.fs
def Called (E : Env) (fid : Nat) (l : List CV) (m : Tr CR) (nb : Nat) (K : KO) : Prop :=
  (∃ v m' nb', K v m' nb' = true ∧ MemOK m' nb' ∧ HasBody E.P fid ∧ CC E.P fid l (lk m) nb v (lk m') nb') ∨
  (∃ v, K v m nb = true ∧ ∀ (G : Gh) (vs : List Value), Rt G l vs → ∃ y, R G v y ∧ ∀ w : World, (callFunc fid vs.toArray).run E.P w = .ok (.value y) w)
section
variable {E : Env} {fid : Nat} {l : List CV} {m : Tr CR} {nb : Nat} {K : KO}
theorem xes_t {next : Bool} (hm : MemOK m nb) (hn : next = true → Called E fid l m nb K) : ∀ {es : List Ent}, (∀ e ∈ es, EntOK E.P e) → xes fid l m nb K next es = true → Called E fid l m nb K
  | [], _, h => hn h
  | e :: es, he, h => by
    obtain ⟨f, args, pre, n, res, post, n'⟩ := e
    have rest : xes fid l m nb K next es = true → Called E fid l m nb K := fun h => xes_t hm hn (fun e hh => he e (List.mem_cons_of_mem _ hh)) h
    have h : (Bool.rec (xes fid l m nb K next es) (Bool.rec (xes fid l m nb K next es) (Bool.rec (xes fid l m nb K next es) (preK m pre (killK pre m fun m => rowsK post m fun m => K res m n')) (eqbL args l)) (Nat.beq f fid)) (Nat.beq n nb) : Bool) = true := h
    rcases rec_b h with ⟨h1, h2⟩ | ⟨_, h2⟩
    rotate_left
    · exact rest h2
    rcases rec_b h2 with ⟨h3, h4⟩ | ⟨_, h4⟩
    rotate_left
    · exact rest h4
    rcases rec_b h4 with ⟨h5, h6⟩ | ⟨_, h6⟩
    rotate_left
    · exact rest h6
    have ok := he _ (List.mem_cons_self)
    obtain ⟨h7, h8⟩ := preK_t h6
    obtain ⟨m1, k1, k2, k3⟩ := killK_t ok.pre hm.wf h8
    obtain ⟨m2, k4, k5, k6⟩ := rowsK_t (fun p hp => (ok.post p hp).1) k2 k1
    have e1 : n = nb := Nat.eq_of_beq_eq_true h1
    have e2 : f = fid := Nat.eq_of_beq_eq_true h3
    have e3 : args = l := eqbL_t _ _ h5
    subst e1 e2 e3
    have hlk : ∀ r, lk m2 r = updL (fun r => if r ∈ nms pre then .dead else lk m r) post r := fun r => by
      rw [k6, show lk m1 = fun r => if r ∈ nms pre then CR.dead else lk m r from funext k3]
    refine .inl ⟨res, m2, n', k4, ⟨k5, fun r hr => ?_⟩, ok.body, ok.cc hm h7 hlk⟩
    have hle := ok.le
    rw [hlk]
    rw [updL_out (fun hx => by
      obtain ⟨p, hp1, hp2⟩ := List.mem_map.1 hx
      have := (ok.post p hp1).2.1
      simp only at this hle
      omega)]
    simp only at hle
    split
    · rfl
    · exact hm.low r (by omega)
theorem xfs_t {next : Bool} (hm : MemOK m nb) (hn : next = true → Called E fid l m nb K) : ∀ {fs : List (Nat × CV)}, (∀ p ∈ fs, FsOK E.P p) → xfs fid l m nb K next fs = true → Called E fid l m nb K
  | [], _, h => hn h
  | (f, v) :: fs, he, h => by
    rcases rec_b (show (Bool.rec (xfs fid l m nb K next fs) (List.rec (K v m nb) (fun _ _ _ => false) l) (Nat.beq f fid) : Bool) = true from h) with ⟨h1, h2⟩ | ⟨_, h2⟩
    · have ok := he _ (List.mem_cons_self)
      have e2 : f = fid := Nat.eq_of_beq_eq_true h1
      subst e2
      cases l with
      | cons x l => cases h2
      | nil => exact .inl ⟨v, m, nb, h2, hm, ok.body, ok.cc (lk m) nb⟩
    · exact xfs_t hm hn (fun e hh => he e (List.mem_cons_of_mem _ hh)) h2
theorem xcall_t (hE : EnvOK E) {run : Run} (hrun : RunOK E.P run) (hm : MemOK m nb) (h : xcall E run fid l m nb K = true) : Called E fid l m nb K := by
  refine xfs_t hm (fun h => xes_t hm (fun h => ?_) hE.es h) hE.fs h
  obtain ⟨fn, h1, h2⟩ := og_t h
  cases hb : fn.body with
  | none =>
    rw [hb] at h2
    exact .inr (xExt_t hE.toExtOK h2)
  | some body =>
    rw [hb] at h2
    obtain ⟨v, m', nb', k1, k2, k3⟩ := xbody_t hrun h1 hb hm h2
    exact .inl ⟨v, m', nb', k1, k2, ⟨fn, h1, by rw [hb]; rfl⟩, k3⟩
end
/- Whom an operation calls. -/
noncomputable def funV (K : Nat → Bool) (v : Value) : Bool := match v with | .func (.func f) a b => tst a.toList.isEmpty (tst b.toList.isEmpty (K f)) | _ => false
noncomputable def tpK (K : List CV → Bool) (x : CV) : Bool := CV.cs (fun _ _ => false) (fun _ _ => false) (fun _ => false) (fun _ => false) (fun _ _ _ => false) (fun _ _ _ _ => false) (fun _ _ _ _ => false) (fun _ _ _ => false) (fun _ => false) K (fun _ _ => false) x
theorem tpK_t {K : List CV → Bool} {x : CV} (h : tpK K x = true) : ∃ l, x = .tp l ∧ K l = true := by
  cases x <;> first | (cases h; done) | exact ⟨_, rfl, h⟩
noncomputable def xcallee (E : Env) (run : Run) (tm : Tr CV) (m : Tr CR) (nb : Nat) (K : KO) (f : Operand) (args : List Operand) : Bool :=
  evK tm f fun fv => CV.cs (fun _ _ => false) (fun _ _ => false) (fun _ => false) (funV fun fid => evsK tm args fun l => xcall E run fid l m nb K) (fun _ _ _ => false) (fun _ _ _ _ => false) (fun _ _ _ _ => false) (fun _ _ _ => false) (fun _ => false) (fun _ => false)
    (fun fid cap => List.rec false (fun x t _ => tpK (fun l1 => evsK tm args fun l => fL (appL l t) fun l => fL (appL l1 l) fun l => xcall E run fid l m nb K) x) cap) fv
theorem callFunc_run {P : Program} {fid : FuncId} {fn : Func} (h1 : P.funcs[fid]? = some fn) (h2 : fn.body.isSome = true) (h3 : (fn.name == "runtime.NumGoroutine") = false) (args : Array Value) (w : World) : (callFunc fid args).run P w = .ok (.enter fid args) w := by
  obtain ⟨b, hb⟩ := Option.isSome_iff_exists.1 h2
  have h3' : ¬ fn.name = "runtime.NumGoroutine" := by simpa using h3
  simp [callFunc, run_program, h1, h3', hb]
section
variable {E : Env} {run : Run} {tm : Tr CV} {m : Tr CR} {nb : Nat} {K : KO} {o : Oper}
theorem called_out (hE : EnvOK E) {f : Operand} {args : Array Operand} {ts : Array TypeId} (hop : o.op = .call ⟨.value f, args, ts⟩) (hm : MemOK m nb) {fid : Nat} {pre cap : List CV}
    (hf : ∀ (G : Gh) (y : Value), R G (evv tm.get f) y → ∃ ps us : List Value, y = .func (.func fid) ps.toArray us.toArray ∧ Rt G pre ps ∧ Rt G cap us) (h : Called E fid (pre ++ (args.toList.map (evv tm.get) ++ cap)) m nb K) : Out1 E.P (evv tm.get) o m nb K := by
  have hk : kd o.op = .heavy := by rw [hop]; rfl
  have hmem : ∀ x, x = f ∨ x ∈ args.toList → x ∈ o.op.operands.toList := fun x hx => by
    rw [hop]
    simp only [Op.operands, Call.operands]
    simpa using hx
  have hres : ∀ (G : Gh) (a : Act), Sees G (evv tm.get) a o → ∃ us : List Value, Rt G (pre ++ (args.toList.map (evv tm.get) ++ cap)) us ∧ ∀ w : World, (execOp a.eval o).run E.P w = (callFunc fid us.toArray).run E.P w := fun G a hs => by
    obtain ⟨ps, us, e1, e0, e2⟩ := hf G _ (hs f (hmem f (.inl rfl)))
    refine ⟨ps ++ (args.toList.map a.eval ++ us), e0.append ((Rt.evs fun x hx => hs x (hmem x (.inr hx))).append e2), fun w => ?_⟩
    have hargs : args.map a.eval = (args.toList.map a.eval).toArray := Array.ext' (by simp)
    simp only [execOp, hop, resolve, e1, Deferred.ofValue, hargs, Sem.run_bind, Sem.run_pure, Result.andThen_ok, invoke]
    simp
  rcases h with ⟨v, m', nb', h1, h2, ⟨fn, b1, b2⟩, h3⟩ | ⟨v, h1, h2⟩
  · refine out_heavy hk ⟨v, m', nb', h1, h2, h3.1, fun F w0 G a w K' Q hF hfr hs hk' => ?_⟩
    obtain ⟨us, r1, r2⟩ := hres G a hs
    unfold Oper.wp
    rw [r2, callFunc_run b1 b2 (hE.name fid fn b1)]
    refine (h3.2 F w0 G w _ hF hfr r1).mono ?_
    rintro e w' ⟨y, G', rfl, k2, k3, k4⟩
    exact hk' G' y w' k2 k3 k4
  · refine out_heavy hk ⟨v, m, nb, h1, hm, .of_run (Nat.le_refl _) fun F w0 G a w hF hfr hs => ?_⟩
    obtain ⟨us, r1, r2⟩ := hres G a hs
    obtain ⟨y, k1, k2⟩ := h2 G _ r1
    exact ⟨G, y, w, .refl _ _, k1, hF, by rw [r2]; exact k2 w⟩
theorem xcallee_t (hE : EnvOK E) (hrun : RunOK E.P run) {f : Operand} {args : Array Operand} {ts : Array TypeId} (hop : o.op = .call ⟨.value f, args, ts⟩) (hm : MemOK m nb) (h : xcallee E run tm m nb K f args.toList = true) : Out1 E.P (evv tm.get) o m nb K := by
  unfold xcallee at h
  rw [evK_eq] at h
  generalize hfv : evv tm.get f = fv at h
  cases fv <;> first | (cases h; done) | skip
  · rename_i v
    have hv' : funV (fun fid => evsK tm args.toList fun l => xcall E run fid l m nb K) v = true := h
    clear h
    unfold funV at hv'
    split at hv'
    · rename_i fid a b
      obtain ⟨h1, h2⟩ := tst_t hv'
      obtain ⟨h3, h4⟩ := tst_t h2
      have h4 : (evsK tm args.toList fun l => xcall E run fid l m nb K) = true := h4
      rw [evsK_eq] at h4
      refine called_out hE hop hm (fid := fid) (pre := []) (cap := []) (fun G y hy => ?_) (by rw [List.append_nil]; exact xcall_t hE hrun hm h4)
      rw [hfv] at hy
      simp only [R] at hy
      exact ⟨[], [], by rw [hy, arr_nil h1, arr_nil h3], by simp [Rt], by simp [Rt]⟩
    · cases hv'
  · rename_i fid cap
    cases cap with
    | nil => cases h
    | cons x t =>
      obtain ⟨l1, rfl, h'⟩ := tpK_t (show tpK (fun l1 => evsK tm args.toList fun l => fL (appL l t) fun l => fL (appL l1 l) fun l => xcall E run fid l m nb K) x = true from h)
      rw [evsK_eq, fL_eq, appL_eq, fL_eq, appL_eq] at h'
      refine called_out hE hop hm (fid := fid) (pre := l1) (cap := t) (fun G y hy => ?_) (xcall_t hE hrun hm h')
      rw [hfv] at hy
      simp only [R] at hy
      obtain ⟨us, vs, rfl, hr⟩ := hy
      rw [Rt] at hr
      obtain ⟨u, t', e, h1, h2⟩ := hr
      injection e with e1 e2
      subst e1 e2
      simp only [R] at h1
      obtain ⟨us', e, h3⟩ := h1
      injection e with e
      have e : us = us' := by simpa using e
      subst e
      exact ⟨us, vs, rfl, h3, h2⟩
/- An operation of whatever kind. -/
noncomputable def xoper (E : Env) (run : Run) (tm : Tr CV) (m : Tr CR) (nb : Nat) (K : KO) (op : Op) : Bool := xop E.P (xcallee E run tm m nb K) tm m nb K op
theorem xoper_t (hE : EnvOK E) (hrun : RunOK E.P run) (hm : MemOK m nb) (h : xoper E run tm m nb K o.op = true) : Out1 E.P (evv tm.get) o m nb K := by
  cases hv : isVCall o.op with
  | false => exact xop_t hv hm h
  | true =>
    cases hop : o.op <;> rw [hop] at hv <;> first | (cases hv; done) | skip
    rename_i c
    obtain ⟨cl, args, ts⟩ := c
    cases cl with
    | value f =>
      rw [hop] at h
      exact xcallee_t hE hrun hop hm h
    | invoke r n => cases hv
    | builtin b => cases hv
end
end Go.Proofs.YteanccnggaakeaaGreat
