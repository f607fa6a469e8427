/- Code over abstract states: regions, sequences, tests, blocks, loops; from code to calls. No condition. -/
import Derived.Test.YtjkfadaedgidpaaGreatAbsM
namespace Go.Proofs.YtjkfadaedgidpaaGreat
open Go.RowKit
set_option linter.unusedVariables false
set_option linter.unusedSimpArgs false
section
variable {P : Program} {B : Env} {w0 w w' : World} {gh gh' : YtjkfadaedgidpaaGreat.Gh} {s : AS} {a : Act} {o : Oper} {e : Eff} {G : Prop} {ops : Array Oper}
theorem wanted_iff (h : Sim B w0 gh s a w) (hg : gcond ops s o = some G) : Region.wanted o (yielded ops a.tmps) = true ↔ G := by
 unfold gcond at hg
 unfold Region.wanted
 cases hgd : o.guard with
 | none =>
  rw [hgd] at hg
  injection hg with hg
  subst hg
  simp
 | some gw =>
  obtain ⟨j, want⟩ := gw
  rw [hgd] at hg
  simp only at hg ⊢
  unfold yielded
  cases hd : (ops[j]?).bind (·.dst) with
  | none => rw [hd] at hg; cases hg
  | some d =>
   rw [hd] at hg
   simp only [Option.bind_some] at hg ⊢
   have hr := h.ev (.tmp d)
   simp only [AS.ev, Act.eval] at hr
   generalize s.tm.getD d .any = x at *
   rw [Array.getD_eq_getD_getElem?] at hr
   split at hg
   ·rename_i t hx
    injection hg with hg
    subst hg
    have key : (x.ok → a.tmps[d]? = some (.bool t)) ∧ (¬ x.ok → a.tmps[d]? = none ∨ a.tmps[d]? = some undef) := by
     have hget : ∀ y, (a.tmps[d]?).getD undef = y → y ≠ undef → a.tmps[d]? = some y := fun y hy hne => by
      cases ht : a.tmps[d]? with
      | none => rw [ht] at hy; simp at hy; exact (hne hy.symm).elim
      | some z => rw [ht] at hy; simp at hy; rw [hy]
     have hbu : Value.bool t ≠ undef := by intro hh; cases hh
     have hwh : ∀ g z, x = .wh g z → (x.ok → a.tmps[d]? = some (.bool t)) ∧ (¬ x.ok → a.tmps[d]? = none ∨ a.tmps[d]? = some undef) := fun g z hxz => by
      subst hxz
      simp only [AV.bare] at hx
      subst hx
      simp only [R, RD] at hr
      refine ⟨fun hk => hget _ (hr.1 hk) hbu, fun hk => ?_⟩
      have := hr.2 hk
      cases ht : a.tmps[d]? with
      | none => exact .inl rfl
      | some z => rw [ht] at this; simp at this; exact .inr (by rw [this])
     cases x with
     | wh g z => exact hwh g z rfl
     | d y =>
      simp only [AV.bare, AV.d.injEq] at hx
      subst hx
      simp only [R, RD] at hr
      exact ⟨fun _ => hget _ hr hbu, fun hk => (hk trivial).elim⟩
     | _ => simp [AV.bare] at hx
    by_cases hk : x.ok
    ·rw [key.1 hk]
     simp [hk]
    ·rcases key.2 hk with ht | ht <;> simp [ht, hk, undef]
   ·cases hg
theorem sound_skip (h : Sim B w0 gh s a w) (hc : acore P s G o e) (hG : ¬ G) (hgd : o.guard ≠ none) : Sim B w0 gh (s.app o.dst (wrapE o G e)) (a.put o.dst undef) w := by
 have hwf := h.wf.app hc
 have hm : (s.app o.dst (wrapE o G e)).mem = ovr e.mem s.mem := by simp [AS.app, wrapE_mem]
 have heff := acore_effOk hc
 have cls : ∀ r row, ovr e.mem s.mem r = some row → row.g → s.mem r = some row := fun r row hr hg => by
  rcases ovr_mem hr with hin | ⟨_, hr⟩
  ·exact (hG ((heff r row hin).1 hg)).elim
  ·exact hr
 refine ⟨?_, ?_, h.below, h.base, h.imm, fun r row hr hg => ?_, fun r r' row row' b hne h1 h2 g1 g2 b1 b2 => ?_, hwf.1, fun r row hr hp => ?_, hwf.2⟩
 ·cases o.dst <;> exact h.defers
 ·cases hd : o.dst with
  | none => exact h.tm
  | some d =>
   rw [put_tmps]
   refine h.tm.set d ?_
   unfold wrapE
   split
   ·rename_i hn; exact (hgd hn).elim
   ·simp only [R]
    exact ⟨fun hh => (hG hh).elim, fun _ => trivial⟩
 ·rw [hm] at hr
  exact h.rows r row (cls r row hr hg) hg
 ·rw [hm] at h1 h2
  exact h.apart r r' row row' b hne (cls r row h1 g1) (cls r' row' h2 g2) g1 g2 b1 b2
 ·rw [hm] at hr
  rcases ovr_mem hr with hin | ⟨_, hr⟩
  ·rcases (heff r row hin).2 with ⟨_, d, _, hd, ho⟩ | ⟨row0, hr0, _⟩
   ·exact (owner_np ho hd hp).elim
   ·exact h.pins r row0 hr0 hp
  ·exact h.pins r row hr hp
theorem sound_step {K : AS → Prop} {Q : Exit → Act → World → Prop} (h : Sim B w0 gh s a w) (hs : aStep P ops o K s) :
  if Region.wanted o (yielded ops a.tmps) = true then o.wp P a w (fun a' w' => ∃ s' gh', K s' ∧ Sim B w0 gh' s' a' w') Q else ∃ s' gh', K s' ∧ Sim B w0 gh' s' (a.put o.dst undef) w := by
 obtain ⟨G, e, ⟨hg, hc⟩, hk⟩ := hs
 have hw := wanted_iff h hg
 split
 ·rename_i hw'
  exact Oper.wp_mono (fun a' w' ⟨gh', hS⟩ => ⟨_, gh', hk, hS⟩) (sound_core h hc (hw.1 hw'))
 ·rename_i hw'
  refine ⟨_, gh, hk, sound_skip h hc (fun hh => hw' (hw.2 hh)) fun hn => ?_⟩
  refine hw' ?_
  simp [Region.wanted, hn]
theorem sound_op {i : Nat} {K : AS → Prop} {Q : Exit → Act → World → Prop} (h : Sim B w0 gh s a w) (hs : aOp P ops i K s) : wpOp P ops Q i (fun a' w' => ∃ s' gh', K s' ∧ Sim B w0 gh' s' a' w') a w := by
 unfold aOp at hs
 unfold wpOp
 split
 ·rename_i ho; simp only [ho] at hs; exact ⟨s, gh, hs, h⟩
 ·rename_i o ho
  simp only [ho] at hs
  have := sound_step (Q := Q) h hs
  split
  ·rename_i hw; rw [if_pos hw] at this; exact .inl this
  ·rename_i hw; rw [if_neg hw] at this; exact this
theorem sound_any {md : Region.Mode} {K : AS → Prop} {Q : Exit → Act → World → Prop} (hQ : ∀ s gh a w, K s → Sim B w0 gh s a w → Q .normal a w) : ∀ (fuel : Nat) (listed : Array Bool) (s : AS) (gh : YtjkfadaedgidpaaGreat.Gh) (a : Act) (w : World), Sim B w0 gh s a w →
  aAny P md ops K fuel listed s → wpAny P md ops Q fuel listed a w
 | 0, _, _, _, _, _, h, hs => ⟨hs.1, hQ _ _ _ _ hs.2 h⟩
 | fuel + 1, _, _, _, _, _, h, hs => ⟨fun h0 => hQ _ _ _ _ (hs.1 h0) h, fun i hi => wpOp_mono (fun a' w' ⟨s', gh', hk, hS⟩ => sound_any hQ fuel _ s' gh' a' w' hS hk) (sound_op h (hs.2 i hi))⟩
theorem sound_lex {K : AS → Prop} {Q : Exit → Act → World → Prop} (hQ : ∀ s gh a w, K s → Sim B w0 gh s a w → Q .normal a w) : ∀ (l : List Oper) (k : Nat) (s : AS) (gh : YtjkfadaedgidpaaGreat.Gh) (a : Act) (w : World), (∀ j, l[j]? = ops[k + j]?) → Sim B w0 gh s a w →
  aLex P ops K l s → wpOps P ops Q (List.range' k l.length) a w
 | [], k, s, gh, a, w, _, h, hs => by simpa [wpOps] using hQ _ _ _ _ hs h
 | o :: l, k, s, gh, a, w, hl, h, hs => by
  have h0 : ops[k]? = some o := by simpa using (hl 0).symm
  rw [List.length_cons, List.range'_succ, wpOps_cons]
  have hop : aOp P ops k (aLex P ops K l) s := by unfold aOp; simp only [h0]; exact hs
  exact wpOp_mono (fun a' w' ⟨s', gh', hk, hS⟩ => sound_lex hQ l (k + 1) s' gh' a' w' (fun j => by have := hl (j + 1); simpa [Nat.add_assoc, Nat.add_comm 1 j] using this) hS hk) (sound_op h hop)
end
def AWp (P : Program) (c : Code) (Q : Exit → AS → Prop) (s : AS) : Prop :=
 ∀ (B : Env) (w0 : World) (gh : YtjkfadaedgidpaaGreat.Gh) (a : Act) (w : World), Sim B w0 gh s a w → c.wp P (fun e a' w' => ∃ s' gh', Q e s' ∧ Sim B w0 gh' s' a' w') a w
def Le (s s' : AS) : Prop := ∀ (B : Env) (w0 : World) (gh : YtjkfadaedgidpaaGreat.Gh) (a : Act) (w : World), Sim B w0 gh s a w → ∃ gh', Sim B w0 gh' s' a w
def aThen (K : AS → Prop) (Q : Exit → AS → Prop) : Exit → AS → Prop
 | .normal, s => K s
 | e, s => Q e s
def aBlock (id : Nat) (Q : Exit → AS → Prop) : Exit → AS → Prop
 | .exit id', s => if id' = id then Q .normal s else Q (.exit id') s
 | e, s => Q e s
section
variable {P : Program} {Q : Exit → AS → Prop} {s : AS}
theorem awp_le {c : Code} {s' : AS} (hl : Le s s') (h : AWp P c Q s') : AWp P c Q s := fun B w0 gh a w hS => by
 obtain ⟨gh', hS'⟩ := hl B w0 gh a w hS
 exact h B w0 gh' a w hS'
theorem awp_skip (h : Q .normal s) : AWp P .skip Q s := fun B w0 gh a w hS => wp_skip ⟨s, gh, h, hS⟩
theorem awp_exit {id : Nat} (h : Q (.exit id) s) : AWp P (.exit id) Q s := fun B w0 gh a w hS => wp_exit ⟨s, gh, h, hS⟩
theorem awp_ret (h : Q .ret s) : AWp P .ret Q s := fun B w0 gh a w hS => wp_ret ⟨s, gh, h, hS⟩
theorem awp_seq {x y : Code} (h : ∀ K : AS → Prop, (∀ s, AWp P y Q s → K s) → AWp P x (aThen K Q) s) : AWp P (.seq x y) Q s := fun B w0 gh a w hS => by
 refine wp_seq (wp_mono (h (fun s' => AWp P y Q s') (fun _ h => h) B w0 gh a w hS) ?_)
 rintro e a' w' ⟨s', gh', h1, h2⟩
 cases e with
 | normal => exact h1 B w0 gh' a' w' h2
 | _ => exact ⟨s', gh', h1, h2⟩
theorem awp_cond {c : Operand} {x y : Code} (b : Bool) (hc : s.at c = bv b) (hk : s.ok c) (h1 : b = true → AWp P x Q s) (h2 : b = false → AWp P y Q s) : AWp P (.cond c x y) Q s := fun B w0 gh a w hS => by
 have hr := hS.at_ hk
 rw [hc] at hr
 simp only [R, RD] at hr
 exact wp_cond_split hr (fun hb => h1 hb B w0 gh a w hS) (fun hb => h2 hb B w0 gh a w hS)
theorem awp_block {id : Nat} {c : Code} (h : AWp P c (aBlock id Q) s) : AWp P (.block id c) Q s := fun B w0 gh a w hS => by
 refine wp_block (wp_mono (h B w0 gh a w hS) ?_)
 rintro e a' w' ⟨s', gh', h1, h2⟩
 cases e with
 | exit id' =>
  simp only [aBlock] at h1
  simp only [Exit.inBlock]
  split
  ·rename_i hid; rw [if_pos hid] at h1; exact ⟨s', gh', h1, h2⟩
  ·rename_i hid; rw [if_neg hid] at h1; exact ⟨s', gh', h1, h2⟩
 | _ => exact ⟨s', gh', h1, h2⟩
theorem wp_loop_rel {P : Program} {Q : Exit → Act → World → Prop} {c : Code} (J : Nat → Act → World → Prop)
  (round : ∀ m a w, J m a w → c.wp P (Exit.then (fun a' w' => ∃ m', m' < m ∧ J m' a' w') Q) a w) (m : Nat) (a : Act) (w : World) (hJ : J m a w) : (Code.loop c).wp P Q a w := by
 intro b k cs
 have key : ∀ m a w, J m a w → ∃ e a' w', Q e a' w' ∧ Arrives P (lone (b.at a (.code c :: .inLoop c :: k)) cs w) b k cs e a' w' := by
  intro m
  induction m using Nat.strongRecOn with
  | _ m ih =>
   intro a w hJ
   obtain ⟨e, a₁, w₁, hq, harr⟩ := round m a w hJ b (.inLoop c :: k) cs
   cases e with
   | normal =>
    obtain ⟨m', hlt, hJ'⟩ := hq
    obtain ⟨e₂, a₂, w₂, hq₂, harr₂⟩ := ih m' hlt a₁ w₁ hJ'
    exact ⟨e₂, a₂, w₂, hq₂, .of_steps (Steps.trans harr (.one step_inLoop)) harr₂⟩
   | exit id => exact ⟨_, a₁, w₁, hq, .pass (x := .inLoop c) rfl (fun _ _ => .inl (by simp)) harr⟩
   | goto l => exact ⟨_, a₁, w₁, hq, .pass (x := .inLoop c) rfl (fun _ _ => .inl (by simp)) harr⟩
   | ret => exact ⟨_, a₁, w₁, hq, .pass (x := .inLoop c) rfl (fun _ _ => .inl (by simp)) harr⟩
   | panic ch => exact ⟨_, a₁, w₁, hq, .pass (x := .inLoop c) rfl (fun _ _ => .inl (by simp)) harr⟩
   | outgrown => exact ⟨_, a₁, w₁, hq, .pass (x := .inLoop c) rfl (fun _ _ => .inl (by simp)) harr⟩
 obtain ⟨e, a', w', hq, harr⟩ := key m a w hJ
 exact ⟨e, a', w', hq, .of_steps (.one step_loop) harr⟩
theorem awp_loop {c : Code} (J : Nat → AS → Prop) (m0 : Nat) (s0 : AS) (hl : Le s s0) (h0 : J m0 s0)
  (round : ∀ m s, J m s → AWp P c (aThen (fun s' => ∃ m' s1, m' < m ∧ Le s' s1 ∧ J m' s1) Q) s) : AWp P (.loop c) Q s := fun B w0 gh a w hS => by
 obtain ⟨gh', hS'⟩ := hl B w0 gh a w hS
 refine wp_loop_rel (fun m a w => ∃ s gh, J m s ∧ Sim B w0 gh s a w) ?_ m0 a w ⟨s0, gh', h0, hS'⟩
 rintro m a w ⟨s, gh, hJ, hS⟩
 refine wp_mono (round m s hJ B w0 gh a w hS) ?_
 rintro e a' w' ⟨s', gh', h1, h2⟩
 cases e with
 | normal =>
  obtain ⟨m', s1, hlt, hle, hJ'⟩ := h1
  obtain ⟨gh'', hS''⟩ := hle B w0 gh' a' w' h2
  exact ⟨m', hlt, s1, gh'', hJ', hS''⟩
 | _ => exact ⟨s', gh', h1, h2⟩
theorem awp_region {id : Nat} {l : List Oper} {draw : Bool} (hm : P.follows .mixedOrders = true) (hd : draw = true → lexC .any l.toArray = true) (h : aLex P l.toArray (Q .normal) l s) : AWp P (.region id l.toArray draw) Q s := fun B w0 gh a w hS => by
 cases draw with
 | false =>
  refine wp_region ?_
  have := sound_lex (P := P) (ops := l.toArray) (K := Q .normal) (Q := fun e a' w' => ∃ s' gh', Q e s' ∧ Sim B w0 gh' s' a' w') (fun s gh a w hk hS => ⟨s, gh, hk, hS⟩) l 0 s gh a w (fun j => by simp) hS h
  rw [List.range_eq_range']
  simpa using this
 | true =>
  refine wp_region_any hm ?_
  have hS' : Sim B w0 gh s a { w with drawn := w.drawn + 1 } := by
   have hb : Out B.own w { w with drawn := w.drawn + 1 } := ⟨rfl, rfl, rfl, Nat.le_refl _, fun _ _ _ => rfl⟩
   refine ⟨hS.defers, Rt.keep (G := gh) (G' := gh) (w := w) (w' := { w with drawn := w.drawn + 1 }) (fun _ h => h) (fun _ _ => rfl) _ _ (fun _ _ => ⟨rfl, rfl, rfl⟩) hS.tm, hS.below.trans hb, hS.base, hS.imm, fun r row hr hg => ?_, hS.apart, hS.wft, hS.pins, hS.wfm⟩
   exact (hS.rows r row hr hg).keep (fun _ h => h) (fun _ _ => rfl) ⟨rfl, rfl, rfl⟩ (fun _ _ _ _ => ⟨rfl, rfl, rfl⟩) (fun _ _ => rfl) (fun _ _ h => h)
  exact sound_any (K := Q .normal) (fun s gh a w hk hS => ⟨s, gh, hk, hS⟩) _ _ s gh a _ hS' (aAny_of_lex hS.wf (hd rfl) (by simpa using h))
end
def resV (P : Program) (s : AS) : ResultVar → AV → Prop
 | .tmp t, x => x = s.tm.getD t .any
 | .cell p t, x => ∃ r i o row, s.tm.getD p .any = .ptr r i o ∧ s.mem r = some row ∧ row.g ∧ tyOk P t = true ∧ i < row.els.length ∧
   (bif aggT P t then o + szT P t ≤ (row.els.getD i []).length ∧ x = .ag (((row.els.getD i []).drop o).take (szT P t)) else o < (row.els.getD i []).length ∧ x = (row.els.getD i []).getD o .any)
def resVs (P : Program) (s : AS) : List ResultVar → List AV → Prop
 | [], xs => xs = []
 | r :: rs, xs => ∃ x t, xs = x :: t ∧ resV P s r x ∧ resVs P s rs t
def resM (tmps : Array Value) (r : ResultVar) : Sem Value :=
 match r with
 | .tmp t => pure (tmps.getD t undef)
 | .cell a t => do loadVar t (← asAddr (tmps.getD a undef))
theorem results_eq (fn : Func) (tmps : Array Value) : results fn tmps = (do let vs ← fn.results.mapM (resM tmps); pure (if h : vs.size = 1 then vs[0] else .tuple vs)) := rfl
def resAll : List AV → AV
 | [x] => x
 | xs => .tp xs
mutual
def flatD : D → Prop
 | .v _ => True
 | .agg cs => flatDs cs
 | .sl _ _ => False
 | .pt _ => False
 | .fn _ _ => False
def flatDs : List D → Prop
 | [] => True
 | x :: xs => flatD x ∧ flatDs xs
end
mutual
def flatA : AV → Prop
 | .any => True
 | .d x => flatD x
 | .ep _ => False
 | .ref _ _ => True
 | .ptr _ _ _ => True
 | .ag cs => flatAs cs
 | .tp cs => flatAs cs
 | .wh _ x => flatA x
 | .cl _ cs => flatAs cs
def flatAs : List AV → Prop
 | [] => True
 | x :: xs => flatA x ∧ flatAs xs
end
mutual
theorem RD.flat {I I' : Nat → Prop} {w w' : World} : ∀ (x : D) (y : Value), flatD x → RD I w x y → RD I' w' x y
 | .v x, y, _, h => by simpa only [RD] using h
 | .agg cs, y, hf, h => by
  simp only [RD] at h ⊢
  obtain ⟨vs, h1, h2⟩ := h
  exact ⟨vs, h1, RDs.flat cs vs (by simpa only [flatD] using hf) h2⟩
 | .sl sz els, y, hf, h => by simp [flatD] at hf
 | .pt cs, y, hf, h => by simp [flatD] at hf
 | .fn f cs, y, hf, h => by simp [flatD] at hf
theorem RDs.flat {I I' : Nat → Prop} {w w' : World} : ∀ (xs : List D) (vs : List Value), flatDs xs → RDs I w xs vs → RDs I' w' xs vs
 | [], vs, _, h => by simpa only [RDs] using h
 | x :: xs, vs, hf, h => by
  simp only [flatDs] at hf
  simp only [RDs] at h ⊢
  obtain ⟨u, t, h1, h2, h3, h4⟩ := h
  exact ⟨u, t, h1, RD.flat x u hf.1 h2, h3, RDs.flat xs t hf.2 h4⟩
end
theorem Rss.flatD {gh gh' : Gh} {w w' : World} {sz : Nat} : ∀ {ds : List (List D)} {vs : List Value}, (∀ l, l ∈ ds → flatDs l) → Rss gh w sz (ds.map (·.map .d)) vs → Rss gh' w' sz (ds.map (·.map .d)) vs
 | [], vs, _, h => by simpa [Rss] using h
 | x :: ds, vs, hf, h => by
  simp only [List.map_cons, Rss] at h ⊢
  obtain ⟨u, t, rfl, h1, h2, h⟩ := h
  exact ⟨u, t, rfl, h1, Rs.of_RDs (RDs.flat x u (hf x (by simp)) (RDs.of_Rs h2)), Rss.flatD (fun l hl => hf l (by simp [hl])) h⟩
mutual
theorem R.unren {gh gh' : Gh} {w : World} {f : Nat → Nat} (hg : ∀ r, gh'.bt r = gh.bt (f r) ∧ gh'.kp r = gh.kp (f r) ∧ gh'.sz r = gh.sz (f r)) : ∀ (x : AV) (y : Value), flatA x → R gh w (x.ren f) y → R gh' w x y
 | .any, y, _, h => by simp only [R]
 | .d x, y, hf, h => by
  simp only [AV.ren, R] at h ⊢
  exact RD.flat x y (by simpa only [flatA] using hf) h
 | .ep cs, y, hf, h => by simp [flatA] at hf
 | .ref r n, y, _, h => by
  obtain ⟨e1, e2, e3⟩ := hg r
  simp only [AV.ren, R] at h ⊢
  rw [e1, e2]
  exact h
 | .ptr r i o, y, _, h => by
  obtain ⟨e1, e2, e3⟩ := hg r
  simp only [AV.ren, R] at h ⊢
  rw [e1, e3]
  exact h
 | .ag cs, y, hf, h => by
  simp only [AV.ren, R] at h ⊢
  obtain ⟨vs, h1, h2⟩ := h
  exact ⟨vs, h1, Rs.unren hg cs vs (by simpa only [flatA] using hf) h2⟩
 | .tp cs, y, hf, h => by
  simp only [AV.ren, R] at h ⊢
  obtain ⟨vs, h1, h2⟩ := h
  exact ⟨vs, h1, Rt.unren hg cs vs (by simpa only [flatA] using hf) h2⟩
 | .wh g x, y, hf, h => by
  simp only [AV.ren, R] at h ⊢
  exact ⟨fun hgg => R.unren hg x y (by simpa only [flatA] using hf) (h.1 hgg), h.2⟩
 | .cl g cs, y, hf, h => by
  simp only [AV.ren, R] at h ⊢
  obtain ⟨vs, h1, h2⟩ := h
  exact ⟨vs, h1, Rs.unren hg cs vs (by simpa only [flatA] using hf) h2⟩
theorem Rs.unren {gh gh' : Gh} {w : World} {f : Nat → Nat} (hg : ∀ r, gh'.bt r = gh.bt (f r) ∧ gh'.kp r = gh.kp (f r) ∧ gh'.sz r = gh.sz (f r)) : ∀ (xs : List AV) (vs : List Value), flatAs xs → Rs gh w (AV.renL f xs) vs → Rs gh' w xs vs
 | [], vs, _, h => by simpa only [AV.renL, Rs] using h
 | x :: xs, vs, hf, h => by
  simp only [flatAs] at hf
  simp only [AV.renL, Rs] at h ⊢
  obtain ⟨u, t, h1, h2, h3, h4⟩ := h
  exact ⟨u, t, h1, R.unren hg x u hf.1 h2, h3, Rs.unren hg xs t hf.2 h4⟩
theorem Rt.unren {gh gh' : Gh} {w : World} {f : Nat → Nat} (hg : ∀ r, gh'.bt r = gh.bt (f r) ∧ gh'.kp r = gh.kp (f r) ∧ gh'.sz r = gh.sz (f r)) : ∀ (xs : List AV) (vs : List Value), flatAs xs → Rt gh w (AV.renL f xs) vs → Rt gh' w xs vs
 | [], vs, _, h => by simpa only [AV.renL, Rt] using h
 | x :: xs, vs, hf, h => by
  simp only [flatAs] at hf
  simp only [AV.renL, Rt] at h ⊢
  obtain ⟨u, t, h1, h2, h4⟩ := h
  exact ⟨u, t, h1, R.unren hg x u hf.1 h2, Rt.unren hg xs t hf.2 h4⟩
end
def ResOk (P : Program) (rs : List ResultVar) (rows : List ORow) (res : AV) (s : AS) : Prop :=
 ∃ xs h, resVs P s rs xs ∧ resAll xs = res.ren h ∧ flatA res ∧ (∀ o, o ∈ rows → ∀ l, l ∈ o.els → flatDs l) ∧ (∀ r, r ∈ res.ids → r < rows.length) ∧ (∀ j j', j < rows.length → j' < rows.length → h j = h j' → j = j') ∧
  (∀ j o, rows[j]? = some o → ∃ row, s.mem (h j) = some row ∧ row.g ∧ row.ty = o.ty ∧ row.sz = o.sz ∧ row.els = o.els.map (·.map .d) ∧ (rows.length ≤ 1 ∨ row.uq = true))
def aPost (K : AS → Prop) : Exit → AS → Prop
 | .normal, s => K s
 | .ret, s => K s
 | _, _ => False
theorem RDt.length {I : Nat → Prop} {w : World} : ∀ {xs : List D} {vs : List Value}, RDt I w xs vs → xs.length = vs.length
 | [], vs, h => by simp only [RDt] at h; subst h; rfl
 | x :: xs, vs, h => by
  simp only [RDt] at h
  obtain ⟨u, t, rfl, _, h⟩ := h
  simp [RDt.length h]
theorem Rt.of_RDt {g : Gh} {w : World} : ∀ {xs : List D} {vs : List Value}, RDt g.I w xs vs → Rt g w (xs.map .d) vs
 | [], vs, h => by simp only [RDt] at h; subst h; simp [Rt]
 | x :: xs, vs, h => by
  simp only [RDt] at h
  obtain ⟨u, t, rfl, h1, h⟩ := h
  simp only [List.map_cons, Rt, R]
  exact ⟨u, t, rfl, h1, Rt.of_RDt h⟩
theorem Rt.app {g : Gh} {w : World} : ∀ {xs ys : List AV} {vs us : List Value}, Rt g w xs vs → Rt g w ys us → Rt g w (xs ++ ys) (vs ++ us)
 | [], ys, vs, us, h, k => by simp only [Rt] at h; subst h; simpa using k
 | x :: xs, ys, vs, us, h, k => by
  simp only [Rt] at h
  obtain ⟨u, t, rfl, h1, h⟩ := h
  simp only [List.cons_append, Rt]
  exact ⟨u, t ++ us, rfl, h1, Rt.app h k⟩
theorem Rt.anys {g : Gh} {w : World} : ∀ (n : Nat), Rt g w (List.replicate n .any) (List.replicate n undef)
 | 0 => by simp [Rt]
 | n + 1 => by simp only [List.replicate_succ, Rt, R]; exact ⟨undef, _, rfl, trivial, Rt.anys n⟩
section
variable {P : Program} {B : Env} {w0 w : World} {gh : Gh} {s : AS} {a : Act}
theorem resV_run (h : Sim B w0 gh s a w) {r : ResultVar} {x : AV} (hx : resV P s r x) :
  ∃ u, (resM a.tmps r).run P w = .ok u w ∧ R gh w x u := by
 cases r with
 | tmp t =>
  simp only [resV] at hx
  subst hx
  exact ⟨_, rfl, h.ev (.tmp t)⟩
 | cell p t =>
  simp only [resV] at hx
  obtain ⟨r, i, o, row, h1, hm, hg, ht, hi, hx⟩ := hx
  have hr := h.ev (.tmp p)
  simp only [AS.ev, h1, R, Act.eval] at hr
  obtain ⟨b, hb, ex⟩ := hr
  obtain ⟨hsz, hrow⟩ := h.rows r row hm hg
  rcases hrow with ⟨hn, _⟩ | ⟨b', cur, vs, m1, m2, m3, m4, m5, m6, m7, m8, m9⟩
  ·rw [hb] at hn; cases hn
  ·rw [hb] at m1
   injection m1 with m1
   subst m1
   have hgd : row.els.getD i [] = row.els[i] := by simp [List.getD, List.getElem?_eq_getElem hi]
   rw [hgd] at hx
   obtain ⟨us, n1, n2, n3⟩ := m5.get i _ (List.getElem?_eq_getElem hi)
   have hcell : cellsAt w b (0 + (i * row.sz)) us := (cellsAt.of_block m4 m6).sub n3
   have hlen := n2.length
   cases hagg : aggT P t with
   | true =>
    rw [hagg] at hx
    simp only [cond_true] at hx
    obtain ⟨k1, rfl⟩ := hx
    have hus : ((us.drop o).take (szT P t)).length = szT P t := by simp; omega
    refine ⟨.agg ((us.drop o).take (szT P t)).toArray, ?_, by simp only [R]; exact ⟨_, rfl, (n2.drop o).take _⟩⟩
    simp only [resM, ex, asAddr, Sem.run_bind, Sem.run_pure, Result.andThen_ok]
    rw [hsz]
    refine loadVar_agg ht hagg hus fun j v hv => ?_
    rw [List.getElem?_take] at hv
    split at hv
    ·have := hcell.drop o j v hv
     rw [← this]
     congr 2
     omega
    ·cases hv
   | false =>
    rw [hagg] at hx
    simp only [cond_false] at hx
    obtain ⟨k1, rfl⟩ := hx
    obtain ⟨u, hu, hru, _⟩ := n2.get o _ (List.getElem?_eq_getElem k1)
    refine ⟨u, ?_, by simp only [List.getD, List.getElem?_eq_getElem k1, Option.getD_some]; exact hru⟩
    simp only [resM, ex, asAddr, Sem.run_bind, Sem.run_pure, Result.andThen_ok]
    rw [hsz]
    refine loadVar_one ht hagg ?_
    rw [← hcell o u hu]
    congr 2
    omega
theorem resVs_run (h : Sim B w0 gh s a w) : ∀ {rs : List ResultVar} {xs : List AV}, resVs P s rs xs →
  ∃ us, (rs.mapM (resM a.tmps)).run P w = .ok us w ∧ Rt gh w xs us
 | [], xs, hx => by
  simp only [resVs] at hx
  subst hx
  exact ⟨[], rfl, by simp [Rt]⟩
 | r :: rs, xs, hx => by
  simp only [resVs] at hx
  obtain ⟨x, t, rfl, h1, h2⟩ := hx
  obtain ⟨u, k1, k2⟩ := resV_run h h1
  obtain ⟨us, l1, l2⟩ := resVs_run h h2
  refine ⟨u :: us, ?_, by simp only [Rt]; exact ⟨u, us, rfl, k2, l2⟩⟩
  simp only [List.mapM_cons, Sem.run_bind, k1, l1, Result.andThen_ok, Sem.run_pure]
theorem results_run (h : Sim B w0 gh s a w) {fn : Func} {xs : List AV} (hx : resVs P s fn.results.toList xs) : ∃ v, (results fn a.tmps).run P w = .ok v w ∧ R gh w (resAll xs) v := by
 obtain ⟨us, h1, h2⟩ := resVs_run h hx
 have hl := h2.length
 refine ⟨if hh : us.length = 1 then us[0] else .tuple us.toArray, ?_, ?_⟩
 ·rw [results_eq, Array.mapM_eq_mapM_toList]
  simp only [Sem.run_bind, Sem.run_map, h1, Result.andThen_ok, Sem.run_pure, List.size_toArray, List.getElem_toArray]
 ·match xs, us, h2 with
  | [], us, h2 => simp only [Rt] at h2; subst h2; simp [resAll, R, Rt]
  | [x], us, h2 =>
   simp only [Rt] at h2
   obtain ⟨u, t, rfl, h3, rfl⟩ := h2
   simpa [resAll] using h3
  | x :: y :: xs, us, h2 =>
   have hl := h2.length
   simp only [List.length_cons] at hl
   rw [dif_neg (by omega)]
   simp only [resAll, R]
   exact ⟨us, rfl, h2⟩
end
theorem acalls_of {P : Program} {f : FuncId} {fn : Func} {c : Code} {args : List D} {rows : List ORow} {res : AV} {rs : List ResultVar} (hf : P.funcs[f]? = some fn) (hb : fn.body = some c) (hrs : fn.results.toList = rs) (tm0 : List AV) (htm : tm0 = args.map .d ++ List.replicate (fn.ntmps - args.length) .any)
  (h : AWp P c (aPost (ResOk P rs rows res)) ⟨tm0, fun _ => none⟩) : ACalls P f args rows res := by
 subst hrs htm
 intro I w vs hI hvs
 have hlen := hvs.length
 have hS0 : Sim ⟨fun k => w.heap.size ≤ k, fun _ => none, fun _ => 0⟩ w ⟨I, fun _ => none, fun _ => 0, fun _ => 0⟩ ⟨args.map .d ++ List.replicate (fn.ntmps - args.length) .any, fun _ => none⟩ { tmps := vs.toArray ++ Array.replicate (fn.ntmps - vs.toArray.size) undef, defers := [] } w := by
  constructor
  ·rfl
  ·have h1 : Rt ⟨I, fun _ => none, fun _ => 0, fun _ => 0⟩ w (args.map .d) vs := Rt.of_RDt hvs
   have := h1.app (Rt.anys (fn.ntmps - args.length))
   simpa [hlen] using this
  ·exact Out.refl _ _
  ·exact fun k hk => hk
  ·exact hI
  ·intro r row hr; cases hr
  ·intro r r' row row' b _ h1; cases h1
  ·intro r hr
   rw [idsL_append, idsL_mapD] at hr
   have : ∀ n, AV.idsL (List.replicate n .any) = [] := fun n => by
    induction n with
    | zero => rfl
    | succ n ih => simp [List.replicate_succ, AV.idsL, AV.ids, ih]
   rw [this] at hr
   simp at hr
  ·intro r row hr; cases hr
  ·intro r row hr; cases hr
 refine calls_of_wp hf hb (wp_mono (h _ w _ _ w hS0) ?_)
 rintro e a' w' ⟨s', gh', hq, hS⟩
 have fin : ResOk P fn.results.toList rows res s' → a'.defers = [] ∧ ∃ v, (results fn a'.tmps).run P w' = .ok v w' ∧
   ∃ v' G, Ending.returned v = .returned v' ∧ Below w.heap.size w w' ∧ (∀ b, G.I b → w.heap.size ≤ b ∧ b < w'.heap.size) ∧ (∀ j o, rows[j]? = some o → RowAt (fun b => w.heap.size ≤ b) G w' j (o.row j)) ∧
    (∀ j j' b, j < rows.length → j' < rows.length → j ≠ j' → G.bt j = some b → G.bt j' = some b → False) ∧ (∀ r, r ∈ res.ids → r < rows.length) ∧ R G w' res v' := fun ⟨xs, h, hx, hres, hfl, hfr, hids, hinj, hrows⟩ => by
  obtain ⟨v, hv, hR⟩ := results_run hS hx
  refine ⟨hS.defers, v, hv, v, ⟨fun _ => False, fun r => gh'.bt (h r), fun r => gh'.kp (h r), fun r => gh'.sz (h r)⟩, rfl, hS.below.below, fun _ hh => hh.elim, fun j o hj => ?_, fun j j' b hj hj' hne hb1 hb2 => ?_, hids, ?_⟩
  ·obtain ⟨row, k1, k2, k3, k4, k5, k6⟩ := hrows j o hj
   obtain ⟨hsz, hrow⟩ := hS.rows _ row k1 k2
   refine ⟨hsz.trans k4, ?_⟩
   rcases hrow with ⟨q1, q2⟩ | ⟨b, cur, us, m1, m2, m3, m4, m5, m6, m7, m8, m9⟩
   ·refine .inl ⟨q1, ?_⟩
    simp only [ORow.row]
    rw [← k5]; exact q2
   ·refine .inr ⟨b, cur, us, m1, m2, fun hh => hh, ?_, ?_, m6, ?_, m8, ?_⟩
    ·simp only [ORow.row]; rw [← k3]; exact m4
    ·simp only [ORow.row]
     rw [k5, k4] at m5
     exact Rss.flatD (fun l hl => hfr o (List.mem_of_getElem? hj) l hl) m5
    ·simp only [ORow.row]; rw [← k4]; exact m7
    ·simp only [ORow.row]; rw [← k5]; exact m9
  ·have l1 := List.getElem?_eq_getElem hj
   have l2 := List.getElem?_eq_getElem hj'
   obtain ⟨row1, p1, p2, _, _, _, p6⟩ := hrows j _ l1
   obtain ⟨row2, q1, q2, _, _, _, q6⟩ := hrows j' _ l2
   have := (hS.apart (h j) (h j') row1 row2 b (fun e => hne (hinj j j' hj hj' e)) p1 q1 p2 q2 hb1 hb2).1
   rcases p6 with p6 | p6
   ·omega
   ·rw [p6] at this; cases this
  ·rw [hres] at hR
   exact R.unren (gh := gh') (f := h) (fun r => ⟨rfl, rfl, rfl⟩) res v hfl hR
 cases e with
 | normal => exact fin hq
 | ret => exact fin hq
 | _ => exact hq.elim
end Go.Proofs.YtjkfadaedgidpaaGreat
