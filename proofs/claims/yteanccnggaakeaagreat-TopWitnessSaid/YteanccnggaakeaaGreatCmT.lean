/- The machine on regions and code. No condition. -/
import Derived.Test.YteanccnggaakeaaGreatCmS
namespace Go.Proofs.YteanccnggaakeaaGreat
open Go.RowKit
set_option linter.unusedVariables false
set_option linter.unusedSimpArgs false

abbrev KS := Tr CV → Tr CR → Nat → Bool
noncomputable def xreg (E : Env) (run : Run) (ops : List Oper) (n : Nat) (K : KS) (l : List Oper) : KS :=
  List.rec (fun tm m nb => K tm m nb) (fun o _ next tm m nb => xwant ops o tm (xoper E run tm m nb (fun v m nb => putK n o.dst v tm fun tm => next tm m nb) o.op) (putK n o.dst (.val undef) tm fun tm => next tm m nb)) l
/- From one operation to the next. -/
theorem stepAt_of {P : Program} {ops : List Oper} {n : Nat} {o : Oper} {tm tm' : Tr CV} {m m' : Tr CR} {nb nb' : Nat} {v : CV} (hm : MemOK m nb) (hT : tm'.get = putT tm.get o.dst v) (hd : ∀ q, o.dst = some q → q < n)
    (h : (wantV ops tm.get o = some true ∧ OpOK P (evv tm.get) o (lk m) nb v (lk m') nb' ∧ KdOK P (evv tm.get) o m nb v m' nb') ∨ (wantV ops tm.get o = some false ∧ v = .val undef ∧ m' = m ∧ nb' = nb)) : StepAt P ops n o (stOf tm m nb) v (stOf tm' m' nb') := by
  refine ⟨hT, hd, hm.low, ?_, ?_⟩
  · rcases h with ⟨_, h, _⟩ | ⟨_, _, _, h⟩
    · exact h.1
    · exact Nat.le_of_eq h.symm
  · rcases h with ⟨h1, h2, h3⟩ | ⟨h1, h2, h3, h4⟩
    · refine .inl ⟨h1, h2, ?_⟩
      unfold KdOK at h3
      unfold Kind
      cases hk : kd o.op with
      | pure =>
        rw [hk] at h3
        obtain ⟨k1, rfl, rfl⟩ := h3
        exact ⟨k1, rfl, rfl⟩
      | load =>
        rw [hk] at h3
        obtain ⟨k1, rfl, rfl⟩ := h3
        exact ⟨k1, rfl, rfl⟩
      | light =>
        rw [hk] at h3
        obtain ⟨k0, row, k1, rfl, rfl⟩ := h3
        exact ⟨row, k1, lk_set hm.wf k0 row, rfl⟩
      | heavy => trivial
    · subst h3 h4
      exact .inr ⟨h1, h2, rfl, rfl⟩
/- What a region leaves. -/
def Left (n : Nat) (K : KS) (st : St) : Prop := ∃ tm m nb, K tm m nb = true ∧ TmOK n tm ∧ MemOK m nb ∧ st = stOf tm m nb
section
variable {E : Env} {run : Run} {ops : List Oper} {n : Nat} {K : KS}
theorem xreg_t (hE : EnvOK E) (hrun : RunOK E.P run) : ∀ {l : List Oper} {k : Nat} {tm : Tr CV} {m : Tr CR} {nb : Nat}, (∀ j, l[j]? = ops[k + j]?) → TmOK n tm → MemOK m nb → xreg E run ops n K l tm m nb = true →
    ∃ (s : Nat → St) (v : Nat → CV), s k = stOf tm m nb ∧ Trace E.P ops n k s v ∧ Left n K (s (k + l.length))
  | [], k, tm, m, nb, hl, ht, hm, h => by
    refine ⟨fun _ => stOf tm m nb, fun _ => .val undef, rfl, fun j o hj ho => ?_, tm, m, nb, h, ht, hm, rfl⟩
    have := hl (j - k)
    rw [show k + (j - k) = j by omega, ho] at this
    simp at this
  | o :: l, k, tm, m, nb, hl, ht, hm, h => by
    have h : xwant ops o tm (xoper E run tm m nb (fun v m nb => putK n o.dst v tm fun tm => xreg E run ops n K l tm m nb) o.op) (putK n o.dst (.val undef) tm fun tm => xreg E run ops n K l tm m nb) = true := h
    have ho : ops[k]? = some o := by simpa using (hl 0).symm
    have go : ∀ {v : CV} {tm' : Tr CV} {m' : Tr CR} {nb' : Nat}, xreg E run ops n K l tm' m' nb' = true → TmOK n tm' → MemOK m' nb' → StepAt E.P ops n o (stOf tm m nb) v (stOf tm' m' nb') →
        ∃ (s : Nat → St) (v : Nat → CV), s k = stOf tm m nb ∧ Trace E.P ops n k s v ∧ Left n K (s (k + (o :: l).length)) := fun {v tm' m' nb'} h1 h2 h3 h4 => by
      obtain ⟨s, u, k1, k2, k3⟩ := xreg_t hE hrun (k := k + 1) (fun j => by have := hl (j + 1); simpa [Nat.add_assoc, Nat.add_comm 1 j] using this) h2 h3 h1
      refine ⟨fun j => if j = k then stOf tm m nb else s j, fun j => if j = k then v else u j, if_pos rfl, fun j o' hj ho' => ?_, ?_⟩
      · by_cases e : j = k
        · subst e
          rw [ho] at ho'
          injection ho' with ho'
          subst ho'
          simp only [if_true, if_neg (show ¬ j + 1 = j by omega), k1]
          exact h4
        · simp only [if_neg e, if_neg (show ¬ j + 1 = k by omega)]
          exact k2 j o' (by omega) ho'
      · simp only [List.length_cons]
        rw [if_neg (by omega), show k + (l.length + 1) = k + 1 + l.length by omega]
        exact k3
    rcases xwant_t h with ⟨h1, h2⟩ | ⟨h1, h2, _⟩
    · obtain ⟨v, m', nb', k1, k2, k3, k4⟩ := xoper_t hE hrun hm h2
      obtain ⟨tm', k5, k6, k7, k8⟩ := putK_t ht k1
      exact go k5 k6 k2 (stepAt_of hm k7 k8 (.inl ⟨h1, k3, k4⟩))
    · obtain ⟨tm', k5, k6, k7, k8⟩ := putK_t ht h2
      exact go k5 k6 hm (stepAt_of hm k7 k8 (.inr ⟨h1, rfl, rfl, rfl⟩))
end
/- Loads that may be carried out ahead of, or behind, calls. -/
structure Ld where
  l : Nat
  t : Nat
  ad : CV
  v : CV
noncomputable def inPs (ps : List (Nat × Nat)) (l h : Nat) : Bool := List.rec false (fun p _ ih => Prod.rec (fun a b => Bool.rec ih (Bool.rec ih true (Nat.beq b h)) (Nat.beq a l)) p) ps
theorem inPs_t {l h : Nat} : ∀ {ps : List (Nat × Nat)}, (l, h) ∈ ps → inPs ps l h = true
  | [], hp => by simp at hp
  | (a, b) :: ps, hp => by
    show (Bool.rec (inPs ps l h) (Bool.rec (inPs ps l h) true (Nat.beq b h)) (Nat.beq a l) : Bool) = true
    rcases List.mem_cons.1 hp with hp | hp
    · injection hp with e1 e2
      subst e1 e2
      rw [show Nat.beq l l = true from Nat.beq_refl l, show Nat.beq h h = true from Nat.beq_refl h]
    · have ih := inPs_t hp
      rw [ih]
      cases Nat.beq a l <;> cases Nat.beq b h <;> rfl
noncomputable def chkL (P : Program) (ps : List (Nat × Nat)) (m : Tr CR) (h : Nat) (x : Bool) (lds : List Ld) : Bool := List.rec x (fun d _ ih => Ld.rec (fun l t ad v => Bool.rec ih (xLoad P m t ad fun u => tst (eqb v u) ih) (inPs ps l h)) d) lds
noncomputable def chkH (P : Program) (ps : List (Nat × Nat)) (t : Nat) (ad v : CV) (l : Nat) (x : Bool) (hs : List (Nat × Tr CR)) : Bool := List.rec x (fun p _ ih => Prod.rec (fun h m => Bool.rec ih (xLoad P m t ad fun u => tst (eqb v u) ih) (inPs ps l h)) p) hs
theorem chkL_t {P : Program} {ps : List (Nat × Nat)} {m : Tr CR} {h : Nat} {x : Bool} : ∀ {lds : List Ld}, chkL P ps m h x lds = true → x = true ∧ ∀ d ∈ lds, (d.l, h) ∈ ps → Loads P (lk m) d.t d.ad d.v
  | [], hc => ⟨hc, by simp⟩
  | ⟨l, t, ad, v⟩ :: lds, hc => by
    rcases rec_b (show (Bool.rec (chkL P ps m h x lds) (xLoad P m t ad fun u => tst (eqb v u) (chkL P ps m h x lds)) (inPs ps l h) : Bool) = true from hc) with ⟨h1, h2⟩ | ⟨h1, h2⟩
    · obtain ⟨u, h3, h4⟩ := xLoad_t h2
      obtain ⟨h5, h6⟩ := tst_t h3
      obtain ⟨k1, k2⟩ := chkL_t h6
      have e := eqb_t _ _ h5
      subst e
      exact ⟨k1, fun d hd hp => by
        rcases List.mem_cons.1 hd with rfl | hd
        · exact h4
        · exact k2 d hd hp⟩
    · obtain ⟨k1, k2⟩ := chkL_t h2
      exact ⟨k1, fun d hd hp => by
        rcases List.mem_cons.1 hd with rfl | hd
        · rw [inPs_t hp] at h1; cases h1
        · exact k2 d hd hp⟩
theorem chkH_t {P : Program} {ps : List (Nat × Nat)} {t l : Nat} {ad v : CV} {x : Bool} : ∀ {hs : List (Nat × Tr CR)}, chkH P ps t ad v l x hs = true → x = true ∧ ∀ p ∈ hs, (l, p.1) ∈ ps → Loads P (lk p.2) t ad v
  | [], hc => ⟨hc, by simp⟩
  | (h, m) :: hs, hc => by
    rcases rec_b (show (Bool.rec (chkH P ps t ad v l x hs) (xLoad P m t ad fun u => tst (eqb v u) (chkH P ps t ad v l x hs)) (inPs ps l h) : Bool) = true from hc) with ⟨h1, h2⟩ | ⟨h1, h2⟩
    · obtain ⟨u, h3, h4⟩ := xLoad_t h2
      obtain ⟨h5, h6⟩ := tst_t h3
      obtain ⟨k1, k2⟩ := chkH_t h6
      have e := eqb_t _ _ h5
      subst e
      exact ⟨k1, fun d hd hp => by
        rcases List.mem_cons.1 hd with rfl | hd
        · exact h4
        · exact k2 d hd hp⟩
    · obtain ⟨k1, k2⟩ := chkH_t h2
      exact ⟨k1, fun d hd hp => by
        rcases List.mem_cons.1 hd with rfl | hd
        · rw [inPs_t hp] at h1; cases h1
        · exact k2 d hd hp⟩
noncomputable def loadOf (op : Op) (K : Nat → Operand → Bool) : Bool := match op with | .load t x => K t x | _ => false
theorem loadOf_t {op : Op} {K : Nat → Operand → Bool} (h : loadOf op K = true) : ∃ t x, op = .load t x ∧ K t x = true := by
  unfold loadOf at h
  split at h
  · exact ⟨_, _, rfl, h⟩
  · cases h
noncomputable def kdK (k : Kd) (a b c : Bool) : Bool := Kd.rec a b a c k
noncomputable def xregD (E : Env) (run : Run) (ops : List Oper) (ps : List (Nat × Nat)) (n : Nat) (K : KS) (l : List Oper) : Nat → List (Nat × Tr CR) → List Ld → KS :=
  List.rec (fun _ _ _ tm m nb => K tm m nb) (fun o _ next k hs lds tm m nb => fN (Nat.add k 1) fun k1 => xwant ops o tm
    (xoper E run tm m nb (fun v m' nb' => kdK (kd o.op) (putK n o.dst v tm fun tm => next k1 hs lds tm m' nb') (loadOf o.op fun t x => evK tm x fun ad => chkH E.P ps t ad v k (putK n o.dst v tm fun tm => next k1 hs (⟨k, t, ad, v⟩ :: lds) tm m' nb') hs)
      (chkL E.P ps m' k (putK n o.dst v tm fun tm => next k1 ((k, m) :: hs) lds tm m' nb') lds)) o.op)
    (kdK (kd o.op) (putK n o.dst (.val undef) tm fun tm => next k1 hs lds tm m nb) (putK n o.dst (.val undef) tm fun tm => next k1 hs lds tm m nb) (chkL E.P ps m k (putK n o.dst (.val undef) tm fun tm => next k1 ((k, m) :: hs) lds tm m nb) lds))) l
section
variable {E : Env} {run : Run} {ops : List Oper} {ps : List (Nat × Nat)} {n : Nat} {K : KS}
structure DrT (E : Env) (ops : List Oper) (ps : List (Nat × Nat)) (n : Nat) (K : KS) (len k : Nat) (hs : List (Nat × Tr CR)) (lds : List Ld) (st : St) (s : Nat → St) (v : Nat → CV) : Prop where
  head : s k = st
  trace : Trace E.P ops n k s v
  left : Left n K (s (k + len))
  c1 : ∀ d ∈ lds, ∀ h, k ≤ h → Heavy ops h → (d.l, h) ∈ ps → Loads E.P (s (h + 1)).M d.t d.ad d.v
  c2 : ∀ p ∈ hs, ∀ l ol t x, k ≤ l → ops[l]? = some ol → ol.op = .load t x → wantV ops (s l).T ol = some true → (l, p.1) ∈ ps → Loads E.P (lk p.2) t (evv (s l).T x) (v l)
  c3 : ∀ l h ol t x, k ≤ l → k ≤ h → (l, h) ∈ ps → Heavy ops h → ops[l]? = some ol → ol.op = .load t x → wantV ops (s l).T ol = some true → Loads E.P (s (if l < h then h + 1 else h)).M t (evv (s l).T x) (v l)
theorem xregD_t (hE : EnvOK E) (hrun : RunOK E.P run) : ∀ {l : List Oper} {k : Nat} {hs : List (Nat × Tr CR)} {lds : List Ld} {tm : Tr CV} {m : Tr CR} {nb : Nat}, (∀ j, l[j]? = ops[k + j]?) → TmOK n tm → MemOK m nb → xregD E run ops ps n K l k hs lds tm m nb = true →
    ∃ (s : Nat → St) (v : Nat → CV), DrT E ops ps n K l.length k hs lds (stOf tm m nb) s v
  | [], k, hs, lds, tm, m, nb, hl, ht, hm, h => by
    have none : ∀ j o, k ≤ j → ops[j]? = some o → False := fun j o hj ho => by
      have := hl (j - k)
      rw [show k + (j - k) = j by omega, ho] at this
      simp at this
    exact ⟨fun _ => stOf tm m nb, fun _ => .val undef, rfl, fun j o hj ho => (none j o hj ho).elim, ⟨tm, m, nb, h, ht, hm, rfl⟩, fun d _ h hk ⟨o, ho, _⟩ => (none h o hk ho).elim, fun p _ l ol t x hk ho => (none l ol hk ho).elim, fun l h ol t x hk _ _ _ ho => (none l ol hk ho).elim⟩
  | o :: l, k, hs, lds, tm, m, nb, hl, ht, hm, h => by
    have h : xwant ops o tm
      (xoper E run tm m nb (fun v m' nb' => kdK (kd o.op) (putK n o.dst v tm fun tm => xregD E run ops ps n K l (k + 1) hs lds tm m' nb') (loadOf o.op fun t x => evK tm x fun ad => chkH E.P ps t ad v k (putK n o.dst v tm fun tm => xregD E run ops ps n K l (k + 1) hs (⟨k, t, ad, v⟩ :: lds) tm m' nb') hs)
        (chkL E.P ps m' k (putK n o.dst v tm fun tm => xregD E run ops ps n K l (k + 1) ((k, m) :: hs) lds tm m' nb') lds)) o.op)
      (kdK (kd o.op) (putK n o.dst (.val undef) tm fun tm => xregD E run ops ps n K l (k + 1) hs lds tm m nb) (putK n o.dst (.val undef) tm fun tm => xregD E run ops ps n K l (k + 1) hs lds tm m nb) (chkL E.P ps m k (putK n o.dst (.val undef) tm fun tm => xregD E run ops ps n K l (k + 1) ((k, m) :: hs) lds tm m nb) lds)) = true := h
    have ho : ops[k]? = some o := by simpa using (hl 0).symm
    have go : ∀ {v : CV} {tm' : Tr CV} {m' : Tr CR} {nb' : Nat} {hs' : List (Nat × Tr CR)} {lds' : List Ld}, xregD E run ops ps n K l (k + 1) hs' lds' tm' m' nb' = true → TmOK n tm' → MemOK m' nb' → StepAt E.P ops n o (stOf tm m nb) v (stOf tm' m' nb') →
        (∀ p ∈ hs, p ∈ hs') → (∀ d ∈ lds, d ∈ lds') → (kd o.op = .heavy → (k, m) ∈ hs' ∧ ∀ d ∈ lds, (d.l, k) ∈ ps → Loads E.P (lk m') d.t d.ad d.v) →
        (∀ t x, o.op = .load t x → wantV ops tm.get o = some true → (⟨k, t, evv tm.get x, v⟩ : Ld) ∈ lds' ∧ ∀ p ∈ hs, (k, p.1) ∈ ps → Loads E.P (lk p.2) t (evv tm.get x) v) →
        ∃ (s : Nat → St) (v : Nat → CV), DrT E ops ps n K (o :: l).length k hs lds (stOf tm m nb) s v := fun {v tm' m' nb' hs' lds'} h1 h2 h3 h4 h5 h6 h7 h8 => by
      obtain ⟨s, u, D⟩ := xregD_t hE hrun (k := k + 1) (fun j => by have := hl (j + 1); simpa [Nat.add_assoc, Nat.add_comm 1 j] using this) h2 h3 h1
      obtain ⟨S, hS⟩ : ∃ S : Nat → St, S = fun j => if j = k then stOf tm m nb else s j := ⟨_, rfl⟩
      obtain ⟨U, hU⟩ : ∃ U : Nat → CV, U = fun j => if j = k then v else u j := ⟨_, rfl⟩
      have sk : ∀ j, k < j → S j = s j := fun j hj => by rw [hS]; exact if_neg (by omega)
      have uk : ∀ j, k < j → U j = u j := fun j hj => by rw [hU]; exact if_neg (by omega)
      have s0 : S k = stOf tm m nb := by rw [hS]; exact if_pos rfl
      have u0 : U k = v := by rw [hU]; exact if_pos rfl
      refine ⟨S, U, s0, fun j o' hj ho' => ?_, ?_, fun d hd z hk hh hp => ?_, fun p hp q oq t x hk hoq hop hw hin => ?_, fun q z oq t x hk hk' hin hh hoq hop hw => ?_⟩
      · by_cases e : j = k
        · subst e
          rw [ho] at ho'
          injection ho' with ho'
          subst ho'
          rw [s0, u0, sk _ (by omega), D.head]
          exact h4
        · rw [sk j (by omega), uk j (by omega), sk (j + 1) (by omega)]
          exact D.trace j o' (by omega) ho'
      · simp only [List.length_cons]
        rw [sk _ (by omega), show k + (l.length + 1) = k + 1 + l.length by omega]
        exact D.left
      · rw [sk (z + 1) (by omega)]
        by_cases e : z = k
        · subst e
          obtain ⟨o', q1, q2⟩ := hh
          rw [ho] at q1
          injection q1 with q1
          subst q1
          rw [D.head]
          exact (h7 q2).2 d hd hp
        · exact D.c1 d (h6 d hd) z (by omega) hh hp
      · by_cases e : q = k
        · subst e
          rw [ho] at hoq
          injection hoq with hoq
          subst hoq
          rw [s0] at hw ⊢
          rw [u0]
          exact (h8 t x hop hw).2 p hp hin
        · rw [sk q (by omega)] at hw ⊢
          rw [uk q (by omega)]
          exact D.c2 p (h5 p hp) q oq t x (by omega) hoq hop hw hin
      · by_cases e : q = k
        · subst e
          rw [ho] at hoq
          injection hoq with hoq
          subst hoq
          have hne : z ≠ q := fun e => by
            subst e
            obtain ⟨o', q1, q2⟩ := hh
            rw [ho] at q1
            injection q1 with q1
            subst q1
            rw [hop] at q2
            cases q2
          rw [if_pos (by omega), sk (z + 1) (by omega)]
          rw [s0] at hw ⊢
          rw [u0]
          exact D.c1 _ (h8 t x hop hw).1 z (by omega) hh hin
        · rw [sk q (by omega)] at hw ⊢
          rw [uk q (by omega)]
          by_cases e' : z = k
          · subst e'
            obtain ⟨o', q1, q2⟩ := hh
            rw [ho] at q1
            injection q1 with q1
            subst q1
            rw [if_neg (by omega), s0]
            exact D.c2 _ (h7 q2).1 q oq t x (by omega) hoq hop hw hin
          · have := D.c3 q z oq t x (by omega) (by omega) hin hh hoq hop hw
            split at this
            · rename_i hlt
              rw [if_pos hlt, sk (z + 1) (by omega)]
              exact this
            · rename_i hlt
              rw [if_neg hlt, sk z (by omega)]
              exact this
    rcases xwant_t h with ⟨h1, h2⟩ | ⟨h1, h2, _⟩
    · obtain ⟨v, m', nb', k1, k2, k3, k4⟩ := xoper_t hE hrun hm h2
      cases hkd : kd o.op with
      | load =>
        rw [hkd] at k1
        obtain ⟨t, x, hop, k9⟩ := loadOf_t (show loadOf o.op (fun t x => evK tm x fun ad => chkH E.P ps t ad v k (putK n o.dst v tm fun tm => xregD E run ops ps n K l (k + 1) hs (⟨k, t, ad, v⟩ :: lds) tm m' nb') hs) = true from k1)
        rw [evK_eq] at k9
        obtain ⟨k10, k11⟩ := chkH_t k9
        obtain ⟨tm', k5, k6, k7, k8⟩ := putK_t ht k10
        refine go k5 k6 k2 (stepAt_of hm k7 k8 (.inl ⟨h1, k3, k4⟩)) (fun p hp => hp) (fun d hd => List.mem_cons_of_mem _ hd) (fun hh => by rw [hkd] at hh; cases hh) fun t' x' hop' _ => ?_
        rw [hop] at hop'
        injection hop' with e1 e2
        subst e1 e2
        exact ⟨List.mem_cons_self, k11⟩
      | heavy =>
        rw [hkd] at k1
        obtain ⟨k10, k11⟩ := chkL_t (show chkL E.P ps m' k (putK n o.dst v tm fun tm => xregD E run ops ps n K l (k + 1) ((k, m) :: hs) lds tm m' nb') lds = true from k1)
        obtain ⟨tm', k5, k6, k7, k8⟩ := putK_t ht k10
        exact go k5 k6 k2 (stepAt_of hm k7 k8 (.inl ⟨h1, k3, k4⟩)) (fun p hp => List.mem_cons_of_mem _ hp) (fun d hd => hd) (fun _ => ⟨List.mem_cons_self, k11⟩) fun t x hop _ => by rw [hop] at hkd; cases hkd
      | pure =>
        rw [hkd] at k1
        obtain ⟨tm', k5, k6, k7, k8⟩ := putK_t ht (show (putK n o.dst v tm fun tm => xregD E run ops ps n K l (k + 1) hs lds tm m' nb') = true from k1)
        exact go k5 k6 k2 (stepAt_of hm k7 k8 (.inl ⟨h1, k3, k4⟩)) (fun p hp => hp) (fun d hd => hd) (fun hh => by rw [hkd] at hh; cases hh) fun t x hop _ => by rw [hop] at hkd; cases hkd
      | light =>
        rw [hkd] at k1
        obtain ⟨tm', k5, k6, k7, k8⟩ := putK_t ht (show (putK n o.dst v tm fun tm => xregD E run ops ps n K l (k + 1) hs lds tm m' nb') = true from k1)
        exact go k5 k6 k2 (stepAt_of hm k7 k8 (.inl ⟨h1, k3, k4⟩)) (fun p hp => hp) (fun d hd => hd) (fun hh => by rw [hkd] at hh; cases hh) fun t x hop _ => by rw [hop] at hkd; cases hkd
    · have noload : ∀ t x, o.op = .load t x → wantV ops tm.get o = some true → False := fun t x _ hw => by rw [h1] at hw; cases hw
      have plain : kd o.op ≠ .heavy → (putK n o.dst (.val undef) tm fun tm => xregD E run ops ps n K l (k + 1) hs lds tm m nb) = true → ∃ (s : Nat → St) (v : Nat → CV), DrT E ops ps n K (o :: l).length k hs lds (stOf tm m nb) s v := fun hkd k1 => by
        obtain ⟨tm', k5, k6, k7, k8⟩ := putK_t ht k1
        exact go k5 k6 hm (stepAt_of hm k7 k8 (.inr ⟨h1, rfl, rfl, rfl⟩)) (fun p hp => hp) (fun d hd => hd) (fun hh => (hkd hh).elim) fun t x hop hw => (noload t x hop hw).elim
      cases hkd : kd o.op with
      | heavy =>
        rw [hkd] at h2
        obtain ⟨k10, k11⟩ := chkL_t (show chkL E.P ps m k (putK n o.dst (.val undef) tm fun tm => xregD E run ops ps n K l (k + 1) ((k, m) :: hs) lds tm m nb) lds = true from h2)
        obtain ⟨tm', k5, k6, k7, k8⟩ := putK_t ht k10
        exact go k5 k6 hm (stepAt_of hm k7 k8 (.inr ⟨h1, rfl, rfl, rfl⟩)) (fun p hp => List.mem_cons_of_mem _ hp) (fun d hd => hd) (fun _ => ⟨List.mem_cons_self, k11⟩) fun t x hop hw => (noload t x hop hw).elim
      | load => rw [hkd] at h2; exact plain (by rw [hkd]; exact fun h => by cases h) h2
      | pure => rw [hkd] at h2; exact plain (by rw [hkd]; exact fun h => by cases h) h2
      | light => rw [hkd] at h2; exact plain (by rw [hkd]; exact fun h => by cases h) h2
noncomputable def xdraw (E : Env) (run : Run) (ops : List Oper) (n : Nat) (K : KS) (tm : Tr CV) (m : Tr CR) (nb : Nat) : Bool :=
  og (dr ops) fun ps => List.rec (xreg E run ops n K ops tm m nb) (fun _ _ _ => xregD E run ops ps n K ops 0 [] [] tm m nb) ps
/- A region. -/
theorem region_ok (hE : EnvOK E) (hrun : RunOK E.P run) {ops : Array Oper} {id : Nat} {draw : Bool} {tm : Tr CV} {m : Tr CR} {nb : Nat} {K : KE} (ht : TmOK n tm) (hm : MemOK m nb)
    (h : (Bool.rec (xreg E run ops.toList n (K .nm) ops.toList tm m nb) (xdraw E run ops.toList n (K .nm) tm m nb) draw : Bool) = true) : Ends E.P n (.region id ops draw) tm m nb K := by
  have close : ∀ (s : Nat → St) (v : Nat → CV), s 0 = stOf tm m nb → Trace E.P ops.toList n 0 s v → Left n (K .nm) (s ops.toList.length) →
      (∀ (F : Nat → Prop) (w0 : World) (G : Gh) (a : Act) (w : World) (Q : Exit → Act → World → Prop), Sim F w0 G n (s 0) a w → Free (s 0).nb (s ops.toList.length).nb G → (∀ G' a' w', Step (s 0).nb (s ops.toList.length).nb G G' → Sim F w0 G' n (s ops.toList.length) a' w' → Q .normal a' w') → (Code.region id ops draw).wp E.P Q a w) → Ends E.P n (.region id ops draw) tm m nb K := fun s v h0 htr hleft hall => by
    obtain ⟨tm', m', nb', k1, k2, k3, k4⟩ := hleft
    refine ⟨.nm, tm', m', nb', k1, k2, k3, ?_⟩
    rw [← h0, ← k4]
    exact ⟨nbm htr (Nat.zero_le _) (Nat.le_refl _), hall⟩
  rcases rec_b h with ⟨rfl, h1⟩ | ⟨rfl, h1⟩
  · obtain ⟨ps, h2, h3⟩ := og_t h1
    have hd := dr_ok h2
    have drawn : ∀ (s : Nat → St) (v : Nat → CV), s 0 = stOf tm m nb → Trace E.P ops.toList n 0 s v → Left n (K .nm) (s ops.toList.length) → Chk E.P ops.toList ps s v → Ends E.P n (.region id ops true) tm m nb K := fun s v h0 htr hleft hchk =>
      close s v h0 htr hleft fun F w0 G a w Q hS hfr hq => by
        refine wp_region_any hE.mixed (dany hd htr hchk hfr hq ops.size _ G a _ (by simp) (Nat.le_trans (List.length_filter_le _ _) (by simp)) ?_)
        have hz : ∀ k, (Array.replicate ops.size false).getD k false = false := fun k => by
          rw [Array.getD_eq_getD_getElem?, Array.getElem?_replicate]
          split <;> rfl
        have hz' : ∀ {p : Prop} {k : Nat}, (Array.replicate ops.size false).getD k false = true → p := fun {p k} hL => by
          rw [hz] at hL
          cases hL
        refine ⟨fun j o _ hL => hz' hL, hS.defers, hS.size, .refl G, fun r hr => .inl hr, (s 0).T, (s 0).M, 0, ⟨fun i oi t _ hL => hz' hL, fun t _ => rfl⟩, ⟨fun k hL => hz' hL, fun r _ => rfl⟩, ⟨.inl rfl, fun h _ hL => hz' hL⟩, hS.tm, hS.fit.drawn _⟩
    cases ps with
    | nil =>
      obtain ⟨s, v, k1, k2, k3⟩ := xreg_t hE hrun (k := 0) (fun j => by rw [Nat.zero_add]) ht hm (show xreg E run ops.toList n (K .nm) ops.toList tm m nb = true from h3)
      rw [Nat.zero_add] at k3
      exact drawn s v k1 k2 k3 fun l h ol t x hin => by simp at hin
    | cons p ps =>
      obtain ⟨s, v, D⟩ := xregD_t hE hrun (k := 0) (fun j => by rw [Nat.zero_add]) ht hm (show xregD E run ops.toList (p :: ps) n (K .nm) ops.toList 0 [] [] tm m nb = true from h3)
      have k3 := D.left
      rw [Nat.zero_add] at k3
      exact drawn s v D.head D.trace k3 fun l h ol t x hin hh hol hop hw => D.c3 l h ol t x (Nat.zero_le _) (Nat.zero_le _) hin hh hol hop hw
  · obtain ⟨s, v, k1, k2, k3⟩ := xreg_t hE hrun (k := 0) (fun j => by rw [Nat.zero_add]) ht hm h1
    rw [Nat.zero_add] at k3
    refine close s v k1 k2 k3 fun F w0 G a w Q hS hfr hq => ?_
    refine wp_region ?_
    have := seq_ok (P := E.P) (n := n) (ops := ops) (Q := Q) (m := ops.toList.length) (k := 0) (by omega) k2 hS hfr hq
    rw [List.range_eq_range']
    simpa using this
end
end Go.Proofs.YteanccnggaakeaaGreat
