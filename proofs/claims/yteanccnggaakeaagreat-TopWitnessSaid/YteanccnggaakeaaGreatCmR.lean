/- Regions: in the order of the text, and in any order. No condition. -/
import Derived.Test.YteanccnggaakeaaGreatCmQ
namespace Go.Proofs.YteanccnggaakeaaGreat
open Go.RowKit
set_option linter.unusedVariables false
set_option linter.unusedSimpArgs false

theorem putT_ne {T : Nat → CV} {dst : Option Nat} {v : CV} {t : Nat} (h : dst ≠ some t) : putT T dst v t = T t := by
  cases dst with
  | none => rfl
  | some q => exact upd_ne _ _ fun e => h (by rw [e])
def Kind (P : Program) (o : Oper) (s : St) (v : CV) (s' : St) : Prop :=
  match kd o.op with
  | .pure => PureOK P (evv s.T) o v ∧ s'.M = s.M ∧ s'.nb = s.nb
  | .load => (∃ t x, o.op = .load t x ∧ Loads P s.M t (evv s.T x) v) ∧ s'.M = s.M ∧ s'.nb = s.nb
  | .light => ∃ row, LightOK P (evv s.T) o s.nb v row ∧ s'.M = upd s.M s.nb row ∧ s'.nb = s.nb + 1
  | .heavy => True
structure StepAt (P : Program) (ops : List Oper) (n : Nat) (o : Oper) (s : St) (v : CV) (s' : St) : Prop where
  T : s'.T = putT s.T o.dst v
  dst : ∀ q, o.dst = some q → q < n
  low : ∀ r, s.nb ≤ r → s.M r = .dead
  le : s.nb ≤ s'.nb
  case : (wantV ops s.T o = some true ∧ OpOK P (evv s.T) o s.M s.nb v s'.M s'.nb ∧ Kind P o s v s') ∨ (wantV ops s.T o = some false ∧ v = .val undef ∧ s'.M = s.M ∧ s'.nb = s.nb)
def Trace (P : Program) (ops : List Oper) (n k : Nat) (s : Nat → St) (v : Nat → CV) : Prop := ∀ j o, k ≤ j → ops[j]? = some o → StepAt P ops n o (s j) (v j) (s (j + 1))

section
variable {P : Program} {n : Nat} {ops : Array Oper} {Q : Exit → Act → World → Prop}
theorem Sim.sees {F : Nat → Prop} {w0 w : World} {G : Gh} {s : St} {a : Act} (h : Sim F w0 G n s a w) (o : Oper) : Sees G (evv s.T) a o := fun x _ => evv_R h.tm x
theorem step_op {o : Oper} {s s' : St} {v : CV} {i : Nat} (hi : ops[i]? = some o) (h : StepAt P ops.toList n o s v s') {F : Nat → Prop} {w0 w : World} {G : Gh} {a : Act} {K : Act → World → Prop} (hS : Sim F w0 G n s a w) (hfr : Free s.nb s'.nb G)
    (hk : ∀ G' a' w', Step s.nb s'.nb G G' → Sim F w0 G' n s' a' w' → K a' w') : wpOp P ops Q i K a w := by
  unfold wpOp
  simp only [hi]
  have hs' : s' = ⟨putT s.T o.dst v, s'.M, s'.nb⟩ := by
    obtain ⟨T', M', nb'⟩ := s'
    have := h.T
    simp only at this
    rw [this]
  rcases h.case with ⟨h1, h2, _⟩ | ⟨h1, h2, h3, h4⟩
  · rw [if_pos (wantV_wanted h1 fun d _ _ => hS.tm d)]
    refine .inl (h2.2 F w0 G a w K Q hS.fit hfr (hS.sees o) fun G' y w' k1 k2 k3 => hk G' _ w' k1 ?_)
    rw [hs']
    exact hS.put k1.le k2 k3 h.dst
  · rw [if_neg (by rw [wantV_wanted h1 fun d _ _ => hS.tm d]; exact fun h => by cases h)]
    refine hk G _ w ⟨.refl G, fun _ h => .inl h⟩ ?_
    rw [hs', h2, h3]
    exact hS.put (.refl G) (by simp only [R]) hS.fit h.dst
theorem nb_mono {s : Nat → St} {v : Nat → CV} {k : Nat} (h : Trace P ops.toList n k s v) : ∀ {i j : Nat}, k ≤ i → i ≤ j → j ≤ ops.toList.length → (s i).nb ≤ (s j).nb
  | i, 0, hk, hij, hj => by
    obtain rfl : i = 0 := by omega
    exact Nat.le_refl _
  | i, j + 1, hk, hij, hj => by
    by_cases e : i = j + 1
    · subst e; exact Nat.le_refl _
    · exact Nat.le_trans (nb_mono h hk (by omega) (by omega)) (h j _ (by omega) (List.getElem?_eq_getElem (by omega))).le
theorem seq_ok {s : Nat → St} {v : Nat → CV} : ∀ {m k : Nat}, k + m = ops.toList.length → Trace P ops.toList n k s v → ∀ {F : Nat → Prop} {w0 w : World} {G : Gh} {a : Act}, Sim F w0 G n (s k) a w → Free (s k).nb (s ops.toList.length).nb G →
    (∀ G' a' w', Step (s k).nb (s ops.toList.length).nb G G' → Sim F w0 G' n (s ops.toList.length) a' w' → Q .normal a' w') → wpOps P ops Q (List.range' k m) a w
  | 0, k, hkm, ht, F, w0, w, G, a, hS, hfr, hq => by
    obtain rfl : k = ops.toList.length := by omega
    simpa [wpOps] using hq G a w (.refl _ _) hS
  | m + 1, k, hkm, ht, F, w0, w, G, a, hS, hfr, hq => by
    have hlt : k < ops.toList.length := by omega
    have ho : ops.toList[k]? = some ops.toList[k] := List.getElem?_eq_getElem hlt
    have hst := ht k _ (Nat.le_refl _) ho
    have hle : (s (k + 1)).nb ≤ (s ops.toList.length).nb := nb_mono ht (by omega) (by omega) (Nat.le_refl _)
    rw [List.range'_succ, wpOps_cons]
    refine step_op (by rw [← ho]; simp) hst hS (hfr.sub (Nat.le_refl _) hle) fun G' a' w' h1 h2 => ?_
    refine seq_ok (by omega) (fun j o hj => ht j o (by omega)) h2 (hfr.next h1 hst.le) fun G'' a'' w'' k1 k2 => hq G'' a'' w'' (h1.trans k1 hst.le hle) k2
end

section
variable {P : Program} {n : Nat} {ops : List Oper} {ps : List (Nat × Nat)} {s : Nat → St} {v : Nat → CV}
/- A new row that is made. -/
def LightW (ops : List Oper) (s : Nat → St) (k : Nat) : Prop := ∃ o, ops[k]? = some o ∧ kd o.op = .light ∧ wantV ops (s k).T o = some true
def Heavy (ops : List Oper) (k : Nat) : Prop := ∃ o, ops[k]? = some o ∧ kd o.op = .heavy
theorem quiet (ht : Trace P ops n 0 s v) {k : Nat} {o : Oper} (ho : ops[k]? = some o) (hk : kd o.op ≠ .heavy) :
    (LightW ops s k ∧ (s (k + 1)).nb = (s k).nb + 1 ∧ ∃ row, (s (k + 1)).M = upd (s k).M (s k).nb row) ∨ (¬ LightW ops s k ∧ (s (k + 1)).M = (s k).M ∧ (s (k + 1)).nb = (s k).nb) := by
  have hst := ht k o (Nat.zero_le _) ho
  have not : kd o.op ≠ .light → ¬ LightW ops s k := fun h ⟨o', h1, h2, _⟩ => by
    rw [ho] at h1
    injection h1 with h1
    subst h1
    exact h h2
  rcases hst.case with ⟨h1, h2, h3⟩ | ⟨h1, h2, h3, h4⟩
  · unfold Kind at h3
    split at h3
    · rename_i e
      exact .inr ⟨not (by rw [e]; exact fun h => by cases h), h3.2.1, h3.2.2⟩
    · rename_i e
      exact .inr ⟨not (by rw [e]; exact fun h => by cases h), h3.2.1, h3.2.2⟩
    · rename_i e
      obtain ⟨row, _, k2, k3⟩ := h3
      exact .inl ⟨⟨o, ho, e, h1⟩, k3, row, k2⟩
    · rename_i e
      exact (hk e).elim
  · refine .inr ⟨fun ⟨o', k1, _, k3⟩ => ?_, h3, h4⟩
    rw [ho] at k1
    injection k1 with k1
    subst k1
    rw [h1] at k3
    cases k3
theorem nbm (ht : Trace P ops n 0 s v) {i j : Nat} (hij : i ≤ j) (hj : j ≤ ops.length) : (s i).nb ≤ (s j).nb := by
  have := nb_mono (P := P) (n := n) (ops := ops.toArray) (s := s) (v := v) (k := 0) (by simpa using ht) (Nat.zero_le _) hij (by simpa using hj)
  exact this
theorem lexM_out (ht : Trace P ops n 0 s v) {p : Nat} : ∀ {q : Nat}, p ≤ q → q ≤ ops.length → (∀ h, p ≤ h → h < q → ¬ Heavy ops h) → ∀ r, (∀ k, p ≤ k → k < q → LightW ops s k → r ≠ (s k).nb) → (s q).M r = (s p).M r
  | 0, hpq, hq, hh, r, hr => by
    obtain rfl : p = 0 := by omega
    rfl
  | q + 1, hpq, hq, hh, r, hr => by
    by_cases e : p = q + 1
    · rw [e]
    · have ih := lexM_out ht (p := p) (q := q) (by omega) (by omega) (fun h h1 h2 => hh h h1 (by omega)) r (fun k h1 h2 => hr k h1 (by omega))
      have ho : ops[q]? = some ops[q] := List.getElem?_eq_getElem (by omega)
      rcases quiet ht ho (fun hk => hh q (by omega) (by omega) ⟨_, ho, hk⟩) with ⟨h1, _, row, h2⟩ | ⟨_, h2, _⟩
      · rw [h2, upd_ne _ _ (hr q (by omega) (by omega) h1)]; exact ih
      · rw [h2]; exact ih
theorem lexM_in (ht : Trace P ops n 0 s v) {k q : Nat} (hkq : k < q) (hq : q ≤ ops.length) (hk : LightW ops s k) (hh : ∀ h, k < h → h < q → ¬ Heavy ops h) : (s q).M (s k).nb = (s (k + 1)).M (s k).nb := by
  refine lexM_out ht (by omega) hq (fun h h1 h2 => hh h (by omega) h2) _ fun k' h1 h2 _ => ?_
  obtain ⟨o, ho, hl, hw⟩ := hk
  rcases quiet ht ho (by rw [hl]; exact fun h => by cases h) with ⟨_, h3, _⟩ | ⟨h3, _⟩
  · have := nbm ht (show k + 1 ≤ k' by omega) (by omega)
    omega
  · exact (h3 ⟨o, ho, hl, hw⟩).elim
theorem lexT (ht : Trace P ops n 0 s v) (hd : DrOK ops ps) (t : Nat) : ∀ {q : Nat}, q ≤ ops.length → (∀ i oi, i < q → ops[i]? = some oi → oi.dst = some t → (s q).T t = v i) ∧ ((∀ i oi, i < q → ops[i]? = some oi → oi.dst ≠ some t) → (s q).T t = (s 0).T t)
  | 0, hq => ⟨fun i oi h => by omega, fun _ => rfl⟩
  | q + 1, hq => by
    obtain ⟨ih1, ih2⟩ := lexT ht hd t (q := q) (by omega)
    have ho : ops[q]? = some ops[q] := List.getElem?_eq_getElem (by omega)
    have hst := ht q _ (Nat.zero_le _) ho
    have hput : ops[q].dst ≠ some t → (s (q + 1)).T t = (s q).T t := fun hne => by
      rw [hst.T]
      exact putT_ne hne
    refine ⟨fun i oi hi hoi hdt => ?_, fun hall => ?_⟩
    · by_cases e : i = q
      · subst e
        rw [ho] at hoi
        injection hoi with hoi
        rw [hst.T, hoi, hdt]
        exact upd_same _ _ _
      · rw [hput fun h => e (hd.dst i q oi _ t hoi ho hdt h)]
        exact ih1 i oi (by omega) hoi hdt
    · rw [hput (hall q _ (by omega) ho)]
      exact ih2 fun i oi hi => hall i oi (by omega)

/- Temporaries, rows behind what has been carried out. -/
def TRel (ops : List Oper) (s : Nat → St) (v : Nat → CV) (L : Nat → Bool) (T : Nat → CV) : Prop :=
  (∀ i oi t, ops[i]? = some oi → L i = true → oi.dst = some t → T t = v i) ∧ ∀ t, (∀ i oi, ops[i]? = some oi → L i = true → oi.dst ≠ some t) → T t = (s 0).T t
def MRel (ops : List Oper) (s : Nat → St) (L : Nat → Bool) (p : Nat) (M : Nat → CR) : Prop :=
  (∀ k, L k = true → LightW ops s k → p ≤ k → M (s k).nb = (s (k + 1)).M (s k).nb) ∧ ∀ r, (∀ k, L k = true → LightW ops s k → p ≤ k → r ≠ (s k).nb) → M r = (s p).M r
def HP (ops : List Oper) (L : Nat → Bool) (p : Nat) : Prop := (p = 0 ∨ ∃ h, Heavy ops h ∧ L h = true ∧ p = h + 1) ∧ ∀ h, Heavy ops h → L h = true → h < p
structure DInv (P : Program) (ops : List Oper) (n : Nat) (s : Nat → St) (v : Nat → CV) (F : Nat → Prop) (w0 : World) (G0 G : Gh) (L : Nat → Bool) (a : Act) (w : World) : Prop where
  closed : Closed ops L
  defers : a.defers = []
  size : a.tmps.size = n
  le : G0.le G
  dom : ∀ r, G.dom r → G0.dom r ∨ ∃ k, k < ops.length ∧ L k = true ∧ (s k).nb ≤ r ∧ r < (s (k + 1)).nb
  ex : ∃ T M p, TRel ops s v L T ∧ MRel ops s L p M ∧ HP ops L p ∧ (∀ t, R G (T t) (a.tmps.getD t undef)) ∧ Fit F w0 G M w
def Chk (P : Program) (ops : List Oper) (ps : List (Nat × Nat)) (s : Nat → St) (v : Nat → CV) : Prop :=
  ∀ l h ol t x, (l, h) ∈ ps → Heavy ops h → ops[l]? = some ol → ol.op = .load t x → wantV ops (s l).T ol = some true → Loads P (s (if l < h then h + 1 else h)).M t (evv (s l).T x) (v l)
def setB (L : Nat → Bool) (i : Nat) : Nat → Bool := fun j => if j = i then true else L j
section
variable {F : Nat → Prop} {w0 w : World} {G0 G : Gh} {L : Nat → Bool} {a : Act} {i : Nat} {o : Oper} {T : Nat → CV} {M : Nat → CR} {p : Nat}
theorem HP.le (hp : HP ops L p) (hlen : ∀ h, Heavy ops h → h < ops.length) : p ≤ ops.length := by
  rcases hp.1 with rfl | ⟨h, h1, h2, rfl⟩
  · exact Nat.zero_le _
  · exact hlen h h1
theorem heavy_lt {h : Nat} (hh : Heavy ops h) : h < ops.length := by
  obtain ⟨o, h1, _⟩ := hh
  exact (List.getElem?_eq_some_iff.1 h1).1
/- The rows of a state of the text are there, or their names are not in use. -/
theorem rows_at (ht : Trace P ops n 0 s v) (hI : DInv P ops n s v F w0 G0 G L a w) (hfr : Free (s 0).nb (s ops.length).nb G0) (hm : MRel ops s L p M) (hF : Fit F w0 G M w) {q : Nat} (hpq : p ≤ q) (hq : q ≤ ops.length) (hh : ∀ h, p ≤ h → h < q → ¬ Heavy ops h) :
    Fit F w0 G (s q).M w := by
  refine hF.forget fun r hr => ?_
  by_cases hk : ∃ k, p ≤ k ∧ k < q ∧ LightW ops s k ∧ r = (s k).nb
  · obtain ⟨k, k1, k2, k3, rfl⟩ := hk
    cases hL : L k with
    | true => exact .inl (by rw [lexM_in ht k2 hq k3 fun h h1 h2 => hh h (by omega) h2, hm.1 k hL k3 k1])
    | false =>
      exfalso
      have b1 := nbm ht (show 0 ≤ k by omega) (by omega)
      have b2 := nbm ht (show k + 1 ≤ ops.length by omega) (Nat.le_refl _)
      obtain ⟨o, ho, hl, hw⟩ := k3
      have b3 : (s (k + 1)).nb = (s k).nb + 1 := by
        rcases quiet ht ho (by rw [hl]; exact fun h => by cases h) with ⟨_, h3, _⟩ | ⟨h3, _⟩
        · exact h3
        · exact (h3 ⟨o, ho, hl, hw⟩).elim
      rcases hI.dom _ hr with h1 | ⟨k', h1, h2, h3, h4⟩
      · exact hfr _ b1 (by omega) h1
      · rcases Nat.lt_trichotomy k k' with h5 | h5 | h5
        · have := nbm ht (show k + 1 ≤ k' by omega) (by omega)
          omega
        · subst h5; rw [hL] at h2; cases h2
        · have := nbm ht (show k' + 1 ≤ k by omega) (by omega)
          omega
  · have e1 := lexM_out ht hpq hq hh r fun k h1 h2 h3 h4 => hk ⟨k, h1, h2, h3, h4⟩
    by_cases hk' : ∃ k, L k = true ∧ LightW ops s k ∧ p ≤ k ∧ r = (s k).nb
    · obtain ⟨k, k1, k2, k3, rfl⟩ := hk'
      have hqk : q ≤ k := Nat.le_of_not_lt fun h => hk ⟨k, k3, h, k2, rfl⟩
      obtain ⟨o, ho, _⟩ := k2
      have hlt := (List.getElem?_eq_some_iff.1 ho).1
      have hlow : ∀ r, (s q).nb ≤ r → (s q).M r = .dead := (ht q ops[q] (Nat.zero_le _) (List.getElem?_eq_getElem (by omega))).low
      exact .inr (hlow _ (nbm ht hqk (by omega)))
    · exact .inl (by rw [e1, hm.2 r fun k h1 h2 h3 h4 => hk' ⟨k, h1, h2, h3, h4⟩])
/- The rows behind what has been carried out, seen from an operation that writes. -/
theorem mix_at (ht : Trace P ops n 0 s v) (hm : MRel ops s L p M) {q : Nat} (hpq : p ≤ q) (hq : q ≤ ops.length) (hh : ∀ h, p ≤ h → h < q → ¬ Heavy ops h) (hL : ∀ k, p ≤ k → k < q → LightW ops s k → L k = true) :
    M = mix (fun r => ∃ k, L k = true ∧ LightW ops s k ∧ q ≤ k ∧ r = (s k).nb) M (s q).M := by
  funext r
  by_cases hx : ∃ k, L k = true ∧ LightW ops s k ∧ q ≤ k ∧ r = (s k).nb
  · rw [mix_in (X := fun r => ∃ k, L k = true ∧ LightW ops s k ∧ q ≤ k ∧ r = (s k).nb) hx]
  · rw [mix_out (X := fun r => ∃ k, L k = true ∧ LightW ops s k ∧ q ≤ k ∧ r = (s k).nb) hx]
    by_cases hk : ∃ k, p ≤ k ∧ k < q ∧ LightW ops s k ∧ r = (s k).nb
    · obtain ⟨k, k1, k2, k3, rfl⟩ := hk
      rw [lexM_in ht k2 hq k3 fun h h1 h2 => hh h (by omega) h2, hm.1 k (hL k k1 k2 k3) k3 k1]
    · rw [lexM_out ht hpq hq hh r fun k h1 h2 h3 h4 => hk ⟨k, h1, h2, h3, h4⟩]
      refine hm.2 r fun k h1 h2 h3 h4 => ?_
      by_cases hkq : q ≤ k
      · exact hx ⟨k, h1, h2, hkq, h4⟩
      · exact hk ⟨k, h3, by omega, h2, h4⟩
theorem TRel.next (hd : DrOK ops ps) (ht : TRel ops s v L T) (hi : ops[i]? = some o) (hLi : L i = false) : TRel ops s v (setB L i) (putT T o.dst (v i)) := by
  refine ⟨fun j oj t hj hL hdt => ?_, fun t hall => ?_⟩
  · by_cases e : j = i
    · subst e
      rw [hi] at hj
      injection hj with hj
      subst hj
      rw [hdt]
      exact upd_same _ _ _
    · simp only [setB, if_neg e] at hL
      rw [putT_ne fun h => e (hd.dst j i oj o t hj hi hdt h)]
      exact ht.1 j oj t hj hL hdt
  · have h1 := ht.2 t fun j oj hj hL => hall j oj hj (by simp only [setB]; split; rfl; exact hL)
    have h2 := hall i o hi (by simp [setB])
    rw [putT_ne h2]
    exact h1
theorem TRel.agree (hd : DrOK ops ps) (htr : Trace P ops n 0 s v) (ht : TRel ops s v L T) (hc : Closed ops L) (hi : ops[i]? = some o) (hLi : L i = false) (hr : ∀ e ∈ o.after, bnd e = true → L e.on = true) {t : Nat} (hl : t ∈ looks ops o) : T t = (s i).T t := by
  have hlt := (List.getElem?_eq_some_iff.1 hi).1
  obtain ⟨l1, l2⟩ := lexT htr hd t (q := i) (by omega)
  by_cases hw : ∃ (j : Nat) (oj : Oper), ops[j]? = some oj ∧ oj.dst = some t
  · obtain ⟨j, oj, hj, hdt⟩ := hw
    rcases hd.look j i oj o t hj hi hdt hl with ⟨h1, h2⟩ | ⟨h1, h2⟩
    · have hLj := h2 L hc fun o' ho' => by rw [hi] at ho'; injection ho' with ho'; subst ho'; exact hr
      rw [ht.1 j oj t hj hLj hdt, l1 j oj h1 hj hdt]
    · have e1 : T t = (s 0).T t := ht.2 t fun k ok hk hLk hkt => by
        have := hd.dst k j ok oj t hk hj hkt hdt
        subst this
        have := h2.of_listed (o := oj) hc hLk
        rw [hLi] at this
        cases this
      have e2 : (s i).T t = (s 0).T t := l2 fun k ok hk hok hkt => by
        have := hd.dst k j ok oj t hok hj hkt hdt
        omega
      rw [e1, e2]
  · rw [ht.2 t fun k ok hk _ hkt => hw ⟨k, ok, hk, hkt⟩, l2 fun k ok _ hk hkt => hw ⟨k, ok, hk, hkt⟩]
end
end
end Go.Proofs.YteanccnggaakeaaGreat
