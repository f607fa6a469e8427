/- Regions in any order. No condition. -/
import Derived.Test.YteanccnggaakeaaGreatCmR
namespace Go.Proofs.YteanccnggaakeaaGreat
open Go.RowKit
set_option linter.unusedVariables false
set_option linter.unusedSimpArgs false

theorem Before.lt {ops : List Oper} {ps : List (Nat × Nat)} (hd : DrOK ops ps) {i j : Nat} {o : Oper} (ho : ops[j]? = some o) (h : Before ops i j) : i < j := by
  have := h (fun k => decide (k < j)) (fun q o' hq hL e he hb => by
    have h1 := of_decide_eq_true hL
    have h2 := hd.after q o' hq e he hb
    exact decide_eq_true (by omega)) (fun o' ho' e he hb => decide_eq_true (hd.after j o' ho' e he hb))
  exact of_decide_eq_true this
theorem least {P : Nat → Prop} {p : Nat} : ∀ {i : Nat}, (∃ h, p ≤ h ∧ h < i ∧ P h) → ∃ h, p ≤ h ∧ h < i ∧ P h ∧ ∀ h', p ≤ h' → h' < h → ¬ P h'
  | 0, ⟨h, _, h2, _⟩ => by omega
  | i + 1, ⟨h, h1, h2, h3⟩ => by
    by_cases hx : ∃ h, p ≤ h ∧ h < i ∧ P h
    · obtain ⟨q, q1, q2, q3, q4⟩ := least hx
      exact ⟨q, q1, by omega, q3, q4⟩
    · exact ⟨h, h1, h2, h3, fun h' k1 k2 k3 => hx ⟨h', k1, by omega, k3⟩⟩
section
variable {P : Program} {n : Nat} {ops : Array Oper} {ps : List (Nat × Nat)} {s : Nat → St} {v : Nat → CV} {Q : Exit → Act → World → Prop} {F : Nat → Prop} {w0 w : World} {G0 G : Gh} {L : Nat → Bool} {a : Act} {i : Nat} {o : Oper}
theorem dstep (hd : DrOK ops.toList ps) (ht : Trace P ops.toList n 0 s v) (hchk : Chk P ops.toList ps s v) (hfr : Free (s 0).nb (s ops.toList.length).nb G0) (hI : DInv P ops.toList n s v F w0 G0 G L a w) (hi : ops.toList[i]? = some o) (hLi : L i = false)
    (hr : ∀ e ∈ o.after, bnd e = true → L e.on = true) {K : Act → World → Prop} (hk : ∀ G' a' w', DInv P ops.toList n s v F w0 G0 G' (setB L i) a' w' → K a' w') : wpOp P ops Q i K a w := by
  have hlt := (List.getElem?_eq_some_iff.1 hi).1
  have hst := ht i o (Nat.zero_le _) hi
  obtain ⟨T, M, p, hT, hM, hp, htm, hF⟩ := hI.ex
  have hR : ∀ t, t ∈ looks ops.toList o → R G ((s i).T t) (a.tmps.getD t undef) := fun t hl => by
    rw [← hT.agree hd ht hI.closed hi hLi hr hl]
    exact htm t
  have hsees : Sees G (evv (s i).T) a o := fun x hx => by
    cases x with
    | tmp t => exact hR t (looks_op hx rfl)
    | const u => exact ofU_R u
    | global g => simp only [evv, R, Act.eval]
    | func f => simp only [evv, R, Act.eval]
  have hi' : ops[i]? = some o := by rw [← hi]; simp
  have hfree : Free (s i).nb (s (i + 1)).nb G := fun r h1 h2 hdm => by
    have b1 := nbm ht (Nat.zero_le i) (by omega)
    have b2 := nbm ht (show i + 1 ≤ ops.toList.length by omega) (Nat.le_refl _)
    rcases hI.dom r hdm with h3 | ⟨k, k1, k2, k3, k4⟩
    · exact hfr r (by omega) (by omega) h3
    · rcases Nat.lt_trichotomy k i with h5 | h5 | h5
      · have := nbm ht (show k + 1 ≤ i by omega) (by omega); omega
      · subst h5; rw [hLi] at k2; cases k2
      · have := nbm ht (show i + 1 ≤ k by omega) (by omega); omega
  have fin : ∀ G' y w' M' p', Step (s i).nb (s (i + 1)).nb G G' → R G' (v i) y → Fit F w0 G' M' w' → MRel ops.toList s (setB L i) p' M' → HP ops.toList (setB L i) p' → K (a.put o.dst y) w' := fun G' y w' M' p' h1 h2 h3 h4 h5 => by
    have hS : Sim F w0 G n ⟨T, M, 0⟩ a w := ⟨hI.defers, hI.size, htm, hF⟩
    have hS' := hS.put (nb' := 0) h1.le h2 h3 hst.dst
    refine hk G' _ w' ⟨fun j oj hj hL e he hb => ?_, hS'.defers, hS'.size, hI.le.trans h1.le, fun r hrd => ?_, putT T o.dst (v i), M', p', hT.next hd hi hLi, h4, h5, hS'.tm, h3⟩
    · simp only [setB] at hL ⊢
      split
      · rfl
      · by_cases ej : j = i
        · subst ej
          rw [hi] at hj
          injection hj with hj
          subst hj
          exact hr e he hb
        · rw [if_neg ej] at hL
          exact hI.closed j oj hj hL e he hb
    · rcases h1.new r hrd with hrd | hrd
      · rcases hI.dom r hrd with h6 | ⟨k, k1, k2, k3, k4⟩
        · exact .inl h6
        · exact .inr ⟨k, k1, by simp only [setB]; split; rfl; exact k2, k3, k4⟩
      · exact .inr ⟨i, hlt, by simp [setB], hrd.1, hrd.2⟩
  -- what lies ahead of an operation that writes, or makes a row
  have hp_le : kd o.op = .heavy ∨ kd o.op = .light → p ≤ i := fun hkd => by
    rcases hp.1 with rfl | ⟨h, ⟨oh, h1, h1'⟩, h2, rfl⟩
    · exact Nat.zero_le _
    · rcases Nat.lt_trichotomy h i with h3 | h3 | h3
      · omega
      · subst h3; rw [hLi] at h2; cases h2
      · have := (hd.heavy i h o oh hi h1 h3 h1' hkd).of_listed (o := oh) hI.closed h2
        rw [hLi] at this
        cases this
  have ready_of : ∀ {j : Nat}, Before ops.toList j i → L j = true := fun h => h L hI.closed fun o' ho' => by rw [hi] at ho'; injection ho' with ho'; subst ho'; exact hr
  have notL : ∀ {h : Nat}, Heavy ops.toList h → p ≤ h → L h = false := fun {h} h1 h2 => by
    cases hL : L h with
    | false => rfl
    | true => have := hp.2 h h1 hL; omega
  have keepHP : kd o.op ≠ .heavy → HP ops.toList (setB L i) p := fun hk' => by
    refine ⟨hp.1.imp id fun ⟨h, h1, h2, h3⟩ => ⟨h, h1, by simp only [setB]; split; rfl; exact h2, h3⟩, fun h h1 h2 => ?_⟩
    by_cases e : h = i
    · subst e
      obtain ⟨oh, h3, h4⟩ := h1
      rw [hi] at h3
      injection h3 with h3
      subst h3
      exact (hk' h4).elim
    · simp only [setB, if_neg e] at h2
      exact hp.2 h h1 h2
  have keepM : ¬ LightW ops.toList s i → MRel ops.toList s (setB L i) p M := fun hnl => by
    refine ⟨fun k k1 k2 k3 => ?_, fun r hr' => hM.2 r fun k k1 k2 k3 => hr' k (by simp only [setB]; split; rfl; exact k1) k2 k3⟩
    by_cases e : k = i
    · subst e; exact (hnl k2).elim
    · simp only [setB, if_neg e] at k1
      exact hM.1 k k1 k2 k3
  -- rows behind an operation that writes
  have heavy_rows : kd o.op = .heavy → M = mix (fun r => ∃ k, L k = true ∧ LightW ops.toList s k ∧ i ≤ k ∧ r = (s k).nb) M (s i).M := fun hkd =>
    mix_at ht hM (hp_le (.inl hkd)) (by omega) (fun h h1 h2 ⟨oh, h3, h4⟩ => by
      have := ready_of (hd.heavy h i oh o h3 hi h2 hkd (.inl h4))
      rw [notL ⟨oh, h3, h4⟩ h1] at this
      cases this) (fun k k1 k2 ⟨ok, k3, k4, _⟩ => ready_of (hd.heavy k i ok o k3 hi k2 hkd (.inr k4)))
  have heavyHP : kd o.op = .heavy → HP ops.toList (setB L i) (i + 1) := fun hkd =>
    ⟨.inr ⟨i, ⟨o, hi, hkd⟩, by simp [setB], rfl⟩, fun h h1 h2 => by
      have := hp_le (.inl hkd)
      by_cases e : h = i
      · omega
      · simp only [setB, if_neg e] at h2
        have := hp.2 h h1 h2
        omega⟩
  have heavyM : ∀ M', kd o.op = .heavy → (∀ r, M' r = mix (fun r => ∃ k, L k = true ∧ LightW ops.toList s k ∧ i ≤ k ∧ r = (s k).nb) M (s (i + 1)).M r) → MRel ops.toList s (setB L i) (i + 1) M' := fun M' hkd hM' => by
    refine ⟨fun k k1 k2 k3 => ?_, fun r hr' => ?_⟩
    · simp only [setB, if_neg (show ¬ k = i by omega)] at k1
      rw [hM', mix_in (X := fun r => ∃ k, L k = true ∧ LightW ops.toList s k ∧ i ≤ k ∧ r = (s k).nb) ⟨k, k1, k2, by omega, rfl⟩]
      exact hM.1 k k1 k2 (by have := hp_le (.inl hkd); omega)
    · rw [hM', mix_out (X := fun r => ∃ k, L k = true ∧ LightW ops.toList s k ∧ i ≤ k ∧ r = (s k).nb)]
      rintro ⟨k, k1, k2, k3, k4⟩
      have hne : k ≠ i := fun e => by subst e; rw [hLi] at k1; cases k1
      exact hr' k (by simp only [setB, if_neg hne]; exact k1) k2 (by omega) k4
  unfold wpOp
  simp only [hi']
  rcases hst.case with ⟨h1, h2, h3⟩ | ⟨h1, h2, h3, h4⟩
  · rw [if_pos (wantV_wanted h1 fun d b hg => hR d (looks_g hg))]
    left
    have notLight : kd o.op ≠ .light → ¬ LightW ops.toList s i := fun hk' ⟨o', h4, h5, _⟩ => by
      rw [hi] at h4
      injection h4 with h4
      subst h4
      exact hk' h5
    have still : ∀ y, R G (v i) y → (execOp a.eval o).run P w = .ok (.value y) w → kd o.op ≠ .light → kd o.op ≠ .heavy → o.wp P a w K Q := fun y hy hrun hn1 hn2 => by
      unfold Oper.wp
      rw [hrun]
      exact fin G y w M p ⟨.refl G, fun _ h => .inl h⟩ hy hF (keepM (notLight hn1)) (keepHP hn2)
    unfold Kind at h3
    cases hkd : kd o.op with
    | pure =>
      rw [hkd] at h3
      obtain ⟨y, k1, k2⟩ := h3.1 G a hsees
      exact still y k1 (k2 w) (by rw [hkd]; exact fun h => by cases h) (by rw [hkd]; exact fun h => by cases h)
    | load =>
      rw [hkd] at h3
      obtain ⟨⟨t, x, hop, hld⟩, _, _⟩ := h3
      have key : ∃ q, Loads P (s q).M t (evv (s i).T x) (v i) ∧ Fit F w0 G (s q).M w := by
        by_cases hpi : p ≤ i
        · by_cases hx : ∃ h, p ≤ h ∧ h < i ∧ Heavy ops.toList h
          · obtain ⟨h, g1, g2, g3, g4⟩ := least hx
            obtain ⟨oh, g5, g6⟩ := g3
            have hin : (i, h) ∈ ps := by
              rcases hd.load i h o oh hi g5 hkd g6 with h5 | h5 | h5
              · have := h5.lt hd g5; omega
              · have := ready_of h5
                rw [notL ⟨oh, g5, g6⟩ g1] at this
                cases this
              · exact h5
            have := hchk i h o t x hin ⟨oh, g5, g6⟩ hi hop h1
            rw [if_neg (by omega)] at this
            exact ⟨h, this, rows_at ht hI hfr hM hF g1 (by omega) g4⟩
          · exact ⟨i, hld, rows_at ht hI hfr hM hF hpi (by omega) fun h g1 g2 g3 => hx ⟨h, g1, g2, g3⟩⟩
        · rcases hp.1 with rfl | ⟨h, ⟨oh, g5, g6⟩, g2, rfl⟩
          · omega
          · have hih : i < h := by
              rcases Nat.lt_trichotomy h i with g | g | g
              · omega
              · subst g
                rw [hLi] at g2
                cases g2
              · exact g
            have hin : (i, h) ∈ ps := by
              rcases hd.load i h o oh hi g5 hkd g6 with h5 | h5 | h5
              · have := h5.of_listed (o := oh) hI.closed g2
                rw [hLi] at this
                cases this
              · have := h5.lt hd hi; omega
              · exact h5
            have := hchk i h o t x hin ⟨oh, g5, g6⟩ hi hop h1
            rw [if_pos hih] at this
            exact ⟨h + 1, this, rows_at ht hI hfr hM hF (Nat.le_refl _) (heavy_lt ⟨oh, g5, g6⟩) fun h' g1 g2 _ => by omega⟩
      obtain ⟨q, g1, g2⟩ := key
      obtain ⟨y, k1, k2⟩ := (g1.ok (ev := evv (s i).T) hop) F w0 G a w g2 hsees
      exact still y k1 k2 (by rw [hkd]; exact fun h => by cases h) (by rw [hkd]; exact fun h => by cases h)
    | light =>
      rw [hkd] at h3
      obtain ⟨row, k1, k2, k3⟩ := h3
      have hpi := hp_le (.inr hkd)
      refine (k1 M).2 F w0 G a w K Q hF (by rw [← k3]; exact hfree) hsees fun G' y w' g1 g2 g3 => fin G' y w' _ p (by rw [k3]; exact g1) g2 g3 ⟨fun k q1 q2 q3 => ?_, fun r hr' => ?_⟩ (keepHP (by rw [hkd]; exact fun h => by cases h))
      · by_cases e : k = i
        · subst e
          rw [upd_same, k2, upd_same]
        · simp only [setB, if_neg e] at q1
          have hne : (s k).nb ≠ (s i).nb := by
            obtain ⟨ok, z1, z2, z3⟩ := q2
            have hkl := (List.getElem?_eq_some_iff.1 z1).1
            rcases Nat.lt_or_gt_of_ne e with z | z
            · rcases quiet ht z1 (by rw [z2]; exact fun h => by cases h) with ⟨_, z4, _⟩ | ⟨z4, _⟩
              · have := nbm ht (show k + 1 ≤ i by omega) (by omega); omega
              · exact (z4 ⟨ok, z1, z2, z3⟩).elim
            · have := nbm ht (show i + 1 ≤ k by omega) (by omega); omega
          rw [upd_ne _ _ hne]
          exact hM.1 k q1 q2 q3
      · rw [upd_ne _ _ (hr' i (by simp [setB]) ⟨o, hi, hkd, h1⟩ hpi)]
        exact hM.2 r fun k q1 q2 q3 => hr' k (by simp only [setB]; split; rfl; exact q1) q2 q3
    | heavy =>
      have hX := heavy_rows hkd
      have hlow : ∀ r, (∃ k, L k = true ∧ LightW ops.toList s k ∧ i ≤ k ∧ r = (s k).nb) → (s (i + 1)).nb ≤ r := fun r ⟨k, k1, ⟨ok, k2, _⟩, k3, k4⟩ => by
        have hne : k ≠ i := fun e => by subst e; rw [hLi] at k1; cases k1
        have hkl := (List.getElem?_eq_some_iff.1 k2).1
        rw [k4]
        exact nbm ht (by omega) (by omega)
      have hfrm := h2.frame (X := fun r => ∃ k, L k = true ∧ LightW ops.toList s k ∧ i ≤ k ∧ r = (s k).nb) (E := M) (fun r hx => hst.low r (Nat.le_trans hst.le (hlow r hx))) (fun r hx => .inr (hlow r hx))
      refine hfrm.2 F w0 G a w K Q (by rw [← hX]; exact hF) hfree hsees fun G' y w' g1 g2 g3 => fin G' y w' _ (i + 1) g1 g2 g3 (heavyM _ hkd fun r => rfl) (heavyHP hkd)
  · rw [if_neg (by rw [wantV_wanted h1 fun d b hg => hR d (looks_g hg)]; exact fun h => by cases h)]
    have hnl : ¬ LightW ops.toList s i := fun ⟨o', g1, _, g3⟩ => by
      rw [hi] at g1
      injection g1 with g1
      subst g1
      rw [h1] at g3
      cases g3
    have hy : R G (v i) undef := by rw [h2]; simp only [R]
    have hs : Step (s i).nb (s (i + 1)).nb G G := ⟨.refl G, fun _ h => .inl h⟩
    by_cases hkd : kd o.op = .heavy
    · exact fin G undef w M (i + 1) hs hy hF (heavyM M hkd fun r => by rw [h3]; exact congrFun (heavy_rows hkd) r) (heavyHP hkd)
    · exact fin G undef w M p hs hy hF (keepM hnl) (keepHP hkd)
/- In whatever order. -/
theorem dany (hd : DrOK ops.toList ps) (ht : Trace P ops.toList n 0 s v) (hchk : Chk P ops.toList ps s v) (hfr : Free (s 0).nb (s ops.toList.length).nb G0)
    (hq : ∀ G' a' w', Step (s 0).nb (s ops.toList.length).nb G0 G' → Sim F w0 G' n (s ops.toList.length) a' w' → Q .normal a' w') :
    ∀ (fuel : Nat) (listed : Array Bool) (G : Gh) (a : Act) (w : World), listed.size = ops.size → ((List.range ops.size).filter fun i => !listed.getD i true).length ≤ fuel → DInv P ops.toList n s v F w0 G0 G (fun i => listed.getD i false) a w → wpAny P .any ops Q fuel listed a w := by
  have done : ∀ (listed : Array Bool) (G : Gh) (a : Act) (w : World), listed.size = ops.size → Region.ready .any ops listed = [] → DInv P ops.toList n s v F w0 G0 G (fun i => listed.getD i false) a w → Q .normal a w := fun listed G a w hsz hrd hI => by
    have all : ∀ j, j < ops.size → listed.getD j false = true := fun j => by
      induction j using Nat.strongRecOn with
      | _ j ih =>
        intro hj
        cases hL : listed.getD j false with
        | true => rfl
        | false =>
          exfalso
          have hmem : j ∈ Region.ready .any ops listed := by
            have hoj : ops[j]? = some ops[j] := Array.getElem?_eq_getElem hj
            refine List.mem_filter.2 ⟨List.mem_range.2 hj, ?_⟩
            have h1 : listed.getD j true = false := by
              rw [Array.getD_eq_getD_getElem?] at hL ⊢
              rw [Array.getElem?_eq_getElem (by omega)] at hL ⊢
              exact hL
            rw [h1, hoj]
            simp only [Bool.not_false, Bool.true_and, Option.map_some, Option.getD_some, Array.all_eq_true']
            intro e he
            cases hb : Region.binds .any e with
            | false => rfl
            | true =>
              have hon := hd.after j ops[j] (by rw [← hoj]; simp) e he hb
              simp only [Bool.not_true, Bool.false_or]
              exact ih e.on hon (by omega)
          rw [hrd] at hmem
          cases hmem
    obtain ⟨T, M, p, hT, hM, hp, htm, hF⟩ := hI.ex
    have hlen : ops.toList.length = ops.size := by simp
    have hple := hp.le fun h => heavy_lt
    have hfit := rows_at ht hI hfr hM hF hple (Nat.le_refl _) fun h h1 h2 h3 => by
      have := hp.2 h h3 (all h (by omega))
      omega
    have hTT : ∀ t, T t = (s ops.toList.length).T t := fun t => by
      obtain ⟨l1, l2⟩ := lexT ht hd t (Nat.le_refl _)
      by_cases hw : ∃ (j : Nat) (oj : Oper), ops.toList[j]? = some oj ∧ oj.dst = some t
      · obtain ⟨j, oj, hj, hdt⟩ := hw
        have hjl := (List.getElem?_eq_some_iff.1 hj).1
        rw [hT.1 j oj t hj (all j (by omega)) hdt, l1 j oj hjl hj hdt]
      · rw [hT.2 t fun k ok hk _ hkt => hw ⟨k, ok, hk, hkt⟩, l2 fun k ok _ hk hkt => hw ⟨k, ok, hk, hkt⟩]
    refine hq G a w ⟨hI.le, fun r hr => ?_⟩ ⟨hI.defers, hI.size, fun t => by rw [← hTT]; exact htm t, hfit⟩
    rcases hI.dom r hr with h1 | ⟨k, k1, k2, k3, k4⟩
    · exact .inl h1
    · have b1 := nbm ht (Nat.zero_le k) (by omega)
      have b2 := nbm ht (show k + 1 ≤ ops.toList.length by omega) (Nat.le_refl _)
      exact .inr (by omega)
  intro fuel
  induction fuel with
  | zero =>
    intro listed G a w hsz hc hI
    have hrd : Region.ready .any ops listed = [] := by
      rw [List.eq_nil_iff_forall_not_mem]
      intro j hj
      have h0 : ((List.range ops.size).filter fun i => !listed.getD i true) = [] := List.eq_nil_of_length_eq_zero (by omega)
      have : j ∈ ((List.range ops.size).filter fun i => !listed.getD i true) := by
        obtain ⟨h1, h2⟩ := List.mem_filter.1 hj
        simp only [Bool.and_eq_true] at h2
        exact List.mem_filter.2 ⟨h1, h2.1⟩
      rw [h0] at this
      cases this
    exact ⟨hrd, done listed G a w hsz hrd hI⟩
  | succ fuel ih =>
    intro listed G a w hsz hc hI
    refine ⟨fun hrd => done listed G a w hsz hrd hI, fun i hir => ?_⟩
    obtain ⟨h1, h2⟩ := List.mem_filter.1 hir
    have hil : i < ops.size := List.mem_range.1 h1
    simp only [Bool.and_eq_true, Bool.not_eq_true'] at h2
    obtain ⟨h2, h3⟩ := h2
    have hoi : ops[i]? = some ops[i] := Array.getElem?_eq_getElem hil
    rw [hoi] at h3
    simp only [Option.map_some, Option.getD_some, Array.all_eq_true'] at h3
    have hLi : listed.getD i false = false := by
      rw [Array.getD_eq_getD_getElem?] at h2 ⊢
      rw [Array.getElem?_eq_getElem (by omega)] at h2 ⊢
      exact h2
    refine dstep hd ht hchk hfr hI (o := ops[i]) (by rw [← hoi]; simp) hLi (fun e he hb => ?_) fun G' a' w' hI' => ih _ G' a' w' (by simp [hsz]) ?_ ?_
    · have := h3 e he
      have hb' : Region.binds .any e = true := hb
      rw [hb'] at this
      simpa using this
    · have hlt : ((List.range ops.size).filter fun j => !(listed.setIfInBounds i true).getD j true).length < ((List.range ops.size).filter fun j => !listed.getD j true).length := by
        have hsub : ∀ j, (!(listed.setIfInBounds i true).getD j true) = ((!(j == i)) && !listed.getD j true) := fun j => by
          simp only [Array.getD_eq_getD_getElem?]
          by_cases e : j = i
          · subst e
            rw [Array.getElem?_setIfInBounds_self_of_lt (by omega)]
            simp
          · rw [Array.getElem?_setIfInBounds_ne (fun h => e h.symm)]
            simp [e]
        rw [show (fun j => !(listed.setIfInBounds i true).getD j true) = fun j => ((!(j == i)) && !listed.getD j true) from funext hsub]
        rw [← List.filter_filter]
        have hmem : i ∈ (List.range ops.size).filter fun j => !listed.getD j true := List.mem_filter.2 ⟨h1, by rw [h2]; rfl⟩
        exact List.length_filter_lt_length_iff_exists.2 ⟨i, hmem, by simp⟩
      omega
    · have e : (fun j => (listed.setIfInBounds i true).getD j false) = setB (fun j => listed.getD j false) i := by
        funext j
        simp only [setB, Array.getD_eq_getD_getElem?]
        by_cases e : j = i
        · subst e
          rw [Array.getElem?_setIfInBounds_self_of_lt (by omega), if_pos rfl]
          rfl
        · rw [Array.getElem?_setIfInBounds_ne (fun h => e h.symm), if_neg e]
      rw [e]
      exact hI'
end
end Go.Proofs.YteanccnggaakeaaGreat
