/- Any order of a region, over abstract states. No condition. -/
import Derived.Test.YtjkfadaedgidpaaGreatAbsF
namespace Go.Proofs.YtjkfadaedgidpaaGreat
open Go.RowKit
set_option linter.unusedVariables false
set_option linter.unusedSimpArgs false
def clash (x y : Oper) : Bool := (isStore x && touches y) || (isStore y && touches x) || (isAppend x && isAppend y)
theorem clash_spec {x y : Oper} (h : clash x y = false) : (isStore x = true → touches y = false) ∧ (isStore y = true → touches x = false) ∧ (isAppend x = true → isAppend y = false) := by
 simp only [clash, Bool.or_eq_false_iff, Bool.and_eq_false_iff] at h
 refine ⟨fun k => ?_, fun k => ?_, fun k => ?_⟩
 ·rcases h.1.1 with h' | h'
  ·rw [k] at h'; cases h'
  ·exact h'
 ·rcases h.1.2 with h' | h'
  ·rw [k] at h'; cases h'
  ·exact h'
 ·rcases h.2 with h' | h'
  ·rw [k] at h'; cases h'
  ·exact h'
section
variable {P : Program} {ops : Array Oper} {md : Region.Mode}
theorem ev_app {s : AS} {dst : Option Tmp} {e : Eff} {x : Operand} (h : ∀ d, dst = some d → x ≠ .tmp d) : (s.app dst e).ev x = s.ev x := by
 cases x with
 | tmp t =>
  cases dst with
  | none => rfl
  | some d =>
   have hne : d ≠ t := fun e => h d rfl (by rw [e])
   simp only [AS.ev, AS.app, List.getD]
   rw [List.getElem?_set_ne hne]
 | const v => rfl
 | func f => rfl
 | global g => rfl
theorem looks {o : Oper} {x : Operand} {t : Tmp} (hx : x ∈ o.op.operands.toList) (ht : x = .tmp t) : t ∈ o.looksAt ops := by
 subst ht
 exact List.mem_append_left _ (List.mem_filterMap.2 ⟨.tmp t, by simpa using hx, rfl⟩)
theorem at_app {s : AS} {dst : Option Tmp} {e : Eff} {o : Oper} (h : ∀ d, dst = some d → d ∉ o.looksAt ops) {x : Operand} (hx : x ∈ o.op.operands.toList) :
  (s.app dst e).at x = s.at x ∧ (s.app dst e).ok x = s.ok x := by
 have := ev_app (s := s) (e := e) (x := x) (dst := dst) fun d hd hxd => h d hd (looks hx hxd)
 simp [AS.at, AS.ok, this]
theorem gcond_app {s : AS} {dst : Option Tmp} {e : Eff} {o : Oper} (h : ∀ d, dst = some d → d ∉ o.looksAt ops) : gcond ops (s.app dst e) o = gcond ops s o := by
 unfold gcond
 cases hg : o.guard with
 | none => rfl
 | some gw =>
  obtain ⟨g, want⟩ := gw
  simp only
  cases ht : (ops[g]?).bind (·.dst) with
  | none => rfl
  | some t =>
   have hl : t ∈ o.looksAt ops := by
    refine List.mem_append_right _ ?_
    rw [hg]
    simp only [ht]
    simp
   have : (s.app dst e).tm.getD t .any = s.tm.getD t .any := by
    cases dst with
    | none => rfl
    | some d =>
     have hne : d ≠ t := fun e => h d rfl (by rw [e]; exact hl)
     simp only [AS.app, List.getD]
     rw [List.getElem?_set_ne hne]
   simp only [this]
theorem fits_fwd {s : AS} {oi oj : Oper} {G : Prop} {e : Eff} (hap : oi.apart ops oj = true) (hcl : clash oi oj = false) (he : EffOk s G oi e) : Fits s (s.app oi.dst (wrapE oi G e)) oj := by
 obtain ⟨h1, h2, h3⟩ := Oper.apart_spec hap
 obtain ⟨c1, c2, c3⟩ := clash_spec hcl
 have hm : (s.app oi.dst (wrapE oi G e)).mem = ovr e.mem s.mem := by simp [AS.app, wrapE_mem]
 refine ⟨fun x hx => at_app h1 hx, fun x hx r hr row hrow => ?_, fun r d hd ho hn => ?_⟩
 ·rw [hm]
  cases hv : ovr e.mem s.mem r with
  | none => exact (ovr_some (.inl (by rw [hrow]; simp)) hv).elim
  | some row' =>
   refine ⟨row', rfl, ?_⟩
   rcases ovr_mem hv with hin | ⟨_, hin⟩
   ·obtain ⟨_, hh⟩ := he r row' hin
    rcases hh with ⟨hn, _⟩ | ⟨row0, k0, k1, k2, k3, k4, k5⟩
    ·rw [hn] at hrow; cases hrow
    ·rw [k0] at hrow
     injection hrow with hrow
     subst hrow
     refine ⟨⟨k1, k2, k3, k4, fun ht => ?_⟩, fun hsa => ?_⟩
     ·rcases k5 with k5 | k5
      ·rw [c1 k5] at ht; cases ht
      ·exact k5.2
     ·rcases k5 with k5 | k5
      ·have := c1 k5
       rcases hsa with hsa | hsa
       ·rw [touches_store hsa] at this; cases this
       ·rw [touches_append hsa] at this; cases this
      ·rcases hsa with hsa | hsa
       ·have := c2 hsa; rw [touches_append k5.1] at this; cases this
       ·have := c3 k5.1; rw [hsa] at this; cases this
   ·rw [hin] at hrow
    injection hrow with hrow
    subst hrow
    exact ⟨⟨rfl, rfl, rfl, rfl, fun _ => rfl⟩, fun _ => rfl⟩
 ·rw [hm, ovr_none fun row hin => ?_]
  ·exact hn
  ·obtain ⟨_, hh⟩ := he r row hin
   rcases hh with ⟨_, d', hd', _, ho'⟩ | ⟨row0, k0, _⟩
   ·exact h2 d' hd' (by rw [hd, ← ho', ← ho])
   ·rw [hn] at k0; cases k0
theorem fits_back {s : AS} {oi oj : Oper} {G : Prop} {e : Eff} (hs : s.Wf) (hap : oi.apart ops oj = true) (hcl : clash oi oj = false) (he : EffOk s G oi e) : Fits (s.app oi.dst (wrapE oi G e)) s oj := by
 have hf := fits_fwd (G := G) hap hcl he
 have hm : (s.app oi.dst (wrapE oi G e)).mem = ovr e.mem s.mem := by simp [AS.app, wrapE_mem]
 refine ⟨fun x hx => ?_, fun x hx r hr row' hrow' => ?_, fun r d hd ho hn => ?_⟩
 ·obtain ⟨k1, k2⟩ := hf.at_ x hx
  exact ⟨k1.symm, k2.symm⟩
 ·rw [(hf.at_ x hx).1] at hr
  cases hr0 : s.mem r with
  | none => exact (hs.at_ x r hr hr0).elim
  | some row =>
   obtain ⟨row'', k1, k2, k3⟩ := hf.mem x hx r hr row hr0
   rw [k1] at hrow'
   injection hrow' with hrow'
   subst hrow'
   exact ⟨row, rfl, ⟨k2.1.symm, k2.2.1.symm, k2.2.2.1.symm, k2.2.2.2.1.symm, fun ht => (k2.2.2.2.2 ht).symm⟩, fun hsa => (k3 hsa).symm⟩
 ·cases hr0 : s.mem r with
  | none => rfl
  | some row => rw [hm] at hn; exact (ovr_some (.inl (by rw [hr0]; simp)) hn).elim
theorem ovr_comm {l k : List (Nat × ARow)} {m : Nat → Option ARow} (h : ∀ r row row', (r, row) ∈ l → (r, row') ∈ k → False) : ovr l (ovr k m) = ovr k (ovr l m) := by
 funext r
 by_cases hl : ∃ row, (r, row) ∈ l
 ·obtain ⟨row, hl⟩ := hl
  have hk : ∀ row', (r, row') ∉ k := fun row' hk => h r row row' hl hk
  rw [ovr_none hk]
  have aux : ∀ (l : List (Nat × ARow)) (m m' : Nat → Option ARow), (∃ row, (r, row) ∈ l) → ovr l m r = ovr l m' r := by
   intro l
   induction l with
   | nil => intro m m' h; obtain ⟨_, h⟩ := h; simp at h
   | cons p l ih =>
    intro m m' hh
    obtain ⟨q, row0⟩ := p
    simp only [ovr]
    split
    ·rfl
    ·rename_i hne
     refine ih m m' ?_
     obtain ⟨row, hh⟩ := hh
     rcases List.mem_cons.1 hh with hh | hh
     ·injection hh with e1 _; exact (hne e1).elim
     ·exact ⟨row, hh⟩
  exact aux l _ _ ⟨row, hl⟩
 ·have hl' : ∀ row, (r, row) ∉ l := fun row hh => hl ⟨row, hh⟩
  rw [ovr_none hl']
  by_cases hk : ∃ row, (r, row) ∈ k
  ·have aux : ∀ (k : List (Nat × ARow)) (m m' : Nat → Option ARow), (∃ row, (r, row) ∈ k) → ovr k m r = ovr k m' r := by
    intro k
    induction k with
    | nil => intro m m' h; obtain ⟨_, h⟩ := h; simp at h
    | cons p k ih =>
     intro m m' hh
     obtain ⟨q, row0⟩ := p
     simp only [ovr]
     split
     ·rfl
     ·rename_i hne
      refine ih m m' ?_
      obtain ⟨row, hh⟩ := hh
      rcases List.mem_cons.1 hh with hh | hh
      ·injection hh with e1 _; exact (hne e1).elim
      ·exact ⟨row, hh⟩
   exact aux k _ _ hk
  ·have hk' : ∀ row, (r, row) ∉ k := fun row hh => hk ⟨row, hh⟩
   rw [ovr_none hk', ovr_none hk', ovr_none hl']
theorem app_comm {s : AS} {oi oj : Oper} {G G' : Prop} {e e' : Eff} (hap : oi.apart ops oj = true) (hcl : clash oi oj = false) (he : EffOk s G oi e) (he' : EffOk s G' oj e') :
  (s.app oi.dst (wrapE oi G e)).app oj.dst (wrapE oj G' e') = (s.app oj.dst (wrapE oj G' e')).app oi.dst (wrapE oi G e) := by
 obtain ⟨h1, h2, h3⟩ := Oper.apart_spec hap
 obtain ⟨c1, c2, c3⟩ := clash_spec hcl
 have hmem : ovr e'.mem (ovr e.mem s.mem) = ovr e.mem (ovr e'.mem s.mem) := ovr_comm fun r row row' k k' => by
  obtain ⟨_, a⟩ := he' r row k
  obtain ⟨_, b⟩ := he r row' k'
  rcases a with ⟨a1, d, a2, _, a3⟩ | ⟨row0, a1, _, _, _, _, a6⟩ <;> rcases b with ⟨b1, d', b2, _, b3⟩ | ⟨row0', b1, _, _, _, _, b6⟩
  ·exact h2 d' b2 (by rw [a2, ← a3, ← b3])
  ·rw [a1] at b1; cases b1
  ·rw [a1] at b1; cases b1
  ·rcases a6 with a6 | a6 <;> rcases b6 with b6 | b6
   ·have := c1 b6; rw [touches_store a6] at this; cases this
   ·have := c2 a6; rw [touches_append b6.1] at this; cases this
   ·have := c1 b6; rw [touches_append a6.1] at this; cases this
   ·have := c3 b6.1; rw [a6.1] at this; cases this
 simp only [AS.app, wrapE_mem, hmem, AS.mk.injEq, and_true]
 cases hi : oi.dst with
 | none => cases oj.dst <;> rfl
 | some d =>
  cases hj : oj.dst with
  | none => rfl
  | some d' =>
   have hne : d ≠ d' := fun e => h2 d hi (by rw [hj, e])
   simp only
   exact List.set_comm _ _ hne
theorem aYield.put {s : AS} {oi oj : Oper} {G G' : Prop} {e e' : Eff} (hap : oi.apart ops oj = true) (hcl : clash oi oj = false) (hy : aYield P ops oi G e s) (hy' : aYield P ops oj G' e' s) :
  aYield P ops oi G e (s.app oj.dst (wrapE oj G' e')) := by
 obtain ⟨h1, h2, h3⟩ := Oper.apart_spec hap
 have hap' : oj.apart ops oi = true := by
  simp only [Oper.apart, Bool.and_eq_true]
  refine ⟨?_, ?_⟩
  ·cases hd : oj.dst with
   | none => rfl
   | some d =>
    simp only [Bool.and_eq_true]
    refine ⟨by simpa using h3 d hd, ?_⟩
    cases hi : oi.dst with
    | none => rfl
    | some d' =>
     have : d' ≠ d := fun e => h2 d' hi (by rw [hd, e])
     simpa using this
  ·cases hd : oi.dst with
   | none => rfl
   | some d => simpa using h1 d hd
 have hcl' : clash oj oi = false := by
  unfold clash at hcl ⊢
  rw [← hcl]
  cases isStore oi <;> cases isStore oj <;> cases touches oi <;> cases touches oj <;> cases isAppend oi <;> cases isAppend oj <;> rfl
 refine ⟨by rw [gcond_app h3]; exact hy.1, ?_⟩
 exact acore_fits (fits_fwd (G := G') hap' hcl' (acore_effOk hy'.2)) hy.2
theorem aOp_put {s : AS} {oi oj : Oper} {j : Nat} {G : Prop} {e : Eff} {K : AS → Prop} (hj : ops[j]? = some oj) (hs : s.Wf) (hap : oi.apart ops oj = true) (hcl : clash oi oj = false)
  (hy : aYield P ops oi G e s) (h : aOp P ops j K (s.app oi.dst (wrapE oi G e))) :
  aOp P ops j (fun s' => s'.Wf ∧ aYield P ops oi G e s' ∧ K (s'.app oi.dst (wrapE oi G e))) s := by
 obtain ⟨h1, h2, h3⟩ := Oper.apart_spec hap
 unfold aOp at *
 simp only [hj] at *
 obtain ⟨G', e', ⟨g1, g2⟩, hk⟩ := h
 have hy' : aYield P ops oj G' e' s := ⟨by rw [← gcond_app h1]; exact g1, acore_fits (fits_back hs hap hcl (acore_effOk hy.2)) g2⟩
 refine ⟨G', e', hy', hs.app hy'.2, hy.put hap hcl hy', ?_⟩
 rw [← app_comm hap hcl (acore_effOk hy.2) (acore_effOk hy'.2)]
 exact hk
theorem aOp_mono {i : Nat} {s : AS} {K K' : AS → Prop} (h : ∀ s, K s → K' s) (hh : aOp P ops i K s) : aOp P ops i K' s := by
 unfold aOp at *
 split
 ·exact h _ (by simpa [*] using hh)
 ·rename_i o ho
  simp only [ho] at hh
  exact aStep_mono h hh
def aAny (P : Program) (md : Region.Mode) (ops : Array Oper) (Q : AS → Prop) : Nat → Array Bool → AS → Prop
 | 0, listed, s => Region.ready md ops listed = [] ∧ Q s
 | fuel + 1, listed, s =>
  (Region.ready md ops listed = [] → Q s) ∧
  ∀ i ∈ Region.ready md ops listed, aOp P ops i (aAny P md ops Q fuel (listed.setIfInBounds i true)) s
theorem aYield.aOp {i : Nat} {oi : Oper} {G : Prop} {e : Eff} {s : AS} {K : AS → Prop} (hi : ops[i]? = some oi) (hy : aYield P ops oi G e s) (h : K (s.app oi.dst (wrapE oi G e))) : aOp P ops i K s := by
 unfold Go.Proofs.YtjkfadaedgidpaaGreat.aOp
 simp only [hi]
 exact ⟨G, e, hy, h⟩
theorem aAny_first {Q : AS → Prop} {i : Nat} {oi : Oper} {G : Prop} {e : Eff} (hi : ops[i]? = some oi) :
  ∀ (fuel : Nat) (listed : Array Bool) (s : AS), s.Wf →
   (∀ j oj, ops[j]? = some oj → j ≠ i → listed.getD j true = false → (∀ e ∈ oj.after, Region.binds md e = true → e.on ≠ i) → oi.apart ops oj = true ∧ clash oi oj = false) →
   i ∈ Region.ready md ops listed → aYield P ops oi G e s →
   aAny P md ops Q fuel (listed.setIfInBounds i true) (s.app oi.dst (wrapE oi G e)) → aAny P md ops Q (fuel + 1) listed s := by
 intro fuel
 induction fuel with
 | zero =>
  intro listed s _ _ hr hy H
  refine ⟨fun h => (by rw [h] at hr; cases hr), fun j hj => ?_⟩
  by_cases hji : j = i
  ·subst hji; exact hy.aOp hi H
  ·have := ready_mono hj hji
   rw [H.1] at this
   cases this
 | succ fuel ih =>
  intro listed s hs hfree hr hy H
  refine ⟨fun h => (by rw [h] at hr; cases hr), fun j hj => ?_⟩
  by_cases hji : j = i
  ·subst hji; exact hy.aOp hi H
  ·have h1 := H.2 j (ready_mono hj hji)
   obtain ⟨hjun, oj, hoj, hall⟩ := mem_ready.1 hj
   have hnot : ∀ e ∈ oj.after, Region.binds md e = true → e.on ≠ i := fun e he hb heq => by
    have h1 := hall e he hb
    have h0 := (mem_ready.1 hr).1
    rw [heq] at h1
    rcases Nat.lt_or_ge i listed.size with h' | h'
    ·simp [h'] at h0 h1; rw [h0] at h1; cases h1
    ·simp [Array.getElem?_eq_none h'] at h1
   obtain ⟨hap, hcl⟩ := hfree j oj hoj hji hjun hnot
   have h2 := aOp_put hoj hs hap hcl hy h1
   have hfree' : ∀ k ok, ops[k]? = some ok → k ≠ i → (listed.setIfInBounds j true).getD k true = false →
     (∀ e ∈ ok.after, Region.binds md e = true → e.on ≠ i) → oi.apart ops ok = true ∧ clash oi ok = false := fun k ok hk hki hun hno => by
    refine hfree k ok hk hki ?_ hno
    by_cases hjk : j = k
    ·subst hjk; exact hjun
    ·rw [getD_set_ne true hjk] at hun; exact hun
   refine aOp_mono (fun s' h3 => ih (listed.setIfInBounds j true) s' h3.1 hfree' (ready_mono hr (Ne.symm hji)) h3.2.1 ?_) h2
   rw [Array.setIfInBounds_comm _ _ hji]
   exact h3.2.2
def freeC (md : Region.Mode) (ops : Array Oper) (listed : Array Bool) (i : Nat) : Bool :=
 match ops[i]? with
 | none => false
 | some oi => (List.range ops.size).all fun j => j == i || listed.getD j true || match ops[j]? with
   | some oj => oj.after.any (fun e => Region.binds md e && e.on == i) || (oi.apart ops oj && !clash oi oj)
   | none => true
theorem freeC_spec {i : Nat} {oi : Oper} {listed : Array Bool} (hi : ops[i]? = some oi) (h : freeC md ops listed i = true) (j : Nat) (oj : Oper)
  (hj : ops[j]? = some oj) (hne : j ≠ i) (hun : listed.getD j true = false) (hno : ∀ e ∈ oj.after, Region.binds md e = true → e.on ≠ i) :
  oi.apart ops oj = true ∧ clash oi oj = false := by
 simp only [freeC, hi, List.all_eq_true, List.mem_range] at h
 have h1 := h j (Array.getElem?_eq_some_iff.1 hj).1
 simp only [hj, Bool.or_eq_true, beq_iff_eq, hne, false_or, hun, Bool.false_eq_true] at h1
 rcases h1 with h1 | h1
 ·obtain ⟨e, he, hb⟩ := Array.any_eq_true'.1 h1
  simp only [Bool.and_eq_true, beq_iff_eq] at hb
  exact absurd hb.2 (hno e he hb.1)
 ·simpa using h1
def lexFromC (md : Region.Mode) (ops : Array Oper) : Nat → Nat → Array Bool → Bool
 | 0, _, listed => (Region.ready md ops listed).isEmpty
 | fuel + 1, k, listed => (Region.ready md ops listed).contains k && freeC md ops listed k && lexFromC md ops fuel (k + 1) (listed.setIfInBounds k true)
def lexC (md : Region.Mode) (ops : Array Oper) : Bool := lexFromC md ops ops.size 0 (Array.replicate ops.size false)
theorem aAny_lex {Q : AS → Prop} : ∀ (l : List Oper) (k : Nat) (listed : Array Bool) (s : AS), s.Wf → (∀ j, l[j]? = ops[k + j]?) →
  lexFromC md ops l.length k listed = true → aLex P ops Q l s → aAny P md ops Q l.length listed s
 | [], _, _, _, _, _, hB, h => ⟨by simpa [lexFromC] using hB, h⟩
 | o :: l, k, listed, s, hs, hl, hB, h => by
  have h0 : ops[k]? = some o := by simpa using (hl 0).symm
  simp only [List.length_cons, lexFromC, Bool.and_eq_true] at hB
  obtain ⟨⟨hr, hf⟩, hB'⟩ := hB
  obtain ⟨G, e, hy, hK⟩ := h
  exact aAny_first h0 l.length listed s hs (freeC_spec h0 hf) (by simpa using hr) hy
   (aAny_lex l (k + 1) _ _ (hs.app hy.2) (fun j => by have := hl (j + 1); simpa [Nat.add_assoc, Nat.add_comm 1 j] using this) hB' hK)
theorem aAny_of_lex {Q : AS → Prop} {s : AS} (hs : s.Wf) (hB : lexC md ops = true) (h : aLex P ops Q ops.toList s) : aAny P md ops Q ops.size (Array.replicate ops.size false) s := by
 have := aAny_lex (P := P) (md := md) ops.toList 0 (Array.replicate ops.size false) s hs (by simp) (by simpa [lexC] using hB) h
 simpa using this
end
end Go.Proofs.YtjkfadaedgidpaaGreat
