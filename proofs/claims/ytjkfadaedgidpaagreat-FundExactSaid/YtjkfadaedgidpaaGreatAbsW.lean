/- Regions whose orders differ: a tree of orders. No condition. -/
import Derived.Test.YtjkfadaedgidpaaGreatAbsV
namespace Go.Proofs.YtjkfadaedgidpaaGreat
open Go.RowKit
set_option linter.unusedVariables false
set_option linter.unusedSimpArgs false
inductive OT where
 | nil
 | one (k : Nat) (t : OT)
 | two (a b : OT)
def OT.alts : OT → List (Nat × OT)
 | .nil => []
 | .one k t => [(k, t)]
 | .two a b => a.alts ++ b.alts
def aTree (P : Program) (ops : Array Oper) (Q : AS → Prop) : OT → AS → Prop
 | .nil, s => Q s
 | .one k t, s => ∃ o, ops[k]? = some o ∧ aStep P ops o (aTree P ops Q t) s
 | .two a b, s => aTree P ops Q a s ∧ aTree P ops Q b s
def treeOk (md : Region.Mode) (ops : Array Oper) : Nat → Array Bool → OT → Bool
 | 0, listed, t => match t with | .nil => (Region.ready md ops listed).isEmpty | _ => false
 | n + 1, listed, t =>
  match t with
  | .nil => false
  | .one k t => (Region.ready md ops listed).contains k && (freeC md ops listed k || (Region.ready md ops listed).all (· == k)) && treeOk md ops n (listed.setIfInBounds k true) t
  | .two a b => !(Region.ready md ops listed).isEmpty && (Region.ready md ops listed).all fun k => (OT.two a b).alts.any fun p => p.1 == k && treeOk md ops n (listed.setIfInBounds k true) p.2
theorem aTree_alt {P : Program} {ops : Array Oper} {Q : AS → Prop} {s : AS} : ∀ (t : OT) (p : Nat × OT), p ∈ t.alts → aTree P ops Q t s → ∃ o, ops[p.1]? = some o ∧ aStep P ops o (aTree P ops Q p.2) s
 | .nil, p, hp, _ => by simp [OT.alts] at hp
 | .one k t, p, hp, h => by
  simp [OT.alts] at hp
  subst hp
  exact h
 | .two a b, p, hp, h => by
  simp only [OT.alts, List.mem_append] at hp
  rcases hp with hp | hp
  ·exact aTree_alt a p hp h.1
  ·exact aTree_alt b p hp h.2
theorem aAny_tree {P : Program} {md : Region.Mode} {ops : Array Oper} {Q : AS → Prop} : ∀ (n : Nat) (listed : Array Bool) (t : OT) (s : AS), s.Wf → treeOk md ops n listed t = true → aTree P ops Q t s → aAny P md ops Q n listed s
 | 0, listed, t, s, hs, hB, h => by
  cases t with
  | nil => exact ⟨by simpa [treeOk] using hB, h⟩
  | _ => simp [treeOk] at hB
 | n + 1, listed, t, s, hs, hB, h => by
  cases t with
  | nil => simp [treeOk] at hB
  | one k t =>
   simp only [treeOk, Bool.and_eq_true, Bool.or_eq_true] at hB
   obtain ⟨⟨hr, hf⟩, hB'⟩ := hB
   obtain ⟨o, ho, G, e, hy, hK⟩ := h
   have hrest := aAny_tree n (listed.setIfInBounds k true) t _ (hs.app hy.2) hB' hK
   rcases hf with hf | hf
   ·exact aAny_first ho n listed s hs (freeC_spec ho hf) (by simpa using hr) hy hrest
   ·refine ⟨fun h0 => by rw [h0] at hr; simp at hr, fun j hj => ?_⟩
    have hjk : j = k := by simpa using List.all_eq_true.1 hf j hj
    subst hjk
    exact hy.aOp ho hrest
  | two a b =>
   simp only [treeOk, Bool.and_eq_true] at hB
   obtain ⟨hne, hB⟩ := hB
   refine ⟨fun h0 => by rw [h0] at hne; simp at hne, fun j hj => ?_⟩
   obtain ⟨p, hp, hq⟩ := List.any_eq_true.1 (List.all_eq_true.1 hB j hj)
   simp only [Bool.and_eq_true, beq_iff_eq] at hq
   obtain ⟨rfl, hq⟩ := hq
   obtain ⟨o, ho, G, e, hy, hK⟩ := aTree_alt (.two a b) p hp h
   exact hy.aOp ho (aAny_tree n _ p.2 _ (hs.app hy.2) hq hK)
def evT (P : Program) (ds : List (Option Tmp)) (l : List Oper) (Q : AS → Prop) : OT → AS → Prop
 | .nil, s => Q s
 | .one k t, s =>
  match l[k]? with
  | none => False
  | some o =>
   match o.guard with
   | none => evS P (evT P ds l Q t) s o.dst none o.type o.op
   | some (j, want) => evG P (evT P ds l Q t) s o.dst o.op o.type want (nthD ds j)
 | .two a b, s => evT P ds l Q a s ∧ evT P ds l Q b s
theorem aLex_one {P : Program} {ops : Array Oper} {C : AS → Prop} {o : Oper} {s : AS} {ds : List (Option Tmp)} (hds : ops.toList.map (·.dst) = ds)
  (h : match o.guard with | none => evS P C s o.dst none o.type o.op | some (j, want) => evG P C s o.dst o.op o.type want (nthD ds j)) : aStep P ops o C s :=
 evL_aLex hds [o] s (Q := C) h
theorem evT_aTree {P : Program} {ops : Array Oper} {ds : List (Option Tmp)} {Q : AS → Prop} (hds : ops.toList.map (·.dst) = ds) : ∀ (t : OT) (s : AS), evT P ds ops.toList Q t s → aTree P ops Q t s
 | .nil, s, h => h
 | .one k t, s, h => by
  unfold evT at h
  split at h
  ·exact h.elim
  ·rename_i o ho
   exact ⟨o, by rw [← Array.getElem?_toList]; exact ho, aStep_mono (fun s h => evT_aTree hds t s h) (aLex_one hds h)⟩
 | .two a b, s, h => ⟨evT_aTree hds a s h.1, evT_aTree hds b s h.2⟩
theorem awp_tree {P : Program} {Q : Exit → AS → Prop} {s : AS} {id : Nat} {l : List Oper} (hm : P.follows .mixedOrders = true) (ds : List (Option Tmp)) (hds : l.map (·.dst) = ds) (t : OT)
  (ht : treeOk .any l.toArray l.toArray.size (Array.replicate l.toArray.size false) t = true) (h : evT P ds l (Q .normal) t s) : AWp P (.region id l.toArray true) Q s := fun B w0 gh a w hS => by
 refine wp_region_any hm ?_
 have hS' : Sim B w0 gh s a { w with drawn := w.drawn + 1 } := by
  have hb : Out B.own w { w with drawn := w.drawn + 1 } := ⟨rfl, rfl, rfl, Nat.le_refl _, fun _ _ _ => rfl⟩
  refine ⟨hS.defers, Rt.keep (G := gh) (G' := gh) (w := w) (w' := { w with drawn := w.drawn + 1 }) (fun _ h => h) (fun _ _ => rfl) _ _ (fun _ _ => ⟨rfl, rfl, rfl⟩) hS.tm, hS.below.trans hb, hS.base, hS.imm, fun r row hr hg => ?_, hS.apart, hS.wft, hS.pins, hS.wfm⟩
  exact (hS.rows r row hr hg).keep (fun _ h => h) (fun _ _ => rfl) ⟨rfl, rfl, rfl⟩ (fun _ _ _ _ => ⟨rfl, rfl, rfl⟩) (fun _ _ => rfl) (fun _ _ h => h)
 exact sound_any (K := Q .normal) (fun s gh a w hk hS => ⟨s, gh, hk, hS⟩) _ _ s gh a _ hS' (aAny_tree _ _ t s ⟨hS.wft, hS.wfm⟩ ht (evT_aTree (by simpa using hds) t s (by simpa using h)))
section
variable {P : Program} {ds : List (Option Tmp)} {l : List Oper} {Q : AS → Prop} {s : AS}
end
end Go.Proofs.YtjkfadaedgidpaaGreat
