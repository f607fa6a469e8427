/- Each operation does to frame and world what it does to the abstract state: stores, structs and slices that are written out. No condition. -/
import Derived.Test.YtjkfadaedgidpaaGreatAbsI
namespace Go.Proofs.YtjkfadaedgidpaaGreat
open Go.RowKit
set_option linter.unusedVariables false
set_option linter.unusedSimpArgs false
def spliceV (cs : List Value) (off : Nat) (new : List Value) : List Value := cs.take off ++ new ++ cs.drop (off + new.length)
theorem spliceV_length {cs new : List Value} {off : Nat} (h : off + new.length ≤ cs.length) : (spliceV cs off new).length = cs.length := by
 simp only [spliceV, List.length_append, List.length_take, List.length_drop]; omega
theorem foldl_set (off : Nat) : ∀ (vs : List Value) (k : Nat) (cs : Array Value), off + k + vs.length ≤ cs.size →
  (vs.zipIdx k).foldl (fun cs x => cs.setIfInBounds (off + x.2) x.1) cs = (spliceV cs.toList (off + k) vs).toArray
 | [], k, cs, h => by simp [spliceV]
 | v :: vs, k, cs, h => by
  simp only [List.zipIdx_cons, List.foldl_cons]
  rw [foldl_set off vs (k + 1) _ (by simp at h ⊢; omega)]
  congr 1
  unfold spliceV
  rw [Array.toList_setIfInBounds]
  have := list_seg_step cs.toList (off + k) v vs (by simp at h ⊢; omega)
  simpa [Nat.add_assoc] using this
theorem fill_eq (place : Nat → Option (Nat × Nat)) (g : Nat → Nat) : ∀ (ps : List (Nat × Value)) (cs : Array Value), (∀ p ∈ ps, place p.1 = some (g p.1, p.2.cells.size) ∧ g p.1 + p.2.cells.size ≤ cs.size) →
  Instr.fill place cs ps = some (ps.foldl (fun l p => spliceV l (g p.1) p.2.cells.toList) cs.toList).toArray
 | [], cs, _ => by simp [Instr.fill]
 | (i, v) :: ps, cs, h => by
  obtain ⟨h1, h2⟩ := h (i, v) (by simp)
  simp only at h1 h2
  have hsz : (v.cells.zipIdx.foldl (fun cs x => cs.setIfInBounds (g i + x.2) x.1) cs) = (spliceV cs.toList (g i) v.cells.toList).toArray := by
   have := foldl_set (g i) v.cells.toList 0 cs (by simpa using h2)
   rw [Nat.add_zero] at this
   rw [← this, ← Array.toList_zipIdx, Array.foldl_toList]
  have hlen : (spliceV cs.toList (g i) v.cells.toList).length = cs.size := by rw [spliceV_length (by simpa using h2)]; simp
  simp only [Instr.fill, h1]
  rw [if_neg (by simp; omega)]
  have ih := fill_eq place g ps (spliceV cs.toList (g i) v.cells.toList).toArray (fun p hp => by
   obtain ⟨k1, k2⟩ := h p (by simp [hp])
   exact ⟨k1, by simpa [hlen] using k2⟩)
  simp only [List.foldl_cons]
  rw [← ih]
  congr 1
section
variable {P : Program} {B : Env} {w0 w w' : World} {gh gh' : YtjkfadaedgidpaaGreat.Gh} {s : AS} {a : Act} {o : Oper} {e : Eff} {G : Prop} {Q : Exit → Act → World → Prop}
theorem Rs.splice {l new : List AV} {vs us : List Value} (off : Nat) (h : Rs gh w l vs) (k : Rs gh w new us) : Rs gh w (Go.Proofs.YtjkfadaedgidpaaGreat.splice l off new) (spliceV vs off us) := by
 unfold Go.Proofs.YtjkfadaedgidpaaGreat.splice spliceV
 rw [k.length]
 exact ((h.take off).append k).append (h.drop _)
theorem foldl_splice_R (h : Sim B w0 gh s a w) (g : Nat → Nat) : ∀ {ps : List (Nat × Operand)} {l : List AV} {vs : List Value}, (∀ p ∈ ps, s.ok p.2 ∧ cell1s (s.at p.2).cellsOf) → Rs gh w l vs →
  Rs gh w (ps.foldl (fun l p => Go.Proofs.YtjkfadaedgidpaaGreat.splice l (g p.1) (s.at p.2).cellsOf) l) ((ps.map fun p => (p.1, a.eval p.2)).foldl (fun l p => spliceV l (g p.1) p.2.cells.toList) vs)
 | [], l, vs, _, hr => by simpa using hr
 | p :: ps, l, vs, hp, hr => by
  obtain ⟨k1, k2⟩ := hp p (by simp)
  simp only [List.foldl_cons, List.map_cons]
  exact foldl_splice_R h g (fun q hq => hp q (by simp [hq])) (hr.splice _ ((h.at_ k1).cellsOf k2))
theorem mapM_fields {fs : List Field} (hf : ∀ f ∈ fs, (P.info? f.type).isSome = true) :
  (fs.mapM (fun f => do pure (f.offset, ← sizeOf f.type)) : Sem (List (Nat × Nat))).run P w = .ok (fs.map fun f => (f.offset, szT P f.type)) w := by
 induction fs with
 | nil => rfl
 | cons f fs ih =>
  obtain ⟨i, hi⟩ := Option.isSome_iff_exists.1 (hf f (by simp))
  have ih := ih (fun g hg => hf g (by simp [hg]))
  simp [List.mapM_cons, sizeOf, typeInfo, hi, szT] at ih ⊢
  simp [ih]
theorem sound_build {t : TypeId} {parts : Array (Nat × Operand)} (hop : o.op = .build t parts) (h : Sim B w0 gh s a w) (hc : acore P s G o e) (hG : G) :
  o.wp P a w (fun a' w' => ∃ gh', Sim B w0 gh' (s.app o.dst (wrapE o G e)) a' w') Q := by
 have hc' := hc
 unfold acore at hc'
 simp only [hop] at hc'
 obtain ⟨z, hz, h2⟩ := hc'
 obtain ⟨i, v, i1, i2, i3⟩ := zeroT_spec hz
 have hpl : (parts.map fun x => (x.1, a.eval x.2)).toList = parts.toList.map fun p => (p.1, a.eval p.2) := by simp
 split at h2
 ·rename_i fs hu
  obtain ⟨hfs, k1, k2, k3, k4⟩ := h2
  have k1 := k1 hG
  have hr : Rs gh w (z.map fun u => AV.d (.v u)) z := Rs.of_values k3
  have hR := foldl_splice_R h (fun i => ((fs[i]?).map (·.offset)).getD 0) (ps := parts.toList) (fun p hp => ⟨(k1 p hp).1, k2 p hp⟩) hr
  refine sound_still h hc hG k4 (u := .agg (((parts.toList.map fun p => (p.1, a.eval p.2)).foldl (fun l p => spliceV l (((fs[p.1]?).map (·.offset)).getD 0) p.2.cells.toList) z).toArray)) ?_ (by simp only [R]; exact ⟨_, rfl, hR⟩)
  simp only [execOp, hop]
  refine run_value ?_
  have hm : (fs.mapM (fun f => do pure (f.offset, ← sizeOf f.type)) : Sem (Array (Nat × Nat))).run P w = .ok (fs.map fun f => (f.offset, szT P f.type)) w := by
   rw [Array.mapM_eq_mapM_toList]
   have := mapM_fields (P := P) (w := w) (fs := fs.toList) (fun f hf => hfs f (by simpa using hf))
   simp only [Sem.run_map, this, Result.andThen_ok, ← Array.toList_map, Array.toArray_toList]
  have hfill := fill_eq (fun i => (fs.map fun f => (f.offset, szT P f.type))[i]?) (fun i => ((fs[i]?).map (·.offset)).getD 0) (parts.toList.map fun p => (p.1, a.eval p.2)) z.toArray (fun p hp => by
   obtain ⟨q, hq, rfl⟩ := List.mem_map.1 hp
   obtain ⟨l1, f, l2, l3, l4⟩ := k1 q hq
   have hlen := ((h.at_ l1).cellsOf (k2 q hq)).length
   have hsz : (a.eval q.2).cells.size = szT P f.type := by rw [← l3, hlen]; simp
   simp only [Array.getElem?_map, l2, Option.map_some, Option.getD_some, hsz]
   exact ⟨trivial, by simpa using l4⟩)
  simp only [Instr.build, Sem.run_bind, zeroValue, typeInfo, run_program, Result.andThen_ok, i1, i2, Sem.run_pure, run_underlying hu, hm]
  have hcz : v.cells = z.toArray := by rw [← i3]
  rw [hcz, hpl, hfill]
  simp
 ·rename_i n et hu
  obtain ⟨hie, k1, k2, k3, k4⟩ := h2
  have k1 := k1 hG
  obtain ⟨ie, hie⟩ := Option.isSome_iff_exists.1 hie
  have hr : Rs gh w (z.map fun u => AV.d (.v u)) z := Rs.of_values k3
  have hR := foldl_splice_R h (fun i => i * szT P et) (ps := parts.toList) (fun p hp => ⟨(k1 p hp).1, k2 p hp⟩) hr
  refine sound_still h hc hG k4 (u := .agg (((parts.toList.map fun p => (p.1, a.eval p.2)).foldl (fun l p => spliceV l (p.1 * szT P et) p.2.cells.toList) z).toArray)) ?_ (by simp only [R]; exact ⟨_, rfl, hR⟩)
  simp only [execOp, hop]
  refine run_value ?_
  have hse : ie.size = szT P et := by simp [szT, hie]
  have hfill := fill_eq (fun i => some (i * szT P et, szT P et)) (fun i => i * szT P et) (parts.toList.map fun p => (p.1, a.eval p.2)) z.toArray (fun p hp => by
   obtain ⟨q, hq, rfl⟩ := List.mem_map.1 hp
   obtain ⟨l1, l3, l4⟩ := k1 q hq
   have hlen := ((h.at_ l1).cellsOf (k2 q hq)).length
   have hsz : (a.eval q.2).cells.size = szT P et := by rw [← l3, hlen]; simp
   simp only [hsz]
   exact ⟨trivial, by simpa using l4⟩)
  simp only [Instr.build, Sem.run_bind, zeroValue, typeInfo, run_program, Result.andThen_ok, i1, i2, Sem.run_pure, run_underlying hu, sizeOf, hie, hse]
  have hcz : v.cells = z.toArray := by rw [← i3]
  rw [hcz, hpl, hfill]
  simp
 ·exact h2.elim
end
end Go.Proofs.YtjkfadaedgidpaaGreat
