/- Operations without memory: structs that are built, closures. No condition. -/
import Derived.Test.YteanccnggaakeaaGreatCmG
namespace Go.Proofs.YteanccnggaakeaaGreat
open Go.RowKit
set_option linter.unusedVariables false
set_option linter.unusedSimpArgs false

def zeroT (P : Program) (t : TypeId) : Option (List Value) := ((P.info? t).bind (·.zero)).map (·.cells.toList)
noncomputable def c1o (l : List CV) (x : Option (List CV)) : Option (List CV) := List.rec x (fun c _ ih => Bool.rec none ih c.c1) l
theorem c1o_t {x : Option (List CV)} {y : List CV} : ∀ {l : List CV}, c1o l x = some y → (∀ c, c ∈ l → c.c1 = true) ∧ x = some y
  | [], h => ⟨by simp, h⟩
  | c :: l, h => by
    have h' : (Bool.rec none (c1o l x) c.c1 : Option (List CV)) = some y := h
    cases hc : c.c1 with
    | false => rw [hc] at h'; cases h'
    | true =>
      rw [hc] at h'
      obtain ⟨h1, h2⟩ := c1o_t (l := l) h'
      exact ⟨fun d hd => by
        rcases List.mem_cons.1 hd with rfl | hd
        · exact hc
        · exact h1 d hd, h2⟩
/- The cells of a type's zero. -/
noncomputable def zc (P : Program) (t : TypeId) : Option (List CV) := Option.rec none (fun z => fL (mapL ofU z) fun l => c1o l (some l)) (zeroT P t)
theorem zc_spec {P : Program} {t : TypeId} {l : List CV} (h : zc P t = some l) : ∃ i v, P.info? t = some i ∧ i.zero = some v ∧ l.length = v.cells.size ∧ ∀ G, Rs G l v.cells.toList := by
  have h' : (Option.rec none (fun z => fL (mapL ofU z) fun l => c1o l (some l)) (zeroT P t) : Option (List CV)) = some l := h
  cases hz : zeroT P t with
  | none => rw [hz] at h'; cases h'
  | some z =>
    rw [hz] at h'
    have h' : (fL (mapL ofU z) fun l => c1o l (some l)) = some l := h'
    rw [fL_eq, mapL_eq] at h'
    obtain ⟨h1, h2⟩ := c1o_t h'
    injection h2 with h2
    subst h2
    simp only [zeroT, Option.map_eq_some_iff, Option.bind_eq_some_iff] at hz
    obtain ⟨v, ⟨i, k1, k2⟩, k3⟩ := hz
    subst k3
    exact ⟨i, v, k1, k2, by simp, fun G => Rs.ofUs h1⟩
/- Where the parts of a type lie. -/
def plT (P : Program) (t : TypeId) : Option (List (Nat × Nat)) := match P.underlying t with
  | some (.struct fs) => if fs.toList.all (fun f => (P.info? f.type).isSome) = true then some (fs.toList.map fun f => (f.offset, szT P f.type)) else none
  | some (.array n e) => if (P.info? e).isSome = true then some ((List.range n).map fun i => (i * szT P e, szT P e)) else none
  | _ => none

def spliceV (cs : List Value) (off : Nat) (new : List Value) : List Value := cs.take off ++ new ++ cs.drop (off + new.length)
theorem spliceV_length {cs new : List Value} {off : Nat} (h : off + new.length ≤ cs.length) : (spliceV cs off new).length = cs.length := by
  simp only [spliceV, List.length_append, List.length_take, List.length_drop]; omega
theorem foldl_set (off : Nat) : ∀ (vs : List Value) (k : Nat) (cs : Array Value), off + k + vs.length ≤ cs.size →
    (vs.zipIdx k).foldl (fun cs x => cs.setIfInBounds (off + x.2) x.1) cs = (spliceV cs.toList (off + k) vs).toArray
  | [], k, cs, h => by simp [spliceV]
  | v :: vs, k, cs, h => by
    simp only [List.zipIdx_cons, List.foldl_cons]
    rw [foldl_set off vs (k + 1) _ (by simp at h ⊢; omega)]
    congr 1
    unfold spliceV
    rw [Array.toList_setIfInBounds]
    have := list_seg_step cs.toList (off + k) v vs (by simp at h ⊢; omega)
    simpa [Nat.add_assoc] using this
theorem fill_eq (place : Nat → Option (Nat × Nat)) (g : Nat → Nat) : ∀ (ps : List (Nat × Value)) (cs : Array Value), (∀ p ∈ ps, place p.1 = some (g p.1, p.2.cells.size) ∧ g p.1 + p.2.cells.size ≤ cs.size) →
    Instr.fill place cs ps = some (ps.foldl (fun l p => spliceV l (g p.1) p.2.cells.toList) cs.toList).toArray
  | [], cs, _ => by simp [Instr.fill]
  | (i, v) :: ps, cs, h => by
    obtain ⟨h1, h2⟩ := h (i, v) (by simp)
    simp only at h1 h2
    have hsz : (v.cells.zipIdx.foldl (fun cs x => cs.setIfInBounds (g i + x.2) x.1) cs) = (spliceV cs.toList (g i) v.cells.toList).toArray := by
      have := foldl_set (g i) v.cells.toList 0 cs (by simpa using h2)
      rw [Nat.add_zero] at this
      rw [← this, ← Array.toList_zipIdx, Array.foldl_toList]
    have hlen : (spliceV cs.toList (g i) v.cells.toList).length = cs.size := by rw [spliceV_length (by simpa using h2)]; simp
    simp only [Instr.fill, h1]
    rw [if_neg (by simp; omega)]
    have ih := fill_eq place g ps (spliceV cs.toList (g i) v.cells.toList).toArray (fun p hp => by
      obtain ⟨k1, k2⟩ := h p (by simp [hp])
      exact ⟨k1, by simpa [hlen] using k2⟩)
    simp only [List.foldl_cons]
    rw [← ih]
    congr 1
theorem Rs.splice {G : Gh} {l new : List CV} {vs us : List Value} (off : Nat) (h : Rs G l vs) (k : Rs G new us) : Rs G (Go.Proofs.YteanccnggaakeaaGreat.splice l off new) (spliceV vs off us) := by
  unfold Go.Proofs.YteanccnggaakeaaGreat.splice spliceV
  rw [k.length]
  exact ((h.take off).append k).append (h.drop _)

section
variable {P : Program} {tm : Tr CV}
theorem mapM_fields {w : World} {fs : List Field} (hf : ∀ f ∈ fs, (P.info? f.type).isSome = true) :
    (fs.mapM (fun f => do pure (f.offset, ← sizeOf f.type)) : Sem (List (Nat × Nat))).run P w = .ok (fs.map fun f => (f.offset, szT P f.type)) w := by
  induction fs with
  | nil => rfl
  | cons f fs ih =>
    obtain ⟨i, hi⟩ := Option.isSome_iff_exists.1 (hf f (by simp))
    have ih := ih (fun g hg => hf g (by simp [hg]))
    simp [List.mapM_cons, sizeOf, typeInfo, hi, szT] at ih ⊢
    simp [ih]
noncomputable def xFill (tm : Tr CV) (pl : List (Nat × Nat)) (n : Nat) (parts : List (Nat × Operand)) : List CV → (List CV → Bool) → Bool :=
  List.rec (fun z K => K z) (fun p _ ih z K => Prod.rec (fun k x => evK tm x (ccK fun l => atL pl (fun os => Prod.rec (fun off sz => tst (Nat.beq (lenL l) sz) (tst (Nat.ble (Nat.add off sz) n) (fL (putL l z off) fun z => ih z K))) os) k)) p) parts
def offL (pl : List (Nat × Nat)) (k : Nat) : Nat := ((pl[k]?).map (·.1)).getD 0
theorem xFill_t {pl : List (Nat × Nat)} {n : Nat} {K : List CV → Bool} : ∀ {parts : List (Nat × Operand)} {z : List CV}, xFill tm pl n parts z K = true → ∃ z', K z' = true ∧ ∀ (G : Gh) (a : Act) (vz : List Value), (∀ p ∈ parts, R G (evv tm.get p.2) (a.eval p.2)) → Rs G z vz →
    Rs G z' ((parts.map fun p => (p.1, a.eval p.2)).foldl (fun l p => spliceV l (offL pl p.1) p.2.cells.toList) vz) ∧ ∀ p ∈ parts.map (fun p => (p.1, a.eval p.2)), pl[p.1]? = some (offL pl p.1, p.2.cells.size) ∧ offL pl p.1 + p.2.cells.size ≤ n
  | [], z, h => ⟨z, h, fun G a vz _ hr => ⟨hr, by simp⟩⟩
  | (k, x) :: parts, z, h => by
    have h' : evK tm x (ccK fun l => atL pl (fun os => Prod.rec (fun off sz => tst (Nat.beq (lenL l) sz) (tst (Nat.ble (Nat.add off sz) n) (fL (putL l z off) fun z => xFill tm pl n parts z K))) os) k) = true := h
    rw [evK_eq] at h'
    obtain ⟨l, h1, h2⟩ := ccK_t h'
    obtain ⟨⟨off, sz⟩, h3, h4⟩ := atL_t h1
    obtain ⟨h5, h6⟩ := tst_t (show tst (Nat.beq (lenL l) sz) (tst (Nat.ble (Nat.add off sz) n) (fL (putL l z off) fun z => xFill tm pl n parts z K)) = true from h4)
    obtain ⟨h7, h8⟩ := tst_t h6
    rw [fL_eq, putL_eq] at h8
    obtain ⟨z', k1, k2⟩ := xFill_t h8
    have hl : l.length = sz := by rw [← lenL_eq]; exact Nat.eq_of_beq_eq_true h5
    have ho : offL pl k = off := by simp [offL, h3]
    refine ⟨z', k1, fun G a vz hev hr => ?_⟩
    have hx := h2 G _ (hev (k, x) (by simp))
    have hxl := hx.length
    simp only [Array.length_toList] at hxl
    obtain ⟨g1, g2⟩ := k2 G a (spliceV vz off (a.eval x).cells.toList) (fun p hp => hev p (by simp [hp])) (hr.splice off hx)
    refine ⟨by simp only [List.map_cons, List.foldl_cons, ho]; exact g1, fun p hp => ?_⟩
    rcases List.mem_cons.1 hp with rfl | hp
    · simp only [ho]
      exact ⟨by rw [h3, ← hl, hxl], by rw [← hxl, hl]; exact Nat.le_of_ble_eq_true h7⟩
    · exact g2 p hp
noncomputable def xBuild (P : Program) (tm : Tr CV) (t : Nat) (parts : List (Nat × Operand)) (K : KV) : Bool :=
  og (zc P t) fun z => og (plT P t) fun pl => fN (lenL z) fun n => xFill tm pl n parts z fun l => K (.ag l)
theorem xBuild_t {t : Nat} {parts : Array (Nat × Operand)} {K : KV} (h : xBuild P tm t parts.toList K = true) : ∃ v, K v = true ∧ ∀ (G : Gh) (a : Act), (∀ p ∈ parts.toList, R G (evv tm.get p.2) (a.eval p.2)) →
    ∃ y, R G v y ∧ ∀ w : World, (Instr.build t (parts.map fun (i, x) => (i, a.eval x))).run P w = .ok y w := by
  obtain ⟨z, h1, h2⟩ := og_t h
  obtain ⟨pl, h3, h4⟩ := og_t h2
  rw [fN_eq] at h4
  obtain ⟨z', h5, h6⟩ := xFill_t h4
  obtain ⟨i, zv, i1, i2, i3, i4⟩ := zc_spec h1
  refine ⟨_, h5, fun G a hev => ?_⟩
  obtain ⟨g1, g2⟩ := h6 G a zv.cells.toList hev (i4 G)
  refine ⟨.agg ((parts.toList.map fun p => (p.1, a.eval p.2)).foldl (fun l p => spliceV l (offL pl p.1) p.2.cells.toList) zv.cells.toList).toArray, by simp only [R]; exact ⟨_, rfl, g1⟩, fun w => ?_⟩
  have hpl : (parts.map fun x => (x.1, a.eval x.2)).toList = parts.toList.map fun p => (p.1, a.eval p.2) := by simp
  rw [lenL_eq, i3] at g2
  unfold plT at h3
  split at h3
  · rename_i fs hu
    split at h3
    · rename_i hfs
      injection h3 with h3
      subst h3
      have hm : (fs.mapM (fun f => do pure (f.offset, ← sizeOf f.type)) : Sem (Array (Nat × Nat))).run P w = .ok (fs.map fun f => (f.offset, szT P f.type)) w := by
        rw [Array.mapM_eq_mapM_toList]
        have := mapM_fields (P := P) (w := w) (fs := fs.toList) (fun f hf => List.all_eq_true.1 hfs f hf)
        simp only [Sem.run_map, this, Result.andThen_ok, ← Array.toList_map, Array.toArray_toList]
      have hfill := fill_eq (fun i => (fs.map fun f => (f.offset, szT P f.type))[i]?) (offL (fs.toList.map fun f => (f.offset, szT P f.type))) (parts.toList.map fun p => (p.1, a.eval p.2)) zv.cells (fun p hp => by
        obtain ⟨k1, k2⟩ := g2 p hp
        exact ⟨by rw [← k1]; simp, k2⟩)
      simp only [Instr.build, Sem.run_bind, zeroValue, typeInfo, run_program, Result.andThen_ok, i1, i2, Sem.run_pure, run_underlying hu, hm]
      rw [hpl, hfill]
      simp only [Sem.run_pure]
    · cases h3
  · rename_i n et hu
    split at h3
    · rename_i hie
      injection h3 with h3
      subst h3
      obtain ⟨ie, hie⟩ := Option.isSome_iff_exists.1 hie
      have hse : ie.size = szT P et := by simp [szT, hie]
      have hfill := fill_eq (fun i => some (i * szT P et, szT P et)) (offL ((List.range n).map fun i => (i * szT P et, szT P et))) (parts.toList.map fun p => (p.1, a.eval p.2)) zv.cells (fun p hp => by
        obtain ⟨k1, k2⟩ := g2 p hp
        refine ⟨?_, k2⟩
        rw [← k1, List.getElem?_map]
        have : p.1 < n := by
          have := (List.getElem?_eq_some_iff.1 k1).1
          simpa using this
        rw [List.getElem?_range this]
        rfl)
      simp only [Instr.build, Sem.run_bind, zeroValue, typeInfo, run_program, Result.andThen_ok, i1, i2, Sem.run_pure, run_underlying hu, sizeOf, hie, hse]
      rw [hpl, hfill]
      simp only [Sem.run_pure]
    · cases h3
  · cases h3
/- Several operands. -/
noncomputable def evsK (tm : Tr CV) (xs : List Operand) : (List CV → Bool) → Bool := List.rec (fun K => K []) (fun x _ ih K => evK tm x fun v => ih fun l => K (v :: l)) xs
theorem evsK_eq : ∀ (xs : List Operand) (K : List CV → Bool), evsK tm xs K = K (xs.map (evv tm.get))
  | [], K => rfl
  | x :: xs, K => by
    show evK tm x (fun v => evsK tm xs fun l => K (v :: l)) = _
    rw [evK_eq, evsK_eq xs]
    rfl
theorem Rt.evs {T : Nat → CV} {G : Gh} {a : Act} : ∀ {xs : List Operand}, (∀ x ∈ xs, R G (evv T x) (a.eval x)) → Rt G (xs.map (evv T)) (xs.map a.eval)
  | [], _ => by simp [Rt]
  | x :: xs, h => by
    simp only [List.map_cons, Rt]
    exact ⟨_, _, rfl, h x (by simp), Rt.evs fun y hy => h y (by simp [hy])⟩
noncomputable def xFunc (tm : Tr CV) (fn : Fn) (first cap : List Operand) (K : KV) : Bool := match fn with | .func f => evsK tm first fun l1 => evsK tm cap fun l2 => K (.cl f (.tp l1 :: l2)) | _ => false
theorem xFunc_t {fn : Fn} {first cap : Array Operand} {K : KV} (h : xFunc tm fn first.toList cap.toList K = true) : ∃ v, K v = true ∧ ∀ (G : Gh) (a : Act), (∀ x, x ∈ first.toList ∨ x ∈ cap.toList → R G (evv tm.get x) (a.eval x)) →
    ∃ y, R G v y ∧ ∀ w : World, (Instr.makeFunc fn (first.map a.eval) (cap.map a.eval)).run P w = .ok y w := by
  unfold xFunc at h
  split at h
  · rename_i f
    rw [evsK_eq, evsK_eq] at h
    refine ⟨_, h, fun G a hev => ⟨.func (.func f) (first.toList.map a.eval).toArray (cap.toList.map a.eval).toArray, ?_, fun w => ?_⟩⟩
    · simp only [R]
      refine ⟨_, _, rfl, ?_⟩
      rw [Rt]
      refine ⟨_, _, rfl, ?_, Rt.evs fun x hx => hev x (.inr hx)⟩
      simp only [R]
      exact ⟨_, rfl, Rt.evs fun x hx => hev x (.inl hx)⟩
    · have e1 : first.map a.eval = (first.toList.map a.eval).toArray := Array.ext' (by simp)
      have hargs : cap.map a.eval = (cap.toList.map a.eval).toArray := Array.ext' (by simp)
      rw [e1, hargs]
      simp [Instr.makeFunc]
  · cases h
theorem run_value {m : Sem Value} {v : Value} {w : World} (h : m.run P w = .ok v w) : (do pure (.value (← m)) : Sem Next).run P w = .ok (.value v) w := by
  rw [Sem.run_bind, h]; rfl
end
end Go.Proofs.YteanccnggaakeaaGreat
