/- Operations on rows: slices that are written out or made. No condition. -/
import Derived.Test.YteanccnggaakeaaGreatCmJ
namespace Go.Proofs.YteanccnggaakeaaGreat
open Go.RowKit
set_option linter.unusedVariables false
set_option linter.unusedSimpArgs false

theorem fold_parts (sz : Nat) : ∀ (ps : List (Nat × Value)) (k : Nat) (vs : List Value), ps.map (·.1) = List.range' k ps.length → (∀ p ∈ ps, p.2.cells.size = sz) → (k + ps.length) * sz = vs.length →
    ps.foldl (fun l p => spliceV l (p.1 * sz) p.2.cells.toList) vs = vs.take (k * sz) ++ (ps.map fun p => p.2.cells.toList).flatten
  | [], k, vs, _, _, h => by simp at h ⊢; rw [List.take_of_length_le (by omega)]
  | p :: ps, k, vs, h1, h2, h3 => by
    simp only [List.map_cons, List.length_cons, List.range'_succ, List.cons.injEq] at h1
    obtain ⟨e1, e2⟩ := h1
    have hp := h2 p (by simp)
    simp only [List.length_cons] at h3
    have hmul : (k + (ps.length + 1)) * sz = k * sz + ps.length * sz + sz := by rw [Nat.add_mul, Nat.succ_mul]; omega
    have hks : (k + 1) * sz = k * sz + sz := Nat.succ_mul k sz
    have hfit : k * sz + p.2.cells.toList.length ≤ vs.length := by simp [hp]; omega
    simp only [List.foldl_cons, List.map_cons, List.flatten_cons]
    rw [fold_parts sz ps (k + 1) _ e2 (fun q hq => h2 q (by simp [hq])) (by rw [e1, spliceV_length hfit, ← h3, show k + 1 + ps.length = k + (ps.length + 1) by omega])]
    rw [e1]
    unfold spliceV
    rw [List.take_left' (by rw [List.length_append, List.length_take]; simp [hp]; omega)]
    simp
theorem flat_rep {α : Type} (l : List α) : ∀ n : Nat, (List.replicate n l).flatten.length = n * l.length
  | 0 => by simp
  | n + 1 => by rw [List.replicate_succ, List.flatten_cons, List.length_append, flat_rep l n, Nat.succ_mul]; omega
theorem made_flat (z : Array Value) (hz : 0 < z.size) : ∀ n : Nat, madeCells z (n * z.size) = ((List.replicate n z.toList).flatten).toArray
  | 0 => by simp [madeCells]
  | n + 1 => by
    have ih := made_flat z hz n
    rw [List.replicate_succ', List.flatten_append]
    simp only [List.flatten_cons, List.flatten_nil, List.append_nil]
    apply Array.toList_inj.1
    have ih2 := congrArg Array.toList ih
    simp only [madeCells, Array.toList_map, Array.toList_range] at ih2 ⊢
    rw [show (n + 1) * z.size = n * z.size + z.size by rw [Nat.succ_mul], List.range_add, List.map_append, ih2]
    congr 1
    apply List.ext_getElem
    · simp
    · intro i h1 h2
      simp only [List.length_map, List.length_range] at h1
      simp only [List.getElem_map, List.getElem_range, Array.getElem_toList]
      rw [show (n * z.size + i) % z.size = i from by rw [Nat.add_comm, Nat.add_mul_mod_self_right, Nat.mod_eq_of_lt h1]]
      exact getElem!_pos z i h1

section
variable {P : Program} {F : Nat → Prop} {w0 w w' : World} {G G' : Gh} {M : Nat → CR} {tm : Tr CV}
theorem Rss.rep {sz : Nat} {l : List CV} {z : List Value} (hz : z.length = sz) (h : Rs G l z) : ∀ n : Nat, Rss G sz (List.replicate n l) (List.replicate n z).flatten
  | 0 => by simp [Rss]
  | n + 1 => by
    simp only [List.replicate_succ, List.flatten_cons, Rss]
    exact ⟨z, _, rfl, hz, h, Rss.rep hz h n⟩
/- A new row of a slice, full. -/
theorem Fit.allocN (h : Fit F w0 G M w) {d ty sz : Nat} {vs : List Value} {els : List (List CV)} (hd : ¬ G.dom d) (hn : d < NM) (hl : els.length ≤ maxLen) (hr : Rss G sz els vs) :
    Fit F w0 (G.add d w.heap.size els.length sz) (upd M d (.live ty sz els)) (w.alloc (.cells vs.toArray ty)) := by
  have hfl := hr.flat
  refine h.newRow hd hn rfl rfl rfl (by simp) (fun j hj => _root_.Go.heap_alloc_old w _ hj) ⟨(Gh.add_at).2.2.2, by rw [(Gh.add_at).2.2.1]; exact hl, by rw [(Gh.add_at).2.2.1]; exact Nat.le_refl _, vs.toArray, vs, ?_, ?_, List.take_of_length_le (Nat.le_refl _), ?_⟩
  · rw [(Gh.add_at).2.1]; exact _root_.Go.heap_alloc_new w _
  · exact Rss.up (Gh.add_le hd) _ _ hr
  · rw [(Gh.add_at).2.2.1]; simpa using hfl
theorem R.newRef {d b n s : Nat} : R (G.add d b n s) (.ref d n s) (.slice (some ⟨b, 0, none⟩) n n) := by
  simp only [R]
  exact ⟨(Gh.add_at).1, (Gh.add_at).2.2.2, by rw [(Gh.add_at).2.2.1]; exact Nat.le_refl _, by rw [(Gh.add_at).2.1, (Gh.add_at).2.2.1]⟩
/- The parts of a slice that is written out. -/
noncomputable def elsK (tm : Tr CV) (sz : Nat) (parts : List (Nat × Operand)) : Nat → (List (List CV) → Bool) → Bool :=
  List.rec (fun _ K => K []) (fun p _ ih k K => Prod.rec (fun i x => tst (Nat.beq i k) (evK tm x (ccK fun cs => tst (Nat.beq (lenL cs) sz) (ih (Nat.add k 1) fun els => K (cs :: els))))) p) parts
theorem elsK_t {sz : Nat} : ∀ {parts : List (Nat × Operand)} {k : Nat} {K : List (List CV) → Bool}, elsK tm sz parts k K = true → ∃ els, K els = true ∧ parts.map (·.1) = List.range' k parts.length ∧ els.length = parts.length ∧
    ∀ (G : Gh) (a : Act), (∀ p ∈ parts, R G (evv tm.get p.2) (a.eval p.2)) → Rss G sz els (parts.map fun p => (a.eval p.2).cells.toList).flatten ∧ ∀ p ∈ parts, (a.eval p.2).cells.size = sz
  | [], k, K, h => ⟨[], h, rfl, rfl, fun G a _ => ⟨by simp [Rss], by simp⟩⟩
  | (i, x) :: parts, k, K, h => by
    obtain ⟨h1, h2⟩ := tst_t (show tst (Nat.beq i k) (evK tm x (ccK fun cs => tst (Nat.beq (lenL cs) sz) (elsK tm sz parts (Nat.add k 1) fun els => K (cs :: els)))) = true from h)
    rw [evK_eq] at h2
    obtain ⟨cs, h3, h4⟩ := ccK_t h2
    obtain ⟨h5, h6⟩ := tst_t h3
    obtain ⟨els, k1, k2, k3, k4⟩ := elsK_t h6
    have hl : cs.length = sz := by rw [← lenL_eq]; exact Nat.eq_of_beq_eq_true h5
    have hi : i = k := Nat.eq_of_beq_eq_true h1
    refine ⟨_, k1, by simp only [List.map_cons, List.length_cons, List.range'_succ, hi]; rw [k2], by simp [k3], fun G a hev => ?_⟩
    obtain ⟨g1, g2⟩ := k4 G a fun p hp => hev p (by simp [hp])
    have hx := h4 G _ (hev (i, x) (by simp))
    have hxl := hx.length
    simp only [Array.length_toList] at hxl
    refine ⟨by simp only [List.map_cons, List.flatten_cons, Rss]; exact ⟨_, _, rfl, by simp; omega, hx, g1⟩, fun p hp => ?_⟩
    rcases List.mem_cons.1 hp with rfl | hp
    · simp only; omega
    · exact g2 p hp
noncomputable def xBuildSlice (P : Program) (tm : Tr CV) (m : Tr CR) (nb t len : Nat) (parts : List (Nat × Operand)) (K : KO) : Bool :=
  og (sliceT P t) fun e => og (zc P e) fun z => fN (szT P e) fun sz => tst (Nat.beq (lenL z) sz) (tst (Nat.ble (Nat.mul len sz) 16777216) (tst (Nat.ble len 16777216) (elsK tm sz parts 0 fun els => tst (Nat.beq (lenL els) len) (newK m nb (.live e sz els) (.ref nb len sz) K))))
theorem xBuildSlice_t {m : Tr CR} {nb t len : Nat} {parts : Array (Nat × Operand)} {K : KO} (h : xBuildSlice P tm m nb t len parts.toList K = true) : ∃ v row, K v (m.set nb row) (nb + 1) = true ∧ nb < NM ∧
    ∀ (M : Nat → CR) (F : Nat → Prop) (w0 : World) (G : Gh) (w : World) (a : Act), Fit F w0 G M w → ¬ G.dom nb → (∀ p ∈ parts.toList, R G (evv tm.get p.2) (a.eval p.2)) →
      ∃ G' y w', Step nb (nb + 1) G G' ∧ R G' v y ∧ Fit F w0 G' (upd M nb row) w' ∧ (Instr.buildSlice t len (parts.map fun (i, x) => (i, a.eval x))).run P w = .ok y w' := by
  obtain ⟨e, h1, h2⟩ := og_t h
  obtain ⟨z, h3, h4⟩ := og_t h2
  rw [fN_eq] at h4
  obtain ⟨h5, h6⟩ := tst_t h4
  obtain ⟨h7, h8⟩ := tst_t h6
  obtain ⟨h9, h10⟩ := tst_t h8
  obtain ⟨els, k1, k2, k3, k4⟩ := elsK_t h10
  obtain ⟨k5, k6⟩ := tst_t k1
  obtain ⟨hn, k7⟩ := newK_t k6
  have hel : els.length = len := by rw [← lenL_eq]; exact Nat.eq_of_beq_eq_true k5
  have h24 : len * szT P e ≤ 16777216 := Nat.le_of_ble_eq_true h7
  have hml : len ≤ 16777216 := Nat.le_of_ble_eq_true h9
  obtain ⟨hu, i, hi, his⟩ := sliceT_spec h1
  obtain ⟨i', zv, i1, i2, i3, i4⟩ := zc_spec h3
  rw [hi] at i1
  injection i1 with i1
  subst i1
  refine ⟨_, _, k7, hn, fun M F w0 G w a hF hd hev => ?_⟩
  obtain ⟨g1, g2⟩ := k4 G a hev
  have hplen : parts.toList.length = len := by rw [← k3, hel]
  refine ⟨_, .slice (some ⟨w.heap.size, 0, none⟩) len len, _, .add hd, ?_, hF.allocN hd hn (by simp only [maxLen]; omega) g1, ?_⟩
  · rw [← hel]; exact R.newRef
  have hpl : (parts.map fun x => (x.1, a.eval x.2)).toList = parts.toList.map fun p => (p.1, a.eval p.2) := by simp
  have hsz : ∀ p ∈ parts.toList.map (fun p => (p.1, a.eval p.2)), p.2.cells.size = i.size := fun p hp => by
    obtain ⟨q, hq, rfl⟩ := List.mem_map.1 hp
    rw [his]
    exact g2 q hq
  have hZ : ∀ Z : Array Value, Z.size = len * i.size → Instr.fill (fun j => some (j * i.size, i.size)) Z (parts.toList.map fun p => (p.1, a.eval p.2)) = some ((parts.toList.map fun p => (a.eval p.2).cells.toList).flatten).toArray := fun Z hZl => by
    rw [fill_eq (fun j => some (j * i.size, i.size)) (fun j => j * i.size) _ Z (fun p hpp => ?_)]
    · have hm1 : (parts.toList.map fun p => (p.1, a.eval p.2)).map (·.1) = List.range' 0 (parts.toList.map fun p => (p.1, a.eval p.2)).length := by
        rw [List.map_map]
        simp only [List.length_map]
        rw [← k2]
        rfl
      rw [fold_parts i.size _ 0 Z.toList hm1 hsz (by simp [hZl]; rw [← hplen]; simp)]
      simp
      rfl
    · have e1 := hsz p hpp
      obtain ⟨q, hq, rfl⟩ := List.mem_map.1 hpp
      simp only at e1 ⊢
      have hql : q.1 < len := by
        have : q.1 ∈ parts.toList.map (·.1) := List.mem_map.2 ⟨q, hq, rfl⟩
        rw [k2] at this
        simp at this
        rw [← hplen]
        simpa using this
      have hmul : (q.1 + 1) * i.size ≤ len * i.size := Nat.mul_le_mul_right _ (by omega)
      rw [Nat.succ_mul] at hmul
      rw [e1]
      exact ⟨rfl, by omega⟩
  have h24' : ¬ (2 ^ 24 < len * i.size) := by rw [his]; simp; omega
  by_cases h0 : len * i.size = 0
  · have hf := hZ ((Array.range (len * i.size)).map ((#[] : Array Value)[· % (#[] : Array Value).size]!)) (by simp)
    simp only [Instr.buildSlice, Sem.run_bind, run_underlying hu, Result.andThen_ok, sizeOf, typeInfo, run_program, hi, Sem.run_pure, gt_iff_lt, h0, if_true, hpl, Nat.not_lt_zero, if_false]
    rw [h0] at hf
    simp only [hf, Go.newRow, Sem.run_bind, run_newObj_alloc, Result.andThen_ok, Sem.run_pure]
  · have hf := hZ ((Array.range (len * i.size)).map (zv.cells[· % zv.cells.size]!)) (by simp)
    simp only [Instr.buildSlice, Sem.run_bind, run_underlying hu, Result.andThen_ok, sizeOf, typeInfo, run_program, hi, Sem.run_pure, gt_iff_lt, h24', if_false, h0, hpl, zeroValue, i2, hf, Go.newRow, run_newObj_alloc]
noncomputable def xMakeSlice (P : Program) (m : Tr CR) (nb t : Nat) (a b : CV) (K : KO) : Bool :=
  onNat (fun _ n => onNat (fun _ n' => tst (Nat.beq n n') (og (sliceT P t) fun e => og (zc P e) fun z => fN (szT P e) fun sz => tst (Nat.beq (lenL z) sz) (tst (Nat.ble n 1000000) (tst (Nat.ble (byT P e) 1000000) (fL (repL n z) fun els => newK m nb (.live e sz els) (.ref nb n sz) K))))) b) a
theorem xMakeSlice_t {m : Tr CR} {nb t : Nat} {a b : CV} {K : KO} (h : xMakeSlice P m nb t a b K = true) : ∃ v row, K v (m.set nb row) (nb + 1) = true ∧ nb < NM ∧
    ∀ (M : Nat → CR) (F : Nat → Prop) (w0 : World) (G : Gh) (w : World) (x y : Value), Fit F w0 G M w → ¬ G.dom nb → R G a x → R G b y →
      ∃ G' z w', Step nb (nb + 1) G G' ∧ R G' v z ∧ Fit F w0 G' (upd M nb row) w' ∧ (Instr.makeSlice t x y).run P w = .ok z w' := by
  obtain ⟨k, n, rfl, ha⟩ := onNat_t h
  obtain ⟨k', n', rfl, hb⟩ := onNat_t ha
  obtain ⟨h0, hc⟩ := tst_t hb
  obtain rfl := Nat.eq_of_beq_eq_true h0
  obtain ⟨e, h1, h2⟩ := og_t hc
  obtain ⟨z, h3, h4⟩ := og_t h2
  rw [fN_eq] at h4
  obtain ⟨h5, h6⟩ := tst_t h4
  obtain ⟨h7, h8⟩ := tst_t h6
  obtain ⟨h9, h10⟩ := tst_t h8
  rw [fL_eq, repL_eq] at h10
  obtain ⟨hn, k7⟩ := newK_t h10
  have hzl : z.length = szT P e := by rw [← lenL_eq]; exact Nat.eq_of_beq_eq_true h5
  have hnl : n ≤ 1000000 := Nat.le_of_ble_eq_true h7
  have hby : byT P e ≤ 1000000 := Nat.le_of_ble_eq_true h9
  obtain ⟨hu, i, hi, his⟩ := sliceT_spec h1
  obtain ⟨i', zv, i1, i2, i3, i4⟩ := zc_spec h3
  rw [hi] at i1
  injection i1 with i1
  subst i1
  refine ⟨_, _, k7, hn, fun M F w0 G w x y hF hd hx hy => ?_⟩
  simp only [R] at hx hy
  subst hx hy
  have hby' : i.bytes ≤ 1000000 := by
    have : byT P e = i.bytes := by simp [byT, hi]
    omega
  have hbm : (i.bytes : Int) * (n : Int) ≤ 281474976710656 := by
    have h1 : i.bytes * n ≤ 1000000 * 1000000 := Nat.mul_le_mul hby' (by omega)
    have h2 : ((i.bytes * n : Nat) : Int) ≤ 281474976710656 := by omega
    rwa [Int.natCast_mul] at h2
  have hzs : zv.cells.toList.length = szT P e := by rw [← (i4 G).length, hzl]
  have hcells : madeCells zv.cells (n * i.size) = ((List.replicate n zv.cells.toList).flatten).toArray := by
    have hsz : zv.cells.size = i.size := by rw [his, ← hzs]; simp
    by_cases h0 : i.size = 0
    · have hz0 : zv.cells.toList = [] := List.eq_nil_of_length_eq_zero (by rw [hzs, ← his]; exact h0)
      have : (List.replicate n zv.cells.toList).flatten = [] := by rw [hz0]; simp
      rw [this, h0]; simp [madeCells]
    · have := made_flat zv.cells (by omega) n
      rw [hsz] at this
      exact this
  have hfit := hF.allocN (ty := e) hd hn (by simp only [maxLen, List.length_replicate]; omega) (Rss.rep hzs (i4 G) n)
  have hrun := run_make (P := P) w t e i zv hu hi i2 k k' n n (by omega) (by omega) hbm (by omega)
  simp only [Int.toNat_natCast] at hrun
  rw [hcells] at hrun
  have hlen : (List.replicate n z).length = n := by simp
  rw [hlen] at hfit
  exact ⟨_, _, _, .add hd, R.newRef, hfit, hrun⟩
end
end Go.Proofs.YteanccnggaakeaaGreat
