/- Operations on rows: loads, stores, new rows. No condition. -/
import Derived.Test.YteanccnggaakeaaGreatCmH
namespace Go.Proofs.YteanccnggaakeaaGreat
open Go.RowKit
set_option linter.unusedVariables false
set_option linter.unusedSimpArgs false

/- The rows of a tree. -/
def lk (m : Tr CR) (r : Nat) : CR := if r < NM then m.get r else .dead
structure MemOK (m : Tr CR) (nb : Nat) : Prop where
  wf : m.wf 0 NM
  low : ∀ r, nb ≤ r → lk m r = .dead
theorem lk_set {m : Tr CR} (h : m.wf 0 NM) {k : Nat} (hk : k < NM) (x : CR) : lk (m.set k x) = upd (lk m) k x := by
  funext r
  simp only [lk, upd]
  by_cases hr : r < NM
  · rw [if_pos hr, if_pos hr, Tr.get_set x m 0 NM k r h (Nat.zero_le _) hk (Nat.zero_le _) hr]
  · rw [if_neg hr, if_neg hr, if_neg (by omega)]
theorem MemOK.set {m : Tr CR} {nb nb' : Nat} (h : MemOK m nb) {k : Nat} (hk : k < NM) (hn : nb ≤ nb') (hk' : k < nb') (x : CR) : MemOK (m.set k x) nb' :=
  ⟨Tr.wf_set x m 0 NM k h.wf, fun r hr => by rw [lk_set h.wf hk, upd_ne _ _ (by omega)]; exact h.low r (by omega)⟩
theorem lk_at {F : Nat → Prop} {w0 w : World} {G : Gh} {m : Tr CR} (h : Fit F w0 G (lk m) w) {r : Nat} (hd : G.dom r) : lk m r = m.get r := if_pos (h.dlt r hd)
noncomputable def onLive (K : Nat → Nat → List (List CV) → Bool) (c : CR) : Bool := CR.rec K false c
theorem onLive_t {K : Nat → Nat → List (List CV) → Bool} {c : CR} (h : onLive K c = true) : ∃ ty sz els, c = .live ty sz els ∧ K ty sz els = true := by
  cases c with
  | live ty sz els => exact ⟨ty, sz, els, rfl, h⟩
  | dead => cases h
/- The row of a name. -/
noncomputable def rowK (m : Tr CR) (r : Nat) (K : Nat → Nat → List (List CV) → Bool) : Bool := m.getK r (onLive K)
theorem rowK_t {m : Tr CR} {r : Nat} {K : Nat → Nat → List (List CV) → Bool} (h : rowK m r K = true) : ∃ ty sz els, m.get r = .live ty sz els ∧ K ty sz els = true := by
  unfold rowK at h
  rw [Tr.getK_eq] at h
  exact onLive_t h

section
variable {P : Program} {F : Nat → Prop} {w0 w w' : World} {G G' : Gh} {M : Nat → CR}
theorem Fit.row {m : Tr CR} (h : Fit F w0 G (lk m) w) {r ty sz : Nat} {els : List (List CV)} (hd : G.dom r) (hm : m.get r = .live ty sz els) : RowAt G w r ty sz els := h.rows r ty sz els hd ((lk_at h hd).trans hm)
theorem Fit.alive {m : Tr CR} (h : Fit F w0 G (lk m) w) {r ty sz : Nat} {els : List (List CV)} (hd : G.dom r) (hm : m.get r = .live ty sz els) : lk m r ≠ .dead := by
  rw [lk_at h hd, hm]; exact live_ne
/- The cells of an element. -/
theorem RowAt.cells {r ty sz i : Nat} {els : List (List CV)} {el : List CV} (h : RowAt G w r ty sz els) (hi : els[i]? = some el) :
    ∃ us, us.length = sz ∧ Rs G el us ∧ ∀ j u, us[j]? = some u → w.cell? ⟨G.bt r, i * G.sz r + j, none⟩ = some u := by
  obtain ⟨cur, vs, h1, h2, h3, h4⟩ := h.at_
  obtain ⟨us, k1, k2, k3⟩ := h2.get i el hi
  refine ⟨us, k1, k2, fun j u hu => ?_⟩
  have := k3 j u hu
  rw [h.hsz, cell_of_row w _ _ cur ty (0, 0) h1]
  rw [← h3, List.getElem?_take] at this
  split at this
  · simpa using this
  · cases this
theorem loadVar_agg {t : TypeId} (h : tyOk P t = true) (ha : aggT P t = true) {b o : Nat} {us : List Value} (hl : us.length = szT P t) (hc : ∀ j u, us[j]? = some u → w.cell? ⟨b, o + j, none⟩ = some u) :
    (loadVar t ⟨b, o, none⟩).run P w = .ok (.agg us.toArray) w := by
  obtain ⟨_, i, hi, hs⟩ := tyOk_spec h
  have h1 := run_loadCells_list (P := P) w ⟨b, o, none⟩ us (fun j v hv => by rw [Addr.add_lit]; exact hc j v hv)
  rw [hl] at h1
  simp [loadVar, isAgg_run h, ha, sizeOf, typeInfo, hi, hs, h1]
theorem loadVar_one {t : TypeId} (h : tyOk P t = true) (ha : aggT P t = false) {b o : Nat} {u : Value} (hc : w.cell? ⟨b, o, none⟩ = some u) :
    (loadVar t ⟨b, o, none⟩).run P w = .ok u w := by
  simp [loadVar, isAgg_run h, ha, load, Sem.run, hc]
/- What lies at a place of an element. -/
noncomputable def xLP (P : Program) (t sz : Nat) (K : KV) (el : List CV) (o : Nat) : Bool :=
  Bool.rec (atL el K o) (Nat.rec (Bool.rec (tst (Nat.ble (szT P t) sz) (fL (takeL el (szT P t)) fun l => K (.ag l))) (K (.ag el)) (Nat.beq sz (szT P t))) (fun _ _ => tst (Nat.ble (Nat.add o (szT P t)) sz) (fL (takeL (dropL el o) (szT P t)) fun l => K (.ag l))) o) (aggT P t)
theorem xLP_t {t sz : Nat} {K : KV} {el : List CV} {o : Nat} (h : xLP P t sz K el o = true) : ∃ v, K v = true ∧ ∀ (G : Gh) (us : List Value), us.length = sz → Rs G el us →
    (aggT P t = true ∧ R G v (.agg ((us.drop o).take (szT P t)).toArray) ∧ o + szT P t ≤ sz) ∨ (aggT P t = false ∧ ∃ u, us[o]? = some u ∧ R G v u) := by
  rcases rec_b (show (Bool.rec (atL el K o) (Nat.rec (Bool.rec (tst (Nat.ble (szT P t) sz) (fL (takeL el (szT P t)) fun l => K (.ag l))) (K (.ag el)) (Nat.beq sz (szT P t))) (fun _ _ => tst (Nat.ble (Nat.add o (szT P t)) sz) (fL (takeL (dropL el o) (szT P t)) fun l => K (.ag l))) o) (aggT P t) : Bool) = true from h) with ⟨h1, h2⟩ | ⟨h1, h2⟩
  · cases o with
    | zero =>
      rcases rec_b (show (Bool.rec (tst (Nat.ble (szT P t) sz) (fL (takeL el (szT P t)) fun l => K (.ag l))) (K (.ag el)) (Nat.beq sz (szT P t)) : Bool) = true from h2) with ⟨h3, h4⟩ | ⟨h3, h4⟩
      · have he := Nat.eq_of_beq_eq_true h3
        refine ⟨_, h4, fun G us hl hr => .inl ⟨h1, ?_, by omega⟩⟩
        rw [List.drop_zero, List.take_of_length_le (by omega)]
        simp only [R]
        exact ⟨_, rfl, hr⟩
      · obtain ⟨h5, h6⟩ := tst_t h4
        rw [fL_eq, takeL_eq] at h6
        have := Nat.le_of_ble_eq_true h5
        refine ⟨_, h6, fun G us hl hr => .inl ⟨h1, ?_, by omega⟩⟩
        simp only [R, List.drop_zero]
        exact ⟨_, rfl, hr.take _⟩
    | succ o =>
      obtain ⟨h5, h6⟩ := tst_t (show tst (Nat.ble (Nat.add (o + 1) (szT P t)) sz) (fL (takeL (dropL el (o + 1)) (szT P t)) fun l => K (.ag l)) = true from h2)
      rw [fL_eq, takeL_eq, dropL_eq] at h6
      have : o + 1 + szT P t ≤ sz := Nat.le_of_ble_eq_true h5
      refine ⟨_, h6, fun G us hl hr => .inl ⟨h1, ?_, by omega⟩⟩
      simp only [R]
      exact ⟨_, rfl, (hr.drop _).take _⟩
  · obtain ⟨v, h3, h4⟩ := atL_t h2
    refine ⟨v, h4, fun G us _ hr => .inr ⟨h1, ?_⟩⟩
    obtain ⟨u, hu, hru, _⟩ := hr.get o v h3
    exact ⟨u, hu, hru⟩
noncomputable def xLoad (P : Program) (m : Tr CR) (t : Nat) (a : CV) (K : KV) : Bool := onPtr (fun r i o => rowK m r fun _ sz els => tst (tyOk P t) (atL els (fun el => xLP P t sz K el o) i)) a
def Loads (P : Program) (M : Nat → CR) (t : Nat) (a v : CV) : Prop := ∀ (F : Nat → Prop) (w0 : World) (G : Gh) (w : World) (x : Value), Fit F w0 G M w → R G a x → ∃ ad y, x = .pointer (some ad) ∧ R G v y ∧ (loadVar t ad).run P w = .ok y w
theorem xLoad_t {m : Tr CR} {t : Nat} {a : CV} {K : KV} (h : xLoad P m t a K = true) : ∃ v, K v = true ∧ Loads P (lk m) t a v := by
  obtain ⟨r, i, o, rfl, h⟩ := onPtr_t h
  obtain ⟨ty, sz, els, h1, h2⟩ := rowK_t h
  obtain ⟨h3, h4⟩ := tst_t h2
  obtain ⟨el, h5, h6⟩ := atL_t h4
  obtain ⟨v, h7, h8⟩ := xLP_t h6
  refine ⟨v, h7, fun F w0 G w x hF hx => ?_⟩
  simp only [R] at hx
  obtain ⟨hd, rfl⟩ := hx
  obtain ⟨us, k1, k2, k3⟩ := (hF.row hd h1).cells h5
  rcases h8 G us k1 k2 with ⟨ha, hv, hle⟩ | ⟨ha, u, hu, hv⟩
  · refine ⟨_, _, rfl, hv, loadVar_agg h3 ha (by simp; omega) fun j u hu => ?_⟩
    rw [List.getElem?_take] at hu
    split at hu
    · rw [Nat.add_assoc]
      exact k3 (o + j) u (by rw [← hu, List.getElem?_drop])
    · cases hu
  · exact ⟨_, u, rfl, hv, loadVar_one h3 ha (k3 o u hu)⟩
theorem loadAt_run {t : TypeId} {ad : Addr} {u : Value} (h : (loadVar t ad).run P w = .ok u w) : (Instr.loadAt t (.pointer (some ad))).run P w = .ok u w := by
  simp [Instr.loadAt, Instr.sureAddr, h]

/- A new row of one element. -/
theorem Rss.single {l : List CV} {vs : List Value} (h : Rs G l vs) : Rss G l.length [l] vs := by
  simp only [Rss]
  exact ⟨vs, [], by simp, h.length.symm, h, rfl⟩
theorem Fit.alloc1 (h : Fit F w0 G M w) {d ty : Nat} {cs : Array Value} {l : List CV} (hd : ¬ G.dom d) (hn : d < NM) (hr : Rs G l cs.toList) :
    Fit F w0 (G.add d w.heap.size 1 l.length) (upd M d (.live ty l.length [l])) (w.alloc (.cells cs ty)) := by
  have hlen := hr.length
  refine h.newRow hd hn rfl rfl rfl (by simp) (fun j hj => _root_.Go.heap_alloc_old w _ hj) ⟨(Gh.add_at).2.2.2, by rw [(Gh.add_at).2.2.1]; unfold maxLen; omega, by rw [(Gh.add_at).2.2.1]; simp, cs, cs.toList, ?_, ?_, List.take_of_length_le (Nat.le_refl _), ?_⟩
  · rw [(Gh.add_at).2.1]; exact _root_.Go.heap_alloc_new w _
  · exact Rss.single (Rs.up (Gh.add_le hd) _ _ hr)
  · rw [(Gh.add_at).2.2.1, hlen]; simp
noncomputable def newK (m : Tr CR) (nb : Nat) (row : CR) (v : CV) (K : CV → Tr CR → Nat → Bool) : Bool := tst (Nat.blt nb 65536) (m.setK nb row fun m => fN (Nat.add nb 1) fun nb => K v m nb)
theorem newK_t {m : Tr CR} {nb : Nat} {row : CR} {v : CV} {K : CV → Tr CR → Nat → Bool} (h : newK m nb row v K = true) : nb < NM ∧ K v (m.set nb row) (nb + 1) = true := by
  obtain ⟨h1, h2⟩ := tst_t h
  rw [Tr.setK_eq] at h2
  exact ⟨blt_t h1, h2⟩
abbrev KO := CV → Tr CR → Nat → Bool
noncomputable def xBox (m : Tr CR) (nb t : Nat) (a : CV) (K : KO) : Bool := ccK (fun l => fN (lenL l) fun n => newK m nb (.live t n [l]) (.ptr nb 0 0) K) a
noncomputable def xAlloc (P : Program) (m : Tr CR) (nb t : Nat) (K : KO) : Bool := og (zc P t) fun l => fN (lenL l) fun n => newK m nb (.live t n [l]) (.ptr nb 0 0) K
/- A value that comes with a new row. -/
def News (P : Program) (f : Value → Sem Value) (a : CV) (nb : Nat) (v : CV) (row : CR) : Prop := nb < NM ∧ ∀ (M : Nat → CR) (F : Nat → Prop) (w0 : World) (G : Gh) (w : World) (x : Value), Fit F w0 G M w → ¬ G.dom nb → R G a x →
  ∃ G' y w', Step nb (nb + 1) G G' ∧ R G' v y ∧ Fit F w0 G' (upd M nb row) w' ∧ (f x).run P w = .ok y w'
theorem xBox_t {m : Tr CR} {nb t : Nat} {a : CV} {K : KO} (h : xBox m nb t a K = true) : ∃ v row, K v (m.set nb row) (nb + 1) = true ∧ News P (Instr.box t) a nb v row := by
  obtain ⟨l, h1, h2⟩ := ccK_t h
  rw [fN_eq] at h1
  obtain ⟨hn, h1⟩ := newK_t h1
  refine ⟨_, _, h1, hn, fun M F w0 G w x hF hd hx => ?_⟩
  rw [lenL_eq]
  refine ⟨_, .pointer (some ⟨w.heap.size, 0, none⟩), _, .add hd, ?_, hF.alloc1 hd hn (h2 G x hx), ?_⟩
  · simp only [R]
    exact ⟨(Gh.add_at).1, by rw [(Gh.add_at).2.1]; simp⟩
  · simp [Instr.box, newVar, Go.newRow, newObj, Sem.run]
theorem xAlloc_t {m : Tr CR} {nb t : Nat} {K : KO} (h : xAlloc P m nb t K = true) : ∃ v row, K v (m.set nb row) (nb + 1) = true ∧ News P (fun _ => Instr.alloc t true (.tuple #[])) (.bo true) nb v row := by
  obtain ⟨l, h1, h2⟩ := og_t h
  rw [fN_eq] at h2
  obtain ⟨hn, h2⟩ := newK_t h2
  obtain ⟨i, zv, i1, i2, i3, i4⟩ := zc_spec h1
  refine ⟨_, _, h2, hn, fun M F w0 G w x hF hd hx => ?_⟩
  rw [lenL_eq]
  refine ⟨_, .pointer (some ⟨w.heap.size, 0, none⟩), _, .add hd, ?_, hF.alloc1 hd hn (i4 G), ?_⟩
  · simp only [R]
    exact ⟨(Gh.add_at).1, by rw [(Gh.add_at).2.1]; simp⟩
  · simp [Instr.alloc, zeroValue, typeInfo, i1, i2, newVar, Go.newRow, newObj, Sem.run]
end
end Go.Proofs.YteanccnggaakeaaGreat
