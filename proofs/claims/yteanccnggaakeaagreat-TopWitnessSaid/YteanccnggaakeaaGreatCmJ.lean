/- Operations on rows: stores, slices that are built or made. No condition. -/
import Derived.Test.YteanccnggaakeaaGreatCmI
namespace Go.Proofs.YteanccnggaakeaaGreat
open Go.RowKit
set_option linter.unusedVariables false
set_option linter.unusedSimpArgs false

theorem spliceV_left {u t new : List Value} {off : Nat} (h : off + new.length ≤ u.length) : spliceV (u ++ t) off new = spliceV u off new ++ t := by
  unfold spliceV
  rw [List.take_append_of_le_length (by omega), List.drop_append_of_le_length (by omega)]
  simp
theorem spliceV_right {u t new : List Value} {off : Nat} (h : u.length ≤ off) : spliceV (u ++ t) off new = u ++ spliceV t (off - u.length) new := by
  unfold spliceV
  rw [List.take_append, List.drop_append, List.take_of_length_le h, List.drop_of_length_le (by omega), show off + new.length - u.length = off - u.length + new.length by omega]
  simp
theorem take_spliceV {cs vs new : List Value} {off : Nat} (h : cs.take vs.length = vs) (ho : off + new.length ≤ vs.length) : (spliceV cs off new).take (spliceV vs off new).length = spliceV vs off new := by
  have hl : vs.length ≤ cs.length := by rw [← h, List.length_take]; omega
  have : cs = vs ++ cs.drop vs.length := by
    have := List.take_append_drop vs.length cs
    rw [h] at this
    exact this.symm
  rw [this, spliceV_left ho]
  exact List.take_left
section
variable {P : Program} {F : Nat → Prop} {w0 w w' : World} {G G' : Gh} {M : Nat → CR} {tm : Tr CV}
theorem Rss.setCells {sz : Nat} : ∀ {els : List (List CV)} {vs : List Value} (i : Nat) {el : List CV} {o : Nat} {new : List CV} {us : List Value}, Rss G sz els vs → els[i]? = some el → Rs G new us → o + new.length ≤ sz →
    Rss G sz (els.set i (splice el o new)) (spliceV vs (i * sz + o) us)
  | [], vs, i, el, o, new, us, h, hi, hn, ho => by simp at hi
  | x :: els, vs, i, el, o, new, us, h, hi, hn, ho => by
    simp only [Rss] at h
    obtain ⟨u, t, rfl, h1, h2, h⟩ := h
    have hl := hn.length
    cases i with
    | zero =>
      simp at hi; subst hi
      rw [Nat.zero_mul, Nat.zero_add, spliceV_left (by omega)]
      simp only [List.set_cons_zero, Rss]
      exact ⟨_, t, rfl, by rw [spliceV_length (by omega), h1], h2.splice o hn, h⟩
    | succ i =>
      have hge : u.length ≤ (i + 1) * sz + o := by rw [h1, Nat.succ_mul]; omega
      rw [spliceV_right hge]
      simp only [List.set_cons_succ, Rss]
      refine ⟨u, _, rfl, h1, h2, ?_⟩
      have := Rss.setCells i h (by simpa using hi) hn ho
      rwa [show (i + 1) * sz + o - u.length = i * sz + o by rw [h1, Nat.succ_mul]; omega]
/- Cells of a row are written. -/
theorem RowAt.write {r ty sz i o : Nat} {els : List (List CV)} {el new : List CV} {us : List Value} (h : RowAt G w r ty sz els) (hi : els[i]? = some el) (hn : Rs G new us) (ho : o + new.length ≤ sz) :
    ∃ cs, (storeCells ⟨G.bt r, i * G.sz r + o, none⟩ us).run P w = .ok () (w.setRow (G.bt r) cs) ∧ RowAt G (w.setRow (G.bt r) cs) r ty sz (els.set i (splice el o new)) := by
  obtain ⟨cur, vs, h1, h2, h3, h4⟩ := h.at_
  have hl := hn.length
  have hfl := h2.flat
  have hlt := (List.getElem?_eq_some_iff.1 hi).1
  have hmul : (i + 1) * sz ≤ els.length * sz := Nat.mul_le_mul_right _ (by omega)
  have hmul2 : els.length * sz ≤ G.kp r * sz := Nat.mul_le_mul_right _ h.len
  rw [Nat.succ_mul] at hmul
  have hst := run_storeCells_at P (G.bt r) (i * sz + o) ty us 0 cur w h1 (by omega) hn.one
  rw [Nat.add_zero] at hst
  refine ⟨(spliceV cur.toList (i * sz + o) us).toArray, by rw [h.hsz]; exact hst, ⟨h.hsz, h.cap, by simpa using h.len, _, spliceV vs (i * sz + o) us, setRow_heap w _ cur _ ty _ h1, h2.setCells i hi hn ho, ?_, ?_⟩⟩
  · exact take_spliceV h3 (by omega)
  · simp only [List.size_toArray]
    rw [spliceV_length (by simp; omega)]
    simpa using h4
noncomputable def elK (o s sz : Nat) (cs el : List CV) (K : List CV → Bool) : Bool := Nat.rec (Bool.rec (fL (putL cs el 0) K) (K cs) (Nat.beq s sz)) (fun _ _ => fL (putL cs el o) K) o
theorem elK_t {o s sz : Nat} {cs el : List CV} {K : List CV → Bool} (h : elK o s sz cs el K = true) : ∃ el', K el' = true ∧ (cs.length = s → el.length = sz → el' = splice el o cs) := by
  cases o with
  | zero =>
    rcases rec_b (show (Bool.rec (fL (putL cs el 0) K) (K cs) (Nat.beq s sz) : Bool) = true from h) with ⟨hb, h1⟩ | ⟨hb, h1⟩
    · have := Nat.eq_of_beq_eq_true hb
      refine ⟨_, h1, fun hs he => ?_⟩
      unfold splice
      rw [List.drop_of_length_le (by omega)]
      simp
    · rw [fL_eq, putL_eq] at h1
      exact ⟨_, h1, fun _ _ => rfl⟩
  | succ o =>
    have h1 : fL (putL cs el (o + 1)) K = true := h
    rw [fL_eq, putL_eq] at h1
    exact ⟨_, h1, fun _ _ => rfl⟩
/- A store. -/
noncomputable def xStore (P : Program) (m : Tr CR) (nb t : Nat) (a b : CV) (K : KO) : Bool :=
  onPtr (fun r i o => tst (Nat.blt r 65536) (ccK (fun cs => rowK m r fun ty sz els => atL els (fun el => tst (Nat.beq (lenL cs) (szT P t)) (tst (Nat.ble (Nat.add o (szT P t)) sz) (tst (tyOk P t) (elK o (szT P t) sz cs el fun el => fL (setL els el i) fun els => m.setK r (.live ty sz els) fun m => K (.val undef) m nb)))) i) b)) a
theorem Rs.same_len {els : List (List CV)} {vs : List Value} {sz : Nat} (h : Rss G sz els vs) {i : Nat} {el : List CV} (hi : els[i]? = some el) : el.length = sz := by
  obtain ⟨us, h1, h2, _⟩ := h.get i el hi
  rw [h2.length, h1]
def Stores (P : Program) (m : Tr CR) (nb t : Nat) (a b : CV) (m' : Tr CR) : Prop := (∀ (F : Nat → Prop) (w0 : World) (G : Gh) (w : World) (x y : Value), Fit F w0 G (lk m) w → R G a x → R G b y → ∃ w', Fit F w0 G (lk m') w' ∧ (Instr.storeAt t x y).run P w = .ok () w')
theorem xStore_t {m : Tr CR} {nb t : Nat} {a b : CV} {K : KO} (hm : MemOK m nb) (h : xStore P m nb t a b K = true) : ∃ m', K (.val undef) m' nb = true ∧ MemOK m' nb ∧ Stores P m nb t a b m' := by
  obtain ⟨r, i, o, rfl, h⟩ := onPtr_t h
  obtain ⟨hr, h⟩ := tst_t h
  have hr : r < NM := blt_t hr
  obtain ⟨cs, h1, h2⟩ := ccK_t h
  obtain ⟨ty, sz, els, h3, h4⟩ := rowK_t h1
  obtain ⟨el, h5, h6⟩ := atL_t h4
  obtain ⟨h7, h8⟩ := tst_t h6
  obtain ⟨h9, h10⟩ := tst_t h8
  obtain ⟨h11, h12⟩ := tst_t h10
  have hcl : cs.length = szT P t := by rw [← lenL_eq]; exact Nat.eq_of_beq_eq_true h7
  have hfit : o + szT P t ≤ sz := Nat.le_of_ble_eq_true h9
  obtain ⟨el', k1, k2⟩ := elK_t h12
  rw [fL_eq, setL_eq, Tr.setK_eq] at k1
  have hrn : r < nb := Nat.lt_of_not_le fun hge => by
    have := hm.low r hge
    rw [lk, if_pos hr, h3] at this
    cases this
  refine ⟨_, k1, hm.set hr (Nat.le_refl _) hrn _, fun F w0 G w x y hF hx hy => ?_⟩
  simp only [R] at hx
  obtain ⟨hd, rfl⟩ := hx
  have hrow := hF.row hd h3
  obtain ⟨cur, vs, q1, q2, q3, q4⟩ := hrow.at_
  have hel := Rs.same_len q2 h5
  have e := k2 hcl hel
  subst e
  obtain ⟨cs', s1, s2⟩ := hrow.write (P := P) (o := o) h5 (h2 G y hy) (by rw [hcl]; exact hfit)
  refine ⟨w.setRow (G.bt r) cs', ?_, ?_⟩
  · rw [lk_set hm.wf hr]
    exact hF.store hd (hF.alive hd h3) rfl rfl rfl (by simp) (fun j hj => setRow_other w _ j _ hj) s2
  · obtain ⟨_, ti, hti, htis⟩ := tyOk_spec h11
    have hys := (h2 G y hy).length
    have hcs : y.cells.size = szT P t := by rw [← hcl, hys]; simp
    simp only [Instr.storeAt, Instr.sureAddr, Sem.run_bind, Sem.run_pure, Result.andThen_ok, storeVar, sizeOf, typeInfo, run_program, hti, htis, hcs, ne_eq, not_true_eq_false, if_false]
    exact s1
end
end Go.Proofs.YteanccnggaakeaaGreat
