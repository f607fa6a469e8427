/- Each operation does to frame and world what it does to the abstract state: stores into rows, slices written out, append. No condition. -/
import Derived.Test.YtjkfadaedgidpaaGreatAbsJ
import Derived.Maps.AppendAt
namespace Go.Proofs.YtjkfadaedgidpaaGreat
open Go.RowKit
set_option linter.unusedVariables false
set_option linter.unusedSimpArgs false
theorem spliceV_left {u t new : List Value} {off : Nat} (h : off + new.length ≤ u.length) : spliceV (u ++ t) off new = spliceV u off new ++ t := by
 unfold spliceV
 rw [List.take_append_of_le_length (by omega), List.drop_append_of_le_length (by omega)]
 simp
theorem spliceV_right {u t new : List Value} {off : Nat} (h : u.length ≤ off) : spliceV (u ++ t) off new = u ++ spliceV t (off - u.length) new := by
 unfold spliceV
 rw [List.take_append, List.drop_append, List.take_of_length_le h, List.drop_of_length_le (by omega), show off + new.length - u.length = off - u.length + new.length by omega]
 simp
section
variable {P : Program} {B : Env} {w0 w w' : World} {gh gh' : YtjkfadaedgidpaaGreat.Gh} {s : AS} {a : Act} {o : Oper} {e : Eff} {G : Prop} {Q : Exit → Act → World → Prop}
theorem Rss.setCells {sz : Nat} : ∀ {els : List (List AV)} {vs : List Value} (i : Nat) {el : List AV} {o : Nat} {new : List AV} {us : List Value}, Rss gh w sz els vs → els[i]? = some el → Rs gh w new us → o + new.length ≤ sz →
  Rss gh w sz (els.set i (splice el o new)) (spliceV vs (i * sz + o) us)
 | [], vs, i, el, o, new, us, h, hi, hn, ho => by simp at hi
 | x :: els, vs, i, el, o, new, us, h, hi, hn, ho => by
  simp only [Rss] at h
  obtain ⟨u, t, rfl, h1, h2, h⟩ := h
  have hl := hn.length
  cases i with
  | zero =>
   simp at hi; subst hi
   rw [Nat.zero_mul, Nat.zero_add, spliceV_left (by omega)]
   simp only [List.set_cons_zero, Rss]
   exact ⟨_, t, rfl, by rw [spliceV_length (by omega), h1], h2.splice o hn, h⟩
  | succ i =>
   have hge : u.length ≤ (i + 1) * sz + o := by rw [h1, Nat.succ_mul]; omega
   rw [spliceV_right hge]
   simp only [List.set_cons_succ, Rss]
   refine ⟨u, _, rfl, h1, h2, ?_⟩
   have := Rss.setCells i h (by simpa using hi) hn ho
   rwa [show (i + 1) * sz + o - u.length = i * sz + o by rw [h1, Nat.succ_mul]; omega]
theorem Out.setRow_ {B : Nat → Prop} {w : World} {g : Nat} (cs : Array Value) (h : B g) : Out B w (w.setRow g cs) :=
 ⟨rfl, rfl, rfl, by simp, fun k hk hn => setRow_other w g k cs (fun e => hn (e ▸ h))⟩
theorem sound_store {t : TypeId} {x y : Operand} (hop : o.op = .store t x y) (h : Sim B w0 gh s a w) (hc : acore P s G o e) (hG : G) :
  o.wp P a w (fun a' w' => ∃ gh', Sim B w0 gh' (s.app o.dst (wrapE o G e)) a' w') Q := by
 have hc' := hc
 unfold acore at hc'
 simp only [hop] at hc'
 obtain ⟨_, ht, k1, k2, r, i, off, row, hx, hm, hg, huq, hi, hlen, hcell, hfit, he⟩ := hc'
 have hrx := h.at_ k1
 rw [hx] at hrx
 simp only [R] at hrx
 obtain ⟨b, hb, ex⟩ := hrx
 have hry := (h.at_ k2).cellsOf hcell
 obtain ⟨hsz, hrow⟩ := h.rows r row hm hg
 rcases hrow with ⟨hn, _⟩ | ⟨b', cur, vs, m1, m2, m3, m4, m5, m6, m7, m8, m9⟩
 ·rw [hb] at hn; cases hn
 rw [hb] at m1
 injection m1 with m1
 subst m1
 have hel : row.els[i]? = some row.els[i] := List.getElem?_eq_getElem hi
 have hgd : row.els.getD i [] = row.els[i] := by simp [List.getD, hel]
 rw [hgd] at hfit he
 obtain ⟨us, n1, n2, n3⟩ := m5.get i _ hel
 have hl1 := hry.length
 have hl2 := n2.length
 have hl3 := m5.flat
 have hmul : (i + 1) * row.sz ≤ row.els.length * row.sz := Nat.mul_le_mul_right _ (by omega)
 have hmul2 : row.els.length * row.sz ≤ gh.kp r * row.sz := Nat.mul_le_mul_right _ m9
 rw [Nat.succ_mul] at hmul
 have hoff : i * row.sz + off + (a.eval y).cells.toList.length ≤ vs.length := by omega
 have hvs : vs.length ≤ cur.size := by omega
 have hone : ∀ v ∈ (a.eval y).cells.toList, v.oneCell' = true := hry.one
 have hst := run_storeCells_at P b (i * row.sz + off) row.ty (a.eval y).cells.toList 0 cur w m4 (by omega) hone
 rw [Nat.add_zero] at hst
 obtain ⟨_, ti, hti, htis⟩ := tyOk_spec ht
 have hcs : (a.eval y).cells.size = szT P t := by rw [← hlen, hl1]; simp
 have hrun : (execOp a.eval o).run P w = .ok .skip (w.setRow b (spliceV cur.toList (i * row.sz + off) (a.eval y).cells.toList).toArray) := by
  have : (storeVar t ⟨b, i * gh.sz r + off, none⟩ (a.eval y)).run P w = .ok () (w.setRow b (spliceV cur.toList (i * row.sz + off) (a.eval y).cells.toList).toArray) := by
   rw [hsz]
   simp only [storeVar, sizeOf, typeInfo, Sem.run_bind, run_program, Result.andThen_ok, hti, Sem.run_pure, htis, hcs, ne_eq, not_true_eq_false, if_false]
   exact hst
  simp only [execOp, hop, ex, Instr.storeAt, Instr.sureAddr, Sem.run_bind, Sem.run_pure, Result.andThen_ok, this]
 unfold Oper.wp
 rw [hrun]
 have hnb : ∀ b', b' ≠ b → (w.setRow b (spliceV cur.toList (i * row.sz + off) (a.eval y).cells.toList).toArray).heap[b']? = w.heap[b']? := fun b' hne => setRow_other _ _ _ _ hne
 have hIw : ∀ b', gh.I b' → (w.setRow b (spliceV cur.toList (i * row.sz + off) (a.eval y).cells.toList).toArray).heap[b']? = w.heap[b']? := fun b' hI => hnb b' fun e => m3 (e ▸ hI)
 refine ⟨gh, h.app hc hG (Out.setRow_ _ m2) (fun _ h => h) hIw (fun b' hI => by simpa using h.imm b' hI) (fun _ _ => ⟨rfl, rfl, rfl⟩) ?_ ?_ (by rw [he]; simp [R, RD])⟩
 ·intro r' row' hr' hg'
  rw [he] at hr'
  simp only [ovr] at hr'
  split at hr'
  ·rename_i hrr
   subst hrr
   injection hr' with hr'
   subst hr'
   refine ⟨hsz, .inr ⟨b, (spliceV cur.toList (i * row.sz + off) (a.eval y).cells.toList).toArray, spliceV vs (i * row.sz + off) (a.eval y).cells.toList, hb, m2, m3, setRow_heap w b cur _ row.ty _ m4, ?_, ?_, ?_, m8, by simpa using m9⟩⟩
   ·have hk : Rs gh (w.setRow b (spliceV cur.toList (i * row.sz + off) (a.eval y).cells.toList).toArray) (s.at y).cellsOf (a.eval y).cells.toList := Rs.keep (fun _ h => h) hIw _ _ (fun _ _ => ⟨rfl, rfl, rfl⟩) hry
    have hk5 : Rss gh (w.setRow b (spliceV cur.toList (i * row.sz + off) (a.eval y).cells.toList).toArray) row.sz row.els vs := Rss.keep (fun _ h => h) hIw _ _ _ (fun _ _ _ _ => ⟨rfl, rfl, rfl⟩) m5
    exact hk5.setCells i hel hk (by rw [hlen]; omega)
   ·rw [spliceV_length (by omega)]
    simp only [spliceV]
    rw [← m6]
    simp only [List.length_take, Array.length_toList]
    rw [show min vs.length cur.size = vs.length by omega]
    apply List.ext_getElem?
    intro j
    simp only [List.getElem?_take, List.getElem?_append, List.length_append, List.length_take, List.getElem?_drop, Array.length_toList]
    by_cases h1 : j < vs.length
    ·simp only [h1, if_true]
     by_cases h2 : j < i * row.sz + off
     ·have e1 : j < min (i * row.sz + off) cur.size + (a.eval y).cells.size := by omega
      have e2 : j < min (i * row.sz + off) cur.size := by omega
      have e3 : j < min (i * row.sz + off) (min vs.length cur.size) + (a.eval y).cells.size := by omega
      have e4 : j < min (i * row.sz + off) (min vs.length cur.size) := by omega
      simp [h2, e1, e2, e3, e4]
     ·by_cases h3 : j < i * row.sz + off + (a.eval y).cells.size
      ·have a1 : min (i * row.sz + off) cur.size = i * row.sz + off := by simp at hoff; omega
       have a2 : min (i * row.sz + off) (min vs.length cur.size) = i * row.sz + off := by simp at hoff; omega
       simp [a1, a2, h2, h3]
      ·have a1 : min (i * row.sz + off) cur.size = i * row.sz + off := by simp at hoff; omega
       have a2 : min (i * row.sz + off) (min vs.length cur.size) = i * row.sz + off := by simp at hoff; omega
       have a3 : i * row.sz + off + (a.eval y).cells.size + (j - (i * row.sz + off + (a.eval y).cells.size)) = j := by omega
       simp [a1, a2, h3, a3, h1]
    ·simp only [h1, if_false]
     have a2 : min (i * row.sz + off) (min vs.length cur.size) = i * row.sz + off := by simp at hoff; omega
     have e1 : ¬ j < min (i * row.sz + off) (min vs.length cur.size) + (a.eval y).cells.size := by simp at hoff; omega
     have e2 : ¬ (i * row.sz + off + (a.eval y).cells.size + (j - (i * row.sz + off + (a.eval y).cells.size)) < vs.length) := by omega
     simp only [a2] at e1
     simp [a2, e1]
     intro h5
     omega
   ·simp only [List.size_toArray]
    rw [spliceV_length (by simp at hoff ⊢; omega)]
    simpa using m7
  ·rename_i hrr
   refine (h.rows r' row' hr' hg').keep (fun _ h => h) hIw ⟨rfl, rfl, rfl⟩ (fun _ _ _ _ => ⟨rfl, rfl, rfl⟩) (fun b' hb' => hnb b' fun e => ?_) (fun _ _ h => h)
   subst e
   have := (h.apart r r' row row' b' (fun e => hrr e.symm) hm hr' hg hg' hb hb').1
   rw [huq] at this
   cases this
 ·intro r1 r2 row1 row2 b0 hne h1 h2 g1 g2 b1 b2
  rw [he] at h1 h2
  simp only [ovr] at h1 h2
  have other : ∀ (r' : Nat) (row' : ARow), r' ≠ r → s.mem r' = some row' → row'.g → gh.bt r = some b0 → gh.bt r' = some b0 → False := fun r' row' hne hr' hg' hb0 hb0' => by
   have := (h.apart r r' row row' b0 (Ne.symm hne) hm hr' hg hg' hb0 hb0').1
   rw [huq] at this
   cases this
  split at h1
  ·rename_i hr1
   subst hr1
   split at h2
   ·rename_i hr2; exact (hne hr2.symm).elim
   ·exact (other r2 row2 (Ne.symm hne) h2 g2 b1 b2).elim
  ·split at h2
   ·rename_i hr1 hr2
    subst hr2
    exact (other r1 row1 hne h1 g1 b2 b1).elim
   ·exact h.apart r1 r2 row1 row2 b0 hne h1 h2 g1 g2 b1 b2
end
end Go.Proofs.YtjkfadaedgidpaaGreat
