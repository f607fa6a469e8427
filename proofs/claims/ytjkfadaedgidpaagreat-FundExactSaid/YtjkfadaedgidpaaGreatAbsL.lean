/- Each operation does to frame and world what it does to the abstract state: append. No condition. -/
import Derived.Test.YtjkfadaedgidpaaGreatAbsK
namespace Go.Proofs.YtjkfadaedgidpaaGreat
open Go.RowKit
set_option linter.unusedVariables false
set_option linter.unusedSimpArgs false
section
variable {P : Program} {B : Env} {w0 w w' : World} {gh gh' : YtjkfadaedgidpaaGreat.Gh} {s : AS} {a : Act} {o : Oper} {e : Eff} {G : Prop} {Q : Exit → Act → World → Prop}
theorem asD_slice (h : Sim B w0 gh s a w) {x : Operand} {sz : Nat} {ds : List (List D)} (hk : s.ok x) (hd : asD s (s.at x) (.sl sz ds)) (hg : asG s (s.at x)) :
  ∃ A c, a.eval x = .slice A ds.length c ∧ (ds = [] ∨ ∃ b o' vs, A = some ⟨b, o', none⟩ ∧ Rss gh w sz (ds.map (·.map .d)) vs ∧ cellsAt w b o' vs) := by
 have hr := h.at_ hk
 generalize s.at x = v at *
 unfold asD at hd
 split at hd
 ·obtain ⟨sz', hd | hd⟩ := hd
  ·injection hd with e1 e2
   subst e2
   simp only [R, RD] at hr
   exact ⟨_, _, hr, .inl rfl⟩
  ·cases hd
 ·subst hd
  simp only [R, RD] at hr
  obtain ⟨A, c, ex, hr⟩ := hr
  refine ⟨A, c, ex, ?_⟩
  rcases hr with hr | ⟨b, o', vs, h1, _, h3, h4, _⟩
  ·exact .inl hr
  ·exact .inr ⟨b, o', vs, h1, Rss.of_RDss h3, h4⟩
 ·obtain ⟨ds', _, hd⟩ := hd; cases hd
 ·obtain ⟨row, ds', hm, hels, hn, hd⟩ := hd
  injection hd with e1 e2
  subst e1 e2
  subst hn
  simp only [R] at hr
  rcases hr with ⟨hb, h0, ex⟩ | ⟨b, hb, ex⟩
  ·exact ⟨_, _, by rw [ex, h0], .inl (List.eq_nil_of_length_eq_zero h0)⟩
  ·refine ⟨_, _, ex, ?_⟩
   obtain ⟨hsz, hrow⟩ := h.rows _ row hm (hg row hm)
   rcases hrow with ⟨hn, _⟩ | ⟨b', cur, vs, m1, m2, m3, m4, m5, m6, m7, m8, m9⟩
   ·rw [hb] at hn; cases hn
   ·rw [hb] at m1; injection m1 with m1; subst m1
    rw [hels] at m5
    exact .inr ⟨b, 0, vs, rfl, m5, cellsAt.of_block m4 m6⟩
 ·obtain ⟨row, cells, _, _, _, _, hd⟩ := hd; cases hd
 ·cases hd
 ·exact hd.elim
theorem Rss.of_mapD_keep {sz : Nat} (hI : ∀ b, gh.I b → gh'.I b) (hw : ∀ b, gh.I b → w'.heap[b]? = w.heap[b]?) {ds : List (List D)} {vs : List Value} (h : Rss gh w sz (ds.map (·.map .d)) vs) : Rss gh' w' sz (ds.map (·.map .d)) vs :=
 Rss.keep hI hw _ _ _ (fun el hel r hr => by
  obtain ⟨l, _, rfl⟩ := List.mem_map.1 hel
  rw [idsL_mapD] at hr
  simp at hr) h
theorem Sim.appendRow (h : Sim B w0 gh s a w) (hc : acore P s G o e) (hG : G) {r d : Nat} {row rowd : ARow} {v : AV} (he : e = ⟨v, [(r, { row with uq := false, ap := false }), (d, rowd)]⟩) (hfree : s.mem d = none) (hm : s.mem r = some row) (hg : row.g) (hap : row.ap = true)
  (hsz : rowd.sz = row.sz) (hfam : rowd.fam = row.fam) (huq : rowd.uq = false) (hgd : rowd.g) (hlen : row.els.length ≤ rowd.els.length) {b : Option Nat} {k : Nat} {u : Value}
  (hb : Out B.own w w') (hblk : ∀ i, i < w.heap.size → some i ≠ gh.bt r → w'.heap[i]? = w.heap[i]?)
  (hkeep : ∀ i cur, gh.bt r = some i → w.heap[i]? = some (.cells cur row.ty (0, 0)) → ∃ cur', w'.heap[i]? = some (.cells cur' row.ty (0, 0)) ∧ cur'.size = cur.size ∧ cur'.toList.take (row.els.length * row.sz) = cur.toList.take (row.els.length * row.sz))
  (hnew : (b = none ∧ rowd.els = []) ∨ ∃ b' cur vs, b = some b' ∧ (gh.bt r = some b' ∨ w.heap.size ≤ b') ∧ w'.heap[b']? = some (.cells cur rowd.ty (0, 0)) ∧ Rss gh w rowd.sz rowd.els vs ∧ cur.toList.take vs.length = vs ∧ cur.size = k * rowd.sz ∧ k ≤ maxLen ∧ rowd.els.length ≤ k)
  (hR : R (gh.add d b k rowd.sz) w' v u) :
  Sim B w0 (gh.add d b k rowd.sz) (s.app o.dst (wrapE o G e)) (a.put o.dst u) w' := by
 have hne : ∀ r, s.mem r ≠ none → r ≠ d := fun r hr e => hr (by rw [e]; exact hfree)
 have hrd : r ≠ d := hne r (by rw [hm]; simp)
 obtain ⟨hsz0, hrow0⟩ := h.rows r row hm hg
 have hbI : ∀ i, gh.bt r = some i → ¬ gh.I i ∧ B.own i ∧ i < w.heap.size := fun i hi => by
  rcases hrow0 with ⟨hn, _⟩ | ⟨b', cur, vs, m1, m2, m3, m4, _⟩
  ·rw [hi] at hn; cases hn
  ·rw [hi] at m1; injection m1 with m1; subst m1
   exact ⟨m3, m2, (Array.getElem?_eq_some_iff.1 m4).1⟩
 have hIw : ∀ i, gh.I i → w'.heap[i]? = w.heap[i]? := fun i hI => hblk i (h.imm i hI) fun e => (hbI i e.symm).1 hI
 have hids := acore_ids h.wf hc
 have hon : ∀ el : List AV, (∀ r', r' ∈ AV.idsL el → s.mem r' ≠ none) → Gh.on gh (gh.add d b k rowd.sz) (AV.idsL el) := fun el hel r' hr' => Gh.add_ne gh _ _ _ (hne r' (hel r' hr'))
 have old : ∀ (r' : Nat) (row' : ARow), s.mem r' = some row' → row'.g → RowAt B.own (gh.add d b k rowd.sz) w' r' row' := fun r' row' hr' hg' => by
  have hn' : s.mem r' ≠ none := by rw [hr']; simp
  by_cases hsame : ∃ i, gh.bt r' = some i ∧ gh.bt r = some i
  ·obtain ⟨i, hi', hi⟩ := hsame
   obtain ⟨e1, e2, e3⟩ := Gh.add_ne gh b k rowd.sz (hne r' hn')
   have hle : row'.els.length ≤ row.els.length ∧ row'.sz = row.sz := by
    by_cases hrr : r' = r
    ·subst hrr; rw [hm] at hr'; injection hr' with hr'; subst hr'; exact ⟨Nat.le_refl _, rfl⟩
    ·obtain ⟨_, _, q2, q3⟩ := h.apart r r' row row' i (fun e => hrr e.symm) hm hr' hg hg' hi hi'
     exact ⟨(q3 hap).1, q2.symm⟩
   obtain ⟨hsz', hrow'⟩ := h.rows r' row' hr' hg'
   rcases hrow' with ⟨hn, _⟩ | ⟨b', cur, vs, m1, m2, m3, m4, m5, m6, m7, m8, m9⟩
   ·rw [hi'] at hn; cases hn
   ·rw [hi'] at m1; injection m1 with m1; subst m1
    have hty : row'.ty = row.ty := by
     rcases hrow0 with ⟨hn, _⟩ | ⟨b0, cur0, vs0, p1, _, _, p4, _⟩
     ·rw [hi] at hn; cases hn
     ·rw [hi] at p1; injection p1 with p1; subst p1
      rw [m4] at p4
      injection p4 with p4
      injection p4
    rw [hty] at m4
    obtain ⟨cur', c1, c2, c3⟩ := hkeep i cur hi m4
    refine ⟨by rw [e3]; exact hsz', .inr ⟨i, cur', vs, by rw [e1]; exact hi', m2, m3, by rw [hty]; exact c1, Rss.keep (G := gh) (G' := gh.add d b k rowd.sz) (fun _ h => h) hIw _ _ _ (fun el hel => hon el (h.wfm r' row' hr' el hel)) m5, ?_, by rw [e2, c2]; exact m7, by rw [e2]; exact m8, by rw [e2]; exact m9⟩⟩
    have hvl := m5.flat
    have hmul : row'.els.length * row'.sz ≤ row.els.length * row.sz := by rw [hle.2]; exact Nat.mul_le_mul_right _ hle.1
    have : cur'.toList.take vs.length = (cur'.toList.take (row.els.length * row.sz)).take vs.length := by rw [List.take_take, Nat.min_eq_left (by omega)]
    rw [this, c3, List.take_take, Nat.min_eq_left (by omega)]
    exact m6
  ·exact (h.rows r' row' hr' hg').keep (fun _ h => h) hIw (Gh.add_ne gh _ _ _ (hne r' hn')) (fun el hel => hon el (h.wfm r' row' hr' el hel))
    (fun i hi => hblk i (row_block h hr' hg' hi) fun e => hsame ⟨i, hi, e.symm⟩) (fun _ _ hn => hn)
 have hovr : ∀ r' row', ovr e.mem s.mem r' = some row' → (r' = r ∧ row' = { row with uq := false, ap := false }) ∨ (r' = d ∧ row' = rowd) ∨ (r' ≠ r ∧ r' ≠ d ∧ s.mem r' = some row') := fun r' row' hr' => by
  rw [he] at hr'
  simp only [ovr] at hr'
  split at hr'
  ·rename_i e1; injection hr' with hr'; exact .inl ⟨e1, hr'.symm⟩
  ·rename_i e1
   split at hr'
   ·rename_i e2; injection hr' with hr'; exact .inr (.inl ⟨e2, hr'.symm⟩)
   ·rename_i e2; exact .inr (.inr ⟨e1, e2, hr'⟩)
 refine h.app hc hG hb (fun _ h => h) hIw (fun i hI => Nat.lt_of_lt_of_le (h.imm i hI) hb.size) (fun r hr => Gh.add_ne gh _ _ _ (hne r hr)) ?_ ?_ (by rw [he]; exact hR)
 ·intro r' row' hr' hg'
  rcases hovr r' row' hr' with ⟨rfl, rfl⟩ | ⟨rfl, rfl⟩ | ⟨_, _, hr'⟩
  ·exact old r' row hm hg
  ·obtain ⟨e1, e2, e3⟩ := Gh.add_eq gh r' b k row'.sz
   refine ⟨e3, ?_⟩
   rcases hnew with ⟨k1, k2⟩ | ⟨b', cur, vs, k1, k2, k3, k4, k5, k6, k7, k8⟩
   ·exact .inl ⟨by rw [e1]; exact k1, k2⟩
   ·refine .inr ⟨b', cur, vs, by rw [e1]; exact k1, ?_, fun hI => ?_, k3, Rss.keep (G := gh) (G' := gh.add r' b k row'.sz) (fun _ h => h) hIw _ _ _ (fun el hel => hon el (hids.2 r' row' (by rw [he]; simp) el hel)) k4, k5, by rw [e2]; exact k6, by rw [e2]; exact k7, by rw [e2]; exact k8⟩
    ·rcases k2 with k2 | k2
     ·exact (hbI b' k2).2.1
     ·exact h.base _ k2
    ·rcases k2 with k2 | k2
     ·exact (hbI b' k2).1 hI
     ·have := h.imm b' hI; omega
  ·exact old r' row' hr' hg'
 ·intro r1 r2 row1 row2 b0 hr12 h1 h2 g1 g2 b1 b2
  have btd : (gh.add d b k rowd.sz).bt d = b := (Gh.add_eq gh d b k rowd.sz).1
  have bto : ∀ r', r' ≠ d → (gh.add d b k rowd.sz).bt r' = gh.bt r' := fun r' hr' => (Gh.add_ne gh b k rowd.sz hr').1
  have shr : b = some b0 → ∀ r' row', s.mem r' = some row' → row'.g → gh.bt r' = some b0 → gh.bt r = some b0 := fun hb0 r' row' hr' hg' hbt => by
   rcases hnew with ⟨k1, _⟩ | ⟨b', _, _, k1, k2, _⟩
   ·rw [hb0] at k1; cases k1
   ·rw [hb0] at k1; injection k1 with k1; subst k1
    rcases k2 with k2 | k2
    ·exact k2
    ·have := row_block h hr' hg' hbt; omega
  rcases hovr r1 row1 h1 with ⟨e1, rfl⟩ | ⟨e1, e1'⟩ | ⟨n1, n1', q1⟩ <;> rcases hovr r2 row2 h2 with ⟨e2, rfl⟩ | ⟨e2, e2'⟩ | ⟨n2, n2', q2⟩
  ·exact (hr12 (by rw [e1, e2])).elim
  ·exact ⟨rfl, by rw [e2']; exact hfam.symm, by rw [e2']; exact hsz.symm, fun hh => by cases hh⟩
  ·rw [e1, bto r hrd] at b1
   rw [bto r2 n2'] at b2
   obtain ⟨_, a1, a2, _⟩ := h.apart r r2 row row2 b0 (fun e => n2 e.symm) hm q2 hg g2 b1 b2
   exact ⟨rfl, a1, a2, fun hh => by cases hh⟩
  ·rw [e1'] at g1 ⊢
   exact ⟨huq, hfam, hsz, fun _ => ⟨hlen, rfl⟩⟩
  ·exact (hr12 (by rw [e1, e2])).elim
  ·rw [e1, btd] at b1
   rw [bto r2 n2'] at b2
   have hbr := shr b1 r2 row2 q2 g2 b2
   obtain ⟨a1, a0, a2, a3⟩ := h.apart r r2 row row2 b0 (fun e => n2 e.symm) hm q2 hg g2 hbr b2
   rw [e1']
   exact ⟨huq, by rw [hfam]; exact a0, by rw [hsz]; exact a2, fun _ => ⟨Nat.le_trans (a3 hap).1 hlen, (a3 hap).2⟩⟩
  ·rw [bto r1 n1'] at b1
   rw [e2, bto r hrd] at b2
   obtain ⟨a1, a0, a2, a3⟩ := h.apart r1 r row1 row b0 n1 q1 hm g1 hg b1 b2
   exact ⟨a1, a0, a2, fun hh => ⟨(a3 hh).1, rfl⟩⟩
  ·rw [bto r1 n1'] at b1
   rw [e2, btd] at b2
   have hbr := shr b2 r1 row1 q1 g1 b1
   obtain ⟨a1, a0, a2, a3⟩ := h.apart r1 r row1 row b0 n1 q1 hm g1 hg b1 hbr
   obtain ⟨c1, _, c2, c3⟩ := h.apart r r1 row row1 b0 (fun e => n1 e.symm) hm q1 hg g1 hbr b1
   have := (c3 hap).2
   exact ⟨a1, by rw [e2', hfam]; exact a0, by rw [e2', hsz]; exact a2, fun hh => by rw [this] at hh; cases hh⟩
  ·rw [bto r1 n1'] at b1
   rw [bto r2 n2'] at b2
   exact h.apart r1 r2 row1 row2 b0 hr12 q1 q2 g1 g2 b1 b2
theorem append_none_run {t e : TypeId} (hs : sliceT P t = some e) (ty : TypeId) (A : Option Addr) (n k c : Nat) (hn : n ≤ k) :
  (Builtin.append_ #[t, t] ty #[.slice A n k, .slice none 0 c]).run P w = .ok (.slice A n k) w := by
 obtain ⟨hu, i, hi, _⟩ := sliceT_spec hs
 cases A <;> simp [Builtin.append_, run_underlying hu, sizeOf, typeInfo, hi, Builtin.lenOf, Builtin.firstCells, hn, storeCells]
theorem append_nil0_run {t e : TypeId} (hs : sliceT P t = some e) (ty : TypeId) (A : Option Addr) (c : Nat) :
  (Builtin.append_ #[t, t] ty #[.slice none 0 0, .slice A 0 c]).run P w = .ok (.slice none 0 0) w := by
 obtain ⟨hu, i, hi, _⟩ := sliceT_spec hs
 cases A <;> simp [Builtin.append_, run_underlying hu, sizeOf, typeInfo, hi, Builtin.lenOf, Builtin.firstCells, loadCells, loadCellsFrom]
theorem sound_append {c : Call} (hop : o.op = .call c) (hcl : c.callee = .builtin .append) (h : Sim B w0 gh s a w) (hc : acore P s G o e) (hG : G) :
  o.wp P a w (fun a' w' => ∃ gh', Sim B w0 gh' (s.app o.dst (wrapE o G e)) a' w') Q := by
 have hc' := hc
 unfold acore at hc'
 simp only [hop, hcl] at hc'
 obtain ⟨_, x, y, t, et, d, new, h1, h2, hs, hd, hlt, hfree, kx, ky, hz, hzl, hpos, hy, hyg, h5⟩ := hc'
 obtain ⟨hu, i, hi, his⟩ := sliceT_spec hs
 obtain ⟨z, hz⟩ := Option.isSome_iff_exists.1 hz
 obtain ⟨i', zv, i1, i2, i3⟩ := zeroT_spec hz
 rw [hi] at i1
 injection i1 with i1
 subst i1
 have hzs : zv.cells.size = i.size := by
  rw [hz] at hzl
  simp only [Option.getD_some] at hzl
  rw [his, ← hzl, ← i3]; simp
 have hby : i.bytes = byT P et := by simp [byT, hi]
 obtain ⟨A, c', ey, hcells⟩ := asD_slice h ky hy hyg
 have hrx := h.at_ kx
 have hexec : ∀ v u w', a.eval x = v → (Builtin.append_ #[t, t] o.type #[v, .slice A new.length c']).run P w = .ok u w' → (execOp a.eval o).run P w = .ok (.value u) w' := fun v u w' ev hrun => by
  simp only [execOp, hop, resolve, hcl, Sem.run_bind, Sem.run_pure, Result.andThen_ok, invoke, builtin, h1, h2, List.map_toArray, List.map_cons, List.map_nil, ev, ey, hrun]
 have src : 0 < new.length → ∃ b o' us, A = some ⟨b, o', none⟩ ∧ Rss gh w (szT P et) (new.map (·.map .d)) us ∧ us.length = new.length * i.size ∧ (∀ j u, us[j]? = some u → w.cell? ((⟨b, o', none⟩ : Addr).add j) = some u) ∧ ∀ u ∈ us, u.oneCell' = true := fun hn => by
  rcases hcells with hcells | ⟨b, o', us, hA, hr, hca⟩
  ·subst hcells; simp at hn
  ·refine ⟨b, o', us, hA, hr, ?_, fun j u hj => ?_, hr.one⟩
   ·rw [hr.flat, his]; simp
   ·rw [Addr.add_lit]; exact hca j u hj
 have zn : new.length = 0 → new = [] := fun hn => List.eq_nil_of_length_eq_zero hn
 generalize hxv : s.at x = v at *
 split at h5
 ·-- onto nil
  obtain ⟨hml, hmb, h5⟩ := h5
  simp only [R, RD] at hrx
  rcases Nat.eq_zero_or_pos new.length with h0 | h0
  ·have hrun := hexec _ _ _ hrx (by rw [h0]; exact append_nil0_run hs o.type A c')
   have hn := zn h0
   unfold Oper.wp
   rw [hrun]
   refine ⟨_, h.newRow hc hG h5 hfree (b := none) (k := 0) (Below.refl _ _) (fun _ => .inl ⟨rfl, by simp [newRow1, hn]⟩) ?_⟩
   simp only [R]
   exact .inl ⟨(Gh.add_eq gh d _ _ _).1, h0, trivial⟩
  ·obtain ⟨b, o', us, rfl, hr, hul, hca, hone⟩ := src h0
   have hm63 : (new.length : Int) ≤ 9223372036854775807 := by simp only [maxLen] at hml; omega
   have hrun := hexec _ _ _ hrx (run_append_nil (P := P) w t o.type et i zv hu hi i2 ⟨b, o', none⟩ new.length c' us hul hca h0 hm63 (by rw [hby]; omega))
   unfold Oper.wp
   rw [hrun]
   have hge := grownCap_ge w new.length 0 et
   have hcap : grownCap w new.length 0 et ≤ maxLen := grownCap_le_maxLen w _ 0 et hml
   refine ⟨_, h.newRow hc hG h5 hfree (b := some w.heap.size) (k := grownCap w new.length 0 et) ⟨rfl, rfl, rfl, by simp, fun k hk => _root_.Go.heap_alloc_old w.drew _ hk⟩ (fun _ => .inr ⟨w.heap.size, _, us, rfl, Nat.le_refl _, heap_alloc_new w.drew _, hr, ?_, ?_, hcap, by simpa [newRow1] using hge⟩) ?_⟩
   ·simp only [Array.toList_append]
    exact List.take_left
   ·simp only [Array.size_append, List.size_toArray, size_zeroCells, hzs, hul, newRow1, ← Nat.add_mul, his]
    congr 1
    omega
   ·simp only [R]
    exact .inr ⟨w.heap.size, (Gh.add_eq gh d _ _ _).1, by rw [(Gh.add_eq gh d _ _ _).2.1]⟩
 ·-- onto a row
  rename_i r n
  obtain ⟨row, old, hm, hg, hap, hty, hsz, hels, hn, hml, hmb, h5⟩ := h5
  have hrl : row.els.length = n := by rw [hels, hn]; simp
  obtain ⟨hsz0, hrow⟩ := h.rows r row hm hg
  simp only [R] at hrx
  rcases hrx with ⟨hb, hn0, ex⟩ | ⟨b, hb, ex⟩
  ·-- the row is nil
   have hold : old = [] := List.eq_nil_of_length_eq_zero (by omega)
   subst hold
   rcases Nat.eq_zero_or_pos new.length with h0 | h0
   ·have hrun := hexec _ _ _ ex (by rw [h0]; exact append_nil0_run hs o.type A c')
    have hnn := zn h0
    unfold Oper.wp
    rw [hrun]
    refine ⟨_, h.appendRow hc hG h5 hfree hm hg hap rfl rfl rfl hg (by rw [hrl]; omega) (b := none) (k := 0) (Out.refl _ _) (fun _ _ _ => rfl) (fun i cur hi => by rw [hb] at hi; cases hi) (.inl ⟨rfl, by simp [hnn]⟩) ?_⟩
    simp only [R]
    exact .inl ⟨(Gh.add_eq gh d _ _ _).1, by omega, trivial⟩
   ·obtain ⟨b', o', us, rfl, hr, hul, hca, hone⟩ := src h0
    have hm63 : (new.length : Int) ≤ 9223372036854775807 := by simp only [maxLen] at hml; omega
    have hmb' : new.length * byT P et ≤ 140737488355328 := by rw [hn0, Nat.zero_add] at hmb; exact hmb
    have hrun := hexec _ _ _ ex (run_append_nil (P := P) w t o.type et i zv hu hi i2 ⟨b', o', none⟩ new.length c' us hul hca h0 hm63 (by rw [hby]; omega))
    unfold Oper.wp
    rw [hrun]
    have hge := grownCap_ge w new.length 0 et
    have hcap : grownCap w new.length 0 et ≤ maxLen := grownCap_le_maxLen w _ 0 et (by omega)
    refine ⟨_, h.appendRow hc hG h5 hfree hm hg hap rfl rfl rfl hg (by rw [hrl]; omega) (b := some w.heap.size) (k := grownCap w new.length 0 et) ⟨rfl, rfl, rfl, by simp, fun k hk _ => _root_.Go.heap_alloc_old w.drew _ hk⟩ (fun k hk _ => _root_.Go.heap_alloc_old w.drew _ hk) (fun i cur hi => by rw [hb] at hi; cases hi)
     (.inr ⟨w.heap.size, _, us, rfl, .inr (Nat.le_refl _), by rw [hty]; exact heap_alloc_new w.drew _, by simpa [hsz] using hr, ?_, ?_, hcap, by simpa using hge⟩) ?_⟩
    ·simp only [Array.toList_append]
     exact List.take_left
    ·simp only [Array.size_append, List.size_toArray, size_zeroCells, hzs, hul, ← Nat.add_mul, his, hsz]
     congr 1
     omega
    ·simp only [R]
     exact .inr ⟨w.heap.size, (Gh.add_eq gh d _ _ _).1, by rw [(Gh.add_eq gh d _ _ _).2.1, hn0, Nat.zero_add]⟩
  ·rcases hrow with ⟨hbn, _⟩ | ⟨b', cur, vs, m1, m2, m3, m4, m5, m6, m7, m8, m9⟩
   ·rw [hb] at hbn; cases hbn
   rw [hb] at m1
   injection m1 with m1
   subst m1
   have hvl := m5.flat
   rw [hels] at m5
   have hble := row_block h hm hg hb
   have hsz' : row.sz = i.size := by rw [hsz, his]
   have hnl : vs.length = n * i.size := by rw [hvl, hrl, hsz']
   by_cases hroom : n + new.length ≤ gh.kp r
   ·-- there is room
    have hfit : n * i.size + new.length * i.size ≤ cur.size := by rw [m7, hsz', ← Nat.add_mul]; exact Nat.mul_le_mul_right _ hroom
    have hrun : ∃ us, Rss gh w (szT P et) (new.map (·.map .d)) us ∧ us.length = new.length * i.size ∧ (execOp a.eval o).run P w = .ok (.value (.slice (some ⟨b, 0, none⟩) (n + new.length) (gh.kp r))) (w.setRow b (cur.toList.take (n * i.size) ++ us ++ cur.toList.drop (n * i.size + us.length)).toArray) := by
     rcases Nat.eq_zero_or_pos new.length with h0 | h0
     ·have hnn := zn h0
      refine ⟨[], by simp [hnn, Rss], by simp [h0], ?_⟩
      have e0 : (cur.toList.take (n * i.size) ++ [] ++ cur.toList.drop (n * i.size + ([] : List Value).length)).toArray = cur := by simp
      rw [e0, setRow_self w b cur row.ty (0, 0) m4]
      refine hexec _ _ _ ex ?_
      rcases A with _ | ad
      ·rw [h0, Nat.add_zero]; exact append_none_run hs o.type _ n _ _ (by omega)
      ·have := run_append_room (P := P) w t o.type et i hu hi b n (gh.kp r) cur (by rw [← hty]; exact m4) ad new.length c' [] (by simp [h0]) (by simp) (by simp) hroom (by simp; omega)
       rw [e0, setRow_self w b cur row.ty (0, 0) m4] at this
       exact this
     ·obtain ⟨b', o', us, rfl, hr, hul, hca, hone⟩ := src h0
      exact ⟨us, hr, hul, hexec _ _ _ ex (run_append_room (P := P) w t o.type et i hu hi b n (gh.kp r) cur (by rw [← hty]; exact m4) ⟨b', o', none⟩ new.length c' us hul hca hone hroom (by rw [hul]; exact hfit))⟩
    obtain ⟨us, hr, hul, hrun⟩ := hrun
    unfold Oper.wp
    rw [hrun]
    have hct : cur.toList.take (n * i.size) = vs := by rw [← hnl]; exact m6
    have hcl1 : n * i.size ≤ cur.size := by omega
    refine ⟨_, h.appendRow hc hG h5 hfree hm hg hap rfl rfl rfl hg (by rw [hrl]; simp; omega) (b := some b) (k := gh.kp r) (Out.setRow_ _ m2) (fun k _ hne => setRow_other w b k _ (fun e => hne (by rw [e, hb])))
     (fun i' cur0 hi' hcur0 => ?_) (.inr ⟨b, _, vs ++ us, rfl, .inl hb, setRow_heap w b cur _ row.ty _ m4, ?_, ?_, ?_, m8, by simpa [hn] using hroom⟩) ?_⟩
    ·rw [hb] at hi'
     injection hi' with hi'
     subst hi'
     rw [m4] at hcur0
     injection hcur0 with hcur0
     injection hcur0 with hcur0
     subst hcur0
     refine ⟨_, setRow_heap w b cur _ row.ty _ m4, ?_, ?_⟩
     ·simp only [List.size_toArray, List.length_append, List.length_take, List.length_drop, Array.length_toList]
      omega
     ·rw [hrl, hsz']
      simp only [hct]
      rw [List.append_assoc, List.take_append_of_le_length (by omega), List.take_of_length_le (by omega)]
    ·simp only [List.map_append, hsz]
     rw [hsz] at m5
     exact m5.append hr
    ·simp only [hct]
     exact List.take_left
    ·simp only [List.size_toArray, List.length_append, List.length_take, List.length_drop, Array.length_toList]
     rw [← m7]
     omega
    ·simp only [R]
     exact .inr ⟨b, (Gh.add_eq gh d _ _ _).1, by rw [(Gh.add_eq gh d _ _ _).2.1]⟩
   ·-- it grows
    have h0 : 0 < new.length := by omega
    obtain ⟨b', o', us, rfl, hr, hul, hca, hone⟩ := src h0
    have holds : ∀ j u, vs[j]? = some u → w.cell? ((⟨b, 0, none⟩ : Addr).add j) = some u := fun j u hj => by
     rw [Addr.add_lit]; exact cellsAt.of_block m4 m6 j u hj
    have hm63 : ((n + new.length : Nat) : Int) ≤ 9223372036854775807 := by simp only [maxLen] at hml; omega
    have hrun := hexec _ _ _ ex (run_append_grow (P := P) w t o.type et i zv hu hi i2 ⟨b, 0, none⟩ n (gh.kp r) vs hnl holds ⟨b', o', none⟩ new.length c' us hul hca (by omega) hm63 (growslice_fits (by omega) (by rw [hby]; exact hmb)))
    unfold Oper.wp
    rw [hrun]
    have hge := grownCap_ge w (n + new.length) (gh.kp r) et
    have hcap : grownCap w (n + new.length) (gh.kp r) et ≤ maxLen := grownCap_le_maxLen w _ _ et hml
    refine ⟨_, h.appendRow hc hG h5 hfree hm hg hap rfl rfl rfl hg (by rw [hrl]; simp; omega) (b := some w.heap.size) (k := grownCap w (n + new.length) (gh.kp r) et) ⟨rfl, rfl, rfl, by simp, fun k hk _ => _root_.Go.heap_alloc_old w.drew _ hk⟩ (fun k hk _ => _root_.Go.heap_alloc_old w.drew _ hk)
     (fun i' cur0 hi' hcur0 => ⟨cur0, by rw [hb] at hi'; injection hi' with hi'; subst hi'; rw [← hcur0]; exact _root_.Go.heap_alloc_old w.drew _ hble, rfl, rfl⟩)
     (.inr ⟨w.heap.size, _, vs ++ us, rfl, .inr (Nat.le_refl _), by rw [hty]; exact heap_alloc_new w.drew _, ?_, ?_, ?_, hcap, by simpa [hn] using hge⟩) ?_⟩
    ·simp only [List.map_append, hsz]
     rw [hsz] at m5
     exact m5.append hr
    ·simp only [Array.toList_append, List.append_assoc]
     rw [← List.append_assoc]
     exact List.take_left
    ·simp only [Array.size_append, List.size_toArray, size_zeroCells, hzs, hul, hnl, ← Nat.add_mul, hsz']
     congr 1
     omega
    ·simp only [R]
     exact .inr ⟨w.heap.size, (Gh.add_eq gh d _ _ _).1, by rw [(Gh.add_eq gh d _ _ _).2.1]⟩
 ·exact h5.elim
end
end Go.Proofs.YtjkfadaedgidpaaGreat
