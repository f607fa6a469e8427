/- Each operation does to frame and world what it does to the abstract state: operations that make no memory. No condition. -/
import Derived.Test.YtjkfadaedgidpaaGreatAbsG
namespace Go.Proofs.YtjkfadaedgidpaaGreat
open Go.RowKit
set_option linter.unusedVariables false
set_option linter.unusedSimpArgs false
section
variable {P : Program} {B : Env} {w0 w w' : World} {gh gh' : YtjkfadaedgidpaaGreat.Gh} {s : AS} {a : Act} {o : Oper} {e : Eff} {G : Prop} {Q : Exit → Act → World → Prop}
theorem Sim.wf (h : Sim B w0 gh s a w) : s.Wf := ⟨h.wft, h.wfm⟩
theorem R.bare_ {x : AV} {y : Value} (h : R gh w x y) (hk : x.ok) : R gh w x.bare y := by
 unfold AV.bare
 split
 ·simp only [R] at h; exact h.1 hk
 ·exact h
theorem Sim.at_ (h : Sim B w0 gh s a w) {x : Operand} (hk : s.ok x) : R gh w (s.at x) (a.eval x) := R.bare_ (h.ev x) hk
theorem R.wrap {o : Oper} {u : Value} (hG : G) (h : R gh w e.val u) : R gh w (wrapE o G e).val u := by
 unfold wrapE
 split
 ·exact h
 ·simp only [R]; exact ⟨fun _ => h, fun hn => (hn hG).elim⟩
theorem put_tmps (a : Act) (d : Tmp) (u : Value) : (a.put (some d) u).tmps.toList = a.tmps.toList.set d u := by
 simp [Act.put]
theorem Sim.app (h : Sim B w0 gh s a w) (hc : acore P s G o e) (hG : G) {u : Value} (hb : Out B.own w w') (hI : ∀ b, gh.I b → gh'.I b) (hIw : ∀ b, gh.I b → w'.heap[b]? = w.heap[b]?)
  (himm : ∀ b, gh'.I b → b < w'.heap.size) (hon : ∀ r, s.mem r ≠ none → gh'.bt r = gh.bt r ∧ gh'.kp r = gh.kp r ∧ gh'.sz r = gh.sz r)
  (hrows : ∀ r row, ovr e.mem s.mem r = some row → row.g → RowAt B.own gh' w' r row) (hap : Apart gh' (ovr e.mem s.mem)) (hR : R gh' w' e.val u) :
  Sim B w0 gh' (s.app o.dst (wrapE o G e)) (a.put o.dst u) w' := by
 have hwf := h.wf.app hc
 have hm : (s.app o.dst (wrapE o G e)).mem = ovr e.mem s.mem := by simp [AS.app, wrapE_mem]
 have htm : Rt gh' w' s.tm a.tmps.toList := Rt.keep hI hIw _ _ (fun r hr => hon r (h.wft r hr)) h.tm
 refine ⟨?_, ?_, h.below.trans hb, fun k hk => h.base k (Nat.le_trans hb.size hk), himm, by rw [hm]; exact hrows, by rw [hm]; exact hap, hwf.1, ?_, hwf.2⟩
 ·cases o.dst <;> exact h.defers
 ·cases hd : o.dst with
  | none => exact htm
  | some d =>
   rw [put_tmps]
   exact htm.set d (R.wrap hG hR)
 ·intro r row hr hp
  rw [hm] at hr
  have old : s.mem r ≠ none → gh'.bt r = B.pin r ∧ gh'.kp r = B.cap r := fun hn => by
   obtain ⟨row0, hr0⟩ := Option.ne_none_iff_exists'.1 hn
   rw [(hon r hn).1, (hon r hn).2.1]
   exact h.pins r row0 hr0 hp
  rcases ovr_mem hr with hin | ⟨_, hr⟩
  ·rcases (acore_effOk hc r row hin).2 with ⟨_, d, _, hd, ho⟩ | ⟨row0, hr0, _⟩
   ·exact (owner_np ho hd hp).elim
   ·exact old (by rw [hr0]; simp)
  ·exact old (by rw [hr]; simp)
theorem RowAt.keep {r : Nat} {row : ARow} (h : RowAt B.own gh w r row) (hI : ∀ b, gh.I b → gh'.I b) (hIw : ∀ b, gh.I b → w'.heap[b]? = w.heap[b]?)
  (hon : gh'.bt r = gh.bt r ∧ gh'.kp r = gh.kp r ∧ gh'.sz r = gh.sz r) (hels : ∀ el, el ∈ row.els → gh.on gh' (AV.idsL el))
  (hblk : ∀ b, gh.bt r = some b → w'.heap[b]? = w.heap[b]?) (hnI : ∀ b, gh.bt r = some b → ¬ gh.I b → ¬ gh'.I b) : RowAt B.own gh' w' r row := by
 obtain ⟨e1, e2, e3⟩ := hon
 obtain ⟨h1, h2⟩ := h
 refine ⟨by rw [e3]; exact h1, ?_⟩
 rcases h2 with ⟨h2, h3⟩ | ⟨b, cur, vs, k1, k2, k3, k4, k5, k6, k7, k8, k9⟩
 ·exact .inl ⟨by rw [e1]; exact h2, h3⟩
 ·exact .inr ⟨b, cur, vs, by rw [e1]; exact k1, k2, hnI b k1 k3, by rw [hblk b k1]; exact k4, Rss.keep hI hIw _ _ _ hels k5, k6, by rw [e2]; exact k7, by rw [e2]; exact k8, by rw [e2]; exact k9⟩
theorem sound_still {v : AV} {u : Value} (h : Sim B w0 gh s a w) (hc : acore P s G o e) (hG : G) (he : e = ⟨v, []⟩) (hrun : (execOp a.eval o).run P w = .ok (.value u) w) (hR : R gh w v u) :
  o.wp P a w (fun a' w' => ∃ gh', Sim B w0 gh' (s.app o.dst (wrapE o G e)) a' w') Q := by
 unfold Oper.wp
 rw [hrun]
 refine ⟨gh, h.app hc hG (Out.refl _ _) (fun _ h => h) (fun _ _ => rfl) h.imm (fun _ _ => ⟨rfl, rfl, rfl⟩) ?_ ?_ ?_⟩
 ·subst he; exact h.rows
 ·subst he; exact h.apart
 ·subst he; exact hR
theorem grD_eq {I : Nat → Prop} : ∀ {cs : List D} {l vs : List Value}, grD cs = some l → RDs I w cs vs → vs = l
 | [], l, vs, h, hr => by simp only [grD, Option.some.injEq] at h; simp only [RDs] at hr; rw [hr, ← h]
 | .v x :: cs, l, vs, h, hr => by
  simp only [grD, Option.map_eq_some_iff] at h
  obtain ⟨l', h1, rfl⟩ := h
  simp only [RDs, RD] at hr
  obtain ⟨u, t, rfl, rfl, _, hr⟩ := hr
  rw [grD_eq h1 hr]
 | .agg _ :: cs, l, vs, h, hr => by simp [grD] at h
 | .sl _ _ :: cs, l, vs, h, hr => by simp [grD] at h
theorem grL_eq : ∀ {cs : List AV} {l vs : List Value}, grL cs = some l → Rs gh w cs vs → vs = l
 | [], l, vs, h, hr => by simp only [grL, Option.some.injEq] at h; simp only [Rs] at hr; rw [hr, ← h]
 | .d (.v x) :: cs, l, vs, h, hr => by
  simp only [grL, Option.map_eq_some_iff] at h
  obtain ⟨l', h1, rfl⟩ := h
  simp only [Rs, R, RD] at hr
  obtain ⟨u, t, rfl, rfl, _, hr⟩ := hr
  rw [grL_eq h1 hr]
 | .d (.agg _) :: cs, l, vs, h, hr => by simp [grL] at h
 | .d (.sl _ _) :: cs, l, vs, h, hr => by simp [grL] at h
 | .any :: cs, l, vs, h, hr => by simp [grL] at h
 | .ep _ :: cs, l, vs, h, hr => by simp [grL] at h
 | .ref _ _ :: cs, l, vs, h, hr => by simp [grL] at h
 | .ptr _ _ _ :: cs, l, vs, h, hr => by simp [grL] at h
 | .ag _ :: cs, l, vs, h, hr => by simp [grL] at h
 | .tp _ :: cs, l, vs, h, hr => by simp [grL] at h
 | .wh _ _ :: cs, l, vs, h, hr => by simp [grL] at h
theorem gr_eq {x : AV} {v y : Value} (h : x.gr = some v) (hr : R gh w x y) : y = v := by
 unfold AV.gr at h
 split at h
 ·injection h with h; subst h; simpa only [R, RD] using hr
 ·simp only [Option.map_eq_some_iff] at h
  obtain ⟨l, h1, rfl⟩ := h
  simp only [R, RD] at hr
  obtain ⟨vs, rfl, hr⟩ := hr
  rw [grD_eq h1 hr]
 ·simp only [Option.map_eq_some_iff] at h
  obtain ⟨l, h1, rfl⟩ := h
  simp only [R] at hr
  obtain ⟨vs, rfl, hr⟩ := hr
  rw [grL_eq h1 hr]
 ·cases h
theorem run_value {m : Sem Value} {v : Value} (h : m.run P w = .ok v w) : (do pure (.value (← m)) : Sem Next).run P w = .ok (.value v) w := by
 rw [Sem.run_bind, h]; rfl
theorem sound_move {x : Operand} (hop : o.op = .move x ∨ o.op = .assign x) (h : Sim B w0 gh s a w) (hc : acore P s G o e) (hG : G) :
  o.wp P a w (fun a' w' => ∃ gh', Sim B w0 gh' (s.app o.dst (wrapE o G e)) a' w') Q := by
 have hc' := hc
 unfold acore at hc'
 rcases hop with hop | hop <;> simp only [hop] at hc' <;>
  exact sound_still h hc hG hc'.2 (by simp only [execOp, hop]; rfl) (h.at_ (hc'.1 hG))
theorem sound_pick {c x y : Operand} (hop : o.op = .pick c x y) (h : Sim B w0 gh s a w) (hc : acore P s G o e) (hG : G) :
  o.wp P a w (fun a' w' => ∃ gh', Sim B w0 gh' (s.app o.dst (wrapE o G e)) a' w') Q := by
 have hc' := hc
 unfold acore at hc'
 simp only [hop] at hc'
 obtain ⟨t, p, q, h1, h2, h3, h4, h5⟩ := hc'
 obtain ⟨k1, k2, k3⟩ := h4 hG
 have ec : a.eval c = .bool t := by have := h.at_ k1; rw [h1] at this; simpa only [R, RD] using this
 refine sound_still (u := .bool (bif t then p else q)) h hc hG h5 ?_ (by simp only [R, RD])
 cases t with
 | true =>
  have ex : a.eval x = .bool p := by have := h.at_ (k2 rfl); rw [h2 rfl] at this; simpa only [R, RD] using this
  simp [execOp, hop, ec, ex, asBool]
 | false =>
  have ey : a.eval y = .bool q := by have := h.at_ (k3 rfl); rw [h3 rfl] at this; simpa only [R, RD] using this
  simp [execOp, hop, ec, ey, asBool]
theorem sound_binOp {op : BinOp} {t t' : TypeId} {x y : Operand} (hop : o.op = .binOp op t x y t') (h : Sim B w0 gh s a w) (hc : acore P s G o e) (hG : G) :
  o.wp P a w (fun a' w' => ∃ gh', Sim B w0 gh' (s.app o.dst (wrapE o G e)) a' w') Q := by
 have hc' := hc
 unfold acore at hc'
 simp only [hop] at hc'
 obtain ⟨u, v, h1, h2, h3, h4⟩ := hc'
 obtain ⟨k1, k2, k3⟩ := h3 hG
 have ex := gr_eq h1 (h.at_ k1)
 have ey := gr_eq h2 (h.at_ k2)
 refine sound_still (u := binV op u v) h hc hG h4 ?_ (by simp only [R, RD])
 simp only [execOp, hop, ex, ey]
 exact run_value (k3 w)
theorem sound_unOp {op : UnOp} {t : TypeId} {x : Operand} (hop : o.op = .unOp op t x) (h : Sim B w0 gh s a w) (hc : acore P s G o e) (hG : G) :
  o.wp P a w (fun a' w' => ∃ gh', Sim B w0 gh' (s.app o.dst (wrapE o G e)) a' w') Q := by
 have hc' := hc
 unfold acore at hc'
 simp only [hop] at hc'
 obtain ⟨u, h1, h3, h4⟩ := hc'
 obtain ⟨k1, k3⟩ := h3 hG
 have ex := gr_eq h1 (h.at_ k1)
 refine sound_still (u := unV op u) h hc hG h4 ?_ (by simp only [R, RD])
 simp only [execOp, hop, ex]
 exact run_value (k3 w)
theorem sound_convert {t t' : TypeId} {x : Operand} (hop : o.op = .convert t t' x) (h : Sim B w0 gh s a w) (hc : acore P s G o e) (hG : G) :
  o.wp P a w (fun a' w' => ∃ gh', Sim B w0 gh' (s.app o.dst (wrapE o G e)) a' w') Q := by
 have hc' := hc
 unfold acore at hc'
 simp only [hop] at hc'
 obtain ⟨u, h1, h3, h4⟩ := hc'
 obtain ⟨k1, k3⟩ := h3 hG
 have ex := gr_eq h1 (h.at_ k1)
 refine sound_still (u := cvV P t' u) h hc hG h4 ?_ (by simp only [R, RD])
 simp only [execOp, hop, ex]
 exact run_value (k3 w)
theorem sound_extract {i : Nat} {x : Operand} (hop : o.op = .extract x i) (h : Sim B w0 gh s a w) (hc : acore P s G o e) (hG : G) :
  o.wp P a w (fun a' w' => ∃ gh', Sim B w0 gh' (s.app o.dst (wrapE o G e)) a' w') Q := by
 have hc' := hc
 unfold acore at hc'
 simp only [hop] at hc'
 obtain ⟨cs, v, h1, h2, h3, h4⟩ := hc'
 have hr := h.at_ (h3 hG)
 rw [h1] at hr
 simp only [R] at hr
 obtain ⟨vs, ex, hr⟩ := hr
 obtain ⟨u, hu, hr⟩ := hr.get i v h2
 refine sound_still (u := u) h hc hG h4 ?_ hr
 simp only [execOp, hop, ex]
 refine run_value ?_
 simp [Instr.extract, hu]
theorem fieldAt_run {t : TypeId} {f off : Nat} (h : offT P t f = some off) (b o : Nat) : (Instr.fieldAt t (.pointer (some ⟨b, o, none⟩)) f).run P w = .ok (.pointer (some ⟨b, o + off, none⟩)) w := by
 unfold offT at h
 split at h
 ·rename_i fs hfs
  simp only [Option.bind_eq_some_iff] at h
  obtain ⟨fd, h1, i, h2, h3⟩ := h
  split at h3
  ·cases h3
  ·rename_i hsz
   injection h3 with h3
   subst h3
   simp [Instr.fieldAt, run_underlying hfs, h1, Instr.sureAddr, fieldPlace, sizeOf, typeInfo, h2, hsz, Addr.add_lit]
 ·cases h
theorem sound_fieldAddr {t : TypeId} {f : Nat} {x : Operand} (hop : o.op = .fieldAddr t x f) (h : Sim B w0 gh s a w) (hc : acore P s G o e) (hG : G) :
  o.wp P a w (fun a' w' => ∃ gh', Sim B w0 gh' (s.app o.dst (wrapE o G e)) a' w') Q := by
 have hc' := hc
 unfold acore at hc'
 simp only [hop] at hc'
 obtain ⟨off, h1, h2, h3⟩ := hc'
 have hr := h.at_ (h2 hG)
 generalize hx : s.at x = v at *
 split at h3
 ·simp only [R] at hr
  obtain ⟨b, hb, ex⟩ := hr
  refine sound_still h hc hG h3 (u := .pointer (some ⟨b, _, none⟩)) ?_ (by simp only [R]; exact ⟨b, hb, by rw [← Nat.add_assoc]⟩)
  simp only [execOp, hop, ex]
  exact run_value (fieldAt_run h1 b _)
 ·simp only [R] at hr
  obtain ⟨b, o', vs, ex, hI, hd, hcells⟩ := hr
  refine sound_still h hc hG h3 (u := .pointer (some ⟨b, o' + off, none⟩)) ?_ (by simp only [R]; exact ⟨b, o' + off, vs.drop off, rfl, hI, hd.drop off, hcells.drop off⟩)
  simp only [execOp, hop, ex]
  exact run_value (fieldAt_run h1 b _)
 ·simp only [R, RD] at hr
  obtain ⟨b, o', vs, ex, hI, hd, hcells⟩ := hr
  refine sound_still h hc hG h3 (u := .pointer (some ⟨b, o' + off, none⟩)) ?_ (by simp only [R]; exact ⟨b, o' + off, vs.drop off, rfl, hI, hd.drop off, hcells.drop off⟩)
  simp only [execOp, hop, ex]
  exact run_value (fieldAt_run h1 b _)
 ·exact h3.elim
theorem sliceT_spec {t e : TypeId} (h : sliceT P t = some e) : P.underlying t = some (.slice e) ∧ ∃ i, P.info? e = some i ∧ i.size = szT P e := by
 unfold sliceT at h
 split at h
 ·rename_i e' he
  split at h
  ·rename_i hi
   injection h with h
   subst h
   obtain ⟨i, hi⟩ := Option.isSome_iff_exists.1 hi
   exact ⟨he, i, hi, by simp [szT, hi]⟩
  ·cases h
 ·cases h
theorem arrT_spec {t e : TypeId} {n : Nat} (h : arrT P t = some (n, e)) : P.underlying t = some (.array n e) ∧ ∃ i, P.info? e = some i ∧ i.size = szT P e := by
 unfold arrT at h
 split at h
 ·rename_i n' e' he
  split at h
  ·rename_i hi
   injection h with h
   injection h with h h'
   subst h h'
   obtain ⟨i, hi⟩ := Option.isSome_iff_exists.1 hi
   exact ⟨he, i, hi, by simp [szT, hi]⟩
  ·cases h
 ·cases h
theorem indexAt_slice_run {t e : TypeId} {k : IntKind} {n : Int} {len c : Nat} (h : sliceT P t = some e) (b o : Nat) (h0 : 0 ≤ n) (h1 : n < (len : Int)) :
  (Instr.indexAt t (.slice (some ⟨b, o, none⟩) len c) (.int k n)).run P w = .ok (.pointer (some ⟨b, o + n.toNat * szT P e, none⟩)) w := by
 obtain ⟨hu, i, hi, hs⟩ := sliceT_spec h
 simp [Instr.indexAt, asIntOf, run_underlying hu, h0, h1, sizeOf, typeInfo, hi, hs, Addr.add_lit]
theorem indexAt_arr_run {t e : TypeId} {k : IntKind} {n : Int} {len : Nat} (h : arrT P t = some (len, e)) (b o : Nat) (h0 : 0 ≤ n) (h1 : n < (len : Int)) :
  (Instr.indexAt t (.pointer (some ⟨b, o, none⟩)) (.int k n)).run P w = .ok (.pointer (some ⟨b, o + n.toNat * szT P e, none⟩)) w := by
 obtain ⟨hu, i, hi, hs⟩ := arrT_spec h
 simp [Instr.indexAt, asIntOf, run_underlying hu, h0, h1, sizeOf, typeInfo, hi, hs, Addr.add_lit, Instr.sureAddr]
theorem sound_indexAddr {t : TypeId} {x ix : Operand} (hop : o.op = .indexAddr t x ix) (h : Sim B w0 gh s a w) (hc : acore P s G o e) (hG : G) :
  o.wp P a w (fun a' w' => ∃ gh', Sim B w0 gh' (s.app o.dst (wrapE o G e)) a' w') Q := by
 have hc' := hc
 unfold acore at hc'
 simp only [hop] at hc'
 obtain ⟨kd, n, h1, h2, h3⟩ := hc'
 obtain ⟨k1, k2⟩ := h2 hG
 have hi := h.at_ k2
 rw [h1] at hi
 simp only [R, RD] at hi
 have hr := h.at_ k1
 have hids := h.wf.at_ x
 generalize hx : s.at x = v at *
 split at h3
 ·obtain ⟨⟨et, hs, hsz⟩, hlt, h3⟩ := h3
  obtain ⟨l1, l2⟩ := hlt hG
  simp only [R, RD] at hr
  obtain ⟨A, c, ex, hr⟩ := hr
  rcases hr with hr | ⟨b, o', vs, rfl, hI, hd, hcells, hcap⟩
  ·subst hr; simp at l2; omega
  ·rename_i sz els
   have hlt' : n.toNat < els.length := by omega
   obtain ⟨us, m1, m2, m3⟩ := hd.get n.toNat _ (List.getElem?_eq_getElem hlt')
   refine sound_still h hc hG h3 (u := .pointer (some ⟨b, o' + n.toNat * szT P et, none⟩)) ?_ ?_
   ·simp only [execOp, hop, ex, hi]
    exact run_value (indexAt_slice_run hs b o' l1 l2)
   ·simp only [R, List.getD, List.getElem?_eq_getElem hlt', Option.getD_some]
    exact ⟨b, _, us, rfl, hI, m2, by rw [hsz]; exact hcells.sub m3⟩
 ·obtain ⟨⟨et, row, hs, hm, hsz, hg⟩, hlt, h3⟩ := h3
  obtain ⟨l1, l2⟩ := hlt hG
  simp only [R] at hr
  rcases hr with ⟨_, h0, _⟩ | ⟨b, hb, ex⟩
  ·omega
  ·obtain ⟨hsz', _⟩ := h.rows _ row hm (hg hG).1
   refine sound_still h hc hG h3 (u := .pointer (some ⟨b, 0 + n.toNat * szT P et, none⟩)) ?_ ?_
   ·simp only [execOp, hop, ex, hi]
    exact run_value (indexAt_slice_run hs b 0 l1 l2)
   ·simp only [R]
    exact ⟨b, hb, by rw [hsz', hsz]; simp⟩
 ·obtain ⟨m, et, hs, hlt, h3⟩ := h3
  obtain ⟨l1, l2⟩ := hlt hG
  simp only [R] at hr
  obtain ⟨b, hb, ex⟩ := hr
  refine sound_still h hc hG h3 (u := .pointer (some ⟨b, _, none⟩)) ?_ (by simp only [R]; exact ⟨b, hb, by rw [← Nat.add_assoc]⟩)
  simp only [execOp, hop, ex, hi]
  exact run_value (indexAt_arr_run hs b _ l1 l2)
 ·obtain ⟨m, et, hs, hlt, h3⟩ := h3
  obtain ⟨l1, l2⟩ := hlt hG
  simp only [R] at hr
  obtain ⟨b, o', vs, ex, hI, hd, hcells⟩ := hr
  refine sound_still h hc hG h3 (u := .pointer (some ⟨b, o' + n.toNat * szT P et, none⟩)) ?_ (by simp only [R]; exact ⟨b, _, vs.drop _, rfl, hI, hd.drop _, hcells.drop _⟩)
  simp only [execOp, hop, ex, hi]
  exact run_value (indexAt_arr_run hs b _ l1 l2)
 ·exact h3.elim
end
end Go.Proofs.YtjkfadaedgidpaaGreat
