/- The builtin clear at a piece of a slice of one's own. No condition. -/
import Derived.Test.YtcpkhnciplfmkaaAbsS
namespace Go.Proofs.Ytcpkhnciplfmkaa
open Go.RowKit
set_option linter.unusedVariables false
set_option linter.unusedSimpArgs false
section
variable {P : Program} {B : Env} {w0 w w' : World} {gh gh' : Ytcpkhnciplfmkaa.Gh} {s : AS} {a : Act} {o : Oper} {Q : Exit → Act → World → Prop}
theorem Rss.take_ {sz : Nat} : ∀ {xs : List (List AV)} {vs : List Value} (n : Nat), Rss gh w sz xs vs → Rss gh w sz (xs.take n) (vs.take (n * sz))
  | xs, vs, 0, h => by simp [Rss]
  | [], vs, n + 1, h => by simp only [Rss] at h; subst h; simp [Rss]
  | x :: xs, vs, n + 1, h => by
    simp only [Rss] at h
    obtain ⟨u, t, rfl, h1, h2, h⟩ := h
    rw [List.take_succ_cons, show (n + 1) * sz = u.length + n * sz by rw [h1, Nat.succ_mul]; omega, List.take_append]
    rw [List.take_of_length_le (l := u) (by omega), show u.length + n * sz - u.length = n * sz by omega]
    simp only [Rss]
    exact ⟨u, _, rfl, h1, h2, Rss.take_ n h⟩
theorem Rss.drop_ {sz : Nat} : ∀ {xs : List (List AV)} {vs : List Value} (n : Nat), Rss gh w sz xs vs → Rss gh w sz (xs.drop n) (vs.drop (n * sz))
  | xs, vs, 0, h => by simpa using h
  | [], vs, n + 1, h => by simp only [Rss] at h; subst h; simp [Rss]
  | x :: xs, vs, n + 1, h => by
    simp only [Rss] at h
    obtain ⟨u, t, rfl, h1, h2, h⟩ := h
    rw [List.drop_succ_cons, show (n + 1) * sz = u.length + n * sz by rw [h1, Nat.succ_mul]; omega, List.drop_append]
    rw [List.drop_of_length_le (show u.length ≤ u.length + n * sz by omega), List.nil_append, show u.length + n * sz - u.length = n * sz by omega]
    exact Rss.drop_ n h
/- The items of a row from k on, n of them, made 0. -/
def clrEls (els : List (List AV)) (k n : Nat) (z : List Value) : List (List AV) := els.take k ++ List.replicate n (z.map fun u => AV.d (.v u)) ++ els.drop (k + n)
def CStep (P : Program) (s : AS) (o : Oper) (K : AS → Prop) : Prop :=
  o.guard = none ∧ ∃ x t e z r k n row, o.op = .call { callee := .builtin .clear, args := #[x], argTypes := #[t] } ∧ sliceT P t = some e ∧ zeroT P e = some z ∧ z.length = szT P e ∧ 0 < szT P e ∧ (∀ u ∈ z, u.oneCell' = true) ∧
    s.at x = .sub r k n ∧ s.ok x ∧ s.mem r = some row ∧ row.g ∧ row.uq = true ∧ row.sz = szT P e ∧ 0 < n ∧ k + n ≤ row.els.length ∧
    K ⟨mTm s o.dst (.tp []), ovr [(r, { row with els := clrEls row.els k n z })] s.mem⟩
theorem clear_run {t e : TypeId} {z : List Value} (hs : sliceT P t = some e) (hz : zeroT P e = some z) (hzl : z.length = szT P e) (hp : 0 < szT P e) (h1 : ∀ u ∈ z, u.oneCell' = true) (ty rt : TypeId) (b off n c : Nat) (cur : Array Value)
    (hb : w.heap[b]? = some (.cells cur rt (0, 0))) (hn : 0 < n) (hfit : off + n * szT P e ≤ cur.size) :
    (Builtin.clear_ #[t] ty #[.slice (some ⟨b, off, none⟩) n c]).run P w = .ok (.tuple #[]) (w.setRow b (spliceV cur.toList off (List.replicate n z).flatten).toArray) := by
  obtain ⟨hu, i, hi, his⟩ := sliceT_spec hs
  obtain ⟨i', zv, i1, i2, i3⟩ := zeroT_spec hz
  have hsz : zv.cells.size = z.length := by rw [← i3]; simp
  have hc : (Builtin.zeroCells zv.cells n).toList = (List.replicate n z).flatten := by
    have := made_flat zv.cells (by omega) n
    have h2 : Builtin.zeroCells zv.cells n = madeCells zv.cells (n * zv.cells.size) := rfl
    rw [h2, this, ← i3]
  have hl : (List.replicate n z).flatten.length = n * szT P e := by rw [flat_rep, hzl]
  have hone : ∀ v ∈ (List.replicate n z).flatten, v.oneCell' = true := fun v hv => by
    obtain ⟨l, hl, hv⟩ := List.mem_flatten.1 hv
    rw [List.eq_of_mem_replicate hl] at hv
    exact h1 v hv
  have hst := run_storeCells_at P b off rt (List.replicate n z).flatten 0 cur w hb (by omega) hone
  rw [Nat.add_zero] at hst
  obtain ⟨m, rfl⟩ : ∃ m, n = m + 1 := ⟨n - 1, by omega⟩
  simp only [Builtin.clear_, List.getElem?_toArray, List.getElem?_cons_zero, Sem.run_bind, run_underlying hu, Result.andThen_ok]
  simp only [zeroValue, typeInfo, Sem.run_bind, run_program, Result.andThen_ok, i1, i2, Sem.run_pure, hc]
  simp [hst, spliceV]
theorem sound_clear {K : AS → Prop} (h : Sim B w0 gh s a w) (hs : CStep P s o K) : o.wp P a w (fun a' w' => ∃ s' gh', K s' ∧ Sim B w0 gh' s' a' w') Q := by
  obtain ⟨hgd, x, t, et, z, r, k, n, row, hop, hsl, hz, hzl, hp, h1, hx, hk, hm, hg, huq, hsz0, hn, hfit, hnext⟩ := hs
  have hrx := h.at_ hk
  rw [hx] at hrx
  simp only [R] at hrx
  obtain ⟨b, A, hb, ex, hA⟩ := hrx
  have hA : A = some ⟨b, k * gh.sz r, none⟩ := hA.resolve_left (by omega)
  subst hA
  obtain ⟨hsz, hrow⟩ := h.rows r row hm hg
  rcases hrow with ⟨hn', _⟩ | ⟨b', cur, vs, m1, m2, m3, m4, m5, m6, m7, m8, m9⟩
  · rw [hb] at hn'; cases hn'
  rw [hb] at m1
  injection m1 with m1
  subst m1
  have hl3 := m5.flat
  have hmul : (k + n) * row.sz ≤ row.els.length * row.sz := Nat.mul_le_mul_right _ hfit
  have hmul2 : row.els.length * row.sz ≤ gh.kp r * row.sz := Nat.mul_le_mul_right _ m9
  rw [Nat.add_mul] at hmul
  have hvs : vs.length ≤ cur.size := by omega
  obtain ⟨zs, hzs⟩ : ∃ zs, zs = (List.replicate n z).flatten := ⟨_, rfl⟩
  have hzsl : zs.length = n * row.sz := by rw [hzs, flat_rep, hzl, hsz0]
  have hrun : (execOp a.eval o).run P w = .ok (.value (.tuple #[])) (w.setRow b (spliceV cur.toList (k * row.sz) zs).toArray) := by
    have := clear_run (P := P) (w := w) hsl hz hzl hp h1 o.type row.ty b (k * row.sz) n (gh.kp r - k) cur m4 hn (by rw [← hsz0]; omega)
    rw [hsz] at ex
    rw [hzs]
    simp only [execOp, hop, resolve, List.map_toArray, List.map_cons, List.map_nil, ex, invoke, builtin, Sem.run_bind, Sem.run_pure, Result.andThen_ok, this]
  unfold Oper.wp
  rw [hrun]
  obtain ⟨w', hw'⟩ : ∃ w', w' = w.setRow b (spliceV cur.toList (k * row.sz) zs).toArray := ⟨_, rfl⟩
  rw [← hw']
  have hnb : ∀ b', b' ≠ b → w'.heap[b']? = w.heap[b']? := fun b' hne => by rw [hw']; exact setRow_other _ _ _ _ hne
  have hIw : ∀ b', gh.I b' → w'.heap[b']? = w.heap[b']? := fun b' hI => hnb b' fun e => m3 (e ▸ hI)
  have hout : Out B.own w w' := by rw [hw']; exact Out.setRow_ _ m2
  have hnew : w'.heap[b]? = some (.cells (spliceV cur.toList (k * row.sz) zs).toArray row.ty (0, 0)) := by rw [hw']; exact setRow_heap w b cur _ row.ty _ m4
  have same : gh.on gh = fun _ => gh.on gh [] := by funext l; simp [Gh.on]
  have on_ : ∀ l, gh.on gh l := fun l r _ => ⟨rfl, rfl, rfl⟩
  refine ⟨_, gh, hnext, ?_⟩
  have has : ∀ r', s.mem r' ≠ none → ovr [(r, { row with els := clrEls row.els k n z })] s.mem r' ≠ none := fun r' hr => by
    simp only [ovr]
    split
    · simp
    · exact hr
  refine ⟨?_, ?_, h.below.trans hout, fun k hk => h.base k (Nat.le_trans hout.size hk), fun b' hI => Nat.lt_of_lt_of_le (h.imm b' hI) hout.size, ?_, ?_, ?_, ?_, ?_⟩
  · cases o.dst <;> exact h.defers
  · have htm : Rt gh w' s.tm a.tmps.toList := Rt.keep (fun _ h => h) hIw _ _ (on_ _) h.tm
    unfold mTm
    cases hd : o.dst with
    | none => exact htm
    | some d =>
      rw [put_tmps]
      refine htm.set d ?_
      simp only [R, Rt]
      exact ⟨[], rfl, rfl⟩
  · intro r' row' hr' hg'
    simp only [ovr] at hr'
    split at hr'
    · rename_i hrr
      subst hrr
      injection hr' with hr'
      subst hr'
      have hk5 : Rss gh w' row.sz row.els vs := Rss.keep (fun _ h => h) hIw _ _ _ (fun _ _ => on_ _) m5
      have hkey : Rss gh w' row.sz (clrEls row.els k n z) (spliceV vs (k * row.sz) zs) := by
        unfold clrEls spliceV
        refine Rss.append (Rss.append (hk5.take_ k) ?_) ?_
        · rw [hzs]; exact Rss.rep (by rw [hzl, hsz0]) h1 n
        · have := hk5.drop_ (k + n)
          rw [hzsl, ← Nat.add_mul]
          exact this
      have hel : (clrEls row.els k n z).length = row.els.length := by simp [clrEls]; omega
      refine ⟨hsz, .inr ⟨b, (spliceV cur.toList (k * row.sz) zs).toArray, spliceV vs (k * row.sz) zs, hb, m2, m3, hnew, hkey, ?_, ?_, m8, by simp only [hel]; exact m9⟩⟩
      · rw [spliceV_length (by omega)]
        simp only [spliceV]
        have hv : vs = cur.toList.take vs.length := m6.symm
        have e1 : vs.take (k * row.sz) = cur.toList.take (k * row.sz) := by rw [hv, List.take_take, show min (k * row.sz) vs.length = k * row.sz by omega]
        have e2 : vs.drop (k * row.sz + zs.length) = (cur.toList.drop (k * row.sz + zs.length)).take (vs.length - (k * row.sz + zs.length)) := by
          conv => lhs; rw [hv]
          rw [List.drop_take]
        rw [e1, e2, List.append_assoc, List.append_assoc, List.take_append, List.take_append]
        have l1 : (cur.toList.take (k * row.sz)).length = k * row.sz := by rw [List.length_take]; simp; omega
        rw [l1, List.take_of_length_le (l := cur.toList.take (k * row.sz)) (by omega), List.take_of_length_le (l := zs) (by omega)]
        congr 3
        omega
      · simp only [List.size_toArray]
        rw [spliceV_length (by simp; omega)]
        simpa using m7
    · rename_i hrr
      refine (h.rows r' row' hr' hg').keep (fun _ h => h) hIw ⟨rfl, rfl, rfl⟩ (fun _ _ => on_ _) (fun b' hb' => hnb b' fun e => ?_) (fun _ _ h => h)
      subst e
      have := (h.apart r r' row row' b' (fun e => hrr e.symm) hm hr' hg hg' hb hb').1
      rw [huq] at this
      cases this
  · intro r1 r2 row1 row2 b0 hne q1 q2 g1 g2 b1 b2
    simp only [ovr] at q1 q2
    have other : ∀ (r' : Nat) (row' : ARow), r' ≠ r → s.mem r' = some row' → row'.g → gh.bt r = some b0 → gh.bt r' = some b0 → False := fun r' row' hne hr' hg' hb0 hb0' => by
      have := (h.apart r r' row row' b0 (Ne.symm hne) hm hr' hg hg' hb0 hb0').1
      rw [huq] at this
      cases this
    split at q1
    · rename_i hr1
      subst hr1
      split at q2
      · rename_i hr2; exact (hne hr2.symm).elim
      · exact (other r2 row2 (Ne.symm hne) q2 g2 b1 b2).elim
    · split at q2
      · rename_i hr1 hr2
        subst hr2
        exact (other r1 row1 hne q1 g1 b2 b1).elim
      · exact h.apart r1 r2 row1 row2 b0 hne q1 q2 g1 g2 b1 b2
  · intro r' hr'
    unfold mTm at hr'
    cases hd : o.dst with
    | none => rw [hd] at hr'; exact has r' (h.wft r' hr')
    | some d =>
      rw [hd] at hr'
      rcases idsL_set hr' with hr' | hr'
      · exact has r' (h.wft r' hr')
      · simp [AV.ids, AV.idsL] at hr'
  · intro r' row' hr' hp
    simp only [ovr] at hr'
    split at hr'
    · rename_i hrr
      subst hrr
      exact h.pins _ row hm hp
    · exact h.pins _ row' hr' hp
  · intro r' row' hr' el hel q hq
    simp only [ovr] at hr'
    split at hr'
    · injection hr' with hr'
      subst hr'
      simp only [clrEls, List.mem_append] at hel
      rcases hel with (hel | hel) | hel
      · exact has q (h.wfm r row hm el (List.mem_of_mem_take hel) q hq)
      · rw [List.eq_of_mem_replicate hel] at hq
        rw [idsL_mapV] at hq
        simp at hq
      · exact has q (h.wfm r row hm el (List.mem_of_mem_drop hel) q hq)
    · exact has q (h.wfm r' row' hr' el hel q hq)
theorem sound_clrOp {ops : Array Oper} {i : Nat} {K : AS → Prop} (ho : ops[i]? = some o) (h : Sim B w0 gh s a w) (hs : CStep P s o K) : wpOp P ops Q i (fun a' w' => ∃ s' gh', K s' ∧ Sim B w0 gh' s' a' w') a w := by
  unfold wpOp
  simp only [ho]
  have hw : Region.wanted o (yielded ops a.tmps) = true := by simp [Region.wanted, hs.1]
  rw [if_pos hw]
  exact .inl (sound_clear h hs)
end
/- A region one of whose operations clears a piece of a slice. -/
theorem awp_clr {P : Program} {Q : Exit → AS → Prop} {s : AS} {id : Nat} {l : List Oper} (ds : List (Option Tmp)) (hds : l.map (·.dst) = ds) (k : Nat) {o : Oper} (hk : l[k]? = some o)
    (h : evL P ds (fun s1 => CStep P s1 o fun s2 => evL P ds (Q .normal) (l.drop (k + 1)) s2) (l.take k) s) : AWp P (.region id l.toArray false) Q s := fun B w0 gh a w hS => by
  refine wp_region ?_
  have hkl : k < l.length := (List.getElem?_eq_some_iff.1 hk).1
  have hds' : (l.toArray).toList.map (·.dst) = ds := by simpa using hds
  have e : List.range l.length = List.range' 0 (l.take k).length ++ (k :: (List.range' (k + 1) (l.drop (k + 1)).length ++ [])) := by
    rw [List.range_eq_range', List.append_nil, List.length_take, List.length_drop, Nat.min_eq_left (Nat.le_of_lt hkl)]
    have h1 : l.length = k + (1 + (l.length - (k + 1))) := by omega
    conv => lhs; rw [h1]
    rw [← List.range'_append_1, ← List.range'_append_1]
    simp [List.range']
  have := sound_lexK (P := P) (ops := l.toArray) (Q := fun e a' w' => ∃ s' gh', Q e s' ∧ Sim B w0 gh' s' a' w') (k :: (List.range' (k + 1) (l.drop (k + 1)).length ++ []))
    (K := fun s1 => CStep P s1 o fun s2 => evL P ds (Q .normal) (l.drop (k + 1)) s2) (fun s1 gh1 a1 w1 hm hS1 => by
      rw [wpOps_cons]
      refine wpOp_mono (fun a' w' ⟨s', gh', hk', hS'⟩ => ?_) (sound_clrOp (by simpa using hk) hS1 hm)
      exact sound_lexK (K := Q .normal) [] (fun s2 gh2 a2 w2 hq hS2 => by exact ⟨s2, gh2, hq, hS2⟩) (l.drop (k + 1)) (k + 1) s' gh' a' w' (fun j o' hj => by
        rw [List.getElem?_drop] at hj; simpa using hj) hS' (evL_aLex hds' _ _ hk'))
    (l.take k) 0 s gh a w (fun j o' hj => by
      rw [List.getElem?_take] at hj
      split at hj
      · simpa using hj
      · cases hj) hS (evL_aLex hds' _ _ h)
  rw [← e] at this
  simpa using this
section
variable {P : Program} {K : AS → Prop} {n : Nat} {l : List (Nat × AV)} {m : List (Nat × ARow)} {ty : TypeId} {pos : String} {aft : Array Edge}
theorem clr_go {x : Operand} {t e : TypeId} {z : List Value} {r k q : Nat} {row : ARow} (hs : sliceT P t = some e) (hz : zeroT P e = some z) (hzl : z.length = szT P e) (hp : 0 < szT P e) (h1 : ∀ u ∈ z, u.oneCell' = true)
    (hx : (S n l m).at x = .sub r k q) (hok : (S n l m).ok x) (hm : lookR m r = some row) (hg : row.g) (huq : row.uq = true) (hsz : row.sz = szT P e) (hq : 0 < q) (hfit : k + q ≤ row.els.length)
    (h : K (S n l ((r, { row with els := clrEls row.els k q z }) :: m))) :
    CStep P (S n l m) ⟨none, .call { callee := .builtin .clear, args := #[x], argTypes := #[t] }, ty, pos, aft, none⟩ K := by
  refine ⟨rfl, x, t, e, z, r, k, q, row, rfl, hs, hz, hzl, hp, h1, hx, hok, hm, hg, huq, hsz, hq, hfit, ?_⟩
  simp only [mTm]
  have e2 : (S n l m).mem = lookR m := rfl
  rw [e2, S_ovr]
  exact h
end
theorem bare_sub (r o n : Nat) : (AV.sub r o n).bare = .sub r o n := rfl
theorem ok_sub (r o n : Nat) : (AV.sub r o n).ok = True := rfl
end Go.Proofs.Ytcpkhnciplfmkaa
