/- Operations on rows: append, copy. No condition. -/
import Derived.Test.YteanccnggaakeaaGreatCmK
namespace Go.Proofs.YteanccnggaakeaaGreat
open Go.RowKit
set_option linter.unusedVariables false
set_option linter.unusedSimpArgs false

section
variable {P : Program} {F : Nat → Prop} {w0 w w' : World} {G G' : Gh} {M : Nat → CR} {tm : Tr CV}
theorem Rss.nil_of {sz : Nat} {vs : List Value} (h : Rss G sz [] vs) : vs = [] := by simpa only [Rss] using h
/- The elements of a slice, of sz cells each. -/
noncomputable def nilK (x : Bool) (v : Value) : Bool := vCs (fun _ => false) (fun v => match v with | .slice none 0 0 => x | _ => false) v
theorem nilK_t {x : Bool} {v : Value} (h : nilK x v = true) : v = .slice none 0 0 ∧ x = true := by
  cases v <;> first | (cases h; done) | skip
  rename_i A n c
  cases A with
  | some A => cases h
  | none =>
    cases n with
    | succ n => cases h
    | zero =>
      cases c with
      | succ c => cases h
      | zero => exact ⟨rfl, h⟩
noncomputable def xEls (m : Tr CR) (s0 : Nat) (K : List (List CV) → Bool) (a : CV) : Bool :=
  CV.cs (fun _ _ => false) (fun _ _ => false) (fun _ => false) (nilK (K [])) (fun r n s => tst (Nat.beq s s0) (rowK m r fun _ _ els => tst (Nat.ble n (lenL els)) (fL (takeL els n) K))) (fun r o n s => tst (Nat.beq s s0) (rowK m r fun _ _ els => tst (Nat.ble (Nat.add o n) (lenL els)) (fL (takeL (dropL els o) n) K)))
    (fun _ _ _ _ => false) (fun _ _ _ => false) (fun _ => false) (fun _ => false) (fun _ _ => false) a
def Has (m : Tr CR) (s0 : Nat) (a : CV) (new : List (List CV)) : Prop := ∀ (F : Nat → Prop) (w0 : World) (G : Gh) (w : World) (y : Value), Fit F w0 G (lk m) w → R G a y → ∃ A c, y = .slice A new.length c ∧
  (new = [] ∨ ∃ ad us, A = some ad ∧ Rss G s0 new us ∧ ∀ j u, us[j]? = some u → w.cell? (ad.add j) = some u)
theorem RowAt.run {r ty sz : Nat} {els : List (List CV)} (h : RowAt G w r ty sz els) (o n : Nat) : ∃ us, Rss G sz ((els.drop o).take n) us ∧ ∀ j u, us[j]? = some u → w.cell? ((⟨G.bt r, o * sz, none⟩ : Addr).add j) = some u := by
  obtain ⟨cur, vs, h1, h2, h3, h4⟩ := h.at_
  refine ⟨_, (h2.drop o).take n, fun j u hu => ?_⟩
  rw [Addr.add_lit, cell_of_row w _ _ cur ty (0, 0) h1]
  rw [List.getElem?_take] at hu
  split at hu
  · rw [List.getElem?_drop, ← h3, List.getElem?_take] at hu
    split at hu
    · simpa using hu
    · cases hu
  · cases hu
theorem xEls_t {m : Tr CR} {s0 : Nat} {K : List (List CV) → Bool} {a : CV} (h : xEls m s0 K a = true) : ∃ new, K new = true ∧ Has m s0 a new := by
  cases a <;> first | (cases h; done) | skip
  · obtain ⟨rfl, h1⟩ := nilK_t h
    exact ⟨[], h1, fun F w0 G w y hF hy => ⟨none, 0, by simp only [R] at hy; exact hy, .inl rfl⟩⟩
  · rename_i r n s
    obtain ⟨h1, h2⟩ := tst_t (show tst (Nat.beq s s0) (rowK m r fun _ _ els => tst (Nat.ble n (lenL els)) (fL (takeL els n) K)) = true from h)
    obtain rfl := Nat.eq_of_beq_eq_true h1
    obtain ⟨ty, sz, els, h3, h4⟩ := rowK_t h2
    obtain ⟨h5, h6⟩ := tst_t h4
    rw [fL_eq, takeL_eq] at h6
    have hn : n ≤ els.length := by rw [← lenL_eq]; exact Nat.le_of_ble_eq_true h5
    have hl : (els.take n).length = n := by rw [List.length_take]; omega
    refine ⟨_, h6, fun F w0 G w y hF hy => ?_⟩
    simp only [R] at hy
    obtain ⟨hd, hs, hk, rfl⟩ := hy
    have hrow := hF.row hd h3
    obtain ⟨us, k1, k2⟩ := hrow.run 0 n
    rw [Nat.zero_mul] at k2
    exact ⟨_, _, by rw [hl], .inr ⟨_, us, rfl, by rw [← hs, hrow.hsz]; exact k1, k2⟩⟩
  · rename_i r o n s
    obtain ⟨h1, h2⟩ := tst_t (show tst (Nat.beq s s0) (rowK m r fun _ _ els => tst (Nat.ble (Nat.add o n) (lenL els)) (fL (takeL (dropL els o) n) K)) = true from h)
    obtain rfl := Nat.eq_of_beq_eq_true h1
    obtain ⟨ty, sz, els, h3, h4⟩ := rowK_t h2
    obtain ⟨h5, h6⟩ := tst_t h4
    rw [fL_eq, takeL_eq, dropL_eq] at h6
    have hn : o + n ≤ els.length := by rw [← lenL_eq]; exact Nat.le_of_ble_eq_true h5
    have hl : ((els.drop o).take n).length = n := by rw [List.length_take, List.length_drop]; omega
    refine ⟨_, h6, fun F w0 G w y hF hy => ?_⟩
    simp only [R] at hy
    obtain ⟨hd, hs, A, c, rfl, hc, hA⟩ := hy
    have hrow := hF.row hd h3
    have hsz : sz = s := by rw [← hrow.hsz]; exact hs
    obtain ⟨us, k1, k2⟩ := hrow.run o n
    refine ⟨_, _, by rw [hl], ?_⟩
    rcases hA with rfl | rfl
    · exact .inl (by simp)
    · exact .inr ⟨_, us, rfl, by rw [← hsz]; exact k1, by rw [← hsz]; exact k2⟩
theorem append_none_run {t e : TypeId} (hs : sliceT P t = some e) (ty : TypeId) (A A' : Option Addr) (n k c : Nat) (hn : n ≤ k) (w : World) :
    (Builtin.append_ #[t, t] ty #[.slice A n k, .slice A' 0 c]).run P w = .ok (.slice A n k) w := by
  obtain ⟨hu, i, hi, _⟩ := sliceT_spec hs
  cases A <;> cases A' <;> simp [Builtin.append_, run_underlying hu, sizeOf, typeInfo, hi, Builtin.lenOf, Builtin.firstCells, hn, storeCells, loadCells, loadCellsFrom]
/- Is it a slice? -/
noncomputable def isSl (x : Bool) (a : CV) : Bool := CV.cs (fun _ _ => false) (fun _ _ => false) (fun _ => false) (nilK x) (fun _ _ _ => x) (fun _ _ _ _ => x) (fun _ _ _ _ => x) (fun _ _ _ => false) (fun _ => false) (fun _ => false) (fun _ _ => false) a
theorem isSl_t {x : Bool} {a : CV} (h : isSl x a = true) : x = true ∧ ∀ G y, R G a y → ∃ A n c, y = .slice A n c ∧ n ≤ c := by
  cases a <;> first | (cases h; done) | skip
  · obtain ⟨rfl, h1⟩ := nilK_t h
    exact ⟨h1, fun G y hy => ⟨_, _, _, by simpa only [R] using hy, Nat.le_refl _⟩⟩
  · exact ⟨h, fun G y hy => by simp only [R] at hy; obtain ⟨_, _, h1, rfl⟩ := hy; exact ⟨_, _, _, rfl, h1⟩⟩
  · exact ⟨h, fun G y hy => by simp only [R] at hy; obtain ⟨_, _, A, c, rfl, h1, _⟩ := hy; exact ⟨_, _, _, rfl, h1⟩⟩
  · exact ⟨h, fun G y hy => by simp only [R] at hy; obtain ⟨_, A, c, rfl, h1, _⟩ := hy; exact ⟨_, _, _, rfl, h1⟩⟩
/- There is room for so many. -/
noncomputable def roomK (P : Program) (e k : Nat) (x : Bool) : Bool := tst (Nat.ble k 1000000) (tst (Nat.ble (Nat.mul k (byT P e)) 140737488355328) x)
theorem roomK_t {e k : Nat} {x : Bool} (h : roomK P e k x = true) : k ≤ 1000000 ∧ k * byT P e ≤ 140737488355328 ∧ x = true := by
  obtain ⟨h1, h2⟩ := tst_t h
  obtain ⟨h3, h4⟩ := tst_t h2
  exact ⟨Nat.le_of_ble_eq_true h1, Nat.le_of_ble_eq_true h3, h4⟩
noncomputable def xApp (P : Program) (m : Tr CR) (nb e sz : Nat) (new : List (List CV)) (K : KO) (a : CV) : Bool :=
  CV.cs (fun _ _ => false) (fun _ _ => false) (fun _ => false) (nilK (fN (lenL new) fun k => roomK P e k (newK m nb (.live e sz new) (.ref nb k sz) K)))
    (fun r n _ => rowK m r fun ty sz' els => tst (Nat.beq ty e) (tst (Nat.beq sz' sz) (tst (Nat.beq n (lenL els)) (fL (appL els new) fun els => fN (lenL els) fun k => roomK P e k (tst (Nat.blt r 65536) (m.setK r .dead fun m => newK m nb (.live e sz els) (.ref nb k sz) K))))))
    (fun _ _ _ _ => false) (fun _ _ _ _ => false) (fun _ _ _ => false) (fun _ => false) (fun _ => false) (fun _ _ => false) a
noncomputable def xAppend (P : Program) (m : Tr CR) (nb t : Nat) (a b : CV) (K : KO) : Bool :=
  og (sliceT P t) fun e => og (zc P e) fun z => fN (szT P e) fun sz => tst (Nat.beq (lenL z) sz) (tst (Nat.blt 0 sz) (xEls m sz (fun new => List.rec (isSl (K a m nb) a) (fun x l _ => xApp P m nb e sz (x :: l) K a) new) b))
/- What a builtin does with two values to the rows. -/
def Two2 (P : Program) (f : Value → Value → Sem Value) (m : Tr CR) (nb : Nat) (a b v : CV) (m' : Tr CR) (nb' : Nat) : Prop := nb ≤ nb' ∧ MemOK m' nb' ∧ ∀ (F : Nat → Prop) (w0 : World) (G : Gh) (w : World) (x y : Value), Fit F w0 G (lk m) w → Free nb nb' G → R G a x → R G b y →
  ∃ G' z w', Step nb nb' G G' ∧ R G' v z ∧ Fit F w0 G' (lk m') w' ∧ (f x y).run P w = .ok z w'
theorem xAppend_t {m : Tr CR} {nb t : Nat} {a b : CV} {K : KO} (hm : MemOK m nb) (h : xAppend P m nb t a b K = true) (ty : TypeId) : ∃ v m' nb', K v m' nb' = true ∧ Two2 P (fun x y => Builtin.append_ #[t, t] ty #[x, y]) m nb a b v m' nb' := by
  obtain ⟨e, h1, h2⟩ := og_t h
  obtain ⟨z, h3, h4⟩ := og_t h2
  rw [fN_eq] at h4
  obtain ⟨h5, h6⟩ := tst_t h4
  obtain ⟨h7, h8⟩ := tst_t h6
  obtain ⟨new, hk9, hnew⟩ := xEls_t h8
  have hzl : z.length = szT P e := by rw [← lenL_eq]; exact Nat.eq_of_beq_eq_true h5
  have hpos : 0 < szT P e := blt_t h7
  obtain ⟨hu, i, hi, his⟩ := sliceT_spec h1
  obtain ⟨i', zv, i1, i2, i3, i4⟩ := zc_spec h3
  rw [hi] at i1
  injection i1 with i1
  subst i1
  have hzs : zv.cells.size = i.size := by rw [his, ← hzl, i3]
  have hby : i.bytes = byT P e := by simp [byT, hi]
  cases new with
  | nil =>
    obtain ⟨hK, hsl⟩ := isSl_t (show isSl (K a m nb) a = true from hk9)
    refine ⟨a, m, nb, hK, Nat.le_refl _, hm, fun F w0 G w x y hF _ hx hy => ?_⟩
    obtain ⟨A, n, c, rfl, hn⟩ := hsl G x hx
    obtain ⟨A', c', rfl, _⟩ := hnew F w0 G w y hF hy
    exact ⟨G, _, w, .refl _ _, hx, hF, append_none_run h1 ty A A' n c c' hn w⟩
  | cons x0 l0 =>
    have h9 : xApp P m nb e (szT P e) (x0 :: l0) K a = true := hk9
    clear hk9
    generalize hnw : x0 :: l0 = new at *
    have hne : new ≠ [] := by rw [← hnw]; simp
    have h0 : 0 < new.length := List.length_pos_iff.2 hne
    have src : ∀ (F : Nat → Prop) (w0 : World) (G : Gh) (w : World) (y : Value), Fit F w0 G (lk m) w → R G b y → ∃ ad us c, y = .slice (some ad) new.length c ∧ Rss G (szT P e) new us ∧ us.length = new.length * i.size ∧ ∀ j u, us[j]? = some u → w.cell? (ad.add j) = some u := fun F w0 G w y hF hy => by
      obtain ⟨A, c, rfl, hA⟩ := hnew F w0 G w y hF hy
      rcases hA with hA | ⟨ad, us, rfl, k1, k2⟩
      · exact (hne hA).elim
      · exact ⟨ad, us, c, rfl, k1, by rw [k1.flat, his], k2⟩
    cases a <;> first | (cases h9; done) | skip
    · obtain ⟨rfl, h10⟩ := nilK_t h9
      rw [fN_eq] at h10
      obtain ⟨r1, r2, h11⟩ := roomK_t h10
      obtain ⟨hn, h12⟩ := newK_t h11
      rw [lenL_eq] at r1 r2
      refine ⟨_, _, _, h12, by omega, hm.set hn (by omega) (by omega) _, fun F w0 G w x y hF hfr hx hy => ?_⟩
      have hd : ¬ G.dom nb := hfr nb (Nat.le_refl _) (by omega)
      obtain ⟨ad, us, c, rfl, hr, hul, hca⟩ := src F w0 G w y hF hy
      simp only [R] at hx
      subst hx
      have hrun := run_append_nil (P := P) w t ty e i zv hu hi i2 ad new.length c us hul hca h0 (by omega) (by rw [hby]; omega)
      have hge := grownCap_ge w new.length 0 e
      have hcap : grownCap w new.length 0 e ≤ maxLen := grownCap_le_maxLen w _ 0 e (by simp only [maxLen]; omega)
      rw [lenL_eq, lk_set hm.wf hn]
      refine ⟨G.add nb w.heap.size (grownCap w new.length 0 e) (szT P e), _, _, .add hd, ?_, ?_, hrun⟩
      · simp only [R]
        exact ⟨(Gh.add_at).1, (Gh.add_at).2.2.2, by rw [(Gh.add_at).2.2.1]; exact hge, by rw [(Gh.add_at).2.1, (Gh.add_at).2.2.1]⟩
      refine hF.newRow hd hn rfl rfl rfl (by simp) (fun k hk => _root_.Go.heap_alloc_old w.drew _ hk) ⟨(Gh.add_at).2.2.2, by rw [(Gh.add_at).2.2.1]; exact hcap, by rw [(Gh.add_at).2.2.1]; exact hge, _, us, by rw [(Gh.add_at).2.1]; exact _root_.Go.heap_alloc_new w.drew _, Rss.up (Gh.add_le hd) _ _ hr, ?_, ?_⟩
      · simp only [Array.toList_append]
        exact List.take_left
      · rw [(Gh.add_at).2.2.1]
        simp only [Array.size_append, List.size_toArray, size_zeroCells, hzs, hul, ← Nat.add_mul, his]
        congr 1
        omega
    · rename_i r n s
      obtain ⟨ty', sz', els, k1, k2⟩ := rowK_t (show (rowK m r fun ty sz' els => tst (Nat.beq ty e) (tst (Nat.beq sz' (szT P e)) (tst (Nat.beq n (lenL els)) (fL (appL els new) fun els => fN (lenL els) fun k => roomK P e k (tst (Nat.blt r 65536) (m.setK r .dead fun m => newK m nb (.live e (szT P e) els) (.ref nb k (szT P e)) K)))))) = true from h9)
      obtain ⟨k3, k4⟩ := tst_t k2
      obtain ⟨k5, k6⟩ := tst_t k4
      obtain ⟨k7, k8⟩ := tst_t k6
      rw [fL_eq, appL_eq, fN_eq] at k8
      obtain ⟨r1, r2, k9⟩ := roomK_t k8
      obtain ⟨k10, k11⟩ := tst_t k9
      rw [Tr.setK_eq] at k11
      obtain ⟨hn, k12⟩ := newK_t k11
      have hrN : r < NM := blt_t k10
      obtain rfl := Nat.eq_of_beq_eq_true k3
      have e2 := Nat.eq_of_beq_eq_true k5
      subst e2
      have hnl : n = els.length := by rw [← lenL_eq]; exact Nat.eq_of_beq_eq_true k7
      rw [lenL_eq] at r1 r2 k12
      have hel : (els ++ new).length = n + new.length := by simp [hnl]
      have hrn : r < nb := Nat.lt_of_not_le fun hge => by
        have := hm.low r hge
        rw [lk, if_pos hrN, k1] at this
        cases this
      have hm1 : MemOK (m.set r .dead) nb := hm.set hrN (Nat.le_refl _) hrn _
      refine ⟨_, _, _, k12, by omega, hm1.set hn (by omega) (by omega) _, fun F w0 G w x y hF hfr hx hy => ?_⟩
      have hd : ¬ G.dom nb := hfr nb (Nat.le_refl _) (by omega)
      obtain ⟨ad, us, c, rfl, hr, hul, hca⟩ := src F w0 G w y hF hy
      simp only [R] at hx
      obtain ⟨hdr, hs, hnk, rfl⟩ := hx
      have hrow := hF.row hdr k1
      obtain ⟨cur, vs, q1, q2, q3, q4⟩ := hrow.at_
      have hvl := q2.flat
      have hnl' : vs.length = n * i.size := by rw [hvl, ← hnl, his]
      rw [lk_set hm1.wf hn, lk_set hm.wf hrN, hel]
      have hsub : ∀ r', upd (lk m) r .dead r' = lk m r' ∨ upd (lk m) r .dead r' = .dead := fun r' => by
        by_cases e : r' = r
        · rw [e, upd_same]; exact .inr rfl
        · rw [upd_ne _ _ e]; exact .inl rfl
      have hnr : ∀ r', upd (lk m) r .dead r' ≠ .dead → r' ≠ r ∧ lk m r' ≠ .dead := fun r' hr' => by
        by_cases e : r' = r
        · rw [e, upd_same] at hr'; exact (hr' rfl).elim
        · rw [upd_ne _ _ e] at hr'; exact ⟨e, hr'⟩
      have happ : Rss G (szT P ty') (els ++ new) (vs ++ us) := q2.append hr
      by_cases hroom : n + new.length ≤ G.kp r
      · have hfit : n * i.size + new.length * i.size ≤ cur.size := by rw [q4, his, ← Nat.add_mul]; exact Nat.mul_le_mul_right _ hroom
        have hrun := run_append_room (P := P) w t ty ty' i hu hi (G.bt r) n (G.kp r) cur q1 ad new.length c us hul hca hr.one hroom (by rw [hul]; exact hfit)
        have hct : cur.toList.take (n * i.size) = vs := by rw [← hnl']; exact q3
        refine ⟨G.add nb (G.bt r) (G.kp r) (szT P ty'), _, _, .add hd, ?_, ?_, hrun⟩
        · simp only [R]
          exact ⟨(Gh.add_at).1, (Gh.add_at).2.2.2, by rw [(Gh.add_at).2.2.1]; exact hroom, by rw [(Gh.add_at).2.1, (Gh.add_at).2.2.1]⟩
        refine hF.put hd hn hsub (fun r' hr' hl => ?_) (hF.off r hdr (hF.alive hdr k1)) rfl rfl rfl (by simp) (fun j _ hj => setRow_other w _ j _ hj) ⟨(Gh.add_at).2.2.2, by rw [(Gh.add_at).2.2.1]; exact hrow.cap, by rw [(Gh.add_at).2.2.1, hel]; exact hroom, _, vs ++ us, by rw [(Gh.add_at).2.1]; exact setRow_heap w _ cur _ ty' _ q1, Rss.up (Gh.add_le hd) _ _ happ, ?_, ?_⟩
        · obtain ⟨a1, a2⟩ := hnr r' hl
          exact fun e => a1 (hF.inj r' r hr' hdr a2 (hF.alive hdr k1) e)
        · simp only [hct]
          exact List.take_left
        · rw [(Gh.add_at).2.2.1]
          simp only [List.size_toArray, List.length_append, List.length_take, List.length_drop, Array.length_toList]
          rw [← q4]
          omega
      · have holds : ∀ j u, vs[j]? = some u → w.cell? ((⟨G.bt r, 0, none⟩ : Addr).add j) = some u := fun j u hj => by
          rw [Addr.add_lit, Nat.zero_add, cell_of_row w _ _ cur ty' (0, 0) q1]
          rw [← q3, List.getElem?_take] at hj
          split at hj
          · simpa using hj
          · cases hj
        have hrun := run_append_grow (P := P) w t ty ty' i zv hu hi i2 ⟨G.bt r, 0, none⟩ n (G.kp r) vs hnl' holds ad new.length c us hul hca (by omega) (by rw [← hel]; omega) (growslice_fits (by omega) (by rw [hby, ← hel]; exact r2))
        have hge := grownCap_ge w (n + new.length) (G.kp r) ty'
        have hcap : grownCap w (n + new.length) (G.kp r) ty' ≤ maxLen := grownCap_le_maxLen w _ _ ty' (by rw [← hel]; simp only [maxLen]; omega)
        refine ⟨G.add nb w.heap.size (grownCap w (n + new.length) (G.kp r) ty') (szT P ty'), _, _, .add hd, ?_, ?_, hrun⟩
        · simp only [R]
          exact ⟨(Gh.add_at).1, (Gh.add_at).2.2.2, by rw [(Gh.add_at).2.2.1]; exact hge, by rw [(Gh.add_at).2.1, (Gh.add_at).2.2.1]⟩
        refine hF.put hd hn hsub (fun r' hr' hl => Nat.ne_of_lt (hF.block_lt hr' (hnr r' hl).2)) (fun hF' => by have := hF.low _ hF'; have := hF.size; omega) rfl rfl rfl (by simp) (fun j hj _ => _root_.Go.heap_alloc_old w.drew _ hj) ⟨(Gh.add_at).2.2.2, by rw [(Gh.add_at).2.2.1]; exact hcap, by rw [(Gh.add_at).2.2.1, hel]; exact hge, _, vs ++ us, by rw [(Gh.add_at).2.1]; exact _root_.Go.heap_alloc_new w.drew _, Rss.up (Gh.add_le hd) _ _ happ, ?_, ?_⟩
        · simp only [Array.toList_append, List.append_assoc]
          rw [← List.append_assoc]
          exact List.take_left
        · rw [(Gh.add_at).2.2.1]
          simp only [Array.size_append, List.size_toArray, size_zeroCells, hzs, hul, hnl', ← Nat.add_mul, his]
          congr 1
          omega
/- Copy to a window. -/
noncomputable def catL (l : List (List CV)) : List CV := List.rec [] (fun x _ ih => appL x ih) l
theorem catL_eq : ∀ l : List (List CV), catL l = l.flatten
  | [] => rfl
  | x :: l => by
    show appL x (catL l) = _
    rw [appL_eq, catL_eq l]
    rfl
noncomputable def onWin (K : Nat → Nat → Nat → Nat → Bool) (a : CV) : Bool := CV.cs (fun _ _ => false) (fun _ _ => false) (fun _ => false) (fun _ => false) (fun _ _ _ => false) (fun _ _ _ _ => false) K (fun _ _ _ => false) (fun _ => false) (fun _ => false) (fun _ _ => false) a
theorem onWin_t {K : Nat → Nat → Nat → Nat → Bool} {a : CV} (h : onWin K a = true) : ∃ r i o n, a = .win r i o n ∧ K r i o n = true := by
  cases a <;> first | (cases h; done) | exact ⟨_, _, _, _, rfl, h⟩
noncomputable def xCopy (P : Program) (m : Tr CR) (nb t : Nat) (a b : CV) (K : KO) : Bool :=
  og (sliceT P t) fun e => tst (Nat.beq (szT P e) 1) (onWin (fun r i o n => xEls m 1 (fun new => fL (takeL (catL new) n) fun cs => fN (lenL cs) fun k => tst (Nat.blt 0 k) (tst (Nat.blt r 65536) (rowK m r fun ty sz els => atL els (fun el => tst (Nat.ble (Nat.add o k) sz) (elK o k sz cs el fun el => fL (setL els el i) fun els => m.setK r (.live ty sz els) fun m => K (.pos .i64 k) m nb)) i))) b) a)
theorem Rss.ones : ∀ {els : List (List CV)} {us : List Value}, Rss G 1 els us → Rs G els.flatten us ∧ us.length = els.length
  | [], us, h => by simp only [Rss] at h; subst h; simp [Rs]
  | x :: els, us, h => by
    simp only [Rss] at h
    obtain ⟨u, t, rfl, h1, h2, h3⟩ := h
    obtain ⟨k1, k2⟩ := Rss.ones h3
    exact ⟨by rw [List.flatten_cons]; exact h2.append k1, by simp [h1, k2, Nat.add_comm]⟩
theorem xCopy_t {m : Tr CR} {nb t : Nat} {a b : CV} {K : KO} (hm : MemOK m nb) (h : xCopy P m nb t a b K = true) (t' ty : TypeId) : ∃ v m' nb', K v m' nb' = true ∧ Two2 P (fun x y => Builtin.copy_ #[t, t'] ty #[x, y]) m nb a b v m' nb' := by
  obtain ⟨e, h1, h2⟩ := og_t h
  obtain ⟨h3, h4⟩ := tst_t h2
  obtain ⟨r, i, o, n, rfl, h5⟩ := onWin_t h4
  obtain ⟨new, h6, hnew⟩ := xEls_t h5
  rw [fL_eq, takeL_eq, catL_eq, fN_eq, lenL_eq] at h6
  obtain ⟨h7, h8⟩ := tst_t h6
  obtain ⟨h9, h10⟩ := tst_t h8
  obtain ⟨tr, sz, els, k1, k2⟩ := rowK_t h10
  obtain ⟨el, k3, k4⟩ := atL_t k2
  obtain ⟨k5, k6⟩ := tst_t k4
  obtain ⟨el', k7, k8⟩ := elK_t k6
  rw [fL_eq, setL_eq, Tr.setK_eq] at k7
  have hrN : r < NM := blt_t h9
  have hpos := blt_t h7
  have hfit : o + (new.flatten.take n).length ≤ sz := Nat.le_of_ble_eq_true k5
  have hrn : r < nb := Nat.lt_of_not_le fun hge => by
    have := hm.low r hge
    rw [lk, if_pos hrN, k1] at this
    cases this
  obtain ⟨hu, ie, hi, his⟩ := sliceT_spec h1
  have hsz1 : szT P e = 1 := Nat.eq_of_beq_eq_true h3
  refine ⟨_, _, _, k7, Nat.le_refl _, hm.set hrN (Nat.le_refl _) hrn _, fun F w0 G w x y hF _ hx hy => ?_⟩
  obtain ⟨A', c', rfl, hA'⟩ := hnew F w0 G w y hF hy
  simp only [R] at hx
  obtain ⟨hd, A, c, rfl, hnc, hA⟩ := hx
  have hne : new ≠ [] := fun e => by subst e; simp at hpos
  rcases hA' with hA' | ⟨ad, us, rfl, g1, g2⟩
  · exact (hne hA').elim
  obtain ⟨g3, g4⟩ := g1.ones
  have hrow := hF.row hd k1
  obtain ⟨cur, vs, q1, q2, q3, q4⟩ := hrow.at_
  have hel := Rs.same_len q2 k3
  have hee := k8 rfl hel
  subst hee
  have hlen : (new.flatten.take n).length = (us.take n).length := (g3.take n).length
  have hn0 : n ≠ 0 := fun e => by subst e; simp at hpos
  rcases hA with hA | rfl
  · exact (hn0 hA).elim
  obtain ⟨cs', s1, s2⟩ := hrow.write (P := P) (o := o) k3 (g3.take n) hfit
  refine ⟨G, .int .i64 (.ofNat (new.flatten.take n).length), w.setRow (G.bt r) cs', .refl _ _, by simp only [R], ?_, ?_⟩
  · rw [lk_set hm.wf hrN]
    exact hF.store hd (hF.alive hd k1) rfl rfl rfl (by simp) (fun j hj => setRow_other w _ j _ hj) s2
  · have hmin : Nat.min new.length n = (us.take n).length := by rw [List.length_take, g4, Nat.min_comm]
    have hfc := run_firstCells_some (P := P) w ie.size (us.take n).length ad new.length c' (us.take n) (by rw [his, hsz1]; simp) (fun j u hj => by
      rw [List.getElem?_take] at hj
      split at hj
      · exact g2 j u hj
      · cases hj)
    simp only [Builtin.copy_, List.getElem?_toArray, List.getElem?_cons_zero, List.getElem?_cons_succ, Sem.run_bind, run_underlying hu, Result.andThen_ok, Builtin.lenOf, Sem.run_pure, sizeOf, typeInfo, run_program, hi]
    simp only [hmin, hfc, Result.andThen_ok, s1, Sem.run_bind, Sem.run_pure]
    rw [hlen]
    rfl
end
end Go.Proofs.YteanccnggaakeaaGreat
