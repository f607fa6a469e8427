/- To forget: what fits a state fits one that says less, its rows under other names. No condition. -/
import Derived.Test.YtjkfadaedgidpaaGreatAbsN
namespace Go.Proofs.YtjkfadaedgidpaaGreat
open Go.RowKit
set_option linter.unusedVariables false
set_option linter.unusedSimpArgs false
theorem Le.refl (s : AS) : Le s s := fun _ _ gh _ _ h => ⟨gh, h⟩
theorem Le.trans {s t u : AS} (h : Le s t) (k : Le t u) : Le s u := fun B w0 gh a w hS => by
 obtain ⟨gh', h1⟩ := h B w0 gh a w hS
 exact k B w0 gh' a w h1
section
variable {gh gh' : Gh} {w : World} {f : Nat → Nat}
mutual
theorem R.back (hI : ∀ b, gh.I b → gh'.I b) : ∀ (x : AV) (y : Value), (∀ r, r ∈ x.ids → gh'.bt r = gh.bt (f r) ∧ gh'.kp r = gh.kp (f r) ∧ gh'.sz r = gh.sz (f r)) → R gh w (x.ren f) y → R gh' w x y
 | .any, y, _, h => by simp only [R]
 | .d x, y, _, h => by
  simp only [AV.ren, R] at h ⊢
  exact RD.keep hI (fun _ _ => rfl) x y h
 | .ep cs, y, _, h => by
  simp only [AV.ren, R] at h ⊢
  obtain ⟨b, o, vs, h1, h2, h3, h4⟩ := h
  exact ⟨b, o, vs, h1, hI b h2, RDs.keep hI (fun _ _ => rfl) cs vs h3, h4⟩
 | .ref r n, y, hg, h => by
  obtain ⟨e1, e2, e3⟩ := hg r (by simp [AV.ids])
  simp only [AV.ren, R] at h ⊢
  rw [e1, e2]
  exact h
 | .ptr r i o, y, hg, h => by
  obtain ⟨e1, e2, e3⟩ := hg r (by simp [AV.ids])
  simp only [AV.ren, R] at h ⊢
  rw [e1, e3]
  exact h
 | .ag cs, y, hg, h => by
  simp only [AV.ren, R] at h ⊢
  obtain ⟨vs, h1, h2⟩ := h
  exact ⟨vs, h1, Rs.back hI cs vs (by simpa only [AV.ids] using hg) h2⟩
 | .tp cs, y, hg, h => by
  simp only [AV.ren, R] at h ⊢
  obtain ⟨vs, h1, h2⟩ := h
  exact ⟨vs, h1, Rt.back hI cs vs (by simpa only [AV.ids] using hg) h2⟩
 | .wh g x, y, hg, h => by
  simp only [AV.ren, R] at h ⊢
  exact ⟨fun hgg => R.back hI x y (by simpa only [AV.ids] using hg) (h.1 hgg), h.2⟩
 | .cl g cs, y, hg, h => by
  simp only [AV.ren, R] at h ⊢
  obtain ⟨vs, h1, h2⟩ := h
  exact ⟨vs, h1, Rs.back hI cs vs (by simpa only [AV.ids] using hg) h2⟩
theorem Rs.back (hI : ∀ b, gh.I b → gh'.I b) : ∀ (xs : List AV) (vs : List Value), (∀ r, r ∈ AV.idsL xs → gh'.bt r = gh.bt (f r) ∧ gh'.kp r = gh.kp (f r) ∧ gh'.sz r = gh.sz (f r)) → Rs gh w (AV.renL f xs) vs → Rs gh' w xs vs
 | [], vs, _, h => by simpa only [AV.renL, Rs] using h
 | x :: xs, vs, hg, h => by
  simp only [AV.renL, Rs] at h ⊢
  obtain ⟨u, t, h1, h2, h3, h4⟩ := h
  exact ⟨u, t, h1, R.back hI x u (fun r hr => hg r (by simp [AV.idsL, hr])) h2, h3, Rs.back hI xs t (fun r hr => hg r (by simp [AV.idsL, hr])) h4⟩
theorem Rt.back (hI : ∀ b, gh.I b → gh'.I b) : ∀ (xs : List AV) (vs : List Value), (∀ r, r ∈ AV.idsL xs → gh'.bt r = gh.bt (f r) ∧ gh'.kp r = gh.kp (f r) ∧ gh'.sz r = gh.sz (f r)) → Rt gh w (AV.renL f xs) vs → Rt gh' w xs vs
 | [], vs, _, h => by simpa only [AV.renL, Rt] using h
 | x :: xs, vs, hg, h => by
  simp only [AV.renL, Rt] at h ⊢
  obtain ⟨u, t, h1, h2, h4⟩ := h
  exact ⟨u, t, h1, R.back hI x u (fun r hr => hg r (by simp [AV.idsL, hr])) h2, Rt.back hI xs t (fun r hr => hg r (by simp [AV.idsL, hr])) h4⟩
end
end
def VLe (f : Nat → Nat) (V : List Nat) (x x' : AV) : Prop :=
 x' = .any ∨ (x = x'.ren f ∧ ∀ r, r ∈ x'.ids → r ∉ V) ∨ (x = .d (.v (.slice none 0 0)) ∧ ∃ r, r ∈ V ∧ x' = .ref r 0) ∨ (x = .d (.v (.slice none 0 0)) ∧ ∃ sz, x' = .d (.sl sz []))
def VLes (f : Nat → Nat) (V : List Nat) : List AV → List AV → Prop
 | [], ys => ys = []
 | x :: xs, ys => ∃ y t, ys = y :: t ∧ VLe f V x y ∧ VLes f V xs t
def VLess (f : Nat → Nat) (V : List Nat) : List (List AV) → List (List AV) → Prop
 | [], ys => ys = []
 | x :: xs, ys => ∃ y t, ys = y :: t ∧ VLes f V x y ∧ VLess f V xs t
theorem VLes.length {f : Nat → Nat} {V : List Nat} : ∀ {xs ys : List AV}, VLes f V xs ys → xs.length = ys.length
 | [], ys, h => by simp only [VLes] at h; subst h; rfl
 | x :: xs, ys, h => by
  simp only [VLes] at h
  obtain ⟨y, t, rfl, _, h⟩ := h
  simp [VLes.length h]
theorem VLess.length {f : Nat → Nat} {V : List Nat} : ∀ {xs ys : List (List AV)}, VLess f V xs ys → xs.length = ys.length
 | [], ys, h => by simp only [VLess] at h; subst h; rfl
 | x :: xs, ys, h => by
  simp only [VLess] at h
  obtain ⟨y, t, rfl, _, h⟩ := h
  simp [VLess.length h]
mutual
theorem ren_nil (f : Nat → Nat) : ∀ (x : AV), x.ids = [] → x.ren f = x
 | .any, _ => rfl
 | .d x, _ => rfl
 | .ep cs, _ => rfl
 | .ref r n, h => by simp [AV.ids] at h
 | .ptr r i o, h => by simp [AV.ids] at h
 | .ag cs, h => by simp only [AV.ren]; rw [renL_nil f cs (by simpa only [AV.ids] using h)]
 | .tp cs, h => by simp only [AV.ren]; rw [renL_nil f cs (by simpa only [AV.ids] using h)]
 | .wh g x, h => by simp only [AV.ren]; rw [ren_nil f x (by simpa only [AV.ids] using h)]
 | .cl g cs, h => by simp only [AV.ren]; rw [renL_nil f cs (by simpa only [AV.ids] using h)]
theorem renL_nil (f : Nat → Nat) : ∀ (xs : List AV), AV.idsL xs = [] → AV.renL f xs = xs
 | [], _ => rfl
 | x :: xs, h => by
  simp only [AV.idsL, List.append_eq_nil_iff] at h
  simp only [AV.renL]
  rw [ren_nil f x h.1, renL_nil f xs h.2]
end
theorem VLe.same {f : Nat → Nat} {V : List Nat} {x : AV} (h : x.ids = []) : VLe f V x x := .inr (.inl ⟨(ren_nil f x h).symm, by rw [h]; simp⟩)
theorem VLes.data {f : Nat → Nat} {V : List Nat} : ∀ (ds : List D), VLes f V (ds.map .d) (ds.map .d)
 | [] => by simp [VLes]
 | x :: ds => by simp only [List.map_cons, VLes]; exact ⟨_, _, rfl, VLe.same rfl, VLes.data ds⟩
theorem VLess.data {f : Nat → Nat} {V : List Nat} : ∀ (ds : List (List D)), VLess f V (ds.map (·.map .d)) (ds.map (·.map .d))
 | [] => by simp [VLess]
 | x :: ds => by simp only [List.map_cons, VLess]; exact ⟨_, _, rfl, VLes.data x, VLess.data ds⟩
structure RowLe (f : Nat → Nat) (V : List Nat) (m' : Nat → Option ARow) (r' : Nat) (row row' : ARow) : Prop where
 g : row'.g → row.g
 ty : row'.ty = row.ty
 sz : row'.sz = row.sz
 fam : row.uq = false → row'.fam = row.fam
 ap : row'.ap = true → row.ap = true
 uq : row'.uq = true → row.uq = true ∨ ∀ r2 row2, m' r2 = some row2 → row2.g → r2 ≠ r' → row2.fam ≠ row'.fam
 els : VLess f V row.els row'.els
section
variable {gh gh' : Gh} {w : World} {f : Nat → Nat} {V : List Nat}
theorem VLe.R_ (hI : gh'.I = gh.I) (hg : ∀ r, r ∉ V → gh'.bt r = gh.bt (f r) ∧ gh'.kp r = gh.kp (f r) ∧ gh'.sz r = gh.sz (f r)) (hV : ∀ r, r ∈ V → gh'.bt r = none) {x x' : AV} {y : Value} (h : VLe f V x x') (hr : R gh w x y) : R gh' w x' y := by
 rcases h with rfl | ⟨rfl, h⟩ | ⟨rfl, r, h, rfl⟩ | ⟨rfl, sz, rfl⟩
 ·simp only [R]
 ·exact R.back (fun b hb => by rw [hI]; exact hb) x' y (fun r hr => hg r (h r hr)) hr
 ·simp only [R, RD] at hr ⊢
  exact .inl ⟨hV r h, trivial, hr⟩
 ·simp only [R, RD] at hr ⊢
  exact ⟨none, 0, hr, .inl trivial⟩
theorem VLes.R_ (hI : gh'.I = gh.I) (hg : ∀ r, r ∉ V → gh'.bt r = gh.bt (f r) ∧ gh'.kp r = gh.kp (f r) ∧ gh'.sz r = gh.sz (f r)) (hV : ∀ r, r ∈ V → gh'.bt r = none) : ∀ {xs ys : List AV} {vs : List Value}, VLes f V xs ys → Rt gh w xs vs → Rt gh' w ys vs
 | [], ys, vs, h, hr => by simp only [VLes] at h; subst h; simpa [Rt] using hr
 | x :: xs, ys, vs, h, hr => by
  simp only [VLes] at h
  obtain ⟨y, t, rfl, h1, h2⟩ := h
  simp only [Rt] at hr ⊢
  obtain ⟨u, us, rfl, k1, k2⟩ := hr
  exact ⟨u, us, rfl, h1.R_ hI hg hV k1, VLes.R_ hI hg hV h2 k2⟩
theorem VLes.Rs_ (hI : gh'.I = gh.I) (hg : ∀ r, r ∉ V → gh'.bt r = gh.bt (f r) ∧ gh'.kp r = gh.kp (f r) ∧ gh'.sz r = gh.sz (f r)) (hV : ∀ r, r ∈ V → gh'.bt r = none) : ∀ {xs ys : List AV} {vs : List Value}, VLes f V xs ys → Rs gh w xs vs → Rs gh' w ys vs
 | [], ys, vs, h, hr => by simp only [VLes] at h; subst h; simpa [Rs] using hr
 | x :: xs, ys, vs, h, hr => by
  simp only [VLes] at h
  obtain ⟨y, t, rfl, h1, h2⟩ := h
  simp only [Rs] at hr ⊢
  obtain ⟨u, us, rfl, k1, k3, k2⟩ := hr
  exact ⟨u, us, rfl, h1.R_ hI hg hV k1, k3, VLes.Rs_ hI hg hV h2 k2⟩
theorem VLess.R_ (hI : gh'.I = gh.I) (hg : ∀ r, r ∉ V → gh'.bt r = gh.bt (f r) ∧ gh'.kp r = gh.kp (f r) ∧ gh'.sz r = gh.sz (f r)) (hV : ∀ r, r ∈ V → gh'.bt r = none) {sz : Nat} : ∀ {xs ys : List (List AV)} {vs : List Value}, VLess f V xs ys → Rss gh w sz xs vs → Rss gh' w sz ys vs
 | [], ys, vs, h, hr => by simp only [VLess] at h; subst h; simpa [Rss] using hr
 | x :: xs, ys, vs, h, hr => by
  simp only [VLess] at h
  obtain ⟨y, t, rfl, h1, h2⟩ := h
  simp only [Rss] at hr ⊢
  obtain ⟨u, us, rfl, k1, k2, k3⟩ := hr
  exact ⟨u, us, rfl, k1, h1.Rs_ hI hg hV k2, VLess.R_ hI hg hV h2 k3⟩
end
theorem le_of {s s' : AS} (f : Nat → Nat) (V : List Nat) (htm : VLes f V s.tm s'.tm)
  (hmem : ∀ r' row', s'.mem r' = some row' → r' ∉ V → ∃ row, s.mem (f r') = some row ∧ RowLe f V s'.mem r' row row')
  (hV : ∀ r', r' ∈ V → ∀ row', s'.mem r' = some row' → row'.els = [])
  (hinj : ∀ r1 r2 row1 row2, s'.mem r1 = some row1 → s'.mem r2 = some row2 → r1 ∉ V → r2 ∉ V → f r1 = f r2 → r1 = r2)
  (hpin : ∀ r, s'.mem r ≠ none → pinned r → r ∉ V ∧ f r = r) (hwf : s'.Wf) : Le s s' := fun B w0 gh a w h => by
 obtain ⟨gh', e0⟩ : ∃ gh' : Gh, gh' = { I := gh.I, bt := fun r => if r ∈ V then none else gh.bt (f r), kp := fun r => gh.kp (f r), sz := fun r => if r ∈ V then ((s'.mem r).map (·.sz)).getD 0 else gh.sz (f r) } := ⟨_, rfl⟩
 have hI : gh'.I = gh.I := by rw [e0]
 have hg : ∀ r, r ∉ V → gh'.bt r = gh.bt (f r) ∧ gh'.kp r = gh.kp (f r) ∧ gh'.sz r = gh.sz (f r) := fun r hr => by rw [e0]; simp [hr]
 have hVb : ∀ r, r ∈ V → gh'.bt r = none := fun r hr => by rw [e0]; simp [hr]
 refine ⟨gh', h.defers, htm.R_ hI hg hVb h.tm, h.below, h.base, fun b hb => h.imm b (by rw [← hI]; exact hb), fun r' row' hr' hg' => ?_, fun r1 r2 row1 row2 b hne h1 h2 g1 g2 b1 b2 => ?_, hwf.1, fun r' row' hr' hp => ?_, hwf.2⟩
 ·by_cases hv : r' ∈ V
  ·refine ⟨by rw [e0]; simp [hv, hr'], .inl ⟨hVb r' hv, hV r' hv row' hr'⟩⟩
  ·obtain ⟨row, hr, hle⟩ := hmem r' row' hr' hv
   obtain ⟨e1, e2, e3⟩ := hg r' hv
   obtain ⟨hsz, hrow⟩ := h.rows _ row hr (hle.g hg')
   refine ⟨by rw [e3, hle.sz]; exact hsz, ?_⟩
   rcases hrow with ⟨hn, he⟩ | ⟨b, cur, vs, m1, m2, m3, m4, m5, m6, m7, m8, m9⟩
   ·refine .inl ⟨by rw [e1]; exact hn, ?_⟩
    have := hle.els.length
    rw [he] at this
    exact List.eq_nil_of_length_eq_zero this.symm
   ·refine .inr ⟨b, cur, vs, by rw [e1]; exact m1, m2, by rw [hI]; exact m3, by rw [hle.ty]; exact m4, by rw [hle.sz]; exact hle.els.R_ hI hg hVb m5, m6, by rw [e2, hle.sz]; exact m7, by rw [e2]; exact m8, by rw [e2, ← hle.els.length]; exact m9⟩
 ·have hv1 : r1 ∉ V := fun hv => by rw [hVb r1 hv] at b1; cases b1
  have hv2 : r2 ∉ V := fun hv => by rw [hVb r2 hv] at b2; cases b2
  obtain ⟨o1, p1, l1⟩ := hmem r1 row1 h1 hv1
  obtain ⟨o2, p2, l2⟩ := hmem r2 row2 h2 hv2
  rw [(hg r1 hv1).1] at b1
  rw [(hg r2 hv2).1] at b2
  obtain ⟨a1, a2, a3, a4⟩ := h.apart (f r1) (f r2) o1 o2 b (fun e => hne (hinj r1 r2 row1 row2 h1 h2 hv1 hv2 e)) p1 p2 (l1.g g1) (l2.g g2) b1 b2
  obtain ⟨c1, _⟩ := h.apart (f r2) (f r1) o2 o1 b (fun e => hne (hinj r1 r2 row1 row2 h1 h2 hv1 hv2 e.symm)) p2 p1 (l2.g g2) (l1.g g1) b2 b1
  refine ⟨?_, by rw [l1.fam a1, l2.fam c1]; exact a2, by rw [l1.sz, l2.sz]; exact a3, fun hap => ?_⟩
  ·cases hu : row1.uq with
   | false => rfl
   | true =>
    rcases l1.uq hu with h3 | h3
    ·rw [a1] at h3; cases h3
    ·exact (h3 r2 row2 h2 g2 (Ne.symm hne) (by rw [l1.fam a1, l2.fam c1]; exact a2.symm)).elim
  ·obtain ⟨q1, q2⟩ := a4 (l1.ap hap)
   refine ⟨by rw [← l1.els.length, ← l2.els.length]; exact q1, ?_⟩
   cases hu : row2.ap with
   | false => rfl
   | true => have := l2.ap hu; rw [q2] at this; cases this
 ·obtain ⟨hv, hf⟩ := hpin r' (by rw [hr']; simp) hp
  obtain ⟨row, hr, _⟩ := hmem r' row' hr' hv
  rw [hf] at hr
  rw [(hg r' hv).1, (hg r' hv).2.1, hf]
  exact h.pins r' row hr hp
end Go.Proofs.YtjkfadaedgidpaaGreat
