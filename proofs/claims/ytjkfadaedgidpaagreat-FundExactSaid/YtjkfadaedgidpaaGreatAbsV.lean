/- What arguments read as, opened to data; the last step of a row. No condition. -/
import Derived.Test.YtjkfadaedgidpaaGreatAbsU
import Derived.ProofKit
import Derived.Deep.Slices
import Derived.Below
import Derived.ChangeSame
import Derived.OpenShut
namespace Go.Proofs.YtjkfadaedgidpaaGreat
open Go.ChangeShapes Go.WideShapes Go.RowKit Go.Deep
set_option linter.unusedVariables false
set_option linter.unusedSimpArgs false
def conT (P : Program) : Nat → List Field → Nat → Bool
 | o, [], tot => o == tot
 | o, f :: fs, tot => f.offset == o && conT P (o + P.cellsOf f.type) fs tot
def PT (P : Program) : Nat → TypeId → Bool
 | 0, _ => false
 | k + 1, t =>
  match P.underlying t with
  | some .bool => true
  | some (.int _) => true
  | some .string => true
  | some (.slice e) => PT P k e && decide (0 < P.cellsOf e)
  | some (.struct fs) => conT P 0 fs.toList (P.cellsOf t) && fs.toList.all fun f => PT P k f.type
  | some (.array n e) => PT P k e && P.cellsOf t == n * P.cellsOf e
  | _ => false
def Segs (f : TypeId → List D → Prop) : List TypeId → List D → Prop
 | [], cs => cs = []
 | t :: ts, cs => ∃ a b, cs = a ++ b ∧ f t a ∧ Segs f ts b
def TC (P : Program) : Nat → TypeId → List D → Prop
 | 0, _, _ => False
 | k + 1, t, cs =>
  match P.underlying t with
  | some .bool => ∃ b, cs = [.v (.bool b)]
  | some (.int q) => ∃ n, cs = [.v (.int q n)] ∧ (Lit.int q n).wf = true
  | some .string => ∃ s : ByteArray, cs = [.v (.string s)] ∧ s.size ≤ maxLen
  | some (.slice e) => ∃ els, cs = [.sl (P.cellsOf e) els] ∧ els.length ≤ maxLen ∧ ∀ el ∈ els, TC P k e el
  | some (.struct fs) => Segs (TC P k) (fs.toList.map (·.type)) cs
  | some (.array n e) => Segs (TC P k) (List.replicate n e) cs
  | _ => False
section
variable {I : Nat → Prop} {w : World}
theorem RDs.app : ∀ {a b : List D} {xs ys : List Value}, RDs I w a xs → RDs I w b ys → RDs I w (a ++ b) (xs ++ ys)
 | [], b, xs, ys, h, k => by simp only [RDs] at h; subst h; exact k
 | x :: a, b, xs, ys, h, k => by
  simp only [RDs] at h
  obtain ⟨u, t, rfl, h1, h2, h3⟩ := h
  simp only [List.cons_append, RDs]
  exact ⟨u, t ++ ys, rfl, h1, h2, RDs.app h3 k⟩
theorem RDs.one {x : D} {u : Value} (h : RD I w x u) (ho : u.oneCell' = true) : RDs I w [x] [u] := by
 simp only [RDs]
 exact ⟨u, [], rfl, h, ho, rfl⟩
theorem RDss.snoc {sz : Nat} : ∀ {els : List (List D)} {e : List D} {xs u : List Value}, RDss I w sz els xs → RDs I w e u → u.length = sz → RDss I w sz (els ++ [e]) (xs ++ u)
 | [], e, xs, u, h, k, hu => by
  simp only [RDss] at h; subst h
  simp only [List.nil_append, RDss]
  exact ⟨u, [], by simp, hu, k, rfl⟩
 | x :: els, e, xs, u, h, k, hu => by
  simp only [RDss] at h
  obtain ⟨v, t, rfl, h1, h2, h3⟩ := h
  simp only [List.cons_append, RDss]
  exact ⟨v, t ++ u, by simp, h1, h2, RDss.snoc h3 k hu⟩
end
section
variable {H : Type} {enc : TypeId × Value → H} {P : Program} {w : World} {held : Bool}
theorem segs_of {k : Nat} {I : Nat → Prop} {cs : List Value} : ∀ (fs : List Field) (o : Nat), conT P o fs cs.length = true →
  (∀ f ∈ fs, ∃ ds, RDs I w ds ((cs.drop f.offset).take (P.cellsOf f.type)) ∧ TC P k f.type ds) → ∃ ds, RDs I w ds (cs.drop o) ∧ Segs (TC P k) (fs.map (·.type)) ds
 | [], o, hc, _ => by
  simp only [conT, beq_iff_eq] at hc
  subst hc
  exact ⟨[], by simp [RDs], rfl⟩
 | f :: fs, o, hc, h => by
  simp only [conT, Bool.and_eq_true, beq_iff_eq] at hc
  obtain ⟨rfl, hc⟩ := hc
  obtain ⟨d1, h1, h2⟩ := h f (by simp)
  obtain ⟨d2, h3, h4⟩ := segs_of fs _ hc fun g hg => h g (by simp [hg])
  refine ⟨d1 ++ d2, ?_, d1, d2, rfl, h2, h4⟩
  have := RDs.app h1 h3
  rwa [← List.drop_drop, List.take_append_drop] at this
theorem segs_arr {k c : Nat} {e : TypeId} {I : Nat → Prop} {cs : List Value} (n : Nat) : ∀ (j : Nat), cs.length = (j + n) * c → (∀ i, i < j + n → ∃ ds, RDs I w ds ((cs.drop (i * c)).take c) ∧ TC P k e ds) →
  ∃ ds, RDs I w ds (cs.drop (j * c)) ∧ Segs (TC P k) (List.replicate n e) ds := by
 induction n with
 | zero =>
  intro j hc h
  exact ⟨[], by rw [show cs.drop (j * c) = [] from List.drop_eq_nil_iff.2 (by rw [hc]; simp)]; simp [RDs], rfl⟩
 | succ n ih =>
  intro j hc h
  obtain ⟨d1, h1, h2⟩ := h j (by omega)
  obtain ⟨d2, h3, h4⟩ := ih (j + 1) (by rw [hc]; congr 1; omega) fun i hi => h i (by omega)
  refine ⟨d1 ++ d2, ?_, d1, d2, rfl, h2, h4⟩
  have := RDs.app h1 h3
  rwa [show (j + 1) * c = j * c + c from Nat.succ_mul j c, ← List.drop_drop, List.take_append_drop] at this
theorem cell_block {a : Addr} {v : Value} (h : w.cell? a = some v) : a.block < w.heap.size ∧ a.spot = none := by
 unfold World.cell? at h
 split at h
 ·rename_i c t fr hb
  have hlt := (Array.getElem?_eq_some_iff.1 hb).1
  split at h
  ·cases h
  ·rename_i hs
   exact ⟨hlt, by simpa using hs⟩
 ·cases h
theorem rd_of_trod : ∀ (k : Nat) (t : TypeId) (fuel : Nat) (cs : List Value) (x : DataW H × List MemPlace), PT P k t = true → DataW.trod enc P w 0 (fun _ => true) held fuel t cs = some x →
  ∃ ds, RDs (fun b => b < w.heap.size) w ds cs ∧ TC P k t ds
 | 0, t, fuel, cs, x, hp, h => by simp [PT] at hp
 | k + 1, t, fuel, cs, x, hp, h => by
  unfold PT at hp
  cases hu : P.underlying t with
  | none => rw [hu] at hp; cases hp
  | some d =>
   rw [hu] at hp
   cases d with
   | bool =>
    obtain ⟨b, rfl, _⟩ := DataW.trod_bool hu h
    exact ⟨[.v (.bool b)], RDs.one (by simp only [RD]) rfl, by unfold TC; rw [hu]; exact ⟨b, rfl⟩⟩
   | int q =>
    obtain ⟨n, rfl, _, hw⟩ := DataW.trod_int hu h
    exact ⟨[.v (.int q n)], RDs.one (by simp only [RD]) rfl, by unfold TC; rw [hu]; exact ⟨n, rfl, hw⟩⟩
   | string =>
    obtain ⟨s, rfl, _, hw⟩ := DataW.trod_string hu h
    exact ⟨[.v (.string s)], RDs.one (by simp only [RD]) rfl, by unfold TC; rw [hu]; exact ⟨s, rfl, hw⟩⟩
   | struct fs =>
    simp only [Bool.and_eq_true] at hp
    obtain ⟨ys, n, rfl, _, hl, hyl, hf⟩ := DataW.trod_struct hu h
    obtain ⟨ds, h1, h2⟩ := segs_of (P := P) (w := w) (k := k) (I := fun b => b < w.heap.size) (cs := cs) fs.toList 0 (by rw [hl]; exact hp.1) fun f hf' => by
     obtain ⟨i, hi, hfi⟩ := List.mem_iff_getElem.1 hf'
     have hg : fs[i]? = some f := by rw [← Array.getElem?_toList, List.getElem?_eq_getElem hi, hfi]
     have h1 := hf i f hg
     rw [List.getElem?_eq_getElem (by rw [hyl]; simpa using hi)] at h1
     exact rd_of_trod k f.type n _ _ (List.all_eq_true.1 hp.2 f hf') h1
    exact ⟨ds, by simpa using h1, by unfold TC; rw [hu]; exact h2⟩
   | array n e =>
    simp only [Bool.and_eq_true, beq_iff_eq] at hp
    obtain ⟨ys, m, rfl, _, hl, hyl, hf⟩ := DataW.trod_array hu h
    obtain ⟨ds, h1, h2⟩ := segs_arr (P := P) (w := w) (k := k) (c := P.cellsOf e) (e := e) (I := fun b => b < w.heap.size) (cs := cs) n 0 (by rw [hl, hp.2]; simp) fun i hi => by
     have h1 := hf i (by omega)
     rw [List.getElem?_eq_getElem (by omega)] at h1
     exact rd_of_trod k e m _ _ hp.1 h1
    exact ⟨ds, by simpa using h1, by unfold TC; rw [hu]; exact h2⟩
   | slice e =>
    simp only [Bool.and_eq_true, decide_eq_true_eq] at hp
    rcases open_slice hu h with ⟨rfl, _⟩ | ⟨a, len, cap, m, n, Dd, Pl, rfl, hb, hl, hm, hmm, rfl, hi⟩
    ·exact ⟨[.sl (P.cellsOf e) []], RDs.one (by simp only [RD]; exact ⟨none, 0, rfl, .inl trivial⟩) rfl, by unfold TC; rw [hu]; exact ⟨[], rfl, by simp, by simp⟩⟩
    ·have hmc : m = cap := by simpa using hmm
     subst hmc
     have key : ∀ j, j ≤ len → ∃ els vs, els.length = j ∧ RDss (fun b => b < w.heap.size) w (P.cellsOf e) els vs ∧ vs.length = j * P.cellsOf e ∧ (∀ q u, vs[q]? = some u → w.cell? (a.add q) = some u) ∧ ∀ el ∈ els, TC P k e el := by
      intro j
      induction j with
      | zero => intro _; exact ⟨[], [], rfl, rfl, by simp, by simp, by simp⟩
      | succ j ih =>
       intro hj
       obtain ⟨els, vs, g1, g2, g3, g4, g5⟩ := ih (by omega)
       obtain ⟨cs', hc, ht'⟩ := hi j (by omega)
       obtain ⟨ds, k1, k2⟩ := rd_of_trod k e n cs' _ hp.1 ht'
       obtain ⟨_, hcl, hat⟩ := World.cells?_some hc
       refine ⟨els ++ [ds], vs ++ cs', by simp [g1], g2.snoc k1 hcl, by rw [List.length_append, g3, hcl, Nat.succ_mul], fun q u hq => ?_, fun el hel => ?_⟩
       ·rw [List.getElem?_append] at hq
        split at hq
        ·exact g4 q u hq
        ·rename_i hnl
         have hq2 : q - vs.length < cs'.length := by
          rcases Nat.lt_or_ge (q - vs.length) cs'.length with h3 | h3
          ·exact h3
          ·rw [List.getElem?_eq_none h3] at hq; cases hq
         have := hat (q - vs.length) (by omega)
         rw [hq, add_add, show j * P.cellsOf e + (q - vs.length) = q from by omega] at this
         exact this
       ·rcases List.mem_append.1 hel with h3 | h3
        ·exact g5 el h3
        ·simp at h3; subst h3; exact k2
     obtain ⟨els, vs, g1, g2, g3, g4, g5⟩ := key len (Nat.le_refl _)
     refine ⟨[.sl (P.cellsOf e) els], ?_, by unfold TC; rw [hu]; exact ⟨els, rfl, by omega, g5⟩⟩
     simp only [RDs]
     refine ⟨_, [], rfl, ?_, rfl, rfl⟩
     simp only [RD]
     refine ⟨some a, m, by rw [g1], ?_⟩
     cases len with
     | zero => exact .inl (List.eq_nil_of_length_eq_zero g1)
     | succ l =>
      have hpos : 0 < vs.length := by rw [g3]; exact Nat.mul_pos (by omega) hp.2
      have h0 := g4 0 _ (List.getElem?_eq_getElem hpos)
      have hb0 := cell_block h0
      have ha0 : a.add 0 = a := by simp [Addr.add]
      rw [ha0] at hb0
      refine .inr ⟨a.block, a.off, vs, ?_, hb0.1, g2, fun q u hq => ?_, by omega⟩
      ·rw [show (some a : Option Addr) = some ⟨a.block, a.off, a.spot⟩ from rfl, hb0.2]
      ·have := g4 q u hq
       have e : a.add q = ⟨a.block, a.off + q, none⟩ := by
        unfold Addr.add
        by_cases hq0 : q = 0
        ·subst hq0; simp [← hb0.2]
        ·simp [hq0]
       rw [e] at this
       exact this
   | _ => cases hp
theorem rd_slice {base : Nat} {k : Nat} {t e : TypeId} {v : Value} {d : DataW H} {ps : List MemPlace} (hu : P.underlying t = some (.slice e)) (hp : PT P (k + 1) t = true) (hval : Value.okWide P w .any base t v) (hd : DataW.Trod enc P w 0 (fun _ => true) held t v d ps) :
  ∃ els, RD (fun b => b < w.heap.size) w (.sl (P.cellsOf e) els) v ∧ els.length ≤ maxLen ∧ ∀ el ∈ els, TC P k e el := by
 obtain ⟨a, len, cap, rfl⟩ := okWide_slice hu hval
 obtain ⟨fuel, hf⟩ := hd
 obtain ⟨ds, h1, h2⟩ := rd_of_trod _ t fuel _ _ hp hf
 unfold TC at h2
 rw [hu] at h2
 obtain ⟨els, rfl, h3, h4⟩ := h2
 simp only [RDs] at h1
 obtain ⟨u, r, h5, h6, _, h7⟩ := h1
 subst h7
 simp [Value.cells] at h5
 subst h5
 exact ⟨els, h6, h3, h4⟩
theorem rd_struct {base : Nat} {k : Nat} {t : TypeId} {fs : Array Field} {v : Value} {d : DataW H} {ps : List MemPlace} (hu : P.underlying t = some (.struct fs)) (hp : PT P (k + 1) t = true) (hval : Value.okWide P w .any base t v) (hd : DataW.Trod enc P w 0 (fun _ => true) held t v d ps) :
  ∃ ds, RD (fun b => b < w.heap.size) w (.agg ds) v ∧ Segs (TC P k) (fs.toList.map (·.type)) ds := by
 simp only [Value.okWide, hu] at hval
 obtain ⟨cs, rfl, _, _⟩ := hval
 obtain ⟨fuel, hf⟩ := hd
 obtain ⟨ds, h1, h2⟩ := rd_of_trod _ t fuel _ _ hp hf
 unfold TC at h2
 rw [hu] at h2
 refine ⟨ds, ?_, h2⟩
 simp only [RD]
 exact ⟨cs.toList, by simp, by simpa [Value.cells] using h1⟩
theorem rd_int {base : Nat} {t : TypeId} {q : IntKind} {v : Value} {d : DataW H} {ps : List MemPlace} (hu : P.underlying t = some (.int q)) (hval : Value.okWide P w .any base t v) (hd : DataW.Trod enc P w 0 (fun _ => true) held t v d ps) :
  ∃ n, RD (fun b => b < w.heap.size) w (.v (.int q n)) v ∧ (Lit.int q n).wf = true := by
 obtain ⟨n, rfl, _, _, hw⟩ := open_int hu hval hd
 exact ⟨n, rfl, hw⟩
def readAll (P : Program) : List TypeId → Bool
 | [] => true
 | t :: ts => P.readableRec t && decide (t < P.types.size) && readAll P ts
theorem trodAll_stays (hl : laidOutB P = true) {W W' : World} {sp : Nat → Bool} (hb : Below W.heap.size W W') : ∀ (ts : List TypeId) (vs : List Value) (ds : List (DataW H)) (ps : List MemPlace), readAll P ts = true →
  DataW.TrodAll enc P W 0 (fun _ => true) true ts vs ds ps → (∀ x ∈ ps, x.block < W.heap.size) → (∀ x ∈ ps, sp x.block = true) → DataW.TrodAll enc P W' 0 sp true ts vs ds ps
 | [], [], [], ps, _, h, _, _ => h
 | t :: ts, v :: vs, d :: ds, ps, hr, h, hlt, hs => by
  simp only [readAll, Bool.and_eq_true, decide_eq_true_eq] at hr
  obtain ⟨p, q, h1, h2, rfl⟩ := h
  exact ⟨p, q, WideElems.Trod_stays hl hr.1.1 hr.1.2 h1 (fun x hx => hb.same (hlt x (by simp [hx]))) (fun x hx => hs x (by simp [hx])),
   trodAll_stays hl hb ts vs ds q hr.2 h2 (fun x hx => hlt x (by simp [hx])) (fun x hx => hs x (by simp [hx])), rfl⟩
 | [], _ :: _, _, _, _, h, _, _ => h.elim
 | [], [], _ :: _, _, _, h, _, _ => h.elim
 | _ :: _, [], _, _, _, h, _, _ => h.elim
 | _ :: _, _ :: _, [], _, _, h, _, _ => h.elim
theorem law_post {fn : Func} {s : ChangeSpec} {apart fresh handsOn again : Bool} {W W' : World} {args : Array Value} {ds : List (DataW H)} {before : List MemPlace} {tb : TypeId} (hl : laidOutB P = true) (hr : readAll P fn.params.toList = true)
  (hv : s.vars = []) (hres : fn.resultTypes = #[tb]) (htb : P.underlying tb = some .bool) (hs : (s.fn H (ds ++ [])).results = [.lit (.bool true)] ∧ (s.fn H (ds ++ [])).args = ds ∧ (s.fn H (ds ++ [])).vars = [])
  (hW : DataW.Whole enc P fn.params.toList s.vars apart W args.toList ds [] before) (hb : Below W.heap.size W W') :
  s.post enc P fn apart fresh handsOn again W args (.bool true) W' := by
 have hlt : ∀ p ∈ before, p.block < W.heap.size := fun p hp => hW.lt p hp
 have hW' := hW
 obtain ⟨p, q, hA, hV, hpq, hz, hn⟩ := hW
 rw [hv] at hV
 obtain ⟨_, rfl⟩ := trodVars_none hV
 rw [List.append_nil] at hpq
 subst hpq
 have hargs : ∀ sp : Nat → Bool, (∀ x ∈ before, sp x.block = true) → DataW.TrodAll enc P W' 0 sp true fn.params.toList args.toList ds before := fun sp hsp => trodAll_stays hl hb _ _ _ _ hr hA hlt hsp
 have hR : ∀ (b : Nat) (sp : Nat → Bool) (hd : Bool), DataW.TrodAll enc P W' b sp hd fn.resultTypes.toList ((Value.bool true).resultList fn.resultTypes.size) [.lit (.bool true)] [] := fun b sp hd => by
  rw [hres]
  exact trodAll_mk1 (shut_bool htb true)
 refine ⟨ds, [], before, [], before, [], hW', by rw [hs.1]; exact hR _ _ _, by rw [hs.2.1]; exact hargs _ (fun x hx => by simpa using hlt x hx), by rw [hv, hs.2.2]; rfl, World.keptBut_mono (fun x hx => ⟨hx, Or.inr (Or.inl hx)⟩) (hb.frame (· ∈ before)), fun _ => ?_⟩
 refine ⟨ok_one hres rfl (okWide_bool_mk htb true), _, [], ([] ++ before) ++ [], ⟨[] ++ before, [], trodAll_append (hargs _ (fun _ _ => rfl)) (hR _ _ _), by rw [hv]; rfl, rfl, ?_, ?_⟩, ?_⟩
 ·intro b off hp
  have hin : MemPlace.cell b off ∈ before := by simpa using hp
  rw [hb.frozen (hlt _ hin)]
  exact hz b off hin
 ·intro ha
  simpa using hn ha
 ·intro x hx _
  simpa using hx
end
end Go.Proofs.YtjkfadaedgidpaaGreat
