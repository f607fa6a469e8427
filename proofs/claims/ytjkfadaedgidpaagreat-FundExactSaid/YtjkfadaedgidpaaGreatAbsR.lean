/- Numbers, results, and states that say less. No condition. -/
import Derived.Test.YtjkfadaedgidpaaGreatAbsQ
namespace Go.Proofs.YtjkfadaedgidpaaGreat
open Go.RowKit
set_option linter.unusedVariables false
set_option linter.unusedSimpArgs false
section
variable (k k' : IntKind) (x y : Int) (p q : Bool) (xs ys : Array Value)
theorem b_add : binV .add (.int k x) (.int k' y) = .int k (k.wrap (x + y)) := rfl
theorem b_sub : binV .sub (.int k x) (.int k' y) = .int k (k.wrap (x - y)) := rfl
theorem b_mul : binV .mul (.int k x) (.int k' y) = .int k (k.wrap (x * y)) := rfl
theorem b_rem : binV .rem (.int k x) (.int k' y) = .int k (x.tmod y) := rfl
theorem b_and : binV .and (.int k x) (.int k' y) = .int k (k.wrap (BitVec.ofInt k.bits x &&& BitVec.ofInt k.bits y).toNat) := rfl
theorem b_or : binV .or (.int k x) (.int k' y) = .int k (k.wrap (BitVec.ofInt k.bits x ||| BitVec.ofInt k.bits y).toNat) := rfl
theorem b_shl : binV .shl (.int k x) (.int k' y) = .int k (k.wrap (x * 2 ^ (min y.toNat k.bits))) := rfl
theorem b_shr : binV .shr (.int k x) (.int k' y) = .int k (x.fdiv (2 ^ (min y.toNat k.bits))) := rfl
theorem b_eql : binV .eql (.int k x) (.int k' y) = .bool (x == y) := rfl
theorem b_neq : binV .neq (.int k x) (.int k' y) = .bool (x != y) := rfl
theorem b_lss : binV .lss (.int k x) (.int k' y) = .bool (decide (x < y)) := rfl
theorem b_leq : binV .leq (.int k x) (.int k' y) = .bool (decide (x ≤ y)) := rfl
theorem b_gtr : binV .gtr (.int k x) (.int k' y) = .bool (decide (x > y)) := rfl
theorem b_geq : binV .geq (.int k x) (.int k' y) = .bool (decide (x ≥ y)) := rfl
theorem b_eqlb : binV .eql (.bool p) (.bool q) = .bool (p == q) := rfl
theorem b_neqb : binV .neq (.bool p) (.bool q) = .bool (!(p == q)) := rfl
theorem b_eqla : binV .eql (.agg xs) (.agg ys) = .bool (veqL xs.toList ys.toList) := rfl
theorem b_neqa : binV .neq (.agg xs) (.agg ys) = .bool (!veqL xs.toList ys.toList) := rfl
theorem u_neg : unV .neg (.int k x) = .int k (k.wrap (0 - x)) := rfl
theorem u_not : unV .not (.bool p) = .bool (!p) := rfl
theorem mx_int : mxV [.int k x, .int k' y] = .int k (if y > x then y else x) := rfl
theorem mn_int : mnV [.int k x, .int k' y] = .int k (if y < x then y else x) := rfl
theorem bif_tt (q : Bool) : (bif p then q else false) = (p && q) := by cases p <;> rfl
theorem bif_ff (q : Bool) : (bif p then true else q) = (p || q) := by cases p <;> rfl
end
def resA (P : Program) (s : AS) : ResultVar → AV
 | .tmp t => s.tm.getD t .any
 | .cell p t =>
  match s.tm.getD p .any with
  | .ptr r i o =>
   match s.mem r with
   | some row => bif aggT P t then .ag (((row.els.getD i []).drop o).take (szT P t)) else (row.els.getD i []).getD o .any
   | none => .any
  | _ => .any
def resC (P : Program) (s : AS) : ResultVar → Prop
 | .tmp _ => True
 | .cell p t =>
  match s.tm.getD p .any with
  | .ptr r i o => ∃ row, s.mem r = some row ∧ row.g ∧ tyOk P t = true ∧ i < row.els.length ∧ (bif aggT P t then decide (o + szT P t ≤ (row.els.getD i []).length) else decide (o < (row.els.getD i []).length)) = true
  | _ => False
def resCs (P : Program) (s : AS) : List ResultVar → Prop
 | [] => True
 | r :: rs => resC P s r ∧ resCs P s rs
theorem resV_of {P : Program} {s : AS} : ∀ {r : ResultVar}, resC P s r → resV P s r (resA P s r)
 | .tmp t, _ => rfl
 | .cell p t, h => by
  simp only [resC] at h
  split at h
  ·rename_i hp
   obtain ⟨row, h1, h2, h3, h4, h5⟩ := h
   refine ⟨_, _, _, row, hp, h1, h2, h3, h4, ?_⟩
   simp only [resA]
   rw [hp]
   simp only [h1]
   cases ha : aggT P t <;> rw [ha] at h5 <;> simp only [cond_true, cond_false, decide_eq_true_eq] at h5 ⊢ <;> exact ⟨h5, trivial⟩
  ·exact h.elim
theorem resVs_of {P : Program} {s : AS} : ∀ {rs : List ResultVar}, resCs P s rs → resVs P s rs (rs.map (resA P s))
 | [], _ => rfl
 | r :: rs, h => ⟨_, _, rfl, resV_of h.1, resVs_of h.2⟩
theorem done0 {P : Program} {rs : List ResultVar} {res : AV} {s : AS} (hc : resCs P s rs) (hr : resAll (rs.map (resA P s)) = res) (hf : flatA res) (hi : res.ids = []) : ResOk P rs [] res s :=
 ⟨_, id, resVs_of hc, by rw [ren_nil id res hi, hr], hf, by simp, by rw [hi]; simp, by simp, by simp⟩
theorem done1 {P : Program} {rs : List ResultVar} {res : AV} {s : AS} {o : ORow} (r : Nat) {row : ARow} (hc : resCs P s rs) (hr : resAll (rs.map (resA P s)) = res.ren (fun _ => r)) (hf : flatA res) (hi : ∀ j, j ∈ res.ids → j = 0)
  (hm : s.mem r = some row) (hg : row.g) (ht : row.ty = o.ty) (hz : row.sz = o.sz) (he : row.els = o.els.map (·.map .d)) (hfl : ∀ l, l ∈ o.els → flatDs l) : ResOk P rs [o] res s :=
 ⟨_, fun _ => r, resVs_of hc, hr, hf, by simpa using hfl, fun j hj => by simp [hi j hj], fun j j' h1 h2 _ => by simp at h1 h2; omega, fun j o' ho => by
  cases j with
  | zero =>
   simp at ho
   subst ho
   exact ⟨row, hm, hg, ht, hz, he, .inl (by simp)⟩
  | succ j => simp at ho⟩
section
variable {P : Program} {Q : Exit → AS → Prop} {n : Nat} {l l' : List (Nat × AV)} {m m' : List (Nat × ARow)} {c : Code}
theorem look_mem : ∀ {l : List (Nat × AV)} {d : Nat}, look l d = .any ∨ ∃ p ∈ l, p.1 = d ∧ look l d = p.2
 | [], d => .inl rfl
 | p :: l, d => by
  simp only [look]
  by_cases h : d = p.1
  ·exact .inr ⟨p, by simp, h.symm, by simp [h]⟩
  ·have h2 : (d == p.1) = false := by simpa using h
   rw [h2, cond_false]
   rcases look_mem (l := l) (d := d) with h3 | ⟨q, h3, h4, h5⟩
   ·exact .inl h3
   ·exact .inr ⟨q, by simp [h3], h4, h5⟩
def leL (l : List (Nat × AV)) : List (Nat × AV) → Prop
 | [] => True
 | p :: ps => look l p.1 = p.2 ∧ leL l ps
theorem leL_mem : ∀ {l' : List (Nat × AV)}, leL l l' → ∀ p ∈ l', look l p.1 = p.2
 | [], _, p, hp => by simp at hp
 | q :: ps, h, p, hp => by
  rcases List.mem_cons.1 hp with rfl | hp
  ·exact h.1
  ·exact leL_mem h.2 p hp
theorem VLes_of {f : Nat → Nat} {V : List Nat} : ∀ {xs ys : List AV}, xs.length = ys.length → (∀ i, i < xs.length → VLe f V (xs.getD i .any) (ys.getD i .any)) → VLes f V xs ys
 | [], ys, h, _ => by simp only [VLes]; exact List.eq_nil_of_length_eq_zero h.symm
 | x :: xs, [], h, _ => by simp at h
 | x :: xs, y :: ys, h, hh => by
  simp only [VLes]
  exact ⟨y, ys, rfl, by simpa using hh 0 (by simp), VLes_of (by simpa using h) fun i hi => by simpa using hh (i + 1) (by simpa using hi)⟩
mutual
theorem ren_id : ∀ (x : AV), x.ren id = x
 | .any => rfl
 | .d x => rfl
 | .ep cs => rfl
 | .ref r n => rfl
 | .ptr r i o => rfl
 | .ag cs => by simp only [AV.ren]; rw [renL_id cs]
 | .tp cs => by simp only [AV.ren]; rw [renL_id cs]
 | .wh g x => by simp only [AV.ren]; rw [ren_id x]
 | .cl g cs => by simp only [AV.ren]; rw [renL_id cs]
theorem renL_id : ∀ (xs : List AV), AV.renL id xs = xs
 | [] => rfl
 | x :: xs => by
  simp only [AV.renL]
  rw [ren_id x, renL_id xs]
end
theorem VLe.refl (x : AV) : VLe id [] x x := .inr (.inl ⟨(ren_id x).symm, by simp⟩)
theorem VLes.refl : ∀ (xs : List AV), VLes id [] xs xs
 | [] => by simp only [VLes]
 | x :: xs => by simp only [VLes]; exact ⟨_, _, rfl, VLe.refl x, VLes.refl xs⟩
theorem VLess.refl : ∀ (xs : List (List AV)), VLess id [] xs xs
 | [] => by simp only [VLess]
 | x :: xs => by simp only [VLess]; exact ⟨_, _, rfl, VLes.refl x, VLess.refl xs⟩
theorem mem_idsL : ∀ {xs : List AV} {r : Nat}, r ∈ AV.idsL xs ↔ ∃ x ∈ xs, r ∈ x.ids
 | [], r => by simp [AV.idsL]
 | x :: xs, r => by simp [AV.idsL, mem_idsL (xs := xs)]
theorem look_ids (hw : (S n l m).Wf) (d : Nat) (hd : d < n) : ∀ r, r ∈ (look l d).ids → lookR m r ≠ none := fun r hr =>
 hw.1 r (mem_idsL.2 ⟨look l d, by simp only [S, List.mem_map, List.mem_range]; exact ⟨d, hd, rfl⟩, hr⟩)
theorem S_idsL {r : Nat} (h : r ∈ AV.idsL (S n l m).tm) : ∃ d, d < n ∧ r ∈ (look l d).ids := by
 obtain ⟨x, hx, hr⟩ := mem_idsL.1 h
 simp only [S, List.mem_map, List.mem_range] at hx
 obtain ⟨d, hd, rfl⟩ := hx
 exact ⟨d, hd, hr⟩
theorem awp_keep (l' : List (Nat × AV)) (hl : leL l l') (h : AWp P c Q (S n l' m)) : AWp P c Q (S n l m) := fun B w0 gh a w hS => by
 have hw : (S n l m).Wf := ⟨hS.wft, hS.wfm⟩
 have hk : ∀ d, look l' d = .any ∨ look l' d = look l d := fun d => by
  rcases look_mem (l := l') (d := d) with h1 | ⟨p, h1, rfl, h2⟩
  ·exact .inl h1
  ·exact .inr (by rw [h2, leL_mem hl p h1])
 refine awp_le (le_of (s := S n l m) (s' := S n l' m) id [] (VLes_of (by simp [S]) fun i hi => ?_) (fun r row hr _ => ⟨row, hr, ⟨id, rfl, rfl, fun _ => rfl, id, .inl, VLess.refl _⟩⟩) (by simp) (fun r1 r2 _ _ _ _ _ _ h => h) (fun r _ _ => ⟨by simp, rfl⟩) ⟨fun r hr => ?_, hw.2⟩) h B w0 gh a w hS
 ·simp only [S, List.length_map, List.length_range] at hi
  rw [S_getD n l m i hi, S_getD n l' m i hi]
  rcases hk i with h1 | h1
  ·exact .inl h1
  ·rw [h1]; exact VLe.refl _
 ·obtain ⟨d, hd, hr⟩ := S_idsL hr
  rcases hk d with h1 | h1
  ·rw [h1] at hr; simp [AV.ids] at hr
  ·rw [h1] at hr; exact look_ids hw d hd r hr
def leV (f : Nat → Nat) (V : List Nat) (l : List (Nat × AV)) : List (Nat × AV) → Prop
 | [] => True
 | p :: ps => VLe f V (look l p.1) p.2 ∧ leV f V l ps
def leR (f : Nat → Nat) (V : List Nat) (m m' : List (Nat × ARow)) : List (Nat × ARow) → Prop
 | [] => True
 | p :: ps => (p.1 ∉ V → ∃ row, lookR m (f p.1) = some row ∧ RowLe f V (lookR m') p.1 row p.2) ∧ (p.1 ∈ V → p.2.els = []) ∧ leR f V m m' ps
def wfV (m' : List (Nat × ARow)) : List (Nat × AV) → Prop
 | [] => True
 | p :: ps => (∀ r, r ∈ p.2.ids → lookR m' r ≠ none) ∧ wfV m' ps
def wfR (m' : List (Nat × ARow)) : List (Nat × ARow) → Prop
 | [] => True
 | p :: ps => (∀ e, e ∈ p.2.els → ∀ r', r' ∈ AV.idsL e → lookR m' r' ≠ none) ∧ wfR m' ps
theorem leV_mem {f : Nat → Nat} {V : List Nat} : ∀ {l' : List (Nat × AV)}, leV f V l l' → ∀ p ∈ l', VLe f V (look l p.1) p.2
 | [], _, p, hp => by simp at hp
 | q :: ps, h, p, hp => by
  rcases List.mem_cons.1 hp with rfl | hp
  ·exact h.1
  ·exact leV_mem h.2 p hp
theorem leR_mem {f : Nat → Nat} {V : List Nat} {m m' : List (Nat × ARow)} : ∀ {q : List (Nat × ARow)}, leR f V m m' q → ∀ p ∈ q, (p.1 ∉ V → ∃ row, lookR m (f p.1) = some row ∧ RowLe f V (lookR m') p.1 row p.2) ∧ (p.1 ∈ V → p.2.els = [])
 | [], _, p, hp => by simp at hp
 | q :: ps, h, p, hp => by
  rcases List.mem_cons.1 hp with rfl | hp
  ·exact ⟨h.1, h.2.1⟩
  ·exact leR_mem h.2.2 p hp
theorem wfV_mem : ∀ {l' : List (Nat × AV)}, wfV m' l' → ∀ p ∈ l', ∀ r, r ∈ p.2.ids → lookR m' r ≠ none
 | [], _, p, hp => by simp at hp
 | q :: ps, h, p, hp => by
  rcases List.mem_cons.1 hp with rfl | hp
  ·exact h.1
  ·exact wfV_mem h.2 p hp
theorem wfR_mem : ∀ {q : List (Nat × ARow)}, wfR m' q → ∀ p ∈ q, ∀ e, e ∈ p.2.els → ∀ r', r' ∈ AV.idsL e → lookR m' r' ≠ none
 | [], _, p, hp => by simp at hp
 | q :: ps, h, p, hp => by
  rcases List.mem_cons.1 hp with rfl | hp
  ·exact h.1
  ·exact wfR_mem h.2 p hp
theorem lookR_mem : ∀ {m : List (Nat × ARow)} {r : Nat} {row : ARow}, lookR m r = some row → (r, row) ∈ m
 | [], r, row, h => by simp [lookR] at h
 | p :: m, r, row, h => by
  simp only [lookR] at h
  by_cases hr : r = p.1
  ·subst hr
   simp at h
   subst h
   simp
  ·have h2 : (r == p.1) = false := by simpa using hr
   rw [h2, cond_false] at h
   exact List.mem_cons_of_mem _ (lookR_mem h)
theorem le_S (f : Nat → Nat) (V : List Nat) (hl : leV f V l l') (hr : leR f V m m' m') (hi : ∀ r1 r2, lookR m' r1 ≠ none → lookR m' r2 ≠ none → r1 ∉ V → r2 ∉ V → f r1 = f r2 → r1 = r2) (hp : ∀ r, lookR m' r ≠ none → pinned r → r ∉ V ∧ f r = r) (hwl : wfV m' l') (hwr : wfR m' m') : Le (S n l m) (S n l' m') := by
 refine le_of f V (VLes_of (by simp [S]) fun i hi => ?_) (fun r row hr' hV => ?_) (fun r hV row hr' => ?_) (fun r1 r2 row1 row2 h1 h2 h3 h4 h5 => ?_) hp ⟨fun r hr => ?_, fun r row hr' => ?_⟩
 ·simp only [S, List.length_map, List.length_range] at hi
  rw [S_getD n l m i hi, S_getD n l' m' i hi]
  rcases look_mem (l := l') (d := i) with h1 | ⟨p, h1, rfl, h2⟩
  ·exact .inl h1
  ·rw [h2]; exact leV_mem hl p h1
 ·exact (leR_mem hr _ (lookR_mem hr')).1 hV
 ·exact (leR_mem hr _ (lookR_mem hr')).2 hV
 ·exact hi r1 r2 (by rw [show lookR m' r1 = some row1 from h1]; simp) (by rw [show lookR m' r2 = some row2 from h2]; simp) h3 h4 h5
 ·obtain ⟨d, hd, hr⟩ := S_idsL hr
  rcases look_mem (l := l') (d := d) with h1 | ⟨p, h1, rfl, h2⟩
  ·rw [h1] at hr; simp [AV.ids] at hr
  ·rw [h2] at hr; exact wfV_mem hwl p h1 r hr
 ·exact wfR_mem hwr _ (lookR_mem hr')
theorem le_S0 (hl : leL l l') (hi : wfV [] l') : Le (S n l m) (S n l' []) := by
 refine le_S id [] ?_ trivial (by simp [lookR]) (by simp [lookR]) hi trivial
 have : ∀ q : List (Nat × AV), leL l q → leV id [] l q := by
  intro q
  induction q with
  | nil => intro _; trivial
  | cons p ps ih => intro h; exact ⟨by rw [h.1]; exact VLe.refl _, ih h.2⟩
 exact this _ hl
end
section
theorem acalls_S {P : Program} {f : FuncId} {fn : Func} {c : Code} {args : List D} {rows : List ORow} {res : AV} {rs : List ResultVar} (hf : P.funcs[f]? = some fn) (hb : fn.body = some c) (hrs : fn.results.toList = rs) (n : Nat) (l : List (Nat × AV)) (hn : fn.ntmps = n) (hle : args.length ≤ n)
  (hl : (List.range args.length).zip (args.map .d) = l) (h : AWp P c (aPost (ResOk P rs rows res)) (S n l [])) : ACalls P f args rows res := by
 refine acalls_of hf hb hrs _ rfl ?_
 rw [S_init, hl, hn]
 rw [show args.length + (n - args.length) = n from by omega]
 exact h
end
end Go.Proofs.YtjkfadaedgidpaaGreat
