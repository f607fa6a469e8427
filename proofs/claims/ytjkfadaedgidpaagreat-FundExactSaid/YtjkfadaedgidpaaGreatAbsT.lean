/- Calls and lists of data, as equations. No condition. -/
import Derived.Test.YtjkfadaedgidpaaGreatAbsR
namespace Go.Proofs.YtjkfadaedgidpaaGreat
open Go.RowKit
set_option linter.unusedVariables false
set_option linter.unusedSimpArgs false
theorem IsDs_iff (l : List AV) (ds : List D) : IsDs l ds = (unDs l = some ds) :=
 propext ⟨fun h => by rw [h]; exact unDs_map ds, fun h => unDs_eq h⟩
section
variable (s : AS)
theorem asD_self (x : D) : asD s (.d x) x = True := by
 simp only [asD, eq_iff_iff, iff_true]
 split
 ·rename_i h; injection h with h; subst h; exact ⟨0, .inr rfl⟩
 ·rename_i h; cases h; rfl
 ·rename_i h; cases h
 ·rename_i h; cases h
 ·rename_i h; cases h
 ·rename_i h; cases h
 ·rename_i h1 h2 h3 h4 h5; exact h1 _ rfl
theorem asD_ep (cs : List D) (d : D) : asD s (.ep cs) d = (d = .pt cs) := rfl
theorem asD_ptr (r i o : Nat) (d : D) : asD s (.ptr r i o) d = ∃ row, s.mem r = some row ∧ i = 0 ∧ o = 0 ∧ ∃ cells, unE row.els = some [cells] ∧ d = .pt cells := by
 simp only [asD, IsD_iff]
 apply propext
 constructor
 ·rintro ⟨row, cells, h1, h2, h3, h4⟩; exact ⟨row, h1, h2, h3, cells, h4⟩
 ·rintro ⟨row, h1, h2, h3, cells, h4⟩; exact ⟨row, cells, h1, h2, h3, h4⟩
theorem asD_sl (sz : Nat) (els : List (List D)) (d : D) : asD s (.d (.sl sz els)) d = (d = .sl sz els) := rfl
theorem asD_agg (cs : List D) (d : D) : asD s (.d (.agg cs)) d = (d = .agg cs) := rfl
theorem asD_int (k : IntKind) (n : Int) (d : D) : asD s (.d (.v (.int k n))) d = (d = .v (.int k n)) := rfl
theorem asD_bool (b : Bool) (d : D) : asD s (.d (.v (.bool b))) d = (d = .v (.bool b)) := rfl
theorem asD_func (f : Fn) (x y : Array Value) (d : D) : asD s (.d (.v (.func f x y))) d = (d = .v (.func f x y)) := rfl
theorem asD_nil (sz : Nat) : asD s (.d (.v (.slice none 0 0))) (.sl sz []) = True := by
 simp only [asD, eq_iff_iff, iff_true]
 exact ⟨sz, .inl rfl⟩
theorem asD_ag (cs : List AV) (d : D) : asD s (.ag cs) d = ∃ ds, unDs cs = some ds ∧ d = .agg ds := by
 simp only [asD, IsDs_iff]
theorem asD_ref (r n : Nat) (d : D) : asD s (.ref r n) d = ∃ row, s.mem r = some row ∧ ∃ ds, unE row.els = some ds ∧ n = ds.length ∧ d = .sl row.sz ds := by
 simp only [asD, IsD_iff]
 apply propext
 constructor
 ·rintro ⟨row, ds, h⟩; exact ⟨row, h.1, ds, h.2⟩
 ·rintro ⟨row, h, ds, h2⟩; exact ⟨row, ds, h, h2⟩
theorem asEs_nil : asEs s [] [] = True := by simp only [asEs]
theorem asEs_cons (x : AV) (xs : List AV) (d : D) (ds : List D) : asEs s (x :: xs) (d :: ds) = (asE s x d ∧ asEs s xs ds) := by
 simp only [asEs]
 apply propext
 constructor
 ·rintro ⟨d', t, h, h1, h2⟩; injection h with h h'; subst h h'; exact ⟨h1, h2⟩
 ·rintro ⟨h1, h2⟩; exact ⟨d, ds, rfl, h1, h2⟩
theorem asEc_nil : asEc s [] [] = True := by simp only [asEc]
theorem asEc_cons (x : AV) (xs : List AV) (d : D) (ds : List D) : asEc s (x :: xs) (d :: ds) = (asD s x d ∧ asEc s xs ds) := by
 simp only [asEc]
 apply propext
 constructor
 ·rintro ⟨d', t, h, h1, h2⟩; injection h with h h'; subst h h'; exact ⟨h1, h2⟩
 ·rintro ⟨h1, h2⟩; exact ⟨d, ds, rfl, h1, h2⟩
theorem asEc_of_Ds : ∀ {ds : List D}, asEc s (ds.map .d) ds
 | [] => by simp only [asEc, List.map_nil]
 | x :: ds => by
  simp only [List.map_cons, asEc]
  refine ⟨x, ds, rfl, ?_, asEc_of_Ds⟩
  rw [asD_self]; trivial
theorem asE_ag (cs : List AV) (ds : List D) : asE s (.ag cs) (.agg ds) = asEc s cs ds := by
 apply propext
 constructor
 ·rintro (h | ⟨cs', ds', ⟨h1, h2⟩ | ⟨f, h1, h2⟩, h3⟩)
  ·simp only [asD, IsDs] at h
   obtain ⟨ds', rfl, h⟩ := h
   injection h with h
   subst h
   exact asEc_of_Ds s
  ·injection h1 with h1; injection h2 with h2; subst h1 h2; exact h3
  ·cases h1
 ·exact fun h => .inr ⟨cs, ds, .inl ⟨rfl, rfl⟩, h⟩
theorem asE_cl (f : FuncId) (cs : List AV) (ds : List D) : asE s (.cl f cs) (.fn f ds) = asEc s cs ds := by
 apply propext
 constructor
 ·rintro (h | ⟨cs', ds', ⟨h1, h2⟩ | ⟨f', h1, h2⟩, h3⟩)
  ·simp only [asD] at h
  ·cases h1
  ·injection h1 with h0 h1; injection h2 with h0 h2; subst h1 h2; exact h3
 ·exact fun h => .inr ⟨cs, ds, .inr ⟨f, rfl, rfl⟩, h⟩
theorem asF_cl (f : FuncId) (cs : List AV) : asF s (.cl f cs) = ∀ c, c ∈ cs → asG s c := by
 apply propext
 constructor
 ·exact fun h => h.2 cs (.inr ⟨f, rfl⟩)
 ·exact fun h => ⟨trivial, fun cs' h' => by
   rcases h' with h' | ⟨f', h'⟩
   ·cases h'
   ·injection h' with h0 h'; subst h'; exact h⟩
theorem asE_d (x d : D) : asE s (.d x) d = asD s (.d x) d := by
 apply propext
 constructor
 ·rintro (h | ⟨cs', ds', ⟨h1, h2⟩ | ⟨f, h1, h2⟩, h3⟩)
  ·exact h
  ·cases h1
  ·cases h1
 ·exact .inl
theorem asE_ref (r n : Nat) (d : D) : asE s (.ref r n) d = asD s (.ref r n) d := by
 apply propext
 constructor
 ·rintro (h | ⟨cs', ds', ⟨h1, h2⟩ | ⟨f, h1, h2⟩, h3⟩)
  ·exact h
  ·cases h1
  ·cases h1
 ·exact .inl
theorem asF_d (x : D) : asF s (.d x) = True := by simp only [asF, asG, eq_iff_iff, iff_true]; exact ⟨trivial, fun cs h => by rcases h with h | ⟨_, h⟩ <;> cases h⟩
theorem asF_ref (r n : Nat) : asF s (.ref r n) = ∀ row, s.mem r = some row → row.g := by
 apply propext
 constructor
 ·exact fun h => h.1
 ·exact fun h => ⟨h, fun cs h => by rcases h with h | ⟨_, h⟩ <;> cases h⟩
def asGs (s : AS) : List AV → Prop
 | [] => True
 | x :: xs => asG s x ∧ asGs s xs
theorem asGs_mem : ∀ {xs : List AV}, asGs s xs → ∀ c, c ∈ xs → asG s c
 | [], _, c, hc => by simp at hc
 | x :: xs, h, c, hc => by
  rcases List.mem_cons.1 hc with rfl | hc
  ·exact h.1
  ·exact asGs_mem h.2 c hc
theorem asGs_all : ∀ {xs : List AV}, (∀ c, c ∈ xs → asG s c) → asGs s xs
 | [], _ => trivial
 | x :: xs, h => ⟨h x (by simp), asGs_all fun c hc => h c (by simp [hc])⟩
theorem asF_ag (cs : List AV) : asF s (.ag cs) = asGs s cs := by
 apply propext
 constructor
 ·exact fun h => asGs_all s (h.2 cs (.inl rfl))
 ·exact fun h => ⟨trivial, fun cs' h' => by
   rcases h' with h' | ⟨_, h'⟩
   ·injection h' with h'; subst h'; exact asGs_mem s h
   ·cases h'⟩
theorem asG_d (x : D) : asG s (.d x) = True := rfl
theorem asG_ag (x : List AV) : asG s (.ag x) = True := rfl
theorem asG_ptr (r i o : Nat) : asG s (.ptr r i o) = ∀ row, s.mem r = some row → row.g := rfl
theorem asG_ep (cs : List D) : asG s (.ep cs) = True := rfl
theorem asG_ref (r n : Nat) : asG s (.ref r n) = ∀ row, s.mem r = some row → row.g := rfl
theorem asDs_nil : asDs s [] [] = True := by simp only [asDs]
theorem asDs_cons (x : AV) (xs : List AV) (d : D) (ds : List D) : asDs s (x :: xs) (d :: ds) = (asD s x d ∧ asDs s xs ds) := by
 simp only [asDs]
 apply propext
 constructor
 ·rintro ⟨d', t, h, h1, h2⟩; injection h with h h'; subst h h'; exact ⟨h1, h2⟩
 ·rintro ⟨h1, h2⟩; exact ⟨d, ds, rfl, h1, h2⟩
end
def atsL (s : AS) : List Operand → List AV
 | [] => []
 | x :: xs => s.at x :: atsL s xs
theorem atsL_eq (s : AS) : ∀ (xs : List Operand), xs.map s.at = atsL s xs
 | [] => rfl
 | x :: xs => by rw [List.map_cons, atsL_eq s xs]; rfl
def freeN (m : List (Nat × ARow)) (base : Nat) : Nat → Prop
 | 0 => True
 | k + 1 => lookR m (base + k) = none ∧ freeN m base k
theorem freeN_lt {m : List (Nat × ARow)} {base : Nat} : ∀ {k j : Nat}, freeN m base k → j < k → lookR m (base + j) = none
 | 0, j, _, h => by omega
 | k + 1, j, h, hj => by
  by_cases h2 : j = k
  ·subst h2; exact h.1
  ·exact freeN_lt h.2 (by omega)
section
variable {P : Program} {C : AS → Prop} {n : Nat} {l : List (Nat × AV)} {m : List (Nat × ARow)} {g : Option Prop} {ty : TypeId} {args : List Operand} {ts : List TypeId}
theorem call_go {d : Tmp} {fid : FuncId} {ds : List D} {rows : List ORow} {res : AV} (hgo : goFn P fid) (hc : Gp g → ACalls P fid ds rows res) (hids : ∀ r, r ∈ res.ids → r < rows.length) (hrl : d < 1000 ∧ rows.length ≤ 1000)
  (h : asDs (S n l m) (atsL (S n l m) args) ds ∧ (Gp g → oksG (S n l m) args) ∧ freeN m (1000 * (d + 1)) rows.length ∧ nx P C (S n l m) (some d) g (res.ren (1000 * (d + 1) + ·)) (addRows (Gp g) (1000 * (d + 1)) 0 rows)) :
  stC P C (S n l m) (some d) g ty (.func fid) args ts := by
 obtain ⟨h1, h2, h3, h4⟩ := h
 refine st_call _ _ _ d fid ds rows res hgo hc rfl ?_ hrl hids (fun j hj => freeN_lt h3 hj) (fun hg => ⟨trivial, h2 hg⟩) h4
 rw [atsL_eq]
 exact h1
theorem call_goE {d : Tmp} {fid : FuncId} {ds : List D} {rows : List ORow} {res : AV} (hgo : goFn P fid) (hc : Gp g → ACalls P fid ds rows res) (hids : ∀ r, r ∈ res.ids → r < rows.length) (hrl : d < 1000 ∧ rows.length ≤ 1000)
  (h : asEs (S n l m) (atsL (S n l m) args) ds ∧ (Gp g → oksF (S n l m) args) ∧ freeN m (1000 * (d + 1)) rows.length ∧ nx P C (S n l m) (some d) g (res.ren (1000 * (d + 1) + ·)) (addRows (Gp g) (1000 * (d + 1)) 0 rows)) :
  stC P C (S n l m) (some d) g ty (.func fid) args ts := by
 obtain ⟨h1, h2, h3, h4⟩ := h
 refine st_callE _ _ _ d fid ds rows res hgo hc rfl ?_ hrl hids (fun j hj => freeN_lt h3 hj) (fun hg => ⟨trivial, h2 hg⟩) h4
 rw [atsL_eq]
 exact h1
theorem call_goT {d t : Tmp} {fid : FuncId} {ds : List D} {rows : List ORow} {res : AV} (ht : t < n) (hl : (look l t).bare = .d (.v (.func (.func fid) #[] #[]))) (hgo : goFn P fid) (hc : Gp g → ACalls P fid ds rows res) (hids : ∀ r, r ∈ res.ids → r < rows.length) (hrl : d < 1000 ∧ rows.length ≤ 1000)
  (h : (Gp g → (look l t).ok) ∧ asDs (S n l m) (atsL (S n l m) args) ds ∧ (Gp g → oksG (S n l m) args) ∧ freeN m (1000 * (d + 1)) rows.length ∧ nx P C (S n l m) (some d) g (res.ren (1000 * (d + 1) + ·)) (addRows (Gp g) (1000 * (d + 1)) 0 rows)) :
  stC P C (S n l m) (some d) g ty (.tmp t) args ts := by
 obtain ⟨h0, h1, h2, h3, h4⟩ := h
 refine st_call _ _ _ d fid ds rows res hgo hc (by rw [S_tmp n l m t ht]; exact hl) ?_ hrl hids (fun j hj => freeN_lt h3 hj) (fun hg => ⟨by rw [Sk_tmp n l m t ht]; exact h0 hg, h2 hg⟩) h4
 rw [atsL_eq]
 exact h1
theorem call_goC {d t : Tmp} {fid : FuncId} {ds cs : List D} {rows : List ORow} {res : AV} (ht : t < n) (hl : (look l t).bare = .d (.fn fid cs)) (hgo : goFn P fid) (hc : Gp g → ACalls P fid (ds ++ cs) rows res) (hids : ∀ r, r ∈ res.ids → r < rows.length) (hrl : d < 1000 ∧ rows.length ≤ 1000)
  (h : (Gp g → (look l t).ok) ∧ asEs (S n l m) (atsL (S n l m) args) ds ∧ (Gp g → oksF (S n l m) args) ∧ freeN m (1000 * (d + 1)) rows.length ∧ nx P C (S n l m) (some d) g (res.ren (1000 * (d + 1) + ·)) (addRows (Gp g) (1000 * (d + 1)) 0 rows)) :
  stC P C (S n l m) (some d) g ty (.tmp t) args ts := by
 obtain ⟨h0, h1, h2, h3, h4⟩ := h
 refine st_callC _ _ _ d fid ds cs rows res hgo hc (.inr (by rw [S_tmp n l m t ht]; exact hl)) ?_ hrl hids (fun j hj => freeN_lt h3 hj) (fun hg => ⟨by rw [Sk_tmp n l m t ht]; exact h0 hg, h2 hg⟩) h4
 rw [atsL_eq]
 exact h1
theorem call_ext {dst : Option Tmp} {fid : FuncId} (vs : List Value) (v : Value) (hx : extOk P fid vs v) (h : grsL (S n l m) args = some vs ∧ (Gp g → oksL (S n l m) args) ∧ nx P C (S n l m) dst g (ofV v) []) :
  stC P C (S n l m) dst g ty (.func fid) args ts := by
 obtain ⟨h1, h2, h3⟩ := h
 exact st_ext _ _ _ fid vs v (fun _ => hx) rfl h1 (fun hg => ⟨trivial, h2 hg⟩) h3
variable {Q : Exit → AS → Prop} {x y c : Code}
theorem awp_condS {t : Tmp} (b : Bool) (ht : t < n) (hl : look l t = bv b) (h1 : b = true → AWp P x Q (S n l m)) (h2 : b = false → AWp P y Q (S n l m)) : AWp P (.cond (.tmp t) x y) Q (S n l m) :=
 awp_cond b (by rw [S_tmp n l m t ht, hl]; rfl) (by rw [Sk_tmp n l m t ht, hl]; trivial) h1 h2
def keepL (l : List (Nat × AV)) : List Nat → List (Nat × AV)
 | [] => []
 | k :: ks => (k, look l k) :: keepL l ks
theorem leL_keepL (l : List (Nat × AV)) : ∀ ks, leL l (keepL l ks)
 | [] => trivial
 | k :: ks => ⟨rfl, leL_keepL l ks⟩
theorem awp_keepL (ks : List Nat) (h : AWp P c Q (S n (keepL l ks) m)) : AWp P c Q (S n l m) := awp_keep _ (leL_keepL l ks) h
theorem keepL_nil (l : List (Nat × AV)) : keepL l [] = [] := rfl
theorem keepL_cons (l : List (Nat × AV)) (k : Nat) (ks : List Nat) : keepL l (k :: ks) = (k, look l k) :: keepL l ks := rfl
variable {K : AS → Prop} {s : AS} {i j : Nat}
theorem Th_exit : aThen K Q (.exit i) s = Q (.exit i) s := rfl
theorem Th_ret : aThen K Q .ret s = Q .ret s := rfl
theorem Bl_normal : aBlock i Q .normal s = Q .normal s := rfl
theorem Bl_ret : aBlock i Q .ret s = Q .ret s := rfl
theorem Bl_exit : aBlock i Q (.exit j) s = if j = i then Q .normal s else Q (.exit j) s := rfl
theorem Po_normal : aPost K .normal s = K s := rfl
theorem Po_ret : aPost K .ret s = K s := rfl
end
section
variable {P : Program} {C : AS → Prop} {s : AS} {dst : Option Tmp} {g : Option Prop} {ty : TypeId}
theorem evS_move (x : Operand) : evS P C s dst g ty (.move x) = ((Gp g → s.ok x) ∧ nx P C s dst g (s.at x) []) := rfl
theorem evS_assign (x : Operand) : evS P C s dst g ty (.assign x) = ((Gp g → s.ok x) ∧ nx P C s dst g (s.at x) []) := rfl
theorem evS_pick (c x y : Operand) : evS P C s dst g ty (.pick c x y) = pickK P C s dst g (s.ok c) (s.ok x) (s.ok y) (s.at c) (s.at x) (s.at y) := rfl
theorem evS_binOp (op : BinOp) (t t' : TypeId) (x y : Operand) : evS P C s dst g ty (.binOp op t x y t') = binK P C s dst g op t x y (s.at x).gr (s.at y).gr := rfl
theorem evS_unOp (op : UnOp) (t : TypeId) (x : Operand) : evS P C s dst g ty (.unOp op t x) = unK P C s dst g op x (s.at x).gr := rfl
theorem evS_convert (t t' : TypeId) (x : Operand) : evS P C s dst g ty (.convert t t' x) = cvK P C s dst g t t' x (s.at x).gr := rfl
theorem evS_extract (x : Operand) (i : Nat) : evS P C s dst g ty (.extract x i) = exK P C s dst g (s.ok x) i (s.at x) := rfl
theorem evS_fieldAddr (t : TypeId) (x : Operand) (f : Nat) : evS P C s dst g ty (.fieldAddr t x f) = faK P C s dst g (s.ok x) (offT P t f) (s.at x) := rfl
theorem evS_indexAddr (t : TypeId) (x ix : Operand) : evS P C s dst g ty (.indexAddr t x ix) = evIx P C s dst g (s.ok x ∧ s.ok ix) t (s.at x) (s.at ix) := rfl
theorem evS_index (t : TypeId) (x ix : Operand) : evS P C s dst g ty (.index t x ix) = evIv P C s dst g (s.ok x ∧ s.ok ix) t (s.at x) (s.at ix) := rfl
theorem evIv_int (okx : Prop) (t : TypeId) (x : AV) (k : IntKind) (n : Int) : evIv P C s dst g okx t x (.d (.v (.int k n))) = ixB P C s dst g okx n x (arrT P t) := rfl
theorem ixB_some (okx : Prop) (n : Int) (x : AV) (m : Nat) (e : TypeId) : ixB P C s dst g okx n x (some (m, e)) = (tyOk P e = true ∧ aggT P e = false ∧ szT P e = 1 ∧ ixV P C s dst g okx n m x) := rfl
theorem ixV_ag (okx : Prop) (n : Int) (m : Nat) (cs : List AV) : ixV P C s dst g okx n m (.ag cs) = (cs.length = m ∧ (Gp g → okx ∧ 0 ≤ n ∧ n < (m : Int)) ∧ nx P C s dst g (cs.getD n.toNat .any) []) := rfl
theorem ixV_agg (okx : Prop) (n : Int) (m : Nat) (ds : List D) : ixV P C s dst g okx n m (.d (.agg ds)) = ((ds.map AV.d).length = m ∧ (Gp g → okx ∧ 0 ≤ n ∧ n < (m : Int)) ∧ nx P C s dst g ((ds.map AV.d).getD n.toNat .any) []) := rfl
theorem evS_load (t : TypeId) (x : Operand) : evS P C s dst g ty (.load t x) = (tyOk P t = true ∧ evLd P C s dst g (s.ok x) (aggT P t) (szT P t) (s.at x)) := rfl
theorem evS_store (t : TypeId) (x y : Operand) : evS P C s dst g ty (.store t x y) = (g = none ∧ tyOk P t = true ∧ evSo P C s dst (s.ok x ∧ s.ok y) (szT P t) (s.at y).cellsOf (s.at x)) := rfl
theorem evS_box (t : TypeId) (x : Operand) : evS P C s dst g ty (.box t x) = boxK P C s g (s.ok x) t (s.at x).cellsOf dst := rfl
theorem evS_alloc (t : TypeId) : evS P C s dst g ty (.alloc t) = allocK P C s g t dst (zeroT P t) := rfl
theorem evS_build (t : TypeId) (parts : List (Nat × Operand)) : evS P C s dst g ty (.build t parts.toArray) = (bldT P t = true ∧ buildK P C s dst g t parts (zeroT P t)) := rfl
theorem evS_buildSlice (t : TypeId) (len : Nat) (parts : List (Nat × Operand)) : evS P C s dst g ty (.buildSlice t len parts.toArray) = bsK P C s g len parts dst (sliceT P t) := rfl
theorem evS_makeSlice (t : TypeId) (l c : Operand) : evS P C s dst g ty (.makeSlice t l c) = msK P C s g (s.ok l ∧ s.ok c) dst (sliceT P t) (s.at l) (s.at c) := rfl
theorem msK_some (ok : Prop) (d : Tmp) (e : TypeId) (k k' : IntKind) (n n' : Int) : msK P C s g ok (some d) (some e) (.d (.v (.int k n))) (.d (.v (.int k' n'))) = (n' = n ∧ msZ P C s g ok d e n (zeroT P e)) := rfl
theorem msZ_some (ok : Prop) (d : Tmp) (e : TypeId) (n : Int) (z : List Value) : msZ P C s g ok d e n (some z) = (z.length = szT P e ∧ (∀ u ∈ z, u.oneCell' = true) ∧ d < 1000 ∧ s.mem d = none ∧ (Gp g → ok ∧ 0 ≤ n ∧ n ≤ 1000000 ∧ byT P e ≤ 1000000) ∧
   nx P C s (some d) g (.ref d n.toNat) [(d, newRow1 (Gp g) e d (szT P e) true true (List.replicate n.toNat (z.map fun u => .d (.v u))))]) := rfl
theorem evS_call (c : Callee) (args : List Operand) (ts : List TypeId) : evS P C s dst g ty (.call { callee := c, args := args.toArray, argTypes := ts.toArray }) = evC P C s dst g ty c args ts := rfl
theorem evC_len (x : Operand) (t : TypeId) : evC P C s dst g ty (.builtin .len) [x] [t] = ((sliceT P t).isSome = true ∧ lenK P C s dst g (s.ok x) (s.at x)) := rfl
theorem evC_max (args : List Operand) (ts : List TypeId) : evC P C s dst g ty (.builtin .max) args ts = mxK P C s dst g (oksL s args) ts ty (grsL s args) := rfl
theorem evC_min (args : List Operand) (ts : List TypeId) : evC P C s dst g ty (.builtin .min) args ts = mnK P C s dst g (oksL s args) ts ty (grsL s args) := rfl
theorem evC_append (x y : Operand) (t t' : TypeId) : evC P C s dst g ty (.builtin .append) [x, y] [t, t'] = (t' = t ∧ Gp g ∧ apD P C s g (s.ok x) (s.ok y) (s.at x) (s.at y) dst (sliceT P t)) := rfl
theorem evC_value (f : Operand) (args : List Operand) (ts : List TypeId) : evC P C s dst g ty (.value f) args ts = stC P C s dst g ty f args ts := rfl
theorem evG_some (op : Op) (want : Bool) (d : Tmp) : evG P C s dst op ty want (some d) = evGK P C s dst op ty want (s.tm.getD d .any) := rfl
theorem evGK_b (op : Op) (want t : Bool) : evGK P C s dst op ty want (.d (.v (.bool t))) = evS P C s dst (some (t = want)) ty op := rfl
theorem evGK_wh (op : Op) (want t : Bool) (G : Prop) : evGK P C s dst op ty want (.wh G (.d (.v (.bool t)))) = evS P C s dst (some (G ∧ t = want)) ty op := rfl
end
theorem allO_nil : (∀ u ∈ ([] : List Value), u.oneCell' = true) = True := by simp
theorem allO_cons (x : Value) (xs : List Value) : (∀ u ∈ x :: xs, u.oneCell' = true) = (x.oneCell' = true ∧ ∀ u ∈ xs, u.oneCell' = true) := by simp
theorem oc_int (k : IntKind) (n : Int) : (Value.int k n).oneCell' = true := by simp [Value.oneCell']
theorem oc_bool (b : Bool) : (Value.bool b).oneCell' = true := by simp [Value.oneCell']
theorem oc_slice (a : Option Addr) (n c : Nat) : (Value.slice a n c).oneCell' = true := by simp [Value.oneCell']
theorem rg0 : List.range 0 = [] := rfl
theorem rg1 : List.range 1 = [0] := rfl
theorem rg2 : List.range 2 = [0, 1] := rfl
theorem rg3 : List.range 3 = [0, 1, 2] := rfl
theorem rg4 : List.range 4 = [0, 1, 2, 3] := rfl
theorem rg5 : List.range 5 = [0, 1, 2, 3, 4] := rfl
theorem rg6 : List.range 6 = [0, 1, 2, 3, 4, 5] := rfl
theorem maxLen_le (n : Nat) (h : n ≤ 1000000) : (n ≤ maxLen) = True := by
 simp only [eq_iff_iff, iff_true]
 exact Nat.le_trans h (by decide)
theorem bsParts_nil (s : AS) (g : Option Prop) (sz : Nat) : bsParts s g sz [] = True := rfl
theorem bsParts_cons (s : AS) (g : Option Prop) (sz : Nat) (p : Nat × Operand) (ps : List (Nat × Operand)) : bsParts s g sz (p :: ps) = ((Gp g → s.ok p.2 ∧ (s.at p.2).cellsOf.length = sz ∧ cell1s (s.at p.2).cellsOf) ∧ bsParts s g sz ps) := rfl
theorem bldPs_nil (P : Program) (s : AS) (g : Option Prop) (t : TypeId) (n : Nat) : bldPs P s g t n [] = True := rfl
theorem bldPs_cons (P : Program) (s : AS) (g : Option Prop) (t : TypeId) (n : Nat) (p : Nat × Operand) (ps : List (Nat × Operand)) : bldPs P s g t n (p :: ps) = (fldK g (s.ok p.2) (s.at p.2).cellsOf.length n (fldT P t p.1) ∧ cell1s (s.at p.2).cellsOf ∧ bldPs P s g t n ps) := rfl
theorem fldK_some (g : Option Prop) (okx : Prop) (len n off sz : Nat) : fldK g okx len n (some (off, sz)) = (Gp g → okx ∧ len = sz ∧ off + sz ≤ n) := rfl
section
variable {P : Program} {C : AS → Prop} {s : AS} {dst : Option Tmp} {g : Option Prop} {ty t : TypeId} {okx oky : Prop} {n i o r : Nat} {agg : Bool}
theorem evLd_ptr : evLd P C s dst g okx agg n (.ptr r i o) = ((Gp g → okx) ∧ ldR P C s dst g agg n i o (s.mem r)) := rfl
theorem evLd_ep_agg (cs : List D) : evLd P C s dst g okx true n (.ep cs) = ((Gp g → okx) ∧ (Gp g → n ≤ cs.length) ∧ nx P C s dst g (.d (.agg (cs.take n))) []) := rfl
theorem evLd_ep_one (cs : List D) : evLd P C s dst g okx false n (.ep cs) = ((Gp g → okx) ∧ (Gp g → 0 < cs.length) ∧ nx P C s dst g (.d (cs.getD 0 (.v undef))) []) := rfl
theorem ldR_agg (row : ARow) : ldR P C s dst g true n i o (some row) = ((Gp g → row.g ∧ i < row.els.length ∧ o + n ≤ (row.els.getD i []).length) ∧ nx P C s dst g (.ag (((row.els.getD i []).drop o).take n)) []) := rfl
theorem ldR_one (row : ARow) : ldR P C s dst g false n i o (some row) = ((Gp g → row.g ∧ i < row.els.length ∧ o < (row.els.getD i []).length) ∧ nx P C s dst g ((row.els.getD i []).getD o .any) []) := rfl
theorem evSo_ptr (cells : List AV) : evSo P C s dst okx n cells (.ptr r i o) = (okx ∧ soR P C s dst n cells r i o (s.mem r)) := rfl
theorem soR_some (cells : List AV) (row : ARow) : soR P C s dst n cells r i o (some row) = (row.g ∧ row.uq = true ∧ i < row.els.length ∧ cells.length = n ∧ cell1s cells ∧ o + n ≤ (row.els.getD i []).length ∧
   nx P C s dst none (.d (.v undef)) [(r, { row with els := row.els.set i (splice (row.els.getD i []) o cells) })]) := rfl
theorem evIx_ptr (k : IntKind) (z : Int) : evIx P C s dst g okx t (.ptr r i o) (.d (.v (.int k z))) = ((Gp g → okx) ∧ ixA P C s dst g (.ptr r i o) z (arrT P t)) := rfl
theorem evIx_ep (k : IntKind) (z : Int) (cs : List D) : evIx P C s dst g okx t (.ep cs) (.d (.v (.int k z))) = ((Gp g → okx) ∧ ixA P C s dst g (.ep cs) z (arrT P t)) := rfl
theorem evIx_sl (sz : Nat) (els : List (List D)) (k : IntKind) (n : Int) : evIx P C s dst g okx t (.d (.sl sz els)) (.d (.v (.int k n))) = ((Gp g → okx) ∧ (sliceT P t).map (szT P) = some sz ∧ (Gp g → 0 ≤ n ∧ n < (els.length : Int)) ∧ nx P C s dst g (.ep (els.getD n.toNat [])) []) := rfl
theorem evIx_ref (r m : Nat) (k : IntKind) (n : Int) : evIx P C s dst g okx t (.ref r m) (.d (.v (.int k n))) = ((Gp g → okx) ∧ (∃ row, s.mem r = some row ∧ (sliceT P t).map (szT P) = some row.sz ∧ (Gp g → row.g ∧ m ≤ row.els.length)) ∧ (Gp g → 0 ≤ n ∧ n < (m : Int)) ∧ nx P C s dst g (.ptr r n.toNat 0) []) := rfl
theorem ixA_ptr (z : Int) (m : Nat) (e : TypeId) : ixA P C s dst g (.ptr r i o) z (some (m, e)) = ((Gp g → 0 ≤ z ∧ z < (m : Int)) ∧ nx P C s dst g (.ptr r i (o + z.toNat * szT P e)) []) := rfl
theorem ixA_ep (z : Int) (m : Nat) (e : TypeId) (cs : List D) : ixA P C s dst g (.ep cs) z (some (m, e)) = ((Gp g → 0 ≤ z ∧ z < (m : Int)) ∧ nx P C s dst g (.ep (cs.drop (z.toNat * szT P e))) []) := rfl
theorem boxK_some (d : Tmp) (cells : List AV) : boxK P C s g okx t cells (some d) = (d < 1000 ∧ s.mem d = none ∧ (Gp g → okx ∧ cell1s cells) ∧ nx P C s (some d) g (.ptr d 0 0) [(d, newRow1 (Gp g) t d cells.length true false [cells])]) := rfl
theorem allocK_some (d : Tmp) (z : List Value) : allocK P C s g t (some d) (some z) = ((∀ u ∈ z, u.oneCell' = true) ∧ d < 1000 ∧ s.mem d = none ∧ nx P C s (some d) g (.ptr d 0 0) [(d, newRow1 (Gp g) t d z.length true false [z.map fun u => .d (.v u)])]) := rfl
theorem buildK_some (parts : List (Nat × Operand)) (z : List Value) : buildK P C s dst g t parts (some z) = ((∀ u ∈ z, u.oneCell' = true) ∧ bldPs P s g t z.length parts ∧ nx P C s dst g (.ag (bldCells P s t parts (z.map fun u => .d (.v u)))) []) := rfl
theorem bsK_some (len : Nat) (parts : List (Nat × Operand)) (d : Tmp) (e : TypeId) : bsK P C s g len parts (some d) (some e) = bsK2 P C s g len parts d e (zeroT P e) := rfl
theorem bsK2_some (len : Nat) (parts : List (Nat × Operand)) (d : Tmp) (e : TypeId) (z : List Value) : bsK2 P C s g len parts d e (some z) = (z.length = szT P e ∧ parts.map (·.1) = List.range len ∧ len * szT P e ≤ 16777216 ∧ len ≤ maxLen ∧
   d < 1000 ∧ s.mem d = none ∧ bsParts s g (szT P e) parts ∧ nx P C s (some d) g (.ref d len) [(d, newRow1 (Gp g) e d (szT P e) true true (parts.map fun p => (s.at p.2).cellsOf))]) := rfl
theorem apD_some (x y : AV) (d : Tmp) (e : TypeId) : apD P C s g okx oky x y (some d) (some e) = apZ P C s g d e okx oky x y (zeroT P e) := rfl
theorem apZ_some (x y : AV) (d : Tmp) (e : TypeId) (z : List Value) : apZ P C s g d e okx oky x y (some z) = (z.length = szT P e ∧ 0 < szT P e ∧ d < 1000 ∧ s.mem d = none ∧ okx ∧ oky ∧ apV P C s g d e x y) := rfl
theorem apV_sl (x : AV) (d : Tmp) (e : TypeId) (sz : Nat) (new : List (List D)) : apV P C s g d e x (.d (.sl sz new)) = (sz = szT P e ∧ apX P C s g d e new x) := rfl
theorem apV_nil (x : AV) (d : Tmp) (e : TypeId) : apV P C s g d e x (.d (.v (.slice none 0 0))) = apX P C s g d e [] x := rfl
theorem apV_ref (x : AV) (d : Tmp) (e : TypeId) : apV P C s g d e x (.ref r n) = apY P C s g d e x n (s.mem r) := rfl
theorem apY_some (x : AV) (d : Tmp) (e : TypeId) (row : ARow) : apY P C s g d e x n (some row) = (row.g ∧ apN P C s g d e x n row.sz (unE row.els)) := rfl
theorem apN_some (x : AV) (d : Tmp) (e : TypeId) (sz : Nat) (new : List (List D)) : apN P C s g d e x n sz (some new) = (n = new.length ∧ sz = szT P e ∧ apX P C s g d e new x) := rfl
theorem apX_nil (d : Tmp) (e : TypeId) (new : List (List D)) : apX P C s g d e new (.d (.v (.slice none 0 0))) = (new.length ≤ maxLen ∧ new.length * byT P e ≤ 140737488355328 ∧ nx P C s (some d) g (.ref d new.length) [(d, newRow1 True e d (szT P e) true true (new.map (·.map .d)))]) := rfl
theorem apX_ref (d : Tmp) (e : TypeId) (new : List (List D)) : apX P C s g d e new (.ref r n) = apRow P C s g d e new r n (s.mem r) := rfl
theorem apRow_some (d : Tmp) (e : TypeId) (new : List (List D)) (row : ARow) : apRow P C s g d e new r n (some row) = apR P C s g d e new r n row (unE row.els) := rfl
theorem apR_some (d : Tmp) (e : TypeId) (new old : List (List D)) (row : ARow) : apR P C s g d e new r n row (some old) = (row.g ∧ row.ap = true ∧ row.ty = e ∧ row.sz = szT P e ∧ n = old.length ∧ n + new.length ≤ maxLen ∧ (n + new.length) * byT P e ≤ 140737488355328 ∧
   nx P C s (some d) g (.ref d (n + new.length)) [(r, { row with uq := false, ap := false }), (d, { row with uq := false, ap := true, els := (old ++ new).map (·.map .d) })]) := rfl
theorem mxK_some (ts : List TypeId) (l : List Value) : mxK P C s dst g okx ts ty (some l) = ((Gp g → okx ∧ pureMax P ts.toArray ty l) ∧ nx P C s dst g (.d (.v (mxV l))) []) := rfl
theorem mnK_some (ts : List TypeId) (l : List Value) : mnK P C s dst g okx ts ty (some l) = ((Gp g → okx ∧ pureMin P ts.toArray ty l) ∧ nx P C s dst g (.d (.v (mnV l))) []) := rfl
end
theorem bldCells_nil (P : Program) (s : AS) (t : TypeId) (l : List AV) : bldCells P s t [] l = l := rfl
theorem bldCells_cons (P : Program) (s : AS) (t : TypeId) (p : Nat × Operand) (ps : List (Nat × Operand)) (l : List AV) : bldCells P s t (p :: ps) l = bldCells P s t ps (splice l ((fldT P t p.1).map (·.1) |>.getD 0) (s.at p.2).cellsOf) := rfl
theorem grL_nil : grL [] = some [] := rfl
theorem grD_nil : grD [] = some [] := rfl
end Go.Proofs.YtjkfadaedgidpaaGreat
