/- A region's operations carried out by equations, over states that list what is known. No condition. -/
import Derived.Test.YtjkfadaedgidpaaGreatAbsP
namespace Go.Proofs.YtjkfadaedgidpaaGreat
open Go.RowKit
set_option linter.unusedVariables false
set_option linter.unusedSimpArgs false
def unD : AV → Option D
 | .d x => some x
 | _ => none
def unDs : List AV → Option (List D)
 | [] => some []
 | x :: xs => (unD x).bind fun d => (unDs xs).map (d :: ·)
def unE : List (List AV) → Option (List (List D))
 | [] => some []
 | x :: xs => (unDs x).bind fun d => (unE xs).map (d :: ·)
theorem unDs_nil : unDs [] = some [] := rfl
theorem unDs_cons (x : D) (xs : List AV) : unDs (.d x :: xs) = (unDs xs).map (x :: ·) := rfl
theorem unDs_map : ∀ (l : List D), unDs (l.map .d) = some l
 | [] => rfl
 | x :: l => by rw [List.map_cons, unDs_cons, unDs_map l]; rfl
theorem unE_map : ∀ (l : List (List D)), unE (l.map (·.map .d)) = some l
 | [] => rfl
 | x :: l => by rw [List.map_cons]; simp only [unE]; rw [unE_map l, unDs_map]; rfl
theorem unE_nil : unE [] = some [] := rfl
theorem unE_cons (x : List AV) (xs : List (List AV)) : unE (x :: xs) = (unDs x).bind fun d => (unE xs).map (d :: ·) := rfl
theorem unDs_eq : ∀ {l : List AV} {ds : List D}, unDs l = some ds → l = ds.map .d
 | [], ds, h => by simp [unDs] at h; subst h; rfl
 | x :: xs, ds, h => by
  simp only [unDs, Option.bind_eq_some_iff, Option.map_eq_some_iff] at h
  obtain ⟨d, h1, t, h2, rfl⟩ := h
  rw [unDs_eq h2, List.map_cons]
  cases x <;> simp [unD] at h1
  subst h1; rfl
theorem unE_eq : ∀ {l : List (List AV)} {ds : List (List D)}, unE l = some ds → l = ds.map (·.map .d)
 | [], ds, h => by simp [unE] at h; subst h; rfl
 | x :: xs, ds, h => by
  simp only [unE, Option.bind_eq_some_iff, Option.map_eq_some_iff] at h
  obtain ⟨d, h1, t, h2, rfl⟩ := h
  rw [unE_eq h2, List.map_cons, unDs_eq h1]
theorem IsD_iff (l : List (List AV)) (ds : List (List D)) : IsD l ds = (unE l = some ds) :=
 propext ⟨fun h => by rw [h]; exact unE_map ds, fun h => unE_eq h⟩
section
variable (P : Program) (C : AS → Prop)
def stC (s : AS) (dst : Option Tmp) (g : Option Prop) (ty : TypeId) (f : Operand) (args : List Operand) (ts : List TypeId) : Prop :=
 st P C s dst g (.call { callee := .value f, args := args.toArray, argTypes := ts.toArray }) ty
def ldR (s : AS) (dst : Option Tmp) (g : Option Prop) (agg : Bool) (n i o : Nat) : Option ARow → Prop
 | some row => bif agg then ((Gp g → row.g ∧ i < row.els.length ∧ o + n ≤ (row.els.getD i []).length) ∧ nx P C s dst g (.ag (((row.els.getD i []).drop o).take n)) [])
   else ((Gp g → row.g ∧ i < row.els.length ∧ o < (row.els.getD i []).length) ∧ nx P C s dst g ((row.els.getD i []).getD o .any) [])
 | none => False
def evLd (s : AS) (dst : Option Tmp) (g : Option Prop) (okx : Prop) (agg : Bool) (n : Nat) : AV → Prop
 | .ptr r i o => (Gp g → okx) ∧ ldR P C s dst g agg n i o (s.mem r)
 | x => ldK P C s dst g okx agg n x
def soR (s : AS) (dst : Option Tmp) (n : Nat) (cells : List AV) (r i o : Nat) : Option ARow → Prop
 | some row => row.g ∧ row.uq = true ∧ i < row.els.length ∧ cells.length = n ∧ cell1s cells ∧ o + n ≤ (row.els.getD i []).length ∧
   nx P C s dst none (.d (.v undef)) [(r, { row with els := row.els.set i (splice (row.els.getD i []) o cells) })]
 | none => False
def evSo (s : AS) (dst : Option Tmp) (okx : Prop) (n : Nat) (cells : List AV) : AV → Prop
 | .ptr r i o => okx ∧ soR P C s dst n cells r i o (s.mem r)
 | _ => False
def ixA (s : AS) (dst : Option Tmp) (g : Option Prop) (x : AV) (k : Int) : Option (Nat × TypeId) → Prop
 | some (m, e) =>
  match x with
  | .ptr r i o => (Gp g → 0 ≤ k ∧ k < (m : Int)) ∧ nx P C s dst g (.ptr r i (o + k.toNat * szT P e)) []
  | .ep cs => (Gp g → 0 ≤ k ∧ k < (m : Int)) ∧ nx P C s dst g (.ep (cs.drop (k.toNat * szT P e))) []
  | _ => False
 | none => False
def evIx (s : AS) (dst : Option Tmp) (g : Option Prop) (okx : Prop) (t : TypeId) : AV → AV → Prop
 | .ptr r i o, .d (.v (.int _ k)) => (Gp g → okx) ∧ ixA P C s dst g (.ptr r i o) k (arrT P t)
 | .ep cs, .d (.v (.int _ k)) => (Gp g → okx) ∧ ixA P C s dst g (.ep cs) k (arrT P t)
 | x, y => ixK P C s dst g okx t x y
def ixV (s : AS) (dst : Option Tmp) (g : Option Prop) (okx : Prop) (n : Int) (m : Nat) : AV → Prop
 | .ag cs => cs.length = m ∧ (Gp g → okx ∧ 0 ≤ n ∧ n < (m : Int)) ∧ nx P C s dst g (cs.getD n.toNat .any) []
 | .d (.agg ds) => (ds.map AV.d).length = m ∧ (Gp g → okx ∧ 0 ≤ n ∧ n < (m : Int)) ∧ nx P C s dst g ((ds.map AV.d).getD n.toNat .any) []
 | _ => False
def ixB (s : AS) (dst : Option Tmp) (g : Option Prop) (okx : Prop) (n : Int) (x : AV) : Option (Nat × TypeId) → Prop
 | some (m, e) => tyOk P e = true ∧ aggT P e = false ∧ szT P e = 1 ∧ ixV P C s dst g okx n m x
 | none => False
def evIv (s : AS) (dst : Option Tmp) (g : Option Prop) (okx : Prop) (t : TypeId) (x : AV) : AV → Prop
 | .d (.v (.int _ n)) => ixB P C s dst g okx n x (arrT P t)
 | _ => False
def boxK (s : AS) (g : Option Prop) (okx : Prop) (t : TypeId) (cells : List AV) : Option Tmp → Prop
 | some d => d < 1000 ∧ s.mem d = none ∧ (Gp g → okx ∧ cell1s cells) ∧ nx P C s (some d) g (.ptr d 0 0) [(d, newRow1 (Gp g) t d cells.length true false [cells])]
 | none => False
def allocK (s : AS) (g : Option Prop) (t : TypeId) : Option Tmp → Option (List Value) → Prop
 | some d, some z => (∀ u ∈ z, u.oneCell' = true) ∧ d < 1000 ∧ s.mem d = none ∧ nx P C s (some d) g (.ptr d 0 0) [(d, newRow1 (Gp g) t d z.length true false [z.map fun u => .d (.v u)])]
 | _, _ => False
def fldK (g : Option Prop) (okx : Prop) (len n : Nat) : Option (Nat × Nat) → Prop
 | some (off, sz) => Gp g → okx ∧ len = sz ∧ off + sz ≤ n
 | none => False
def bldPs (s : AS) (g : Option Prop) (t : TypeId) (n : Nat) : List (Nat × Operand) → Prop
 | [] => True
 | p :: ps => fldK g (s.ok p.2) (s.at p.2).cellsOf.length n (fldT P t p.1) ∧ cell1s (s.at p.2).cellsOf ∧ bldPs s g t n ps
def buildK (s : AS) (dst : Option Tmp) (g : Option Prop) (t : TypeId) (parts : List (Nat × Operand)) : Option (List Value) → Prop
 | some z => (∀ u ∈ z, u.oneCell' = true) ∧ bldPs P s g t z.length parts ∧ nx P C s dst g (.ag (bldCells P s t parts (z.map fun u => .d (.v u)))) []
 | none => False
def bsK2 (s : AS) (g : Option Prop) (len : Nat) (parts : List (Nat × Operand)) (d : Tmp) (e : TypeId) : Option (List Value) → Prop
 | some z => z.length = szT P e ∧ parts.map (·.1) = List.range len ∧ len * szT P e ≤ 16777216 ∧ len ≤ maxLen ∧
   d < 1000 ∧ s.mem d = none ∧ bsParts s g (szT P e) parts ∧ nx P C s (some d) g (.ref d len) [(d, newRow1 (Gp g) e d (szT P e) true true (parts.map fun p => (s.at p.2).cellsOf))]
 | none => False
def bsK (s : AS) (g : Option Prop) (len : Nat) (parts : List (Nat × Operand)) : Option Tmp → Option TypeId → Prop
 | some d, some e => bsK2 P C s g len parts d e (zeroT P e)
 | _, _ => False
def msZ (s : AS) (g : Option Prop) (ok : Prop) (d : Tmp) (e : TypeId) (n : Int) : Option (List Value) → Prop
 | some z => z.length = szT P e ∧ (∀ u ∈ z, u.oneCell' = true) ∧ d < 1000 ∧ s.mem d = none ∧ (Gp g → ok ∧ 0 ≤ n ∧ n ≤ 1000000 ∧ byT P e ≤ 1000000) ∧
   nx P C s (some d) g (.ref d n.toNat) [(d, newRow1 (Gp g) e d (szT P e) true true (List.replicate n.toNat (z.map fun u => .d (.v u))))]
 | none => False
def msK (s : AS) (g : Option Prop) (ok : Prop) : Option Tmp → Option TypeId → AV → AV → Prop
 | some d, some e, .d (.v (.int _ n)), .d (.v (.int _ n')) => n' = n ∧ msZ P C s g ok d e n (zeroT P e)
 | _, _, _, _ => False
def slK (s : AS) (dst : Option Tmp) (g : Option Prop) (ok : Prop) (sz : Nat) (els : List (List D)) : Option Int → Option Int → Prop
 | some i, some j => (Gp g → ok ∧ 0 ≤ i ∧ i ≤ j ∧ j ≤ (els.length : Int)) ∧ nx P C s dst g (.d (.sl sz ((els.take j.toNat).drop i.toNat))) []
 | _, _ => False
def slX (s : AS) (dst : Option Tmp) (g : Option Prop) (ok : Prop) (t : TypeId) (lo hi : Option AV) : AV → Prop
 | .d (.sl sz els) => (sliceT P t).map (szT P) = some sz ∧ slK P C s dst g ok sz els (slV 0 lo) (slV els.length hi)
 | _ => False
def apR (s : AS) (g : Option Prop) (d : Tmp) (e : TypeId) (new : List (List D)) (r n : Nat) (row : ARow) : Option (List (List D)) → Prop
 | some old => row.g ∧ row.ap = true ∧ row.ty = e ∧ row.sz = szT P e ∧ n = old.length ∧ n + new.length ≤ maxLen ∧ (n + new.length) * byT P e ≤ 140737488355328 ∧
   nx P C s (some d) g (.ref d (n + new.length)) [(r, { row with uq := false, ap := false }), (d, { row with uq := false, ap := true, els := (old ++ new).map (·.map .d) })]
 | none => False
def apRow (s : AS) (g : Option Prop) (d : Tmp) (e : TypeId) (new : List (List D)) (r n : Nat) : Option ARow → Prop
 | some row => apR P C s g d e new r n row (unE row.els)
 | none => False
def apX (s : AS) (g : Option Prop) (d : Tmp) (e : TypeId) (new : List (List D)) : AV → Prop
 | .d (.v (.slice none 0 0)) => new.length ≤ maxLen ∧ new.length * byT P e ≤ 140737488355328 ∧ nx P C s (some d) g (.ref d new.length) [(d, newRow1 True e d (szT P e) true true (new.map (·.map .d)))]
 | .ref r n => apRow P C s g d e new r n (s.mem r)
 | _ => False
def apN (s : AS) (g : Option Prop) (d : Tmp) (e : TypeId) (x : AV) (n sz : Nat) : Option (List (List D)) → Prop
 | some new => n = new.length ∧ sz = szT P e ∧ apX P C s g d e new x
 | none => False
def apY (s : AS) (g : Option Prop) (d : Tmp) (e : TypeId) (x : AV) (n : Nat) : Option ARow → Prop
 | some row => row.g ∧ apN P C s g d e x n row.sz (unE row.els)
 | none => False
def apV (s : AS) (g : Option Prop) (d : Tmp) (e : TypeId) (x : AV) : AV → Prop
 | .d (.sl sz new) => sz = szT P e ∧ apX P C s g d e new x
 | .d (.v (.slice none 0 0)) => apX P C s g d e [] x
 | .ref r n => apY P C s g d e x n (s.mem r)
 | _ => False
def apZ (s : AS) (g : Option Prop) (d : Tmp) (e : TypeId) (okx oky : Prop) (x y : AV) : Option (List Value) → Prop
 | some z => z.length = szT P e ∧ 0 < szT P e ∧ d < 1000 ∧ s.mem d = none ∧ okx ∧ oky ∧ apV P C s g d e x y
 | none => False
def apD (s : AS) (g : Option Prop) (okx oky : Prop) (x y : AV) : Option Tmp → Option TypeId → Prop
 | some d, some e => apZ P C s g d e okx oky x y (zeroT P e)
 | _, _ => False
def mxK (s : AS) (dst : Option Tmp) (g : Option Prop) (okx : Prop) (ts : List TypeId) (ty : TypeId) : Option (List Value) → Prop
 | some l => (Gp g → okx ∧ pureMax P ts.toArray ty l) ∧ nx P C s dst g (.d (.v (mxV l))) []
 | none => False
def mnK (s : AS) (dst : Option Tmp) (g : Option Prop) (okx : Prop) (ts : List TypeId) (ty : TypeId) : Option (List Value) → Prop
 | some l => (Gp g → okx ∧ pureMin P ts.toArray ty l) ∧ nx P C s dst g (.d (.v (mnV l))) []
 | none => False
def evC (s : AS) (dst : Option Tmp) (g : Option Prop) (ty : TypeId) : Callee → List Operand → List TypeId → Prop
 | .builtin .len, [x], [t] => (sliceT P t).isSome = true ∧ lenK P C s dst g (s.ok x) (s.at x)
 | .builtin .max, args, ts => mxK P C s dst g (oksL s args) ts ty (grsL s args)
 | .builtin .min, args, ts => mnK P C s dst g (oksL s args) ts ty (grsL s args)
 | .builtin .append, [x, y], [t, t'] => t' = t ∧ Gp g ∧ apD P C s g (s.ok x) (s.ok y) (s.at x) (s.at y) dst (sliceT P t)
 | .value f, args, ts => stC P C s dst g ty f args ts
 | _, _, _ => False
def evS (s : AS) (dst : Option Tmp) (g : Option Prop) (ty : TypeId) : Op → Prop
 | .move x => (Gp g → s.ok x) ∧ nx P C s dst g (s.at x) []
 | .assign x => (Gp g → s.ok x) ∧ nx P C s dst g (s.at x) []
 | .pick c x y => pickK P C s dst g (s.ok c) (s.ok x) (s.ok y) (s.at c) (s.at x) (s.at y)
 | .binOp op t x y _ => binK P C s dst g op t x y (s.at x).gr (s.at y).gr
 | .unOp op _ x => unK P C s dst g op x (s.at x).gr
 | .convert t t' x => cvK P C s dst g t t' x (s.at x).gr
 | .extract x i => exK P C s dst g (s.ok x) i (s.at x)
 | .fieldAddr t x f => faK P C s dst g (s.ok x) (offT P t f) (s.at x)
 | .indexAddr t x ix => evIx P C s dst g (s.ok x ∧ s.ok ix) t (s.at x) (s.at ix)
 | .index t x ix => evIv P C s dst g (s.ok x ∧ s.ok ix) t (s.at x) (s.at ix)
 | .field t x f => fdK P C s dst g (s.ok x) (s.at x) (fieldT P t f)
 | .makeFunc fn first cap => mkK P C s dst g cap.toList first.toList fn
 | .load t x => tyOk P t = true ∧ evLd P C s dst g (s.ok x) (aggT P t) (szT P t) (s.at x)
 | .store t x y => g = none ∧ tyOk P t = true ∧ evSo P C s dst (s.ok x ∧ s.ok y) (szT P t) (s.at y).cellsOf (s.at x)
 | .box t x => boxK P C s g (s.ok x) t (s.at x).cellsOf dst
 | .alloc t => allocK P C s g t dst (zeroT P t)
 | .build t parts => bldT P t = true ∧ buildK P C s dst g t parts.toList (zeroT P t)
 | .buildSlice t len parts => bsK P C s g len parts.toList dst (sliceT P t)
 | .makeSlice t l c => msK P C s g (s.ok l ∧ s.ok c) dst (sliceT P t) (s.at l) (s.at c)
 | .slice t x lo hi none => slX P C s dst g (s.ok x ∧ okO s lo ∧ okO s hi) t (lo.map s.at) (hi.map s.at) (s.at x)
 | .call c => evC P C s dst g ty c.callee c.args.toList c.argTypes.toList
 | _ => False
def evGK (s : AS) (dst : Option Tmp) (op : Op) (ty : TypeId) (want : Bool) : AV → Prop
 | .d (.v (.bool t)) => evS P C s dst (some (t = want)) ty op
 | .wh g (.d (.v (.bool t))) => evS P C s dst (some (g ∧ t = want)) ty op
 | _ => False
def evG (s : AS) (dst : Option Tmp) (op : Op) (ty : TypeId) (want : Bool) : Option Tmp → Prop
 | some d => evGK P C s dst op ty want (s.tm.getD d .any)
 | none => False
def nthD : List (Option Tmp) → Nat → Option Tmp
 | [], _ => none
 | o :: ds, j => bif j == 0 then o else nthD ds (j - 1)
theorem nthD_cons (o : Option Tmp) (ds : List (Option Tmp)) (j : Nat) : nthD (o :: ds) j = bif j == 0 then o else nthD ds (j - 1) := rfl
theorem nthD_eq : ∀ (ds : List (Option Tmp)) (j : Nat), nthD ds j = (ds[j]?).bind id
 | [], j => by simp [nthD]
 | o :: ds, 0 => by simp [nthD]
 | o :: ds, j + 1 => by simp [nthD, nthD_eq ds j]
def evL (P : Program) (ds : List (Option Tmp)) (Q : AS → Prop) : List Oper → AS → Prop
 | [], s => Q s
 | o :: rest, s =>
  match o.guard with
  | none => evS P (evL P ds Q rest) s o.dst none o.type o.op
  | some (j, want) => evG P (evL P ds Q rest) s o.dst o.op o.type want (nthD ds j)
end
theorem evL_nil (P : Program) (ds : List (Option Tmp)) (Q : AS → Prop) (s : AS) : evL P ds Q [] s = Q s := rfl
theorem evL_plain (P : Program) (ds : List (Option Tmp)) (Q : AS → Prop) (rest : List Oper) (s : AS) (dst : Option Tmp) (op : Op) (ty : TypeId) (pos : String) (aft : Array Edge) :
  evL P ds Q (⟨dst, op, ty, pos, aft, none⟩ :: rest) s = evS P (evL P ds Q rest) s dst none ty op := rfl
theorem evL_guard (P : Program) (ds : List (Option Tmp)) (Q : AS → Prop) (rest : List Oper) (s : AS) (dst : Option Tmp) (op : Op) (ty : TypeId) (pos : String) (aft : Array Edge) (j : Nat) (want : Bool) :
  evL P ds Q (⟨dst, op, ty, pos, aft, some (j, want)⟩ :: rest) s = evG P (evL P ds Q rest) s dst op ty want (nthD ds j) := rfl
theorem st_mono {P : Program} {C C' : AS → Prop} (hc : ∀ s, C s → C' s) {s : AS} {dst : Option Tmp} {g : Option Prop} {op : Op} {ty : TypeId} (h : st P C s dst g op ty) : st P C' s dst g op ty := by
 obtain ⟨e, h1, h2⟩ := h
 exact ⟨e, h1, hc _ h2⟩
theorem bldPs_parts {P : Program} {s : AS} {g : Option Prop} {t : TypeId} {n : Nat} : ∀ {ps : List (Nat × Operand)}, bldPs P s g t n ps → bldParts P s g t n ps
 | [], _ => trivial
 | p :: ps, h => by
  simp only [bldPs] at h
  obtain ⟨h1, h2, h3⟩ := h
  refine ⟨?_, h2, bldPs_parts h3⟩
  unfold fldK at h1
  split at h1
  ·rename_i off sz h4; exact ⟨off, sz, h4, h1⟩
  ·exact h1.elim
theorem apX_apK {P : Program} {C : AS → Prop} {s : AS} {g : Option Prop} {d : Tmp} {e : TypeId} {new : List (List D)} {x : AV} (h : apX P C s g d e new x) : apK P C s g d e new x := by
 unfold apX at h
 split at h
 ·exact h
 ·rename_i r n
  unfold apRow at h
  split at h
  ·rename_i row hr
   unfold apR at h
   split at h
   ·rename_i old ho
    obtain ⟨h1, h2, h3, h4, h5, h6, h7, h8⟩ := h
    exact ⟨row, old, hr, h1, h2, h3, h4, by rw [IsD_iff]; exact ho, h5, h6, h7, h8⟩
   ·exact h.elim
  ·exact h.elim
 ·exact h.elim
theorem apV_of {P : Program} {C : AS → Prop} {s : AS} {g : Option Prop} {d : Tmp} {e : TypeId} {x y : AV} (h : apV P C s g d e x y) : asG s y ∧ ∃ new, asD s y (.sl (szT P e) new) ∧ apK P C s g d e new x := by
 unfold apV at h
 split at h
 ·obtain ⟨rfl, h⟩ := h
  exact ⟨trivial, _, rfl, apX_apK h⟩
 ·exact ⟨trivial, [], ⟨szT P e, .inl rfl⟩, apX_apK h⟩
 ·rename_i r n
  unfold apY at h
  split at h
  ·rename_i row hr
   obtain ⟨hg, h⟩ := h
   refine ⟨fun row' hr' => by rw [hr] at hr'; injection hr' with hr'; subst hr'; exact hg, ?_⟩
   unfold apN at h
   split at h
   ·rename_i new hn
    obtain ⟨rfl, h2, h3⟩ := h
    exact ⟨new, ⟨row, new, hr, by rw [IsD_iff]; exact hn, rfl, by rw [h2]⟩, apX_apK h3⟩
   ·exact h.elim
  ·exact h.elim
 ·exact h.elim
theorem evC_st {P : Program} {C : AS → Prop} {s : AS} {dst : Option Tmp} {g : Option Prop} {ty : TypeId} (c : Call) (h : evC P C s dst g ty c.callee c.args.toList c.argTypes.toList) : st P C s dst g (.call c) ty := by
 obtain ⟨callee, ⟨args⟩, ⟨ts⟩⟩ := c
 simp only at h
 unfold evC at h
 split at h
 ·exact st_len _ _ h.1 h.2
 ·unfold mxK at h
  split at h
  ·rename_i l hl; exact st_max _ _ l hl h
  ·exact h.elim
 ·unfold mnK at h
  split at h
  ·rename_i l hl; exact st_min _ _ l hl h
  ·exact h.elim
 ·obtain ⟨rfl, hG, h⟩ := h
  unfold apD at h
  split at h
  ·rename_i d e h1
   unfold apZ at h
   split at h
   ·rename_i z hz
    obtain ⟨h2, h3, h4, h5, h6, h7, h8⟩ := h
    obtain ⟨k1, k2⟩ := apV_of h8
    exact st_append _ _ _ e d z h1 hz h2 h3 hG ⟨h4, h5, h6, h7, k1, k2⟩
   ·exact h.elim
  ·exact h.elim
 ·exact h
 ·exact h.elim
theorem evLd_K {P : Program} {C : AS → Prop} {s : AS} {dst : Option Tmp} {g : Option Prop} {okx : Prop} {agg : Bool} {n : Nat} {x : AV} (h : evLd P C s dst g okx agg n x) : ldK P C s dst g okx agg n x := by
 unfold evLd at h
 split at h
 ·rename_i r i o
  obtain ⟨h1, h⟩ := h
  unfold ldR at h
  split at h
  ·rename_i row hr; exact ⟨h1, row, hr, h⟩
  ·exact h.elim
 ·exact h
theorem evIx_K {P : Program} {C : AS → Prop} {s : AS} {dst : Option Tmp} {g : Option Prop} {okx : Prop} {t : TypeId} {x y : AV} (h : evIx P C s dst g okx t x y) : ixK P C s dst g okx t x y := by
 unfold evIx at h
 split at h
 ·obtain ⟨h1, h⟩ := h
  unfold ixA at h
  split at h
  ·rename_i m e ha; exact ⟨h1, m, e, ha, h⟩
  ·exact h.elim
 ·obtain ⟨h1, h⟩ := h
  unfold ixA at h
  split at h
  ·rename_i m e ha; exact ⟨h1, m, e, ha, h⟩
  ·exact h.elim
 ·exact h
theorem evS_st {P : Program} {C : AS → Prop} {s : AS} {dst : Option Tmp} {g : Option Prop} {ty : TypeId} (op : Op) (h : evS P C s dst g ty op) : st P C s dst g op ty := by
 unfold evS at h
 split at h
 ·rw [st_move]; exact h
 ·rw [st_assign]; exact h
 ·exact st_pick _ _ _ h
 ·exact st_binOp _ _ _ _ _ h
 ·exact st_unOp _ _ _ h
 ·exact st_convert _ _ _ h
 ·exact st_extract _ _ h
 ·exact st_fieldAddr _ _ _ h
 ·exact st_indexAddr _ _ _ (evIx_K h)
 ·rename_i t x ix
  unfold evIv at h
  split at h
  ·rename_i kd n hi
   unfold ixB at h
   split at h
   ·rename_i m e ha
    obtain ⟨h1, h2, h3, h⟩ := h
    unfold ixV at h
    split at h
    ·rename_i cs hx
     obtain ⟨h4, h5, h6⟩ := h
     exact ⟨_, ⟨kd, n, m, e, cs, hi, ha, h1, h2, h3, .inl hx, h4, fun hg => ⟨(h5 hg).1.1, (h5 hg).1.2, (h5 hg).2⟩, rfl⟩, h6⟩
    ·rename_i ds hx
     obtain ⟨h4, h5, h6⟩ := h
     exact ⟨_, ⟨kd, n, m, e, ds.map AV.d, hi, ha, h1, h2, h3, .inr ⟨ds, hx, rfl⟩, h4, fun hg => ⟨(h5 hg).1.1, (h5 hg).1.2, (h5 hg).2⟩, rfl⟩, h6⟩
    ·exact h.elim
   ·exact h.elim
  ·exact h.elim
 ·exact st_field _ _ _ h
 ·exact st_makeFunc _ _ _ h
 ·exact st_load _ _ h.1 (evLd_K h.2)
 ·obtain ⟨rfl, h1, h2⟩ := h
  refine st_store _ _ _ h1 ?_
  unfold evSo at h2
  split at h2
  ·rename_i r i o hx
   obtain ⟨h3, h4⟩ := h2
   unfold soR at h4
   split at h4
   ·rename_i row hr; rw [hx]; exact ⟨h3, row, hr, h4⟩
   ·exact h4.elim
  ·exact h2.elim
 ·unfold boxK at h
  split at h
  ·exact st_box _ _ _ h
  ·exact h.elim
 ·unfold allocK at h
  split at h
  ·rename_i d z hz; exact st_alloc _ d z hz h.1 h.2
  ·exact h.elim
 ·obtain ⟨hb, h⟩ := h
  unfold buildK at h
  split at h
  ·rename_i z hz; exact st_build _ _ z hz h.1 hb ⟨bldPs_parts h.2.1, h.2.2⟩
  ·exact h.elim
 ·unfold bsK at h
  split at h
  ·rename_i d e he
   unfold bsK2 at h
   split at h
   ·rename_i z hz
    obtain ⟨h3, h4, h5, h6, h7⟩ := h
    exact st_buildSlice _ e _ _ d z he hz h3 h4 h5 h6 h7
   ·exact h.elim
  ·exact h.elim
 ·rename_i t l c
  generalize hd : sliceT P t = q at h
  generalize hl : s.at l = a at h
  generalize hc : s.at c = b at h
  unfold msK at h
  split at h
  ·rename_i d e k n k' n'
   obtain ⟨rfl, h⟩ := h
   generalize hz : zeroT P e = zz at h
   unfold msZ at h
   split at h
   ·rename_i z
    obtain ⟨h1, h2, h3, h4, h5, h6⟩ := h
    exact st_makeSlice _ e _ _ d z k k' _ hd hz h1 h2 hl hc ⟨h3, h4, fun g => ⟨(h5 g).1.1, (h5 g).1.2, (h5 g).2⟩, h6⟩
   ·exact h.elim
  ·exact h.elim
 ·rename_i t x lo hi
  generalize hx : s.at x = a at h
  unfold slX at h
  split at h
  ·rename_i sz els
   obtain ⟨h1, h2⟩ := h
   generalize hi' : slV 0 (lo.map s.at) = p at h2
   generalize hj' : slV (els.length : Int) (hi.map s.at) = q at h2
   unfold slK at h2
   split at h2
   ·rename_i i j
    exact st_slice _ _ _ _ sz els i j hx h1 hi' hj' h2
   ·exact h2.elim
  ·exact h.elim
 ·exact evC_st _ h
 ·exact h.elim
theorem evL_aLex {P : Program} {ops : Array Oper} {ds : List (Option Tmp)} {Q : AS → Prop} (hds : ops.toList.map (·.dst) = ds) : ∀ (l : List Oper) (s : AS), evL P ds Q l s → aLex P ops Q l s
 | [], s, h => h
 | ⟨dst, op, ty, pos, aft, gd⟩ :: rest, s, h => by
  unfold evL at h
  cases gd with
  | none =>
   rw [aLex_plain]
   exact st_mono (fun s h => evL_aLex hds rest s h) (evS_st _ h)
  | some p =>
   obtain ⟨j, want⟩ := p
   refine aLex_guard s dst op ty pos aft j want ?_
   have he : nthD ds j = (ops[j]?).bind (·.dst) := by
    rw [nthD_eq]
    subst hds
    rw [List.getElem?_map, Array.getElem?_toList]
    cases ops[j]? <;> rfl
   simp only at h
   rw [he] at h
   unfold evG at h
   split at h
   ·rename_i d hd
    rw [hd]
    simp only [gK0]
    unfold evGK at h
    split at h
    ·rename_i t h1; rw [h1]; exact st_mono (fun s h => evL_aLex hds rest s h) (evS_st _ h)
    ·rename_i t h1; rw [h1]; exact st_mono (fun s h => evL_aLex hds rest s h) (evS_st _ h)
    ·exact h.elim
   ·exact h.elim
theorem awp_plain {P : Program} {Q : Exit → AS → Prop} {s : AS} {id : Nat} {l : List Oper} (hm : P.follows .mixedOrders = true) (ds : List (Option Tmp)) (hds : l.map (·.dst) = ds) (h : evL P ds (Q .normal) l s) : AWp P (.region id l.toArray false) Q s :=
 awp_region hm (fun h => absurd h (by decide)) (evL_aLex (by simpa using hds) l s h)
theorem awp_draw {P : Program} {Q : Exit → AS → Prop} {s : AS} {id : Nat} {l : List Oper} (hm : P.follows .mixedOrders = true) (ds : List (Option Tmp)) (hds : l.map (·.dst) = ds) (hd : lexC .any l.toArray = true) (h : evL P ds (Q .normal) l s) : AWp P (.region id l.toArray true) Q s :=
 awp_region hm (fun _ => hd) (evL_aLex (by simpa using hds) l s h)
def look : List (Nat × AV) → Nat → AV
 | [], _ => .any
 | p :: l, d => bif d == p.1 then p.2 else look l d
def lookR : List (Nat × ARow) → Nat → Option ARow
 | [], _ => none
 | p :: l, d => bif d == p.1 then some p.2 else lookR l d
def S (n : Nat) (l : List (Nat × AV)) (m : List (Nat × ARow)) : AS := ⟨(List.range n).map (look l), lookR m⟩
section
variable (n : Nat) (l : List (Nat × AV)) (m : List (Nat × ARow))
theorem look_nil (d : Nat) : look [] d = .any := rfl
theorem look_cons (k d : Nat) (v : AV) : look ((k, v) :: l) d = bif d == k then v else look l d := rfl
theorem lookR_nil (d : Nat) : lookR [] d = none := rfl
theorem lookR_cons (k d : Nat) (v : ARow) : lookR ((k, v) :: m) d = bif d == k then some v else lookR m d := rfl
theorem S_getD (d : Nat) (h : d < n) : (S n l m).tm.getD d .any = look l d := by
 simp [S, List.getD, h]
theorem S_mem (r : Nat) : (S n l m).mem r = lookR m r := rfl
theorem S_tmp (d : Nat) (h : d < n) : AS.at (S n l m) (.tmp d) = (look l d).bare := by
 show ((S n l m).tm.getD d .any).bare = _
 rw [S_getD n l m d h]
theorem S_const (v : Value) : AS.at (S n l m) (.const v) = .d (.v v) := rfl
theorem S_func (f : FuncId) : AS.at (S n l m) (.func f) = .d (.v (.func (.func f) #[] #[])) := rfl
theorem Sk_tmp (d : Nat) (h : d < n) : AS.ok (S n l m) (.tmp d) = (look l d).ok := by
 show ((S n l m).tm.getD d .any).ok = _
 rw [S_getD n l m d h]
theorem Sk_const (v : Value) : AS.ok (S n l m) (.const v) = True := rfl
theorem Sk_func (f : FuncId) : AS.ok (S n l m) (.func f) = True := rfl
theorem S_set (d : Nat) (v : AV) : (S n l m).tm.set d v = (S n ((d, v) :: l) m).tm := by
 apply List.ext_getElem
 ·simp [S]
 ·intro i h1 h2
  simp only [S, List.getElem_set, List.getElem_map, List.getElem_range, look]
  by_cases h : d = i
  ·subst h; simp
  ·have : (i == d) = false := by simpa using fun h' => h h'.symm
   simp [h, this]
theorem ovr_lookR : ∀ (q : List (Nat × ARow)), ovr q (lookR m) = lookR (q ++ m)
 | [] => by rfl
 | (r, row) :: q => by
  funext x
  have := congrFun (ovr_lookR q) x
  simp only [ovr, List.cons_append, lookR]
  by_cases h : x = r
  ·simp [h]
  ·have h2 : (x == r) = false := by simpa using h
   simp [h, h2, this]
theorem S_app (d : Nat) (v : AV) (q : List (Nat × ARow)) : (S n l m).app (some d) ⟨v, q⟩ = S n ((d, v) :: l) (q ++ m) := by
 have h := S_set n l m d v
 have h2 := ovr_lookR m q
 simp only [AS.app, S] at h h2 ⊢
 rw [h, h2]
theorem S_app0 (v : AV) (q : List (Nat × ARow)) : (S n l m).app none ⟨v, q⟩ = S n l (q ++ m) := by
 have h2 := ovr_lookR m q
 simp only [AS.app, S] at h2 ⊢
 rw [h2]
variable {P : Program} {C : AS → Prop}
theorem nxS (d : Nat) (v : AV) (q : List (Nat × ARow)) : nx P C (S n l m) (some d) none v q = C (S n ((d, v) :: l) (q ++ m)) := by
 rw [← S_app]; rfl
theorem nxS0 (v : AV) (q : List (Nat × ARow)) : nx P C (S n l m) none none v q = C (S n l (q ++ m)) := by
 rw [← S_app0 n l m v]; rfl
theorem nxSg (d : Nat) (G : Prop) (v : AV) (q : List (Nat × ARow)) : nx P C (S n l m) (some d) (some G) v q = C (S n ((d, .wh G v) :: l) (q ++ m)) := by
 rw [← S_app]; rfl
theorem S_init (args : List D) (k : Nat) : (⟨args.map .d ++ List.replicate k .any, fun _ => none⟩ : AS) = S (args.length + k) ((List.range args.length).zip (args.map .d)) [] := by
 have hz : ∀ (args : List D) (b i : Nat), look ((List.range' b args.length).zip (args.map .d)) (b + i) = (args.map AV.d).getD i .any := by
  intro args
  induction args with
  | nil => intro b i; simp [look]
  | cons a args ih =>
   intro b i
   simp only [List.length_cons, List.range'_succ, List.map_cons, List.zip_cons_cons, look]
   cases i with
   | zero => simp
   | succ i =>
    have h := ih (b + 1) i
    have h2 : (b + (i + 1) == b) = false := by simp
    rw [h2, cond_false]
    rw [show b + (i + 1) = b + 1 + i from by omega, h]
    simp
 have h3 : (fun _ => none : Nat → Option ARow) = lookR [] := rfl
 simp only [S, h3, AS.mk.injEq, and_true]
 apply List.ext_getElem
 ·simp
 ·intro i h1 h2
  have := hz args 0 i
  simp only [List.getElem_map, List.getElem_range]
  rw [List.range_eq_range']
  simp only [Nat.zero_add] at this
  rw [this, List.getElem_append]
  split
  ·rename_i h; simp at h; simp [List.getD, h]
  ·rename_i h; simp at h; simp [List.getD, h]
end
end Go.Proofs.YtjkfadaedgidpaaGreat
