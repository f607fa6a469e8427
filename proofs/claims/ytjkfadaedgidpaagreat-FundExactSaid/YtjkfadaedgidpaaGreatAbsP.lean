/- Rules that carry out a region's operations one by one, as equations for simp. No condition. -/
import Derived.Test.YtjkfadaedgidpaaGreatAbsO
namespace Go.Proofs.YtjkfadaedgidpaaGreat
open Go.RowKit
set_option linter.unusedVariables false
set_option linter.unusedSimpArgs false
def Gp : Option Prop → Prop
 | none => True
 | some G => G
def effW : Option Prop → Eff → Eff
 | none, e => e
 | some G, e => { e with val := .wh G e.val }
theorem Gp_none : Gp none = True := rfl
theorem Gp_some {G : Prop} : Gp (some G) = G := rfl
def pureBin (P : Program) (op : BinOp) (t : TypeId) (x y : Operand) (a b : Value) : Prop := Pure P (do eqGuard op t x y a b; binOp op t a b) (binV op a b)
def pureUn (P : Program) (op : UnOp) (a : Value) : Prop := Pure P (Op.unary op a) (unV op a)
def pureCv (P : Program) (src dst : TypeId) (a : Value) : Prop := Pure P (convert src dst a) (cvV P dst a)
def pureMax (P : Program) (ts : Array TypeId) (t : TypeId) (l : List Value) : Prop := Pure P (Builtin.max_ ts t l.toArray) (mxV l)
def pureMin (P : Program) (ts : Array TypeId) (t : TypeId) (l : List Value) : Prop := Pure P (Builtin.min_ ts t l.toArray) (mnV l)
def extOk (P : Program) (fid : FuncId) (l : List Value) (v : Value) : Prop := ∀ w : World, (callFunc fid l.toArray).run P w = .ok (.value v) w
def goFn (P : Program) (fid : FuncId) : Prop := ∃ fn, P.funcs[fid]? = some fn ∧ fn.body.isSome = true ∧ (fn.name == "runtime.NumGoroutine") = false
section
variable (P : Program) (C : AS → Prop)
def st (s : AS) (dst : Option Tmp) (g : Option Prop) (op : Op) (ty : TypeId) : Prop :=
 ∃ e, acore P s (Gp g) { dst := dst, op := op, type := ty, pos := "", after := #[], guard := none } e ∧ C (s.app dst (effW g e))
def gK (s : AS) (dst : Option Tmp) (op : Op) (ty : TypeId) (want : Bool) : AV → Prop
 | .d (.v (.bool t)) => st P C s dst (some (t = want)) op ty
 | .wh g (.d (.v (.bool t))) => st P C s dst (some (g ∧ t = want)) op ty
 | _ => False
def gK0 (s : AS) (dst : Option Tmp) (op : Op) (ty : TypeId) (want : Bool) : Option Tmp → Prop
 | some d => gK P C s dst op ty want (s.tm.getD d .any)
 | none => False
end
section
variable {P : Program} {ops : Array Oper} {Q : AS → Prop} {rest : List Oper}
theorem aLex_plain (s : AS) (dst : Option Tmp) (op : Op) (ty : TypeId) (pos : String) (aft : Array Edge) :
  aLex P ops Q (⟨dst, op, ty, pos, aft, none⟩ :: rest) s = st P (aLex P ops Q rest) s dst none op ty := by
 simp only [aLex, aStep, aYield, gcond, wrapE, st, Gp, effW, eq_iff_iff]
 constructor
 ·rintro ⟨G, e, ⟨h1, h2⟩, h3⟩
  injection h1 with h1
  subst h1
  exact ⟨e, h2, h3⟩
 ·rintro ⟨e, h2, h3⟩
  exact ⟨True, e, ⟨rfl, h2⟩, h3⟩
theorem aLex_guard (s : AS) (dst : Option Tmp) (op : Op) (ty : TypeId) (pos : String) (aft : Array Edge) (j : Nat) (want : Bool)
  (h : gK0 P (aLex P ops Q rest) s dst op ty want ((ops[j]?).bind (·.dst))) : aLex P ops Q (⟨dst, op, ty, pos, aft, some (j, want)⟩ :: rest) s := by
 simp only [aLex, aStep, aYield, gcond, wrapE]
 cases hd : (ops[j]?).bind (·.dst) with
 | none => rw [hd] at h; exact h.elim
 | some d =>
  rw [hd] at h
  simp only [gK0] at h
  obtain ⟨x, hx⟩ : ∃ x, s.tm.getD d .any = x := ⟨_, rfl⟩
  rw [hx] at h
  rw [List.getD_eq_getElem?_getD] at hx
  unfold gK at h
  split at h
  ·obtain ⟨e, h2, h3⟩ := h
   exact ⟨_, e, ⟨by simp [hx, AV.bare, AV.ok, Gp], h2⟩, h3⟩
  ·obtain ⟨e, h2, h3⟩ := h
   exact ⟨_, e, ⟨by simp [hx, AV.bare, AV.ok, Gp], h2⟩, h3⟩
  ·exact h.elim
end
section
variable {P : Program} {C : AS → Prop} {s : AS} {dst : Option Tmp} {g : Option Prop} {ty : TypeId}
def nx (P : Program) (C : AS → Prop) (s : AS) (dst : Option Tmp) (g : Option Prop) (v : AV) (m : List (Nat × ARow)) : Prop := C (s.app dst (effW g ⟨v, m⟩))
theorem st_move (x : Operand) : st P C s dst g (.move x) ty = ((Gp g → s.ok x) ∧ nx P C s dst g (s.at x) []) := by
 simp [st, acore, nx, and_assoc]
theorem st_assign (x : Operand) : st P C s dst g (.assign x) ty = ((Gp g → s.ok x) ∧ nx P C s dst g (s.at x) []) := by
 simp [st, acore, nx, and_assoc]
def pickK (P : Program) (C : AS → Prop) (s : AS) (dst : Option Tmp) (g : Option Prop) (okc okx oky : Prop) : AV → AV → AV → Prop
 | .d (.v (.bool t)), .d (.v (.bool p)), .d (.v (.bool q)) => (Gp g → okc ∧ (t = true → okx) ∧ (t = false → oky)) ∧ nx P C s dst g (bv (bif t then p else q)) []
 | .d (.v (.bool t)), .d (.v (.bool p)), .any => t = true ∧ (Gp g → okc ∧ okx) ∧ nx P C s dst g (bv p) []
 | .d (.v (.bool t)), .any, .d (.v (.bool q)) => t = false ∧ (Gp g → okc ∧ oky) ∧ nx P C s dst g (bv q) []
 | _, _, _ => False
theorem pickK_l (okc okx oky : Prop) (t p : Bool) : pickK P C s dst g okc okx oky (.d (.v (.bool t))) (.d (.v (.bool p))) .any = (t = true ∧ (Gp g → okc ∧ okx) ∧ nx P C s dst g (bv p) []) := rfl
theorem pickK_r (okc okx oky : Prop) (t q : Bool) : pickK P C s dst g okc okx oky (.d (.v (.bool t))) .any (.d (.v (.bool q))) = (t = false ∧ (Gp g → okc ∧ oky) ∧ nx P C s dst g (bv q) []) := rfl
theorem pickK_bool (okc okx oky : Prop) (t p q : Bool) : pickK P C s dst g okc okx oky (.d (.v (.bool t))) (.d (.v (.bool p))) (.d (.v (.bool q))) = ((Gp g → okc ∧ (t = true → okx) ∧ (t = false → oky)) ∧ nx P C s dst g (bv (bif t then p else q)) []) := rfl
theorem st_pick (c x y : Operand) (h : pickK P C s dst g (s.ok c) (s.ok x) (s.ok y) (s.at c) (s.at x) (s.at y)) : st P C s dst g (.pick c x y) ty := by
 unfold pickK at h
 split at h
 ·rename_i t p q h1 h2 h3
  exact ⟨_, ⟨t, p, q, h1, fun _ => h2, fun _ => h3, h.1, rfl⟩, h.2⟩
 ·rename_i t p h1 h2 h3
  obtain ⟨rfl, h4, h5⟩ := h
  exact ⟨_, ⟨true, p, p, h1, fun _ => h2, fun e => (by cases e), fun g => ⟨(h4 g).1, fun _ => (h4 g).2, fun e => (by cases e)⟩, rfl⟩, h5⟩
 ·rename_i t q h1 h2 h3
  obtain ⟨rfl, h4, h5⟩ := h
  exact ⟨_, ⟨false, q, q, h1, fun e => (by cases e), fun _ => h3, fun g => ⟨(h4 g).1, fun e => (by cases e), fun _ => (h4 g).2⟩, rfl⟩, h5⟩
 ·exact h.elim
def binK (P : Program) (C : AS → Prop) (s : AS) (dst : Option Tmp) (g : Option Prop) (op : BinOp) (t : TypeId) (x y : Operand) : Option Value → Option Value → Prop
 | some a, some b => (Gp g → s.ok x ∧ s.ok y ∧ pureBin P op t x y a b) ∧ nx P C s dst g (.d (.v (binV op a b))) []
 | _, _ => False
theorem binK_some (op : BinOp) (t : TypeId) (x y : Operand) (a b : Value) : binK P C s dst g op t x y (some a) (some b) = ((Gp g → s.ok x ∧ s.ok y ∧ pureBin P op t x y a b) ∧ nx P C s dst g (.d (.v (binV op a b))) []) := rfl
theorem st_binOp (op : BinOp) (t t' : TypeId) (x y : Operand) (h : binK P C s dst g op t x y (s.at x).gr (s.at y).gr) : st P C s dst g (.binOp op t x y t') ty := by
 unfold binK at h
 split at h
 ·rename_i a b h1 h2
  exact ⟨_, ⟨a, b, h1, h2, h.1, rfl⟩, h.2⟩
 ·exact h.elim
def unK (P : Program) (C : AS → Prop) (s : AS) (dst : Option Tmp) (g : Option Prop) (op : UnOp) (x : Operand) : Option Value → Prop
 | some a => (Gp g → s.ok x ∧ pureUn P op a) ∧ nx P C s dst g (.d (.v (unV op a))) []
 | _ => False
theorem unK_some (op : UnOp) (x : Operand) (a : Value) : unK P C s dst g op x (some a) = ((Gp g → s.ok x ∧ pureUn P op a) ∧ nx P C s dst g (.d (.v (unV op a))) []) := rfl
theorem st_unOp (op : UnOp) (t : TypeId) (x : Operand) (h : unK P C s dst g op x (s.at x).gr) : st P C s dst g (.unOp op t x) ty := by
 unfold unK at h
 split at h
 ·rename_i a h1
  exact ⟨_, ⟨a, h1, h.1, rfl⟩, h.2⟩
 ·exact h.elim
def cvK (P : Program) (C : AS → Prop) (s : AS) (dst : Option Tmp) (g : Option Prop) (t t' : TypeId) (x : Operand) : Option Value → Prop
 | some a => (Gp g → s.ok x ∧ pureCv P t t' a) ∧ nx P C s dst g (.d (.v (cvV P t' a))) []
 | _ => False
theorem cvK_some (t t' : TypeId) (x : Operand) (a : Value) : cvK P C s dst g t t' x (some a) = ((Gp g → s.ok x ∧ pureCv P t t' a) ∧ nx P C s dst g (.d (.v (cvV P t' a))) []) := rfl
theorem st_convert (t t' : TypeId) (x : Operand) (h : cvK P C s dst g t t' x (s.at x).gr) : st P C s dst g (.convert t t' x) ty := by
 unfold cvK at h
 split at h
 ·rename_i a h1
  exact ⟨_, ⟨a, h1, h.1, rfl⟩, h.2⟩
 ·exact h.elim
def exK (P : Program) (C : AS → Prop) (s : AS) (dst : Option Tmp) (g : Option Prop) (okx : Prop) (i : Nat) : AV → Prop
 | .tp cs => i < cs.length ∧ (Gp g → okx) ∧ nx P C s dst g (cs.getD i .any) []
 | _ => False
theorem exK_tp (okx : Prop) (i : Nat) (cs : List AV) : exK P C s dst g okx i (.tp cs) = (i < cs.length ∧ (Gp g → okx) ∧ nx P C s dst g (cs.getD i .any) []) := rfl
theorem st_extract (x : Operand) (i : Nat) (h : exK P C s dst g (s.ok x) i (s.at x)) : st P C s dst g (.extract x i) ty := by
 unfold exK at h
 split at h
 ·rename_i cs hx
  obtain ⟨h1, h2, h3⟩ := h
  refine ⟨_, ⟨cs, cs[i], hx, List.getElem?_eq_getElem h1, h2, rfl⟩, ?_⟩
  simpa [nx, List.getD, List.getElem?_eq_getElem h1] using h3
 ·exact h.elim
def faK (P : Program) (C : AS → Prop) (s : AS) (dst : Option Tmp) (g : Option Prop) (okx : Prop) : Option Nat → AV → Prop
 | some off, .ptr r i o => (Gp g → okx) ∧ nx P C s dst g (.ptr r i (o + off)) []
 | some off, .ep cs => (Gp g → okx) ∧ nx P C s dst g (.ep (cs.drop off)) []
 | some off, .d (.pt cs) => (Gp g → okx) ∧ nx P C s dst g (.ep (cs.drop off)) []
 | _, _ => False
theorem faK_ptr (okx : Prop) (off r i o : Nat) : faK P C s dst g okx (some off) (.ptr r i o) = ((Gp g → okx) ∧ nx P C s dst g (.ptr r i (o + off)) []) := rfl
theorem faK_ep (okx : Prop) (off : Nat) (cs : List D) : faK P C s dst g okx (some off) (.ep cs) = ((Gp g → okx) ∧ nx P C s dst g (.ep (cs.drop off)) []) := rfl
theorem st_fieldAddr (t : TypeId) (x : Operand) (f : Nat) (h : faK P C s dst g (s.ok x) (offT P t f) (s.at x)) : st P C s dst g (.fieldAddr t x f) ty := by
 unfold faK at h
 split at h
 ·rename_i off r i o h1 h2
  exact ⟨_, ⟨off, h1, h.1, by rw [h2]⟩, h.2⟩
 ·rename_i off cs h1 h2
  exact ⟨_, ⟨off, h1, h.1, by rw [h2]⟩, h.2⟩
 ·rename_i off cs h1 h2
  exact ⟨_, ⟨off, h1, h.1, by rw [h2]⟩, h.2⟩
 ·exact h.elim
def fdC (P : Program) (C : AS → Prop) (s : AS) (dst : Option Tmp) (g : Option Prop) (agg : Bool) (n off : Nat) (cs : List AV) : Prop :=
 bif agg then (Gp g → off + n ≤ cs.length) ∧ nx P C s dst g (.ag ((cs.drop off).take n)) [] else (Gp g → off < cs.length) ∧ nx P C s dst g (cs.getD off .any) []
def fdV (P : Program) (C : AS → Prop) (s : AS) (dst : Option Tmp) (g : Option Prop) (okx : Prop) (agg : Bool) (n off : Nat) : AV → Prop
 | .ag cs => (Gp g → okx) ∧ fdC P C s dst g agg n off cs
 | .d (.agg ds) => (Gp g → okx) ∧ fdC P C s dst g agg n off (ds.map .d)
 | _ => False
def fdK (P : Program) (C : AS → Prop) (s : AS) (dst : Option Tmp) (g : Option Prop) (okx : Prop) (x : AV) : Option (Nat × TypeId) → Prop
 | some (off, e) => tyOk P e = true ∧ fdV P C s dst g okx (aggT P e) (szT P e) off x
 | none => False
theorem st_field (t : TypeId) (x : Operand) (f : Nat) (h : fdK P C s dst g (s.ok x) (s.at x) (fieldT P t f)) : st P C s dst g (.field t x f) ty := by
 unfold fdK at h
 split at h
 ·rename_i off e h1
  obtain ⟨ht, h⟩ := h
  have key : ∀ cs, (s.at x = .ag cs ∨ ∃ ds, s.at x = .d (.agg ds) ∧ cs = ds.map .d) → (Gp g → s.ok x) → fdC P C s dst g (aggT P e) (szT P e) off cs → st P C s dst g (.field t x f) ty := fun cs hx hk h => by
   unfold fdC at h
   cases ha : aggT P e <;> rw [ha] at h <;> simp only [cond_true, cond_false] at h
   ·exact ⟨_, ⟨off, e, cs, h1, ht, hx, hk, by rw [ha]; exact ⟨h.1, rfl⟩⟩, h.2⟩
   ·exact ⟨_, ⟨off, e, cs, h1, ht, hx, hk, by rw [ha]; exact ⟨h.1, rfl⟩⟩, h.2⟩
  unfold fdV at h
  split at h
  ·rename_i cs hx; exact key cs (.inl hx) h.1 h.2
  ·rename_i ds hx; exact key _ (.inr ⟨ds, hx, rfl⟩) h.1 h.2
  ·exact h.elim
 ·exact h.elim
def ixK (P : Program) (C : AS → Prop) (s : AS) (dst : Option Tmp) (g : Option Prop) (okx : Prop) (t : TypeId) : AV → AV → Prop
 | .d (.sl sz els), .d (.v (.int _ n)) => (Gp g → okx) ∧ (sliceT P t).map (szT P) = some sz ∧ (Gp g → 0 ≤ n ∧ n < (els.length : Int)) ∧ nx P C s dst g (.ep (els.getD n.toNat [])) []
 | .ref r m, .d (.v (.int _ n)) => (Gp g → okx) ∧ (∃ row, s.mem r = some row ∧ (sliceT P t).map (szT P) = some row.sz ∧ (Gp g → row.g ∧ m ≤ row.els.length)) ∧ (Gp g → 0 ≤ n ∧ n < (m : Int)) ∧ nx P C s dst g (.ptr r n.toNat 0) []
 | .ptr r i o, .d (.v (.int _ n)) => (Gp g → okx) ∧ (∃ m e, arrT P t = some (m, e) ∧ (Gp g → 0 ≤ n ∧ n < (m : Int)) ∧ nx P C s dst g (.ptr r i (o + n.toNat * szT P e)) [])
 | .ep cs, .d (.v (.int _ n)) => (Gp g → okx) ∧ (∃ m e, arrT P t = some (m, e) ∧ (Gp g → 0 ≤ n ∧ n < (m : Int)) ∧ nx P C s dst g (.ep (cs.drop (n.toNat * szT P e))) [])
 | _, _ => False
theorem st_indexAddr (t : TypeId) (x ix : Operand) (h : ixK P C s dst g (s.ok x ∧ s.ok ix) t (s.at x) (s.at ix)) : st P C s dst g (.indexAddr t x ix) ty := by
 have hs : ∀ sz, (sliceT P t).map (szT P) = some sz → ∃ e, sliceT P t = some e ∧ szT P e = sz := fun sz hh => by simpa [Option.map_eq_some_iff] using hh
 unfold ixK at h
 split at h
 ·rename_i sz els k n h1 h2
  exact ⟨_, ⟨k, n, h2, h.1, by rw [h1]; exact ⟨hs _ h.2.1, h.2.2.1, rfl⟩⟩, h.2.2.2⟩
 ·rename_i r m k n h1 h2
  obtain ⟨k1, ⟨row, k2, k3, k4⟩, k5, k6⟩ := h
  obtain ⟨e, e1, e2⟩ := hs _ k3
  exact ⟨_, ⟨k, n, h2, k1, by rw [h1]; exact ⟨⟨e, row, e1, k2, e2, k4⟩, k5, rfl⟩⟩, k6⟩
 ·rename_i r i o k n h1 h2
  obtain ⟨k1, m, e, k2, k3, k4⟩ := h
  exact ⟨_, ⟨k, n, h2, k1, by rw [h1]; exact ⟨m, e, k2, k3, rfl⟩⟩, k4⟩
 ·rename_i cs k n h1 h2
  obtain ⟨k1, m, e, k2, k3, k4⟩ := h
  exact ⟨_, ⟨k, n, h2, k1, by rw [h1]; exact ⟨m, e, k2, k3, rfl⟩⟩, k4⟩
 ·exact h.elim
def ldK (P : Program) (C : AS → Prop) (s : AS) (dst : Option Tmp) (g : Option Prop) (okx : Prop) (agg : Bool) (n : Nat) : AV → Prop
 | .ptr r i o => (Gp g → okx) ∧ ∃ row, s.mem r = some row ∧
   (bif agg then (Gp g → row.g ∧ i < row.els.length ∧ o + n ≤ (row.els.getD i []).length) ∧ nx P C s dst g (.ag (((row.els.getD i []).drop o).take n)) []
    else (Gp g → row.g ∧ i < row.els.length ∧ o < (row.els.getD i []).length) ∧ nx P C s dst g ((row.els.getD i []).getD o .any) [])
 | .ep cs => (Gp g → okx) ∧
   (bif agg then (Gp g → n ≤ cs.length) ∧ nx P C s dst g (.d (.agg (cs.take n))) []
    else (Gp g → 0 < cs.length) ∧ nx P C s dst g (.d (cs.getD 0 (.v undef))) [])
 | .d (.pt cs) => (Gp g → okx) ∧
   (bif agg then (Gp g → n ≤ cs.length) ∧ nx P C s dst g (.d (.agg (cs.take n))) []
    else (Gp g → 0 < cs.length) ∧ nx P C s dst g (.d (cs.getD 0 (.v undef))) [])
 | _ => False
theorem st_load (t : TypeId) (x : Operand) (ht : tyOk P t = true) (h : ldK P C s dst g (s.ok x) (aggT P t) (szT P t) (s.at x)) : st P C s dst g (.load t x) ty := by
 unfold ldK at h
 split at h
 ·rename_i r i o h1
  obtain ⟨k1, row, k2, k3⟩ := h
  cases ha : aggT P t <;> rw [ha] at k3 <;> simp only [cond_true, cond_false] at k3
  ·exact ⟨_, ⟨ht, k1, by rw [h1]; exact ⟨row, k2, by rw [ha]; exact ⟨k3.1, rfl⟩⟩⟩, k3.2⟩
  ·exact ⟨_, ⟨ht, k1, by rw [h1]; exact ⟨row, k2, by rw [ha]; exact ⟨k3.1, rfl⟩⟩⟩, k3.2⟩
 ·rename_i cs h1
  obtain ⟨k1, k3⟩ := h
  cases ha : aggT P t <;> rw [ha] at k3 <;> simp only [cond_true, cond_false] at k3
  ·exact ⟨_, ⟨ht, k1, by rw [h1]; show bif aggT P t then _ else _; rw [ha]; exact ⟨k3.1, rfl⟩⟩, k3.2⟩
  ·exact ⟨_, ⟨ht, k1, by rw [h1]; show bif aggT P t then _ else _; rw [ha]; exact ⟨k3.1, rfl⟩⟩, k3.2⟩
 ·rename_i cs h1
  obtain ⟨k1, k3⟩ := h
  cases ha : aggT P t <;> rw [ha] at k3 <;> simp only [cond_true, cond_false] at k3
  ·exact ⟨_, ⟨ht, k1, by rw [h1]; show bif aggT P t then _ else _; rw [ha]; exact ⟨k3.1, rfl⟩⟩, k3.2⟩
  ·exact ⟨_, ⟨ht, k1, by rw [h1]; show bif aggT P t then _ else _; rw [ha]; exact ⟨k3.1, rfl⟩⟩, k3.2⟩
 ·exact h.elim
def soK (P : Program) (C : AS → Prop) (s : AS) (dst : Option Tmp) (okx : Prop) (n : Nat) (cells : List AV) : AV → Prop
 | .ptr r i o => okx ∧ ∃ row, s.mem r = some row ∧ row.g ∧ row.uq = true ∧ i < row.els.length ∧ cells.length = n ∧ cell1s cells ∧ o + n ≤ (row.els.getD i []).length ∧
   nx P C s dst none (.d (.v undef)) [(r, { row with els := row.els.set i (splice (row.els.getD i []) o cells) })]
 | _ => False
theorem st_store (t : TypeId) (x y : Operand) (ht : tyOk P t = true) (h : soK P C s dst (s.ok x ∧ s.ok y) (szT P t) (s.at y).cellsOf (s.at x)) : st P C s dst none (.store t x y) ty := by
 unfold soK at h
 split at h
 ·rename_i r i o h1
  obtain ⟨k1, row, k2, k3, k4, k5, k6, k7, k8, k9⟩ := h
  exact ⟨_, ⟨trivial, ht, k1.1, k1.2, r, i, o, row, h1, k2, k3, k4, k5, k6, k7, k8, rfl⟩, k9⟩
 ·exact h.elim
theorem st_box (t : TypeId) (x : Operand) (d : Tmp) (h : d < 1000 ∧ s.mem d = none ∧ (Gp g → s.ok x ∧ cell1s (s.at x).cellsOf) ∧ nx P C s (some d) g (.ptr d 0 0) [(d, newRow1 (Gp g) t d (s.at x).cellsOf.length true false [(s.at x).cellsOf])]) :
  st P C s (some d) g (.box t x) ty := by
 obtain ⟨k1, k2, k3, k4⟩ := h
 exact ⟨_, ⟨d, rfl, k1, k2, k3, rfl⟩, k4⟩
theorem st_alloc (t : TypeId) (d : Tmp) (z : List Value) (hz : zeroT P t = some z) (h1 : ∀ u ∈ z, u.oneCell' = true) (h : d < 1000 ∧ s.mem d = none ∧ nx P C s (some d) g (.ptr d 0 0) [(d, newRow1 (Gp g) t d z.length true false [z.map fun u => .d (.v u)])]) :
  st P C s (some d) g (.alloc t) ty := by
 obtain ⟨k1, k2, k4⟩ := h
 exact ⟨_, ⟨d, z, rfl, k1, k2, hz, h1, rfl⟩, k4⟩
def fldT (P : Program) (t : TypeId) (i : Nat) : Option (Nat × Nat) :=
 match P.underlying t with
 | some (.struct fs) => (fs[i]?).map fun f => (f.offset, szT P f.type)
 | some (.array _ e) => some (i * szT P e, szT P e)
 | _ => none
def bldT (P : Program) (t : TypeId) : Bool :=
 match P.underlying t with
 | some (.struct fs) => fs.all fun f => (P.info? f.type).isSome
 | some (.array _ e) => (P.info? e).isSome
 | _ => false
def bldParts (P : Program) (s : AS) (g : Option Prop) (t : TypeId) (n : Nat) : List (Nat × Operand) → Prop
 | [] => True
 | p :: ps => (∃ off sz, fldT P t p.1 = some (off, sz) ∧ (Gp g → s.ok p.2 ∧ (s.at p.2).cellsOf.length = sz ∧ off + sz ≤ n)) ∧ cell1s (s.at p.2).cellsOf ∧ bldParts P s g t n ps
def bldCells (P : Program) (s : AS) (t : TypeId) : List (Nat × Operand) → List AV → List AV
 | [], l => l
 | p :: ps, l => bldCells P s t ps (splice l ((fldT P t p.1).map (·.1) |>.getD 0) (s.at p.2).cellsOf)
theorem bldCells_eq {t : TypeId} (f : Nat → Nat) (ps : List (Nat × Operand)) : (∀ p ∈ ps, f p.1 = ((fldT P t p.1).map (·.1)).getD 0) → ∀ l, ps.foldl (fun l p => splice l (f p.1) (s.at p.2).cellsOf) l = bldCells P s t ps l := by
 induction ps with
 | nil => intro _ l; rfl
 | cons p ps ih =>
  intro hf l
  simp only [List.foldl_cons, bldCells]
  rw [hf p (by simp), ih (fun q hq => hf q (by simp [hq]))]
theorem bldParts_mem {t : TypeId} {n : Nat} : ∀ {ps : List (Nat × Operand)}, bldParts P s g t n ps → ∀ p ∈ ps, (∃ off sz, fldT P t p.1 = some (off, sz) ∧ (Gp g → s.ok p.2 ∧ (s.at p.2).cellsOf.length = sz ∧ off + sz ≤ n)) ∧ cell1s (s.at p.2).cellsOf
 | [], _, p, hp => by simp at hp
 | q :: ps, h, p, hp => by
  simp only [bldParts] at h
  rcases List.mem_cons.1 hp with rfl | hp
  ·exact ⟨h.1, h.2.1⟩
  ·exact bldParts_mem h.2.2 p hp
theorem st_build (t : TypeId) (parts : List (Nat × Operand)) (z : List Value) (hz : zeroT P t = some z) (h1 : ∀ u ∈ z, u.oneCell' = true) (hb : bldT P t = true) (h : bldParts P s g t z.length parts ∧ nx P C s dst g (.ag (bldCells P s t parts (z.map fun u => .d (.v u)))) []) :
  st P C s dst g (.build t parts.toArray) ty := by
 obtain ⟨hp, hn⟩ := h
 have hm := bldParts_mem hp
 unfold bldT at hb
 split at hb
 ·rename_i fs hu
  have hf : ∀ p ∈ parts, ((fs[p.1]?).map (·.offset)).getD 0 = ((fldT P t p.1).map (·.1)).getD 0 := fun p _ => by
   simp only [fldT, hu]
   cases fs[p.1]? <;> rfl
  have hA : Gp g → ∀ p, p ∈ parts.toArray.toList → s.ok p.2 ∧ ∃ f, fs[p.1]? = some f ∧ (s.at p.2).cellsOf.length = szT P f.type ∧ f.offset + szT P f.type ≤ z.length := fun hg p hpp => by
   obtain ⟨⟨off, sz, k1, k2⟩, _⟩ := hm p (by simpa using hpp)
   obtain ⟨l1, l2, l3⟩ := k2 hg
   simp only [fldT, hu, Option.map_eq_some_iff] at k1
   obtain ⟨f, k1, k3⟩ := k1
   injection k3 with k3 k4
   subst k3 k4
   exact ⟨l1, f, k1, l2, l3⟩
  refine ⟨_, ⟨z, hz, by rw [hu]; exact ⟨fun f hf => (Array.all_eq_true'.1 hb) f hf, hA, fun p hpp => (hm p (by simpa using hpp)).2, h1, rfl⟩⟩, ?_⟩
  ·have := bldCells_eq (P := P) (s := s) (t := t) (fun i => ((fs[i]?).map (·.offset)).getD 0) parts hf (z.map fun u => .d (.v u))
   unfold nx at hn
   rw [← this] at hn
   exact hn
 ·rename_i n e hu
  have hf : ∀ p ∈ parts, p.1 * szT P e = ((fldT P t p.1).map (·.1)).getD 0 := fun p _ => by simp only [fldT, hu]; rfl
  have hA : Gp g → ∀ p, p ∈ parts.toArray.toList → s.ok p.2 ∧ (s.at p.2).cellsOf.length = szT P e ∧ p.1 * szT P e + szT P e ≤ z.length := fun hg p hpp => by
   obtain ⟨⟨off, sz, k1, k2⟩, _⟩ := hm p (by simpa using hpp)
   obtain ⟨l1, l2, l3⟩ := k2 hg
   simp only [fldT, hu, Option.some.injEq, Prod.mk.injEq] at k1
   obtain ⟨k3, k4⟩ := k1
   subst k3 k4
   exact ⟨l1, l2, l3⟩
  refine ⟨_, ⟨z, hz, by rw [hu]; exact ⟨hb, hA, fun p hpp => (hm p (by simpa using hpp)).2, h1, rfl⟩⟩, ?_⟩
  ·have := bldCells_eq (P := P) (s := s) (t := t) (fun i => i * szT P e) parts hf (z.map fun u => .d (.v u))
   unfold nx at hn
   rw [← this] at hn
   exact hn
 ·cases hb
def bsParts (s : AS) (g : Option Prop) (sz : Nat) : List (Nat × Operand) → Prop
 | [] => True
 | p :: ps => (Gp g → s.ok p.2 ∧ (s.at p.2).cellsOf.length = sz ∧ cell1s (s.at p.2).cellsOf) ∧ bsParts s g sz ps
theorem bsParts_mem {sz : Nat} : ∀ {ps : List (Nat × Operand)}, bsParts s g sz ps → Gp g → ∀ p ∈ ps, s.ok p.2 ∧ (s.at p.2).cellsOf.length = sz ∧ cell1s (s.at p.2).cellsOf
 | [], _, _, p, hp => by simp at hp
 | q :: ps, h, hg, p, hp => by
  simp only [bsParts] at h
  rcases List.mem_cons.1 hp with rfl | hp
  ·exact h.1 hg
  ·exact bsParts_mem h.2 hg p hp
theorem st_buildSlice (t e : TypeId) (len : Nat) (parts : List (Nat × Operand)) (d : Tmp) (z : List Value) (hs : sliceT P t = some e) (hz : zeroT P e = some z) (hzl : z.length = szT P e) (hpl : parts.map (·.1) = List.range len) (hl : len * szT P e ≤ 16777216) (hml : len ≤ maxLen)
  (h : d < 1000 ∧ s.mem d = none ∧ bsParts s g (szT P e) parts ∧ nx P C s (some d) g (.ref d len) [(d, newRow1 (Gp g) e d (szT P e) true true (parts.map fun p => (s.at p.2).cellsOf))]) :
  st P C s (some d) g (.buildSlice t len parts.toArray) ty := by
 obtain ⟨k1, k2, k3, k4⟩ := h
 exact ⟨_, ⟨d, e, rfl, k1, k2, hs, by simpa using hpl, hl, hml, by rw [hz]; rfl, by rw [hz]; exact hzl, fun hg p hp => bsParts_mem k3 hg p (by simpa using hp), rfl⟩, k4⟩
theorem st_makeSlice (t e : TypeId) (l c : Operand) (d : Tmp) (z : List Value) (k k' : IntKind) (n : Int) (hs : sliceT P t = some e) (hz : zeroT P e = some z) (hzl : z.length = szT P e) (h1 : ∀ u ∈ z, u.oneCell' = true) (hl : s.at l = .d (.v (.int k n))) (hc : s.at c = .d (.v (.int k' n)))
  (h : d < 1000 ∧ s.mem d = none ∧ (Gp g → s.ok l ∧ s.ok c ∧ 0 ≤ n ∧ n ≤ 1000000 ∧ byT P e ≤ 1000000) ∧ nx P C s (some d) g (.ref d n.toNat) [(d, newRow1 (Gp g) e d (szT P e) true true (List.replicate n.toNat (z.map fun u => .d (.v u))))]) :
  st P C s (some d) g (.makeSlice t l c) ty := by
 obtain ⟨k1, k2, k3, k4⟩ := h
 exact ⟨_, ⟨d, e, k, k', n, z, rfl, k1, k2, hs, hz, hzl, h1, hl, hc, k3, rfl⟩, k4⟩
def slV (n : Int) : Option AV → Option Int
 | none => some n
 | some (.d (.v (.int _ i))) => some i
 | _ => none
def okO (s : AS) : Option Operand → Prop
 | none => True
 | some x => s.ok x
theorem st_slice (t : TypeId) (x : Operand) (lo hi : Option Operand) (sz : Nat) (els : List (List D)) (i j : Int) (hx : s.at x = .d (.sl sz els)) (hs : (sliceT P t).map (szT P) = some sz) (hi' : slV 0 (lo.map s.at) = some i) (hj : slV els.length (hi.map s.at) = some j)
  (h : (Gp g → (s.ok x ∧ okO s lo ∧ okO s hi) ∧ 0 ≤ i ∧ i ≤ j ∧ j ≤ (els.length : Int)) ∧ nx P C s dst g (.d (.sl sz ((els.take j.toNat).drop i.toNat))) []) : st P C s dst g (.slice t x lo hi none) ty := by
 have hl : loV s i lo := by
  cases lo with
  | none => simp [slV] at hi'; exact hi'.symm
  | some l =>
   simp only [Option.map_some] at hi'
   unfold slV at hi'
   split at hi'
   ·rename_i he; cases he
   ·rename_i k i' he
    simp only [Option.some.injEq] at he hi'
    subst hi'
    exact ⟨_, he⟩
   ·cases hi'
 have hh : hiV s els.length j hi := by
  cases hi with
  | none => simp [slV] at hj; exact hj.symm
  | some l =>
   simp only [Option.map_some] at hj
   unfold slV at hj
   split at hj
   ·rename_i he; cases he
   ·rename_i k i' he
    simp only [Option.some.injEq] at he hj
    subst hj
    exact ⟨_, he⟩
   ·cases hj
 refine ⟨_, ⟨rfl, sz, els, i, j, hx, ?_, hl, hh, fun g => ?_, rfl⟩, h.2⟩
 ·cases he : sliceT P t with
  | none => rw [he] at hs; cases hs
  | some e => rw [he] at hs; exact ⟨e, rfl, by simpa using hs⟩
 ·obtain ⟨⟨g1, g2, g3⟩, g4⟩ := h.1 g
  exact ⟨g1, fun l hl => by subst hl; exact g2, fun l hl => by subst hl; exact g3, g4⟩
def lenK (P : Program) (C : AS → Prop) (s : AS) (dst : Option Tmp) (g : Option Prop) (okx : Prop) : AV → Prop
 | .d (.sl _ els) => (Gp g → okx) ∧ nx P C s dst g (.d (.v (.int .i64 els.length))) []
 | .d (.v (.slice none 0 0)) => (Gp g → okx) ∧ nx P C s dst g (.d (.v (.int .i64 0))) []
 | .ref _ n => (Gp g → okx) ∧ nx P C s dst g (.d (.v (.int .i64 n))) []
 | _ => False
theorem lenK_sl (okx : Prop) (sz : Nat) (els : List (List D)) : lenK P C s dst g okx (.d (.sl sz els)) = ((Gp g → okx) ∧ nx P C s dst g (.d (.v (.int .i64 els.length))) []) := rfl
theorem lenK_nil (okx : Prop) : lenK P C s dst g okx (.d (.v (.slice none 0 0))) = ((Gp g → okx) ∧ nx P C s dst g (.d (.v (.int .i64 0))) []) := rfl
theorem lenK_ref (okx : Prop) (r n : Nat) : lenK P C s dst g okx (.ref r n) = ((Gp g → okx) ∧ nx P C s dst g (.d (.v (.int .i64 n))) []) := rfl
theorem st_len (x : Operand) (t : TypeId) (hs : (sliceT P t).isSome = true) (h : lenK P C s dst g (s.ok x) (s.at x)) : st P C s dst g (.call { callee := .builtin .len, args := #[x], argTypes := #[t] }) ty := by
 unfold lenK at h
 split at h
 ·rename_i h1; exact ⟨_, ⟨x, t, rfl, rfl, hs, h.1, by rw [h1]⟩, h.2⟩
 ·rename_i h1; exact ⟨_, ⟨x, t, rfl, rfl, hs, h.1, by rw [h1]; exact rfl⟩, h.2⟩
 ·rename_i h1; exact ⟨_, ⟨x, t, rfl, rfl, hs, h.1, by rw [h1]⟩, h.2⟩
 ·exact h.elim
def oksL (s : AS) : List Operand → Prop
 | [] => True
 | x :: xs => s.ok x ∧ oksL s xs
theorem oksL_mem : ∀ {xs : List Operand}, oksL s xs → ∀ x ∈ xs, s.ok x
 | [], _, x, hx => by simp at hx
 | y :: xs, h, x, hx => by
  simp only [oksL] at h
  rcases List.mem_cons.1 hx with rfl | hx
  ·exact h.1
  ·exact oksL_mem h.2 x hx
def mkK (P : Program) (C : AS → Prop) (s : AS) (dst : Option Tmp) (g : Option Prop) (cap : List Operand) : List Operand → Fn → Prop
 | [], .func f => (Gp g → oksL s cap ∧ cell1s (cap.map s.at)) ∧ nx P C s dst g (.cl f (cap.map s.at)) []
 | _, _ => False
theorem st_makeFunc (fn : Fn) (first cap : Array Operand) (h : mkK P C s dst g cap.toList first.toList fn) : st P C s dst g (.makeFunc fn first cap) ty := by
 unfold mkK at h
 split at h
 ·rename_i f h1
  exact ⟨_, ⟨f, rfl, by simpa using h1, fun hg => ⟨fun x hx => oksL_mem (h.1 hg).1 x hx, (h.1 hg).2⟩, rfl⟩, h.2⟩
 ·exact h.elim
def grsL (s : AS) : List Operand → Option (List Value)
 | [] => some []
 | x :: xs => (s.at x).gr.bind fun v => (grsL s xs).map (v :: ·)
theorem grsL_some : ∀ {xs : List Operand} {l : List Value}, grsL s xs = some l → (xs.map fun x => (s.at x).gr) = l.map some
 | [], l, h => by simp only [grsL, Option.some.injEq] at h; subst h; rfl
 | x :: xs, l, h => by
  simp only [grsL, Option.bind_eq_some_iff, Option.map_eq_some_iff] at h
  obtain ⟨v, h1, l', h2, rfl⟩ := h
  simp only [List.map_cons, h1, grsL_some h2]
theorem st_max (args : List Operand) (ts : Array TypeId) (l : List Value) (hl : grsL s args = some l) (h : (Gp g → oksL s args ∧ pureMax P ts ty l) ∧ nx P C s dst g (.d (.v (mxV l))) []) : st P C s dst g (.call { callee := .builtin .max, args := args.toArray, argTypes := ts }) ty :=
 ⟨_, ⟨l, by simpa using grsL_some hl, fun hg => ⟨fun x hx => oksL_mem (h.1 hg).1 x (by simpa using hx), (h.1 hg).2⟩, rfl⟩, h.2⟩
theorem st_min (args : List Operand) (ts : Array TypeId) (l : List Value) (hl : grsL s args = some l) (h : (Gp g → oksL s args ∧ pureMin P ts ty l) ∧ nx P C s dst g (.d (.v (mnV l))) []) : st P C s dst g (.call { callee := .builtin .min, args := args.toArray, argTypes := ts }) ty :=
 ⟨_, ⟨l, by simpa using grsL_some hl, fun hg => ⟨fun x hx => oksL_mem (h.1 hg).1 x (by simpa using hx), (h.1 hg).2⟩, rfl⟩, h.2⟩
def apK (P : Program) (C : AS → Prop) (s : AS) (g : Option Prop) (d : Tmp) (e : TypeId) (new : List (List D)) : AV → Prop
 | .d (.v (.slice none 0 0)) => new.length ≤ maxLen ∧ new.length * byT P e ≤ 140737488355328 ∧ nx P C s (some d) g (.ref d new.length) [(d, newRow1 True e d (szT P e) true true (new.map (·.map .d)))]
 | .ref r n => ∃ row old, s.mem r = some row ∧ row.g ∧ row.ap = true ∧ row.ty = e ∧ row.sz = szT P e ∧ IsD row.els old ∧ n = old.length ∧ n + new.length ≤ maxLen ∧ (n + new.length) * byT P e ≤ 140737488355328 ∧
   nx P C s (some d) g (.ref d (n + new.length)) [(r, { row with uq := false, ap := false }), (d, { row with uq := false, ap := true, els := (old ++ new).map (·.map .d) })]
 | _ => False
theorem st_append (x y : Operand) (t e : TypeId) (d : Tmp) (z : List Value) (hs : sliceT P t = some e) (hz : zeroT P e = some z) (hzl : z.length = szT P e) (hp : 0 < szT P e) (hG : Gp g)
  (h : d < 1000 ∧ s.mem d = none ∧ s.ok x ∧ s.ok y ∧ asG s (s.at y) ∧ ∃ new, asD s (s.at y) (.sl (szT P e) new) ∧ apK P C s g d e new (s.at x)) :
  st P C s (some d) g (.call { callee := .builtin .append, args := #[x, y], argTypes := #[t, t] }) ty := by
 obtain ⟨k1, k2, k3, k4, k5, new, k6, k7⟩ := h
 have base : ∀ e0, (match s.at x with
     | .d (.v (.slice none 0 0)) => new.length ≤ maxLen ∧ new.length * byT P e ≤ 140737488355328 ∧ e0 = ⟨.ref d new.length, [(d, newRow1 True e d (szT P e) true true (new.map (·.map .d)))]⟩
     | .ref r n => ∃ row old, s.mem r = some row ∧ row.g ∧ row.ap = true ∧ row.ty = e ∧ row.sz = szT P e ∧ IsD row.els old ∧ n = old.length ∧ n + new.length ≤ maxLen ∧ (n + new.length) * byT P e ≤ 140737488355328 ∧
       e0 = ⟨.ref d (n + new.length), [(r, { row with uq := false, ap := false }), (d, { row with uq := false, ap := true, els := (old ++ new).map (·.map .d) })]⟩
     | _ => False) → acore P s (Gp g) { dst := some d, op := .call { callee := .builtin .append, args := #[x, y], argTypes := #[t, t] }, type := ty, pos := "", after := #[], guard := none } e0 := fun e0 hh =>
  ⟨hG, x, y, t, e, d, new, rfl, rfl, hs, rfl, k1, k2, k3, k4, by rw [hz]; rfl, by rw [hz]; exact hzl, hp, k6, k5, hh⟩
 unfold apK at k7
 split at k7
 ·rename_i h1
  exact ⟨_, base _ (by rw [h1]; exact ⟨k7.1, k7.2.1, rfl⟩), k7.2.2⟩
 ·rename_i r n h1
  obtain ⟨row, old, l1, l2, l3, l4, l5, l6, l7, l8, l9, l10⟩ := k7
  exact ⟨_, base _ (by rw [h1]; exact ⟨row, old, l1, l2, l3, l4, l5, l6, l7, l8, l9, rfl⟩), l10⟩
 ·exact k7.elim
def oksG (s : AS) : List Operand → Prop
 | [] => True
 | x :: xs => s.ok x ∧ asG s (s.at x) ∧ oksG s xs
def freeR (s : AS) (base n : Nat) : Prop := ∀ j, j < n → s.mem (base + j) = none
theorem asF_of {x : AV} {d : D} (hd : asD s x d) (hg : asG s x) : asF s x := by
 refine ⟨hg, fun cs hcs c hc => ?_⟩
 rcases hcs with rfl | ⟨f, rfl⟩
 case inr => simp only [asD] at hd
 simp only [asD, IsDs] at hd
 obtain ⟨ds, rfl, _⟩ := hd
 obtain ⟨y, _, rfl⟩ := List.mem_map.1 hc
 trivial
theorem asEs_of : ∀ {xs : List AV} {ds : List D}, asDs s xs ds → asEs s xs ds
 | [], ds, h => by simpa only [asDs, asEs] using h
 | x :: xs, ds, h => by
  simp only [asDs] at h
  simp only [asEs]
  obtain ⟨d, t, h1, h2, h3⟩ := h
  exact ⟨d, t, h1, .inl h2, asEs_of h3⟩
def oksF (s : AS) : List Operand → Prop
 | [] => True
 | x :: xs => s.ok x ∧ asF s (s.at x) ∧ oksF s xs
theorem oksF_mem : ∀ {xs : List Operand}, oksF s xs → ∀ x ∈ xs, s.ok x ∧ asF s (s.at x)
 | [], _, x, hx => by simp at hx
 | y :: xs, h, x, hx => by
  simp only [oksF] at h
  rcases List.mem_cons.1 hx with rfl | hx
  ·exact ⟨h.1, h.2.1⟩
  ·exact oksF_mem h.2.2 x hx
theorem oksF_of : ∀ {xs : List Operand} {ds : List D}, asDs s (xs.map s.at) ds → oksG s xs → oksF s xs
 | [], ds, _, _ => trivial
 | x :: xs, ds, h, k => by
  simp only [List.map_cons, asDs] at h
  simp only [oksG] at k
  obtain ⟨d, t, h1, h2, h3⟩ := h
  exact ⟨k.1, asF_of h2 k.2.1, oksF_of h3 k.2.2⟩
theorem st_callC (f : Operand) (args : List Operand) (ts : Array TypeId) (d : Tmp) (fid : FuncId) (ds cs : List D) (rows : List ORow) (res : AV) (hgo : goFn P fid) (hc : Gp g → ACalls P fid (ds ++ cs) rows res) (hf : s.at f = .d (.v (.func (.func fid) #[] #[])) ∧ cs = [] ∨ s.at f = .d (.fn fid cs))
  (hds : asEs s (args.map s.at) ds) (hrl : d < 1000 ∧ rows.length ≤ 1000) (hids : ∀ r, r ∈ res.ids → r < rows.length) (hfree : freeR s (1000 * (d + 1)) rows.length) (hok : Gp g → s.ok f ∧ oksF s args)
  (h : nx P C s (some d) g (res.ren (1000 * (d + 1) + ·)) (addRows (Gp g) (1000 * (d + 1)) 0 rows)) :
  st P C s (some d) g (.call { callee := .value f, args := args.toArray, argTypes := ts }) ty :=
 ⟨_, .inl ⟨fid, ds, cs, rows, res, hf, fun hg => ⟨(hok hg).1, fun x hx => oksF_mem (hok hg).2 x (by simpa using hx), hc hg⟩, by simpa using hds, hgo, d, rfl, hrl, hfree, hids, rfl⟩, h⟩
theorem st_callE (f : Operand) (args : List Operand) (ts : Array TypeId) (d : Tmp) (fid : FuncId) (ds : List D) (rows : List ORow) (res : AV) (hgo : goFn P fid) (hc : Gp g → ACalls P fid ds rows res) (hf : s.at f = .d (.v (.func (.func fid) #[] #[])))
  (hds : asEs s (args.map s.at) ds) (hrl : d < 1000 ∧ rows.length ≤ 1000) (hids : ∀ r, r ∈ res.ids → r < rows.length) (hfree : freeR s (1000 * (d + 1)) rows.length) (hok : Gp g → s.ok f ∧ oksF s args)
  (h : nx P C s (some d) g (res.ren (1000 * (d + 1) + ·)) (addRows (Gp g) (1000 * (d + 1)) 0 rows)) :
  st P C s (some d) g (.call { callee := .value f, args := args.toArray, argTypes := ts }) ty :=
 st_callC f args ts d fid ds [] rows res hgo (by simpa using hc) (.inl ⟨hf, rfl⟩) hds hrl hids hfree hok h
theorem st_call (f : Operand) (args : List Operand) (ts : Array TypeId) (d : Tmp) (fid : FuncId) (ds : List D) (rows : List ORow) (res : AV) (hgo : goFn P fid) (hc : Gp g → ACalls P fid ds rows res) (hf : s.at f = .d (.v (.func (.func fid) #[] #[])))
  (hds : asDs s (args.map s.at) ds) (hrl : d < 1000 ∧ rows.length ≤ 1000) (hids : ∀ r, r ∈ res.ids → r < rows.length) (hfree : freeR s (1000 * (d + 1)) rows.length) (hok : Gp g → s.ok f ∧ oksG s args)
  (h : nx P C s (some d) g (res.ren (1000 * (d + 1) + ·)) (addRows (Gp g) (1000 * (d + 1)) 0 rows)) :
  st P C s (some d) g (.call { callee := .value f, args := args.toArray, argTypes := ts }) ty :=
 st_callE f args ts d fid ds rows res hgo hc hf (asEs_of hds) hrl hids hfree (fun hg => ⟨(hok hg).1, oksF_of hds (hok hg).2⟩) h
theorem st_ext (f : Operand) (args : List Operand) (ts : Array TypeId) (fid : FuncId) (l : List Value) (v : Value) (hx : Gp g → extOk P fid l v) (hf : s.at f = .d (.v (.func (.func fid) #[] #[]))) (hl : grsL s args = some l) (hok : Gp g → s.ok f ∧ oksL s args)
  (h : nx P C s dst g (ofV v) []) : st P C s dst g (.call { callee := .value f, args := args.toArray, argTypes := ts }) ty :=
 ⟨_, .inr ⟨fid, l, v, hf, by simpa using grsL_some hl, fun hg => ⟨(hok hg).1, fun x hx' => oksL_mem (hok hg).2 x (by simpa using hx'), hx hg⟩, rfl⟩, h⟩
end
section
variable (tm : List AV) (mem : Nat → Option ARow)
theorem bare_d (x : D) : (AV.d x).bare = .d x := rfl
theorem bare_ep (cs : List D) : (AV.ep cs).bare = .ep cs := rfl
theorem bare_ref (r n : Nat) : (AV.ref r n).bare = .ref r n := rfl
theorem bare_ptr (r i o : Nat) : (AV.ptr r i o).bare = .ptr r i o := rfl
theorem bare_ag (cs : List AV) : (AV.ag cs).bare = .ag cs := rfl
theorem bare_tp (cs : List AV) : (AV.tp cs).bare = .tp cs := rfl
theorem bare_wh (g : Prop) (x : AV) : (AV.wh g x).bare = x := rfl
theorem ok_d (x : D) : (AV.d x).ok = True := rfl
theorem ok_ep (cs : List D) : (AV.ep cs).ok = True := rfl
theorem ok_ref (r n : Nat) : (AV.ref r n).ok = True := rfl
theorem ok_ptr (r i o : Nat) : (AV.ptr r i o).ok = True := rfl
theorem ok_ag (cs : List AV) : (AV.ag cs).ok = True := rfl
theorem ok_tp (cs : List AV) : (AV.tp cs).ok = True := rfl
theorem ok_wh (g : Prop) (x : AV) : (AV.wh g x).ok = g := rfl
theorem gr_v (x : Value) : (AV.d (.v x)).gr = some x := rfl
theorem gr_ag (cs : List AV) : (AV.ag cs).gr = (grL cs).map fun l => .agg l.toArray := rfl
theorem gr_agg (cs : List D) : (AV.d (.agg cs)).gr = (grD cs).map fun l => .agg l.toArray := rfl
theorem grL_cons (x : Value) (xs : List AV) : grL (.d (.v x) :: xs) = (grL xs).map (x :: ·) := rfl
theorem grD_cons (x : Value) (xs : List D) : grD (.v x :: xs) = (grD xs).map (x :: ·) := rfl
theorem cellsOf_ag (cs : List AV) : (AV.ag cs).cellsOf = cs := rfl
theorem cellsOf_agg (cs : List D) : (AV.d (.agg cs)).cellsOf = cs.map .d := rfl
theorem cellsOf_int (k : IntKind) (n : Int) : (AV.d (.v (.int k n))).cellsOf = [.d (.v (.int k n))] := rfl
theorem cellsOf_bool (b : Bool) : (AV.d (.v (.bool b))).cellsOf = [.d (.v (.bool b))] := rfl
theorem cellsOf_slice (a : Option Addr) (n c : Nat) : (AV.d (.v (.slice a n c))).cellsOf = [.d (.v (.slice a n c))] := rfl
theorem cellsOf_func (f : Fn) (a c : Array Value) : (AV.d (.v (.func f a c))).cellsOf = [.d (.v (.func f a c))] := rfl
theorem cellsOf_ref (r n : Nat) : (AV.ref r n).cellsOf = [.ref r n] := rfl
theorem cellsOf_sl (sz : Nat) (els : List (List D)) : (AV.d (.sl sz els)).cellsOf = [.d (.sl sz els)] := rfl
theorem cell1s_nil : cell1s [] = True := by simp [cell1s]
theorem cell1s_cons (x : AV) (xs : List AV) : cell1s (x :: xs) = (x.cell1 ∧ cell1s xs) := by simp [cell1s]
theorem cell1_int (k : IntKind) (n : Int) : (AV.d (.v (.int k n))).cell1 = True := by simp [AV.cell1, Value.oneCell']
theorem cell1_bool (b : Bool) : (AV.d (.v (.bool b))).cell1 = True := by simp [AV.cell1, Value.oneCell']
theorem cell1_slice (a : Option Addr) (n c : Nat) : (AV.d (.v (.slice a n c))).cell1 = True := by simp [AV.cell1, Value.oneCell']
theorem cell1_func (f : Fn) (a c : Array Value) : (AV.d (.v (.func f a c))).cell1 = True := by simp [AV.cell1, Value.oneCell']
theorem cell1_ref (r n : Nat) : (AV.ref r n).cell1 = True := rfl
theorem cell1_sl (sz : Nat) (els : List (List D)) : (AV.d (.sl sz els)).cell1 = True := rfl
theorem aThen_normal (K : AS → Prop) (Q : Exit → AS → Prop) (s : AS) : aThen K Q .normal s = K s := rfl
end
section
variable {P : Program} {t : TypeId} {x y : Operand} {k : IntKind} {a b : Int} {p q : Bool}
theorem pure_add : pureBin P .add t x y (.int k a) (.int k b) = True := by simp [pureBin, Pure, binV, eqGuard, binOp, Op.intArith]
theorem pure_sub : pureBin P .sub t x y (.int k a) (.int k b) = True := by simp [pureBin, Pure, binV, eqGuard, binOp, Op.intArith]
theorem pure_mul : pureBin P .mul t x y (.int k a) (.int k b) = True := by simp [pureBin, Pure, binV, eqGuard, binOp, Op.intArith]
theorem pure_lss : pureBin P .lss t x y (.int k a) (.int k b) = True := by simp [pureBin, Pure, binV, eqGuard, binOp, Op.intCmp]
theorem pure_leq : pureBin P .leq t x y (.int k a) (.int k b) = True := by simp [pureBin, Pure, binV, eqGuard, binOp, Op.intCmp]
theorem pure_gtr : pureBin P .gtr t x y (.int k a) (.int k b) = True := by simp [pureBin, Pure, binV, eqGuard, binOp, Op.intCmp]
theorem pure_geq : pureBin P .geq t x y (.int k a) (.int k b) = True := by simp [pureBin, Pure, binV, eqGuard, binOp, Op.intCmp]
theorem pure_eql : pureBin P .eql t x y (.int k a) (.int k b) = True := by simp [pureBin, Pure, binV, eqGuard, binOp, Op.intCmp]
theorem pure_neq : pureBin P .neq t x y (.int k a) (.int k b) = True := by simp [pureBin, Pure, binV, eqGuard, binOp, Op.intCmp]
theorem pure_and : pureBin P .and t x y (.int k a) (.int k b) = True := by simp [pureBin, Pure, binV, eqGuard, binOp, Op.intBits]
theorem pure_or : pureBin P .or t x y (.int k a) (.int k b) = True := by simp [pureBin, Pure, binV, eqGuard, binOp, Op.intBits]
theorem pure_rem (h : b ≠ 0) : pureBin P .rem t x y (.int k a) (.int k b) = True := by simp [pureBin, Pure, binV, eqGuard, binOp, Op.intDiv, h]
theorem pure_shl {k' : IntKind} (h : ¬ b < 0) : pureBin P .shl t x y (.int k a) (.int k' b) = True := by simp [pureBin, Pure, binV, eqGuard, binOp, Op.shift, h]
theorem pure_shr {k' : IntKind} (h : ¬ b < 0) : pureBin P .shr t x y (.int k a) (.int k' b) = True := by simp [pureBin, Pure, binV, eqGuard, binOp, Op.shift, h]
theorem pure_eqlb (h : P.underlying t = some .bool) : pureBin P .eql t x y (.bool p) (.bool q) = True := by simp [pureBin, Pure, binV, eqGuard, run_eql_bool, h]
theorem pure_neqb (h : P.underlying t = some .bool) : pureBin P .neq t x y (.bool p) (.bool q) = True := by simp [pureBin, Pure, binV, eqGuard, run_neq_bool, h]
theorem pure_neg : pureUn P .neg (.int k a) = True := by simp [pureUn, Pure, unV, Op.unary, Op.intArith]
theorem pure_not : pureUn P .not (.bool p) = True := by simp [pureUn, Pure, unV, Op.unary]
theorem pure_com : pureUn P .xor (.int k a) = True := by simp [pureUn, Pure, unV, Op.unary, Op.intBits]
theorem pure_cv {src dst : TypeId} (hs : (P.underlying src).isSome = true) (hd : P.underlying dst = some (.int (P.intKind dst))) : pureCv P src dst (.int k a) = True := by
 simp only [pureCv, Pure, cvV, eq_iff_iff, iff_true]
 intro w
 exact run_convert_int w src dst k a hs hd
theorem pure_max {ts : Array TypeId} : pureMax P ts t [.int k a, .int k b] = True := by simp [pureMax, Pure, mxV, Builtin.max_, Builtin.max2]
theorem pure_min {ts : Array TypeId} : pureMin P ts t [.int k a, .int k b] = True := by simp [pureMin, Pure, mnV, Builtin.min_, Builtin.min2]
end
end Go.Proofs.YtjkfadaedgidpaaGreat
