/- What each operation of the model does to an abstract state. No condition. -/
import Derived.Test.YtjkfadaedgidpaaGreatAbsB
namespace Go.Proofs.YtjkfadaedgidpaaGreat
open Go.RowKit
set_option linter.unusedVariables false
set_option linter.unusedSimpArgs false
def AV.ok : AV → Prop
 | .wh g _ => g
 | _ => True
def AV.bare : AV → AV
 | .wh _ x => x
 | x => x
def AS.at (s : AS) (x : Operand) : AV := (s.ev x).bare
def AS.ok (s : AS) (x : Operand) : Prop := (s.ev x).ok
abbrev bv (t : Bool) : AV := .d (.v (.bool t))
abbrev iv (n : Int) : D := .v (.int .i64 n)
def grL : List AV → Option (List Value)
 | [] => some []
 | .d (.v x) :: xs => (grL xs).map (x :: ·)
 | _ :: _ => none
def grD : List D → Option (List Value)
 | [] => some []
 | .v x :: xs => (grD xs).map (x :: ·)
 | _ :: _ => none
def AV.gr : AV → Option Value
 | .d (.v x) => some x
 | .d (.agg cs) => (grD cs).map fun l => .agg l.toArray
 | .ag cs => (grL cs).map fun l => .agg l.toArray
 | _ => none
def veq : Value → Value → Bool
 | .int _ a, .int _ b => a == b
 | .bool a, .bool b => a == b
 | _, _ => false
def veqL : List Value → List Value → Bool
 | [], [] => true
 | a :: xs, b :: ys => veq a b && veqL xs ys
 | _, _ => false
def binV (op : BinOp) (a b : Value) : Value :=
 match op, a, b with
 | .add, .int k x, .int _ y => .int k (k.wrap (x + y))
 | .sub, .int k x, .int _ y => .int k (k.wrap (x - y))
 | .mul, .int k x, .int _ y => .int k (k.wrap (x * y))
 | .quo, .int k x, .int _ y => .int k (k.wrap (x.tdiv y))
 | .rem, .int k x, .int _ y => .int k (x.tmod y)
 | .and, .int k x, .int _ y => .int k (k.wrap (BitVec.ofInt k.bits x &&& BitVec.ofInt k.bits y).toNat)
 | .or, .int k x, .int _ y => .int k (k.wrap (BitVec.ofInt k.bits x ||| BitVec.ofInt k.bits y).toNat)
 | .xor, .int k x, .int _ y => .int k (k.wrap (BitVec.ofInt k.bits x ^^^ BitVec.ofInt k.bits y).toNat)
 | .shl, .int k x, .int _ y => .int k (k.wrap (x * 2 ^ (min y.toNat k.bits)))
 | .shr, .int k x, .int _ y => .int k (x.fdiv (2 ^ (min y.toNat k.bits)))
 | .eql, .int _ x, .int _ y => .bool (x == y)
 | .neq, .int _ x, .int _ y => .bool (x != y)
 | .lss, .int _ x, .int _ y => .bool (decide (x < y))
 | .leq, .int _ x, .int _ y => .bool (decide (x ≤ y))
 | .gtr, .int _ x, .int _ y => .bool (decide (x > y))
 | .geq, .int _ x, .int _ y => .bool (decide (x ≥ y))
 | .eql, .bool x, .bool y => .bool (x == y)
 | .neq, .bool x, .bool y => .bool (!(x == y))
 | .eql, .agg xs, .agg ys => .bool (veqL xs.toList ys.toList)
 | .neq, .agg xs, .agg ys => .bool (!veqL xs.toList ys.toList)
 | .eql, _, _ => .bool false
 | .neq, _, _ => .bool false
 | .lss, _, _ => .bool false
 | .leq, _, _ => .bool false
 | .gtr, _, _ => .bool false
 | .geq, _, _ => .bool false
 | _, _, _ => undef
def unV (op : UnOp) (a : Value) : Value :=
 match op, a with
 | .neg, .int k x => .int k (k.wrap (0 - x))
 | .not, .bool x => .bool (!x)
 | .xor, .int k n => .int k (k.wrap (BitVec.ofInt k.bits (if k.signed then -1 else k.max) ^^^ BitVec.ofInt k.bits n).toNat)
 | _, _ => undef
def cvV (P : Program) (dst : TypeId) (a : Value) : Value :=
 match a with
 | .int _ n => .int (P.intKind dst) ((P.intKind dst).wrap n)
 | _ => undef
def mxV : List Value → Value
 | [.int k x, .int _ y] => .int k (if y > x then y else x)
 | _ => undef
def mnV : List Value → Value
 | [.int k x, .int _ y] => .int k (if y < x then y else x)
 | _ => undef
def Pure (P : Program) (m : Sem Value) (v : Value) : Prop := ∀ w : World, m.run P w = .ok v w
def aggT (P : Program) (t : TypeId) : Bool := match P.underlying t with | some (.struct _) | some (.array _ _) => true | _ => false
def offT (P : Program) (t : TypeId) (f : Nat) : Option Nat := match P.underlying t with | some (.struct fs) => (fs[f]?).bind (fun fd => (P.info? fd.type).bind fun i => if i.size = 0 then none else some fd.offset) | _ => none
def tyOk (P : Program) (t : TypeId) : Bool := (P.underlying t).isSome && (P.info? t).isSome
def szT (P : Program) (t : TypeId) : Nat := ((P.info? t).map (·.size)).getD 0
def byT (P : Program) (t : TypeId) : Nat := ((P.info? t).map (·.bytes)).getD 0
def zeroT (P : Program) (t : TypeId) : Option (List Value) := ((P.info? t).bind (·.zero)).map (·.cells.toList)
def sliceT (P : Program) (t : TypeId) : Option TypeId := match P.underlying t with | some (.slice e) => if (P.info? e).isSome then some e else none | _ => none
def fieldT (P : Program) (t : TypeId) (f : Nat) : Option (Nat × TypeId) := match P.underlying t with | some (.struct fs) => (fs[f]?).map fun fd => (fd.offset, fd.type) | _ => none
def arrT (P : Program) (t : TypeId) : Option (Nat × TypeId) := match P.underlying t with | some (.array n e) => if (P.info? e).isSome then some (n, e) else none | _ => none
def AV.cellsOf : AV → List AV
 | .ag cs => cs
 | .d (.agg cs) => cs.map .d
 | .d (.v (.agg cs)) => cs.toList.map fun x => .d (.v x)
 | x => [x]
def AV.cell1 : AV → Prop
 | .d (.v x) => x.oneCell' = true
 | .d (.sl _ _) => True
 | .d (.pt _) => True
 | .ref _ _ => True
 | .ptr _ _ _ => True
 | .ep _ => True
 | _ => False
def cell1s (l : List AV) : Prop := ∀ x, x ∈ l → x.cell1
def splice (l : List AV) (o : Nat) (new : List AV) : List AV := l.take o ++ new ++ l.drop (o + new.length)
def IsD (els : List (List AV)) (dels : List (List D)) : Prop := els = dels.map (·.map .d)
def IsDs (cs : List AV) (ds : List D) : Prop := cs = ds.map .d
def asD (s : AS) (x : AV) (d : D) : Prop :=
 match x with
 | .d (.v (.slice none 0 0)) => ∃ sz, d = .sl sz [] ∨ d = .v (.slice none 0 0)
 | .d y => d = y
 | .ag cs => ∃ ds, IsDs cs ds ∧ d = .agg ds
 | .ref r n => ∃ row ds, s.mem r = some row ∧ IsD row.els ds ∧ n = ds.length ∧ d = .sl row.sz ds
 | .ptr r i o => ∃ row cells, s.mem r = some row ∧ i = 0 ∧ o = 0 ∧ IsD row.els [cells] ∧ d = .pt cells
 | .ep cs => d = .pt cs
 | _ => False
def asG (s : AS) (x : AV) : Prop :=
 match x with
 | .ref r _ => ∀ row, s.mem r = some row → row.g
 | .ptr r _ _ => ∀ row, s.mem r = some row → row.g
 | _ => True
def asEc (s : AS) : List AV → List D → Prop
 | [], ds => ds = []
 | x :: xs, ds => ∃ d t, ds = d :: t ∧ asD s x d ∧ asEc s xs t
def asE (s : AS) (x : AV) (d : D) : Prop := asD s x d ∨ ∃ cs ds, ((x = .ag cs ∧ d = .agg ds) ∨ ∃ f, x = .cl f cs ∧ d = .fn f ds) ∧ asEc s cs ds
def asF (s : AS) (x : AV) : Prop := asG s x ∧ ∀ cs, (x = .ag cs ∨ ∃ f, x = .cl f cs) → ∀ c, c ∈ cs → asG s c
structure ORow where
 ty : TypeId
 sz : Nat
 els : List (List D)
def ORow.row (o : ORow) (fam : Nat) : ARow := { g := True, ty := o.ty, sz := o.sz, uq := true, ap := true, fam := fam, els := o.els.map (·.map .d) }
def addRows (G : Prop) (base : Nat) : Nat → List ORow → List (Nat × ARow)
 | _, [] => []
 | j, o :: os => (base + j, { o.row (base + j) with g := G }) :: addRows G base (j + 1) os
mutual
def AV.ren (f : Nat → Nat) : AV → AV
 | .any => .any
 | .d x => .d x
 | .ep cs => .ep cs
 | .ref r n => .ref (f r) n
 | .ptr r i o => .ptr (f r) i o
 | .ag cs => .ag (AV.renL f cs)
 | .tp cs => .tp (AV.renL f cs)
 | .wh g x => .wh g (AV.ren f x)
 | .cl h cs => .cl h (AV.renL f cs)
def AV.renL (f : Nat → Nat) : List AV → List AV
 | [] => []
 | x :: xs => AV.ren f x :: AV.renL f xs
end
def RDt (I : Nat → Prop) (w : World) : List D → List Value → Prop
 | [], vs => vs = []
 | x :: xs, vs => ∃ u t, vs = u :: t ∧ RD I w x u ∧ RDt I w xs t
def ACalls (P : Program) (f : FuncId) (args : List D) (rows : List ORow) (res : AV) : Prop :=
 ∀ (I : Nat → Prop) (w : World) (vs : List Value), (∀ b, I b → b < w.heap.size) → RDt I w args vs →
  Calls P f vs.toArray w fun e w' => ∃ v G, e = .returned v ∧ Below w.heap.size w w' ∧ (∀ b, G.I b → w.heap.size ≤ b ∧ b < w'.heap.size) ∧
   (∀ j o, rows[j]? = some o → RowAt (fun b => w.heap.size ≤ b) G w' j (o.row j)) ∧
   (∀ j j' b, j < rows.length → j' < rows.length → j ≠ j' → G.bt j = some b → G.bt j' = some b → False) ∧
   (∀ r, r ∈ res.ids → r < rows.length) ∧ R G w' res v
def asDs (s : AS) : List AV → List D → Prop
 | [], ds => ds = []
 | x :: xs, ds => ∃ d t, ds = d :: t ∧ asD s x d ∧ asDs s xs t
def asEs (s : AS) : List AV → List D → Prop
 | [], ds => ds = []
 | x :: xs, ds => ∃ d t, ds = d :: t ∧ asE s x d ∧ asEs s xs t
def newRow1 (G : Prop) (ty : TypeId) (id : Nat) (sz : Nat) (uq ap : Bool) (els : List (List AV)) : ARow := { g := G, ty := ty, sz := sz, uq := uq, ap := ap, fam := id, els := els }
def partsOk (l : List (Nat × AV)) : Prop := ∀ p, p ∈ l → cell1s p.2.cellsOf
def ofV : Value → AV
 | .tuple vs => .tp (vs.toList.map fun x => .d (.v x))
 | x => .d (.v x)
def loV (s : AS) (i : Int) : Option Operand → Prop
 | some l => ∃ k, s.at l = .d (.v (.int k i))
 | none => i = 0
def hiV (s : AS) (n : Nat) (j : Int) : Option Operand → Prop
 | some l => ∃ k, s.at l = .d (.v (.int k j))
 | none => j = (n : Int)
def acore (P : Program) (s : AS) (G : Prop) (o : Oper) (e0 : Eff) : Prop :=
 match o.op with
 | .move x => (G → s.ok x) ∧ e0 = ⟨s.at x, []⟩
 | .assign x => (G → s.ok x) ∧ e0 = ⟨s.at x, []⟩
 | .pick c x y => ∃ t p q, s.at c = bv t ∧ (t = true → s.at x = bv p) ∧ (t = false → s.at y = bv q) ∧ (G → s.ok c ∧ (t = true → s.ok x) ∧ (t = false → s.ok y)) ∧ e0 = ⟨bv (bif t then p else q), []⟩
 | .binOp op t x y _ => ∃ a b, (s.at x).gr = some a ∧ (s.at y).gr = some b ∧ (G → s.ok x ∧ s.ok y ∧ Pure P (do eqGuard op t x y a b; binOp op t a b) (binV op a b)) ∧ e0 = ⟨.d (.v (binV op a b)), []⟩
 | .unOp op _ x => ∃ a, (s.at x).gr = some a ∧ (G → s.ok x ∧ Pure P (Op.unary op a) (unV op a)) ∧ e0 = ⟨.d (.v (unV op a)), []⟩
 | .convert src dst x => ∃ a, (s.at x).gr = some a ∧ (G → s.ok x ∧ Pure P (convert src dst a) (cvV P dst a)) ∧ e0 = ⟨.d (.v (cvV P dst a)), []⟩
 | .extract x i => ∃ cs v, s.at x = .tp cs ∧ cs[i]? = some v ∧ (G → s.ok x) ∧ e0 = ⟨v, []⟩
 | .fieldAddr t x f => ∃ off, offT P t f = some off ∧ (G → s.ok x) ∧
   match s.at x with
   | .ptr r i o => e0 = ⟨.ptr r i (o + off), []⟩
   | .ep cs => e0 = ⟨.ep (cs.drop off), []⟩
   | .d (.pt cs) => e0 = ⟨.ep (cs.drop off), []⟩
   | _ => False
 | .indexAddr t x ix => ∃ kd n, s.at ix = .d (.v (.int kd n)) ∧ (G → s.ok x ∧ s.ok ix) ∧
   match s.at x with
   | .d (.sl sz els) => (∃ e, sliceT P t = some e ∧ szT P e = sz) ∧ (G → 0 ≤ n ∧ n < (els.length : Int)) ∧ e0 = ⟨.ep (els.getD n.toNat []), []⟩
   | .ref r m => (∃ e row, sliceT P t = some e ∧ s.mem r = some row ∧ szT P e = row.sz ∧ (G → row.g ∧ m ≤ row.els.length)) ∧ (G → 0 ≤ n ∧ n < (m : Int)) ∧ e0 = ⟨.ptr r n.toNat 0, []⟩
   | .ptr r i o => ∃ m e, arrT P t = some (m, e) ∧ (G → 0 ≤ n ∧ n < (m : Int)) ∧ e0 = ⟨.ptr r i (o + n.toNat * szT P e), []⟩
   | .ep cs => ∃ m e, arrT P t = some (m, e) ∧ (G → 0 ≤ n ∧ n < (m : Int)) ∧ e0 = ⟨.ep (cs.drop (n.toNat * szT P e)), []⟩
   | _ => False
 | .index t x ix => ∃ kd n m e cs, s.at ix = .d (.v (.int kd n)) ∧ arrT P t = some (m, e) ∧ tyOk P e = true ∧ aggT P e = false ∧ szT P e = 1 ∧ (s.at x = .ag cs ∨ ∃ ds, s.at x = .d (.agg ds) ∧ cs = ds.map .d) ∧ cs.length = m ∧ (G → s.ok x ∧ s.ok ix ∧ 0 ≤ n ∧ n < (m : Int)) ∧ e0 = ⟨cs.getD n.toNat .any, []⟩
 | .field t x f => ∃ off e cs, fieldT P t f = some (off, e) ∧ tyOk P e = true ∧ (s.at x = .ag cs ∨ ∃ ds, s.at x = .d (.agg ds) ∧ cs = ds.map .d) ∧ (G → s.ok x) ∧
   (bif aggT P e then (G → off + szT P e ≤ cs.length) ∧ e0 = ⟨.ag ((cs.drop off).take (szT P e)), []⟩ else (G → off < cs.length) ∧ e0 = ⟨cs.getD off .any, []⟩)
 | .makeFunc fn first cap => ∃ f, fn = .func f ∧ first = #[] ∧ (G → (∀ x ∈ cap.toList, s.ok x) ∧ cell1s (cap.toList.map s.at)) ∧ e0 = ⟨.cl f (cap.toList.map s.at), []⟩
 | .load t x => tyOk P t = true ∧ (G → s.ok x) ∧
   match s.at x with
   | .ptr r i o => ∃ row, s.mem r = some row ∧
     (bif aggT P t then (G → row.g ∧ i < row.els.length ∧ o + szT P t ≤ (row.els.getD i []).length) ∧ e0 = ⟨.ag (((row.els.getD i []).drop o).take (szT P t)), []⟩
      else (G → row.g ∧ i < row.els.length ∧ o < (row.els.getD i []).length) ∧ e0 = ⟨(row.els.getD i []).getD o .any, []⟩)
   | .ep cs =>
     (bif aggT P t then (G → szT P t ≤ cs.length) ∧ e0 = ⟨.d (.agg (cs.take (szT P t))), []⟩
      else (G → 0 < cs.length) ∧ e0 = ⟨.d (cs.getD 0 (.v undef)), []⟩)
   | .d (.pt cs) =>
     (bif aggT P t then (G → szT P t ≤ cs.length) ∧ e0 = ⟨.d (.agg (cs.take (szT P t))), []⟩
      else (G → 0 < cs.length) ∧ e0 = ⟨.d (cs.getD 0 (.v undef)), []⟩)
   | _ => False
 | .store t x y => G ∧ tyOk P t = true ∧ s.ok x ∧ s.ok y ∧ ∃ r i o row, s.at x = .ptr r i o ∧ s.mem r = some row ∧ row.g ∧ row.uq = true ∧ i < row.els.length ∧ (s.at y).cellsOf.length = szT P t ∧ cell1s (s.at y).cellsOf ∧
   o + szT P t ≤ (row.els.getD i []).length ∧ e0 = ⟨.d (.v undef), [(r, { row with els := row.els.set i (splice (row.els.getD i []) o (s.at y).cellsOf) })]⟩
 | .box t x => ∃ d, o.dst = some d ∧ d < 1000 ∧ s.mem d = none ∧ (G → s.ok x ∧ cell1s (s.at x).cellsOf) ∧ e0 = ⟨.ptr d 0 0, [(d, newRow1 G t d (s.at x).cellsOf.length true false [(s.at x).cellsOf])]⟩
 | .alloc t => ∃ d z, o.dst = some d ∧ d < 1000 ∧ s.mem d = none ∧ zeroT P t = some z ∧ (∀ u ∈ z, u.oneCell' = true) ∧ e0 = ⟨.ptr d 0 0, [(d, newRow1 G t d z.length true false [z.map fun u => .d (.v u)])]⟩
 | .build t parts => ∃ z, zeroT P t = some z ∧
   match P.underlying t with
   | some (.struct fs) => (∀ f ∈ fs, (P.info? f.type).isSome = true) ∧ (G → (∀ p ∈ parts.toList, s.ok p.2 ∧ ∃ f, fs[p.1]? = some f ∧ (s.at p.2).cellsOf.length = szT P f.type ∧ f.offset + szT P f.type ≤ z.length)) ∧ (∀ p ∈ parts.toList, cell1s (s.at p.2).cellsOf) ∧ (∀ u ∈ z, u.oneCell' = true) ∧
     e0 = ⟨.ag (parts.toList.foldl (fun l p => splice l (((fs[p.1]?).map (·.offset)).getD 0) (s.at p.2).cellsOf) (z.map fun u => .d (.v u))), []⟩
   | some (.array _ e) => (P.info? e).isSome = true ∧ (G → (∀ p ∈ parts.toList, s.ok p.2 ∧ (s.at p.2).cellsOf.length = szT P e ∧ p.1 * szT P e + szT P e ≤ z.length)) ∧ (∀ p ∈ parts.toList, cell1s (s.at p.2).cellsOf) ∧ (∀ u ∈ z, u.oneCell' = true) ∧
     e0 = ⟨.ag (parts.toList.foldl (fun l p => splice l (p.1 * szT P e) (s.at p.2).cellsOf) (z.map fun u => .d (.v u))), []⟩
   | _ => False
 | .buildSlice t len parts => ∃ d e, o.dst = some d ∧ d < 1000 ∧ s.mem d = none ∧ sliceT P t = some e ∧ parts.toList.map (·.1) = List.range len ∧ len * szT P e ≤ 16777216 ∧ len ≤ maxLen ∧ (zeroT P e).isSome = true ∧ ((zeroT P e).getD []).length = szT P e ∧
   (G → ∀ p ∈ parts.toList, s.ok p.2 ∧ (s.at p.2).cellsOf.length = szT P e ∧ cell1s (s.at p.2).cellsOf) ∧
   e0 = ⟨.ref d len, [(d, newRow1 G e d (szT P e) true true (parts.toList.map fun p => (s.at p.2).cellsOf))]⟩
 | .makeSlice t l c => ∃ d e k k' n z, o.dst = some d ∧ d < 1000 ∧ s.mem d = none ∧ sliceT P t = some e ∧ zeroT P e = some z ∧ z.length = szT P e ∧ (∀ u ∈ z, u.oneCell' = true) ∧ s.at l = .d (.v (.int k n)) ∧ s.at c = .d (.v (.int k' n)) ∧
   (G → s.ok l ∧ s.ok c ∧ 0 ≤ n ∧ n ≤ 1000000 ∧ byT P e ≤ 1000000) ∧ e0 = ⟨.ref d n.toNat, [(d, newRow1 G e d (szT P e) true true (List.replicate n.toNat (z.map fun u => .d (.v u))))]⟩
 | .slice t x lo hi mx => mx = none ∧ ∃ sz els i j, s.at x = .d (.sl sz els) ∧ (∃ e, sliceT P t = some e ∧ szT P e = sz) ∧
   loV s i lo ∧ hiV s els.length j hi ∧
   (G → s.ok x ∧ (∀ l, lo = some l → s.ok l) ∧ (∀ h, hi = some h → s.ok h) ∧ 0 ≤ i ∧ i ≤ j ∧ j ≤ (els.length : Int)) ∧ e0 = ⟨.d (.sl sz ((els.take j.toNat).drop i.toNat)), []⟩
 | .call c =>
   match c.callee with
   | .builtin .len => ∃ x t, c.args = #[x] ∧ c.argTypes = #[t] ∧ (sliceT P t).isSome = true ∧ (G → s.ok x) ∧
     match s.at x with
     | .d (.sl _ els) => e0 = ⟨.d (.v (.int .i64 els.length)), []⟩
     | .d (.v (.slice none 0 0)) => e0 = ⟨.d (.v (.int .i64 0)), []⟩
     | .ref _ n => e0 = ⟨.d (.v (.int .i64 n)), []⟩
     | _ => False
   | .builtin .max => ∃ l, (c.args.toList.map fun x => (s.at x).gr) = l.map some ∧ (G → (∀ x ∈ c.args.toList, s.ok x) ∧ Pure P (Builtin.max_ c.argTypes o.type l.toArray) (mxV l)) ∧ e0 = ⟨.d (.v (mxV l)), []⟩
   | .builtin .min => ∃ l, (c.args.toList.map fun x => (s.at x).gr) = l.map some ∧ (G → (∀ x ∈ c.args.toList, s.ok x) ∧ Pure P (Builtin.min_ c.argTypes o.type l.toArray) (mnV l)) ∧ e0 = ⟨.d (.v (mnV l)), []⟩
   | .builtin .append => G ∧ ∃ x y t e d new, c.args = #[x, y] ∧ c.argTypes = #[t, t] ∧ sliceT P t = some e ∧ o.dst = some d ∧ d < 1000 ∧ s.mem d = none ∧ s.ok x ∧ s.ok y ∧ (zeroT P e).isSome = true ∧ ((zeroT P e).getD []).length = szT P e ∧ 0 < szT P e ∧
     asD s (s.at y) (.sl (szT P e) new) ∧ asG s (s.at y) ∧
     match s.at x with
     | .d (.v (.slice none 0 0)) => new.length ≤ maxLen ∧ new.length * byT P e ≤ 140737488355328 ∧ e0 = ⟨.ref d new.length, [(d, newRow1 True e d (szT P e) true true (new.map (·.map .d)))]⟩
     | .ref r n => ∃ row old, s.mem r = some row ∧ row.g ∧ row.ap = true ∧ row.ty = e ∧ row.sz = szT P e ∧ IsD row.els old ∧ n = old.length ∧ n + new.length ≤ maxLen ∧ (n + new.length) * byT P e ≤ 140737488355328 ∧
       e0 = ⟨.ref d (n + new.length), [(r, { row with uq := false, ap := false }), (d, { row with uq := false, ap := true, els := (old ++ new).map (·.map .d) })]⟩
     | _ => False
   | .value f => (∃ fid ds cs rows res, (s.at f = .d (.v (.func (.func fid) #[] #[])) ∧ cs = [] ∨ s.at f = .d (.fn fid cs)) ∧ (G → s.ok f ∧ (∀ x ∈ c.args.toList, s.ok x ∧ asF s (s.at x)) ∧ ACalls P fid (ds ++ cs) rows res) ∧ asEs s (c.args.toList.map s.at) ds ∧
     (∃ fn, P.funcs[fid]? = some fn ∧ fn.body.isSome = true ∧ (fn.name == "runtime.NumGoroutine") = false) ∧
     ∃ d, o.dst = some d ∧ (d < 1000 ∧ rows.length ≤ 1000) ∧ (∀ j, j < rows.length → s.mem (1000 * (d + 1) + j) = none) ∧ (∀ r, r ∈ res.ids → r < rows.length) ∧ e0 = ⟨res.ren (1000 * (d + 1) + ·), addRows G (1000 * (d + 1)) 0 rows⟩) ∨
     (∃ (fid : FuncId) (l : List Value) (v : Value), s.at f = .d (.v (.func (.func fid) #[] #[])) ∧ (c.args.toList.map fun x => (s.at x).gr) = l.map some ∧ (G → s.ok f ∧ (∀ x ∈ c.args.toList, s.ok x) ∧ ∀ w : World, (callFunc fid l.toArray).run P w = .ok (.value v) w) ∧ e0 = ⟨ofV v, []⟩)
   | _ => False
 | _ => False
end Go.Proofs.YtjkfadaedgidpaaGreat
