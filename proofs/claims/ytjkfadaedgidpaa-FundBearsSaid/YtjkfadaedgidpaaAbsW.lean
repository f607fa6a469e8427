/- Regions whose orders differ: a tree of orders. No condition. -/
import Derived.Test.YtjkfadaedgidpaaAbsV
namespace Go.Proofs.Ytjkfadaedgidpaa
open Go.RowKit
set_option linter.unusedVariables false
set_option linter.unusedSimpArgs false

inductive OT where
  | nil
  | one (k : Nat) (t : OT)
  | two (a b : OT)
def OT.alts : OT → List (Nat × OT)
  | .nil => []
  | .one k t => [(k, t)]
  | .two a b => a.alts ++ b.alts
/- Carried out along the tree. -/
def aTree (P : Program) (ops : Array Oper) (Q : AS → Prop) : OT → AS → Prop
  | .nil, s => Q s
  | .one k t, s => ∃ o, ops[k]? = some o ∧ aStep P ops o (aTree P ops Q t) s
  | .two a b, s => aTree P ops Q a s ∧ aTree P ops Q b s
/- The tree holds all orders. -/
def treeOk (md : Region.Mode) (ops : Array Oper) : Nat → Array Bool → OT → Bool
  | 0, listed, t => match t with | .nil => (Region.ready md ops listed).isEmpty | _ => false
  | n + 1, listed, t =>
    match t with
    | .nil => false
    | .one k t => (Region.ready md ops listed).contains k && (freeC md ops listed k || (Region.ready md ops listed).all (· == k)) && treeOk md ops n (listed.setIfInBounds k true) t
    | .two a b => !(Region.ready md ops listed).isEmpty && (Region.ready md ops listed).all fun k => (OT.two a b).alts.any fun p => p.1 == k && treeOk md ops n (listed.setIfInBounds k true) p.2
/- The same by equations: each operation's guard is read off the list of targets. -/
def evT (P : Program) (ds : List (Option Tmp)) (l : List Oper) (Q : AS → Prop) : OT → AS → Prop
  | .nil, s => Q s
  | .one k t, s =>
    match l[k]? with
    | none => False
    | some o =>
      match o.guard with
      | none => evS P (evT P ds l Q t) s o.dst none o.type o.op
      | some (j, want) => evG P (evT P ds l Q t) s o.dst o.op o.type want (nthD ds j)
  | .two a b, s => evT P ds l Q a s ∧ evT P ds l Q b s
section
variable {P : Program} {ds : List (Option Tmp)} {l : List Oper} {Q : AS → Prop} {s : AS}
end
end Go.Proofs.Ytjkfadaedgidpaa
