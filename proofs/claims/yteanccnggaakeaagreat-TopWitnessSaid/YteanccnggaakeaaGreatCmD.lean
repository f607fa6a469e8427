/- Arithmetic of the machine. No condition. -/
import Derived.Test.YteanccnggaakeaaGreatCmC
namespace Go.Proofs.YteanccnggaakeaaGreat
open Go.RowKit
set_option linter.unusedVariables false
set_option linter.unusedSimpArgs false

/- What the model makes of two numbers. -/
def binZ (op : BinOp) (k : IntKind) (x y : Int) : Option Value :=
  match op with
  | .add => some (.int k (k.wrap (x + y)))
  | .sub => some (.int k (k.wrap (x - y)))
  | .mul => some (.int k (k.wrap (x * y)))
  | .quo => if y = 0 then none else some (.int k (k.wrap (x.tdiv y)))
  | .rem => if y = 0 then none else some (.int k (x.tmod y))
  | .and => some (.int k (k.wrap (BitVec.ofInt k.bits x &&& BitVec.ofInt k.bits y).toNat))
  | .or => some (.int k (k.wrap (BitVec.ofInt k.bits x ||| BitVec.ofInt k.bits y).toNat))
  | .xor => some (.int k (k.wrap (BitVec.ofInt k.bits x ^^^ BitVec.ofInt k.bits y).toNat))
  | .shl => if y < 0 then none else some (.int k (k.wrap (x * 2 ^ (min y.toNat k.bits))))
  | .shr => if y < 0 then none else some (.int k (x.fdiv (2 ^ (min y.toNat k.bits))))
  | .eql => some (.bool (x == y))
  | .neq => some (.bool (x != y))
  | .lss => some (.bool (decide (x < y)))
  | .leq => some (.bool (decide (x ≤ y)))
  | .gtr => some (.bool (decide (x > y)))
  | .geq => some (.bool (decide (x ≥ y)))
  | .andNot => none
def shiftB : BinOp → Bool
  | .shl => true
  | .shr => true
  | _ => false
theorem binZ_run {op : BinOp} {k k' : IntKind} {x y : Int} {z : Value} (h : binZ op k x y = some z) (hk : shiftB op = true ∨ k = k') (P : Program) (t : TypeId) (ox oy : Operand) (w : World) :
    (do eqGuard op t ox oy (.int k x) (.int k' y); binOp op t (.int k x) (.int k' y)).run P w = .ok z w := by
  cases op <;> simp only [binZ] at h
  case shl =>
    split at h
    · cases h
    · rename_i hy
      injection h with h; subst h
      simp [eqGuard, binOp, Op.shift, hy]
  case shr =>
    split at h
    · cases h
    · rename_i hy
      injection h with h; subst h
      simp [eqGuard, binOp, Op.shift, hy]
  case quo =>
    obtain rfl : k = k' := by rcases hk with hk | hk; cases hk; exact hk
    split at h
    · cases h
    · rename_i hy
      injection h with h; subst h
      simp [eqGuard, binOp, Op.intDiv, hy]
  case rem =>
    obtain rfl : k = k' := by rcases hk with hk | hk; cases hk; exact hk
    split at h
    · cases h
    · rename_i hy
      injection h with h; subst h
      simp [eqGuard, binOp, Op.intDiv, hy]
  case andNot => cases h
  all_goals
    obtain rfl : k = k' := by rcases hk with hk | hk; cases hk; exact hk
    injection h with h; subst h
    simp [eqGuard, binOp, Op.intArith, Op.intBits, Op.intCmp]

noncomputable def yV (v : Value) (K : KV) : Bool := match v with | .int k n => yI k n K | .bool b => yB b K | _ => false
theorem yV_t {v : Value} {K : KV} (h : yV v K = true) : Goes K v := by
  unfold yV at h
  split at h
  · exact yI_t h
  · exact yB_t h
  · cases h
noncomputable def zInt (op : BinOp) (k : IntKind) (x y : Int) (K : KV) : Bool := og (binZ op k x y) fun v => yV v K
/- It goes on with what the model makes of two numbers. -/
def GoesZ (K : KV) (op : BinOp) (k : IntKind) (x y : Int) : Prop := ∃ z, binZ op k x y = some z ∧ Goes K z
theorem zInt_t {op : BinOp} {k : IntKind} {x y : Int} {K : KV} (h : zInt op k x y K = true) : GoesZ K op k x y := by
  obtain ⟨v, h1, h2⟩ := og_t h
  exact ⟨v, h1, yV_t h2⟩
abbrev NN := IntKind → Nat → Nat → KV → Bool
noncomputable def slow (op : BinOp) : NN := fun k a b K => zInt op k (.ofNat a) (.ofNat b) K
noncomputable def nSub : NN := fun k a b K => Bool.rec (slow .sub k a b K) (wN k (Nat.sub a b) K) (Nat.ble b a)
noncomputable def nQuo : NN := fun k a b K => Nat.rec false (fun _ _ => wN k (Nat.div a b) K) b
noncomputable def nRem : NN := fun k a b K => Nat.rec false (fun _ _ => yN k (Nat.mod a b) K) b
noncomputable def nBits (f : Nat → Nat → Nat) (op : BinOp) : NN := fun k a b K =>
  IntKind.rec (slow op k a b K) (slow op k a b K) (slow op k a b K) (slow op k a b K) (yN k (f (Nat.mod a 256) (Nat.mod b 256)) K) (yN k (f (Nat.mod a 65536) (Nat.mod b 65536)) K) (yN k (f (Nat.mod a 4294967296) (Nat.mod b 4294967296)) K) (yN k (f (Nat.mod a 18446744073709551616) (Nat.mod b 18446744073709551616)) K) k
noncomputable def nShl : NN := fun k a b K => Bool.rec (slow .shl k a b K) (wN k (Nat.mul a (Nat.pow 2 b)) K) (Nat.ble b (kb k))
noncomputable def nShr : NN := fun k a b K => Bool.rec (slow .shr k a b K) (yN k (Nat.div a (Nat.pow 2 b)) K) (Nat.ble b (kb k))
noncomputable def nInt (op : BinOp) : NN :=
  BinOp.rec (fun k a b K => wN k (Nat.add a b) K) nSub (fun k a b K => wN k (Nat.mul a b) K) nQuo nRem (nBits Nat.land .and) (nBits Nat.lor .or) (nBits Nat.xor .xor) nShl nShr (fun _ _ _ _ => false)
    (fun _ a b K => yB (Nat.beq a b) K) (fun _ a b K => Bool.rec (K (.bo true)) (K (.bo false)) (Nat.beq a b)) (fun _ a b K => yB (Nat.blt a b) K) (fun _ a b K => yB (Nat.ble a b) K) (fun _ a b K => yB (Nat.blt b a) K) (fun _ a b K => yB (Nat.ble b a) K) op

theorem GoesZ.of {K : KV} {op : BinOp} {k : IntKind} {x y : Int} {z z' : Value} (h : Goes K z) (hz : binZ op k x y = some z') (e : z = z') : GoesZ K op k x y := ⟨z', hz, h.of_eq e⟩
theorem bits_u {m a : Nat} {k : IntKind} (hm : 2 ^ k.bits = m) : (BitVec.ofInt k.bits (Int.ofNat a)).toNat = a % m := by
  rw [← hm]
  simp [BitVec.toNat_ofInt]
theorem wrap_small {n m : Nat} {k : IntKind} (hk : k.signed = false) (hm : (2 : Int) ^ k.bits = (m : Int)) (h : n < m) : k.wrap (.ofNat n) = .ofNat n := by
  rw [wrap_u n m k hk hm, Nat.mod_eq_of_lt h]
theorem nBits_u {f : Nat → Nat → Nat} {op : BinOp} {k : IntKind} {g : BitVec k.bits → BitVec k.bits → BitVec k.bits} {m a b : Nat} {K : KV} (hk : k.signed = false) (hm : (2 : Int) ^ k.bits = (m : Int)) (hm' : 2 ^ k.bits = m)
    (hop : ∀ x y, binZ op k x y = some (.int k (k.wrap (g (BitVec.ofInt k.bits x) (BitVec.ofInt k.bits y)).toNat))) (hf : ∀ x y, (g x y).toNat = f x.toNat y.toNat)
    (h : yN k (f (Nat.mod a m) (Nat.mod b m)) K = true) : GoesZ K op k (.ofNat a) (.ofNat b) := by
  refine .of (yN_t h) (hop _ _) ?_
  have e : (g (BitVec.ofInt k.bits (Int.ofNat a)) (BitVec.ofInt k.bits (Int.ofNat b))).toNat = f (a % m) (b % m) := by rw [hf, bits_u hm', bits_u hm']
  have hlt := (g (BitVec.ofInt k.bits (Int.ofNat a)) (BitVec.ofInt k.bits (Int.ofNat b))).isLt
  rw [e] at hlt ⊢
  rw [hm'] at hlt
  exact congrArg (Value.int k) (wrap_small hk hm hlt).symm
theorem nBits_t {f : Nat → Nat → Nat} {op : BinOp} {k : IntKind} {a b : Nat} {K : KV} (g : ∀ n, BitVec n → BitVec n → BitVec n)
    (hop : ∀ k x y, binZ op k x y = some (.int k (k.wrap (g k.bits (BitVec.ofInt k.bits x) (BitVec.ofInt k.bits y)).toNat))) (hf : ∀ n x y, (g n x y).toNat = f x.toNat y.toNat)
    (h : nBits f op k a b K = true) : GoesZ K op k (.ofNat a) (.ofNat b) := by
  cases k with
  | u8 => exact nBits_u (g := g _) rfl rfl rfl (hop _) (hf _) h
  | u16 => exact nBits_u (g := g _) rfl rfl rfl (hop _) (hf _) h
  | u32 => exact nBits_u (g := g _) rfl rfl rfl (hop _) (hf _) h
  | u64 => exact nBits_u (g := g _) rfl rfl rfl (hop _) (hf _) h
  | _ => exact zInt_t h
theorem rec_b {b : Bool} {x y : Bool} (h : (Bool.rec x y b : Bool) = true) : (b = true ∧ y = true) ∨ (b = false ∧ x = true) := by
  cases b with
  | true => exact .inl ⟨rfl, h⟩
  | false => exact .inr ⟨rfl, h⟩
theorem nInt_t {op : BinOp} {k : IntKind} {a b : Nat} {K : KV} (h : nInt op k a b K = true) : GoesZ K op k (.ofNat a) (.ofNat b) := by
  cases op with
  | add => exact .of (wN_t (k := k) (n := Nat.add a b) h) rfl rfl
  | sub =>
    rcases rec_b (show (Bool.rec (slow .sub k a b K) (wN k (Nat.sub a b) K) (Nat.ble b a) : Bool) = true from h) with ⟨hb, h⟩ | ⟨_, h⟩
    · have hle := Nat.le_of_ble_eq_true hb
      refine .of (wN_t h) rfl ?_
      have : (Int.ofNat (Nat.sub a b)) = Int.ofNat a - Int.ofNat b := by show ((a - b : Nat) : Int) = (a : Int) - (b : Int); omega
      rw [this]
    · exact zInt_t h
  | mul => exact .of (wN_t (k := k) (n := Nat.mul a b) h) rfl rfl
  | quo =>
    cases b with
    | zero => cases h
    | succ b => exact .of (wN_t (k := k) (n := Nat.div a (b + 1)) h) (by simp only [binZ]; rw [if_neg (by show ¬ ((b + 1 : Nat) : Int) = 0; omega)]; rfl) rfl
  | rem =>
    cases b with
    | zero => cases h
    | succ b => exact .of (yN_t (k := k) (n := Nat.mod a (b + 1)) h) (by simp only [binZ]; rw [if_neg (by show ¬ ((b + 1 : Nat) : Int) = 0; omega)]; rfl) rfl
  | and => exact nBits_t (fun _ x y => x &&& y) (fun _ _ _ => rfl) (fun _ x y => BitVec.toNat_and x y) h
  | or => exact nBits_t (fun _ x y => x ||| y) (fun _ _ _ => rfl) (fun _ x y => BitVec.toNat_or x y) h
  | xor => exact nBits_t (fun _ x y => x ^^^ y) (fun _ _ _ => rfl) (fun _ x y => BitVec.toNat_xor x y) h
  | shl =>
    rcases rec_b (show (Bool.rec (slow .shl k a b K) (wN k (Nat.mul a (Nat.pow 2 b)) K) (Nat.ble b (kb k)) : Bool) = true from h) with ⟨hb, h⟩ | ⟨_, h⟩
    · have hle := Nat.le_of_ble_eq_true hb
      rw [kb_eq] at hle
      refine .of (wN_t h) (by simp only [binZ]; rw [if_neg (by show ¬ ((b : Nat) : Int) < 0; omega)]) ?_
      have : min (Int.ofNat b).toNat k.bits = b := by show min b k.bits = b; omega
      rw [this]
      have e : ((a * 2 ^ b : Nat) : Int) = (a : Int) * 2 ^ b := by simp
      exact congrArg (fun n => Value.int k (k.wrap n)) e
    · exact zInt_t h
  | shr =>
    rcases rec_b (show (Bool.rec (slow .shr k a b K) (yN k (Nat.div a (Nat.pow 2 b)) K) (Nat.ble b (kb k)) : Bool) = true from h) with ⟨hb, h⟩ | ⟨_, h⟩
    · have hle := Nat.le_of_ble_eq_true hb
      rw [kb_eq] at hle
      refine .of (yN_t h) (by simp only [binZ]; rw [if_neg (by show ¬ ((b : Nat) : Int) < 0; omega)]) ?_
      have : min (Int.ofNat b).toNat k.bits = b := by show min b k.bits = b; omega
      rw [this]
      have e : ((a / 2 ^ b : Nat) : Int) = (a : Int).fdiv (2 ^ b) := by
        rw [Int.fdiv_eq_ediv_of_nonneg _ (Int.le_of_lt (Int.pow_pos (by decide)))]
        simp
      exact congrArg (Value.int k) e
    · exact zInt_t h
  | andNot => cases h
  | eql =>
    refine .of (yB_t h) rfl (congrArg Value.bool ?_)
    rw [Bool.eq_iff_iff]
    simp
    omega
  | neq =>
    rcases rec_b (show (Bool.rec (K (.bo true)) (K (.bo false)) (Nat.beq a b) : Bool) = true from h) with ⟨hb, h⟩ | ⟨hb, h⟩
    · exact .of (z := .bool false) ⟨_, h, rfl⟩ rfl (congrArg Value.bool (by have := Nat.eq_of_beq_eq_true hb; subst this; simp))
    · exact .of (z := .bool true) ⟨_, h, rfl⟩ rfl (congrArg Value.bool (by
        have : a ≠ b := Nat.ne_of_beq_eq_false hb
        simp
        omega))
  | lss =>
    refine .of (yB_t h) rfl (congrArg Value.bool ?_)
    rw [Bool.eq_iff_iff]
    simp [Nat.blt]
    omega
  | leq =>
    refine .of (yB_t h) rfl (congrArg Value.bool ?_)
    rw [Bool.eq_iff_iff]
    simp
  | gtr =>
    refine .of (yB_t h) rfl (congrArg Value.bool ?_)
    rw [Bool.eq_iff_iff]
    simp [Nat.blt]
    omega
  | geq =>
    refine .of (yB_t h) rfl (congrArg Value.bool ?_)
    rw [Bool.eq_iff_iff]
    simp
end Go.Proofs.YteanccnggaakeaaGreat
