/- Losses and margins of positions, in plain terms. No condition. -/
import Derived.Test.YtdgkiemehmmobaaSpecM
import Derived.Test.YtdgkiemehmmobaaAbsX
import Derived.Test.YtdgkiemehmmobaaSpecR
namespace Go.Proofs.Ytdgkiemehmmobaa
open Go.RowKit
set_option linter.unusedVariables false
set_option linter.unusedSimpArgs false
structure PieceV where
  inst : InstV
  qty : Int
def pieceC (x : PieceV) : List D := [iv x.inst.no, iv x.inst.cur, iv x.inst.mult, iv x.inst.add, iv x.inst.set, iv x.inst.price, iv x.inst.s0, iv x.inst.s1, iv x.inst.s2, iv x.inst.s3, iv x.inst.s4, iv x.inst.s5, iv x.qty]
def pQok (p : PosV) : Bool := !(decide (p.qty < -1099511627776) || decide (p.qty > 1099511627776))
def pSel (r : RollV) (who cur : Int) (p : PosV) : Bool := hasX InstV.no p.inst r.insts && p.who == who && (findX InstV.no p.inst zInst r.insts).cur == cur
def pPiece (r : RollV) (p : PosV) : PieceV := ⟨findX InstV.no p.inst zInst r.insts, p.qty⟩
def pcs (r : RollV) (who cur : Int) (l : List PosV) : List PieceV := (l.filter (pSel r who cur)).map (pPiece r)
def pcsE (r : RollV) (l : List PosV) : Int := bif rollOk r then (bif l.all pQok then 0 else 3) else 14
def pcsL (r : RollV) (who cur : Int) (l : List PosV) : List PieceV := bif pcsE r l == 0 then pcs r who cur l else []
theorem rollE_ne {r : RollV} (h : (rollE r != 0) = true) : rollOk r = false ∧ rollE r = 14 := by
  cases hk : rollOk r
  · exact ⟨rfl, by simp [rollE, hk]⟩
  · simp [rollE, hk] at h
theorem rollE_eq {r : RollV} (h : (rollE r != 0) = false) : rollOk r = true := by
  cases hk : rollOk r
  · simp [rollE, hk] at h
  · rfl
theorem pcs_yes {r : RollV} {who cur : Int} {x : PosV} (h : pSel r who cur x = true) (pre : List PosV) : pcs r who cur (pre ++ [x]) = pcs r who cur pre ++ [pPiece r x] := by simp [pcs, h]
theorem pcs_no {r : RollV} {who cur : Int} {x : PosV} (h : pSel r who cur x = false) (pre : List PosV) : pcs r who cur (pre ++ [x]) = pcs r who cur pre := by simp [pcs, h]
def shN (i : InstV) : Nat → Int
  | 0 => i.s0 | 1 => i.s1 | 2 => i.s2 | 3 => i.s3 | 4 => i.s4 | _ => i.s5
def lossOf (x : PieceV) (j : Nat) : Int := -x.qty * x.inst.mult * shN x.inst j
def lossT (ps : List PieceV) (j : Nat) : Int := (ps.map (lossOf · j)).sum
def lossOk (ps : List PieceV) : Bool := rightN (lossT ps 0) && rightN (lossT ps 1) && rightN (lossT ps 2) && rightN (lossT ps 3) && rightN (lossT ps 4) && rightN (lossT ps 5)
def lossE (r : RollV) (who cur : Int) (l : List PosV) : Int := bif pcsE r l == 0 then (bif lossOk (pcs r who cur l) then 0 else 1) else pcsE r l
def lossV (r : RollV) (who cur : Int) (l : List PosV) (j : Nat) : Int := bif lossE r who cur l == 0 then lossT (pcs r who cur l) j else 0
def lossA (r : RollV) (who cur : Int) (l : List PosV) : AV := .ag [.d (iv (lossV r who cur l 0)), .d (iv (lossV r who cur l 1)), .d (iv (lossV r who cur l 2)), .d (iv (lossV r who cur l 3)), .d (iv (lossV r who cur l 4)), .d (iv (lossV r who cur l 5))]
def mx2 (a b : Int) : Int := if b > a then b else a
def lossM (ps : List PieceV) : Int := mx2 (mx2 (mx2 (mx2 (mx2 (mx2 0 (lossT ps 0)) (lossT ps 1)) (lossT ps 2)) (lossT ps 3)) (lossT ps 4)) (lossT ps 5)
def addOf (x : PieceV) : Int := mx2 x.qty (-x.qty) * x.inst.add
def margT (ps : List PieceV) : Int := lossM ps + (ps.map addOf).sum
def margL (ps pre : List PieceV) : List Int := lossM ps :: pre.map addOf
def margE (r : RollV) (who cur : Int) (l : List PosV) : Int := bif lossE r who cur l == 0 then (bif rightN (margT (pcs r who cur l)) then 0 else 1) else lossE r who cur l
def margV (r : RollV) (who cur : Int) (l : List PosV) : Int := bif margE r who cur l == 0 then margT (pcs r who cur l) else 0
/- What is listed in a right roll is right. -/
theorem chk_all {α : Type} {ok : α → Bool} {no : α → Int} : ∀ {p : Option α} {l : List α}, chk ok no p l = true → ∀ x ∈ l, ok x = true
  | _, [], _, x, hx => by simp at hx
  | p, y :: l, h, x, hx => by
    simp only [chk, Bool.and_eq_true] at h
    rcases List.mem_cons.1 hx with rfl | hx
    · exact h.1.1
    · exact chk_all h.2 x hx
theorem findX_mem {α : Type} {no : α → Int} {n : Int} {z : α} : ∀ {l : List α}, hasX no n l = true → findX no n z l ∈ l ∧ no (findX no n z l) = n
  | [], h => by simp [hasX] at h
  | x :: l, h => by
    cases hx : no x == n
    · simp only [hasX, hx, Bool.false_or] at h
      have := findX_mem (z := z) h
      simp only [findX, hx, cond_false]
      exact ⟨List.mem_cons_of_mem _ this.1, this.2⟩
    · simp only [findX, hx, cond_true]
      exact ⟨by simp, by simpa using hx⟩
structure PieceOk (x : PieceV) : Prop where
  q0 : -1099511627776 ≤ x.qty
  q1 : x.qty ≤ 1099511627776
  m0 : 1 ≤ x.inst.mult
  m1 : x.inst.mult ≤ 1024
  a0 : 0 ≤ x.inst.add
  a1 : x.inst.add ≤ 1073741824
  s : ∀ j, -1073741824 ≤ shN x.inst j ∧ shN x.inst j ≤ 1073741824
theorem instOk_sh {i : InstV} (h : instOk i = true) (j : Nat) : -1073741824 ≤ shN i j ∧ shN i j ≤ 1073741824 := by
  simp [instOk, shOk, inR] at h
  unfold shN
  split <;> omega
theorem pPiece_ok {r : RollV} {who cur : Int} {p : PosV} (hr : rollOk r = true) (hq : pQok p = true) (hs : pSel r who cur p = true) : PieceOk (pPiece r p) := by
  have h1 : hasX InstV.no p.inst r.insts = true := by simp [pSel] at hs; exact hs.1.1
  have h2 := (findX_mem (z := zInst) h1).1
  have h3 : instOk (findX InstV.no p.inst zInst r.insts) = true := by
    simp only [rollOk, Bool.and_eq_true] at hr
    exact chk_all hr.1.2 _ h2
  have h4 := instOk_sh h3
  simp [instOk, shOk, inR] at h3
  simp [pQok] at hq
  exact ⟨by simp only [pPiece]; omega, by simp only [pPiece]; omega, by simp only [pPiece]; omega, by simp only [pPiece]; omega, by simp only [pPiece]; omega, by simp only [pPiece]; omega, h4⟩
theorem pcs_ok {r : RollV} {who cur : Int} {l : List PosV} (h : pcsE r l = 0) : ∀ x ∈ pcs r who cur l, PieceOk x := by
  intro x hx
  simp only [pcs, List.mem_map, List.mem_filter] at hx
  obtain ⟨p, ⟨h1, h2⟩, rfl⟩ := hx
  have hr : rollOk r = true := by
    cases h3 : rollOk r
    · simp [pcsE, h3] at h
    · rfl
  have hq : l.all pQok = true := by
    cases h3 : l.all pQok
    · simp [pcsE, h3, hr] at h
    · rfl
  exact pPiece_ok hr (List.all_eq_true.1 hq p h1) h2
theorem PieceOk.loss {x : PieceV} (h : PieceOk x) (j : Nat) : (-1125899906842624 ≤ -x.qty * x.inst.mult ∧ -x.qty * x.inst.mult ≤ 1125899906842624) ∧ -1208925819614629174706176 ≤ lossOf x j ∧ lossOf x j ≤ 1208925819614629174706176 := by
  have a1 := abs_mul (a := -x.qty) (b := x.inst.mult) (x := 1099511627776) (y := 1024) (by have := h.q0; have := h.q1; omega) (by have := h.m0; have := h.m1; omega)
  have a2 := abs_mul (a := -x.qty * x.inst.mult) (b := shN x.inst j) (x := 1099511627776 * 1024) (y := 1073741824) a1 (by have := h.s j; omega)
  exact ⟨⟨by omega, by omega⟩, by unfold lossOf; omega, by unfold lossOf; omega⟩
theorem mx2_abs (q : Int) : mx2 q (-q) = (q.natAbs : Int) := by unfold mx2; split <;> omega
theorem mx2_self {q : Int} (h0 : -9223372036854775808 < q) (h1 : q < 9223372036854775808) : (if IntKind.wrap .i64 (0 - q) > q then IntKind.wrap .i64 (0 - q) else q) = mx2 q (-q) := by
  rw [wrapI (by omega) (by omega), show (0 - q : Int) = -q from by omega]; rfl
theorem PieceOk.add {x : PieceV} (h : PieceOk x) : (0 ≤ mx2 x.qty (-x.qty) ∧ mx2 x.qty (-x.qty) ≤ 1099511627776) ∧ 0 ≤ addOf x ∧ addOf x ≤ 1180591620717411303424 := by
  have q0 := h.q0; have q1 := h.q1; have a0 := h.a0; have a1 := h.a1
  have b : 0 ≤ mx2 x.qty (-x.qty) ∧ mx2 x.qty (-x.qty) ≤ 1099511627776 := by rw [mx2_abs]; omega
  refine ⟨b, Int.mul_nonneg b.1 a0, ?_⟩
  have := abs_mul (a := mx2 x.qty (-x.qty)) (b := x.inst.add) (x := 1099511627776) (y := 1073741824) (by omega) (by omega)
  unfold addOf
  omega
theorem sum_bd {α : Type} {f : α → Int} {b : Int} : ∀ {l : List α}, (∀ x ∈ l, -b ≤ f x ∧ f x ≤ b) → -(l.length * b) ≤ (l.map f).sum ∧ (l.map f).sum ≤ l.length * b
  | [], _ => by simp
  | x :: l, h => by
    have h1 := h x (by simp)
    have h2 := sum_bd (l := l) fun y hy => h y (by simp [hy])
    simp only [List.map_cons, List.sum_cons, List.length_cons]
    have e : ((l.length + 1 : Nat) : Int) * b = l.length * b + b := by rw [Int.natCast_add, Int.add_mul]; simp
    rw [e]
    generalize (l.length : Int) * b = c at *
    omega
theorem len_mul {n : Nat} {b : Int} (h : n ≤ 1000000) (hb : 0 ≤ b) : (n : Int) * b ≤ 1000000 * b := Int.mul_le_mul_of_nonneg_right (by omega) hb
theorem pcs_len (r : RollV) (who cur : Int) (l : List PosV) : (pcs r who cur l).length ≤ l.length := by
  simp only [pcs, List.length_map]
  exact List.length_filter_le _ _
theorem lossT_fits {ps : List PieceV} (h : ∀ x ∈ ps, PieceOk x) (hl : ps.length ≤ 1000000) (j : Nat) : fitsW (lossT ps j) = true := by
  have h1 := sum_bd (f := (lossOf · j)) (b := 1208925819614629174706176) (l := ps) fun x hx => by have := ((h x hx).loss j).2; omega
  have h2 := len_mul (b := 1208925819614629174706176) hl (by decide)
  unfold fitsW lossT
  rw [Bool.and_eq_true, decide_eq_true_eq, decide_eq_true_eq]
  generalize (ps.map (lossOf · j)).sum = s at *
  generalize (ps.length : Int) * 1208925819614629174706176 = c at *
  omega
theorem com64_eq {n : Int} (h0 : 0 ≤ n) (h1 : n < 18446744073709551616) : com64 n = 18446744073709551615 - n := by
  obtain ⟨k, rfl⟩ := Int.eq_ofNat_of_zero_le h0
  show IntKind.wrap .u64 (((BitVec.ofInt 64 ((18446744073709551615 : Nat) : Int) ^^^ BitVec.ofInt 64 (k : Int)).toNat : Nat) : Int) = _
  rw [BitVec.ofInt_natCast, BitVec.ofInt_natCast]
  have e : (BitVec.ofNat 64 18446744073709551615 ^^^ BitVec.ofNat 64 k) = ~~~ (BitVec.ofNat 64 k) := by
    rw [show BitVec.ofNat 64 18446744073709551615 = BitVec.allOnes 64 from by decide, BitVec.allOnes_xor]
  rw [e, BitVec.toNat_not, BitVec.toNat_ofNat, Nat.mod_eq_of_lt (by omega : k < 2 ^ 64), IntKind.wrap_u64]
  omega
theorem com64_nn (n : Int) : 0 ≤ com64 n := by unfold com64; rw [IntKind.wrap_u64]; omega
theorem com64_lt (n : Int) : com64 n < 18446744073709551616 := by unfold com64; rw [IntKind.wrap_u64]; omega
def negC (t : Int) : Int := (com64 (t % 18446744073709551616) + 1 + 0) / 18446744073709551616
theorem negC_nn (t : Int) : 0 ≤ negC t := by unfold negC; have := com64_nn (t % 18446744073709551616); omega
theorem negC_le (t : Int) : negC t ≤ 1 := by unfold negC; have := com64_lt (t % 18446744073709551616); omega
theorem neg_wide {t : Int} (h0 : 0 ≤ t) (h1 : t ≤ 85070591730234615865843651857942052864) :
    AV.ag [.d (iv (IntKind.wrap .i64 ((com64 (IntKind.wrap .u64 (t / 18446744073709551616)) + 0 + negC t) % 18446744073709551616))), .d (.v (.int .u64 ((com64 (t % 18446744073709551616) + 1 + 0) % 18446744073709551616)))] = wideA (-t) := by
  unfold negC wideA
  rw [wrapU (n := t / 18446744073709551616) (by omega) (by omega), com64_eq (n := t / 18446744073709551616) (by omega) (by omega), com64_eq (n := t % 18446744073709551616) (by omega) (by omega), wrapI_]
  rw [show (-t) % 18446744073709551616 = (18446744073709551615 - t % 18446744073709551616 + 1 + 0) % 18446744073709551616 from by omega]
  congr 4
  all_goals (congr 3; omega)
theorem mag_neg {n : Int} (h0 : -9223372036854775808 ≤ n) (h1 : n < 0) : IntKind.wrap .u64 (0 - IntKind.wrap .u64 n) = (n.natAbs : Int) := by rw [wrapU_, wrapU_]; omega
theorem mag_pos {n : Int} (h0 : 0 ≤ n) (h1 : n < 9223372036854775808) : IntKind.wrap .u64 n = (n.natAbs : Int) := by rw [wrapU_]; omega
theorem mag_mul {a b : Int} (h0 : -9223372036854775808 ≤ a) (h1 : a < 9223372036854775808) (k0 : -9223372036854775808 ≤ b) (k1 : b < 9223372036854775808) :
    0 ≤ (a.natAbs : Int) * b.natAbs ∧ (a.natAbs : Int) * b.natAbs ≤ 85070591730234615865843651857942052864 := by
  have : a.natAbs * b.natAbs ≤ 9223372036854775808 * 9223372036854775808 := Nat.mul_le_mul (by omega) (by omega)
  have e : (a.natAbs : Int) * b.natAbs = ((a.natAbs * b.natAbs : Nat) : Int) := by simp
  rw [e]; omega
theorem mag_opp {a b : Int} (h : (!(decide (a < 0) == decide (b < 0))) = true) : -((a.natAbs : Int) * b.natAbs) = a * b := by
  by_cases ha : a < 0 <;> by_cases hb : b < 0 <;> simp [ha, hb] at h
  · rw [show (a.natAbs : Int) = -a from by omega, show (b.natAbs : Int) = b from by omega, Int.neg_mul, Int.neg_neg]
  · rw [show (a.natAbs : Int) = a from by omega, show (b.natAbs : Int) = -b from by omega, Int.mul_neg, Int.neg_neg]
theorem mag_same {a b : Int} (h : (!(decide (a < 0) == decide (b < 0))) = false) : (a.natAbs : Int) * b.natAbs = a * b := by
  by_cases ha : a < 0 <;> by_cases hb : b < 0 <;> simp [ha, hb] at h
  · rw [show (a.natAbs : Int) = -a from by omega, show (b.natAbs : Int) = -b from by omega, Int.neg_mul, Int.mul_neg, Int.neg_neg]
  · rw [show (a.natAbs : Int) = a from by omega, show (b.natAbs : Int) = b from by omega]
theorem pQok_in (p : PosV) : inR p.qty (-1099511627776) 1099511627776 = pQok p := by
  simp only [inR, pQok]
  rw [Bool.eq_iff_iff]
  simp
theorem lossE0 {r : RollV} {who cur : Int} {l : List PosV} (h : lossE r who cur l = 0) : pcsE r l = 0 ∧ lossOk (pcs r who cur l) = true := by
  unfold lossE at h
  cases h1 : pcsE r l == 0
  · rw [h1] at h; simp at h h1; exact absurd h h1
  · rw [h1] at h
    refine ⟨by simpa using h1, ?_⟩
    cases h2 : lossOk (pcs r who cur l)
    · rw [h2] at h; simp at h
    · rfl
theorem lossM_bd {ps : List PieceV} (h : lossOk ps = true) : 0 ≤ lossM ps ∧ lossM ps ≤ 4611686018427387904 := by
  simp [lossOk, rightN] at h
  unfold lossM mx2
  constructor <;> (repeat' split) <;> omega
theorem margT_fits {ps : List PieceV} (h : ∀ x ∈ ps, PieceOk x) (hl : ps.length ≤ 1000000) (hM : 0 ≤ lossM ps ∧ lossM ps ≤ 4611686018427387904) : fitsW (margL ps ps).sum = true := by
  unfold margL
  have h1 := sum_bd (f := addOf) (b := 1180591620717411303424) (l := ps) fun x hx => by have := (h x hx).add.2; omega
  have h2 := len_mul (b := 1180591620717411303424) hl (by decide)
  unfold fitsW
  rw [Bool.and_eq_true, decide_eq_true_eq, decide_eq_true_eq, List.sum_cons]
  generalize (ps.map addOf).sum = s at *
  generalize (ps.length : Int) * 1180591620717411303424 = c at *
  omega
theorem margE_eq {r : RollV} {who cur : Int} {l : List PosV} (h : lossE r who cur l = 0) : margE r who cur l = bif rightN (margT (pcs r who cur l)) then 0 else 1 := by simp [margE, h]
theorem margV_eq {r : RollV} {who cur : Int} {l : List PosV} (h : lossE r who cur l = 0) : margV r who cur l = bif rightN (margT (pcs r who cur l)) then margT (pcs r who cur l) else 0 := by
  rw [margV, margE_eq h]; cases rightN (margT (pcs r who cur l)) <;> simp
theorem bif_ne {b : Bool} (h : ((bif b then (0 : Int) else 1) != 0) = true) : b = false := by cases b <;> simp at h <;> rfl
theorem bif_eq {b : Bool} (h : ((bif b then (0 : Int) else 1) != 0) = false) : b = true := by cases b <;> simp at h <;> rfl
end Go.Proofs.Ytdgkiemehmmobaa
