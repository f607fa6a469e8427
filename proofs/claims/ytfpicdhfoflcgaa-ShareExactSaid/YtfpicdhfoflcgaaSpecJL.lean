/- A sum in parts: the other reading's wide numbers. In plain Lean. No condition. -/
import Derived.Test.YtfpicdhfoflcgaaSpecJK
import Derived.Test.YtfpicdhfoflcgaaSpecG
namespace Go.Proofs.Ytfpicdhfoflcgaa
open Go.RowKit
set_option linter.unusedVariables false
set_option linter.unusedSimpArgs false
def wN (B : Nat) : List D := [iv ((B / 18446744073709551616 : Nat) : Int), .v (.int .u64 ((B % 18446744073709551616 : Nat) : Int))]
def wNA (B : Nat) : AV := .ag [.d (iv ((B / 18446744073709551616 : Nat) : Int)), .d (.v (.int .u64 ((B % 18446744073709551616 : Nat) : Int)))]
theorem nat_div (B : Nat) : (B : Int) / 18446744073709551616 = ((B / 18446744073709551616 : Nat) : Int) := by omega
theorem nat_mod (B : Nat) : (B : Int) % 18446744073709551616 = ((B % 18446744073709551616 : Nat) : Int) := by omega
theorem wN_eq (B : Nat) : wideC (B : Int) = wN B := by rw [wideC, nat_div, nat_mod, wN]
theorem wNA_eq (B : Nat) : wideA (B : Int) = wNA B := by rw [wideA, nat_div, nat_mod, wNA]
theorem shlI {h : Nat} (hh : h < 4611686018427387904) : IntKind.wrap .i64 ((h : Int) * 2 ^ (min (Int.toNat 1) (IntKind.bits .i64))) = ((h * 2 : Nat) : Int) := by
  rw [show (2 : Int) ^ (min (Int.toNat 1) (IntKind.bits .i64)) = 2 from by decide, wrapI (by omega) (by omega)]; omega
theorem orI64 {h b : Nat} (hh : h < 4611686018427387904) (hb : b < 2) : IntKind.wrap .i64 ((BitVec.ofInt (IntKind.bits .i64) ((h * 2 : Nat) : Int) ||| BitVec.ofInt (IntKind.bits .i64) (b : Int)).toNat : Int) = ((h * 2 + b : Nat) : Int) := by
  have e := bv_or (x := h * 2) (b := b) (by omega) hb (by omega)
  have h2 : ((BitVec.ofInt (IntKind.bits .i64) ((h * 2 : Nat) : Int) ||| BitVec.ofInt (IntKind.bits .i64) (b : Int)).toNat : Int) = ((h * 2 + b : Nat) : Int) := by
    have e2 : IntKind.wrap .u64 ((BitVec.ofInt (IntKind.bits .i64) ((h * 2 : Nat) : Int) ||| BitVec.ofInt (IntKind.bits .i64) (b : Int)).toNat : Int) = ((h * 2 + b : Nat) : Int) := e
    have h3 : (BitVec.ofInt (IntKind.bits .i64) ((h * 2 : Nat) : Int) ||| BitVec.ofInt (IntKind.bits .i64) (b : Int)).toNat < 2 ^ (IntKind.bits .i64) := BitVec.isLt _
    have h4 : (2 : Nat) ^ (IntKind.bits .i64) = 18446744073709551616 := by decide
    rw [h4] at h3
    rw [wrapU (by omega) (by omega)] at e2
    exact e2
  rw [h2, wrapI (by omega) (by omega)]
theorem sh_hi (B : Nat) : B / 18446744073709551616 * 2 + B % 18446744073709551616 / 9223372036854775808 = B * 2 / 18446744073709551616 := by omega
theorem sh_lo (B : Nat) : B % 18446744073709551616 * 2 % 18446744073709551616 = B * 2 % 18446744073709551616 := by omega
theorem sh_bit (B : Nat) : B % 18446744073709551616 / 9223372036854775808 < 2 := by omega
theorem sh_wrap (B : Nat) : IntKind.wrap .i64 ((B % 18446744073709551616 / 9223372036854775808 : Nat) : Int) = ((B % 18446744073709551616 / 9223372036854775808 : Nat) : Int) := by
  have := sh_bit B
  exact wrapI (by omega) (by omega)
theorem sh_cond (B : Nat) : decide (((B / 18446744073709551616 : Nat) : Int) ≥ 4611686018427387904) = decide (85070591730234615865843651857942052864 ≤ B) := by
  rw [Bool.eq_iff_iff, decide_eq_true_eq, decide_eq_true_eq]; omega
theorem pow_int {d : Nat} (hd : d ≤ 62) : IntKind.wrap .i64 ((1 : Int) * 2 ^ (min (Int.toNat (d : Int)) (IntKind.bits .i64))) = ((2 ^ d : Nat) : Int) := by
  have h1 : min (Int.toNat (d : Int)) (IntKind.bits .i64) = d := by
    show min (Int.toNat (d : Int)) 64 = d
    omega
  have h2 : (2 : Nat) ^ d ≤ 2 ^ 62 := Nat.pow_le_pow_right (by decide) hd
  have h3 : (2 : Nat) ^ 62 = 4611686018427387904 := by decide
  have h4 : ((2 : Int) ^ d) = ((2 ^ d : Nat) : Int) := by simp
  rw [h3] at h2
  rw [h1, Int.one_mul, h4]
  clear h4 h3 h1
  generalize (2 : Nat) ^ d = P at *
  exact wrapI (by omega) (by omega)
/- The other reading's sum and division. -/
theorem add_lo' {r x : Nat} (h : x ≤ r) : (((r % 18446744073709551616 : Nat) : Int) + (-(x : Int)) % 18446744073709551616 + 0) % 18446744073709551616 = (((r - x) % 18446744073709551616 : Nat) : Int) := by omega
theorem add_c0 (r x : Nat) : 0 ≤ (((r % 18446744073709551616 : Nat) : Int) + (-(x : Int)) % 18446744073709551616 + 0) / 18446744073709551616 := by omega
theorem add_c1 (r x : Nat) : (((r % 18446744073709551616 : Nat) : Int) + (-(x : Int)) % 18446744073709551616 + 0) / 18446744073709551616 ≤ 1 := by omega
theorem add_hi' {r x : Nat} (h : x ≤ r) (hr : r < 85070591730234615865843651857942052864) : IntKind.wrap .i64 ((IntKind.wrap .u64 ((r / 18446744073709551616 : Nat) : Int) + IntKind.wrap .u64 (-(x : Int) / 18446744073709551616) + (((r % 18446744073709551616 : Nat) : Int) + (-(x : Int)) % 18446744073709551616 + 0) / 18446744073709551616) % 18446744073709551616) = (((r - x) / 18446744073709551616 : Nat) : Int) := by
  rw [wrapI_, wrapU_, wrapU_]; omega
theorem add_ok {r x : Nat} (h : x ≤ r) : ((!(decide (((r / 18446744073709551616 : Nat) : Int) < 0) == decide (-(x : Int) / 18446744073709551616 < 0))) || (decide ((((r - x) / 18446744073709551616 : Nat) : Int) < 0) == decide (((r / 18446744073709551616 : Nat) : Int) < 0))) = true := by
  rw [show decide (((r / 18446744073709551616 : Nat) : Int) < 0) = false from decide_eq_false (by omega), show decide ((((r - x) / 18446744073709551616 : Nat) : Int) < 0) = false from decide_eq_false (by omega)]
  simp
theorem wrapU_nn (n : Int) : 0 ≤ IntKind.wrap .u64 n := by rw [wrapU_]; omega
theorem pow_intP {d P : Nat} (hd : d ≤ 62) (hP : P = 2 ^ d) : IntKind.wrap .i64 ((1 : Int) * 2 ^ (min (Int.toNat (d : Int)) (IntKind.bits .i64))) = (P : Int) := by rw [pow_int hd, hP]
theorem pow_pos_ {d P : Nat} (hP : P = 2 ^ d) : 0 < P := by rw [hP]; exact Nat.pow_pos (by decide)
theorem div_take {a b q r d P : Nat} (hP : P = 2 ^ d) (hb : 0 < b) (hbl : b < 170141183460469231731687303715884105728) (h : a = q * b + r) (hr : r < b * 2 ^ (d + 1)) (ha : a < 85070591730234615865843651857942052864)
    (hc : ((shR b d).2 && !decide (r < (shR b d).1)) = true) : shR b d = (b * P, true) ∧ b * P ≤ r ∧ a = (q + P) * b + (r - b * P) ∧ r - b * P < b * 2 ^ d ∧ q + P ≤ a / b ∧ r < 85070591730234615865843651857942052864 := by
  have hra : r < 85070591730234615865843651857942052864 := by omega
  have hs := shR_ok (k := d) hbl
  simp only [Bool.and_eq_true, Bool.not_eq_true', decide_eq_false_iff_not] at hc
  have hfit : b * 2 ^ d < 170141183460469231731687303715884105728 := by
    rcases Nat.lt_or_ge (b * 2 ^ d) 170141183460469231731687303715884105728 with h | h
    · exact h
    · rw [hs.2 h] at hc; exact absurd hc.1 (by decide)
  have e := hs.1 hfit
  rw [e] at hc
  have hle : b * 2 ^ d ≤ r := by have := hc.2; omega
  obtain ⟨s1, s2, s3⟩ := div_step hb h hr hle
  subst hP
  exact ⟨e, hle, s1, s2, s3, hra⟩
theorem div_skip {a b q r d : Nat} (hbl : b < 170141183460469231731687303715884105728) (h : a = q * b + r) (ha : a < 85070591730234615865843651857942052864)
    (hc : ((shR b d).2 && !decide (r < (shR b d).1)) = false) : r < b * 2 ^ d := by
  have hs := shR_ok (k := d) hbl
  rcases Nat.lt_or_ge (b * 2 ^ d) 170141183460469231731687303715884105728 with hf | hf
  · rw [hs.1 hf] at hc
    simp only [Bool.true_and, Bool.not_eq_false', decide_eq_true_eq] at hc
    exact hc
  · omega
theorem div_start {a b : Nat} (hb : 0 < b) (hq : a / b ≤ 4611686018427387904) : a < b * 2 ^ 63 := by
  have h1 := Nat.lt_mul_of_div_lt (show a / b < 4611686018427387905 by omega) hb
  have h2 : 4611686018427387905 * b ≤ 2 ^ 63 * b := Nat.mul_le_mul_right _ (by decide)
  rw [Nat.mul_comm b]; omega
theorem sBad_eq (t : Int) (l : List Int) : (decide (t < 0) || !rightN t || !(l.all rightN)) = sBad t l := by
  simp only [sBad, List.all_cons, List.all_nil, Bool.and_true]
/- One more of what is left, as the other reading gives it. -/
theorem sBad_rt {t : Int} {l : List Int} (h : sBad t l = false) : ∀ x ∈ l, -4611686018427387904 ≤ x ∧ x ≤ 4611686018427387904 := fun x hx => by
  simp only [sBad, Bool.or_eq_false_iff, Bool.not_eq_false', List.all_eq_true] at h
  have hr := h.2 x hx
  simp [rightN] at hr
  omega
def oneB (b : Bool) : List D := [.v (.bool b)]
def zerosN (n : Nat) : List Nat := List.replicate n 0
theorem pick_step {T : Nat} {l : List Int} {j : Nat} (hT : T ≤ 4611686018427387904) (hj : j < l.length) : ∃ k : Nat, k < l.length ∧ bestV (givV T (sN l) l j) (restsN T (sN l) l) l.length = (k : Int) ∧ (givV T (sN l) l j).set k true = givV T (sN l) l (j + 1) ∧
    bumpV (qsV T (sN l) l) (atK T (sN l) l (j + 1)) = bump (bumpV (qsV T (sN l) l) (atK T (sN l) l j)) k ∧ 0 ≤ (bumpV (qsV T (sN l) l) (atK T (sN l) l j)).getD k 0 ∧ (bumpV (qsV T (sN l) l) (atK T (sN l) l j)).getD k 0 < 9223372036854775807 := by
  have hjo : j < (ordR T (sN l) l).length := by rw [ordR_len]; exact hj
  have e : ordR T (sN l) l = (ordR T (sN l) l).take j ++ (ordR T (sN l) l)[j] :: (ordR T (sN l) l).drop (j + 1) := by
    rw [List.getElem_cons_drop]; exact (List.take_append_drop j _).symm
  generalize hy : (ordR T (sN l) l)[j] = y at e
  generalize hB : (ordR T (sN l) l).drop (j + 1) = B at e
  generalize hA : (ordR T (sN l) l).take j = A at e
  have hAl : A.length = j := by rw [← hA, List.length_take]; omega
  have hat : atK T (sN l) l j = A.map RestV.at_ := by rw [atK, hA]
  have hat1 : atK T (sN l) l (j + 1) = A.map RestV.at_ ++ [y.at_] := by
    rw [atK, e, ← hAl, show A ++ y :: B = (A ++ [y]) ++ B by simp, show A.length + 1 = (A ++ [y]).length by simp, List.take_left]; simp
  obtain ⟨o1, o2, o3⟩ := ord_mid hT e
  have h1 := best_at e
  have h2 := giv_set e
  rw [hAl] at h1 h2
  refine ⟨y.at_, o1, h1, h2, ?_, ?_, ?_⟩
  · rw [hat1, bumpV_snoc, hat]
  · rw [hat]; exact o2
  · rw [hat]; omega
theorem best_lt {g : List Bool} {r : List Nat} {n m : Nat} (h : n < m) : (bestV g r n).toNat < m := by
  rcases best_inv g r n with ⟨h1, h2, h3⟩ | ⟨h1, h2, h3, h4⟩
  · omega
  · omega
theorem best_rng {g : List Bool} {r : List Nat} {n m : Nat} (h : n < m) (hn : decide (bestV g r n < 0) = false) : 0 ≤ bestV g r n ∧ bestV g r n < (m : Int) := by
  have hn := of_decide_eq_false hn
  rcases best_inv g r n with ⟨h1, h2, h3⟩ | ⟨h1, h2, h3, h4⟩
  · omega
  · omega
theorem set_q {T S : Nat} {pre post : List Int} {x : Int} : (((qsV T S pre ++ zerosI (post.length + 1)).map fun n => [iv n]).map fun x => x.map AV.d).set pre.length [.d (iv ((T * x.toNat / S : Nat) : Int))] = (((qsV T S (pre ++ [x]) ++ zerosI post.length).map fun n => [iv n]).map fun x => x.map AV.d) := by
  rw [qsV_snoc, show zerosI (post.length + 1) = 0 :: zerosI post.length from rfl, ← qsV_len T S pre, ats_set]; simp
theorem get_q {T S : Nat} {pre post : List Int} {x : Int} : (((qsV T S (pre ++ [x]) ++ zerosI post.length).map fun n => [iv n]).map fun x => x.map AV.d).getD pre.length [] = [.d (iv ((T * x.toNat / S : Nat) : Int))] := by
  rw [qsV_snoc, List.append_assoc, List.singleton_append, ← qsV_len T S pre, ats_get]
theorem set_r {T S : Nat} {pre post : List Int} {x : Int} : (((restsN T S pre ++ zerosN (post.length + 1)).map wN).map fun x => x.map AV.d).set pre.length ((wN (T * x.toNat % S)).map AV.d) = (((restsN T S (pre ++ [x]) ++ zerosN post.length).map wN).map fun x => x.map AV.d) := by
  rw [restsN_snoc, show zerosN (post.length + 1) = 0 :: zerosN post.length from rfl]
  conv => lhs; rw [← restsN_len T S pre]
  simp [List.set_append]
theorem get_r {L : List Nat} {i : Nat} (h : i < L.length) : ((L.map wN).map fun x => x.map AV.d).getD i [] = (wN (L.getD i 0)).map AV.d := by
  simp [List.getD_eq_getElem?_getD, List.getElem?_eq_getElem h]
theorem get_b {L : List Bool} {i : Nat} (h : i < L.length) : ((L.map oneB).map fun x => x.map AV.d).getD i [] = [.d (.v (.bool (L.getD i false)))] := by
  simp [oneB, List.getD_eq_getElem?_getD, List.getElem?_eq_getElem h]
theorem set_b (L : List Bool) (i : Nat) (b : Bool) : ((L.map oneB).map fun x => x.map AV.d).set i [.d (.v (.bool b))] = (((L.set i b).map oneB).map fun x => x.map AV.d) := by
  rw [List.map_set, List.map_set]; rfl
theorem best_step (g : List Bool) (r : List Nat) (n : Nat) : (bif !(g.getD n false) && (decide (bestV g r n < 0) || decide (r.getD (bestV g r n).toNat 0 < r.getD n 0)) then (n : Int) else bestV g r n) = bestV g r (n + 1) := rfl
theorem zeroW (n : Nat) : ((zerosN n).map wN).map (fun x => x.map AV.d) = List.replicate n [.d (iv 0), .d (.v (.int .u64 0))] := by
  simp [zerosN, List.map_replicate, wN]
theorem get_q0 {T S : Nat} {pre post : List Int} : (((qsV T S pre ++ zerosI (post.length + 1)).map fun n => [iv n]).map fun x => x.map AV.d).getD pre.length [] = [.d (iv 0)] := by
  rw [show zerosI (post.length + 1) = 0 :: zerosI post.length from rfl, ← qsV_len T S pre, ats_get]
theorem get_r0 {T S : Nat} {pre post : List Int} : (((restsN T S pre ++ zerosN (post.length + 1)).map wN).map fun x => x.map AV.d).getD pre.length [] = [.d (iv 0), .d (.v (.int .u64 0))] := by
  rw [get_r (by simp [restsN_len, zerosN])]
  rw [show zerosN (post.length + 1) = 0 :: zerosN post.length from rfl, ← restsN_len T S pre]
  simp [wN]
theorem splitV_len (t : Int) (l : List Int) : (splitV t l).length ≤ l.length := by
  by_cases h : sRE t l = 0
  · exact splitV_le h
  · rw [show splitV t l = [] by simp only [splitV, show (sRE t l == 0) = false by simpa using h, cond_false]]; simp
theorem gV_len (t : Int) (l : List Int) : (gV t l).length ≤ l.length := by
  simp only [gV]
  cases sRE t l == 0 with
  | true => simp only [cond_true, gPart_len]; exact Nat.le_refl _
  | false => simp
theorem times_bnd {T W : Nat} (hT : T ≤ 4611686018427387904) (hW : W ≤ 4611686018427387904) : T * W < 85070591730234615865843651857942052864 :=
  Nat.lt_of_le_of_lt (Nat.mul_le_mul hT hW) (by decide)
end Go.Proofs.Ytfpicdhfoflcgaa
