/- Types, and whether structs and arrays of numbers are equal. No condition. -/
import Derived.Test.YteanccnggaakeaaGreatCmD
import Derived.Laws.StructEq
namespace Go.Proofs.YteanccnggaakeaaGreat
open Go.RowKit
set_option linter.unusedVariables false
set_option linter.unusedSimpArgs false

def aggT (P : Program) (t : TypeId) : Bool := match P.underlying t with | some (.struct _) => true | some (.array _ _) => true | _ => false
def szT (P : Program) (t : TypeId) : Nat := ((P.info? t).map (·.size)).getD 0
def byT (P : Program) (t : TypeId) : Nat := ((P.info? t).map (·.bytes)).getD 0
def tyOk (P : Program) (t : TypeId) : Bool := (P.underlying t).isSome && (P.info? t).isSome
theorem tyOk_spec {P : Program} {t : TypeId} (h : tyOk P t = true) : (∃ d, P.underlying t = some d) ∧ ∃ i, P.info? t = some i ∧ i.size = szT P t := by
  simp only [tyOk, Bool.and_eq_true, Option.isSome_iff_exists] at h
  obtain ⟨⟨d, h1⟩, i, h2⟩ := h
  exact ⟨⟨d, h1⟩, i, h2, by simp [szT, h2]⟩
theorem isAgg_run {P : Program} {t : TypeId} (h : tyOk P t = true) (w : World) : (isAgg t).run P w = .ok (aggT P t) w := by
  obtain ⟨⟨d, h1⟩, _⟩ := tyOk_spec h
  cases d <;> simp [isAgg, run_underlying h1, aggT, h1]
/- A part of cells. -/
def partV (P : Program) (t : TypeId) (xs : List Value) (o : Nat) : Value := if aggT P t then .agg ((xs.drop o).take (szT P t)).toArray else (xs[o]?).getD undef
theorem part_run {P : Program} {t : TypeId} (h : tyOk P t = true) {xs : List Value} {o : Nat} (ho : o + szT P t ≤ xs.length) (hs : 0 < szT P t) (w : World) : (part t xs.toArray o).run P w = .ok (partV P t xs o) w := by
  obtain ⟨_, i, hi, hsz⟩ := tyOk_spec h
  unfold partV
  cases ha : aggT P t with
  | true => simp [part, isAgg_run h, ha, sizeOf, typeInfo, hi, hsz, List.extract_eq_take_drop, List.extract_toArray]
  | false =>
    have : o < xs.length := by omega
    simp [part, isAgg_run h, ha, List.getElem?_eq_getElem this]

/- The kinds of cells of a type: true: a number; false: a bool. -/
def shpF (P : Program) (g : TypeId → Option (List Bool)) : List Field → Nat → Option (List Bool)
  | [], _ => some []
  | f :: fs, o => if (f.name != "_" && f.offset == o && tyOk P f.type) = true then
      match g f.type with
      | some l => if (l.length == szT P f.type && Nat.blt 0 l.length) = true then (shpF P g fs (o + l.length)).map (l ++ ·) else none
      | none => none
    else none
def shp (P : Program) : Nat → TypeId → Option (List Bool)
  | 0, _ => none
  | d + 1, t => match P.underlying t with
    | some .bool => some [false]
    | some (.int _) => some [true]
    | some (.struct fs) => if P.stoodInHeld t = true then none else shpF P (shp P d) fs.toList 0
    | some (.array n e) => match shp P d e with
      | some l => if (l.length == szT P e && Nat.blt 0 l.length && tyOk P e) = true then some (List.replicate n l).flatten else none
      | none => none
    | _ => none
def cmp : List Bool → List Value → List Value → Option Bool
  | [], [], [] => some true
  | true :: l, .int k a :: xs, .int k' b :: ys => if k = k' then (cmp l xs ys).map ((a == b) && ·) else none
  | false :: l, .bool a :: xs, .bool b :: ys => (cmp l xs ys).map ((a == b) && ·)
  | _, _, _ => none
theorem cmp_len : ∀ {l : List Bool} {xs ys : List Value} {b : Bool}, cmp l xs ys = some b → xs.length = l.length ∧ ys.length = l.length
  | [], [], [], b, h => ⟨rfl, rfl⟩
  | true :: l, .int k a :: xs, .int k' c :: ys, b, h => by
    simp only [cmp] at h
    split at h
    · obtain ⟨b', h1, _⟩ := Option.map_eq_some_iff.1 h
      obtain ⟨e1, e2⟩ := cmp_len h1
      exact ⟨by simp [e1], by simp [e2]⟩
    · cases h
  | false :: l, .bool a :: xs, .bool c :: ys, b, h => by
    simp only [cmp] at h
    obtain ⟨b', h1, _⟩ := Option.map_eq_some_iff.1 h
    obtain ⟨e1, e2⟩ := cmp_len h1
    exact ⟨by simp [e1], by simp [e2]⟩
theorem cmp_app : ∀ {l k : List Bool} {xs ys : List Value} {b : Bool}, cmp (l ++ k) xs ys = some b →
    ∃ b1 b2, cmp l (xs.take l.length) (ys.take l.length) = some b1 ∧ cmp k (xs.drop l.length) (ys.drop l.length) = some b2 ∧ b = (b1 && b2)
  | [], k, xs, ys, b, h => ⟨true, b, by simp [cmp], by simpa using h, by simp⟩
  | true :: l, k, .int q a :: xs, .int q' c :: ys, b, h => by
    simp only [List.cons_append, cmp] at h
    split at h
    · rename_i hq
      obtain ⟨b', h1, h2⟩ := Option.map_eq_some_iff.1 h
      obtain ⟨b1, b2, k1, k2, k3⟩ := cmp_app h1
      exact ⟨(a == c) && b1, b2, by simp [cmp, hq, k1], by simpa using k2, by rw [← h2, k3, Bool.and_assoc]⟩
    · cases h
  | false :: l, k, .bool a :: xs, .bool c :: ys, b, h => by
    simp only [List.cons_append, cmp] at h
    obtain ⟨b', h1, h2⟩ := Option.map_eq_some_iff.1 h
    obtain ⟨b1, b2, k1, k2, k3⟩ := cmp_app h1
    exact ⟨(a == c) && b1, b2, by simp [cmp, k1], by simpa using k2, by rw [← h2, k3, Bool.and_assoc]⟩

theorem forIn_cut {P : Program} {w : World} (g : Nat → Option Bool × Unit → Sem (ForInStep (Option Bool × Unit))) : ∀ (m k : Nat) (c : Nat → Bool), (∀ i, k ≤ i → i < k + m → (g i (none, ())).run P w = .ok (bif c i then .yield (none, ()) else .done (some false, ())) w) →
    (forIn (List.range' k m) (none, ()) g : Sem (Option Bool × Unit)).run P w = .ok (bif (List.range' k m).all c then (none, ()) else (some false, ())) w
  | 0, k, c, _ => by simp [List.range']
  | m + 1, k, c, h => by
    rw [List.range'_succ, List.forIn_cons, Sem.run_bind, h k (Nat.le_refl _) (by omega), List.all_cons]
    cases hc : c k
    · simp
    · simpa using forIn_cut g m (k + 1) c fun i h1 h2 => h i (by omega) (by omega)

section
variable {P : Program}
theorem cmp_rep {l : List Bool} : ∀ {n : Nat} {xs ys : List Value} {b : Bool}, cmp (List.replicate n l).flatten xs ys = some b →
    ∃ c : Nat → Bool, (∀ i, i < n → cmp l ((xs.drop (i * l.length)).take l.length) ((ys.drop (i * l.length)).take l.length) = some (c i)) ∧ b = (List.range' 0 n).all c
  | 0, xs, ys, b, h => by
    refine ⟨fun _ => true, fun i hi => by omega, ?_⟩
    cases xs <;> cases ys <;> simp [cmp] at h ⊢
    exact h
  | n + 1, xs, ys, b, h => by
    rw [List.replicate_succ, List.flatten_cons] at h
    obtain ⟨b1, b2, k1, k2, rfl⟩ := cmp_app h
    obtain ⟨c, k3, k4⟩ := cmp_rep k2
    refine ⟨fun i => match i with | 0 => b1 | i + 1 => c i, fun i hi => ?_, ?_⟩
    · cases i with
      | zero => simpa using k1
      | succ i =>
        have := k3 i (by omega)
        rw [List.drop_drop, List.drop_drop, show l.length + i * l.length = (i + 1) * l.length by rw [Nat.succ_mul]; omega] at this
        exact this
    · rw [k4, List.range'_succ, List.all_cons, Nat.zero_add]
      congr 1
      have e : List.range' (0 + 1) n = (List.range' 0 n).map (1 + ·) := (List.map_add_range' (a := 1) 0 n 1).symm
      rw [e, List.all_map]
      congr 1
      funext i
      simp only [Function.comp_apply, Nat.add_comm 1 i]
/- From shapes to the model's comparison. -/
def EqRuns (P : Program) (d : Nat) (t : TypeId) (l : List Bool) : Prop := ∀ (w : World) (k : Nat), d ≤ k → ∀ (xs ys : List Value) (b : Bool), cmp l xs ys = some b →
  (aggT P t = true → (Op.equalIn k t (.agg xs.toArray) (.agg ys.toArray)).run P w = .ok b w) ∧ (aggT P t = false → (Op.equalIn k t ((xs[0]?).getD undef) ((ys[0]?).getD undef)).run P w = .ok b w)
theorem EqRuns.part {d k : Nat} {t : TypeId} {l : List Bool} (h : EqRuns P d t l) (hk : d ≤ k) (w : World) {xs ys : List Value} {o : Nat} {b : Bool} (ho : cmp l ((xs.drop o).take l.length) ((ys.drop o).take l.length) = some b) (hl : l.length = szT P t) (h0 : 0 < l.length) :
    (Op.equalIn k t (partV P t xs o) (partV P t ys o)).run P w = .ok b w := by
  obtain ⟨h1, h2⟩ := h w k hk _ _ b ho
  unfold partV
  cases ha : aggT P t with
  | true =>
    simp only [if_true]
    rw [← hl]
    exact h1 ha
  | false =>
    simp only [Bool.false_eq_true, if_false]
    have := h2 ha
    simp only [List.getElem?_take, List.getElem?_drop, h0, if_true, Nat.add_zero] at this
    exact this
theorem fields_run {d k : Nat} (hk : d ≤ k) (ih : ∀ t l, shp P d t = some l → EqRuns P d t l) (w : World) {xs ys : List Value} : ∀ {fs : List Field} {o : Nat} {l : List Bool} {b : Bool}, shpF P (shp P d) fs o = some l → cmp l (xs.drop o) (ys.drop o) = some b →
    (Op.eqFields k xs.toArray ys.toArray fs).run P w = .ok b w
  | [], o, l, b, h, hc => by
    simp only [shpF, Option.some.injEq] at h
    subst h
    cases hx : xs.drop o <;> cases hy : ys.drop o <;> rw [hx, hy] at hc <;> simp [cmp] at hc
    subst hc
    simp [Op.eqFields]
  | f :: fs, o, l, b, h, hc => by
    simp only [shpF] at h
    split at h
    · rename_i hf
      simp only [Bool.and_eq_true, bne_iff_ne, ne_eq, beq_iff_eq] at hf
      obtain ⟨⟨f1, f2⟩, f3⟩ := hf
      split at h
      · rename_i l1 hl1
        split at h
        · rename_i hl
          simp only [Bool.and_eq_true, beq_iff_eq] at hl
          obtain ⟨g1, g2⟩ := hl
          have g2 : 0 < l1.length := Nat.le_of_ble_eq_true g2
          obtain ⟨l2, h2, rfl⟩ := Option.map_eq_some_iff.1 h
          obtain ⟨b1, b2, k1, k2, rfl⟩ := cmp_app hc
          obtain ⟨e1, e2⟩ := cmp_len hc
          simp only [List.length_append, List.length_drop] at e1 e2
          rw [List.drop_drop, List.drop_drop] at k2
          have hrest := fields_run hk ih w h2 k2
          have p1 := part_run (P := P) f3 (xs := xs) (o := o) (by omega) (by omega) w
          have p2 := part_run (P := P) f3 (xs := ys) (o := o) (by omega) (by omega) w
          have p3 := (ih _ _ hl1).part hk w k1 g1 g2
          simp only [Op.eqFields, f1, not_false_eq_true, if_true, ne_eq, f2, Sem.run_bind, p1, p2, p3, Result.andThen_ok]
          cases b1 with
          | true => simpa using hrest
          | false => simp
        · cases h
      · cases h
    · cases h
theorem shp_run : ∀ (d : Nat) (t : TypeId) (l : List Bool), shp P d t = some l → EqRuns P d t l
  | 0, t, l, h => by cases h
  | d + 1, t, l, h => by
    intro w k hk xs ys b hc
    obtain ⟨k, rfl⟩ : ∃ k', k = k' + 1 := ⟨k - 1, by omega⟩
    have hk : d ≤ k := by omega
    have ih := fun t l => shp_run d t l
    simp only [shp] at h
    split at h
    · rename_i hu
      injection h with h; subst h
      refine ⟨fun ha => by simp [aggT, hu] at ha, fun _ => ?_⟩
      obtain ⟨e1, e2⟩ := cmp_len hc
      obtain ⟨x, rfl⟩ := List.length_eq_one_iff.1 e1
      obtain ⟨y, rfl⟩ := List.length_eq_one_iff.1 e2
      cases x <;> cases y <;> first | (simp [cmp] at hc; done) | skip
      simp only [cmp, Option.map_some, Bool.and_true, Option.some.injEq] at hc
      subst hc
      exact run_equalIn_bool' w k t _ _ hu
    · rename_i q hu
      injection h with h; subst h
      refine ⟨fun ha => by simp [aggT, hu] at ha, fun _ => ?_⟩
      obtain ⟨e1, e2⟩ := cmp_len hc
      obtain ⟨x, rfl⟩ := List.length_eq_one_iff.1 e1
      obtain ⟨y, rfl⟩ := List.length_eq_one_iff.1 e2
      cases x <;> cases y <;> first | (simp [cmp] at hc; done) | skip
      simp only [cmp] at hc
      split at hc
      · rename_i hj
        subst hj
        simp only [Option.map_some, Bool.and_true, Option.some.injEq] at hc
        subst hc
        exact run_equalIn_int w k t _ q _ _ hu
      · cases hc
    · rename_i fs hu
      split at h
      · cases h
      · rename_i hst
        refine ⟨fun _ => ?_, fun ha => by simp [aggT, hu] at ha⟩
        have hfo : P.fieldsOf t = fs := by simp [Program.fieldsOf, hu]
        rw [run_equalIn_struct w k t _ _ (by rw [hfo]; exact hu) (by simpa using hst), hfo]
        exact fields_run hk ih w h (by simpa using hc)
    · rename_i n e hu
      split at h
      · rename_i l1 hl1
        split at h
        · rename_i hl
          simp only [Bool.and_eq_true, beq_iff_eq] at hl
          obtain ⟨⟨g1, g2⟩, g3⟩ := hl
          have g2 : 0 < l1.length := Nat.le_of_ble_eq_true g2
          injection h with h; subst h
          refine ⟨fun _ => ?_, fun ha => by simp [aggT, hu] at ha⟩
          obtain ⟨e1, e2⟩ := cmp_len hc
          obtain ⟨c, k1, rfl⟩ := cmp_rep hc
          have hlen : (List.replicate n l1).flatten.length = n * l1.length := by simp
          rw [hlen] at e1 e2
          obtain ⟨_, i, hi, hsz⟩ := tyOk_spec g3
          have hp : ∀ i, i < n → (i + 1) * l1.length ≤ n * l1.length := fun i hi => Nat.mul_le_mul_right _ (by omega)
          simp only [Op.equalIn, Sem.run_bind, run_underlying hu, Result.andThen_ok, sizeOf, typeInfo, run_program, hi, Sem.run_pure, hsz, ← g1]
          simp only [Std.Legacy.Range.forIn_eq_forIn_range', Std.Legacy.Range.size]
          simp only [Nat.sub_zero, Nat.add_sub_cancel, Nat.div_one]
          rw [forIn_cut (P := P) (w := w) _ n 0 c ?hh]
          case hh =>
            intro i _ hi
            have hi : i < n := by omega
            have := hp i hi
            rw [Nat.succ_mul] at this
            have p1 := part_run (P := P) g3 (xs := xs) (o := i * l1.length) (by omega) (by omega) w
            have p2 := part_run (P := P) g3 (xs := ys) (o := i * l1.length) (by omega) (by omega) w
            have p3 := (ih _ _ hl1).part hk w (k1 i hi) g1 g2
            simp only [Sem.run_bind, p1, p2, p3, Result.andThen_ok]
            cases c i <;> simp
          cases (List.range' 0 n).all c <;> simp
        · cases h
      · cases h
    · cases h
end
end Go.Proofs.YteanccnggaakeaaGreat
