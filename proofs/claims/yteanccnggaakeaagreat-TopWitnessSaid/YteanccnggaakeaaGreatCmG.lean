/- Operations without memory: places, structs, pieces of slices. No condition. -/
import Derived.Test.YteanccnggaakeaaGreatCmF
namespace Go.Proofs.YteanccnggaakeaaGreat
open Go.RowKit
set_option linter.unusedVariables false
set_option linter.unusedSimpArgs false

def offT (P : Program) (t : TypeId) (f : Nat) : Option Nat := match P.underlying t with | some (.struct fs) => (fs[f]?).bind (fun fd => (P.info? fd.type).bind fun i => if i.size = 0 then none else some fd.offset) | _ => none
def sliceT (P : Program) (t : TypeId) : Option TypeId := match P.underlying t with | some (.slice e) => if (P.info? e).isSome then some e else none | _ => none
def fieldT (P : Program) (t : TypeId) (f : Nat) : Option (Nat × TypeId) := match P.underlying t with | some (.struct fs) => (fs[f]?).bind fun fd => if tyOk P fd.type = true then some (fd.offset, fd.type) else none | _ => none
def arrT (P : Program) (t : TypeId) : Option (Nat × TypeId) := match P.underlying t with | some (.array n e) => if (P.info? e).isSome then some (n, e) else none | _ => none
/- An array of single cells: how many. -/
def idxT (P : Program) (t : TypeId) : Option Nat := match arrT P t with | some (n, e) => if (tyOk P e && !aggT P e && szT P e == 1) = true then some n else none | _ => none

section
variable {P : Program}
theorem sliceT_spec {t e : TypeId} (h : sliceT P t = some e) : P.underlying t = some (.slice e) ∧ ∃ i, P.info? e = some i ∧ i.size = szT P e := by
  unfold sliceT at h
  split at h
  · rename_i e' he
    split at h
    · rename_i hi
      injection h with h
      subst h
      obtain ⟨i, hi⟩ := Option.isSome_iff_exists.1 hi
      exact ⟨he, i, hi, by simp [szT, hi]⟩
    · cases h
  · cases h
theorem arrT_spec {t e : TypeId} {n : Nat} (h : arrT P t = some (n, e)) : P.underlying t = some (.array n e) ∧ ∃ i, P.info? e = some i ∧ i.size = szT P e := by
  unfold arrT at h
  split at h
  · rename_i n' e' he
    split at h
    · rename_i hi
      injection h with h
      injection h with h h'
      subst h h'
      obtain ⟨i, hi⟩ := Option.isSome_iff_exists.1 hi
      exact ⟨he, i, hi, by simp [szT, hi]⟩
    · cases h
  · cases h
theorem idxT_spec {t : TypeId} {n : Nat} (h : idxT P t = some n) : ∃ e, arrT P t = some (n, e) ∧ tyOk P e = true ∧ aggT P e = false ∧ szT P e = 1 := by
  unfold idxT at h
  split at h
  · rename_i n' e he
    split at h
    · rename_i hc
      simp only [Bool.and_eq_true, Bool.not_eq_true', beq_iff_eq] at hc
      injection h with h
      subst h
      exact ⟨e, he, hc.1.1, hc.1.2, hc.2⟩
    · cases h
  · cases h
theorem fieldT_spec {t e : TypeId} {f off : Nat} (h : fieldT P t f = some (off, e)) : ∃ fs fd, P.underlying t = some (.struct fs) ∧ fs[f]? = some fd ∧ fd.offset = off ∧ fd.type = e ∧ tyOk P e = true := by
  unfold fieldT at h
  split at h
  · rename_i fs hfs
    obtain ⟨fd, h1, h2⟩ := Option.bind_eq_some_iff.1 h
    split at h2
    · rename_i hk
      injection h2 with h2
      injection h2 with e1 e2
      subst e1 e2
      exact ⟨fs, fd, hfs, h1, rfl, rfl, hk⟩
    · cases h2
  · cases h

/- A component of a tuple. -/
noncomputable def xExtract (i : Nat) (a : CV) (K : KV) : Bool := CV.cs (fun _ _ => false) (fun _ _ => false) (fun _ => false) (fun _ => false) (fun _ _ _ => false) (fun _ _ _ _ => false) (fun _ _ _ _ => false) (fun _ _ _ => false) (fun _ => false) (fun l => atL l K i) (fun _ _ => false) a
theorem xExtract_t {i : Nat} {a : CV} {K : KV} (h : xExtract i a K = true) : ∃ v, K v = true ∧ One P (Instr.extract · i) a v := by
  cases a <;> first | (cases h; done) | skip
  obtain ⟨v, h1, h2⟩ := atL_t h
  refine ⟨v, h2, fun G x hx => ?_⟩
  simp only [R] at hx
  obtain ⟨vs, rfl, hr⟩ := hx
  obtain ⟨u, hu, hr⟩ := hr.get i v h1
  exact ⟨u, hr, fun w => by simp [Instr.extract, hu]⟩
/- The address of a field. -/
noncomputable def xFieldAddr (P : Program) (t f : Nat) (a : CV) (K : KV) : Bool := onPtr (fun r i o => og (offT P t f) fun off => fN (Nat.add o off) fun o => K (.ptr r i o)) a
theorem xFieldAddr_t {t f : Nat} {a : CV} {K : KV} (h : xFieldAddr P t f a K = true) : ∃ v, K v = true ∧ One P (Instr.fieldAt t · f) a v := by
  obtain ⟨r, i, o, rfl, h⟩ := onPtr_t h
  obtain ⟨off, h1, h2⟩ := og_t h
  refine ⟨_, h2, fun G x hx => ?_⟩
  simp only [R] at hx
  obtain ⟨hd, rfl⟩ := hx
  refine ⟨.pointer (some ⟨G.bt r, i * G.sz r + o + off, none⟩), by simp only [R]; exact ⟨hd, by rw [Nat.add_assoc]; rfl⟩, fun w => ?_⟩
  unfold offT at h1
  split at h1
  · rename_i fs hfs
    simp only [Option.bind_eq_some_iff] at h1
    obtain ⟨fd, k1, j, k2, k3⟩ := h1
    split at k3
    · cases k3
    · rename_i hsz
      injection k3 with k3
      subst k3
      simp [Instr.fieldAt, run_underlying hfs, k1, Instr.sureAddr, fieldPlace, sizeOf, typeInfo, k2, hsz, Addr.add_lit]
  · cases h1
theorem indexAt_slice_run {t e : TypeId} {k : IntKind} {n len c : Nat} (h : sliceT P t = some e) (b o : Nat) (h1 : n < len) (w : World) :
    (Instr.indexAt t (.slice (some ⟨b, o, none⟩) len c) (.int k (.ofNat n))).run P w = .ok (.pointer (some ⟨b, o + n * szT P e, none⟩)) w := by
  obtain ⟨hu, i, hi, hs⟩ := sliceT_spec h
  have h1' : (n : Int) < (len : Int) := by omega
  simp [Instr.indexAt, asIntOf, run_underlying hu, h1', sizeOf, typeInfo, hi, hs, Addr.add_lit]
  intro hh
  omega
theorem indexAt_arr_run {t e : TypeId} {k : IntKind} {n len : Nat} (h : arrT P t = some (len, e)) (b o : Nat) (h1 : n < len) (w : World) :
    (Instr.indexAt t (.pointer (some ⟨b, o, none⟩)) (.int k (.ofNat n))).run P w = .ok (.pointer (some ⟨b, o + n * szT P e, none⟩)) w := by
  obtain ⟨hu, i, hi, hs⟩ := arrT_spec h
  have h1' : (n : Int) < (len : Int) := by omega
  simp [Instr.indexAt, asIntOf, run_underlying hu, h1', sizeOf, typeInfo, hi, hs, Addr.add_lit, Instr.sureAddr]
  intro hh
  omega
noncomputable def xIndexAt (P : Program) (t : Nat) (a : CV) (K : KV) (n : Nat) : Bool :=
  CV.cs (fun _ _ => false) (fun _ _ => false) (fun _ => false) (fun _ => false) (fun r m s => tst (Nat.blt n m) (og (sliceT P t) fun e => tst (Nat.beq (szT P e) s) (K (.ptr r n 0)))) (fun r o m s => tst (Nat.blt n m) (og (sliceT P t) fun e => tst (Nat.beq (szT P e) s) (fN (Nat.add o n) fun k => K (.ptr r k 0))))
    (fun r i o m => tst (Nat.blt n m) (og (sliceT P t) fun e => tst (Nat.beq (szT P e) 1) (fN (Nat.add o n) fun k => K (.ptr r i k)))) (fun r j o => og (arrT P t) fun me => Prod.rec (fun m e => tst (Nat.blt n m) (fN (Nat.add o (Nat.mul n (szT P e))) fun o => K (.ptr r j o))) me) (fun _ => false) (fun _ => false) (fun _ _ => false) a
noncomputable def xIndexAddr (P : Program) (t : Nat) (a i : CV) (K : KV) : Bool := onNat (fun _ n => xIndexAt P t a K n) i
theorem blt_t {n m : Nat} (h : Nat.blt n m = true) : n < m := Nat.le_of_ble_eq_true h
theorem xIndexAddr_t {t : Nat} {a i : CV} {K : KV} (h : xIndexAddr P t a i K = true) : ∃ v, K v = true ∧ Two P (Instr.indexAt t) a i v := by
  obtain ⟨k, n, rfl, h'⟩ := onNat_t h
  cases a <;> first | (cases h'; done) | skip
  · rename_i r m s
    obtain ⟨h1, h2⟩ := tst_t (show tst (Nat.blt n m) (og (sliceT P t) fun e => tst (Nat.beq (szT P e) s) (K (.ptr r n 0))) = true from h')
    obtain ⟨e, h3, h4⟩ := og_t h2
    obtain ⟨h5, h6⟩ := tst_t h4
    refine ⟨_, h6, fun G x y hx hy => ?_⟩
    simp only [R] at hx hy
    obtain ⟨hd, hs, hn, rfl⟩ := hx
    subst hy
    exact ⟨_, by simp only [R]; exact ⟨hd, rfl⟩, fun w => by rw [indexAt_slice_run h3 _ _ (blt_t h1), hs, ← Nat.eq_of_beq_eq_true h5]; simp⟩
  · rename_i r o m s
    obtain ⟨h1, h2⟩ := tst_t (show tst (Nat.blt n m) (og (sliceT P t) fun e => tst (Nat.beq (szT P e) s) (fN (Nat.add o n) fun k => K (.ptr r k 0))) = true from h')
    obtain ⟨e, h3, h4⟩ := og_t h2
    obtain ⟨h5, h6⟩ := tst_t h4
    have hlt := blt_t h1
    refine ⟨_, h6, fun G x y hx hy => ?_⟩
    simp only [R] at hx hy
    obtain ⟨hd, hs, A, c, rfl, hn, hA⟩ := hx
    subst hy
    rcases hA with hA | rfl
    · omega
    · exact ⟨_, by simp only [R]; exact ⟨hd, rfl⟩, fun w => by rw [indexAt_slice_run h3 _ _ hlt, hs, ← Nat.eq_of_beq_eq_true h5]; simp [Nat.add_mul]⟩
  · rename_i r i' o m
    obtain ⟨h1, h2⟩ := tst_t (show tst (Nat.blt n m) (og (sliceT P t) fun e => tst (Nat.beq (szT P e) 1) (fN (Nat.add o n) fun k => K (.ptr r i' k))) = true from h')
    obtain ⟨e, h3, h4⟩ := og_t h2
    obtain ⟨h5, h6⟩ := tst_t h4
    have hlt := blt_t h1
    refine ⟨_, h6, fun G x y hx hy => ?_⟩
    simp only [R] at hx hy
    obtain ⟨hd, A, c, rfl, hn, hA⟩ := hx
    subst hy
    rcases hA with hA | rfl
    · omega
    · exact ⟨_, by simp only [R]; exact ⟨hd, rfl⟩, fun w => by rw [indexAt_slice_run h3 _ _ hlt, Nat.eq_of_beq_eq_true h5]; simp [Nat.add_assoc]⟩
  · rename_i r j o
    obtain ⟨⟨m, e⟩, h1, h2⟩ := og_t (show (og (arrT P t) fun me => Prod.rec (fun m e => tst (Nat.blt n m) (fN (Nat.add o (Nat.mul n (szT P e))) fun o => K (.ptr r j o))) me) = true from h')
    obtain ⟨h3, h4⟩ := tst_t h2
    refine ⟨_, h4, fun G x y hx hy => ?_⟩
    simp only [R] at hx hy
    obtain ⟨hd, rfl⟩ := hx
    subst hy
    exact ⟨_, by simp only [R]; exact ⟨hd, rfl⟩, fun w => by rw [indexAt_arr_run h1 _ _ (blt_t h3)]; simp [Nat.add_assoc]⟩
/- An item of an array that is a value. -/
noncomputable def xIndex (P : Program) (t : Nat) (a i : CV) (K : KV) : Bool := onNat (fun _ n => og (idxT P t) fun m => tst (Nat.blt n m) (agK (fun l => atL l K n) a)) i
theorem xIndex_t {t : Nat} {a i : CV} {K : KV} (h : xIndex P t a i K = true) : ∃ v, K v = true ∧ Two P (Instr.index t) a i v := by
  obtain ⟨k, n, rfl, h⟩ := onNat_t h
  obtain ⟨m, h1, h2⟩ := og_t h
  obtain ⟨h3, h4⟩ := tst_t h2
  obtain ⟨l, h5, h6⟩ := agK_t h4
  obtain ⟨v, h7, h8⟩ := atL_t h5
  obtain ⟨e, g1, g2, g3, g4⟩ := idxT_spec h1
  obtain ⟨hun, j, hj, hsz⟩ := arrT_spec g1
  have hlt := blt_t h3
  refine ⟨v, h8, fun G x y hx hy => ?_⟩
  obtain ⟨vs, rfl, hr⟩ := h6 G x hx
  simp only [R] at hy
  subst hy
  obtain ⟨u, hu, hru, _⟩ := hr.get n v h7
  have hlt' : (n : Int) < (m : Int) := by omega
  exact ⟨u, hru, fun w => by
    simp [Instr.index, asIntOf, run_underlying hun, hlt', sizeOf, typeInfo, hj, hsz, g4, part, isAgg_run g2, g3, hu]
    intro hh
    omega⟩
/- A part of cells. -/
noncomputable def xPart (P : Program) (t : Nat) (l : List CV) (o : Nat) (K : KV) : Bool := Bool.rec (atL l K o) (fL (takeL (dropL l o) (szT P t)) fun l => K (.ag l)) (aggT P t)
noncomputable def xField (P : Program) (t f : Nat) (a : CV) (K : KV) : Bool := og (fieldT P t f) fun oe => Prod.rec (fun o e => agK (fun l => xPart P e l o K) a) oe
theorem xPart_t {t : Nat} {l : List CV} {o : Nat} {K : KV} (h : xPart P t l o K = true) : ∃ v, K v = true ∧ ∀ (G : Gh) (vs : List Value), Rs G l vs →
    (aggT P t = true ∧ R G v (.agg ((vs.drop o).take (szT P t)).toArray)) ∨ (aggT P t = false ∧ ∃ u, vs[o]? = some u ∧ R G v u) := by
  rcases rec_b (show (Bool.rec (atL l K o) (fL (takeL (dropL l o) (szT P t)) fun l => K (.ag l)) (aggT P t) : Bool) = true from h) with ⟨h1, h2⟩ | ⟨h1, h2⟩
  · rw [fL_eq, takeL_eq, dropL_eq] at h2
    exact ⟨_, h2, fun G vs hr => .inl ⟨h1, by simp only [R]; exact ⟨_, rfl, (hr.drop o).take _⟩⟩⟩
  · obtain ⟨v, h3, h4⟩ := atL_t h2
    refine ⟨v, h4, fun G vs hr => .inr ⟨h1, ?_⟩⟩
    obtain ⟨u, hu, hru, _⟩ := hr.get o v h3
    exact ⟨u, hu, hru⟩
theorem xField_t {t f : Nat} {a : CV} {K : KV} (h : xField P t f a K = true) : ∃ v, K v = true ∧ One P (Instr.field t · f) a v := by
  obtain ⟨⟨o, e⟩, h1, h2⟩ := og_t h
  obtain ⟨l, h3, h4⟩ := agK_t h2
  obtain ⟨v, h5, h6⟩ := xPart_t h3
  obtain ⟨fs, fd, g1, g2, rfl, rfl, g3⟩ := fieldT_spec h1
  obtain ⟨_, i, hi, hs⟩ := tyOk_spec g3
  refine ⟨v, h5, fun G x hx => ?_⟩
  obtain ⟨vs, rfl, hr⟩ := h4 G x hx
  rcases h6 G vs hr with ⟨ha, hv⟩ | ⟨ha, u, hu, hv⟩
  · exact ⟨_, hv, fun w => by simp [Instr.field, run_underlying g1, g2, part, isAgg_run g3, ha, asAgg, sizeOf, typeInfo, hi, hs, List.extract_eq_take_drop, List.extract_toArray]⟩
  · exact ⟨_, hv, fun w => by simp [Instr.field, run_underlying g1, g2, part, isAgg_run g3, ha, hu, asAgg]⟩
/- How long a slice is. -/
noncomputable def lenV (K : KV) (v : Value) : Bool := vCs (fun _ => false) (fun v => match v with | .slice none 0 0 => K (.pos .i64 0) | _ => false) v
noncomputable def xLen (P : Program) (t : Nat) (a : CV) (K : KV) : Bool := og (sliceT P t) fun _ => CV.cs (fun _ _ => false) (fun _ _ => false) (fun _ => false) (lenV K) (fun _ n _ => K (.pos .i64 n)) (fun _ _ n _ => K (.pos .i64 n)) (fun _ _ _ n => K (.pos .i64 n)) (fun _ _ _ => false) (fun _ => false) (fun _ => false) (fun _ _ => false) a
theorem xLen_t {t : Nat} {a : CV} {K : KV} (h : xLen P t a K = true) (ty : TypeId) : ∃ v, K v = true ∧ One P (fun x => Builtin.len_ #[t] ty #[x]) a v := by
  obtain ⟨e, h1, h2⟩ := og_t h
  obtain ⟨hu, _⟩ := sliceT_spec h1
  have key : ∀ n : Nat, K (.pos .i64 n) = true → (∀ G x, R G a x → ∃ A c, x = .slice A n c) → ∃ v, K v = true ∧ One P (fun x => Builtin.len_ #[t] ty #[x]) a v := fun n hk hx => ⟨_, hk, fun G x hr => ⟨.int .i64 (.ofNat n), by simp only [R], fun w => by
    obtain ⟨A, c, rfl⟩ := hx G x hr
    simp [Builtin.len_, run_underlying hu, goInt]⟩⟩
  cases a <;> first | (cases h2; done) | skip
  · rename_i v
    cases v <;> first | (cases h2; done) | skip
    rename_i A n c
    cases A with
    | some A => cases h2
    | none =>
      cases n with
      | succ n => cases h2
      | zero =>
        cases c with
        | succ c => cases h2
        | zero => exact key 0 h2 fun G x hr => by simp only [R] at hr; exact ⟨_, _, hr⟩
  · exact key _ h2 fun G x hr => by simp only [R] at hr; obtain ⟨_, _, _, rfl⟩ := hr; exact ⟨_, _, rfl⟩
  · exact key _ h2 fun G x hr => by simp only [R] at hr; obtain ⟨_, _, A, c, rfl, _⟩ := hr; exact ⟨_, _, rfl⟩
  · exact key _ h2 fun G x hr => by simp only [R] at hr; obtain ⟨_, A, c, rfl, _⟩ := hr; exact ⟨_, _, rfl⟩
/- The greater, the smaller of two numbers. -/
noncomputable def gInt (K : IntKind → Int → Bool) (a : CV) : Bool := CV.cs (fun k m => K k (.ofNat m)) (fun k m => K k (.negSucc m)) (fun _ => false) (fun _ => false) (fun _ _ _ => false) (fun _ _ _ _ => false) (fun _ _ _ _ => false) (fun _ _ _ => false) (fun _ => false) (fun _ => false) (fun _ _ => false) a
theorem gInt_t {K : IntKind → Int → Bool} {a : CV} (h : gInt K a = true) : ∃ k n, a.gr = some (.int k n) ∧ K k n = true := by
  cases a <;> first | (cases h; done) | exact ⟨_, _, rfl, h⟩
noncomputable def xMax (a b : CV) (K : KV) : Bool := gInt (fun k x => gInt (fun _ y => yI k (if y > x then y else x) K) b) a
noncomputable def xMin (a b : CV) (K : KV) : Bool := gInt (fun k x => gInt (fun _ y => yI k (if y < x then y else x) K) b) a
theorem xMax_t {a b : CV} {K : KV} (h : xMax a b K = true) (ts : Array TypeId) (ty : TypeId) : ∃ v, K v = true ∧ Two P (fun x y => Builtin.max_ ts ty #[x, y]) a b v := by
  obtain ⟨k, x, h1, h2⟩ := gInt_t h
  obtain ⟨k', y, h3, h4⟩ := gInt_t h2
  obtain ⟨v, h5, h6⟩ := yI_t h4
  refine ⟨v, h5, fun G x' y' hx hy => ⟨_, gr_R h6, fun w => ?_⟩⟩
  rw [gr_eq h1 hx, gr_eq h3 hy]
  simp [Builtin.max_, Builtin.max2]
theorem xMin_t {a b : CV} {K : KV} (h : xMin a b K = true) (ts : Array TypeId) (ty : TypeId) : ∃ v, K v = true ∧ Two P (fun x y => Builtin.min_ ts ty #[x, y]) a b v := by
  obtain ⟨k, x, h1, h2⟩ := gInt_t h
  obtain ⟨k', y, h3, h4⟩ := gInt_t h2
  obtain ⟨v, h5, h6⟩ := yI_t h4
  refine ⟨v, h5, fun G x' y' hx hy => ⟨_, gr_R h6, fun w => ?_⟩⟩
  rw [gr_eq h1 hx, gr_eq h3 hy]
  simp [Builtin.min_, Builtin.min2]

/- A piece of a slice, or of an array. -/
noncomputable def loK (lo : Option CV) (d : Nat) (K : Nat → Bool) : Bool := Option.rec (K d) (fun x => onNat (fun _ n => K n) x) lo
def loV (lo : Option Value) (d n : Nat) : Prop := (lo = none ∧ n = d) ∨ ∃ k, lo = some (.int k (.ofNat n))
def Ro (G : Gh) : Option CV → Option Value → Prop
  | none, y => y = none
  | some x, y => ∃ z, y = some z ∧ R G x z
theorem loK_t {lo : Option CV} {d : Nat} {K : Nat → Bool} (h : loK lo d K = true) : ∃ n, K n = true ∧ (lo = none → n = d) ∧ ∀ G y, Ro G lo y → loV y d n := by
  cases lo with
  | none => exact ⟨d, h, fun _ => rfl, fun G y hy => .inl ⟨hy, rfl⟩⟩
  | some x =>
    obtain ⟨k, n, rfl, h⟩ := onNat_t h
    exact ⟨n, h, (fun e => by cases e), fun G y ⟨z, e, hz⟩ => .inr ⟨k, by simp only [R] at hz; rw [e, hz]⟩⟩
theorem bounds_run {b : Bool} {n c l h : Nat} {lo hi : Option Value} (hl : loV lo 0 l) (hh : loV hi n h) (h1 : l ≤ h) (h2 : h ≤ c) (hn : n ≤ c) (w : World) : (Instr.sliceBounds b n c lo hi none).run P w = .ok (l, h, c) w := by
  have sb : ∀ (k : IntKind) (m y : Nat) (code : BoundsCode), m ≤ y → (Instr.sliceBound (.int k (m : Int)) y code).run P w = .ok m w := fun k m y code hm => by
    have : (m : Int) ≤ (y : Int) := by omega
    simp [Instr.sliceBound, asIntOf, this]
  rcases hl with ⟨rfl, rfl⟩ | ⟨k, rfl⟩ <;> rcases hh with ⟨rfl, rfl⟩ | ⟨k', rfl⟩ <;> simp [Instr.sliceBounds, sb, h1, h2]
theorem slice_run {t e : TypeId} {A : Option Addr} {n c l h : Nat} {lo hi : Option Value} (hs : sliceT P t = some e) (hl : loV lo 0 l) (hh : loV hi n h) (h1 : l ≤ h) (h2 : h ≤ c) (hn : n ≤ c) (w : World) :
    (Instr.sliceAt t (.slice A n c) lo hi none).run P w = .ok (.slice (if c = l then A else A.map (·.add (l * szT P e))) (h - l) (c - l)) w := by
  obtain ⟨hu, i, hi', hsz⟩ := sliceT_spec hs
  simp [Instr.sliceAt, Instr.slice, run_underlying hu, bounds_run hl hh h1 h2 hn, sizeOf, typeInfo, hi', hsz]
theorem sliceArr_run {t e : TypeId} {a : Addr} {n l h : Nat} {lo hi : Option Value} (hs : arrT P t = some (n, e)) (hl : loV lo 0 l) (hh : loV hi n h) (h1 : l ≤ h) (h2 : h ≤ n) (w : World) :
    (Instr.sliceAt t (.pointer (some a)) lo hi none).run P w = .ok (.slice (some (if n = l then a else a.add (l * szT P e))) (h - l) (n - l)) w := by
  obtain ⟨hu, i, hi', hsz⟩ := arrT_spec hs
  simp [Instr.sliceAt, run_underlying hu, Instr.sureAddr, bounds_run hl hh h1 h2 (Nat.le_refl _), sizeOf, typeInfo, hi', hsz]
noncomputable def cutK (l h n : Nat) (K : Nat → Bool) : Bool := tst (Nat.ble l h) (tst (Nat.ble h n) (fN (Nat.sub h l) K))
theorem cutK_t {l h n : Nat} {K : Nat → Bool} (hk : cutK l h n K = true) : l ≤ h ∧ h ≤ n ∧ K (h - l) = true := by
  obtain ⟨h1, h2⟩ := tst_t hk
  obtain ⟨h3, h4⟩ := tst_t h2
  exact ⟨Nat.le_of_ble_eq_true h1, Nat.le_of_ble_eq_true h3, h4⟩
noncomputable def slV (lo hi : Option CV) (K : KV) (v : Value) : Bool := vCs (fun _ => false) (fun v => match v with | .slice none 0 0 => loK lo 0 fun l => loK hi 0 fun h => cutK l h 0 fun _ => K (.val (.slice none 0 0)) | _ => false) v
noncomputable def xSlice (P : Program) (t : Nat) (a : CV) (lo hi : Option CV) (K : KV) : Bool :=
  CV.cs (fun _ _ => false) (fun _ _ => false) (fun _ => false) (fun v => og (sliceT P t) fun _ => slV lo hi K v)
    (fun r n s => og (sliceT P t) fun e => tst (Nat.beq (szT P e) s) (Option.rec (loK hi n fun h => cutK 0 h n fun _ => K (.ref r h s)) (fun _ => loK lo 0 fun l => loK hi n fun h => cutK l h n fun m => K (.sub r l m s)) lo))
    (fun r o n s => og (sliceT P t) fun e => tst (Nat.beq (szT P e) s) (loK lo 0 fun l => loK hi n fun h => cutK l h n fun m => fN (Nat.add o l) fun o => K (.sub r o m s)))
    (fun r i o n => og (sliceT P t) fun e => tst (Nat.beq (szT P e) 1) (loK lo 0 fun l => loK hi n fun h => cutK l h n fun m => fN (Nat.add o l) fun o => K (.win r i o m)))
    (fun r i o => og (arrT P t) fun ne => Prod.rec (fun n e => tst (Nat.beq (szT P e) 1) (loK lo 0 fun l => loK hi n fun h => cutK l h n fun m => fN (Nat.add o l) fun o => K (.win r i o m))) ne)
    (fun _ => false) (fun _ => false) (fun _ _ => false) a
def Piece (P : Program) (t : Nat) (a : CV) (lo hi : Option CV) (v : CV) : Prop := ∀ (G : Gh) (x : Value) (l h : Option Value), R G a x → Ro G lo l → Ro G hi h → ∃ z, R G v z ∧ ∀ w : World, (Instr.sliceAt t x l h none).run P w = .ok z w
theorem xSlice_t {t : Nat} {a : CV} {lo hi : Option CV} {K : KV} (h : xSlice P t a lo hi K = true) : ∃ v, K v = true ∧ Piece P t a lo hi v := by
  cases a <;> first | (cases h; done) | skip
  · rename_i v
    obtain ⟨e, h1, h2⟩ := og_t (show (og (sliceT P t) fun _ => slV lo hi K v) = true from h)
    cases v <;> first | (cases h2; done) | skip
    rename_i A n c
    cases A with
    | some A => cases h2
    | none =>
      cases n with
      | succ n => cases h2
      | zero =>
        cases c with
        | succ c => cases h2
        | zero =>
          obtain ⟨l, h3, _, hl⟩ := loK_t (show (loK lo 0 fun l => loK hi 0 fun h => cutK l h 0 fun _ => K (.val (.slice none 0 0))) = true from h2)
          obtain ⟨q, h4, _, hq⟩ := loK_t h3
          obtain ⟨k1, k2, k3⟩ := cutK_t h4
          refine ⟨_, k3, fun G x lv hv hx hlo hhi => ⟨.slice none 0 0, by simp only [R], fun w => ?_⟩⟩
          simp only [R] at hx
          subst hx
          rw [slice_run h1 (hl G lv hlo) (hq G hv hhi) k1 k2 (Nat.le_refl _)]
          have : l = 0 := by omega
          have : q = 0 := by omega
          subst_vars
          simp
  · rename_i r n s
    obtain ⟨e, h1, h2⟩ := og_t (show (og (sliceT P t) fun e => tst (Nat.beq (szT P e) s) (Option.rec (loK hi n fun h => cutK 0 h n fun _ => K (.ref r h s)) (fun _ => loK lo 0 fun l => loK hi n fun h => cutK l h n fun m => K (.sub r l m s)) lo)) = true from h)
    obtain ⟨h3, h4⟩ := tst_t h2
    have hsz := Nat.eq_of_beq_eq_true h3
    cases lo with
    | none =>
      obtain ⟨q, h5, _, hq⟩ := loK_t (show (loK hi n fun h => cutK 0 h n fun _ => K (.ref r h s)) = true from h4)
      obtain ⟨k1, k2, k3⟩ := cutK_t h5
      refine ⟨_, k3, fun G x lv hv hx hlo hhi => ?_⟩
      simp only [R] at hx
      obtain ⟨hd, hs, hn, rfl⟩ := hx
      simp only [Ro] at hlo
      subst hlo
      refine ⟨_, by simp only [R]; exact ⟨hd, hs, by omega, rfl⟩, fun w => ?_⟩
      rw [slice_run h1 (.inl ⟨rfl, rfl⟩) (hq G hv hhi) k1 (by omega) hn]
      simp [Addr.add]
    | some lo =>
      obtain ⟨l, h5, _, hl⟩ := loK_t (show (loK (some lo) 0 fun l => loK hi n fun h => cutK l h n fun m => K (.sub r l m s)) = true from h4)
      obtain ⟨q, h6, _, hq⟩ := loK_t h5
      obtain ⟨k1, k2, k3⟩ := cutK_t h6
      refine ⟨_, k3, fun G x lv hv hx hlo hhi => ?_⟩
      simp only [R] at hx
      obtain ⟨hd, hs, hn, rfl⟩ := hx
      refine ⟨_, ?_, fun w => slice_run h1 (hl G lv hlo) (hq G hv hhi) k1 (by omega) hn w⟩
      simp only [R]
      refine ⟨hd, hs, _, _, rfl, by omega, ?_⟩
      by_cases hz : q - l = 0
      · exact .inl hz
      · refine .inr ?_
        rw [if_neg (by omega)]
        simp [Addr.add_lit, hsz]
  · rename_i r o n s
    obtain ⟨e, h1, h2⟩ := og_t (show (og (sliceT P t) fun e => tst (Nat.beq (szT P e) s) (loK lo 0 fun l => loK hi n fun h => cutK l h n fun m => fN (Nat.add o l) fun o => K (.sub r o m s))) = true from h)
    obtain ⟨h3, h4⟩ := tst_t h2
    have hsz := Nat.eq_of_beq_eq_true h3
    obtain ⟨l, h5, _, hl⟩ := loK_t h4
    obtain ⟨q, h6, _, hq⟩ := loK_t h5
    obtain ⟨k1, k2, k3⟩ := cutK_t h6
    refine ⟨_, k3, fun G x lv hv hx hlo hhi => ?_⟩
    simp only [R] at hx
    obtain ⟨hd, hs, A, c, rfl, hn, hA⟩ := hx
    refine ⟨_, ?_, fun w => slice_run h1 (hl G lv hlo) (hq G hv hhi) k1 (by omega) hn w⟩
    simp only [R]
    refine ⟨hd, hs, _, _, rfl, by omega, ?_⟩
    by_cases hz : q - l = 0
    · exact .inl hz
    · refine .inr ?_
      rcases hA with hA | rfl
      · omega
      · rw [if_neg (by omega)]
        simp [Addr.add_lit, hsz, Nat.add_mul]
  · rename_i r i o n
    obtain ⟨e, h1, h2⟩ := og_t (show (og (sliceT P t) fun e => tst (Nat.beq (szT P e) 1) (loK lo 0 fun l => loK hi n fun h => cutK l h n fun m => fN (Nat.add o l) fun o => K (.win r i o m))) = true from h)
    obtain ⟨h3, h4⟩ := tst_t h2
    have hsz := Nat.eq_of_beq_eq_true h3
    obtain ⟨l, h5, _, hl⟩ := loK_t h4
    obtain ⟨q, h6, _, hq⟩ := loK_t h5
    obtain ⟨k1, k2, k3⟩ := cutK_t h6
    refine ⟨_, k3, fun G x lv hv hx hlo hhi => ?_⟩
    simp only [R] at hx
    obtain ⟨hd, A, c, rfl, hn, hA⟩ := hx
    refine ⟨_, ?_, fun w => slice_run h1 (hl G lv hlo) (hq G hv hhi) k1 (by omega) hn w⟩
    simp only [R]
    refine ⟨hd, _, _, rfl, by omega, ?_⟩
    by_cases hz : q - l = 0
    · exact .inl hz
    · refine .inr ?_
      rcases hA with hA | rfl
      · omega
      · rw [if_neg (by omega)]
        simp [Addr.add_lit, hsz, Nat.add_assoc]
  · rename_i r i o
    obtain ⟨⟨n, e⟩, h1, h2⟩ := og_t (show (og (arrT P t) fun ne => Prod.rec (fun n e => tst (Nat.beq (szT P e) 1) (loK lo 0 fun l => loK hi n fun h => cutK l h n fun m => fN (Nat.add o l) fun o => K (.win r i o m))) ne) = true from h)
    obtain ⟨h3, h4⟩ := tst_t (show tst (Nat.beq (szT P e) 1) (loK lo 0 fun l => loK hi n fun h => cutK l h n fun m => fN (Nat.add o l) fun o => K (.win r i o m)) = true from h2)
    have hsz := Nat.eq_of_beq_eq_true h3
    obtain ⟨l, h5, _, hl⟩ := loK_t h4
    obtain ⟨q, h6, _, hq⟩ := loK_t h5
    obtain ⟨k1, k2, k3⟩ := cutK_t h6
    refine ⟨_, k3, fun G x lv hv hx hlo hhi => ?_⟩
    simp only [R] at hx
    obtain ⟨hd, rfl⟩ := hx
    refine ⟨_, ?_, fun w => sliceArr_run h1 (hl G lv hlo) (hq G hv hhi) k1 (by omega) w⟩
    simp only [R]
    refine ⟨hd, _, _, rfl, by omega, ?_⟩
    by_cases hz : q - l = 0
    · exact .inl hz
    · refine .inr ?_
      rw [if_neg (by omega)]
      simp [Addr.add_lit, hsz, Nat.add_assoc]
end
end Go.Proofs.YteanccnggaakeaaGreat
