/- Lists, values and numbers in the machine that the kernel runs. No condition. -/
import Derived.Test.YteanccnggaakeaaGreatCmB
namespace Go.Proofs.YteanccnggaakeaaGreat
open Go.RowKit
set_option linter.unusedVariables false
set_option linter.unusedSimpArgs false

section
variable {α β : Type}
noncomputable def tst (b : Bool) (x : Bool) : Bool := Bool.rec false x b
theorem tst_t {b x : Bool} (h : tst b x = true) : b = true ∧ x = true := by
  cases b with
  | false => cases h
  | true => exact ⟨rfl, h⟩
noncomputable def og (x : Option α) (f : α → Bool) : Bool := Option.rec false f x
theorem og_t {x : Option α} {f : α → Bool} (h : og x f = true) : ∃ a, x = some a ∧ f a = true := by
  cases x with
  | none => cases h
  | some a => exact ⟨a, rfl, h⟩
/- Lists are brought to their ends. -/
noncomputable def fL (l : List α) : (List α → β) → β := List.rec (fun K => K []) (fun a _ ih K => ih fun l => K (a :: l)) l
theorem fL_eq : ∀ (l : List α) (K : List α → β), fL l K = K l
  | [], K => rfl
  | a :: l, K => fL_eq l fun l => K (a :: l)
noncomputable def atL (l : List α) (K : α → Bool) : Nat → Bool := List.rec (fun _ => false) (fun a _ ih i => Nat.rec (K a) (fun j _ => ih j) i) l
theorem atL_t : ∀ {l : List α} {K : α → Bool} {i : Nat}, atL l K i = true → ∃ a, l[i]? = some a ∧ K a = true
  | [], K, i, h => by cases h
  | a :: l, K, 0, h => ⟨a, rfl, h⟩
  | a :: l, K, i + 1, h => by
    obtain ⟨b, h1, h2⟩ := atL_t (l := l) (K := K) (i := i) h
    exact ⟨b, by simpa using h1, h2⟩
noncomputable def takeL (l : List α) : Nat → List α := List.rec (fun _ => []) (fun a _ ih i => Nat.rec [] (fun j _ => a :: ih j) i) l
theorem takeL_eq : ∀ (l : List α) (i : Nat), takeL l i = l.take i
  | [], i => by cases i <;> rfl
  | a :: l, 0 => rfl
  | a :: l, i + 1 => by
    show a :: takeL l i = a :: l.take i
    rw [takeL_eq l i]
noncomputable def dropL (l : List α) : Nat → List α := List.rec (fun _ => []) (fun a l ih i => Nat.rec (a :: l) (fun j _ => ih j) i) l
theorem dropL_eq : ∀ (l : List α) (i : Nat), dropL l i = l.drop i
  | [], i => by cases i <;> rfl
  | a :: l, 0 => rfl
  | a :: l, i + 1 => dropL_eq l i
noncomputable def setL (l : List α) (x : α) : Nat → List α := List.rec (fun _ => []) (fun a l ih i => Nat.rec (x :: l) (fun j _ => a :: ih j) i) l
theorem setL_eq (x : α) : ∀ (l : List α) (i : Nat), setL l x i = l.set i x
  | [], i => by cases i <;> rfl
  | a :: l, 0 => rfl
  | a :: l, i + 1 => by
    show a :: setL l x i = a :: l.set i x
    rw [setL_eq x l i]
noncomputable def appL (l k : List α) : List α := List.rec k (fun a _ ih => a :: ih) l
theorem appL_eq (k : List α) : ∀ (l : List α), appL l k = l ++ k
  | [] => rfl
  | a :: l => by
    show a :: appL l k = a :: (l ++ k)
    rw [appL_eq k l]
noncomputable def lenL (l : List α) : Nat := List.rec 0 (fun _ _ ih => Nat.add ih 1) l
theorem lenL_eq : ∀ (l : List α), lenL l = l.length
  | [] => rfl
  | a :: l => by
    show lenL l + 1 = l.length + 1
    rw [lenL_eq l]
noncomputable def mapL (f : α → β) (l : List α) : List β := List.rec [] (fun a _ ih => f a :: ih) l
theorem mapL_eq (f : α → β) : ∀ (l : List α), mapL f l = l.map f
  | [] => rfl
  | a :: l => by
    show f a :: mapL f l = f a :: l.map f
    rw [mapL_eq f l]
noncomputable def repL (n : Nat) (x : α) : List α := Nat.rec [] (fun _ ih => x :: ih) n
theorem repL_eq (x : α) : ∀ n : Nat, repL n x = List.replicate n x
  | 0 => rfl
  | n + 1 => by
    show x :: repL n x = _
    rw [repL_eq x n, List.replicate_succ]
/- Cells from o on are replaced. -/
def splice (l : List α) (o : Nat) (new : List α) : List α := l.take o ++ new ++ l.drop (o + new.length)
noncomputable def putL (new l : List α) (o : Nat) : List α := appL (takeL l o) (appL new (dropL l (Nat.add o (lenL new))))
theorem putL_eq (new l : List α) (o : Nat) : putL new l o = splice l o new := by
  unfold putL splice
  rw [appL_eq, appL_eq, takeL_eq, dropL_eq, lenL_eq, List.append_assoc]
  rfl
end

/- By what a value is. -/
section
variable {β : Type}
noncomputable def CV.cs (a b : IntKind → Nat → β) (c : Bool → β) (d : Value → β) (e : Nat → Nat → Nat → β) (f g : Nat → Nat → Nat → Nat → β) (h : Nat → Nat → Nat → β) (i j : List CV → β) (k : FuncId → List CV → β) (x : CV) : β :=
  CV.rec (motive_1 := fun _ => β) (motive_2 := fun _ => PUnit) a b c d e f g h (fun cs _ => i cs) (fun cs _ => j cs) (fun fn cs _ => k fn cs) .unit (fun _ _ _ _ => .unit) x
end
noncomputable def onPtr (K : Nat → Nat → Nat → Bool) (x : CV) : Bool :=
  CV.rec (motive_1 := fun _ => Bool) (motive_2 := fun _ => PUnit) (fun _ _ => false) (fun _ _ => false) (fun _ => false) (fun _ => false) (fun _ _ _ => false) (fun _ _ _ _ => false) (fun _ _ _ _ => false) K (fun _ _ => false) (fun _ _ => false) (fun _ _ _ => false) .unit (fun _ _ _ _ => .unit) x
theorem onPtr_t {K : Nat → Nat → Nat → Bool} {x : CV} (h : onPtr K x = true) : ∃ r i o, x = .ptr r i o ∧ K r i o = true := by
  cases x <;> first | (cases h; done) | exact ⟨_, _, _, rfl, h⟩
noncomputable def onNat (K : IntKind → Nat → Bool) (x : CV) : Bool :=
  CV.rec (motive_1 := fun _ => Bool) (motive_2 := fun _ => PUnit) K (fun _ _ => false) (fun _ => false) (fun _ => false) (fun _ _ _ => false) (fun _ _ _ _ => false) (fun _ _ _ _ => false) (fun _ _ _ => false) (fun _ _ => false) (fun _ _ => false) (fun _ _ _ => false) .unit (fun _ _ _ _ => .unit) x
theorem onNat_t {K : IntKind → Nat → Bool} {x : CV} (h : onNat K x = true) : ∃ k m, x = .pos k m ∧ K k m = true := by
  cases x <;> first | (cases h; done) | exact ⟨_, _, rfl, h⟩
noncomputable def onBool (K : Bool → Bool) (x : CV) : Bool :=
  CV.rec (motive_1 := fun _ => Bool) (motive_2 := fun _ => PUnit) (fun _ _ => false) (fun _ _ => false) K (fun _ => false) (fun _ _ _ => false) (fun _ _ _ _ => false) (fun _ _ _ _ => false) (fun _ _ _ => false) (fun _ _ => false) (fun _ _ => false) (fun _ _ _ => false) .unit (fun _ _ _ _ => .unit) x
theorem onBool_t {K : Bool → Bool} {x : CV} (h : onBool K x = true) : ∃ b, x = .bo b ∧ K b = true := by
  cases x <;> first | (cases h; done) | exact ⟨_, rfl, h⟩

/- A value of the model as one of these. -/
def ofU : Value → CV
  | .bool b => .bo b
  | .int k (.ofNat m) => .pos k m
  | .int k (.negSucc m) => .neg k m
  | v => .val v
noncomputable def ofUK (v : Value) (K : CV → Bool) : Bool :=
  Value.rec (motive_1 := fun _ => Bool) (motive_2 := fun _ => PUnit) (motive_3 := fun _ => PUnit) (fun b => K (.bo b)) (fun k n => Int.rec (fun m => fN m fun m => K (.pos k m)) (fun m => fN m fun m => K (.neg k m)) n) (fun k b => K (.val (.float k b))) (fun k r i => K (.val (.complex k r i))) (fun s => K (.val (.string s)))
    (fun a => K (.val (.pointer a))) (fun a n c => K (.val (.slice a n c))) (fun r => K (.val (.map r))) (fun r => K (.val (.chan r))) (fun f a b _ _ => K (.val (.func f a b))) (K (.val .nilFunc)) (fun t v _ => K (.val (.iface t v))) (K (.val .nilIface)) (fun cs _ => K (.val (.agg cs))) (fun cs _ => K (.val (.tuple cs)))
    (fun _ _ => .unit) .unit (fun _ _ _ _ => .unit) v
theorem ofUK_eq (v : Value) (K : CV → Bool) : ofUK v K = K (ofU v) := by
  cases v with
  | int k n => cases n <;> rfl
  | _ => rfl
theorem ofU_R {G : Gh} (v : Value) : R G (ofU v) v := by
  cases v with
  | int k n => cases n <;> simp [ofU, R]
  | _ => simp [ofU, R]

/- A value that is one cell, and may be stored. -/
def CV.c1 : CV → Bool
  | .val v => v.oneCell'
  | .ag _ => false
  | .tp _ => false
  | _ => true
noncomputable def c1s (l : List CV) (x : Bool) : Bool := List.rec x (fun c _ ih => CV.rec (motive_1 := fun _ => Bool) (motive_2 := fun _ => PUnit) (fun _ _ => ih) (fun _ _ => ih) (fun _ => ih) (fun v => tst v.oneCell' ih) (fun _ _ _ => ih) (fun _ _ _ _ => ih) (fun _ _ _ _ => ih) (fun _ _ _ => ih) (fun _ _ => false) (fun _ _ => false) (fun _ _ _ => ih) .unit (fun _ _ _ _ => .unit) c) l
theorem c1s_t {x : Bool} : ∀ {l : List CV}, c1s l x = true → (∀ c, c ∈ l → c.c1 = true) ∧ x = true
  | [], h => ⟨by simp, h⟩
  | c :: l, h => by
    have key : c.c1 = true ∧ c1s l x = true := by
      cases c with
      | val v => exact tst_t h
      | ag cs => cases h
      | tp cs => cases h
      | _ => exact ⟨rfl, h⟩
    obtain ⟨h1, h2⟩ := c1s_t key.2
    exact ⟨fun d hd => by
      rcases List.mem_cons.1 hd with rfl | hd
      · exact key.1
      · exact h1 d hd, h2⟩
section
variable {G : Gh}
theorem c1_one {x : CV} {y : Value} (h : x.c1 = true) (hr : R G x y) : y.oneCell' = true := by
  cases x with
  | val v => simp only [R] at hr; subst hr; exact h
  | ag cs => cases h
  | tp cs => cases h
  | pos k m => simp only [R] at hr; subst hr; rfl
  | neg k m => simp only [R] at hr; subst hr; rfl
  | bo b => simp only [R] at hr; subst hr; rfl
  | ref r n s => simp only [R] at hr; obtain ⟨_, _, _, rfl⟩ := hr; rfl
  | sub r o n s => simp only [R] at hr; obtain ⟨_, _, A, c, rfl, _⟩ := hr; rfl
  | win r i o n => simp only [R] at hr; obtain ⟨_, A, c, rfl, _⟩ := hr; rfl
  | ptr r i o => simp only [R] at hr; obtain ⟨_, rfl⟩ := hr; rfl
  | cl f cs => simp only [R] at hr; obtain ⟨us, vs, rfl, _⟩ := hr; rfl
theorem cells_of_one {y : Value} (h : y.oneCell' = true) : y.cells = #[y] := by
  cases y <;> first | rfl | (simp [Value.oneCell'] at h)
theorem ofU_c1 {v : Value} (h : (ofU v).c1 = true) : v.oneCell' = true := c1_one (G := ⟨fun _ => False, fun _ => 0, fun _ => 0, fun _ => 0⟩) h (ofU_R v)
theorem Rs.ofUs : ∀ {l : List Value}, (∀ c, c ∈ l.map ofU → c.c1 = true) → Rs G (l.map ofU) l
  | [], _ => by simp [Rs]
  | v :: l, h => by
    simp only [List.map_cons, Rs]
    exact ⟨v, l, rfl, ofU_R v, ofU_c1 (h _ (by simp)), Rs.ofUs fun c hc => h c (by simp [hc])⟩
end
noncomputable def vCs {β : Type} (K : Array Value → β) (E : Value → β) (v : Value) : β :=
  Value.rec (motive_1 := fun _ => β) (motive_2 := fun _ => PUnit) (motive_3 := fun _ => PUnit) (fun b => E (.bool b)) (fun k n => E (.int k n)) (fun k b => E (.float k b)) (fun k r i => E (.complex k r i)) (fun s => E (.string s))
    (fun a => E (.pointer a)) (fun a n c => E (.slice a n c)) (fun r => E (.map r)) (fun r => E (.chan r)) (fun f a b _ _ => E (.func f a b)) (E .nilFunc) (fun t v _ => E (.iface t v)) (E .nilIface) (fun cs _ => K cs) (fun cs _ => E (.tuple cs))
    (fun _ _ => .unit) .unit (fun _ _ _ _ => .unit) v
/- The cells of a struct or an array. -/
noncomputable def agV (K : List CV → Bool) (v : Value) : Bool := vCs (fun cs => fL (mapL ofU cs.toList) fun l => c1s l (K l)) (fun _ => false) v
noncomputable def agK (K : List CV → Bool) (x : CV) : Bool :=
  CV.rec (motive_1 := fun _ => Bool) (motive_2 := fun _ => PUnit) (fun _ _ => false) (fun _ _ => false) (fun _ => false) (agV K) (fun _ _ _ => false) (fun _ _ _ _ => false) (fun _ _ _ _ => false) (fun _ _ _ => false) (fun cs _ => K cs) (fun _ _ => false) (fun _ _ _ => false) .unit (fun _ _ _ _ => .unit) x
/- The cells of whatever may be stored. -/
noncomputable def ccV (K : List CV → Bool) (v : Value) : Bool := vCs (fun cs => fL (mapL ofU cs.toList) fun l => c1s l (K l)) (fun v => tst v.oneCell' (K [.val v])) v
noncomputable def ccK (K : List CV → Bool) (x : CV) : Bool :=
  CV.rec (motive_1 := fun _ => Bool) (motive_2 := fun _ => PUnit) (fun k m => K [.pos k m]) (fun k m => K [.neg k m]) (fun b => K [.bo b]) (ccV K) (fun r n s => K [.ref r n s]) (fun r o n s => K [.sub r o n s]) (fun r i o n => K [.win r i o n]) (fun r i o => K [.ptr r i o]) (fun cs _ => K cs) (fun _ _ => false) (fun f cs _ => K [.cl f cs]) .unit (fun _ _ _ _ => .unit) x
theorem agC {K : List CV → Bool} {cs : Array Value} (h : (fL (mapL ofU cs.toList) fun l => c1s l (K l)) = true) : ∃ l, K l = true ∧ ∀ G, Rs G l cs.toList := by
  rw [fL_eq, mapL_eq] at h
  obtain ⟨h1, h2⟩ := c1s_t h
  exact ⟨_, h2, fun G => Rs.ofUs h1⟩
theorem agK_t {K : List CV → Bool} {x : CV} (h : agK K x = true) : ∃ l, K l = true ∧ ∀ G y, R G x y → ∃ vs : List Value, y = .agg vs.toArray ∧ Rs G l vs := by
  cases x with
  | ag cs => exact ⟨cs, h, fun G y hr => by simpa only [R] using hr⟩
  | val v =>
    cases v with
    | agg cs =>
      obtain ⟨l, h1, h2⟩ := agC (K := K) h
      exact ⟨l, h1, fun G y hr => ⟨cs.toList, by simp only [R] at hr; rw [hr], h2 G⟩⟩
    | _ => cases h
  | _ => cases h
theorem ccV_one {K : List CV → Bool} {v : Value} (h : ∀ cs, v ≠ .agg cs) : ccV K v = tst v.oneCell' (K [.val v]) := by
  cases v with
  | agg cs => exact (h cs rfl).elim
  | _ => rfl
theorem v_agg (v : Value) : (∃ cs, v = .agg cs) ∨ ∀ cs, v ≠ .agg cs := by
  cases v with
  | agg cs => exact .inl ⟨cs, rfl⟩
  | _ => exact .inr fun cs h => by cases h
theorem ccK_t {K : List CV → Bool} {x : CV} (h : ccK K x = true) : ∃ l, K l = true ∧ ∀ G y, R G x y → Rs G l y.cells.toList := by
  have one : x.c1 = true → K [x] = true → ∃ l, K l = true ∧ ∀ G y, R G x y → Rs G l y.cells.toList := fun h1 h2 => ⟨[x], h2, fun G y hr => by
    have := c1_one h1 hr
    rw [cells_of_one this]
    simp only [Rs]
    exact ⟨y, [], rfl, hr, this, rfl⟩⟩
  cases x with
  | ag cs => exact ⟨cs, h, fun G y hr => by
      simp only [R] at hr
      obtain ⟨vs, rfl, hr⟩ := hr
      simpa [Value.cells] using hr⟩
  | val v =>
    rcases v_agg v with ⟨cs, rfl⟩ | hv
    · obtain ⟨l, h1, h2⟩ := agC (K := K) h
      exact ⟨l, h1, fun G y hr => by
        simp only [R] at hr
        subst hr
        exact h2 G⟩
    · obtain ⟨h1, h2⟩ := tst_t ((ccV_one hv).symm.trans (show ccV K v = true from h))
      exact one h1 h2
  | tp cs => cases h
  | _ => exact one rfl h

/- Its value, where it has no memory. -/
def CV.gr : CV → Option Value
  | .pos k m => some (.int k (.ofNat m))
  | .neg k m => some (.int k (.negSucc m))
  | .bo b => some (.bool b)
  | _ => none
theorem gr_eq {G : Gh} {x : CV} {v y : Value} (h : x.gr = some v) (hr : R G x y) : y = v := by
  cases x <;> simp only [CV.gr] at h <;> first | (cases h; done) | (injection h with h; subst h; simpa only [R] using hr)
theorem gr_R {G : Gh} {x : CV} {v : Value} (h : x.gr = some v) : R G x v := by
  cases x <;> simp only [CV.gr] at h <;> first | (cases h; done) | (injection h with h; subst h; simp only [R])

/- Numbers. -/
abbrev KV := CV → Bool
noncomputable def yN (k : IntKind) (n : Nat) (K : KV) : Bool := fN n fun m => K (.pos k m)
noncomputable def yI (k : IntKind) (n : Int) (K : KV) : Bool := Int.rec (fun m => fN m fun m => K (.pos k m)) (fun m => fN m fun m => K (.neg k m)) n
noncomputable def yB (b : Bool) (K : KV) : Bool := Bool.rec (K (.bo false)) (K (.bo true)) b
/- It goes on with a value that stands for y. -/
def Goes (K : KV) (y : Value) : Prop := ∃ v, K v = true ∧ v.gr = some y
theorem yN_t {k : IntKind} {n : Nat} {K : KV} (h : yN k n K = true) : Goes K (.int k (.ofNat n)) := ⟨_, h, rfl⟩
theorem yI_t {k : IntKind} {n : Int} {K : KV} (h : yI k n K = true) : Goes K (.int k n) := by
  cases n <;> exact ⟨_, h, rfl⟩
theorem yB_t {b : Bool} {K : KV} (h : yB b K = true) : Goes K (.bool b) := by
  cases b <;> exact ⟨_, h, rfl⟩
theorem Goes.of_eq {K : KV} {x y : Value} (h : Goes K x) (e : x = y) : Goes K y := e ▸ h
noncomputable def kc (k : IntKind) : Nat := IntKind.rec 0 1 2 3 4 5 6 7 k
noncomputable def keq (k k' : IntKind) : Bool := Nat.beq (kc k) (kc k')
theorem keq_t {k k' : IntKind} (h : keq k k' = true) : k = k' := by
  have : kc k = kc k' := Nat.eq_of_beq_eq_true h
  cases k <;> cases k' <;> first | rfl | (exact absurd this (by decide))
noncomputable def kb (k : IntKind) : Nat := IntKind.rec 8 16 32 64 8 16 32 64 k
theorem kb_eq (k : IntKind) : kb k = k.bits := by cases k <;> rfl
/- A number that is not below 0, wrapped. -/
noncomputable def wN (k : IntKind) : Nat → KV → Bool :=
  IntKind.rec (fun n K => yI .i8 (IntKind.wrap .i8 (.ofNat n)) K) (fun n K => yI .i16 (IntKind.wrap .i16 (.ofNat n)) K) (fun n K => yI .i32 (IntKind.wrap .i32 (.ofNat n)) K)
    (fun n K => Bool.rec (yI .i64 (IntKind.wrap .i64 (.ofNat n)) K) (yN .i64 n K) (Nat.blt n 9223372036854775808)) (fun n K => yN .u8 (Nat.mod n 256) K) (fun n K => yN .u16 (Nat.mod n 65536) K) (fun n K => yN .u32 (Nat.mod n 4294967296) K) (fun n K => yN .u64 (Nat.mod n 18446744073709551616) K) k
theorem wrap_u (n m : Nat) (k : IntKind) (hk : k.signed = false) (hm : (2 : Int) ^ k.bits = (m : Int)) : k.wrap (.ofNat n) = .ofNat (n % m) := by
  simp only [IntKind.wrap, hk, Bool.false_and, Bool.false_eq_true, if_false, hm]
  rfl
theorem wrap_i64_small {n : Nat} (h : n < 9223372036854775808) : IntKind.i64.wrap (.ofNat n) = .ofNat n := by
  have : IntKind.i64.wrap (n : Int) = (n : Int) := by
    rw [IntKind.wrap_i64]
    omega
  exact this
theorem wN_t {k : IntKind} {n : Nat} {K : KV} (h : wN k n K = true) : Goes K (.int k (k.wrap (.ofNat n))) := by
  cases k with
  | i8 => exact yI_t h
  | i16 => exact yI_t h
  | i32 => exact yI_t h
  | i64 =>
    cases hb : Nat.blt n 9223372036854775808 with
    | false =>
      have h' : yI .i64 (IntKind.wrap .i64 (.ofNat n)) K = true := by
        have : wN .i64 n K = Bool.rec (yI .i64 (IntKind.wrap .i64 (.ofNat n)) K) (yN .i64 n K) (Nat.blt n 9223372036854775808) := rfl
        rw [this, hb] at h
        exact h
      exact yI_t h'
    | true =>
      have h' : yN .i64 n K = true := by
        have : wN .i64 n K = Bool.rec (yI .i64 (IntKind.wrap .i64 (.ofNat n)) K) (yN .i64 n K) (Nat.blt n 9223372036854775808) := rfl
        rw [this, hb] at h
        exact h
      refine (yN_t h').of_eq ?_
      rw [wrap_i64_small (Nat.le_of_ble_eq_true hb)]
  | u8 => exact (yN_t h).of_eq (by rw [wrap_u n 256 .u8 rfl rfl]; rfl)
  | u16 => exact (yN_t h).of_eq (by rw [wrap_u n 65536 .u16 rfl rfl]; rfl)
  | u32 => exact (yN_t h).of_eq (by rw [wrap_u n 4294967296 .u32 rfl rfl]; rfl)
  | u64 => exact (yN_t h).of_eq (by rw [wrap_u n 18446744073709551616 .u64 rfl rfl]; rfl)
end Go.Proofs.YteanccnggaakeaaGreat
