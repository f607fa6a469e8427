/- Books: full ones, orders of trades, legs at once. In plain Lean. No condition. -/
import Derived.Test.YtdgkiemehmmobaaSpecKC
namespace Go.Proofs.Ytdgkiemehmmobaa
open Go.RowKit
set_option linter.unusedVariables false
set_option linter.unusedSimpArgs false
/- Trades, one behind the other, those that may not be left out. -/
def opB (b : BookV) (t : TradeV) : BookV := bif enterE b t == 0 then enterV b t else b
def ordB (l : List TradeV) : BookV := l.foldl opB ⟨0, [], []⟩
def cntT : List TradeV → Nat
  | [] => 0
  | t :: l => (bif rtOk t then 1 else 0) + cntT l
def tF (f : PosV → Int) (w n : Int) : List TradeV → Int
  | [] => 0
  | t :: l => (bif rtOk t then sF f w n (legs t) else 0) + tF f w n l
theorem cntT_app : ∀ a b : List TradeV, cntT (a ++ b) = cntT a + cntT b
  | [], b => by simp [cntT]
  | t :: a, b => by simp only [List.cons_append, cntT, cntT_app a b]; omega
theorem tF_app (f : PosV → Int) (w n : Int) : ∀ a b : List TradeV, tF f w n (a ++ b) = tF f w n a + tF f w n b
  | [], b => by simp [tF]
  | t :: a, b => by simp only [List.cons_append, tF, tF_app f w n a b]; omega
theorem cntT_len : ∀ l : List TradeV, cntT l ≤ l.length
  | [] => by simp [cntT]
  | t :: l => by have := cntT_len l; simp only [cntT, List.length_cons]; cases rtOk t <;> simp <;> omega
theorem cntT_rev : ∀ l : List TradeV, cntT l.reverse = cntT l
  | [] => rfl
  | t :: l => by rw [List.reverse_cons, cntT_app, cntT_rev l]; simp only [cntT]; omega
theorem tF_rev (f : PosV → Int) (w n : Int) : ∀ l : List TradeV, tF f w n l.reverse = tF f w n l
  | [] => rfl
  | t :: l => by rw [List.reverse_cons, tF_app, tF_rev f w n l]; simp only [tF]; omega
theorem tF_bnd (w n : Int) : ∀ l : List TradeV, (-(1048576 * (l.length : Int)) ≤ tF PosV.qty w n l ∧ tF PosV.qty w n l ≤ 1048576 * (l.length : Int)) ∧ -(1125899906842624 * (l.length : Int)) ≤ tF PosV.cost w n l ∧ tF PosV.cost w n l ≤ 1125899906842624 * (l.length : Int)
  | [] => by simp [tF]
  | t :: l => by
    have ih := tF_bnd w n l
    simp only [tF, List.length_cons]
    cases hr : rtOk t with
    | false => simp only [cond_false]; omega
    | true => have := legs_sum hr w n; simp only [cond_true]; omega
structure OrdI (l : List TradeV) (b : BookV) : Prop where
  good : GoodB b
  nx : b.next = cntT l
  len : b.trades.length = cntT l
  sum : ∀ w n, keyOk w n = true → sF PosV.qty w n b.poss = tF PosV.qty w n l ∧ sF PosV.cost w n b.poss = tF PosV.cost w n l
  tr : ∀ t ∈ b.trades, t.gone = false ∧ ∃ s ∈ l, rtOk s = true ∧ t = setNo s t.no
theorem ord_fit {l : List TradeV} {b : BookV} (h : OrdI l b) (hl : l.length ≤ 200) {t : TradeV} (hr : rtOk t = true) : ∀ k ∈ allK, jFit (b.poss ++ legs t) k := fun k hk => by
  have h1 := h.sum k.1 k.2 (allK_mem.1 hk)
  have h2 := tF_bnd k.1 k.2 l
  have h3 := legs_sum hr k.1 k.2
  exact ⟨by rw [sF_app, h1.1]; omega, by rw [sF_app, h1.2]; exact rightN_iff.2 (by omega)⟩
theorem ord_enter {l : List TradeV} {b : BookV} (h : OrdI l b) (hl : l.length ≤ 200) (hc : cntT l < 128) (t : TradeV) : enterE b t = 0 ↔ rtOk t = true := by
  constructor
  · intro he; exact (enter_ok.1 he).2.1
  · intro hr
    exact enter_ok.2 ⟨h.good, hr, by rw [h.len]; exact hc, by rw [h.nx]; omega, ord_fit h hl hr⟩
theorem ord_step {l : List TradeV} {b : BookV} (h : OrdI l b) (hl : l.length ≤ 200) (hc : cntT l < 128) (t : TradeV) : OrdI (l ++ [t]) (opB b t) := by
  simp only [opB]
  by_cases hr : rtOk t = true
  · have he := (ord_enter h hl hc t).2 hr
    rw [show (enterE b t == 0) = true by simpa using he, cond_true]
    have hv := (enter_val he).1
    have htr : (enterV b t).trades = b.trades ++ [setNo t (b.next + 1)] := by rw [hv]
    refine ⟨enter_good he, by rw [hv, cntT_app]; simp only [cntT, hr]; have := h.nx; simp; omega, by rw [htr, cntT_app]; simp [cntT, hr, h.len], fun w n hk => ?_, fun s hs => ?_⟩
    · have h1 := enter_sum he hk
      have h2 := h.sum w n hk
      rw [h1.1, h1.2, h2.1, h2.2, tF_app, tF_app]
      simp [tF, hr]
    · rw [htr] at hs
      rcases List.mem_append.1 hs with hs | hs
      · obtain ⟨h1, u, hu, h2⟩ := h.tr s hs
        exact ⟨h1, u, by simp [hu], h2⟩
      · obtain rfl := List.mem_singleton.1 hs
        exact ⟨rfl, t, by simp, hr, rfl⟩
  · have hr : rtOk t = false := by simpa using hr
    have he : enterE b t ≠ 0 := fun e => by rw [(enter_ok.1 e).2.1] at hr; cases hr
    rw [show (enterE b t == 0) = false by simpa using he, cond_false]
    refine ⟨h.good, by rw [cntT_app]; simp [cntT, hr, h.nx], by rw [cntT_app]; simp [cntT, hr, h.len], fun w n hk => ?_, fun s hs => ?_⟩
    · have h2 := h.sum w n hk
      rw [h2.1, h2.2, tF_app, tF_app]
      simp [tF, hr]
    · obtain ⟨h1, u, hu, h2⟩ := h.tr s hs
      exact ⟨h1, u, by simp [hu], h2⟩
theorem ord0 : OrdI [] ⟨0, [], []⟩ := ⟨goodB0, rfl, rfl, fun w n _ => ⟨rfl, rfl⟩, fun t ht => by cases ht⟩
theorem ordB_snoc (l : List TradeV) (t : TradeV) : ordB (l ++ [t]) = opB (ordB l) t := by simp [ordB]
theorem ord_go : ∀ (post pre : List TradeV) (b : BookV), OrdI pre b → (pre ++ post).length ≤ 128 → OrdI (pre ++ post) (post.foldl opB b)
  | [], pre, b, h, _ => by simpa using h
  | t :: post, pre, b, h, hl => by
    have hl' := hl
    simp only [List.length_append, List.length_cons] at hl'
    have hc := cntT_len pre
    have := ord_go post (pre ++ [t]) (opB b t) (ord_step h (by omega) (by omega) t) (by simpa using hl)
    simpa using this
theorem ord_inv (l : List TradeV) (hl : l.length ≤ 128) : OrdI l (ordB l) := by
  have := ord_go l [] _ ord0 (by simpa using hl)
  simpa [ordB] using this
theorem order_law {l : List TradeV} (hl : l.length ≤ 60) : (ordB l).poss = (ordB l.reverse).poss ∧ (ordB l).next = (ordB l.reverse).next := by
  have h1 := ord_inv l (by omega)
  have h2 := ord_inv l.reverse (by simp; omega)
  refine ⟨good_ext h1.good h2.good fun w n hk => ?_, by rw [h1.nx, h2.nx, cntT_rev]⟩
  have e1 := h1.sum w n hk
  have e2 := h2.sum w n hk
  rw [e1.1, e1.2, e2.1, e2.2, tF_rev, tF_rev]
  exact ⟨rfl, rfl⟩
theorem ordB_len (l : List TradeV) (hl : l.length ≤ 128) : (ordB l).trades.length ≤ 128 ∧ (ordB l).poss.length ≤ 128 := grow_len (ord_inv l hl).good
/- One trade, many times. -/
def repB (t : TradeV) (i : Nat) : BookV := ordB (List.replicate i t)
theorem repB_succ (t : TradeV) (i : Nat) : repB t (i + 1) = opB (repB t i) t := by
  simp only [repB]; rw [List.replicate_succ', ordB_snoc]
theorem cnt_rep {t : TradeV} (hr : rtOk t = true) : ∀ i, cntT (List.replicate i t) = i
  | 0 => rfl
  | i + 1 => by rw [List.replicate_succ]; simp only [cntT, hr, cnt_rep hr i]; simp; omega
theorem rep_inv (t : TradeV) {i : Nat} (hi : i ≤ 128) : OrdI (List.replicate i t) (repB t i) := ord_inv _ (by simpa using hi)
theorem rep_enter {t : TradeV} (hr : rtOk t = true) {i : Nat} (hi : i < 128) : enterE (repB t i) t = 0 ∧ enterN (repB t i) t = i + 1 ∧ enterV (repB t i) t = repB t (i + 1) := by
  have h := rep_inv t (i := i) (by omega)
  have he := (ord_enter h (by simp; omega) (by rw [cnt_rep hr]; exact hi) t).2 hr
  refine ⟨he, ?_, ?_⟩
  · rw [(enter_val he).2, h.nx, cnt_rep hr]
  · rw [repB_succ, opB, he]; rfl
theorem rep_bad {t : TradeV} (hr : rtOk t = false) : enterE ⟨0, [], []⟩ t = 3 := by
  simp only [enterE, (bookOk_iff _).2 goodB0, hr]; rfl
theorem full_E {b : BookV} (hG : GoodB b) {t : TradeV} (hr : rtOk t = true) (hl : b.trades.length = 128) : enterE b t = 9 := by
  simp only [enterE, (bookOk_iff _).2 hG, hr, hl]; rfl
theorem rep_nos {t : TradeV} (hr : rtOk t = true) : ∀ {i : Nat}, i ≤ 128 → (repB t i).trades = (List.range i).map fun (j : Nat) => setNo t ((j : Int) + 1)
  | 0, _ => rfl
  | i + 1, hi => by
    obtain ⟨he, _, hv⟩ := rep_enter hr (i := i) (by omega)
    have h := rep_inv t (i := i) (by omega)
    rw [← hv, (enter_val he).1]
    simp only
    rw [rep_nos hr (by omega), h.nx, cnt_rep hr, List.range_succ, List.map_append]
    rfl
theorem full_lawN {t : TradeV} (hr : rtOk t = true) {N : Nat} (hN : N = 128) {no : Int} (h1 : 1 ≤ no) (h2 : no ≤ 128) :
    enterE (repB t N) t = 9 ∧ correctE (repB t N) no t.qty t.price = 9 ∧ enterE (clearB (repB t N)) t = 0 ∧ enterN (clearB (repB t N)) t = 129 ∧ (enterV (clearB (repB t N)) t).trades.length = 1 ∧ (clearB (repB t N)).poss = (repB t N).poss := by
  have h := rep_inv t (i := N) (by omega)
  have hc := cnt_rep hr N
  have hlen : (repB t N).trades.length = 128 := by rw [h.len, hc, hN]
  have hno := rep_nos hr (i := N) (by omega)
  have hG := h.good
  have hClr : GoodB (clearB (repB t N)) := ⟨hG.nx0, hG.nx1, by simp [clearB], (fun t ht => by cases ht), List.Pairwise.nil, hG.ok, hG.asc, hG.lev⟩
  have hce : enterE (clearB (repB t N)) t = 0 := enter_ok.2 ⟨hClr, hr, by simp [clearB], by simp only [clearB]; rw [h.nx, hc, hN]; decide, ord_fit h (by simp; omega) hr⟩
  have hany : (repB t N).trades.any (hit no) = true := by
    obtain ⟨j, rfl⟩ := Int.eq_ofNat_of_zero_le (show 0 ≤ no by omega)
    rw [hno, List.any_eq_true]
    exact ⟨setNo t (((j - 1 : Nat) : Int) + 1), List.mem_map.2 ⟨j - 1, List.mem_range.2 (by omega), rfl⟩, by simp [hit, setNo]; omega⟩
  have hca : cancelE (repB t N) no = 0 := by
    refine cancel_ok.2 ⟨hG, hany, ?_⟩
    obtain ⟨pre, x, post, e, hp, hx⟩ := any_split hany
    have hf : firstT (hit no) (repB t N).trades = x := by rw [e]; exact firstT_hit hp hx
    have hxm : x ∈ (repB t N).trades := by rw [e]; simp
    have hxr := (hG.tr x hxm).1
    rw [hf]
    refine add_ok.2 ⟨hG, (legs_rt hxr).2, fun n _ _ => (legs_lev hxr n).2.2.1, fun k hk => ?_⟩
    have a1 := h.sum k.1 k.2 (allK_mem.1 hk)
    have a2 := tF_bnd k.1 k.2 (List.replicate N t)
    have a3 := legs_sum hxr k.1 k.2
    have a4 := undo_sum hxr k.1 k.2
    simp only [List.length_replicate] at a2
    exact ⟨by rw [sF_app, a1.1, a4.1]; omega, by rw [sF_app, a1.2, a4.2]; exact rightN_iff.2 (by omega)⟩
  have hD := cancel_good hca
  have hdl : (cancelV (repB t N) no).trades.length = 128 := by rw [cancel_val hca]; simp only [markOff_len]; exact hlen
  refine ⟨full_E hG hr hlen, ?_, hce, ?_, ?_, rfl⟩
  · rw [(correct_val hca).1]
    refine full_E hD ?_ hdl
    obtain ⟨A, y, C, e, hA, hy⟩ := any_split (noIs_any hca)
    have hfy : firstT (noIs no) (cancelV (repB t N) no).trades = y := by rw [e]; exact firstT_hit hA hy
    have hym : y ∈ (cancelV (repB t N) no).trades := by rw [e]; simp
    have hsame : ∀ z ∈ (cancelV (repB t N) no).trades, z.buyer = t.buyer ∧ z.seller = t.seller ∧ z.inst = t.inst := by
      obtain ⟨pre, x, post, e1, _, hx, _, _, e2⟩ := cancel_split hca
      have hall : ∀ z ∈ (repB t N).trades, z.buyer = t.buyer ∧ z.seller = t.seller ∧ z.inst = t.inst := fun z hz => by
        rw [hno] at hz
        obtain ⟨j, _, rfl⟩ := List.mem_map.1 hz
        exact ⟨rfl, rfl, rfl⟩
      rw [e1] at hall
      intro z hz
      rw [cancel_val hca] at hz
      simp only at hz
      rw [e2] at hz
      rcases List.mem_append.1 hz with hz | hz
      · exact hall z (by simp [hz])
      · rcases List.mem_cons.1 hz with rfl | hz
        · exact hall x (by simp)
        · exact hall z (by simp [hz])
    have hs := hsame y hym
    rw [correctT, hfy]
    simp only [rtOk, chg, hs.1, hs.2.1, hs.2.2]
    exact hr
  · rw [(enter_val hce).2]; simp only [clearB]; rw [h.nx, hc, hN]; rfl
  · rw [(enter_val hce).1]; simp [clearB]
theorem full_law {t : TradeV} (hr : rtOk t = true) {no : Int} (h1 : 1 ≤ no) (h2 : no ≤ 128) :
    enterE (repB t 128) t = 9 ∧ correctE (repB t 128) no t.qty t.price = 9 ∧ enterE (clearB (repB t 128)) t = 0 ∧ enterN (clearB (repB t 128)) t = 129 ∧ (enterV (clearB (repB t 128)) t).trades.length = 1 ∧ (clearB (repB t 128)).poss = (repB t 128).poss := full_lawN hr rfl h1 h2
/- Legs at once. -/
theorem parts_law {b c : BookV} {j k : Int} (hb : InvB b j) (hc : InvB c k) (he : addE b c.poss = 0) :
    (∀ p ∈ c.poss, (ofP p.who p.inst (addV b c.poss).poss).qty = (ofP p.who p.inst b.poss).qty + p.qty ∧ (ofP p.who p.inst (addV b c.poss).poss).cost = (ofP p.who p.inst b.poss).cost + p.cost ∧
      IntKind.wrap .i64 ((ofP p.who p.inst b.poss).qty + p.qty) = (ofP p.who p.inst b.poss).qty + p.qty ∧ IntKind.wrap .i64 ((ofP p.who p.inst b.poss).cost + p.cost) = (ofP p.who p.inst b.poss).cost + p.cost) ∧
    (∀ p ∈ b.poss, (ofP p.who p.inst c.poss).qty = 0 → (ofP p.who p.inst c.poss).cost = 0 → ofP p.who p.inst (addV b c.poss).poss = p) ∧
    addE c b.poss = 0 ∧ (addV c b.poss).poss = (addV b c.poss).poss := by
  have hX := add_good he
  have hsum : ∀ w n, keyOk w n = true → sF PosV.qty w n (addV b c.poss).poss = sF PosV.qty w n b.poss + sF PosV.qty w n c.poss ∧ sF PosV.cost w n (addV b c.poss).poss = sF PosV.cost w n b.poss + sF PosV.cost w n c.poss := fun w n hk => add_sum he hk
  have hob := fun w n => ofP_sum (w := w) (n := n) hb.good.asc
  have hoc := fun w n => ofP_sum (w := w) (n := n) hc.good.asc
  have hox := fun w n => ofP_sum (w := w) (n := n) hX.asc
  have he2 : addE c b.poss = 0 := by
    refine add_ok.2 ⟨hc.good, hb.good.rt, hb.good.lev, fun q hq => ?_⟩
    have := (add_ok.1 he).2.2.2 q hq
    refine ⟨?_, ?_⟩
    · have h1 := this.1
      rw [sF_app] at h1 ⊢
      omega
    · have h1 := this.2
      rw [sF_app] at h1 ⊢
      rw [Int.add_comm]; exact h1
  refine ⟨fun p hp => ?_, fun p hp h1 h2 => ?_, he2, ?_⟩
  · have hk := (posOk_iff.1 (hc.good.ok p hp)).1
    have hs := hsum p.who p.inst hk
    have a1 := asc_key hc.good.asc hp PosV.qty
    have a2 := asc_key hc.good.asc hp PosV.cost
    have hf := good_fit hX (w := p.who) (n := p.inst)
    have hr := rightN_iff.1 hf.2
    simp only [hob, hox]
    rw [hs.1, hs.2, a1, a2] at *
    exact ⟨rfl, rfl, wrapI (by omega) (by omega), wrapI (by omega) (by omega)⟩
  · have hk := (posOk_iff.1 (hb.good.ok p hp)).1
    have hs := hsum p.who p.inst hk
    have a1 := asc_key hb.good.asc hp PosV.qty
    have a2 := asc_key hb.good.asc hp PosV.cost
    simp only [hoc] at h1 h2
    rw [hox, hs.1, hs.2, h1, h2, a1, a2]
    simp
  · refine good_ext (add_good he2) hX fun w n hk => ?_
    have h1 := add_sum he2 hk
    have h2 := hsum w n hk
    rw [h1.1, h1.2, h2.1, h2.2]
    constructor <;> omega
def posEq (p q : PosV) : Bool := (p.who == q.who && p.inst == q.inst) && p.qty == q.qty && p.cost == q.cost
theorem posEq_refl (p : PosV) : posEq p p = true := by simp [posEq]
end Go.Proofs.Ytdgkiemehmmobaa
