/- Models: the grammar. -/
import Derived.Test.YtecljjcmjongfaaM1
namespace Go.Proofs.Ytecljjcmjongfaa.Ax
open Go.RowKit
set_option linter.unusedSimpArgs false
set_option linter.unusedVariables false

structure Mr where
  plan : Pln
  s : List UInt8
  at_ : Int
  out : List Ev
  fail : Ev
  deriving Inhabited
def mrFail (r : Mr) (c a : Int) : Mr := ⟨r.plan, r.s, r.at_, r.out, failEv c a⟩
def mrAt (r : Mr) (a : Int) : Mr := ⟨r.plan, r.s, a, r.out, r.fail⟩
def mrTell (r : Mr) (e : Ev) : Mr := ⟨r.plan, r.s, r.at_, r.out ++ [e], r.fail⟩
def mrVarOk (r : Mr) (end_ : Int) : Bool := decide ((varWithin r.s r.at_ end_).2.2 = 0)
def mrVarU (r : Mr) (end_ : Int) : Int := if mrVarOk r end_ then (varWithin r.s r.at_ end_).1 else 0
def mrVar (r : Mr) (end_ : Int) : Mr := if mrVarOk r end_ then mrAt r (varWithin r.s r.at_ end_).2.1 else mrFail r (varWithin r.s r.at_ end_).2.2 (varWithin r.s r.at_ end_).2.1
def mrFixOk (r : Mr) (w end_ : Int) : Bool := decide (w ≤ end_ - r.at_) && getFixOk r.s r.at_ w
def mrFixU (r : Mr) (w end_ : Int) : Int := if mrFixOk r w end_ then getFix r.s r.at_ w else 0
def mrFix (r : Mr) (w end_ : Int) : Mr := if end_ - r.at_ < w then mrFail r 9 r.at_ else if getFixOk r.s r.at_ w then mrAt r (r.at_ + w) else mrFail r 10 (r.s.length : Int)
def mrValOk (r : Mr) (wire end_ : Int) : Bool := if 0 < widthOf wire then mrFixOk r (widthOf wire) end_ else mrVarOk r end_
def mrValU (r : Mr) (wire end_ : Int) : Int := if 0 < widthOf wire then mrFixU r (widthOf wire) end_ else mrVarU r end_
def mrVal (r : Mr) (wire end_ : Int) : Mr := if 0 < widthOf wire then mrFix r (widthOf wire) end_ else mrVar r end_
/-- A number that is read, and told where the field is known. -/
def numStep (r : Mr) (f : Fld) (wire end_ : Int) : Mr := if mrValOk r wire end_ = true ∧ 0 < f.number then mrTell (mrVal r wire end_) (numEv f (mrValU r wire end_)) else mrVal r wire end_
/-- A step that is taken again and again. -/
def loopM {α : Type} (go : α → Bool) (step : α → α) : Nat → α → α
  | 0, a => a
  | k + 1, a => if go a then loopM go step k (step a) else a
theorem loopM_stop {α : Type} {go : α → Bool} {step : α → α} {k : Nat} {a : α} (h : go a = false) : loopM go step k a = a := by
  cases k with
  | zero => rfl
  | succ k => simp [loopM, h]
theorem loopM_fuel {α : Type} {go : α → Bool} {step : α → α} (inv : α → Prop) (μ : α → Nat) (dec : ∀ a, inv a → go a = true → inv (step a) ∧ μ (step a) < μ a) : ∀ (n : Nat) (a : α) (k l : Nat), μ a ≤ n → inv a → μ a ≤ k → μ a ≤ l → loopM go step k a = loopM go step l a := by
  intro n
  induction n with
  | zero =>
    intro a k l h hi _ _
    cases hg : go a with
    | false => rw [loopM_stop hg, loopM_stop hg]
    | true => have := (dec a hi hg).2; omega
  | succ n ih =>
    intro a k l h hi hk hl
    cases hg : go a with
    | false => rw [loopM_stop hg, loopM_stop hg]
    | true =>
      obtain ⟨h1, h2⟩ := dec a hi hg
      obtain ⟨k, rfl⟩ : ∃ j, k = j + 1 := ⟨k - 1, by omega⟩
      obtain ⟨l, rfl⟩ : ∃ j, l = j + 1 := ⟨l - 1, by omega⟩
      simp only [loopM, hg, if_true]
      exact ih _ _ _ (by omega) h1 (by omega) (by omega)
theorem loopM_go {α : Type} {go : α → Bool} {step : α → α} (inv : α → Prop) (μ : α → Nat) (dec : ∀ a, inv a → go a = true → inv (step a) ∧ μ (step a) < μ a) {a : α} (hi : inv a) (hg : go a = true) : loopM go step (μ a) a = loopM go step (μ (step a)) (step a) := by
  obtain ⟨h1, h2⟩ := dec a hi hg
  obtain ⟨k, hk⟩ : ∃ j, μ a = j + 1 := ⟨μ a - 1, by omega⟩
  rw [hk]
  simp only [loopM, hg, if_true]
  exact loopM_fuel inv μ dec _ _ _ _ (Nat.le_refl _) h1 (by omega) (Nat.le_refl _)
def mrGo (end_ : Int) (r : Mr) : Bool := decide (r.at_ < end_) && decide (r.fail.kind = 0)
def mrMu (r : Mr) : Nat := if r.fail.kind = 0 then (1 + (r.s.length : Int) - r.at_).toNat else 0
def mrRun (r : Mr) (f : Fld) (end_ : Int) : Mr := loopM (mrGo end_) (fun r => numStep r f (wireOf f.kind) end_) (mrMu r) r
def openEv (f : Fld) (n : Int) : Ev := ⟨3, f.number, 0, n, [], 0, 0⟩
def partEv (t : List UInt8) : Ev := ⟨4, 0, 0, 0, t, 0, 0⟩
def shutEv : Ev := ⟨5, 0, 0, 0, [], 0, 0⟩
def downEv (f : Fld) (n : Int) : Ev := ⟨6, f.number, 0, n, [], 0, 0⟩
def upEv : Ev := ⟨7, 0, 0, 0, [], 0, 0⟩
def txtThere (r : Mr) (n : Int) : List UInt8 := (r.s.drop r.at_.toNat).take n.toNat
def txtBad (r : Mr) (f : Fld) (n : Int) : Int := if f.kind = 6 then utfBad utf0 (txtThere r n) else -1
def txtSt (r : Mr) (f : Fld) (n : Int) : Utf := if f.kind = 6 then utfSt utf0 (txtThere r n) else utf0
def txtGood (r : Mr) (f : Fld) (n : Int) : List UInt8 := if 0 ≤ txtBad r f n then (txtThere r n).take (txtBad r f n).toNat else txtThere r n
def txtTold (r : Mr) (f : Fld) (n : Int) : Mr := if txtGood r f n = [] then mrTell r (openEv f n) else mrTell (mrTell r (openEv f n)) (partEv (txtGood r f n))
def txtOk (r : Mr) (f : Fld) (n : Int) : Bool := decide (txtBad r f n < 0) && decide (n ≤ ((txtThere r n).length : Int)) && decide ((txtSt r f n).want = 0)
def txtStep (r : Mr) (f : Fld) (n : Int) : Mr :=
  if 0 ≤ txtBad r f n then mrFail (txtTold r f n) 5 (r.at_ + txtBad r f n)
  else if ((txtThere r n).length : Int) < n then mrFail (txtTold r f n) 10 (r.s.length : Int)
  else if (txtSt r f n).want ≠ 0 then mrFail (txtTold r f n) 5 (r.at_ + n)
  else mrTell (mrAt (txtTold r f n) (r.at_ + n)) shutEv
/-- A value with a length; 'sub' reads a message within. -/
def longStep (sub : Mr → Fld → Int → Int → Mr) (r : Mr) (f : Fld) (known : Bool) (end_ : Int) : Mr :=
  if mrVarOk r end_ = false then mrVar r end_
  else if end_ - (mrVar r end_).at_ < mrVarU r end_ then mrFail (mrVar r end_) 8 r.at_
  else if known = false then (if (r.s.length : Int) - (mrVar r end_).at_ < mrVarU r end_ then mrFail (mrVar r end_) 10 (r.s.length : Int) else mrAt (mrVar r end_) ((mrVar r end_).at_ + mrVarU r end_))
  else if f.kind = 8 then sub (mrVar r end_) f (mrVarU r end_) r.at_
  else if numeric f.kind = true then mrRun (mrVar r end_) f ((mrVar r end_).at_ + mrVarU r end_)
  else txtStep (mrVar r end_) f (mrVarU r end_)
def msgStep (sub : Mr → Fld → Int → Int → Mr) (shape end_ : Int) (r : Mr) : Mr :=
  if mrVarOk r end_ = false then mrVar r end_
  else if tagOk (mrVarU r end_) = false then mrFail (mrVar r end_) 2 r.at_
  else if wireOk (tagWire (mrVarU r end_)) = false then mrFail (mrVar r end_) 3 r.at_
  else if (fieldAt r.plan.shapes shape (tagNum (mrVarU r end_))).isSome = true ∧ allowed ((fieldAt r.plan.shapes shape (tagNum (mrVarU r end_))).getD fld0) (tagWire (mrVarU r end_)) = false then mrFail (mrVar r end_) 4 r.at_
  else if tagWire (mrVarU r end_) = 2 then longStep sub (mrVar r end_) ((fieldAt r.plan.shapes shape (tagNum (mrVarU r end_))).getD fld0) (fieldAt r.plan.shapes shape (tagNum (mrVarU r end_))).isSome end_
  else numStep (mrVar r end_) ((fieldAt r.plan.shapes shape (tagNum (mrVarU r end_))).getD fld0) (tagWire (mrVarU r end_)) end_
/-- A message up to a place; D: how many levels more there may be. -/
def msgN : Nat → Int → Int → Mr → Mr
  | 0, shape, end_, r => loopM (mrGo end_) (msgStep (fun r _ _ start => mrFail r 6 start) shape end_) (mrMu r) r
  | D + 1, shape, end_, r => loopM (mrGo end_) (msgStep (fun r f n _ => if (msgN D f.msg (r.at_ + n) (mrTell r (downEv f n))).fail.kind = 0 then mrTell (msgN D f.msg (r.at_ + n) (mrTell r (downEv f n))) upEv else msgN D f.msg (r.at_ + n) (mrTell r (downEv f n))) shape end_) (mrMu r) r
def subN : Nat → Mr → Fld → Int → Int → Mr
  | 0 => fun r _ _ start => mrFail r 6 start
  | D + 1 => fun r f n _ => if (msgN D f.msg (r.at_ + n) (mrTell r (downEv f n))).fail.kind = 0 then mrTell (msgN D f.msg (r.at_ + n) (mrTell r (downEv f n))) upEv else msgN D f.msg (r.at_ + n) (mrTell r (downEv f n))
theorem msgN_eq (D : Nat) (shape end_ : Int) (r : Mr) : msgN D shape end_ r = loopM (mrGo end_) (msgStep (subN D) shape end_) (mrMu r) r := by
  cases D <;> rfl

/-! ### What steps keep -/
/-- Where a varint ends. -/
theorem vwA_at {s : List UInt8} {a e : Int} : ∀ (f k : Nat) (u : Int), (vwA s a e f k u).2.2 = 0 → a + k < (vwA s a e f k u).2.1 ∧ (vwA s a e f k u).2.1 ≤ e ∧ (vwA s a e f k u).2.1 ≤ (s.length : Int)
  | 0, k, u => by simp [vwA]
  | f + 1, k, u => by
    rw [vwA]
    split
    · simp
    split
    · simp
    split
    · simp
    split
    · simp; omega
    · intro h
      have := vwA_at f (k + 1) _ h
      rw [show ((k + 1 : Nat) : Int) = (k : Int) + 1 by simp] at this
      omega
theorem varWithin_at {s : List UInt8} {a e : Int} (h : (varWithin s a e).2.2 = 0) : 0 ≤ a ∧ a < (varWithin s a e).2.1 ∧ (varWithin s a e).2.1 ≤ e ∧ (varWithin s a e).2.1 ≤ (s.length : Int) := by
  unfold varWithin at h ⊢
  split
  · rename_i hw
    rw [if_pos hw] at h
    have := within_t hw
    have := vwA_at 10 0 0 h
    rw [show ((0 : Nat) : Int) = 0 from rfl] at this
    omega
  · rename_i hw
    rw [if_neg hw] at h
    simp at h
theorem vwA_code {s : List UInt8} {a e : Int} : ∀ (f k : Nat) (u : Int), 0 ≤ (vwA s a e f k u).2.2 ∧ (vwA s a e f k u).2.2 ≤ 10
  | 0, k, u => by simp [vwA]
  | f + 1, k, u => by
    rw [vwA]
    split
    · simp
    split
    · simp
    split
    · simp
    split
    · simp
    · exact vwA_code f (k + 1) _
theorem varWithin_code (s : List UInt8) (a e : Int) : 0 ≤ (varWithin s a e).2.2 ∧ (varWithin s a e).2.2 ≤ 10 := by
  unfold varWithin; split
  · exact vwA_code 10 0 0
  · simp
/-- One goes on from another: the same plan and text; the place is not ahead; no more told than there was room for. -/
structure Adv (r r' : Mr) : Prop where
  plan : r'.plan = r.plan
  s : r'.s = r.s
  at_ : r'.fail.kind = 0 → r.at_ ≤ r'.at_ ∧ r'.at_ ≤ (r.s.length : Int)
  fail : r'.fail.kind = 0 → r'.fail = r.fail
  room : r'.fail.kind = 0 → (r'.out.length : Int) + 4 * ((r.s.length : Int) - r'.at_) ≤ (r.out.length : Int) + 4 * ((r.s.length : Int) - r.at_)
  most : (r'.out.length : Int) ≤ (r.out.length : Int) + 4 * ((r.s.length : Int) - r.at_)
/-- .. and a byte at least is used up where nothing fails. -/
def Adv1 (r r' : Mr) : Prop := Adv r r' ∧ (r'.fail.kind = 0 → r.at_ < r'.at_)
theorem Adv.trans {a b c : Mr} (h : Adv a b) (hb : b.fail.kind = 0) (g : Adv b c) : Adv a c := by
  obtain ⟨h1, h2⟩ := h.at_ hb
  have hr := h.room hb
  have gm := g.most
  rw [h.s] at gm
  refine ⟨g.plan.trans h.plan, g.s.trans h.s, fun hc => ?_, fun hc => (g.fail hc).trans (h.fail hb), fun hc => ?_, by omega⟩
  · have := g.at_ hc
    rw [h.s] at this
    omega
  · have := g.room hc
    rw [h.s] at this
    omega
theorem Adv.refl (r : Mr) (h : r.at_ ≤ (r.s.length : Int)) : Adv r r := ⟨rfl, rfl, fun _ => ⟨Int.le_refl _, h⟩, fun _ => rfl, fun _ => Int.le_refl _, by omega⟩
theorem Adv1.trans {a b c : Mr} (h : Adv1 a b) (hb : b.fail.kind = 0) (g : Adv b c) : Adv1 a c :=
  ⟨h.1.trans hb g, fun hc => by
    have h1 := h.2 hb
    have := g.at_ hc
    omega⟩
theorem failEv_kind (c a : Int) : (failEv c a).kind = 10 := rfl
/-- What fails. -/
theorem Adv.failed {r r' : Mr} (hp : r'.plan = r.plan) (hs : r'.s = r.s) (hk : r'.fail.kind ≠ 0) (ho : (r'.out.length : Int) ≤ (r.out.length : Int) + 4 * ((r.s.length : Int) - r.at_)) : Adv r r' :=
  ⟨hp, hs, fun h => (hk h).elim, fun h => (hk h).elim, fun h => (hk h).elim, ho⟩
theorem Adv1.failed {r r' : Mr} (hp : r'.plan = r.plan) (hs : r'.s = r.s) (hk : r'.fail.kind ≠ 0) (ho : (r'.out.length : Int) ≤ (r.out.length : Int) + 4 * ((r.s.length : Int) - r.at_)) : Adv1 r r' :=
  ⟨Adv.failed hp hs hk ho, fun h => (hk h).elim⟩
theorem mrFail_kind (r : Mr) (c a : Int) : (mrFail r c a).fail.kind ≠ 0 := by simp [mrFail, failEv]
theorem mrFail_adv {r : Mr} {c a : Int} (h : r.at_ ≤ (r.s.length : Int)) : Adv1 r (mrFail r c a) := Adv1.failed rfl rfl (mrFail_kind r c a) (by simp only [mrFail]; omega)
theorem mrVar_ok {r : Mr} {e : Int} (h : mrVarOk r e = true) : mrVar r e = mrAt r (varWithin r.s r.at_ e).2.1 := by unfold mrVar; rw [if_pos h]
theorem mrVar_bad {r : Mr} {e : Int} (h : mrVarOk r e = false) : mrVar r e = mrFail r (varWithin r.s r.at_ e).2.2 (varWithin r.s r.at_ e).2.1 := by unfold mrVar; rw [if_neg (by simp [h])]
theorem mrAt_adv {r : Mr} {a : Int} (h1 : r.at_ < a) (h2 : a ≤ (r.s.length : Int)) : Adv1 r (mrAt r a) :=
  ⟨⟨rfl, rfl, fun _ => ⟨by simp only [mrAt]; omega, h2⟩, fun _ => rfl, fun _ => by simp only [mrAt]; omega, by simp only [mrAt]; omega⟩, fun _ => h1⟩
theorem mrVar_adv {r : Mr} {e : Int} (h1 : r.at_ ≤ (r.s.length : Int)) : Adv1 r (mrVar r e) ∧ (mrVarOk r e = true → 0 ≤ r.at_ ∧ (mrVar r e).at_ ≤ e) ∧ (mrVar r e).out = r.out := by
  cases hok : mrVarOk r e with
  | true =>
    rw [mrVar_ok hok]
    have hc : (varWithin r.s r.at_ e).2.2 = 0 := by simpa [mrVarOk] using hok
    have hv := varWithin_at hc
    exact ⟨mrAt_adv hv.2.1 hv.2.2.2, fun _ => ⟨hv.1, hv.2.2.1⟩, rfl⟩
  | false =>
    rw [mrVar_bad hok]
    exact ⟨mrFail_adv h1, fun h => by simp at h, rfl⟩
theorem mrVarOk_kind {r : Mr} {e : Int} (h0 : r.fail.kind = 0) : mrVarOk r e = decide ((mrVar r e).fail.kind = 0) := by
  cases hok : mrVarOk r e with
  | true => rw [mrVar_ok hok]; simp [mrAt, h0]
  | false => rw [mrVar_bad hok]; rfl
theorem getFixOk_t {s : List UInt8} {a w : Int} (h : getFixOk s a w = true) : (w = 4 ∨ w = 8) ∧ 0 ≤ a ∧ a + w ≤ (s.length : Int) := by
  simp only [getFixOk, Bool.and_eq_true] at h
  have := within_t h.2
  exact ⟨widthOk_t h.1, by omega, by omega⟩
theorem mrFix_adv {r : Mr} {w e : Int} (h1 : r.at_ ≤ (r.s.length : Int)) : Adv1 r (mrFix r w e) ∧ (mrFix r w e).out = r.out := by
  unfold mrFix
  split
  · exact ⟨mrFail_adv h1, rfl⟩
  · split
    · rename_i h2 h3
      have := getFixOk_t h3
      exact ⟨mrAt_adv (by omega) (by omega), rfl⟩
    · exact ⟨mrFail_adv h1, rfl⟩
theorem mrVal_adv {r : Mr} {w e : Int} (h1 : r.at_ ≤ (r.s.length : Int)) : Adv1 r (mrVal r w e) ∧ (mrVal r w e).out = r.out := by
  unfold mrVal; split
  · exact mrFix_adv h1
  · exact ⟨(mrVar_adv h1).1, (mrVar_adv h1).2.2⟩
theorem mrValOk_kind {r : Mr} {w e : Int} (h0 : r.fail.kind = 0) : mrValOk r w e = decide ((mrVal r w e).fail.kind = 0) := by
  unfold mrValOk mrVal; split
  · unfold mrFix mrFixOk
    split
    · rename_i h; rw [decide_eq_false (by omega)]; rfl
    · rename_i h; rw [decide_eq_true (by omega)]
      split <;> rename_i h2
      · simp [h2, mrAt, h0]
      · simp [h2, mrFail, failEv]
  · exact mrVarOk_kind h0
theorem tell_adv {r r' : Mr} {e : Ev} (h : Adv1 r r') (ho : r'.out = r.out) (hk : r'.fail.kind = 0) : Adv1 r (mrTell r' e) := by
  have ha := h.1.at_ hk
  have hb := h.2 hk
  refine ⟨⟨h.1.plan, h.1.s, h.1.at_, h.1.fail, fun _ => ?_, ?_⟩, h.2⟩
  · simp only [mrTell, List.length_append, List.length_cons, List.length_nil, ho]; omega
  · simp only [mrTell, List.length_append, List.length_cons, List.length_nil, ho]; omega
theorem numStep_adv {r : Mr} {f : Fld} {w e : Int} (h1 : r.at_ ≤ (r.s.length : Int)) (h0 : r.fail.kind = 0) : Adv1 r (numStep r f w e) := by
  have hv := mrVal_adv (w := w) (e := e) h1
  unfold numStep
  split
  · rename_i hh
    have := hh.1
    rw [mrValOk_kind h0] at this
    exact tell_adv hv.1 hv.2 (by simpa using this)
  · exact hv.1
/-- A loop of steps each of which goes on. -/
theorem loopM_adv {go : Mr → Bool} {step : Mr → Mr} (hgo : ∀ r, go r = true → r.fail.kind = 0) (hstep : ∀ r, r.at_ ≤ (r.s.length : Int) → r.fail.kind = 0 → Adv1 r (step r)) : ∀ (k : Nat) (r : Mr), r.at_ ≤ (r.s.length : Int) → Adv r (loopM go step k r)
  | 0, r, h => Adv.refl r h
  | k + 1, r, h => by
    unfold loopM
    cases hg : go r with
    | false => exact Adv.refl r h
    | true =>
      have hk := hgo r hg
      have hs := hstep r h hk
      simp only [if_true]
      by_cases hk' : (step r).fail.kind = 0
      · have := hs.1.at_ hk'
        exact hs.1.trans hk' (loopM_adv hgo hstep k (step r) (by rw [hs.1.s]; exact this.2))
      · have : loopM go step k (step r) = step r := loopM_stop (by cases hg' : go (step r) with
          | false => rfl
          | true => exact (hk' (hgo _ hg')).elim)
        rw [this]; exact hs.1
theorem mrGo_kind {e : Int} {r : Mr} (h : mrGo e r = true) : r.fail.kind = 0 := by simp [mrGo] at h; exact h.2
theorem mrMu_dec {r r' : Mr} (h1 : r.at_ ≤ (r.s.length : Int)) (h0 : r.fail.kind = 0) (h : Adv1 r r') : mrMu r' < mrMu r := by
  unfold mrMu
  rw [if_pos h0]
  split
  · rename_i hk
    have := h.2 hk
    have := h.1.at_ hk
    rw [h.1.s]; omega
  · omega
theorem mrRun_adv {r : Mr} {f : Fld} {e : Int} (h1 : r.at_ ≤ (r.s.length : Int)) : Adv r (mrRun r f e) :=
  loopM_adv (fun r h => mrGo_kind h) (fun r h h0 => numStep_adv h h0) _ r h1
/-- One round of a run. -/
theorem mrRun_go {r : Mr} {f : Fld} {e : Int} (h1 : r.at_ ≤ (r.s.length : Int)) (hg : mrGo e r = true) : mrRun r f e = mrRun (numStep r f (wireOf f.kind) e) f e := by
  unfold mrRun
  refine loopM_go (fun r => r.at_ ≤ (r.s.length : Int) ∨ r.fail.kind ≠ 0) mrMu (fun a hi hg => ?_) (.inl h1) hg
  have hk := mrGo_kind hg
  have ha := hi.resolve_right (fun h => h hk)
  have := numStep_adv (f := f) (w := wireOf f.kind) (e := e) ha hk
  refine ⟨?_, mrMu_dec ha hk this⟩
  by_cases hk' : (numStep a f (wireOf f.kind) e).fail.kind = 0
  · left; rw [this.1.s]; exact (this.1.at_ hk').2
  · exact .inr hk'
theorem mrRun_stop {r : Mr} {f : Fld} {e : Int} (hg : mrGo e r = false) : mrRun r f e = r := loopM_stop hg
theorem numStep_ok {r : Mr} {f : Fld} {w e : Int} (h : mrValOk r w e = true) (hf : 0 < f.number) : numStep r f w e = mrTell (mrVal r w e) (numEv f (mrValU r w e)) := by unfold numStep; rw [if_pos ⟨h, hf⟩]
theorem numStep_bad {r : Mr} {f : Fld} {w e : Int} (h : mrValOk r w e = false) : numStep r f w e = mrVal r w e := by unfold numStep; rw [if_neg (by simp [h])]
theorem numStep_unknown {r : Mr} {f : Fld} {w e : Int} (hf : ¬ 0 < f.number) : numStep r f w e = mrVal r w e := by unfold numStep; rw [if_neg (fun h => hf h.2)]
structure RunInv (r0 : Mr) (f : Fld) (e : Int) (q : Mr) : Prop where
  at_ : q.at_ ≤ (q.s.length : Int)
  fail : q.fail.kind = 0
  adv : Adv r0 q
  run : mrRun q f e = mrRun r0 f e
theorem RunInv.refl {r : Mr} {f : Fld} {e : Int} (h1 : r.at_ ≤ (r.s.length : Int)) (h0 : r.fail.kind = 0) : RunInv r f e r := ⟨h1, h0, Adv.refl r h1, rfl⟩
theorem RunInv.next {r q : Mr} {f : Fld} {e : Int} (h : RunInv r f e q) (hg : q.at_ < e) (hok : mrValOk q (wireOf f.kind) e = true) (hf : 0 < f.number) : RunInv r f e (mrTell (mrVal q (wireOf f.kind) e) (numEv f (mrValU q (wireOf f.kind) e))) := by
  have hgo : mrGo e q = true := by simp [mrGo, hg, h.fail]
  have hs := numStep_adv (f := f) (w := wireOf f.kind) (e := e) h.at_ h.fail
  have hr := mrRun_go (f := f) h.at_ hgo
  rw [numStep_ok hok hf] at hs hr
  have hk : (mrTell (mrVal q (wireOf f.kind) e) (numEv f (mrValU q (wireOf f.kind) e))).fail.kind = 0 := by
    rw [mrValOk_kind h.fail] at hok; simpa [mrTell] using hok
  exact ⟨by rw [hs.1.s]; exact (hs.1.at_ hk).2, hk, h.adv.trans h.fail hs.1, hr.symm.trans h.run⟩
theorem RunInv.nextS {r q : Mr} {f : Fld} {e : Int} (h : RunInv r f e q) (hg : q.at_ < e) (hk : (numStep q f (wireOf f.kind) e).fail.kind = 0) : RunInv r f e (numStep q f (wireOf f.kind) e) := by
  have hgo : mrGo e q = true := by simp [mrGo, hg, h.fail]
  have hs := numStep_adv (f := f) (w := wireOf f.kind) (e := e) h.at_ h.fail
  have hr := mrRun_go (f := f) h.at_ hgo
  exact ⟨by rw [hs.1.s]; exact (hs.1.at_ hk).2, hk, h.adv.trans h.fail hs.1, hr.symm.trans h.run⟩
theorem RunInv.bad {r q : Mr} {f : Fld} {e : Int} (h : RunInv r f e q) (hg : q.at_ < e) (hok : mrValOk q (wireOf f.kind) e = false) : mrRun r f e = mrVal q (wireOf f.kind) e := by
  have hgo : mrGo e q = true := by simp [mrGo, hg, h.fail]
  have hr := mrRun_go (f := f) h.at_ hgo
  rw [numStep_bad hok] at hr
  rw [← h.run, hr]
  refine mrRun_stop ?_
  rw [mrValOk_kind h.fail] at hok
  have : (mrVal q (wireOf f.kind) e).fail.kind ≠ 0 := by simpa using hok
  simp [mrGo, this]
theorem RunInv.end_ {r q : Mr} {f : Fld} {e : Int} (h : RunInv r f e q) (hg : ¬ q.at_ < e) : mrRun r f e = q := by
  rw [← h.run]; exact mrRun_stop (by simp [mrGo]; omega)
theorem RunInv.room {r q : Mr} {f : Fld} {e : Int} (h : RunInv r f e q) : q.s = r.s ∧ q.plan = r.plan ∧ r.at_ ≤ q.at_ ∧ (q.out.length : Int) + 4 * ((r.s.length : Int) - q.at_) ≤ (r.out.length : Int) + 4 * ((r.s.length : Int) - r.at_) :=
  ⟨h.adv.s, h.adv.plan, (h.adv.at_ h.fail).1, h.adv.room h.fail⟩
theorem mrFixU_b (r : Mr) (w e : Int) : 0 ≤ mrFixU r w e ∧ mrFixU r w e ≤ 18446744073709551615 := by
  unfold mrFixU
  split
  · rename_i h; simp only [mrFixOk, Bool.and_eq_true] at h
    have hw := getFixOk_t h.2
    unfold getFix; rw [if_pos h.2]
    have := getFixN_le (l := List.take w.toNat (List.drop r.at_.toNat r.s)) (k := 8) (by rw [List.length_take]; omega)
    have e8 : (2 : Nat) ^ (8 * 8) = 18446744073709551616 := by decide
    omega
  · omega
theorem mrValU_b (r : Mr) (w e : Int) : 0 ≤ mrValU r w e ∧ mrValU r w e ≤ 18446744073709551615 := by
  unfold mrValU mrFixU mrVarU
  split
  · split
    · rename_i h; simp only [mrFixOk, Bool.and_eq_true] at h
      have hw := getFixOk_t h.2
      unfold getFix; rw [if_pos h.2]
      have := getFixN_le (l := List.take (widthOf w).toNat (List.drop r.at_.toNat r.s)) (k := 8) (by rw [List.length_take]; omega)
      have e8 : (2 : Nat) ^ (8 * 8) = 18446744073709551616 := by decide
      omega
    · omega
  · split
    · exact varWithin_b _ _ _
    · omega
theorem mrVarU_b (r : Mr) (e : Int) : 0 ≤ mrVarU r e ∧ mrVarU r e ≤ 18446744073709551615 := by
  unfold mrVarU; split
  · exact varWithin_b _ _ _
  · omega
theorem bnot_mkt {b : Bool} (h : b = false) : (!b) = true := by rw [h]; rfl
theorem bnot_mkf {b : Bool} (h : b = true) : (!b) = false := by rw [h]; rfl
theorem txt_there {s : List UInt8} {a n e : Int} (ha : 0 ≤ a) (hn : 0 ≤ n) (hl : a ≤ (s.length : Int)) (he : e = a + n ∧ a + n ≤ (s.length : Int) ∨ e = (s.length : Int) ∧ (s.length : Int) ≤ a + n) : List.drop a.toNat (List.take e.toNat s) = (s.drop a.toNat).take n.toNat := by
  rw [List.drop_take]
  rcases he with ⟨he, _⟩ | ⟨he, hm⟩
  · rw [he, show (a + n).toNat - a.toNat = n.toNat by omega]
  · rw [List.take_of_length_le (by rw [List.length_drop]; omega), List.take_of_length_le (by rw [List.length_drop]; omega)]
theorem utfRun_bad : ∀ {u : Utf} {s : List UInt8} {i j : Nat}, (utfRun u s i).2 = some j → i ≤ j ∧ j < i + s.length
  | u, [], i, j, h => by simp [utfRun] at h
  | u, b :: r, i, j, h => by
    unfold utfRun at h
    split at h
    · have := utfRun_bad h; simp only [List.length_cons]; omega
    · simp at h; simp only [List.length_cons]; omega
theorem utfBad_b (u : Utf) (s : List UInt8) : -1 ≤ utfBad u s ∧ (0 ≤ utfBad u s → utfBad u s < (s.length : Int)) := by
  unfold utfBad
  split
  · rename_i h; have := utfRun_bad h; omega
  · omega
theorem txtThere_len {r : Mr} {n : Int} (hn : 0 ≤ n) (ha : 0 ≤ r.at_) (hl : r.at_ ≤ (r.s.length : Int)) : ((txtThere r n).length : Int) ≤ n ∧ ((txtThere r n).length : Int) ≤ (r.s.length : Int) - r.at_ ∧ (((txtThere r n).length : Int) < n → ((txtThere r n).length : Int) = (r.s.length : Int) - r.at_) := by
  unfold txtThere; rw [List.length_take, List.length_drop]; omega
/-! ### Texts, messages -/
/-- As 'Adv', with so much more room. -/
structure AdvB (b : Int) (r r' : Mr) : Prop where
  plan : r'.plan = r.plan
  s : r'.s = r.s
  at_ : r'.fail.kind = 0 → r.at_ ≤ r'.at_ ∧ r'.at_ ≤ (r.s.length : Int)
  fail : r'.fail.kind = 0 → r'.fail = r.fail
  room : r'.fail.kind = 0 → (r'.out.length : Int) + 4 * ((r.s.length : Int) - r'.at_) ≤ (r.out.length : Int) + b + 4 * ((r.s.length : Int) - r.at_)
  most : (r'.out.length : Int) ≤ (r.out.length : Int) + b + 4 * ((r.s.length : Int) - r.at_)
theorem Adv.b {r r' : Mr} (h : Adv r r') : AdvB 0 r r' := ⟨h.plan, h.s, h.at_, h.fail, fun hk => by have := h.room hk; omega, by have := h.most; omega⟩
theorem AdvB.tell {b : Int} {r r' : Mr} (h : AdvB b r r') (e : Ev) : AdvB (b + 1) r (mrTell r' e) :=
  ⟨h.plan, h.s, h.at_, h.fail, fun hk => by have := h.room hk; simp only [mrTell, List.length_append, List.length_cons, List.length_nil]; omega, by have := h.most; simp only [mrTell, List.length_append, List.length_cons, List.length_nil]; omega⟩
theorem AdvB.failed {b : Int} {r r' : Mr} (h : AdvB b r r') (c a : Int) : AdvB b r (mrFail r' c a) :=
  ⟨h.plan, h.s, fun hk => (mrFail_kind _ _ _ hk).elim, fun hk => (mrFail_kind _ _ _ hk).elim, fun hk => (mrFail_kind _ _ _ hk).elim, h.most⟩
theorem AdvB.moved {b : Int} {r r' : Mr} (h : AdvB b r r') {a : Int} (h1 : r'.fail.kind = 0 → r'.at_ ≤ a) (h2 : a ≤ (r.s.length : Int)) : AdvB b r (mrAt r' a) :=
  ⟨h.plan, h.s, fun hk => by have := h.at_ hk; have := h1 hk; exact ⟨by simp only [mrAt]; omega, h2⟩, h.fail, fun hk => by have := h.room hk; have := h1 hk; simp only [mrAt]; omega, h.most⟩
theorem AdvB.trans {b c : Int} {x y z : Mr} (h : AdvB b x y) (hb : y.fail.kind = 0) (g : AdvB c y z) : AdvB (b + c) x z := by
  obtain ⟨h1, h2⟩ := h.at_ hb
  have hr := h.room hb
  have gm := g.most
  rw [h.s] at gm
  refine ⟨g.plan.trans h.plan, g.s.trans h.s, fun hc => ?_, fun hc => (g.fail hc).trans (h.fail hb), fun hc => ?_, by omega⟩
  · have := g.at_ hc
    rw [h.s] at this
    omega
  · have := g.room hc
    rw [h.s] at this
    omega
theorem AdvB.mono {b c : Int} {r r' : Mr} (h : AdvB b r r') (hc : b ≤ c) : AdvB c r r' := ⟨h.plan, h.s, h.at_, h.fail, fun hk => by have := h.room hk; omega, by have := h.most; omega⟩
theorem Adv1.after {b : Int} {r v w : Mr} (h : Adv1 r v) (ho : v.out = r.out) (hk : v.fail.kind = 0) (g : AdvB b v w) (hb : b ≤ 4) : Adv1 r w := by
  have h1 := h.1.at_ hk
  have h2 := h.2 hk
  have gm := g.most
  rw [h.1.s, ho] at gm
  refine ⟨⟨g.plan.trans h.1.plan, g.s.trans h.1.s, fun hc => ?_, fun hc => (g.fail hc).trans (h.1.fail hk), fun hc => ?_, by omega⟩, fun hc => ?_⟩
  · have := g.at_ hc
    rw [h.1.s] at this
    omega
  · have := g.room hc
    rw [h.1.s, ho] at this
    omega
  · have := g.at_ hc
    omega
theorem txtTold_adv {r : Mr} {f : Fld} {n : Int} (hl : r.at_ ≤ (r.s.length : Int)) : AdvB 2 r (txtTold r f n) ∧ (txtTold r f n).at_ = r.at_ ∧ (txtTold r f n).fail = r.fail := by
  unfold txtTold
  split
  · exact ⟨((Adv.refl r hl).b.tell _).mono (by decide), rfl, rfl⟩
  · exact ⟨(((Adv.refl r hl).b.tell _).tell _).mono (by decide), rfl, rfl⟩
theorem txtStep_adv {r : Mr} {f : Fld} {n : Int} (ha : 0 ≤ r.at_) (hl : r.at_ ≤ (r.s.length : Int)) (hn : 0 ≤ n) : AdvB 3 r (txtStep r f n) := by
  obtain ⟨h1, h2, h3⟩ := txtTold_adv (f := f) (n := n) hl
  have ht := txtThere_len hn ha hl
  unfold txtStep
  split
  · exact (h1.failed _ _).mono (by decide)
  split
  · exact (h1.failed _ _).mono (by decide)
  split
  · exact (h1.failed _ _).mono (by decide)
  · exact ((h1.moved (fun _ => by omega) (by omega)).tell _).mono (by decide)
def SubAdv (sub : Mr → Fld → Int → Int → Mr) : Prop := ∀ (v : Mr) (f : Fld) (n s : Int), v.at_ ≤ (v.s.length : Int) → v.fail.kind = 0 → AdvB 2 v (sub v f n s)
theorem longStep_adv {sub : Mr → Fld → Int → Int → Mr} (hsub : SubAdv sub) {r : Mr} {f : Fld} {known : Bool} {e : Int} (hl : r.at_ ≤ (r.s.length : Int)) (h0 : r.fail.kind = 0) : Adv1 r (longStep sub r f known e) := by
  obtain ⟨hv, hv2, hv3⟩ := mrVar_adv (e := e) hl
  have hu := mrVarU_b r e
  unfold longStep
  split
  · exact hv
  · rename_i hok
    have hok : mrVarOk r e = true := by simpa using hok
    have hk : (mrVar r e).fail.kind = 0 := by rw [mrVarOk_kind h0] at hok; simpa using hok
    have ha := hv.1.at_ hk
    have hs := congrArg List.length hv.1.s
    have h2 := hv2 hok
    have hl' : (mrVar r e).at_ ≤ ((mrVar r e).s.length : Int) := by omega
    have hr := (Adv.refl (mrVar r e) hl').b
    split
    · exact hv.after hv3 hk (hr.failed _ _) (by decide)
    split
    · split
      · exact hv.after hv3 hk (hr.failed _ _) (by decide)
      · exact hv.after hv3 hk (hr.moved (fun _ => by omega) (by omega)) (by decide)
    split
    · exact hv.after hv3 hk (hsub _ _ _ _ hl' hk) (by decide)
    split
    · exact hv.after hv3 hk (mrRun_adv hl').b (by decide)
    · exact hv.after hv3 hk (txtStep_adv (by omega) hl' hu.1) (by decide)
theorem msgStep_adv {sub : Mr → Fld → Int → Int → Mr} (hsub : SubAdv sub) {shape e : Int} {r : Mr} (hl : r.at_ ≤ (r.s.length : Int)) (h0 : r.fail.kind = 0) : Adv1 r (msgStep sub shape e r) := by
  obtain ⟨hv, hv2, hv3⟩ := mrVar_adv (e := e) hl
  unfold msgStep
  split
  · exact hv
  · rename_i hok
    have hok : mrVarOk r e = true := by simpa using hok
    have hk : (mrVar r e).fail.kind = 0 := by rw [mrVarOk_kind h0] at hok; simpa using hok
    have ha := hv.1.at_ hk
    have hs := congrArg List.length hv.1.s
    have hl' : (mrVar r e).at_ ≤ ((mrVar r e).s.length : Int) := by omega
    have hr := (Adv.refl (mrVar r e) hl').b
    split
    · exact hv.after hv3 hk (hr.failed _ _) (by decide)
    split
    · exact hv.after hv3 hk (hr.failed _ _) (by decide)
    split
    · exact hv.after hv3 hk (hr.failed _ _) (by decide)
    split
    · exact hv.after hv3 hk (longStep_adv hsub hl' hk).1.b (by decide)
    · exact hv.after hv3 hk (numStep_adv hl' hk).1.b (by decide)
theorem msgN_adv' {D : Nat} (hs : SubAdv (subN D)) {shape e : Int} {r : Mr} (hl : r.at_ ≤ (r.s.length : Int)) : Adv r (msgN D shape e r) := by
  rw [msgN_eq]
  exact loopM_adv (fun r h => mrGo_kind h) (fun r h h0 => msgStep_adv hs h h0) _ r hl
theorem subN_adv : ∀ D, SubAdv (subN D)
  | 0 => fun v f n s hl h0 => ((Adv.refl v hl).b.failed _ _).mono (by decide)
  | D + 1 => fun v f n s hl h0 => by
    have ht : AdvB 1 v (mrTell v (downEv f n)) := (Adv.refl v hl).b.tell _
    have hm := (msgN_adv' (subN_adv D) (shape := f.msg) (e := v.at_ + n) (r := mrTell v (downEv f n)) hl).b
    have hb := ht.trans h0 hm
    simp only [subN]
    split
    · exact (hb.tell _).mono (by decide)
    · exact hb.mono (by decide)
theorem msgN_adv {D : Nat} {shape e : Int} {r : Mr} (hl : r.at_ ≤ (r.s.length : Int)) : Adv r (msgN D shape e r) := msgN_adv' (subN_adv D) hl
/-- A loop that has come to q. -/
structure LInv (step : Mr → Mr) (e : Int) (r0 q : Mr) : Prop where
  adv : Adv r0 q
  run : loopM (mrGo e) step (mrMu q) q = loopM (mrGo e) step (mrMu r0) r0
def StepAdv (step : Mr → Mr) : Prop := ∀ r : Mr, r.at_ ≤ (r.s.length : Int) → r.fail.kind = 0 → Adv1 r (step r)
theorem LInv.refl {step : Mr → Mr} {e : Int} {r : Mr} (h1 : r.at_ ≤ (r.s.length : Int)) : LInv step e r r := ⟨Adv.refl r h1, rfl⟩
theorem LInv.at_ {step : Mr → Mr} {e : Int} {r q : Mr} (h : LInv step e r q) (hk : q.fail.kind = 0) : r.at_ ≤ q.at_ ∧ q.at_ ≤ (q.s.length : Int) := by
  have := h.adv.at_ hk
  rw [h.adv.s]; exact this
theorem LInv.room {step : Mr → Mr} {e : Int} {r q : Mr} (h : LInv step e r q) (hk : q.fail.kind = 0) : q.s.length = r.s.length ∧ q.plan = r.plan ∧ r.at_ ≤ q.at_ ∧ q.at_ ≤ (r.s.length : Int) ∧ (q.out.length : Int) + 4 * ((r.s.length : Int) - q.at_) ≤ (r.out.length : Int) + 4 * ((r.s.length : Int) - r.at_) :=
  ⟨by rw [h.adv.s], h.adv.plan, (h.adv.at_ hk).1, (h.adv.at_ hk).2, h.adv.room hk⟩
theorem LInv.go {step : Mr → Mr} (hs : StepAdv step) {e : Int} {r q : Mr} (h : LInv step e r q) (hg : q.at_ < e) (hk : q.fail.kind = 0) : LInv step e r (step q) ∧ mrMu (step q) < mrMu q := by
  have hgo : mrGo e q = true := by simp [mrGo, hg, hk]
  have ha := h.at_ hk
  have hq := hs q ha.2 hk
  refine ⟨⟨h.adv.trans hk hq.1, ?_⟩, mrMu_dec ha.2 hk hq⟩
  rw [← h.run]
  refine (loopM_go (fun r => r.at_ ≤ (r.s.length : Int) ∨ r.fail.kind ≠ 0) mrMu (fun a hi hg => ?_) (.inl ha.2) hgo).symm
  have hk' := mrGo_kind hg
  have hl : a.at_ ≤ (a.s.length : Int) := hi.resolve_right (fun h => h hk')
  refine ⟨?_, mrMu_dec hl hk' (hs a hl hk')⟩
  by_cases hk2 : (step a).fail.kind = 0
  · left; rw [(hs a hl hk').1.s]; exact ((hs a hl hk').1.at_ hk2).2
  · exact .inr hk2
theorem LInv.stop {step : Mr → Mr} {e : Int} {r q : Mr} (h : LInv step e r q) (hg : mrGo e q = false) : loopM (mrGo e) step (mrMu r) r = q := by rw [← h.run]; exact loopM_stop hg
theorem LInv.end_ {step : Mr → Mr} {e : Int} {r q : Mr} (h : LInv step e r q) (hg : ¬ q.at_ < e) : loopM (mrGo e) step (mrMu r) r = q := h.stop (by simp [mrGo]; omega)
theorem LInv.bad {step : Mr → Mr} {e : Int} {r q : Mr} (h : LInv step e r q) (hk : q.fail.kind ≠ 0) : loopM (mrGo e) step (mrMu r) r = q := h.stop (by simp [mrGo, hk])
theorem msgN_loop (D : Nat) (shape e : Int) : StepAdv (msgStep (subN D) shape e) := fun _ h h0 => msgStep_adv (subN_adv D) h h0
theorem numStep_loop (f : Fld) (w e : Int) : StepAdv (fun r => numStep r f w e) := fun _ h h0 => numStep_adv h h0
theorem LInv.leave {step : Mr → Mr} (hs : StepAdv step) {e : Int} {r q x : Mr} (h : LInv step e r q) (hg : q.at_ < e) (hk : q.fail.kind = 0) (hx : step q = x) (hx2 : x.fail.kind ≠ 0) : loopM (mrGo e) step (mrMu r) r = x := by
  subst hx; exact (h.go hs hg hk).1.bad hx2
theorem LInv.next {step : Mr → Mr} (hs : StepAdv step) {e : Int} {r q x : Mr} (h : LInv step e r q) (hg : q.at_ < e) (hk : q.fail.kind = 0) (hx : step q = x) : LInv step e r x ∧ mrMu x < mrMu q := by
  subst hx; exact h.go hs hg hk
theorem field_facts {l : List Shp} {s n : Int} (hl : schemaOk l = true) : ((fieldAt l s n).isSome = true → 1 ≤ ((fieldAt l s n).getD fld0).number ∧ 1 ≤ ((fieldAt l s n).getD fld0).kind ∧ ((fieldAt l s n).getD fld0).kind ≤ 8) ∧ ((fieldAt l s n).isSome = false → ((fieldAt l s n).getD fld0).number = 0) := by
  cases h : fieldAt l s n with
  | none => simp [fld0]
  | some f =>
    have := fldOk_t (fieldAt_ok hl h).1
    simp; omega
theorem msgN_room {D : Nat} {s e : Int} {v : Mr} {k b : Nat} (h : v.at_ ≤ (v.s.length : Int)) (hb : (v.out.length : Int) + 4 * ((v.s.length : Int) - v.at_) + (k : Int) ≤ (b : Int)) : (msgN D s e v).out.length + k ≤ b := by
  have := (msgN_adv (D := D) (shape := s) (e := e) h).most; omega
theorem msgN_room0 {D : Nat} {s e : Int} {v : Mr} {b : Nat} (h : v.at_ ≤ (v.s.length : Int)) (hb : (v.out.length : Int) + 4 * ((v.s.length : Int) - v.at_) ≤ (b : Int)) : (msgN D s e v).out.length ≤ b := by
  have := (msgN_adv (D := D) (shape := s) (e := e) h).most; omega
theorem wireOf_num {k : Int} (h : 1 ≤ k ∧ k ≤ 5) : wireOf k = 0 ∨ wireOf k = 1 ∨ wireOf k = 5 := by
  have hk : kindOk k = true := by simp only [kindOk, within, Bool.and_eq_true, decide_eq_true_eq]; omega
  unfold wireOf
  rw [if_pos hk]
  split
  · exact .inr (.inr rfl)
  · split
    · exact .inr (.inl rfl)
    · exact .inl (by rw [if_pos (by omega)])
theorem tagWire_b (u : Int) : 0 ≤ tagWire u ∧ tagWire u ≤ 7 := by unfold tagWire; split <;> omega
theorem field_known {l : List Shp} {s n : Int} (hl : schemaOk l = true) : (fieldAt l s n).isSome = decide (((fieldAt l s n).getD fld0).number ≠ 0) := by
  have := field_facts (s := s) (n := n) hl
  cases h : (fieldAt l s n).isSome with
  | true => exact (decide_eq_true (by have := (this.1 h).1; omega)).symm
  | false => exact (decide_eq_false (by have := this.2 h; omega)).symm
def cMr (x : Mr) : List C := [.seq .shp x.plan.shapes, .int .i64 x.plan.root, .int .i64 x.plan.deep, .int .i64 x.plan.most, .str x.s, .int .i64 x.at_, .seq .ev x.out, .int .i64 x.fail.kind, .int .i64 x.fail.field, .int .u64 x.fail.bits, .int .i64 x.fail.len, .str x.fail.text, .int .i64 x.fail.code, .int .i64 x.fail.at_]
def oMr6 (j6 : Nat) (x : Mr) : List C := [.seq .shp x.plan.shapes, .int .i64 x.plan.root, .int .i64 x.plan.deep, .int .i64 x.plan.most, .str x.s, .int .i64 x.at_, .own j6, .int .i64 x.fail.kind, .int .i64 x.fail.field, .int .u64 x.fail.bits, .int .i64 x.fail.len, .str x.fail.text, .int .i64 x.fail.code, .int .i64 x.fail.at_]
end Go.Proofs.Ytecljjcmjongfaa.Ax
