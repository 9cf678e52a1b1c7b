/- Models: whole inputs. -/
import Derived.Test.YtecljjcmjongfaaM2
namespace Go.Proofs.Ytecljjcmjongfaa.Ax
open Go.RowKit
set_option linter.unusedSimpArgs false
set_option linter.unusedVariables false

/-! ### More told ahead -/
def ahead (o : List Ev) (r : Mr) : Mr := ⟨r.plan, r.s, r.at_, o ++ r.out, r.fail⟩
theorem ahead_tell (o : List Ev) (r : Mr) (e : Ev) : mrTell (ahead o r) e = ahead o (mrTell r e) := by simp [mrTell, ahead]
theorem ahead_var (o : List Ev) (r : Mr) (e : Int) : mrVar (ahead o r) e = ahead o (mrVar r e) := by
  unfold mrVar; rw [show mrVarOk (ahead o r) e = mrVarOk r e from rfl]; split <;> rfl
theorem ahead_fix (o : List Ev) (r : Mr) (w e : Int) : mrFix (ahead o r) w e = ahead o (mrFix r w e) := by
  unfold mrFix
  rw [show (ahead o r).at_ = r.at_ from rfl, show (ahead o r).s = r.s from rfl]
  split
  · rfl
  · split <;> rfl
theorem ahead_val (o : List Ev) (r : Mr) (w e : Int) : mrVal (ahead o r) w e = ahead o (mrVal r w e) := by
  unfold mrVal; split
  · exact ahead_fix o r _ e
  · exact ahead_var o r e
theorem ahead_num (o : List Ev) (r : Mr) (f : Fld) (w e : Int) : numStep (ahead o r) f w e = ahead o (numStep r f w e) := by
  unfold numStep
  rw [show mrValOk (ahead o r) w e = mrValOk r w e from rfl, show mrValU (ahead o r) w e = mrValU r w e from rfl, ahead_val]
  split
  · exact ahead_tell o _ _
  · rfl
theorem ahead_loop (o : List Ev) {step : Mr → Mr} (hs : ∀ r, step (ahead o r) = ahead o (step r)) (e : Int) : ∀ (k : Nat) (r : Mr), loopM (mrGo e) step k (ahead o r) = ahead o (loopM (mrGo e) step k r)
  | 0, r => rfl
  | k + 1, r => by
    simp only [loopM]
    rw [show mrGo e (ahead o r) = mrGo e r from rfl]
    split
    · rw [hs, ahead_loop o hs e k]
    · rfl
theorem ahead_run (o : List Ev) (r : Mr) (f : Fld) (e : Int) : mrRun (ahead o r) f e = ahead o (mrRun r f e) := ahead_loop o (fun r => ahead_num o r f _ e) e _ r
theorem ahead_told (o : List Ev) (r : Mr) (f : Fld) (n : Int) : txtTold (ahead o r) f n = ahead o (txtTold r f n) := by
  unfold txtTold
  rw [show txtGood (ahead o r) f n = txtGood r f n from rfl]
  split <;> simp only [ahead_tell]
theorem ahead_txt (o : List Ev) (r : Mr) (f : Fld) (n : Int) : txtStep (ahead o r) f n = ahead o (txtStep r f n) := by
  unfold txtStep
  rw [show txtBad (ahead o r) f n = txtBad r f n from rfl, show txtThere (ahead o r) n = txtThere r n from rfl, show txtSt (ahead o r) f n = txtSt r f n from rfl, ahead_told, show (ahead o r).s = r.s from rfl, show (ahead o r).at_ = r.at_ from rfl]
  split
  · rfl
  split
  · rfl
  split
  · rfl
  · exact ahead_tell o (mrAt (txtTold r f n) (r.at_ + n)) shutEv
def SubAhead (o : List Ev) (sub : Mr → Fld → Int → Int → Mr) : Prop := ∀ (v : Mr) (f : Fld) (n s : Int), sub (ahead o v) f n s = ahead o (sub v f n s)
theorem ahead_long {o : List Ev} {sub : Mr → Fld → Int → Int → Mr} (hs : SubAhead o sub) (r : Mr) (f : Fld) (known : Bool) (e : Int) : longStep sub (ahead o r) f known e = ahead o (longStep sub r f known e) := by
  unfold longStep
  rw [show mrVarOk (ahead o r) e = mrVarOk r e from rfl, show mrVarU (ahead o r) e = mrVarU r e from rfl, ahead_var]
  simp only [show ∀ x, (ahead o x).at_ = x.at_ from fun _ => rfl, show ∀ x, (ahead o x).s = x.s from fun _ => rfl]
  split
  · rfl
  split
  · rfl
  split
  · split <;> rfl
  split
  · exact hs _ _ _ _
  split
  · exact ahead_run o _ _ _
  · exact ahead_txt o _ _ _
theorem ahead_msg {o : List Ev} {sub : Mr → Fld → Int → Int → Mr} (hs : SubAhead o sub) (shape e : Int) (r : Mr) : msgStep sub shape e (ahead o r) = ahead o (msgStep sub shape e r) := by
  unfold msgStep
  rw [show mrVarOk (ahead o r) e = mrVarOk r e from rfl, show mrVarU (ahead o r) e = mrVarU r e from rfl, ahead_var]
  simp only [show ∀ x, (ahead o x).at_ = x.at_ from fun _ => rfl, show ∀ x, (ahead o x).plan = x.plan from fun _ => rfl]
  split
  · rfl
  split
  · rfl
  split
  · rfl
  split
  · rfl
  split
  · exact ahead_long hs _ _ _ _
  · exact ahead_num o _ _ _ _
theorem ahead_msgN' {o : List Ev} {D : Nat} (hs : SubAhead o (subN D)) (shape e : Int) (r : Mr) : msgN D shape e (ahead o r) = ahead o (msgN D shape e r) := by
  rw [msgN_eq, msgN_eq]
  exact ahead_loop o (fun r => ahead_msg hs shape e r) e _ r
theorem ahead_sub (o : List Ev) : ∀ D, SubAhead o (subN D)
  | 0 => fun _ _ _ _ => rfl
  | D + 1 => fun v f n s => by
    simp only [subN]
    rw [show (ahead o v).at_ = v.at_ from rfl, ahead_tell, ahead_msgN' (ahead_sub o D)]
    split <;> rename_i h
    · rw [if_pos (show (msgN D f.msg (v.at_ + n) (mrTell v (downEv f n))).fail.kind = 0 from h), ahead_tell]
    · rw [if_neg (show ¬ (msgN D f.msg (v.at_ + n) (mrTell v (downEv f n))).fail.kind = 0 from h)]
theorem ahead_msgN (o : List Ev) (D : Nat) (shape e : Int) (r : Mr) : msgN D shape e (ahead o r) = ahead o (msgN D shape e r) := ahead_msgN' (ahead_sub o D) shape e r

/-! ### Where a message ends -/
theorem loop_end {step : Mr → Mr} (hs : StepAdv step) {e : Int} (ht : ∀ r : Mr, r.at_ ≤ (r.s.length : Int) → r.fail.kind = 0 → (step r).fail.kind = 0 → (step r).at_ ≤ e) : ∀ (n : Nat) (r : Mr), mrMu r ≤ n → r.at_ ≤ (r.s.length : Int) → r.at_ ≤ e → r.fail.kind = 0 → (loopM (mrGo e) step (mrMu r) r).fail.kind = 0 → (loopM (mrGo e) step (mrMu r) r).at_ = e := by
  intro n
  induction n with
  | zero => intro r hn hl _ h0; simp only [mrMu, if_pos h0] at hn; omega
  | succ n ih =>
    intro r hn hl he h0 hk
    by_cases hg : r.at_ < e
    · have hi := (LInv.refl (step := step) (e := e) hl).go hs hg h0
      rw [← hi.1.run] at hk ⊢
      by_cases h1 : (step r).fail.kind = 0
      · have ha := hi.1.at_ h1
        exact ih _ (by omega) ha.2 (ht r hl h0 h1) h1 hk
      · rw [loopM_stop (by simp [mrGo, h1])] at hk
        exact (h1 hk).elim
    · rw [loopM_stop (by simp [mrGo]; omega)]; omega
theorem mrVar_to {r : Mr} {e : Int} (h0 : r.fail.kind = 0) (hl : r.at_ ≤ (r.s.length : Int)) (hk : (mrVar r e).fail.kind = 0) : (mrVar r e).at_ ≤ e := by
  have := mrVarOk_kind (e := e) h0
  rw [hk] at this
  exact ((mrVar_adv hl).2.1 (by simpa using this)).2
theorem numStep_to {r : Mr} {f : Fld} {w e : Int} (h0 : r.fail.kind = 0) (hl : r.at_ ≤ (r.s.length : Int)) (hk : (numStep r f w e).fail.kind = 0) : (numStep r f w e).at_ ≤ e := by
  have hv : (mrVal r w e).fail.kind = 0 → (mrVal r w e).at_ ≤ e := fun h => by
    unfold mrVal at h ⊢
    split
    · rename_i hw
      rw [if_pos hw] at h
      unfold mrFix at h ⊢
      split
      · rename_i h2; rw [if_pos h2] at h; exact (mrFail_kind _ _ _ h).elim
      · rename_i h2
        rw [if_neg h2] at h
        split
        · show r.at_ + widthOf w ≤ e; omega
        · rename_i h3; rw [if_neg h3] at h; exact (mrFail_kind _ _ _ h).elim
    · rename_i hw
      rw [if_neg hw] at h
      exact mrVar_to h0 hl h
  unfold numStep at hk ⊢
  split
  · rename_i h; rw [if_pos h] at hk; exact hv hk
  · rename_i h; rw [if_neg h] at hk; exact hv hk
def SubTo (sub : Mr → Fld → Int → Int → Mr) : Prop := ∀ (v : Mr) (f : Fld) (n s : Int), v.at_ ≤ (v.s.length : Int) → v.fail.kind = 0 → 0 ≤ n → (sub v f n s).fail.kind = 0 → (sub v f n s).at_ = v.at_ + n
theorem txtStep_to {r : Mr} {f : Fld} {n : Int} (hk : (txtStep r f n).fail.kind = 0) : (txtStep r f n).at_ = r.at_ + n := by
  unfold txtStep at hk ⊢
  split
  · rename_i h; rw [if_pos h] at hk; exact (mrFail_kind _ _ _ hk).elim
  rename_i h; rw [if_neg h] at hk
  split
  · rename_i h; rw [if_pos h] at hk; exact (mrFail_kind _ _ _ hk).elim
  rename_i h; rw [if_neg h] at hk
  split
  · rename_i h; rw [if_pos h] at hk; exact (mrFail_kind _ _ _ hk).elim
  · rfl
theorem longStep_to {sub : Mr → Fld → Int → Int → Mr} (ht : SubTo sub) {r : Mr} {f : Fld} {known : Bool} {e : Int} (h0 : r.fail.kind = 0) (hl : r.at_ ≤ (r.s.length : Int)) (hk : (longStep sub r f known e).fail.kind = 0) : (longStep sub r f known e).at_ ≤ e := by
  have hv := mrVar_adv (e := e) hl
  have hu := mrVarU_b r e
  unfold longStep at hk ⊢
  split
  · rename_i h; rw [if_pos h] at hk; exact mrVar_to h0 hl hk
  rename_i hok; rw [if_neg hok] at hk
  have hok : mrVarOk r e = true := by simpa using hok
  have hvk : (mrVar r e).fail.kind = 0 := by rw [mrVarOk_kind h0] at hok; simpa using hok
  have ha := hv.1.1.at_ hvk
  have hs := congrArg List.length hv.1.1.s
  split
  · rename_i h; rw [if_pos h] at hk; exact (mrFail_kind _ _ _ hk).elim
  rename_i hn; rw [if_neg hn] at hk
  split
  · rename_i h; rw [if_pos h] at hk
    split
    · rename_i h2; rw [if_pos h2] at hk; exact (mrFail_kind _ _ _ hk).elim
    · show (mrVar r e).at_ + mrVarU r e ≤ e; omega
  rename_i h; rw [if_neg h] at hk
  split
  · rename_i h2; rw [if_pos h2] at hk
    rw [ht _ _ _ _ (by omega) hvk hu.1 hk]; omega
  rename_i h2; rw [if_neg h2] at hk
  split
  · rename_i h3; rw [if_pos h3] at hk
    have := loop_end (numStep_loop f (wireOf f.kind) ((mrVar r e).at_ + mrVarU r e)) (fun r hl h0 hk => numStep_to h0 hl hk) _ (mrVar r e) (Nat.le_refl _) (by omega) (by omega) hvk hk
    show (mrRun (mrVar r e) f ((mrVar r e).at_ + mrVarU r e)).at_ ≤ e
    unfold mrRun; rw [this]; omega
  · rename_i h3; rw [if_neg h3] at hk
    rw [txtStep_to hk]; omega
theorem msgStep_to {sub : Mr → Fld → Int → Int → Mr} (ht : SubTo sub) {shape e : Int} {r : Mr} (h0 : r.fail.kind = 0) (hl : r.at_ ≤ (r.s.length : Int)) (hk : (msgStep sub shape e r).fail.kind = 0) : (msgStep sub shape e r).at_ ≤ e := by
  have hv := mrVar_adv (e := e) hl
  unfold msgStep at hk ⊢
  split
  · rename_i h; rw [if_pos h] at hk; exact mrVar_to h0 hl hk
  rename_i hok; rw [if_neg hok] at hk
  have hok : mrVarOk r e = true := by simpa using hok
  have hvk : (mrVar r e).fail.kind = 0 := by rw [mrVarOk_kind h0] at hok; simpa using hok
  have ha := hv.1.1.at_ hvk
  have hs := congrArg List.length hv.1.1.s
  split
  · rename_i h; rw [if_pos h] at hk; exact (mrFail_kind _ _ _ hk).elim
  rename_i h; rw [if_neg h] at hk
  split
  · rename_i h; rw [if_pos h] at hk; exact (mrFail_kind _ _ _ hk).elim
  rename_i h; rw [if_neg h] at hk
  split
  · rename_i h; rw [if_pos h] at hk; exact (mrFail_kind _ _ _ hk).elim
  rename_i h; rw [if_neg h] at hk
  split
  · rename_i h; rw [if_pos h] at hk; exact longStep_to ht hvk (by omega) hk
  · rename_i h; rw [if_neg h] at hk; exact numStep_to hvk (by omega) hk
theorem msgN_to {D : Nat} (ht : SubTo (subN D)) {shape e : Int} {r : Mr} (hl : r.at_ ≤ (r.s.length : Int)) (he : r.at_ ≤ e) (h0 : r.fail.kind = 0) (hk : (msgN D shape e r).fail.kind = 0) : (msgN D shape e r).at_ = e := by
  rw [msgN_eq] at hk ⊢
  exact loop_end (msgN_loop D shape e) (fun r hl h0 hk => msgStep_to ht h0 hl hk) _ r (Nat.le_refl _) hl he h0 hk
theorem subN_to : ∀ D, SubTo (subN D)
  | 0 => fun v f n s _ _ _ hk => (mrFail_kind _ _ _ hk).elim
  | D + 1 => fun v f n s hl h0 hn hk => by
    have hm := msgN_to (subN_to D) (shape := f.msg) (e := v.at_ + n) (r := mrTell v (downEv f n)) hl (by show v.at_ ≤ v.at_ + n; omega) h0
    simp only [subN] at hk ⊢
    split
    · rename_i h; exact hm h
    · rename_i h; rw [if_neg h] at hk; exact hm hk
theorem msgN_end {D : Nat} {shape e : Int} {r : Mr} (hl : r.at_ ≤ (r.s.length : Int)) (he : r.at_ ≤ e) (h0 : r.fail.kind = 0) (hk : (msgN D shape e r).fail.kind = 0) : (msgN D shape e r).at_ = e := msgN_to (subN_to D) hl he h0 hk

/-! ### Whole inputs -/
def mr0 (p : Pln) (s : List UInt8) (a : Int) : Mr := ⟨p, s, a, [], ev0⟩
def frameEv (n : Int) : Ev := ⟨1, 0, 0, n, [], 0, 0⟩
def frameEndEv : Ev := ⟨8, 0, 0, 0, [], 0, 0⟩
def doneEv (a : Int) : Ev := ⟨9, 0, 0, 0, [], 0, a⟩
def maxI : Int := 9223372036854775807
def frmMsg (r : Mr) : Mr := msgN (Int.toNat (r.plan.deep - 1)) r.plan.root ((mrVar r maxI).at_ + mrVarU r maxI) (mrTell (mrVar r maxI) (frameEv (mrVarU r maxI)))
def frmStep (r : Mr) : Mr :=
  if mrVarOk r maxI = false then mrVar r maxI
  else if r.plan.most < mrVarU r maxI then mrFail (mrVar r maxI) 7 r.at_
  else if (frmMsg r).fail.kind = 0 then mrTell (frmMsg r) frameEndEv else frmMsg r
theorem frmStep_adv {r : Mr} (hl : r.at_ ≤ (r.s.length : Int)) (h0 : r.fail.kind = 0) : Adv1 r (frmStep r) := by
  obtain ⟨hv, hv2, hv3⟩ := mrVar_adv (e := maxI) hl
  unfold frmStep
  split
  · exact hv
  · rename_i hok
    have hok : mrVarOk r maxI = true := by simpa using hok
    have hk : (mrVar r maxI).fail.kind = 0 := by rw [mrVarOk_kind h0] at hok; simpa using hok
    have ha := hv.1.at_ hk
    have hs := congrArg List.length hv.1.s
    have hl' : (mrVar r maxI).at_ ≤ ((mrVar r maxI).s.length : Int) := by omega
    have hr := (Adv.refl (mrVar r maxI) hl').b
    have hm0 : AdvB 0 (mrTell (mrVar r maxI) (frameEv (mrVarU r maxI))) (frmMsg r) := (msgN_adv (r := mrTell (mrVar r maxI) (frameEv (mrVarU r maxI))) hl').b
    have hm : AdvB (0 + 1 + 0) (mrVar r maxI) (frmMsg r) := (hr.tell (frameEv (mrVarU r maxI))).trans hk hm0
    split
    · exact hv.after hv3 hk (hr.failed _ _) (by decide)
    split
    · exact hv.after hv3 hk (hm.tell _) (by decide)
    · exact hv.after hv3 hk hm (by decide)
structure Wh where
  r : Mr
  ends : List Int
def whGo (w : Wh) : Bool := mrGo (w.r.s.length : Int) w.r
def whStep (w : Wh) : Wh := ⟨frmStep w.r, if (frmStep w.r).fail.kind = 0 then w.ends ++ [(frmStep w.r).at_] else w.ends⟩
def whRun (w : Wh) : Wh := loopM whGo whStep (mrMu w.r) w
def wh0 (p : Pln) (s : List UInt8) : Wh := ⟨mr0 p s 0, [0]⟩
def whole (p : Pln) (s : List UInt8) : Wh := whRun (wh0 p s)
def wholeEv (p : Pln) (s : List UInt8) : List Ev := (whole p s).r.out ++ [if (whole p s).r.fail.kind = 0 then doneEv (s.length : Int) else (whole p s).r.fail]
structure WInv (w0 q : Wh) : Prop where
  adv : Adv w0.r q.r
  ends : q.r.fail.kind = 0 → (q.ends.length : Int) ≤ 1 + q.r.at_
  run : whRun q = whRun w0
theorem WInv.refl {p : Pln} {s : List UInt8} : WInv (wh0 p s) (wh0 p s) := ⟨Adv.refl _ (by simp [wh0, mr0]), fun _ => by simp [wh0, mr0], rfl⟩
theorem WInv.room {p : Pln} {s : List UInt8} {q : Wh} (h : WInv (wh0 p s) q) (hk : q.r.fail.kind = 0) : q.r.s = s ∧ q.r.plan = p ∧ 0 ≤ q.r.at_ ∧ q.r.at_ ≤ (s.length : Int) ∧ (q.r.out.length : Int) + 4 * ((s.length : Int) - q.r.at_) ≤ 4 * (s.length : Int) ∧ q.r.fail = ev0 := by
  have := h.adv.at_ hk
  have hr := h.adv.room hk
  refine ⟨h.adv.s, h.adv.plan, this.1, this.2, ?_, h.adv.fail hk⟩
  simpa [wh0, mr0] using hr
theorem WInv.next {p : Pln} {s : List UInt8} {q x : Wh} (h : WInv (wh0 p s) q) (hg : q.r.at_ < (s.length : Int)) (hk : q.r.fail.kind = 0) (hx : whStep q = x) : WInv (wh0 p s) x ∧ mrMu x.r < mrMu q.r := by
  subst hx
  obtain ⟨h1, h2, h3, h4, h5, _⟩ := h.room hk
  have hl : q.r.at_ ≤ (q.r.s.length : Int) := by rw [h1]; exact h4
  have hf := frmStep_adv hl hk
  have hgo : whGo q = true := by simp [whGo, mrGo, h1, hg, hk]
  refine ⟨⟨h.adv.trans hk hf.1, fun hk2 => ?_, ?_⟩, mrMu_dec hl hk hf⟩
  · have := h.ends hk
    have := hf.2 hk2
    have hk3 : (frmStep q.r).fail.kind = 0 := hk2
    simp only [whStep, if_pos hk3, List.length_append, List.length_cons, List.length_nil]; omega
  · rw [← h.run]
    refine (loopM_go (fun w : Wh => w.r.at_ ≤ (w.r.s.length : Int) ∨ w.r.fail.kind ≠ 0) (fun w => mrMu w.r) (fun a hi hg => ?_) (.inl hl) hgo).symm
    have hk' : a.r.fail.kind = 0 := mrGo_kind hg
    have hl : a.r.at_ ≤ (a.r.s.length : Int) := hi.resolve_right (fun h => h hk')
    have hf := frmStep_adv hl hk'
    refine ⟨?_, mrMu_dec hl hk' hf⟩
    by_cases hk2 : (frmStep a.r).fail.kind = 0
    · left
      show (frmStep a.r).at_ ≤ ((frmStep a.r).s.length : Int)
      rw [hf.1.s]; exact (hf.1.at_ hk2).2
    · exact .inr hk2
theorem WInv.stop {w0 q : Wh} (h : WInv w0 q) (hg : whGo q = false) : whRun w0 = q := by rw [← h.run]; exact loopM_stop hg
theorem WInv.end_ {p : Pln} {s : List UInt8} {q : Wh} (h : WInv (wh0 p s) q) (hg : ¬ q.r.at_ < (s.length : Int)) : whole p s = q := h.stop (by
  have : q.r.s = s := h.adv.s
  simp [whGo, mrGo, this]; omega)
theorem WInv.leave {p : Pln} {s : List UInt8} {q x : Wh} (h : WInv (wh0 p s) q) (hg : q.r.at_ < (s.length : Int)) (hk : q.r.fail.kind = 0) (hx : whStep q = x) (hx2 : x.r.fail.kind ≠ 0) : whole p s = x :=
  (h.next hg hk hx).1.stop (by simp [whGo, mrGo, hx2])
/-- A number's end is of no account where it lies behind the text. -/
theorem vwA_far {s : List UInt8} {a e e' : Int} (he : (s.length : Int) < e) (he' : (s.length : Int) < e') : ∀ (f : Nat) (k u : Int), a + k ≤ (s.length : Int) → vwA s a e f k u = vwA s a e' f k u
  | 0, k, u, _ => rfl
  | f + 1, k, u, h => by
    rw [vwA, vwA, if_neg (show ¬ e ≤ a + k by omega), if_neg (show ¬ e' ≤ a + k by omega)]
    split
    · rfl
    split
    · rfl
    split
    · rfl
    · exact vwA_far he he' f (k + 1) _ (by omega)
theorem varWithin_far {s : List UInt8} {a e e' : Int} (he : (s.length : Int) < e) (he' : (s.length : Int) < e') : varWithin s a e = varWithin s a e' := by
  unfold varWithin
  split
  · rename_i hw
    have := within_t hw
    rw [vwA_far he he' 10 0 0 (by omega)]
  · rfl
def readOk (p : Pln) (shape : Int) (s : List UInt8) (a e deep : Int) : Bool := planOk p && within shape 0 ((p.shapes.length : Int) - 1) && within a 0 (s.length : Int) && decide (a ≤ e) && within deep 1 p.deep
def readMsg (p : Pln) (shape : Int) (s : List UInt8) (a e deep : Int) : Mr := if readOk p shape s a e deep then msgN (Int.toNat (p.deep - deep)) shape e (mr0 p s a) else mr0 p s a
theorem far8 {s : List UInt8} (hl : s.length ≤ 4000) (a : Int) : varWithin s a 8000 = varWithin s a maxI := varWithin_far (by omega) (by unfold maxI; omega)
theorem mrVarOk_far {p : Pln} {s : List UInt8} {a : Int} {o : List Ev} (hl : s.length ≤ 4000) : mrVarOk ⟨p, s, a, o, ev0⟩ maxI = decide ((varWithin s a 8000).2.2 = 0) := by rw [far8 hl]; rfl
theorem mrVar_far {p : Pln} {s : List UInt8} {a : Int} {o : List Ev} (hl : s.length ≤ 4000) (h : (varWithin s a 8000).2.2 = 0) : mrVarOk ⟨p, s, a, o, ev0⟩ maxI = true ∧ mrVar ⟨p, s, a, o, ev0⟩ maxI = ⟨p, s, (varWithin s a 8000).2.1, o, ev0⟩ ∧ mrVarU ⟨p, s, a, o, ev0⟩ maxI = (varWithin s a 8000).1 := by
  have hok : mrVarOk ⟨p, s, a, o, ev0⟩ maxI = true := by rw [mrVarOk_far hl]; simpa using h
  refine ⟨hok, ?_, ?_⟩
  · rw [mrVar_ok hok, far8 hl]; rfl
  · unfold mrVarU; rw [if_pos hok, far8 hl]
theorem wh_var {p : Pln} {s : List UInt8} {a : Int} {o : List Ev} {e : List Int} (hl : s.length ≤ 4000) (h : ¬ (varWithin s a 8000).2.2 = 0) : whStep ⟨⟨p, s, a, o, ev0⟩, e⟩ = ⟨⟨p, s, a, o, failEv (varWithin s a 8000).2.2 (varWithin s a 8000).2.1⟩, e⟩ := by
  have hok : mrVarOk ⟨p, s, a, o, ev0⟩ maxI = false := by rw [mrVarOk_far hl]; simpa using h
  have hv := mrVar_bad hok
  have hf : frmStep ⟨p, s, a, o, ev0⟩ = mrVar ⟨p, s, a, o, ev0⟩ maxI := by unfold frmStep; rw [if_pos hok]
  unfold whStep
  simp only [hf, hv]
  rw [if_neg (mrFail_kind _ _ _), far8 hl]
  rfl
theorem wh_most {p : Pln} {s : List UInt8} {a : Int} {o : List Ev} {e : List Int} (hl : s.length ≤ 4000) (h : (varWithin s a 8000).2.2 = 0) (hm : p.most < (varWithin s a 8000).1) : whStep ⟨⟨p, s, a, o, ev0⟩, e⟩ = ⟨⟨p, s, (varWithin s a 8000).2.1, o, failEv 7 a⟩, e⟩ := by
  obtain ⟨h1, h2, h3⟩ := mrVar_far (p := p) (o := o) hl h
  have hf : frmStep ⟨p, s, a, o, ev0⟩ = mrFail ⟨p, s, (varWithin s a 8000).2.1, o, ev0⟩ 7 a := by
    unfold frmStep; rw [if_neg (by simp [h1]), h3, if_pos hm, h2]
  unfold whStep
  simp only [hf]
  rw [if_neg (mrFail_kind _ _ _)]
  rfl
theorem frm_read {p : Pln} {s : List UInt8} {a : Int} {o : List Ev} (hp : planOk p = true) (hl : s.length ≤ 4000) (h : (varWithin s a 8000).2.2 = 0) : frmMsg ⟨p, s, a, o, ev0⟩ = ahead (o ++ [frameEv (varWithin s a 8000).1]) (readMsg p p.root s (varWithin s a 8000).2.1 ((varWithin s a 8000).2.1 + (varWithin s a 8000).1) 1) := by
  obtain ⟨h1, h2, h3⟩ := mrVar_far (p := p) (o := o) hl h
  have hw := varWithin_at h
  have hb := varWithin_b s a 8000
  have ht := planOk_t hp
  have hr : readOk p p.root s (varWithin s a 8000).2.1 ((varWithin s a 8000).2.1 + (varWithin s a 8000).1) 1 = true := by
    simp only [readOk, within, Bool.and_eq_true, decide_eq_true_eq]
    exact ⟨⟨⟨⟨hp, by omega, by omega⟩, by omega, by omega⟩, by omega⟩, by omega, by omega⟩
  unfold frmMsg readMsg
  rw [if_pos hr, h2, h3, ← ahead_msgN]
  simp [mrTell, ahead, mr0]
theorem wh_bad {p : Pln} {s : List UInt8} {a : Int} {o : List Ev} {e : List Int} (hp : planOk p = true) (hl : s.length ≤ 4000) (h : (varWithin s a 8000).2.2 = 0) (hm : ¬ p.most < (varWithin s a 8000).1) (hk : ¬ (readMsg p p.root s (varWithin s a 8000).2.1 ((varWithin s a 8000).2.1 + (varWithin s a 8000).1) 1).fail.kind = 0) :
    whStep ⟨⟨p, s, a, o, ev0⟩, e⟩ = ⟨ahead (o ++ [frameEv (varWithin s a 8000).1]) (readMsg p p.root s (varWithin s a 8000).2.1 ((varWithin s a 8000).2.1 + (varWithin s a 8000).1) 1), e⟩ := by
  obtain ⟨h1, h2, h3⟩ := mrVar_far (p := p) (o := o) hl h
  have hf : frmStep ⟨p, s, a, o, ev0⟩ = frmMsg ⟨p, s, a, o, ev0⟩ := by
    unfold frmStep; rw [if_neg (by simp [h1]), h3, if_neg hm, frm_read hp hl h, if_neg (show ¬ (ahead (o ++ [frameEv (varWithin s a 8000).1]) (readMsg p p.root s (varWithin s a 8000).2.1 ((varWithin s a 8000).2.1 + (varWithin s a 8000).1) 1)).fail.kind = 0 from hk)]
  unfold whStep
  simp only [hf, frm_read hp hl h]
  rw [if_neg (show ¬ (ahead (o ++ [frameEv (varWithin s a 8000).1]) (readMsg p p.root s (varWithin s a 8000).2.1 ((varWithin s a 8000).2.1 + (varWithin s a 8000).1) 1)).fail.kind = 0 from hk)]
theorem readMsg_adv {p : Pln} {shape : Int} {s : List UInt8} {a e d : Int} (hl : a ≤ (s.length : Int)) : Adv (mr0 p s a) (readMsg p shape s a e d) := by
  unfold readMsg; split
  · exact msgN_adv (r := mr0 p s a) hl
  · exact Adv.refl (mr0 p s a) hl
theorem wh_ok {p : Pln} {s : List UInt8} {a : Int} {o : List Ev} {e : List Int} (hp : planOk p = true) (hl : s.length ≤ 4000) (h : (varWithin s a 8000).2.2 = 0) (hm : ¬ p.most < (varWithin s a 8000).1) (hk : (readMsg p p.root s (varWithin s a 8000).2.1 ((varWithin s a 8000).2.1 + (varWithin s a 8000).1) 1).fail.kind = 0) :
    whStep ⟨⟨p, s, a, o, ev0⟩, e⟩ = ⟨⟨p, s, (varWithin s a 8000).2.1 + (varWithin s a 8000).1, ((o ++ [frameEv (varWithin s a 8000).1]) ++ (readMsg p p.root s (varWithin s a 8000).2.1 ((varWithin s a 8000).2.1 + (varWithin s a 8000).1) 1).out) ++ [frameEndEv], ev0⟩, e ++ [(varWithin s a 8000).2.1 + (varWithin s a 8000).1]⟩ := by
  obtain ⟨h1, h2, h3⟩ := mrVar_far (p := p) (o := o) hl h
  have hw := varWithin_at h
  have hb := varWithin_b s a 8000
  have hf : frmStep ⟨p, s, a, o, ev0⟩ = mrTell (frmMsg ⟨p, s, a, o, ev0⟩) frameEndEv := by
    unfold frmStep; rw [if_neg (by simp [h1]), h3, if_neg hm, frm_read hp hl h, if_pos (show (ahead (o ++ [frameEv (varWithin s a 8000).1]) (readMsg p p.root s (varWithin s a 8000).2.1 ((varWithin s a 8000).2.1 + (varWithin s a 8000).1) 1)).fail.kind = 0 from hk)]
  have hadv := readMsg_adv (p := p) (shape := p.root) (s := s) (a := (varWithin s a 8000).2.1) (e := (varWithin s a 8000).2.1 + (varWithin s a 8000).1) (d := 1) (by omega)
  have hat : (readMsg p p.root s (varWithin s a 8000).2.1 ((varWithin s a 8000).2.1 + (varWithin s a 8000).1) 1).at_ = (varWithin s a 8000).2.1 + (varWithin s a 8000).1 := by
    have hfr := frm_read (o := o) hp hl h
    have hk2 : (frmMsg ⟨p, s, a, o, ev0⟩).fail.kind = 0 := by rw [hfr]; exact hk
    have hat2 : (frmMsg ⟨p, s, a, o, ev0⟩).at_ = (mrVar ⟨p, s, a, o, ev0⟩ maxI).at_ + mrVarU ⟨p, s, a, o, ev0⟩ maxI := by
      refine msgN_end ?_ ?_ ?_ hk2
      · rw [h2]; show (varWithin s a 8000).2.1 ≤ (s.length : Int); omega
      · rw [h2, h3]; show (varWithin s a 8000).2.1 ≤ (varWithin s a 8000).2.1 + (varWithin s a 8000).1; omega
      · rw [h2]; rfl
    rw [hfr, h2, h3] at hat2
    exact hat2
  have hfa : (readMsg p p.root s (varWithin s a 8000).2.1 ((varWithin s a 8000).2.1 + (varWithin s a 8000).1) 1).fail = ev0 := hadv.fail hk
  have hpl : (readMsg p p.root s (varWithin s a 8000).2.1 ((varWithin s a 8000).2.1 + (varWithin s a 8000).1) 1).plan = p := hadv.plan
  have hs : (readMsg p p.root s (varWithin s a 8000).2.1 ((varWithin s a 8000).2.1 + (varWithin s a 8000).1) 1).s = s := hadv.s
  unfold whStep
  simp only [hf, frm_read hp hl h]
  rw [if_pos (show (mrTell (ahead (o ++ [frameEv (varWithin s a 8000).1]) (readMsg p p.root s (varWithin s a 8000).2.1 ((varWithin s a 8000).2.1 + (varWithin s a 8000).1) 1)) frameEndEv).fail.kind = 0 from hk)]
  simp only [mrTell, ahead, hat, hfa, hpl, hs]
def wholeL (p : Pln) (s : List UInt8) : List Ev := if planOk p = true ∧ s.length ≤ 4000 then wholeEv p s else []
def framesIn (p : Pln) (s : List UInt8) : Int := many (wholeL p s) 8
theorem whole_most {p : Pln} {s : List UInt8} (hs : s.length ≤ 4000) : (wholeEv p s).length ≤ 16001 := by
  suffices h : ((whole p s).r.out.length : Int) ≤ 16000 by
    unfold wholeEv; rw [List.length_append]; simp only [List.length_cons, List.length_nil]; omega
  have key : ∀ (k : Nat) (w : Wh), w.r.at_ ≤ (w.r.s.length : Int) → Adv w.r (loopM whGo whStep k w).r := by
    intro k
    induction k with
    | zero => intro w h; exact Adv.refl _ h
    | succ k ih =>
      intro w h
      unfold loopM
      cases hg : whGo w with
      | false => exact Adv.refl _ h
      | true =>
        have hk : w.r.fail.kind = 0 := mrGo_kind hg
        have hf := frmStep_adv h hk
        simp only [if_true]
        by_cases hk2 : (frmStep w.r).fail.kind = 0
        · exact hf.1.trans hk2 (ih (whStep w) (by show (frmStep w.r).at_ ≤ ((frmStep w.r).s.length : Int); rw [hf.1.s]; exact (hf.1.at_ hk2).2))
        · have : loopM whGo whStep k (whStep w) = whStep w := loopM_stop (by
            cases hg' : whGo (whStep w) with
            | false => rfl
            | true => exact (hk2 (mrGo_kind hg')).elim)
          rw [this]; exact hf.1
  have := (key (mrMu (wh0 p s).r) (wh0 p s) (by simp [wh0, mr0])).most
  have e : (whole p s) = loopM whGo whStep (mrMu (wh0 p s).r) (wh0 p s) := rfl
  rw [e]
  simp only [wh0, mr0, List.length_nil] at this ⊢
  omega
theorem frmStep_eq (r : Mr) : frmStep r = if mrVarOk r 9223372036854775807 = false then mrVar r 9223372036854775807 else if r.plan.most < mrVarU r 9223372036854775807 then mrFail (mrVar r 9223372036854775807) 7 r.at_ else if (frmMsg r).fail.kind = 0 then mrTell (frmMsg r) frameEndEv else frmMsg r := rfl
theorem frmMsg_eq (r : Mr) : frmMsg r = msgN (Int.toNat (r.plan.deep - 1)) r.plan.root ((mrVar r 9223372036854775807).at_ + mrVarU r 9223372036854775807) (mrTell (mrVar r 9223372036854775807) (frameEv (mrVarU r 9223372036854775807))) := rfl
end Go.Proofs.Ytecljjcmjongfaa.Ax
