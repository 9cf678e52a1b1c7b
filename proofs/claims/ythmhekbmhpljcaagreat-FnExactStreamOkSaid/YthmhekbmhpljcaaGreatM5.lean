/- Models: the machine. -/
import Derived.Test.YthmhekbmhpljcaaGreatM1
namespace Go.Proofs.YthmhekbmhpljcaaGreat.Ax
open Go.RowKit
set_option linter.unusedSimpArgs false
set_option linter.unusedVariables false

def lev0 : Lev := ⟨0, 0⟩
def topL (d : Dcd) : Int := (d.stack.getD (d.stack.length - 1) lev0).left
def levOk (n : Int) (l : Lev) : Bool := within l.msg 0 (n - 1) && within l.left 0 2000
def levelsOk (d : Dcd) : Bool := planOk d.plan && decide ((d.stack.length : Int) ≤ d.plan.deep) && d.stack.all (levOk (d.plan.shapes.length : Int))
/-- How many levels ahead are right. -/
def levN (n : Int) : List Lev → Nat
  | [] => 0
  | l :: r => if levOk n l then levN n r + 1 else 0
theorem levN_le (n : Int) : ∀ l : List Lev, levN n l ≤ l.length
  | [] => Nat.le_refl _
  | l :: r => by unfold levN; have := levN_le n r; split <;> simp only [List.length_cons] <;> omega
theorem levN_cons {n : Int} {l : Lev} {r : List Lev} : levN n (l :: r) = if levOk n l then levN n r + 1 else 0 := rfl
theorem levN_all (n : Int) : ∀ l : List Lev, l.all (levOk n) = decide (levN n l = l.length)
  | [] => rfl
  | l :: r => by
    rw [List.all_cons, levN_all n r, levN_cons]
    cases h : levOk n l with
    | true => rw [if_pos rfl]; simp
    | false => rw [if_neg (by simp)]; simp
def badLev (n : Int) (l : List Lev) : Int := if levN n l = l.length then -1 else (levN n l : Int)
def scanOk (s : Scn) : Bool := within s.have_ 0 9 && decide (Int.fdiv s.bits (2 ^ min (Int.toNat (7 * s.have_)) 64) = 0)
def widthD (d : Dcd) : Int := if d.mode = 5 then widthOf d.wire else if d.mode = 8 then widthOf (wireOf d.field.kind) else 0
def roomD (d : Dcd) : Int := if d.mode = 8 then d.want else topL d
def scanD (d : Dcd) : Bool := if 0 < widthD d then within d.scan.have_ 0 (widthD d - 1) && decide (Int.fdiv d.scan.bits (2 ^ min (Int.toNat (8 * d.scan.have_)) 64) = 0) && decide (widthD d - d.scan.have_ ≤ roomD d)
  else if d.mode = 6 ∨ d.mode = 7 ∨ d.mode = 9 then decide (d.scan = scn0) else scanOk d.scan
def wantD (d : Dcd) : Bool := if d.mode = 6 ∨ d.mode = 7 ∨ d.mode = 8 then within d.want 1 (topL d) else decide (d.want = 0)
def fitD (d : Dcd) : Bool := decide (d.field = fld0) || allowed d.field d.wire
def kindD (d : Dcd) : Bool := if d.mode = 6 then isBytes d.field.kind else if d.mode = 8 then runs d.field else if d.mode = 3 then decide (d.wire = 0) && fitD d else if d.mode = 4 then decide (d.wire = 2) && fitD d else if d.mode = 5 then decide (0 < widthOf d.wire) && fitD d else true
/-- A field of one of the first shapes. -/
def knownN (l : List Shp) (f : Fld) : Nat → Bool
  | 0 => false
  | k + 1 => knownN l f k || decide (fieldAt l (k : Int) f.number = some f)
def known (l : List Shp) (f : Fld) : Bool := knownN l f l.length
def isEvent (k : Int) : Bool := within k 1 10
def bareEv (e : Ev) : Ev := ⟨e.kind, if e.kind = 2 ∨ e.kind = 3 ∨ e.kind = 6 then e.field else 0, if e.kind = 2 then e.bits else 0, if e.kind = 1 ∨ e.kind = 3 ∨ e.kind = 6 then e.len else 0, if e.kind = 4 then e.text else [], if e.kind = 10 then e.code else 0, if e.kind = 9 ∨ e.kind = 10 then e.at_ else 0⟩
def isBare (e : Ev) : Bool := decide (e = bareEv e)
def eventOk (e : Ev) : Bool := isEvent e.kind && isBare e && decide (0 ≤ e.len) && decide (0 ≤ e.at_) && (if hasField e.kind then within e.field 1 536870911 else if e.kind = 4 then !decide (e.text = []) else if e.kind = 10 then decide (1 ≤ e.code) else true)
def terminal (e : Ev) : Bool := decide (e.kind = 9) || decide (e.kind = 10)
def endD (d : Dcd) : Bool := if d.mode = 9 then eventOk d.end_ && terminal d.end_ else decide (d.end_ = ev0)
def stackD (d : Dcd) : Bool := if d.mode = 1 then decide (d.stack = []) else if d.mode = 9 then true else decide (1 ≤ topL d)
def decOk (d : Dcd) : Bool := levelsOk d && within d.mode 1 9 && within d.at_ 0 1000000000 && within d.start 0 d.at_ && utfOk d.utf && wireOk d.wire && (decide (d.field = fld0) || known d.plan.shapes d.field) && endD d && stackD d && wantD d && kindD d && scanD d
theorem fld_eq {o f : Fld} (h : o.number = f.number ∧ o.kind = f.kind ∧ o.rep = f.rep ∧ o.packed = f.packed ∧ o.msg = f.msg) : o = f := by
  cases o; cases f; simp_all
theorem fld_ne {o f : Fld} (h : o.number = f.number → o.kind = f.kind → o.rep = f.rep → o.packed = f.packed → ¬ o.msg = f.msg) : o ≠ f := fun e => by subst e; exact h rfl rfl rfl rfl rfl
theorem knownN_mono {l : List Shp} {f : Fld} : ∀ {k m : Nat}, k ≤ m → knownN l f k = true → knownN l f m = true
  | k, 0, h, hk => by rw [show k = 0 by omega] at hk; exact hk
  | k, m + 1, h, hk => by
    by_cases e : k = m + 1
    · rw [← e]; exact hk
    · rw [knownN, knownN_mono (m := m) (by omega) hk]; rfl
theorem known_of {l : List Shp} {f : Fld} {k : Nat} (h : k < l.length) (hf : fieldAt l (k : Int) f.number = some f) : known l f = true := by
  have : knownN l f (k + 1) = true := by rw [knownN, hf]; simp
  exact knownN_mono (show k + 1 ≤ l.length by omega) this
theorem knownN_next {l : List Shp} {f : Fld} {k : Nat} (h : knownN l f k = false) (hf : fieldAt l (k : Int) f.number ≠ some f) : knownN l f (k + 1) = false := by
  rw [knownN, h]; simp [hf]
theorem known_no {l : List Shp} {f : Fld} {k : Nat} (h : knownN l f k = false) (hk : l.length = k) : known l f = false := by unfold known; rw [hk]; exact h
theorem fld_zero {f : Fld} (h : f.number = 0 ∧ f.kind = 0 ∧ f.rep = false ∧ f.packed = false ∧ f.msg = 0) : f = fld0 := fld_eq h
def stackS (d : Dcd) : Bool := d.stack.all (levOk (d.plan.shapes.length : Int)) && (if d.mode = 1 then decide ((d.stack.length : Int) = 0) else if d.mode = 9 then decide ((d.stack.length : Int) ≤ d.plan.deep) else within (d.stack.length : Int) 1 d.plan.deep && decide (1 ≤ topL d))
def fixS (d : Dcd) : Bool := within d.scan.have_ 0 (widthD d - 1) && decide (Int.fdiv d.scan.bits (2 ^ min (Int.toNat (8 * d.scan.have_)) 64) = 0) && decide (widthD d - d.scan.have_ ≤ roomD d)
def scanS (d : Dcd) : Bool := if d.mode = 6 ∨ d.mode = 7 ∨ d.mode = 9 then decide (d.scan = scn0) else if d.mode = 5 then fixS d else if d.mode = 8 then (if widthD d = 0 then scanOk d.scan else fixS d) else scanOk d.scan
def wiresS (d : Dcd) : Bool := (decide (d.mode = 3) && !decide (d.wire = 0)) || (decide (d.mode = 4) && !decide (d.wire = 2)) || (decide (d.mode = 5) && decide (widthOf d.wire = 0))
def decOkS (d : Dcd) : Bool := planOk d.plan && within d.mode 1 9 && within d.at_ 0 1000000000 && within d.start 0 d.at_ && utfOk d.utf && wireOk d.wire && (decide (d.field = fld0) || known d.plan.shapes d.field) && stackS d && endD d && wantD d && !wiresS d && !(within d.mode 3 5 && !decide (d.field = fld0) && !allowed d.field d.wire) && (!decide (d.mode = 6) || isBytes d.field.kind) && (!decide (d.mode = 8) || runs d.field) && scanS d
theorem topL_nil {d : Dcd} (h : d.stack = []) : topL d = 0 := by unfold topL; rw [h]; rfl
theorem widthOf_cases (w : Int) : widthOf w = 0 ∨ widthOf w = 4 ∨ widthOf w = 8 := by unfold widthOf; split <;> (try split) <;> omega
theorem decOkS_eq (d : Dcd) : decOkS d = decOk d := by
  have hw := widthOf_cases d.wire
  have hw2 := widthOf_cases (wireOf d.field.kind)
  by_cases hm : within d.mode 1 9 = true
  · have hm := within_t hm
    have hp : planOk d.plan = true → 1 ≤ d.plan.deep := fun h => (planOk_t h).2.2.2.2.1
    have ht := @topL_nil d
    obtain ⟨⟨sh, ro, de, mo⟩, m, st, sc, sa, a, f, w, wa, u, e⟩ := d
    simp only at hm hw hw2 hp ht
    have hs : (decide (st = []) : Bool) = decide ((st.length : Int) = 0) := by cases st <;> simp <;> omega
    have hl : ∀ x : Lev, (([] : List Lev).length : Int) = 0 := fun _ => rfl
    rcases (show m = 1 ∨ m = 2 ∨ m = 3 ∨ m = 4 ∨ m = 5 ∨ m = 6 ∨ m = 7 ∨ m = 8 ∨ m = 9 by omega) with rfl | rfl | rfl | rfl | rfl | rfl | rfl | rfl | rfl <;>
      rw [Bool.eq_iff_iff] <;> simp [decOkS, decOk, levelsOk, stackS, stackD, wiresS, scanS, fixS, scanD, kindD, fitD, wantD, roomD, widthD, hs, within] <;> grind
  · have hm : within d.mode 1 9 = false := by simpa using hm
    simp [decOkS, decOk, hm]
theorem ev_eq {e f : Ev} (h : e.kind = f.kind ∧ e.field = f.field ∧ e.bits = f.bits ∧ e.len = f.len ∧ e.text = f.text ∧ e.code = f.code ∧ e.at_ = f.at_) : e = f := by cases e; cases f; simp_all
theorem isBare_t {e : Ev} (h : e.kind = (bareEv e).kind ∧ e.field = (bareEv e).field ∧ e.bits = (bareEv e).bits ∧ e.len = (bareEv e).len ∧ e.text = (bareEv e).text ∧ e.code = (bareEv e).code ∧ e.at_ = (bareEv e).at_) : isBare e = true := decide_eq_true (ev_eq h)
theorem isBare_f {e : Ev} (h : e.kind = (bareEv e).kind → e.field = (bareEv e).field → e.bits = (bareEv e).bits → e.len = (bareEv e).len → e.text = (bareEv e).text → e.code = (bareEv e).code → ¬ e.at_ = (bareEv e).at_) : isBare e = false :=
  decide_eq_false fun x => h (congrArg Ev.kind x) (congrArg Ev.field x) (congrArg Ev.bits x) (congrArg Ev.len x) (congrArg Ev.text x) (congrArg Ev.code x) (congrArg Ev.at_ x)
theorem isBare_eq {e f : Ev} (h : bareEv e = f) : isBare e = (decide (e.kind = f.kind) && (decide (e.field = f.field) && (decide (e.bits = f.bits) && (decide (e.len = f.len) && (decide (e.text = f.text) && (decide (e.code = f.code) && decide (e.at_ = f.at_))))))) := by
  subst h
  rw [Bool.eq_iff_iff]
  simp only [Bool.and_eq_true, decide_eq_true_eq]
  constructor
  · intro h
    have h : e = bareEv e := of_decide_eq_true h
    exact ⟨congrArg Ev.kind h, congrArg Ev.field h, congrArg Ev.bits h, congrArg Ev.len h, congrArg Ev.text h, congrArg Ev.code h, congrArg Ev.at_ h⟩
  · exact fun h => isBare_t h
end Go.Proofs.YthmhekbmhpljcaaGreat.Ax
