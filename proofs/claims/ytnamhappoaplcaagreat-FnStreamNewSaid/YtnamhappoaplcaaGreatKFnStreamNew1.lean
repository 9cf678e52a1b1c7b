/- Models. Models: the machine. Models: the machine's steps. Models: bytes, whole inputs. Models: readers, streams. Draws of numbers, bytes, scripts. Numbers. Drawn descriptions: checks. What drawn descriptions compile to. -/
import Derived.Test.YtnamhappoaplcaaGreatKB4
set_option linter.unusedSimpArgs false
set_option linter.unusedVariables false
namespace Go.Proofs.YtnamhappoaplcaaGreat.Ax
open Go.RowKit
theorem consE {α : Type} {a b : α} {l m : List α} (h : a = b) (t : l = m) : a :: l = b :: m := by rw [h, t]
def vI (x : Int) : V := .c (.int .i64 x)
def vB (x : Bool) : V := .c (.bool x)
def vT (x : List UInt8) : V := .c (.str x)
def vO (j : Nat) : V := .c (.own j)
def vP (j : Nat) : V := .c (.ptr j 0)
theorem sB {a b : Bool} (h : a = b) : (.v (.c (.bool a)) : S) = .v (.c (.bool b)) := by rw [h]
theorem sI {a b : Int} (h : a = b) : (.v (.c (.int .i64 a)) : S) = .v (.c (.int .i64 b)) := by rw [h]
theorem dT {p : Prop} [Decidable p] : decide p = true ↔ p := decide_eq_true_iff
theorem dF {p : Prop} [Decidable p] : decide p = false ↔ ¬ p := decide_eq_false_iff_not
theorem andT {a b : Bool} {P Q : Prop} (h : a = true ↔ P) (g : b = true ↔ Q) : (a && b) = true ↔ P ∧ Q := by rw [Bool.and_eq_true, h, g]
theorem andF {a b : Bool} {P Q : Prop} (h : a = true ↔ P) (g : b = false ↔ Q) : (a && b) = false ↔ (P → Q) := by rw [Bool.and_eq_false_imp, h, g]
theorem has_of {F : Fam} {j : F.ι} {tm : List (Nat × S)} {H : List Blk} (h1 : tm = F.tm j) (h2 : H = F.H j) (h : F.inv j) : F.Has tm H := ⟨j, h, h1, h2⟩
theorem nxt_of {F : Fam} {i j : F.ι} {tm : List (Nat × S)} {H : List Blk} (h1 : tm = F.tm j) (h2 : H = F.H j) (h : F.inv j) (hm : F.mu j < F.mu i) : F.Nxt i tm H := ⟨j, ⟨h, hm⟩, h1, h2⟩
theorem fun_ofw {P : Program} {f : FuncId} {fn : Func} (hf : P.funcs[f]? = some fn) (hb : fn.body.isNone = false) (hn : (fn.name == "runtime.NumGoroutine") = false) {args : List V} {L L' : List Blk} {r : S} {w : DT Unit × Prop}
  (hw : walkT P fn args L w.1 (fun _ r' Lp => r' = r ∧ Lp = L') = w.2) (h : w.2) : Fun P f args L r L' := fun_of hf hb hn hw h
theorem funs_ofw {P : Program} {ι : Type} {f : FuncId} {fn : Func} (hf : P.funcs[f]? = some fn) (hb : fn.body.isNone = false) (hn : (fn.name == "runtime.NumGoroutine") = false) {args : List V} {L : List Blk} {L' : ι → List Blk} {r : ι → S} {good : ι → Prop} {w : DT ι × Prop}
  (hw : walkT P fn args L w.1 (fun i r' Lp => good i ∧ r' = r i ∧ Lp = L' i) = w.2) (h : w.2) : ∃ i, good i ∧ Fun P f args L (r i) (L' i) := funs_of hf hb hn hw h
theorem dsp {p : Prop} [Decidable p] {A B : Prop} (h1 : decide p = true → p → A) (h2 : decide p = false → ¬ p → B) : (decide p = true → A) ∧ (decide p = false → B) := ⟨fun h => h1 h (of_decide_eq_true h), fun h => h2 h (of_decide_eq_false h)⟩
/-! ### Structures -/
structure Scn where
 bits : Int
 have_ : Int
 deriving DecidableEq, Inhabited
structure Utf where
 want : Int
 low : Int
 high : Int
 deriving DecidableEq, Inhabited
structure Pln where
 shapes : List Shp
 root : Int
 deep : Int
 most : Int
 deriving DecidableEq, Inhabited
structure Dcd where
 plan : Pln
 mode : Int
 stack : List Lev
 scan : Scn
 start : Int
 at_ : Int
 field : Fld
 wire : Int
 want : Int
 utf : Utf
 end_ : Ev
 deriving DecidableEq, Inhabited
def fld0 : Fld := ⟨0, 0, false, false, 0⟩
def ev0 : Ev := ⟨0, 0, 0, 0, [], 0, 0⟩
def utf0 : Utf := ⟨0, 0, 0⟩
def scn0 : Scn := ⟨0, 0⟩
theorem drop_el {α : Type} {l : List α} {i : Nat} {x : α} (h : l[i]? = some x) : l.drop i = x :: l.drop (i + 1) := by
 have hl := (List.getElem?_eq_some_iff.1 h).1
 rw [List.drop_eq_getElem_cons hl]
 congr 1
 rw [List.getElem?_eq_getElem hl] at h
 exact Option.some.inj h
theorem bnot_t {b : Bool} (h : (!b) = true) : b = false := by cases b <;> simp_all
theorem bnot_f {b : Bool} (h : (!b) = false) : b = true := by cases b <;> simp_all
theorem getD_of {α : Type} {l : List α} {i : Nat} {x d : α} (h : l[i]? = some x) : l.getD i d = x := by simp [List.getD, h]
theorem drop_end {α : Type} {l : List α} {i : Nat} (h : ¬ ((i : Nat) : Int) < ((l.length : Nat) : Int)) : l.drop i = [] := List.drop_eq_nil_of_le (by omega)
/-! ### Words of numbers -/
theorem as_tmod {k : IntKind} {a m : Int} (h : 0 ≤ a) : (.v (.c (.int k (Int.tmod a m))) : S) = .v (.c (.int k (a % m))) := by rw [Int.tmod_eq_emod_of_nonneg h]
theorem as_tdiv_u64 {a m : Int} (h : 0 ≤ a) (h2 : a ≤ 18446744073709551615) (hm : 0 < m) : (.v (.c (.int .u64 (IntKind.u64.wrap (Int.tdiv a m)))) : S) = .v (.c (.int .u64 (a / m))) := by
 rw [Int.tdiv_eq_ediv_of_nonneg h]
 have h3 := Int.ediv_nonneg h (Int.le_of_lt hm)
 have h4 := Int.ediv_le_self m h
 exact as_u64 (by omega) (by omega)
def numberOk (n : Int) : Bool := within n 1 536870911 && !within n 19000 19999
def wireOk (w : Int) : Bool := decide (w = 0) || decide (w = 1) || decide (w = 2) || decide (w = 5)
def kindOk (k : Int) : Bool := within k 1 8
def numeric (k : Int) : Bool := within k 1 5
def wireOf (k : Int) : Int := if kindOk k then (if k = 4 then 5 else if k = 5 then 1 else if k ≤ 3 then 0 else 2) else -1
def widthOf (w : Int) : Int := if w = 1 then 8 else if w = 5 then 4 else 0
def runs (f : Fld) : Bool := f.rep && numeric f.kind
def allowed (f : Fld) (w : Int) : Bool := decide (w = wireOf f.kind) || (decide (w = 2) && runs f)
def hasField (k : Int) : Bool := decide (k = 2) || decide (k = 3) || decide (k = 6)
theorem widthOf_b (w : Int) : 0 ≤ widthOf w ∧ widthOf w ≤ 8 := by unfold widthOf; split <;> (try split) <;> omega
def fldOk (f : Fld) (n : Int) : Bool := numberOk f.number && kindOk f.kind && !(f.packed && (!f.rep || !numeric f.kind)) && (if f.kind = 8 then within f.msg 0 (n - 1) else decide (f.msg = -1))
def fieldsOk (n : Int) : Int → List Fld → Bool
 | _, [] => true
 | b, f :: r => decide (b < f.number) && fldOk f n && fieldsOk n f.number r
def shapesOk (n : Int) : Int → List Shp → Bool
 | _, [] => true
 | b, x :: r => decide (b < x.id) && decide (x.id ≤ 99) && decide ((x.fields.length : Int) ≤ 8) && fieldsOk n 0 x.fields && shapesOk n x.id r
def schemaOk (l : List Shp) : Bool := decide ((l.length : Int) ≤ 6) && shapesOk (l.length : Int) 0 l
def fieldIn (l : List Fld) (n : Int) : Option Fld := l.find? fun f => decide (f.number = n)
def shp0 : Shp := ⟨0, []⟩
def fieldAt (l : List Shp) (s n : Int) : Option Fld := if within s 0 ((l.length : Int) - 1) then fieldIn (l.getD s.toNat shp0).fields n else none
def planOk (p : Pln) : Bool := schemaOk p.shapes && within p.root 0 ((p.shapes.length : Int) - 1) && within p.deep 1 8 && within p.most 0 2000
theorem fldOk_t {f : Fld} {n : Int} (h : fldOk f n = true) : 1 ≤ f.number ∧ f.number ≤ 536870911 ∧ 1 ≤ f.kind ∧ f.kind ≤ 8 ∧ (f.kind = 8 → 0 ≤ f.msg ∧ f.msg ≤ n - 1) ∧ (f.kind ≠ 8 → f.msg = -1) := by
 simp only [fldOk, numberOk, kindOk, within, Bool.and_eq_true, decide_eq_true_eq] at h
 obtain ⟨⟨⟨h1, h2⟩, h3⟩, h4⟩ := h
 refine ⟨h1.1.1, h1.1.2, h2.1, h2.2, fun hk => ?_, fun hk => ?_⟩
 ·rw [if_pos hk] at h4; simpa using h4
 ·rw [if_neg hk] at h4; simpa using h4
theorem schemaOk_t {l : List Shp} (h : schemaOk l = true) : l.length ≤ 6 := by
 simp only [schemaOk, Bool.and_eq_true, decide_eq_true_eq] at h; omega
theorem planOk_t {p : Pln} (h : planOk p = true) : p.shapes.length ≤ 6 ∧ schemaOk p.shapes = true ∧ 0 ≤ p.root ∧ p.root < (p.shapes.length : Int) ∧ 1 ≤ p.deep ∧ p.deep ≤ 8 ∧ 0 ≤ p.most ∧ p.most ≤ 2000 := by
 simp only [planOk, within, Bool.and_eq_true, decide_eq_true_eq] at h
 have := schemaOk_t h.1.1.1
 refine ⟨this, h.1.1.1, ?_⟩; omega
theorem shapesOk_mem {n : Int} : ∀ {b : Int} {l : List Shp}, shapesOk n b l = true → ∀ x ∈ l, (x.fields.length ≤ 8 ∧ fieldsOk n 0 x.fields = true) ∧ b < x.id ∧ x.id ≤ 99
 | _, [], _, f, hf => by cases hf
 | b, g :: r, h, f, hf => by
  simp only [shapesOk, Bool.and_eq_true, decide_eq_true_eq] at h
  rcases List.mem_cons.1 hf with rfl | hf
  ·exact ⟨⟨by omega, h.1.2⟩, h.1.1.1.1, h.1.1.1.2⟩
  ·have := shapesOk_mem h.2 f hf; exact ⟨this.1, by omega, this.2.2⟩
theorem schemaOk_fields {l : List Shp} (h : schemaOk l = true) : ∀ x ∈ l, List.length x.fields ≤ 1000 := fun x hx => by
 simp only [schemaOk, Bool.and_eq_true] at h
 have := (shapesOk_mem h.2 x hx).1.1
 omega
def tagOf (n w : Int) : Int := if within n 1 536870911 && within w 0 7 then 8 * n + w else 0
theorem tagOf_b (n w : Int) : 0 ≤ tagOf n w ∧ tagOf n w ≤ 4294967295 := by
 unfold tagOf within; split <;> simp_all <;> omega
/-! ### Utf-8 -/
def utfIs (u : Utf) (w l h : Int) : Bool := decide (u.want = w) && (decide (u.low = l) && decide (u.high = h))
def utfOk (u : Utf) : Bool := utfIs u 0 0 0 || utfIs u 1 128 191 || utfIs u 2 128 191 || utfIs u 3 128 191 || utfIs u 2 160 191 || utfIs u 2 128 159 || utfIs u 3 144 191 || utfIs u 3 128 143
theorem utfOk_t {u : Utf} (h : utfOk u = true) : (u.want = 0 ∧ u.low = 0 ∧ u.high = 0) ∨ (u.want = 1 ∧ u.low = 128 ∧ u.high = 191) ∨ (u.want = 2 ∧ u.low = 128 ∧ u.high = 191) ∨ (u.want = 3 ∧ u.low = 128 ∧ u.high = 191) ∨ (u.want = 2 ∧ u.low = 160 ∧ u.high = 191) ∨ (u.want = 2 ∧ u.low = 128 ∧ u.high = 159) ∨ (u.want = 3 ∧ u.low = 144 ∧ u.high = 191) ∨ (u.want = 3 ∧ u.low = 128 ∧ u.high = 143) := by
 simp only [utfOk, utfIs, Bool.or_eq_true, Bool.and_eq_true, decide_eq_true_eq] at h
 rcases h with ((((((h | h) | h) | h) | h) | h) | h) | h <;> simp [h]
theorem utfOk_want {u : Utf} (h : utfOk u = true) : 0 ≤ u.want ∧ u.want ≤ 3 := by
 rcases utfOk_t h with h | h | h | h | h | h | h | h <;> omega
def putVarN (u : Nat) : List UInt8 := if h : u < 128 then [UInt8.ofNat u] else UInt8.ofNat (u % 128 + 128) :: putVarN (u / 128)
termination_by u
decreasing_by omega
def putVar (u : Int) : List UInt8 := putVarN u.toNat
def varLen (u : Int) : Int := ((putVar u).length : Int)
theorem putVarN_small {u : Nat} (h : u < 128) : putVarN u = [UInt8.ofNat u] := by rw [putVarN, dif_pos h]
theorem putVarN_big {u : Nat} (h : ¬ u < 128) : putVarN u = UInt8.ofNat (u % 128 + 128) :: putVarN (u / 128) := by rw [putVarN, dif_neg h]
theorem putVarN_len : ∀ (k u : Nat), u < 128 ^ k → 1 ≤ k → (putVarN u).length ≤ k
 | 0, _, _, h => by omega
 | k + 1, u, h, _ => by
  by_cases hu : u < 128
  ·rw [putVarN_small hu]; simp
  ·rw [putVarN_big hu]
   have hk : 1 ≤ k := by
    rcases k with _ | k
    ·simp at h; omega
    ·omega
   have := putVarN_len k (u / 128) (by rw [Nat.pow_succ] at h; exact Nat.div_lt_of_lt_mul (by rw [Nat.mul_comm]; exact h)) hk
   simp; omega
theorem putVarN_pos (u : Nat) : 1 ≤ (putVarN u).length := by
 by_cases hu : u < 128
 ·rw [putVarN_small hu]; simp
 ·rw [putVarN_big hu]; simp
theorem putVar_small {u : Int} (h0 : 0 ≤ u) (h : u ≤ 127) : putVar u = [UInt8.ofNat u.toNat] := putVarN_small (by omega)
theorem putVar_big {u : Int} (h0 : 0 ≤ u) (h : 127 < u) : putVar u = UInt8.ofNat (u % 128 + 128).toNat :: putVar (u / 128) := by
 unfold putVar
 rw [putVarN_big (by omega), show (u / 128).toNat = u.toNat / 128 by omega, show (u % 128 + 128).toNat = u.toNat % 128 + 128 by omega]
theorem putVar_pos (u : Int) : 1 ≤ (putVar u).length := putVarN_pos _
theorem varLen_b {u : Int} (h : u ≤ 18446744073709551615) : 1 ≤ varLen u ∧ varLen u ≤ 10 := by
 have h1 := putVarN_pos u.toNat
 have h2 := putVarN_len 10 u.toNat (by omega) (by omega)
 unfold varLen putVar; omega
theorem fieldIn_cons {f : Fld} {l : List Fld} {n : Int} : fieldIn (f :: l) n = if f.number = n then some f else fieldIn l n := by
 unfold fieldIn; rw [List.find?_cons]; by_cases h : f.number = n <;> simp [h]
theorem fieldAt_in {l : List Shp} {s n : Int} {x : Shp} (hs : within s 0 ((l.length : Int) - 1) = true) (hx : l[s.toNat]? = some x) : fieldAt l s n = fieldIn x.fields n := by
 rw [fieldAt, if_pos hs, getD_of hx]
def many (l : List Ev) (k : Int) : Int := ((l.filter fun e => decide (e.kind = k)).length : Int)
structure Fa where
 stack : List Int
 inText : Bool
 isText : Bool
 utf : Utf
 ended : Bool
 deriving Inhabited
structure Fmr where
 plan : Pln
 st : Fa
structure Fs where
 stack : List Int
 field : Fld
 open_ : Bool
 utf : Utf
 ended : Bool
def isBytes (k : Int) : Bool := decide (k = 6) || decide (k = 7)
def cEv (x : Ev) : List C := [.int .i64 x.kind, .int .i64 x.field, .int .u64 x.bits, .int .i64 x.len, .str x.text, .int .i64 x.code, .int .i64 x.at_]
def cFld (x : Fld) : List C := [.int .i64 x.number, .int .i64 x.kind, .bool x.rep, .bool x.packed, .int .i64 x.msg]
def cShp (x : Shp) : List C := [.int .i64 x.id, .seq .fld x.fields]
def cLev (x : Lev) : List C := [.int .i64 x.msg, .int .i64 x.left]
def cScn (x : Scn) : List C := [.int .u64 x.bits, .int .i64 x.have_]
def cUtf (x : Utf) : List C := [.int .i64 x.want, .int .i64 x.low, .int .i64 x.high]
def cPln (x : Pln) : List C := [.seq .shp x.shapes, .int .i64 x.root, .int .i64 x.deep, .int .i64 x.most]
def cDcd (x : Dcd) : List C := [.seq .shp x.plan.shapes, .int .i64 x.plan.root, .int .i64 x.plan.deep, .int .i64 x.plan.most, .int .i64 x.mode, .seq .lev x.stack, .int .u64 x.scan.bits, .int .i64 x.scan.have_, .int .i64 x.start, .int .i64 x.at_, .int .i64 x.field.number, .int .i64 x.field.kind, .bool x.field.rep, .bool x.field.packed, .int .i64 x.field.msg, .int .i64 x.wire, .int .i64 x.want, .int .i64 x.utf.want, .int .i64 x.utf.low, .int .i64 x.utf.high, .int .i64 x.end_.kind, .int .i64 x.end_.field, .int .u64 x.end_.bits, .int .i64 x.end_.len, .str x.end_.text, .int .i64 x.end_.code, .int .i64 x.end_.at_]
def oDcd0_5 (j0 : Nat) (j5 : Nat) (x : Dcd) : List C := [.own j0, .int .i64 x.plan.root, .int .i64 x.plan.deep, .int .i64 x.plan.most, .int .i64 x.mode, .own j5, .int .u64 x.scan.bits, .int .i64 x.scan.have_, .int .i64 x.start, .int .i64 x.at_, .int .i64 x.field.number, .int .i64 x.field.kind, .bool x.field.rep, .bool x.field.packed, .int .i64 x.field.msg, .int .i64 x.wire, .int .i64 x.want, .int .i64 x.utf.want, .int .i64 x.utf.low, .int .i64 x.utf.high, .int .i64 x.end_.kind, .int .i64 x.end_.field, .int .u64 x.end_.bits, .int .i64 x.end_.len, .str x.end_.text, .int .i64 x.end_.code, .int .i64 x.end_.at_]
def oPln0 (j0 : Nat) (x : Pln) : List C := [.own j0, .int .i64 x.root, .int .i64 x.deep, .int .i64 x.most]
def lev0 : Lev := ⟨0, 0⟩
def topL (d : Dcd) : Int := (d.stack.getD (d.stack.length - 1) lev0).left
def levOk (n : Int) (l : Lev) : Bool := within l.msg 0 (n - 1) && within l.left 0 2000
def levelsOk (d : Dcd) : Bool := planOk d.plan && decide ((d.stack.length : Int) ≤ d.plan.deep) && d.stack.all (levOk (d.plan.shapes.length : Int))
def levN (n : Int) : List Lev → Nat
 | [] => 0
 | l :: r => if levOk n l then levN n r + 1 else 0
theorem levN_cons {n : Int} {l : Lev} {r : List Lev} : levN n (l :: r) = if levOk n l then levN n r + 1 else 0 := rfl
theorem levN_all (n : Int) : ∀ l : List Lev, l.all (levOk n) = decide (levN n l = l.length)
 | [] => rfl
 | l :: r => by
  rw [List.all_cons, levN_all n r, levN_cons]
  cases h : levOk n l with
  | true => rw [if_pos rfl]; simp
  | false => rw [if_neg (by simp)]; simp
def badLev (n : Int) (l : List Lev) : Int := if levN n l = l.length then -1 else (levN n l : Int)
def scanOk (s : Scn) : Bool := within s.have_ 0 9 && decide (Int.fdiv s.bits (2 ^ min (Int.toNat (7 * s.have_)) 64) = 0)
def widthD (d : Dcd) : Int := if d.mode = 5 then widthOf d.wire else if d.mode = 8 then widthOf (wireOf d.field.kind) else 0
def roomD (d : Dcd) : Int := if d.mode = 8 then d.want else topL d
def scanD (d : Dcd) : Bool := if 0 < widthD d then within d.scan.have_ 0 (widthD d - 1) && decide (Int.fdiv d.scan.bits (2 ^ min (Int.toNat (8 * d.scan.have_)) 64) = 0) && decide (widthD d - d.scan.have_ ≤ roomD d)
 else if d.mode = 6 ∨ d.mode = 7 ∨ d.mode = 9 then decide (d.scan = scn0) else scanOk d.scan
def wantD (d : Dcd) : Bool := if d.mode = 6 ∨ d.mode = 7 ∨ d.mode = 8 then within d.want 1 (topL d) else decide (d.want = 0)
def fitD (d : Dcd) : Bool := decide (d.field = fld0) || allowed d.field d.wire
def kindD (d : Dcd) : Bool := if d.mode = 6 then isBytes d.field.kind else if d.mode = 8 then runs d.field else if d.mode = 3 then decide (d.wire = 0) && fitD d else if d.mode = 4 then decide (d.wire = 2) && fitD d else if d.mode = 5 then decide (0 < widthOf d.wire) && fitD d else true
def knownN (l : List Shp) (f : Fld) : Nat → Bool
 | 0 => false
 | k + 1 => knownN l f k || decide (fieldAt l (k : Int) f.number = some f)
def known (l : List Shp) (f : Fld) : Bool := knownN l f l.length
def isEvent (k : Int) : Bool := within k 1 10
def bareEv (e : Ev) : Ev := ⟨e.kind, if e.kind = 2 ∨ e.kind = 3 ∨ e.kind = 6 then e.field else 0, if e.kind = 2 then e.bits else 0, if e.kind = 1 ∨ e.kind = 3 ∨ e.kind = 6 then e.len else 0, if e.kind = 4 then e.text else [], if e.kind = 10 then e.code else 0, if e.kind = 9 ∨ e.kind = 10 then e.at_ else 0⟩
def isBare (e : Ev) : Bool := decide (e = bareEv e)
def eventOk (e : Ev) : Bool := isEvent e.kind && isBare e && decide (0 ≤ e.len) && decide (0 ≤ e.at_) && (if hasField e.kind then within e.field 1 536870911 else if e.kind = 4 then !decide (e.text = []) else if e.kind = 10 then decide (1 ≤ e.code) else true)
def terminal (e : Ev) : Bool := decide (e.kind = 9) || decide (e.kind = 10)
def endD (d : Dcd) : Bool := if d.mode = 9 then eventOk d.end_ && terminal d.end_ else decide (d.end_ = ev0)
def stackD (d : Dcd) : Bool := if d.mode = 1 then decide (d.stack = []) else if d.mode = 9 then true else decide (1 ≤ topL d)
def decOk (d : Dcd) : Bool := levelsOk d && within d.mode 1 9 && within d.at_ 0 1000000000 && within d.start 0 d.at_ && utfOk d.utf && wireOk d.wire && (decide (d.field = fld0) || known d.plan.shapes d.field) && endD d && stackD d && wantD d && kindD d && scanD d
theorem fld_eq {o f : Fld} (h : o.number = f.number ∧ o.kind = f.kind ∧ o.rep = f.rep ∧ o.packed = f.packed ∧ o.msg = f.msg) : o = f := by
 cases o; cases f; simp_all
theorem fld_ne {o f : Fld} (h : o.number = f.number → o.kind = f.kind → o.rep = f.rep → o.packed = f.packed → ¬ o.msg = f.msg) : o ≠ f := fun e => by subst e; exact h rfl rfl rfl rfl rfl
theorem knownN_mono {l : List Shp} {f : Fld} : ∀ {k m : Nat}, k ≤ m → knownN l f k = true → knownN l f m = true
 | k, 0, h, hk => by rw [show k = 0 by omega] at hk; exact hk
 | k, m + 1, h, hk => by
  by_cases e : k = m + 1
  ·rw [← e]; exact hk
  ·rw [knownN, knownN_mono (m := m) (by omega) hk]; rfl
theorem known_of {l : List Shp} {f : Fld} {k : Nat} (h : k < l.length) (hf : fieldAt l (k : Int) f.number = some f) : known l f = true := by
 have : knownN l f (k + 1) = true := by rw [knownN, hf]; simp
 exact knownN_mono (show k + 1 ≤ l.length by omega) this
theorem knownN_next {l : List Shp} {f : Fld} {k : Nat} (h : knownN l f k = false) (hf : fieldAt l (k : Int) f.number ≠ some f) : knownN l f (k + 1) = false := by
 rw [knownN, h]; simp [hf]
theorem known_no {l : List Shp} {f : Fld} {k : Nat} (h : knownN l f k = false) (hk : l.length = k) : known l f = false := by unfold known; rw [hk]; exact h
theorem fld_zero {f : Fld} (h : f.number = 0 ∧ f.kind = 0 ∧ f.rep = false ∧ f.packed = false ∧ f.msg = 0) : f = fld0 := fld_eq h
theorem ev_eq {e f : Ev} (h : e.kind = f.kind ∧ e.field = f.field ∧ e.bits = f.bits ∧ e.len = f.len ∧ e.text = f.text ∧ e.code = f.code ∧ e.at_ = f.at_) : e = f := by cases e; cases f; simp_all
theorem isBare_t {e : Ev} (h : e.kind = (bareEv e).kind ∧ e.field = (bareEv e).field ∧ e.bits = (bareEv e).bits ∧ e.len = (bareEv e).len ∧ e.text = (bareEv e).text ∧ e.code = (bareEv e).code ∧ e.at_ = (bareEv e).at_) : isBare e = true := decide_eq_true (ev_eq h)
theorem isBare_eq {e f : Ev} (h : bareEv e = f) : isBare e = (decide (e.kind = f.kind) && (decide (e.field = f.field) && (decide (e.bits = f.bits) && (decide (e.len = f.len) && (decide (e.text = f.text) && (decide (e.code = f.code) && decide (e.at_ = f.at_))))))) := by
 subst h
 rw [Bool.eq_iff_iff]
 simp only [Bool.and_eq_true, decide_eq_true_eq]
 constructor
 ·intro h
  have h : e = bareEv e := of_decide_eq_true h
  exact ⟨congrArg Ev.kind h, congrArg Ev.field h, congrArg Ev.bits h, congrArg Ev.len h, congrArg Ev.text h, congrArg Ev.code h, congrArg Ev.at_ h⟩
 ·exact fun h => isBare_t h
structure Mac where
 d : Dcd
 out : List Ev
def lastL (d : Dcd) : Lev := d.stack.getD (d.stack.length - 1) lev0
def stepD (d : Dcd) : Dcd := ⟨d.plan, d.mode, if d.stack.length = 0 then d.stack else d.stack.set (d.stack.length - 1) ⟨(lastL d).msg, topL d - 1⟩, d.scan, d.start, d.at_ + 1, d.field, d.wire, if d.mode = 6 ∨ d.mode = 7 ∨ d.mode = 8 then d.want - 1 else d.want, d.utf, d.end_⟩
theorem levelsOk_b {d : Dcd} (h : levelsOk d = true) : planOk d.plan = true ∧ (d.stack.length : Int) ≤ d.plan.deep ∧ d.stack.length ≤ 8 ∧ (∀ l ∈ d.stack, levOk (d.plan.shapes.length : Int) l = true) := by
 simp only [levelsOk, Bool.and_eq_true, decide_eq_true_eq, List.all_eq_true] at h
 have := planOk_t h.1.1
 exact ⟨h.1.1, h.1.2, by omega, h.2⟩
theorem levelsOk_mk {d : Dcd} (h1 : planOk d.plan = true) (h2 : (d.stack.length : Int) ≤ d.plan.deep) (h3 : ∀ l ∈ d.stack, levOk (d.plan.shapes.length : Int) l = true) : levelsOk d = true := by
 simp only [levelsOk, Bool.and_eq_true, decide_eq_true_eq, List.all_eq_true]; exact ⟨⟨h1, h2⟩, h3⟩
theorem lastL_mem {d : Dcd} (h : d.stack.length ≠ 0) : lastL d ∈ d.stack := by
 unfold lastL
 rw [List.getD_eq_getElem?_getD, List.getElem?_eq_getElem (by omega)]
 exact List.getElem_mem _
structure MW (d : Dcd) : Prop where
 lv : levelsOk d = true
 kn : d.field = fld0 ∨ known d.plan.shapes d.field = true
 b0 : 0 ≤ d.scan.bits ∧ d.scan.bits ≤ 18446744073709551615
 at_ : 0 ≤ d.at_ ∧ d.at_ ≤ 1000000001
 want : -1 ≤ d.want ∧ d.want ≤ 2001
theorem MW.step {d : Dcd} (h : MW d) (hs : d.stack.length = 0 ∨ 1 ≤ topL d) (ha : d.at_ ≤ 1000000000) (hw : (d.mode = 6 ∨ d.mode = 7 ∨ d.mode = 8) → 0 ≤ d.want) : MW (stepD d) := by
 have hb := levelsOk_b h.lv
 refine ⟨?_, h.kn, h.b0, ?_, ?_⟩
 ·refine levelsOk_mk (d := stepD d) hb.1 ?_ ?_
  ·show (((stepD d).stack.length : Nat) : Int) ≤ d.plan.deep
   unfold stepD; simp only; split
   ·exact hb.2.1
   ·rw [List.length_set]; exact hb.2.1
  ·intro l hl
   show levOk (d.plan.shapes.length : Int) l = true
   unfold stepD at hl
   simp only at hl
   split at hl
   ·exact hb.2.2.2 l hl
   ·rename_i hn
    rcases List.mem_or_eq_of_mem_set hl with hl | hl
    ·exact hb.2.2.2 l hl
    ·have hx := hb.2.2.2 _ (lastL_mem hn)
     have ht : topL d = (lastL d).left := rfl
     simp only [levOk, Bool.and_eq_true] at hx
     have h1 := within_t hx.1; have h2 := within_t hx.2
     subst hl; simp [levOk, within]; omega
 ·have := h.at_; show 0 ≤ d.at_ + 1 ∧ d.at_ + 1 ≤ 1000000001; omega
 ·have := h.want
  show -1 ≤ (if d.mode = 6 ∨ d.mode = 7 ∨ d.mode = 8 then d.want - 1 else d.want) ∧ (if d.mode = 6 ∨ d.mode = 7 ∨ d.mode = 8 then d.want - 1 else d.want) ≤ 2001
  split
  ·rename_i hm; have := hw hm; omega
  ·exact this
def decNew (p : Pln) : Dcd := if planOk p = true then ⟨p, 1, [], ⟨0, 0⟩, 0, 0, ⟨0, 0, false, false, 0⟩, 0, 0, ⟨0, 0, 0⟩, ⟨0, 0, 0, 0, [], 0, 0⟩⟩ else ⟨⟨[], 0, 0, 0⟩, 0, [], ⟨0, 0⟩, 0, 0, ⟨0, 0, false, false, 0⟩, 0, 0, ⟨0, 0, 0⟩, ⟨0, 0, 0, 0, [], 0, 0⟩⟩
theorem schemaOk_fields20 {l : List Shp} (h : schemaOk l = true) : ∀ e ∈ l, e.fields.length ≤ 1048576 := fun e he => by have := schemaOk_fields h e he; omega
structure Gr (m q : Mac) : Prop where
 plan : q.d.plan = m.d.plan
 stack : q.d.stack.length ≤ m.d.stack.length + 1
 out : q.out.length ≤ m.out.length + m.d.stack.length + 6
theorem Gr.of {m x q : Mac} (h : Gr x q) (hp : x.d.plan = m.d.plan) (hs : x.d.stack.length = m.d.stack.length) (ho : x.out.length = m.out.length) : Gr m q := ⟨h.plan.trans hp, by have := h.stack; omega, by have := h.out; omega⟩
theorem decNew_t {p : Pln} (h : planOk p = true) : (decNew p).plan = p ∧ (decNew p).stack = [] ∧ (decNew p).scan.bits = 0 := by unfold decNew; rw [if_pos h]; exact ⟨rfl, rfl, rfl⟩
structure Rdr where
 data : List UInt8
 at_ : Int
 script : List Rd
 next : Int
 code : Int
structure Strm where
 reader : Rdr
 dec : Dcd
 queue : List Ev
 reads : Int
def readerOk (r : Rdr) : Bool := decide ((r.data.length : Int) ≤ 4000) && within r.at_ 0 (r.data.length : Int) && decide ((r.script.length : Int) ≤ 200) && within r.next 0 (r.script.length : Int) && (decide (r.code = 0) || decide (r.code = 1) || decide (20 ≤ r.code))
theorem readerOk_t {a : Rdr} (h : readerOk a = true) : (a.data.length : Int) ≤ 4000 ∧ 0 ≤ a.at_ ∧ a.at_ ≤ (a.data.length : Int) ∧ (a.script.length : Int) ≤ 200 ∧ 0 ≤ a.next ∧ a.next ≤ (a.script.length : Int) ∧ (a.code = 0 ∨ a.code = 1 ∨ 20 ≤ a.code) := by
 simp only [readerOk, within, Bool.and_eq_true, Bool.or_eq_true, decide_eq_true_eq] at h
 omega
def clampN (n room left : Int) : Int := max (min (min n room) left) 0
theorem clampN_b (n room left : Int) : 0 ≤ clampN n room left ∧ (0 ≤ left → clampN n room left ≤ left) ∧ (1 ≤ n → 1 ≤ room → 1 ≤ left → 1 ≤ clampN n room left) := by unfold clampN; omega
def entryOf (r : Rdr) (room : Int) : Rd := if r.next < (r.script.length : Int) then r.script.getD r.next.toNat ⟨0, 0⟩ else ⟨room, 1⟩
def rsNext (r : Rdr) : Int := if r.next < (r.script.length : Int) then r.next + 1 else r.next
def rsN (r : Rdr) (room : Int) : Int := clampN (entryOf r room).n room ((r.data.length : Int) - r.at_)
def rsCode (r : Rdr) (room : Int) : Int := if 20 ≤ (entryOf r room).code then (entryOf r room).code else if (entryOf r room).code = 1 ∧ r.at_ + rsN r room = (r.data.length : Int) then 1 else r.code
def rsBad (r : Rdr) (room : Int) : Bool := !readerOk r || decide (room < 1) || !decide (r.code = 0)
def readSome (r : Rdr) (room : Int) : Rdr := if rsBad r room then r else ⟨r.data, r.at_ + rsN r room, r.script, rsNext r, rsCode r room⟩
def readTxt (r : Rdr) (room : Int) : List UInt8 := if rsBad r room then [] else List.drop r.at_.toNat (List.take (r.at_ + rsN r room).toNat r.data)
def readCode (r : Rdr) (room : Int) : Int := if !readerOk r || decide (room < 1) then 1 else if !decide (r.code = 0) then r.code else rsCode r room
def rdr0 : Rdr := ⟨[], 0, [], 0, 0⟩
def rdrNew (data : List UInt8) (script : List Rd) : Rdr := if readerOk ⟨data, 0, script, 0, 0⟩ = true then ⟨data, 0, script, 0, 0⟩ else ⟨[], 0, [], 0, 0⟩
def rdrNewOk (data : List UInt8) (script : List Rd) : Bool := readerOk ⟨data, 0, script, 0, 0⟩
def dcd0 : Dcd := ⟨⟨[], 0, 0, 0⟩, 0, [], ⟨0, 0⟩, 0, 0, ⟨0, 0, false, false, 0⟩, 0, 0, ⟨0, 0, 0⟩, ⟨0, 0, 0, 0, [], 0, 0⟩⟩
def strmNewOk (p : Pln) (data : List UInt8) (script : List Rd) : Bool := rdrNewOk data script && planOk p
def strmNew (p : Pln) (data : List UInt8) (script : List Rd) : Strm := if strmNewOk p data script = true then ⟨rdrNew data script, decNew p, [], 0⟩ else ⟨rdr0, dcd0, [], 0⟩
def cRdr (x : Rdr) : List C := [.str x.data, .int .i64 x.at_, .seq .rd x.script, .int .i64 x.next, .int .i64 x.code]
def cStrm (x : Strm) : List C := [.str x.reader.data, .int .i64 x.reader.at_, .seq .rd x.reader.script, .int .i64 x.reader.next, .int .i64 x.reader.code, .seq .shp x.dec.plan.shapes, .int .i64 x.dec.plan.root, .int .i64 x.dec.plan.deep, .int .i64 x.dec.plan.most, .int .i64 x.dec.mode, .seq .lev x.dec.stack, .int .u64 x.dec.scan.bits, .int .i64 x.dec.scan.have_, .int .i64 x.dec.start, .int .i64 x.dec.at_, .int .i64 x.dec.field.number, .int .i64 x.dec.field.kind, .bool x.dec.field.rep, .bool x.dec.field.packed, .int .i64 x.dec.field.msg, .int .i64 x.dec.wire, .int .i64 x.dec.want, .int .i64 x.dec.utf.want, .int .i64 x.dec.utf.low, .int .i64 x.dec.utf.high, .int .i64 x.dec.end_.kind, .int .i64 x.dec.end_.field, .int .u64 x.dec.end_.bits, .int .i64 x.dec.end_.len, .str x.dec.end_.text, .int .i64 x.dec.end_.code, .int .i64 x.dec.end_.at_, .seq .ev x.queue, .int .i64 x.reads]
def oRdr2 (j2 : Nat) (x : Rdr) : List C := [.str x.data, .int .i64 x.at_, .own j2, .int .i64 x.next, .int .i64 x.code]
def oStrm2_5_10_32 (j2 : Nat) (j5 : Nat) (j10 : Nat) (j32 : Nat) (x : Strm) : List C := [.str x.reader.data, .int .i64 x.reader.at_, .own j2, .int .i64 x.reader.next, .int .i64 x.reader.code, .own j5, .int .i64 x.dec.plan.root, .int .i64 x.dec.plan.deep, .int .i64 x.dec.plan.most, .int .i64 x.dec.mode, .own j10, .int .u64 x.dec.scan.bits, .int .i64 x.dec.scan.have_, .int .i64 x.dec.start, .int .i64 x.dec.at_, .int .i64 x.dec.field.number, .int .i64 x.dec.field.kind, .bool x.dec.field.rep, .bool x.dec.field.packed, .int .i64 x.dec.field.msg, .int .i64 x.dec.wire, .int .i64 x.dec.want, .int .i64 x.dec.utf.want, .int .i64 x.dec.utf.low, .int .i64 x.dec.utf.high, .int .i64 x.dec.end_.kind, .int .i64 x.dec.end_.field, .int .u64 x.dec.end_.bits, .int .i64 x.dec.end_.len, .str x.dec.end_.text, .int .i64 x.dec.end_.code, .int .i64 x.dec.end_.at_, .own j32, .int .i64 x.reads]
structure Cur where
 b : List Int
 i : Int
 h : Int
def CurOk (c : Cur) : Prop := 0 ≤ c.i ∧ c.b.length ≤ 1048576
def cCur (x : Cur) : List C := [.seq .u8 x.b, .int .i64 x.i, .int .i64 x.h]
structure l1Byte_o_O where
 x : Int
 c1 : Cur
theorem l1Byte_o (c : Cur) (hp1 : CurOk c) : ∃ o : l1Byte_o_O, (((0 : Int) ≤ o.x ∧ o.x ≤ 255) ∧ (CurOk o.c1)) ∧ Fun Tryz.prog 53 [vP 0] [.cells (cCur c)] (.v (vI o.x)) [.cells (cCur o.c1)] := by
 have hN : bigN = 274877906944 := rfl
 have hcb := hp1.1
 have hcl := hp1.2
 refine funs_ofw Tryz.func53 (by kernel_rfl) (by kernel_rfl) (w := let z5 := (IntKind.i64.wrap (c.h * 6364136223846793005)) + 1442695040888963407; let z3 := IntKind.i64.wrap z5; let z8 := (.v (vI (Int.fdiv z3 (2 ^ 33))) : S) = .v (vI (z3 / 8589934592)); let z10 : List Blk := [.cells [.seq .u8 c.b, .int .i64 (c.i + 1), .int .i64 z3]]; let z11 := decide (c.i < ((List.length c.b : Nat) : Int)); let z12 : List Blk := [.cells [.seq .u8 c.b, .int .i64 c.i, .int .i64 z3]]; let z13 := z3 / 35184372088832; let z4 := IntKind.i64.wrap (((BitVec.ofInt 64 (z3 / 8589934592) ^^^ BitVec.ofInt 64 z13).toNat : Nat)); let z7 := (.v (vI (Int.fdiv z3 (2 ^ 45))) : S) = .v (vI z13); let z9 := z4 % 256; let z6 := (.v (vI (IntKind.i64.wrap (((BitVec.ofInt 64 z4 &&& BitVec.ofInt 64 255).toNat : Nat)))) : S) = .v (vI z9); (.seg [.ord (os 13 []) [], .as 17 (.v (vI (z3 / 8589934592))), .as 22 (.v (vI z13)), .as 24 (.v (vI z9)), .ord (os 10 []) []] (.br (.intro (fun (x1 : Int) => c.b[Int.toNat c.i]? = some x1) fun x1 => let z1 := IntKind.i64.wrap (z9 + (IntKind.i64.wrap (x1))); .seg [.ord (os 15 []) [], .el .u8 x1, .as 48 (.v (vI (z1 % 256))), .as 54 (.v (vI (c.i + 1)))] (.leaf (⟨z1 % 256, (⟨c.b, c.i + 1, IntKind.i64.wrap z5⟩ : Cur)⟩ : l1Byte_o_O) [0])) (.leaf (⟨z4 % 256, (⟨c.b, c.i, IntKind.i64.wrap z5⟩ : Cur)⟩ : l1Byte_o_O) [0])), ((0 : Int) ≤ 33) ∧ ((0 : Int) ≤ 33) ∧ z8 ∧ z8 ∧ ((0 : Int) ≤ 45) ∧ ((0 : Int) ≤ 45) ∧ z7 ∧ z7 ∧ z6 ∧ z6 ∧ (z11 = true → (∃ (x1 : Int), c.b[Int.toNat c.i]? = some x1) ∧ ∀ (x1 : Int), (c.b[Int.toNat c.i]? = some x1) → (let z2 := IntKind.i64.wrap (z9 + (IntKind.i64.wrap (x1))); (c.b[Int.toNat c.i]? = some x1) ∧ ((0 : Int) ≤ c.i) ∧ (c.b[Int.toNat c.i]? = some x1) ∧ ((0 : Int) ≤ c.i) ∧ ((.v (vI (IntKind.i64.wrap (((BitVec.ofInt 64 z2 &&& BitVec.ofInt 64 255).toNat : Nat)))) : S) = .v (vI (z2 % 256))) ∧ ((.v (vI (IntKind.i64.wrap (((BitVec.ofInt 64 z2 &&& BitVec.ofInt 64 255).toNat : Nat)))) : S) = .v (vI (z2 % 256))) ∧ ((.v (vI (IntKind.i64.wrap (c.i + 1))) : S) = .v (vI (c.i + 1))) ∧ (((0 : Int) ≤ (z2 % 256) ∧ (z2 % 256) ≤ 255) ∧ (CurOk (⟨c.b, c.i + 1, IntKind.i64.wrap z5⟩ : Cur))) ∧ (.v (vI (z2 % 256)) : S) = .v (vI (z2 % 256)) ∧ (z10 : List Blk) = z10)) ∧ (z11 = false → (((0 : Int) ≤ z9 ∧ z9 ≤ 255) ∧ (CurOk (⟨c.b, c.i, IntKind.i64.wrap z5⟩ : Cur))) ∧ (.v (vI z9) : S) = .v (vI z9) ∧ (z12 : List Blk) = z12))) (by kernel_rfl) ?_
 refine ⟨(by decide), (by decide), (as_shr (k := 33) (by decide) (by decide)), (as_shr (k := 33) (by decide) (by decide)), (by decide), (by decide), (as_shr (k := 45) (by decide) (by decide)), (as_shr (k := 45) (by decide) (by decide)), (as_mask_i64 (k := 8) (by decide) (by decide)), (as_mask_i64 (k := 8) (by decide) (by decide)), dsp (fun h1 p1 => ?_) fun h1 p1 => ?_⟩
 refine ⟨(ax_get (l := c.b) (i := Int.toNat c.i) (by omega)), fun x1 hx1 => ?_⟩
 exact ⟨hx1, (by omega), hx1, (by omega), (as_mask_i64 (k := 8) (by decide) (by decide)), (as_mask_i64 (k := 8) (by decide) (by decide)), (as_i64 (by omega) (by omega)), ⟨(by omega), (by first | assumption | (exact ⟨by dsimp only; first | omega | (have := hp1.1; omega), hp1.2⟩))⟩, rfl, rfl⟩
 exact ⟨⟨(by omega), (by first | assumption | (exact ⟨by dsimp only; first | omega | (have := hp1.1; omega), hp1.2⟩))⟩, rfl, rfl⟩
structure l1Below_o_O where
 x : Int
 c1 : Cur
theorem l1Below_o (c : Cur) (n : Int) (hp1 : CurOk c) : ∃ o : l1Below_o_O, (((0 : Int) ≤ o.x) ∧ ((1 : Int) ≤ n → o.x < n) ∧ (n ≤ (0 : Int) → o.x = (0 : Int)) ∧ (CurOk o.c1)) ∧ Fun Tryz.prog 27 [vP 0, vI n] [.cells (cCur c)] (.v (vI o.x)) [.cells (cCur o.c1)] := by
 have hN : bigN = 274877906944 := rfl
 refine funs_ofw Tryz.func27 (by kernel_rfl) (by kernel_rfl) (w := let z11 : List Blk := [.cells (cCur c)]; (.br (.leaf (⟨0, c⟩ : l1Below_o_O) [0]) (.br (.intro (fun (o1 : l1Byte_o_O) => (((0 : Int) ≤ o1.x ∧ o1.x ≤ 255) ∧ (CurOk o1.c1)) ∧ Fun Tryz.prog 53 [vP 0] z11 (.v (vI o1.x)) [.cells (cCur o1.c1)]) fun o1 => .seg [.call [0] (.v (vI o1.x)) [.cells (cCur o1.c1)]] (.leaf (⟨Int.tmod o1.x n, o1.c1⟩ : l1Below_o_O) [0])) (.intro (fun (o1 : l1Byte_o_O) => (((0 : Int) ≤ o1.x ∧ o1.x ≤ 255) ∧ (CurOk o1.c1)) ∧ Fun Tryz.prog 53 [vP 0] z11 (.v (vI o1.x)) [.cells (cCur o1.c1)]) fun o1 => .seg [.call [0] (.v (vI o1.x)) [.cells (cCur o1.c1)]] (.intro (fun (o2 : l1Byte_o_O) => (((0 : Int) ≤ o2.x ∧ o2.x ≤ 255) ∧ (CurOk o2.c1)) ∧ Fun Tryz.prog 53 [vP 0] [.cells (cCur o1.c1)] (.v (vI o2.x)) [.cells (cCur o2.c1)]) fun o2 => let z7 := (o1.x * 16777216) + (o2.x * 65536); .seg [.call [0] (.v (vI o2.x)) [.cells (cCur o2.c1)]] (.intro (fun (o3 : l1Byte_o_O) => (((0 : Int) ≤ o3.x ∧ o3.x ≤ 255) ∧ (CurOk o3.c1)) ∧ Fun Tryz.prog 53 [vP 0] [.cells (cCur o2.c1)] (.v (vI o3.x)) [.cells (cCur o3.c1)]) fun o3 => let z4 := z7 + (o3.x * 256); .seg [.call [0] (.v (vI o3.x)) [.cells (cCur o3.c1)]] (.intro (fun (o4 : l1Byte_o_O) => (((0 : Int) ≤ o4.x ∧ o4.x ≤ 255) ∧ (CurOk o4.c1)) ∧ Fun Tryz.prog 53 [vP 0] [.cells (cCur o3.c1)] (.v (vI o4.x)) [.cells (cCur o4.c1)]) fun o4 => let z2 := z4 + o4.x; .seg [.call [0] (.v (vI o4.x)) [.cells (cCur o4.c1)], .as 26 (.v (vI (o1.x * 16777216))), .as 28 (.v (vI (o2.x * 65536))), .as 29 (.v (vI z7)), .as 31 (.v (vI (o3.x * 256))), .as 32 (.v (vI z4)), .as 34 (.v (vI z2))] (.leaf (⟨Int.tmod z2 n, o4.c1⟩ : l1Below_o_O) [0])))))), ((decide (n ≤ 0)) = true → (((0 : Int) ≤ 0) ∧ ((1 : Int) ≤ n → 0 < n) ∧ (n ≤ (0 : Int) → 0 = (0 : Int)) ∧ (CurOk c)) ∧ (.v (vI 0) : S) = .v (vI 0) ∧ (z11 : List Blk) = z11) ∧ ((decide (n ≤ 0)) = false → ((decide (n ≤ 256)) = true → (∃ (o1 : l1Byte_o_O), (((0 : Int) ≤ o1.x ∧ o1.x ≤ 255) ∧ (CurOk o1.c1)) ∧ Fun Tryz.prog 53 [vP 0] z11 (.v (vI o1.x)) [.cells (cCur o1.c1)]) ∧ ∀ (o1 : l1Byte_o_O), ((((0 : Int) ≤ o1.x ∧ o1.x ≤ 255) ∧ (CurOk o1.c1)) ∧ Fun Tryz.prog 53 [vP 0] z11 (.v (vI o1.x)) [.cells (cCur o1.c1)]) → (let z1 := Int.tmod o1.x n; (Fun Tryz.prog 53 [vP 0] z11 (.v (vI o1.x)) [.cells (cCur o1.c1)]) ∧ (n ≠ 0) ∧ (((0 : Int) ≤ z1) ∧ ((1 : Int) ≤ n → z1 < n) ∧ (n ≤ (0 : Int) → z1 = (0 : Int)) ∧ (CurOk o1.c1)) ∧ (.v (vI z1) : S) = .v (vI z1) ∧ ([.cells (cCur o1.c1)] : List Blk) = [.cells (cCur o1.c1)])) ∧ ((decide (n ≤ 256)) = false → (∃ (o1 : l1Byte_o_O), (((0 : Int) ≤ o1.x ∧ o1.x ≤ 255) ∧ (CurOk o1.c1)) ∧ Fun Tryz.prog 53 [vP 0] z11 (.v (vI o1.x)) [.cells (cCur o1.c1)]) ∧ ∀ (o1 : l1Byte_o_O), ((((0 : Int) ≤ o1.x ∧ o1.x ≤ 255) ∧ (CurOk o1.c1)) ∧ Fun Tryz.prog 53 [vP 0] z11 (.v (vI o1.x)) [.cells (cCur o1.c1)]) → (let z10 : List Blk := [.cells (cCur o1.c1)]; (Fun Tryz.prog 53 [vP 0] z11 (.v (vI o1.x)) z10) ∧ (∃ (o2 : l1Byte_o_O), (((0 : Int) ≤ o2.x ∧ o2.x ≤ 255) ∧ (CurOk o2.c1)) ∧ Fun Tryz.prog 53 [vP 0] z10 (.v (vI o2.x)) [.cells (cCur o2.c1)]) ∧ ∀ (o2 : l1Byte_o_O), ((((0 : Int) ≤ o2.x ∧ o2.x ≤ 255) ∧ (CurOk o2.c1)) ∧ Fun Tryz.prog 53 [vP 0] z10 (.v (vI o2.x)) [.cells (cCur o2.c1)]) → (let z8 := (o1.x * 16777216) + (o2.x * 65536); let z9 : List Blk := [.cells (cCur o2.c1)]; (Fun Tryz.prog 53 [vP 0] z10 (.v (vI o2.x)) z9) ∧ (∃ (o3 : l1Byte_o_O), (((0 : Int) ≤ o3.x ∧ o3.x ≤ 255) ∧ (CurOk o3.c1)) ∧ Fun Tryz.prog 53 [vP 0] z9 (.v (vI o3.x)) [.cells (cCur o3.c1)]) ∧ ∀ (o3 : l1Byte_o_O), ((((0 : Int) ≤ o3.x ∧ o3.x ≤ 255) ∧ (CurOk o3.c1)) ∧ Fun Tryz.prog 53 [vP 0] z9 (.v (vI o3.x)) [.cells (cCur o3.c1)]) → (let z5 := z8 + (o3.x * 256); let z6 : List Blk := [.cells (cCur o3.c1)]; (Fun Tryz.prog 53 [vP 0] z9 (.v (vI o3.x)) z6) ∧ (∃ (o4 : l1Byte_o_O), (((0 : Int) ≤ o4.x ∧ o4.x ≤ 255) ∧ (CurOk o4.c1)) ∧ Fun Tryz.prog 53 [vP 0] z6 (.v (vI o4.x)) [.cells (cCur o4.c1)]) ∧ ∀ (o4 : l1Byte_o_O), ((((0 : Int) ≤ o4.x ∧ o4.x ≤ 255) ∧ (CurOk o4.c1)) ∧ Fun Tryz.prog 53 [vP 0] z6 (.v (vI o4.x)) [.cells (cCur o4.c1)]) → (let z3 := z5 + o4.x; (Fun Tryz.prog 53 [vP 0] z6 (.v (vI o4.x)) [.cells (cCur o4.c1)]) ∧ ((.v (vI (IntKind.i64.wrap (o1.x * 16777216))) : S) = .v (vI (o1.x * 16777216))) ∧ ((.v (vI (IntKind.i64.wrap (o2.x * 65536))) : S) = .v (vI (o2.x * 65536))) ∧ ((.v (vI (IntKind.i64.wrap z8)) : S) = .v (vI z8)) ∧ ((.v (vI (IntKind.i64.wrap (o3.x * 256))) : S) = .v (vI (o3.x * 256))) ∧ ((.v (vI (IntKind.i64.wrap z5)) : S) = .v (vI z5)) ∧ ((.v (vI (IntKind.i64.wrap z3)) : S) = .v (vI z3)) ∧ (n ≠ 0) ∧ (((0 : Int) ≤ (Int.tmod z3 n)) ∧ ((1 : Int) ≤ n → (Int.tmod z3 n) < n) ∧ (n ≤ (0 : Int) → (Int.tmod z3 n) = (0 : Int)) ∧ (CurOk o4.c1)) ∧ (.v (vI (Int.tmod z3 n)) : S) = .v (vI (Int.tmod z3 n)) ∧ ([.cells (cCur o4.c1)] : List Blk) = [.cells (cCur o4.c1)])))))))) (by kernel_rfl) ?_
 refine dsp (fun h1 p1 => ?_) fun h1 p1 => ?_
 exact ⟨⟨(by omega), (by omega), (by omega), (by first | assumption | (exact ⟨by dsimp only; first | omega | (have := hp1.1; omega), hp1.2⟩))⟩, rfl, rfl⟩
 refine dsp (fun h2 p2 => ?_) fun h2 p2 => ?_
 refine ⟨(l1Byte_o c (by first | assumption | (exact ⟨by dsimp only; first | omega | (have := hp1.1; omega), hp1.2⟩))), fun o1 ho_o1 => ?_⟩
 obtain ⟨⟨hp_o1_0, hp_o1_1⟩, hf_o1⟩ := ho_o1
 exact ⟨hf_o1, (by omega), ⟨(by have := tmod_b o1.x n; omega), (by have := tmod_b o1.x n; omega), (by have := tmod_b o1.x n; omega), (by first | assumption | (exact ⟨by dsimp only; first | omega | (have := hp1.1; omega), hp1.2⟩))⟩, rfl, rfl⟩
 refine ⟨(l1Byte_o c (by first | assumption | (exact ⟨by dsimp only; first | omega | (have := hp1.1; omega), hp1.2⟩))), fun o1 ho_o1 => ?_⟩
 obtain ⟨⟨hp_o1_0, hp_o1_1⟩, hf_o1⟩ := ho_o1
 refine ⟨hf_o1, (l1Byte_o o1.c1 (by first | assumption | (exact ⟨by dsimp only; first | omega | (have := hp1.1; omega), hp1.2⟩))), fun o2 ho_o2 => ?_⟩
 obtain ⟨⟨hp_o2_0, hp_o2_1⟩, hf_o2⟩ := ho_o2
 refine ⟨hf_o2, (l1Byte_o o2.c1 (by first | assumption | (exact ⟨by dsimp only; first | omega | (have := hp1.1; omega), hp1.2⟩))), fun o3 ho_o3 => ?_⟩
 obtain ⟨⟨hp_o3_0, hp_o3_1⟩, hf_o3⟩ := ho_o3
 refine ⟨hf_o3, (l1Byte_o o3.c1 (by first | assumption | (exact ⟨by dsimp only; first | omega | (have := hp1.1; omega), hp1.2⟩))), fun o4 ho_o4 => ?_⟩
 obtain ⟨⟨hp_o4_0, hp_o4_1⟩, hf_o4⟩ := ho_o4
 exact ⟨hf_o4, (as_i64 (by omega) (by omega)), (as_i64 (by omega) (by omega)), (as_i64 (by omega) (by omega)), (as_i64 (by omega) (by omega)), (as_i64 (by omega) (by omega)), (as_i64 (by omega) (by omega)), (by omega), ⟨(by have := tmod_b ((((o1.x * 16777216) + (o2.x * 65536)) + (o3.x * 256)) + o4.x) n; omega), (by have := tmod_b ((((o1.x * 16777216) + (o2.x * 65536)) + (o3.x * 256)) + o4.x) n; omega), (by have := tmod_b ((((o1.x * 16777216) + (o2.x * 65536)) + (o3.x * 256)) + o4.x) n; omega), (by first | assumption | (exact ⟨by dsimp only; first | omega | (have := hp1.1; omega), hp1.2⟩))⟩, rfl, rfl⟩
structure l1Once_o_O where
 p : Bool
 c1 : Cur
theorem l1Once_o (c : Cur) (n : Int) (hp1 : CurOk c) : ∃ o : l1Once_o_O, ((CurOk o.c1)) ∧ Fun Tryz.prog 13 [vP 0, vI n] [.cells (cCur c)] (.v (vB o.p)) [.cells (cCur o.c1)] := by
 have hN : bigN = 274877906944 := rfl
 refine funs_ofw Tryz.func13 (by kernel_rfl) (by kernel_rfl) (w := let z1 : List Blk := [.cells (cCur c)]; (.intro (fun (o1 : l1Below_o_O) => (((0 : Int) ≤ o1.x) ∧ ((1 : Int) ≤ n → o1.x < n) ∧ (n ≤ (0 : Int) → o1.x = (0 : Int)) ∧ (CurOk o1.c1)) ∧ Fun Tryz.prog 27 [vP 0, vI n] z1 (.v (vI o1.x)) [.cells (cCur o1.c1)]) fun o1 => .seg [.call [0] (.v (vI o1.x)) [.cells (cCur o1.c1)]] (.leaf (⟨decide (o1.x = 0), o1.c1⟩ : l1Once_o_O) [0]), (∃ (o1 : l1Below_o_O), (((0 : Int) ≤ o1.x) ∧ ((1 : Int) ≤ n → o1.x < n) ∧ (n ≤ (0 : Int) → o1.x = (0 : Int)) ∧ (CurOk o1.c1)) ∧ Fun Tryz.prog 27 [vP 0, vI n] z1 (.v (vI o1.x)) [.cells (cCur o1.c1)]) ∧ ∀ (o1 : l1Below_o_O), ((((0 : Int) ≤ o1.x) ∧ ((1 : Int) ≤ n → o1.x < n) ∧ (n ≤ (0 : Int) → o1.x = (0 : Int)) ∧ (CurOk o1.c1)) ∧ Fun Tryz.prog 27 [vP 0, vI n] z1 (.v (vI o1.x)) [.cells (cCur o1.c1)]) → ((Fun Tryz.prog 27 [vP 0, vI n] z1 (.v (vI o1.x)) [.cells (cCur o1.c1)]) ∧ ((CurOk o1.c1)) ∧ (.v (vB (decide (o1.x = 0))) : S) = .v (vB (decide (o1.x = 0))) ∧ ([.cells (cCur o1.c1)] : List Blk) = [.cells (cCur o1.c1)]))) (by kernel_rfl) ?_
 refine ⟨(l1Below_o c n (by first | assumption | (exact ⟨by dsimp only; first | omega | (have := hp1.1; omega), hp1.2⟩))), fun o1 ho_o1 => ?_⟩
 obtain ⟨⟨hp_o1_0, hp_o1_1, hp_o1_2, hp_o1_3⟩, hf_o1⟩ := ho_o1
 exact ⟨hf_o1, (by first | assumption | (exact ⟨by dsimp only; first | omega | (have := hp1.1; omega), hp1.2⟩)), rfl, rfl⟩
structure l1PickInt_o_O where
 x : Int
 c1 : Cur
theorem l1PickInt_o (c : Cur) (l : List Int) (hp1 : CurOk c) (hp2 : 1 ≤ List.length l) (hp3 : List.length l ≤ 1000) : ∃ o : l1PickInt_o_O, ((o.x ∈ l) ∧ (CurOk o.c1)) ∧ Fun Tryz.prog 30 [vP 0, .c (.seq .int l)] [.cells (cCur c)] (.v (vI o.x)) [.cells (cCur o.c1)] := by
 have hN : bigN = 274877906944 := rfl
 refine funs_ofw Tryz.func30 (by kernel_rfl) (by kernel_rfl) (w := let z1 := ((List.length l : Nat) : Int); let z2 : List Blk := [.cells (cCur c)]; (.intro (fun (o1 : l1Below_o_O) => (((0 : Int) ≤ o1.x) ∧ ((1 : Int) ≤ z1 → o1.x < z1) ∧ (z1 ≤ (0 : Int) → o1.x = (0 : Int)) ∧ (CurOk o1.c1)) ∧ Fun Tryz.prog 27 [vP 0, vI z1] z2 (.v (vI o1.x)) [.cells (cCur o1.c1)]) fun o1 => .seg [.call [0] (.v (vI o1.x)) [.cells (cCur o1.c1)]] (.intro (fun (x1 : Int) => l[Int.toNat o1.x]? = some x1) fun x1 => .seg [.el .int x1] (.leaf (⟨x1, o1.c1⟩ : l1PickInt_o_O) [0])), (∃ (o1 : l1Below_o_O), (((0 : Int) ≤ o1.x) ∧ ((1 : Int) ≤ z1 → o1.x < z1) ∧ (z1 ≤ (0 : Int) → o1.x = (0 : Int)) ∧ (CurOk o1.c1)) ∧ Fun Tryz.prog 27 [vP 0, vI z1] z2 (.v (vI o1.x)) [.cells (cCur o1.c1)]) ∧ ∀ (o1 : l1Below_o_O), ((((0 : Int) ≤ o1.x) ∧ ((1 : Int) ≤ z1 → o1.x < z1) ∧ (z1 ≤ (0 : Int) → o1.x = (0 : Int)) ∧ (CurOk o1.c1)) ∧ Fun Tryz.prog 27 [vP 0, vI z1] z2 (.v (vI o1.x)) [.cells (cCur o1.c1)]) → ((Fun Tryz.prog 27 [vP 0, vI z1] z2 (.v (vI o1.x)) [.cells (cCur o1.c1)]) ∧ (∃ (x1 : Int), l[Int.toNat o1.x]? = some x1) ∧ ∀ (x1 : Int), (l[Int.toNat o1.x]? = some x1) → ((l[Int.toNat o1.x]? = some x1) ∧ ((0 : Int) ≤ o1.x) ∧ ((x1 ∈ l) ∧ (CurOk o1.c1)) ∧ (.v (vI x1) : S) = .v (vI x1) ∧ ([.cells (cCur o1.c1)] : List Blk) = [.cells (cCur o1.c1)])))) (by kernel_rfl) ?_
 refine ⟨(l1Below_o c ((List.length l : Nat) : Int) (by first | assumption | (exact ⟨by dsimp only; first | omega | (have := hp1.1; omega), hp1.2⟩))), fun o1 ho_o1 => ?_⟩
 obtain ⟨⟨hp_o1_0, hp_o1_1, hp_o1_2, hp_o1_3⟩, hf_o1⟩ := ho_o1
 refine ⟨hf_o1, (ax_get (l := l) (i := Int.toNat o1.x) (by omega)), fun x1 hx1 => ?_⟩
 exact ⟨hx1, (by omega), ⟨(List.mem_of_getElem? hx1), (by first | assumption | (exact ⟨by dsimp only; first | omega | (have := hp1.1; omega), hp1.2⟩))⟩, rfl, rfl⟩
structure l1Whole_o_O where
 x : Int
 c1 : Cur
theorem l1Whole_o (c : Cur) (hp1 : CurOk c) : ∃ o : l1Whole_o_O, ((CurOk o.c1)) ∧ Fun Tryz.prog 31 [vP 0] [.cells (cCur c)] (.v (vI o.x)) [.cells (cCur o.c1)] := by
 have hN : bigN = 274877906944 := rfl
 refine funs_ofw Tryz.func31 (by kernel_rfl) (by kernel_rfl) (w := let z5 := -9223372036854775808; let z4 : List V := [vP 0, .c (.seq .int [0, 1, (-1), 9, 10, 127, 128, 999999999, 1000000000, 9223372036854775807, z5])]; let z6 : List V := [vP 0, vI 1000000]; let z7 : List Blk := [.cells (cCur c)]; (.intro (fun (o1 : l1Below_o_O) => (((0 : Int) ≤ o1.x) ∧ ((1 : Int) ≤ 3 → o1.x < 3) ∧ (3 ≤ (0 : Int) → o1.x = (0 : Int)) ∧ (CurOk o1.c1)) ∧ Fun Tryz.prog 27 [vP 0, vI 3] z7 (.v (vI o1.x)) [.cells (cCur o1.c1)]) fun o1 => let z2 : List Blk := [.cells (cCur o1.c1)]; .seg [.call [0] (.v (vI o1.x)) z2] (.br (.seg [.ty .int, .pubS 8] (.intro (fun (o2 : l1PickInt_o_O) => ((o2.x ∈ [0, 1, (-1), 9, 10, 127, 128, 999999999, 1000000000, 9223372036854775807, z5]) ∧ (CurOk o2.c1)) ∧ Fun Tryz.prog 30 z4 z2 (.v (vI o2.x)) [.cells (cCur o2.c1)]) fun o2 => .seg [.call [0] (.v (vI o2.x)) [.cells (cCur o2.c1)]] (.leaf (⟨o2.x, o2.c1⟩ : l1Whole_o_O) [0]))) (.br (.intro (fun (o2 : l1Below_o_O) => (((0 : Int) ≤ o2.x) ∧ ((1 : Int) ≤ 1000000 → o2.x < 1000000) ∧ (1000000 ≤ (0 : Int) → o2.x = (0 : Int)) ∧ (CurOk o2.c1)) ∧ Fun Tryz.prog 27 z6 z2 (.v (vI o2.x)) [.cells (cCur o2.c1)]) fun o2 => .seg [.call [0] (.v (vI o2.x)) [.cells (cCur o2.c1)], .as 14 (.v (vI (o2.x - 500000)))] (.leaf (⟨o2.x - 500000, o2.c1⟩ : l1Whole_o_O) [0])) (.intro (fun (o2 : l1Below_o_O) => (((0 : Int) ≤ o2.x) ∧ ((1 : Int) ≤ 20 → o2.x < 20) ∧ (20 ≤ (0 : Int) → o2.x = (0 : Int)) ∧ (CurOk o2.c1)) ∧ Fun Tryz.prog 27 [vP 0, vI 20] z2 (.v (vI o2.x)) [.cells (cCur o2.c1)]) fun o2 => .seg [.call [0] (.v (vI o2.x)) [.cells (cCur o2.c1)]] (.leaf (⟨o2.x, o2.c1⟩ : l1Whole_o_O) [0])))), (∃ (o1 : l1Below_o_O), (((0 : Int) ≤ o1.x) ∧ ((1 : Int) ≤ 3 → o1.x < 3) ∧ (3 ≤ (0 : Int) → o1.x = (0 : Int)) ∧ (CurOk o1.c1)) ∧ Fun Tryz.prog 27 [vP 0, vI 3] z7 (.v (vI o1.x)) [.cells (cCur o1.c1)]) ∧ ∀ (o1 : l1Below_o_O), ((((0 : Int) ≤ o1.x) ∧ ((1 : Int) ≤ 3 → o1.x < 3) ∧ (3 ≤ (0 : Int) → o1.x = (0 : Int)) ∧ (CurOk o1.c1)) ∧ Fun Tryz.prog 27 [vP 0, vI 3] z7 (.v (vI o1.x)) [.cells (cCur o1.c1)]) → (let z3 : List Blk := [.cells (cCur o1.c1)]; (Fun Tryz.prog 27 [vP 0, vI 3] z7 (.v (vI o1.x)) z3) ∧ ((decide (o1.x = 0)) = true → (∃ (o2 : l1PickInt_o_O), ((o2.x ∈ [0, 1, (-1), 9, 10, 127, 128, 999999999, 1000000000, 9223372036854775807, z5]) ∧ (CurOk o2.c1)) ∧ Fun Tryz.prog 30 z4 z3 (.v (vI o2.x)) [.cells (cCur o2.c1)]) ∧ ∀ (o2 : l1PickInt_o_O), (((o2.x ∈ [0, 1, (-1), 9, 10, 127, 128, 999999999, 1000000000, 9223372036854775807, z5]) ∧ (CurOk o2.c1)) ∧ Fun Tryz.prog 30 z4 z3 (.v (vI o2.x)) [.cells (cCur o2.c1)]) → ((Fun Tryz.prog 30 z4 z3 (.v (vI o2.x)) [.cells (cCur o2.c1)]) ∧ ((CurOk o2.c1)) ∧ (.v (vI o2.x) : S) = .v (vI o2.x) ∧ ([.cells (cCur o2.c1)] : List Blk) = [.cells (cCur o2.c1)])) ∧ ((decide (o1.x = 0)) = false → ((decide (o1.x = 1)) = true → (∃ (o2 : l1Below_o_O), (((0 : Int) ≤ o2.x) ∧ ((1 : Int) ≤ 1000000 → o2.x < 1000000) ∧ (1000000 ≤ (0 : Int) → o2.x = (0 : Int)) ∧ (CurOk o2.c1)) ∧ Fun Tryz.prog 27 z6 z3 (.v (vI o2.x)) [.cells (cCur o2.c1)]) ∧ ∀ (o2 : l1Below_o_O), ((((0 : Int) ≤ o2.x) ∧ ((1 : Int) ≤ 1000000 → o2.x < 1000000) ∧ (1000000 ≤ (0 : Int) → o2.x = (0 : Int)) ∧ (CurOk o2.c1)) ∧ Fun Tryz.prog 27 z6 z3 (.v (vI o2.x)) [.cells (cCur o2.c1)]) → (let z1 := o2.x - 500000; (Fun Tryz.prog 27 z6 z3 (.v (vI o2.x)) [.cells (cCur o2.c1)]) ∧ ((.v (vI (IntKind.i64.wrap z1)) : S) = .v (vI z1)) ∧ ((CurOk o2.c1)) ∧ (.v (vI z1) : S) = .v (vI z1) ∧ ([.cells (cCur o2.c1)] : List Blk) = [.cells (cCur o2.c1)])) ∧ ((decide (o1.x = 1)) = false → (∃ (o2 : l1Below_o_O), (((0 : Int) ≤ o2.x) ∧ ((1 : Int) ≤ 20 → o2.x < 20) ∧ (20 ≤ (0 : Int) → o2.x = (0 : Int)) ∧ (CurOk o2.c1)) ∧ Fun Tryz.prog 27 [vP 0, vI 20] z3 (.v (vI o2.x)) [.cells (cCur o2.c1)]) ∧ ∀ (o2 : l1Below_o_O), ((((0 : Int) ≤ o2.x) ∧ ((1 : Int) ≤ 20 → o2.x < 20) ∧ (20 ≤ (0 : Int) → o2.x = (0 : Int)) ∧ (CurOk o2.c1)) ∧ Fun Tryz.prog 27 [vP 0, vI 20] z3 (.v (vI o2.x)) [.cells (cCur o2.c1)]) → ((Fun Tryz.prog 27 [vP 0, vI 20] z3 (.v (vI o2.x)) [.cells (cCur o2.c1)]) ∧ ((CurOk o2.c1)) ∧ (.v (vI o2.x) : S) = .v (vI o2.x) ∧ ([.cells (cCur o2.c1)] : List Blk) = [.cells (cCur o2.c1)])))))) (by kernel_rfl) ?_
 refine ⟨(l1Below_o c 3 (by first | assumption | (exact ⟨by dsimp only; first | omega | (have := hp1.1; omega), hp1.2⟩))), fun o1 ho_o1 => ?_⟩
 obtain ⟨⟨hp_o1_0, hp_o1_1, hp_o1_2, hp_o1_3⟩, hf_o1⟩ := ho_o1
 refine ⟨hf_o1, dsp (fun h1 p1 => ?_) fun h1 p1 => ?_⟩
 refine ⟨(l1PickInt_o o1.c1 [0, 1, (-1), 9, 10, 127, 128, 999999999, 1000000000, 9223372036854775807, (-9223372036854775808)] (by first | assumption | (exact ⟨by dsimp only; first | omega | (have := hp1.1; omega), hp1.2⟩)) (by simp only [List.length_cons, List.length_nil]; omega) (by simp only [List.length_cons, List.length_nil]; omega)), fun o2 ho_o2 => ?_⟩
 obtain ⟨⟨hp_o2_0, hp_o2_1⟩, hf_o2⟩ := ho_o2
 exact ⟨hf_o2, (by first | assumption | (exact ⟨by dsimp only; first | omega | (have := hp1.1; omega), hp1.2⟩)), rfl, rfl⟩
 refine dsp (fun h2 p2 => ?_) fun h2 p2 => ?_
 refine ⟨(l1Below_o o1.c1 1000000 (by first | assumption | (exact ⟨by dsimp only; first | omega | (have := hp1.1; omega), hp1.2⟩))), fun o2 ho_o2 => ?_⟩
 obtain ⟨⟨hp_o2_0, hp_o2_1, hp_o2_2, hp_o2_3⟩, hf_o2⟩ := ho_o2
 exact ⟨hf_o2, (as_i64 (by omega) (by omega)), (by first | assumption | (exact ⟨by dsimp only; first | omega | (have := hp1.1; omega), hp1.2⟩)), rfl, rfl⟩
 refine ⟨(l1Below_o o1.c1 20 (by first | assumption | (exact ⟨by dsimp only; first | omega | (have := hp1.1; omega), hp1.2⟩))), fun o2 ho_o2 => ?_⟩
 obtain ⟨⟨hp_o2_0, hp_o2_1, hp_o2_2, hp_o2_3⟩, hf_o2⟩ := ho_o2
 exact ⟨hf_o2, (by first | assumption | (exact ⟨by dsimp only; first | omega | (have := hp1.1; omega), hp1.2⟩)), rfl, rfl⟩
structure l1New_o_O where
 c1 : Cur
structure l1New_o_V0 where
 h : Int
 i : Nat
def l1New_o_F0 (b : List Int) : Fam := ⟨l1New_o_V0, fun q1 => [(0, .v (.c (.seq .u8 b))), (3, .v (vI q1.h)), (4, .v (vI ((q1.i : Nat) : Int)))], fun _ => [], fun q1 => q1.i ≤ List.length b ∧ (0 : Int) ≤ q1.h ∧ q1.h ≤ 1073741823, fun q1 => List.length b - q1.i⟩
theorem l1New_o (b : List Int) (hp1 : List.length b ≤ 1048576) : ∃ o : l1New_o_O, ((CurOk o.c1)) ∧ Fun Tryz.prog 23 [.c (.seq .u8 b)] [] (.v (vP 0)) [.cells (cCur o.c1)] := by
 have hN : bigN = 274877906944 := rfl
 refine funs_ofw Tryz.func23 (by kernel_rfl) (by kernel_rfl) (w := let z4 := ((List.length b : Nat) : Int); let z5 := l1New_o_F0 b; (.seg [.as 7 (.v (vI (28433 + z4))), .at 0, .keep [0, 3, 4], .sel []] (.loop z5 fun q1 => .br (.br (.seg [.as 19 (.v (vI (q1.h * 131)))] (.intro (fun (x1 : Int) => b[q1.i]? = some x1) fun x1 => .seg [.el .u8 x1, .as 27 (.v (vI ((IntKind.i64.wrap ((IntKind.i64.wrap ((q1.h * 131) + (IntKind.i64.wrap (x1)))) + 7)) % 1073741824))), .as 17 (.v (vI (((q1.i : Nat) : Int) + 1))), .at 0, .keep [0, 3, 4], .sel []] (.next))) (.leaf (⟨(⟨b, 0, q1.h⟩ : Cur)⟩ : l1New_o_O) [0])) (.leaf (⟨(⟨b, 0, q1.h⟩ : Cur)⟩ : l1New_o_O) [0])), ((.v (vI (IntKind.i64.wrap (28433 + z4))) : S) = .v (vI (28433 + z4))) ∧ z5.Has [(0, .v (.c (.seq .u8 b))), (3, .v (vI (28433 + z4))), (4, .v (vI 0))] [] ∧ ∀ q1, z5.inv q1 → (let z2 : List Blk := [.cells [.seq .u8 b, .int .i64 0, .int .i64 q1.h]]; let z3 := ((q1.i : Nat) : Int); ((decide (z3 < z4)) = true → ((decide (z3 < 4000)) = true → ((.v (vI (IntKind.i64.wrap (q1.h * 131))) : S) = .v (vI (q1.h * 131))) ∧ (∃ (x1 : Int), b[q1.i]? = some x1) ∧ ∀ (x1 : Int), (b[q1.i]? = some x1) → (let z1 := IntKind.i64.wrap ((IntKind.i64.wrap ((q1.h * 131) + (IntKind.i64.wrap (x1)))) + 7); (b[q1.i]? = some x1) ∧ ((0 : Int) ≤ z3) ∧ ((.v (vI (IntKind.i64.wrap (((BitVec.ofInt 64 z1 &&& BitVec.ofInt 64 1073741823).toNat : Nat)))) : S) = .v (vI (z1 % 1073741824))) ∧ ((.v (vI (IntKind.i64.wrap (z3 + 1))) : S) = .v (vI (z3 + 1))) ∧ z5.Nxt q1 [(0, .v (.c (.seq .u8 b))), (3, .v (vI (z1 % 1073741824))), (4, .v (vI (z3 + 1)))] [])) ∧ ((decide (z3 < 4000)) = false → ((CurOk (⟨b, 0, q1.h⟩ : Cur))) ∧ (.v (vP 0) : S) = .v (vP 0) ∧ (z2 : List Blk) = z2)) ∧ ((decide (z3 < z4)) = false → ((CurOk (⟨b, 0, q1.h⟩ : Cur))) ∧ (.v (vP 0) : S) = .v (vP 0) ∧ (z2 : List Blk) = z2)))) (by kernel_rfl) ?_
 refine ⟨(as_i64 (by omega) (by omega)), has_of (j := (⟨28433 + ((List.length b : Nat) : Int), 0⟩ : l1New_o_V0)) (by first | rfl | simp) rfl (by dsimp only [l1New_o_F0]; exact ⟨by omega, by omega, by omega⟩), fun (q1 : l1New_o_V0) hq_q1 => ?_⟩
 have hi_q1 : q1.i ≤ List.length b ∧ (0 : Int) ≤ q1.h ∧ q1.h ≤ 1073741823 := hq_q1
 obtain ⟨v1, v2, v3⟩ := hi_q1
 refine dsp (fun h1 p1 => ?_) fun h1 p1 => ?_
 refine dsp (fun h2 p2 => ?_) fun h2 p2 => ?_
 refine ⟨(as_i64 (by omega) (by omega)), (ax_get (l := b) (i := q1.i) (by omega)), fun x1 hx1 => ?_⟩
 exact ⟨hx1, (by omega), (as_mask_i64 (k := 30) (by decide) (by decide)), (as_i64 (by omega) (by omega)), nxt_of (j := (⟨(IntKind.i64.wrap ((IntKind.i64.wrap ((q1.h * 131) + (IntKind.i64.wrap (x1)))) + 7)) % 1073741824, q1.i + 1⟩ : l1New_o_V0)) (by first | rfl | simp) rfl (by dsimp only [l1New_o_F0]; exact ⟨by omega, by omega, by omega⟩) (by dsimp only [l1New_o_F0]; omega)⟩
 exact ⟨(⟨by dsimp only; omega, hp1⟩), rfl, rfl⟩
 exact ⟨(⟨by dsimp only; omega, hp1⟩), rfl, rfl⟩
structure l1Bytes_o_O where
 l : List Int
 c1 : Cur
structure l1Bytes_o_V0 where
 c : Cur
 b : List Int
 i : Nat
def l1Bytes_o_F0 (n : Int) : Fam := ⟨l1Bytes_o_V0, fun q1 => [(0, .v (vP 0)), (1, .v (vI n)), (5, .v (vO 1)), (6, .v (vI ((q1.i : Nat) : Int)))], fun q1 => [.cells (cCur q1.c), .lst .u8 q1.b], fun q1 => CurOk q1.c ∧ List.length q1.b = q1.i ∧ (q1.i = 0 ∨ ((q1.i : Nat) : Int) ≤ n), fun q1 => Int.toNat n - q1.i⟩
theorem l1Bytes_o (c : Cur) (n : Int) (hp1 : CurOk c) (hp2 : n ≤ 100000) : ∃ o : l1Bytes_o_O, ((List.length o.l ≤ Int.toNat n) ∧ (CurOk o.c1)) ∧ Fun Tryz.prog 28 [vP 0, vI n] [.cells (cCur c)] (.v (vO 1)) [.cells (cCur o.c1), .lst .u8 o.l] := by
 have hN : bigN = 274877906944 := rfl
 refine funs_ofw Tryz.func28 (by kernel_rfl) (by kernel_rfl) (w := let z3 := l1Bytes_o_F0 n; (.seg [.ty .u8, .at 0, .keep [0, 1, 5, 6], .sel [0, 1]] (.loop z3 fun q1 => .br (.intro (fun (o1 : l1Byte_o_O) => (((0 : Int) ≤ o1.x ∧ o1.x ≤ 255) ∧ (CurOk o1.c1)) ∧ Fun Tryz.prog 53 [vP 0] [.cells (cCur q1.c)] (.v (vI o1.x)) [.cells (cCur o1.c1)]) fun o1 => .seg [.call [0] (.v (vI o1.x)) [.cells (cCur o1.c1)], .as 16 (.v (.c (.int .u8 o1.x))), .ty .u8, .ty .u8, .as 12 (.v (vI (((q1.i : Nat) : Int) + 1))), .at 0, .keep [0, 1, 5, 6], .sel [0, 3]] (.next)) (.leaf (⟨q1.b, q1.c⟩ : l1Bytes_o_O) [0, 1])), z3.Has [(0, .v (vP 0)), (1, .v (vI n)), (5, .v (vO 1)), (6, .v (vI 0))] [.cells (cCur c), .lst .u8 ([] : List Int)] ∧ ∀ q1, z3.inv q1 → (let z1 := ((q1.i : Nat) : Int); let z2 := cCur q1.c; ((decide (z1 < n)) = true → (∃ (o1 : l1Byte_o_O), (((0 : Int) ≤ o1.x ∧ o1.x ≤ 255) ∧ (CurOk o1.c1)) ∧ Fun Tryz.prog 53 [vP 0] [.cells z2] (.v (vI o1.x)) [.cells (cCur o1.c1)]) ∧ ∀ (o1 : l1Byte_o_O), ((((0 : Int) ≤ o1.x ∧ o1.x ≤ 255) ∧ (CurOk o1.c1)) ∧ Fun Tryz.prog 53 [vP 0] [.cells z2] (.v (vI o1.x)) [.cells (cCur o1.c1)]) → ((Fun Tryz.prog 53 [vP 0] [.cells z2] (.v (vI o1.x)) [.cells (cCur o1.c1)]) ∧ ((.v (.c (.int .u8 (IntKind.u8.wrap (o1.x)))) : S) = .v (.c (.int .u8 o1.x))) ∧ (List.length q1.b + List.length [o1.x] ≤ bigN) ∧ ((.v (vI (IntKind.i64.wrap (z1 + 1))) : S) = .v (vI (z1 + 1))) ∧ z3.Nxt q1 [(0, .v (vP 0)), (1, .v (vI n)), (5, .v (vO 1)), (6, .v (vI (z1 + 1)))] [.cells (cCur o1.c1), .lst .u8 (q1.b ++ [o1.x])])) ∧ ((decide (z1 < n)) = false → ((List.length q1.b ≤ Int.toNat n) ∧ (CurOk q1.c)) ∧ (.v (vO 1) : S) = .v (vO 1) ∧ ([.cells z2, .lst .u8 q1.b] : List Blk) = [.cells z2, .lst .u8 q1.b])))) (by kernel_rfl) ?_
 refine ⟨has_of (j := (⟨c, ([] : List Int), 0⟩ : l1Bytes_o_V0)) (by first | rfl | simp) rfl (by dsimp only [l1Bytes_o_F0]; exact ⟨hp1, rfl, .inl rfl⟩), fun (q1 : l1Bytes_o_V0) hq_q1 => ?_⟩
 have hi_q1 : CurOk q1.c ∧ List.length q1.b = q1.i ∧ (q1.i = 0 ∨ ((q1.i : Nat) : Int) ≤ n) := hq_q1
 obtain ⟨v1, v2, v3⟩ := hi_q1
 refine dsp (fun h1 p1 => ?_) fun h1 p1 => ?_
 refine ⟨(l1Byte_o q1.c (by first | assumption | (exact ⟨by dsimp only; first | omega | (have := hp1.1; omega), hp1.2⟩))), fun o1 ho_o1 => ?_⟩
 obtain ⟨⟨hp_o1_0, hp_o1_1⟩, hf_o1⟩ := ho_o1
 exact ⟨hf_o1, (as_u8 (by omega) (by omega)), (by simp only [List.length_cons, List.length_nil]; omega), (as_i64 (by omega) (by omega)), nxt_of (j := (⟨o1.c1, q1.b ++ [o1.x], q1.i + 1⟩ : l1Bytes_o_V0)) (by first | rfl | simp) rfl (by dsimp only [l1Bytes_o_F0]; exact ⟨by assumption, by simp; omega, by omega⟩) (by dsimp only [l1Bytes_o_F0]; omega)⟩
 exact ⟨⟨(by omega), (by first | assumption | (exact ⟨by dsimp only; first | omega | (have := hp1.1; omega), hp1.2⟩))⟩, rfl, rfl⟩
structure l19Script_o_O where
 l : List Rd
 c1 : Cur
structure l19Script_o_V0 where
 c : Cur
 out : List Rd
 i : Nat
def l19Script_o_F0 (o1 : l1Below_o_O) : Fam := ⟨l19Script_o_V0, fun q1 => [(0, .v (vP 0)), (3, .v (vO 1)), (4, .v (vI o1.x)), (5, .v (vI ((q1.i : Nat) : Int)))], fun q1 => [.cells (cCur q1.c), .lst .rd q1.out], fun q1 => CurOk q1.c ∧ List.length q1.out = q1.i ∧ q1.i ≤ 8, fun q1 => 8 - q1.i⟩
theorem l19Script_o (c : Cur) (hp1 : CurOk c) : ∃ o : l19Script_o_O, ((List.length o.l ≤ 8) ∧ (CurOk o.c1)) ∧ Fun Tryz.prog 15 [vP 0] [.cells (cCur c)] (.v (vO 1)) [.cells (cCur o.c1), .lst .rd o.l] := by
 have hN : bigN = 274877906944 := rfl
 refine funs_ofw Tryz.func15 (by kernel_rfl) (by kernel_rfl) (w := let z21 : List V := [vP 0, .c (.seq .int [0, 1, 1, 2, 3, 5, 9, 16, 30, (-1)])]; let z22 : List V := [vP 0, vI 30]; let z23 : List V := [vP 0, vI 24]; let z24 : List V := [vP 0, vI 3]; let z25 : List Blk := [.cells (cCur c)]; (.seg [.ty .rd] (.intro (fun (o1 : l1Below_o_O) => (((0 : Int) ≤ o1.x) ∧ ((1 : Int) ≤ 8 → o1.x < 8) ∧ (8 ≤ (0 : Int) → o1.x = (0 : Int)) ∧ (CurOk o1.c1)) ∧ Fun Tryz.prog 27 [vP 0, vI 8] z25 (.v (vI o1.x)) [.cells (cCur o1.c1)]) fun o1 => .seg [.call [0] (.v (vI o1.x)) [.cells (cCur o1.c1)], .at 0, .keep [0, 3, 4, 5], .sel [0, 1]] (.loop (l19Script_o_F0 o1) fun q1 => let z15 := vI (((q1.i : Nat) : Int) + 1); .br (.seg [.ty .int, .pubS 16] (.intro (fun (o2 : l1PickInt_o_O) => ((o2.x ∈ [0, 1, 1, 2, 3, 5, 9, 16, 30, (-1)]) ∧ (CurOk o2.c1)) ∧ Fun Tryz.prog 30 z21 [.cells (cCur q1.c)] (.v (vI o2.x)) [.cells (cCur o2.c1)]) fun o2 => .seg [.call [0] (.v (vI o2.x)) [.cells (cCur o2.c1)]] (.intro (fun (o3 : l1Once_o_O) => ((CurOk o3.c1)) ∧ Fun Tryz.prog 13 [vP 0, vI 6] [.cells (cCur o2.c1)] (.v (vB o3.p)) [.cells (cCur o3.c1)]) fun o3 => .seg [.call [0] (.v (vB o3.p)) [.cells (cCur o3.c1)]] (.br (.intro (fun (o4 : l1Once_o_O) => ((CurOk o4.c1)) ∧ Fun Tryz.prog 13 z23 [.cells (cCur o3.c1)] (.v (vB o4.p)) [.cells (cCur o4.c1)]) fun o4 => .seg [.call [0] (.v (vB o4.p)) [.cells (cCur o4.c1)]] (.br (.intro (fun (o5 : l1Below_o_O) => (((0 : Int) ≤ o5.x) ∧ ((1 : Int) ≤ 3 → o5.x < 3) ∧ (3 ≤ (0 : Int) → o5.x = (0 : Int)) ∧ (CurOk o5.c1)) ∧ Fun Tryz.prog 27 z24 [.cells (cCur o4.c1)] (.v (vI o5.x)) [.cells (cCur o5.c1)]) fun o5 => .seg [.call [0] (.v (vI o5.x)) [.cells (cCur o5.c1)], .as 26 (.v (vI (20 + o5.x)))] (.intro (fun (o6 : l1Once_o_O) => ((CurOk o6.c1)) ∧ Fun Tryz.prog 13 z22 [.cells (cCur o5.c1)] (.v (vB o6.p)) [.cells (cCur o6.c1)]) fun o6 => .seg [.call [0] (.v (vB o6.p)) [.cells (cCur o6.c1)]] (.br (.intro (fun (o7 : l1Whole_o_O) => ((CurOk o7.c1)) ∧ Fun Tryz.prog 31 [vP 0] [.cells (cCur o6.c1)] (.v (vI o7.x)) [.cells (cCur o7.c1)]) fun o7 => .seg [.call [0] (.v (vI o7.x)) [.cells (cCur o7.c1)]] (.intro (fun (o8 : l1Whole_o_O) => ((CurOk o8.c1)) ∧ Fun Tryz.prog 31 [vP 0] [.cells (cCur o7.c1)] (.v (vI o8.x)) [.cells (cCur o8.c1)]) fun o8 => .seg [.call [0] (.v (vI o8.x)) [.cells (cCur o8.c1)], .ty .rd, .ty .rd, .as 14 (.v z15), .at 0, .keep [0, 3, 4, 5], .sel [0, 5]] (.next))) (.seg [.ty .rd, .ty .rd, .as 14 (.v z15), .at 0, .keep [0, 3, 4, 5], .sel [0, 5]] (.next))))) (.intro (fun (o5 : l1Once_o_O) => ((CurOk o5.c1)) ∧ Fun Tryz.prog 13 z22 [.cells (cCur o4.c1)] (.v (vB o5.p)) [.cells (cCur o5.c1)]) fun o5 => .seg [.call [0] (.v (vB o5.p)) [.cells (cCur o5.c1)]] (.br (.intro (fun (o6 : l1Whole_o_O) => ((CurOk o6.c1)) ∧ Fun Tryz.prog 31 [vP 0] [.cells (cCur o5.c1)] (.v (vI o6.x)) [.cells (cCur o6.c1)]) fun o6 => .seg [.call [0] (.v (vI o6.x)) [.cells (cCur o6.c1)]] (.intro (fun (o7 : l1Whole_o_O) => ((CurOk o7.c1)) ∧ Fun Tryz.prog 31 [vP 0] [.cells (cCur o6.c1)] (.v (vI o7.x)) [.cells (cCur o7.c1)]) fun o7 => .seg [.call [0] (.v (vI o7.x)) [.cells (cCur o7.c1)], .ty .rd, .ty .rd, .as 14 (.v z15), .at 0, .keep [0, 3, 4, 5], .sel [0, 5]] (.next))) (.seg [.ty .rd, .ty .rd, .as 14 (.v z15), .at 0, .keep [0, 3, 4, 5], .sel [0, 5]] (.next)))))) (.intro (fun (o4 : l1Once_o_O) => ((CurOk o4.c1)) ∧ Fun Tryz.prog 13 z23 [.cells (cCur o3.c1)] (.v (vB o4.p)) [.cells (cCur o4.c1)]) fun o4 => .seg [.call [0] (.v (vB o4.p)) [.cells (cCur o4.c1)]] (.br (.intro (fun (o5 : l1Below_o_O) => (((0 : Int) ≤ o5.x) ∧ ((1 : Int) ≤ 3 → o5.x < 3) ∧ (3 ≤ (0 : Int) → o5.x = (0 : Int)) ∧ (CurOk o5.c1)) ∧ Fun Tryz.prog 27 z24 [.cells (cCur o4.c1)] (.v (vI o5.x)) [.cells (cCur o5.c1)]) fun o5 => .seg [.call [0] (.v (vI o5.x)) [.cells (cCur o5.c1)], .as 26 (.v (vI (20 + o5.x)))] (.intro (fun (o6 : l1Once_o_O) => ((CurOk o6.c1)) ∧ Fun Tryz.prog 13 z22 [.cells (cCur o5.c1)] (.v (vB o6.p)) [.cells (cCur o6.c1)]) fun o6 => .seg [.call [0] (.v (vB o6.p)) [.cells (cCur o6.c1)]] (.br (.intro (fun (o7 : l1Whole_o_O) => ((CurOk o7.c1)) ∧ Fun Tryz.prog 31 [vP 0] [.cells (cCur o6.c1)] (.v (vI o7.x)) [.cells (cCur o7.c1)]) fun o7 => .seg [.call [0] (.v (vI o7.x)) [.cells (cCur o7.c1)]] (.intro (fun (o8 : l1Whole_o_O) => ((CurOk o8.c1)) ∧ Fun Tryz.prog 31 [vP 0] [.cells (cCur o7.c1)] (.v (vI o8.x)) [.cells (cCur o8.c1)]) fun o8 => .seg [.call [0] (.v (vI o8.x)) [.cells (cCur o8.c1)], .ty .rd, .ty .rd, .as 14 (.v z15), .at 0, .keep [0, 3, 4, 5], .sel [0, 5]] (.next))) (.seg [.ty .rd, .ty .rd, .as 14 (.v z15), .at 0, .keep [0, 3, 4, 5], .sel [0, 5]] (.next))))) (.intro (fun (o5 : l1Once_o_O) => ((CurOk o5.c1)) ∧ Fun Tryz.prog 13 z22 [.cells (cCur o4.c1)] (.v (vB o5.p)) [.cells (cCur o5.c1)]) fun o5 => .seg [.call [0] (.v (vB o5.p)) [.cells (cCur o5.c1)]] (.br (.intro (fun (o6 : l1Whole_o_O) => ((CurOk o6.c1)) ∧ Fun Tryz.prog 31 [vP 0] [.cells (cCur o5.c1)] (.v (vI o6.x)) [.cells (cCur o6.c1)]) fun o6 => .seg [.call [0] (.v (vI o6.x)) [.cells (cCur o6.c1)]] (.intro (fun (o7 : l1Whole_o_O) => ((CurOk o7.c1)) ∧ Fun Tryz.prog 31 [vP 0] [.cells (cCur o6.c1)] (.v (vI o7.x)) [.cells (cCur o7.c1)]) fun o7 => .seg [.call [0] (.v (vI o7.x)) [.cells (cCur o7.c1)], .ty .rd, .ty .rd, .as 14 (.v z15), .at 0, .keep [0, 3, 4, 5], .sel [0, 5]] (.next))) (.seg [.ty .rd, .ty .rd, .as 14 (.v z15), .at 0, .keep [0, 3, 4, 5], .sel [0, 5]] (.next)))))))))) (.leaf (⟨q1.out, q1.c⟩ : l19Script_o_O) [0, 1]))), (∃ (o1 : l1Below_o_O), (((0 : Int) ≤ o1.x) ∧ ((1 : Int) ≤ 8 → o1.x < 8) ∧ (8 ≤ (0 : Int) → o1.x = (0 : Int)) ∧ (CurOk o1.c1)) ∧ Fun Tryz.prog 27 [vP 0, vI 8] z25 (.v (vI o1.x)) [.cells (cCur o1.c1)]) ∧ ∀ (o1 : l1Below_o_O), ((((0 : Int) ≤ o1.x) ∧ ((1 : Int) ≤ 8 → o1.x < 8) ∧ (8 ≤ (0 : Int) → o1.x = (0 : Int)) ∧ (CurOk o1.c1)) ∧ Fun Tryz.prog 27 [vP 0, vI 8] z25 (.v (vI o1.x)) [.cells (cCur o1.c1)]) → (let z20 := l19Script_o_F0 o1; (Fun Tryz.prog 27 [vP 0, vI 8] z25 (.v (vI o1.x)) [.cells (cCur o1.c1)]) ∧ z20.Has [(0, .v (vP 0)), (3, .v (vO 1)), (4, .v (vI o1.x)), (5, .v (vI 0))] [.cells (cCur o1.c1), .lst .rd ([] : List Rd)] ∧ ∀ q1, z20.inv q1 → (let z18 := ((q1.i : Nat) : Int); let z17 := vI (z18 + 1); let z16 := (.v (vI (IntKind.i64.wrap (z18 + 1))) : S) = .v z17; let z19 := cCur q1.c; ((decide (z18 < o1.x)) = true → (∃ (o2 : l1PickInt_o_O), ((o2.x ∈ [0, 1, 1, 2, 3, 5, 9, 16, 30, (-1)]) ∧ (CurOk o2.c1)) ∧ Fun Tryz.prog 30 z21 [.cells z19] (.v (vI o2.x)) [.cells (cCur o2.c1)]) ∧ ∀ (o2 : l1PickInt_o_O), (((o2.x ∈ [0, 1, 1, 2, 3, 5, 9, 16, 30, (-1)]) ∧ (CurOk o2.c1)) ∧ Fun Tryz.prog 30 z21 [.cells z19] (.v (vI o2.x)) [.cells (cCur o2.c1)]) → (let z14 : List Blk := [.cells (cCur o2.c1)]; (Fun Tryz.prog 30 z21 [.cells z19] (.v (vI o2.x)) z14) ∧ (∃ (o3 : l1Once_o_O), ((CurOk o3.c1)) ∧ Fun Tryz.prog 13 [vP 0, vI 6] z14 (.v (vB o3.p)) [.cells (cCur o3.c1)]) ∧ ∀ (o3 : l1Once_o_O), (((CurOk o3.c1)) ∧ Fun Tryz.prog 13 [vP 0, vI 6] z14 (.v (vB o3.p)) [.cells (cCur o3.c1)]) → (let z13 : List Blk := [.cells (cCur o3.c1)]; (Fun Tryz.prog 13 [vP 0, vI 6] z14 (.v (vB o3.p)) z13) ∧ (o3.p = true → (∃ (o4 : l1Once_o_O), ((CurOk o4.c1)) ∧ Fun Tryz.prog 13 z23 z13 (.v (vB o4.p)) [.cells (cCur o4.c1)]) ∧ ∀ (o4 : l1Once_o_O), (((CurOk o4.c1)) ∧ Fun Tryz.prog 13 z23 z13 (.v (vB o4.p)) [.cells (cCur o4.c1)]) → (let z6 : List Blk := [.cells (cCur o4.c1)]; (Fun Tryz.prog 13 z23 z13 (.v (vB o4.p)) z6) ∧ (o4.p = true → (∃ (o5 : l1Below_o_O), (((0 : Int) ≤ o5.x) ∧ ((1 : Int) ≤ 3 → o5.x < 3) ∧ (3 ≤ (0 : Int) → o5.x = (0 : Int)) ∧ (CurOk o5.c1)) ∧ Fun Tryz.prog 27 z24 z6 (.v (vI o5.x)) [.cells (cCur o5.c1)]) ∧ ∀ (o5 : l1Below_o_O), ((((0 : Int) ≤ o5.x) ∧ ((1 : Int) ≤ 3 → o5.x < 3) ∧ (3 ≤ (0 : Int) → o5.x = (0 : Int)) ∧ (CurOk o5.c1)) ∧ Fun Tryz.prog 27 z24 z6 (.v (vI o5.x)) [.cells (cCur o5.c1)]) → (let z3 : List Blk := [.cells (cCur o5.c1)]; (Fun Tryz.prog 27 z24 z6 (.v (vI o5.x)) z3) ∧ ((.v (vI (IntKind.i64.wrap (20 + o5.x))) : S) = .v (vI (20 + o5.x))) ∧ (∃ (o6 : l1Once_o_O), ((CurOk o6.c1)) ∧ Fun Tryz.prog 13 z22 z3 (.v (vB o6.p)) [.cells (cCur o6.c1)]) ∧ ∀ (o6 : l1Once_o_O), (((CurOk o6.c1)) ∧ Fun Tryz.prog 13 z22 z3 (.v (vB o6.p)) [.cells (cCur o6.c1)]) → (let z2 : List Blk := [.cells (cCur o6.c1)]; (Fun Tryz.prog 13 z22 z3 (.v (vB o6.p)) z2) ∧ (o6.p = true → (∃ (o7 : l1Whole_o_O), ((CurOk o7.c1)) ∧ Fun Tryz.prog 31 [vP 0] z2 (.v (vI o7.x)) [.cells (cCur o7.c1)]) ∧ ∀ (o7 : l1Whole_o_O), (((CurOk o7.c1)) ∧ Fun Tryz.prog 31 [vP 0] z2 (.v (vI o7.x)) [.cells (cCur o7.c1)]) → (let z1 : List Blk := [.cells (cCur o7.c1)]; (Fun Tryz.prog 31 [vP 0] z2 (.v (vI o7.x)) z1) ∧ (∃ (o8 : l1Whole_o_O), ((CurOk o8.c1)) ∧ Fun Tryz.prog 31 [vP 0] z1 (.v (vI o8.x)) [.cells (cCur o8.c1)]) ∧ ∀ (o8 : l1Whole_o_O), (((CurOk o8.c1)) ∧ Fun Tryz.prog 31 [vP 0] z1 (.v (vI o8.x)) [.cells (cCur o8.c1)]) → ((Fun Tryz.prog 31 [vP 0] z1 (.v (vI o8.x)) [.cells (cCur o8.c1)]) ∧ (List.length q1.out + List.length [(⟨o7.x, o8.x⟩ : Rd)] ≤ bigN) ∧ z16 ∧ z20.Nxt q1 [(0, .v (vP 0)), (3, .v (vO 1)), (4, .v (vI o1.x)), (5, .v z17)] [.cells (cCur o8.c1), .lst .rd (q1.out ++ [(⟨o7.x, o8.x⟩ : Rd)])]))) ∧ (o6.p = false → (List.length q1.out + List.length [(⟨o2.x, 20 + o5.x⟩ : Rd)] ≤ bigN) ∧ z16 ∧ z20.Nxt q1 [(0, .v (vP 0)), (3, .v (vO 1)), (4, .v (vI o1.x)), (5, .v z17)] [.cells (cCur o6.c1), .lst .rd (q1.out ++ [(⟨o2.x, 20 + o5.x⟩ : Rd)])])))) ∧ (o4.p = false → (∃ (o5 : l1Once_o_O), ((CurOk o5.c1)) ∧ Fun Tryz.prog 13 z22 z6 (.v (vB o5.p)) [.cells (cCur o5.c1)]) ∧ ∀ (o5 : l1Once_o_O), (((CurOk o5.c1)) ∧ Fun Tryz.prog 13 z22 z6 (.v (vB o5.p)) [.cells (cCur o5.c1)]) → (let z5 : List Blk := [.cells (cCur o5.c1)]; (Fun Tryz.prog 13 z22 z6 (.v (vB o5.p)) z5) ∧ (o5.p = true → (∃ (o6 : l1Whole_o_O), ((CurOk o6.c1)) ∧ Fun Tryz.prog 31 [vP 0] z5 (.v (vI o6.x)) [.cells (cCur o6.c1)]) ∧ ∀ (o6 : l1Whole_o_O), (((CurOk o6.c1)) ∧ Fun Tryz.prog 31 [vP 0] z5 (.v (vI o6.x)) [.cells (cCur o6.c1)]) → (let z4 : List Blk := [.cells (cCur o6.c1)]; (Fun Tryz.prog 31 [vP 0] z5 (.v (vI o6.x)) z4) ∧ (∃ (o7 : l1Whole_o_O), ((CurOk o7.c1)) ∧ Fun Tryz.prog 31 [vP 0] z4 (.v (vI o7.x)) [.cells (cCur o7.c1)]) ∧ ∀ (o7 : l1Whole_o_O), (((CurOk o7.c1)) ∧ Fun Tryz.prog 31 [vP 0] z4 (.v (vI o7.x)) [.cells (cCur o7.c1)]) → ((Fun Tryz.prog 31 [vP 0] z4 (.v (vI o7.x)) [.cells (cCur o7.c1)]) ∧ (List.length q1.out + List.length [(⟨o6.x, o7.x⟩ : Rd)] ≤ bigN) ∧ z16 ∧ z20.Nxt q1 [(0, .v (vP 0)), (3, .v (vO 1)), (4, .v (vI o1.x)), (5, .v z17)] [.cells (cCur o7.c1), .lst .rd (q1.out ++ [(⟨o6.x, o7.x⟩ : Rd)])]))) ∧ (o5.p = false → (List.length q1.out + List.length [(⟨o2.x, 1⟩ : Rd)] ≤ bigN) ∧ z16 ∧ z20.Nxt q1 [(0, .v (vP 0)), (3, .v (vO 1)), (4, .v (vI o1.x)), (5, .v z17)] [.cells (cCur o5.c1), .lst .rd (q1.out ++ [(⟨o2.x, 1⟩ : Rd)])]))))) ∧ (o3.p = false → (∃ (o4 : l1Once_o_O), ((CurOk o4.c1)) ∧ Fun Tryz.prog 13 z23 z13 (.v (vB o4.p)) [.cells (cCur o4.c1)]) ∧ ∀ (o4 : l1Once_o_O), (((CurOk o4.c1)) ∧ Fun Tryz.prog 13 z23 z13 (.v (vB o4.p)) [.cells (cCur o4.c1)]) → (let z12 : List Blk := [.cells (cCur o4.c1)]; (Fun Tryz.prog 13 z23 z13 (.v (vB o4.p)) z12) ∧ (o4.p = true → (∃ (o5 : l1Below_o_O), (((0 : Int) ≤ o5.x) ∧ ((1 : Int) ≤ 3 → o5.x < 3) ∧ (3 ≤ (0 : Int) → o5.x = (0 : Int)) ∧ (CurOk o5.c1)) ∧ Fun Tryz.prog 27 z24 z12 (.v (vI o5.x)) [.cells (cCur o5.c1)]) ∧ ∀ (o5 : l1Below_o_O), ((((0 : Int) ≤ o5.x) ∧ ((1 : Int) ≤ 3 → o5.x < 3) ∧ (3 ≤ (0 : Int) → o5.x = (0 : Int)) ∧ (CurOk o5.c1)) ∧ Fun Tryz.prog 27 z24 z12 (.v (vI o5.x)) [.cells (cCur o5.c1)]) → (let z9 : List Blk := [.cells (cCur o5.c1)]; (Fun Tryz.prog 27 z24 z12 (.v (vI o5.x)) z9) ∧ ((.v (vI (IntKind.i64.wrap (20 + o5.x))) : S) = .v (vI (20 + o5.x))) ∧ (∃ (o6 : l1Once_o_O), ((CurOk o6.c1)) ∧ Fun Tryz.prog 13 z22 z9 (.v (vB o6.p)) [.cells (cCur o6.c1)]) ∧ ∀ (o6 : l1Once_o_O), (((CurOk o6.c1)) ∧ Fun Tryz.prog 13 z22 z9 (.v (vB o6.p)) [.cells (cCur o6.c1)]) → (let z8 : List Blk := [.cells (cCur o6.c1)]; (Fun Tryz.prog 13 z22 z9 (.v (vB o6.p)) z8) ∧ (o6.p = true → (∃ (o7 : l1Whole_o_O), ((CurOk o7.c1)) ∧ Fun Tryz.prog 31 [vP 0] z8 (.v (vI o7.x)) [.cells (cCur o7.c1)]) ∧ ∀ (o7 : l1Whole_o_O), (((CurOk o7.c1)) ∧ Fun Tryz.prog 31 [vP 0] z8 (.v (vI o7.x)) [.cells (cCur o7.c1)]) → (let z7 : List Blk := [.cells (cCur o7.c1)]; (Fun Tryz.prog 31 [vP 0] z8 (.v (vI o7.x)) z7) ∧ (∃ (o8 : l1Whole_o_O), ((CurOk o8.c1)) ∧ Fun Tryz.prog 31 [vP 0] z7 (.v (vI o8.x)) [.cells (cCur o8.c1)]) ∧ ∀ (o8 : l1Whole_o_O), (((CurOk o8.c1)) ∧ Fun Tryz.prog 31 [vP 0] z7 (.v (vI o8.x)) [.cells (cCur o8.c1)]) → ((Fun Tryz.prog 31 [vP 0] z7 (.v (vI o8.x)) [.cells (cCur o8.c1)]) ∧ (List.length q1.out + List.length [(⟨o7.x, o8.x⟩ : Rd)] ≤ bigN) ∧ z16 ∧ z20.Nxt q1 [(0, .v (vP 0)), (3, .v (vO 1)), (4, .v (vI o1.x)), (5, .v z17)] [.cells (cCur o8.c1), .lst .rd (q1.out ++ [(⟨o7.x, o8.x⟩ : Rd)])]))) ∧ (o6.p = false → (List.length q1.out + List.length [(⟨o2.x, 20 + o5.x⟩ : Rd)] ≤ bigN) ∧ z16 ∧ z20.Nxt q1 [(0, .v (vP 0)), (3, .v (vO 1)), (4, .v (vI o1.x)), (5, .v z17)] [.cells (cCur o6.c1), .lst .rd (q1.out ++ [(⟨o2.x, 20 + o5.x⟩ : Rd)])])))) ∧ (o4.p = false → (∃ (o5 : l1Once_o_O), ((CurOk o5.c1)) ∧ Fun Tryz.prog 13 z22 z12 (.v (vB o5.p)) [.cells (cCur o5.c1)]) ∧ ∀ (o5 : l1Once_o_O), (((CurOk o5.c1)) ∧ Fun Tryz.prog 13 z22 z12 (.v (vB o5.p)) [.cells (cCur o5.c1)]) → (let z11 : List Blk := [.cells (cCur o5.c1)]; (Fun Tryz.prog 13 z22 z12 (.v (vB o5.p)) z11) ∧ (o5.p = true → (∃ (o6 : l1Whole_o_O), ((CurOk o6.c1)) ∧ Fun Tryz.prog 31 [vP 0] z11 (.v (vI o6.x)) [.cells (cCur o6.c1)]) ∧ ∀ (o6 : l1Whole_o_O), (((CurOk o6.c1)) ∧ Fun Tryz.prog 31 [vP 0] z11 (.v (vI o6.x)) [.cells (cCur o6.c1)]) → (let z10 : List Blk := [.cells (cCur o6.c1)]; (Fun Tryz.prog 31 [vP 0] z11 (.v (vI o6.x)) z10) ∧ (∃ (o7 : l1Whole_o_O), ((CurOk o7.c1)) ∧ Fun Tryz.prog 31 [vP 0] z10 (.v (vI o7.x)) [.cells (cCur o7.c1)]) ∧ ∀ (o7 : l1Whole_o_O), (((CurOk o7.c1)) ∧ Fun Tryz.prog 31 [vP 0] z10 (.v (vI o7.x)) [.cells (cCur o7.c1)]) → ((Fun Tryz.prog 31 [vP 0] z10 (.v (vI o7.x)) [.cells (cCur o7.c1)]) ∧ (List.length q1.out + List.length [(⟨o6.x, o7.x⟩ : Rd)] ≤ bigN) ∧ z16 ∧ z20.Nxt q1 [(0, .v (vP 0)), (3, .v (vO 1)), (4, .v (vI o1.x)), (5, .v z17)] [.cells (cCur o7.c1), .lst .rd (q1.out ++ [(⟨o6.x, o7.x⟩ : Rd)])]))) ∧ (o5.p = false → (List.length q1.out + List.length [(⟨o2.x, 0⟩ : Rd)] ≤ bigN) ∧ z16 ∧ z20.Nxt q1 [(0, .v (vP 0)), (3, .v (vO 1)), (4, .v (vI o1.x)), (5, .v z17)] [.cells (cCur o5.c1), .lst .rd (q1.out ++ [(⟨o2.x, 0⟩ : Rd)])])))))))) ∧ ((decide (z18 < o1.x)) = false → ((List.length q1.out ≤ 8) ∧ (CurOk q1.c)) ∧ (.v (vO 1) : S) = .v (vO 1) ∧ ([.cells z19, .lst .rd q1.out] : List Blk) = [.cells z19, .lst .rd q1.out]))))) (by kernel_rfl) ?_
 refine ⟨(l1Below_o c 8 (by first | assumption | (exact ⟨by dsimp only; first | omega | (have := hp1.1; omega), hp1.2⟩))), fun o1 ho_o1 => ?_⟩
 obtain ⟨⟨hp_o1_0, hp_o1_1, hp_o1_2, hp_o1_3⟩, hf_o1⟩ := ho_o1
 refine ⟨hf_o1, has_of (j := (⟨o1.c1, ([] : List Rd), 0⟩ : l19Script_o_V0)) (by first | rfl | simp) rfl (by dsimp only [l19Script_o_F0]; exact ⟨by assumption, rfl, by omega⟩), fun (q1 : l19Script_o_V0) hq_q1 => ?_⟩
 have hi_q1 : CurOk q1.c ∧ List.length q1.out = q1.i ∧ q1.i ≤ 8 := hq_q1
 obtain ⟨v1, v2, v3⟩ := hi_q1
 refine dsp (fun h1 p1 => ?_) fun h1 p1 => ?_
 refine ⟨(l1PickInt_o q1.c [0, 1, 1, 2, 3, 5, 9, 16, 30, (-1)] (by first | assumption | (exact ⟨by dsimp only; first | omega | (have := hp1.1; omega), hp1.2⟩)) (by simp only [List.length_cons, List.length_nil]; omega) (by simp only [List.length_cons, List.length_nil]; omega)), fun o2 ho_o2 => ?_⟩
 obtain ⟨⟨hp_o2_0, hp_o2_1⟩, hf_o2⟩ := ho_o2
 refine ⟨hf_o2, (l1Once_o o2.c1 6 (by first | assumption | (exact ⟨by dsimp only; first | omega | (have := hp1.1; omega), hp1.2⟩))), fun o3 ho_o3 => ?_⟩
 obtain ⟨hp_o3, hf_o3⟩ := ho_o3
 refine ⟨hf_o3, fun h2 => ?_, fun h2 => ?_⟩
 refine ⟨(l1Once_o o3.c1 24 (by first | assumption | (exact ⟨by dsimp only; first | omega | (have := hp1.1; omega), hp1.2⟩))), fun o4 ho_o4 => ?_⟩
 obtain ⟨hp_o4, hf_o4⟩ := ho_o4
 refine ⟨hf_o4, fun h3 => ?_, fun h3 => ?_⟩
 refine ⟨(l1Below_o o4.c1 3 (by first | assumption | (exact ⟨by dsimp only; first | omega | (have := hp1.1; omega), hp1.2⟩))), fun o5 ho_o5 => ?_⟩
 obtain ⟨⟨hp_o5_0, hp_o5_1, hp_o5_2, hp_o5_3⟩, hf_o5⟩ := ho_o5
 refine ⟨hf_o5, (as_i64 (by omega) (by omega)), (l1Once_o o5.c1 30 (by first | assumption | (exact ⟨by dsimp only; first | omega | (have := hp1.1; omega), hp1.2⟩))), fun o6 ho_o6 => ?_⟩
 obtain ⟨hp_o6, hf_o6⟩ := ho_o6
 refine ⟨hf_o6, fun h4 => ?_, fun h4 => ?_⟩
 refine ⟨(l1Whole_o o6.c1 (by first | assumption | (exact ⟨by dsimp only; first | omega | (have := hp1.1; omega), hp1.2⟩))), fun o7 ho_o7 => ?_⟩
 obtain ⟨hp_o7, hf_o7⟩ := ho_o7
 refine ⟨hf_o7, (l1Whole_o o7.c1 (by first | assumption | (exact ⟨by dsimp only; first | omega | (have := hp1.1; omega), hp1.2⟩))), fun o8 ho_o8 => ?_⟩
 obtain ⟨hp_o8, hf_o8⟩ := ho_o8
 exact ⟨hf_o8, (by simp only [List.length_cons, List.length_nil]; omega), (as_i64 (by omega) (by omega)), nxt_of (j := (⟨o8.c1, q1.out ++ [(⟨o7.x, o8.x⟩ : Rd)], q1.i + 1⟩ : l19Script_o_V0)) (by first | rfl | simp) rfl (by dsimp only [l19Script_o_F0]; exact ⟨by assumption, by simp; omega, by omega⟩) (by dsimp only [l19Script_o_F0]; omega)⟩
 exact ⟨(by simp only [List.length_cons, List.length_nil]; omega), (as_i64 (by omega) (by omega)), nxt_of (j := (⟨o6.c1, q1.out ++ [(⟨o2.x, 20 + o5.x⟩ : Rd)], q1.i + 1⟩ : l19Script_o_V0)) (by first | rfl | simp) rfl (by dsimp only [l19Script_o_F0]; exact ⟨by assumption, by simp; omega, by omega⟩) (by dsimp only [l19Script_o_F0]; omega)⟩
 refine ⟨(l1Once_o o4.c1 30 (by first | assumption | (exact ⟨by dsimp only; first | omega | (have := hp1.1; omega), hp1.2⟩))), fun o5 ho_o5 => ?_⟩
 obtain ⟨hp_o5, hf_o5⟩ := ho_o5
 refine ⟨hf_o5, fun h4 => ?_, fun h4 => ?_⟩
 refine ⟨(l1Whole_o o5.c1 (by first | assumption | (exact ⟨by dsimp only; first | omega | (have := hp1.1; omega), hp1.2⟩))), fun o6 ho_o6 => ?_⟩
 obtain ⟨hp_o6, hf_o6⟩ := ho_o6
 refine ⟨hf_o6, (l1Whole_o o6.c1 (by first | assumption | (exact ⟨by dsimp only; first | omega | (have := hp1.1; omega), hp1.2⟩))), fun o7 ho_o7 => ?_⟩
 obtain ⟨hp_o7, hf_o7⟩ := ho_o7
 exact ⟨hf_o7, (by simp only [List.length_cons, List.length_nil]; omega), (as_i64 (by omega) (by omega)), nxt_of (j := (⟨o7.c1, q1.out ++ [(⟨o6.x, o7.x⟩ : Rd)], q1.i + 1⟩ : l19Script_o_V0)) (by first | rfl | simp) rfl (by dsimp only [l19Script_o_F0]; exact ⟨by assumption, by simp; omega, by omega⟩) (by dsimp only [l19Script_o_F0]; omega)⟩
 exact ⟨(by simp only [List.length_cons, List.length_nil]; omega), (as_i64 (by omega) (by omega)), nxt_of (j := (⟨o5.c1, q1.out ++ [(⟨o2.x, 1⟩ : Rd)], q1.i + 1⟩ : l19Script_o_V0)) (by first | rfl | simp) rfl (by dsimp only [l19Script_o_F0]; exact ⟨by assumption, by simp; omega, by omega⟩) (by dsimp only [l19Script_o_F0]; omega)⟩
 refine ⟨(l1Once_o o3.c1 24 (by first | assumption | (exact ⟨by dsimp only; first | omega | (have := hp1.1; omega), hp1.2⟩))), fun o4 ho_o4 => ?_⟩
 obtain ⟨hp_o4, hf_o4⟩ := ho_o4
 refine ⟨hf_o4, fun h3 => ?_, fun h3 => ?_⟩
 refine ⟨(l1Below_o o4.c1 3 (by first | assumption | (exact ⟨by dsimp only; first | omega | (have := hp1.1; omega), hp1.2⟩))), fun o5 ho_o5 => ?_⟩
 obtain ⟨⟨hp_o5_0, hp_o5_1, hp_o5_2, hp_o5_3⟩, hf_o5⟩ := ho_o5
 refine ⟨hf_o5, (as_i64 (by omega) (by omega)), (l1Once_o o5.c1 30 (by first | assumption | (exact ⟨by dsimp only; first | omega | (have := hp1.1; omega), hp1.2⟩))), fun o6 ho_o6 => ?_⟩
 obtain ⟨hp_o6, hf_o6⟩ := ho_o6
 refine ⟨hf_o6, fun h4 => ?_, fun h4 => ?_⟩
 refine ⟨(l1Whole_o o6.c1 (by first | assumption | (exact ⟨by dsimp only; first | omega | (have := hp1.1; omega), hp1.2⟩))), fun o7 ho_o7 => ?_⟩
 obtain ⟨hp_o7, hf_o7⟩ := ho_o7
 refine ⟨hf_o7, (l1Whole_o o7.c1 (by first | assumption | (exact ⟨by dsimp only; first | omega | (have := hp1.1; omega), hp1.2⟩))), fun o8 ho_o8 => ?_⟩
 obtain ⟨hp_o8, hf_o8⟩ := ho_o8
 exact ⟨hf_o8, (by simp only [List.length_cons, List.length_nil]; omega), (as_i64 (by omega) (by omega)), nxt_of (j := (⟨o8.c1, q1.out ++ [(⟨o7.x, o8.x⟩ : Rd)], q1.i + 1⟩ : l19Script_o_V0)) (by first | rfl | simp) rfl (by dsimp only [l19Script_o_F0]; exact ⟨by assumption, by simp; omega, by omega⟩) (by dsimp only [l19Script_o_F0]; omega)⟩
 exact ⟨(by simp only [List.length_cons, List.length_nil]; omega), (as_i64 (by omega) (by omega)), nxt_of (j := (⟨o6.c1, q1.out ++ [(⟨o2.x, 20 + o5.x⟩ : Rd)], q1.i + 1⟩ : l19Script_o_V0)) (by first | rfl | simp) rfl (by dsimp only [l19Script_o_F0]; exact ⟨by assumption, by simp; omega, by omega⟩) (by dsimp only [l19Script_o_F0]; omega)⟩
 refine ⟨(l1Once_o o4.c1 30 (by first | assumption | (exact ⟨by dsimp only; first | omega | (have := hp1.1; omega), hp1.2⟩))), fun o5 ho_o5 => ?_⟩
 obtain ⟨hp_o5, hf_o5⟩ := ho_o5
 refine ⟨hf_o5, fun h4 => ?_, fun h4 => ?_⟩
 refine ⟨(l1Whole_o o5.c1 (by first | assumption | (exact ⟨by dsimp only; first | omega | (have := hp1.1; omega), hp1.2⟩))), fun o6 ho_o6 => ?_⟩
 obtain ⟨hp_o6, hf_o6⟩ := ho_o6
 refine ⟨hf_o6, (l1Whole_o o6.c1 (by first | assumption | (exact ⟨by dsimp only; first | omega | (have := hp1.1; omega), hp1.2⟩))), fun o7 ho_o7 => ?_⟩
 obtain ⟨hp_o7, hf_o7⟩ := ho_o7
 exact ⟨hf_o7, (by simp only [List.length_cons, List.length_nil]; omega), (as_i64 (by omega) (by omega)), nxt_of (j := (⟨o7.c1, q1.out ++ [(⟨o6.x, o7.x⟩ : Rd)], q1.i + 1⟩ : l19Script_o_V0)) (by first | rfl | simp) rfl (by dsimp only [l19Script_o_F0]; exact ⟨by assumption, by simp; omega, by omega⟩) (by dsimp only [l19Script_o_F0]; omega)⟩
 exact ⟨(by simp only [List.length_cons, List.length_nil]; omega), (as_i64 (by omega) (by omega)), nxt_of (j := (⟨o5.c1, q1.out ++ [(⟨o2.x, 0⟩ : Rd)], q1.i + 1⟩ : l19Script_o_V0)) (by first | rfl | simp) rfl (by dsimp only [l19Script_o_F0]; exact ⟨by assumption, by simp; omega, by omega⟩) (by dsimp only [l19Script_o_F0]; omega)⟩
 exact ⟨⟨(by omega), (by first | assumption | (exact ⟨by dsimp only; first | omega | (have := hp1.1; omega), hp1.2⟩))⟩, rfl, rfl⟩
theorem within_i (n : Int) (lo : Int) (hi : Int) : Fun Tryz.prog 35 [vI n, vI lo, vI hi] [] (.v (vB (within n lo hi))) [] := by
 have hN : bigN = 274877906944 := rfl
 refine fun_ofw Tryz.func35 (by kernel_rfl) (by kernel_rfl) (w := (.br (.leaf () []) (.leaf () []), ((decide (lo ≤ n)) = true → (.v (vB (decide (n ≤ hi))) : S) = .v (vB (within n lo hi)) ∧ ([] : List Blk) = []) ∧ ((decide (lo ≤ n)) = false → (.v (vB false) : S) = .v (vB (within n lo hi)) ∧ ([] : List Blk) = []))) (by kernel_rfl) ?_
 refine dsp (fun h1 p1 => ?_) fun h1 p1 => ?_
 exact ⟨(congrArg S.v (congrArg V.c (congrArg C.bool (by simp [within, *])))), rfl⟩
 exact ⟨(congrArg S.v (congrArg V.c (congrArg C.bool (by simp [within, *])))), rfl⟩
theorem within_s (n : Int) (lo : Int) (hi : Int) : Fun Tryz.prog 57 [vI n, vI lo, vI hi] [] (.v (vB (within n lo hi))) [] := by
 have hN : bigN = 274877906944 := rfl
 refine fun_ofw Tryz.func57 (by kernel_rfl) (by kernel_rfl) (w := (.br (.leaf () []) (.leaf () []), ((decide (lo ≤ n)) = true → (.v (vB (decide (n ≤ hi))) : S) = .v (vB (within n lo hi)) ∧ ([] : List Blk) = []) ∧ ((decide (lo ≤ n)) = false → (.v (vB false) : S) = .v (vB (within n lo hi)) ∧ ([] : List Blk) = []))) (by kernel_rfl) ?_
 refine dsp (fun h1 p1 => ?_) fun h1 p1 => ?_
 exact ⟨(congrArg S.v (congrArg V.c (congrArg C.bool (by simp [within, *])))), rfl⟩
 exact ⟨(congrArg S.v (congrArg V.c (congrArg C.bool (by simp [within, *])))), rfl⟩
theorem l1min (a : Int) (b : Int) : Fun Tryz.prog 56 [vI a, vI b] [] (.v (vI (min a b))) [] := by
 have hN : bigN = 274877906944 := rfl
 refine fun_ofw Tryz.func56 (by kernel_rfl) (by kernel_rfl) (w := (.br (.leaf () []) (.leaf () []), ((decide (a < b)) = true → (.v (vI a) : S) = .v (vI (min a b)) ∧ ([] : List Blk) = []) ∧ ((decide (a < b)) = false → (.v (vI b) : S) = .v (vI (min a b)) ∧ ([] : List Blk) = []))) (by kernel_rfl) ?_
 refine dsp (fun h1 p1 => ?_) fun h1 p1 => ?_
 exact ⟨(congrArg S.v (congrArg V.c (congrArg (C.int .i64) (by omega)))), rfl⟩
 exact ⟨(congrArg S.v (congrArg V.c (congrArg (C.int .i64) (by omega)))), rfl⟩
theorem l1max (a : Int) (b : Int) : Fun Tryz.prog 55 [vI a, vI b] [] (.v (vI (max a b))) [] := by
 have hN : bigN = 274877906944 := rfl
 refine fun_ofw Tryz.func55 (by kernel_rfl) (by kernel_rfl) (w := (.br (.leaf () []) (.leaf () []), ((decide (b < a)) = true → (.v (vI a) : S) = .v (vI (max a b)) ∧ ([] : List Blk) = []) ∧ ((decide (b < a)) = false → (.v (vI b) : S) = .v (vI (max a b)) ∧ ([] : List Blk) = []))) (by kernel_rfl) ?_
 refine dsp (fun h1 p1 => ?_) fun h1 p1 => ?_
 exact ⟨(congrArg S.v (congrArg V.c (congrArg (C.int .i64) (by omega)))), rfl⟩
 exact ⟨(congrArg S.v (congrArg V.c (congrArg (C.int .i64) (by omega)))), rfl⟩
theorem numberOk_i (n : Int) : Fun Tryz.prog 83 [vI n] [] (.v (vB (numberOk n))) [] := by
 have hN : bigN = 274877906944 := rfl
 refine fun_ofw Tryz.func83 (by kernel_rfl) (by kernel_rfl) (w := let z1 := within n 1 536870911; let z2 := within n 19000 19999; (.seg [.call [] (.v (vB z1)) []] (.br (.seg [.call [] (.v (vB z2)) []] (.leaf () [])) (.leaf () [])), (Fun Tryz.prog 35 [vI n, vI 1, vI 536870911] [] (.v (vB z1)) []) ∧ (z1 = true → (Fun Tryz.prog 35 [vI n, vI 19000, vI 19999] [] (.v (vB z2)) []) ∧ (.v (vB (!z2)) : S) = .v (vB (numberOk n)) ∧ ([] : List Blk) = []) ∧ (z1 = false → (.v (vB false) : S) = .v (vB (numberOk n)) ∧ ([] : List Blk) = []))) (by kernel_rfl) ?_
 refine ⟨(within_i _ _ _), fun h1 => have p1 := within_t h1; ?_, fun h1 => have p1 := within_f h1; ?_⟩
 exact ⟨(within_i _ _ _), (congrArg S.v (congrArg V.c (congrArg C.bool (by simp [numberOk, *])))), rfl⟩
 exact ⟨(congrArg S.v (congrArg V.c (congrArg C.bool (by simp [numberOk, *])))), rfl⟩
theorem numberOk_s (n : Int) : Fun Tryz.prog 101 [vI n] [] (.v (vB (numberOk n))) [] := by
 have hN : bigN = 274877906944 := rfl
 refine fun_ofw Tryz.func101 (by kernel_rfl) (by kernel_rfl) (w := let z1 := within n 1 536870911; let z2 := within n 19000 19999; (.seg [.call [] (.v (vB z1)) []] (.br (.seg [.call [] (.v (vB z2)) []] (.leaf () [])) (.leaf () [])), (Fun Tryz.prog 57 [vI n, vI 1, vI 536870911] [] (.v (vB z1)) []) ∧ (z1 = true → (Fun Tryz.prog 57 [vI n, vI 19000, vI 19999] [] (.v (vB z2)) []) ∧ (.v (vB (!z2)) : S) = .v (vB (numberOk n)) ∧ ([] : List Blk) = []) ∧ (z1 = false → (.v (vB false) : S) = .v (vB (numberOk n)) ∧ ([] : List Blk) = []))) (by kernel_rfl) ?_
 refine ⟨(within_s _ _ _), fun h1 => have p1 := within_t h1; ?_, fun h1 => have p1 := within_f h1; ?_⟩
 exact ⟨(within_s _ _ _), (congrArg S.v (congrArg V.c (congrArg C.bool (by simp [numberOk, *])))), rfl⟩
 exact ⟨(congrArg S.v (congrArg V.c (congrArg C.bool (by simp [numberOk, *])))), rfl⟩
theorem wireOk_i (w : Int) : Fun Tryz.prog 40 [vI w] [] (.v (vB (wireOk w))) [] := by
 have hN : bigN = 274877906944 := rfl
 refine fun_ofw Tryz.func40 (by kernel_rfl) (by kernel_rfl) (w := let z1 := vB (wireOk w); let z2 := ([] : List Blk); let z3 := (.v (vB true) : S); (.br (.leaf () []) (.br (.leaf () []) (.br (.leaf () []) (.leaf () []))), ((decide (w = 0)) = true → z3 = .v z1 ∧ z2 = []) ∧ ((decide (w = 0)) = false → ((decide (w = 1)) = true → z3 = .v z1 ∧ z2 = []) ∧ ((decide (w = 1)) = false → ((decide (w = 2)) = true → z3 = .v z1 ∧ z2 = []) ∧ ((decide (w = 2)) = false → (.v (vB (decide (w = 5))) : S) = .v z1 ∧ z2 = []))))) (by kernel_rfl) ?_
 refine dsp (fun h1 p1 => ?_) fun h1 p1 => ?_
 exact ⟨(congrArg S.v (congrArg V.c (congrArg C.bool (by simp [wireOk, *])))), rfl⟩
 refine dsp (fun h2 p2 => ?_) fun h2 p2 => ?_
 exact ⟨(congrArg S.v (congrArg V.c (congrArg C.bool (by simp [wireOk, *])))), rfl⟩
 refine dsp (fun h3 p3 => ?_) fun h3 p3 => ?_
 exact ⟨(congrArg S.v (congrArg V.c (congrArg C.bool (by simp [wireOk, *])))), rfl⟩
 exact ⟨(congrArg S.v (congrArg V.c (congrArg C.bool (by simp [wireOk, *])))), rfl⟩
theorem kindOk_i (k : Int) : Fun Tryz.prog 84 [vI k] [] (.v (vB (kindOk k))) [] := by
 have hN : bigN = 274877906944 := rfl
 refine fun_ofw Tryz.func84 (by kernel_rfl) (by kernel_rfl) (w := let z1 := vB (within k 1 8); (.seg [.call [] (.v z1) []] (.leaf () []), (Fun Tryz.prog 35 [vI k, vI 1, vI 8] [] (.v z1) []) ∧ (.v z1 : S) = .v (vB (kindOk k)) ∧ ([] : List Blk) = [])) (by kernel_rfl) ?_
 exact ⟨(within_i _ _ _), (congrArg S.v (congrArg V.c (congrArg C.bool (by rfl)))), rfl⟩
theorem kindOk_s (k : Int) : Fun Tryz.prog 102 [vI k] [] (.v (vB (kindOk k))) [] := by
 have hN : bigN = 274877906944 := rfl
 refine fun_ofw Tryz.func102 (by kernel_rfl) (by kernel_rfl) (w := let z1 := vB (within k 1 8); (.seg [.call [] (.v z1) []] (.leaf () []), (Fun Tryz.prog 57 [vI k, vI 1, vI 8] [] (.v z1) []) ∧ (.v z1 : S) = .v (vB (kindOk k)) ∧ ([] : List Blk) = [])) (by kernel_rfl) ?_
 exact ⟨(within_s _ _ _), (congrArg S.v (congrArg V.c (congrArg C.bool (by rfl)))), rfl⟩
theorem numeric_i (k : Int) : Fun Tryz.prog 85 [vI k] [] (.v (vB (numeric k))) [] := by
 have hN : bigN = 274877906944 := rfl
 refine fun_ofw Tryz.func85 (by kernel_rfl) (by kernel_rfl) (w := let z1 := vB (within k 1 5); (.seg [.call [] (.v z1) []] (.leaf () []), (Fun Tryz.prog 35 [vI k, vI 1, vI 5] [] (.v z1) []) ∧ (.v z1 : S) = .v (vB (numeric k)) ∧ ([] : List Blk) = [])) (by kernel_rfl) ?_
 exact ⟨(within_i _ _ _), (congrArg S.v (congrArg V.c (congrArg C.bool (by rfl)))), rfl⟩
theorem numeric_s (k : Int) : Fun Tryz.prog 92 [vI k] [] (.v (vB (numeric k))) [] := by
 have hN : bigN = 274877906944 := rfl
 refine fun_ofw Tryz.func92 (by kernel_rfl) (by kernel_rfl) (w := let z1 := vB (within k 1 5); (.seg [.call [] (.v z1) []] (.leaf () []), (Fun Tryz.prog 57 [vI k, vI 1, vI 5] [] (.v z1) []) ∧ (.v z1 : S) = .v (vB (numeric k)) ∧ ([] : List Blk) = [])) (by kernel_rfl) ?_
 exact ⟨(within_s _ _ _), (congrArg S.v (congrArg V.c (congrArg C.bool (by rfl)))), rfl⟩
theorem wireOf_i (k : Int) : Fun Tryz.prog 88 [vI k] [] (.v (vI (wireOf k))) [] := by
 have hN : bigN = 274877906944 := rfl
 refine fun_ofw Tryz.func88 (by kernel_rfl) (by kernel_rfl) (w := let zi : Int → C := .int .i64; let z1 := List.getD [0, 0, 0, 5, 1, 2, 2, 2] (Int.toNat (k - 1)) 0; (.seg [.call [] (.v (vB (kindOk k))) []] (.br (.leaf () []) (.seg [.as 8 (.v (vI (k - 1))), .ce (zi z1)] (.leaf () []))), (Fun Tryz.prog 84 [vI k] [] (.v (vB (kindOk k))) []) ∧ ((!(kindOk k)) = true → (.v (vI (-1)) : S) = .v (vI (wireOf k)) ∧ ([] : List Blk) = []) ∧ ((!(kindOk k)) = false → ((.v (vI (IntKind.i64.wrap (k - 1))) : S) = .v (vI (k - 1))) ∧ ((([zi 0, zi 0, zi 0, zi 5, zi 1, zi 2, zi 2, zi 2] : List C)[Int.toNat (k - 1)]?) = some (zi z1)) ∧ (k - 1 < ((8 : Nat) : Int)) ∧ ((0 : Int) ≤ k - 1) ∧ (.v (vI z1) : S) = .v (vI (wireOf k)) ∧ ([] : List Blk) = []))) (by kernel_rfl) ?_
 refine ⟨(kindOk_i _), fun h1 => have q1 := bnot_t h1; have p1 := within_f q1; ?_, fun h1 => have q1 := bnot_f h1; have p1 := within_t q1; ?_⟩
 refine ⟨(sI ?_), rfl⟩
 rotate_left
 refine ⟨(as_i64 (by omega) (by omega)), (ce_int (l := [0, 0, 0, 5, 1, 2, 2, 2]) (by simp; omega)), (by omega), (by omega), (sI ?_), rfl⟩
 rotate_left
 all_goals first | (simp [wireOf, *]; done) | (rcases (show k = 1 ∨ k = 2 ∨ k = 3 ∨ k = 4 ∨ k = 5 ∨ k = 6 ∨ k = 7 ∨ k = 8 by omega) with rfl | rfl | rfl | rfl | rfl | rfl | rfl | rfl <;> rfl)
theorem wireOf_s (k : Int) : Fun Tryz.prog 96 [vI k] [] (.v (vI (wireOf k))) [] := by
 have hN : bigN = 274877906944 := rfl
 refine fun_ofw Tryz.func96 (by kernel_rfl) (by kernel_rfl) (w := let z1 := vI (wireOf k); let z2 := ([] : List Blk); (.seg [.call [] (.v (vB (kindOk k))) []] (.br (.leaf () []) (.br (.leaf () []) (.br (.leaf () []) (.seg [.call [] (.v (vB (numeric k))) []] (.br (.leaf () []) (.leaf () [])))))), (Fun Tryz.prog 102 [vI k] [] (.v (vB (kindOk k))) []) ∧ ((!(kindOk k)) = true → (.v (vI (-1)) : S) = .v z1 ∧ z2 = []) ∧ ((!(kindOk k)) = false → ((decide (k = 4)) = true → (.v (vI 5) : S) = .v z1 ∧ z2 = []) ∧ ((decide (k = 4)) = false → ((decide (k = 5)) = true → (.v (vI 1) : S) = .v z1 ∧ z2 = []) ∧ ((decide (k = 5)) = false → (Fun Tryz.prog 92 [vI k] [] (.v (vB (numeric k))) []) ∧ ((numeric k) = true → (.v (vI 0) : S) = .v z1 ∧ z2 = []) ∧ ((numeric k) = false → (.v (vI 2) : S) = .v z1 ∧ z2 = [])))))) (by kernel_rfl) ?_
 refine ⟨(kindOk_s _), fun h1 => have q1 := bnot_t h1; have p1 := within_f q1; ?_, fun h1 => have q1 := bnot_f h1; have p1 := within_t q1; ?_⟩
 refine ⟨(sI ?_), rfl⟩
 rotate_left
 refine dsp (fun h2 p2 => ?_) fun h2 p2 => ?_
 refine ⟨(sI ?_), rfl⟩
 rotate_left
 refine dsp (fun h3 p3 => ?_) fun h3 p3 => ?_
 refine ⟨(sI ?_), rfl⟩
 rotate_left
 refine ⟨(numeric_s _), fun h4 => have p4 := within_t h4; ?_, fun h4 => have p4 := within_f h4; ?_⟩
 refine ⟨(sI ?_), rfl⟩
 rotate_left
 refine ⟨(sI ?_), rfl⟩
 rotate_left
 all_goals first | (simp [wireOf, *] <;> (repeat' split) <;> omega) | (subst_vars; rfl)
theorem widthOf_i (w : Int) : Fun Tryz.prog 70 [vI w] [] (.v (vI (widthOf w))) [] := by
 have hN : bigN = 274877906944 := rfl
 refine fun_ofw Tryz.func70 (by kernel_rfl) (by kernel_rfl) (w := (.br (.leaf () []) (.br (.leaf () []) (.leaf () [])), ((decide (w = 1)) = true → (.v (vI 8) : S) = .v (vI (widthOf w)) ∧ ([] : List Blk) = []) ∧ ((decide (w = 1)) = false → ((decide (w = 5)) = true → (.v (vI 4) : S) = .v (vI (widthOf w)) ∧ ([] : List Blk) = []) ∧ ((decide (w = 5)) = false → (.v (vI 0) : S) = .v (vI (widthOf w)) ∧ ([] : List Blk) = [])))) (by kernel_rfl) ?_
 refine dsp (fun h1 p1 => ?_) fun h1 p1 => ?_
 exact ⟨(congrArg S.v (congrArg V.c (congrArg (C.int .i64) (by simp [widthOf, *])))), rfl⟩
 refine dsp (fun h2 p2 => ?_) fun h2 p2 => ?_
 exact ⟨(congrArg S.v (congrArg V.c (congrArg (C.int .i64) (by simp [widthOf, *])))), rfl⟩
 exact ⟨(congrArg S.v (congrArg V.c (congrArg (C.int .i64) (by simp [widthOf, *])))), rfl⟩
theorem widthOf_s (w : Int) : Fun Tryz.prog 95 [vI w] [] (.v (vI (widthOf w))) [] := by
 have hN : bigN = 274877906944 := rfl
 refine fun_ofw Tryz.func95 (by kernel_rfl) (by kernel_rfl) (w := (.br (.leaf () []) (.br (.leaf () []) (.leaf () [])), ((decide (w = 1)) = true → (.v (vI 8) : S) = .v (vI (widthOf w)) ∧ ([] : List Blk) = []) ∧ ((decide (w = 1)) = false → ((decide (w = 5)) = true → (.v (vI 4) : S) = .v (vI (widthOf w)) ∧ ([] : List Blk) = []) ∧ ((decide (w = 5)) = false → (.v (vI 0) : S) = .v (vI (widthOf w)) ∧ ([] : List Blk) = [])))) (by kernel_rfl) ?_
 refine dsp (fun h1 p1 => ?_) fun h1 p1 => ?_
 exact ⟨(congrArg S.v (congrArg V.c (congrArg (C.int .i64) (by simp [widthOf, *])))), rfl⟩
 refine dsp (fun h2 p2 => ?_) fun h2 p2 => ?_
 exact ⟨(congrArg S.v (congrArg V.c (congrArg (C.int .i64) (by simp [widthOf, *])))), rfl⟩
 exact ⟨(congrArg S.v (congrArg V.c (congrArg (C.int .i64) (by simp [widthOf, *])))), rfl⟩
theorem runs_i (f : Fld) : Fun Tryz.prog 68 [.agg (cFld f)] [] (.v (vB (runs f))) [] := by
 have hN : bigN = 274877906944 := rfl
 refine fun_ofw Tryz.func68 (by kernel_rfl) (by kernel_rfl) (w := let z1 := vB (numeric f.kind); (.br (.seg [.call [] (.v z1) []] (.leaf () [])) (.leaf () []), (f.rep = true → (Fun Tryz.prog 85 [vI f.kind] [] (.v z1) []) ∧ (.v z1 : S) = .v (vB (runs f)) ∧ ([] : List Blk) = []) ∧ (f.rep = false → (.v (vB false) : S) = .v (vB (runs f)) ∧ ([] : List Blk) = []))) (by kernel_rfl) ?_
 refine ⟨fun h1 => ?_, fun h1 => ?_⟩
 exact ⟨(numeric_i _), (congrArg S.v (congrArg V.c (congrArg C.bool (by simp [runs, *])))), rfl⟩
 exact ⟨(congrArg S.v (congrArg V.c (congrArg C.bool (by simp [runs, *])))), rfl⟩
theorem runs_s (f : Fld) : Fun Tryz.prog 99 [.agg (cFld f)] [] (.v (vB (runs f))) [] := by
 have hN : bigN = 274877906944 := rfl
 refine fun_ofw Tryz.func99 (by kernel_rfl) (by kernel_rfl) (w := let z1 := vB (numeric f.kind); (.br (.seg [.call [] (.v z1) []] (.leaf () [])) (.leaf () []), (f.rep = true → (Fun Tryz.prog 92 [vI f.kind] [] (.v z1) []) ∧ (.v z1 : S) = .v (vB (runs f)) ∧ ([] : List Blk) = []) ∧ (f.rep = false → (.v (vB false) : S) = .v (vB (runs f)) ∧ ([] : List Blk) = []))) (by kernel_rfl) ?_
 refine ⟨fun h1 => ?_, fun h1 => ?_⟩
 exact ⟨(numeric_s _), (congrArg S.v (congrArg V.c (congrArg C.bool (by simp [runs, *])))), rfl⟩
 exact ⟨(congrArg S.v (congrArg V.c (congrArg C.bool (by simp [runs, *])))), rfl⟩
theorem allowed_i (f : Fld) (w : Int) (hp1 : (0 : Int) ≤ w) : Fun Tryz.prog 69 [.agg (cFld f), vI w] [] (.v (vB (allowed f w))) [] := by
 have hN : bigN = 274877906944 := rfl
 refine fun_ofw Tryz.func69 (by kernel_rfl) (by kernel_rfl) (w := let z1 := vB (allowed f w); (.seg [.call [] (.v (vI (wireOf f.kind))) []] (.br (.leaf () []) (.br (.seg [.call [] (.v (vB (runs f))) []] (.leaf () [])) (.leaf () []))), (Fun Tryz.prog 88 [vI f.kind] [] (.v (vI (wireOf f.kind))) []) ∧ ((decide (w = wireOf f.kind)) = true → (.v (vB true) : S) = .v z1 ∧ ([] : List Blk) = []) ∧ ((decide (w = wireOf f.kind)) = false → ((decide (w = 2)) = true → (Fun Tryz.prog 68 [.agg (cFld f)] [] (.v (vB (runs f))) []) ∧ (.v (vB (runs f)) : S) = .v z1 ∧ ([] : List Blk) = []) ∧ ((decide (w = 2)) = false → (.v (vB false) : S) = .v z1 ∧ ([] : List Blk) = [])))) (by kernel_rfl) ?_
 refine ⟨(wireOf_i _), dsp (fun h1 p1 => ?_) fun h1 p1 => ?_⟩
 refine ⟨(sB ?_), rfl⟩
 rotate_left
 refine dsp (fun h2 p2 => ?_) fun h2 p2 => ?_
 refine ⟨(runs_i f), (sB ?_), rfl⟩
 rotate_left
 refine ⟨(sB ?_), rfl⟩
 rotate_left
 all_goals first | (simp [allowed, *] <;> (repeat' split) <;> omega) | (simp [allowed, wireOf, *] <;> (repeat' split) <;> omega)
structure Raw where
 msgs : List Shp
structure Vio where
 code : Int
 msg : Int
 field : Int
structure FldG (ids : List Int) (f : Fld) : Prop where
 num : numberOk f.number = true
 kd : 1 ≤ f.kind ∧ f.kind ≤ 8
 pk : f.packed = true → f.rep = true ∧ f.kind ≤ 5
 ref : f.kind = 8 → f.msg ∈ ids
 no : f.kind ≠ 8 → f.msg = 0
def nums (fs : List Fld) : List Int := fs.map fun f => f.number
def idsOf (l : List Shp) : List Int := l.map fun m => m.id
def hasId (l : List Shp) (id : Int) : Bool := l.any fun m => decide (m.id = id)
def hasNum (l : List Fld) (n : Int) : Bool := l.any fun f => decide (f.number = n)
structure FldsG (ids : List Int) (fs : List Fld) : Prop where
 len : fs.length ≤ 5
 num : (nums fs).Nodup
 all : ∀ f ∈ fs, FldG ids f
structure RawK (n : Nat) (l : List Shp) : Prop where
 len : l.length = n
 pos : 1 ≤ n ∧ n ≤ 3
 ids : idsOf l = [5, 1, 99].take n
 flds : ∀ m ∈ l, FldsG (idsOf l) m.fields
theorem hasNum_f {l : List Fld} {n : Int} : hasNum l n = false ↔ ∀ f ∈ l, f.number ≠ n := by
 simp [hasNum]
theorem hasId_t {l : List Shp} {x : Int} : hasId l x = true ↔ x ∈ idsOf l := by
 simp [hasId, idsOf]
theorem nodup_take {l : List Int} (h : l.Nodup) {i : Nat} {x : Int} (hx : l[i]? = some x) : x ∉ l.take i := by
 intro hm
 obtain ⟨j, hj, he⟩ := List.mem_take_iff_getElem.1 hm
 have hi := (List.getElem?_eq_some_iff.1 hx)
 obtain ⟨hi1, hi2⟩ := hi
 exact List.pairwise_iff_getElem.1 h j i (by omega) hi1 (by omega) (by rw [hi2, he])
theorem RawK.nodup {n : Nat} {l : List Shp} (h : RawK n l) : (idsOf l).Nodup := by
 rw [h.ids]
 have h2 := h.pos
 have : n = 1 ∨ n = 2 ∨ n = 3 := by omega
 rcases this with rfl | rfl | rfl <;> decide
theorem RawK.noId {n : Nat} {l : List Shp} (h : RawK n l) {i : Nat} {m : Shp} (hm : l[i]? = some m) : hasId (l.take i) m.id = false := by
 cases hc : hasId (l.take i) m.id with
 | false => rfl
 | true =>
  have := hasId_t.1 hc
  unfold idsOf at this
  rw [List.map_take] at this
  exact absurd this (nodup_take (l := idsOf l) h.nodup (by unfold idsOf; rw [List.getElem?_map, hm]; rfl))
theorem FldsG.noNum {ids : List Int} {fs : List Fld} (h : FldsG ids fs) {i : Nat} {f : Fld} (hf : fs[i]? = some f) : hasNum (fs.take i) f.number = false := by
 rw [hasNum_f]
 intro g hg he
 have : f.number ∈ (nums fs).take i := by
  unfold nums
  rw [← List.map_take]
  exact List.mem_map.2 ⟨g, hg, he⟩
 exact absurd this (nodup_take (l := nums fs) h.num (by unfold nums; rw [List.getElem?_map, hf]; rfl))
theorem RawK.id_ok {n : Nat} {l : List Shp} (h : RawK n l) {m : Shp} (hm : m ∈ l) : 1 ≤ m.id ∧ m.id ≤ 99 := by
 have hx : m.id ∈ idsOf l := List.mem_map.2 ⟨m, hm, rfl⟩
 rw [h.ids] at hx
 have := List.mem_of_mem_take hx
 simp at this
 omega
theorem ids_set {l : List Shp} {i : Nat} {m : Shp} {fs : List Fld} (h : l[i]? = some m) : idsOf (l.set i ⟨m.id, fs⟩) = idsOf l := by
 unfold idsOf
 apply List.ext_getElem?
 intro j
 rw [List.getElem?_map, List.getElem?_map, List.getElem?_set]
 split
 ·rename_i hij
  subst hij
  have hl := (List.getElem?_eq_some_iff.1 h).1
  rw [if_pos hl, h]
  rfl
 ·rfl
theorem nums_app (fs : List Fld) (f : Fld) : nums (fs ++ [f]) = nums fs ++ [f.number] := by simp [nums]
theorem RawK.add {n : Nat} {l : List Shp} (h : RawK n l) {i : Nat} {m : Shp} {f : Fld} (hm : l[i]? = some m) (hf : FldG (idsOf l) f) (hn : hasNum m.fields f.number = false) (hk : m.fields.length ≤ 4) : RawK n (l.set i ⟨m.id, m.fields ++ [f]⟩) := by
 have hM := h.flds m (List.mem_of_getElem? hm)
 refine ⟨by rw [List.length_set]; exact h.len, h.pos, by rw [ids_set hm]; exact h.ids, fun x hx => ?_⟩
 rw [ids_set hm]
 rcases List.mem_or_eq_of_mem_set hx with hx | rfl
 ·exact h.flds x hx
 ·refine ⟨by rw [List.length_append]; simp; omega, ?_, fun g hg => ?_⟩
  ·show (nums (m.fields ++ [f])).Nodup
   rw [nums_app, List.nodup_append]
   refine ⟨hM.num, by simp, fun a ha b hb => ?_⟩
   simp at hb
   subst hb
   intro e
   subst e
   obtain ⟨g, hg, he⟩ := List.mem_map.1 ha
   exact hasNum_f.1 hn g hg he
  ·rcases List.mem_append.1 hg with hg | hg
   ·exact hM.all g hg
   ·simp at hg; subst hg; exact hf
def rank (l : List Shp) (id : Int) : Nat := (l.filter fun m => decide (m.id < id)).length
theorem rank_take {l : List Shp} {i : Nat} {m : Shp} {id : Int} (h : l[i]? = some m) : rank (l.take (i + 1)) id = rank (l.take i) id + (if m.id < id then 1 else 0) := by
 have ht : l.take (i + 1) = l.take i ++ [m] := by rw [List.take_add_one, h]; rfl
 unfold rank
 rw [ht, List.filter_append, List.length_append]
 split <;> simp [*]
theorem rank_le (l : List Shp) (id : Int) : rank l id ≤ l.length := List.length_filter_le _ _
theorem rank_lt {l : List Shp} {id : Int} (h : id ∈ idsOf l) : rank l id < l.length := by
 obtain ⟨m, hm, rfl⟩ := List.mem_map.1 h
 unfold rank
 rcases Nat.lt_or_ge (l.filter fun x => decide (x.id < m.id)).length l.length with h | h
 ·exact h
 ·have := List.length_filter_eq_length_iff.1 (Nat.le_antisymm (List.length_filter_le _ _) h) m hm
  simp at this
def ShpG (n : Nat) (fs : List Fld) : Prop := fs.length ≤ 5 ∧ ∀ f ∈ fs, 1 ≤ f.kind ∧ f.kind ≤ 8 ∧ (f.kind = 8 → 0 ≤ f.msg ∧ f.msg < (n : Int))
def SchG (l : List Shp) : Prop := (1 ≤ l.length ∧ l.length ≤ 3) ∧ ∀ e ∈ l, ShpG l.length e.fields
structure PlnG (p : Pln) : Prop where
 sch : SchG p.shapes
 root : 0 ≤ p.root ∧ p.root < (p.shapes.length : Int)
 deep : 1 ≤ p.deep ∧ p.deep ≤ 4
 most : 0 ≤ p.most ∧ p.most ≤ 2000
def PlnB (p : Pln) : Prop := p.shapes.length ≤ 7 ∧ ∀ e ∈ p.shapes, e.fields.length ≤ 6
theorem PlnG.b {p : Pln} (h : PlnG p) : PlnB p := ⟨by have := h.sch.1; omega, fun e he => by have := (h.sch.2 e he).1; omega⟩
theorem take_add1 {α : Type} {l : List α} {i : Nat} {x : α} (h : l[i]? = some x) : l.take (i + 1) = l.take i ++ [x] := by rw [List.take_add_one, h]; rfl
theorem hasId_take {l : List Shp} {i : Nat} {m : Shp} {id : Int} (h : l[i]? = some m) : hasId (l.take (i + 1)) id = (hasId (l.take i) id || decide (m.id = id)) := by
 rw [take_add1 h]; simp [hasId]
theorem hasNum_take {l : List Fld} {i : Nat} {f : Fld} {n : Int} (h : l[i]? = some f) : hasNum (l.take (i + 1)) n = (hasNum (l.take i) n || decide (f.number = n)) := by
 rw [take_add1 h]; simp [hasNum]
theorem hasId_here {l : List Shp} {i : Nat} {m : Shp} {id : Int} {k : Nat} (h : l[i]? = some m) (hi : i < k) (he : m.id = id) : hasId (l.take k) id = true := by
 rw [hasId, List.any_eq_true]
 exact ⟨m, List.mem_of_getElem? (by rw [List.getElem?_take, if_pos hi]; exact h), by simpa using he⟩
theorem hasNum_here {l : List Fld} {i : Nat} {f : Fld} {n : Int} (h : l[i]? = some f) (he : f.number = n) : hasNum l n = true := by
 rw [hasNum, List.any_eq_true]
 exact ⟨f, List.mem_of_getElem? h, by simpa using he⟩
structure hasId_s_V0 where
 i : Nat
def hasId_s_F0 (r : Raw) (id : Int) (n : Int) : Fam := ⟨hasId_s_V0, fun q1 => [(1, .v (vI id)), (2, .v (vI n)), (3, .v (vP 0)), (7, .v (vI ((q1.i : Nat) : Int)))], fun _ => [.cells [.seq .shp r.msgs]], fun q1 => ((q1.i : Nat) : Int) ≤ n ∧ hasId (List.take q1.i r.msgs) id = false, fun q1 => Int.toNat n - q1.i⟩
theorem hasId_s (r : Raw) (id : Int) (n : Int) (hp1 : (0 : Int) ≤ n ∧ n ≤ ((List.length (r).msgs : Nat) : Int)) (hp2 : List.length (r).msgs ≤ 1000) : Fun Tryz.prog 108 [.agg [.seq .shp r.msgs], vI id, vI n] [] (.v (vB (hasId (List.take (Int.toNat n) (r).msgs) id))) [] := by
 have hN : bigN = 274877906944 := rfl
 refine fun_ofw Tryz.func108 (by kernel_rfl) (by kernel_rfl) (w := let z2 := hasId_s_F0 r id n; let z3 := vB (hasId (List.take (Int.toNat n) (r).msgs) id); (.seg [.at 0, .keep [1, 2, 3, 7], .sel [0]] (.loop z2 fun q1 => .br (.intro (fun (x1 : Shp) => r.msgs[q1.i]? = some x1) fun x1 => .seg [.el .shp x1] (.br (.leaf () []) (.seg [.as 12 (.v (vI (((q1.i : Nat) : Int) + 1))), .at 0, .keep [1, 2, 3, 7], .sel [0]] (.next)))) (.leaf () [])), z2.Has [(1, .v (vI id)), (2, .v (vI n)), (3, .v (vP 0)), (7, .v (vI 0))] [.cells [.seq .shp r.msgs]] ∧ ∀ q1, z2.inv q1 → (let z1 := ((q1.i : Nat) : Int); ((decide (z1 < n)) = true → (∃ (x1 : Shp), r.msgs[q1.i]? = some x1) ∧ ∀ (x1 : Shp), (r.msgs[q1.i]? = some x1) → ((r.msgs[q1.i]? = some x1) ∧ ((0 : Int) ≤ z1) ∧ ((decide (x1.id = id)) = true → (.v (vB true) : S) = .v z3 ∧ ([] : List Blk) = []) ∧ ((decide (x1.id = id)) = false → ((.v (vI (IntKind.i64.wrap (z1 + 1))) : S) = .v (vI (z1 + 1))) ∧ z2.Nxt q1 [(1, .v (vI id)), (2, .v (vI n)), (3, .v (vP 0)), (7, .v (vI (z1 + 1)))] [.cells [.seq .shp r.msgs]]))) ∧ ((decide (z1 < n)) = false → (.v (vB false) : S) = .v z3 ∧ ([] : List Blk) = [])))) (by kernel_rfl) ?_
 refine ⟨has_of (j := (⟨0⟩ : hasId_s_V0)) (by first | rfl | simp) rfl (by dsimp only [hasId_s_F0]; exact ⟨by omega, rfl⟩), fun (q1 : hasId_s_V0) hq_q1 => ?_⟩
 have hi_q1 : ((q1.i : Nat) : Int) ≤ n ∧ hasId (List.take q1.i r.msgs) id = false := hq_q1
 obtain ⟨v1, v2⟩ := hi_q1
 refine dsp (fun h1 p1 => ?_) fun h1 p1 => ?_
 refine ⟨(ax_get (l := r.msgs) (i := q1.i) (by omega)), fun x1 hx1 => ?_⟩
 refine ⟨hx1, (by omega), dsp (fun h2 p2 => ?_) fun h2 p2 => ?_⟩
 refine ⟨(sB ?_), rfl⟩
 rotate_left
 exact ⟨(as_i64 (by omega) (by omega)), nxt_of (j := (⟨q1.i + 1⟩ : hasId_s_V0)) (by first | rfl | simp) rfl (by dsimp only [hasId_s_F0]; exact ⟨by omega, by rw [hasId_take hx1, v2]; simpa using by assumption⟩) (by dsimp only [hasId_s_F0]; omega)⟩
 have hin : Int.toNat n = q1.i := by omega
 refine ⟨(sB ?_), rfl⟩
 rotate_left
 all_goals first | ((rw [hin, v2]; done)) | ((rw [hasId_here hx1 (by omega) (by assumption)]; done)) | (grind)
structure hasNum_s_V0 where
 i : Nat
def hasNum_s_F0 (l : List Fld) (n : Int) : Fam := ⟨hasNum_s_V0, fun q1 => [(0, .v (.c (.seq .fld l))), (1, .v (vI n)), (5, .v (vI ((q1.i : Nat) : Int)))], fun _ => [], fun q1 => q1.i ≤ List.length l ∧ hasNum (List.take q1.i l) n = false, fun q1 => List.length l - q1.i⟩
theorem hasNum_s (l : List Fld) (n : Int) (hp1 : List.length l ≤ 1000) : Fun Tryz.prog 93 [.c (.seq .fld l), vI n] [] (.v (vB (hasNum l n))) [] := by
 have hN : bigN = 274877906944 := rfl
 refine fun_ofw Tryz.func93 (by kernel_rfl) (by kernel_rfl) (w := let z2 := hasNum_s_F0 l n; (.seg [.at 0, .keep [0, 1, 5], .sel []] (.loop z2 fun q1 => .br (.intro (fun (x1 : Fld) => l[q1.i]? = some x1) fun x1 => .seg [.el .fld x1] (.br (.leaf () []) (.seg [.as 11 (.v (vI (((q1.i : Nat) : Int) + 1))), .at 0, .keep [0, 1, 5], .sel []] (.next)))) (.leaf () [])), z2.Has [(0, .v (.c (.seq .fld l))), (1, .v (vI n)), (5, .v (vI 0))] [] ∧ ∀ q1, z2.inv q1 → (let z1 := ((q1.i : Nat) : Int); ((decide (z1 < ((List.length l : Nat) : Int))) = true → (∃ (x1 : Fld), l[q1.i]? = some x1) ∧ ∀ (x1 : Fld), (l[q1.i]? = some x1) → ((l[q1.i]? = some x1) ∧ ((0 : Int) ≤ z1) ∧ ((decide (x1.number = n)) = true → (.v (vB true) : S) = .v (vB (hasNum l n)) ∧ ([] : List Blk) = []) ∧ ((decide (x1.number = n)) = false → ((.v (vI (IntKind.i64.wrap (z1 + 1))) : S) = .v (vI (z1 + 1))) ∧ z2.Nxt q1 [(0, .v (.c (.seq .fld l))), (1, .v (vI n)), (5, .v (vI (z1 + 1)))] []))) ∧ ((decide (z1 < ((List.length l : Nat) : Int))) = false → (.v (vB false) : S) = .v (vB (hasNum l n)) ∧ ([] : List Blk) = [])))) (by kernel_rfl) ?_
 refine ⟨has_of (j := (⟨0⟩ : hasNum_s_V0)) (by first | rfl | simp) rfl (by dsimp only [hasNum_s_F0]; exact ⟨by omega, rfl⟩), fun (q1 : hasNum_s_V0) hq_q1 => ?_⟩
 have hi_q1 : q1.i ≤ List.length l ∧ hasNum (List.take q1.i l) n = false := hq_q1
 obtain ⟨v1, v2⟩ := hi_q1
 refine dsp (fun h1 p1 => ?_) fun h1 p1 => ?_
 refine ⟨(ax_get (l := l) (i := q1.i) (by omega)), fun x1 hx1 => ?_⟩
 refine ⟨hx1, (by omega), dsp (fun h2 p2 => ?_) fun h2 p2 => ?_⟩
 refine ⟨(sB ?_), rfl⟩
 rotate_left
 exact ⟨(as_i64 (by omega) (by omega)), nxt_of (j := (⟨q1.i + 1⟩ : hasNum_s_V0)) (by first | rfl | simp) rfl (by dsimp only [hasNum_s_F0]; exact ⟨by omega, by rw [hasNum_take hx1, v2]; simpa using by assumption⟩) (by dsimp only [hasNum_s_F0]; omega)⟩
 have hin : List.take q1.i l = l := List.take_of_length_le (by omega)
 rw [hin] at v2
 refine ⟨(sB ?_), rfl⟩
 rotate_left
 all_goals first | ((rw [v2]; done)) | ((rw [hasNum_here hx1 (by assumption)]; done)) | (grind)
theorem msgCode_s (r : Raw) (msg : Int) (hp1 : RawK (List.length (r).msgs) (r).msgs) (hp2 : (0 : Int) ≤ msg ∧ msg < ((List.length (r).msgs : Nat) : Int)) : Fun Tryz.prog 103 [.agg [.seq .shp r.msgs], vI msg] [] (.v (vI 0)) [] := by
 have hN : bigN = 274877906944 := rfl
 have hpos := hp1.pos
 refine fun_ofw Tryz.func103 (by kernel_rfl) (by kernel_rfl) (w := let z3 := ((List.length r.msgs : Nat) : Int) - 1; let z4 := within msg 0 z3; let z5 := List.take (Int.toNat msg) (r).msgs; (.seg [.as 10 (.v (vI z3)), .call [] (.v (vB z4)) []] (.br (.leaf () []) (.intro (fun (x1 : Shp) => r.msgs[Int.toNat msg]? = some x1) fun x1 => .seg [.el .shp x1, .call [] (.v (vB (within x1.id 1 99))) []] (.br (.leaf () []) (.seg [.call [] (.v (vB (hasId z5 x1.id))) [], .br false, .br false] (.leaf () []))))), ((.v (vI (IntKind.i64.wrap z3)) : S) = .v (vI z3)) ∧ (Fun Tryz.prog 57 [vI msg, vI 0, vI z3] [] (.v (vB z4)) []) ∧ ((!z4) = true → (.v (vI 0) : S) = .v (vI 0) ∧ ([] : List Blk) = []) ∧ ((!z4) = false → (∃ (x1 : Shp), r.msgs[Int.toNat msg]? = some x1) ∧ ∀ (x1 : Shp), (r.msgs[Int.toNat msg]? = some x1) → (let z1 := hasId z5 x1.id; let z2 := within x1.id 1 99; (r.msgs[Int.toNat msg]? = some x1) ∧ ((0 : Int) ≤ msg) ∧ (Fun Tryz.prog 57 [vI x1.id, vI 1, vI 99] [] (.v (vB z2)) []) ∧ ((!z2) = true → (.v (vI 2) : S) = .v (vI 0) ∧ ([] : List Blk) = []) ∧ ((!z2) = false → (Fun Tryz.prog 108 [.agg [.seq .shp r.msgs], vI x1.id, vI msg] [] (.v (vB z1)) []) ∧ (z1 = false) ∧ ((decide (8 < ((List.length x1.fields : Nat) : Int))) = false) ∧ (.v (vI 0) : S) = .v (vI 0) ∧ ([] : List Blk) = []))))) (by kernel_rfl) ?_
 refine ⟨(as_i64 (by omega) (by omega)), (within_s _ _ _), fun h1 => have q1 := bnot_t h1; have p1 := within_f q1; ?_, fun h1 => have q1 := bnot_f h1; have p1 := within_t q1; ?_⟩
 exact ⟨rfl, rfl⟩
 refine ⟨(ax_get (l := r.msgs) (i := Int.toNat msg) (by omega)), fun x1 hx1 => ?_⟩
 have hid := hp1.id_ok (List.mem_of_getElem? hx1)
 have hfl := (hp1.flds _ (List.mem_of_getElem? hx1)).len
 have hno := hp1.noId hx1
 refine ⟨hx1, (by omega), (within_s _ _ _), fun h2 => have q2 := bnot_t h2; have p2 := within_f q2; ?_, fun h2 => have q2 := bnot_f h2; have p2 := within_t q2; ?_⟩
 refine ⟨(sI ?_), rfl⟩
 rotate_left
 exact ⟨(hasId_s r _ _ (by omega) (by omega)), hno, (decide_eq_false (by omega)), rfl, rfl⟩
 all_goals first | (rfl) | ((exfalso; omega)) | ((exfalso; simp_all; done)) | (grind)
theorem fieldCode_s (r : Raw) (msg : Int) (field : Int) (hp1 : RawK (List.length (r).msgs) (r).msgs) (hp2 : (0 : Int) ≤ msg ∧ msg < ((List.length (r).msgs : Nat) : Int)) (hp3 : ∀ m, (r).msgs[Int.toNat msg]? = some m → (0 : Int) ≤ field ∧ field < ((List.length m.fields : Nat) : Int)) : Fun Tryz.prog 104 [.agg [.seq .shp r.msgs], vI msg, vI field] [] (.v (vI 0)) [] := by
 have hN : bigN = 274877906944 := rfl
 have hpos := hp1.pos
 refine fun_ofw Tryz.func104 (by kernel_rfl) (by kernel_rfl) (w := let z12 := ((List.length r.msgs : Nat) : Int); let z13 := ([] : List Blk); let z14 := within msg 0 (z12 - 1); let z15 := (.v (vI 0) : S); let z16 := List.take (Int.toNat z12) (r).msgs; let z17 := (0 : Int) ≤ field; (.seg [.as 13 (.v (vI (z12 - 1))), .call [] (.v (vB z14)) []] (.br (.leaf () []) (.intro (fun (x1 : Shp) => r.msgs[Int.toNat msg]? = some x1) fun x1 => let z8 := ((List.length x1.fields : Nat) : Int) - 1; .seg [.el .shp x1, .as 25 (.v (vI z8)), .call [] (.v (vB (within field 0 z8))) []] (.br (.leaf () []) (.seg [.el .shp x1] (.intro (fun (x2 : Fld) => x1.fields[Int.toNat field]? = some x2) fun x2 => let z1 := vB (hasId z16 x2.msg); .seg [.el .fld x2, .call [] (.v (vB (numberOk x2.number))) []] (.br (.leaf () []) (.seg [.ord (os 7 [5]) [], .call [] (.v (vB (hasNum (List.take (Int.toNat field) x1.fields) x2.number))) [], .br false, .call [] (.v (vB (kindOk x2.kind))) []] (.br (.leaf () []) (.br (.br (.leaf () []) (.seg [.call [] (.v (vB (numeric x2.kind))) []] (.br (.leaf () []) (.br (.seg [.call [] (.v z1) []] (.br (.leaf () []) (.br (.br (.leaf () []) (.leaf () [])) (.leaf () [])))) (.br (.br (.leaf () []) (.leaf () [])) (.leaf () [])))))) (.br (.seg [.call [] (.v z1) []] (.br (.leaf () []) (.br (.br (.leaf () []) (.leaf () [])) (.leaf () [])))) (.br (.br (.leaf () []) (.leaf () [])) (.leaf () [])))))))))))), ((.v (vI (IntKind.i64.wrap (z12 - 1))) : S) = .v (vI (z12 - 1))) ∧ (Fun Tryz.prog 57 [vI msg, vI 0, vI (z12 - 1)] [] (.v (vB z14)) []) ∧ ((!z14) = true → z15 = .v (vI 0) ∧ z13 = []) ∧ ((!z14) = false → (∃ (x1 : Shp), r.msgs[Int.toNat msg]? = some x1) ∧ ∀ (x1 : Shp), (r.msgs[Int.toNat msg]? = some x1) → (let z9 := ((List.length x1.fields : Nat) : Int); let z10 := List.take (Int.toNat field) x1.fields; let z11 := r.msgs[Int.toNat msg]? = some x1; z11 ∧ ((0 : Int) ≤ msg) ∧ ((.v (vI (IntKind.i64.wrap (z9 - 1))) : S) = .v (vI (z9 - 1))) ∧ (Fun Tryz.prog 57 [vI field, vI 0, vI (z9 - 1)] [] (.v (vB (within field 0 (z9 - 1)))) []) ∧ ((!(within field 0 (z9 - 1))) = true → z15 = .v (vI 0) ∧ z13 = []) ∧ ((!(within field 0 (z9 - 1))) = false → z11 ∧ ((0 : Int) ≤ msg) ∧ (∃ (x2 : Fld), x1.fields[Int.toNat field]? = some x2) ∧ ∀ (x2 : Fld), (x1.fields[Int.toNat field]? = some x2) → (let z2 := (!decide (x2.kind = 8)) = true → ((!decide (x2.msg = 0)) = true → (.v (vI 9) : S) = .v (vI 0) ∧ z13 = []) ∧ ((!decide (x2.msg = 0)) = false → z15 = .v (vI 0) ∧ z13 = []); let z3 := hasId z16 x2.msg; let z4 := (!decide (x2.kind = 8)) = false → z15 = .v (vI 0) ∧ z13 = []; let z5 := decide (x2.kind = 8); let z6 := hasNum z10 x2.number; let z7 := numberOk x2.number; (x1.fields[Int.toNat field]? = some x2) ∧ z17 ∧ (Fun Tryz.prog 101 [vI x2.number] [] (.v (vB z7)) []) ∧ ((!z7) = true → (.v (vI 5) : S) = .v (vI 0) ∧ z13 = []) ∧ ((!z7) = false → (field ≤ z9) ∧ z17 ∧ (field ≤ z9) ∧ z17 ∧ (Fun Tryz.prog 93 [.c (.seq .fld z10), vI x2.number] [] (.v (vB z6)) []) ∧ (z6 = false) ∧ (Fun Tryz.prog 102 [vI x2.kind] [] (.v (vB (kindOk x2.kind))) []) ∧ ((!(kindOk x2.kind)) = true → (.v (vI 7) : S) = .v (vI 0) ∧ z13 = []) ∧ ((!(kindOk x2.kind)) = false → (x2.packed = true → ((!x2.rep) = true → (.v (vI 8) : S) = .v (vI 0) ∧ z13 = []) ∧ ((!x2.rep) = false → (Fun Tryz.prog 92 [vI x2.kind] [] (.v (vB (numeric x2.kind))) []) ∧ ((!(numeric x2.kind)) = true → (.v (vI 8) : S) = .v (vI 0) ∧ z13 = []) ∧ ((!(numeric x2.kind)) = false → (z5 = true → (Fun Tryz.prog 108 [.agg [.seq .shp r.msgs], vI x2.msg, vI z12] [] (.v (vB z3)) []) ∧ ((!z3) = true → (.v (vI 9) : S) = .v (vI 0) ∧ z13 = []) ∧ ((!z3) = false → z2 ∧ z4)) ∧ (z5 = false → z2 ∧ z4)))) ∧ (x2.packed = false → (z5 = true → (Fun Tryz.prog 108 [.agg [.seq .shp r.msgs], vI x2.msg, vI z12] [] (.v (vB z3)) []) ∧ ((!z3) = true → (.v (vI 9) : S) = .v (vI 0) ∧ z13 = []) ∧ ((!z3) = false → z2 ∧ z4)) ∧ (z5 = false → z2 ∧ z4)))))))))) (by kernel_rfl) ?_
 refine ⟨(as_i64 (by omega) (by omega)), (within_s _ _ _), fun h1 => have q1 := bnot_t h1; have p1 := within_f q1; ?_, fun h1 => have q1 := bnot_f h1; have p1 := within_t q1; ?_⟩
 exact ⟨rfl, rfl⟩
 refine ⟨(ax_get (l := r.msgs) (i := Int.toNat msg) (by omega)), fun x1 hx1 => ?_⟩
 have hfb := hp3 _ hx1
 have hfg := hp1.flds _ (List.mem_of_getElem? hx1)
 have hfl := hfg.len
 refine ⟨hx1, (by omega), (as_i64 (by omega) (by omega)), (within_s _ _ _), fun h2 => have q2 := bnot_t h2; have p2 := within_f q2; ?_, fun h2 => have q2 := bnot_f h2; have p2 := within_t q2; ?_⟩
 exact ⟨rfl, rfl⟩
 refine ⟨hx1, (by omega), (ax_get (l := x1.fields) (i := Int.toNat field) (by omega)), fun x2 hx2 => ?_⟩
 have hg := hfg.all _ (List.mem_of_getElem? hx2)
 have hnn := hfg.noNum hx2
 have hgk := hg.kd
 have hgm := hg.num
 have hgo : kindOk x2.kind = true := by simp only [kindOk, within, Bool.and_eq_true, decide_eq_true_eq]; omega
 have hgp := hg.pk
 have hgn := hg.no
 refine ⟨hx2, (by omega), (numberOk_s _), fun h3 => have q3 := bnot_t h3; ?_, fun h3 => have q3 := bnot_f h3; ?_⟩
 refine ⟨(sI ?_), rfl⟩
 rotate_left
 refine ⟨(by omega), (by omega), (by omega), (by omega), (hasNum_s _ _ (by simp only [List.length_take]; omega)), hnn, (kindOk_s _), fun h4 => have q4 := bnot_t h4; have p4 := within_f q4; ?_, fun h4 => have q4 := bnot_f h4; have p4 := within_t q4; ?_⟩
 refine ⟨(sI ?_), rfl⟩
 rotate_left
 refine ⟨fun h5 => ?_, fun h5 => ?_⟩
 refine ⟨fun h6 => have q6 := bnot_t h6; ?_, fun h6 => have q6 := bnot_f h6; ?_⟩
 refine ⟨(sI ?_), rfl⟩
 rotate_left
 refine ⟨(numeric_s _), fun h7 => have q7 := bnot_t h7; have p7 := within_f q7; ?_, fun h7 => have q7 := bnot_f h7; have p7 := within_t q7; ?_⟩
 refine ⟨(sI ?_), rfl⟩
 rotate_left
 refine dsp (fun h8 p8 => ?_) fun h8 p8 => ?_
 have hir := (hasId_t (l := r.msgs)).2 (hg.ref (by omega))
 refine ⟨(hasId_s r _ _ (by omega) (by omega)), fun h9 => have q9 := bnot_t h9; ?_, fun h9 => have q9 := bnot_f h9; ?_⟩
 refine ⟨(sI ?_), rfl⟩
 rotate_left
 refine ⟨fun h10 => have q10 := bnot_t h10; have p10 := of_decide_eq_false q10; ?_, fun h10 => have q10 := bnot_f h10; have p10 := of_decide_eq_true q10; ?_⟩
 refine ⟨fun h11 => have q11 := bnot_t h11; have p11 := of_decide_eq_false q11; ?_, fun h11 => have q11 := bnot_f h11; have p11 := of_decide_eq_true q11; ?_⟩
 refine ⟨(sI ?_), rfl⟩
 rotate_left
 exact ⟨rfl, rfl⟩
 exact ⟨rfl, rfl⟩
 refine ⟨fun h9 => have q9 := bnot_t h9; have p9 := of_decide_eq_false q9; ?_, fun h9 => have q9 := bnot_f h9; have p9 := of_decide_eq_true q9; ?_⟩
 refine ⟨fun h10 => have q10 := bnot_t h10; have p10 := of_decide_eq_false q10; ?_, fun h10 => have q10 := bnot_f h10; have p10 := of_decide_eq_true q10; ?_⟩
 refine ⟨(sI ?_), rfl⟩
 rotate_left
 exact ⟨rfl, rfl⟩
 exact ⟨rfl, rfl⟩
 refine dsp (fun h6 p6 => ?_) fun h6 p6 => ?_
 have hir := (hasId_t (l := r.msgs)).2 (hg.ref (by omega))
 refine ⟨(hasId_s r _ _ (by omega) (by omega)), fun h7 => have q7 := bnot_t h7; ?_, fun h7 => have q7 := bnot_f h7; ?_⟩
 refine ⟨(sI ?_), rfl⟩
 rotate_left
 refine ⟨fun h8 => have q8 := bnot_t h8; have p8 := of_decide_eq_false q8; ?_, fun h8 => have q8 := bnot_f h8; have p8 := of_decide_eq_true q8; ?_⟩
 refine ⟨fun h9 => have q9 := bnot_t h9; have p9 := of_decide_eq_false q9; ?_, fun h9 => have q9 := bnot_f h9; have p9 := of_decide_eq_true q9; ?_⟩
 refine ⟨(sI ?_), rfl⟩
 rotate_left
 exact ⟨rfl, rfl⟩
 exact ⟨rfl, rfl⟩
 refine ⟨fun h7 => have q7 := bnot_t h7; have p7 := of_decide_eq_false q7; ?_, fun h7 => have q7 := bnot_f h7; have p7 := of_decide_eq_true q7; ?_⟩
 refine ⟨fun h8 => have q8 := bnot_t h8; have p8 := of_decide_eq_false q8; ?_, fun h8 => have q8 := bnot_f h8; have p8 := of_decide_eq_true q8; ?_⟩
 refine ⟨(sI ?_), rfl⟩
 rotate_left
 exact ⟨rfl, rfl⟩
 exact ⟨rfl, rfl⟩
 all_goals first | (rfl) | ((exfalso; simp_all [numeric, within]; omega)) | ((exfalso; simp_all [numeric, within]; done)) | ((exfalso; omega)) | (grind)
structure first_s_V0 where
 i : Nat
def first_s_F0 (r : Raw) : Fam := ⟨first_s_V0, fun q1 => [(1, .v (vP 0)), (2, .v (vP 1)), (3, .v (vI ((q1.i : Nat) : Int)))], fun _ => [.cells [.seq .shp r.msgs], .cells [.int .i64 0, .int .i64 0, .int .i64 0]], fun q1 => q1.i ≤ List.length r.msgs, fun q1 => List.length r.msgs - q1.i⟩
structure first_s_V1 where
 k : Nat
def first_s_F1 (r : Raw) (q1 : first_s_V0) : Fam := ⟨first_s_V1, fun q2 => [(1, .v (vP 0)), (2, .v (vP 1)), (3, .v (vI ((q1.i : Nat) : Int))), (5, .v (vI ((q2.k : Nat) : Int)))], fun _ => [.cells [.seq .shp r.msgs], .cells [.int .i64 0, .int .i64 0, .int .i64 0]], fun q2 => q2.k ≤ 5, fun q2 => 5 - q2.k⟩
theorem first_s (r : Raw) (hp1 : RawK (List.length (r).msgs) (r).msgs) : Fun Tryz.prog 89 [.agg [.seq .shp r.msgs]] [] (.v (.agg [.int .i64 0, .int .i64 0, .int .i64 0])) [] := by
 have hN : bigN = 274877906944 := rfl
 have hpos := hp1.pos
 refine fun_ofw Tryz.func89 (by kernel_rfl) (by kernel_rfl) (w := let zi : Int → C := .int .i64; let z4 : List Blk := [.cells [.seq .shp r.msgs], .cells [zi 0, zi 0, zi 0]]; let z5 := ((List.length r.msgs : Nat) : Int); let z6 := first_s_F0 r; (.br (.leaf () []) (.seg [.at 0, .keep [1, 2, 3], .sel [0, 1]] (.loop z6 fun q1 => .br (.seg [.call [] (.v (vI 0)) [], .br false, .at 0, .keep [1, 2, 3, 5], .sel [0, 1]] (.loop (first_s_F1 r q1) fun q2 => .intro (fun (x1 : Shp) => r.msgs[q1.i]? = some x1) fun x1 => .seg [.el .shp x1] (.br (.seg [.call [] (.v (vI 0)) [], .br false, .as 36 (.v (vI (((q2.k : Nat) : Int) + 1))), .at 0, .keep [1, 2, 3, 5], .sel [0, 1]] (.next)) (.seg [.as 17 (.v (vI (((q1.i : Nat) : Int) + 1))), .at 0, .keep [1, 2, 3], .sel [0, 1]] (.next))))) (.leaf () []))), ((decide (6 < z5)) = true → (.v (.agg [zi 1, zi 6, zi (-1)]) : S) = .v (.agg [zi 0, zi 0, zi 0]) ∧ ([] : List Blk) = []) ∧ ((decide (6 < z5)) = false → z6.Has [(1, .v (vP 0)), (2, .v (vP 1)), (3, .v (vI 0))] z4 ∧ ∀ q1, z6.inv q1 → (let z3 := ((q1.i : Nat) : Int); ((decide (z3 < z5)) = true → (Fun Tryz.prog 103 [.agg [.seq .shp r.msgs], vI z3] [] (.v (vI 0)) []) ∧ ((!decide (0 = 0)) = false) ∧ (first_s_F1 r q1).Has [(1, .v (vP 0)), (2, .v (vP 1)), (3, .v (vI z3)), (5, .v (vI 0))] z4 ∧ ∀ q2, (first_s_F1 r q1).inv q2 → (let z2 := ((q2.k : Nat) : Int); (∃ (x1 : Shp), r.msgs[q1.i]? = some x1) ∧ ∀ (x1 : Shp), (r.msgs[q1.i]? = some x1) → (let z1 := decide (z2 < ((List.length x1.fields : Nat) : Int)); (r.msgs[q1.i]? = some x1) ∧ ((0 : Int) ≤ z3) ∧ (z1 = true → (Fun Tryz.prog 104 [.agg [.seq .shp r.msgs], vI z3, vI z2] [] (.v (vI 0)) []) ∧ ((!decide (0 = 0)) = false) ∧ ((.v (vI (IntKind.i64.wrap (z2 + 1))) : S) = .v (vI (z2 + 1))) ∧ (first_s_F1 r q1).Nxt q2 [(1, .v (vP 0)), (2, .v (vP 1)), (3, .v (vI z3)), (5, .v (vI (z2 + 1)))] z4) ∧ (z1 = false → ((.v (vI (IntKind.i64.wrap (z3 + 1))) : S) = .v (vI (z3 + 1))) ∧ z6.Nxt q1 [(1, .v (vP 0)), (2, .v (vP 1)), (3, .v (vI (z3 + 1)))] z4)))) ∧ ((decide (z3 < z5)) = false → (.v (.agg [zi 0, zi 0, zi 0]) : S) = .v (.agg [zi 0, zi 0, zi 0]) ∧ ([] : List Blk) = []))))) (by kernel_rfl) ?_
 refine dsp (fun h1 p1 => ?_) fun h1 p1 => ?_
 refine ⟨(congrArg S.v (congrArg V.agg (consE (congrArg (C.int .i64) ?_) (consE (congrArg (C.int .i64) ?_) (consE (congrArg (C.int .i64) ?_) rfl))))), rfl⟩
 rotate_left 3
 refine ⟨has_of (j := (⟨0⟩ : first_s_V0)) (by first | rfl | simp) rfl (by dsimp only [first_s_F0]; omega), fun (q1 : first_s_V0) hq_q1 => ?_⟩
 have hi_q1 : q1.i ≤ List.length r.msgs := hq_q1
 have v1 := hi_q1
 refine dsp (fun h2 p2 => ?_) fun h2 p2 => ?_
 refine ⟨(msgCode_s r _ (by omega) (by omega)), (by decide), has_of (j := (⟨0⟩ : first_s_V1)) (by first | rfl | simp) rfl (by dsimp only [first_s_F1]; omega), fun (q2 : first_s_V1) hq_q2 => ?_⟩
 have hi_q2 : q2.k ≤ 5 := hq_q2
 have w1 := hi_q2
 refine ⟨(ax_get (l := r.msgs) (i := q1.i) (by omega)), fun x1 hx1 => ?_⟩
 have hfl := (hp1.flds _ (List.mem_of_getElem? hx1)).len
 refine ⟨hx1, (by omega), dsp (fun h3 p3 => ?_) fun h3 p3 => ?_⟩
 exact ⟨(fieldCode_s r _ _ (by omega) (by omega) (fun m hm => by (try simp only [Int.toNat_natCast] at hm); rw [hx1] at hm; cases hm; omega)), (by decide), (as_i64 (by omega) (by omega)), nxt_of (j := (⟨q2.k + 1⟩ : first_s_V1)) (by first | rfl | simp) rfl (by dsimp only [first_s_F1]; omega) (by dsimp only [first_s_F1]; omega)⟩
 exact ⟨(as_i64 (by omega) (by omega)), nxt_of (j := (⟨q1.i + 1⟩ : first_s_V0)) (by first | rfl | simp) rfl (by dsimp only [first_s_F0]; omega) (by dsimp only [first_s_F0]; omega)⟩
 exact ⟨rfl, rfl⟩
 all_goals first | (rfl) | ((exfalso; simp_all [numeric, within]; omega)) | ((exfalso; simp_all [numeric, within]; done)) | ((exfalso; omega)) | (grind)
structure rank_s_V0 where
 n : Int
 i : Nat
def rank_s_F0 (r : Raw) (id : Int) : Fam := ⟨rank_s_V0, fun q1 => [(1, .v (vI id)), (2, .v (vP 0)), (5, .v (vI q1.n)), (6, .v (vI ((q1.i : Nat) : Int)))], fun _ => [.cells [.seq .shp r.msgs]], fun q1 => q1.i ≤ List.length r.msgs ∧ q1.n = ((rank (List.take q1.i r.msgs) id : Nat) : Int), fun q1 => List.length r.msgs - q1.i⟩
theorem rank_s (r : Raw) (id : Int) (hp1 : List.length (r).msgs ≤ 1000) : Fun Tryz.prog 90 [.agg [.seq .shp r.msgs], vI id] [] (.v (vI ((rank (r).msgs id : Nat) : Int))) [] := by
 have hN : bigN = 274877906944 := rfl
 refine fun_ofw Tryz.func90 (by kernel_rfl) (by kernel_rfl) (w := let z2 := rank_s_F0 r id; let z3 : List Blk := [.cells [.seq .shp r.msgs]]; let z4 := ((List.length r.msgs : Nat) : Int); (.seg [.at 0, .keep [1, 2, 5, 6], .sel [0]] (.loop z2 fun q1 => .br (.intro (fun (x1 : Shp) => r.msgs[q1.i]? = some x1) fun x1 => .seg [.el .shp x1] (.br (.seg [.as 23 (.v (vI (q1.n + 1))), .as 13 (.v (vI (((q1.i : Nat) : Int) + 1))), .at 0, .keep [1, 2, 5, 6], .sel [0]] (.next)) (.seg [.as 13 (.v (vI (((q1.i : Nat) : Int) + 1))), .at 0, .keep [1, 2, 5, 6], .sel [0]] (.next)))) (.leaf () [])), z2.Has [(1, .v (vI id)), (2, .v (vP 0)), (5, .v (vI 0)), (6, .v (vI 0))] z3 ∧ ∀ q1, z2.inv q1 → (let z1 := ((q1.i : Nat) : Int); ((decide (z1 < z4)) = true → (∃ (x1 : Shp), r.msgs[q1.i]? = some x1) ∧ ∀ (x1 : Shp), (r.msgs[q1.i]? = some x1) → ((r.msgs[q1.i]? = some x1) ∧ ((0 : Int) ≤ z1) ∧ ((decide (x1.id < id)) = true → ((.v (vI (IntKind.i64.wrap (q1.n + 1))) : S) = .v (vI (q1.n + 1))) ∧ ((.v (vI (IntKind.i64.wrap (z1 + 1))) : S) = .v (vI (z1 + 1))) ∧ z2.Nxt q1 [(1, .v (vI id)), (2, .v (vP 0)), (5, .v (vI (q1.n + 1))), (6, .v (vI (z1 + 1)))] z3) ∧ ((decide (x1.id < id)) = false → ((.v (vI (IntKind.i64.wrap (z1 + 1))) : S) = .v (vI (z1 + 1))) ∧ z2.Nxt q1 [(1, .v (vI id)), (2, .v (vP 0)), (5, .v (vI q1.n)), (6, .v (vI (z1 + 1)))] z3))) ∧ ((decide (z1 < z4)) = false → (.v (vI q1.n) : S) = .v (vI ((rank (r).msgs id : Nat) : Int)) ∧ ([] : List Blk) = [])))) (by kernel_rfl) ?_
 refine ⟨has_of (j := (⟨0, 0⟩ : rank_s_V0)) (by first | rfl | simp) rfl (by dsimp only [rank_s_F0]; exact ⟨by omega, by simp [rank]⟩), fun (q1 : rank_s_V0) hq_q1 => ?_⟩
 have hi_q1 : q1.i ≤ List.length r.msgs ∧ q1.n = ((rank (List.take q1.i r.msgs) id : Nat) : Int) := hq_q1
 obtain ⟨v1, v2⟩ := hi_q1
 refine dsp (fun h1 p1 => ?_) fun h1 p1 => ?_
 refine ⟨(ax_get (l := r.msgs) (i := q1.i) (by omega)), fun x1 hx1 => ?_⟩
 have hrk := rank_le (List.take q1.i r.msgs) id
 have hrl : (List.take q1.i r.msgs).length ≤ q1.i := by rw [List.length_take]; omega
 refine ⟨hx1, (by omega), dsp (fun h2 p2 => ?_) fun h2 p2 => ?_⟩
 exact ⟨(as_i64 (by omega) (by omega)), (as_i64 (by omega) (by omega)), nxt_of (j := (⟨q1.n + 1, q1.i + 1⟩ : rank_s_V0)) (by first | rfl | simp) rfl (by dsimp only [rank_s_F0]; exact ⟨by omega, by rw [rank_take hx1]; split <;> omega⟩) (by dsimp only [rank_s_F0]; omega)⟩
 exact ⟨(as_i64 (by omega) (by omega)), nxt_of (j := (⟨q1.n, q1.i + 1⟩ : rank_s_V0)) (by first | rfl | simp) rfl (by dsimp only [rank_s_F0]; exact ⟨by omega, by rw [rank_take hx1]; split <;> omega⟩) (by dsimp only [rank_s_F0]; omega)⟩
 have hin : List.take q1.i r.msgs = r.msgs := List.take_of_length_le (by omega)
 rw [hin] at v2
 refine ⟨(sI ?_), rfl⟩
 rotate_left
 all_goals first | ((rw [v2]; done)) | ((exact v2)) | (omega)
theorem put_mem {l : List Fld} {f g : Fld} {k : Nat} (h : g ∈ (([] ++ List.take k l) ++ [f]) ++ List.drop k l) : g = f ∨ g ∈ l := by
 simp only [List.nil_append, List.mem_append, List.mem_singleton] at h
 rcases h with (h | h) | h
 ·exact .inr (List.mem_of_mem_take h)
 ·exact .inl h
 ·exact .inr (List.mem_of_mem_drop h)
structure put_o_O where
 o : List Fld
structure put_o_V0 where
 k : Nat
def put_o_F0 (l : List Fld) (f : Fld) : Fam := ⟨put_o_V0, fun q1 => [(0, .v (.c (.seq .fld l))), (3, .v (vP 0)), (5, .v (vI ((q1.k : Nat) : Int)))], fun _ => [.cells (cFld f)], fun q1 => q1.k ≤ List.length l, fun q1 => List.length l - q1.k⟩
theorem put_o (l : List Fld) (f : Fld) (hp1 : List.length l ≤ 1000) : ∃ o : put_o_O, ((List.length o.o = List.length l + 1) ∧ (∀ g ∈ o.o, g = f ∨ g ∈ l)) ∧ Fun Tryz.prog 91 [.c (.seq .fld l), .agg (cFld f)] [] (.v (vO 0)) [.lst .fld o.o] := by
 have hN : bigN = 274877906944 := rfl
 refine funs_ofw Tryz.func91 (by kernel_rfl) (by kernel_rfl) (w := let z7 := ((List.length l : Nat) : Int); let z8 := put_o_F0 l f; (.seg [.at 0, .keep [0, 3, 5], .sel [0]] (.loop z8 fun q1 => let z1 := (([] : List Fld) ++ (List.take q1.k l)) ++ [f]; .case (decide (((q1.k : Nat) : Int) < z7)) (.intro (fun (x1 : Fld) => l[q1.k]? = some x1) fun x1 => .seg [.ord (os 14 []) [], .br true, .el .fld x1] (.br (.seg [.as 22 (.v (vI (((q1.k : Nat) : Int) + 1))), .at 0, .keep [0, 3, 5], .sel [0]] (.next)) (.seg [.ty .fld, .ty .fld, .ord [(0, true), (1, true), (4, true), (5, true), (6, true), (2, false), (3, false), (7, false), (8, true)] [2], .ty .fld, .ty .fld, .ty .fld] (.leaf (⟨z1 ++ (List.drop q1.k l)⟩ : put_o_O) [5])))) (.seg [.ord (os 14 []) [], .br false, .ty .fld, .ty .fld, .ord [(0, true), (1, true), (4, true), (5, true), (6, true), (2, false), (3, false), (7, false), (8, true)] [2], .ty .fld, .ty .fld, .ty .fld] (.leaf (⟨z1 ++ (List.drop q1.k l)⟩ : put_o_O) [5]))), z8.Has [(0, .v (.c (.seq .fld l))), (3, .v (vP 0)), (5, .v (vI 0))] [.cells (cFld f)] ∧ ∀ q1, z8.inv q1 → (let z3 := ((q1.k : Nat) : Int); let z4 := ([] : List Fld) ++ (List.take q1.k l); let z2 := (z4 ++ [f]) ++ (List.drop q1.k l); let z5 := List.length ([] : List Fld) + List.length (List.take q1.k l) ≤ bigN; let z6 := List.length (z4 ++ [f]) + List.length (List.drop q1.k l) ≤ bigN; ((decide (z3 < z7)) = true → (∃ (x1 : Fld), l[q1.k]? = some x1) ∧ ∀ (x1 : Fld), (l[q1.k]? = some x1) → (((decide (z3 < z7)) = true) ∧ (l[q1.k]? = some x1) ∧ ((0 : Int) ≤ z3) ∧ (l[q1.k]? = some x1) ∧ ((0 : Int) ≤ z3) ∧ ((decide (x1.number < f.number)) = true → ((.v (vI (IntKind.i64.wrap (z3 + 1))) : S) = .v (vI (z3 + 1))) ∧ z8.Nxt q1 [(0, .v (.c (.seq .fld l))), (3, .v (vP 0)), (5, .v (vI (z3 + 1)))] [.cells (cFld f)]) ∧ ((decide (x1.number < f.number)) = false → (z3 ≤ z7) ∧ ((0 : Int) ≤ z3) ∧ z5 ∧ (z3 ≤ z7) ∧ ((0 : Int) ≤ z3) ∧ (z3 ≤ z7) ∧ ((0 : Int) ≤ z3) ∧ (List.length z4 + List.length [f] ≤ bigN) ∧ z6 ∧ ((List.length z2 = List.length l + 1) ∧ (∀ g ∈ z2, g = f ∨ g ∈ l)) ∧ (.v (vO 0) : S) = .v (vO 0) ∧ ([.lst .fld z2] : List Blk) = [.lst .fld z2]))) ∧ ((decide (z3 < z7)) = false → ((decide (z3 < z7)) = false) ∧ (z3 ≤ z7) ∧ ((0 : Int) ≤ z3) ∧ z5 ∧ (z3 ≤ z7) ∧ ((0 : Int) ≤ z3) ∧ (z3 ≤ z7) ∧ ((0 : Int) ≤ z3) ∧ (List.length z4 + List.length [f] ≤ bigN) ∧ z6 ∧ ((List.length z2 = List.length l + 1) ∧ (∀ g ∈ z2, g = f ∨ g ∈ l)) ∧ (.v (vO 0) : S) = .v (vO 0) ∧ ([.lst .fld z2] : List Blk) = [.lst .fld z2])))) (by kernel_rfl) ?_
 refine ⟨has_of (j := (⟨0⟩ : put_o_V0)) (by first | rfl | simp) rfl (by dsimp only [put_o_F0]; omega), fun (q1 : put_o_V0) hq_q1 => ?_⟩
 have hi_q1 : q1.k ≤ List.length l := hq_q1
 have v1 := hi_q1
 refine dsp (fun h1 p1 => ?_) fun h1 p1 => ?_
 refine ⟨(ax_get (l := l) (i := q1.k) (by omega)), fun x1 hx1 => ?_⟩
 refine ⟨h1, hx1, (by omega), hx1, (by omega), dsp (fun h2 p2 => ?_) fun h2 p2 => ?_⟩
 exact ⟨(as_i64 (by omega) (by omega)), nxt_of (j := (⟨q1.k + 1⟩ : put_o_V0)) (by first | rfl | simp) rfl (by dsimp only [put_o_F0]; omega) (by dsimp only [put_o_F0]; omega)⟩
 exact ⟨(by omega), (by omega), (by simp only [List.length_take, List.length_cons, List.length_nil]; omega), (by omega), (by omega), (by omega), (by omega), (by simp; omega), (by simp; omega), ⟨(by simp; omega), (fun g hg => put_mem hg)⟩, rfl, rfl⟩
 exact ⟨h1, (by omega), (by omega), (by simp only [List.length_take, List.length_cons, List.length_nil]; omega), (by omega), (by omega), (by omega), (by omega), (by simp; omega), (by simp; omega), ⟨(by simp; omega), (fun g hg => put_mem hg)⟩, rfl, rfl⟩
def FldC (n : Nat) (f : Fld) : Prop := 1 ≤ f.kind ∧ f.kind ≤ 8 ∧ (f.kind = 8 → 0 ≤ f.msg ∧ f.msg < (n : Int))
theorem rep_good {n m : Nat} {e : Shp} (h : e ∈ List.replicate m (⟨0, []⟩ : Shp)) : ShpG n e.fields := by
 rw [List.eq_of_mem_replicate h]
 exact ⟨by simp, fun f hf => by cases hf⟩
theorem set_good {n k : Nat} {l : List Shp} {x e : Shp} (h : ∀ e ∈ l, ShpG n e.fields) (hx : ShpG n x.fields) (he : e ∈ l.set k x) : ShpG n e.fields := by
 rcases List.mem_or_eq_of_mem_set he with he | rfl
 ·exact h e he
 ·exact hx
theorem set_same {l : List Shp} {i : Nat} {x : Shp} (h : l[i]? = some x) : l.set i ⟨x.id, x.fields⟩ = l := by
 apply List.ext_getElem?
 intro j
 rw [List.getElem?_set]
 split
 ·rename_i hij
  subst hij
  rw [if_pos (List.getElem?_eq_some_iff.1 h).1, h]
 ·rfl
theorem ids3_next {l : List Shp} {i : Nat} {x : Int} (hl : idsOf l = List.take i [5, 1, 99]) (hi : i < 3) (hx : ([5, 1, 99, 7] : List Int)[i]? = some x) : idsOf (l ++ [⟨x, []⟩]) = List.take (i + 1) [5, 1, 99] := by
 have : idsOf (l ++ [⟨x, []⟩]) = idsOf l ++ [x] := by simp [idsOf]
 rw [this, hl]
 have h3 : i = 0 ∨ i = 1 ∨ i = 2 := by omega
 rcases h3 with rfl | rfl | rfl <;> simp at hx <;> subst hx <;> rfl
theorem raw_start {n : Nat} {l : List Shp} (h1 : l.length = n) (h2 : 1 ≤ n ∧ n ≤ 3) (h3 : idsOf l = List.take n [5, 1, 99]) (h4 : ∀ m ∈ l, m.fields = []) : RawK n l :=
 ⟨h1, h2, h3, fun m hm => by rw [h4 m hm]; exact ⟨by simp, by simp [nums], fun f hf => by cases hf⟩⟩
theorem set_far {l : List Shp} {i j : Nat} {x m : Shp} (h : ∀ j m, i < j → l[j]? = some m → m.fields = []) (hj : i < j) (hm : (l.set i x)[j]? = some m) : m.fields = [] := by
 rw [List.getElem?_set_ne (by omega)] at hm
 exact h j m hj hm
structure compile_o_O where
 l : List Shp
structure compile_o_V0 where
 shapes : List Shp
 i : Nat
def compile_o_F0 (r : Raw) : Fam := ⟨compile_o_V0, fun q1 => [(1, .v (vP 0)), (2, .v (vP 1)), (3, .v (vP 2)), (4, .v (vP 3)), (5, .v (vP 4)), (6, .v (vI ((q1.i : Nat) : Int)))], fun q1 => [.cells [.seq .shp r.msgs], .cells [.nil], .cells [.int .i64 0, .int .i64 0, .int .i64 0], .cells [.int .i64 0, .int .i64 0, .int .i64 0], .cells [.own 5], .tree q1.shapes], fun q1 => q1.i ≤ List.length r.msgs ∧ List.length q1.shapes = List.length r.msgs ∧ ∀ e ∈ q1.shapes, ShpG (List.length r.msgs) e.fields, fun q1 => List.length r.msgs - q1.i⟩
structure compile_o_V1 where
 x : Shp
 k : Nat
def compile_o_F1 (r : Raw) (q1 : compile_o_V0) (x1 : Shp) : Fam := ⟨compile_o_V1, fun q2 => [(1, .v (vP 0)), (2, .v (vP 1)), (3, .v (vP 2)), (4, .v (vP 3)), (5, .v (vP 4)), (6, .v (vI ((q1.i : Nat) : Int))), (7, .v (vP 6)), (8, .v (vI ((q2.k : Nat) : Int)))], fun q2 => [.cells [.seq .shp r.msgs], .cells [.nil], .cells [.int .i64 0, .int .i64 0, .int .i64 0], .cells [.int .i64 0, .int .i64 0, .int .i64 0], .cells [.own 5], .tree q1.shapes, .cells [.int .i64 q2.x.id, .own 7], .lst .fld q2.x.fields], fun q2 => q2.k ≤ List.length x1.fields ∧ (q2.x).id = x1.id ∧ List.length (q2.x).fields = q2.k ∧ ∀ f ∈ (q2.x).fields, FldC (List.length r.msgs) f, fun q2 => List.length x1.fields - q2.k⟩
theorem compile_o (r : Raw) (hp1 : RawK (List.length (r).msgs) (r).msgs) : ∃ o : compile_o_O, ((SchG o.l)) ∧ Fun Tryz.prog 73 [.agg [.seq .shp r.msgs]] [] (.tup [.agg [.own 0], .agg [.int .i64 0, .int .i64 0, .int .i64 0]]) [.tree o.l] := by
 have hN : bigN = 274877906944 := rfl
 have hpos := hp1.pos
 refine funs_ofw Tryz.func73 (by kernel_rfl) (by kernel_rfl) (w := let zi : Int → C := .int .i64; let z11 := ((List.length r.msgs : Nat) : Int); let z12 := compile_o_F0 r; (.seg [.call [] (.v (.agg [zi 0, zi 0, zi 0])) [], .br false, .tyT, .at 0, .keep [1, 2, 3, 4, 5, 6], .sel [0, 1, 2, 3, 5, 4]] (.loop z12 fun q1 => .br (.intro (fun (x1 : Shp) => r.msgs[q1.i]? = some x1) fun x1 => .seg [.el .shp x1, .at 0, .mk 6 1 .fld, .keep [1, 2, 3, 4, 5, 6, 7, 8], .sel [0, 1, 2, 3, 4, 5, 6, 7]] (.loop (compile_o_F1 r q1 x1) fun q2 => .seg [.el .shp x1] (.br (.seg [.el .shp x1] (.intro (fun (x2 : Fld) => x1.fields[q2.k]? = some x2) fun x2 => let z1 := ((rank (r).msgs x2.msg : Nat) : Int); .seg [.el .fld x2] (.br (.seg [.call [] (.v (vI z1)) []] (.intro (fun (o1 : put_o_O) => ((List.length o1.o = List.length q2.x.fields + 1) ∧ (∀ g ∈ o1.o, g = (⟨x2.number, x2.kind, x2.rep, x2.packed, z1⟩ : Fld) ∨ g ∈ q2.x.fields)) ∧ Fun Tryz.prog 91 [.c (.seq .fld q2.x.fields), .agg [zi x2.number, zi x2.kind, .bool x2.rep, .bool x2.packed, zi z1]] [] (.v (vO 0)) [.lst .fld o1.o]) fun o1 => .seg [.call [] (.v (vO 0)) [.lst .fld o1.o], .as 47 (.v (vI (((q2.k : Nat) : Int) + 1))), .at 0, .keep [1, 2, 3, 4, 5, 6, 7, 8], .sel [0, 1, 2, 3, 4, 5, 6, 10]] (.next))) (.intro (fun (o1 : put_o_O) => ((List.length o1.o = List.length q2.x.fields + 1) ∧ (∀ g ∈ o1.o, g = (⟨x2.number, x2.kind, x2.rep, x2.packed, (-1)⟩ : Fld) ∨ g ∈ q2.x.fields)) ∧ Fun Tryz.prog 91 [.c (.seq .fld q2.x.fields), .agg [zi x2.number, zi x2.kind, .bool x2.rep, .bool x2.packed, zi (-1)]] [] (.v (vO 0)) [.lst .fld o1.o]) fun o1 => .seg [.call [] (.v (vO 0)) [.lst .fld o1.o], .as 47 (.v (vI (((q2.k : Nat) : Int) + 1))), .at 0, .keep [1, 2, 3, 4, 5, 6, 7, 8], .sel [0, 1, 2, 3, 4, 5, 6, 10]] (.next))))) (.intro (fun (x2 : Shp) => q1.shapes[rank (r).msgs q2.x.id]? = some x2) fun x2 => .seg [.ord [(0, true), (1, true), (2, true), (3, true), (4, true), (6, true), (5, false), (7, true), (8, false)] [], .call [] (.v (vI ((rank (r).msgs q2.x.id : Nat) : Int))) [], .el .shp x2, .as 29 (.v (vI (((q1.i : Nat) : Int) + 1))), .at 0, .keep [1, 2, 3, 4, 5, 6], .sel [0, 1, 2, 3, 4, 5]] (.next))))) (.seg [.ord (os 4 [2, 3]) [1]] (.leaf (⟨q1.shapes⟩ : compile_o_O) [5]))), (Fun Tryz.prog 89 [.agg [.seq .shp r.msgs]] [] (.v (.agg [zi 0, zi 0, zi 0])) []) ∧ ((!decide (0 = 0)) = false) ∧ (z11 ≤ 9223372036854775807) ∧ (((32 : Nat) : Int) * z11 ≤ 281474976710656) ∧ (z11 ≤ z11) ∧ ((0 : Int) ≤ z11) ∧ z12.Has [(1, .v (vP 0)), (2, .v (vP 1)), (3, .v (vP 2)), (4, .v (vP 3)), (5, .v (vP 4)), (6, .v (vI 0))] [.cells [.seq .shp r.msgs], .cells [.nil], .cells [zi 0, zi 0, zi 0], .cells [zi 0, zi 0, zi 0], .cells [.own 5], .tree (List.replicate (List.length r.msgs) (⟨0, ([] : List Fld)⟩ : Shp))] ∧ ∀ q1, z12.inv q1 → (let z10 := ((q1.i : Nat) : Int); ((decide (z10 < z11)) = true → (∃ (x1 : Shp), r.msgs[q1.i]? = some x1) ∧ ∀ (x1 : Shp), (r.msgs[q1.i]? = some x1) → (let z7 := compile_o_F1 r q1 x1; let z8 := r.msgs[q1.i]? = some x1; let z9 := ((List.length x1.fields : Nat) : Int); z8 ∧ ((0 : Int) ≤ z10) ∧ z7.Has [(1, .v (vP 0)), (2, .v (vP 1)), (3, .v (vP 2)), (4, .v (vP 3)), (5, .v (vP 4)), (6, .v (vI z10)), (7, .v (vP 6)), (8, .v (vI 0))] [.cells [.seq .shp r.msgs], .cells [.nil], .cells [zi 0, zi 0, zi 0], .cells [zi 0, zi 0, zi 0], .cells [.own 5], .tree q1.shapes, .cells [zi x1.id, .own 7], .lst .fld ([] : List Fld)] ∧ ∀ q2, z7.inv q2 → (let z5 := ((q2.k : Nat) : Int); let z6 := ((rank (r).msgs q2.x.id : Nat) : Int); z8 ∧ ((0 : Int) ≤ z10) ∧ ((decide (z5 < z9)) = true → z8 ∧ ((0 : Int) ≤ z10) ∧ (∃ (x2 : Fld), x1.fields[q2.k]? = some x2) ∧ ∀ (x2 : Fld), (x1.fields[q2.k]? = some x2) → (let z2 := ((rank (r).msgs x2.msg : Nat) : Int); let z3 := (⟨x2.number, x2.kind, x2.rep, x2.packed, (-1)⟩ : Fld); let z4 := (⟨x2.number, x2.kind, x2.rep, x2.packed, z2⟩ : Fld); (x1.fields[q2.k]? = some x2) ∧ ((0 : Int) ≤ z5) ∧ ((decide (x2.kind = 8)) = true → (Fun Tryz.prog 90 [.agg [.seq .shp r.msgs], vI x2.msg] [] (.v (vI z2)) []) ∧ (∃ (o1 : put_o_O), ((List.length o1.o = List.length q2.x.fields + 1) ∧ (∀ g ∈ o1.o, g = z4 ∨ g ∈ q2.x.fields)) ∧ Fun Tryz.prog 91 [.c (.seq .fld q2.x.fields), .agg [zi x2.number, zi x2.kind, .bool x2.rep, .bool x2.packed, zi z2]] [] (.v (vO 0)) [.lst .fld o1.o]) ∧ ∀ (o1 : put_o_O), (((List.length o1.o = List.length q2.x.fields + 1) ∧ (∀ g ∈ o1.o, g = z4 ∨ g ∈ q2.x.fields)) ∧ Fun Tryz.prog 91 [.c (.seq .fld q2.x.fields), .agg [zi x2.number, zi x2.kind, .bool x2.rep, .bool x2.packed, zi z2]] [] (.v (vO 0)) [.lst .fld o1.o]) → ((Fun Tryz.prog 91 [.c (.seq .fld q2.x.fields), .agg [zi x2.number, zi x2.kind, .bool x2.rep, .bool x2.packed, zi z2]] [] (.v (vO 0)) [.lst .fld o1.o]) ∧ ((.v (vI (IntKind.i64.wrap (z5 + 1))) : S) = .v (vI (z5 + 1))) ∧ z7.Nxt q2 [(1, .v (vP 0)), (2, .v (vP 1)), (3, .v (vP 2)), (4, .v (vP 3)), (5, .v (vP 4)), (6, .v (vI z10)), (7, .v (vP 6)), (8, .v (vI (z5 + 1)))] [.cells [.seq .shp r.msgs], .cells [.nil], .cells [zi 0, zi 0, zi 0], .cells [zi 0, zi 0, zi 0], .cells [.own 5], .tree q1.shapes, .cells [zi q2.x.id, .own 7], .lst .fld o1.o])) ∧ ((decide (x2.kind = 8)) = false → (∃ (o1 : put_o_O), ((List.length o1.o = List.length q2.x.fields + 1) ∧ (∀ g ∈ o1.o, g = z3 ∨ g ∈ q2.x.fields)) ∧ Fun Tryz.prog 91 [.c (.seq .fld q2.x.fields), .agg [zi x2.number, zi x2.kind, .bool x2.rep, .bool x2.packed, zi (-1)]] [] (.v (vO 0)) [.lst .fld o1.o]) ∧ ∀ (o1 : put_o_O), (((List.length o1.o = List.length q2.x.fields + 1) ∧ (∀ g ∈ o1.o, g = z3 ∨ g ∈ q2.x.fields)) ∧ Fun Tryz.prog 91 [.c (.seq .fld q2.x.fields), .agg [zi x2.number, zi x2.kind, .bool x2.rep, .bool x2.packed, zi (-1)]] [] (.v (vO 0)) [.lst .fld o1.o]) → ((Fun Tryz.prog 91 [.c (.seq .fld q2.x.fields), .agg [zi x2.number, zi x2.kind, .bool x2.rep, .bool x2.packed, zi (-1)]] [] (.v (vO 0)) [.lst .fld o1.o]) ∧ ((.v (vI (IntKind.i64.wrap (z5 + 1))) : S) = .v (vI (z5 + 1))) ∧ z7.Nxt q2 [(1, .v (vP 0)), (2, .v (vP 1)), (3, .v (vP 2)), (4, .v (vP 3)), (5, .v (vP 4)), (6, .v (vI z10)), (7, .v (vP 6)), (8, .v (vI (z5 + 1)))] [.cells [.seq .shp r.msgs], .cells [.nil], .cells [zi 0, zi 0, zi 0], .cells [zi 0, zi 0, zi 0], .cells [.own 5], .tree q1.shapes, .cells [zi q2.x.id, .own 7], .lst .fld o1.o])))) ∧ ((decide (z5 < z9)) = false → (∃ (x2 : Shp), q1.shapes[rank (r).msgs q2.x.id]? = some x2) ∧ ∀ (x2 : Shp), (q1.shapes[rank (r).msgs q2.x.id]? = some x2) → ((Fun Tryz.prog 90 [.agg [.seq .shp r.msgs], vI q2.x.id] [] (.v (vI z6)) []) ∧ (z6 < ((List.length q1.shapes : Nat) : Int)) ∧ ((0 : Int) ≤ z6) ∧ (q1.shapes[rank (r).msgs q2.x.id]? = some x2) ∧ ((.v (vI (IntKind.i64.wrap (z10 + 1))) : S) = .v (vI (z10 + 1))) ∧ z12.Nxt q1 [(1, .v (vP 0)), (2, .v (vP 1)), (3, .v (vP 2)), (4, .v (vP 3)), (5, .v (vP 4)), (6, .v (vI (z10 + 1)))] [.cells [.seq .shp r.msgs], .cells [.nil], .cells [zi 0, zi 0, zi 0], .cells [zi 0, zi 0, zi 0], .cells [.own 5], .tree (List.set q1.shapes (rank (r).msgs q2.x.id) (⟨q2.x.id, q2.x.fields⟩ : Shp))]))))) ∧ ((decide (z10 < z11)) = false → ((SchG q1.shapes)) ∧ (.tup [.agg [.own 0], .agg [zi 0, zi 0, zi 0]] : S) = .tup [.agg [.own 0], .agg [zi 0, zi 0, zi 0]] ∧ ([.tree q1.shapes] : List Blk) = [.tree q1.shapes])))) (by kernel_rfl) ?_
 refine ⟨(first_s r (by omega)), (by decide), (by omega), (by omega), (by omega), (by omega), has_of (j := (⟨List.replicate (List.length r.msgs) (⟨0, ([] : List Fld)⟩ : Shp), 0⟩ : compile_o_V0)) (by first | rfl | simp) rfl (by dsimp only [compile_o_F0]; exact ⟨by omega, by simp, fun e he => rep_good he⟩), fun (q1 : compile_o_V0) hq_q1 => ?_⟩
 have hi_q1 : q1.i ≤ List.length r.msgs ∧ List.length q1.shapes = List.length r.msgs ∧ ∀ e ∈ q1.shapes, ShpG (List.length r.msgs) e.fields := hq_q1
 obtain ⟨v1, v2, v3⟩ := hi_q1
 refine dsp (fun h1 p1 => ?_) fun h1 p1 => ?_
 refine ⟨(ax_get (l := r.msgs) (i := q1.i) (by omega)), fun x1 hx1 => ?_⟩
 have hfg := hp1.flds _ (List.mem_of_getElem? hx1)
 have hfl := hfg.len
 have hmi : x1.id ∈ idsOf r.msgs := List.mem_map.2 ⟨_, List.mem_of_getElem? hx1, rfl⟩
 have hrl := rank_lt hmi
 refine ⟨hx1, (by omega), has_of (j := (⟨(⟨x1.id, ([] : List Fld)⟩ : Shp), 0⟩ : compile_o_V1)) (by first | rfl | simp) (by first | rfl | simp) (by dsimp only [compile_o_F1]; exact ⟨by omega, rfl, rfl, fun f hf => by cases hf⟩), fun (q2 : compile_o_V1) hq_q2 => ?_⟩
 have hi_q2 : q2.k ≤ List.length x1.fields ∧ (q2.x).id = x1.id ∧ List.length (q2.x).fields = q2.k ∧ ∀ f ∈ (q2.x).fields, FldC (List.length r.msgs) f := hq_q2
 obtain ⟨w1, w2, w3, w4⟩ := hi_q2
 refine ⟨hx1, (by omega), dsp (fun h2 p2 => ?_) fun h2 p2 => ?_⟩
 refine ⟨hx1, (by omega), (ax_get (l := x1.fields) (i := q2.k) (by omega)), fun x2 hx2 => ?_⟩
 have hg := hfg.all _ (List.mem_of_getElem? hx2)
 have hgk := hg.kd
 refine ⟨hx2, (by omega), dsp (fun h3 p3 => ?_) fun h3 p3 => ?_⟩
 have hir := rank_lt (hg.ref (by omega))
 refine ⟨(rank_s r _ (by omega)), (put_o q2.x.fields (⟨x2.number, x2.kind, x2.rep, x2.packed, ((rank (r).msgs x2.msg : Nat) : Int)⟩ : Fld) (by omega)), fun o1 ho_o1 => ?_⟩
 obtain ⟨⟨hp_o1_0, hp_o1_1⟩, hf_o1⟩ := ho_o1
 exact ⟨hf_o1, (as_i64 (by omega) (by omega)), nxt_of (j := (⟨(⟨q2.x.id, o1.o⟩ : Shp), q2.k + 1⟩ : compile_o_V1)) (by first | rfl | simp) (by first | rfl | simp) (by dsimp only [compile_o_F1]; exact ⟨by omega, w2, by omega, fun f hf => by
           rcases hp_o1_1 f hf with rfl | hf
           ·exact ⟨by dsimp only; omega, by dsimp only; omega, fun h8 => by dsimp only at h8 ⊢; omega⟩
           ·exact w4 f hf⟩) (by dsimp only [compile_o_F1]; omega)⟩
 refine ⟨(put_o q2.x.fields (⟨x2.number, x2.kind, x2.rep, x2.packed, (-1)⟩ : Fld) (by omega)), fun o1 ho_o1 => ?_⟩
 obtain ⟨⟨hp_o1_0, hp_o1_1⟩, hf_o1⟩ := ho_o1
 exact ⟨hf_o1, (as_i64 (by omega) (by omega)), nxt_of (j := (⟨(⟨q2.x.id, o1.o⟩ : Shp), q2.k + 1⟩ : compile_o_V1)) (by first | rfl | simp) (by first | rfl | simp) (by dsimp only [compile_o_F1]; exact ⟨by omega, w2, by omega, fun f hf => by
           rcases hp_o1_1 f hf with rfl | hf
           ·exact ⟨by dsimp only; omega, by dsimp only; omega, fun h8 => by dsimp only at h8 ⊢; omega⟩
           ·exact w4 f hf⟩) (by dsimp only [compile_o_F1]; omega)⟩
 have hxg : ShpG (List.length r.msgs) q2.x.fields := ⟨by omega, w4⟩
 have hrx : rank r.msgs q2.x.id < List.length r.msgs := by rw [w2]; exact hrl
 refine ⟨(ax_get (l := q1.shapes) (i := rank (r).msgs q2.x.id) (by omega)), fun x2 hx2 => ?_⟩
 exact ⟨(rank_s r _ (by omega)), (by omega), (by omega), hx2, (as_i64 (by omega) (by omega)), nxt_of (j := (⟨List.set q1.shapes (rank (r).msgs q2.x.id) (⟨q2.x.id, q2.x.fields⟩ : Shp), q1.i + 1⟩ : compile_o_V0)) (by first | rfl | simp) rfl (by dsimp only [compile_o_F0]; exact ⟨by omega, by rw [List.length_set]; exact v2, fun e he => set_good v3 hxg he⟩) (by dsimp only [compile_o_F0]; omega)⟩
 have hsg : SchG q1.shapes := ⟨by omega, fun e he => by rw [v2]; exact v3 e he⟩
 exact ⟨(hsg), rfl, rfl⟩
end Go.Proofs.YtnamhappoaplcaaGreat.Ax
