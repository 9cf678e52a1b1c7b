/- Models. Models: the machine. Models: the machine's steps. Models: bytes, whole inputs. Models: readers, streams. Numbers. Varints. Numbers of so many bytes; tags. Utf-8. Schemas. Events. Decoders: what is valid. Decoders: what is valid, more. Decoders: what is valid, whole. Decoders: what is valid, at last. Decoders: what is valid: both sides. Copies. Readers. New streams. Events as frames: the steps. Events as frames. What the exact laws do with schemas, plans and events. What the exact laws do with plans and events: copies of their own. -/
import Derived.Test.YtecljjcmjongfaaKB4
set_option linter.unusedSimpArgs false
set_option linter.unusedVariables false
namespace Go.Proofs.Ytecljjcmjongfaa.Ax
open Go.RowKit
theorem consE {α : Type} {a b : α} {l m : List α} (h : a = b) (t : l = m) : a :: l = b :: m := by rw [h, t]
def vI (x : Int) : V := .c (.int .i64 x)
def vB (x : Bool) : V := .c (.bool x)
def vT (x : List UInt8) : V := .c (.str x)
def vO (j : Nat) : V := .c (.own j)
def vP (j : Nat) : V := .c (.ptr j 0)
theorem sB {a b : Bool} (h : a = b) : (.v (.c (.bool a)) : S) = .v (.c (.bool b)) := by rw [h]
theorem sI {a b : Int} (h : a = b) : (.v (.c (.int .i64 a)) : S) = .v (.c (.int .i64 b)) := by rw [h]
theorem dT {p : Prop} [Decidable p] : decide p = true ↔ p := decide_eq_true_iff
theorem andT {a b : Bool} {P Q : Prop} (h : a = true ↔ P) (g : b = true ↔ Q) : (a && b) = true ↔ P ∧ Q := by rw [Bool.and_eq_true, h, g]
theorem andF {a b : Bool} {P Q : Prop} (h : a = true ↔ P) (g : b = false ↔ Q) : (a && b) = false ↔ (P → Q) := by rw [Bool.and_eq_false_imp, h, g]
theorem has_of {F : Fam} {j : F.ι} {tm : List (Nat × S)} {H : List Blk} (h1 : tm = F.tm j) (h2 : H = F.H j) (h : F.inv j) : F.Has tm H := ⟨j, h, h1, h2⟩
theorem nxt_of {F : Fam} {i j : F.ι} {tm : List (Nat × S)} {H : List Blk} (h1 : tm = F.tm j) (h2 : H = F.H j) (h : F.inv j) (hm : F.mu j < F.mu i) : F.Nxt i tm H := ⟨j, ⟨h, hm⟩, h1, h2⟩
theorem fun_ofw {P : Program} {f : FuncId} {fn : Func} (hf : P.funcs[f]? = some fn) (hb : fn.body.isNone = false) (hn : (fn.name == "runtime.NumGoroutine") = false) {args : List V} {L L' : List Blk} {r : S} {w : DT Unit × Prop}
    (hw : walkT P fn args L w.1 (fun _ r' Lp => r' = r ∧ Lp = L') = w.2) (h : w.2) : Fun P f args L r L' := fun_of hf hb hn hw h
theorem dsp {p : Prop} [Decidable p] {A B : Prop} (h1 : decide p = true → p → A) (h2 : decide p = false → ¬ p → B) : (decide p = true → A) ∧ (decide p = false → B) := ⟨fun h => h1 h (of_decide_eq_true h), fun h => h2 h (of_decide_eq_false h)⟩
/-! ### Structures -/
structure Scn where
  bits : Int
  have_ : Int
  deriving DecidableEq, Inhabited
structure Utf where
  want : Int
  low : Int
  high : Int
  deriving DecidableEq, Inhabited
structure Pln where
  shapes : List Shp
  root : Int
  deep : Int
  most : Int
  deriving DecidableEq, Inhabited
structure Dcd where
  plan : Pln
  mode : Int
  stack : List Lev
  scan : Scn
  start : Int
  at_ : Int
  field : Fld
  wire : Int
  want : Int
  utf : Utf
  end_ : Ev
  deriving DecidableEq, Inhabited
def fld0 : Fld := ⟨0, 0, false, false, 0⟩
def utf0 : Utf := ⟨0, 0, 0⟩
theorem drop_el {α : Type} {l : List α} {i : Nat} {x : α} (h : l[i]? = some x) : l.drop i = x :: l.drop (i + 1) := by
  have hl := (List.getElem?_eq_some_iff.1 h).1
  rw [List.drop_eq_getElem_cons hl]
  congr 1
  rw [List.getElem?_eq_getElem hl] at h
  exact Option.some.inj h
theorem bnot_t {b : Bool} (h : (!b) = true) : b = false := by cases b <;> simp_all
theorem bnot_f {b : Bool} (h : (!b) = false) : b = true := by cases b <;> simp_all
theorem drop_end {α : Type} {l : List α} {i : Nat} (h : ¬ ((i : Nat) : Int) < ((l.length : Nat) : Int)) : l.drop i = [] := List.drop_eq_nil_of_le (by omega)
/-! ### Words of numbers -/
theorem as_tmod {k : IntKind} {a m : Int} (h : 0 ≤ a) : (.v (.c (.int k (Int.tmod a m))) : S) = .v (.c (.int k (a % m))) := by rw [Int.tmod_eq_emod_of_nonneg h]
def numberOk (n : Int) : Bool := within n 1 536870911 && !within n 19000 19999
def kindOk (k : Int) : Bool := within k 1 8
def numeric (k : Int) : Bool := within k 1 5
def fldOk (f : Fld) (n : Int) : Bool := numberOk f.number && kindOk f.kind && !(f.packed && (!f.rep || !numeric f.kind)) && (if f.kind = 8 then within f.msg 0 (n - 1) else decide (f.msg = -1))
def fieldsOk (n : Int) : Int → List Fld → Bool
  | _, [] => true
  | b, f :: r => decide (b < f.number) && fldOk f n && fieldsOk n f.number r
def shapesOk (n : Int) : Int → List Shp → Bool
  | _, [] => true
  | b, x :: r => decide (b < x.id) && decide (x.id ≤ 99) && decide ((x.fields.length : Int) ≤ 8) && fieldsOk n 0 x.fields && shapesOk n x.id r
def schemaOk (l : List Shp) : Bool := decide ((l.length : Int) ≤ 6) && shapesOk (l.length : Int) 0 l
def fieldIn (l : List Fld) (n : Int) : Option Fld := l.find? fun f => decide (f.number = n)
def shp0 : Shp := ⟨0, []⟩
def fieldAt (l : List Shp) (s n : Int) : Option Fld := if within s 0 ((l.length : Int) - 1) then fieldIn (l.getD s.toNat shp0).fields n else none
def planOk (p : Pln) : Bool := schemaOk p.shapes && within p.root 0 ((p.shapes.length : Int) - 1) && within p.deep 1 8 && within p.most 0 2000
theorem fldOk_t {f : Fld} {n : Int} (h : fldOk f n = true) : 1 ≤ f.number ∧ f.number ≤ 536870911 ∧ 1 ≤ f.kind ∧ f.kind ≤ 8 ∧ (f.kind = 8 → 0 ≤ f.msg ∧ f.msg ≤ n - 1) ∧ (f.kind ≠ 8 → f.msg = -1) := by
  simp only [fldOk, numberOk, kindOk, within, Bool.and_eq_true, decide_eq_true_eq] at h
  obtain ⟨⟨⟨h1, h2⟩, h3⟩, h4⟩ := h
  refine ⟨h1.1.1, h1.1.2, h2.1, h2.2, fun hk => ?_, fun hk => ?_⟩
  · rw [if_pos hk] at h4; simpa using h4
  · rw [if_neg hk] at h4; simpa using h4
theorem schemaOk_t {l : List Shp} (h : schemaOk l = true) : l.length ≤ 6 := by
  simp only [schemaOk, Bool.and_eq_true, decide_eq_true_eq] at h; omega
theorem planOk_t {p : Pln} (h : planOk p = true) : p.shapes.length ≤ 6 ∧ schemaOk p.shapes = true ∧ 0 ≤ p.root ∧ p.root < (p.shapes.length : Int) ∧ 1 ≤ p.deep ∧ p.deep ≤ 8 ∧ 0 ≤ p.most ∧ p.most ≤ 2000 := by
  simp only [planOk, within, Bool.and_eq_true, decide_eq_true_eq] at h
  have := schemaOk_t h.1.1.1
  refine ⟨this, h.1.1.1, ?_⟩; omega
theorem shapesOk_mem {n : Int} : ∀ {b : Int} {l : List Shp}, shapesOk n b l = true → ∀ x ∈ l, (x.fields.length ≤ 8 ∧ fieldsOk n 0 x.fields = true) ∧ b < x.id ∧ x.id ≤ 99
  | _, [], _, f, hf => by cases hf
  | b, g :: r, h, f, hf => by
    simp only [shapesOk, Bool.and_eq_true, decide_eq_true_eq] at h
    rcases List.mem_cons.1 hf with rfl | hf
    · exact ⟨⟨by omega, h.1.2⟩, h.1.1.1.1, h.1.1.1.2⟩
    · have := shapesOk_mem h.2 f hf; exact ⟨this.1, by omega, this.2.2⟩
theorem schemaOk_fields {l : List Shp} (h : schemaOk l = true) : ∀ x ∈ l, List.length x.fields ≤ 1000 := fun x hx => by
  simp only [schemaOk, Bool.and_eq_true] at h
  have := (shapesOk_mem h.2 x hx).1.1
  omega
def many (l : List Ev) (k : Int) : Int := ((l.filter fun e => decide (e.kind = k)).length : Int)
structure Fa where
  stack : List Int
  inText : Bool
  isText : Bool
  utf : Utf
  ended : Bool
  deriving Inhabited
structure Fmr where
  plan : Pln
  st : Fa
structure Fs where
  stack : List Int
  field : Fld
  open_ : Bool
  utf : Utf
  ended : Bool
def isBytes (k : Int) : Bool := decide (k = 6) || decide (k = 7)
def cEv (x : Ev) : List C := [.int .i64 x.kind, .int .i64 x.field, .int .u64 x.bits, .int .i64 x.len, .str x.text, .int .i64 x.code, .int .i64 x.at_]
def cFld (x : Fld) : List C := [.int .i64 x.number, .int .i64 x.kind, .bool x.rep, .bool x.packed, .int .i64 x.msg]
def cShp (x : Shp) : List C := [.int .i64 x.id, .seq .fld x.fields]
def cLev (x : Lev) : List C := [.int .i64 x.msg, .int .i64 x.left]
def cRd (x : Rd) : List C := [.int .i64 x.n, .int .i64 x.code]
def cScn (x : Scn) : List C := [.int .u64 x.bits, .int .i64 x.have_]
def cUtf (x : Utf) : List C := [.int .i64 x.want, .int .i64 x.low, .int .i64 x.high]
def cPln (x : Pln) : List C := [.seq .shp x.shapes, .int .i64 x.root, .int .i64 x.deep, .int .i64 x.most]
def cDcd (x : Dcd) : List C := [.seq .shp x.plan.shapes, .int .i64 x.plan.root, .int .i64 x.plan.deep, .int .i64 x.plan.most, .int .i64 x.mode, .seq .lev x.stack, .int .u64 x.scan.bits, .int .i64 x.scan.have_, .int .i64 x.start, .int .i64 x.at_, .int .i64 x.field.number, .int .i64 x.field.kind, .bool x.field.rep, .bool x.field.packed, .int .i64 x.field.msg, .int .i64 x.wire, .int .i64 x.want, .int .i64 x.utf.want, .int .i64 x.utf.low, .int .i64 x.utf.high, .int .i64 x.end_.kind, .int .i64 x.end_.field, .int .u64 x.end_.bits, .int .i64 x.end_.len, .str x.end_.text, .int .i64 x.end_.code, .int .i64 x.end_.at_]
def oDcd0_5 (j0 : Nat) (j5 : Nat) (x : Dcd) : List C := [.own j0, .int .i64 x.plan.root, .int .i64 x.plan.deep, .int .i64 x.plan.most, .int .i64 x.mode, .own j5, .int .u64 x.scan.bits, .int .i64 x.scan.have_, .int .i64 x.start, .int .i64 x.at_, .int .i64 x.field.number, .int .i64 x.field.kind, .bool x.field.rep, .bool x.field.packed, .int .i64 x.field.msg, .int .i64 x.wire, .int .i64 x.want, .int .i64 x.utf.want, .int .i64 x.utf.low, .int .i64 x.utf.high, .int .i64 x.end_.kind, .int .i64 x.end_.field, .int .u64 x.end_.bits, .int .i64 x.end_.len, .str x.end_.text, .int .i64 x.end_.code, .int .i64 x.end_.at_]
def oPln0 (j0 : Nat) (x : Pln) : List C := [.own j0, .int .i64 x.root, .int .i64 x.deep, .int .i64 x.most]
def lev0 : Lev := ⟨0, 0⟩
def topL (d : Dcd) : Int := (d.stack.getD (d.stack.length - 1) lev0).left
def levOk (n : Int) (l : Lev) : Bool := within l.msg 0 (n - 1) && within l.left 0 2000
def levelsOk (d : Dcd) : Bool := planOk d.plan && decide ((d.stack.length : Int) ≤ d.plan.deep) && d.stack.all (levOk (d.plan.shapes.length : Int))
def knownN (l : List Shp) (f : Fld) : Nat → Bool
  | 0 => false
  | k + 1 => knownN l f k || decide (fieldAt l (k : Int) f.number = some f)
def known (l : List Shp) (f : Fld) : Bool := knownN l f l.length
structure Mac where
  d : Dcd
  out : List Ev
def lastL (d : Dcd) : Lev := d.stack.getD (d.stack.length - 1) lev0
def stepD (d : Dcd) : Dcd := ⟨d.plan, d.mode, if d.stack.length = 0 then d.stack else d.stack.set (d.stack.length - 1) ⟨(lastL d).msg, topL d - 1⟩, d.scan, d.start, d.at_ + 1, d.field, d.wire, if d.mode = 6 ∨ d.mode = 7 ∨ d.mode = 8 then d.want - 1 else d.want, d.utf, d.end_⟩
theorem levelsOk_b {d : Dcd} (h : levelsOk d = true) : planOk d.plan = true ∧ (d.stack.length : Int) ≤ d.plan.deep ∧ d.stack.length ≤ 8 ∧ (∀ l ∈ d.stack, levOk (d.plan.shapes.length : Int) l = true) := by
  simp only [levelsOk, Bool.and_eq_true, decide_eq_true_eq, List.all_eq_true] at h
  have := planOk_t h.1.1
  exact ⟨h.1.1, h.1.2, by omega, h.2⟩
theorem levelsOk_mk {d : Dcd} (h1 : planOk d.plan = true) (h2 : (d.stack.length : Int) ≤ d.plan.deep) (h3 : ∀ l ∈ d.stack, levOk (d.plan.shapes.length : Int) l = true) : levelsOk d = true := by
  simp only [levelsOk, Bool.and_eq_true, decide_eq_true_eq, List.all_eq_true]; exact ⟨⟨h1, h2⟩, h3⟩
theorem lastL_mem {d : Dcd} (h : d.stack.length ≠ 0) : lastL d ∈ d.stack := by
  unfold lastL
  rw [List.getD_eq_getElem?_getD, List.getElem?_eq_getElem (by omega)]
  exact List.getElem_mem _
structure MW (d : Dcd) : Prop where
  lv : levelsOk d = true
  kn : d.field = fld0 ∨ known d.plan.shapes d.field = true
  b0 : 0 ≤ d.scan.bits ∧ d.scan.bits ≤ 18446744073709551615
  at_ : 0 ≤ d.at_ ∧ d.at_ ≤ 1000000001
  want : -1 ≤ d.want ∧ d.want ≤ 2001
theorem MW.step {d : Dcd} (h : MW d) (hs : d.stack.length = 0 ∨ 1 ≤ topL d) (ha : d.at_ ≤ 1000000000) (hw : (d.mode = 6 ∨ d.mode = 7 ∨ d.mode = 8) → 0 ≤ d.want) : MW (stepD d) := by
  have hb := levelsOk_b h.lv
  refine ⟨?_, h.kn, h.b0, ?_, ?_⟩
  · refine levelsOk_mk (d := stepD d) hb.1 ?_ ?_
    · show (((stepD d).stack.length : Nat) : Int) ≤ d.plan.deep
      unfold stepD; simp only; split
      · exact hb.2.1
      · rw [List.length_set]; exact hb.2.1
    · intro l hl
      show levOk (d.plan.shapes.length : Int) l = true
      unfold stepD at hl
      simp only at hl
      split at hl
      · exact hb.2.2.2 l hl
      · rename_i hn
        rcases List.mem_or_eq_of_mem_set hl with hl | hl
        · exact hb.2.2.2 l hl
        · have hx := hb.2.2.2 _ (lastL_mem hn)
          have ht : topL d = (lastL d).left := rfl
          simp only [levOk, Bool.and_eq_true] at hx
          have h1 := within_t hx.1; have h2 := within_t hx.2
          subst hl; simp [levOk, within]; omega
  · have := h.at_; show 0 ≤ d.at_ + 1 ∧ d.at_ + 1 ≤ 1000000001; omega
  · have := h.want
    show -1 ≤ (if d.mode = 6 ∨ d.mode = 7 ∨ d.mode = 8 then d.want - 1 else d.want) ∧ (if d.mode = 6 ∨ d.mode = 7 ∨ d.mode = 8 then d.want - 1 else d.want) ≤ 2001
    split
    · rename_i hm; have := hw hm; omega
    · exact this
def decNew (p : Pln) : Dcd := if planOk p = true then ⟨p, 1, [], ⟨0, 0⟩, 0, 0, ⟨0, 0, false, false, 0⟩, 0, 0, ⟨0, 0, 0⟩, ⟨0, 0, 0, 0, [], 0, 0⟩⟩ else ⟨⟨[], 0, 0, 0⟩, 0, [], ⟨0, 0⟩, 0, 0, ⟨0, 0, false, false, 0⟩, 0, 0, ⟨0, 0, 0⟩, ⟨0, 0, 0, 0, [], 0, 0⟩⟩
theorem schemaOk_fields20 {l : List Shp} (h : schemaOk l = true) : ∀ e ∈ l, e.fields.length ≤ 1048576 := fun e he => by have := schemaOk_fields h e he; omega
structure Gr (m q : Mac) : Prop where
  plan : q.d.plan = m.d.plan
  stack : q.d.stack.length ≤ m.d.stack.length + 1
  out : q.out.length ≤ m.out.length + m.d.stack.length + 6
theorem Gr.of {m x q : Mac} (h : Gr x q) (hp : x.d.plan = m.d.plan) (hs : x.d.stack.length = m.d.stack.length) (ho : x.out.length = m.out.length) : Gr m q := ⟨h.plan.trans hp, by have := h.stack; omega, by have := h.out; omega⟩
theorem decNew_t {p : Pln} (h : planOk p = true) : (decNew p).plan = p ∧ (decNew p).stack = [] ∧ (decNew p).scan.bits = 0 := by unfold decNew; rw [if_pos h]; exact ⟨rfl, rfl, rfl⟩
structure Rdr where
  data : List UInt8
  at_ : Int
  script : List Rd
  next : Int
  code : Int
structure Strm where
  reader : Rdr
  dec : Dcd
  queue : List Ev
  reads : Int
def readerOk (r : Rdr) : Bool := decide ((r.data.length : Int) ≤ 4000) && within r.at_ 0 (r.data.length : Int) && decide ((r.script.length : Int) ≤ 200) && within r.next 0 (r.script.length : Int) && (decide (r.code = 0) || decide (r.code = 1) || decide (20 ≤ r.code))
theorem readerOk_t {a : Rdr} (h : readerOk a = true) : (a.data.length : Int) ≤ 4000 ∧ 0 ≤ a.at_ ∧ a.at_ ≤ (a.data.length : Int) ∧ (a.script.length : Int) ≤ 200 ∧ 0 ≤ a.next ∧ a.next ≤ (a.script.length : Int) ∧ (a.code = 0 ∨ a.code = 1 ∨ 20 ≤ a.code) := by
  simp only [readerOk, within, Bool.and_eq_true, Bool.or_eq_true, decide_eq_true_eq] at h
  omega
def rdr0 : Rdr := ⟨[], 0, [], 0, 0⟩
def rdrNew (data : List UInt8) (script : List Rd) : Rdr := if readerOk ⟨data, 0, script, 0, 0⟩ = true then ⟨data, 0, script, 0, 0⟩ else ⟨[], 0, [], 0, 0⟩
def rdrNewOk (data : List UInt8) (script : List Rd) : Bool := readerOk ⟨data, 0, script, 0, 0⟩
def dcd0 : Dcd := ⟨⟨[], 0, 0, 0⟩, 0, [], ⟨0, 0⟩, 0, 0, ⟨0, 0, false, false, 0⟩, 0, 0, ⟨0, 0, 0⟩, ⟨0, 0, 0, 0, [], 0, 0⟩⟩
def strmNewOk (p : Pln) (data : List UInt8) (script : List Rd) : Bool := rdrNewOk data script && planOk p
def strmNew (p : Pln) (data : List UInt8) (script : List Rd) : Strm := if strmNewOk p data script = true then ⟨rdrNew data script, decNew p, [], 0⟩ else ⟨rdr0, dcd0, [], 0⟩
def cRdr (x : Rdr) : List C := [.str x.data, .int .i64 x.at_, .seq .rd x.script, .int .i64 x.next, .int .i64 x.code]
def cStrm (x : Strm) : List C := [.str x.reader.data, .int .i64 x.reader.at_, .seq .rd x.reader.script, .int .i64 x.reader.next, .int .i64 x.reader.code, .seq .shp x.dec.plan.shapes, .int .i64 x.dec.plan.root, .int .i64 x.dec.plan.deep, .int .i64 x.dec.plan.most, .int .i64 x.dec.mode, .seq .lev x.dec.stack, .int .u64 x.dec.scan.bits, .int .i64 x.dec.scan.have_, .int .i64 x.dec.start, .int .i64 x.dec.at_, .int .i64 x.dec.field.number, .int .i64 x.dec.field.kind, .bool x.dec.field.rep, .bool x.dec.field.packed, .int .i64 x.dec.field.msg, .int .i64 x.dec.wire, .int .i64 x.dec.want, .int .i64 x.dec.utf.want, .int .i64 x.dec.utf.low, .int .i64 x.dec.utf.high, .int .i64 x.dec.end_.kind, .int .i64 x.dec.end_.field, .int .u64 x.dec.end_.bits, .int .i64 x.dec.end_.len, .str x.dec.end_.text, .int .i64 x.dec.end_.code, .int .i64 x.dec.end_.at_, .seq .ev x.queue, .int .i64 x.reads]
def oRdr2 (j2 : Nat) (x : Rdr) : List C := [.str x.data, .int .i64 x.at_, .own j2, .int .i64 x.next, .int .i64 x.code]
def oStrm2_5_10_32 (j2 : Nat) (j5 : Nat) (j10 : Nat) (j32 : Nat) (x : Strm) : List C := [.str x.reader.data, .int .i64 x.reader.at_, .own j2, .int .i64 x.reader.next, .int .i64 x.reader.code, .own j5, .int .i64 x.dec.plan.root, .int .i64 x.dec.plan.deep, .int .i64 x.dec.plan.most, .int .i64 x.dec.mode, .own j10, .int .u64 x.dec.scan.bits, .int .i64 x.dec.scan.have_, .int .i64 x.dec.start, .int .i64 x.dec.at_, .int .i64 x.dec.field.number, .int .i64 x.dec.field.kind, .bool x.dec.field.rep, .bool x.dec.field.packed, .int .i64 x.dec.field.msg, .int .i64 x.dec.wire, .int .i64 x.dec.want, .int .i64 x.dec.utf.want, .int .i64 x.dec.utf.low, .int .i64 x.dec.utf.high, .int .i64 x.dec.end_.kind, .int .i64 x.dec.end_.field, .int .u64 x.dec.end_.bits, .int .i64 x.dec.end_.len, .str x.dec.end_.text, .int .i64 x.dec.end_.code, .int .i64 x.dec.end_.at_, .own j32, .int .i64 x.reads]
theorem within_i (n : Int) (lo : Int) (hi : Int) : Fun Try.prog 49 [vI n, vI lo, vI hi] [] (.v (vB (within n lo hi))) [] := by
  have hN : bigN = 274877906944 := rfl
  refine fun_ofw Try.func49 (by kernel_rfl) (by kernel_rfl) (w := (.br (.leaf () []) (.leaf () []), ((decide (lo ≤ n)) = true → (.v (vB (decide (n ≤ hi))) : S) = .v (vB (within n lo hi)) ∧ ([] : List Blk) = []) ∧ ((decide (lo ≤ n)) = false → (.v (vB false) : S) = .v (vB (within n lo hi)) ∧ ([] : List Blk) = []))) (by kernel_rfl) ?_
  refine dsp (fun h1 p1 => ?_) fun h1 p1 => ?_
  exact ⟨(congrArg S.v (congrArg V.c (congrArg C.bool (by simp [within, *])))), rfl⟩
  exact ⟨(congrArg S.v (congrArg V.c (congrArg C.bool (by simp [within, *])))), rfl⟩
theorem within_s (n : Int) (lo : Int) (hi : Int) : Fun Try.prog 47 [vI n, vI lo, vI hi] [] (.v (vB (within n lo hi))) [] := by
  have hN : bigN = 274877906944 := rfl
  refine fun_ofw Try.func47 (by kernel_rfl) (by kernel_rfl) (w := (.br (.leaf () []) (.leaf () []), ((decide (lo ≤ n)) = true → (.v (vB (decide (n ≤ hi))) : S) = .v (vB (within n lo hi)) ∧ ([] : List Blk) = []) ∧ ((decide (lo ≤ n)) = false → (.v (vB false) : S) = .v (vB (within n lo hi)) ∧ ([] : List Blk) = []))) (by kernel_rfl) ?_
  refine dsp (fun h1 p1 => ?_) fun h1 p1 => ?_
  exact ⟨(congrArg S.v (congrArg V.c (congrArg C.bool (by simp [within, *])))), rfl⟩
  exact ⟨(congrArg S.v (congrArg V.c (congrArg C.bool (by simp [within, *])))), rfl⟩
theorem numberOk_i (n : Int) : Fun Try.prog 157 [vI n] [] (.v (vB (numberOk n))) [] := by
  have hN : bigN = 274877906944 := rfl
  refine fun_ofw Try.func157 (by kernel_rfl) (by kernel_rfl) (w := let z1 := within n 1 536870911; let z2 := within n 19000 19999; (.seg [.call [] (.v (vB z1)) []] (.br (.seg [.call [] (.v (vB z2)) []] (.leaf () [])) (.leaf () [])), (Fun Try.prog 49 [vI n, vI 1, vI 536870911] [] (.v (vB z1)) []) ∧ (z1 = true → (Fun Try.prog 49 [vI n, vI 19000, vI 19999] [] (.v (vB z2)) []) ∧ (.v (vB (!z2)) : S) = .v (vB (numberOk n)) ∧ ([] : List Blk) = []) ∧ (z1 = false → (.v (vB false) : S) = .v (vB (numberOk n)) ∧ ([] : List Blk) = []))) (by kernel_rfl) ?_
  refine ⟨(within_i _ _ _), fun h1 => have p1 := within_t h1; ?_, fun h1 => have p1 := within_f h1; ?_⟩
  exact ⟨(within_i _ _ _), (congrArg S.v (congrArg V.c (congrArg C.bool (by simp [numberOk, *])))), rfl⟩
  exact ⟨(congrArg S.v (congrArg V.c (congrArg C.bool (by simp [numberOk, *])))), rfl⟩
theorem numberOk_s (n : Int) : Fun Try.prog 154 [vI n] [] (.v (vB (numberOk n))) [] := by
  have hN : bigN = 274877906944 := rfl
  refine fun_ofw Try.func154 (by kernel_rfl) (by kernel_rfl) (w := let z1 := within n 1 536870911; let z2 := within n 19000 19999; (.seg [.call [] (.v (vB z1)) []] (.br (.seg [.call [] (.v (vB z2)) []] (.leaf () [])) (.leaf () [])), (Fun Try.prog 47 [vI n, vI 1, vI 536870911] [] (.v (vB z1)) []) ∧ (z1 = true → (Fun Try.prog 47 [vI n, vI 19000, vI 19999] [] (.v (vB z2)) []) ∧ (.v (vB (!z2)) : S) = .v (vB (numberOk n)) ∧ ([] : List Blk) = []) ∧ (z1 = false → (.v (vB false) : S) = .v (vB (numberOk n)) ∧ ([] : List Blk) = []))) (by kernel_rfl) ?_
  refine ⟨(within_s _ _ _), fun h1 => have p1 := within_t h1; ?_, fun h1 => have p1 := within_f h1; ?_⟩
  exact ⟨(within_s _ _ _), (congrArg S.v (congrArg V.c (congrArg C.bool (by simp [numberOk, *])))), rfl⟩
  exact ⟨(congrArg S.v (congrArg V.c (congrArg C.bool (by simp [numberOk, *])))), rfl⟩
theorem kindOk_i (k : Int) : Fun Try.prog 158 [vI k] [] (.v (vB (kindOk k))) [] := by
  have hN : bigN = 274877906944 := rfl
  refine fun_ofw Try.func158 (by kernel_rfl) (by kernel_rfl) (w := let z1 := vB (within k 1 8); (.seg [.call [] (.v z1) []] (.leaf () []), (Fun Try.prog 49 [vI k, vI 1, vI 8] [] (.v z1) []) ∧ (.v z1 : S) = .v (vB (kindOk k)) ∧ ([] : List Blk) = [])) (by kernel_rfl) ?_
  exact ⟨(within_i _ _ _), (congrArg S.v (congrArg V.c (congrArg C.bool (by rfl)))), rfl⟩
theorem kindOk_s (k : Int) : Fun Try.prog 123 [vI k] [] (.v (vB (kindOk k))) [] := by
  have hN : bigN = 274877906944 := rfl
  refine fun_ofw Try.func123 (by kernel_rfl) (by kernel_rfl) (w := let z1 := vB (within k 1 8); (.seg [.call [] (.v z1) []] (.leaf () []), (Fun Try.prog 47 [vI k, vI 1, vI 8] [] (.v z1) []) ∧ (.v z1 : S) = .v (vB (kindOk k)) ∧ ([] : List Blk) = [])) (by kernel_rfl) ?_
  exact ⟨(within_s _ _ _), (congrArg S.v (congrArg V.c (congrArg C.bool (by rfl)))), rfl⟩
theorem numeric_i (k : Int) : Fun Try.prog 133 [vI k] [] (.v (vB (numeric k))) [] := by
  have hN : bigN = 274877906944 := rfl
  refine fun_ofw Try.func133 (by kernel_rfl) (by kernel_rfl) (w := let z1 := vB (within k 1 5); (.seg [.call [] (.v z1) []] (.leaf () []), (Fun Try.prog 49 [vI k, vI 1, vI 5] [] (.v z1) []) ∧ (.v z1 : S) = .v (vB (numeric k)) ∧ ([] : List Blk) = [])) (by kernel_rfl) ?_
  exact ⟨(within_i _ _ _), (congrArg S.v (congrArg V.c (congrArg C.bool (by rfl)))), rfl⟩
theorem numeric_s (k : Int) : Fun Try.prog 155 [vI k] [] (.v (vB (numeric k))) [] := by
  have hN : bigN = 274877906944 := rfl
  refine fun_ofw Try.func155 (by kernel_rfl) (by kernel_rfl) (w := let z1 := vB (within k 1 5); (.seg [.call [] (.v z1) []] (.leaf () []), (Fun Try.prog 47 [vI k, vI 1, vI 5] [] (.v z1) []) ∧ (.v z1 : S) = .v (vB (numeric k)) ∧ ([] : List Blk) = [])) (by kernel_rfl) ?_
  exact ⟨(within_s _ _ _), (congrArg S.v (congrArg V.c (congrArg C.bool (by rfl)))), rfl⟩
structure putVar_s_V0 where
  u : Int
  out : List Int
structure varLen_i_V0 where
  u : Int
  n : Int
structure padVar_i_V0 where
  u : Int
  out : List Int
  v : Nat
structure varWithin_i_V0 where
  u : Int
  k : Nat
structure varWithin_s_V0 where
  u : Int
  k : Nat
structure getFix_i_V0 where
  u : Int
  v : Nat
structure getFix_s_V0 where
  u : Int
  i : Int
structure putFix_i_V0 where
  u : Int
  out : List Int
  v : Nat
structure putFix_s_V0 where
  u : Int
  out : List Int
  i : Nat
structure utfText_i_V0 where
  u : Utf
  v : Nat
structure utfText_s_V0 where
  u : Utf
  i : Nat
theorem fldOk_i (f : Fld) (before : Int) (n : Int) (hp1 : (0 : Int) ≤ n ∧ n ≤ 1000) : Fun Try.prog 118 [.agg (cFld f), vI before, vI n] [] (.v (vB (decide (before < (f).number) && fldOk f n))) [] := by
  have hN : bigN = 274877906944 := rfl
  refine fun_ofw Try.func118 (by kernel_rfl) (by kernel_rfl) (w := let z1 := vB (decide (before < (f).number) && fldOk f n); let z2 := vB (within f.msg 0 (n - 1)); let z4 := ([] : List Blk); let z5 := (.v (vB false) : S); let z6 := (.v (vI (IntKind.i64.wrap (n - 1))) : S) = .v (vI (n - 1)); let z7 := numberOk f.number; let z8 := numeric f.kind; let z9 := kindOk f.kind; let z10 := decide (f.kind = 8); let z3 := z10 = false → (.v (vB (decide (f.msg = (-1)))) : S) = .v z1 ∧ z4 = []; (.seg [.call [] (.v (vB z7)) []] (.br (.leaf () []) (.br (.leaf () []) (.seg [.call [] (.v (vB z9)) []] (.br (.leaf () []) (.br (.br (.leaf () []) (.seg [.call [] (.v (vB z8)) []] (.br (.leaf () []) (.br (.seg [.as 45 (.v (vI (n - 1))), .call [] (.v z2) []] (.leaf () [])) (.leaf () []))))) (.br (.seg [.as 45 (.v (vI (n - 1))), .call [] (.v z2) []] (.leaf () [])) (.leaf () []))))))), (Fun Try.prog 157 [vI f.number] [] (.v (vB z7)) []) ∧ ((!z7) = true → z5 = .v z1 ∧ z4 = []) ∧ ((!z7) = false → ((decide (f.number ≤ before)) = true → z5 = .v z1 ∧ z4 = []) ∧ ((decide (f.number ≤ before)) = false → (Fun Try.prog 158 [vI f.kind] [] (.v (vB z9)) []) ∧ ((!z9) = true → z5 = .v z1 ∧ z4 = []) ∧ ((!z9) = false → (f.packed = true → ((!f.rep) = true → z5 = .v z1 ∧ z4 = []) ∧ ((!f.rep) = false → (Fun Try.prog 133 [vI f.kind] [] (.v (vB z8)) []) ∧ ((!z8) = true → z5 = .v z1 ∧ z4 = []) ∧ ((!z8) = false → (z10 = true → z6 ∧ (Fun Try.prog 49 [vI f.msg, vI 0, vI (n - 1)] [] (.v z2) []) ∧ (.v z2 : S) = .v z1 ∧ z4 = []) ∧ z3))) ∧ (f.packed = false → (z10 = true → z6 ∧ (Fun Try.prog 49 [vI f.msg, vI 0, vI (n - 1)] [] (.v z2) []) ∧ (.v z2 : S) = .v z1 ∧ z4 = []) ∧ z3)))))) (by kernel_rfl) ?_
  refine ⟨(numberOk_i _), fun h1 => have q1 := bnot_t h1; ?_, fun h1 => have q1 := bnot_f h1; ?_⟩
  refine ⟨(sB ?_), rfl⟩
  rotate_left
  refine dsp (fun h2 p2 => ?_) fun h2 p2 => ?_
  refine ⟨(sB ?_), rfl⟩
  rotate_left
  refine ⟨(kindOk_i _), fun h3 => have q3 := bnot_t h3; have p3 := within_f q3; ?_, fun h3 => have q3 := bnot_f h3; have p3 := within_t q3; ?_⟩
  refine ⟨(sB ?_), rfl⟩
  rotate_left
  refine ⟨fun h4 => ?_, fun h4 => ?_⟩
  refine ⟨fun h5 => have q5 := bnot_t h5; ?_, fun h5 => have q5 := bnot_f h5; ?_⟩
  refine ⟨(sB ?_), rfl⟩
  rotate_left
  refine ⟨(numeric_i _), fun h6 => have q6 := bnot_t h6; have p6 := within_f q6; ?_, fun h6 => have q6 := bnot_f h6; have p6 := within_t q6; ?_⟩
  refine ⟨(sB ?_), rfl⟩
  rotate_left
  refine dsp (fun h7 p7 => ?_) fun h7 p7 => ?_
  refine ⟨(as_i64 (by omega) (by omega)), (within_i _ _ _), (sB ?_), rfl⟩
  rotate_left
  refine ⟨(sB ?_), rfl⟩
  rotate_left
  refine dsp (fun h5 p5 => ?_) fun h5 p5 => ?_
  refine ⟨(as_i64 (by omega) (by omega)), (within_i _ _ _), (sB ?_), rfl⟩
  rotate_left
  refine ⟨(sB ?_), rfl⟩
  rotate_left
  all_goals first | (simp [fldOk, *]; done) | (simp_all [fldOk]; done) | (simp_all [fldOk]; omega) | (rw [Bool.eq_iff_iff]; simp_all [fldOk]; omega)
theorem fldOk_s (s : List Shp) (f : Fld) (hp1 : s.length ≤ 1000) : Fun Try.prog 116 [.agg [.seq .shp s], .agg (cFld f)] [] (.v (vB (fldOk f (s.length : Int)))) [] := by
  have hN : bigN = 274877906944 := rfl
  refine fun_ofw Try.func116 (by kernel_rfl) (by kernel_rfl) (w := let z1 := (s.length : Int); let z2 := vB (within f.msg 0 (z1 - 1)); let z4 := vB (fldOk f z1); let z5 := ([] : List Blk); let z6 := (.v (vI (IntKind.i64.wrap (z1 - 1))) : S) = .v (vI (z1 - 1)); let z7 := numberOk f.number; let z8 := (.v (vB false) : S); let z9 := numeric f.kind; let z10 := kindOk f.kind; let z11 := decide (f.kind = 8); let z3 := z11 = false → (.v (vB (decide (f.msg = (-1)))) : S) = .v z4 ∧ z5 = []; (.seg [.call [] (.v (vB z7)) []] (.br (.leaf () []) (.seg [.call [] (.v (vB z10)) []] (.br (.leaf () []) (.br (.br (.leaf () []) (.seg [.call [] (.v (vB z9)) []] (.br (.leaf () []) (.br (.seg [.as 38 (.v (vI (z1 - 1))), .call [] (.v z2) []] (.leaf () [])) (.leaf () []))))) (.br (.seg [.as 38 (.v (vI (z1 - 1))), .call [] (.v z2) []] (.leaf () [])) (.leaf () [])))))), (Fun Try.prog 154 [vI f.number] [] (.v (vB z7)) []) ∧ ((!z7) = true → z8 = .v z4 ∧ z5 = []) ∧ ((!z7) = false → (Fun Try.prog 123 [vI f.kind] [] (.v (vB z10)) []) ∧ ((!z10) = true → z8 = .v z4 ∧ z5 = []) ∧ ((!z10) = false → (f.packed = true → ((!f.rep) = true → z8 = .v z4 ∧ z5 = []) ∧ ((!f.rep) = false → (Fun Try.prog 155 [vI f.kind] [] (.v (vB z9)) []) ∧ ((!z9) = true → z8 = .v z4 ∧ z5 = []) ∧ ((!z9) = false → (z11 = true → z6 ∧ (Fun Try.prog 47 [vI f.msg, vI 0, vI (z1 - 1)] [] (.v z2) []) ∧ (.v z2 : S) = .v z4 ∧ z5 = []) ∧ z3))) ∧ (f.packed = false → (z11 = true → z6 ∧ (Fun Try.prog 47 [vI f.msg, vI 0, vI (z1 - 1)] [] (.v z2) []) ∧ (.v z2 : S) = .v z4 ∧ z5 = []) ∧ z3))))) (by kernel_rfl) ?_
  refine ⟨(numberOk_s _), fun h1 => have q1 := bnot_t h1; ?_, fun h1 => have q1 := bnot_f h1; ?_⟩
  refine ⟨(sB ?_), rfl⟩
  rotate_left
  refine ⟨(kindOk_s _), fun h2 => have q2 := bnot_t h2; have p2 := within_f q2; ?_, fun h2 => have q2 := bnot_f h2; have p2 := within_t q2; ?_⟩
  refine ⟨(sB ?_), rfl⟩
  rotate_left
  refine ⟨fun h3 => ?_, fun h3 => ?_⟩
  refine ⟨fun h4 => have q4 := bnot_t h4; ?_, fun h4 => have q4 := bnot_f h4; ?_⟩
  refine ⟨(sB ?_), rfl⟩
  rotate_left
  refine ⟨(numeric_s _), fun h5 => have q5 := bnot_t h5; have p5 := within_f q5; ?_, fun h5 => have q5 := bnot_f h5; have p5 := within_t q5; ?_⟩
  refine ⟨(sB ?_), rfl⟩
  rotate_left
  refine dsp (fun h6 p6 => ?_) fun h6 p6 => ?_
  refine ⟨(as_i64 (by omega) (by omega)), (within_s _ _ _), (sB ?_), rfl⟩
  rotate_left
  refine ⟨(sB ?_), rfl⟩
  rotate_left
  refine dsp (fun h4 p4 => ?_) fun h4 p4 => ?_
  refine ⟨(as_i64 (by omega) (by omega)), (within_s _ _ _), (sB ?_), rfl⟩
  rotate_left
  refine ⟨(sB ?_), rfl⟩
  rotate_left
  all_goals first | (simp [fldOk, *]; done) | (simp_all [fldOk]; done) | (simp_all [fldOk]; omega) | (rw [Bool.eq_iff_iff]; simp_all [fldOk]; omega)
structure schemaOk_i_V0 where
  id : Int
  v : Nat
def schemaOk_i_F0 (s : List Shp) : Fam := ⟨schemaOk_i_V0, fun q1 => [(1, .v (vP 0)), (3, .v (vI q1.id)), (14, .v (.c (.seq .shp s))), (15, .v (vI (s.length : Int))), (16, .v (vI (q1.v : Int)))], fun _ => [.cells [.seq .shp s]], fun q1 => q1.v ≤ s.length ∧ shapesOk (s.length : Int) q1.id (List.drop q1.v s) = shapesOk (s.length : Int) 0 s, fun q1 => s.length - q1.v⟩
structure schemaOk_i_V1 where
  number : Int
  v : Nat
def schemaOk_i_F1 (s : List Shp) (q1 : schemaOk_i_V0) (x1 : Shp) : Fam := ⟨schemaOk_i_V1, fun q2 => [(1, .v (vP 0)), (5, .v (vP 1)), (6, .v (vI q2.number)), (14, .v (.c (.seq .shp s))), (15, .v (vI (s.length : Int))), (16, .v (vI (q1.v : Int))), (36, .v (.c (.seq .fld x1.fields))), (37, .v (vI (x1.fields.length : Int))), (38, .v (vI (q2.v : Int)))], fun _ => [.cells [.seq .shp s], .cells (cShp x1)], fun q2 => q2.v ≤ x1.fields.length ∧ fieldsOk (s.length : Int) q2.number (List.drop q2.v x1.fields) = fieldsOk (s.length : Int) 0 x1.fields, fun q2 => x1.fields.length - q2.v⟩
theorem schemaOk_i (s : List Shp) : Fun Try.prog 74 [.agg [.seq .shp s]] [] (.v (vB (schemaOk s))) [] := by
  have hN : bigN = 274877906944 := rfl
  refine fun_ofw Try.func74 (by kernel_rfl) (by kernel_rfl) (w := let z7 := (s.length : Int); let z8 := vB (schemaOk s); let z9 := (.v (vB false) : S); let z10 := ([] : List Blk); let z11 := schemaOk_i_F0 s; (.br (.leaf () []) (.seg [.at 0, .keep [1, 3, 14, 15, 16], .sel [0]] (.loop z11 fun q1 => .br (.intro (fun (x1 : Shp) => s[q1.v]? = some x1) fun x1 => .seg [.el .shp x1] (.br (.leaf () []) (.br (.leaf () []) (.br (.leaf () []) (.seg [.at 0, .keep [1, 5, 6, 14, 15, 16, 36, 37, 38], .sel [0, 1]] (.loop (schemaOk_i_F1 s q1 x1) fun q2 => .br (.intro (fun (x2 : Fld) => x1.fields[q2.v]? = some x2) fun x2 => .seg [.el .fld x2, .call [] (.v (vB (decide (q2.number < (x2).number) && fldOk x2 z7))) []] (.br (.leaf () []) (.seg [.as 51 (.v (vI ((q2.v : Int) + 1))), .at 0, .keep [1, 5, 6, 14, 15, 16, 36, 37, 38], .sel [0, 1]] (.next)))) (.seg [.as 54 (.v (vI ((q1.v : Int) + 1))), .at 0, .keep [1, 3, 14, 15, 16], .sel [0]] (.next)))))))) (.leaf () []))), ((decide (6 < z7)) = true → z9 = .v z8 ∧ z10 = []) ∧ ((decide (6 < z7)) = false → z11.Has [(1, .v (vP 0)), (3, .v (vI 0)), (14, .v (.c (.seq .shp s))), (15, .v (vI z7)), (16, .v (vI 0))] [.cells [.seq .shp s]] ∧ ∀ q1, z11.inv q1 → (let z6 := (q1.v : Int); ((decide (z6 < z7)) = true → (∃ (x1 : Shp), s[q1.v]? = some x1) ∧ ∀ (x1 : Shp), (s[q1.v]? = some x1) → (let z3 := (x1.fields.length : Int); let z4 := schemaOk_i_F1 s q1 x1; let z5 : List Blk := [.cells [.seq .shp s], .cells (cShp x1)]; (s[q1.v]? = some x1) ∧ ((0 : Int) ≤ z6) ∧ ((decide (x1.id ≤ q1.id)) = true → z9 = .v z8 ∧ z10 = []) ∧ ((decide (x1.id ≤ q1.id)) = false → ((decide (99 < x1.id)) = true → z9 = .v z8 ∧ z10 = []) ∧ ((decide (99 < x1.id)) = false → ((decide (8 < z3)) = true → z9 = .v z8 ∧ z10 = []) ∧ ((decide (8 < z3)) = false → z4.Has [(1, .v (vP 0)), (5, .v (vP 1)), (6, .v (vI 0)), (14, .v (.c (.seq .shp s))), (15, .v (vI z7)), (16, .v (vI z6)), (36, .v (.c (.seq .fld x1.fields))), (37, .v (vI z3)), (38, .v (vI 0))] z5 ∧ ∀ q2, z4.inv q2 → (let z2 := (q2.v : Int); ((decide (z2 < z3)) = true → (∃ (x2 : Fld), x1.fields[q2.v]? = some x2) ∧ ∀ (x2 : Fld), (x1.fields[q2.v]? = some x2) → (let z1 := decide (q2.number < (x2).number) && fldOk x2 z7; (x1.fields[q2.v]? = some x2) ∧ ((0 : Int) ≤ z2) ∧ (Fun Try.prog 118 [.agg (cFld x2), vI q2.number, vI z7] [] (.v (vB z1)) []) ∧ ((!z1) = true → z9 = .v z8 ∧ z10 = []) ∧ ((!z1) = false → ((.v (vI (IntKind.i64.wrap (z2 + 1))) : S) = .v (vI (z2 + 1))) ∧ z4.Nxt q2 [(1, .v (vP 0)), (5, .v (vP 1)), (6, .v (vI x2.number)), (14, .v (.c (.seq .shp s))), (15, .v (vI z7)), (16, .v (vI z6)), (36, .v (.c (.seq .fld x1.fields))), (37, .v (vI z3)), (38, .v (vI (z2 + 1)))] z5))) ∧ ((decide (z2 < z3)) = false → ((.v (vI (IntKind.i64.wrap (z6 + 1))) : S) = .v (vI (z6 + 1))) ∧ z11.Nxt q1 [(1, .v (vP 0)), (3, .v (vI x1.id)), (14, .v (.c (.seq .shp s))), (15, .v (vI z7)), (16, .v (vI (z6 + 1)))] [.cells [.seq .shp s]]))))))) ∧ ((decide (z6 < z7)) = false → (.v (vB true) : S) = .v z8 ∧ z10 = []))))) (by kernel_rfl) ?_
  refine dsp (fun h1 p1 => ?_) fun h1 p1 => ?_
  refine ⟨(sB ?_), rfl⟩
  rotate_left
  refine ⟨has_of (j := (⟨0, 0⟩ : schemaOk_i_V0)) (by first | rfl | simp) rfl (by dsimp only [schemaOk_i_F0]; exact ⟨by omega, rfl⟩), fun (q1 : schemaOk_i_V0) hq_q1 => ?_⟩
  have hi_q1 : q1.v ≤ s.length ∧ shapesOk (s.length : Int) q1.id (List.drop q1.v s) = shapesOk (s.length : Int) 0 s := hq_q1
  obtain ⟨v1, v2⟩ := hi_q1
  refine dsp (fun h2 p2 => ?_) fun h2 p2 => ?_
  refine ⟨(ax_get (l := s) (i := q1.v) (by omega)), fun x1 hx1 => ?_⟩
  rw [drop_el hx1, shapesOk] at v2
  refine ⟨hx1, (by omega), dsp (fun h3 p3 => ?_) fun h3 p3 => ?_⟩
  refine ⟨(sB ?_), rfl⟩
  rotate_left
  refine dsp (fun h4 p4 => ?_) fun h4 p4 => ?_
  refine ⟨(sB ?_), rfl⟩
  rotate_left
  refine dsp (fun h5 p5 => ?_) fun h5 p5 => ?_
  refine ⟨(sB ?_), rfl⟩
  rotate_left
  refine ⟨has_of (j := (⟨0, 0⟩ : schemaOk_i_V1)) (by first | rfl | simp) rfl (by dsimp only [schemaOk_i_F1]; exact ⟨by omega, rfl⟩), fun (q2 : schemaOk_i_V1) hq_q2 => ?_⟩
  have hi_q2 : q2.v ≤ x1.fields.length ∧ fieldsOk (s.length : Int) q2.number (List.drop q2.v x1.fields) = fieldsOk (s.length : Int) 0 x1.fields := hq_q2
  obtain ⟨w1, w2⟩ := hi_q2
  refine dsp (fun h6 p6 => ?_) fun h6 p6 => ?_
  refine ⟨(ax_get (l := x1.fields) (i := q2.v) (by omega)), fun x2 hx2 => ?_⟩
  rw [drop_el hx2, fieldsOk] at w2
  refine ⟨hx2, (by omega), (fldOk_i x2 _ _ (by omega)), fun h7 => have q7 := bnot_t h7; have p7 := (andF dT Iff.rfl).1 q7; ?_, fun h7 => have q7 := bnot_f h7; have p7 := (andT dT Iff.rfl).1 q7; ?_⟩
  refine ⟨(sB ?_), rfl⟩
  rotate_left
  exact ⟨(as_i64 (by omega) (by omega)), nxt_of (j := (⟨x2.number, q2.v + 1⟩ : schemaOk_i_V1)) (by first | rfl | simp) rfl (by dsimp only [schemaOk_i_F1]; exact ⟨by omega, by grind [fieldsOk]⟩) (by dsimp only [schemaOk_i_F1]; omega)⟩
  rw [drop_end p6] at w2
  exact ⟨(as_i64 (by omega) (by omega)), nxt_of (j := (⟨x1.id, q1.v + 1⟩ : schemaOk_i_V0)) (by first | rfl | simp) rfl (by dsimp only [schemaOk_i_F0]; exact ⟨by omega, by grind [shapesOk, fieldsOk]⟩) (by dsimp only [schemaOk_i_F0]; omega)⟩
  rw [drop_end p2] at v2
  refine ⟨(sB ?_), rfl⟩
  rotate_left
  all_goals grind [schemaOk, shapesOk, fieldsOk]
structure schemaOk_s_V0 where
  i : Nat
  pv : Int
def schemaOk_s_F0 (s : List Shp) : Fam := ⟨schemaOk_s_V0, fun q1 => [(1, .v (vP 0)), (3, .v (vI (q1.i : Int)))], fun _ => [.cells [.seq .shp s]], fun q1 => q1.i ≤ s.length ∧ (0 : Int) ≤ q1.pv ∧ (q1.i = 0 → q1.pv = 0) ∧ (∀ y, 0 < q1.i → s[Int.toNat ((q1.i : Int) - 1)]? = some y → q1.pv = y.id) ∧ shapesOk (s.length : Int) q1.pv (List.drop q1.i s) = shapesOk (s.length : Int) 0 s, fun q1 => s.length - q1.i⟩
structure schemaOk_s_V1 where
  k : Nat
  pv : Int
def schemaOk_s_F1 (s : List Shp) (q1 : schemaOk_s_V0) (x1 : Shp) : Fam := ⟨schemaOk_s_V1, fun q2 => [(1, .v (vP 0)), (3, .v (vI (q1.i : Int))), (4, .v (vP 1)), (5, .v (vI (q2.k : Int)))], fun _ => [.cells [.seq .shp s], .cells (cShp x1)], fun q2 => q2.k ≤ x1.fields.length ∧ (0 : Int) ≤ q2.pv ∧ (q2.k = 0 → q2.pv = 0) ∧ (∀ y, 0 < q2.k → x1.fields[Int.toNat ((q2.k : Int) - 1)]? = some y → q2.pv = y.number) ∧ fieldsOk (s.length : Int) q2.pv (List.drop q2.k x1.fields) = fieldsOk (s.length : Int) 0 x1.fields, fun q2 => x1.fields.length - q2.k⟩
theorem schemaOk_s (s : List Shp) : Fun Try.prog 70 [.agg [.seq .shp s]] [] (.v (vB (schemaOk s))) [] := by
  have hN : bigN = 274877906944 := rfl
  refine fun_ofw Try.func70 (by kernel_rfl) (by kernel_rfl) (w := let z25 := (s.length : Int); let z26 := (.v (vB false) : S); let z27 := vB (schemaOk s); let z28 := ([] : List Blk); let z29 := schemaOk_s_F0 s; let z30 := os 28 [6]; let z31 : List Blk := [.cells [.seq .shp s]]; (.br (.leaf () []) (.seg [.at 0, .keep [1, 3], .sel [0]] (.loop z29 fun q1 => let z23 := (q1.i : Int); .br (.intro (fun (x1 : Shp) => s[q1.i]? = some x1) fun x1 => let z17 := within x1.id 1 99; .seg [.el .shp x1] (.case (!z17) (.seg [.ord (os 26 [2]) [], .call [] (.v (vB z17)) [], .br true] (.leaf () [])) (.case (decide (0 < z23)) (.intro (fun (x2 : Shp) => s[Int.toNat (z23 - 1)]? = some x2) fun x2 => .case (decide (x1.id ≤ x2.id)) (.seg [.ord (os 26 [2]) [], .call [] (.v (vB z17)) [], .br false, .br true, .as 33 (.v (vI (z23 - 1))), .el .shp x2, .br true] (.leaf () [])) (.seg [.ord (os 26 [2]) [], .call [] (.v (vB z17)) [], .br false, .br true, .as 33 (.v (vI (z23 - 1))), .el .shp x2, .br false] (.br (.leaf () []) (.seg [.at 0, .keep [1, 3, 4, 5], .sel [0, 1]] (.loop (schemaOk_s_F1 s q1 x1) fun q2 => let z6 := (q2.k : Int); .br (.intro (fun (x3 : Fld) => x1.fields[q2.k]? = some x3) fun x3 => let z3 := fldOk x3 z25; .case (!z3) (.seg [.ord z30 [], .el .fld x3, .call [] (.v (vB z3)) [], .br true] (.leaf () [])) (.case (decide (0 < z6)) (.intro (fun (x4 : Fld) => x1.fields[Int.toNat (z6 - 1)]? = some x4) fun x4 => .seg [.ord z30 [], .el .fld x3, .call [] (.v (vB z3)) [], .br false, .br true, .as 70 (.v (vI (z6 - 1))), .el .fld x4, .el .fld x3] (.br (.leaf () []) (.seg [.as 54 (.v (vI (z6 + 1))), .at 0, .keep [1, 3, 4, 5], .sel [0, 1]] (.next)))) (.seg [.ord z30 [], .el .fld x3, .call [] (.v (vB z3)) [], .br false, .br false, .as 54 (.v (vI (z6 + 1))), .at 0, .keep [1, 3, 4, 5], .sel [0, 1]] (.next)))) (.seg [.as 16 (.v (vI (z23 + 1))), .at 0, .keep [1, 3], .sel [0]] (.next))))))) (.seg [.ord (os 26 [2]) [], .call [] (.v (vB z17)) [], .br false, .br false] (.br (.leaf () []) (.seg [.at 0, .keep [1, 3, 4, 5], .sel [0, 1]] (.loop (schemaOk_s_F1 s q1 x1) fun q2 => let z15 := (q2.k : Int); .br (.intro (fun (x2 : Fld) => x1.fields[q2.k]? = some x2) fun x2 => let z12 := fldOk x2 z25; .case (!z12) (.seg [.ord z30 [], .el .fld x2, .call [] (.v (vB z12)) [], .br true] (.leaf () [])) (.case (decide (0 < z15)) (.intro (fun (x3 : Fld) => x1.fields[Int.toNat (z15 - 1)]? = some x3) fun x3 => .seg [.ord z30 [], .el .fld x2, .call [] (.v (vB z12)) [], .br false, .br true, .as 70 (.v (vI (z15 - 1))), .el .fld x3, .el .fld x2] (.br (.leaf () []) (.seg [.as 54 (.v (vI (z15 + 1))), .at 0, .keep [1, 3, 4, 5], .sel [0, 1]] (.next)))) (.seg [.ord z30 [], .el .fld x2, .call [] (.v (vB z12)) [], .br false, .br false, .as 54 (.v (vI (z15 + 1))), .at 0, .keep [1, 3, 4, 5], .sel [0, 1]] (.next)))) (.seg [.as 16 (.v (vI (z23 + 1))), .at 0, .keep [1, 3], .sel [0]] (.next))))))))) (.leaf () []))), ((decide (6 < z25)) = true → z26 = .v z27 ∧ z28 = []) ∧ ((decide (6 < z25)) = false → z29.Has [(1, .v (vP 0)), (3, .v (vI 0))] z31 ∧ ∀ q1, z29.inv q1 → (let z24 := (q1.i : Int); ((decide (z24 < z25)) = true → (∃ (x1 : Shp), s[q1.i]? = some x1) ∧ ∀ (x1 : Shp), (s[q1.i]? = some x1) → (let z18 := (x1.fields.length : Int); let z19 : List Blk := [.cells [.seq .shp s], .cells (cShp x1)]; let z20 := within x1.id 1 99; let z21 := schemaOk_s_F1 s q1 x1; let z22 : List V := [vI x1.id, vI 1, vI 99]; (s[q1.i]? = some x1) ∧ ((0 : Int) ≤ z24) ∧ ((!z20) = true → (Fun Try.prog 47 z22 [] (.v (vB z20)) []) ∧ ((!z20) = true) ∧ z26 = .v z27 ∧ z28 = []) ∧ ((!z20) = false → ((decide (0 < z24)) = true → (∃ (x2 : Shp), s[Int.toNat (z24 - 1)]? = some x2) ∧ ∀ (x2 : Shp), (s[Int.toNat (z24 - 1)]? = some x2) → (let z8 := s[Int.toNat (z24 - 1)]? = some x2; let z9 := decide (x1.id ≤ x2.id); (z9 = true → (Fun Try.prog 47 z22 [] (.v (vB z20)) []) ∧ ((!z20) = false) ∧ ((decide (0 < z24)) = true) ∧ ((.v (vI (IntKind.i64.wrap (z24 - 1))) : S) = .v (vI (z24 - 1))) ∧ ((.v (vI (IntKind.i64.wrap (z24 - 1))) : S) = .v (vI (z24 - 1))) ∧ z8 ∧ ((0 : Int) ≤ z24 - 1) ∧ z8 ∧ ((0 : Int) ≤ z24 - 1) ∧ (z9 = true) ∧ z26 = .v z27 ∧ z28 = []) ∧ (z9 = false → (Fun Try.prog 47 z22 [] (.v (vB z20)) []) ∧ ((!z20) = false) ∧ ((decide (0 < z24)) = true) ∧ ((.v (vI (IntKind.i64.wrap (z24 - 1))) : S) = .v (vI (z24 - 1))) ∧ ((.v (vI (IntKind.i64.wrap (z24 - 1))) : S) = .v (vI (z24 - 1))) ∧ z8 ∧ ((0 : Int) ≤ z24 - 1) ∧ z8 ∧ ((0 : Int) ≤ z24 - 1) ∧ (z9 = false) ∧ ((decide (8 < z18)) = true → z26 = .v z27 ∧ z28 = []) ∧ ((decide (8 < z18)) = false → z21.Has [(1, .v (vP 0)), (3, .v (vI z24)), (4, .v (vP 1)), (5, .v (vI 0))] z19 ∧ ∀ q2, z21.inv q2 → (let z7 := (q2.k : Int); ((decide (z7 < z18)) = true → (∃ (x3 : Fld), x1.fields[q2.k]? = some x3) ∧ ∀ (x3 : Fld), (x1.fields[q2.k]? = some x3) → (let z4 := fldOk x3 z25; let z5 := x1.fields[q2.k]? = some x3; ((!z4) = true → z5 ∧ ((0 : Int) ≤ z7) ∧ z5 ∧ ((0 : Int) ≤ z7) ∧ (Fun Try.prog 116 [.agg [.seq .shp s], .agg (cFld x3)] [] (.v (vB z4)) []) ∧ ((!z4) = true) ∧ z26 = .v z27 ∧ z28 = []) ∧ ((!z4) = false → ((decide (0 < z7)) = true → (∃ (x4 : Fld), x1.fields[Int.toNat (z7 - 1)]? = some x4) ∧ ∀ (x4 : Fld), (x1.fields[Int.toNat (z7 - 1)]? = some x4) → (let z1 := x1.fields[Int.toNat (z7 - 1)]? = some x4; let z2 := decide (x3.number ≤ x4.number); z5 ∧ ((0 : Int) ≤ z7) ∧ z5 ∧ ((0 : Int) ≤ z7) ∧ (Fun Try.prog 116 [.agg [.seq .shp s], .agg (cFld x3)] [] (.v (vB z4)) []) ∧ ((!z4) = false) ∧ ((decide (0 < z7)) = true) ∧ ((.v (vI (IntKind.i64.wrap (z7 - 1))) : S) = .v (vI (z7 - 1))) ∧ ((.v (vI (IntKind.i64.wrap (z7 - 1))) : S) = .v (vI (z7 - 1))) ∧ z1 ∧ ((0 : Int) ≤ z7 - 1) ∧ z1 ∧ ((0 : Int) ≤ z7 - 1) ∧ z5 ∧ ((0 : Int) ≤ z7) ∧ z5 ∧ ((0 : Int) ≤ z7) ∧ (z2 = true → z26 = .v z27 ∧ z28 = []) ∧ (z2 = false → ((.v (vI (IntKind.i64.wrap (z7 + 1))) : S) = .v (vI (z7 + 1))) ∧ z21.Nxt q2 [(1, .v (vP 0)), (3, .v (vI z24)), (4, .v (vP 1)), (5, .v (vI (z7 + 1)))] z19))) ∧ ((decide (0 < z7)) = false → z5 ∧ ((0 : Int) ≤ z7) ∧ z5 ∧ ((0 : Int) ≤ z7) ∧ (Fun Try.prog 116 [.agg [.seq .shp s], .agg (cFld x3)] [] (.v (vB z4)) []) ∧ ((!z4) = false) ∧ ((decide (0 < z7)) = false) ∧ ((.v (vI (IntKind.i64.wrap (z7 + 1))) : S) = .v (vI (z7 + 1))) ∧ z21.Nxt q2 [(1, .v (vP 0)), (3, .v (vI z24)), (4, .v (vP 1)), (5, .v (vI (z7 + 1)))] z19)))) ∧ ((decide (z7 < z18)) = false → ((.v (vI (IntKind.i64.wrap (z24 + 1))) : S) = .v (vI (z24 + 1))) ∧ z29.Nxt q1 [(1, .v (vP 0)), (3, .v (vI (z24 + 1)))] z31)))))) ∧ ((decide (0 < z24)) = false → (Fun Try.prog 47 z22 [] (.v (vB z20)) []) ∧ ((!z20) = false) ∧ ((decide (0 < z24)) = false) ∧ ((decide (8 < z18)) = true → z26 = .v z27 ∧ z28 = []) ∧ ((decide (8 < z18)) = false → z21.Has [(1, .v (vP 0)), (3, .v (vI z24)), (4, .v (vP 1)), (5, .v (vI 0))] z19 ∧ ∀ q2, z21.inv q2 → (let z16 := (q2.k : Int); ((decide (z16 < z18)) = true → (∃ (x2 : Fld), x1.fields[q2.k]? = some x2) ∧ ∀ (x2 : Fld), (x1.fields[q2.k]? = some x2) → (let z13 := fldOk x2 z25; let z14 := x1.fields[q2.k]? = some x2; ((!z13) = true → z14 ∧ ((0 : Int) ≤ z16) ∧ z14 ∧ ((0 : Int) ≤ z16) ∧ (Fun Try.prog 116 [.agg [.seq .shp s], .agg (cFld x2)] [] (.v (vB z13)) []) ∧ ((!z13) = true) ∧ z26 = .v z27 ∧ z28 = []) ∧ ((!z13) = false → ((decide (0 < z16)) = true → (∃ (x3 : Fld), x1.fields[Int.toNat (z16 - 1)]? = some x3) ∧ ∀ (x3 : Fld), (x1.fields[Int.toNat (z16 - 1)]? = some x3) → (let z10 := x1.fields[Int.toNat (z16 - 1)]? = some x3; let z11 := decide (x2.number ≤ x3.number); z14 ∧ ((0 : Int) ≤ z16) ∧ z14 ∧ ((0 : Int) ≤ z16) ∧ (Fun Try.prog 116 [.agg [.seq .shp s], .agg (cFld x2)] [] (.v (vB z13)) []) ∧ ((!z13) = false) ∧ ((decide (0 < z16)) = true) ∧ ((.v (vI (IntKind.i64.wrap (z16 - 1))) : S) = .v (vI (z16 - 1))) ∧ ((.v (vI (IntKind.i64.wrap (z16 - 1))) : S) = .v (vI (z16 - 1))) ∧ z10 ∧ ((0 : Int) ≤ z16 - 1) ∧ z10 ∧ ((0 : Int) ≤ z16 - 1) ∧ z14 ∧ ((0 : Int) ≤ z16) ∧ z14 ∧ ((0 : Int) ≤ z16) ∧ (z11 = true → z26 = .v z27 ∧ z28 = []) ∧ (z11 = false → ((.v (vI (IntKind.i64.wrap (z16 + 1))) : S) = .v (vI (z16 + 1))) ∧ z21.Nxt q2 [(1, .v (vP 0)), (3, .v (vI z24)), (4, .v (vP 1)), (5, .v (vI (z16 + 1)))] z19))) ∧ ((decide (0 < z16)) = false → z14 ∧ ((0 : Int) ≤ z16) ∧ z14 ∧ ((0 : Int) ≤ z16) ∧ (Fun Try.prog 116 [.agg [.seq .shp s], .agg (cFld x2)] [] (.v (vB z13)) []) ∧ ((!z13) = false) ∧ ((decide (0 < z16)) = false) ∧ ((.v (vI (IntKind.i64.wrap (z16 + 1))) : S) = .v (vI (z16 + 1))) ∧ z21.Nxt q2 [(1, .v (vP 0)), (3, .v (vI z24)), (4, .v (vP 1)), (5, .v (vI (z16 + 1)))] z19)))) ∧ ((decide (z16 < z18)) = false → ((.v (vI (IntKind.i64.wrap (z24 + 1))) : S) = .v (vI (z24 + 1))) ∧ z29.Nxt q1 [(1, .v (vP 0)), (3, .v (vI (z24 + 1)))] z31))))))) ∧ ((decide (z24 < z25)) = false → (.v (vB true) : S) = .v z27 ∧ z28 = []))))) (by kernel_rfl) ?_
  refine dsp (fun h1 p1 => ?_) fun h1 p1 => ?_
  exact ⟨(congrArg S.v (congrArg V.c (congrArg C.bool (by unfold schemaOk; grind)))), rfl⟩
  refine ⟨has_of (j := (⟨0, 0⟩ : schemaOk_s_V0)) (by first | rfl | simp) rfl (by dsimp only [schemaOk_s_F0]; exact ⟨by omega, by omega, by omega, by omega, rfl⟩), fun (q1 : schemaOk_s_V0) hq_q1 => ?_⟩
  have hi_q1 : q1.i ≤ s.length ∧ (0 : Int) ≤ q1.pv ∧ (q1.i = 0 → q1.pv = 0) ∧ (∀ y, 0 < q1.i → s[Int.toNat ((q1.i : Int) - 1)]? = some y → q1.pv = y.id) ∧ shapesOk (s.length : Int) q1.pv (List.drop q1.i s) = shapesOk (s.length : Int) 0 s := hq_q1
  obtain ⟨v1, v2, v3, v4, v5⟩ := hi_q1
  refine dsp (fun h2 p2 => ?_) fun h2 p2 => ?_
  refine ⟨(ax_get (l := s) (i := q1.i) (by omega)), fun x1 hx1 => ?_⟩
  rw [drop_el hx1, shapesOk] at v5
  refine ⟨hx1, (by omega), fun h3 => have q3 := bnot_t h3; have p3 := within_f q3; ?_, fun h3 => have q3 := bnot_f h3; have p3 := within_t q3; ?_⟩
  exact ⟨(within_s _ _ _), h3, (congrArg S.v (congrArg V.c (congrArg C.bool (by unfold schemaOk; grind)))), rfl⟩
  refine dsp (fun h4 p4 => ?_) fun h4 p4 => ?_
  refine ⟨(ax_get (l := s) (i := Int.toNat ((q1.i : Int) - 1)) (by omega)), fun x2 hx2 => ?_⟩
  have hy := v4 _ (by omega) hx2
  refine dsp (fun h5 p5 => ?_) fun h5 p5 => ?_
  exact ⟨(within_s _ _ _), h3, h4, (as_i64 (by omega) (by omega)), (as_i64 (by omega) (by omega)), hx2, (by omega), hx2, (by omega), h5, (congrArg S.v (congrArg V.c (congrArg C.bool (by unfold schemaOk; grind)))), rfl⟩
  refine ⟨(within_s _ _ _), h3, h4, (as_i64 (by omega) (by omega)), (as_i64 (by omega) (by omega)), hx2, (by omega), hx2, (by omega), h5, dsp (fun h6 p6 => ?_) fun h6 p6 => ?_⟩
  exact ⟨(congrArg S.v (congrArg V.c (congrArg C.bool (by unfold schemaOk; grind)))), rfl⟩
  refine ⟨has_of (j := (⟨0, 0⟩ : schemaOk_s_V1)) (by first | rfl | simp) rfl (by dsimp only [schemaOk_s_F1]; exact ⟨by omega, by omega, by omega, by omega, rfl⟩), fun (q2 : schemaOk_s_V1) hq_q2 => ?_⟩
  have hi_q2 : q2.k ≤ x1.fields.length ∧ (0 : Int) ≤ q2.pv ∧ (q2.k = 0 → q2.pv = 0) ∧ (∀ y, 0 < q2.k → x1.fields[Int.toNat ((q2.k : Int) - 1)]? = some y → q2.pv = y.number) ∧ fieldsOk (s.length : Int) q2.pv (List.drop q2.k x1.fields) = fieldsOk (s.length : Int) 0 x1.fields := hq_q2
  obtain ⟨w1, w2, w3, w4, w5⟩ := hi_q2
  refine dsp (fun h7 p7 => ?_) fun h7 p7 => ?_
  refine ⟨(ax_get (l := x1.fields) (i := q2.k) (by omega)), fun x3 hx3 => ?_⟩
  rw [drop_el hx3, fieldsOk] at w5
  refine ⟨fun h8 => have q8 := bnot_t h8; ?_, fun h8 => have q8 := bnot_f h8; have p8 := fldOk_t q8; ?_⟩
  exact ⟨hx3, (by omega), hx3, (by omega), (fldOk_s s x3 (by omega)), h8, (congrArg S.v (congrArg V.c (congrArg C.bool (by unfold schemaOk; grind)))), rfl⟩
  refine dsp (fun h9 p9 => ?_) fun h9 p9 => ?_
  refine ⟨(ax_get (l := x1.fields) (i := Int.toNat ((q2.k : Int) - 1)) (by omega)), fun x4 hx4 => ?_⟩
  have hz := w4 _ (by omega) hx4
  refine ⟨hx3, (by omega), hx3, (by omega), (fldOk_s s x3 (by omega)), h8, h9, (as_i64 (by omega) (by omega)), (as_i64 (by omega) (by omega)), hx4, (by omega), hx4, (by omega), hx3, (by omega), hx3, (by omega), dsp (fun h10 p10 => ?_) fun h10 p10 => ?_⟩
  exact ⟨(congrArg S.v (congrArg V.c (congrArg C.bool (by unfold schemaOk; grind)))), rfl⟩
  exact ⟨(as_i64 (by omega) (by omega)), nxt_of (j := (⟨q2.k + 1, x3.number⟩ : schemaOk_s_V1)) (by first | rfl | simp) rfl (by dsimp only [schemaOk_s_F1]; exact ⟨by omega, by grind, by omega, by intro y h1 h2; rw [show Int.toNat ((((q2.k + 1) : Nat) : Int) - 1) = q2.k by omega] at h2; grind, by rw [← w5, decide_eq_true (show q2.pv < x3.number by omega), bnot_f (by assumption : (!fldOk x3 _) = false)]; simp⟩) (by dsimp only [schemaOk_s_F1]; omega)⟩
  exact ⟨hx3, (by omega), hx3, (by omega), (fldOk_s s x3 (by omega)), h8, h9, (as_i64 (by omega) (by omega)), nxt_of (j := (⟨q2.k + 1, x3.number⟩ : schemaOk_s_V1)) (by first | rfl | simp) rfl (by dsimp only [schemaOk_s_F1]; exact ⟨by omega, by grind, by omega, by intro y h1 h2; rw [show Int.toNat ((((q2.k + 1) : Nat) : Int) - 1) = q2.k by omega] at h2; grind, by rw [← w5, decide_eq_true (show q2.pv < x3.number by omega), bnot_f (by assumption : (!fldOk x3 _) = false)]; simp⟩) (by dsimp only [schemaOk_s_F1]; omega)⟩
  rw [drop_end p7, fieldsOk] at w5
  exact ⟨(as_i64 (by omega) (by omega)), nxt_of (j := (⟨q1.i + 1, x1.id⟩ : schemaOk_s_V0)) (by first | rfl | simp) rfl (by dsimp only [schemaOk_s_F0]; exact ⟨by omega, by grind, by omega, by intro y h1 h2; rw [show Int.toNat ((((q1.i + 1) : Nat) : Int) - 1) = q1.i by omega] at h2; grind, by rw [← v5, decide_eq_true (show q1.pv < x1.id by omega), decide_eq_true (show x1.id ≤ 99 by omega), decide_eq_true (show (x1.fields.length : Int) ≤ 8 by omega), ← w5]; simp⟩) (by dsimp only [schemaOk_s_F0]; omega)⟩
  refine ⟨(within_s _ _ _), h3, h4, dsp (fun h5 p5 => ?_) fun h5 p5 => ?_⟩
  exact ⟨(congrArg S.v (congrArg V.c (congrArg C.bool (by unfold schemaOk; grind)))), rfl⟩
  refine ⟨has_of (j := (⟨0, 0⟩ : schemaOk_s_V1)) (by first | rfl | simp) rfl (by dsimp only [schemaOk_s_F1]; exact ⟨by omega, by omega, by omega, by omega, rfl⟩), fun (q2 : schemaOk_s_V1) hq_q2 => ?_⟩
  have hi_q2 : q2.k ≤ x1.fields.length ∧ (0 : Int) ≤ q2.pv ∧ (q2.k = 0 → q2.pv = 0) ∧ (∀ y, 0 < q2.k → x1.fields[Int.toNat ((q2.k : Int) - 1)]? = some y → q2.pv = y.number) ∧ fieldsOk (s.length : Int) q2.pv (List.drop q2.k x1.fields) = fieldsOk (s.length : Int) 0 x1.fields := hq_q2
  obtain ⟨w1, w2, w3, w4, w5⟩ := hi_q2
  refine dsp (fun h6 p6 => ?_) fun h6 p6 => ?_
  refine ⟨(ax_get (l := x1.fields) (i := q2.k) (by omega)), fun x2 hx2 => ?_⟩
  rw [drop_el hx2, fieldsOk] at w5
  refine ⟨fun h7 => have q7 := bnot_t h7; ?_, fun h7 => have q7 := bnot_f h7; have p7 := fldOk_t q7; ?_⟩
  exact ⟨hx2, (by omega), hx2, (by omega), (fldOk_s s x2 (by omega)), h7, (congrArg S.v (congrArg V.c (congrArg C.bool (by unfold schemaOk; grind)))), rfl⟩
  refine dsp (fun h8 p8 => ?_) fun h8 p8 => ?_
  refine ⟨(ax_get (l := x1.fields) (i := Int.toNat ((q2.k : Int) - 1)) (by omega)), fun x3 hx3 => ?_⟩
  have hz := w4 _ (by omega) hx3
  refine ⟨hx2, (by omega), hx2, (by omega), (fldOk_s s x2 (by omega)), h7, h8, (as_i64 (by omega) (by omega)), (as_i64 (by omega) (by omega)), hx3, (by omega), hx3, (by omega), hx2, (by omega), hx2, (by omega), dsp (fun h9 p9 => ?_) fun h9 p9 => ?_⟩
  exact ⟨(congrArg S.v (congrArg V.c (congrArg C.bool (by unfold schemaOk; grind)))), rfl⟩
  exact ⟨(as_i64 (by omega) (by omega)), nxt_of (j := (⟨q2.k + 1, x2.number⟩ : schemaOk_s_V1)) (by first | rfl | simp) rfl (by dsimp only [schemaOk_s_F1]; exact ⟨by omega, by grind, by omega, by intro y h1 h2; rw [show Int.toNat ((((q2.k + 1) : Nat) : Int) - 1) = q2.k by omega] at h2; grind, by rw [← w5, decide_eq_true (show q2.pv < x2.number by omega), bnot_f (by assumption : (!fldOk x2 _) = false)]; simp⟩) (by dsimp only [schemaOk_s_F1]; omega)⟩
  exact ⟨hx2, (by omega), hx2, (by omega), (fldOk_s s x2 (by omega)), h7, h8, (as_i64 (by omega) (by omega)), nxt_of (j := (⟨q2.k + 1, x2.number⟩ : schemaOk_s_V1)) (by first | rfl | simp) rfl (by dsimp only [schemaOk_s_F1]; exact ⟨by omega, by grind, by omega, by intro y h1 h2; rw [show Int.toNat ((((q2.k + 1) : Nat) : Int) - 1) = q2.k by omega] at h2; grind, by rw [← w5, decide_eq_true (show q2.pv < x2.number by omega), bnot_f (by assumption : (!fldOk x2 _) = false)]; simp⟩) (by dsimp only [schemaOk_s_F1]; omega)⟩
  rw [drop_end p6, fieldsOk] at w5
  exact ⟨(as_i64 (by omega) (by omega)), nxt_of (j := (⟨q1.i + 1, x1.id⟩ : schemaOk_s_V0)) (by first | rfl | simp) rfl (by dsimp only [schemaOk_s_F0]; exact ⟨by omega, by grind, by omega, by intro y h1 h2; rw [show Int.toNat ((((q1.i + 1) : Nat) : Int) - 1) = q1.i by omega] at h2; grind, by rw [← v5, decide_eq_true (show q1.pv < x1.id by omega), decide_eq_true (show x1.id ≤ 99 by omega), decide_eq_true (show (x1.fields.length : Int) ≤ 8 by omega), ← w5]; simp⟩) (by dsimp only [schemaOk_s_F0]; omega)⟩
  rw [drop_end p2, shapesOk] at v5
  exact ⟨(congrArg S.v (congrArg V.c (congrArg C.bool (by unfold schemaOk; grind)))), rfl⟩
structure fieldAt_i_V0 where
  v : Nat
structure fieldAt_s_V0 where
  i : Nat
theorem planOk_i (p : Pln) : Fun Try.prog 42 [.agg (cPln p)] [] (.v (vB (planOk p))) [] := by
  have hN : bigN = 274877906944 := rfl
  refine fun_ofw Try.func42 (by kernel_rfl) (by kernel_rfl) (w := let z1 := (p.shapes.length : Int) - 1; let z2 := within p.root 0 z1; let z3 := schemaOk p.shapes; let z4 := within p.deep 1 8; let z5 := vB (within p.most 0 2000); let z6 := vB (planOk p); let z7 := ([] : List Blk); let z8 := (.v (vB false) : S); (.seg [.call [] (.v (vB z3)) []] (.br (.seg [.as 13 (.v (vI z1)), .call [] (.v (vB z2)) []] (.br (.seg [.call [] (.v (vB z4)) []] (.br (.seg [.call [] (.v z5) []] (.leaf () [])) (.leaf () []))) (.leaf () []))) (.leaf () [])), (Fun Try.prog 74 [.agg [.seq .shp p.shapes]] [] (.v (vB z3)) []) ∧ (z3 = true → ((.v (vI (IntKind.i64.wrap z1)) : S) = .v (vI z1)) ∧ (Fun Try.prog 49 [vI p.root, vI 0, vI z1] [] (.v (vB z2)) []) ∧ (z2 = true → (Fun Try.prog 49 [vI p.deep, vI 1, vI 8] [] (.v (vB z4)) []) ∧ (z4 = true → (Fun Try.prog 49 [vI p.most, vI 0, vI 2000] [] (.v z5) []) ∧ (.v z5 : S) = .v z6 ∧ z7 = []) ∧ (z4 = false → z8 = .v z6 ∧ z7 = [])) ∧ (z2 = false → z8 = .v z6 ∧ z7 = [])) ∧ (z3 = false → z8 = .v z6 ∧ z7 = []))) (by kernel_rfl) ?_
  refine ⟨(schemaOk_i p.shapes), fun h1 => have p1 := schemaOk_t h1; ?_, fun h1 => ?_⟩
  refine ⟨(as_i64 (by omega) (by omega)), (within_i _ _ _), fun h2 => have p2 := within_t h2; ?_, fun h2 => have p2 := within_f h2; ?_⟩
  refine ⟨(within_i _ _ _), fun h3 => have p3 := within_t h3; ?_, fun h3 => have p3 := within_f h3; ?_⟩
  exact ⟨(within_i _ _ _), (congrArg S.v (congrArg V.c (congrArg C.bool (by grind [planOk])))), rfl⟩
  exact ⟨(congrArg S.v (congrArg V.c (congrArg C.bool (by grind [planOk])))), rfl⟩
  exact ⟨(congrArg S.v (congrArg V.c (congrArg C.bool (by grind [planOk])))), rfl⟩
  exact ⟨(congrArg S.v (congrArg V.c (congrArg C.bool (by grind [planOk])))), rfl⟩
theorem planOk_s (p : Pln) : Fun Try.prog 39 [.agg (cPln p)] [] (.v (vB (planOk p))) [] := by
  have hN : bigN = 274877906944 := rfl
  refine fun_ofw Try.func39 (by kernel_rfl) (by kernel_rfl) (w := let z1 := (p.shapes.length : Int) - 1; let z2 := within p.root 0 z1; let z3 := schemaOk p.shapes; let z4 := within p.deep 1 8; let z5 := vB (within p.most 0 2000); let z6 := vB (planOk p); let z7 := ([] : List Blk); let z8 := (.v (vB false) : S); (.seg [.call [] (.v (vB z3)) []] (.br (.seg [.as 13 (.v (vI z1)), .call [] (.v (vB z2)) []] (.br (.seg [.call [] (.v (vB z4)) []] (.br (.seg [.call [] (.v z5) []] (.leaf () [])) (.leaf () []))) (.leaf () []))) (.leaf () [])), (Fun Try.prog 70 [.agg [.seq .shp p.shapes]] [] (.v (vB z3)) []) ∧ (z3 = true → ((.v (vI (IntKind.i64.wrap z1)) : S) = .v (vI z1)) ∧ (Fun Try.prog 47 [vI p.root, vI 0, vI z1] [] (.v (vB z2)) []) ∧ (z2 = true → (Fun Try.prog 47 [vI p.deep, vI 1, vI 8] [] (.v (vB z4)) []) ∧ (z4 = true → (Fun Try.prog 47 [vI p.most, vI 0, vI 2000] [] (.v z5) []) ∧ (.v z5 : S) = .v z6 ∧ z7 = []) ∧ (z4 = false → z8 = .v z6 ∧ z7 = [])) ∧ (z2 = false → z8 = .v z6 ∧ z7 = [])) ∧ (z3 = false → z8 = .v z6 ∧ z7 = []))) (by kernel_rfl) ?_
  refine ⟨(schemaOk_s p.shapes), fun h1 => have p1 := schemaOk_t h1; ?_, fun h1 => ?_⟩
  refine ⟨(as_i64 (by omega) (by omega)), (within_s _ _ _), fun h2 => have p2 := within_t h2; ?_, fun h2 => have p2 := within_f h2; ?_⟩
  refine ⟨(within_s _ _ _), fun h3 => have p3 := within_t h3; ?_, fun h3 => have p3 := within_f h3; ?_⟩
  exact ⟨(within_s _ _ _), (congrArg S.v (congrArg V.c (congrArg C.bool (by grind [planOk])))), rfl⟩
  exact ⟨(congrArg S.v (congrArg V.c (congrArg C.bool (by grind [planOk])))), rfl⟩
  exact ⟨(congrArg S.v (congrArg V.c (congrArg C.bool (by grind [planOk])))), rfl⟩
  exact ⟨(congrArg S.v (congrArg V.c (congrArg C.bool (by grind [planOk])))), rfl⟩
theorem cloneFld (l : List Fld) (hp1 : l.length ≤ bigN) : Fun Try.prog 174 [.c (.seq .fld l)] [] (.v (vO 0)) [.lst .fld l] := by
  refine ⟨callable_of Try.func174 (by kernel_rfl) (by kernel_rfl), ?_⟩
  have key : Sm Try.prog 8 0 (regAt Try.f174 1) [(2, .v (.c .nil)), (0, .v (.c (.seq .fld l)))] [] .ret [(2, .v (.c (.own 0)))] [.lst .fld l] := by
    refine Sm.nilTest' (s := 0) (t3 := 3) (t4 := 4) (t := .fld) (l := l) rfl rfl rfl rfl rfl rfl rfl Try.underlying167 (by kernel_rfl) rfl rfl rfl fun p hp => ?_
    cases p with
    | true =>
      have hl := hp rfl
      subst hl
      exact .inr ⟨by decide, piece_sound (ds := [.br true, .at 0, .mkS 2 .fld, .keep [2], .sel [0]]) (ob := [true = true]) (by kernel_rfl) ⟨rfl, trivial⟩⟩
    | false =>
      exact .inl ⟨[(0, .v (.c (.seq .fld l)))], [], piece_sound (ds := [.br false, .at 0, .keep [0], .sel []]) (ob := [false = false]) (by kernel_rfl) ⟨rfl, trivial⟩,
        (piece_sound (tm' := [(2, .v (.c (.own 0)))]) (H' := [.lst .fld ([] ++ l)]) (ds := [.ty .fld, .ty .fld, .at 0, .keep [2], .sel [1]]) (ob := [List.length ([] : List Fld) + l.length ≤ bigN]) (by kernel_rfl) ⟨by simpa using hp1, trivial⟩).to (by rfl) (by rfl)⟩
  exact walk_sound Try.func174 (res := .v (.c (.own 0))) (L' := [.lst .fld l]) (ds := [.jump 1 .ret [(2, .v (.c (.own 0)))] [.lst .fld l]]) (σ := [0]) (ob := [Sm Try.prog 8 0 (regAt Try.f174 1) [(2, .v (.c .nil)), (0, .v (.c (.seq .fld l)))] [] .ret [(2, .v (.c (.own 0)))] [.lst .fld l]]) (by kernel_rfl) ⟨key, trivial⟩
structure copySch_i_V0 where
  sh : List Shp
  v : Nat
def copySch_i_F0 (s : List Shp) : Fam := ⟨copySch_i_V0, fun q1 => [(2, .v (vP 0)), (3, .v (vP 1)), (8, .v (.c (.seq .shp s))), (9, .v (vI (s.length : Int))), (10, .v (vI (q1.v : Int)))], fun q1 => [.cells [.nil], .cells [.own 2], .tree q1.sh], fun q1 => q1.v ≤ s.length ∧ q1.sh = List.take q1.v s, fun q1 => s.length - q1.v⟩
theorem copySch_i (s : List Shp) (hp1 : s.length ≤ 1048576) (hp2 : ∀ e ∈ s, e.fields.length ≤ 1048576) : Fun Try.prog 150 [.agg [.seq .shp s]] [] (.v (.agg [.own 0])) [.tree s] := by
  have hN : bigN = 274877906944 := rfl
  refine fun_ofw Try.func150 (by kernel_rfl) (by kernel_rfl) (w := let z2 := (s.length : Int); let z3 := copySch_i_F0 s; (.seg [.at 0, .mkT 2 0, .keep [2, 3, 8, 9, 10], .sel [1, 2, 3]] (.loop z3 fun q1 => .br (.intro (fun (x1 : Shp) => s[q1.v]? = some x1) fun x1 => .seg [.el .shp x1, .ord (os 12 [6, 8, 9, 11]) [2], .call [] (.v (vO 0)) [.lst .fld x1.fields], .tyT, .tyT, .as 25 (.v (vI ((q1.v : Int) + 1))), .at 0, .keep [2, 3, 8, 9, 10], .sel [0, 1, 6]] (.next)) (.leaf () [2])), z3.Has [(2, .v (vP 0)), (3, .v (vP 1)), (8, .v (.c (.seq .shp s))), (9, .v (vI z2)), (10, .v (vI 0))] [.cells [.nil], .cells [.own 2], .tree ([] : List Shp)] ∧ ∀ q1, z3.inv q1 → (let z1 := (q1.v : Int); ((decide (z1 < z2)) = true → (∃ (x1 : Shp), s[q1.v]? = some x1) ∧ ∀ (x1 : Shp), (s[q1.v]? = some x1) → ((s[q1.v]? = some x1) ∧ ((0 : Int) ≤ z1) ∧ (Fun Try.prog 174 [.c (.seq .fld x1.fields)] [] (.v (vO 0)) [.lst .fld x1.fields]) ∧ (q1.sh.length + List.length [(⟨x1.id, x1.fields⟩ : Shp)] ≤ bigN) ∧ ((.v (vI (IntKind.i64.wrap (z1 + 1))) : S) = .v (vI (z1 + 1))) ∧ z3.Nxt q1 [(2, .v (vP 0)), (3, .v (vP 1)), (8, .v (.c (.seq .shp s))), (9, .v (vI z2)), (10, .v (vI (z1 + 1)))] [.cells [.nil], .cells [.own 2], .tree (q1.sh ++ [(⟨x1.id, x1.fields⟩ : Shp)])])) ∧ ((decide (z1 < z2)) = false → (.v (.agg [.own 0]) : S) = .v (.agg [.own 0]) ∧ ([.tree q1.sh] : List Blk) = [.tree s])))) (by kernel_rfl) ?_
  refine ⟨has_of (j := (⟨([] : List Shp), 0⟩ : copySch_i_V0)) (by first | rfl | simp) rfl (by dsimp only [copySch_i_F0]; exact ⟨by omega, by simp⟩), fun (q1 : copySch_i_V0) hq_q1 => ?_⟩
  have hi_q1 : q1.v ≤ s.length ∧ q1.sh = List.take q1.v s := hq_q1
  obtain ⟨v1, v2⟩ := hi_q1
  have hsl := congrArg List.length v2
  rw [List.length_take] at hsl
  refine dsp (fun h1 p1 => ?_) fun h1 p1 => ?_
  refine ⟨(ax_get (l := s) (i := q1.v) (by omega)), fun x1 hx1 => ?_⟩
  have hfx := hp2 x1 (List.mem_of_getElem? hx1)
  exact ⟨hx1, (by omega), (cloneFld x1.fields (by omega)), (by simp only [List.length_cons, List.length_nil]; omega), (as_i64 (by omega) (by omega)), nxt_of (j := (⟨q1.sh ++ [(⟨x1.id, x1.fields⟩ : Shp)], q1.v + 1⟩ : copySch_i_V0)) (by first | rfl | simp) rfl (by dsimp only [copySch_i_F0]; exact ⟨by omega, by rw [v2, List.take_succ_eq_append_getElem (by omega)]; simp [(List.getElem?_eq_some_iff.1 hx1).2]⟩) (by dsimp only [copySch_i_F0]; omega)⟩
  refine ⟨rfl, (consE (congrArg Blk.tree ?_) rfl)⟩
  rotate_left
  all_goals first | (rfl) | ((rw [v2, List.take_of_length_le (by omega)]; done))
theorem copyPln_i (p : Pln) (hp1 : List.length (p).shapes ≤ 1048576) (hp2 : ∀ e ∈ (p).shapes, e.fields.length ≤ 1048576) : Fun Try.prog 106 [.agg (cPln p)] [] (.v (.agg (oPln0 0 p))) [.tree p.shapes] := by
  have hN : bigN = 274877906944 := rfl
  refine fun_ofw Try.func106 (by kernel_rfl) (by kernel_rfl) (w := (.seg [.call [] (.v (.agg [.own 0])) [.tree p.shapes]] (.leaf () [2]), (Fun Try.prog 150 [.agg [.seq .shp p.shapes]] [] (.v (.agg [.own 0])) [.tree p.shapes]) ∧ (.v (.agg (oPln0 0 p)) : S) = .v (.agg (oPln0 0 p)) ∧ ([.tree p.shapes] : List Blk) = [.tree p.shapes])) (by kernel_rfl) ?_
  exact ⟨(copySch_i p.shapes (by omega) (hp2)), rfl, rfl⟩
theorem decNew_i (p : Pln) (hp1 : List.length (p).shapes ≤ bigN) : Fun Try.prog 61 [.agg (cPln p)] [] (.tup [.agg (oDcd0_5 0 1 (decNew p)), vB (planOk p)]) [.tree (decNew p).plan.shapes, .lst .lev (decNew p).stack] := by
  have hN : bigN = 274877906944 := rfl
  refine fun_ofw Try.func61 (by kernel_rfl) (by kernel_rfl) (w := let zi : Int → C := .int .i64; let z1 : List C := [.own 1, .int .u64 0, zi 0, zi 0, zi 0, zi 0, zi 0, .bool false, .bool false, zi 0, zi 0, zi 0, zi 0, zi 0, zi 0, zi 0, zi 0, .int .u64 0, zi 0, .str [], zi 0, zi 0]; let z2 := planOk p; let z3 := decNew p; (.seg [.call [] (.v (vB z2)) []] (.br (.seg [.at 0, .mkT 1 0, .mk 1 5 .lev] (.leaf () [2, 3])) (.seg [.call [] (.v (.agg (oPln0 0 p))) [.tree p.shapes], .at 0, .mk 1 5 .lev] (.leaf () [2, 3]))), (Fun Try.prog 42 [.agg (cPln p)] [] (.v (vB z2)) []) ∧ ((!z2) = true → (.tup [.agg (.own 0 :: zi 0 :: zi 0 :: zi 0 :: zi 0 :: z1), vB false] : S) = .tup [.agg (oDcd0_5 0 1 z3), vB z2] ∧ ([.tree ([] : List Shp), .lst .lev ([] : List Lev)] : List Blk) = [.tree z3.plan.shapes, .lst .lev z3.stack]) ∧ ((!z2) = false → (Fun Try.prog 106 [.agg (cPln p)] [] (.v (.agg (oPln0 0 p))) [.tree p.shapes]) ∧ (.tup [.agg (.own 0 :: zi p.root :: zi p.deep :: zi p.most :: zi 1 :: z1), vB true] : S) = .tup [.agg (oDcd0_5 0 1 z3), vB z2] ∧ ([.tree p.shapes, .lst .lev ([] : List Lev)] : List Blk) = [.tree z3.plan.shapes, .lst .lev z3.stack]))) (by kernel_rfl) ?_
  refine ⟨(planOk_i p), fun h1 => have q1 := bnot_t h1; ?_, fun h1 => have q1 := bnot_f h1; have p1 := planOk_t q1; ?_⟩
  refine have hm1 : decNew p = (⟨(⟨([] : List Shp), 0, 0, 0⟩ : Pln), 0, ([] : List Lev), (⟨0, 0⟩ : Scn), 0, 0, (⟨0, 0, false, false, 0⟩ : Fld), 0, 0, utf0, (⟨0, 0, 0, 0, [], 0, 0⟩ : Ev)⟩ : Dcd) := ?_; ?_
  rotate_left
  refine ⟨(congrArg S.tup (consE (congrArg V.agg (consE rfl (consE (congrArg (C.int .i64) ?_) (consE (congrArg (C.int .i64) ?_) (consE (congrArg (C.int .i64) ?_) (consE (congrArg (C.int .i64) ?_) (consE rfl (consE (congrArg (C.int .u64) ?_) (consE (congrArg (C.int .i64) ?_) (consE (congrArg (C.int .i64) ?_) (consE (congrArg (C.int .i64) ?_) (consE (congrArg (C.int .i64) ?_) (consE (congrArg (C.int .i64) ?_) (consE (congrArg C.bool ?_) (consE (congrArg C.bool ?_) (consE (congrArg (C.int .i64) ?_) (consE (congrArg (C.int .i64) ?_) (consE (congrArg (C.int .i64) ?_) (consE (congrArg (C.int .i64) ?_) (consE (congrArg (C.int .i64) ?_) (consE (congrArg (C.int .i64) ?_) (consE (congrArg (C.int .i64) ?_) (consE (congrArg (C.int .i64) ?_) (consE (congrArg (C.int .u64) ?_) (consE (congrArg (C.int .i64) ?_) (consE (congrArg C.str ?_) (consE (congrArg (C.int .i64) ?_) (consE (congrArg (C.int .i64) ?_) rfl)))))))))))))))))))))))))))) (consE (congrArg V.c (congrArg C.bool ?_)) rfl))), (by rw [hm1] <;> rfl)⟩
  rotate_left 26
  have hpt := planOk_t q1
  refine ⟨(copyPln_i p (by omega) (schemaOk_fields20 hpt.2.1)), ?_⟩
  refine have hm1 : decNew p = (⟨p, 1, ([] : List Lev), (⟨0, 0⟩ : Scn), 0, 0, (⟨0, 0, false, false, 0⟩ : Fld), 0, 0, utf0, (⟨0, 0, 0, 0, [], 0, 0⟩ : Ev)⟩ : Dcd) := ?_; ?_
  rotate_left
  refine ⟨(congrArg S.tup (consE (congrArg V.agg (consE rfl (consE (congrArg (C.int .i64) ?_) (consE (congrArg (C.int .i64) ?_) (consE (congrArg (C.int .i64) ?_) (consE (congrArg (C.int .i64) ?_) (consE rfl (consE (congrArg (C.int .u64) ?_) (consE (congrArg (C.int .i64) ?_) (consE (congrArg (C.int .i64) ?_) (consE (congrArg (C.int .i64) ?_) (consE (congrArg (C.int .i64) ?_) (consE (congrArg (C.int .i64) ?_) (consE (congrArg C.bool ?_) (consE (congrArg C.bool ?_) (consE (congrArg (C.int .i64) ?_) (consE (congrArg (C.int .i64) ?_) (consE (congrArg (C.int .i64) ?_) (consE (congrArg (C.int .i64) ?_) (consE (congrArg (C.int .i64) ?_) (consE (congrArg (C.int .i64) ?_) (consE (congrArg (C.int .i64) ?_) (consE (congrArg (C.int .i64) ?_) (consE (congrArg (C.int .u64) ?_) (consE (congrArg (C.int .i64) ?_) (consE (congrArg C.str ?_) (consE (congrArg (C.int .i64) ?_) (consE (congrArg (C.int .i64) ?_) rfl)))))))))))))))))))))))))))) (consE (congrArg V.c (congrArg C.bool ?_)) rfl))), (by rw [hm1] <;> rfl)⟩
  rotate_left 26
  all_goals first | (simp_all [decNew, utf0]; done) | (grind [decNew, utf0])
structure copySch_s_V0 where
  sh : List Shp
  i : Nat
def copySch_s_F0 (s : List Shp) : Fam := ⟨copySch_s_V0, fun q1 => [(1, .v (vP 0)), (2, .v (vP 1)), (3, .v (vP 2)), (4, .v (vI (q1.i : Int)))], fun q1 => [.cells [.seq .shp s], .cells [.nil], .cells [.own 3], .tree q1.sh], fun q1 => q1.i ≤ s.length ∧ q1.sh = List.take q1.i s, fun q1 => s.length - q1.i⟩
theorem copySch_s (s : List Shp) (hp1 : s.length ≤ 1048576) (hp2 : ∀ e ∈ s, e.fields.length ≤ 1048576) : Fun Try.prog 103 [.agg [.seq .shp s]] [] (.v (.agg [.own 0])) [.tree s] := by
  have hN : bigN = 274877906944 := rfl
  refine fun_ofw Try.func103 (by kernel_rfl) (by kernel_rfl) (w := let z4 := copySch_s_F0 s; (.seg [.at 0, .mkT 2 0, .keep [1, 2, 3, 4], .sel [0, 1, 2, 3]] (.loop z4 fun q1 => .br (.intro (fun (x1 : Shp) => s[q1.i]? = some x1) fun x1 => .seg [.ord [(0, true), (1, true), (2, true), (3, true), (4, true), (5, true), (6, true), (7, true), (9, true), (10, true), (11, true), (12, true), (13, true), (14, true), (8, false), (15, false), (16, true), (17, false), (18, false), (19, true), (20, false)] [3], .el .shp x1, .el .shp x1, .ty .fld, .ty .fld, .tyT, .tyT, .as 12 (.v (vI ((q1.i : Int) + 1))), .at 0, .keep [1, 2, 3, 4], .sel [0, 1, 2, 7]] (.next)) (.leaf () [3])), z4.Has [(1, .v (vP 0)), (2, .v (vP 1)), (3, .v (vP 2)), (4, .v (vI 0))] [.cells [.seq .shp s], .cells [.nil], .cells [.own 3], .tree ([] : List Shp)] ∧ ∀ q1, z4.inv q1 → (let z3 := (q1.i : Int); ((decide (z3 < (s.length : Int))) = true → (∃ (x1 : Shp), s[q1.i]? = some x1) ∧ ∀ (x1 : Shp), (s[q1.i]? = some x1) → (let z1 := s[q1.i]? = some x1; let z2 := (⟨x1.id, ([] : List Fld) ++ x1.fields⟩ : Shp); z1 ∧ ((0 : Int) ≤ z3) ∧ z1 ∧ ((0 : Int) ≤ z3) ∧ z1 ∧ ((0 : Int) ≤ z3) ∧ z1 ∧ ((0 : Int) ≤ z3) ∧ (List.length ([] : List Fld) + x1.fields.length ≤ bigN) ∧ (q1.sh.length + List.length [z2] ≤ bigN) ∧ ((.v (vI (IntKind.i64.wrap (z3 + 1))) : S) = .v (vI (z3 + 1))) ∧ z4.Nxt q1 [(1, .v (vP 0)), (2, .v (vP 1)), (3, .v (vP 2)), (4, .v (vI (z3 + 1)))] [.cells [.seq .shp s], .cells [.nil], .cells [.own 3], .tree (q1.sh ++ [z2])])) ∧ ((decide (z3 < (s.length : Int))) = false → (.v (.agg [.own 0]) : S) = .v (.agg [.own 0]) ∧ ([.tree q1.sh] : List Blk) = [.tree s])))) (by kernel_rfl) ?_
  refine ⟨has_of (j := (⟨([] : List Shp), 0⟩ : copySch_s_V0)) (by first | rfl | simp) rfl (by dsimp only [copySch_s_F0]; exact ⟨by omega, by simp⟩), fun (q1 : copySch_s_V0) hq_q1 => ?_⟩
  have hi_q1 : q1.i ≤ s.length ∧ q1.sh = List.take q1.i s := hq_q1
  obtain ⟨v1, v2⟩ := hi_q1
  have hsl := congrArg List.length v2
  rw [List.length_take] at hsl
  refine dsp (fun h1 p1 => ?_) fun h1 p1 => ?_
  refine ⟨(ax_get (l := s) (i := q1.i) (by omega)), fun x1 hx1 => ?_⟩
  have hfx := hp2 x1 (List.mem_of_getElem? hx1)
  exact ⟨hx1, (by omega), hx1, (by omega), hx1, (by omega), hx1, (by omega), (by simp only [List.length_cons, List.length_nil]; omega), (by simp only [List.length_append, List.length_cons, List.length_nil]; omega), (as_i64 (by omega) (by omega)), nxt_of (j := (⟨q1.sh ++ [(⟨x1.id, ([] : List Fld) ++ x1.fields⟩ : Shp)], q1.i + 1⟩ : copySch_s_V0)) (by first | rfl | simp) rfl (by dsimp only [copySch_s_F0]; exact ⟨by omega, by rw [v2, List.take_succ_eq_append_getElem (by omega)]; simp [(List.getElem?_eq_some_iff.1 hx1).2]⟩) (by dsimp only [copySch_s_F0]; omega)⟩
  refine ⟨rfl, (consE (congrArg Blk.tree ?_) rfl)⟩
  rotate_left
  all_goals first | (rfl) | ((rw [v2, List.take_of_length_le (by omega)]; done))
theorem decNew_s (p : Pln) (hp1 : List.length (p).shapes ≤ bigN) : Fun Try.prog 58 [.agg (cPln p)] [] (.tup [.agg (oDcd0_5 0 1 (decNew p)), vB (planOk p)]) [.tree (decNew p).plan.shapes, .lst .lev (decNew p).stack] := by
  have hN : bigN = 274877906944 := rfl
  refine fun_ofw Try.func58 (by kernel_rfl) (by kernel_rfl) (w := let zi : Int → C := .int .i64; let z1 : List C := [.own 1, .int .u64 0, zi 0, zi 0, zi 0, zi 0, zi 0, .bool false, .bool false, zi 0, zi 0, zi 0, zi 0, zi 0, zi 0, zi 0, zi 0, .int .u64 0, zi 0, .str [], zi 0, zi 0]; let z2 := planOk p; let z3 := decNew p; (.seg [.call [] (.v (vB z2)) []] (.br (.seg [.at 0, .mkT 1 0, .mk 1 5 .lev] (.leaf () [2, 3])) (.seg [.call [] (.v (.agg [.own 0])) [.tree p.shapes], .at 0, .mk 1 5 .lev] (.leaf () [2, 3]))), (Fun Try.prog 39 [.agg (cPln p)] [] (.v (vB z2)) []) ∧ ((!z2) = true → (.tup [.agg (.own 0 :: zi 0 :: zi 0 :: zi 0 :: zi 0 :: z1), vB false] : S) = .tup [.agg (oDcd0_5 0 1 z3), vB z2] ∧ ([.tree ([] : List Shp), .lst .lev ([] : List Lev)] : List Blk) = [.tree z3.plan.shapes, .lst .lev z3.stack]) ∧ ((!z2) = false → (Fun Try.prog 103 [.agg [.seq .shp p.shapes]] [] (.v (.agg [.own 0])) [.tree p.shapes]) ∧ (.tup [.agg (.own 0 :: zi p.root :: zi p.deep :: zi p.most :: zi 1 :: z1), vB true] : S) = .tup [.agg (oDcd0_5 0 1 z3), vB z2] ∧ ([.tree p.shapes, .lst .lev ([] : List Lev)] : List Blk) = [.tree z3.plan.shapes, .lst .lev z3.stack]))) (by kernel_rfl) ?_
  refine ⟨(planOk_s p), fun h1 => have q1 := bnot_t h1; ?_, fun h1 => have q1 := bnot_f h1; have p1 := planOk_t q1; ?_⟩
  refine have hm1 : decNew p = (⟨(⟨([] : List Shp), 0, 0, 0⟩ : Pln), 0, ([] : List Lev), (⟨0, 0⟩ : Scn), 0, 0, (⟨0, 0, false, false, 0⟩ : Fld), 0, 0, utf0, (⟨0, 0, 0, 0, [], 0, 0⟩ : Ev)⟩ : Dcd) := ?_; ?_
  rotate_left
  refine ⟨(congrArg S.tup (consE (congrArg V.agg (consE rfl (consE (congrArg (C.int .i64) ?_) (consE (congrArg (C.int .i64) ?_) (consE (congrArg (C.int .i64) ?_) (consE (congrArg (C.int .i64) ?_) (consE rfl (consE (congrArg (C.int .u64) ?_) (consE (congrArg (C.int .i64) ?_) (consE (congrArg (C.int .i64) ?_) (consE (congrArg (C.int .i64) ?_) (consE (congrArg (C.int .i64) ?_) (consE (congrArg (C.int .i64) ?_) (consE (congrArg C.bool ?_) (consE (congrArg C.bool ?_) (consE (congrArg (C.int .i64) ?_) (consE (congrArg (C.int .i64) ?_) (consE (congrArg (C.int .i64) ?_) (consE (congrArg (C.int .i64) ?_) (consE (congrArg (C.int .i64) ?_) (consE (congrArg (C.int .i64) ?_) (consE (congrArg (C.int .i64) ?_) (consE (congrArg (C.int .i64) ?_) (consE (congrArg (C.int .u64) ?_) (consE (congrArg (C.int .i64) ?_) (consE (congrArg C.str ?_) (consE (congrArg (C.int .i64) ?_) (consE (congrArg (C.int .i64) ?_) rfl)))))))))))))))))))))))))))) (consE (congrArg V.c (congrArg C.bool ?_)) rfl))), (by rw [hm1] <;> rfl)⟩
  rotate_left 26
  have hpt := planOk_t q1
  refine ⟨(copySch_s p.shapes (by omega) (schemaOk_fields20 hpt.2.1)), ?_⟩
  refine have hm1 : decNew p = (⟨p, 1, ([] : List Lev), (⟨0, 0⟩ : Scn), 0, 0, (⟨0, 0, false, false, 0⟩ : Fld), 0, 0, utf0, (⟨0, 0, 0, 0, [], 0, 0⟩ : Ev)⟩ : Dcd) := ?_; ?_
  rotate_left
  refine ⟨(congrArg S.tup (consE (congrArg V.agg (consE rfl (consE (congrArg (C.int .i64) ?_) (consE (congrArg (C.int .i64) ?_) (consE (congrArg (C.int .i64) ?_) (consE (congrArg (C.int .i64) ?_) (consE rfl (consE (congrArg (C.int .u64) ?_) (consE (congrArg (C.int .i64) ?_) (consE (congrArg (C.int .i64) ?_) (consE (congrArg (C.int .i64) ?_) (consE (congrArg (C.int .i64) ?_) (consE (congrArg (C.int .i64) ?_) (consE (congrArg C.bool ?_) (consE (congrArg C.bool ?_) (consE (congrArg (C.int .i64) ?_) (consE (congrArg (C.int .i64) ?_) (consE (congrArg (C.int .i64) ?_) (consE (congrArg (C.int .i64) ?_) (consE (congrArg (C.int .i64) ?_) (consE (congrArg (C.int .i64) ?_) (consE (congrArg (C.int .i64) ?_) (consE (congrArg (C.int .i64) ?_) (consE (congrArg (C.int .u64) ?_) (consE (congrArg (C.int .i64) ?_) (consE (congrArg C.str ?_) (consE (congrArg (C.int .i64) ?_) (consE (congrArg (C.int .i64) ?_) rfl)))))))))))))))))))))))))))) (consE (congrArg V.c (congrArg C.bool ?_)) rfl))), (by rw [hm1] <;> rfl)⟩
  rotate_left 26
  all_goals first | (simp_all [decNew, utf0]; done) | (grind [decNew, utf0])
theorem cloneRd (l : List Rd) (hp1 : List.length l ≤ bigN) : Fun Try.prog 104 [.c (.seq .rd l)] [] (.v (vO 0)) [.lst .rd l] := by
  refine ⟨callable_of Try.func104 (by kernel_rfl) (by kernel_rfl), ?_⟩
  have key : Sm Try.prog 8 0 (regAt Try.f104 1) [(2, .v (.c .nil)), (0, .v (.c (.seq .rd l)))] [] .ret [(2, .v (.c (.own 0)))] [.lst .rd l] := by
    refine Sm.nilTest' (s := 0) (t3 := 3) (t4 := 4) (t := .rd) (l := l) rfl rfl rfl rfl rfl rfl rfl Try.underlying59 (by kernel_rfl) rfl rfl rfl fun p hp => ?_
    cases p with
    | true =>
      have hl := hp rfl
      subst hl
      exact .inr ⟨by decide, piece_sound (ds := [.br true, .at 0, .mkS 2 .rd, .keep [2], .sel [0]]) (ob := [true = true]) (by kernel_rfl) ⟨rfl, trivial⟩⟩
    | false =>
      exact .inl ⟨[(0, .v (.c (.seq .rd l)))], [], piece_sound (ds := [.br false, .at 0, .keep [0], .sel []]) (ob := [false = false]) (by kernel_rfl) ⟨rfl, trivial⟩,
        (piece_sound (tm' := [(2, .v (.c (.own 0)))]) (H' := [.lst .rd ([] ++ l)]) (ds := [.ty .rd, .ty .rd, .at 0, .keep [2], .sel [1]]) (ob := [List.length ([] : List Rd) + List.length l ≤ bigN]) (by kernel_rfl) ⟨by simpa using hp1, trivial⟩).to (by rfl) (by rfl)⟩
  exact walk_sound Try.func104 (res := .v (.c (.own 0))) (L' := [.lst .rd l]) (ds := [.jump 1 .ret [(2, .v (.c (.own 0)))] [.lst .rd l]]) (σ := [0]) (ob := [Sm Try.prog 8 0 (regAt Try.f104 1) [(2, .v (.c .nil)), (0, .v (.c (.seq .rd l)))] [] .ret [(2, .v (.c (.own 0)))] [.lst .rd l]]) (by kernel_rfl) ⟨key, trivial⟩
theorem readerOk_i (r : Rdr) (hp1 : List.length (r).data ≤ bigN) (hp2 : List.length (r).script ≤ bigN) : Fun Try.prog 105 [.agg (cRdr r)] [] (.v (vB (readerOk r))) [] := by
  have hN : bigN = 274877906944 := rfl
  refine fun_ofw Try.func105 (by kernel_rfl) (by kernel_rfl) (w := let z1 := ((List.length r.script : Nat) : Int); let z2 := ((List.length r.data : Nat) : Int); let z3 := vB (readerOk r); let z4 := ([] : List Blk); let z5 := within r.next 0 z1; let z6 := within r.at_ 0 z2; let z7 := (.v (vB false) : S); (.br (.seg [.call [] (.v (vB z6)) []] (.br (.br (.seg [.call [] (.v (vB z5)) []] (.br (.br (.leaf () []) (.br (.leaf () []) (.leaf () []))) (.leaf () []))) (.leaf () [])) (.leaf () []))) (.leaf () []), ((decide (z2 ≤ 4000)) = true → (Fun Try.prog 49 [vI r.at_, vI 0, vI z2] [] (.v (vB z6)) []) ∧ (z6 = true → ((decide (z1 ≤ 200)) = true → (Fun Try.prog 49 [vI r.next, vI 0, vI z1] [] (.v (vB z5)) []) ∧ (z5 = true → ((decide (r.code = 0)) = true → (.v (vB true) : S) = .v z3 ∧ z4 = []) ∧ ((decide (r.code = 0)) = false → ((decide (r.code = 1)) = true → (.v (vB true) : S) = .v z3 ∧ z4 = []) ∧ ((decide (r.code = 1)) = false → (.v (vB (decide (20 ≤ r.code))) : S) = .v z3 ∧ z4 = []))) ∧ (z5 = false → z7 = .v z3 ∧ z4 = [])) ∧ ((decide (z1 ≤ 200)) = false → z7 = .v z3 ∧ z4 = [])) ∧ (z6 = false → z7 = .v z3 ∧ z4 = [])) ∧ ((decide (z2 ≤ 4000)) = false → z7 = .v z3 ∧ z4 = []))) (by kernel_rfl) ?_
  refine dsp (fun h1 p1 => ?_) fun h1 p1 => ?_
  refine ⟨(within_i _ _ _), fun h2 => have p2 := within_t h2; ?_, fun h2 => have p2 := within_f h2; ?_⟩
  refine dsp (fun h3 p3 => ?_) fun h3 p3 => ?_
  refine ⟨(within_i _ _ _), fun h4 => have p4 := within_t h4; ?_, fun h4 => have p4 := within_f h4; ?_⟩
  refine dsp (fun h5 p5 => ?_) fun h5 p5 => ?_
  refine ⟨(sB ?_), rfl⟩
  rotate_left
  refine dsp (fun h6 p6 => ?_) fun h6 p6 => ?_
  refine ⟨(sB ?_), rfl⟩
  rotate_left
  refine ⟨(sB ?_), rfl⟩
  rotate_left
  refine ⟨(sB ?_), rfl⟩
  rotate_left
  refine ⟨(sB ?_), rfl⟩
  rotate_left
  refine ⟨(sB ?_), rfl⟩
  rotate_left
  refine ⟨(sB ?_), rfl⟩
  rotate_left
  all_goals first | (simp_all [readerOk]; done) | (grind [readerOk])
theorem readerOk_s (r : Rdr) (hp1 : List.length (r).data ≤ bigN) (hp2 : List.length (r).script ≤ bigN) : Fun Try.prog 102 [.agg (cRdr r)] [] (.v (vB (readerOk r))) [] := by
  have hN : bigN = 274877906944 := rfl
  refine fun_ofw Try.func102 (by kernel_rfl) (by kernel_rfl) (w := let z1 := ((List.length r.script : Nat) : Int); let z2 := ((List.length r.data : Nat) : Int); let z3 := vB (readerOk r); let z4 := ([] : List Blk); let z5 := within r.next 0 z1; let z6 := within r.at_ 0 z2; let z7 := (.v (vB false) : S); (.br (.leaf () []) (.seg [.call [] (.v (vB z6)) []] (.br (.leaf () []) (.br (.leaf () []) (.seg [.call [] (.v (vB z5)) []] (.br (.leaf () []) (.br (.leaf () []) (.br (.leaf () []) (.leaf () [])))))))), ((decide (4000 < z2)) = true → z7 = .v z3 ∧ z4 = []) ∧ ((decide (4000 < z2)) = false → (Fun Try.prog 47 [vI r.at_, vI 0, vI z2] [] (.v (vB z6)) []) ∧ ((!z6) = true → z7 = .v z3 ∧ z4 = []) ∧ ((!z6) = false → ((decide (200 < z1)) = true → z7 = .v z3 ∧ z4 = []) ∧ ((decide (200 < z1)) = false → (Fun Try.prog 47 [vI r.next, vI 0, vI z1] [] (.v (vB z5)) []) ∧ ((!z5) = true → z7 = .v z3 ∧ z4 = []) ∧ ((!z5) = false → ((decide (r.code = 0)) = true → (.v (vB true) : S) = .v z3 ∧ z4 = []) ∧ ((decide (r.code = 0)) = false → ((decide (r.code = 1)) = true → (.v (vB true) : S) = .v z3 ∧ z4 = []) ∧ ((decide (r.code = 1)) = false → (.v (vB (decide (20 ≤ r.code))) : S) = .v z3 ∧ z4 = [])))))))) (by kernel_rfl) ?_
  refine dsp (fun h1 p1 => ?_) fun h1 p1 => ?_
  refine ⟨(sB ?_), rfl⟩
  rotate_left
  refine ⟨(within_s _ _ _), fun h2 => have q2 := bnot_t h2; have p2 := within_f q2; ?_, fun h2 => have q2 := bnot_f h2; have p2 := within_t q2; ?_⟩
  refine ⟨(sB ?_), rfl⟩
  rotate_left
  refine dsp (fun h3 p3 => ?_) fun h3 p3 => ?_
  refine ⟨(sB ?_), rfl⟩
  rotate_left
  refine ⟨(within_s _ _ _), fun h4 => have q4 := bnot_t h4; have p4 := within_f q4; ?_, fun h4 => have q4 := bnot_f h4; have p4 := within_t q4; ?_⟩
  refine ⟨(sB ?_), rfl⟩
  rotate_left
  refine dsp (fun h5 p5 => ?_) fun h5 p5 => ?_
  refine ⟨(sB ?_), rfl⟩
  rotate_left
  refine dsp (fun h6 p6 => ?_) fun h6 p6 => ?_
  refine ⟨(sB ?_), rfl⟩
  rotate_left
  refine ⟨(sB ?_), rfl⟩
  rotate_left
  all_goals first | (simp_all [readerOk]; done) | (grind [readerOk])
theorem rdrNew_i (data : List UInt8) (script : List Rd) (hp1 : List.length data ≤ 1048576) (hp2 : List.length script ≤ 1048576) : Fun Try.prog 60 [vT data, .c (.seq .rd script)] [] (.tup [.agg (oRdr2 0 (rdrNew data script)), vB (rdrNewOk data script)]) [.lst .rd (rdrNew data script).script] := by
  have hN : bigN = 274877906944 := rfl
  refine fun_ofw Try.func60 (by kernel_rfl) (by kernel_rfl) (w := let zi : Int → C := .int .i64; let z1 := readerOk (⟨data, 0, script, 0, 0⟩ : Rdr); let z2 := rdrNew data script; (.seg [.call [] (.v (vO 0)) [.lst .rd script], .call [] (.v (vB z1)) []] (.br (.seg [.at 0, .mk 0 2 .rd] (.leaf () [3])) (.leaf () [1])), (Fun Try.prog 104 [.c (.seq .rd script)] [] (.v (vO 0)) [.lst .rd script]) ∧ (Fun Try.prog 105 [.agg [.str data, zi 0, .seq .rd script, zi 0, zi 0]] [] (.v (vB z1)) []) ∧ ((!z1) = true → (.tup [.agg [.str [], zi 0, .own 0, zi 0, zi 0], vB false] : S) = .tup [.agg (oRdr2 0 z2), vB (rdrNewOk data script)] ∧ ([.lst .rd ([] : List Rd)] : List Blk) = [.lst .rd z2.script]) ∧ ((!z1) = false → (.tup [.agg [.str data, zi 0, .own 0, zi 0, zi 0], vB true] : S) = .tup [.agg (oRdr2 0 z2), vB (rdrNewOk data script)] ∧ ([.lst .rd script] : List Blk) = [.lst .rd z2.script]))) (by kernel_rfl) ?_
  refine ⟨(cloneRd script (by omega)), (readerOk_i (⟨data, 0, script, 0, 0⟩ : Rdr) (by first | omega | rfl | (dsimp only; omega)) (by first | omega | rfl | (dsimp only; omega))), fun h1 => have q1 := bnot_t h1; ?_, fun h1 => have q1 := bnot_f h1; have p1 := readerOk_t q1; ?_⟩
  refine have hm1 : rdrNew data script = (⟨[], 0, ([] : List Rd), 0, 0⟩ : Rdr) := ?_; ?_
  rotate_left
  refine ⟨(congrArg S.tup (consE (congrArg V.agg (consE (congrArg C.str ?_) (consE (congrArg (C.int .i64) ?_) (consE rfl (consE (congrArg (C.int .i64) ?_) (consE (congrArg (C.int .i64) ?_) rfl)))))) (consE (congrArg V.c (congrArg C.bool ?_)) rfl))), (by rw [hm1] <;> rfl)⟩
  rotate_left 5
  refine have hm1 : rdrNew data script = (⟨data, 0, script, 0, 0⟩ : Rdr) := ?_; ?_
  rotate_left
  refine ⟨(congrArg S.tup (consE (congrArg V.agg (consE (congrArg C.str ?_) (consE (congrArg (C.int .i64) ?_) (consE rfl (consE (congrArg (C.int .i64) ?_) (consE (congrArg (C.int .i64) ?_) rfl)))))) (consE (congrArg V.c (congrArg C.bool ?_)) rfl))), (by rw [hm1] <;> rfl)⟩
  rotate_left 5
  all_goals first | (simp_all [rdrNew, rdrNewOk]; done) | (grind [rdrNew, rdrNewOk])
theorem rdrNew_s (data : List UInt8) (script : List Rd) (hp1 : List.length data ≤ 1048576) (hp2 : List.length script ≤ 1048576) : Fun Try.prog 57 [vT data, .c (.seq .rd script)] [] (.tup [.agg (oRdr2 0 (rdrNew data script)), vB (rdrNewOk data script)]) [.lst .rd (rdrNew data script).script] := by
  have hN : bigN = 274877906944 := rfl
  refine fun_ofw Try.func57 (by kernel_rfl) (by kernel_rfl) (w := let zi : Int → C := .int .i64; let z2 := rdrNew data script; let z3 := ([] : List Rd); let z1 := readerOk (⟨data, 0, z3 ++ script, 0, 0⟩ : Rdr); (.seg [.ty .rd, .ty .rd, .call [] (.v (vB z1)) []] (.br (.seg [.at 0, .mk 0 2 .rd] (.leaf () [4])) (.leaf () [2])), (List.length z3 + List.length script ≤ bigN) ∧ (Fun Try.prog 102 [.agg [.str data, zi 0, .seq .rd (z3 ++ script), zi 0, zi 0]] [] (.v (vB z1)) []) ∧ ((!z1) = true → (.tup [.agg [.str [], zi 0, .own 0, zi 0, zi 0], vB false] : S) = .tup [.agg (oRdr2 0 z2), vB (rdrNewOk data script)] ∧ ([.lst .rd z3] : List Blk) = [.lst .rd z2.script]) ∧ ((!z1) = false → (.tup [.agg [.str data, zi 0, .own 0, zi 0, zi 0], vB true] : S) = .tup [.agg (oRdr2 0 z2), vB (rdrNewOk data script)] ∧ ([.lst .rd (z3 ++ script)] : List Blk) = [.lst .rd z2.script]))) (by kernel_rfl) ?_
  refine ⟨(by simp only [List.length_cons, List.length_nil]; omega), (readerOk_s (⟨data, 0, ([] : List Rd) ++ script, 0, 0⟩ : Rdr) (by first | omega | rfl | (dsimp only; omega)) (by simp only [List.length_append, List.length_cons, List.length_nil, List.length_set, List.length_take]; omega)), fun h1 => have q1 := bnot_t h1; ?_, fun h1 => have q1 := bnot_f h1; have p1 := readerOk_t q1; ?_⟩
  refine have hm1 : rdrNew data script = (⟨[], 0, ([] : List Rd), 0, 0⟩ : Rdr) := ?_; ?_
  rotate_left
  refine ⟨(congrArg S.tup (consE (congrArg V.agg (consE (congrArg C.str ?_) (consE (congrArg (C.int .i64) ?_) (consE rfl (consE (congrArg (C.int .i64) ?_) (consE (congrArg (C.int .i64) ?_) rfl)))))) (consE (congrArg V.c (congrArg C.bool ?_)) rfl))), (by rw [hm1] <;> rfl)⟩
  rotate_left 5
  refine have hm1 : rdrNew data script = (⟨data, 0, ([] : List Rd) ++ script, 0, 0⟩ : Rdr) := ?_; ?_
  rotate_left
  refine ⟨(congrArg S.tup (consE (congrArg V.agg (consE (congrArg C.str ?_) (consE (congrArg (C.int .i64) ?_) (consE rfl (consE (congrArg (C.int .i64) ?_) (consE (congrArg (C.int .i64) ?_) rfl)))))) (consE (congrArg V.c (congrArg C.bool ?_)) rfl))), (by rw [hm1] <;> rfl)⟩
  rotate_left 5
  all_goals first | (simp_all [rdrNew, rdrNewOk]; done) | (grind [rdrNew, rdrNewOk])
theorem strmNew_i (p : Pln) (data : List UInt8) (script : List Rd) (hp1 : List.length data ≤ 1048576) (hp2 : List.length script ≤ 1048576) (hp3 : List.length (p).shapes ≤ bigN) : Fun Try.prog 32 [.agg (cPln p), vT data, .c (.seq .rd script)] [] (.tup [.agg (oStrm2_5_10_32 0 1 2 3 (strmNew p data script)), vB (strmNewOk p data script)]) [.lst .rd (strmNew p data script).reader.script, .tree (strmNew p data script).dec.plan.shapes, .lst .lev (strmNew p data script).dec.stack, .lst .ev (strmNew p data script).queue] := by
  have hN : bigN = 274877906944 := rfl
  refine fun_ofw Try.func32 (by kernel_rfl) (by kernel_rfl) (w := let zi : Int → C := .int .i64; let z1 : List C := [.str [], zi 0, .own 0, zi 0, zi 0, .own 1, zi 0, zi 0, zi 0, zi 0, .own 2, .int .u64 0, zi 0, zi 0, zi 0, zi 0, zi 0, .bool false, .bool false, zi 0, zi 0, zi 0, zi 0, zi 0, zi 0, zi 0, zi 0, .int .u64 0, zi 0, .str [], zi 0, zi 0, .own 3, zi 0]; let z3 := decNew p; let z4 := rdrNew data script; let z5 := strmNew p data script; let z2 : List Blk := [.lst .rd z5.reader.script, .tree z5.dec.plan.shapes, .lst .lev z5.dec.stack, .lst .ev z5.queue]; let z6 := ([.lst .rd ([] : List Rd), .tree ([] : List Shp), .lst .lev ([] : List Lev), .lst .ev ([] : List Ev)] : List Blk); let z7 := rdrNewOk data script; let z8 := oStrm2_5_10_32 0 1 2 3 z5; let z9 := strmNewOk p data script; (.seg [.call [] (.tup [.agg (oRdr2 0 z4), vB z7]) [.lst .rd z4.script], .call [] (.tup [.agg (oDcd0_5 0 1 z3), vB (planOk p)]) [.tree z3.plan.shapes, .lst .lev z3.stack]] (.br (.seg [.at 0, .mk 1 2 .rd, .mkT 1 5, .mk 1 10 .lev, .mk 1 32 .ev] (.leaf () [7, 8, 9, 10])) (.br (.seg [.at 0, .mk 1 2 .rd, .mkT 1 5, .mk 1 10 .lev, .mk 1 32 .ev] (.leaf () [7, 8, 9, 10])) (.seg [.at 0, .mk 1 32 .ev] (.leaf () [2, 4, 5, 7])))), (Fun Try.prog 60 [vT data, .c (.seq .rd script)] [] (.tup [.agg (oRdr2 0 z4), vB z7]) [.lst .rd z4.script]) ∧ (Fun Try.prog 61 [.agg (cPln p)] [] (.tup [.agg (oDcd0_5 0 1 z3), vB (planOk p)]) [.tree z3.plan.shapes, .lst .lev z3.stack]) ∧ ((!z7) = true → (.tup [.agg z1, vB false] : S) = .tup [.agg z8, vB z9] ∧ z6 = z2) ∧ ((!z7) = false → ((!(planOk p)) = true → (.tup [.agg z1, vB false] : S) = .tup [.agg z8, vB z9] ∧ z6 = z2) ∧ ((!(planOk p)) = false → (.tup [.agg [.str z4.data, zi z4.at_, .own 0, zi z4.next, zi z4.code, .own 1, zi z3.plan.root, zi z3.plan.deep, zi z3.plan.most, zi z3.mode, .own 2, .int .u64 z3.scan.bits, zi z3.scan.have_, zi z3.start, zi z3.at_, zi z3.field.number, zi z3.field.kind, .bool z3.field.rep, .bool z3.field.packed, zi z3.field.msg, zi z3.wire, zi z3.want, zi z3.utf.want, zi z3.utf.low, zi z3.utf.high, zi z3.end_.kind, zi z3.end_.field, .int .u64 z3.end_.bits, zi z3.end_.len, .str z3.end_.text, zi z3.end_.code, zi z3.end_.at_, .own 3, zi 0], vB true] : S) = .tup [.agg z8, vB z9] ∧ ([.lst .rd z4.script, .tree z3.plan.shapes, .lst .lev z3.stack, .lst .ev ([] : List Ev)] : List Blk) = z2)))) (by kernel_rfl) ?_
  refine ⟨(rdrNew_i _ _ (by omega) (by omega)), (decNew_i p (by omega)), fun h1 => have q1 := bnot_t h1; ?_, fun h1 => have q1 := bnot_f h1; ?_⟩
  refine have hm1 : strmNew p data script = (⟨(⟨[], 0, ([] : List Rd), 0, 0⟩ : Rdr), (⟨(⟨([] : List Shp), 0, 0, 0⟩ : Pln), 0, ([] : List Lev), (⟨0, 0⟩ : Scn), 0, 0, (⟨0, 0, false, false, 0⟩ : Fld), 0, 0, (⟨0, 0, 0⟩ : Utf), (⟨0, 0, 0, 0, [], 0, 0⟩ : Ev)⟩ : Dcd), ([] : List Ev), 0⟩ : Strm) := ?_; ?_
  rotate_left
  refine ⟨(congrArg S.tup (consE (congrArg V.agg (consE (congrArg C.str ?_) (consE (congrArg (C.int .i64) ?_) (consE rfl (consE (congrArg (C.int .i64) ?_) (consE (congrArg (C.int .i64) ?_) (consE rfl (consE (congrArg (C.int .i64) ?_) (consE (congrArg (C.int .i64) ?_) (consE (congrArg (C.int .i64) ?_) (consE (congrArg (C.int .i64) ?_) (consE rfl (consE (congrArg (C.int .u64) ?_) (consE (congrArg (C.int .i64) ?_) (consE (congrArg (C.int .i64) ?_) (consE (congrArg (C.int .i64) ?_) (consE (congrArg (C.int .i64) ?_) (consE (congrArg (C.int .i64) ?_) (consE (congrArg C.bool ?_) (consE (congrArg C.bool ?_) (consE (congrArg (C.int .i64) ?_) (consE (congrArg (C.int .i64) ?_) (consE (congrArg (C.int .i64) ?_) (consE (congrArg (C.int .i64) ?_) (consE (congrArg (C.int .i64) ?_) (consE (congrArg (C.int .i64) ?_) (consE (congrArg (C.int .i64) ?_) (consE (congrArg (C.int .i64) ?_) (consE (congrArg (C.int .u64) ?_) (consE (congrArg (C.int .i64) ?_) (consE (congrArg C.str ?_) (consE (congrArg (C.int .i64) ?_) (consE (congrArg (C.int .i64) ?_) (consE rfl (consE (congrArg (C.int .i64) ?_) rfl))))))))))))))))))))))))))))))))))) (consE (congrArg V.c (congrArg C.bool ?_)) rfl))), (by rw [hm1] <;> rfl)⟩
  rotate_left 31
  refine ⟨fun h2 => have q2 := bnot_t h2; ?_, fun h2 => have q2 := bnot_f h2; have p2 := planOk_t q2; ?_⟩
  refine have hm1 : strmNew p data script = (⟨(⟨[], 0, ([] : List Rd), 0, 0⟩ : Rdr), (⟨(⟨([] : List Shp), 0, 0, 0⟩ : Pln), 0, ([] : List Lev), (⟨0, 0⟩ : Scn), 0, 0, (⟨0, 0, false, false, 0⟩ : Fld), 0, 0, (⟨0, 0, 0⟩ : Utf), (⟨0, 0, 0, 0, [], 0, 0⟩ : Ev)⟩ : Dcd), ([] : List Ev), 0⟩ : Strm) := ?_; ?_
  rotate_left
  refine ⟨(congrArg S.tup (consE (congrArg V.agg (consE (congrArg C.str ?_) (consE (congrArg (C.int .i64) ?_) (consE rfl (consE (congrArg (C.int .i64) ?_) (consE (congrArg (C.int .i64) ?_) (consE rfl (consE (congrArg (C.int .i64) ?_) (consE (congrArg (C.int .i64) ?_) (consE (congrArg (C.int .i64) ?_) (consE (congrArg (C.int .i64) ?_) (consE rfl (consE (congrArg (C.int .u64) ?_) (consE (congrArg (C.int .i64) ?_) (consE (congrArg (C.int .i64) ?_) (consE (congrArg (C.int .i64) ?_) (consE (congrArg (C.int .i64) ?_) (consE (congrArg (C.int .i64) ?_) (consE (congrArg C.bool ?_) (consE (congrArg C.bool ?_) (consE (congrArg (C.int .i64) ?_) (consE (congrArg (C.int .i64) ?_) (consE (congrArg (C.int .i64) ?_) (consE (congrArg (C.int .i64) ?_) (consE (congrArg (C.int .i64) ?_) (consE (congrArg (C.int .i64) ?_) (consE (congrArg (C.int .i64) ?_) (consE (congrArg (C.int .i64) ?_) (consE (congrArg (C.int .u64) ?_) (consE (congrArg (C.int .i64) ?_) (consE (congrArg C.str ?_) (consE (congrArg (C.int .i64) ?_) (consE (congrArg (C.int .i64) ?_) (consE rfl (consE (congrArg (C.int .i64) ?_) rfl))))))))))))))))))))))))))))))))))) (consE (congrArg V.c (congrArg C.bool ?_)) rfl))), (by rw [hm1] <;> rfl)⟩
  rotate_left 31
  refine have hm1 : strmNew p data script = (⟨(rdrNew data script), (decNew p), ([] : List Ev), 0⟩ : Strm) := ?_; ?_
  rotate_left
  refine ⟨(congrArg S.tup (consE (congrArg V.agg (consE (congrArg C.str ?_) (consE (congrArg (C.int .i64) ?_) (consE rfl (consE (congrArg (C.int .i64) ?_) (consE (congrArg (C.int .i64) ?_) (consE rfl (consE (congrArg (C.int .i64) ?_) (consE (congrArg (C.int .i64) ?_) (consE (congrArg (C.int .i64) ?_) (consE (congrArg (C.int .i64) ?_) (consE rfl (consE (congrArg (C.int .u64) ?_) (consE (congrArg (C.int .i64) ?_) (consE (congrArg (C.int .i64) ?_) (consE (congrArg (C.int .i64) ?_) (consE (congrArg (C.int .i64) ?_) (consE (congrArg (C.int .i64) ?_) (consE (congrArg C.bool ?_) (consE (congrArg C.bool ?_) (consE (congrArg (C.int .i64) ?_) (consE (congrArg (C.int .i64) ?_) (consE (congrArg (C.int .i64) ?_) (consE (congrArg (C.int .i64) ?_) (consE (congrArg (C.int .i64) ?_) (consE (congrArg (C.int .i64) ?_) (consE (congrArg (C.int .i64) ?_) (consE (congrArg (C.int .i64) ?_) (consE (congrArg (C.int .u64) ?_) (consE (congrArg (C.int .i64) ?_) (consE (congrArg C.str ?_) (consE (congrArg (C.int .i64) ?_) (consE (congrArg (C.int .i64) ?_) (consE rfl (consE (congrArg (C.int .i64) ?_) rfl))))))))))))))))))))))))))))))))))) (consE (congrArg V.c (congrArg C.bool ?_)) rfl))), (by rw [hm1] <;> rfl)⟩
  rotate_left 31
  all_goals first | (simp_all [strmNew, strmNewOk, rdr0, dcd0]; done) | (grind [strmNew, strmNewOk, rdr0, dcd0])
theorem strmNew_s (p : Pln) (data : List UInt8) (script : List Rd) (hp1 : List.length data ≤ 1048576) (hp2 : List.length script ≤ 1048576) (hp3 : List.length (p).shapes ≤ bigN) : Fun Try.prog 30 [.agg (cPln p), vT data, .c (.seq .rd script)] [] (.tup [.agg (oStrm2_5_10_32 0 1 2 3 (strmNew p data script)), vB (strmNewOk p data script)]) [.lst .rd (strmNew p data script).reader.script, .tree (strmNew p data script).dec.plan.shapes, .lst .lev (strmNew p data script).dec.stack, .lst .ev (strmNew p data script).queue] := by
  have hN : bigN = 274877906944 := rfl
  refine fun_ofw Try.func30 (by kernel_rfl) (by kernel_rfl) (w := let zi : Int → C := .int .i64; let z1 : List C := [.str [], zi 0, .own 0, zi 0, zi 0, .own 1, zi 0, zi 0, zi 0, zi 0, .own 2, .int .u64 0, zi 0, zi 0, zi 0, zi 0, zi 0, .bool false, .bool false, zi 0, zi 0, zi 0, zi 0, zi 0, zi 0, zi 0, zi 0, .int .u64 0, zi 0, .str [], zi 0, zi 0, .own 3, zi 0]; let z3 := decNew p; let z4 := rdrNew data script; let z5 := strmNew p data script; let z2 : List Blk := [.lst .rd z5.reader.script, .tree z5.dec.plan.shapes, .lst .lev z5.dec.stack, .lst .ev z5.queue]; let z6 := ([.lst .rd ([] : List Rd), .tree ([] : List Shp), .lst .lev ([] : List Lev), .lst .ev ([] : List Ev)] : List Blk); let z7 := rdrNewOk data script; let z8 := oStrm2_5_10_32 0 1 2 3 z5; let z9 := strmNewOk p data script; (.seg [.call [] (.tup [.agg (oRdr2 0 z4), vB z7]) [.lst .rd z4.script], .call [] (.tup [.agg (oDcd0_5 0 1 z3), vB (planOk p)]) [.tree z3.plan.shapes, .lst .lev z3.stack]] (.br (.seg [.at 0, .mk 1 2 .rd, .mkT 1 5, .mk 1 10 .lev, .mk 1 32 .ev] (.leaf () [7, 8, 9, 10])) (.br (.seg [.at 0, .mk 1 2 .rd, .mkT 1 5, .mk 1 10 .lev, .mk 1 32 .ev] (.leaf () [7, 8, 9, 10])) (.seg [.at 0, .mk 1 32 .ev] (.leaf () [2, 4, 5, 7])))), (Fun Try.prog 57 [vT data, .c (.seq .rd script)] [] (.tup [.agg (oRdr2 0 z4), vB z7]) [.lst .rd z4.script]) ∧ (Fun Try.prog 58 [.agg (cPln p)] [] (.tup [.agg (oDcd0_5 0 1 z3), vB (planOk p)]) [.tree z3.plan.shapes, .lst .lev z3.stack]) ∧ ((!z7) = true → (.tup [.agg z1, vB false] : S) = .tup [.agg z8, vB z9] ∧ z6 = z2) ∧ ((!z7) = false → ((!(planOk p)) = true → (.tup [.agg z1, vB false] : S) = .tup [.agg z8, vB z9] ∧ z6 = z2) ∧ ((!(planOk p)) = false → (.tup [.agg [.str z4.data, zi z4.at_, .own 0, zi z4.next, zi z4.code, .own 1, zi z3.plan.root, zi z3.plan.deep, zi z3.plan.most, zi z3.mode, .own 2, .int .u64 z3.scan.bits, zi z3.scan.have_, zi z3.start, zi z3.at_, zi z3.field.number, zi z3.field.kind, .bool z3.field.rep, .bool z3.field.packed, zi z3.field.msg, zi z3.wire, zi z3.want, zi z3.utf.want, zi z3.utf.low, zi z3.utf.high, zi z3.end_.kind, zi z3.end_.field, .int .u64 z3.end_.bits, zi z3.end_.len, .str z3.end_.text, zi z3.end_.code, zi z3.end_.at_, .own 3, zi 0], vB true] : S) = .tup [.agg z8, vB z9] ∧ ([.lst .rd z4.script, .tree z3.plan.shapes, .lst .lev z3.stack, .lst .ev ([] : List Ev)] : List Blk) = z2)))) (by kernel_rfl) ?_
  refine ⟨(rdrNew_s _ _ (by omega) (by omega)), (decNew_s p (by omega)), fun h1 => have q1 := bnot_t h1; ?_, fun h1 => have q1 := bnot_f h1; ?_⟩
  refine have hm1 : strmNew p data script = (⟨(⟨[], 0, ([] : List Rd), 0, 0⟩ : Rdr), (⟨(⟨([] : List Shp), 0, 0, 0⟩ : Pln), 0, ([] : List Lev), (⟨0, 0⟩ : Scn), 0, 0, (⟨0, 0, false, false, 0⟩ : Fld), 0, 0, (⟨0, 0, 0⟩ : Utf), (⟨0, 0, 0, 0, [], 0, 0⟩ : Ev)⟩ : Dcd), ([] : List Ev), 0⟩ : Strm) := ?_; ?_
  rotate_left
  refine ⟨(congrArg S.tup (consE (congrArg V.agg (consE (congrArg C.str ?_) (consE (congrArg (C.int .i64) ?_) (consE rfl (consE (congrArg (C.int .i64) ?_) (consE (congrArg (C.int .i64) ?_) (consE rfl (consE (congrArg (C.int .i64) ?_) (consE (congrArg (C.int .i64) ?_) (consE (congrArg (C.int .i64) ?_) (consE (congrArg (C.int .i64) ?_) (consE rfl (consE (congrArg (C.int .u64) ?_) (consE (congrArg (C.int .i64) ?_) (consE (congrArg (C.int .i64) ?_) (consE (congrArg (C.int .i64) ?_) (consE (congrArg (C.int .i64) ?_) (consE (congrArg (C.int .i64) ?_) (consE (congrArg C.bool ?_) (consE (congrArg C.bool ?_) (consE (congrArg (C.int .i64) ?_) (consE (congrArg (C.int .i64) ?_) (consE (congrArg (C.int .i64) ?_) (consE (congrArg (C.int .i64) ?_) (consE (congrArg (C.int .i64) ?_) (consE (congrArg (C.int .i64) ?_) (consE (congrArg (C.int .i64) ?_) (consE (congrArg (C.int .i64) ?_) (consE (congrArg (C.int .u64) ?_) (consE (congrArg (C.int .i64) ?_) (consE (congrArg C.str ?_) (consE (congrArg (C.int .i64) ?_) (consE (congrArg (C.int .i64) ?_) (consE rfl (consE (congrArg (C.int .i64) ?_) rfl))))))))))))))))))))))))))))))))))) (consE (congrArg V.c (congrArg C.bool ?_)) rfl))), (by rw [hm1] <;> rfl)⟩
  rotate_left 31
  refine ⟨fun h2 => have q2 := bnot_t h2; ?_, fun h2 => have q2 := bnot_f h2; have p2 := planOk_t q2; ?_⟩
  refine have hm1 : strmNew p data script = (⟨(⟨[], 0, ([] : List Rd), 0, 0⟩ : Rdr), (⟨(⟨([] : List Shp), 0, 0, 0⟩ : Pln), 0, ([] : List Lev), (⟨0, 0⟩ : Scn), 0, 0, (⟨0, 0, false, false, 0⟩ : Fld), 0, 0, (⟨0, 0, 0⟩ : Utf), (⟨0, 0, 0, 0, [], 0, 0⟩ : Ev)⟩ : Dcd), ([] : List Ev), 0⟩ : Strm) := ?_; ?_
  rotate_left
  refine ⟨(congrArg S.tup (consE (congrArg V.agg (consE (congrArg C.str ?_) (consE (congrArg (C.int .i64) ?_) (consE rfl (consE (congrArg (C.int .i64) ?_) (consE (congrArg (C.int .i64) ?_) (consE rfl (consE (congrArg (C.int .i64) ?_) (consE (congrArg (C.int .i64) ?_) (consE (congrArg (C.int .i64) ?_) (consE (congrArg (C.int .i64) ?_) (consE rfl (consE (congrArg (C.int .u64) ?_) (consE (congrArg (C.int .i64) ?_) (consE (congrArg (C.int .i64) ?_) (consE (congrArg (C.int .i64) ?_) (consE (congrArg (C.int .i64) ?_) (consE (congrArg (C.int .i64) ?_) (consE (congrArg C.bool ?_) (consE (congrArg C.bool ?_) (consE (congrArg (C.int .i64) ?_) (consE (congrArg (C.int .i64) ?_) (consE (congrArg (C.int .i64) ?_) (consE (congrArg (C.int .i64) ?_) (consE (congrArg (C.int .i64) ?_) (consE (congrArg (C.int .i64) ?_) (consE (congrArg (C.int .i64) ?_) (consE (congrArg (C.int .i64) ?_) (consE (congrArg (C.int .u64) ?_) (consE (congrArg (C.int .i64) ?_) (consE (congrArg C.str ?_) (consE (congrArg (C.int .i64) ?_) (consE (congrArg (C.int .i64) ?_) (consE rfl (consE (congrArg (C.int .i64) ?_) rfl))))))))))))))))))))))))))))))))))) (consE (congrArg V.c (congrArg C.bool ?_)) rfl))), (by rw [hm1] <;> rfl)⟩
  rotate_left 31
  refine have hm1 : strmNew p data script = (⟨(rdrNew data script), (decNew p), ([] : List Ev), 0⟩ : Strm) := ?_; ?_
  rotate_left
  refine ⟨(congrArg S.tup (consE (congrArg V.agg (consE (congrArg C.str ?_) (consE (congrArg (C.int .i64) ?_) (consE rfl (consE (congrArg (C.int .i64) ?_) (consE (congrArg (C.int .i64) ?_) (consE rfl (consE (congrArg (C.int .i64) ?_) (consE (congrArg (C.int .i64) ?_) (consE (congrArg (C.int .i64) ?_) (consE (congrArg (C.int .i64) ?_) (consE rfl (consE (congrArg (C.int .u64) ?_) (consE (congrArg (C.int .i64) ?_) (consE (congrArg (C.int .i64) ?_) (consE (congrArg (C.int .i64) ?_) (consE (congrArg (C.int .i64) ?_) (consE (congrArg (C.int .i64) ?_) (consE (congrArg C.bool ?_) (consE (congrArg C.bool ?_) (consE (congrArg (C.int .i64) ?_) (consE (congrArg (C.int .i64) ?_) (consE (congrArg (C.int .i64) ?_) (consE (congrArg (C.int .i64) ?_) (consE (congrArg (C.int .i64) ?_) (consE (congrArg (C.int .i64) ?_) (consE (congrArg (C.int .i64) ?_) (consE (congrArg (C.int .i64) ?_) (consE (congrArg (C.int .u64) ?_) (consE (congrArg (C.int .i64) ?_) (consE (congrArg C.str ?_) (consE (congrArg (C.int .i64) ?_) (consE (congrArg (C.int .i64) ?_) (consE rfl (consE (congrArg (C.int .i64) ?_) rfl))))))))))))))))))))))))))))))))))) (consE (congrArg V.c (congrArg C.bool ?_)) rfl))), (by rw [hm1] <;> rfl)⟩
  rotate_left 31
  all_goals first | (simp_all [strmNew, strmNewOk, rdr0, dcd0]; done) | (grind [strmNew, strmNewOk, rdr0, dcd0])
structure value_i_J1000002_V where
  isBytes : Bool
structure frameCode_i_V0 where
  f : Fmr
  v : Nat
structure frameCode_s_V0 where
  r : Fs
  i : Nat
def szShL : Int → List Shp → Int
  | left, [] => left
  | left, x :: r => if left - (x.fields.length : Int) < 0 then -1 else szShL (left - (x.fields.length : Int)) r
def szShS (left : Int) (l : List Shp) : Int := if left - (l.length : Int) < 0 then -1 else szShL (left - (l.length : Int)) l
theorem szShL_b : ∀ {l : List Shp} {left : Int}, 0 ≤ left → left ≤ 1048576 → -1 ≤ szShL left l ∧ szShL left l ≤ left ∧ (0 ≤ szShL left l → ∀ e ∈ l, e.fields.length ≤ 1048576)
  | [], left, h, h2 => by simp [szShL]; omega
  | e :: r, left, h, h2 => by
    unfold szShL
    split
    · omega
    · have := szShL_b (l := r) (left := left - (e.fields.length : Int)) (by omega) (by omega)
      refine ⟨this.1, by omega, fun h3 x hx => ?_⟩
      rcases List.mem_cons.1 hx with rfl | hx
      · omega
      · exact this.2.2 h3 x hx
theorem szShS_b {l : List Shp} {left : Int} (h : 0 ≤ left) (h2 : left ≤ 1048576) : -1 ≤ szShS left l ∧ szShS left l ≤ left ∧ (0 ≤ szShS left l → l.length ≤ 1048576 ∧ ∀ e ∈ l, e.fields.length ≤ 1048576) := by
  unfold szShS
  split
  · omega
  · have := szShL_b (l := l) (left := left - (l.length : Int)) (by omega) (by omega)
    exact ⟨this.1, by omega, fun h3 => ⟨by omega, this.2.2 h3⟩⟩
theorem szShL_cons {left : Int} {e : Shp} {r : List Shp} : szShL left (e :: r) = if left - (e.fields.length : Int) < 0 then -1 else szShL (left - (e.fields.length : Int)) r := rfl
structure szEventS_ok_V0 where
  left : Int
  i : Nat
theorem szFieldS_ok (l : List Fld) (left : Int) (hp1 : (0 : Int) ≤ left ∧ left ≤ 1048576) (hp2 : (l.length : Int) ≤ 9223372036854775807) : Fun Try.prog 153 [.c (.seq .fld l), vI left] [] (.v (vI (szN left (l.length : Int)))) [] := by
  have hN : bigN = 274877906944 := rfl
  refine fun_ofw Try.func153 (by kernel_rfl) (by kernel_rfl) (w := let z1 := (l.length : Int); (.seg [.as 8 (.v (vI (left - z1)))] (.br (.leaf () []) (.leaf () [])), ((.v (vI (IntKind.i64.wrap (left - z1))) : S) = .v (vI (left - z1))) ∧ ((decide (left - z1 < 0)) = true → (.v (vI (-1)) : S) = .v (vI (szN left z1)) ∧ ([] : List Blk) = []) ∧ ((decide (left - z1 < 0)) = false → (.v (vI (left - z1)) : S) = .v (vI (szN left z1)) ∧ ([] : List Blk) = []))) (by kernel_rfl) ?_
  refine ⟨(as_i64 (by omega) (by omega)), dsp (fun h1 p1 => ?_) fun h1 p1 => ?_⟩
  refine ⟨(sI ?_), rfl⟩
  rotate_left
  refine ⟨(sI ?_), rfl⟩
  rotate_left
  all_goals first | (simp [szN, *]; done) | (grind [szN])
theorem szShape_ok (a : Shp) (left : Int) (hp1 : (0 : Int) ≤ left ∧ left ≤ 1048576) (hp2 : ((List.length (a).fields : Nat) : Int) ≤ 9223372036854775807) : Fun Try.prog 115 [.agg (cShp a), vI left] [] (.v (vI (if left - ((List.length (a).fields : Nat) : Int) < 0 then -1 else left - ((List.length (a).fields : Nat) : Int)))) [] := by
  have hN : bigN = 274877906944 := rfl
  refine fun_ofw Try.func115 (by kernel_rfl) (by kernel_rfl) (w := let z1 := (a.fields.length : Int); let z3 := ((List.length (a).fields : Nat) : Int); let z2 := vI (if left - z3 < 0 then -1 else left - z3); let z4 := vI (szN left z1); (.seg [.call [] (.v z4) []] (.br (.leaf () []) (.leaf () [])), (Fun Try.prog 153 [.c (.seq .fld a.fields), vI left] [] (.v z4) []) ∧ ((decide (szN left z1 < 0)) = true → (.v (vI (-1)) : S) = .v z2 ∧ ([] : List Blk) = []) ∧ ((decide (szN left z1 < 0)) = false → (.v z4 : S) = .v z2 ∧ ([] : List Blk) = []))) (by kernel_rfl) ?_
  refine ⟨(szFieldS_ok _ _ (by omega) (by omega)), dsp (fun h1 p1 => ?_) fun h1 p1 => ?_⟩
  exact ⟨(congrArg S.v (congrArg V.c (congrArg (C.int .i64) (by grind [szN])))), rfl⟩
  exact ⟨(congrArg S.v (congrArg V.c (congrArg (C.int .i64) (by grind [szN])))), rfl⟩
structure szShapeS_ok_V0 where
  left : Int
  i : Nat
def szShapeS_ok_F0 (l : List Shp) (left : Int) : Fam := ⟨szShapeS_ok_V0, fun q1 => [(0, .v (.c (.seq .shp l))), (1, .v (vI q1.left)), (5, .v (vI (q1.i : Int)))], fun _ => [], fun q1 => q1.i ≤ l.length ∧ (0 : Int) ≤ q1.left ∧ q1.left ≤ 1048576 ∧ szShL q1.left (List.drop q1.i l) = szShS left l, fun q1 => l.length - q1.i⟩
theorem szShapeS_ok (l : List Shp) (left : Int) (hp1 : (0 : Int) ≤ left ∧ left ≤ 1048576) (hp2 : (l.length : Int) ≤ 9223372036854775807) (hp3 : ∀ e ∈ l, (e.fields.length : Int) ≤ 9223372036854775807) : Fun Try.prog 69 [.c (.seq .shp l), vI left] [] (.v (vI (szShS left l))) [] := by
  have hN : bigN = 274877906944 := rfl
  refine fun_ofw Try.func69 (by kernel_rfl) (by kernel_rfl) (w := let z5 := (l.length : Int); let z6 := szShapeS_ok_F0 l left; let z7 := vI (szShS left l); (.seg [.as 9 (.v (vI (left - z5)))] (.br (.leaf () []) (.seg [.at 0, .keep [0, 1, 5], .sel []] (.loop z6 fun q1 => .br (.intro (fun (x1 : Shp) => l[q1.i]? = some x1) fun x1 => let z1 := ((List.length (x1).fields : Nat) : Int); .seg [.el .shp x1, .call [] (.v (vI (if q1.left - z1 < 0 then -1 else q1.left - z1))) []] (.br (.leaf () []) (.seg [.as 17 (.v (vI ((q1.i : Int) + 1))), .at 0, .keep [0, 1, 5], .sel []] (.next)))) (.leaf () [])))), ((.v (vI (IntKind.i64.wrap (left - z5))) : S) = .v (vI (left - z5))) ∧ ((decide (left - z5 < 0)) = true → (.v (vI (-1)) : S) = .v z7 ∧ ([] : List Blk) = []) ∧ ((decide (left - z5 < 0)) = false → z6.Has [(0, .v (.c (.seq .shp l))), (1, .v (vI (left - z5))), (5, .v (vI 0))] [] ∧ ∀ q1, z6.inv q1 → (let z4 := (q1.i : Int); ((decide (z4 < z5)) = true → (∃ (x1 : Shp), l[q1.i]? = some x1) ∧ ∀ (x1 : Shp), (l[q1.i]? = some x1) → (let z3 := ((List.length (x1).fields : Nat) : Int); let z2 := if q1.left - z3 < 0 then -1 else q1.left - z3; (l[q1.i]? = some x1) ∧ ((0 : Int) ≤ z4) ∧ (Fun Try.prog 115 [.agg (cShp x1), vI q1.left] [] (.v (vI z2)) []) ∧ ((decide (z2 < 0)) = true → (.v (vI (-1)) : S) = .v z7 ∧ ([] : List Blk) = []) ∧ ((decide (z2 < 0)) = false → ((.v (vI (IntKind.i64.wrap (z4 + 1))) : S) = .v (vI (z4 + 1))) ∧ z6.Nxt q1 [(0, .v (.c (.seq .shp l))), (1, .v (vI z2)), (5, .v (vI (z4 + 1)))] []))) ∧ ((decide (z4 < z5)) = false → (.v (vI q1.left) : S) = .v z7 ∧ ([] : List Blk) = []))))) (by kernel_rfl) ?_
  refine ⟨(as_i64 (by omega) (by omega)), dsp (fun h1 p1 => ?_) fun h1 p1 => ?_⟩
  refine ⟨(sI ?_), rfl⟩
  rotate_left
  refine ⟨has_of (j := (⟨left - (l.length : Int), 0⟩ : szShapeS_ok_V0)) (by first | rfl | simp) rfl (by dsimp only [szShapeS_ok_F0]; exact ⟨by omega, by omega, by omega, by rw [szShS, if_neg (by omega)]; rfl⟩), fun (q1 : szShapeS_ok_V0) hq_q1 => ?_⟩
  have hi_q1 : q1.i ≤ l.length ∧ (0 : Int) ≤ q1.left ∧ q1.left ≤ 1048576 ∧ szShL q1.left (List.drop q1.i l) = szShS left l := hq_q1
  obtain ⟨v1, v2, v3, v4⟩ := hi_q1
  refine dsp (fun h2 p2 => ?_) fun h2 p2 => ?_
  refine ⟨(ax_get (l := l) (i := q1.i) (by omega)), fun x1 hx1 => ?_⟩
  rw [drop_el hx1, szShL_cons] at v4
  have hz := hp3 x1 (List.mem_of_getElem? hx1)
  refine ⟨hx1, (by omega), (szShape_ok x1 _ (by omega) (by omega)), dsp (fun h3 p3 => ?_) fun h3 p3 => ?_⟩
  refine ⟨(sI ?_), rfl⟩
  rotate_left
  exact ⟨(as_i64 (by omega) (by omega)), nxt_of (j := (⟨(if q1.left - ((List.length (x1).fields : Nat) : Int) < 0 then -1 else q1.left - ((List.length (x1).fields : Nat) : Int)), q1.i + 1⟩ : szShapeS_ok_V0)) (by first | rfl | simp) rfl (by dsimp only [szShapeS_ok_F0]; exact ⟨by omega, by grind, by grind, by grind⟩) (by dsimp only [szShapeS_ok_F0]; omega)⟩
  rw [drop_end p2] at v4
  refine ⟨(sI ?_), rfl⟩
  rotate_left
  all_goals first | (grind [szShS, szShL])
theorem szSchema_ok (l : List Shp) (left : Int) (hp1 : (0 : Int) ≤ left ∧ left ≤ 1048576) (hp2 : (l.length : Int) ≤ 9223372036854775807) (hp3 : ∀ e ∈ l, (e.fields.length : Int) ≤ 9223372036854775807) : Fun Try.prog 38 [.agg [.seq .shp l], vI left] [] (.v (vI (szShS left l))) [] := by
  have hN : bigN = 274877906944 := rfl
  refine fun_ofw Try.func38 (by kernel_rfl) (by kernel_rfl) (w := let z1 := vI (szShS left l); (.seg [.call [] (.v z1) []] (.br (.leaf () []) (.leaf () [])), (Fun Try.prog 69 [.c (.seq .shp l), vI left] [] (.v z1) []) ∧ ((decide (szShS left l < 0)) = true → (.v (vI (-1)) : S) = .v z1 ∧ ([] : List Blk) = []) ∧ ((decide (szShS left l < 0)) = false → (.v z1 : S) = .v z1 ∧ ([] : List Blk) = []))) (by kernel_rfl) ?_
  refine ⟨(szShapeS_ok _ _ (by omega) (by omega) (hp3)), dsp (fun h1 p1 => ?_) fun h1 p1 => ?_⟩
  refine ⟨(sI ?_), rfl⟩
  rotate_left
  exact ⟨rfl, rfl⟩
  all_goals have := szShS_b (l := l) (left := left) (by omega) (by omega); omega
theorem szPlan_ok (a : Pln) (left : Int) (hp1 : (0 : Int) ≤ left ∧ left ≤ 1048576) (hp2 : ((List.length (a).shapes : Nat) : Int) ≤ 9223372036854775807) (hp3 : ∀ e ∈ (a).shapes, (e.fields.length : Int) ≤ 9223372036854775807) : Fun Try.prog 8 [.agg (cPln a), vI left] [] (.v (vI (szShS left (a).shapes))) [] := by
  have hN : bigN = 274877906944 := rfl
  refine fun_ofw Try.func8 (by kernel_rfl) (by kernel_rfl) (w := let z1 := vI (szShS left a.shapes); let z2 := decide (szShS left a.shapes < 0); (.seg [.call [] (.v z1) []] (.br (.leaf () []) (.leaf () [])), (Fun Try.prog 38 [.agg [.seq .shp a.shapes], vI left] [] (.v z1) []) ∧ (z2 = true → (.v (vI (-1)) : S) = .v (vI (szShS left (a).shapes)) ∧ ([] : List Blk) = []) ∧ (z2 = false → (.v z1 : S) = .v (vI (szShS left (a).shapes)) ∧ ([] : List Blk) = []))) (by kernel_rfl) ?_
  refine ⟨(szSchema_ok a.shapes _ (by omega) (by omega) (hp3)), dsp (fun h1 p1 => ?_) fun h1 p1 => ?_⟩
  refine ⟨(sI ?_), rfl⟩
  rotate_left
  refine ⟨(sI ?_), rfl⟩
  rotate_left
  all_goals have := szShS_b (l := a.shapes) (left := left) (by omega) (by omega); omega
theorem toField_ok (a : Fld) : Fun Try.prog 176 [.agg (cFld a)] [] (.v (.agg (cFld a))) [] := by
  have hN : bigN = 274877906944 := rfl
  refine fun_ofw Try.func176 (by kernel_rfl) (by kernel_rfl) (w := (.leaf () [], (.v (.agg (cFld a)) : S) = .v (.agg (cFld a)) ∧ ([] : List Blk) = [])) (by kernel_rfl) ?_
  exact ⟨rfl, rfl⟩
structure toFieldS_ok_V0 where
  out : List Fld
  i : Nat
def toFieldS_ok_F0 (l : List Fld) : Fam := ⟨toFieldS_ok_V0, fun q1 => [(0, .v (.c (.seq .fld l))), (3, .v (vO 0)), (4, .v (vI (q1.i : Int)))], fun q1 => [.lst .fld q1.out], fun q1 => q1.i ≤ l.length ∧ q1.out.length = l.length ∧ List.take q1.i q1.out = List.take q1.i l, fun q1 => l.length - q1.i⟩
theorem toFieldS_ok (l : List Fld) (hp1 : l.length ≤ 1048576) : Fun Try.prog 156 [.c (.seq .fld l)] [] (.v (vO 0)) [.lst .fld l] := by
  have hN : bigN = 274877906944 := rfl
  refine fun_ofw Try.func156 (by kernel_rfl) (by kernel_rfl) (w := let z2 := (l.length : Int); let z3 := toFieldS_ok_F0 l; (.seg [.ty .fld, .at 0, .keep [0, 3, 4], .sel [0]] (.loop z3 fun q1 => .br (.intro (fun (x1 : Fld) => l[q1.i]? = some x1) fun x1 => .seg [.el .fld x1, .call [] (.v (.agg (cFld x1))) []] (.intro (fun (x2 : Fld) => q1.out[q1.i]? = some x2) fun x2 => .seg [.el .fld x2, .as 13 (.v (vI ((q1.i : Int) + 1))), .at 0, .keep [0, 3, 4], .sel [0]] (.next))) (.leaf () [0])), (z2 ≤ 9223372036854775807) ∧ (((32 : Nat) : Int) * z2 ≤ 281474976710656) ∧ (z2 ≤ z2) ∧ ((0 : Int) ≤ z2) ∧ z3.Has [(0, .v (.c (.seq .fld l))), (3, .v (vO 0)), (4, .v (vI 0))] [.lst .fld (List.replicate (l.length) (⟨0, 0, false, false, 0⟩ : Fld))] ∧ ∀ q1, z3.inv q1 → (let z1 := (q1.i : Int); ((decide (z1 < z2)) = true → (∃ (x1 : Fld), l[q1.i]? = some x1) ∧ ∀ (x1 : Fld), (l[q1.i]? = some x1) → ((l[q1.i]? = some x1) ∧ ((0 : Int) ≤ z1) ∧ (Fun Try.prog 176 [.agg (cFld x1)] [] (.v (.agg (cFld x1))) []) ∧ (∃ (x2 : Fld), q1.out[q1.i]? = some x2) ∧ ∀ (x2 : Fld), (q1.out[q1.i]? = some x2) → ((z1 < (q1.out.length : Int)) ∧ ((0 : Int) ≤ z1) ∧ (q1.out[q1.i]? = some x2) ∧ ((.v (vI (IntKind.i64.wrap (z1 + 1))) : S) = .v (vI (z1 + 1))) ∧ z3.Nxt q1 [(0, .v (.c (.seq .fld l))), (3, .v (vO 0)), (4, .v (vI (z1 + 1)))] [.lst .fld (List.set q1.out q1.i x1)]))) ∧ ((decide (z1 < z2)) = false → (.v (vO 0) : S) = .v (vO 0) ∧ ([.lst .fld q1.out] : List Blk) = [.lst .fld l])))) (by kernel_rfl) ?_
  refine ⟨(by omega), (by omega), (by omega), (by omega), has_of (j := (⟨List.replicate (l.length) (⟨0, 0, false, false, 0⟩ : Fld), 0⟩ : toFieldS_ok_V0)) (by first | rfl | simp) rfl (by dsimp only [toFieldS_ok_F0]; exact ⟨by omega, by simp, by simp⟩), fun (q1 : toFieldS_ok_V0) hq_q1 => ?_⟩
  have hi_q1 : q1.i ≤ l.length ∧ q1.out.length = l.length ∧ List.take q1.i q1.out = List.take q1.i l := hq_q1
  obtain ⟨v1, v2, v3⟩ := hi_q1
  refine dsp (fun h1 p1 => ?_) fun h1 p1 => ?_
  refine ⟨(ax_get (l := l) (i := q1.i) (by omega)), fun x1 hx1 => ?_⟩
  refine ⟨hx1, (by omega), (toField_ok x1), (ax_get (l := q1.out) (i := q1.i) (by omega)), fun x2 hx2 => ?_⟩
  exact ⟨(by omega), (by omega), hx2, (as_i64 (by omega) (by omega)), nxt_of (j := (⟨List.set q1.out q1.i x1, q1.i + 1⟩ : toFieldS_ok_V0)) (by first | rfl | simp) rfl (by dsimp only [toFieldS_ok_F0]; exact ⟨by omega, by simp [v2], fill_set v3 v2 hx1⟩) (by dsimp only [toFieldS_ok_F0]; omega)⟩
  refine ⟨rfl, (consE (congrArg (Blk.lst .fld) ?_) rfl)⟩
  rotate_left
  all_goals exact fill_done v3 v2 (by omega)
theorem toShape_ok (a : Shp) (hp1 : List.length (a).fields ≤ 1048576) : Fun Try.prog 117 [.agg (cShp a)] [] (.v (.agg [.int .i64 a.id, .own 0])) [.lst .fld a.fields] := by
  have hN : bigN = 274877906944 := rfl
  refine fun_ofw Try.func117 (by kernel_rfl) (by kernel_rfl) (w := let z1 : List Blk := [.lst .fld a.fields]; (.seg [.call [] (.v (vO 0)) z1] (.leaf () [3]), (Fun Try.prog 156 [.c (.seq .fld a.fields)] [] (.v (vO 0)) z1) ∧ (.v (.agg [.int .i64 a.id, .own 0]) : S) = .v (.agg [.int .i64 a.id, .own 0]) ∧ (z1 : List Blk) = z1)) (by kernel_rfl) ?_
  exact ⟨(toFieldS_ok _ (by omega)), rfl, rfl⟩
structure toShapeS_ok_V0 where
  out : List Shp
  i : Nat
def toShapeS_ok_F0 (l : List Shp) : Fam := ⟨toShapeS_ok_V0, fun q1 => [(0, .v (.c (.seq .shp l))), (3, .v (vO 0)), (4, .v (vI (q1.i : Int)))], fun q1 => [.tree q1.out], fun q1 => q1.i ≤ l.length ∧ q1.out.length = l.length ∧ List.take q1.i q1.out = List.take q1.i l, fun q1 => l.length - q1.i⟩
theorem toShapeS_ok (l : List Shp) (hp1 : l.length ≤ 1048576) (hp2 : ∀ e ∈ l, e.fields.length ≤ 1048576) : Fun Try.prog 73 [.c (.seq .shp l)] [] (.v (vO 0)) [.tree l] := by
  have hN : bigN = 274877906944 := rfl
  refine fun_ofw Try.func73 (by kernel_rfl) (by kernel_rfl) (w := let z2 := (l.length : Int); let z3 := toShapeS_ok_F0 l; (.seg [.tyT, .at 0, .keep [0, 3, 4], .sel [0]] (.loop z3 fun q1 => .br (.intro (fun (x1 : Shp) => l[q1.i]? = some x1) fun x1 => .seg [.el .shp x1, .call [] (.v (.agg [.int .i64 x1.id, .own 0])) [.lst .fld x1.fields]] (.intro (fun (x2 : Shp) => q1.out[q1.i]? = some x2) fun x2 => .seg [.el .shp x2, .as 13 (.v (vI ((q1.i : Int) + 1))), .at 0, .keep [0, 3, 4], .sel [0]] (.next))) (.leaf () [0])), (z2 ≤ 9223372036854775807) ∧ (((32 : Nat) : Int) * z2 ≤ 281474976710656) ∧ (z2 ≤ z2) ∧ ((0 : Int) ≤ z2) ∧ z3.Has [(0, .v (.c (.seq .shp l))), (3, .v (vO 0)), (4, .v (vI 0))] [.tree (List.replicate (l.length) (⟨0, ([] : List Fld)⟩ : Shp))] ∧ ∀ q1, z3.inv q1 → (let z1 := (q1.i : Int); ((decide (z1 < z2)) = true → (∃ (x1 : Shp), l[q1.i]? = some x1) ∧ ∀ (x1 : Shp), (l[q1.i]? = some x1) → ((l[q1.i]? = some x1) ∧ ((0 : Int) ≤ z1) ∧ (Fun Try.prog 117 [.agg (cShp x1)] [] (.v (.agg [.int .i64 x1.id, .own 0])) [.lst .fld x1.fields]) ∧ (∃ (x2 : Shp), q1.out[q1.i]? = some x2) ∧ ∀ (x2 : Shp), (q1.out[q1.i]? = some x2) → ((z1 < (q1.out.length : Int)) ∧ ((0 : Int) ≤ z1) ∧ (q1.out[q1.i]? = some x2) ∧ ((.v (vI (IntKind.i64.wrap (z1 + 1))) : S) = .v (vI (z1 + 1))) ∧ z3.Nxt q1 [(0, .v (.c (.seq .shp l))), (3, .v (vO 0)), (4, .v (vI (z1 + 1)))] [.tree (List.set q1.out q1.i (⟨x1.id, x1.fields⟩ : Shp))]))) ∧ ((decide (z1 < z2)) = false → (.v (vO 0) : S) = .v (vO 0) ∧ ([.tree q1.out] : List Blk) = [.tree l])))) (by kernel_rfl) ?_
  refine ⟨(by omega), (by omega), (by omega), (by omega), has_of (j := (⟨List.replicate (l.length) (⟨0, ([] : List Fld)⟩ : Shp), 0⟩ : toShapeS_ok_V0)) (by first | rfl | simp) rfl (by dsimp only [toShapeS_ok_F0]; exact ⟨by omega, by simp, by simp⟩), fun (q1 : toShapeS_ok_V0) hq_q1 => ?_⟩
  have hi_q1 : q1.i ≤ l.length ∧ q1.out.length = l.length ∧ List.take q1.i q1.out = List.take q1.i l := hq_q1
  obtain ⟨v1, v2, v3⟩ := hi_q1
  refine dsp (fun h1 p1 => ?_) fun h1 p1 => ?_
  refine ⟨(ax_get (l := l) (i := q1.i) (by omega)), fun x1 hx1 => ?_⟩
  have hfx := hp2 x1 (List.mem_of_getElem? hx1)
  refine ⟨hx1, (by omega), (toShape_ok x1 (by omega)), (ax_get (l := q1.out) (i := q1.i) (by omega)), fun x2 hx2 => ?_⟩
  exact ⟨(by omega), (by omega), hx2, (as_i64 (by omega) (by omega)), nxt_of (j := (⟨List.set q1.out q1.i (⟨x1.id, x1.fields⟩ : Shp), q1.i + 1⟩ : toShapeS_ok_V0)) (by first | rfl | simp) rfl (by dsimp only [toShapeS_ok_F0]; exact ⟨by omega, by simp [v2], fill_set v3 v2 hx1⟩) (by dsimp only [toShapeS_ok_F0]; omega)⟩
  refine ⟨rfl, (consE (congrArg Blk.tree ?_) rfl)⟩
  rotate_left
  all_goals exact fill_done v3 v2 (by omega)
theorem toSchema_ok (l : List Shp) (hp1 : l.length ≤ 1048576) (hp2 : ∀ e ∈ l, e.fields.length ≤ 1048576) : Fun Try.prog 41 [.agg [.seq .shp l]] [] (.v (.agg [.own 0])) [.tree l] := by
  have hN : bigN = 274877906944 := rfl
  refine fun_ofw Try.func41 (by kernel_rfl) (by kernel_rfl) (w := (.seg [.call [] (.v (vO 0)) [.tree l]] (.leaf () [3]), (Fun Try.prog 73 [.c (.seq .shp l)] [] (.v (vO 0)) [.tree l]) ∧ (.v (.agg [.own 0]) : S) = .v (.agg [.own 0]) ∧ ([.tree l] : List Blk) = [.tree l])) (by kernel_rfl) ?_
  exact ⟨(toShapeS_ok _ (by omega) (hp2)), rfl, rfl⟩
theorem toPlan_ok (a : Pln) (hp1 : List.length (a).shapes ≤ 1048576) (hp2 : ∀ e ∈ (a).shapes, e.fields.length ≤ 1048576) : Fun Try.prog 10 [.agg (cPln a)] [] (.v (.agg (oPln0 0 a))) [.tree a.shapes] := by
  have hN : bigN = 274877906944 := rfl
  refine fun_ofw Try.func10 (by kernel_rfl) (by kernel_rfl) (w := (.seg [.call [] (.v (.agg [.own 0])) [.tree a.shapes]] (.leaf () [3]), (Fun Try.prog 41 [.agg [.seq .shp a.shapes]] [] (.v (.agg [.own 0])) [.tree a.shapes]) ∧ (.v (.agg (oPln0 0 a)) : S) = .v (.agg (oPln0 0 a)) ∧ ([.tree a.shapes] : List Blk) = [.tree a.shapes])) (by kernel_rfl) ?_
  exact ⟨(toSchema_ok a.shapes (by omega) (hp2)), rfl, rfl⟩
structure toEventS_ok_V0 where
  out : List Ev
  i : Nat
theorem eqField_ok (a : Fld) : Fun Try.prog 109 [.agg (cFld a), .agg (cFld a)] [] (.v (vB true)) [] := by
  have hN : bigN = 274877906944 := rfl
  refine fun_ofw Try.func109 (by kernel_rfl) (by kernel_rfl) (w := (.seg [.br false, .br false, .br false, .br false, .br false] (.leaf () []), ((!decide (a.number = a.number)) = false) ∧ ((!decide (a.kind = a.kind)) = false) ∧ ((!decide (a.rep = a.rep)) = false) ∧ ((!decide (a.packed = a.packed)) = false) ∧ ((!decide (a.msg = a.msg)) = false) ∧ (.v (vB true) : S) = .v (vB true) ∧ ([] : List Blk) = [])) (by kernel_rfl) ?_
  exact ⟨(by simp), (by simp), (by simp), (by simp), (by simp), rfl, rfl⟩
structure eqFieldS_ok_V0 where
  i : Nat
def eqFieldS_ok_F0 (l : List Fld) : Fam := ⟨eqFieldS_ok_V0, fun q1 => [(0, .v (.c (.seq .fld l))), (1, .v (.c (.seq .fld l))), (5, .v (vI (q1.i : Int)))], fun _ => [], fun q1 => q1.i ≤ l.length, fun q1 => l.length - q1.i⟩
theorem eqFieldS_ok (l : List Fld) (hp1 : l.length ≤ bigN) : Fun Try.prog 159 [.c (.seq .fld l), .c (.seq .fld l)] [] (.v (vB true)) [] := by
  have hN : bigN = 274877906944 := rfl
  refine fun_ofw Try.func159 (by kernel_rfl) (by kernel_rfl) (w := let z3 := (l.length : Int); let z4 := eqFieldS_ok_F0 l; (.seg [.br false, .at 0, .keep [0, 1, 5], .sel []] (.loop z4 fun q1 => .br (.intro (fun (x1 : Fld) => l[q1.i]? = some x1) fun x1 => .seg [.ord (os 10 [8]) [], .el .fld x1, .el .fld x1, .call [] (.v (vB true)) [], .br false, .as 16 (.v (vI ((q1.i : Int) + 1))), .at 0, .keep [0, 1, 5], .sel []] (.next)) (.leaf () [])), ((!decide (z3 = z3)) = false) ∧ z4.Has [(0, .v (.c (.seq .fld l))), (1, .v (.c (.seq .fld l))), (5, .v (vI 0))] [] ∧ ∀ q1, z4.inv q1 → (let z2 := (q1.i : Int); ((decide (z2 < z3)) = true → (∃ (x1 : Fld), l[q1.i]? = some x1) ∧ ∀ (x1 : Fld), (l[q1.i]? = some x1) → (let z1 := l[q1.i]? = some x1; z1 ∧ ((0 : Int) ≤ z2) ∧ z1 ∧ ((0 : Int) ≤ z2) ∧ z1 ∧ ((0 : Int) ≤ z2) ∧ z1 ∧ ((0 : Int) ≤ z2) ∧ (Fun Try.prog 109 [.agg (cFld x1), .agg (cFld x1)] [] (.v (vB true)) []) ∧ ((!true) = false) ∧ ((.v (vI (IntKind.i64.wrap (z2 + 1))) : S) = .v (vI (z2 + 1))) ∧ z4.Nxt q1 [(0, .v (.c (.seq .fld l))), (1, .v (.c (.seq .fld l))), (5, .v (vI (z2 + 1)))] [])) ∧ ((decide (z2 < z3)) = false → (.v (vB true) : S) = .v (vB true) ∧ ([] : List Blk) = [])))) (by kernel_rfl) ?_
  refine ⟨(by simp), has_of (j := (⟨0⟩ : eqFieldS_ok_V0)) (by first | rfl | simp) rfl (by dsimp only [eqFieldS_ok_F0]; omega), fun (q1 : eqFieldS_ok_V0) hq_q1 => ?_⟩
  have hi_q1 : q1.i ≤ l.length := hq_q1
  refine dsp (fun h1 p1 => ?_) fun h1 p1 => ?_
  refine ⟨(ax_get (l := l) (i := q1.i) (by omega)), fun x1 hx1 => ?_⟩
  exact ⟨hx1, (by omega), hx1, (by omega), hx1, (by omega), hx1, (by omega), (eqField_ok x1), (by decide), (as_i64 (by omega) (by omega)), nxt_of (j := (⟨q1.i + 1⟩ : eqFieldS_ok_V0)) (by first | rfl | simp) rfl (by dsimp only [eqFieldS_ok_F0]; omega) (by dsimp only [eqFieldS_ok_F0]; omega)⟩
  exact ⟨rfl, rfl⟩
theorem eqShape_ok (a : Shp) (hp1 : List.length (a).fields ≤ bigN) : Fun Try.prog 121 [.agg (cShp a), .agg (cShp a)] [] (.v (vB true)) [] := by
  have hN : bigN = 274877906944 := rfl
  refine fun_ofw Try.func121 (by kernel_rfl) (by kernel_rfl) (w := (.seg [.br false, .call [] (.v (vB true)) [], .br false] (.leaf () []), ((!decide (a.id = a.id)) = false) ∧ (Fun Try.prog 159 [.c (.seq .fld a.fields), .c (.seq .fld a.fields)] [] (.v (vB true)) []) ∧ ((!true) = false) ∧ (.v (vB true) : S) = .v (vB true) ∧ ([] : List Blk) = [])) (by kernel_rfl) ?_
  exact ⟨(by simp), (eqFieldS_ok _ (by omega)), (by decide), rfl, rfl⟩
structure eqShapeS_ok_V0 where
  i : Nat
def eqShapeS_ok_F0 (l : List Shp) : Fam := ⟨eqShapeS_ok_V0, fun q1 => [(0, .v (.c (.seq .shp l))), (1, .v (.c (.seq .shp l))), (5, .v (vI (q1.i : Int)))], fun _ => [], fun q1 => q1.i ≤ l.length, fun q1 => l.length - q1.i⟩
theorem eqShapeS_ok (l : List Shp) (hp1 : l.length ≤ bigN) (hp2 : ∀ e ∈ l, e.fields.length ≤ bigN) : Fun Try.prog 77 [.c (.seq .shp l), .c (.seq .shp l)] [] (.v (vB true)) [] := by
  have hN : bigN = 274877906944 := rfl
  refine fun_ofw Try.func77 (by kernel_rfl) (by kernel_rfl) (w := let z3 := (l.length : Int); let z4 := eqShapeS_ok_F0 l; (.seg [.br false, .at 0, .keep [0, 1, 5], .sel []] (.loop z4 fun q1 => .br (.intro (fun (x1 : Shp) => l[q1.i]? = some x1) fun x1 => .seg [.ord (os 10 [8]) [], .el .shp x1, .el .shp x1, .call [] (.v (vB true)) [], .br false, .as 16 (.v (vI ((q1.i : Int) + 1))), .at 0, .keep [0, 1, 5], .sel []] (.next)) (.leaf () [])), ((!decide (z3 = z3)) = false) ∧ z4.Has [(0, .v (.c (.seq .shp l))), (1, .v (.c (.seq .shp l))), (5, .v (vI 0))] [] ∧ ∀ q1, z4.inv q1 → (let z2 := (q1.i : Int); ((decide (z2 < z3)) = true → (∃ (x1 : Shp), l[q1.i]? = some x1) ∧ ∀ (x1 : Shp), (l[q1.i]? = some x1) → (let z1 := l[q1.i]? = some x1; z1 ∧ ((0 : Int) ≤ z2) ∧ z1 ∧ ((0 : Int) ≤ z2) ∧ z1 ∧ ((0 : Int) ≤ z2) ∧ z1 ∧ ((0 : Int) ≤ z2) ∧ (Fun Try.prog 121 [.agg (cShp x1), .agg (cShp x1)] [] (.v (vB true)) []) ∧ ((!true) = false) ∧ ((.v (vI (IntKind.i64.wrap (z2 + 1))) : S) = .v (vI (z2 + 1))) ∧ z4.Nxt q1 [(0, .v (.c (.seq .shp l))), (1, .v (.c (.seq .shp l))), (5, .v (vI (z2 + 1)))] [])) ∧ ((decide (z2 < z3)) = false → (.v (vB true) : S) = .v (vB true) ∧ ([] : List Blk) = [])))) (by kernel_rfl) ?_
  refine ⟨(by simp), has_of (j := (⟨0⟩ : eqShapeS_ok_V0)) (by first | rfl | simp) rfl (by dsimp only [eqShapeS_ok_F0]; omega), fun (q1 : eqShapeS_ok_V0) hq_q1 => ?_⟩
  have hi_q1 : q1.i ≤ l.length := hq_q1
  refine dsp (fun h1 p1 => ?_) fun h1 p1 => ?_
  refine ⟨(ax_get (l := l) (i := q1.i) (by omega)), fun x1 hx1 => ?_⟩
  have hfx := hp2 x1 (List.mem_of_getElem? hx1)
  exact ⟨hx1, (by omega), hx1, (by omega), hx1, (by omega), hx1, (by omega), (eqShape_ok x1 (by omega)), (by decide), (as_i64 (by omega) (by omega)), nxt_of (j := (⟨q1.i + 1⟩ : eqShapeS_ok_V0)) (by first | rfl | simp) rfl (by dsimp only [eqShapeS_ok_F0]; omega) (by dsimp only [eqShapeS_ok_F0]; omega)⟩
  exact ⟨rfl, rfl⟩
theorem eqSchema_ok (l : List Shp) (hp1 : l.length ≤ bigN) (hp2 : ∀ e ∈ l, e.fields.length ≤ bigN) : Fun Try.prog 44 [.agg [.seq .shp l], .agg [.seq .shp l]] [] (.v (vB true)) [] := by
  have hN : bigN = 274877906944 := rfl
  refine fun_ofw Try.func44 (by kernel_rfl) (by kernel_rfl) (w := (.seg [.call [] (.v (vB true)) [], .br false] (.leaf () []), (Fun Try.prog 77 [.c (.seq .shp l), .c (.seq .shp l)] [] (.v (vB true)) []) ∧ ((!true) = false) ∧ (.v (vB true) : S) = .v (vB true) ∧ ([] : List Blk) = [])) (by kernel_rfl) ?_
  exact ⟨(eqShapeS_ok _ (by omega) (hp2)), (by decide), rfl, rfl⟩
theorem eqPlan_ok (a : Pln) (hp1 : List.length (a).shapes ≤ bigN) (hp2 : ∀ e ∈ (a).shapes, e.fields.length ≤ bigN) : Fun Try.prog 13 [.agg (cPln a), .agg (cPln a)] [] (.v (vB true)) [] := by
  have hN : bigN = 274877906944 := rfl
  refine fun_ofw Try.func13 (by kernel_rfl) (by kernel_rfl) (w := (.seg [.call [] (.v (vB true)) [], .br false, .br false, .br false, .br false] (.leaf () []), (Fun Try.prog 44 [.agg [.seq .shp a.shapes], .agg [.seq .shp a.shapes]] [] (.v (vB true)) []) ∧ ((!true) = false) ∧ ((!decide (a.root = a.root)) = false) ∧ ((!decide (a.deep = a.deep)) = false) ∧ ((!decide (a.most = a.most)) = false) ∧ (.v (vB true) : S) = .v (vB true) ∧ ([] : List Blk) = [])) (by kernel_rfl) ?_
  exact ⟨(eqSchema_ok a.shapes (by omega) (hp2)), (by decide), (by simp), (by simp), (by simp), rfl, rfl⟩
theorem eqEvent_ok (a : Ev) : Fun Try.prog 24 [.agg (cEv a), .agg (cEv a)] [] (.v (vB true)) [] := by
  have hN : bigN = 274877906944 := rfl
  refine fun_ofw Try.func24 (by kernel_rfl) (by kernel_rfl) (w := (.seg [.br false, .br false, .br false, .br false, .br false, .br false, .br false] (.leaf () []), ((!decide (a.kind = a.kind)) = false) ∧ ((!decide (a.field = a.field)) = false) ∧ ((!decide (a.bits = a.bits)) = false) ∧ ((!decide (a.len = a.len)) = false) ∧ ((!decide (a.text = a.text)) = false) ∧ ((!decide (a.code = a.code)) = false) ∧ ((!decide (a.at_ = a.at_)) = false) ∧ (.v (vB true) : S) = .v (vB true) ∧ ([] : List Blk) = [])) (by kernel_rfl) ?_
  exact ⟨(by simp), (by simp), (by simp), (by simp), (by simp), (by simp), (by simp), rfl, rfl⟩
structure eqEventS_ok_V0 where
  i : Nat
def eqEventS_ok_F0 (l : List Ev) : Fam := ⟨eqEventS_ok_V0, fun q1 => [(0, .v (.c (.seq .ev l))), (1, .v (.c (.seq .ev l))), (5, .v (vI (q1.i : Int)))], fun _ => [], fun q1 => q1.i ≤ l.length, fun q1 => l.length - q1.i⟩
theorem eqEventS_ok (l : List Ev) (hp1 : l.length ≤ bigN) : Fun Try.prog 12 [.c (.seq .ev l), .c (.seq .ev l)] [] (.v (vB true)) [] := by
  have hN : bigN = 274877906944 := rfl
  refine fun_ofw Try.func12 (by kernel_rfl) (by kernel_rfl) (w := let z3 := (l.length : Int); let z4 := eqEventS_ok_F0 l; (.seg [.br false, .at 0, .keep [0, 1, 5], .sel []] (.loop z4 fun q1 => .br (.intro (fun (x1 : Ev) => l[q1.i]? = some x1) fun x1 => .seg [.ord (os 10 [8]) [], .el .ev x1, .el .ev x1, .call [] (.v (vB true)) [], .br false, .as 16 (.v (vI ((q1.i : Int) + 1))), .at 0, .keep [0, 1, 5], .sel []] (.next)) (.leaf () [])), ((!decide (z3 = z3)) = false) ∧ z4.Has [(0, .v (.c (.seq .ev l))), (1, .v (.c (.seq .ev l))), (5, .v (vI 0))] [] ∧ ∀ q1, z4.inv q1 → (let z2 := (q1.i : Int); ((decide (z2 < z3)) = true → (∃ (x1 : Ev), l[q1.i]? = some x1) ∧ ∀ (x1 : Ev), (l[q1.i]? = some x1) → (let z1 := l[q1.i]? = some x1; z1 ∧ ((0 : Int) ≤ z2) ∧ z1 ∧ ((0 : Int) ≤ z2) ∧ z1 ∧ ((0 : Int) ≤ z2) ∧ z1 ∧ ((0 : Int) ≤ z2) ∧ (Fun Try.prog 24 [.agg (cEv x1), .agg (cEv x1)] [] (.v (vB true)) []) ∧ ((!true) = false) ∧ ((.v (vI (IntKind.i64.wrap (z2 + 1))) : S) = .v (vI (z2 + 1))) ∧ z4.Nxt q1 [(0, .v (.c (.seq .ev l))), (1, .v (.c (.seq .ev l))), (5, .v (vI (z2 + 1)))] [])) ∧ ((decide (z2 < z3)) = false → (.v (vB true) : S) = .v (vB true) ∧ ([] : List Blk) = [])))) (by kernel_rfl) ?_
  refine ⟨(by simp), has_of (j := (⟨0⟩ : eqEventS_ok_V0)) (by first | rfl | simp) rfl (by dsimp only [eqEventS_ok_F0]; omega), fun (q1 : eqEventS_ok_V0) hq_q1 => ?_⟩
  have hi_q1 : q1.i ≤ l.length := hq_q1
  refine dsp (fun h1 p1 => ?_) fun h1 p1 => ?_
  refine ⟨(ax_get (l := l) (i := q1.i) (by omega)), fun x1 hx1 => ?_⟩
  exact ⟨hx1, (by omega), hx1, (by omega), hx1, (by omega), hx1, (by omega), (eqEvent_ok x1), (by decide), (as_i64 (by omega) (by omega)), nxt_of (j := (⟨q1.i + 1⟩ : eqEventS_ok_V0)) (by first | rfl | simp) rfl (by dsimp only [eqEventS_ok_F0]; omega) (by dsimp only [eqEventS_ok_F0]; omega)⟩
  exact ⟨rfl, rfl⟩
structure eqIntS_ok_V0 where
  i : Nat
end Go.Proofs.Ytecljjcmjongfaa.Ax
