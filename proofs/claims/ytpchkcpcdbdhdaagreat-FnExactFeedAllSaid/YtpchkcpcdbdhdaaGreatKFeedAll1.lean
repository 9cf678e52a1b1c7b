/- Models. Numbers. Varints. Numbers of so many bytes; tags. Utf-8. Schemas. Events. Events as frames: the steps. Events as frames. What the exact laws do with schemas, plans and events. -/
import Derived.Test.YtpchkcpcdbdhdaaGreatKB4
set_option linter.unusedSimpArgs false
set_option linter.unusedVariables false
namespace Go.Proofs.YtpchkcpcdbdhdaaGreat.Ax
open Go.RowKit
theorem consE {α : Type} {a b : α} {l m : List α} (h : a = b) (t : l = m) : a :: l = b :: m := by rw [h, t]
def vI (x : Int) : V := .c (.int .i64 x)
def vB (x : Bool) : V := .c (.bool x)
def vT (x : List UInt8) : V := .c (.str x)
def vO (j : Nat) : V := .c (.own j)
def vP (j : Nat) : V := .c (.ptr j 0)
theorem sB {a b : Bool} (h : a = b) : (.v (.c (.bool a)) : S) = .v (.c (.bool b)) := by rw [h]
theorem sI {a b : Int} (h : a = b) : (.v (.c (.int .i64 a)) : S) = .v (.c (.int .i64 b)) := by rw [h]
theorem dT {p : Prop} [Decidable p] : decide p = true ↔ p := decide_eq_true_iff
theorem dF {p : Prop} [Decidable p] : decide p = false ↔ ¬ p := decide_eq_false_iff_not
theorem andT {a b : Bool} {P Q : Prop} (h : a = true ↔ P) (g : b = true ↔ Q) : (a && b) = true ↔ P ∧ Q := by rw [Bool.and_eq_true, h, g]
theorem andF {a b : Bool} {P Q : Prop} (h : a = true ↔ P) (g : b = false ↔ Q) : (a && b) = false ↔ (P → Q) := by rw [Bool.and_eq_false_imp, h, g]
theorem orT {a b : Bool} {P Q : Prop} (h : a = true ↔ P) (g : b = true ↔ Q) : (a || b) = true ↔ P ∨ Q := by rw [Bool.or_eq_true, h, g]
theorem orF {a b : Bool} {P Q : Prop} (h : a = false ↔ P) (g : b = false ↔ Q) : (a || b) = false ↔ P ∧ Q := by rw [Bool.or_eq_false_iff, h, g]
theorem has_of {F : Fam} {j : F.ι} {tm : List (Nat × S)} {H : List Blk} (h1 : tm = F.tm j) (h2 : H = F.H j) (h : F.inv j) : F.Has tm H := ⟨j, h, h1, h2⟩
theorem nxt_of {F : Fam} {i j : F.ι} {tm : List (Nat × S)} {H : List Blk} (h1 : tm = F.tm j) (h2 : H = F.H j) (h : F.inv j) (hm : F.mu j < F.mu i) : F.Nxt i tm H := ⟨j, ⟨h, hm⟩, h1, h2⟩
theorem fun_ofw {P : Program} {f : FuncId} {fn : Func} (hf : P.funcs[f]? = some fn) (hb : fn.body.isNone = false) (hn : (fn.name == "runtime.NumGoroutine") = false) {args : List V} {L L' : List Blk} {r : S} {w : DT Unit × Prop}
  (hw : walkT P fn args L w.1 (fun _ r' Lp => r' = r ∧ Lp = L') = w.2) (h : w.2) : Fun P f args L r L' := fun_of hf hb hn hw h
theorem dsp {p : Prop} [Decidable p] {A B : Prop} (h1 : decide p = true → p → A) (h2 : decide p = false → ¬ p → B) : (decide p = true → A) ∧ (decide p = false → B) := ⟨fun h => h1 h (of_decide_eq_true h), fun h => h2 h (of_decide_eq_false h)⟩
/-! ### Structures -/
structure Scn where
 bits : Int
 have_ : Int
 deriving DecidableEq, Inhabited
structure Utf where
 want : Int
 low : Int
 high : Int
 deriving DecidableEq, Inhabited
structure Pln where
 shapes : List Shp
 root : Int
 deep : Int
 most : Int
 deriving DecidableEq, Inhabited
structure Dcd where
 plan : Pln
 mode : Int
 stack : List Lev
 scan : Scn
 start : Int
 at_ : Int
 field : Fld
 wire : Int
 want : Int
 utf : Utf
 end_ : Ev
 deriving DecidableEq, Inhabited
def fld0 : Fld := ⟨0, 0, false, false, 0⟩
def ev0 : Ev := ⟨0, 0, 0, 0, [], 0, 0⟩
def utf0 : Utf := ⟨0, 0, 0⟩
def scn0 : Scn := ⟨0, 0⟩
theorem drop_el {α : Type} {l : List α} {i : Nat} {x : α} (h : l[i]? = some x) : l.drop i = x :: l.drop (i + 1) := by
 have hl := (List.getElem?_eq_some_iff.1 h).1
 rw [List.drop_eq_getElem_cons hl]
 congr 1
 rw [List.getElem?_eq_getElem hl] at h
 exact Option.some.inj h
theorem bnot_t {b : Bool} (h : (!b) = true) : b = false := by cases b <;> simp_all
theorem bnot_f {b : Bool} (h : (!b) = false) : b = true := by cases b <;> simp_all
theorem getD_of {α : Type} {l : List α} {i : Nat} {x d : α} (h : l[i]? = some x) : l.getD i d = x := by simp [List.getD, h]
theorem drop_end {α : Type} {l : List α} {i : Nat} (h : ¬ ((i : Nat) : Int) < ((l.length : Nat) : Int)) : l.drop i = [] := List.drop_eq_nil_of_le (by omega)
/-! ### Words of numbers -/
theorem as_tmod {k : IntKind} {a m : Int} (h : 0 ≤ a) : (.v (.c (.int k (Int.tmod a m))) : S) = .v (.c (.int k (a % m))) := by rw [Int.tmod_eq_emod_of_nonneg h]
theorem as_tdiv_u64 {a m : Int} (h : 0 ≤ a) (h2 : a ≤ 18446744073709551615) (hm : 0 < m) : (.v (.c (.int .u64 (IntKind.u64.wrap (Int.tdiv a m)))) : S) = .v (.c (.int .u64 (a / m))) := by
 rw [Int.tdiv_eq_ediv_of_nonneg h]
 have h3 := Int.ediv_nonneg h (Int.le_of_lt hm)
 have h4 := Int.ediv_le_self m h
 exact as_u64 (by omega) (by omega)
theorem or_add {a b : Int} {k : Nat} (ha : 0 ≤ a) (hk : a < 2 ^ k) {c : Int} (hc : 0 ≤ c) (hb : b = c * 2 ^ k) (hs : b + 2 ^ k ≤ 18446744073709551616) : (((BitVec.ofInt 64 a ||| BitVec.ofInt 64 b).toNat : Nat) : Int) = a + b := by
 obtain ⟨n, rfl⟩ := Int.eq_ofNat_of_zero_le ha
 obtain ⟨m, rfl⟩ := Int.eq_ofNat_of_zero_le hc
 have hb' : b = ((m * 2 ^ k : Nat) : Int) := by rw [hb, Int.natCast_mul, Int.natCast_pow]; rfl
 have hp : (0 : Int) < 2 ^ k := Int.pow_pos (by decide)
 subst hb'
 have e : ((2 ^ k : Nat) : Int) = 2 ^ k := by rw [Int.natCast_pow]; rfl
 rw [← e] at hk hs hp
 have h1 : n < 2 ^ k := by omega
 have h2 : m * 2 ^ k + 2 ^ k ≤ 18446744073709551616 := by omega
 have h3 : n < 2 ^ 64 := by omega
 have h4 : m * 2 ^ k < 2 ^ 64 := by omega
 rw [BitVec.toNat_or, BitVec.ofInt_natCast, BitVec.ofInt_natCast, BitVec.toNat_ofNat, BitVec.toNat_ofNat, Nat.mod_eq_of_lt h3, Nat.mod_eq_of_lt h4, Nat.or_comm, Nat.mul_comm m, ← Nat.two_pow_add_eq_or_of_lt h1]
 rw [Nat.mul_comm, Int.natCast_add, Int.add_comm]
/-! ### Kinds, wires, numbers -/
def numberOk (n : Int) : Bool := within n 1 536870911 && !within n 19000 19999
def wireOk (w : Int) : Bool := decide (w = 0) || decide (w = 1) || decide (w = 2) || decide (w = 5)
def kindOk (k : Int) : Bool := within k 1 8
def numeric (k : Int) : Bool := within k 1 5
def wireOf (k : Int) : Int := if kindOk k then (if k = 4 then 5 else if k = 5 then 1 else if k ≤ 3 then 0 else 2) else -1
def widthOf (w : Int) : Int := if w = 1 then 8 else if w = 5 then 4 else 0
def runs (f : Fld) : Bool := f.rep && numeric f.kind
def allowed (f : Fld) (w : Int) : Bool := decide (w = wireOf f.kind) || (decide (w = 2) && runs f)
def hasField (k : Int) : Bool := decide (k = 2) || decide (k = 3) || decide (k = 6)
theorem widthOf_b (w : Int) : 0 ≤ widthOf w ∧ widthOf w ≤ 8 := by unfold widthOf; split <;> (try split) <;> omega
def fldOk (f : Fld) (n : Int) : Bool := numberOk f.number && kindOk f.kind && !(f.packed && (!f.rep || !numeric f.kind)) && (if f.kind = 8 then within f.msg 0 (n - 1) else decide (f.msg = -1))
def fieldsOk (n : Int) : Int → List Fld → Bool
 | _, [] => true
 | b, f :: r => decide (b < f.number) && fldOk f n && fieldsOk n f.number r
def shapesOk (n : Int) : Int → List Shp → Bool
 | _, [] => true
 | b, x :: r => decide (b < x.id) && decide (x.id ≤ 99) && decide ((x.fields.length : Int) ≤ 8) && fieldsOk n 0 x.fields && shapesOk n x.id r
def schemaOk (l : List Shp) : Bool := decide ((l.length : Int) ≤ 6) && shapesOk (l.length : Int) 0 l
def fieldIn (l : List Fld) (n : Int) : Option Fld := l.find? fun f => decide (f.number = n)
def shp0 : Shp := ⟨0, []⟩
def fieldAt (l : List Shp) (s n : Int) : Option Fld := if within s 0 ((l.length : Int) - 1) then fieldIn (l.getD s.toNat shp0).fields n else none
def planOk (p : Pln) : Bool := schemaOk p.shapes && within p.root 0 ((p.shapes.length : Int) - 1) && within p.deep 1 8 && within p.most 0 2000
theorem fldOk_t {f : Fld} {n : Int} (h : fldOk f n = true) : 1 ≤ f.number ∧ f.number ≤ 536870911 ∧ 1 ≤ f.kind ∧ f.kind ≤ 8 ∧ (f.kind = 8 → 0 ≤ f.msg ∧ f.msg ≤ n - 1) ∧ (f.kind ≠ 8 → f.msg = -1) := by
 simp only [fldOk, numberOk, kindOk, within, Bool.and_eq_true, decide_eq_true_eq] at h
 obtain ⟨⟨⟨h1, h2⟩, h3⟩, h4⟩ := h
 refine ⟨h1.1.1, h1.1.2, h2.1, h2.2, fun hk => ?_, fun hk => ?_⟩
 ·rw [if_pos hk] at h4; simpa using h4
 ·rw [if_neg hk] at h4; simpa using h4
theorem schemaOk_t {l : List Shp} (h : schemaOk l = true) : l.length ≤ 6 := by
 simp only [schemaOk, Bool.and_eq_true, decide_eq_true_eq] at h; omega
theorem planOk_t {p : Pln} (h : planOk p = true) : p.shapes.length ≤ 6 ∧ schemaOk p.shapes = true ∧ 0 ≤ p.root ∧ p.root < (p.shapes.length : Int) ∧ 1 ≤ p.deep ∧ p.deep ≤ 8 ∧ 0 ≤ p.most ∧ p.most ≤ 2000 := by
 simp only [planOk, within, Bool.and_eq_true, decide_eq_true_eq] at h
 have := schemaOk_t h.1.1.1
 refine ⟨this, h.1.1.1, ?_⟩; omega
theorem fieldsOk_mem {n : Int} : ∀ {b : Int} {l : List Fld}, fieldsOk n b l = true → ∀ f ∈ l, fldOk f n = true ∧ b < f.number
 | _, [], _, f, hf => by cases hf
 | b, g :: r, h, f, hf => by
  simp only [fieldsOk, Bool.and_eq_true, decide_eq_true_eq] at h
  rcases List.mem_cons.1 hf with rfl | hf
  ·exact ⟨h.1.2, h.1.1⟩
  ·have := fieldsOk_mem h.2 f hf; exact ⟨this.1, by omega⟩
theorem shapesOk_mem {n : Int} : ∀ {b : Int} {l : List Shp}, shapesOk n b l = true → ∀ x ∈ l, (x.fields.length ≤ 8 ∧ fieldsOk n 0 x.fields = true) ∧ b < x.id ∧ x.id ≤ 99
 | _, [], _, f, hf => by cases hf
 | b, g :: r, h, f, hf => by
  simp only [shapesOk, Bool.and_eq_true, decide_eq_true_eq] at h
  rcases List.mem_cons.1 hf with rfl | hf
  ·exact ⟨⟨by omega, h.1.2⟩, h.1.1.1.1, h.1.1.1.2⟩
  ·have := shapesOk_mem h.2 f hf; exact ⟨this.1, by omega, this.2.2⟩
theorem schemaOk_fields {l : List Shp} (h : schemaOk l = true) : ∀ x ∈ l, List.length x.fields ≤ 1000 := fun x hx => by
 simp only [schemaOk, Bool.and_eq_true] at h
 have := (shapesOk_mem h.2 x hx).1.1
 omega
theorem fieldAt_ok {l : List Shp} {s n : Int} {f : Fld} (hl : schemaOk l = true) (h : fieldAt l s n = some f) : fldOk f (l.length : Int) = true ∧ f.number = n := by
 unfold fieldAt at h
 split at h
 ·rename_i hs
  have hs := within_t hs
  simp only [schemaOk, Bool.and_eq_true, decide_eq_true_eq] at hl
  have hm : l.getD s.toNat shp0 ∈ l := by
   rw [List.getD_eq_getElem?_getD, List.getElem?_eq_getElem (by omega)]
   exact List.getElem_mem _
  have hx := (shapesOk_mem hl.2 _ hm).1.2
  have hf := List.mem_of_find?_eq_some h
  have hp := List.find?_some h
  exact ⟨(fieldsOk_mem hx f hf).1, by simpa using hp⟩
 ·cases h
/-! ### Tags -/
def tagOk (u : Int) : Bool := within u 8 4294967295
def tagNum (u : Int) : Int := if tagOk u then u / 8 else 0
def tagWire (u : Int) : Int := if tagOk u then u % 8 else 0
def utfIs (u : Utf) (w l h : Int) : Bool := decide (u.want = w) && (decide (u.low = l) && decide (u.high = h))
def utfOk (u : Utf) : Bool := utfIs u 0 0 0 || utfIs u 1 128 191 || utfIs u 2 128 191 || utfIs u 3 128 191 || utfIs u 2 160 191 || utfIs u 2 128 159 || utfIs u 3 144 191 || utfIs u 3 128 143
theorem utfOk_t {u : Utf} (h : utfOk u = true) : (u.want = 0 ∧ u.low = 0 ∧ u.high = 0) ∨ (u.want = 1 ∧ u.low = 128 ∧ u.high = 191) ∨ (u.want = 2 ∧ u.low = 128 ∧ u.high = 191) ∨ (u.want = 3 ∧ u.low = 128 ∧ u.high = 191) ∨ (u.want = 2 ∧ u.low = 160 ∧ u.high = 191) ∨ (u.want = 2 ∧ u.low = 128 ∧ u.high = 159) ∨ (u.want = 3 ∧ u.low = 144 ∧ u.high = 191) ∨ (u.want = 3 ∧ u.low = 128 ∧ u.high = 143) := by
 simp only [utfOk, utfIs, Bool.or_eq_true, Bool.and_eq_true, decide_eq_true_eq] at h
 rcases h with ((((((h | h) | h) | h) | h) | h) | h) | h <;> simp [h]
theorem utfOk_zero {u : Utf} (h : utfOk u = true) (h0 : u.want = 0) : u = utf0 := by
 rcases utfOk_t h with h | h | h | h | h | h | h | h <;> first | (cases u; simp_all [utf0]; done) | omega
theorem utfOk_want {u : Utf} (h : utfOk u = true) : 0 ≤ u.want ∧ u.want ≤ 3 := by
 rcases utfOk_t h with h | h | h | h | h | h | h | h <;> omega
def utfFirst (b : Int) : Option Utf :=
 if within b 0 127 then some utf0
 else if within b 194 223 then some ⟨1, 128, 191⟩
 else if within b 224 239 then some ⟨2, if b = 224 then 160 else 128, if b = 237 then 159 else 191⟩
 else if within b 240 244 then some ⟨3, if b = 240 then 144 else 128, if b = 244 then 143 else 191⟩
 else none
def utfByte (u : Utf) (b : Int) : Option Utf :=
 if utfOk u then (if u.want = 0 then utfFirst b else if within b u.low u.high then some (if u.want = 1 then utf0 else ⟨u.want - 1, 128, 191⟩) else none) else none
def failEv (c a : Int) : Ev := ⟨10, 0, 0, 0, [], c, a⟩
def numEv (f : Fld) (u : Int) : Ev := ⟨2, f.number, if f.kind = 3 ∧ u ≠ 0 then 1 else u, 0, [], 0, 0⟩
theorem fieldIn_cons {f : Fld} {l : List Fld} {n : Int} : fieldIn (f :: l) n = if f.number = n then some f else fieldIn l n := by
 unfold fieldIn; rw [List.find?_cons]; by_cases h : f.number = n <;> simp [h]
theorem fieldAt_in {l : List Shp} {s n : Int} {x : Shp} (hs : within s 0 ((l.length : Int) - 1) = true) (hx : l[s.toNat]? = some x) : fieldAt l s n = fieldIn x.fields n := by
 rw [fieldAt, if_pos hs, getD_of hx]
def many (l : List Ev) (k : Int) : Int := ((l.filter fun e => decide (e.kind = k)).length : Int)
structure Fa where
 stack : List Int
 inText : Bool
 isText : Bool
 utf : Utf
 ended : Bool
 deriving Inhabited
structure Fmr where
 plan : Pln
 st : Fa
structure Fs where
 stack : List Int
 field : Fld
 open_ : Bool
 utf : Utf
 ended : Bool
def isBytes (k : Int) : Bool := decide (k = 6) || decide (k = 7)
theorem utfFirst_ok {b : Int} {u : Utf} (h : utfFirst b = some u) : utfOk u = true := by
 unfold utfFirst at h
 repeat' split at h
 all_goals first | (cases h; done) | (cases h; first | decide | (exfalso; omega) | (simp only [utfOk, utfIs]; simp_all; done) | (simp only [utfOk, utfIs]; simp_all; omega))
theorem utfByte_ok {u v : Utf} {b : Int} (h : utfByte u b = some v) : utfOk v = true := by
 unfold utfByte at h
 split at h
 ·rename_i hu
  have hw := utfOk_want hu
  split at h
  ·exact utfFirst_ok h
  ·split at h
   ·split at h
    ·cases h; decide
    ·cases h
     rcases utfOk_t hu with h | h | h | h | h | h | h | h <;> simp_all [utfOk, utfIs]
   ·cases h
 ·cases h
def cEv (x : Ev) : List C := [.int .i64 x.kind, .int .i64 x.field, .int .u64 x.bits, .int .i64 x.len, .str x.text, .int .i64 x.code, .int .i64 x.at_]
def cFld (x : Fld) : List C := [.int .i64 x.number, .int .i64 x.kind, .bool x.rep, .bool x.packed, .int .i64 x.msg]
def cShp (x : Shp) : List C := [.int .i64 x.id, .seq .fld x.fields]
def cLev (x : Lev) : List C := [.int .i64 x.msg, .int .i64 x.left]
def cScn (x : Scn) : List C := [.int .u64 x.bits, .int .i64 x.have_]
def cUtf (x : Utf) : List C := [.int .i64 x.want, .int .i64 x.low, .int .i64 x.high]
def cPln (x : Pln) : List C := [.seq .shp x.shapes, .int .i64 x.root, .int .i64 x.deep, .int .i64 x.most]
def cDcd (x : Dcd) : List C := [.seq .shp x.plan.shapes, .int .i64 x.plan.root, .int .i64 x.plan.deep, .int .i64 x.plan.most, .int .i64 x.mode, .seq .lev x.stack, .int .u64 x.scan.bits, .int .i64 x.scan.have_, .int .i64 x.start, .int .i64 x.at_, .int .i64 x.field.number, .int .i64 x.field.kind, .bool x.field.rep, .bool x.field.packed, .int .i64 x.field.msg, .int .i64 x.wire, .int .i64 x.want, .int .i64 x.utf.want, .int .i64 x.utf.low, .int .i64 x.utf.high, .int .i64 x.end_.kind, .int .i64 x.end_.field, .int .u64 x.end_.bits, .int .i64 x.end_.len, .str x.end_.text, .int .i64 x.end_.code, .int .i64 x.end_.at_]
def oDcd0_5 (j0 : Nat) (j5 : Nat) (x : Dcd) : List C := [.own j0, .int .i64 x.plan.root, .int .i64 x.plan.deep, .int .i64 x.plan.most, .int .i64 x.mode, .own j5, .int .u64 x.scan.bits, .int .i64 x.scan.have_, .int .i64 x.start, .int .i64 x.at_, .int .i64 x.field.number, .int .i64 x.field.kind, .bool x.field.rep, .bool x.field.packed, .int .i64 x.field.msg, .int .i64 x.wire, .int .i64 x.want, .int .i64 x.utf.want, .int .i64 x.utf.low, .int .i64 x.utf.high, .int .i64 x.end_.kind, .int .i64 x.end_.field, .int .u64 x.end_.bits, .int .i64 x.end_.len, .str x.end_.text, .int .i64 x.end_.code, .int .i64 x.end_.at_]
def oPln0 (j0 : Nat) (x : Pln) : List C := [.own j0, .int .i64 x.root, .int .i64 x.deep, .int .i64 x.most]
theorem within_i (n : Int) (lo : Int) (hi : Int) : Fun Tryz.prog 173 [vI n, vI lo, vI hi] [] (.v (vB (within n lo hi))) [] := by
 have hN : bigN = 274877906944 := rfl
 refine fun_ofw Tryz.func173 (by kernel_rfl) (by kernel_rfl) (w := (.br (.leaf () []) (.leaf () []), ((decide (lo ≤ n)) = true → (.v (vB (decide (n ≤ hi))) : S) = .v (vB (within n lo hi)) ∧ ([] : List Blk) = []) ∧ ((decide (lo ≤ n)) = false → (.v (vB false) : S) = .v (vB (within n lo hi)) ∧ ([] : List Blk) = []))) (by kernel_rfl) ?_
 refine dsp (fun h1 p1 => ?_) fun h1 p1 => ?_
 exact ⟨(congrArg S.v (congrArg V.c (congrArg C.bool (by simp [within, *])))), rfl⟩
 exact ⟨(congrArg S.v (congrArg V.c (congrArg C.bool (by simp [within, *])))), rfl⟩
theorem within_s (n : Int) (lo : Int) (hi : Int) : Fun Tryz.prog 105 [vI n, vI lo, vI hi] [] (.v (vB (within n lo hi))) [] := by
 have hN : bigN = 274877906944 := rfl
 refine fun_ofw Tryz.func105 (by kernel_rfl) (by kernel_rfl) (w := (.br (.leaf () []) (.leaf () []), ((decide (lo ≤ n)) = true → (.v (vB (decide (n ≤ hi))) : S) = .v (vB (within n lo hi)) ∧ ([] : List Blk) = []) ∧ ((decide (lo ≤ n)) = false → (.v (vB false) : S) = .v (vB (within n lo hi)) ∧ ([] : List Blk) = []))) (by kernel_rfl) ?_
 refine dsp (fun h1 p1 => ?_) fun h1 p1 => ?_
 exact ⟨(congrArg S.v (congrArg V.c (congrArg C.bool (by simp [within, *])))), rfl⟩
 exact ⟨(congrArg S.v (congrArg V.c (congrArg C.bool (by simp [within, *])))), rfl⟩
theorem numberOk_i (n : Int) : Fun Tryz.prog 236 [vI n] [] (.v (vB (numberOk n))) [] := by
 have hN : bigN = 274877906944 := rfl
 refine fun_ofw Tryz.func236 (by kernel_rfl) (by kernel_rfl) (w := let z1 := within n 1 536870911; let z2 := within n 19000 19999; (.seg [.call [] (.v (vB z1)) []] (.br (.seg [.call [] (.v (vB z2)) []] (.leaf () [])) (.leaf () [])), (Fun Tryz.prog 173 [vI n, vI 1, vI 536870911] [] (.v (vB z1)) []) ∧ (z1 = true → (Fun Tryz.prog 173 [vI n, vI 19000, vI 19999] [] (.v (vB z2)) []) ∧ (.v (vB (!z2)) : S) = .v (vB (numberOk n)) ∧ ([] : List Blk) = []) ∧ (z1 = false → (.v (vB false) : S) = .v (vB (numberOk n)) ∧ ([] : List Blk) = []))) (by kernel_rfl) ?_
 refine ⟨(within_i _ _ _), fun h1 => have p1 := within_t h1; ?_, fun h1 => have p1 := within_f h1; ?_⟩
 exact ⟨(within_i _ _ _), (congrArg S.v (congrArg V.c (congrArg C.bool (by simp [numberOk, *])))), rfl⟩
 exact ⟨(congrArg S.v (congrArg V.c (congrArg C.bool (by simp [numberOk, *])))), rfl⟩
theorem numberOk_s (n : Int) : Fun Tryz.prog 221 [vI n] [] (.v (vB (numberOk n))) [] := by
 have hN : bigN = 274877906944 := rfl
 refine fun_ofw Tryz.func221 (by kernel_rfl) (by kernel_rfl) (w := let z1 := within n 1 536870911; let z2 := within n 19000 19999; (.seg [.call [] (.v (vB z1)) []] (.br (.seg [.call [] (.v (vB z2)) []] (.leaf () [])) (.leaf () [])), (Fun Tryz.prog 105 [vI n, vI 1, vI 536870911] [] (.v (vB z1)) []) ∧ (z1 = true → (Fun Tryz.prog 105 [vI n, vI 19000, vI 19999] [] (.v (vB z2)) []) ∧ (.v (vB (!z2)) : S) = .v (vB (numberOk n)) ∧ ([] : List Blk) = []) ∧ (z1 = false → (.v (vB false) : S) = .v (vB (numberOk n)) ∧ ([] : List Blk) = []))) (by kernel_rfl) ?_
 refine ⟨(within_s _ _ _), fun h1 => have p1 := within_t h1; ?_, fun h1 => have p1 := within_f h1; ?_⟩
 exact ⟨(within_s _ _ _), (congrArg S.v (congrArg V.c (congrArg C.bool (by simp [numberOk, *])))), rfl⟩
 exact ⟨(congrArg S.v (congrArg V.c (congrArg C.bool (by simp [numberOk, *])))), rfl⟩
theorem wireOk_i (w : Int) : Fun Tryz.prog 176 [vI w] [] (.v (vB (wireOk w))) [] := by
 have hN : bigN = 274877906944 := rfl
 refine fun_ofw Tryz.func176 (by kernel_rfl) (by kernel_rfl) (w := let z1 := vB (wireOk w); let z2 := ([] : List Blk); let z3 := (.v (vB true) : S); (.br (.leaf () []) (.br (.leaf () []) (.br (.leaf () []) (.leaf () []))), ((decide (w = 0)) = true → z3 = .v z1 ∧ z2 = []) ∧ ((decide (w = 0)) = false → ((decide (w = 1)) = true → z3 = .v z1 ∧ z2 = []) ∧ ((decide (w = 1)) = false → ((decide (w = 2)) = true → z3 = .v z1 ∧ z2 = []) ∧ ((decide (w = 2)) = false → (.v (vB (decide (w = 5))) : S) = .v z1 ∧ z2 = []))))) (by kernel_rfl) ?_
 refine dsp (fun h1 p1 => ?_) fun h1 p1 => ?_
 exact ⟨(congrArg S.v (congrArg V.c (congrArg C.bool (by simp [wireOk, *])))), rfl⟩
 refine dsp (fun h2 p2 => ?_) fun h2 p2 => ?_
 exact ⟨(congrArg S.v (congrArg V.c (congrArg C.bool (by simp [wireOk, *])))), rfl⟩
 refine dsp (fun h3 p3 => ?_) fun h3 p3 => ?_
 exact ⟨(congrArg S.v (congrArg V.c (congrArg C.bool (by simp [wireOk, *])))), rfl⟩
 exact ⟨(congrArg S.v (congrArg V.c (congrArg C.bool (by simp [wireOk, *])))), rfl⟩
theorem wireOk_s (w : Int) : Fun Tryz.prog 145 [vI w] [] (.v (vB (wireOk w))) [] := by
 have hN : bigN = 274877906944 := rfl
 refine fun_ofw Tryz.func145 (by kernel_rfl) (by kernel_rfl) (w := let z1 := vB (wireOk w); let z2 := ([] : List Blk); let z3 := (.v (vB true) : S); (.br (.leaf () []) (.br (.leaf () []) (.br (.leaf () []) (.leaf () []))), ((decide (w = 0)) = true → z3 = .v z1 ∧ z2 = []) ∧ ((decide (w = 0)) = false → ((decide (w = 1)) = true → z3 = .v z1 ∧ z2 = []) ∧ ((decide (w = 1)) = false → ((decide (w = 2)) = true → z3 = .v z1 ∧ z2 = []) ∧ ((decide (w = 2)) = false → (.v (vB (decide (w = 5))) : S) = .v z1 ∧ z2 = []))))) (by kernel_rfl) ?_
 refine dsp (fun h1 p1 => ?_) fun h1 p1 => ?_
 exact ⟨(congrArg S.v (congrArg V.c (congrArg C.bool (by simp [wireOk, *])))), rfl⟩
 refine dsp (fun h2 p2 => ?_) fun h2 p2 => ?_
 exact ⟨(congrArg S.v (congrArg V.c (congrArg C.bool (by simp [wireOk, *])))), rfl⟩
 refine dsp (fun h3 p3 => ?_) fun h3 p3 => ?_
 exact ⟨(congrArg S.v (congrArg V.c (congrArg C.bool (by simp [wireOk, *])))), rfl⟩
 exact ⟨(congrArg S.v (congrArg V.c (congrArg C.bool (by simp [wireOk, *])))), rfl⟩
theorem kindOk_i (k : Int) : Fun Tryz.prog 237 [vI k] [] (.v (vB (kindOk k))) [] := by
 have hN : bigN = 274877906944 := rfl
 refine fun_ofw Tryz.func237 (by kernel_rfl) (by kernel_rfl) (w := let z1 := vB (within k 1 8); (.seg [.call [] (.v z1) []] (.leaf () []), (Fun Tryz.prog 173 [vI k, vI 1, vI 8] [] (.v z1) []) ∧ (.v z1 : S) = .v (vB (kindOk k)) ∧ ([] : List Blk) = [])) (by kernel_rfl) ?_
 exact ⟨(within_i _ _ _), (congrArg S.v (congrArg V.c (congrArg C.bool (by rfl)))), rfl⟩
theorem kindOk_s (k : Int) : Fun Tryz.prog 191 [vI k] [] (.v (vB (kindOk k))) [] := by
 have hN : bigN = 274877906944 := rfl
 refine fun_ofw Tryz.func191 (by kernel_rfl) (by kernel_rfl) (w := let z1 := vB (within k 1 8); (.seg [.call [] (.v z1) []] (.leaf () []), (Fun Tryz.prog 105 [vI k, vI 1, vI 8] [] (.v z1) []) ∧ (.v z1 : S) = .v (vB (kindOk k)) ∧ ([] : List Blk) = [])) (by kernel_rfl) ?_
 exact ⟨(within_s _ _ _), (congrArg S.v (congrArg V.c (congrArg C.bool (by rfl)))), rfl⟩
theorem numeric_i (k : Int) : Fun Tryz.prog 234 [vI k] [] (.v (vB (numeric k))) [] := by
 have hN : bigN = 274877906944 := rfl
 refine fun_ofw Tryz.func234 (by kernel_rfl) (by kernel_rfl) (w := let z1 := vB (within k 1 5); (.seg [.call [] (.v z1) []] (.leaf () []), (Fun Tryz.prog 173 [vI k, vI 1, vI 5] [] (.v z1) []) ∧ (.v z1 : S) = .v (vB (numeric k)) ∧ ([] : List Blk) = [])) (by kernel_rfl) ?_
 exact ⟨(within_i _ _ _), (congrArg S.v (congrArg V.c (congrArg C.bool (by rfl)))), rfl⟩
theorem numeric_s (k : Int) : Fun Tryz.prog 192 [vI k] [] (.v (vB (numeric k))) [] := by
 have hN : bigN = 274877906944 := rfl
 refine fun_ofw Tryz.func192 (by kernel_rfl) (by kernel_rfl) (w := let z1 := vB (within k 1 5); (.seg [.call [] (.v z1) []] (.leaf () []), (Fun Tryz.prog 105 [vI k, vI 1, vI 5] [] (.v z1) []) ∧ (.v z1 : S) = .v (vB (numeric k)) ∧ ([] : List Blk) = [])) (by kernel_rfl) ?_
 exact ⟨(within_s _ _ _), (congrArg S.v (congrArg V.c (congrArg C.bool (by rfl)))), rfl⟩
theorem wireOf_i (k : Int) : Fun Tryz.prog 225 [vI k] [] (.v (vI (wireOf k))) [] := by
 have hN : bigN = 274877906944 := rfl
 refine fun_ofw Tryz.func225 (by kernel_rfl) (by kernel_rfl) (w := let zi : Int → C := .int .i64; let z1 := List.getD [0, 0, 0, 5, 1, 2, 2, 2] (Int.toNat (k - 1)) 0; (.seg [.call [] (.v (vB (kindOk k))) []] (.br (.leaf () []) (.seg [.as 8 (.v (vI (k - 1))), .ce (zi z1)] (.leaf () []))), (Fun Tryz.prog 237 [vI k] [] (.v (vB (kindOk k))) []) ∧ ((!(kindOk k)) = true → (.v (vI (-1)) : S) = .v (vI (wireOf k)) ∧ ([] : List Blk) = []) ∧ ((!(kindOk k)) = false → ((.v (vI (IntKind.i64.wrap (k - 1))) : S) = .v (vI (k - 1))) ∧ ((([zi 0, zi 0, zi 0, zi 5, zi 1, zi 2, zi 2, zi 2] : List C)[Int.toNat (k - 1)]?) = some (zi z1)) ∧ (k - 1 < ((8 : Nat) : Int)) ∧ ((0 : Int) ≤ k - 1) ∧ (.v (vI z1) : S) = .v (vI (wireOf k)) ∧ ([] : List Blk) = []))) (by kernel_rfl) ?_
 refine ⟨(kindOk_i _), fun h1 => have q1 := bnot_t h1; have p1 := within_f q1; ?_, fun h1 => have q1 := bnot_f h1; have p1 := within_t q1; ?_⟩
 refine ⟨(sI ?_), rfl⟩
 rotate_left
 refine ⟨(as_i64 (by omega) (by omega)), (ce_int (l := [0, 0, 0, 5, 1, 2, 2, 2]) (by simp; omega)), (by omega), (by omega), (sI ?_), rfl⟩
 rotate_left
 all_goals first | (simp [wireOf, *]; done) | (rcases (show k = 1 ∨ k = 2 ∨ k = 3 ∨ k = 4 ∨ k = 5 ∨ k = 6 ∨ k = 7 ∨ k = 8 by omega) with rfl | rfl | rfl | rfl | rfl | rfl | rfl | rfl <;> rfl)
theorem wireOf_s (k : Int) : Fun Tryz.prog 154 [vI k] [] (.v (vI (wireOf k))) [] := by
 have hN : bigN = 274877906944 := rfl
 refine fun_ofw Tryz.func154 (by kernel_rfl) (by kernel_rfl) (w := let z1 := vI (wireOf k); let z2 := ([] : List Blk); (.seg [.call [] (.v (vB (kindOk k))) []] (.br (.leaf () []) (.br (.leaf () []) (.br (.leaf () []) (.seg [.call [] (.v (vB (numeric k))) []] (.br (.leaf () []) (.leaf () [])))))), (Fun Tryz.prog 191 [vI k] [] (.v (vB (kindOk k))) []) ∧ ((!(kindOk k)) = true → (.v (vI (-1)) : S) = .v z1 ∧ z2 = []) ∧ ((!(kindOk k)) = false → ((decide (k = 4)) = true → (.v (vI 5) : S) = .v z1 ∧ z2 = []) ∧ ((decide (k = 4)) = false → ((decide (k = 5)) = true → (.v (vI 1) : S) = .v z1 ∧ z2 = []) ∧ ((decide (k = 5)) = false → (Fun Tryz.prog 192 [vI k] [] (.v (vB (numeric k))) []) ∧ ((numeric k) = true → (.v (vI 0) : S) = .v z1 ∧ z2 = []) ∧ ((numeric k) = false → (.v (vI 2) : S) = .v z1 ∧ z2 = [])))))) (by kernel_rfl) ?_
 refine ⟨(kindOk_s _), fun h1 => have q1 := bnot_t h1; have p1 := within_f q1; ?_, fun h1 => have q1 := bnot_f h1; have p1 := within_t q1; ?_⟩
 refine ⟨(sI ?_), rfl⟩
 rotate_left
 refine dsp (fun h2 p2 => ?_) fun h2 p2 => ?_
 refine ⟨(sI ?_), rfl⟩
 rotate_left
 refine dsp (fun h3 p3 => ?_) fun h3 p3 => ?_
 refine ⟨(sI ?_), rfl⟩
 rotate_left
 refine ⟨(numeric_s _), fun h4 => have p4 := within_t h4; ?_, fun h4 => have p4 := within_f h4; ?_⟩
 refine ⟨(sI ?_), rfl⟩
 rotate_left
 refine ⟨(sI ?_), rfl⟩
 rotate_left
 all_goals first | (simp [wireOf, *] <;> (repeat' split) <;> omega) | (subst_vars; rfl)
theorem widthOf_i (w : Int) : Fun Tryz.prog 215 [vI w] [] (.v (vI (widthOf w))) [] := by
 have hN : bigN = 274877906944 := rfl
 refine fun_ofw Tryz.func215 (by kernel_rfl) (by kernel_rfl) (w := (.br (.leaf () []) (.br (.leaf () []) (.leaf () [])), ((decide (w = 1)) = true → (.v (vI 8) : S) = .v (vI (widthOf w)) ∧ ([] : List Blk) = []) ∧ ((decide (w = 1)) = false → ((decide (w = 5)) = true → (.v (vI 4) : S) = .v (vI (widthOf w)) ∧ ([] : List Blk) = []) ∧ ((decide (w = 5)) = false → (.v (vI 0) : S) = .v (vI (widthOf w)) ∧ ([] : List Blk) = [])))) (by kernel_rfl) ?_
 refine dsp (fun h1 p1 => ?_) fun h1 p1 => ?_
 exact ⟨(congrArg S.v (congrArg V.c (congrArg (C.int .i64) (by simp [widthOf, *])))), rfl⟩
 refine dsp (fun h2 p2 => ?_) fun h2 p2 => ?_
 exact ⟨(congrArg S.v (congrArg V.c (congrArg (C.int .i64) (by simp [widthOf, *])))), rfl⟩
 exact ⟨(congrArg S.v (congrArg V.c (congrArg (C.int .i64) (by simp [widthOf, *])))), rfl⟩
theorem widthOf_s (w : Int) : Fun Tryz.prog 150 [vI w] [] (.v (vI (widthOf w))) [] := by
 have hN : bigN = 274877906944 := rfl
 refine fun_ofw Tryz.func150 (by kernel_rfl) (by kernel_rfl) (w := (.br (.leaf () []) (.br (.leaf () []) (.leaf () [])), ((decide (w = 1)) = true → (.v (vI 8) : S) = .v (vI (widthOf w)) ∧ ([] : List Blk) = []) ∧ ((decide (w = 1)) = false → ((decide (w = 5)) = true → (.v (vI 4) : S) = .v (vI (widthOf w)) ∧ ([] : List Blk) = []) ∧ ((decide (w = 5)) = false → (.v (vI 0) : S) = .v (vI (widthOf w)) ∧ ([] : List Blk) = [])))) (by kernel_rfl) ?_
 refine dsp (fun h1 p1 => ?_) fun h1 p1 => ?_
 exact ⟨(congrArg S.v (congrArg V.c (congrArg (C.int .i64) (by simp [widthOf, *])))), rfl⟩
 refine dsp (fun h2 p2 => ?_) fun h2 p2 => ?_
 exact ⟨(congrArg S.v (congrArg V.c (congrArg (C.int .i64) (by simp [widthOf, *])))), rfl⟩
 exact ⟨(congrArg S.v (congrArg V.c (congrArg (C.int .i64) (by simp [widthOf, *])))), rfl⟩
theorem runs_i (f : Fld) : Fun Tryz.prog 213 [.agg (cFld f)] [] (.v (vB (runs f))) [] := by
 have hN : bigN = 274877906944 := rfl
 refine fun_ofw Tryz.func213 (by kernel_rfl) (by kernel_rfl) (w := let z1 := vB (numeric f.kind); (.br (.seg [.call [] (.v z1) []] (.leaf () [])) (.leaf () []), (f.rep = true → (Fun Tryz.prog 234 [vI f.kind] [] (.v z1) []) ∧ (.v z1 : S) = .v (vB (runs f)) ∧ ([] : List Blk) = []) ∧ (f.rep = false → (.v (vB false) : S) = .v (vB (runs f)) ∧ ([] : List Blk) = []))) (by kernel_rfl) ?_
 refine ⟨fun h1 => ?_, fun h1 => ?_⟩
 exact ⟨(numeric_i _), (congrArg S.v (congrArg V.c (congrArg C.bool (by simp [runs, *])))), rfl⟩
 exact ⟨(congrArg S.v (congrArg V.c (congrArg C.bool (by simp [runs, *])))), rfl⟩
theorem runs_s (f : Fld) : Fun Tryz.prog 152 [.agg (cFld f)] [] (.v (vB (runs f))) [] := by
 have hN : bigN = 274877906944 := rfl
 refine fun_ofw Tryz.func152 (by kernel_rfl) (by kernel_rfl) (w := let z1 := vB (numeric f.kind); (.br (.seg [.call [] (.v z1) []] (.leaf () [])) (.leaf () []), (f.rep = true → (Fun Tryz.prog 192 [vI f.kind] [] (.v z1) []) ∧ (.v z1 : S) = .v (vB (runs f)) ∧ ([] : List Blk) = []) ∧ (f.rep = false → (.v (vB false) : S) = .v (vB (runs f)) ∧ ([] : List Blk) = []))) (by kernel_rfl) ?_
 refine ⟨fun h1 => ?_, fun h1 => ?_⟩
 exact ⟨(numeric_s _), (congrArg S.v (congrArg V.c (congrArg C.bool (by simp [runs, *])))), rfl⟩
 exact ⟨(congrArg S.v (congrArg V.c (congrArg C.bool (by simp [runs, *])))), rfl⟩
theorem allowed_i (f : Fld) (w : Int) (hp1 : (0 : Int) ≤ w) : Fun Tryz.prog 214 [.agg (cFld f), vI w] [] (.v (vB (allowed f w))) [] := by
 have hN : bigN = 274877906944 := rfl
 refine fun_ofw Tryz.func214 (by kernel_rfl) (by kernel_rfl) (w := let z1 := vB (allowed f w); (.seg [.call [] (.v (vI (wireOf f.kind))) []] (.br (.leaf () []) (.br (.seg [.call [] (.v (vB (runs f))) []] (.leaf () [])) (.leaf () []))), (Fun Tryz.prog 225 [vI f.kind] [] (.v (vI (wireOf f.kind))) []) ∧ ((decide (w = wireOf f.kind)) = true → (.v (vB true) : S) = .v z1 ∧ ([] : List Blk) = []) ∧ ((decide (w = wireOf f.kind)) = false → ((decide (w = 2)) = true → (Fun Tryz.prog 213 [.agg (cFld f)] [] (.v (vB (runs f))) []) ∧ (.v (vB (runs f)) : S) = .v z1 ∧ ([] : List Blk) = []) ∧ ((decide (w = 2)) = false → (.v (vB false) : S) = .v z1 ∧ ([] : List Blk) = [])))) (by kernel_rfl) ?_
 refine ⟨(wireOf_i _), dsp (fun h1 p1 => ?_) fun h1 p1 => ?_⟩
 refine ⟨(sB ?_), rfl⟩
 rotate_left
 refine dsp (fun h2 p2 => ?_) fun h2 p2 => ?_
 refine ⟨(runs_i f), (sB ?_), rfl⟩
 rotate_left
 refine ⟨(sB ?_), rfl⟩
 rotate_left
 all_goals first | (simp [allowed, *] <;> (repeat' split) <;> omega) | (simp [allowed, wireOf, *] <;> (repeat' split) <;> omega)
theorem allowed_s (f : Fld) (w : Int) (hp1 : (0 : Int) ≤ w) : Fun Tryz.prog 151 [.agg (cFld f), vI w] [] (.v (vB (allowed f w))) [] := by
 have hN : bigN = 274877906944 := rfl
 refine fun_ofw Tryz.func151 (by kernel_rfl) (by kernel_rfl) (w := let z2 := vB (runs f); let z3 := vB (allowed f w); let z4 := kindOk f.kind; let z5 := ([] : List Blk); let z1 := (decide (w = 2)) = false → (.v (vB false) : S) = .v z3 ∧ z5 = []; (.seg [.call [] (.v (vB z4)) []] (.br (.seg [.call [] (.v (vI (wireOf f.kind))) []] (.br (.leaf () []) (.br (.seg [.call [] (.v z2) []] (.leaf () [])) (.leaf () [])))) (.br (.seg [.call [] (.v z2) []] (.leaf () [])) (.leaf () []))), (Fun Tryz.prog 191 [vI f.kind] [] (.v (vB z4)) []) ∧ (z4 = true → (Fun Tryz.prog 154 [vI f.kind] [] (.v (vI (wireOf f.kind))) []) ∧ ((decide (w = wireOf f.kind)) = true → (.v (vB true) : S) = .v z3 ∧ z5 = []) ∧ ((decide (w = wireOf f.kind)) = false → ((decide (w = 2)) = true → (Fun Tryz.prog 152 [.agg (cFld f)] [] (.v z2) []) ∧ (.v z2 : S) = .v z3 ∧ z5 = []) ∧ z1)) ∧ (z4 = false → ((decide (w = 2)) = true → (Fun Tryz.prog 152 [.agg (cFld f)] [] (.v z2) []) ∧ (.v z2 : S) = .v z3 ∧ z5 = []) ∧ z1))) (by kernel_rfl) ?_
 refine ⟨(kindOk_s _), fun h1 => have p1 := within_t h1; ?_, fun h1 => have p1 := within_f h1; ?_⟩
 refine ⟨(wireOf_s _), dsp (fun h2 p2 => ?_) fun h2 p2 => ?_⟩
 refine ⟨(sB ?_), rfl⟩
 rotate_left
 refine dsp (fun h3 p3 => ?_) fun h3 p3 => ?_
 refine ⟨(runs_s f), (sB ?_), rfl⟩
 rotate_left
 refine ⟨(sB ?_), rfl⟩
 rotate_left
 refine dsp (fun h2 p2 => ?_) fun h2 p2 => ?_
 refine ⟨(runs_s f), (sB ?_), rfl⟩
 rotate_left
 refine ⟨(sB ?_), rfl⟩
 rotate_left
 all_goals first | (simp [allowed, *] <;> (repeat' split) <;> omega) | (simp [allowed, wireOf, *] <;> (repeat' split) <;> omega)
theorem tagIn_i (u : Int) (hp1 : (0 : Int) ≤ u ∧ u ≤ 18446744073709551615) : Fun Tryz.prog 241 [.c (.int .u64 u)] [] (.tup [vI (tagNum u), vI (tagWire u), vB (tagOk u)]) [] := by
 have hN : bigN = 274877906944 := rfl
 refine fun_ofw Tryz.func241 (by kernel_rfl) (by kernel_rfl) (w := let z1 : List V := [vI (tagNum u), vI (tagWire u), vB (tagOk u)]; let z2 := (.v (.c (.int .u64 (Int.fdiv u (2 ^ 3)))) : S) = .v (.c (.int .u64 (u / 8))); let z3 := (.tup [vI 0, vI 0, vB false] : S); (.br (.leaf () []) (.seg [.as 9 (.v (.c (.int .u64 (u / 8))))] (.br (.leaf () []) (.seg [.as 13 (.v (.c (.int .u64 (u / 8)))), .as 14 (.v (vI (u / 8))), .as 16 (.v (.c (.int .u64 (u % 8)))), .as 17 (.v (vI (u % 8)))] (.leaf () [])))), ((decide (u < 8)) = true → z3 = .tup z1 ∧ ([] : List Blk) = []) ∧ ((decide (u < 8)) = false → ((0 : Int) ≤ 3) ∧ z2 ∧ ((decide (536870911 < u / 8)) = true → z3 = .tup z1 ∧ ([] : List Blk) = []) ∧ ((decide (536870911 < u / 8)) = false → ((0 : Int) ≤ 3) ∧ z2 ∧ ((.v (vI (IntKind.i64.wrap (u / 8))) : S) = .v (vI (u / 8))) ∧ ((.v (.c (.int .u64 (IntKind.u64.wrap (((BitVec.ofInt 64 u &&& BitVec.ofInt 64 7).toNat : Nat))))) : S) = .v (.c (.int .u64 (u % 8)))) ∧ ((.v (vI (IntKind.i64.wrap (u % 8))) : S) = .v (vI (u % 8))) ∧ (.tup [vI (u / 8), vI (u % 8), vB true] : S) = .tup z1 ∧ ([] : List Blk) = [])))) (by kernel_rfl) ?_
 refine dsp (fun h1 p1 => ?_) fun h1 p1 => ?_
 refine ⟨(congrArg S.tup (consE (congrArg V.c (congrArg (C.int .i64) ?_)) (consE (congrArg V.c (congrArg (C.int .i64) ?_)) (consE (congrArg V.c (congrArg C.bool ?_)) rfl)))), rfl⟩
 rotate_left 3
 refine ⟨(by decide), (as_shr (k := 3) (by decide) (by decide)), dsp (fun h2 p2 => ?_) fun h2 p2 => ?_⟩
 refine ⟨(congrArg S.tup (consE (congrArg V.c (congrArg (C.int .i64) ?_)) (consE (congrArg V.c (congrArg (C.int .i64) ?_)) (consE (congrArg V.c (congrArg C.bool ?_)) rfl)))), rfl⟩
 rotate_left 3
 refine ⟨(by decide), (as_shr (k := 3) (by decide) (by decide)), (as_i64 (by omega) (by omega)), (as_mask_u64 (k := 3) (by decide) (by decide)), (as_i64 (by omega) (by omega)), (congrArg S.tup (consE (congrArg V.c (congrArg (C.int .i64) ?_)) (consE (congrArg V.c (congrArg (C.int .i64) ?_)) (consE (congrArg V.c (congrArg C.bool ?_)) rfl)))), rfl⟩
 rotate_left 3
 all_goals first | ((have ht : tagOk u = true := by (simp [tagOk, within]; omega)); simp [tagNum, tagWire, ht]) | ((have ht : tagOk u = false := by (simp [tagOk, within]; omega)); simp [tagNum, tagWire, ht])
theorem tagIn_s (u : Int) (hp1 : (0 : Int) ≤ u ∧ u ≤ 18446744073709551615) : Fun Tryz.prog 195 [.c (.int .u64 u)] [] (.tup [vI (tagNum u), vI (tagWire u), vB (tagOk u)]) [] := by
 have hN : bigN = 274877906944 := rfl
 refine fun_ofw Tryz.func195 (by kernel_rfl) (by kernel_rfl) (w := let z1 : List V := [vI (tagNum u), vI (tagWire u), vB (tagOk u)]; let z2 := (.tup [vI 0, vI 0, vB false] : S); (.br (.leaf () []) (.br (.leaf () []) (.seg [.as 12 (.v (.c (.int .u64 (u / 8)))), .as 13 (.v (vI (u / 8))), .as 15 (.v (.c (.int .u64 (u % 8)))), .as 16 (.v (vI (u % 8)))] (.leaf () []))), ((decide (u < 8)) = true → z2 = .tup z1 ∧ ([] : List Blk) = []) ∧ ((decide (u < 8)) = false → ((decide (4294967295 < u)) = true → z2 = .tup z1 ∧ ([] : List Blk) = []) ∧ ((decide (4294967295 < u)) = false → ((8 : Int) ≠ 0) ∧ ((.v (.c (.int .u64 (IntKind.u64.wrap (Int.tdiv u 8)))) : S) = .v (.c (.int .u64 (u / 8)))) ∧ ((.v (vI (IntKind.i64.wrap (u / 8))) : S) = .v (vI (u / 8))) ∧ ((8 : Int) ≠ 0) ∧ ((.v (.c (.int .u64 (Int.tmod u 8))) : S) = .v (.c (.int .u64 (u % 8)))) ∧ ((.v (vI (IntKind.i64.wrap (u % 8))) : S) = .v (vI (u % 8))) ∧ (.tup [vI (u / 8), vI (u % 8), vB true] : S) = .tup z1 ∧ ([] : List Blk) = [])))) (by kernel_rfl) ?_
 refine dsp (fun h1 p1 => ?_) fun h1 p1 => ?_
 refine ⟨(congrArg S.tup (consE (congrArg V.c (congrArg (C.int .i64) ?_)) (consE (congrArg V.c (congrArg (C.int .i64) ?_)) (consE (congrArg V.c (congrArg C.bool ?_)) rfl)))), rfl⟩
 rotate_left 3
 refine dsp (fun h2 p2 => ?_) fun h2 p2 => ?_
 refine ⟨(congrArg S.tup (consE (congrArg V.c (congrArg (C.int .i64) ?_)) (consE (congrArg V.c (congrArg (C.int .i64) ?_)) (consE (congrArg V.c (congrArg C.bool ?_)) rfl)))), rfl⟩
 rotate_left 3
 refine ⟨(by decide), (as_tdiv_u64 (by omega) (by omega) (by decide)), (as_i64 (by omega) (by omega)), (by decide), (as_tmod (by omega)), (as_i64 (by omega) (by omega)), (congrArg S.tup (consE (congrArg V.c (congrArg (C.int .i64) ?_)) (consE (congrArg V.c (congrArg (C.int .i64) ?_)) (consE (congrArg V.c (congrArg C.bool ?_)) rfl)))), rfl⟩
 rotate_left 3
 all_goals first | ((have ht : tagOk u = true := by (simp [tagOk, within]; omega)); simp [tagNum, tagWire, ht]) | ((have ht : tagOk u = false := by (simp [tagOk, within]; omega)); simp [tagNum, tagWire, ht])
theorem failure_i (c : Int) (a : Int) : Fun Tryz.prog 235 [vI c, vI a] [] (.v (.agg (cEv (failEv c a)))) [] := by
 have hN : bigN = 274877906944 := rfl
 refine fun_ofw Tryz.func235 (by kernel_rfl) (by kernel_rfl) (w := (.leaf () [], (.v (.agg [.int .i64 10, .int .i64 0, .int .u64 0, .int .i64 0, .str [], .int .i64 c, .int .i64 a]) : S) = .v (.agg (cEv (failEv c a))) ∧ ([] : List Blk) = [])) (by kernel_rfl) ?_
 have hm1 : failEv c a = (⟨10, 0, 0, 0, [], c, a⟩ : Ev) := by rfl
 exact ⟨(congrArg S.v (congrArg V.agg (consE (congrArg (C.int .i64) (by rfl)) (consE (congrArg (C.int .i64) (by rfl)) (consE (congrArg (C.int .u64) (by rfl)) (consE (congrArg (C.int .i64) (by rfl)) (consE (congrArg C.str (by rfl)) (consE (congrArg (C.int .i64) (by rfl)) (consE (congrArg (C.int .i64) (by rfl)) rfl))))))))), rfl⟩
theorem failure_s (c : Int) (a : Int) : Fun Tryz.prog 156 [vI c, vI a] [] (.v (.agg (cEv (failEv c a)))) [] := by
 have hN : bigN = 274877906944 := rfl
 refine fun_ofw Tryz.func156 (by kernel_rfl) (by kernel_rfl) (w := (.leaf () [], (.v (.agg [.int .i64 10, .int .i64 0, .int .u64 0, .int .i64 0, .str [], .int .i64 c, .int .i64 a]) : S) = .v (.agg (cEv (failEv c a))) ∧ ([] : List Blk) = [])) (by kernel_rfl) ?_
 have hm1 : failEv c a = (⟨10, 0, 0, 0, [], c, a⟩ : Ev) := by rfl
 exact ⟨(congrArg S.v (congrArg V.agg (consE (congrArg (C.int .i64) (by rfl)) (consE (congrArg (C.int .i64) (by rfl)) (consE (congrArg (C.int .u64) (by rfl)) (consE (congrArg (C.int .i64) (by rfl)) (consE (congrArg C.str (by rfl)) (consE (congrArg (C.int .i64) (by rfl)) (consE (congrArg (C.int .i64) (by rfl)) rfl))))))))), rfl⟩
theorem numEvent_i (f : Fld) (u : Int) (hp1 : (0 : Int) ≤ u) : Fun Tryz.prog 240 [.agg (cFld f), .c (.int .u64 u)] [] (.v (.agg (cEv (numEv f u)))) [] := by
 have hN : bigN = 274877906944 := rfl
 refine fun_ofw Tryz.func240 (by kernel_rfl) (by kernel_rfl) (w := let zi : Int → C := .int .i64; let z1 : List C := [zi 2, zi f.number, .int .u64 u, zi 0, .str [], zi 0, zi 0]; (.br (.br (.leaf () []) (.leaf () [])) (.leaf () []), ((decide (f.kind = 3)) = true → ((!decide (u = 0)) = true → (.v (.agg [zi 2, zi f.number, .int .u64 1, zi 0, .str [], zi 0, zi 0]) : S) = .v (.agg (cEv (numEv f u))) ∧ ([] : List Blk) = []) ∧ ((!decide (u = 0)) = false → (.v (.agg z1) : S) = .v (.agg (cEv (numEv f u))) ∧ ([] : List Blk) = [])) ∧ ((decide (f.kind = 3)) = false → (.v (.agg z1) : S) = .v (.agg (cEv (numEv f u))) ∧ ([] : List Blk) = []))) (by kernel_rfl) ?_
 refine dsp (fun h1 p1 => ?_) fun h1 p1 => ?_
 refine ⟨fun h2 => have q2 := bnot_t h2; have p2 := of_decide_eq_false q2; ?_, fun h2 => have q2 := bnot_f h2; have p2 := of_decide_eq_true q2; ?_⟩
 refine have hm1 : numEv f u = (⟨2, f.number, 1, 0, [], 0, 0⟩ : Ev) := ?_; ?_
 rotate_left
 refine ⟨(congrArg S.v (congrArg V.agg (consE (congrArg (C.int .i64) ?_) (consE (congrArg (C.int .i64) ?_) (consE (congrArg (C.int .u64) ?_) (consE (congrArg (C.int .i64) ?_) (consE (congrArg C.str ?_) (consE (congrArg (C.int .i64) ?_) (consE (congrArg (C.int .i64) ?_) rfl))))))))), rfl⟩
 rotate_left 7
 refine have hm1 : numEv f u = (⟨2, f.number, u, 0, [], 0, 0⟩ : Ev) := ?_; ?_
 rotate_left
 refine ⟨(congrArg S.v (congrArg V.agg (consE (congrArg (C.int .i64) ?_) (consE (congrArg (C.int .i64) ?_) (consE (congrArg (C.int .u64) ?_) (consE (congrArg (C.int .i64) ?_) (consE (congrArg C.str ?_) (consE (congrArg (C.int .i64) ?_) (consE (congrArg (C.int .i64) ?_) rfl))))))))), rfl⟩
 rotate_left 7
 refine have hm1 : numEv f u = (⟨2, f.number, u, 0, [], 0, 0⟩ : Ev) := ?_; ?_
 rotate_left
 refine ⟨(congrArg S.v (congrArg V.agg (consE (congrArg (C.int .i64) ?_) (consE (congrArg (C.int .i64) ?_) (consE (congrArg (C.int .u64) ?_) (consE (congrArg (C.int .i64) ?_) (consE (congrArg C.str ?_) (consE (congrArg (C.int .i64) ?_) (consE (congrArg (C.int .i64) ?_) rfl))))))))), rfl⟩
 rotate_left 7
 all_goals simp [numEv, *] <;> omega
theorem numEvent_s (f : Fld) (u : Int) (hp1 : (0 : Int) ≤ u) : Fun Tryz.prog 158 [.agg (cFld f), .c (.int .u64 u)] [] (.v (.agg (cEv (numEv f u)))) [] := by
 have hN : bigN = 274877906944 := rfl
 refine fun_ofw Tryz.func158 (by kernel_rfl) (by kernel_rfl) (w := let zi : Int → C := .int .i64; let z1 : List C := [zi 2, zi f.number, .int .u64 u, zi 0, .str [], zi 0, zi 0]; (.br (.br (.leaf () []) (.leaf () [])) (.leaf () []), ((decide (f.kind = 3)) = true → ((decide (1 < u)) = true → (.v (.agg [zi 2, zi f.number, .int .u64 1, zi 0, .str [], zi 0, zi 0]) : S) = .v (.agg (cEv (numEv f u))) ∧ ([] : List Blk) = []) ∧ ((decide (1 < u)) = false → (.v (.agg z1) : S) = .v (.agg (cEv (numEv f u))) ∧ ([] : List Blk) = [])) ∧ ((decide (f.kind = 3)) = false → (.v (.agg z1) : S) = .v (.agg (cEv (numEv f u))) ∧ ([] : List Blk) = []))) (by kernel_rfl) ?_
 refine dsp (fun h1 p1 => ?_) fun h1 p1 => ?_
 refine dsp (fun h2 p2 => ?_) fun h2 p2 => ?_
 refine have hm1 : numEv f u = (⟨2, f.number, 1, 0, [], 0, 0⟩ : Ev) := ?_; ?_
 rotate_left
 refine ⟨(congrArg S.v (congrArg V.agg (consE (congrArg (C.int .i64) ?_) (consE (congrArg (C.int .i64) ?_) (consE (congrArg (C.int .u64) ?_) (consE (congrArg (C.int .i64) ?_) (consE (congrArg C.str ?_) (consE (congrArg (C.int .i64) ?_) (consE (congrArg (C.int .i64) ?_) rfl))))))))), rfl⟩
 rotate_left 7
 refine have hm1 : numEv f u = (⟨2, f.number, u, 0, [], 0, 0⟩ : Ev) := ?_; ?_
 rotate_left
 refine ⟨(congrArg S.v (congrArg V.agg (consE (congrArg (C.int .i64) ?_) (consE (congrArg (C.int .i64) ?_) (consE (congrArg (C.int .u64) ?_) (consE (congrArg (C.int .i64) ?_) (consE (congrArg C.str ?_) (consE (congrArg (C.int .i64) ?_) (consE (congrArg (C.int .i64) ?_) rfl))))))))), rfl⟩
 rotate_left 7
 refine have hm1 : numEv f u = (⟨2, f.number, u, 0, [], 0, 0⟩ : Ev) := ?_; ?_
 rotate_left
 refine ⟨(congrArg S.v (congrArg V.agg (consE (congrArg (C.int .i64) ?_) (consE (congrArg (C.int .i64) ?_) (consE (congrArg (C.int .u64) ?_) (consE (congrArg (C.int .i64) ?_) (consE (congrArg C.str ?_) (consE (congrArg (C.int .i64) ?_) (consE (congrArg (C.int .i64) ?_) rfl))))))))), rfl⟩
 rotate_left 7
 all_goals simp [numEv, *] <;> omega
theorem utfOk_i (u : Utf) : Fun Tryz.prog 175 [.agg (cUtf u)] [] (.v (vB (utfOk u))) [] := by
 have hN : bigN = 274877906944 := rfl
 refine fun_ofw Tryz.func175 (by kernel_rfl) (by kernel_rfl) (w := let z1 := decide (u.low = 128) && decide (u.high = 191); let z2 := decide (u.want = 2) && (decide (u.low = 160) && decide (u.high = 191)); let z3 := decide (u.want = 2) && (decide (u.low = 128) && decide (u.high = 159)); let z4 := decide (u.want = 3) && (decide (u.low = 144) && decide (u.high = 191)); let z5 := decide (u.want = 0) && (decide (u.low = 0) && decide (u.high = 0)); let z6 := (.v (vB true) : S); let z7 := ([] : List Blk); let z8 := vB (utfOk u); let z9 := decide (u.want = 3) && (decide (u.low = 128) && decide (u.high = 143)); let z10 := decide (u.want = 1) && z1; let z11 := decide (u.want = 2) && z1; let z12 := decide (u.want = 3) && z1; (.br (.seg [.br true] (.leaf () [])) (.br (.seg [.br true] (.leaf () [])) (.br (.seg [.br true] (.leaf () [])) (.br (.seg [.br true] (.leaf () [])) (.br (.seg [.br true] (.leaf () [])) (.br (.seg [.br true] (.leaf () [])) (.br (.seg [.br true] (.leaf () [])) (.br (.leaf () []) (.leaf () [])))))))), (z5 = true → (z5 = true) ∧ z6 = .v z8 ∧ z7 = []) ∧ (z5 = false → (z10 = true → (z10 = true) ∧ z6 = .v z8 ∧ z7 = []) ∧ (z10 = false → (z11 = true → (z11 = true) ∧ z6 = .v z8 ∧ z7 = []) ∧ (z11 = false → (z12 = true → (z12 = true) ∧ z6 = .v z8 ∧ z7 = []) ∧ (z12 = false → (z2 = true → (z2 = true) ∧ z6 = .v z8 ∧ z7 = []) ∧ (z2 = false → (z3 = true → (z3 = true) ∧ z6 = .v z8 ∧ z7 = []) ∧ (z3 = false → (z4 = true → (z4 = true) ∧ z6 = .v z8 ∧ z7 = []) ∧ (z4 = false → (z9 = true → z6 = .v z8 ∧ z7 = []) ∧ (z9 = false → (.v (vB false) : S) = .v z8 ∧ z7 = [])))))))))) (by kernel_rfl) ?_
 refine ⟨fun h1 => have p1 := (andT dT (andT dT dT)).1 h1; ?_, fun h1 => have p1 := (andF dT (andF dT dF)).1 h1; ?_⟩
 refine ⟨h1, (sB ?_), rfl⟩
 rotate_left
 refine ⟨fun h2 => have p2 := (andT dT (andT dT dT)).1 h2; ?_, fun h2 => have p2 := (andF dT (andF dT dF)).1 h2; ?_⟩
 refine ⟨h2, (sB ?_), rfl⟩
 rotate_left
 refine ⟨fun h3 => have p3 := (andT dT (andT dT dT)).1 h3; ?_, fun h3 => have p3 := (andF dT (andF dT dF)).1 h3; ?_⟩
 refine ⟨h3, (sB ?_), rfl⟩
 rotate_left
 refine ⟨fun h4 => have p4 := (andT dT (andT dT dT)).1 h4; ?_, fun h4 => have p4 := (andF dT (andF dT dF)).1 h4; ?_⟩
 refine ⟨h4, (sB ?_), rfl⟩
 rotate_left
 refine ⟨fun h5 => have p5 := (andT dT (andT dT dT)).1 h5; ?_, fun h5 => have p5 := (andF dT (andF dT dF)).1 h5; ?_⟩
 refine ⟨h5, (sB ?_), rfl⟩
 rotate_left
 refine ⟨fun h6 => have p6 := (andT dT (andT dT dT)).1 h6; ?_, fun h6 => have p6 := (andF dT (andF dT dF)).1 h6; ?_⟩
 refine ⟨h6, (sB ?_), rfl⟩
 rotate_left
 refine ⟨fun h7 => have p7 := (andT dT (andT dT dT)).1 h7; ?_, fun h7 => have p7 := (andF dT (andF dT dF)).1 h7; ?_⟩
 refine ⟨h7, (sB ?_), rfl⟩
 rotate_left
 refine ⟨fun h8 => have p8 := (andT dT (andT dT dT)).1 h8; ?_, fun h8 => have p8 := (andF dT (andF dT dF)).1 h8; ?_⟩
 refine ⟨(sB ?_), rfl⟩
 rotate_left
 refine ⟨(sB ?_), rfl⟩
 rotate_left
 all_goals first | (rw [Bool.eq_iff_iff]; simp [utfOk, utfIs]; omega) | (rw [Bool.eq_iff_iff]; simp [utfOk, utfIs, within]; omega) | (simp_all [utfOk, utfIs, within]; done)
theorem utfOk_s (u : Utf) : Fun Tryz.prog 144 [.agg (cUtf u)] [] (.v (vB (utfOk u))) [] := by
 have hN : bigN = 274877906944 := rfl
 refine fun_ofw Tryz.func144 (by kernel_rfl) (by kernel_rfl) (w := let z1 := decide (u.low = 128); let z2 := ([] : List Blk); let z3 := vB (utfOk u); let z4 := decide (u.high = 191); let z5 := (.v (vB false) : S); let z6 := decide (u.want = 0) && (decide (u.low = 0) && decide (u.high = 0)); let z7 := decide (u.low = 160); let z8 := decide (u.low = 144); let z9 := decide (u.want = 2); let z10 := decide (u.want = 3); let z11 := z4 = true → (.v (vB true) : S) = .v z3 ∧ z2 = []; let z12 := z4 = false → (z1 = false) ∧ z5 = .v z3 ∧ z2 = []; let z13 := vB (within u.want 1 3); let z14 := (.v (vB (decide (u.high = 159))) : S); let z15 := (.v (vB (decide (u.high = 143))) : S); let z16 := z10 = false → z5 = .v z3 ∧ z2 = []; (.br (.leaf () []) (.br (.br (.seg [.call [] (.v z13) []] (.leaf () [])) (.br (.br (.seg [.br false, .br true] (.leaf () [])) (.seg [.br true] (.leaf () []))) (.br (.br (.seg [.br false, .br true] (.leaf () [])) (.seg [.br true] (.leaf () []))) (.leaf () [])))) (.br (.br (.br (.leaf () []) (.seg [.br false] (.leaf () []))) (.seg [.br false] (.leaf () []))) (.br (.br (.br (.leaf () []) (.seg [.br false] (.leaf () []))) (.seg [.br false] (.leaf () []))) (.leaf () [])))), (z6 = true → (.v (vB true) : S) = .v z3 ∧ z2 = []) ∧ (z6 = false → (z1 = true → (z4 = true → (Fun Tryz.prog 105 [vI u.want, vI 1, vI 3] [] (.v z13) []) ∧ (.v z13 : S) = .v z3 ∧ z2 = []) ∧ (z4 = false → (z9 = true → (z7 = true → (z4 = false) ∧ (z1 = true) ∧ z14 = .v z3 ∧ z2 = []) ∧ (z7 = false → (z1 = true) ∧ z14 = .v z3 ∧ z2 = [])) ∧ (z9 = false → (z10 = true → (z8 = true → (z4 = false) ∧ (z1 = true) ∧ z15 = .v z3 ∧ z2 = []) ∧ (z8 = false → (z1 = true) ∧ z15 = .v z3 ∧ z2 = [])) ∧ z16))) ∧ (z1 = false → (z9 = true → (z7 = true → z11 ∧ z12) ∧ (z7 = false → (z1 = false) ∧ z5 = .v z3 ∧ z2 = [])) ∧ (z9 = false → (z10 = true → (z8 = true → z11 ∧ z12) ∧ (z8 = false → (z1 = false) ∧ z5 = .v z3 ∧ z2 = [])) ∧ z16))))) (by kernel_rfl) ?_
 refine ⟨fun h1 => have p1 := (andT dT (andT dT dT)).1 h1; ?_, fun h1 => have p1 := (andF dT (andF dT dF)).1 h1; ?_⟩
 refine ⟨(sB ?_), rfl⟩
 rotate_left
 refine dsp (fun h2 p2 => ?_) fun h2 p2 => ?_
 refine dsp (fun h3 p3 => ?_) fun h3 p3 => ?_
 refine ⟨(within_s _ _ _), (sB ?_), rfl⟩
 rotate_left
 refine dsp (fun h4 p4 => ?_) fun h4 p4 => ?_
 refine dsp (fun h5 p5 => ?_) fun h5 p5 => ?_
 refine ⟨h3, h2, (sB ?_), rfl⟩
 rotate_left
 refine ⟨h2, (sB ?_), rfl⟩
 rotate_left
 refine dsp (fun h5 p5 => ?_) fun h5 p5 => ?_
 refine dsp (fun h6 p6 => ?_) fun h6 p6 => ?_
 refine ⟨h3, h2, (sB ?_), rfl⟩
 rotate_left
 refine ⟨h2, (sB ?_), rfl⟩
 rotate_left
 refine ⟨(sB ?_), rfl⟩
 rotate_left
 refine dsp (fun h3 p3 => ?_) fun h3 p3 => ?_
 refine dsp (fun h4 p4 => ?_) fun h4 p4 => ?_
 refine dsp (fun h5 p5 => ?_) fun h5 p5 => ?_
 refine ⟨(sB ?_), rfl⟩
 rotate_left
 refine ⟨h2, (sB ?_), rfl⟩
 rotate_left
 refine ⟨h2, (sB ?_), rfl⟩
 rotate_left
 refine dsp (fun h4 p4 => ?_) fun h4 p4 => ?_
 refine dsp (fun h5 p5 => ?_) fun h5 p5 => ?_
 refine dsp (fun h6 p6 => ?_) fun h6 p6 => ?_
 refine ⟨(sB ?_), rfl⟩
 rotate_left
 refine ⟨h2, (sB ?_), rfl⟩
 rotate_left
 refine ⟨h2, (sB ?_), rfl⟩
 rotate_left
 refine ⟨(sB ?_), rfl⟩
 rotate_left
 all_goals first | (rw [Bool.eq_iff_iff]; simp [utfOk, utfIs]; omega) | (rw [Bool.eq_iff_iff]; simp [utfOk, utfIs, within]; omega) | (simp_all [utfOk, utfIs, within]; done)
theorem utfFirst_i (b : Int) : Fun Tryz.prog 238 [vI b] [] (.tup [.agg (cUtf ((utfFirst b).getD utf0)), vB (utfFirst b).isSome]) [] := by
 have hN : bigN = 274877906944 := rfl
 refine fun_ofw Tryz.func238 (by kernel_rfl) (by kernel_rfl) (w := let zi : Int → C := .int .i64; let z2 := ([] : List Blk); let z3 := utfFirst b; let z1 := cUtf (z3.getD utf0); let z4 := decide (b = 224); let z5 := decide (b = 237); let z6 := decide (b = 240); let z7 := decide (b = 244); let z8 := within b 194 223; let z9 := within b 224 239; let z10 := within b 240 244; let z11 := within b 0 127; (.seg [.call [] (.v (vB z11)) []] (.br (.leaf () []) (.seg [.call [] (.v (vB z8)) []] (.br (.br (.leaf () []) (.br (.leaf () []) (.br (.leaf () []) (.br (.leaf () []) (.leaf () []))))) (.seg [.call [] (.v (vB z9)) []] (.br (.br (.leaf () []) (.br (.leaf () []) (.br (.leaf () []) (.br (.leaf () []) (.leaf () []))))) (.seg [.call [] (.v (vB z10)) []] (.br (.br (.leaf () []) (.br (.leaf () []) (.br (.leaf () []) (.br (.leaf () []) (.leaf () []))))) (.leaf () [])))))))), (Fun Tryz.prog 173 [vI b, vI 0, vI 127] [] (.v (vB z11)) []) ∧ (z11 = true → (.tup [.agg [zi 0, zi 0, zi 0], vB true] : S) = .tup [.agg z1, vB z3.isSome] ∧ z2 = []) ∧ (z11 = false → (Fun Tryz.prog 173 [vI b, vI 194, vI 223] [] (.v (vB z8)) []) ∧ (z8 = true → (z4 = true → (.tup [.agg [zi 1, zi 160, zi 191], vB true] : S) = .tup [.agg z1, vB z3.isSome] ∧ z2 = []) ∧ (z4 = false → (z5 = true → (.tup [.agg [zi 1, zi 128, zi 159], vB true] : S) = .tup [.agg z1, vB z3.isSome] ∧ z2 = []) ∧ (z5 = false → (z6 = true → (.tup [.agg [zi 1, zi 144, zi 191], vB true] : S) = .tup [.agg z1, vB z3.isSome] ∧ z2 = []) ∧ (z6 = false → (z7 = true → (.tup [.agg [zi 1, zi 128, zi 143], vB true] : S) = .tup [.agg z1, vB z3.isSome] ∧ z2 = []) ∧ (z7 = false → (.tup [.agg [zi 1, zi 128, zi 191], vB true] : S) = .tup [.agg z1, vB z3.isSome] ∧ z2 = []))))) ∧ (z8 = false → (Fun Tryz.prog 173 [vI b, vI 224, vI 239] [] (.v (vB z9)) []) ∧ (z9 = true → (z4 = true → (.tup [.agg [zi 2, zi 160, zi 191], vB true] : S) = .tup [.agg z1, vB z3.isSome] ∧ z2 = []) ∧ (z4 = false → (z5 = true → (.tup [.agg [zi 2, zi 128, zi 159], vB true] : S) = .tup [.agg z1, vB z3.isSome] ∧ z2 = []) ∧ (z5 = false → (z6 = true → (.tup [.agg [zi 2, zi 144, zi 191], vB true] : S) = .tup [.agg z1, vB z3.isSome] ∧ z2 = []) ∧ (z6 = false → (z7 = true → (.tup [.agg [zi 2, zi 128, zi 143], vB true] : S) = .tup [.agg z1, vB z3.isSome] ∧ z2 = []) ∧ (z7 = false → (.tup [.agg [zi 2, zi 128, zi 191], vB true] : S) = .tup [.agg z1, vB z3.isSome] ∧ z2 = []))))) ∧ (z9 = false → (Fun Tryz.prog 173 [vI b, vI 240, vI 244] [] (.v (vB z10)) []) ∧ (z10 = true → (z4 = true → (.tup [.agg [zi 3, zi 160, zi 191], vB true] : S) = .tup [.agg z1, vB z3.isSome] ∧ z2 = []) ∧ (z4 = false → (z5 = true → (.tup [.agg [zi 3, zi 128, zi 159], vB true] : S) = .tup [.agg z1, vB z3.isSome] ∧ z2 = []) ∧ (z5 = false → (z6 = true → (.tup [.agg [zi 3, zi 144, zi 191], vB true] : S) = .tup [.agg z1, vB z3.isSome] ∧ z2 = []) ∧ (z6 = false → (z7 = true → (.tup [.agg [zi 3, zi 128, zi 143], vB true] : S) = .tup [.agg z1, vB z3.isSome] ∧ z2 = []) ∧ (z7 = false → (.tup [.agg [zi 3, zi 128, zi 191], vB true] : S) = .tup [.agg z1, vB z3.isSome] ∧ z2 = []))))) ∧ (z10 = false → (.tup [.agg [zi 0, zi 0, zi 0], vB false] : S) = .tup [.agg z1, vB z3.isSome] ∧ z2 = [])))))) (by kernel_rfl) ?_
 refine ⟨(within_i _ _ _), fun h1 => have p1 := within_t h1; ?_, fun h1 => have p1 := within_f h1; ?_⟩
 refine have hm1 : (utfFirst b).getD utf0 = utf0 := ?_; ?_
 rotate_left
 refine ⟨(congrArg S.tup (consE (congrArg V.agg (consE (congrArg (C.int .i64) ?_) (consE (congrArg (C.int .i64) ?_) (consE (congrArg (C.int .i64) ?_) rfl)))) (consE (congrArg V.c (congrArg C.bool ?_)) rfl))), rfl⟩
 rotate_left 4
 refine ⟨(within_i _ _ _), fun h2 => have p2 := within_t h2; ?_, fun h2 => have p2 := within_f h2; ?_⟩
 refine dsp (fun h3 p3 => ?_) fun h3 p3 => ?_
 refine have hm1 : (utfFirst b).getD utf0 = (⟨1, 160, 191⟩ : Utf) := ?_; ?_
 rotate_left
 refine ⟨(congrArg S.tup (consE (congrArg V.agg (consE (congrArg (C.int .i64) ?_) (consE (congrArg (C.int .i64) ?_) (consE (congrArg (C.int .i64) ?_) rfl)))) (consE (congrArg V.c (congrArg C.bool ?_)) rfl))), rfl⟩
 rotate_left 4
 refine dsp (fun h4 p4 => ?_) fun h4 p4 => ?_
 refine have hm1 : (utfFirst b).getD utf0 = (⟨1, 128, 159⟩ : Utf) := ?_; ?_
 rotate_left
 refine ⟨(congrArg S.tup (consE (congrArg V.agg (consE (congrArg (C.int .i64) ?_) (consE (congrArg (C.int .i64) ?_) (consE (congrArg (C.int .i64) ?_) rfl)))) (consE (congrArg V.c (congrArg C.bool ?_)) rfl))), rfl⟩
 rotate_left 4
 refine dsp (fun h5 p5 => ?_) fun h5 p5 => ?_
 refine have hm1 : (utfFirst b).getD utf0 = (⟨1, 144, 191⟩ : Utf) := ?_; ?_
 rotate_left
 refine ⟨(congrArg S.tup (consE (congrArg V.agg (consE (congrArg (C.int .i64) ?_) (consE (congrArg (C.int .i64) ?_) (consE (congrArg (C.int .i64) ?_) rfl)))) (consE (congrArg V.c (congrArg C.bool ?_)) rfl))), rfl⟩
 rotate_left 4
 refine dsp (fun h6 p6 => ?_) fun h6 p6 => ?_
 refine have hm1 : (utfFirst b).getD utf0 = (⟨1, 128, 143⟩ : Utf) := ?_; ?_
 rotate_left
 refine ⟨(congrArg S.tup (consE (congrArg V.agg (consE (congrArg (C.int .i64) ?_) (consE (congrArg (C.int .i64) ?_) (consE (congrArg (C.int .i64) ?_) rfl)))) (consE (congrArg V.c (congrArg C.bool ?_)) rfl))), rfl⟩
 rotate_left 4
 refine have hm1 : (utfFirst b).getD utf0 = (⟨1, 128, 191⟩ : Utf) := ?_; ?_
 rotate_left
 refine ⟨(congrArg S.tup (consE (congrArg V.agg (consE (congrArg (C.int .i64) ?_) (consE (congrArg (C.int .i64) ?_) (consE (congrArg (C.int .i64) ?_) rfl)))) (consE (congrArg V.c (congrArg C.bool ?_)) rfl))), rfl⟩
 rotate_left 4
 refine ⟨(within_i _ _ _), fun h3 => have p3 := within_t h3; ?_, fun h3 => have p3 := within_f h3; ?_⟩
 refine dsp (fun h4 p4 => ?_) fun h4 p4 => ?_
 refine have hm1 : (utfFirst b).getD utf0 = (⟨2, 160, 191⟩ : Utf) := ?_; ?_
 rotate_left
 refine ⟨(congrArg S.tup (consE (congrArg V.agg (consE (congrArg (C.int .i64) ?_) (consE (congrArg (C.int .i64) ?_) (consE (congrArg (C.int .i64) ?_) rfl)))) (consE (congrArg V.c (congrArg C.bool ?_)) rfl))), rfl⟩
 rotate_left 4
 refine dsp (fun h5 p5 => ?_) fun h5 p5 => ?_
 refine have hm1 : (utfFirst b).getD utf0 = (⟨2, 128, 159⟩ : Utf) := ?_; ?_
 rotate_left
 refine ⟨(congrArg S.tup (consE (congrArg V.agg (consE (congrArg (C.int .i64) ?_) (consE (congrArg (C.int .i64) ?_) (consE (congrArg (C.int .i64) ?_) rfl)))) (consE (congrArg V.c (congrArg C.bool ?_)) rfl))), rfl⟩
 rotate_left 4
 refine dsp (fun h6 p6 => ?_) fun h6 p6 => ?_
 refine have hm1 : (utfFirst b).getD utf0 = (⟨2, 144, 191⟩ : Utf) := ?_; ?_
 rotate_left
 refine ⟨(congrArg S.tup (consE (congrArg V.agg (consE (congrArg (C.int .i64) ?_) (consE (congrArg (C.int .i64) ?_) (consE (congrArg (C.int .i64) ?_) rfl)))) (consE (congrArg V.c (congrArg C.bool ?_)) rfl))), rfl⟩
 rotate_left 4
 refine dsp (fun h7 p7 => ?_) fun h7 p7 => ?_
 refine have hm1 : (utfFirst b).getD utf0 = (⟨2, 128, 143⟩ : Utf) := ?_; ?_
 rotate_left
 refine ⟨(congrArg S.tup (consE (congrArg V.agg (consE (congrArg (C.int .i64) ?_) (consE (congrArg (C.int .i64) ?_) (consE (congrArg (C.int .i64) ?_) rfl)))) (consE (congrArg V.c (congrArg C.bool ?_)) rfl))), rfl⟩
 rotate_left 4
 refine have hm1 : (utfFirst b).getD utf0 = (⟨2, 128, 191⟩ : Utf) := ?_; ?_
 rotate_left
 refine ⟨(congrArg S.tup (consE (congrArg V.agg (consE (congrArg (C.int .i64) ?_) (consE (congrArg (C.int .i64) ?_) (consE (congrArg (C.int .i64) ?_) rfl)))) (consE (congrArg V.c (congrArg C.bool ?_)) rfl))), rfl⟩
 rotate_left 4
 refine ⟨(within_i _ _ _), fun h4 => have p4 := within_t h4; ?_, fun h4 => have p4 := within_f h4; ?_⟩
 refine dsp (fun h5 p5 => ?_) fun h5 p5 => ?_
 refine have hm1 : (utfFirst b).getD utf0 = (⟨3, 160, 191⟩ : Utf) := ?_; ?_
 rotate_left
 refine ⟨(congrArg S.tup (consE (congrArg V.agg (consE (congrArg (C.int .i64) ?_) (consE (congrArg (C.int .i64) ?_) (consE (congrArg (C.int .i64) ?_) rfl)))) (consE (congrArg V.c (congrArg C.bool ?_)) rfl))), rfl⟩
 rotate_left 4
 refine dsp (fun h6 p6 => ?_) fun h6 p6 => ?_
 refine have hm1 : (utfFirst b).getD utf0 = (⟨3, 128, 159⟩ : Utf) := ?_; ?_
 rotate_left
 refine ⟨(congrArg S.tup (consE (congrArg V.agg (consE (congrArg (C.int .i64) ?_) (consE (congrArg (C.int .i64) ?_) (consE (congrArg (C.int .i64) ?_) rfl)))) (consE (congrArg V.c (congrArg C.bool ?_)) rfl))), rfl⟩
 rotate_left 4
 refine dsp (fun h7 p7 => ?_) fun h7 p7 => ?_
 refine have hm1 : (utfFirst b).getD utf0 = (⟨3, 144, 191⟩ : Utf) := ?_; ?_
 rotate_left
 refine ⟨(congrArg S.tup (consE (congrArg V.agg (consE (congrArg (C.int .i64) ?_) (consE (congrArg (C.int .i64) ?_) (consE (congrArg (C.int .i64) ?_) rfl)))) (consE (congrArg V.c (congrArg C.bool ?_)) rfl))), rfl⟩
 rotate_left 4
 refine dsp (fun h8 p8 => ?_) fun h8 p8 => ?_
 refine have hm1 : (utfFirst b).getD utf0 = (⟨3, 128, 143⟩ : Utf) := ?_; ?_
 rotate_left
 refine ⟨(congrArg S.tup (consE (congrArg V.agg (consE (congrArg (C.int .i64) ?_) (consE (congrArg (C.int .i64) ?_) (consE (congrArg (C.int .i64) ?_) rfl)))) (consE (congrArg V.c (congrArg C.bool ?_)) rfl))), rfl⟩
 rotate_left 4
 refine have hm1 : (utfFirst b).getD utf0 = (⟨3, 128, 191⟩ : Utf) := ?_; ?_
 rotate_left
 refine ⟨(congrArg S.tup (consE (congrArg V.agg (consE (congrArg (C.int .i64) ?_) (consE (congrArg (C.int .i64) ?_) (consE (congrArg (C.int .i64) ?_) rfl)))) (consE (congrArg V.c (congrArg C.bool ?_)) rfl))), rfl⟩
 rotate_left 4
 refine have hm1 : (utfFirst b).getD utf0 = utf0 := ?_; ?_
 rotate_left
 refine ⟨(congrArg S.tup (consE (congrArg V.agg (consE (congrArg (C.int .i64) ?_) (consE (congrArg (C.int .i64) ?_) (consE (congrArg (C.int .i64) ?_) rfl)))) (consE (congrArg V.c (congrArg C.bool ?_)) rfl))), rfl⟩
 rotate_left 4
 all_goals first | (simp [utfFirst, utf0, *]; done) | (simp_all [utfFirst, utf0, within]; done) | (simp_all [utfFirst, utf0, within]; omega)
theorem utfFirst_s (b : Int) : Fun Tryz.prog 155 [vI b] [] (.tup [.agg (cUtf ((utfFirst b).getD utf0)), vB (utfFirst b).isSome]) [] := by
 have hN : bigN = 274877906944 := rfl
 refine fun_ofw Tryz.func155 (by kernel_rfl) (by kernel_rfl) (w := let zi : Int → C := .int .i64; let z2 := ([] : List Blk); let z3 := utfFirst b; let z1 := cUtf (z3.getD utf0); let z4 := decide (b = 224); let z5 := decide (b = 237); let z6 := decide (b = 240); let z7 := decide (b = 244); let z8 := within b 194 223; let z9 := within b 224 239; let z10 := within b 240 244; let z11 := within b 0 127; (.seg [.call [] (.v (vB z11)) []] (.br (.leaf () []) (.seg [.call [] (.v (vB z8)) []] (.br (.br (.leaf () []) (.br (.leaf () []) (.br (.leaf () []) (.br (.leaf () []) (.leaf () []))))) (.seg [.call [] (.v (vB z9)) []] (.br (.br (.leaf () []) (.br (.leaf () []) (.br (.leaf () []) (.br (.leaf () []) (.leaf () []))))) (.seg [.call [] (.v (vB z10)) []] (.br (.br (.leaf () []) (.br (.leaf () []) (.br (.leaf () []) (.br (.leaf () []) (.leaf () []))))) (.leaf () [])))))))), (Fun Tryz.prog 105 [vI b, vI 0, vI 127] [] (.v (vB z11)) []) ∧ (z11 = true → (.tup [.agg [zi 0, zi 0, zi 0], vB true] : S) = .tup [.agg z1, vB z3.isSome] ∧ z2 = []) ∧ (z11 = false → (Fun Tryz.prog 105 [vI b, vI 194, vI 223] [] (.v (vB z8)) []) ∧ (z8 = true → (z4 = true → (.tup [.agg [zi 1, zi 160, zi 191], vB true] : S) = .tup [.agg z1, vB z3.isSome] ∧ z2 = []) ∧ (z4 = false → (z5 = true → (.tup [.agg [zi 1, zi 128, zi 159], vB true] : S) = .tup [.agg z1, vB z3.isSome] ∧ z2 = []) ∧ (z5 = false → (z6 = true → (.tup [.agg [zi 1, zi 144, zi 191], vB true] : S) = .tup [.agg z1, vB z3.isSome] ∧ z2 = []) ∧ (z6 = false → (z7 = true → (.tup [.agg [zi 1, zi 128, zi 143], vB true] : S) = .tup [.agg z1, vB z3.isSome] ∧ z2 = []) ∧ (z7 = false → (.tup [.agg [zi 1, zi 128, zi 191], vB true] : S) = .tup [.agg z1, vB z3.isSome] ∧ z2 = []))))) ∧ (z8 = false → (Fun Tryz.prog 105 [vI b, vI 224, vI 239] [] (.v (vB z9)) []) ∧ (z9 = true → (z4 = true → (.tup [.agg [zi 2, zi 160, zi 191], vB true] : S) = .tup [.agg z1, vB z3.isSome] ∧ z2 = []) ∧ (z4 = false → (z5 = true → (.tup [.agg [zi 2, zi 128, zi 159], vB true] : S) = .tup [.agg z1, vB z3.isSome] ∧ z2 = []) ∧ (z5 = false → (z6 = true → (.tup [.agg [zi 2, zi 144, zi 191], vB true] : S) = .tup [.agg z1, vB z3.isSome] ∧ z2 = []) ∧ (z6 = false → (z7 = true → (.tup [.agg [zi 2, zi 128, zi 143], vB true] : S) = .tup [.agg z1, vB z3.isSome] ∧ z2 = []) ∧ (z7 = false → (.tup [.agg [zi 2, zi 128, zi 191], vB true] : S) = .tup [.agg z1, vB z3.isSome] ∧ z2 = []))))) ∧ (z9 = false → (Fun Tryz.prog 105 [vI b, vI 240, vI 244] [] (.v (vB z10)) []) ∧ (z10 = true → (z4 = true → (.tup [.agg [zi 3, zi 160, zi 191], vB true] : S) = .tup [.agg z1, vB z3.isSome] ∧ z2 = []) ∧ (z4 = false → (z5 = true → (.tup [.agg [zi 3, zi 128, zi 159], vB true] : S) = .tup [.agg z1, vB z3.isSome] ∧ z2 = []) ∧ (z5 = false → (z6 = true → (.tup [.agg [zi 3, zi 144, zi 191], vB true] : S) = .tup [.agg z1, vB z3.isSome] ∧ z2 = []) ∧ (z6 = false → (z7 = true → (.tup [.agg [zi 3, zi 128, zi 143], vB true] : S) = .tup [.agg z1, vB z3.isSome] ∧ z2 = []) ∧ (z7 = false → (.tup [.agg [zi 3, zi 128, zi 191], vB true] : S) = .tup [.agg z1, vB z3.isSome] ∧ z2 = []))))) ∧ (z10 = false → (.tup [.agg [zi 0, zi 0, zi 0], vB false] : S) = .tup [.agg z1, vB z3.isSome] ∧ z2 = [])))))) (by kernel_rfl) ?_
 refine ⟨(within_s _ _ _), fun h1 => have p1 := within_t h1; ?_, fun h1 => have p1 := within_f h1; ?_⟩
 refine have hm1 : (utfFirst b).getD utf0 = utf0 := ?_; ?_
 rotate_left
 refine ⟨(congrArg S.tup (consE (congrArg V.agg (consE (congrArg (C.int .i64) ?_) (consE (congrArg (C.int .i64) ?_) (consE (congrArg (C.int .i64) ?_) rfl)))) (consE (congrArg V.c (congrArg C.bool ?_)) rfl))), rfl⟩
 rotate_left 4
 refine ⟨(within_s _ _ _), fun h2 => have p2 := within_t h2; ?_, fun h2 => have p2 := within_f h2; ?_⟩
 refine dsp (fun h3 p3 => ?_) fun h3 p3 => ?_
 refine have hm1 : (utfFirst b).getD utf0 = (⟨1, 160, 191⟩ : Utf) := ?_; ?_
 rotate_left
 refine ⟨(congrArg S.tup (consE (congrArg V.agg (consE (congrArg (C.int .i64) ?_) (consE (congrArg (C.int .i64) ?_) (consE (congrArg (C.int .i64) ?_) rfl)))) (consE (congrArg V.c (congrArg C.bool ?_)) rfl))), rfl⟩
 rotate_left 4
 refine dsp (fun h4 p4 => ?_) fun h4 p4 => ?_
 refine have hm1 : (utfFirst b).getD utf0 = (⟨1, 128, 159⟩ : Utf) := ?_; ?_
 rotate_left
 refine ⟨(congrArg S.tup (consE (congrArg V.agg (consE (congrArg (C.int .i64) ?_) (consE (congrArg (C.int .i64) ?_) (consE (congrArg (C.int .i64) ?_) rfl)))) (consE (congrArg V.c (congrArg C.bool ?_)) rfl))), rfl⟩
 rotate_left 4
 refine dsp (fun h5 p5 => ?_) fun h5 p5 => ?_
 refine have hm1 : (utfFirst b).getD utf0 = (⟨1, 144, 191⟩ : Utf) := ?_; ?_
 rotate_left
 refine ⟨(congrArg S.tup (consE (congrArg V.agg (consE (congrArg (C.int .i64) ?_) (consE (congrArg (C.int .i64) ?_) (consE (congrArg (C.int .i64) ?_) rfl)))) (consE (congrArg V.c (congrArg C.bool ?_)) rfl))), rfl⟩
 rotate_left 4
 refine dsp (fun h6 p6 => ?_) fun h6 p6 => ?_
 refine have hm1 : (utfFirst b).getD utf0 = (⟨1, 128, 143⟩ : Utf) := ?_; ?_
 rotate_left
 refine ⟨(congrArg S.tup (consE (congrArg V.agg (consE (congrArg (C.int .i64) ?_) (consE (congrArg (C.int .i64) ?_) (consE (congrArg (C.int .i64) ?_) rfl)))) (consE (congrArg V.c (congrArg C.bool ?_)) rfl))), rfl⟩
 rotate_left 4
 refine have hm1 : (utfFirst b).getD utf0 = (⟨1, 128, 191⟩ : Utf) := ?_; ?_
 rotate_left
 refine ⟨(congrArg S.tup (consE (congrArg V.agg (consE (congrArg (C.int .i64) ?_) (consE (congrArg (C.int .i64) ?_) (consE (congrArg (C.int .i64) ?_) rfl)))) (consE (congrArg V.c (congrArg C.bool ?_)) rfl))), rfl⟩
 rotate_left 4
 refine ⟨(within_s _ _ _), fun h3 => have p3 := within_t h3; ?_, fun h3 => have p3 := within_f h3; ?_⟩
 refine dsp (fun h4 p4 => ?_) fun h4 p4 => ?_
 refine have hm1 : (utfFirst b).getD utf0 = (⟨2, 160, 191⟩ : Utf) := ?_; ?_
 rotate_left
 refine ⟨(congrArg S.tup (consE (congrArg V.agg (consE (congrArg (C.int .i64) ?_) (consE (congrArg (C.int .i64) ?_) (consE (congrArg (C.int .i64) ?_) rfl)))) (consE (congrArg V.c (congrArg C.bool ?_)) rfl))), rfl⟩
 rotate_left 4
 refine dsp (fun h5 p5 => ?_) fun h5 p5 => ?_
 refine have hm1 : (utfFirst b).getD utf0 = (⟨2, 128, 159⟩ : Utf) := ?_; ?_
 rotate_left
 refine ⟨(congrArg S.tup (consE (congrArg V.agg (consE (congrArg (C.int .i64) ?_) (consE (congrArg (C.int .i64) ?_) (consE (congrArg (C.int .i64) ?_) rfl)))) (consE (congrArg V.c (congrArg C.bool ?_)) rfl))), rfl⟩
 rotate_left 4
 refine dsp (fun h6 p6 => ?_) fun h6 p6 => ?_
 refine have hm1 : (utfFirst b).getD utf0 = (⟨2, 144, 191⟩ : Utf) := ?_; ?_
 rotate_left
 refine ⟨(congrArg S.tup (consE (congrArg V.agg (consE (congrArg (C.int .i64) ?_) (consE (congrArg (C.int .i64) ?_) (consE (congrArg (C.int .i64) ?_) rfl)))) (consE (congrArg V.c (congrArg C.bool ?_)) rfl))), rfl⟩
 rotate_left 4
 refine dsp (fun h7 p7 => ?_) fun h7 p7 => ?_
 refine have hm1 : (utfFirst b).getD utf0 = (⟨2, 128, 143⟩ : Utf) := ?_; ?_
 rotate_left
 refine ⟨(congrArg S.tup (consE (congrArg V.agg (consE (congrArg (C.int .i64) ?_) (consE (congrArg (C.int .i64) ?_) (consE (congrArg (C.int .i64) ?_) rfl)))) (consE (congrArg V.c (congrArg C.bool ?_)) rfl))), rfl⟩
 rotate_left 4
 refine have hm1 : (utfFirst b).getD utf0 = (⟨2, 128, 191⟩ : Utf) := ?_; ?_
 rotate_left
 refine ⟨(congrArg S.tup (consE (congrArg V.agg (consE (congrArg (C.int .i64) ?_) (consE (congrArg (C.int .i64) ?_) (consE (congrArg (C.int .i64) ?_) rfl)))) (consE (congrArg V.c (congrArg C.bool ?_)) rfl))), rfl⟩
 rotate_left 4
 refine ⟨(within_s _ _ _), fun h4 => have p4 := within_t h4; ?_, fun h4 => have p4 := within_f h4; ?_⟩
 refine dsp (fun h5 p5 => ?_) fun h5 p5 => ?_
 refine have hm1 : (utfFirst b).getD utf0 = (⟨3, 160, 191⟩ : Utf) := ?_; ?_
 rotate_left
 refine ⟨(congrArg S.tup (consE (congrArg V.agg (consE (congrArg (C.int .i64) ?_) (consE (congrArg (C.int .i64) ?_) (consE (congrArg (C.int .i64) ?_) rfl)))) (consE (congrArg V.c (congrArg C.bool ?_)) rfl))), rfl⟩
 rotate_left 4
 refine dsp (fun h6 p6 => ?_) fun h6 p6 => ?_
 refine have hm1 : (utfFirst b).getD utf0 = (⟨3, 128, 159⟩ : Utf) := ?_; ?_
 rotate_left
 refine ⟨(congrArg S.tup (consE (congrArg V.agg (consE (congrArg (C.int .i64) ?_) (consE (congrArg (C.int .i64) ?_) (consE (congrArg (C.int .i64) ?_) rfl)))) (consE (congrArg V.c (congrArg C.bool ?_)) rfl))), rfl⟩
 rotate_left 4
 refine dsp (fun h7 p7 => ?_) fun h7 p7 => ?_
 refine have hm1 : (utfFirst b).getD utf0 = (⟨3, 144, 191⟩ : Utf) := ?_; ?_
 rotate_left
 refine ⟨(congrArg S.tup (consE (congrArg V.agg (consE (congrArg (C.int .i64) ?_) (consE (congrArg (C.int .i64) ?_) (consE (congrArg (C.int .i64) ?_) rfl)))) (consE (congrArg V.c (congrArg C.bool ?_)) rfl))), rfl⟩
 rotate_left 4
 refine dsp (fun h8 p8 => ?_) fun h8 p8 => ?_
 refine have hm1 : (utfFirst b).getD utf0 = (⟨3, 128, 143⟩ : Utf) := ?_; ?_
 rotate_left
 refine ⟨(congrArg S.tup (consE (congrArg V.agg (consE (congrArg (C.int .i64) ?_) (consE (congrArg (C.int .i64) ?_) (consE (congrArg (C.int .i64) ?_) rfl)))) (consE (congrArg V.c (congrArg C.bool ?_)) rfl))), rfl⟩
 rotate_left 4
 refine have hm1 : (utfFirst b).getD utf0 = (⟨3, 128, 191⟩ : Utf) := ?_; ?_
 rotate_left
 refine ⟨(congrArg S.tup (consE (congrArg V.agg (consE (congrArg (C.int .i64) ?_) (consE (congrArg (C.int .i64) ?_) (consE (congrArg (C.int .i64) ?_) rfl)))) (consE (congrArg V.c (congrArg C.bool ?_)) rfl))), rfl⟩
 rotate_left 4
 refine have hm1 : (utfFirst b).getD utf0 = utf0 := ?_; ?_
 rotate_left
 refine ⟨(congrArg S.tup (consE (congrArg V.agg (consE (congrArg (C.int .i64) ?_) (consE (congrArg (C.int .i64) ?_) (consE (congrArg (C.int .i64) ?_) rfl)))) (consE (congrArg V.c (congrArg C.bool ?_)) rfl))), rfl⟩
 rotate_left 4
 all_goals first | (simp [utfFirst, utf0, *]; done) | (simp_all [utfFirst, utf0, within]; done) | (simp_all [utfFirst, utf0, within]; omega)
theorem utfByte_i (u : Utf) (b : Int) : Fun Tryz.prog 223 [.agg (cUtf u), vI b] [] (.tup [.agg (cUtf ((utfByte u b).getD u)), vB (utfByte u b).isSome]) [] := by
 have hN : bigN = 274877906944 := rfl
 refine fun_ofw Tryz.func223 (by kernel_rfl) (by kernel_rfl) (w := let z2 := (.tup [.agg (cUtf u), vB false] : S); let z3 := within b u.low u.high; let z4 := utfByte u b; let z1 := cUtf (z4.getD u); let z5 := ([] : List Blk); let z7 := utfFirst b; let z6 := cUtf (z7.getD utf0); (.seg [.call [] (.v (vB (utfOk u))) []] (.br (.leaf () []) (.br (.seg [.call [] (.tup [.agg z6, vB z7.isSome]) []] (.br (.leaf () []) (.leaf () []))) (.seg [.call [] (.v (vB z3)) []] (.br (.leaf () []) (.br (.leaf () []) (.seg [.as 42 (.v (vI (u.want - 1)))] (.leaf () []))))))), (Fun Tryz.prog 175 [.agg (cUtf u)] [] (.v (vB (utfOk u))) []) ∧ ((!(utfOk u)) = true → z2 = .tup [.agg z1, vB z4.isSome] ∧ z5 = []) ∧ ((!(utfOk u)) = false → ((decide (u.want = 0)) = true → (Fun Tryz.prog 238 [vI b] [] (.tup [.agg z6, vB z7.isSome]) []) ∧ ((!z7.isSome) = true → z2 = .tup [.agg z1, vB z4.isSome] ∧ z5 = []) ∧ ((!z7.isSome) = false → (.tup [.agg z6, vB true] : S) = .tup [.agg z1, vB z4.isSome] ∧ z5 = [])) ∧ ((decide (u.want = 0)) = false → (Fun Tryz.prog 173 [vI b, vI u.low, vI u.high] [] (.v (vB z3)) []) ∧ ((!z3) = true → z2 = .tup [.agg z1, vB z4.isSome] ∧ z5 = []) ∧ ((!z3) = false → ((decide (u.want = 1)) = true → (.tup [.agg [.int .i64 0, .int .i64 0, .int .i64 0], vB true] : S) = .tup [.agg z1, vB z4.isSome] ∧ z5 = []) ∧ ((decide (u.want = 1)) = false → ((.v (vI (IntKind.i64.wrap (u.want - 1))) : S) = .v (vI (u.want - 1))) ∧ (.tup [.agg [.int .i64 (u.want - 1), .int .i64 128, .int .i64 191], vB true] : S) = .tup [.agg z1, vB z4.isSome] ∧ z5 = [])))))) (by kernel_rfl) ?_
 refine ⟨(utfOk_i u), fun h1 => have q1 := bnot_t h1; ?_, fun h1 => have q1 := bnot_f h1; have p1 := utfOk_want q1; ?_⟩
 refine have hm1 : (utfByte u b).getD u = u := ?_; ?_
 rotate_left
 refine ⟨(congrArg S.tup (consE (congrArg V.agg (consE (congrArg (C.int .i64) ?_) (consE (congrArg (C.int .i64) ?_) (consE (congrArg (C.int .i64) ?_) rfl)))) (consE (congrArg V.c (congrArg C.bool ?_)) rfl))), rfl⟩
 rotate_left 4
 refine dsp (fun h2 p2 => ?_) fun h2 p2 => ?_
 have hu := utfOk_zero q1 p2
 refine ⟨(utfFirst_i _), fun h3 => have q3 := bnot_t h3; ?_, fun h3 => have q3 := bnot_f h3; ?_⟩
 refine have hm1 : (utfByte u b).getD u = u := ?_; ?_
 rotate_left
 refine ⟨(congrArg S.tup (consE (congrArg V.agg (consE (congrArg (C.int .i64) ?_) (consE (congrArg (C.int .i64) ?_) (consE (congrArg (C.int .i64) ?_) rfl)))) (consE (congrArg V.c (congrArg C.bool ?_)) rfl))), rfl⟩
 rotate_left 4
 refine have hm1 : (utfByte u b).getD u = ((utfFirst b).getD utf0) := ?_; ?_
 rotate_left
 refine ⟨(congrArg S.tup (consE (congrArg V.agg (consE (congrArg (C.int .i64) ?_) (consE (congrArg (C.int .i64) ?_) (consE (congrArg (C.int .i64) ?_) rfl)))) (consE (congrArg V.c (congrArg C.bool ?_)) rfl))), rfl⟩
 rotate_left 4
 refine ⟨(within_i _ _ _), fun h3 => have q3 := bnot_t h3; have p3 := within_f q3; ?_, fun h3 => have q3 := bnot_f h3; have p3 := within_t q3; ?_⟩
 refine have hm1 : (utfByte u b).getD u = u := ?_; ?_
 rotate_left
 refine ⟨(congrArg S.tup (consE (congrArg V.agg (consE (congrArg (C.int .i64) ?_) (consE (congrArg (C.int .i64) ?_) (consE (congrArg (C.int .i64) ?_) rfl)))) (consE (congrArg V.c (congrArg C.bool ?_)) rfl))), rfl⟩
 rotate_left 4
 refine dsp (fun h4 p4 => ?_) fun h4 p4 => ?_
 refine have hm1 : (utfByte u b).getD u = utf0 := ?_; ?_
 rotate_left
 refine ⟨(congrArg S.tup (consE (congrArg V.agg (consE (congrArg (C.int .i64) ?_) (consE (congrArg (C.int .i64) ?_) (consE (congrArg (C.int .i64) ?_) rfl)))) (consE (congrArg V.c (congrArg C.bool ?_)) rfl))), rfl⟩
 rotate_left 4
 refine ⟨(as_i64 (by omega) (by omega)), ?_⟩
 refine have hm1 : (utfByte u b).getD u = (⟨u.want - 1, 128, 191⟩ : Utf) := ?_; ?_
 rotate_left
 refine ⟨(congrArg S.tup (consE (congrArg V.agg (consE (congrArg (C.int .i64) ?_) (consE (congrArg (C.int .i64) ?_) (consE (congrArg (C.int .i64) ?_) rfl)))) (consE (congrArg V.c (congrArg C.bool ?_)) rfl))), rfl⟩
 rotate_left 4
 all_goals first | (simp [utfByte, *]; done) | (simp [utfByte, utf0, *]; done) | (simp_all [utfByte, utf0, within]; done) | (simp_all [utfByte, utf0, within]; omega)
theorem utfByte_s (u : Utf) (b : Int) : Fun Tryz.prog 108 [.agg (cUtf u), vI b] [] (.tup [.agg (cUtf ((utfByte u b).getD u)), vB (utfByte u b).isSome]) [] := by
 have hN : bigN = 274877906944 := rfl
 refine fun_ofw Tryz.func108 (by kernel_rfl) (by kernel_rfl) (w := let z2 := within b u.low u.high; let z3 := cUtf ((utfFirst b).getD utf0); let z4 := utfByte u b; let z1 := cUtf (z4.getD u); let z5 := ([] : List Blk); let z6 := (.tup [.agg (cUtf u), vB false] : S); (.seg [.call [] (.v (vB (utfOk u))) []] (.br (.leaf () []) (.br (.seg [.call [] (.tup [.agg z3, vB (utfFirst b).isSome]) []] (.leaf () [])) (.seg [.call [] (.v (vB z2)) []] (.br (.leaf () []) (.br (.leaf () []) (.seg [.as 31 (.v (vI (u.want - 1)))] (.leaf () []))))))), (Fun Tryz.prog 144 [.agg (cUtf u)] [] (.v (vB (utfOk u))) []) ∧ ((!(utfOk u)) = true → z6 = .tup [.agg z1, vB z4.isSome] ∧ z5 = []) ∧ ((!(utfOk u)) = false → ((decide (u.want = 0)) = true → (Fun Tryz.prog 155 [vI b] [] (.tup [.agg z3, vB (utfFirst b).isSome]) []) ∧ (.tup [.agg z3, vB (utfFirst b).isSome] : S) = .tup [.agg z1, vB z4.isSome] ∧ z5 = []) ∧ ((decide (u.want = 0)) = false → (Fun Tryz.prog 105 [vI b, vI u.low, vI u.high] [] (.v (vB z2)) []) ∧ ((!z2) = true → z6 = .tup [.agg z1, vB z4.isSome] ∧ z5 = []) ∧ ((!z2) = false → ((decide (u.want = 1)) = true → (.tup [.agg [.int .i64 0, .int .i64 0, .int .i64 0], vB true] : S) = .tup [.agg z1, vB z4.isSome] ∧ z5 = []) ∧ ((decide (u.want = 1)) = false → ((.v (vI (IntKind.i64.wrap (u.want - 1))) : S) = .v (vI (u.want - 1))) ∧ (.tup [.agg [.int .i64 (u.want - 1), .int .i64 128, .int .i64 191], vB true] : S) = .tup [.agg z1, vB z4.isSome] ∧ z5 = [])))))) (by kernel_rfl) ?_
 refine ⟨(utfOk_s u), fun h1 => have q1 := bnot_t h1; ?_, fun h1 => have q1 := bnot_f h1; have p1 := utfOk_want q1; ?_⟩
 refine have hm1 : (utfByte u b).getD u = u := ?_; ?_
 rotate_left
 refine ⟨(congrArg S.tup (consE (congrArg V.agg (consE (congrArg (C.int .i64) ?_) (consE (congrArg (C.int .i64) ?_) (consE (congrArg (C.int .i64) ?_) rfl)))) (consE (congrArg V.c (congrArg C.bool ?_)) rfl))), rfl⟩
 rotate_left 4
 refine dsp (fun h2 p2 => ?_) fun h2 p2 => ?_
 have hu := utfOk_zero q1 p2
 refine ⟨(utfFirst_s _), ?_⟩
 refine have hm1 : (utfByte u b).getD u = ((utfFirst b).getD utf0) := ?_; ?_
 rotate_left
 refine ⟨(congrArg S.tup (consE (congrArg V.agg (consE (congrArg (C.int .i64) ?_) (consE (congrArg (C.int .i64) ?_) (consE (congrArg (C.int .i64) ?_) rfl)))) (consE (congrArg V.c (congrArg C.bool ?_)) rfl))), rfl⟩
 rotate_left 4
 refine ⟨(within_s _ _ _), fun h3 => have q3 := bnot_t h3; have p3 := within_f q3; ?_, fun h3 => have q3 := bnot_f h3; have p3 := within_t q3; ?_⟩
 refine have hm1 : (utfByte u b).getD u = u := ?_; ?_
 rotate_left
 refine ⟨(congrArg S.tup (consE (congrArg V.agg (consE (congrArg (C.int .i64) ?_) (consE (congrArg (C.int .i64) ?_) (consE (congrArg (C.int .i64) ?_) rfl)))) (consE (congrArg V.c (congrArg C.bool ?_)) rfl))), rfl⟩
 rotate_left 4
 refine dsp (fun h4 p4 => ?_) fun h4 p4 => ?_
 refine have hm1 : (utfByte u b).getD u = utf0 := ?_; ?_
 rotate_left
 refine ⟨(congrArg S.tup (consE (congrArg V.agg (consE (congrArg (C.int .i64) ?_) (consE (congrArg (C.int .i64) ?_) (consE (congrArg (C.int .i64) ?_) rfl)))) (consE (congrArg V.c (congrArg C.bool ?_)) rfl))), rfl⟩
 rotate_left 4
 refine ⟨(as_i64 (by omega) (by omega)), ?_⟩
 refine have hm1 : (utfByte u b).getD u = (⟨u.want - 1, 128, 191⟩ : Utf) := ?_; ?_
 rotate_left
 refine ⟨(congrArg S.tup (consE (congrArg V.agg (consE (congrArg (C.int .i64) ?_) (consE (congrArg (C.int .i64) ?_) (consE (congrArg (C.int .i64) ?_) rfl)))) (consE (congrArg V.c (congrArg C.bool ?_)) rfl))), rfl⟩
 rotate_left 4
 all_goals first | (simp [utfByte, *]; done) | (simp [utfByte, utf0, *]; done) | (simp_all [utfByte, utf0, within]; done) | (simp_all [utfByte, utf0, within]; omega)
theorem fldOk_i (f : Fld) (before : Int) (n : Int) (hp1 : (0 : Int) ≤ n ∧ n ≤ 1000) : Fun Tryz.prog 222 [.agg (cFld f), vI before, vI n] [] (.v (vB (decide (before < (f).number) && fldOk f n))) [] := by
 have hN : bigN = 274877906944 := rfl
 refine fun_ofw Tryz.func222 (by kernel_rfl) (by kernel_rfl) (w := let z1 := vB (decide (before < (f).number) && fldOk f n); let z2 := vB (within f.msg 0 (n - 1)); let z4 := ([] : List Blk); let z5 := (.v (vB false) : S); let z6 := (.v (vI (IntKind.i64.wrap (n - 1))) : S) = .v (vI (n - 1)); let z7 := numberOk f.number; let z8 := numeric f.kind; let z9 := kindOk f.kind; let z10 := decide (f.kind = 8); let z3 := z10 = false → (.v (vB (decide (f.msg = (-1)))) : S) = .v z1 ∧ z4 = []; (.seg [.call [] (.v (vB z7)) []] (.br (.leaf () []) (.br (.leaf () []) (.seg [.call [] (.v (vB z9)) []] (.br (.leaf () []) (.br (.br (.leaf () []) (.seg [.call [] (.v (vB z8)) []] (.br (.leaf () []) (.br (.seg [.as 45 (.v (vI (n - 1))), .call [] (.v z2) []] (.leaf () [])) (.leaf () []))))) (.br (.seg [.as 45 (.v (vI (n - 1))), .call [] (.v z2) []] (.leaf () [])) (.leaf () []))))))), (Fun Tryz.prog 236 [vI f.number] [] (.v (vB z7)) []) ∧ ((!z7) = true → z5 = .v z1 ∧ z4 = []) ∧ ((!z7) = false → ((decide (f.number ≤ before)) = true → z5 = .v z1 ∧ z4 = []) ∧ ((decide (f.number ≤ before)) = false → (Fun Tryz.prog 237 [vI f.kind] [] (.v (vB z9)) []) ∧ ((!z9) = true → z5 = .v z1 ∧ z4 = []) ∧ ((!z9) = false → (f.packed = true → ((!f.rep) = true → z5 = .v z1 ∧ z4 = []) ∧ ((!f.rep) = false → (Fun Tryz.prog 234 [vI f.kind] [] (.v (vB z8)) []) ∧ ((!z8) = true → z5 = .v z1 ∧ z4 = []) ∧ ((!z8) = false → (z10 = true → z6 ∧ (Fun Tryz.prog 173 [vI f.msg, vI 0, vI (n - 1)] [] (.v z2) []) ∧ (.v z2 : S) = .v z1 ∧ z4 = []) ∧ z3))) ∧ (f.packed = false → (z10 = true → z6 ∧ (Fun Tryz.prog 173 [vI f.msg, vI 0, vI (n - 1)] [] (.v z2) []) ∧ (.v z2 : S) = .v z1 ∧ z4 = []) ∧ z3)))))) (by kernel_rfl) ?_
 refine ⟨(numberOk_i _), fun h1 => have q1 := bnot_t h1; ?_, fun h1 => have q1 := bnot_f h1; ?_⟩
 refine ⟨(sB ?_), rfl⟩
 rotate_left
 refine dsp (fun h2 p2 => ?_) fun h2 p2 => ?_
 refine ⟨(sB ?_), rfl⟩
 rotate_left
 refine ⟨(kindOk_i _), fun h3 => have q3 := bnot_t h3; have p3 := within_f q3; ?_, fun h3 => have q3 := bnot_f h3; have p3 := within_t q3; ?_⟩
 refine ⟨(sB ?_), rfl⟩
 rotate_left
 refine ⟨fun h4 => ?_, fun h4 => ?_⟩
 refine ⟨fun h5 => have q5 := bnot_t h5; ?_, fun h5 => have q5 := bnot_f h5; ?_⟩
 refine ⟨(sB ?_), rfl⟩
 rotate_left
 refine ⟨(numeric_i _), fun h6 => have q6 := bnot_t h6; have p6 := within_f q6; ?_, fun h6 => have q6 := bnot_f h6; have p6 := within_t q6; ?_⟩
 refine ⟨(sB ?_), rfl⟩
 rotate_left
 refine dsp (fun h7 p7 => ?_) fun h7 p7 => ?_
 refine ⟨(as_i64 (by omega) (by omega)), (within_i _ _ _), (sB ?_), rfl⟩
 rotate_left
 refine ⟨(sB ?_), rfl⟩
 rotate_left
 refine dsp (fun h5 p5 => ?_) fun h5 p5 => ?_
 refine ⟨(as_i64 (by omega) (by omega)), (within_i _ _ _), (sB ?_), rfl⟩
 rotate_left
 refine ⟨(sB ?_), rfl⟩
 rotate_left
 all_goals first | (simp [fldOk, *]; done) | (simp_all [fldOk]; done) | (simp_all [fldOk]; omega) | (rw [Bool.eq_iff_iff]; simp_all [fldOk]; omega)
theorem fldOk_s (s : List Shp) (f : Fld) (hp1 : s.length ≤ 1000) : Fun Tryz.prog 189 [.agg [.seq .shp s], .agg (cFld f)] [] (.v (vB (fldOk f (s.length : Int)))) [] := by
 have hN : bigN = 274877906944 := rfl
 refine fun_ofw Tryz.func189 (by kernel_rfl) (by kernel_rfl) (w := let z1 := (s.length : Int); let z2 := vB (within f.msg 0 (z1 - 1)); let z4 := vB (fldOk f z1); let z5 := ([] : List Blk); let z6 := (.v (vI (IntKind.i64.wrap (z1 - 1))) : S) = .v (vI (z1 - 1)); let z7 := numberOk f.number; let z8 := (.v (vB false) : S); let z9 := numeric f.kind; let z10 := kindOk f.kind; let z11 := decide (f.kind = 8); let z3 := z11 = false → (.v (vB (decide (f.msg = (-1)))) : S) = .v z4 ∧ z5 = []; (.seg [.call [] (.v (vB z7)) []] (.br (.leaf () []) (.seg [.call [] (.v (vB z10)) []] (.br (.leaf () []) (.br (.br (.leaf () []) (.seg [.call [] (.v (vB z9)) []] (.br (.leaf () []) (.br (.seg [.as 38 (.v (vI (z1 - 1))), .call [] (.v z2) []] (.leaf () [])) (.leaf () []))))) (.br (.seg [.as 38 (.v (vI (z1 - 1))), .call [] (.v z2) []] (.leaf () [])) (.leaf () [])))))), (Fun Tryz.prog 221 [vI f.number] [] (.v (vB z7)) []) ∧ ((!z7) = true → z8 = .v z4 ∧ z5 = []) ∧ ((!z7) = false → (Fun Tryz.prog 191 [vI f.kind] [] (.v (vB z10)) []) ∧ ((!z10) = true → z8 = .v z4 ∧ z5 = []) ∧ ((!z10) = false → (f.packed = true → ((!f.rep) = true → z8 = .v z4 ∧ z5 = []) ∧ ((!f.rep) = false → (Fun Tryz.prog 192 [vI f.kind] [] (.v (vB z9)) []) ∧ ((!z9) = true → z8 = .v z4 ∧ z5 = []) ∧ ((!z9) = false → (z11 = true → z6 ∧ (Fun Tryz.prog 105 [vI f.msg, vI 0, vI (z1 - 1)] [] (.v z2) []) ∧ (.v z2 : S) = .v z4 ∧ z5 = []) ∧ z3))) ∧ (f.packed = false → (z11 = true → z6 ∧ (Fun Tryz.prog 105 [vI f.msg, vI 0, vI (z1 - 1)] [] (.v z2) []) ∧ (.v z2 : S) = .v z4 ∧ z5 = []) ∧ z3))))) (by kernel_rfl) ?_
 refine ⟨(numberOk_s _), fun h1 => have q1 := bnot_t h1; ?_, fun h1 => have q1 := bnot_f h1; ?_⟩
 refine ⟨(sB ?_), rfl⟩
 rotate_left
 refine ⟨(kindOk_s _), fun h2 => have q2 := bnot_t h2; have p2 := within_f q2; ?_, fun h2 => have q2 := bnot_f h2; have p2 := within_t q2; ?_⟩
 refine ⟨(sB ?_), rfl⟩
 rotate_left
 refine ⟨fun h3 => ?_, fun h3 => ?_⟩
 refine ⟨fun h4 => have q4 := bnot_t h4; ?_, fun h4 => have q4 := bnot_f h4; ?_⟩
 refine ⟨(sB ?_), rfl⟩
 rotate_left
 refine ⟨(numeric_s _), fun h5 => have q5 := bnot_t h5; have p5 := within_f q5; ?_, fun h5 => have q5 := bnot_f h5; have p5 := within_t q5; ?_⟩
 refine ⟨(sB ?_), rfl⟩
 rotate_left
 refine dsp (fun h6 p6 => ?_) fun h6 p6 => ?_
 refine ⟨(as_i64 (by omega) (by omega)), (within_s _ _ _), (sB ?_), rfl⟩
 rotate_left
 refine ⟨(sB ?_), rfl⟩
 rotate_left
 refine dsp (fun h4 p4 => ?_) fun h4 p4 => ?_
 refine ⟨(as_i64 (by omega) (by omega)), (within_s _ _ _), (sB ?_), rfl⟩
 rotate_left
 refine ⟨(sB ?_), rfl⟩
 rotate_left
 all_goals first | (simp [fldOk, *]; done) | (simp_all [fldOk]; done) | (simp_all [fldOk]; omega) | (rw [Bool.eq_iff_iff]; simp_all [fldOk]; omega)
structure schemaOk_i_V0 where
 id : Int
 v : Nat
def schemaOk_i_F0 (s : List Shp) : Fam := ⟨schemaOk_i_V0, fun q1 => [(1, .v (vP 0)), (3, .v (vI q1.id)), (14, .v (.c (.seq .shp s))), (15, .v (vI (s.length : Int))), (16, .v (vI (q1.v : Int)))], fun _ => [.cells [.seq .shp s]], fun q1 => q1.v ≤ s.length ∧ shapesOk (s.length : Int) q1.id (List.drop q1.v s) = shapesOk (s.length : Int) 0 s, fun q1 => s.length - q1.v⟩
structure schemaOk_i_V1 where
 number : Int
 v : Nat
def schemaOk_i_F1 (s : List Shp) (q1 : schemaOk_i_V0) (x1 : Shp) : Fam := ⟨schemaOk_i_V1, fun q2 => [(1, .v (vP 0)), (5, .v (vP 1)), (6, .v (vI q2.number)), (14, .v (.c (.seq .shp s))), (15, .v (vI (s.length : Int))), (16, .v (vI (q1.v : Int))), (36, .v (.c (.seq .fld x1.fields))), (37, .v (vI (x1.fields.length : Int))), (38, .v (vI (q2.v : Int)))], fun _ => [.cells [.seq .shp s], .cells (cShp x1)], fun q2 => q2.v ≤ x1.fields.length ∧ fieldsOk (s.length : Int) q2.number (List.drop q2.v x1.fields) = fieldsOk (s.length : Int) 0 x1.fields, fun q2 => x1.fields.length - q2.v⟩
theorem schemaOk_i (s : List Shp) : Fun Tryz.prog 197 [.agg [.seq .shp s]] [] (.v (vB (schemaOk s))) [] := by
 have hN : bigN = 274877906944 := rfl
 refine fun_ofw Tryz.func197 (by kernel_rfl) (by kernel_rfl) (w := let z7 := (s.length : Int); let z8 := vB (schemaOk s); let z9 := (.v (vB false) : S); let z10 := ([] : List Blk); let z11 := schemaOk_i_F0 s; (.br (.leaf () []) (.seg [.at 0, .keep [1, 3, 14, 15, 16], .sel [0]] (.loop z11 fun q1 => .br (.intro (fun (x1 : Shp) => s[q1.v]? = some x1) fun x1 => .seg [.el .shp x1] (.br (.leaf () []) (.br (.leaf () []) (.br (.leaf () []) (.seg [.at 0, .keep [1, 5, 6, 14, 15, 16, 36, 37, 38], .sel [0, 1]] (.loop (schemaOk_i_F1 s q1 x1) fun q2 => .br (.intro (fun (x2 : Fld) => x1.fields[q2.v]? = some x2) fun x2 => .seg [.el .fld x2, .call [] (.v (vB (decide (q2.number < (x2).number) && fldOk x2 z7))) []] (.br (.leaf () []) (.seg [.as 51 (.v (vI ((q2.v : Int) + 1))), .at 0, .keep [1, 5, 6, 14, 15, 16, 36, 37, 38], .sel [0, 1]] (.next)))) (.seg [.as 54 (.v (vI ((q1.v : Int) + 1))), .at 0, .keep [1, 3, 14, 15, 16], .sel [0]] (.next)))))))) (.leaf () []))), ((decide (6 < z7)) = true → z9 = .v z8 ∧ z10 = []) ∧ ((decide (6 < z7)) = false → z11.Has [(1, .v (vP 0)), (3, .v (vI 0)), (14, .v (.c (.seq .shp s))), (15, .v (vI z7)), (16, .v (vI 0))] [.cells [.seq .shp s]] ∧ ∀ q1, z11.inv q1 → (let z6 := (q1.v : Int); ((decide (z6 < z7)) = true → (∃ (x1 : Shp), s[q1.v]? = some x1) ∧ ∀ (x1 : Shp), (s[q1.v]? = some x1) → (let z3 := (x1.fields.length : Int); let z4 := schemaOk_i_F1 s q1 x1; let z5 : List Blk := [.cells [.seq .shp s], .cells (cShp x1)]; (s[q1.v]? = some x1) ∧ ((0 : Int) ≤ z6) ∧ ((decide (x1.id ≤ q1.id)) = true → z9 = .v z8 ∧ z10 = []) ∧ ((decide (x1.id ≤ q1.id)) = false → ((decide (99 < x1.id)) = true → z9 = .v z8 ∧ z10 = []) ∧ ((decide (99 < x1.id)) = false → ((decide (8 < z3)) = true → z9 = .v z8 ∧ z10 = []) ∧ ((decide (8 < z3)) = false → z4.Has [(1, .v (vP 0)), (5, .v (vP 1)), (6, .v (vI 0)), (14, .v (.c (.seq .shp s))), (15, .v (vI z7)), (16, .v (vI z6)), (36, .v (.c (.seq .fld x1.fields))), (37, .v (vI z3)), (38, .v (vI 0))] z5 ∧ ∀ q2, z4.inv q2 → (let z2 := (q2.v : Int); ((decide (z2 < z3)) = true → (∃ (x2 : Fld), x1.fields[q2.v]? = some x2) ∧ ∀ (x2 : Fld), (x1.fields[q2.v]? = some x2) → (let z1 := decide (q2.number < (x2).number) && fldOk x2 z7; (x1.fields[q2.v]? = some x2) ∧ ((0 : Int) ≤ z2) ∧ (Fun Tryz.prog 222 [.agg (cFld x2), vI q2.number, vI z7] [] (.v (vB z1)) []) ∧ ((!z1) = true → z9 = .v z8 ∧ z10 = []) ∧ ((!z1) = false → ((.v (vI (IntKind.i64.wrap (z2 + 1))) : S) = .v (vI (z2 + 1))) ∧ z4.Nxt q2 [(1, .v (vP 0)), (5, .v (vP 1)), (6, .v (vI x2.number)), (14, .v (.c (.seq .shp s))), (15, .v (vI z7)), (16, .v (vI z6)), (36, .v (.c (.seq .fld x1.fields))), (37, .v (vI z3)), (38, .v (vI (z2 + 1)))] z5))) ∧ ((decide (z2 < z3)) = false → ((.v (vI (IntKind.i64.wrap (z6 + 1))) : S) = .v (vI (z6 + 1))) ∧ z11.Nxt q1 [(1, .v (vP 0)), (3, .v (vI x1.id)), (14, .v (.c (.seq .shp s))), (15, .v (vI z7)), (16, .v (vI (z6 + 1)))] [.cells [.seq .shp s]]))))))) ∧ ((decide (z6 < z7)) = false → (.v (vB true) : S) = .v z8 ∧ z10 = []))))) (by kernel_rfl) ?_
 refine dsp (fun h1 p1 => ?_) fun h1 p1 => ?_
 refine ⟨(sB ?_), rfl⟩
 rotate_left
 refine ⟨has_of (j := (⟨0, 0⟩ : schemaOk_i_V0)) (by first | rfl | simp) rfl (by dsimp only [schemaOk_i_F0]; exact ⟨by omega, rfl⟩), fun (q1 : schemaOk_i_V0) hq_q1 => ?_⟩
 have hi_q1 : q1.v ≤ s.length ∧ shapesOk (s.length : Int) q1.id (List.drop q1.v s) = shapesOk (s.length : Int) 0 s := hq_q1
 obtain ⟨v1, v2⟩ := hi_q1
 refine dsp (fun h2 p2 => ?_) fun h2 p2 => ?_
 refine ⟨(ax_get (l := s) (i := q1.v) (by omega)), fun x1 hx1 => ?_⟩
 rw [drop_el hx1, shapesOk] at v2
 refine ⟨hx1, (by omega), dsp (fun h3 p3 => ?_) fun h3 p3 => ?_⟩
 refine ⟨(sB ?_), rfl⟩
 rotate_left
 refine dsp (fun h4 p4 => ?_) fun h4 p4 => ?_
 refine ⟨(sB ?_), rfl⟩
 rotate_left
 refine dsp (fun h5 p5 => ?_) fun h5 p5 => ?_
 refine ⟨(sB ?_), rfl⟩
 rotate_left
 refine ⟨has_of (j := (⟨0, 0⟩ : schemaOk_i_V1)) (by first | rfl | simp) rfl (by dsimp only [schemaOk_i_F1]; exact ⟨by omega, rfl⟩), fun (q2 : schemaOk_i_V1) hq_q2 => ?_⟩
 have hi_q2 : q2.v ≤ x1.fields.length ∧ fieldsOk (s.length : Int) q2.number (List.drop q2.v x1.fields) = fieldsOk (s.length : Int) 0 x1.fields := hq_q2
 obtain ⟨w1, w2⟩ := hi_q2
 refine dsp (fun h6 p6 => ?_) fun h6 p6 => ?_
 refine ⟨(ax_get (l := x1.fields) (i := q2.v) (by omega)), fun x2 hx2 => ?_⟩
 rw [drop_el hx2, fieldsOk] at w2
 refine ⟨hx2, (by omega), (fldOk_i x2 _ _ (by omega)), fun h7 => have q7 := bnot_t h7; have p7 := (andF dT Iff.rfl).1 q7; ?_, fun h7 => have q7 := bnot_f h7; have p7 := (andT dT Iff.rfl).1 q7; ?_⟩
 refine ⟨(sB ?_), rfl⟩
 rotate_left
 exact ⟨(as_i64 (by omega) (by omega)), nxt_of (j := (⟨x2.number, q2.v + 1⟩ : schemaOk_i_V1)) (by first | rfl | simp) rfl (by dsimp only [schemaOk_i_F1]; exact ⟨by omega, by grind [fieldsOk]⟩) (by dsimp only [schemaOk_i_F1]; omega)⟩
 rw [drop_end p6] at w2
 exact ⟨(as_i64 (by omega) (by omega)), nxt_of (j := (⟨x1.id, q1.v + 1⟩ : schemaOk_i_V0)) (by first | rfl | simp) rfl (by dsimp only [schemaOk_i_F0]; exact ⟨by omega, by grind [shapesOk, fieldsOk]⟩) (by dsimp only [schemaOk_i_F0]; omega)⟩
 rw [drop_end p2] at v2
 refine ⟨(sB ?_), rfl⟩
 rotate_left
 all_goals grind [schemaOk, shapesOk, fieldsOk]
structure schemaOk_s_V0 where
 i : Nat
 pv : Int
def schemaOk_s_F0 (s : List Shp) : Fam := ⟨schemaOk_s_V0, fun q1 => [(1, .v (vP 0)), (3, .v (vI (q1.i : Int)))], fun _ => [.cells [.seq .shp s]], fun q1 => q1.i ≤ s.length ∧ (0 : Int) ≤ q1.pv ∧ (q1.i = 0 → q1.pv = 0) ∧ (∀ y, 0 < q1.i → s[Int.toNat ((q1.i : Int) - 1)]? = some y → q1.pv = y.id) ∧ shapesOk (s.length : Int) q1.pv (List.drop q1.i s) = shapesOk (s.length : Int) 0 s, fun q1 => s.length - q1.i⟩
structure schemaOk_s_V1 where
 k : Nat
 pv : Int
def schemaOk_s_F1 (s : List Shp) (q1 : schemaOk_s_V0) (x1 : Shp) : Fam := ⟨schemaOk_s_V1, fun q2 => [(1, .v (vP 0)), (3, .v (vI (q1.i : Int))), (4, .v (vP 1)), (5, .v (vI (q2.k : Int)))], fun _ => [.cells [.seq .shp s], .cells (cShp x1)], fun q2 => q2.k ≤ x1.fields.length ∧ (0 : Int) ≤ q2.pv ∧ (q2.k = 0 → q2.pv = 0) ∧ (∀ y, 0 < q2.k → x1.fields[Int.toNat ((q2.k : Int) - 1)]? = some y → q2.pv = y.number) ∧ fieldsOk (s.length : Int) q2.pv (List.drop q2.k x1.fields) = fieldsOk (s.length : Int) 0 x1.fields, fun q2 => x1.fields.length - q2.k⟩
theorem schemaOk_s (s : List Shp) : Fun Tryz.prog 143 [.agg [.seq .shp s]] [] (.v (vB (schemaOk s))) [] := by
 have hN : bigN = 274877906944 := rfl
 refine fun_ofw Tryz.func143 (by kernel_rfl) (by kernel_rfl) (w := let z25 := (s.length : Int); let z26 := (.v (vB false) : S); let z27 := vB (schemaOk s); let z28 := ([] : List Blk); let z29 := schemaOk_s_F0 s; let z30 := os 28 [6]; let z31 : List Blk := [.cells [.seq .shp s]]; (.br (.leaf () []) (.seg [.at 0, .keep [1, 3], .sel [0]] (.loop z29 fun q1 => let z23 := (q1.i : Int); .br (.intro (fun (x1 : Shp) => s[q1.i]? = some x1) fun x1 => let z17 := within x1.id 1 99; .seg [.el .shp x1] (.case (!z17) (.seg [.ord (os 26 [2]) [], .call [] (.v (vB z17)) [], .br true] (.leaf () [])) (.case (decide (0 < z23)) (.intro (fun (x2 : Shp) => s[Int.toNat (z23 - 1)]? = some x2) fun x2 => .case (decide (x1.id ≤ x2.id)) (.seg [.ord (os 26 [2]) [], .call [] (.v (vB z17)) [], .br false, .br true, .as 33 (.v (vI (z23 - 1))), .el .shp x2, .br true] (.leaf () [])) (.seg [.ord (os 26 [2]) [], .call [] (.v (vB z17)) [], .br false, .br true, .as 33 (.v (vI (z23 - 1))), .el .shp x2, .br false] (.br (.leaf () []) (.seg [.at 0, .keep [1, 3, 4, 5], .sel [0, 1]] (.loop (schemaOk_s_F1 s q1 x1) fun q2 => let z6 := (q2.k : Int); .br (.intro (fun (x3 : Fld) => x1.fields[q2.k]? = some x3) fun x3 => let z3 := fldOk x3 z25; .case (!z3) (.seg [.ord z30 [], .el .fld x3, .call [] (.v (vB z3)) [], .br true] (.leaf () [])) (.case (decide (0 < z6)) (.intro (fun (x4 : Fld) => x1.fields[Int.toNat (z6 - 1)]? = some x4) fun x4 => .seg [.ord z30 [], .el .fld x3, .call [] (.v (vB z3)) [], .br false, .br true, .as 70 (.v (vI (z6 - 1))), .el .fld x4, .el .fld x3] (.br (.leaf () []) (.seg [.as 54 (.v (vI (z6 + 1))), .at 0, .keep [1, 3, 4, 5], .sel [0, 1]] (.next)))) (.seg [.ord z30 [], .el .fld x3, .call [] (.v (vB z3)) [], .br false, .br false, .as 54 (.v (vI (z6 + 1))), .at 0, .keep [1, 3, 4, 5], .sel [0, 1]] (.next)))) (.seg [.as 16 (.v (vI (z23 + 1))), .at 0, .keep [1, 3], .sel [0]] (.next))))))) (.seg [.ord (os 26 [2]) [], .call [] (.v (vB z17)) [], .br false, .br false] (.br (.leaf () []) (.seg [.at 0, .keep [1, 3, 4, 5], .sel [0, 1]] (.loop (schemaOk_s_F1 s q1 x1) fun q2 => let z15 := (q2.k : Int); .br (.intro (fun (x2 : Fld) => x1.fields[q2.k]? = some x2) fun x2 => let z12 := fldOk x2 z25; .case (!z12) (.seg [.ord z30 [], .el .fld x2, .call [] (.v (vB z12)) [], .br true] (.leaf () [])) (.case (decide (0 < z15)) (.intro (fun (x3 : Fld) => x1.fields[Int.toNat (z15 - 1)]? = some x3) fun x3 => .seg [.ord z30 [], .el .fld x2, .call [] (.v (vB z12)) [], .br false, .br true, .as 70 (.v (vI (z15 - 1))), .el .fld x3, .el .fld x2] (.br (.leaf () []) (.seg [.as 54 (.v (vI (z15 + 1))), .at 0, .keep [1, 3, 4, 5], .sel [0, 1]] (.next)))) (.seg [.ord z30 [], .el .fld x2, .call [] (.v (vB z12)) [], .br false, .br false, .as 54 (.v (vI (z15 + 1))), .at 0, .keep [1, 3, 4, 5], .sel [0, 1]] (.next)))) (.seg [.as 16 (.v (vI (z23 + 1))), .at 0, .keep [1, 3], .sel [0]] (.next))))))))) (.leaf () []))), ((decide (6 < z25)) = true → z26 = .v z27 ∧ z28 = []) ∧ ((decide (6 < z25)) = false → z29.Has [(1, .v (vP 0)), (3, .v (vI 0))] z31 ∧ ∀ q1, z29.inv q1 → (let z24 := (q1.i : Int); ((decide (z24 < z25)) = true → (∃ (x1 : Shp), s[q1.i]? = some x1) ∧ ∀ (x1 : Shp), (s[q1.i]? = some x1) → (let z18 := (x1.fields.length : Int); let z19 : List Blk := [.cells [.seq .shp s], .cells (cShp x1)]; let z20 := within x1.id 1 99; let z21 := schemaOk_s_F1 s q1 x1; let z22 : List V := [vI x1.id, vI 1, vI 99]; (s[q1.i]? = some x1) ∧ ((0 : Int) ≤ z24) ∧ ((!z20) = true → (Fun Tryz.prog 105 z22 [] (.v (vB z20)) []) ∧ ((!z20) = true) ∧ z26 = .v z27 ∧ z28 = []) ∧ ((!z20) = false → ((decide (0 < z24)) = true → (∃ (x2 : Shp), s[Int.toNat (z24 - 1)]? = some x2) ∧ ∀ (x2 : Shp), (s[Int.toNat (z24 - 1)]? = some x2) → (let z8 := s[Int.toNat (z24 - 1)]? = some x2; let z9 := decide (x1.id ≤ x2.id); (z9 = true → (Fun Tryz.prog 105 z22 [] (.v (vB z20)) []) ∧ ((!z20) = false) ∧ ((decide (0 < z24)) = true) ∧ ((.v (vI (IntKind.i64.wrap (z24 - 1))) : S) = .v (vI (z24 - 1))) ∧ ((.v (vI (IntKind.i64.wrap (z24 - 1))) : S) = .v (vI (z24 - 1))) ∧ z8 ∧ ((0 : Int) ≤ z24 - 1) ∧ z8 ∧ ((0 : Int) ≤ z24 - 1) ∧ (z9 = true) ∧ z26 = .v z27 ∧ z28 = []) ∧ (z9 = false → (Fun Tryz.prog 105 z22 [] (.v (vB z20)) []) ∧ ((!z20) = false) ∧ ((decide (0 < z24)) = true) ∧ ((.v (vI (IntKind.i64.wrap (z24 - 1))) : S) = .v (vI (z24 - 1))) ∧ ((.v (vI (IntKind.i64.wrap (z24 - 1))) : S) = .v (vI (z24 - 1))) ∧ z8 ∧ ((0 : Int) ≤ z24 - 1) ∧ z8 ∧ ((0 : Int) ≤ z24 - 1) ∧ (z9 = false) ∧ ((decide (8 < z18)) = true → z26 = .v z27 ∧ z28 = []) ∧ ((decide (8 < z18)) = false → z21.Has [(1, .v (vP 0)), (3, .v (vI z24)), (4, .v (vP 1)), (5, .v (vI 0))] z19 ∧ ∀ q2, z21.inv q2 → (let z7 := (q2.k : Int); ((decide (z7 < z18)) = true → (∃ (x3 : Fld), x1.fields[q2.k]? = some x3) ∧ ∀ (x3 : Fld), (x1.fields[q2.k]? = some x3) → (let z4 := fldOk x3 z25; let z5 := x1.fields[q2.k]? = some x3; ((!z4) = true → z5 ∧ ((0 : Int) ≤ z7) ∧ z5 ∧ ((0 : Int) ≤ z7) ∧ (Fun Tryz.prog 189 [.agg [.seq .shp s], .agg (cFld x3)] [] (.v (vB z4)) []) ∧ ((!z4) = true) ∧ z26 = .v z27 ∧ z28 = []) ∧ ((!z4) = false → ((decide (0 < z7)) = true → (∃ (x4 : Fld), x1.fields[Int.toNat (z7 - 1)]? = some x4) ∧ ∀ (x4 : Fld), (x1.fields[Int.toNat (z7 - 1)]? = some x4) → (let z1 := x1.fields[Int.toNat (z7 - 1)]? = some x4; let z2 := decide (x3.number ≤ x4.number); z5 ∧ ((0 : Int) ≤ z7) ∧ z5 ∧ ((0 : Int) ≤ z7) ∧ (Fun Tryz.prog 189 [.agg [.seq .shp s], .agg (cFld x3)] [] (.v (vB z4)) []) ∧ ((!z4) = false) ∧ ((decide (0 < z7)) = true) ∧ ((.v (vI (IntKind.i64.wrap (z7 - 1))) : S) = .v (vI (z7 - 1))) ∧ ((.v (vI (IntKind.i64.wrap (z7 - 1))) : S) = .v (vI (z7 - 1))) ∧ z1 ∧ ((0 : Int) ≤ z7 - 1) ∧ z1 ∧ ((0 : Int) ≤ z7 - 1) ∧ z5 ∧ ((0 : Int) ≤ z7) ∧ z5 ∧ ((0 : Int) ≤ z7) ∧ (z2 = true → z26 = .v z27 ∧ z28 = []) ∧ (z2 = false → ((.v (vI (IntKind.i64.wrap (z7 + 1))) : S) = .v (vI (z7 + 1))) ∧ z21.Nxt q2 [(1, .v (vP 0)), (3, .v (vI z24)), (4, .v (vP 1)), (5, .v (vI (z7 + 1)))] z19))) ∧ ((decide (0 < z7)) = false → z5 ∧ ((0 : Int) ≤ z7) ∧ z5 ∧ ((0 : Int) ≤ z7) ∧ (Fun Tryz.prog 189 [.agg [.seq .shp s], .agg (cFld x3)] [] (.v (vB z4)) []) ∧ ((!z4) = false) ∧ ((decide (0 < z7)) = false) ∧ ((.v (vI (IntKind.i64.wrap (z7 + 1))) : S) = .v (vI (z7 + 1))) ∧ z21.Nxt q2 [(1, .v (vP 0)), (3, .v (vI z24)), (4, .v (vP 1)), (5, .v (vI (z7 + 1)))] z19)))) ∧ ((decide (z7 < z18)) = false → ((.v (vI (IntKind.i64.wrap (z24 + 1))) : S) = .v (vI (z24 + 1))) ∧ z29.Nxt q1 [(1, .v (vP 0)), (3, .v (vI (z24 + 1)))] z31)))))) ∧ ((decide (0 < z24)) = false → (Fun Tryz.prog 105 z22 [] (.v (vB z20)) []) ∧ ((!z20) = false) ∧ ((decide (0 < z24)) = false) ∧ ((decide (8 < z18)) = true → z26 = .v z27 ∧ z28 = []) ∧ ((decide (8 < z18)) = false → z21.Has [(1, .v (vP 0)), (3, .v (vI z24)), (4, .v (vP 1)), (5, .v (vI 0))] z19 ∧ ∀ q2, z21.inv q2 → (let z16 := (q2.k : Int); ((decide (z16 < z18)) = true → (∃ (x2 : Fld), x1.fields[q2.k]? = some x2) ∧ ∀ (x2 : Fld), (x1.fields[q2.k]? = some x2) → (let z13 := fldOk x2 z25; let z14 := x1.fields[q2.k]? = some x2; ((!z13) = true → z14 ∧ ((0 : Int) ≤ z16) ∧ z14 ∧ ((0 : Int) ≤ z16) ∧ (Fun Tryz.prog 189 [.agg [.seq .shp s], .agg (cFld x2)] [] (.v (vB z13)) []) ∧ ((!z13) = true) ∧ z26 = .v z27 ∧ z28 = []) ∧ ((!z13) = false → ((decide (0 < z16)) = true → (∃ (x3 : Fld), x1.fields[Int.toNat (z16 - 1)]? = some x3) ∧ ∀ (x3 : Fld), (x1.fields[Int.toNat (z16 - 1)]? = some x3) → (let z10 := x1.fields[Int.toNat (z16 - 1)]? = some x3; let z11 := decide (x2.number ≤ x3.number); z14 ∧ ((0 : Int) ≤ z16) ∧ z14 ∧ ((0 : Int) ≤ z16) ∧ (Fun Tryz.prog 189 [.agg [.seq .shp s], .agg (cFld x2)] [] (.v (vB z13)) []) ∧ ((!z13) = false) ∧ ((decide (0 < z16)) = true) ∧ ((.v (vI (IntKind.i64.wrap (z16 - 1))) : S) = .v (vI (z16 - 1))) ∧ ((.v (vI (IntKind.i64.wrap (z16 - 1))) : S) = .v (vI (z16 - 1))) ∧ z10 ∧ ((0 : Int) ≤ z16 - 1) ∧ z10 ∧ ((0 : Int) ≤ z16 - 1) ∧ z14 ∧ ((0 : Int) ≤ z16) ∧ z14 ∧ ((0 : Int) ≤ z16) ∧ (z11 = true → z26 = .v z27 ∧ z28 = []) ∧ (z11 = false → ((.v (vI (IntKind.i64.wrap (z16 + 1))) : S) = .v (vI (z16 + 1))) ∧ z21.Nxt q2 [(1, .v (vP 0)), (3, .v (vI z24)), (4, .v (vP 1)), (5, .v (vI (z16 + 1)))] z19))) ∧ ((decide (0 < z16)) = false → z14 ∧ ((0 : Int) ≤ z16) ∧ z14 ∧ ((0 : Int) ≤ z16) ∧ (Fun Tryz.prog 189 [.agg [.seq .shp s], .agg (cFld x2)] [] (.v (vB z13)) []) ∧ ((!z13) = false) ∧ ((decide (0 < z16)) = false) ∧ ((.v (vI (IntKind.i64.wrap (z16 + 1))) : S) = .v (vI (z16 + 1))) ∧ z21.Nxt q2 [(1, .v (vP 0)), (3, .v (vI z24)), (4, .v (vP 1)), (5, .v (vI (z16 + 1)))] z19)))) ∧ ((decide (z16 < z18)) = false → ((.v (vI (IntKind.i64.wrap (z24 + 1))) : S) = .v (vI (z24 + 1))) ∧ z29.Nxt q1 [(1, .v (vP 0)), (3, .v (vI (z24 + 1)))] z31))))))) ∧ ((decide (z24 < z25)) = false → (.v (vB true) : S) = .v z27 ∧ z28 = []))))) (by kernel_rfl) ?_
 refine dsp (fun h1 p1 => ?_) fun h1 p1 => ?_
 exact ⟨(congrArg S.v (congrArg V.c (congrArg C.bool (by unfold schemaOk; grind)))), rfl⟩
 refine ⟨has_of (j := (⟨0, 0⟩ : schemaOk_s_V0)) (by first | rfl | simp) rfl (by dsimp only [schemaOk_s_F0]; exact ⟨by omega, by omega, by omega, by omega, rfl⟩), fun (q1 : schemaOk_s_V0) hq_q1 => ?_⟩
 have hi_q1 : q1.i ≤ s.length ∧ (0 : Int) ≤ q1.pv ∧ (q1.i = 0 → q1.pv = 0) ∧ (∀ y, 0 < q1.i → s[Int.toNat ((q1.i : Int) - 1)]? = some y → q1.pv = y.id) ∧ shapesOk (s.length : Int) q1.pv (List.drop q1.i s) = shapesOk (s.length : Int) 0 s := hq_q1
 obtain ⟨v1, v2, v3, v4, v5⟩ := hi_q1
 refine dsp (fun h2 p2 => ?_) fun h2 p2 => ?_
 refine ⟨(ax_get (l := s) (i := q1.i) (by omega)), fun x1 hx1 => ?_⟩
 rw [drop_el hx1, shapesOk] at v5
 refine ⟨hx1, (by omega), fun h3 => have q3 := bnot_t h3; have p3 := within_f q3; ?_, fun h3 => have q3 := bnot_f h3; have p3 := within_t q3; ?_⟩
 exact ⟨(within_s _ _ _), h3, (congrArg S.v (congrArg V.c (congrArg C.bool (by unfold schemaOk; grind)))), rfl⟩
 refine dsp (fun h4 p4 => ?_) fun h4 p4 => ?_
 refine ⟨(ax_get (l := s) (i := Int.toNat ((q1.i : Int) - 1)) (by omega)), fun x2 hx2 => ?_⟩
 have hy := v4 _ (by omega) hx2
 refine dsp (fun h5 p5 => ?_) fun h5 p5 => ?_
 exact ⟨(within_s _ _ _), h3, h4, (as_i64 (by omega) (by omega)), (as_i64 (by omega) (by omega)), hx2, (by omega), hx2, (by omega), h5, (congrArg S.v (congrArg V.c (congrArg C.bool (by unfold schemaOk; grind)))), rfl⟩
 refine ⟨(within_s _ _ _), h3, h4, (as_i64 (by omega) (by omega)), (as_i64 (by omega) (by omega)), hx2, (by omega), hx2, (by omega), h5, dsp (fun h6 p6 => ?_) fun h6 p6 => ?_⟩
 exact ⟨(congrArg S.v (congrArg V.c (congrArg C.bool (by unfold schemaOk; grind)))), rfl⟩
 refine ⟨has_of (j := (⟨0, 0⟩ : schemaOk_s_V1)) (by first | rfl | simp) rfl (by dsimp only [schemaOk_s_F1]; exact ⟨by omega, by omega, by omega, by omega, rfl⟩), fun (q2 : schemaOk_s_V1) hq_q2 => ?_⟩
 have hi_q2 : q2.k ≤ x1.fields.length ∧ (0 : Int) ≤ q2.pv ∧ (q2.k = 0 → q2.pv = 0) ∧ (∀ y, 0 < q2.k → x1.fields[Int.toNat ((q2.k : Int) - 1)]? = some y → q2.pv = y.number) ∧ fieldsOk (s.length : Int) q2.pv (List.drop q2.k x1.fields) = fieldsOk (s.length : Int) 0 x1.fields := hq_q2
 obtain ⟨w1, w2, w3, w4, w5⟩ := hi_q2
 refine dsp (fun h7 p7 => ?_) fun h7 p7 => ?_
 refine ⟨(ax_get (l := x1.fields) (i := q2.k) (by omega)), fun x3 hx3 => ?_⟩
 rw [drop_el hx3, fieldsOk] at w5
 refine ⟨fun h8 => have q8 := bnot_t h8; ?_, fun h8 => have q8 := bnot_f h8; have p8 := fldOk_t q8; ?_⟩
 exact ⟨hx3, (by omega), hx3, (by omega), (fldOk_s s x3 (by omega)), h8, (congrArg S.v (congrArg V.c (congrArg C.bool (by unfold schemaOk; grind)))), rfl⟩
 refine dsp (fun h9 p9 => ?_) fun h9 p9 => ?_
 refine ⟨(ax_get (l := x1.fields) (i := Int.toNat ((q2.k : Int) - 1)) (by omega)), fun x4 hx4 => ?_⟩
 have hz := w4 _ (by omega) hx4
 refine ⟨hx3, (by omega), hx3, (by omega), (fldOk_s s x3 (by omega)), h8, h9, (as_i64 (by omega) (by omega)), (as_i64 (by omega) (by omega)), hx4, (by omega), hx4, (by omega), hx3, (by omega), hx3, (by omega), dsp (fun h10 p10 => ?_) fun h10 p10 => ?_⟩
 exact ⟨(congrArg S.v (congrArg V.c (congrArg C.bool (by unfold schemaOk; grind)))), rfl⟩
 exact ⟨(as_i64 (by omega) (by omega)), nxt_of (j := (⟨q2.k + 1, x3.number⟩ : schemaOk_s_V1)) (by first | rfl | simp) rfl (by dsimp only [schemaOk_s_F1]; exact ⟨by omega, by grind, by omega, by intro y h1 h2; rw [show Int.toNat ((((q2.k + 1) : Nat) : Int) - 1) = q2.k by omega] at h2; grind, by rw [← w5, decide_eq_true (show q2.pv < x3.number by omega), bnot_f (by assumption : (!fldOk x3 _) = false)]; simp⟩) (by dsimp only [schemaOk_s_F1]; omega)⟩
 exact ⟨hx3, (by omega), hx3, (by omega), (fldOk_s s x3 (by omega)), h8, h9, (as_i64 (by omega) (by omega)), nxt_of (j := (⟨q2.k + 1, x3.number⟩ : schemaOk_s_V1)) (by first | rfl | simp) rfl (by dsimp only [schemaOk_s_F1]; exact ⟨by omega, by grind, by omega, by intro y h1 h2; rw [show Int.toNat ((((q2.k + 1) : Nat) : Int) - 1) = q2.k by omega] at h2; grind, by rw [← w5, decide_eq_true (show q2.pv < x3.number by omega), bnot_f (by assumption : (!fldOk x3 _) = false)]; simp⟩) (by dsimp only [schemaOk_s_F1]; omega)⟩
 rw [drop_end p7, fieldsOk] at w5
 exact ⟨(as_i64 (by omega) (by omega)), nxt_of (j := (⟨q1.i + 1, x1.id⟩ : schemaOk_s_V0)) (by first | rfl | simp) rfl (by dsimp only [schemaOk_s_F0]; exact ⟨by omega, by grind, by omega, by intro y h1 h2; rw [show Int.toNat ((((q1.i + 1) : Nat) : Int) - 1) = q1.i by omega] at h2; grind, by rw [← v5, decide_eq_true (show q1.pv < x1.id by omega), decide_eq_true (show x1.id ≤ 99 by omega), decide_eq_true (show (x1.fields.length : Int) ≤ 8 by omega), ← w5]; simp⟩) (by dsimp only [schemaOk_s_F0]; omega)⟩
 refine ⟨(within_s _ _ _), h3, h4, dsp (fun h5 p5 => ?_) fun h5 p5 => ?_⟩
 exact ⟨(congrArg S.v (congrArg V.c (congrArg C.bool (by unfold schemaOk; grind)))), rfl⟩
 refine ⟨has_of (j := (⟨0, 0⟩ : schemaOk_s_V1)) (by first | rfl | simp) rfl (by dsimp only [schemaOk_s_F1]; exact ⟨by omega, by omega, by omega, by omega, rfl⟩), fun (q2 : schemaOk_s_V1) hq_q2 => ?_⟩
 have hi_q2 : q2.k ≤ x1.fields.length ∧ (0 : Int) ≤ q2.pv ∧ (q2.k = 0 → q2.pv = 0) ∧ (∀ y, 0 < q2.k → x1.fields[Int.toNat ((q2.k : Int) - 1)]? = some y → q2.pv = y.number) ∧ fieldsOk (s.length : Int) q2.pv (List.drop q2.k x1.fields) = fieldsOk (s.length : Int) 0 x1.fields := hq_q2
 obtain ⟨w1, w2, w3, w4, w5⟩ := hi_q2
 refine dsp (fun h6 p6 => ?_) fun h6 p6 => ?_
 refine ⟨(ax_get (l := x1.fields) (i := q2.k) (by omega)), fun x2 hx2 => ?_⟩
 rw [drop_el hx2, fieldsOk] at w5
 refine ⟨fun h7 => have q7 := bnot_t h7; ?_, fun h7 => have q7 := bnot_f h7; have p7 := fldOk_t q7; ?_⟩
 exact ⟨hx2, (by omega), hx2, (by omega), (fldOk_s s x2 (by omega)), h7, (congrArg S.v (congrArg V.c (congrArg C.bool (by unfold schemaOk; grind)))), rfl⟩
 refine dsp (fun h8 p8 => ?_) fun h8 p8 => ?_
 refine ⟨(ax_get (l := x1.fields) (i := Int.toNat ((q2.k : Int) - 1)) (by omega)), fun x3 hx3 => ?_⟩
 have hz := w4 _ (by omega) hx3
 refine ⟨hx2, (by omega), hx2, (by omega), (fldOk_s s x2 (by omega)), h7, h8, (as_i64 (by omega) (by omega)), (as_i64 (by omega) (by omega)), hx3, (by omega), hx3, (by omega), hx2, (by omega), hx2, (by omega), dsp (fun h9 p9 => ?_) fun h9 p9 => ?_⟩
 exact ⟨(congrArg S.v (congrArg V.c (congrArg C.bool (by unfold schemaOk; grind)))), rfl⟩
 exact ⟨(as_i64 (by omega) (by omega)), nxt_of (j := (⟨q2.k + 1, x2.number⟩ : schemaOk_s_V1)) (by first | rfl | simp) rfl (by dsimp only [schemaOk_s_F1]; exact ⟨by omega, by grind, by omega, by intro y h1 h2; rw [show Int.toNat ((((q2.k + 1) : Nat) : Int) - 1) = q2.k by omega] at h2; grind, by rw [← w5, decide_eq_true (show q2.pv < x2.number by omega), bnot_f (by assumption : (!fldOk x2 _) = false)]; simp⟩) (by dsimp only [schemaOk_s_F1]; omega)⟩
 exact ⟨hx2, (by omega), hx2, (by omega), (fldOk_s s x2 (by omega)), h7, h8, (as_i64 (by omega) (by omega)), nxt_of (j := (⟨q2.k + 1, x2.number⟩ : schemaOk_s_V1)) (by first | rfl | simp) rfl (by dsimp only [schemaOk_s_F1]; exact ⟨by omega, by grind, by omega, by intro y h1 h2; rw [show Int.toNat ((((q2.k + 1) : Nat) : Int) - 1) = q2.k by omega] at h2; grind, by rw [← w5, decide_eq_true (show q2.pv < x2.number by omega), bnot_f (by assumption : (!fldOk x2 _) = false)]; simp⟩) (by dsimp only [schemaOk_s_F1]; omega)⟩
 rw [drop_end p6, fieldsOk] at w5
 exact ⟨(as_i64 (by omega) (by omega)), nxt_of (j := (⟨q1.i + 1, x1.id⟩ : schemaOk_s_V0)) (by first | rfl | simp) rfl (by dsimp only [schemaOk_s_F0]; exact ⟨by omega, by grind, by omega, by intro y h1 h2; rw [show Int.toNat ((((q1.i + 1) : Nat) : Int) - 1) = q1.i by omega] at h2; grind, by rw [← v5, decide_eq_true (show q1.pv < x1.id by omega), decide_eq_true (show x1.id ≤ 99 by omega), decide_eq_true (show (x1.fields.length : Int) ≤ 8 by omega), ← w5]; simp⟩) (by dsimp only [schemaOk_s_F0]; omega)⟩
 rw [drop_end p2, shapesOk] at v5
 exact ⟨(congrArg S.v (congrArg V.c (congrArg C.bool (by unfold schemaOk; grind)))), rfl⟩
structure fieldAt_i_V0 where
 v : Nat
def fieldAt_i_F0 (n : Int) (x1 : Shp) : Fam := ⟨fieldAt_i_V0, fun q1 => [(2, .v (vI n)), (6, .v (vP 0)), (23, .v (.c (.seq .fld x1.fields))), (24, .v (vI (x1.fields.length : Int))), (25, .v (vI (q1.v : Int)))], fun _ => [.cells [.int .i64 0, .int .i64 0, .bool false, .bool false, .int .i64 0]], fun q1 => q1.v ≤ x1.fields.length ∧ fieldIn (List.drop q1.v x1.fields) n = fieldIn x1.fields n, fun q1 => x1.fields.length - q1.v⟩
theorem fieldAt_i (s : List Shp) (sh : Int) (n : Int) (hp1 : s.length ≤ 1000) (hp2 : ∀ x ∈ s, x.fields.length ≤ 1000) : Fun Tryz.prog 209 [.agg [.seq .shp s], vI sh, vI n] [] (.tup [.agg (cFld ((fieldAt s sh n).getD fld0)), vB (fieldAt s sh n).isSome]) [] := by
 have hN : bigN = 274877906944 := rfl
 refine fun_ofw Tryz.func209 (by kernel_rfl) (by kernel_rfl) (w := let z4 : List C := [.int .i64 0, .int .i64 0, .bool false, .bool false, .int .i64 0]; let z5 := (s.length : Int) - 1; let z6 := fieldAt s sh n; let z7 := within sh 0 z5; let z8 := cFld (z6.getD fld0); (.seg [.as 14 (.v (vI z5)), .call [] (.v (vB z7)) []] (.br (.leaf () []) (.intro (fun (x1 : Shp) => s[sh.toNat]? = some x1) fun x1 => .seg [.el .shp x1, .at 0, .keep [2, 6, 23, 24, 25], .sel [1]] (.loop (fieldAt_i_F0 n x1) fun q1 => .br (.intro (fun (x2 : Fld) => x1.fields[q1.v]? = some x2) fun x2 => .seg [.el .fld x2] (.br (.leaf () []) (.seg [.as 34 (.v (vI ((q1.v : Int) + 1))), .at 0, .keep [2, 6, 23, 24, 25], .sel [0]] (.next)))) (.leaf () [])))), ((.v (vI (IntKind.i64.wrap z5)) : S) = .v (vI z5)) ∧ (Fun Tryz.prog 173 [vI sh, vI 0, vI z5] [] (.v (vB z7)) []) ∧ ((!z7) = true → (.tup [.agg z4, vB false] : S) = .tup [.agg z8, vB z6.isSome] ∧ ([] : List Blk) = []) ∧ ((!z7) = false → (∃ (x1 : Shp), s[sh.toNat]? = some x1) ∧ ∀ (x1 : Shp), (s[sh.toNat]? = some x1) → (let z2 := (x1.fields.length : Int); let z3 := fieldAt_i_F0 n x1; (s[sh.toNat]? = some x1) ∧ ((0 : Int) ≤ sh) ∧ z3.Has [(2, .v (vI n)), (6, .v (vP 0)), (23, .v (.c (.seq .fld x1.fields))), (24, .v (vI z2)), (25, .v (vI 0))] [.cells z4] ∧ ∀ q1, z3.inv q1 → (let z1 := (q1.v : Int); ((decide (z1 < z2)) = true → (∃ (x2 : Fld), x1.fields[q1.v]? = some x2) ∧ ∀ (x2 : Fld), (x1.fields[q1.v]? = some x2) → ((x1.fields[q1.v]? = some x2) ∧ ((0 : Int) ≤ z1) ∧ ((decide (x2.number = n)) = true → (.tup [.agg (cFld x2), vB true] : S) = .tup [.agg z8, vB z6.isSome] ∧ ([] : List Blk) = []) ∧ ((decide (x2.number = n)) = false → ((.v (vI (IntKind.i64.wrap (z1 + 1))) : S) = .v (vI (z1 + 1))) ∧ z3.Nxt q1 [(2, .v (vI n)), (6, .v (vP 0)), (23, .v (.c (.seq .fld x1.fields))), (24, .v (vI z2)), (25, .v (vI (z1 + 1)))] [.cells z4]))) ∧ ((decide (z1 < z2)) = false → (.tup [.agg z4, vB false] : S) = .tup [.agg z8, vB z6.isSome] ∧ ([] : List Blk) = [])))))) (by kernel_rfl) ?_
 refine ⟨(as_i64 (by omega) (by omega)), (within_i _ _ _), fun h1 => have q1 := bnot_t h1; have p1 := within_f q1; ?_, fun h1 => have q1 := bnot_f h1; have p1 := within_t q1; ?_⟩
 refine have hm1 : (fieldAt s sh n).getD fld0 = (⟨0, 0, false, false, 0⟩ : Fld) := ?_; ?_
 rotate_left
 refine ⟨(congrArg S.tup (consE (congrArg V.agg (consE (congrArg (C.int .i64) ?_) (consE (congrArg (C.int .i64) ?_) (consE (congrArg C.bool ?_) (consE (congrArg C.bool ?_) (consE (congrArg (C.int .i64) ?_) rfl)))))) (consE (congrArg V.c (congrArg C.bool ?_)) rfl))), rfl⟩
 rotate_left 6
 have q1_ := q1
 refine ⟨(ax_get (l := s) (i := sh.toNat) (by omega)), fun x1 hx1 => ?_⟩
 have hfa := fieldAt_in (n := n) q1_ hx1
 have hfl := hp2 x1 (List.mem_of_getElem? hx1)
 refine ⟨hx1, (by omega), has_of (j := (⟨0⟩ : fieldAt_i_V0)) (by first | rfl | simp) rfl (by dsimp only [fieldAt_i_F0]; exact ⟨by omega, by simp⟩), fun (q1 : fieldAt_i_V0) hq_q1 => ?_⟩
 have hi_q1 : q1.v ≤ x1.fields.length ∧ fieldIn (List.drop q1.v x1.fields) n = fieldIn x1.fields n := hq_q1
 obtain ⟨v1, v2⟩ := hi_q1
 refine dsp (fun h2 p2 => ?_) fun h2 p2 => ?_
 refine ⟨(ax_get (l := x1.fields) (i := q1.v) (by omega)), fun x2 hx2 => ?_⟩
 rw [drop_el hx2, fieldIn_cons] at v2
 refine ⟨hx2, (by omega), dsp (fun h3 p3 => ?_) fun h3 p3 => ?_⟩
 refine have hm1 : (fieldAt s sh n).getD fld0 = x2 := ?_; ?_
 rotate_left
 refine ⟨(congrArg S.tup (consE (congrArg V.agg (consE (congrArg (C.int .i64) ?_) (consE (congrArg (C.int .i64) ?_) (consE (congrArg C.bool ?_) (consE (congrArg C.bool ?_) (consE (congrArg (C.int .i64) ?_) rfl)))))) (consE (congrArg V.c (congrArg C.bool ?_)) rfl))), rfl⟩
 rotate_left 6
 exact ⟨(as_i64 (by omega) (by omega)), nxt_of (j := (⟨q1.v + 1⟩ : fieldAt_i_V0)) (by first | rfl | simp) rfl (by dsimp only [fieldAt_i_F0]; exact ⟨by omega, by grind⟩) (by dsimp only [fieldAt_i_F0]; omega)⟩
 rw [drop_end p2] at v2
 refine have hm1 : (fieldAt s sh n).getD fld0 = (⟨0, 0, false, false, 0⟩ : Fld) := ?_; ?_
 rotate_left
 refine ⟨(congrArg S.tup (consE (congrArg V.agg (consE (congrArg (C.int .i64) ?_) (consE (congrArg (C.int .i64) ?_) (consE (congrArg C.bool ?_) (consE (congrArg C.bool ?_) (consE (congrArg (C.int .i64) ?_) rfl)))))) (consE (congrArg V.c (congrArg C.bool ?_)) rfl))), rfl⟩
 rotate_left 6
 all_goals grind [fieldAt, fld0, fieldIn]
structure fieldAt_s_V0 where
 i : Nat
def fieldAt_s_F0 (n : Int) (x1 : Shp) : Fam := ⟨fieldAt_s_V0, fun q1 => [(2, .v (vI n)), (6, .v (vP 0)), (8, .v (.c (.seq .fld x1.fields))), (9, .v (vI (q1.i : Int)))], fun _ => [.cells [.int .i64 0, .int .i64 0, .bool false, .bool false, .int .i64 0]], fun q1 => q1.i ≤ x1.fields.length ∧ fieldIn (List.drop q1.i x1.fields) n = fieldIn x1.fields n, fun q1 => x1.fields.length - q1.i⟩
theorem fieldAt_s (s : List Shp) (sh : Int) (n : Int) (hp1 : s.length ≤ 1000) (hp2 : ∀ x ∈ s, x.fields.length ≤ 1000) : Fun Tryz.prog 190 [.agg [.seq .shp s], vI sh, vI n] [] (.tup [.agg (cFld ((fieldAt s sh n).getD fld0)), vB (fieldAt s sh n).isSome]) [] := by
 have hN : bigN = 274877906944 := rfl
 refine fun_ofw Tryz.func190 (by kernel_rfl) (by kernel_rfl) (w := let z4 : List C := [.int .i64 0, .int .i64 0, .bool false, .bool false, .int .i64 0]; let z5 := (s.length : Int) - 1; let z6 := fieldAt s sh n; let z7 := within sh 0 z5; let z8 := cFld (z6.getD fld0); (.seg [.as 14 (.v (vI z5)), .call [] (.v (vB z7)) []] (.br (.leaf () []) (.intro (fun (x1 : Shp) => s[sh.toNat]? = some x1) fun x1 => .seg [.el .shp x1, .at 0, .keep [2, 6, 8, 9], .sel [1]] (.loop (fieldAt_s_F0 n x1) fun q1 => .br (.intro (fun (x2 : Fld) => x1.fields[q1.i]? = some x2) fun x2 => .seg [.el .fld x2] (.br (.seg [.el .fld x2] (.leaf () [])) (.seg [.as 29 (.v (vI ((q1.i : Int) + 1))), .at 0, .keep [2, 6, 8, 9], .sel [0]] (.next)))) (.leaf () [])))), ((.v (vI (IntKind.i64.wrap z5)) : S) = .v (vI z5)) ∧ (Fun Tryz.prog 105 [vI sh, vI 0, vI z5] [] (.v (vB z7)) []) ∧ ((!z7) = true → (.tup [.agg z4, vB false] : S) = .tup [.agg z8, vB z6.isSome] ∧ ([] : List Blk) = []) ∧ ((!z7) = false → (∃ (x1 : Shp), s[sh.toNat]? = some x1) ∧ ∀ (x1 : Shp), (s[sh.toNat]? = some x1) → (let z2 := (x1.fields.length : Int); let z3 := fieldAt_s_F0 n x1; (s[sh.toNat]? = some x1) ∧ ((0 : Int) ≤ sh) ∧ z3.Has [(2, .v (vI n)), (6, .v (vP 0)), (8, .v (.c (.seq .fld x1.fields))), (9, .v (vI 0))] [.cells z4] ∧ ∀ q1, z3.inv q1 → (let z1 := (q1.i : Int); ((decide (z1 < z2)) = true → (∃ (x2 : Fld), x1.fields[q1.i]? = some x2) ∧ ∀ (x2 : Fld), (x1.fields[q1.i]? = some x2) → ((x1.fields[q1.i]? = some x2) ∧ ((0 : Int) ≤ z1) ∧ ((decide (x2.number = n)) = true → (x1.fields[q1.i]? = some x2) ∧ ((0 : Int) ≤ z1) ∧ (.tup [.agg (cFld x2), vB true] : S) = .tup [.agg z8, vB z6.isSome] ∧ ([] : List Blk) = []) ∧ ((decide (x2.number = n)) = false → ((.v (vI (IntKind.i64.wrap (z1 + 1))) : S) = .v (vI (z1 + 1))) ∧ z3.Nxt q1 [(2, .v (vI n)), (6, .v (vP 0)), (8, .v (.c (.seq .fld x1.fields))), (9, .v (vI (z1 + 1)))] [.cells z4]))) ∧ ((decide (z1 < z2)) = false → (.tup [.agg z4, vB false] : S) = .tup [.agg z8, vB z6.isSome] ∧ ([] : List Blk) = [])))))) (by kernel_rfl) ?_
 refine ⟨(as_i64 (by omega) (by omega)), (within_s _ _ _), fun h1 => have q1 := bnot_t h1; have p1 := within_f q1; ?_, fun h1 => have q1 := bnot_f h1; have p1 := within_t q1; ?_⟩
 refine have hm1 : (fieldAt s sh n).getD fld0 = (⟨0, 0, false, false, 0⟩ : Fld) := ?_; ?_
 rotate_left
 refine ⟨(congrArg S.tup (consE (congrArg V.agg (consE (congrArg (C.int .i64) ?_) (consE (congrArg (C.int .i64) ?_) (consE (congrArg C.bool ?_) (consE (congrArg C.bool ?_) (consE (congrArg (C.int .i64) ?_) rfl)))))) (consE (congrArg V.c (congrArg C.bool ?_)) rfl))), rfl⟩
 rotate_left 6
 have q1_ := q1
 refine ⟨(ax_get (l := s) (i := sh.toNat) (by omega)), fun x1 hx1 => ?_⟩
 have hfa := fieldAt_in (n := n) q1_ hx1
 have hfl := hp2 x1 (List.mem_of_getElem? hx1)
 refine ⟨hx1, (by omega), has_of (j := (⟨0⟩ : fieldAt_s_V0)) (by first | rfl | simp) rfl (by dsimp only [fieldAt_s_F0]; exact ⟨by omega, by simp⟩), fun (q1 : fieldAt_s_V0) hq_q1 => ?_⟩
 have hi_q1 : q1.i ≤ x1.fields.length ∧ fieldIn (List.drop q1.i x1.fields) n = fieldIn x1.fields n := hq_q1
 obtain ⟨v1, v2⟩ := hi_q1
 refine dsp (fun h2 p2 => ?_) fun h2 p2 => ?_
 refine ⟨(ax_get (l := x1.fields) (i := q1.i) (by omega)), fun x2 hx2 => ?_⟩
 rw [drop_el hx2, fieldIn_cons] at v2
 refine ⟨hx2, (by omega), dsp (fun h3 p3 => ?_) fun h3 p3 => ?_⟩
 refine ⟨hx2, (by omega), ?_⟩
 refine have hm1 : (fieldAt s sh n).getD fld0 = x2 := ?_; ?_
 rotate_left
 refine ⟨(congrArg S.tup (consE (congrArg V.agg (consE (congrArg (C.int .i64) ?_) (consE (congrArg (C.int .i64) ?_) (consE (congrArg C.bool ?_) (consE (congrArg C.bool ?_) (consE (congrArg (C.int .i64) ?_) rfl)))))) (consE (congrArg V.c (congrArg C.bool ?_)) rfl))), rfl⟩
 rotate_left 6
 exact ⟨(as_i64 (by omega) (by omega)), nxt_of (j := (⟨q1.i + 1⟩ : fieldAt_s_V0)) (by first | rfl | simp) rfl (by dsimp only [fieldAt_s_F0]; exact ⟨by omega, by grind⟩) (by dsimp only [fieldAt_s_F0]; omega)⟩
 rw [drop_end p2] at v2
 refine have hm1 : (fieldAt s sh n).getD fld0 = (⟨0, 0, false, false, 0⟩ : Fld) := ?_; ?_
 rotate_left
 refine ⟨(congrArg S.tup (consE (congrArg V.agg (consE (congrArg (C.int .i64) ?_) (consE (congrArg (C.int .i64) ?_) (consE (congrArg C.bool ?_) (consE (congrArg C.bool ?_) (consE (congrArg (C.int .i64) ?_) rfl)))))) (consE (congrArg V.c (congrArg C.bool ?_)) rfl))), rfl⟩
 rotate_left 6
 all_goals grind [fieldAt, fld0, fieldIn]
theorem planOk_i (p : Pln) : Fun Tryz.prog 165 [.agg (cPln p)] [] (.v (vB (planOk p))) [] := by
 have hN : bigN = 274877906944 := rfl
 refine fun_ofw Tryz.func165 (by kernel_rfl) (by kernel_rfl) (w := let z1 := (p.shapes.length : Int) - 1; let z2 := within p.root 0 z1; let z3 := schemaOk p.shapes; let z4 := within p.deep 1 8; let z5 := vB (within p.most 0 2000); let z6 := vB (planOk p); let z7 := ([] : List Blk); let z8 := (.v (vB false) : S); (.seg [.call [] (.v (vB z3)) []] (.br (.seg [.as 13 (.v (vI z1)), .call [] (.v (vB z2)) []] (.br (.seg [.call [] (.v (vB z4)) []] (.br (.seg [.call [] (.v z5) []] (.leaf () [])) (.leaf () []))) (.leaf () []))) (.leaf () [])), (Fun Tryz.prog 197 [.agg [.seq .shp p.shapes]] [] (.v (vB z3)) []) ∧ (z3 = true → ((.v (vI (IntKind.i64.wrap z1)) : S) = .v (vI z1)) ∧ (Fun Tryz.prog 173 [vI p.root, vI 0, vI z1] [] (.v (vB z2)) []) ∧ (z2 = true → (Fun Tryz.prog 173 [vI p.deep, vI 1, vI 8] [] (.v (vB z4)) []) ∧ (z4 = true → (Fun Tryz.prog 173 [vI p.most, vI 0, vI 2000] [] (.v z5) []) ∧ (.v z5 : S) = .v z6 ∧ z7 = []) ∧ (z4 = false → z8 = .v z6 ∧ z7 = [])) ∧ (z2 = false → z8 = .v z6 ∧ z7 = [])) ∧ (z3 = false → z8 = .v z6 ∧ z7 = []))) (by kernel_rfl) ?_
 refine ⟨(schemaOk_i p.shapes), fun h1 => have p1 := schemaOk_t h1; ?_, fun h1 => ?_⟩
 refine ⟨(as_i64 (by omega) (by omega)), (within_i _ _ _), fun h2 => have p2 := within_t h2; ?_, fun h2 => have p2 := within_f h2; ?_⟩
 refine ⟨(within_i _ _ _), fun h3 => have p3 := within_t h3; ?_, fun h3 => have p3 := within_f h3; ?_⟩
 exact ⟨(within_i _ _ _), (congrArg S.v (congrArg V.c (congrArg C.bool (by grind [planOk])))), rfl⟩
 exact ⟨(congrArg S.v (congrArg V.c (congrArg C.bool (by grind [planOk])))), rfl⟩
 exact ⟨(congrArg S.v (congrArg V.c (congrArg C.bool (by grind [planOk])))), rfl⟩
 exact ⟨(congrArg S.v (congrArg V.c (congrArg C.bool (by grind [planOk])))), rfl⟩
theorem planOk_s (p : Pln) : Fun Tryz.prog 102 [.agg (cPln p)] [] (.v (vB (planOk p))) [] := by
 have hN : bigN = 274877906944 := rfl
 refine fun_ofw Tryz.func102 (by kernel_rfl) (by kernel_rfl) (w := let z1 := (p.shapes.length : Int) - 1; let z2 := within p.root 0 z1; let z3 := schemaOk p.shapes; let z4 := within p.deep 1 8; let z5 := vB (within p.most 0 2000); let z6 := vB (planOk p); let z7 := ([] : List Blk); let z8 := (.v (vB false) : S); (.seg [.call [] (.v (vB z3)) []] (.br (.seg [.as 13 (.v (vI z1)), .call [] (.v (vB z2)) []] (.br (.seg [.call [] (.v (vB z4)) []] (.br (.seg [.call [] (.v z5) []] (.leaf () [])) (.leaf () []))) (.leaf () []))) (.leaf () [])), (Fun Tryz.prog 143 [.agg [.seq .shp p.shapes]] [] (.v (vB z3)) []) ∧ (z3 = true → ((.v (vI (IntKind.i64.wrap z1)) : S) = .v (vI z1)) ∧ (Fun Tryz.prog 105 [vI p.root, vI 0, vI z1] [] (.v (vB z2)) []) ∧ (z2 = true → (Fun Tryz.prog 105 [vI p.deep, vI 1, vI 8] [] (.v (vB z4)) []) ∧ (z4 = true → (Fun Tryz.prog 105 [vI p.most, vI 0, vI 2000] [] (.v z5) []) ∧ (.v z5 : S) = .v z6 ∧ z7 = []) ∧ (z4 = false → z8 = .v z6 ∧ z7 = [])) ∧ (z2 = false → z8 = .v z6 ∧ z7 = [])) ∧ (z3 = false → z8 = .v z6 ∧ z7 = []))) (by kernel_rfl) ?_
 refine ⟨(schemaOk_s p.shapes), fun h1 => have p1 := schemaOk_t h1; ?_, fun h1 => ?_⟩
 refine ⟨(as_i64 (by omega) (by omega)), (within_s _ _ _), fun h2 => have p2 := within_t h2; ?_, fun h2 => have p2 := within_f h2; ?_⟩
 refine ⟨(within_s _ _ _), fun h3 => have p3 := within_t h3; ?_, fun h3 => have p3 := within_f h3; ?_⟩
 exact ⟨(within_s _ _ _), (congrArg S.v (congrArg V.c (congrArg C.bool (by grind [planOk])))), rfl⟩
 exact ⟨(congrArg S.v (congrArg V.c (congrArg C.bool (by grind [planOk])))), rfl⟩
 exact ⟨(congrArg S.v (congrArg V.c (congrArg C.bool (by grind [planOk])))), rfl⟩
 exact ⟨(congrArg S.v (congrArg V.c (congrArg C.bool (by grind [planOk])))), rfl⟩
theorem hasField_i (k : Int) : Fun Tryz.prog 212 [vI k] [] (.v (vB (hasField k))) [] := by
 have hN : bigN = 274877906944 := rfl
 refine fun_ofw Tryz.func212 (by kernel_rfl) (by kernel_rfl) (w := (.br (.leaf () []) (.br (.leaf () []) (.leaf () [])), ((decide (k = 2)) = true → (.v (vB true) : S) = .v (vB (hasField k)) ∧ ([] : List Blk) = []) ∧ ((decide (k = 2)) = false → ((decide (k = 3)) = true → (.v (vB true) : S) = .v (vB (hasField k)) ∧ ([] : List Blk) = []) ∧ ((decide (k = 3)) = false → (.v (vB (decide (k = 6))) : S) = .v (vB (hasField k)) ∧ ([] : List Blk) = [])))) (by kernel_rfl) ?_
 refine dsp (fun h1 p1 => ?_) fun h1 p1 => ?_
 exact ⟨(congrArg S.v (congrArg V.c (congrArg C.bool (by grind [hasField])))), rfl⟩
 refine dsp (fun h2 p2 => ?_) fun h2 p2 => ?_
 exact ⟨(congrArg S.v (congrArg V.c (congrArg C.bool (by grind [hasField])))), rfl⟩
 exact ⟨(congrArg S.v (congrArg V.c (congrArg C.bool (by grind [hasField])))), rfl⟩
def szShL : Int → List Shp → Int
 | left, [] => left
 | left, x :: r => if left - (x.fields.length : Int) < 0 then -1 else szShL (left - (x.fields.length : Int)) r
def szShS (left : Int) (l : List Shp) : Int := if left - (l.length : Int) < 0 then -1 else szShL (left - (l.length : Int)) l
theorem szShL_b : ∀ {l : List Shp} {left : Int}, 0 ≤ left → left ≤ 1048576 → -1 ≤ szShL left l ∧ szShL left l ≤ left ∧ (0 ≤ szShL left l → ∀ e ∈ l, e.fields.length ≤ 1048576)
 | [], left, h, h2 => by simp [szShL]; omega
 | e :: r, left, h, h2 => by
  unfold szShL
  split
  ·omega
  ·have := szShL_b (l := r) (left := left - (e.fields.length : Int)) (by omega) (by omega)
   refine ⟨this.1, by omega, fun h3 x hx => ?_⟩
   rcases List.mem_cons.1 hx with rfl | hx
   ·omega
   ·exact this.2.2 h3 x hx
theorem szShS_b {l : List Shp} {left : Int} (h : 0 ≤ left) (h2 : left ≤ 1048576) : -1 ≤ szShS left l ∧ szShS left l ≤ left ∧ (0 ≤ szShS left l → l.length ≤ 1048576 ∧ ∀ e ∈ l, e.fields.length ≤ 1048576) := by
 unfold szShS
 split
 ·omega
 ·have := szShL_b (l := l) (left := left - (l.length : Int)) (by omega) (by omega)
  exact ⟨this.1, by omega, fun h3 => ⟨by omega, this.2.2 h3⟩⟩
theorem szShL_cons {left : Int} {e : Shp} {r : List Shp} : szShL left (e :: r) = if left - (e.fields.length : Int) < 0 then -1 else szShL (left - (e.fields.length : Int)) r := rfl
theorem szEvent_ok (a : Ev) (left : Int) (hp1 : (0 : Int) ≤ left ∧ left ≤ 1048576) (hp2 : ((List.length (a).text : Nat) : Int) ≤ 9223372036854775807) : Fun Tryz.prog 62 [.agg (cEv a), vI left] [] (.v (vI (if left - ((List.length (a).text : Nat) : Int) < 0 then -1 else left - ((List.length (a).text : Nat) : Int)))) [] := by
 have hN : bigN = 274877906944 := rfl
 refine fun_ofw Tryz.func62 (by kernel_rfl) (by kernel_rfl) (w := let z1 := (a.text.length : Int); let z3 := ((List.length (a).text : Nat) : Int); let z2 := vI (if left - z3 < 0 then -1 else left - z3); (.seg [.as 9 (.v (vI (left - z1)))] (.br (.leaf () []) (.leaf () [])), ((.v (vI (IntKind.i64.wrap (left - z1))) : S) = .v (vI (left - z1))) ∧ ((decide (left - z1 < 0)) = true → (.v (vI (-1)) : S) = .v z2 ∧ ([] : List Blk) = []) ∧ ((decide (left - z1 < 0)) = false → (.v (vI (left - z1)) : S) = .v z2 ∧ ([] : List Blk) = []))) (by kernel_rfl) ?_
 refine ⟨(as_i64 (by omega) (by omega)), dsp (fun h1 p1 => ?_) fun h1 p1 => ?_⟩
 exact ⟨(congrArg S.v (congrArg V.c (congrArg (C.int .i64) (by grind)))), rfl⟩
 exact ⟨(congrArg S.v (congrArg V.c (congrArg (C.int .i64) (by grind)))), rfl⟩
structure szEventS_ok_V0 where
 left : Int
 i : Nat
theorem szFieldS_ok (l : List Fld) (left : Int) (hp1 : (0 : Int) ≤ left ∧ left ≤ 1048576) (hp2 : (l.length : Int) ≤ 9223372036854775807) : Fun Tryz.prog 188 [.c (.seq .fld l), vI left] [] (.v (vI (szN left (l.length : Int)))) [] := by
 have hN : bigN = 274877906944 := rfl
 refine fun_ofw Tryz.func188 (by kernel_rfl) (by kernel_rfl) (w := let z1 := (l.length : Int); (.seg [.as 8 (.v (vI (left - z1)))] (.br (.leaf () []) (.leaf () [])), ((.v (vI (IntKind.i64.wrap (left - z1))) : S) = .v (vI (left - z1))) ∧ ((decide (left - z1 < 0)) = true → (.v (vI (-1)) : S) = .v (vI (szN left z1)) ∧ ([] : List Blk) = []) ∧ ((decide (left - z1 < 0)) = false → (.v (vI (left - z1)) : S) = .v (vI (szN left z1)) ∧ ([] : List Blk) = []))) (by kernel_rfl) ?_
 refine ⟨(as_i64 (by omega) (by omega)), dsp (fun h1 p1 => ?_) fun h1 p1 => ?_⟩
 refine ⟨(sI ?_), rfl⟩
 rotate_left
 refine ⟨(sI ?_), rfl⟩
 rotate_left
 all_goals first | (simp [szN, *]; done) | (grind [szN])
theorem szShape_ok (a : Shp) (left : Int) (hp1 : (0 : Int) ≤ left ∧ left ≤ 1048576) (hp2 : ((List.length (a).fields : Nat) : Int) ≤ 9223372036854775807) : Fun Tryz.prog 142 [.agg (cShp a), vI left] [] (.v (vI (if left - ((List.length (a).fields : Nat) : Int) < 0 then -1 else left - ((List.length (a).fields : Nat) : Int)))) [] := by
 have hN : bigN = 274877906944 := rfl
 refine fun_ofw Tryz.func142 (by kernel_rfl) (by kernel_rfl) (w := let z1 := (a.fields.length : Int); let z3 := ((List.length (a).fields : Nat) : Int); let z2 := vI (if left - z3 < 0 then -1 else left - z3); let z4 := vI (szN left z1); (.seg [.call [] (.v z4) []] (.br (.leaf () []) (.leaf () [])), (Fun Tryz.prog 188 [.c (.seq .fld a.fields), vI left] [] (.v z4) []) ∧ ((decide (szN left z1 < 0)) = true → (.v (vI (-1)) : S) = .v z2 ∧ ([] : List Blk) = []) ∧ ((decide (szN left z1 < 0)) = false → (.v z4 : S) = .v z2 ∧ ([] : List Blk) = []))) (by kernel_rfl) ?_
 refine ⟨(szFieldS_ok _ _ (by omega) (by omega)), dsp (fun h1 p1 => ?_) fun h1 p1 => ?_⟩
 exact ⟨(congrArg S.v (congrArg V.c (congrArg (C.int .i64) (by grind [szN])))), rfl⟩
 exact ⟨(congrArg S.v (congrArg V.c (congrArg (C.int .i64) (by grind [szN])))), rfl⟩
structure szShapeS_ok_V0 where
 left : Int
 i : Nat
def szShapeS_ok_F0 (l : List Shp) (left : Int) : Fam := ⟨szShapeS_ok_V0, fun q1 => [(0, .v (.c (.seq .shp l))), (1, .v (vI q1.left)), (5, .v (vI (q1.i : Int)))], fun _ => [], fun q1 => q1.i ≤ l.length ∧ (0 : Int) ≤ q1.left ∧ q1.left ≤ 1048576 ∧ szShL q1.left (List.drop q1.i l) = szShS left l, fun q1 => l.length - q1.i⟩
theorem szShapeS_ok (l : List Shp) (left : Int) (hp1 : (0 : Int) ≤ left ∧ left ≤ 1048576) (hp2 : (l.length : Int) ≤ 9223372036854775807) (hp3 : ∀ e ∈ l, (e.fields.length : Int) ≤ 9223372036854775807) : Fun Tryz.prog 101 [.c (.seq .shp l), vI left] [] (.v (vI (szShS left l))) [] := by
 have hN : bigN = 274877906944 := rfl
 refine fun_ofw Tryz.func101 (by kernel_rfl) (by kernel_rfl) (w := let z5 := (l.length : Int); let z6 := szShapeS_ok_F0 l left; let z7 := vI (szShS left l); (.seg [.as 9 (.v (vI (left - z5)))] (.br (.leaf () []) (.seg [.at 0, .keep [0, 1, 5], .sel []] (.loop z6 fun q1 => .br (.intro (fun (x1 : Shp) => l[q1.i]? = some x1) fun x1 => let z1 := ((List.length (x1).fields : Nat) : Int); .seg [.el .shp x1, .call [] (.v (vI (if q1.left - z1 < 0 then -1 else q1.left - z1))) []] (.br (.leaf () []) (.seg [.as 17 (.v (vI ((q1.i : Int) + 1))), .at 0, .keep [0, 1, 5], .sel []] (.next)))) (.leaf () [])))), ((.v (vI (IntKind.i64.wrap (left - z5))) : S) = .v (vI (left - z5))) ∧ ((decide (left - z5 < 0)) = true → (.v (vI (-1)) : S) = .v z7 ∧ ([] : List Blk) = []) ∧ ((decide (left - z5 < 0)) = false → z6.Has [(0, .v (.c (.seq .shp l))), (1, .v (vI (left - z5))), (5, .v (vI 0))] [] ∧ ∀ q1, z6.inv q1 → (let z4 := (q1.i : Int); ((decide (z4 < z5)) = true → (∃ (x1 : Shp), l[q1.i]? = some x1) ∧ ∀ (x1 : Shp), (l[q1.i]? = some x1) → (let z3 := ((List.length (x1).fields : Nat) : Int); let z2 := if q1.left - z3 < 0 then -1 else q1.left - z3; (l[q1.i]? = some x1) ∧ ((0 : Int) ≤ z4) ∧ (Fun Tryz.prog 142 [.agg (cShp x1), vI q1.left] [] (.v (vI z2)) []) ∧ ((decide (z2 < 0)) = true → (.v (vI (-1)) : S) = .v z7 ∧ ([] : List Blk) = []) ∧ ((decide (z2 < 0)) = false → ((.v (vI (IntKind.i64.wrap (z4 + 1))) : S) = .v (vI (z4 + 1))) ∧ z6.Nxt q1 [(0, .v (.c (.seq .shp l))), (1, .v (vI z2)), (5, .v (vI (z4 + 1)))] []))) ∧ ((decide (z4 < z5)) = false → (.v (vI q1.left) : S) = .v z7 ∧ ([] : List Blk) = []))))) (by kernel_rfl) ?_
 refine ⟨(as_i64 (by omega) (by omega)), dsp (fun h1 p1 => ?_) fun h1 p1 => ?_⟩
 refine ⟨(sI ?_), rfl⟩
 rotate_left
 refine ⟨has_of (j := (⟨left - (l.length : Int), 0⟩ : szShapeS_ok_V0)) (by first | rfl | simp) rfl (by dsimp only [szShapeS_ok_F0]; exact ⟨by omega, by omega, by omega, by rw [szShS, if_neg (by omega)]; rfl⟩), fun (q1 : szShapeS_ok_V0) hq_q1 => ?_⟩
 have hi_q1 : q1.i ≤ l.length ∧ (0 : Int) ≤ q1.left ∧ q1.left ≤ 1048576 ∧ szShL q1.left (List.drop q1.i l) = szShS left l := hq_q1
 obtain ⟨v1, v2, v3, v4⟩ := hi_q1
 refine dsp (fun h2 p2 => ?_) fun h2 p2 => ?_
 refine ⟨(ax_get (l := l) (i := q1.i) (by omega)), fun x1 hx1 => ?_⟩
 rw [drop_el hx1, szShL_cons] at v4
 have hz := hp3 x1 (List.mem_of_getElem? hx1)
 refine ⟨hx1, (by omega), (szShape_ok x1 _ (by omega) (by omega)), dsp (fun h3 p3 => ?_) fun h3 p3 => ?_⟩
 refine ⟨(sI ?_), rfl⟩
 rotate_left
 exact ⟨(as_i64 (by omega) (by omega)), nxt_of (j := (⟨(if q1.left - ((List.length (x1).fields : Nat) : Int) < 0 then -1 else q1.left - ((List.length (x1).fields : Nat) : Int)), q1.i + 1⟩ : szShapeS_ok_V0)) (by first | rfl | simp) rfl (by dsimp only [szShapeS_ok_F0]; exact ⟨by omega, by grind, by grind, by grind⟩) (by dsimp only [szShapeS_ok_F0]; omega)⟩
 rw [drop_end p2] at v4
 refine ⟨(sI ?_), rfl⟩
 rotate_left
 all_goals first | (grind [szShS, szShL])
theorem szSchema_ok (l : List Shp) (left : Int) (hp1 : (0 : Int) ≤ left ∧ left ≤ 1048576) (hp2 : (l.length : Int) ≤ 9223372036854775807) (hp3 : ∀ e ∈ l, (e.fields.length : Int) ≤ 9223372036854775807) : Fun Tryz.prog 50 [.agg [.seq .shp l], vI left] [] (.v (vI (szShS left l))) [] := by
 have hN : bigN = 274877906944 := rfl
 refine fun_ofw Tryz.func50 (by kernel_rfl) (by kernel_rfl) (w := let z1 := vI (szShS left l); (.seg [.call [] (.v z1) []] (.br (.leaf () []) (.leaf () [])), (Fun Tryz.prog 101 [.c (.seq .shp l), vI left] [] (.v z1) []) ∧ ((decide (szShS left l < 0)) = true → (.v (vI (-1)) : S) = .v z1 ∧ ([] : List Blk) = []) ∧ ((decide (szShS left l < 0)) = false → (.v z1 : S) = .v z1 ∧ ([] : List Blk) = []))) (by kernel_rfl) ?_
 refine ⟨(szShapeS_ok _ _ (by omega) (by omega) (hp3)), dsp (fun h1 p1 => ?_) fun h1 p1 => ?_⟩
 refine ⟨(sI ?_), rfl⟩
 rotate_left
 exact ⟨rfl, rfl⟩
 all_goals have := szShS_b (l := l) (left := left) (by omega) (by omega); omega
theorem szPlan_ok (a : Pln) (left : Int) (hp1 : (0 : Int) ≤ left ∧ left ≤ 1048576) (hp2 : ((List.length (a).shapes : Nat) : Int) ≤ 9223372036854775807) (hp3 : ∀ e ∈ (a).shapes, (e.fields.length : Int) ≤ 9223372036854775807) : Fun Tryz.prog 10 [.agg (cPln a), vI left] [] (.v (vI (szShS left (a).shapes))) [] := by
 have hN : bigN = 274877906944 := rfl
 refine fun_ofw Tryz.func10 (by kernel_rfl) (by kernel_rfl) (w := let z1 := vI (szShS left a.shapes); let z2 := decide (szShS left a.shapes < 0); (.seg [.call [] (.v z1) []] (.br (.leaf () []) (.leaf () [])), (Fun Tryz.prog 50 [.agg [.seq .shp a.shapes], vI left] [] (.v z1) []) ∧ (z2 = true → (.v (vI (-1)) : S) = .v (vI (szShS left (a).shapes)) ∧ ([] : List Blk) = []) ∧ (z2 = false → (.v z1 : S) = .v (vI (szShS left (a).shapes)) ∧ ([] : List Blk) = []))) (by kernel_rfl) ?_
 refine ⟨(szSchema_ok a.shapes _ (by omega) (by omega) (hp3)), dsp (fun h1 p1 => ?_) fun h1 p1 => ?_⟩
 refine ⟨(sI ?_), rfl⟩
 rotate_left
 refine ⟨(sI ?_), rfl⟩
 rotate_left
 all_goals have := szShS_b (l := a.shapes) (left := left) (by omega) (by omega); omega
end Go.Proofs.YtpchkcpcdbdhdaaGreat.Ax
