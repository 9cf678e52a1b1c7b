/- Models. Models: the machine. Models: the machine's steps. Models: bytes, whole inputs. Numbers. Varints. Numbers of so many bytes; tags. Utf-8. -/
import Derived.Test.YtpchkcpcdbdhdaaGreatKB4
set_option linter.unusedSimpArgs false
set_option linter.unusedVariables false
namespace Go.Proofs.YtpchkcpcdbdhdaaGreat.Ax
open Go.RowKit
theorem consE {α : Type} {a b : α} {l m : List α} (h : a = b) (t : l = m) : a :: l = b :: m := by rw [h, t]
def vI (x : Int) : V := .c (.int .i64 x)
def vB (x : Bool) : V := .c (.bool x)
def vT (x : List UInt8) : V := .c (.str x)
def vO (j : Nat) : V := .c (.own j)
def vP (j : Nat) : V := .c (.ptr j 0)
theorem sB {a b : Bool} (h : a = b) : (.v (.c (.bool a)) : S) = .v (.c (.bool b)) := by rw [h]
theorem sI {a b : Int} (h : a = b) : (.v (.c (.int .i64 a)) : S) = .v (.c (.int .i64 b)) := by rw [h]
theorem dT {p : Prop} [Decidable p] : decide p = true ↔ p := decide_eq_true_iff
theorem dF {p : Prop} [Decidable p] : decide p = false ↔ ¬ p := decide_eq_false_iff_not
theorem andT {a b : Bool} {P Q : Prop} (h : a = true ↔ P) (g : b = true ↔ Q) : (a && b) = true ↔ P ∧ Q := by rw [Bool.and_eq_true, h, g]
theorem andF {a b : Bool} {P Q : Prop} (h : a = true ↔ P) (g : b = false ↔ Q) : (a && b) = false ↔ (P → Q) := by rw [Bool.and_eq_false_imp, h, g]
theorem orT {a b : Bool} {P Q : Prop} (h : a = true ↔ P) (g : b = true ↔ Q) : (a || b) = true ↔ P ∨ Q := by rw [Bool.or_eq_true, h, g]
theorem orF {a b : Bool} {P Q : Prop} (h : a = false ↔ P) (g : b = false ↔ Q) : (a || b) = false ↔ P ∧ Q := by rw [Bool.or_eq_false_iff, h, g]
theorem has_of {F : Fam} {j : F.ι} {tm : List (Nat × S)} {H : List Blk} (h1 : tm = F.tm j) (h2 : H = F.H j) (h : F.inv j) : F.Has tm H := ⟨j, h, h1, h2⟩
theorem nxt_of {F : Fam} {i j : F.ι} {tm : List (Nat × S)} {H : List Blk} (h1 : tm = F.tm j) (h2 : H = F.H j) (h : F.inv j) (hm : F.mu j < F.mu i) : F.Nxt i tm H := ⟨j, ⟨h, hm⟩, h1, h2⟩
theorem fun_ofw {P : Program} {f : FuncId} {fn : Func} (hf : P.funcs[f]? = some fn) (hb : fn.body.isNone = false) (hn : (fn.name == "runtime.NumGoroutine") = false) {args : List V} {L L' : List Blk} {r : S} {w : DT Unit × Prop}
    (hw : walkT P fn args L w.1 (fun _ r' Lp => r' = r ∧ Lp = L') = w.2) (h : w.2) : Fun P f args L r L' := fun_of hf hb hn hw h
theorem dsp {p : Prop} [Decidable p] {A B : Prop} (h1 : decide p = true → p → A) (h2 : decide p = false → ¬ p → B) : (decide p = true → A) ∧ (decide p = false → B) := ⟨fun h => h1 h (of_decide_eq_true h), fun h => h2 h (of_decide_eq_false h)⟩
/-! ### Structures -/
structure Scn where
  bits : Int
  have_ : Int
  deriving DecidableEq, Inhabited
structure Utf where
  want : Int
  low : Int
  high : Int
  deriving DecidableEq, Inhabited
structure Pln where
  shapes : List Shp
  root : Int
  deep : Int
  most : Int
  deriving DecidableEq, Inhabited
structure Dcd where
  plan : Pln
  mode : Int
  stack : List Lev
  scan : Scn
  start : Int
  at_ : Int
  field : Fld
  wire : Int
  want : Int
  utf : Utf
  end_ : Ev
  deriving DecidableEq, Inhabited
def fld0 : Fld := ⟨0, 0, false, false, 0⟩
def ev0 : Ev := ⟨0, 0, 0, 0, [], 0, 0⟩
def utf0 : Utf := ⟨0, 0, 0⟩
def scn0 : Scn := ⟨0, 0⟩
theorem drop_el {α : Type} {l : List α} {i : Nat} {x : α} (h : l[i]? = some x) : l.drop i = x :: l.drop (i + 1) := by
  have hl := (List.getElem?_eq_some_iff.1 h).1
  rw [List.drop_eq_getElem_cons hl]
  congr 1
  rw [List.getElem?_eq_getElem hl] at h
  exact Option.some.inj h
theorem bnot_t {b : Bool} (h : (!b) = true) : b = false := by cases b <;> simp_all
theorem bnot_f {b : Bool} (h : (!b) = false) : b = true := by cases b <;> simp_all
theorem getD_of {α : Type} {l : List α} {i : Nat} {x d : α} (h : l[i]? = some x) : l.getD i d = x := by simp [List.getD, h]
theorem drop_end {α : Type} {l : List α} {i : Nat} (h : ¬ ((i : Nat) : Int) < ((l.length : Nat) : Int)) : l.drop i = [] := List.drop_eq_nil_of_le (by omega)
/-! ### Words of numbers -/
theorem as_tmod {k : IntKind} {a m : Int} (h : 0 ≤ a) : (.v (.c (.int k (Int.tmod a m))) : S) = .v (.c (.int k (a % m))) := by rw [Int.tmod_eq_emod_of_nonneg h]
theorem as_tdiv_u64 {a m : Int} (h : 0 ≤ a) (h2 : a ≤ 18446744073709551615) (hm : 0 < m) : (.v (.c (.int .u64 (IntKind.u64.wrap (Int.tdiv a m)))) : S) = .v (.c (.int .u64 (a / m))) := by
  rw [Int.tdiv_eq_ediv_of_nonneg h]
  have h3 := Int.ediv_nonneg h (Int.le_of_lt hm)
  have h4 := Int.ediv_le_self m h
  exact as_u64 (by omega) (by omega)
theorem or_add {a b : Int} {k : Nat} (ha : 0 ≤ a) (hk : a < 2 ^ k) {c : Int} (hc : 0 ≤ c) (hb : b = c * 2 ^ k) (hs : b + 2 ^ k ≤ 18446744073709551616) : (((BitVec.ofInt 64 a ||| BitVec.ofInt 64 b).toNat : Nat) : Int) = a + b := by
  obtain ⟨n, rfl⟩ := Int.eq_ofNat_of_zero_le ha
  obtain ⟨m, rfl⟩ := Int.eq_ofNat_of_zero_le hc
  have hb' : b = ((m * 2 ^ k : Nat) : Int) := by rw [hb, Int.natCast_mul, Int.natCast_pow]; rfl
  have hp : (0 : Int) < 2 ^ k := Int.pow_pos (by decide)
  subst hb'
  have e : ((2 ^ k : Nat) : Int) = 2 ^ k := by rw [Int.natCast_pow]; rfl
  rw [← e] at hk hs hp
  have h1 : n < 2 ^ k := by omega
  have h2 : m * 2 ^ k + 2 ^ k ≤ 18446744073709551616 := by omega
  have h3 : n < 2 ^ 64 := by omega
  have h4 : m * 2 ^ k < 2 ^ 64 := by omega
  rw [BitVec.toNat_or, BitVec.ofInt_natCast, BitVec.ofInt_natCast, BitVec.toNat_ofNat, BitVec.toNat_ofNat, Nat.mod_eq_of_lt h3, Nat.mod_eq_of_lt h4, Nat.or_comm, Nat.mul_comm m, ← Nat.two_pow_add_eq_or_of_lt h1]
  rw [Nat.mul_comm, Int.natCast_add, Int.add_comm]
/-! ### Kinds, wires, numbers -/
def numberOk (n : Int) : Bool := within n 1 536870911 && !within n 19000 19999
def wireOk (w : Int) : Bool := decide (w = 0) || decide (w = 1) || decide (w = 2) || decide (w = 5)
def kindOk (k : Int) : Bool := within k 1 8
def numeric (k : Int) : Bool := within k 1 5
def wireOf (k : Int) : Int := if kindOk k then (if k = 4 then 5 else if k = 5 then 1 else if k ≤ 3 then 0 else 2) else -1
def widthOf (w : Int) : Int := if w = 1 then 8 else if w = 5 then 4 else 0
def runs (f : Fld) : Bool := f.rep && numeric f.kind
def allowed (f : Fld) (w : Int) : Bool := decide (w = wireOf f.kind) || (decide (w = 2) && runs f)
def hasField (k : Int) : Bool := decide (k = 2) || decide (k = 3) || decide (k = 6)
theorem widthOf_b (w : Int) : 0 ≤ widthOf w ∧ widthOf w ≤ 8 := by unfold widthOf; split <;> (try split) <;> omega
def fldOk (f : Fld) (n : Int) : Bool := numberOk f.number && kindOk f.kind && !(f.packed && (!f.rep || !numeric f.kind)) && (if f.kind = 8 then within f.msg 0 (n - 1) else decide (f.msg = -1))
def fieldsOk (n : Int) : Int → List Fld → Bool
  | _, [] => true
  | b, f :: r => decide (b < f.number) && fldOk f n && fieldsOk n f.number r
def shapesOk (n : Int) : Int → List Shp → Bool
  | _, [] => true
  | b, x :: r => decide (b < x.id) && decide (x.id ≤ 99) && decide ((x.fields.length : Int) ≤ 8) && fieldsOk n 0 x.fields && shapesOk n x.id r
def schemaOk (l : List Shp) : Bool := decide ((l.length : Int) ≤ 6) && shapesOk (l.length : Int) 0 l
def fieldIn (l : List Fld) (n : Int) : Option Fld := l.find? fun f => decide (f.number = n)
def shp0 : Shp := ⟨0, []⟩
def fieldAt (l : List Shp) (s n : Int) : Option Fld := if within s 0 ((l.length : Int) - 1) then fieldIn (l.getD s.toNat shp0).fields n else none
def planOk (p : Pln) : Bool := schemaOk p.shapes && within p.root 0 ((p.shapes.length : Int) - 1) && within p.deep 1 8 && within p.most 0 2000
theorem fldOk_t {f : Fld} {n : Int} (h : fldOk f n = true) : 1 ≤ f.number ∧ f.number ≤ 536870911 ∧ 1 ≤ f.kind ∧ f.kind ≤ 8 ∧ (f.kind = 8 → 0 ≤ f.msg ∧ f.msg ≤ n - 1) ∧ (f.kind ≠ 8 → f.msg = -1) := by
  simp only [fldOk, numberOk, kindOk, within, Bool.and_eq_true, decide_eq_true_eq] at h
  obtain ⟨⟨⟨h1, h2⟩, h3⟩, h4⟩ := h
  refine ⟨h1.1.1, h1.1.2, h2.1, h2.2, fun hk => ?_, fun hk => ?_⟩
  · rw [if_pos hk] at h4; simpa using h4
  · rw [if_neg hk] at h4; simpa using h4
theorem schemaOk_t {l : List Shp} (h : schemaOk l = true) : l.length ≤ 6 := by
  simp only [schemaOk, Bool.and_eq_true, decide_eq_true_eq] at h; omega
theorem planOk_t {p : Pln} (h : planOk p = true) : p.shapes.length ≤ 6 ∧ schemaOk p.shapes = true ∧ 0 ≤ p.root ∧ p.root < (p.shapes.length : Int) ∧ 1 ≤ p.deep ∧ p.deep ≤ 8 ∧ 0 ≤ p.most ∧ p.most ≤ 2000 := by
  simp only [planOk, within, Bool.and_eq_true, decide_eq_true_eq] at h
  have := schemaOk_t h.1.1.1
  refine ⟨this, h.1.1.1, ?_⟩; omega
theorem fieldsOk_mem {n : Int} : ∀ {b : Int} {l : List Fld}, fieldsOk n b l = true → ∀ f ∈ l, fldOk f n = true ∧ b < f.number
  | _, [], _, f, hf => by cases hf
  | b, g :: r, h, f, hf => by
    simp only [fieldsOk, Bool.and_eq_true, decide_eq_true_eq] at h
    rcases List.mem_cons.1 hf with rfl | hf
    · exact ⟨h.1.2, h.1.1⟩
    · have := fieldsOk_mem h.2 f hf; exact ⟨this.1, by omega⟩
theorem shapesOk_mem {n : Int} : ∀ {b : Int} {l : List Shp}, shapesOk n b l = true → ∀ x ∈ l, (x.fields.length ≤ 8 ∧ fieldsOk n 0 x.fields = true) ∧ b < x.id ∧ x.id ≤ 99
  | _, [], _, f, hf => by cases hf
  | b, g :: r, h, f, hf => by
    simp only [shapesOk, Bool.and_eq_true, decide_eq_true_eq] at h
    rcases List.mem_cons.1 hf with rfl | hf
    · exact ⟨⟨by omega, h.1.2⟩, h.1.1.1.1, h.1.1.1.2⟩
    · have := shapesOk_mem h.2 f hf; exact ⟨this.1, by omega, this.2.2⟩
theorem schemaOk_fields {l : List Shp} (h : schemaOk l = true) : ∀ x ∈ l, List.length x.fields ≤ 1000 := fun x hx => by
  simp only [schemaOk, Bool.and_eq_true] at h
  have := (shapesOk_mem h.2 x hx).1.1
  omega
theorem fieldAt_ok {l : List Shp} {s n : Int} {f : Fld} (hl : schemaOk l = true) (h : fieldAt l s n = some f) : fldOk f (l.length : Int) = true ∧ f.number = n := by
  unfold fieldAt at h
  split at h
  · rename_i hs
    have hs := within_t hs
    simp only [schemaOk, Bool.and_eq_true, decide_eq_true_eq] at hl
    have hm : l.getD s.toNat shp0 ∈ l := by
      rw [List.getD_eq_getElem?_getD, List.getElem?_eq_getElem (by omega)]
      exact List.getElem_mem _
    have hx := (shapesOk_mem hl.2 _ hm).1.2
    have hf := List.mem_of_find?_eq_some h
    have hp := List.find?_some h
    exact ⟨(fieldsOk_mem hx f hf).1, by simpa using hp⟩
  · cases h
/-! ### Tags -/
def tagOk (u : Int) : Bool := within u 8 4294967295
def tagNum (u : Int) : Int := if tagOk u then u / 8 else 0
def tagWire (u : Int) : Int := if tagOk u then u % 8 else 0
def utfIs (u : Utf) (w l h : Int) : Bool := decide (u.want = w) && (decide (u.low = l) && decide (u.high = h))
def utfOk (u : Utf) : Bool := utfIs u 0 0 0 || utfIs u 1 128 191 || utfIs u 2 128 191 || utfIs u 3 128 191 || utfIs u 2 160 191 || utfIs u 2 128 159 || utfIs u 3 144 191 || utfIs u 3 128 143
theorem utfOk_t {u : Utf} (h : utfOk u = true) : (u.want = 0 ∧ u.low = 0 ∧ u.high = 0) ∨ (u.want = 1 ∧ u.low = 128 ∧ u.high = 191) ∨ (u.want = 2 ∧ u.low = 128 ∧ u.high = 191) ∨ (u.want = 3 ∧ u.low = 128 ∧ u.high = 191) ∨ (u.want = 2 ∧ u.low = 160 ∧ u.high = 191) ∨ (u.want = 2 ∧ u.low = 128 ∧ u.high = 159) ∨ (u.want = 3 ∧ u.low = 144 ∧ u.high = 191) ∨ (u.want = 3 ∧ u.low = 128 ∧ u.high = 143) := by
  simp only [utfOk, utfIs, Bool.or_eq_true, Bool.and_eq_true, decide_eq_true_eq] at h
  rcases h with ((((((h | h) | h) | h) | h) | h) | h) | h <;> simp [h]
theorem utfOk_zero {u : Utf} (h : utfOk u = true) (h0 : u.want = 0) : u = utf0 := by
  rcases utfOk_t h with h | h | h | h | h | h | h | h <;> first | (cases u; simp_all [utf0]; done) | omega
theorem utfOk_want {u : Utf} (h : utfOk u = true) : 0 ≤ u.want ∧ u.want ≤ 3 := by
  rcases utfOk_t h with h | h | h | h | h | h | h | h <;> omega
def utfFirst (b : Int) : Option Utf :=
  if within b 0 127 then some utf0
  else if within b 194 223 then some ⟨1, 128, 191⟩
  else if within b 224 239 then some ⟨2, if b = 224 then 160 else 128, if b = 237 then 159 else 191⟩
  else if within b 240 244 then some ⟨3, if b = 240 then 144 else 128, if b = 244 then 143 else 191⟩
  else none
def utfByte (u : Utf) (b : Int) : Option Utf :=
  if utfOk u then (if u.want = 0 then utfFirst b else if within b u.low u.high then some (if u.want = 1 then utf0 else ⟨u.want - 1, 128, 191⟩) else none) else none
def failEv (c a : Int) : Ev := ⟨10, 0, 0, 0, [], c, a⟩
def numEv (f : Fld) (u : Int) : Ev := ⟨2, f.number, if f.kind = 3 ∧ u ≠ 0 then 1 else u, 0, [], 0, 0⟩
theorem fieldIn_cons {f : Fld} {l : List Fld} {n : Int} : fieldIn (f :: l) n = if f.number = n then some f else fieldIn l n := by
  unfold fieldIn; rw [List.find?_cons]; by_cases h : f.number = n <;> simp [h]
theorem fieldAt_in {l : List Shp} {s n : Int} {x : Shp} (hs : within s 0 ((l.length : Int) - 1) = true) (hx : l[s.toNat]? = some x) : fieldAt l s n = fieldIn x.fields n := by
  rw [fieldAt, if_pos hs, getD_of hx]
def many (l : List Ev) (k : Int) : Int := ((l.filter fun e => decide (e.kind = k)).length : Int)
structure Fa where
  stack : List Int
  inText : Bool
  isText : Bool
  utf : Utf
  ended : Bool
  deriving Inhabited
structure Fmr where
  plan : Pln
  st : Fa
structure Fs where
  stack : List Int
  field : Fld
  open_ : Bool
  utf : Utf
  ended : Bool
def isBytes (k : Int) : Bool := decide (k = 6) || decide (k = 7)
theorem utfFirst_ok {b : Int} {u : Utf} (h : utfFirst b = some u) : utfOk u = true := by
  unfold utfFirst at h
  repeat' split at h
  all_goals first | (cases h; done) | (cases h; first | decide | (exfalso; omega) | (simp only [utfOk, utfIs]; simp_all; done) | (simp only [utfOk, utfIs]; simp_all; omega))
theorem utfByte_ok {u v : Utf} {b : Int} (h : utfByte u b = some v) : utfOk v = true := by
  unfold utfByte at h
  split at h
  · rename_i hu
    have hw := utfOk_want hu
    split at h
    · exact utfFirst_ok h
    · split at h
      · split at h
        · cases h; decide
        · cases h
          rcases utfOk_t hu with h | h | h | h | h | h | h | h <;> simp_all [utfOk, utfIs]
      · cases h
  · cases h
def cEv (x : Ev) : List C := [.int .i64 x.kind, .int .i64 x.field, .int .u64 x.bits, .int .i64 x.len, .str x.text, .int .i64 x.code, .int .i64 x.at_]
def cFld (x : Fld) : List C := [.int .i64 x.number, .int .i64 x.kind, .bool x.rep, .bool x.packed, .int .i64 x.msg]
def cShp (x : Shp) : List C := [.int .i64 x.id, .seq .fld x.fields]
def cLev (x : Lev) : List C := [.int .i64 x.msg, .int .i64 x.left]
def cScn (x : Scn) : List C := [.int .u64 x.bits, .int .i64 x.have_]
def cUtf (x : Utf) : List C := [.int .i64 x.want, .int .i64 x.low, .int .i64 x.high]
def cPln (x : Pln) : List C := [.seq .shp x.shapes, .int .i64 x.root, .int .i64 x.deep, .int .i64 x.most]
def cDcd (x : Dcd) : List C := [.seq .shp x.plan.shapes, .int .i64 x.plan.root, .int .i64 x.plan.deep, .int .i64 x.plan.most, .int .i64 x.mode, .seq .lev x.stack, .int .u64 x.scan.bits, .int .i64 x.scan.have_, .int .i64 x.start, .int .i64 x.at_, .int .i64 x.field.number, .int .i64 x.field.kind, .bool x.field.rep, .bool x.field.packed, .int .i64 x.field.msg, .int .i64 x.wire, .int .i64 x.want, .int .i64 x.utf.want, .int .i64 x.utf.low, .int .i64 x.utf.high, .int .i64 x.end_.kind, .int .i64 x.end_.field, .int .u64 x.end_.bits, .int .i64 x.end_.len, .str x.end_.text, .int .i64 x.end_.code, .int .i64 x.end_.at_]
def oDcd0_5 (j0 : Nat) (j5 : Nat) (x : Dcd) : List C := [.own j0, .int .i64 x.plan.root, .int .i64 x.plan.deep, .int .i64 x.plan.most, .int .i64 x.mode, .own j5, .int .u64 x.scan.bits, .int .i64 x.scan.have_, .int .i64 x.start, .int .i64 x.at_, .int .i64 x.field.number, .int .i64 x.field.kind, .bool x.field.rep, .bool x.field.packed, .int .i64 x.field.msg, .int .i64 x.wire, .int .i64 x.want, .int .i64 x.utf.want, .int .i64 x.utf.low, .int .i64 x.utf.high, .int .i64 x.end_.kind, .int .i64 x.end_.field, .int .u64 x.end_.bits, .int .i64 x.end_.len, .str x.end_.text, .int .i64 x.end_.code, .int .i64 x.end_.at_]
def oPln0 (j0 : Nat) (x : Pln) : List C := [.own j0, .int .i64 x.root, .int .i64 x.deep, .int .i64 x.most]
def lev0 : Lev := ⟨0, 0⟩
def topL (d : Dcd) : Int := (d.stack.getD (d.stack.length - 1) lev0).left
def levOk (n : Int) (l : Lev) : Bool := within l.msg 0 (n - 1) && within l.left 0 2000
def levelsOk (d : Dcd) : Bool := planOk d.plan && decide ((d.stack.length : Int) ≤ d.plan.deep) && d.stack.all (levOk (d.plan.shapes.length : Int))
def levN (n : Int) : List Lev → Nat
  | [] => 0
  | l :: r => if levOk n l then levN n r + 1 else 0
theorem levN_cons {n : Int} {l : Lev} {r : List Lev} : levN n (l :: r) = if levOk n l then levN n r + 1 else 0 := rfl
theorem levN_all (n : Int) : ∀ l : List Lev, l.all (levOk n) = decide (levN n l = l.length)
  | [] => rfl
  | l :: r => by
    rw [List.all_cons, levN_all n r, levN_cons]
    cases h : levOk n l with
    | true => rw [if_pos rfl]; simp
    | false => rw [if_neg (by simp)]; simp
def badLev (n : Int) (l : List Lev) : Int := if levN n l = l.length then -1 else (levN n l : Int)
def scanOk (s : Scn) : Bool := within s.have_ 0 9 && decide (Int.fdiv s.bits (2 ^ min (Int.toNat (7 * s.have_)) 64) = 0)
def widthD (d : Dcd) : Int := if d.mode = 5 then widthOf d.wire else if d.mode = 8 then widthOf (wireOf d.field.kind) else 0
def roomD (d : Dcd) : Int := if d.mode = 8 then d.want else topL d
def scanD (d : Dcd) : Bool := if 0 < widthD d then within d.scan.have_ 0 (widthD d - 1) && decide (Int.fdiv d.scan.bits (2 ^ min (Int.toNat (8 * d.scan.have_)) 64) = 0) && decide (widthD d - d.scan.have_ ≤ roomD d)
  else if d.mode = 6 ∨ d.mode = 7 ∨ d.mode = 9 then decide (d.scan = scn0) else scanOk d.scan
def wantD (d : Dcd) : Bool := if d.mode = 6 ∨ d.mode = 7 ∨ d.mode = 8 then within d.want 1 (topL d) else decide (d.want = 0)
def fitD (d : Dcd) : Bool := decide (d.field = fld0) || allowed d.field d.wire
def kindD (d : Dcd) : Bool := if d.mode = 6 then isBytes d.field.kind else if d.mode = 8 then runs d.field else if d.mode = 3 then decide (d.wire = 0) && fitD d else if d.mode = 4 then decide (d.wire = 2) && fitD d else if d.mode = 5 then decide (0 < widthOf d.wire) && fitD d else true
def knownN (l : List Shp) (f : Fld) : Nat → Bool
  | 0 => false
  | k + 1 => knownN l f k || decide (fieldAt l (k : Int) f.number = some f)
def known (l : List Shp) (f : Fld) : Bool := knownN l f l.length
def isEvent (k : Int) : Bool := within k 1 10
def bareEv (e : Ev) : Ev := ⟨e.kind, if e.kind = 2 ∨ e.kind = 3 ∨ e.kind = 6 then e.field else 0, if e.kind = 2 then e.bits else 0, if e.kind = 1 ∨ e.kind = 3 ∨ e.kind = 6 then e.len else 0, if e.kind = 4 then e.text else [], if e.kind = 10 then e.code else 0, if e.kind = 9 ∨ e.kind = 10 then e.at_ else 0⟩
def isBare (e : Ev) : Bool := decide (e = bareEv e)
def eventOk (e : Ev) : Bool := isEvent e.kind && isBare e && decide (0 ≤ e.len) && decide (0 ≤ e.at_) && (if hasField e.kind then within e.field 1 536870911 else if e.kind = 4 then !decide (e.text = []) else if e.kind = 10 then decide (1 ≤ e.code) else true)
def terminal (e : Ev) : Bool := decide (e.kind = 9) || decide (e.kind = 10)
def endD (d : Dcd) : Bool := if d.mode = 9 then eventOk d.end_ && terminal d.end_ else decide (d.end_ = ev0)
def stackD (d : Dcd) : Bool := if d.mode = 1 then decide (d.stack = []) else if d.mode = 9 then true else decide (1 ≤ topL d)
def decOk (d : Dcd) : Bool := levelsOk d && within d.mode 1 9 && within d.at_ 0 1000000000 && within d.start 0 d.at_ && utfOk d.utf && wireOk d.wire && (decide (d.field = fld0) || known d.plan.shapes d.field) && endD d && stackD d && wantD d && kindD d && scanD d
theorem fld_eq {o f : Fld} (h : o.number = f.number ∧ o.kind = f.kind ∧ o.rep = f.rep ∧ o.packed = f.packed ∧ o.msg = f.msg) : o = f := by
  cases o; cases f; simp_all
theorem fld_ne {o f : Fld} (h : o.number = f.number → o.kind = f.kind → o.rep = f.rep → o.packed = f.packed → ¬ o.msg = f.msg) : o ≠ f := fun e => by subst e; exact h rfl rfl rfl rfl rfl
theorem knownN_mono {l : List Shp} {f : Fld} : ∀ {k m : Nat}, k ≤ m → knownN l f k = true → knownN l f m = true
  | k, 0, h, hk => by rw [show k = 0 by omega] at hk; exact hk
  | k, m + 1, h, hk => by
    by_cases e : k = m + 1
    · rw [← e]; exact hk
    · rw [knownN, knownN_mono (m := m) (by omega) hk]; rfl
theorem known_of {l : List Shp} {f : Fld} {k : Nat} (h : k < l.length) (hf : fieldAt l (k : Int) f.number = some f) : known l f = true := by
  have : knownN l f (k + 1) = true := by rw [knownN, hf]; simp
  exact knownN_mono (show k + 1 ≤ l.length by omega) this
theorem knownN_next {l : List Shp} {f : Fld} {k : Nat} (h : knownN l f k = false) (hf : fieldAt l (k : Int) f.number ≠ some f) : knownN l f (k + 1) = false := by
  rw [knownN, h]; simp [hf]
theorem known_no {l : List Shp} {f : Fld} {k : Nat} (h : knownN l f k = false) (hk : l.length = k) : known l f = false := by unfold known; rw [hk]; exact h
theorem fld_zero {f : Fld} (h : f.number = 0 ∧ f.kind = 0 ∧ f.rep = false ∧ f.packed = false ∧ f.msg = 0) : f = fld0 := fld_eq h
def stackS (d : Dcd) : Bool := d.stack.all (levOk (d.plan.shapes.length : Int)) && (if d.mode = 1 then decide ((d.stack.length : Int) = 0) else if d.mode = 9 then decide ((d.stack.length : Int) ≤ d.plan.deep) else within (d.stack.length : Int) 1 d.plan.deep && decide (1 ≤ topL d))
def fixS (d : Dcd) : Bool := within d.scan.have_ 0 (widthD d - 1) && decide (Int.fdiv d.scan.bits (2 ^ min (Int.toNat (8 * d.scan.have_)) 64) = 0) && decide (widthD d - d.scan.have_ ≤ roomD d)
def scanS (d : Dcd) : Bool := if d.mode = 6 ∨ d.mode = 7 ∨ d.mode = 9 then decide (d.scan = scn0) else if d.mode = 5 then fixS d else if d.mode = 8 then (if widthD d = 0 then scanOk d.scan else fixS d) else scanOk d.scan
def wiresS (d : Dcd) : Bool := (decide (d.mode = 3) && !decide (d.wire = 0)) || (decide (d.mode = 4) && !decide (d.wire = 2)) || (decide (d.mode = 5) && decide (widthOf d.wire = 0))
def decOkS (d : Dcd) : Bool := planOk d.plan && within d.mode 1 9 && within d.at_ 0 1000000000 && within d.start 0 d.at_ && utfOk d.utf && wireOk d.wire && (decide (d.field = fld0) || known d.plan.shapes d.field) && stackS d && endD d && wantD d && !wiresS d && !(within d.mode 3 5 && !decide (d.field = fld0) && !allowed d.field d.wire) && (!decide (d.mode = 6) || isBytes d.field.kind) && (!decide (d.mode = 8) || runs d.field) && scanS d
theorem topL_nil {d : Dcd} (h : d.stack = []) : topL d = 0 := by unfold topL; rw [h]; rfl
theorem widthOf_cases (w : Int) : widthOf w = 0 ∨ widthOf w = 4 ∨ widthOf w = 8 := by unfold widthOf; split <;> (try split) <;> omega
theorem decOkS_eq (d : Dcd) : decOkS d = decOk d := by
  have hw := widthOf_cases d.wire
  have hw2 := widthOf_cases (wireOf d.field.kind)
  by_cases hm : within d.mode 1 9 = true
  · have hm := within_t hm
    have hp : planOk d.plan = true → 1 ≤ d.plan.deep := fun h => (planOk_t h).2.2.2.2.1
    have ht := @topL_nil d
    obtain ⟨⟨sh, ro, de, mo⟩, m, st, sc, sa, a, f, w, wa, u, e⟩ := d
    simp only at hm hw hw2 hp ht
    have hs : (decide (st = []) : Bool) = decide ((st.length : Int) = 0) := by cases st <;> simp <;> omega
    have hl : ∀ x : Lev, (([] : List Lev).length : Int) = 0 := fun _ => rfl
    rcases (show m = 1 ∨ m = 2 ∨ m = 3 ∨ m = 4 ∨ m = 5 ∨ m = 6 ∨ m = 7 ∨ m = 8 ∨ m = 9 by omega) with rfl | rfl | rfl | rfl | rfl | rfl | rfl | rfl | rfl <;>
      rw [Bool.eq_iff_iff] <;> simp [decOkS, decOk, levelsOk, stackS, stackD, wiresS, scanS, fixS, scanD, kindD, fitD, wantD, roomD, widthD, hs, within] <;> grind
  · have hm : within d.mode 1 9 = false := by simpa using hm
    simp [decOkS, decOk, hm]
theorem ev_eq {e f : Ev} (h : e.kind = f.kind ∧ e.field = f.field ∧ e.bits = f.bits ∧ e.len = f.len ∧ e.text = f.text ∧ e.code = f.code ∧ e.at_ = f.at_) : e = f := by cases e; cases f; simp_all
theorem isBare_t {e : Ev} (h : e.kind = (bareEv e).kind ∧ e.field = (bareEv e).field ∧ e.bits = (bareEv e).bits ∧ e.len = (bareEv e).len ∧ e.text = (bareEv e).text ∧ e.code = (bareEv e).code ∧ e.at_ = (bareEv e).at_) : isBare e = true := decide_eq_true (ev_eq h)
theorem isBare_eq {e f : Ev} (h : bareEv e = f) : isBare e = (decide (e.kind = f.kind) && (decide (e.field = f.field) && (decide (e.bits = f.bits) && (decide (e.len = f.len) && (decide (e.text = f.text) && (decide (e.code = f.code) && decide (e.at_ = f.at_))))))) := by
  subst h
  rw [Bool.eq_iff_iff]
  simp only [Bool.and_eq_true, decide_eq_true_eq]
  constructor
  · intro h
    have h : e = bareEv e := of_decide_eq_true h
    exact ⟨congrArg Ev.kind h, congrArg Ev.field h, congrArg Ev.bits h, congrArg Ev.len h, congrArg Ev.text h, congrArg Ev.code h, congrArg Ev.at_ h⟩
  · exact fun h => isBare_t h
structure Mac where
  d : Dcd
  out : List Ev
def evShut : Ev := ⟨5, 0, 0, 0, [], 0, 0⟩
def evUp : Ev := ⟨7, 0, 0, 0, [], 0, 0⟩
def evFrmEnd : Ev := ⟨8, 0, 0, 0, [], 0, 0⟩
def evFrm (n : Int) : Ev := ⟨1, 0, 0, n, [], 0, 0⟩
def evDwn (f n : Int) : Ev := ⟨6, f, 0, n, [], 0, 0⟩
def evOpn (f n : Int) : Ev := ⟨3, f, 0, n, [], 0, 0⟩
def evPrt (b : Int) : Ev := ⟨4, 0, 0, 0, [toByte b], 0, 0⟩
def dFail (d : Dcd) (c a : Int) : Dcd := ⟨d.plan, 9, d.stack, ⟨0, 0⟩, d.start, d.at_, d.field, d.wire, 0, d.utf, failEv c a⟩
def mFail (m : Mac) (c a : Int) : Mac := ⟨dFail m.d c a, m.out ++ [failEv c a]⟩
def closeM (m : Mac) : Option Mac :=
  if m.d.mode = 6 ∧ m.d.want < 1 then
    (if 0 < m.d.utf.want then some (mFail m 5 m.d.at_) else some ⟨⟨m.d.plan, 2, m.d.stack, m.d.scan, m.d.start, m.d.at_, m.d.field, m.d.wire, 0, ⟨0, 0, 0⟩, m.d.end_⟩, m.out ++ [evShut]⟩)
  else if (m.d.mode = 7 ∨ (m.d.mode = 8 ∧ m.d.scan.have_ = 0)) ∧ m.d.want < 1 then some ⟨⟨m.d.plan, 2, m.d.stack, m.d.scan, m.d.start, m.d.at_, m.d.field, m.d.wire, 0, m.d.utf, m.d.end_⟩, m.out⟩
  else if m.d.mode = 2 ∧ m.d.scan.have_ = 0 ∧ 0 < m.d.stack.length ∧ topL m.d = 0 then
    some (if m.d.stack.length = 1 then ⟨⟨m.d.plan, 1, m.d.stack.take (m.d.stack.length - 1), m.d.scan, m.d.start, m.d.at_, m.d.field, m.d.wire, m.d.want, m.d.utf, m.d.end_⟩, m.out ++ [evFrmEnd]⟩
      else ⟨⟨m.d.plan, m.d.mode, m.d.stack.take (m.d.stack.length - 1), m.d.scan, m.d.start, m.d.at_, m.d.field, m.d.wire, m.d.want, m.d.utf, m.d.end_⟩, m.out ++ [evUp]⟩)
  else none
def wM (m : Mac) : Nat := m.d.stack.length + (if m.d.mode = 6 ∨ m.d.mode = 7 ∨ m.d.mode = 8 then 2 else if m.d.mode = 2 then 1 else 0)
theorem closeM_dec {m q : Mac} (h : closeM m = some q) : wM q < wM m ∧ q.out.length ≤ m.out.length + 1 := by
  unfold closeM at h
  split at h
  · rename_i h1
    split at h
    · cases h; simp [wM, mFail, dFail, h1.1]
    · cases h; simp [wM, h1.1]
  · split at h
    · rename_i h1
      cases h
      rcases h1.1 with h2 | h2
      · simp [wM, h2]
      · simp [wM, h2.1]
    · split at h
      · rename_i h1
        cases h
        have := h1.2.2.1
        split
        · simp [wM, h1.1]; omega
        · simp [wM, h1.1]; omega
      · cases h
def settleM (m : Mac) : Mac := match h : closeM m with
  | none => m
  | some q => settleM q
termination_by wM m
decreasing_by exact (closeM_dec h).1
theorem settleM_some {m q : Mac} (h : closeM m = some q) : settleM m = settleM q := by
  rw [settleM]
  split
  · rename_i h1; rw [h] at h1; cases h1
  · rename_i x h1; rw [h] at h1; cases h1; rfl
theorem settleM_none {m : Mac} (h : closeM m = none) : settleM m = m := by
  rw [settleM]
  split
  · rfl
  · rename_i x h1; rw [h] at h1; cases h1
def frameM (m : Mac) (u : Int) : Mac :=
  if m.d.plan.most < u then mFail m 7 m.d.start
  else settleM ⟨⟨m.d.plan, 2, [⟨m.d.plan.root, u⟩], ⟨0, 0⟩, m.d.start, m.d.at_, m.d.field, m.d.wire, m.d.want, m.d.utf, m.d.end_⟩, m.out ++ [evFrm u]⟩
def lastL (d : Dcd) : Lev := d.stack.getD (d.stack.length - 1) lev0
def tagM (m : Mac) (u : Int) : Mac :=
  if tagOk u = false ∨ m.d.stack.length = 0 then mFail m 2 m.d.start
  else if wireOk (tagWire u) = false then mFail m 3 m.d.start
  else if (fieldAt m.d.plan.shapes (lastL m.d).msg (tagNum u)).isSome = true ∧ allowed ((fieldAt m.d.plan.shapes (lastL m.d).msg (tagNum u)).getD fld0) (tagWire u) = false then mFail m 4 m.d.start
  else if topL m.d < max (widthOf (tagWire u)) 1 then mFail ⟨⟨m.d.plan, m.d.mode, m.d.stack, ⟨0, 0⟩, m.d.start, m.d.at_, (fieldAt m.d.plan.shapes (lastL m.d).msg (tagNum u)).getD fld0, tagWire u, m.d.want, m.d.utf, m.d.end_⟩, m.out⟩ 9 m.d.at_
  else ⟨⟨m.d.plan, if tagWire u = 0 then 3 else if tagWire u = 2 then 4 else 5, m.d.stack, ⟨0, 0⟩, m.d.start, m.d.at_, (fieldAt m.d.plan.shapes (lastL m.d).msg (tagNum u)).getD fld0, tagWire u, m.d.want, m.d.utf, m.d.end_⟩, m.out⟩
def longM (m : Mac) (u : Int) : Mac :=
  if m.d.stack.length = 0 ∨ topL m.d < u then mFail m 8 m.d.start
  else if m.d.field = fld0 then settleM ⟨⟨m.d.plan, 7, m.d.stack, ⟨0, 0⟩, m.d.start, m.d.at_, m.d.field, m.d.wire, u, m.d.utf, m.d.end_⟩, m.out⟩
  else if m.d.field.kind = 8 then
    (if m.d.plan.deep ≤ (m.d.stack.length : Int) then mFail m 6 m.d.start
    else settleM ⟨⟨m.d.plan, 2, m.d.stack.set (m.d.stack.length - 1) ⟨(lastL m.d).msg, topL m.d - u⟩ ++ [⟨m.d.field.msg, u⟩], ⟨0, 0⟩, m.d.start, m.d.at_, m.d.field, m.d.wire, 0, m.d.utf, m.d.end_⟩, m.out ++ [evDwn m.d.field.number u]⟩)
  else if isBytes m.d.field.kind = true then settleM ⟨⟨m.d.plan, 6, m.d.stack, ⟨0, 0⟩, m.d.start, m.d.at_, m.d.field, m.d.wire, u, ⟨0, 0, 0⟩, m.d.end_⟩, m.out ++ [evOpn m.d.field.number u]⟩
  else if 0 < u ∧ u < widthOf (wireOf m.d.field.kind) then mFail m 9 m.d.at_
  else settleM ⟨⟨m.d.plan, 8, m.d.stack, ⟨0, 0⟩, m.d.start, m.d.at_, m.d.field, m.d.wire, u, m.d.utf, m.d.end_⟩, m.out⟩
def valueM (m : Mac) (u : Int) : Mac := ⟨⟨m.d.plan, if m.d.mode = 8 then 8 else 2, m.d.stack, m.d.scan, m.d.start, m.d.at_, m.d.field, m.d.wire, m.d.want, m.d.utf, m.d.end_⟩, if m.d.field = fld0 then m.out else m.out ++ [numEv m.d.field u]⟩
def dScan (d : Dcd) (s : Scn) : Dcd := ⟨d.plan, d.mode, d.stack, s, d.start, d.at_, d.field, d.wire, d.want, d.utf, d.end_⟩
def scanByte (s : Scn) (b : Int) : Scn × Int :=
  if scanOk s = false ∨ within b 0 255 = false ∨ (s.have_ = 9 ∧ 1 < b) then (s, 2)
  else (⟨s.bits + b % 128 * 2 ^ (7 * s.have_.toNat), s.have_ + 1⟩, if b < 128 then 1 else 0)
def fixByte (s : Scn) (b : Int) : Scn := if within s.have_ 0 7 = true ∧ within b 0 255 = true then ⟨IntKind.u64.wrap (s.bits + IntKind.u64.wrap (b * 2 ^ min (Int.toNat (8 * s.have_)) 64)), s.have_ + 1⟩ else s
def startM (d : Dcd) (a : Int) : Dcd := ⟨d.plan, d.mode, d.stack, d.scan, if d.scan.have_ = 0 ∧ (d.mode = 1 ∨ d.mode = 2 ∨ d.mode = 4) then a else d.start, d.at_, d.field, d.wire, d.want, d.utf, d.end_⟩
def moreM (m q : Mac) : Mac := if (m.d.mode ≠ 1 ∧ topL m.d = 0) ∨ (m.d.mode = 8 ∧ m.d.want = 0) then mFail q 9 m.d.at_ else q
def varM (m : Mac) (b a : Int) : Mac :=
  if (scanByte m.d.scan b).2 = 2 then mFail ⟨startM m.d a, m.out⟩ 1 a
  else if (scanByte m.d.scan b).2 = 0 then moreM m ⟨dScan (startM m.d a) (scanByte m.d.scan b).1, m.out⟩
  else if m.d.mode = 1 then frameM ⟨dScan (startM m.d a) scn0, m.out⟩ (scanByte m.d.scan b).1.bits
  else if m.d.mode = 2 then tagM ⟨dScan (startM m.d a) scn0, m.out⟩ (scanByte m.d.scan b).1.bits
  else if m.d.mode = 4 then longM ⟨dScan (startM m.d a) scn0, m.out⟩ (scanByte m.d.scan b).1.bits
  else settleM (valueM ⟨dScan (startM m.d a) scn0, m.out⟩ (scanByte m.d.scan b).1.bits)
def fixM (m : Mac) (b : Int) : Mac :=
  if (fixByte m.d.scan b).have_ < widthD m.d then ⟨dScan m.d (fixByte m.d.scan b), m.out⟩
  else if m.d.mode = 8 ∧ 0 < m.d.want ∧ m.d.want < widthD m.d then mFail (valueM ⟨dScan m.d scn0, m.out⟩ (fixByte m.d.scan b).bits) 9 m.d.at_
  else settleM (valueM ⟨dScan m.d scn0, m.out⟩ (fixByte m.d.scan b).bits)
def dUtf (d : Dcd) (u : Utf) : Dcd := ⟨d.plan, d.mode, d.stack, d.scan, d.start, d.at_, d.field, d.wire, d.want, u, d.end_⟩
def textB (m : Mac) (b : Int) : Mac :=
  if m.d.field.kind = 6 then (match utfByte m.d.utf b with
    | none => mFail m 5 (m.d.at_ - 1)
    | some u => settleM ⟨dUtf m.d u, m.out ++ [evPrt b]⟩)
  else settleM ⟨m.d, m.out ++ [evPrt b]⟩
def stepD (d : Dcd) : Dcd := ⟨d.plan, d.mode, if d.stack.length = 0 then d.stack else d.stack.set (d.stack.length - 1) ⟨(lastL d).msg, topL d - 1⟩, d.scan, d.start, d.at_ + 1, d.field, d.wire, if d.mode = 6 ∨ d.mode = 7 ∨ d.mode = 8 then d.want - 1 else d.want, d.utf, d.end_⟩
def byteM (m : Mac) (b : Int) : Mac :=
  if m.d.mode = 6 then textB ⟨stepD m.d, m.out⟩ b
  else if m.d.mode = 7 then settleM ⟨stepD m.d, m.out⟩
  else if 0 < widthD m.d then fixM ⟨stepD m.d, m.out⟩ b
  else varM ⟨stepD m.d, m.out⟩ b m.d.at_
theorem closeM_len {m q : Mac} (h : closeM m = some q) : q.d.stack.length ≤ m.d.stack.length ∧ q.d.plan = m.d.plan := by
  unfold closeM at h
  split at h
  · split at h <;> (cases h; exact ⟨Nat.le_refl _, rfl⟩)
  · split at h
    · cases h; exact ⟨Nat.le_refl _, rfl⟩
    · split at h
      · cases h
        split <;> (refine ⟨?_, rfl⟩; simp only [List.length_take]; omega)
      · cases h
theorem settleM_out (m : Mac) : (settleM m).out.length ≤ m.out.length + wM m := by
  suffices ∀ (k : Nat) (m : Mac), wM m ≤ k → (settleM m).out.length ≤ m.out.length + wM m from this _ m (Nat.le_refl _)
  intro k
  induction k with
  | zero =>
    intro m hk
    cases h : closeM m with
    | none => rw [settleM_none h]; omega
    | some q => have := (closeM_dec h).1; omega
  | succ k ih =>
    intro m hk
    cases h : closeM m with
    | none => rw [settleM_none h]; omega
    | some q =>
      have h1 := closeM_dec h
      have := ih q (by omega)
      rw [settleM_some h]; omega
theorem wM_b (m : Mac) : wM m ≤ m.d.stack.length + 2 := by unfold wM; split <;> (try split) <;> omega
theorem levelsOk_b {d : Dcd} (h : levelsOk d = true) : planOk d.plan = true ∧ (d.stack.length : Int) ≤ d.plan.deep ∧ d.stack.length ≤ 8 ∧ (∀ l ∈ d.stack, levOk (d.plan.shapes.length : Int) l = true) := by
  simp only [levelsOk, Bool.and_eq_true, decide_eq_true_eq, List.all_eq_true] at h
  have := planOk_t h.1.1
  exact ⟨h.1.1, h.1.2, by omega, h.2⟩
theorem levelsOk_mk {d : Dcd} (h1 : planOk d.plan = true) (h2 : (d.stack.length : Int) ≤ d.plan.deep) (h3 : ∀ l ∈ d.stack, levOk (d.plan.shapes.length : Int) l = true) : levelsOk d = true := by
  simp only [levelsOk, Bool.and_eq_true, decide_eq_true_eq, List.all_eq_true]; exact ⟨⟨h1, h2⟩, h3⟩
theorem levelsOk_frame {d e : Dcd} {u : Int} (h : levelsOk d = true) (hp : e.plan = d.plan) (hs : e.stack = [⟨d.plan.root, u⟩]) (h0 : 0 ≤ u) (hu : u ≤ d.plan.most) : levelsOk e = true := by
  have hb := levelsOk_b h
  have ht := planOk_t hb.1
  refine levelsOk_mk (by rw [hp]; exact hb.1) (by rw [hs, hp]; simp; omega) fun l hl => ?_
  rw [hs] at hl
  simp at hl
  subst hl
  rw [hp]
  simp [levOk, within]; omega
theorem levelsOk_same {d e : Dcd} (h : levelsOk d = true) (hp : e.plan = d.plan) (hs : e.stack = d.stack) : levelsOk e = true := by
  have hb := levelsOk_b h
  exact levelsOk_mk (by rw [hp]; exact hb.1) (by rw [hs, hp]; exact hb.2.1) (by rw [hs, hp]; exact hb.2.2.2)
theorem knownN_fld {l : List Shp} {f : Fld} (hl : schemaOk l = true) : ∀ {k : Nat}, knownN l f k = true → fldOk f (l.length : Int) = true
  | 0, h => by cases h
  | k + 1, h => by
    simp only [knownN, Bool.or_eq_true, decide_eq_true_eq] at h
    rcases h with h | h
    · exact knownN_fld hl h
    · exact (fieldAt_ok hl h).1
theorem lastL_mem {d : Dcd} (h : d.stack.length ≠ 0) : lastL d ∈ d.stack := by
  unfold lastL
  rw [List.getD_eq_getElem?_getD, List.getElem?_eq_getElem (by omega)]
  exact List.getElem_mem _
theorem levelsOk_down {d e : Dcd} {u : Int} (h : levelsOk d = true) (hk : known d.plan.shapes d.field = true) (h8 : d.field.kind = 8) (hn : d.stack.length ≠ 0) (hd : (d.stack.length : Int) < d.plan.deep) (h0 : 0 ≤ u) (hu : u ≤ topL d) (hp : e.plan = d.plan)
    (hs : e.stack = d.stack.set (d.stack.length - 1) ⟨(lastL d).msg, topL d - u⟩ ++ [⟨d.field.msg, u⟩]) : levelsOk e = true := by
  have hb := levelsOk_b h
  have hf := fldOk_t (knownN_fld (planOk_t hb.1).2.1 hk)
  have hm := hf.2.2.2.2.1 h8
  have hl := hb.2.2.2 _ (lastL_mem hn)
  have ht : topL d = (lastL d).left := rfl
  simp only [levOk, Bool.and_eq_true] at hl
  have hl1 := within_t hl.1; have hl2 := within_t hl.2
  refine levelsOk_mk (by rw [hp]; exact hb.1) (by rw [hs, hp]; simp; omega) fun l hl => ?_
  rw [hs] at hl
  rw [hp]
  rcases List.mem_append.1 hl with hl | hl
  · rcases List.mem_or_eq_of_mem_set hl with hl | hl
    · exact hb.2.2.2 l hl
    · subst hl; simp [levOk, within]; omega
  · simp at hl; subst hl; simp [levOk, within]; omega
theorem topL_b {d : Dcd} (h : levelsOk d = true) : 0 ≤ topL d ∧ topL d ≤ 2000 := by
  by_cases hn : d.stack.length = 0
  · rw [topL_nil (List.eq_nil_of_length_eq_zero hn)]; omega
  · have hl := (levelsOk_b h).2.2.2 _ (lastL_mem hn)
    have ht : topL d = (lastL d).left := rfl
    simp only [levOk, Bool.and_eq_true] at hl
    have := within_t hl.2; omega
theorem lastL_el {d : Dcd} {x : Lev} (h : d.stack[d.stack.length - 1]? = some x) : lastL d = x ∧ topL d = x.left := by
  have e : lastL d = x := by unfold lastL; exact getD_of h
  exact ⟨e, by show (lastL d).left = _; rw [e]⟩
theorem tagW_b (u : Int) : 0 ≤ tagWire u ∧ tagWire u ≤ 7 := by unfold tagWire; split <;> omega
theorem scanOk_b {s : Scn} (h : scanOk s = true) (h0 : 0 ≤ s.bits) : 0 ≤ s.have_ ∧ s.have_ ≤ 9 ∧ s.bits < 2 ^ (7 * s.have_.toNat) := by
  simp only [scanOk, Bool.and_eq_true, decide_eq_true_eq] at h
  have hw := within_t h.1
  refine ⟨hw.1, hw.2, ?_⟩
  have h2 := h.2
  rw [show min (Int.toNat (7 * s.have_)) 64 = 7 * s.have_.toNat by omega] at h2
  have hp : (0 : Int) < 2 ^ (7 * s.have_.toNat) := Int.pow_pos (by decide)
  rw [Int.fdiv_eq_ediv_of_nonneg _ (Int.le_of_lt hp)] at h2
  apply Int.not_le.1
  intro hle
  have := Int.le_ediv_of_mul_le hp (show 1 * 2 ^ (7 * s.have_.toNat) ≤ s.bits by rw [Int.one_mul]; exact hle)
  omega
theorem sc_shl {c : Int} {h : Int} (h0 : 0 ≤ h) (h9 : h ≤ 9) (c0 : 0 ≤ c) (c1 : c ≤ 127) (hc : h = 9 → c ≤ 1) : 0 ≤ c * 2 ^ (7 * h.toNat) ∧ c * 2 ^ (7 * h.toNat) + 2 ^ (7 * h.toNat) ≤ 18446744073709551616 := by
  obtain ⟨k, rfl⟩ := Int.eq_ofNat_of_zero_le h0
  have hk : k ≤ 9 := by omega
  rw [Int.toNat_natCast]
  rcases (show k = 0 ∨ k = 1 ∨ k = 2 ∨ k = 3 ∨ k = 4 ∨ k = 5 ∨ k = 6 ∨ k = 7 ∨ k = 8 ∨ k = 9 by omega) with rfl | rfl | rfl | rfl | rfl | rfl | rfl | rfl | rfl | rfl <;> simp at * <;> omega
theorem as_shl_sc {c h : Int} (h0 : 0 ≤ h) (h9 : h ≤ 9) (c0 : 0 ≤ c) (c1 : c ≤ 127) (hc : h = 9 → c ≤ 1) : (.v (.c (.int .u64 (IntKind.u64.wrap (c * 2 ^ min (Int.toNat (7 * h)) 64)))) : S) = .v (.c (.int .u64 (c * 2 ^ (7 * h.toNat)))) := by
  have := sc_shl h0 h9 c0 c1 hc
  have hp : (0 : Int) < 2 ^ (7 * h.toNat) := Int.pow_pos (by decide)
  rw [show min (Int.toNat (7 * h)) 64 = 7 * h.toNat by omega]
  exact as_u64 (by omega) (by omega)
theorem as_or_sc {u c h : Int} (h0 : 0 ≤ h) (h9 : h ≤ 9) (c0 : 0 ≤ c) (c1 : c ≤ 127) (hc : h = 9 → c ≤ 1) (u0 : 0 ≤ u) (u1 : u < 2 ^ (7 * h.toNat)) : (.v (.c (.int .u64 (IntKind.u64.wrap (((BitVec.ofInt 64 u ||| BitVec.ofInt 64 (c * 2 ^ (7 * h.toNat))).toNat : Nat) : Int)))) : S) = .v (.c (.int .u64 (u + c * 2 ^ (7 * h.toNat)))) := by
  have := sc_shl h0 h9 c0 c1 hc
  rw [or_add (k := 7 * h.toNat) (c := c) u0 u1 c0 rfl (by omega)]
  exact as_u64 (by omega) (by omega)
theorem as_add_sc {u c h : Int} (h0 : 0 ≤ h) (h9 : h ≤ 9) (c0 : 0 ≤ c) (c1 : c ≤ 127) (hc : h = 9 → c ≤ 1) (u0 : 0 ≤ u) (u1 : u < 2 ^ (7 * h.toNat)) : (.v (.c (.int .u64 (IntKind.u64.wrap (u + c * 2 ^ (7 * h.toNat))))) : S) = .v (.c (.int .u64 (u + c * 2 ^ (7 * h.toNat)))) := by
  have := sc_shl h0 h9 c0 c1 hc
  exact as_u64 (by omega) (by omega)
theorem scanByte_b {s : Scn} {b : Int} (h0 : 0 ≤ s.bits) (h1 : s.bits ≤ 18446744073709551615) : 0 ≤ (scanByte s b).1.bits ∧ (scanByte s b).1.bits ≤ 18446744073709551615 := by
  unfold scanByte
  split
  · exact ⟨h0, h1⟩
  · rename_i h
    simp only [not_or] at h
    have hs : scanOk s = true := by simpa using h.1
    have hb := within_t (show within b 0 255 = true by simpa using h.2.1)
    have hk := scanOk_b hs h0
    have hc := sc_shl (c := b % 128) hk.1 hk.2.1 (by omega) (by omega) (fun h9 => by have := h.2.2; omega)
    simp only; omega
structure MW (d : Dcd) : Prop where
  lv : levelsOk d = true
  kn : d.field = fld0 ∨ known d.plan.shapes d.field = true
  b0 : 0 ≤ d.scan.bits ∧ d.scan.bits ≤ 18446744073709551615
  at_ : 0 ≤ d.at_ ∧ d.at_ ≤ 1000000001
  want : -1 ≤ d.want ∧ d.want ≤ 2001
theorem fixByte_b {s : Scn} {b : Int} (h0 : 0 ≤ s.bits ∧ s.bits ≤ 18446744073709551615) : 0 ≤ (fixByte s b).bits ∧ (fixByte s b).bits ≤ 18446744073709551615 := by
  unfold fixByte
  split
  · simp only
    rw [IntKind.wrap_u64]
    have := Int.emod_nonneg (s.bits + IntKind.u64.wrap (b * 2 ^ min (Int.toNat (8 * s.have_)) 64)) (show (18446744073709551616 : Int) ≠ 0 by decide)
    have := Int.emod_lt_of_pos (s.bits + IntKind.u64.wrap (b * 2 ^ min (Int.toNat (8 * s.have_)) 64)) (show (0 : Int) < 18446744073709551616 by decide)
    omega
  · exact h0
theorem MW.step {d : Dcd} (h : MW d) (hs : d.stack.length = 0 ∨ 1 ≤ topL d) (ha : d.at_ ≤ 1000000000) (hw : (d.mode = 6 ∨ d.mode = 7 ∨ d.mode = 8) → 0 ≤ d.want) : MW (stepD d) := by
  have hb := levelsOk_b h.lv
  refine ⟨?_, h.kn, h.b0, ?_, ?_⟩
  · refine levelsOk_mk (d := stepD d) hb.1 ?_ ?_
    · show (((stepD d).stack.length : Nat) : Int) ≤ d.plan.deep
      unfold stepD; simp only; split
      · exact hb.2.1
      · rw [List.length_set]; exact hb.2.1
    · intro l hl
      show levOk (d.plan.shapes.length : Int) l = true
      unfold stepD at hl
      simp only at hl
      split at hl
      · exact hb.2.2.2 l hl
      · rename_i hn
        rcases List.mem_or_eq_of_mem_set hl with hl | hl
        · exact hb.2.2.2 l hl
        · have hx := hb.2.2.2 _ (lastL_mem hn)
          have ht : topL d = (lastL d).left := rfl
          simp only [levOk, Bool.and_eq_true] at hx
          have h1 := within_t hx.1; have h2 := within_t hx.2
          subst hl; simp [levOk, within]; omega
  · have := h.at_; show 0 ≤ d.at_ + 1 ∧ d.at_ + 1 ≤ 1000000001; omega
  · have := h.want
    show -1 ≤ (if d.mode = 6 ∨ d.mode = 7 ∨ d.mode = 8 then d.want - 1 else d.want) ∧ (if d.mode = 6 ∨ d.mode = 7 ∨ d.mode = 8 then d.want - 1 else d.want) ≤ 2001
    split
    · rename_i hm; have := hw hm; omega
    · exact this
theorem valueM_len (m : Mac) (u : Int) : (valueM m u).out.length ≤ m.out.length + 1 := by
  unfold valueM
  simp only
  split <;> simp
theorem valueM_at (m : Mac) (u : Int) : (valueM m u).d.at_ = m.d.at_ := rfl
theorem valueM_want (m : Mac) (u : Int) : (valueM m u).d.want = m.d.want := rfl
def oMac0_5_27 (j0 : Nat) (j5 : Nat) (j27 : Nat) (x : Mac) : List C := [.own j0, .int .i64 x.d.plan.root, .int .i64 x.d.plan.deep, .int .i64 x.d.plan.most, .int .i64 x.d.mode, .own j5, .int .u64 x.d.scan.bits, .int .i64 x.d.scan.have_, .int .i64 x.d.start, .int .i64 x.d.at_, .int .i64 x.d.field.number, .int .i64 x.d.field.kind, .bool x.d.field.rep, .bool x.d.field.packed, .int .i64 x.d.field.msg, .int .i64 x.d.wire, .int .i64 x.d.want, .int .i64 x.d.utf.want, .int .i64 x.d.utf.low, .int .i64 x.d.utf.high, .int .i64 x.d.end_.kind, .int .i64 x.d.end_.field, .int .u64 x.d.end_.bits, .int .i64 x.d.end_.len, .str x.d.end_.text, .int .i64 x.d.end_.code, .int .i64 x.d.end_.at_, .own j27]
def decNew (p : Pln) : Dcd := if planOk p = true then ⟨p, 1, [], ⟨0, 0⟩, 0, 0, ⟨0, 0, false, false, 0⟩, 0, 0, ⟨0, 0, 0⟩, ⟨0, 0, 0, 0, [], 0, 0⟩⟩ else ⟨⟨[], 0, 0, 0⟩, 0, [], ⟨0, 0⟩, 0, 0, ⟨0, 0, false, false, 0⟩, 0, 0, ⟨0, 0, 0⟩, ⟨0, 0, 0, 0, [], 0, 0⟩⟩
theorem schemaOk_fields20 {l : List Shp} (h : schemaOk l = true) : ∀ e ∈ l, e.fields.length ≤ 1048576 := fun e he => by have := schemaOk_fields h e he; omega
theorem settleM_fail {m : Mac} (h1 : m.d.mode = 6) (h2 : m.d.want < 1) (h3 : 0 < m.d.utf.want) : settleM m = mFail m 5 m.d.at_ := by
  have hc : closeM m = some (mFail m 5 m.d.at_) := by unfold closeM; rw [if_pos ⟨h1, h2⟩, if_pos h3]
  rw [settleM_some hc, settleM_none]
  unfold closeM mFail dFail
  simp
theorem closeM_pop1 {d : Dcd} {o : List Ev} (h2 : d.mode = 2) (hs : d.scan.have_ = 0) (hl : 0 < d.stack.length) (ht : topL d = 0) (h1 : d.stack.length = 1) : closeM ⟨d, o⟩ = some ⟨⟨d.plan, 1, d.stack.take (d.stack.length - 1), d.scan, d.start, d.at_, d.field, d.wire, d.want, d.utf, d.end_⟩, o ++ [evFrmEnd]⟩ := by
  unfold closeM
  simp only
  rw [if_neg (by omega), if_neg (by omega), if_pos ⟨h2, hs, hl, ht⟩, if_pos h1]
theorem closeM_popn {d : Dcd} {o : List Ev} (h2 : d.mode = 2) (hs : d.scan.have_ = 0) (hl : 0 < d.stack.length) (ht : topL d = 0) (h1 : d.stack.length ≠ 1) : closeM ⟨d, o⟩ = some ⟨⟨d.plan, d.mode, d.stack.take (d.stack.length - 1), d.scan, d.start, d.at_, d.field, d.wire, d.want, d.utf, d.end_⟩, o ++ [evUp]⟩ := by
  unfold closeM
  simp only
  rw [if_neg (by omega), if_neg (by omega), if_pos ⟨h2, hs, hl, ht⟩, if_neg h1]
theorem valueM_8f {d : Dcd} {o : List Ev} {u : Int} (h : d.mode = 8) (hf : d.field ≠ fld0) : valueM ⟨d, o⟩ u = ⟨d, o ++ [numEv d.field u]⟩ := by
  cases d
  unfold valueM
  simp only at h hf ⊢
  rw [if_pos h, if_neg hf, h]
theorem valueM_80 {d : Dcd} {o : List Ev} {u : Int} (h : d.mode = 8) (hf : d.field = fld0) : valueM ⟨d, o⟩ u = ⟨d, o⟩ := by
  cases d
  unfold valueM
  simp only at h hf ⊢
  rw [if_pos h, if_pos hf, h]
theorem decOk_b {d : Dcd} (h : decOk d = true) : levelsOk d = true ∧ (1 ≤ d.mode ∧ d.mode ≤ 9) ∧ (0 ≤ d.at_ ∧ d.at_ ≤ 1000000000) ∧ (0 ≤ d.start ∧ d.start ≤ d.at_) ∧ utfOk d.utf = true ∧ wireOk d.wire = true ∧ (d.field = fld0 ∨ known d.plan.shapes d.field = true) ∧ endD d = true ∧ stackD d = true ∧ wantD d = true ∧ kindD d = true ∧ scanD d = true := by
  simp only [decOk, Bool.and_eq_true, Bool.or_eq_true, decide_eq_true_eq] at h
  obtain ⟨⟨⟨⟨⟨⟨⟨⟨⟨⟨⟨h1, h2⟩, h3⟩, h4⟩, h5⟩, h6⟩, h7⟩, h8⟩, h9⟩, h10⟩, h11⟩, h12⟩ := h
  exact ⟨h1, within_t h2, within_t h3, within_t h4, h5, h6, h7, h8, h9, h10, h11, h12⟩
theorem wantD_b {d : Dcd} (h : wantD d = true) : ((d.mode = 6 ∨ d.mode = 7 ∨ d.mode = 8) → 1 ≤ d.want ∧ d.want ≤ topL d) ∧ (¬ (d.mode = 6 ∨ d.mode = 7 ∨ d.mode = 8) → d.want = 0) := by
  unfold wantD at h
  split at h
  · rename_i hm; exact ⟨fun _ => within_t h, fun h => absurd hm h⟩
  · rename_i hm; exact ⟨fun h => absurd h hm, fun _ => of_decide_eq_true h⟩
theorem decOk_mw {d : Dcd} (h : decOk d = true) (hb : 0 ≤ d.scan.bits ∧ d.scan.bits ≤ 18446744073709551615) : MW d := by
  obtain ⟨h1, h2, h3, h4, h5, h6, h7, h8, h9, h10, h11, h12⟩ := decOk_b h
  have ht := topL_b h1
  have hw := wantD_b h10
  refine ⟨h1, h7, hb, by omega, ?_⟩
  by_cases hm : d.mode = 6 ∨ d.mode = 7 ∨ d.mode = 8
  · have := hw.1 hm; omega
  · have := hw.2 hm; omega
theorem decOk_st {d : Dcd} (h : decOk d = true) (h9 : d.mode ≠ 9) : (d.stack.length = 0 ∨ 1 ≤ topL d) ∧ d.at_ ≤ 1000000000 ∧ ((d.mode = 6 ∨ d.mode = 7 ∨ d.mode = 8) → 0 ≤ d.want) ∧ (d.mode = 8 → runs d.field = true) ∧ d.end_ = ev0 := by
  obtain ⟨h1, h2, h3, h4, h5, h6, h7, h8, hs, h10, h11, h12⟩ := decOk_b h
  have hw := wantD_b h10
  refine ⟨?_, by omega, fun hm => by have := hw.1 hm; omega, fun hm => ?_, ?_⟩
  · unfold stackD at hs
    by_cases hm1 : d.mode = 1
    · rw [if_pos hm1] at hs; left; rw [of_decide_eq_true hs]; rfl
    · rw [if_neg hm1, if_neg h9] at hs; exact .inr (of_decide_eq_true hs)
  · unfold kindD at h11
    rw [if_neg (by omega), if_pos hm] at h11
    exact h11
  · unfold endD at h8
    rw [if_neg h9] at h8
    exact of_decide_eq_true h8
def takesD (d : Dcd) : Bool := !decide (d.mode = 9) && decide (d.at_ < 1000000000)
def stepB (d : Dcd) (b : Int) : Mac := if decOk d = true ∧ takesD d = true ∧ within b 0 255 = true then byteM ⟨d, []⟩ b else ⟨d, []⟩
theorem runs_ne {f : Fld} (h : runs f = true) : f ≠ fld0 := fun e => by subst e; simp [runs, fld0] at h
theorem settleM_same (m : Mac) : (settleM m).d.plan = m.d.plan ∧ (settleM m).d.stack.length ≤ m.d.stack.length := by
  suffices ∀ (k : Nat) (m : Mac), wM m ≤ k → (settleM m).d.plan = m.d.plan ∧ (settleM m).d.stack.length ≤ m.d.stack.length from this _ m (Nat.le_refl _)
  intro k
  induction k with
  | zero =>
    intro m hk
    cases h : closeM m with
    | none => rw [settleM_none h]; exact ⟨rfl, Nat.le_refl _⟩
    | some q => have := (closeM_dec h).1; omega
  | succ k ih =>
    intro m hk
    cases h : closeM m with
    | none => rw [settleM_none h]; exact ⟨rfl, Nat.le_refl _⟩
    | some q =>
      have h1 := closeM_dec h
      have h2 := closeM_len h
      have h3 := ih q (by omega)
      rw [settleM_some h]
      exact ⟨h3.1.trans h2.2, Nat.le_trans h3.2 h2.1⟩
structure Gr (m q : Mac) : Prop where
  plan : q.d.plan = m.d.plan
  stack : q.d.stack.length ≤ m.d.stack.length + 1
  out : q.out.length ≤ m.out.length + m.d.stack.length + 6
theorem Gr.fail (m : Mac) (c a : Int) : Gr m (mFail m c a) := ⟨rfl, Nat.le_succ _, by simp only [mFail, List.length_append, List.length_cons, List.length_nil]; omega⟩
theorem Gr.settle {m x : Mac} (hp : x.d.plan = m.d.plan) (hs : x.d.stack.length ≤ m.d.stack.length + 1) (ho : x.out.length ≤ m.out.length + 2) : Gr m (settleM x) := by
  have h1 := settleM_same x
  have h2 := settleM_out x
  have h3 := wM_b x
  exact ⟨h1.1.trans hp, by omega, by omega⟩
theorem Gr.of {m x q : Mac} (h : Gr x q) (hp : x.d.plan = m.d.plan) (hs : x.d.stack.length = m.d.stack.length) (ho : x.out.length = m.out.length) : Gr m q := ⟨h.plan.trans hp, by have := h.stack; omega, by have := h.out; omega⟩
theorem frameM_gr (m : Mac) (u : Int) : Gr m (frameM m u) := by
  unfold frameM
  split
  · exact Gr.fail _ _ _
  · exact Gr.settle rfl (by simp) (by simp)
theorem tagM_gr (m : Mac) (u : Int) : Gr m (tagM m u) := by
  unfold tagM
  split
  · exact Gr.fail _ _ _
  · split
    · exact Gr.fail _ _ _
    · split
      · exact Gr.fail _ _ _
      · split
        · exact (Gr.fail _ _ _).of rfl rfl rfl
        · exact ⟨rfl, Nat.le_succ _, by simp only; omega⟩
theorem longM_gr (m : Mac) (u : Int) : Gr m (longM m u) := by
  unfold longM
  split
  · exact Gr.fail _ _ _
  · split
    · exact Gr.settle rfl (Nat.le_succ _) (by simp)
    · split
      · split
        · exact Gr.fail _ _ _
        · exact Gr.settle rfl (by simp) (by simp)
      · split
        · exact Gr.settle rfl (Nat.le_succ _) (by simp)
        · split
          · exact Gr.fail _ _ _
          · exact Gr.settle rfl (Nat.le_succ _) (by simp)
theorem varM_gr (m : Mac) (b a : Int) : Gr m (varM m b a) := by
  unfold varM
  split
  · exact (Gr.fail _ _ _).of rfl rfl rfl
  · split
    · unfold moreM
      split
      · exact (Gr.fail _ _ _).of rfl rfl rfl
      · exact ⟨rfl, Nat.le_succ _, by simp only; omega⟩
    · split
      · exact (frameM_gr _ _).of rfl rfl rfl
      · split
        · exact (tagM_gr _ _).of rfl rfl rfl
        · split
          · exact (longM_gr _ _).of rfl rfl rfl
          · exact Gr.settle rfl (Nat.le_succ _) (Nat.le_trans (valueM_len _ _) (Nat.le_succ _))
theorem fixM_gr (m : Mac) (b : Int) : Gr m (fixM m b) := by
  unfold fixM
  split
  · exact ⟨rfl, Nat.le_succ _, by simp only; omega⟩
  · split
    · have := valueM_len ⟨dScan m.d scn0, m.out⟩ (fixByte m.d.scan b).bits
      exact ⟨rfl, Nat.le_succ _, by simp only [mFail, List.length_append, List.length_cons, List.length_nil] at this ⊢; omega⟩
    · exact Gr.settle rfl (Nat.le_succ _) (Nat.le_trans (valueM_len _ _) (Nat.le_succ _))
theorem textB_gr (m : Mac) (b : Int) : Gr m (textB m b) := by
  unfold textB
  split
  · split
    · exact Gr.fail _ _ _
    · exact Gr.settle rfl (Nat.le_succ _) (by simp)
  · exact Gr.settle rfl (Nat.le_succ _) (by simp)
theorem stepD_len (d : Dcd) : (stepD d).stack.length = d.stack.length := by unfold stepD; simp only; split <;> simp
theorem byteM_gr (m : Mac) (b : Int) : Gr m (byteM m b) := by
  unfold byteM
  split
  · exact (textB_gr _ _).of rfl (stepD_len _) rfl
  · split
    · exact Gr.settle rfl (by show (stepD m.d).stack.length ≤ _; rw [stepD_len]; omega) (by simp)
    · split
      · exact (fixM_gr _ _).of rfl (stepD_len _) rfl
      · exact (varM_gr _ _ _).of rfl (stepD_len _) rfl
theorem stepB_gr (d : Dcd) (b : Int) : Gr ⟨d, []⟩ (stepB d b) := by
  unfold stepB
  split
  · exact byteM_gr _ _
  · exact ⟨rfl, Nat.le_succ _, by simp⟩
theorem stepB_same {d : Dcd} {b : Int} : (stepB d b).d.plan = d.plan ∧ (stepB d b).d.stack.length ≤ d.stack.length + 1 := ⟨(stepB_gr d b).plan, (stepB_gr d b).stack⟩
theorem stepB_len {d : Dcd} {b : Int} : (stepB d b).out.length ≤ d.stack.length + 6 := by have := (stepB_gr d b).out; simp only [List.length_nil] at this; omega
theorem within_i (n : Int) (lo : Int) (hi : Int) : Fun Tryz.prog 173 [vI n, vI lo, vI hi] [] (.v (vB (within n lo hi))) [] := by
  have hN : bigN = 274877906944 := rfl
  refine fun_ofw Tryz.func173 (by kernel_rfl) (by kernel_rfl) (w := (.br (.leaf () []) (.leaf () []), ((decide (lo ≤ n)) = true → (.v (vB (decide (n ≤ hi))) : S) = .v (vB (within n lo hi)) ∧ ([] : List Blk) = []) ∧ ((decide (lo ≤ n)) = false → (.v (vB false) : S) = .v (vB (within n lo hi)) ∧ ([] : List Blk) = []))) (by kernel_rfl) ?_
  refine dsp (fun h1 p1 => ?_) fun h1 p1 => ?_
  exact ⟨(congrArg S.v (congrArg V.c (congrArg C.bool (by simp [within, *])))), rfl⟩
  exact ⟨(congrArg S.v (congrArg V.c (congrArg C.bool (by simp [within, *])))), rfl⟩
theorem within_s (n : Int) (lo : Int) (hi : Int) : Fun Tryz.prog 105 [vI n, vI lo, vI hi] [] (.v (vB (within n lo hi))) [] := by
  have hN : bigN = 274877906944 := rfl
  refine fun_ofw Tryz.func105 (by kernel_rfl) (by kernel_rfl) (w := (.br (.leaf () []) (.leaf () []), ((decide (lo ≤ n)) = true → (.v (vB (decide (n ≤ hi))) : S) = .v (vB (within n lo hi)) ∧ ([] : List Blk) = []) ∧ ((decide (lo ≤ n)) = false → (.v (vB false) : S) = .v (vB (within n lo hi)) ∧ ([] : List Blk) = []))) (by kernel_rfl) ?_
  refine dsp (fun h1 p1 => ?_) fun h1 p1 => ?_
  exact ⟨(congrArg S.v (congrArg V.c (congrArg C.bool (by simp [within, *])))), rfl⟩
  exact ⟨(congrArg S.v (congrArg V.c (congrArg C.bool (by simp [within, *])))), rfl⟩
theorem l1max (a : Int) (b : Int) : Fun Tryz.prog 53 [vI a, vI b] [] (.v (vI (max a b))) [] := by
  have hN : bigN = 274877906944 := rfl
  refine fun_ofw Tryz.func53 (by kernel_rfl) (by kernel_rfl) (w := (.br (.leaf () []) (.leaf () []), ((decide (b < a)) = true → (.v (vI a) : S) = .v (vI (max a b)) ∧ ([] : List Blk) = []) ∧ ((decide (b < a)) = false → (.v (vI b) : S) = .v (vI (max a b)) ∧ ([] : List Blk) = []))) (by kernel_rfl) ?_
  refine dsp (fun h1 p1 => ?_) fun h1 p1 => ?_
  exact ⟨(congrArg S.v (congrArg V.c (congrArg (C.int .i64) (by omega)))), rfl⟩
  exact ⟨(congrArg S.v (congrArg V.c (congrArg (C.int .i64) (by omega)))), rfl⟩
theorem numberOk_i (n : Int) : Fun Tryz.prog 236 [vI n] [] (.v (vB (numberOk n))) [] := by
  have hN : bigN = 274877906944 := rfl
  refine fun_ofw Tryz.func236 (by kernel_rfl) (by kernel_rfl) (w := let z1 := within n 1 536870911; let z2 := within n 19000 19999; (.seg [.call [] (.v (vB z1)) []] (.br (.seg [.call [] (.v (vB z2)) []] (.leaf () [])) (.leaf () [])), (Fun Tryz.prog 173 [vI n, vI 1, vI 536870911] [] (.v (vB z1)) []) ∧ (z1 = true → (Fun Tryz.prog 173 [vI n, vI 19000, vI 19999] [] (.v (vB z2)) []) ∧ (.v (vB (!z2)) : S) = .v (vB (numberOk n)) ∧ ([] : List Blk) = []) ∧ (z1 = false → (.v (vB false) : S) = .v (vB (numberOk n)) ∧ ([] : List Blk) = []))) (by kernel_rfl) ?_
  refine ⟨(within_i _ _ _), fun h1 => have p1 := within_t h1; ?_, fun h1 => have p1 := within_f h1; ?_⟩
  exact ⟨(within_i _ _ _), (congrArg S.v (congrArg V.c (congrArg C.bool (by simp [numberOk, *])))), rfl⟩
  exact ⟨(congrArg S.v (congrArg V.c (congrArg C.bool (by simp [numberOk, *])))), rfl⟩
theorem numberOk_s (n : Int) : Fun Tryz.prog 221 [vI n] [] (.v (vB (numberOk n))) [] := by
  have hN : bigN = 274877906944 := rfl
  refine fun_ofw Tryz.func221 (by kernel_rfl) (by kernel_rfl) (w := let z1 := within n 1 536870911; let z2 := within n 19000 19999; (.seg [.call [] (.v (vB z1)) []] (.br (.seg [.call [] (.v (vB z2)) []] (.leaf () [])) (.leaf () [])), (Fun Tryz.prog 105 [vI n, vI 1, vI 536870911] [] (.v (vB z1)) []) ∧ (z1 = true → (Fun Tryz.prog 105 [vI n, vI 19000, vI 19999] [] (.v (vB z2)) []) ∧ (.v (vB (!z2)) : S) = .v (vB (numberOk n)) ∧ ([] : List Blk) = []) ∧ (z1 = false → (.v (vB false) : S) = .v (vB (numberOk n)) ∧ ([] : List Blk) = []))) (by kernel_rfl) ?_
  refine ⟨(within_s _ _ _), fun h1 => have p1 := within_t h1; ?_, fun h1 => have p1 := within_f h1; ?_⟩
  exact ⟨(within_s _ _ _), (congrArg S.v (congrArg V.c (congrArg C.bool (by simp [numberOk, *])))), rfl⟩
  exact ⟨(congrArg S.v (congrArg V.c (congrArg C.bool (by simp [numberOk, *])))), rfl⟩
theorem wireOk_i (w : Int) : Fun Tryz.prog 176 [vI w] [] (.v (vB (wireOk w))) [] := by
  have hN : bigN = 274877906944 := rfl
  refine fun_ofw Tryz.func176 (by kernel_rfl) (by kernel_rfl) (w := let z1 := vB (wireOk w); let z2 := ([] : List Blk); let z3 := (.v (vB true) : S); (.br (.leaf () []) (.br (.leaf () []) (.br (.leaf () []) (.leaf () []))), ((decide (w = 0)) = true → z3 = .v z1 ∧ z2 = []) ∧ ((decide (w = 0)) = false → ((decide (w = 1)) = true → z3 = .v z1 ∧ z2 = []) ∧ ((decide (w = 1)) = false → ((decide (w = 2)) = true → z3 = .v z1 ∧ z2 = []) ∧ ((decide (w = 2)) = false → (.v (vB (decide (w = 5))) : S) = .v z1 ∧ z2 = []))))) (by kernel_rfl) ?_
  refine dsp (fun h1 p1 => ?_) fun h1 p1 => ?_
  exact ⟨(congrArg S.v (congrArg V.c (congrArg C.bool (by simp [wireOk, *])))), rfl⟩
  refine dsp (fun h2 p2 => ?_) fun h2 p2 => ?_
  exact ⟨(congrArg S.v (congrArg V.c (congrArg C.bool (by simp [wireOk, *])))), rfl⟩
  refine dsp (fun h3 p3 => ?_) fun h3 p3 => ?_
  exact ⟨(congrArg S.v (congrArg V.c (congrArg C.bool (by simp [wireOk, *])))), rfl⟩
  exact ⟨(congrArg S.v (congrArg V.c (congrArg C.bool (by simp [wireOk, *])))), rfl⟩
theorem wireOk_s (w : Int) : Fun Tryz.prog 145 [vI w] [] (.v (vB (wireOk w))) [] := by
  have hN : bigN = 274877906944 := rfl
  refine fun_ofw Tryz.func145 (by kernel_rfl) (by kernel_rfl) (w := let z1 := vB (wireOk w); let z2 := ([] : List Blk); let z3 := (.v (vB true) : S); (.br (.leaf () []) (.br (.leaf () []) (.br (.leaf () []) (.leaf () []))), ((decide (w = 0)) = true → z3 = .v z1 ∧ z2 = []) ∧ ((decide (w = 0)) = false → ((decide (w = 1)) = true → z3 = .v z1 ∧ z2 = []) ∧ ((decide (w = 1)) = false → ((decide (w = 2)) = true → z3 = .v z1 ∧ z2 = []) ∧ ((decide (w = 2)) = false → (.v (vB (decide (w = 5))) : S) = .v z1 ∧ z2 = []))))) (by kernel_rfl) ?_
  refine dsp (fun h1 p1 => ?_) fun h1 p1 => ?_
  exact ⟨(congrArg S.v (congrArg V.c (congrArg C.bool (by simp [wireOk, *])))), rfl⟩
  refine dsp (fun h2 p2 => ?_) fun h2 p2 => ?_
  exact ⟨(congrArg S.v (congrArg V.c (congrArg C.bool (by simp [wireOk, *])))), rfl⟩
  refine dsp (fun h3 p3 => ?_) fun h3 p3 => ?_
  exact ⟨(congrArg S.v (congrArg V.c (congrArg C.bool (by simp [wireOk, *])))), rfl⟩
  exact ⟨(congrArg S.v (congrArg V.c (congrArg C.bool (by simp [wireOk, *])))), rfl⟩
theorem kindOk_i (k : Int) : Fun Tryz.prog 237 [vI k] [] (.v (vB (kindOk k))) [] := by
  have hN : bigN = 274877906944 := rfl
  refine fun_ofw Tryz.func237 (by kernel_rfl) (by kernel_rfl) (w := let z1 := vB (within k 1 8); (.seg [.call [] (.v z1) []] (.leaf () []), (Fun Tryz.prog 173 [vI k, vI 1, vI 8] [] (.v z1) []) ∧ (.v z1 : S) = .v (vB (kindOk k)) ∧ ([] : List Blk) = [])) (by kernel_rfl) ?_
  exact ⟨(within_i _ _ _), (congrArg S.v (congrArg V.c (congrArg C.bool (by rfl)))), rfl⟩
theorem kindOk_s (k : Int) : Fun Tryz.prog 191 [vI k] [] (.v (vB (kindOk k))) [] := by
  have hN : bigN = 274877906944 := rfl
  refine fun_ofw Tryz.func191 (by kernel_rfl) (by kernel_rfl) (w := let z1 := vB (within k 1 8); (.seg [.call [] (.v z1) []] (.leaf () []), (Fun Tryz.prog 105 [vI k, vI 1, vI 8] [] (.v z1) []) ∧ (.v z1 : S) = .v (vB (kindOk k)) ∧ ([] : List Blk) = [])) (by kernel_rfl) ?_
  exact ⟨(within_s _ _ _), (congrArg S.v (congrArg V.c (congrArg C.bool (by rfl)))), rfl⟩
theorem numeric_i (k : Int) : Fun Tryz.prog 234 [vI k] [] (.v (vB (numeric k))) [] := by
  have hN : bigN = 274877906944 := rfl
  refine fun_ofw Tryz.func234 (by kernel_rfl) (by kernel_rfl) (w := let z1 := vB (within k 1 5); (.seg [.call [] (.v z1) []] (.leaf () []), (Fun Tryz.prog 173 [vI k, vI 1, vI 5] [] (.v z1) []) ∧ (.v z1 : S) = .v (vB (numeric k)) ∧ ([] : List Blk) = [])) (by kernel_rfl) ?_
  exact ⟨(within_i _ _ _), (congrArg S.v (congrArg V.c (congrArg C.bool (by rfl)))), rfl⟩
theorem numeric_s (k : Int) : Fun Tryz.prog 192 [vI k] [] (.v (vB (numeric k))) [] := by
  have hN : bigN = 274877906944 := rfl
  refine fun_ofw Tryz.func192 (by kernel_rfl) (by kernel_rfl) (w := let z1 := vB (within k 1 5); (.seg [.call [] (.v z1) []] (.leaf () []), (Fun Tryz.prog 105 [vI k, vI 1, vI 5] [] (.v z1) []) ∧ (.v z1 : S) = .v (vB (numeric k)) ∧ ([] : List Blk) = [])) (by kernel_rfl) ?_
  exact ⟨(within_s _ _ _), (congrArg S.v (congrArg V.c (congrArg C.bool (by rfl)))), rfl⟩
theorem wireOf_i (k : Int) : Fun Tryz.prog 225 [vI k] [] (.v (vI (wireOf k))) [] := by
  have hN : bigN = 274877906944 := rfl
  refine fun_ofw Tryz.func225 (by kernel_rfl) (by kernel_rfl) (w := let zi : Int → C := .int .i64; let z1 := List.getD [0, 0, 0, 5, 1, 2, 2, 2] (Int.toNat (k - 1)) 0; (.seg [.call [] (.v (vB (kindOk k))) []] (.br (.leaf () []) (.seg [.as 8 (.v (vI (k - 1))), .ce (zi z1)] (.leaf () []))), (Fun Tryz.prog 237 [vI k] [] (.v (vB (kindOk k))) []) ∧ ((!(kindOk k)) = true → (.v (vI (-1)) : S) = .v (vI (wireOf k)) ∧ ([] : List Blk) = []) ∧ ((!(kindOk k)) = false → ((.v (vI (IntKind.i64.wrap (k - 1))) : S) = .v (vI (k - 1))) ∧ ((([zi 0, zi 0, zi 0, zi 5, zi 1, zi 2, zi 2, zi 2] : List C)[Int.toNat (k - 1)]?) = some (zi z1)) ∧ (k - 1 < ((8 : Nat) : Int)) ∧ ((0 : Int) ≤ k - 1) ∧ (.v (vI z1) : S) = .v (vI (wireOf k)) ∧ ([] : List Blk) = []))) (by kernel_rfl) ?_
  refine ⟨(kindOk_i _), fun h1 => have q1 := bnot_t h1; have p1 := within_f q1; ?_, fun h1 => have q1 := bnot_f h1; have p1 := within_t q1; ?_⟩
  refine ⟨(sI ?_), rfl⟩
  rotate_left
  refine ⟨(as_i64 (by omega) (by omega)), (ce_int (l := [0, 0, 0, 5, 1, 2, 2, 2]) (by simp; omega)), (by omega), (by omega), (sI ?_), rfl⟩
  rotate_left
  all_goals first | (simp [wireOf, *]; done) | (rcases (show k = 1 ∨ k = 2 ∨ k = 3 ∨ k = 4 ∨ k = 5 ∨ k = 6 ∨ k = 7 ∨ k = 8 by omega) with rfl | rfl | rfl | rfl | rfl | rfl | rfl | rfl <;> rfl)
theorem wireOf_s (k : Int) : Fun Tryz.prog 154 [vI k] [] (.v (vI (wireOf k))) [] := by
  have hN : bigN = 274877906944 := rfl
  refine fun_ofw Tryz.func154 (by kernel_rfl) (by kernel_rfl) (w := let z1 := vI (wireOf k); let z2 := ([] : List Blk); (.seg [.call [] (.v (vB (kindOk k))) []] (.br (.leaf () []) (.br (.leaf () []) (.br (.leaf () []) (.seg [.call [] (.v (vB (numeric k))) []] (.br (.leaf () []) (.leaf () [])))))), (Fun Tryz.prog 191 [vI k] [] (.v (vB (kindOk k))) []) ∧ ((!(kindOk k)) = true → (.v (vI (-1)) : S) = .v z1 ∧ z2 = []) ∧ ((!(kindOk k)) = false → ((decide (k = 4)) = true → (.v (vI 5) : S) = .v z1 ∧ z2 = []) ∧ ((decide (k = 4)) = false → ((decide (k = 5)) = true → (.v (vI 1) : S) = .v z1 ∧ z2 = []) ∧ ((decide (k = 5)) = false → (Fun Tryz.prog 192 [vI k] [] (.v (vB (numeric k))) []) ∧ ((numeric k) = true → (.v (vI 0) : S) = .v z1 ∧ z2 = []) ∧ ((numeric k) = false → (.v (vI 2) : S) = .v z1 ∧ z2 = [])))))) (by kernel_rfl) ?_
  refine ⟨(kindOk_s _), fun h1 => have q1 := bnot_t h1; have p1 := within_f q1; ?_, fun h1 => have q1 := bnot_f h1; have p1 := within_t q1; ?_⟩
  refine ⟨(sI ?_), rfl⟩
  rotate_left
  refine dsp (fun h2 p2 => ?_) fun h2 p2 => ?_
  refine ⟨(sI ?_), rfl⟩
  rotate_left
  refine dsp (fun h3 p3 => ?_) fun h3 p3 => ?_
  refine ⟨(sI ?_), rfl⟩
  rotate_left
  refine ⟨(numeric_s _), fun h4 => have p4 := within_t h4; ?_, fun h4 => have p4 := within_f h4; ?_⟩
  refine ⟨(sI ?_), rfl⟩
  rotate_left
  refine ⟨(sI ?_), rfl⟩
  rotate_left
  all_goals first | (simp [wireOf, *] <;> (repeat' split) <;> omega) | (subst_vars; rfl)
theorem widthOf_i (w : Int) : Fun Tryz.prog 215 [vI w] [] (.v (vI (widthOf w))) [] := by
  have hN : bigN = 274877906944 := rfl
  refine fun_ofw Tryz.func215 (by kernel_rfl) (by kernel_rfl) (w := (.br (.leaf () []) (.br (.leaf () []) (.leaf () [])), ((decide (w = 1)) = true → (.v (vI 8) : S) = .v (vI (widthOf w)) ∧ ([] : List Blk) = []) ∧ ((decide (w = 1)) = false → ((decide (w = 5)) = true → (.v (vI 4) : S) = .v (vI (widthOf w)) ∧ ([] : List Blk) = []) ∧ ((decide (w = 5)) = false → (.v (vI 0) : S) = .v (vI (widthOf w)) ∧ ([] : List Blk) = [])))) (by kernel_rfl) ?_
  refine dsp (fun h1 p1 => ?_) fun h1 p1 => ?_
  exact ⟨(congrArg S.v (congrArg V.c (congrArg (C.int .i64) (by simp [widthOf, *])))), rfl⟩
  refine dsp (fun h2 p2 => ?_) fun h2 p2 => ?_
  exact ⟨(congrArg S.v (congrArg V.c (congrArg (C.int .i64) (by simp [widthOf, *])))), rfl⟩
  exact ⟨(congrArg S.v (congrArg V.c (congrArg (C.int .i64) (by simp [widthOf, *])))), rfl⟩
theorem widthOf_s (w : Int) : Fun Tryz.prog 150 [vI w] [] (.v (vI (widthOf w))) [] := by
  have hN : bigN = 274877906944 := rfl
  refine fun_ofw Tryz.func150 (by kernel_rfl) (by kernel_rfl) (w := (.br (.leaf () []) (.br (.leaf () []) (.leaf () [])), ((decide (w = 1)) = true → (.v (vI 8) : S) = .v (vI (widthOf w)) ∧ ([] : List Blk) = []) ∧ ((decide (w = 1)) = false → ((decide (w = 5)) = true → (.v (vI 4) : S) = .v (vI (widthOf w)) ∧ ([] : List Blk) = []) ∧ ((decide (w = 5)) = false → (.v (vI 0) : S) = .v (vI (widthOf w)) ∧ ([] : List Blk) = [])))) (by kernel_rfl) ?_
  refine dsp (fun h1 p1 => ?_) fun h1 p1 => ?_
  exact ⟨(congrArg S.v (congrArg V.c (congrArg (C.int .i64) (by simp [widthOf, *])))), rfl⟩
  refine dsp (fun h2 p2 => ?_) fun h2 p2 => ?_
  exact ⟨(congrArg S.v (congrArg V.c (congrArg (C.int .i64) (by simp [widthOf, *])))), rfl⟩
  exact ⟨(congrArg S.v (congrArg V.c (congrArg (C.int .i64) (by simp [widthOf, *])))), rfl⟩
theorem runs_i (f : Fld) : Fun Tryz.prog 213 [.agg (cFld f)] [] (.v (vB (runs f))) [] := by
  have hN : bigN = 274877906944 := rfl
  refine fun_ofw Tryz.func213 (by kernel_rfl) (by kernel_rfl) (w := let z1 := vB (numeric f.kind); (.br (.seg [.call [] (.v z1) []] (.leaf () [])) (.leaf () []), (f.rep = true → (Fun Tryz.prog 234 [vI f.kind] [] (.v z1) []) ∧ (.v z1 : S) = .v (vB (runs f)) ∧ ([] : List Blk) = []) ∧ (f.rep = false → (.v (vB false) : S) = .v (vB (runs f)) ∧ ([] : List Blk) = []))) (by kernel_rfl) ?_
  refine ⟨fun h1 => ?_, fun h1 => ?_⟩
  exact ⟨(numeric_i _), (congrArg S.v (congrArg V.c (congrArg C.bool (by simp [runs, *])))), rfl⟩
  exact ⟨(congrArg S.v (congrArg V.c (congrArg C.bool (by simp [runs, *])))), rfl⟩
theorem runs_s (f : Fld) : Fun Tryz.prog 152 [.agg (cFld f)] [] (.v (vB (runs f))) [] := by
  have hN : bigN = 274877906944 := rfl
  refine fun_ofw Tryz.func152 (by kernel_rfl) (by kernel_rfl) (w := let z1 := vB (numeric f.kind); (.br (.seg [.call [] (.v z1) []] (.leaf () [])) (.leaf () []), (f.rep = true → (Fun Tryz.prog 192 [vI f.kind] [] (.v z1) []) ∧ (.v z1 : S) = .v (vB (runs f)) ∧ ([] : List Blk) = []) ∧ (f.rep = false → (.v (vB false) : S) = .v (vB (runs f)) ∧ ([] : List Blk) = []))) (by kernel_rfl) ?_
  refine ⟨fun h1 => ?_, fun h1 => ?_⟩
  exact ⟨(numeric_s _), (congrArg S.v (congrArg V.c (congrArg C.bool (by simp [runs, *])))), rfl⟩
  exact ⟨(congrArg S.v (congrArg V.c (congrArg C.bool (by simp [runs, *])))), rfl⟩
theorem allowed_i (f : Fld) (w : Int) (hp1 : (0 : Int) ≤ w) : Fun Tryz.prog 214 [.agg (cFld f), vI w] [] (.v (vB (allowed f w))) [] := by
  have hN : bigN = 274877906944 := rfl
  refine fun_ofw Tryz.func214 (by kernel_rfl) (by kernel_rfl) (w := let z1 := vB (allowed f w); (.seg [.call [] (.v (vI (wireOf f.kind))) []] (.br (.leaf () []) (.br (.seg [.call [] (.v (vB (runs f))) []] (.leaf () [])) (.leaf () []))), (Fun Tryz.prog 225 [vI f.kind] [] (.v (vI (wireOf f.kind))) []) ∧ ((decide (w = wireOf f.kind)) = true → (.v (vB true) : S) = .v z1 ∧ ([] : List Blk) = []) ∧ ((decide (w = wireOf f.kind)) = false → ((decide (w = 2)) = true → (Fun Tryz.prog 213 [.agg (cFld f)] [] (.v (vB (runs f))) []) ∧ (.v (vB (runs f)) : S) = .v z1 ∧ ([] : List Blk) = []) ∧ ((decide (w = 2)) = false → (.v (vB false) : S) = .v z1 ∧ ([] : List Blk) = [])))) (by kernel_rfl) ?_
  refine ⟨(wireOf_i _), dsp (fun h1 p1 => ?_) fun h1 p1 => ?_⟩
  refine ⟨(sB ?_), rfl⟩
  rotate_left
  refine dsp (fun h2 p2 => ?_) fun h2 p2 => ?_
  refine ⟨(runs_i f), (sB ?_), rfl⟩
  rotate_left
  refine ⟨(sB ?_), rfl⟩
  rotate_left
  all_goals first | (simp [allowed, *] <;> (repeat' split) <;> omega) | (simp [allowed, wireOf, *] <;> (repeat' split) <;> omega)
theorem allowed_s (f : Fld) (w : Int) (hp1 : (0 : Int) ≤ w) : Fun Tryz.prog 151 [.agg (cFld f), vI w] [] (.v (vB (allowed f w))) [] := by
  have hN : bigN = 274877906944 := rfl
  refine fun_ofw Tryz.func151 (by kernel_rfl) (by kernel_rfl) (w := let z2 := vB (runs f); let z3 := vB (allowed f w); let z4 := kindOk f.kind; let z5 := ([] : List Blk); let z1 := (decide (w = 2)) = false → (.v (vB false) : S) = .v z3 ∧ z5 = []; (.seg [.call [] (.v (vB z4)) []] (.br (.seg [.call [] (.v (vI (wireOf f.kind))) []] (.br (.leaf () []) (.br (.seg [.call [] (.v z2) []] (.leaf () [])) (.leaf () [])))) (.br (.seg [.call [] (.v z2) []] (.leaf () [])) (.leaf () []))), (Fun Tryz.prog 191 [vI f.kind] [] (.v (vB z4)) []) ∧ (z4 = true → (Fun Tryz.prog 154 [vI f.kind] [] (.v (vI (wireOf f.kind))) []) ∧ ((decide (w = wireOf f.kind)) = true → (.v (vB true) : S) = .v z3 ∧ z5 = []) ∧ ((decide (w = wireOf f.kind)) = false → ((decide (w = 2)) = true → (Fun Tryz.prog 152 [.agg (cFld f)] [] (.v z2) []) ∧ (.v z2 : S) = .v z3 ∧ z5 = []) ∧ z1)) ∧ (z4 = false → ((decide (w = 2)) = true → (Fun Tryz.prog 152 [.agg (cFld f)] [] (.v z2) []) ∧ (.v z2 : S) = .v z3 ∧ z5 = []) ∧ z1))) (by kernel_rfl) ?_
  refine ⟨(kindOk_s _), fun h1 => have p1 := within_t h1; ?_, fun h1 => have p1 := within_f h1; ?_⟩
  refine ⟨(wireOf_s _), dsp (fun h2 p2 => ?_) fun h2 p2 => ?_⟩
  refine ⟨(sB ?_), rfl⟩
  rotate_left
  refine dsp (fun h3 p3 => ?_) fun h3 p3 => ?_
  refine ⟨(runs_s f), (sB ?_), rfl⟩
  rotate_left
  refine ⟨(sB ?_), rfl⟩
  rotate_left
  refine dsp (fun h2 p2 => ?_) fun h2 p2 => ?_
  refine ⟨(runs_s f), (sB ?_), rfl⟩
  rotate_left
  refine ⟨(sB ?_), rfl⟩
  rotate_left
  all_goals first | (simp [allowed, *] <;> (repeat' split) <;> omega) | (simp [allowed, wireOf, *] <;> (repeat' split) <;> omega)
theorem tagIn_i (u : Int) (hp1 : (0 : Int) ≤ u ∧ u ≤ 18446744073709551615) : Fun Tryz.prog 241 [.c (.int .u64 u)] [] (.tup [vI (tagNum u), vI (tagWire u), vB (tagOk u)]) [] := by
  have hN : bigN = 274877906944 := rfl
  refine fun_ofw Tryz.func241 (by kernel_rfl) (by kernel_rfl) (w := let z1 : List V := [vI (tagNum u), vI (tagWire u), vB (tagOk u)]; let z2 := (.v (.c (.int .u64 (Int.fdiv u (2 ^ 3)))) : S) = .v (.c (.int .u64 (u / 8))); let z3 := (.tup [vI 0, vI 0, vB false] : S); (.br (.leaf () []) (.seg [.as 9 (.v (.c (.int .u64 (u / 8))))] (.br (.leaf () []) (.seg [.as 13 (.v (.c (.int .u64 (u / 8)))), .as 14 (.v (vI (u / 8))), .as 16 (.v (.c (.int .u64 (u % 8)))), .as 17 (.v (vI (u % 8)))] (.leaf () [])))), ((decide (u < 8)) = true → z3 = .tup z1 ∧ ([] : List Blk) = []) ∧ ((decide (u < 8)) = false → ((0 : Int) ≤ 3) ∧ z2 ∧ ((decide (536870911 < u / 8)) = true → z3 = .tup z1 ∧ ([] : List Blk) = []) ∧ ((decide (536870911 < u / 8)) = false → ((0 : Int) ≤ 3) ∧ z2 ∧ ((.v (vI (IntKind.i64.wrap (u / 8))) : S) = .v (vI (u / 8))) ∧ ((.v (.c (.int .u64 (IntKind.u64.wrap (((BitVec.ofInt 64 u &&& BitVec.ofInt 64 7).toNat : Nat))))) : S) = .v (.c (.int .u64 (u % 8)))) ∧ ((.v (vI (IntKind.i64.wrap (u % 8))) : S) = .v (vI (u % 8))) ∧ (.tup [vI (u / 8), vI (u % 8), vB true] : S) = .tup z1 ∧ ([] : List Blk) = [])))) (by kernel_rfl) ?_
  refine dsp (fun h1 p1 => ?_) fun h1 p1 => ?_
  refine ⟨(congrArg S.tup (consE (congrArg V.c (congrArg (C.int .i64) ?_)) (consE (congrArg V.c (congrArg (C.int .i64) ?_)) (consE (congrArg V.c (congrArg C.bool ?_)) rfl)))), rfl⟩
  rotate_left 3
  refine ⟨(by decide), (as_shr (k := 3) (by decide) (by decide)), dsp (fun h2 p2 => ?_) fun h2 p2 => ?_⟩
  refine ⟨(congrArg S.tup (consE (congrArg V.c (congrArg (C.int .i64) ?_)) (consE (congrArg V.c (congrArg (C.int .i64) ?_)) (consE (congrArg V.c (congrArg C.bool ?_)) rfl)))), rfl⟩
  rotate_left 3
  refine ⟨(by decide), (as_shr (k := 3) (by decide) (by decide)), (as_i64 (by omega) (by omega)), (as_mask_u64 (k := 3) (by decide) (by decide)), (as_i64 (by omega) (by omega)), (congrArg S.tup (consE (congrArg V.c (congrArg (C.int .i64) ?_)) (consE (congrArg V.c (congrArg (C.int .i64) ?_)) (consE (congrArg V.c (congrArg C.bool ?_)) rfl)))), rfl⟩
  rotate_left 3
  all_goals first | ((have ht : tagOk u = true := by (simp [tagOk, within]; omega)); simp [tagNum, tagWire, ht]) | ((have ht : tagOk u = false := by (simp [tagOk, within]; omega)); simp [tagNum, tagWire, ht])
theorem tagIn_s (u : Int) (hp1 : (0 : Int) ≤ u ∧ u ≤ 18446744073709551615) : Fun Tryz.prog 195 [.c (.int .u64 u)] [] (.tup [vI (tagNum u), vI (tagWire u), vB (tagOk u)]) [] := by
  have hN : bigN = 274877906944 := rfl
  refine fun_ofw Tryz.func195 (by kernel_rfl) (by kernel_rfl) (w := let z1 : List V := [vI (tagNum u), vI (tagWire u), vB (tagOk u)]; let z2 := (.tup [vI 0, vI 0, vB false] : S); (.br (.leaf () []) (.br (.leaf () []) (.seg [.as 12 (.v (.c (.int .u64 (u / 8)))), .as 13 (.v (vI (u / 8))), .as 15 (.v (.c (.int .u64 (u % 8)))), .as 16 (.v (vI (u % 8)))] (.leaf () []))), ((decide (u < 8)) = true → z2 = .tup z1 ∧ ([] : List Blk) = []) ∧ ((decide (u < 8)) = false → ((decide (4294967295 < u)) = true → z2 = .tup z1 ∧ ([] : List Blk) = []) ∧ ((decide (4294967295 < u)) = false → ((8 : Int) ≠ 0) ∧ ((.v (.c (.int .u64 (IntKind.u64.wrap (Int.tdiv u 8)))) : S) = .v (.c (.int .u64 (u / 8)))) ∧ ((.v (vI (IntKind.i64.wrap (u / 8))) : S) = .v (vI (u / 8))) ∧ ((8 : Int) ≠ 0) ∧ ((.v (.c (.int .u64 (Int.tmod u 8))) : S) = .v (.c (.int .u64 (u % 8)))) ∧ ((.v (vI (IntKind.i64.wrap (u % 8))) : S) = .v (vI (u % 8))) ∧ (.tup [vI (u / 8), vI (u % 8), vB true] : S) = .tup z1 ∧ ([] : List Blk) = [])))) (by kernel_rfl) ?_
  refine dsp (fun h1 p1 => ?_) fun h1 p1 => ?_
  refine ⟨(congrArg S.tup (consE (congrArg V.c (congrArg (C.int .i64) ?_)) (consE (congrArg V.c (congrArg (C.int .i64) ?_)) (consE (congrArg V.c (congrArg C.bool ?_)) rfl)))), rfl⟩
  rotate_left 3
  refine dsp (fun h2 p2 => ?_) fun h2 p2 => ?_
  refine ⟨(congrArg S.tup (consE (congrArg V.c (congrArg (C.int .i64) ?_)) (consE (congrArg V.c (congrArg (C.int .i64) ?_)) (consE (congrArg V.c (congrArg C.bool ?_)) rfl)))), rfl⟩
  rotate_left 3
  refine ⟨(by decide), (as_tdiv_u64 (by omega) (by omega) (by decide)), (as_i64 (by omega) (by omega)), (by decide), (as_tmod (by omega)), (as_i64 (by omega) (by omega)), (congrArg S.tup (consE (congrArg V.c (congrArg (C.int .i64) ?_)) (consE (congrArg V.c (congrArg (C.int .i64) ?_)) (consE (congrArg V.c (congrArg C.bool ?_)) rfl)))), rfl⟩
  rotate_left 3
  all_goals first | ((have ht : tagOk u = true := by (simp [tagOk, within]; omega)); simp [tagNum, tagWire, ht]) | ((have ht : tagOk u = false := by (simp [tagOk, within]; omega)); simp [tagNum, tagWire, ht])
theorem failure_i (c : Int) (a : Int) : Fun Tryz.prog 235 [vI c, vI a] [] (.v (.agg (cEv (failEv c a)))) [] := by
  have hN : bigN = 274877906944 := rfl
  refine fun_ofw Tryz.func235 (by kernel_rfl) (by kernel_rfl) (w := (.leaf () [], (.v (.agg [.int .i64 10, .int .i64 0, .int .u64 0, .int .i64 0, .str [], .int .i64 c, .int .i64 a]) : S) = .v (.agg (cEv (failEv c a))) ∧ ([] : List Blk) = [])) (by kernel_rfl) ?_
  have hm1 : failEv c a = (⟨10, 0, 0, 0, [], c, a⟩ : Ev) := by rfl
  exact ⟨(congrArg S.v (congrArg V.agg (consE (congrArg (C.int .i64) (by rfl)) (consE (congrArg (C.int .i64) (by rfl)) (consE (congrArg (C.int .u64) (by rfl)) (consE (congrArg (C.int .i64) (by rfl)) (consE (congrArg C.str (by rfl)) (consE (congrArg (C.int .i64) (by rfl)) (consE (congrArg (C.int .i64) (by rfl)) rfl))))))))), rfl⟩
theorem failure_s (c : Int) (a : Int) : Fun Tryz.prog 156 [vI c, vI a] [] (.v (.agg (cEv (failEv c a)))) [] := by
  have hN : bigN = 274877906944 := rfl
  refine fun_ofw Tryz.func156 (by kernel_rfl) (by kernel_rfl) (w := (.leaf () [], (.v (.agg [.int .i64 10, .int .i64 0, .int .u64 0, .int .i64 0, .str [], .int .i64 c, .int .i64 a]) : S) = .v (.agg (cEv (failEv c a))) ∧ ([] : List Blk) = [])) (by kernel_rfl) ?_
  have hm1 : failEv c a = (⟨10, 0, 0, 0, [], c, a⟩ : Ev) := by rfl
  exact ⟨(congrArg S.v (congrArg V.agg (consE (congrArg (C.int .i64) (by rfl)) (consE (congrArg (C.int .i64) (by rfl)) (consE (congrArg (C.int .u64) (by rfl)) (consE (congrArg (C.int .i64) (by rfl)) (consE (congrArg C.str (by rfl)) (consE (congrArg (C.int .i64) (by rfl)) (consE (congrArg (C.int .i64) (by rfl)) rfl))))))))), rfl⟩
theorem numEvent_i (f : Fld) (u : Int) (hp1 : (0 : Int) ≤ u) : Fun Tryz.prog 240 [.agg (cFld f), .c (.int .u64 u)] [] (.v (.agg (cEv (numEv f u)))) [] := by
  have hN : bigN = 274877906944 := rfl
  refine fun_ofw Tryz.func240 (by kernel_rfl) (by kernel_rfl) (w := let zi : Int → C := .int .i64; let z1 : List C := [zi 2, zi f.number, .int .u64 u, zi 0, .str [], zi 0, zi 0]; (.br (.br (.leaf () []) (.leaf () [])) (.leaf () []), ((decide (f.kind = 3)) = true → ((!decide (u = 0)) = true → (.v (.agg [zi 2, zi f.number, .int .u64 1, zi 0, .str [], zi 0, zi 0]) : S) = .v (.agg (cEv (numEv f u))) ∧ ([] : List Blk) = []) ∧ ((!decide (u = 0)) = false → (.v (.agg z1) : S) = .v (.agg (cEv (numEv f u))) ∧ ([] : List Blk) = [])) ∧ ((decide (f.kind = 3)) = false → (.v (.agg z1) : S) = .v (.agg (cEv (numEv f u))) ∧ ([] : List Blk) = []))) (by kernel_rfl) ?_
  refine dsp (fun h1 p1 => ?_) fun h1 p1 => ?_
  refine ⟨fun h2 => have q2 := bnot_t h2; have p2 := of_decide_eq_false q2; ?_, fun h2 => have q2 := bnot_f h2; have p2 := of_decide_eq_true q2; ?_⟩
  refine have hm1 : numEv f u = (⟨2, f.number, 1, 0, [], 0, 0⟩ : Ev) := ?_; ?_
  rotate_left
  refine ⟨(congrArg S.v (congrArg V.agg (consE (congrArg (C.int .i64) ?_) (consE (congrArg (C.int .i64) ?_) (consE (congrArg (C.int .u64) ?_) (consE (congrArg (C.int .i64) ?_) (consE (congrArg C.str ?_) (consE (congrArg (C.int .i64) ?_) (consE (congrArg (C.int .i64) ?_) rfl))))))))), rfl⟩
  rotate_left 7
  refine have hm1 : numEv f u = (⟨2, f.number, u, 0, [], 0, 0⟩ : Ev) := ?_; ?_
  rotate_left
  refine ⟨(congrArg S.v (congrArg V.agg (consE (congrArg (C.int .i64) ?_) (consE (congrArg (C.int .i64) ?_) (consE (congrArg (C.int .u64) ?_) (consE (congrArg (C.int .i64) ?_) (consE (congrArg C.str ?_) (consE (congrArg (C.int .i64) ?_) (consE (congrArg (C.int .i64) ?_) rfl))))))))), rfl⟩
  rotate_left 7
  refine have hm1 : numEv f u = (⟨2, f.number, u, 0, [], 0, 0⟩ : Ev) := ?_; ?_
  rotate_left
  refine ⟨(congrArg S.v (congrArg V.agg (consE (congrArg (C.int .i64) ?_) (consE (congrArg (C.int .i64) ?_) (consE (congrArg (C.int .u64) ?_) (consE (congrArg (C.int .i64) ?_) (consE (congrArg C.str ?_) (consE (congrArg (C.int .i64) ?_) (consE (congrArg (C.int .i64) ?_) rfl))))))))), rfl⟩
  rotate_left 7
  all_goals simp [numEv, *] <;> omega
theorem numEvent_s (f : Fld) (u : Int) (hp1 : (0 : Int) ≤ u) : Fun Tryz.prog 158 [.agg (cFld f), .c (.int .u64 u)] [] (.v (.agg (cEv (numEv f u)))) [] := by
  have hN : bigN = 274877906944 := rfl
  refine fun_ofw Tryz.func158 (by kernel_rfl) (by kernel_rfl) (w := let zi : Int → C := .int .i64; let z1 : List C := [zi 2, zi f.number, .int .u64 u, zi 0, .str [], zi 0, zi 0]; (.br (.br (.leaf () []) (.leaf () [])) (.leaf () []), ((decide (f.kind = 3)) = true → ((decide (1 < u)) = true → (.v (.agg [zi 2, zi f.number, .int .u64 1, zi 0, .str [], zi 0, zi 0]) : S) = .v (.agg (cEv (numEv f u))) ∧ ([] : List Blk) = []) ∧ ((decide (1 < u)) = false → (.v (.agg z1) : S) = .v (.agg (cEv (numEv f u))) ∧ ([] : List Blk) = [])) ∧ ((decide (f.kind = 3)) = false → (.v (.agg z1) : S) = .v (.agg (cEv (numEv f u))) ∧ ([] : List Blk) = []))) (by kernel_rfl) ?_
  refine dsp (fun h1 p1 => ?_) fun h1 p1 => ?_
  refine dsp (fun h2 p2 => ?_) fun h2 p2 => ?_
  refine have hm1 : numEv f u = (⟨2, f.number, 1, 0, [], 0, 0⟩ : Ev) := ?_; ?_
  rotate_left
  refine ⟨(congrArg S.v (congrArg V.agg (consE (congrArg (C.int .i64) ?_) (consE (congrArg (C.int .i64) ?_) (consE (congrArg (C.int .u64) ?_) (consE (congrArg (C.int .i64) ?_) (consE (congrArg C.str ?_) (consE (congrArg (C.int .i64) ?_) (consE (congrArg (C.int .i64) ?_) rfl))))))))), rfl⟩
  rotate_left 7
  refine have hm1 : numEv f u = (⟨2, f.number, u, 0, [], 0, 0⟩ : Ev) := ?_; ?_
  rotate_left
  refine ⟨(congrArg S.v (congrArg V.agg (consE (congrArg (C.int .i64) ?_) (consE (congrArg (C.int .i64) ?_) (consE (congrArg (C.int .u64) ?_) (consE (congrArg (C.int .i64) ?_) (consE (congrArg C.str ?_) (consE (congrArg (C.int .i64) ?_) (consE (congrArg (C.int .i64) ?_) rfl))))))))), rfl⟩
  rotate_left 7
  refine have hm1 : numEv f u = (⟨2, f.number, u, 0, [], 0, 0⟩ : Ev) := ?_; ?_
  rotate_left
  refine ⟨(congrArg S.v (congrArg V.agg (consE (congrArg (C.int .i64) ?_) (consE (congrArg (C.int .i64) ?_) (consE (congrArg (C.int .u64) ?_) (consE (congrArg (C.int .i64) ?_) (consE (congrArg C.str ?_) (consE (congrArg (C.int .i64) ?_) (consE (congrArg (C.int .i64) ?_) rfl))))))))), rfl⟩
  rotate_left 7
  all_goals simp [numEv, *] <;> omega
theorem utfOk_i (u : Utf) : Fun Tryz.prog 175 [.agg (cUtf u)] [] (.v (vB (utfOk u))) [] := by
  have hN : bigN = 274877906944 := rfl
  refine fun_ofw Tryz.func175 (by kernel_rfl) (by kernel_rfl) (w := let z1 := decide (u.low = 128) && decide (u.high = 191); let z2 := decide (u.want = 2) && (decide (u.low = 160) && decide (u.high = 191)); let z3 := decide (u.want = 2) && (decide (u.low = 128) && decide (u.high = 159)); let z4 := decide (u.want = 3) && (decide (u.low = 144) && decide (u.high = 191)); let z5 := decide (u.want = 0) && (decide (u.low = 0) && decide (u.high = 0)); let z6 := (.v (vB true) : S); let z7 := ([] : List Blk); let z8 := vB (utfOk u); let z9 := decide (u.want = 3) && (decide (u.low = 128) && decide (u.high = 143)); let z10 := decide (u.want = 1) && z1; let z11 := decide (u.want = 2) && z1; let z12 := decide (u.want = 3) && z1; (.br (.seg [.br true] (.leaf () [])) (.br (.seg [.br true] (.leaf () [])) (.br (.seg [.br true] (.leaf () [])) (.br (.seg [.br true] (.leaf () [])) (.br (.seg [.br true] (.leaf () [])) (.br (.seg [.br true] (.leaf () [])) (.br (.seg [.br true] (.leaf () [])) (.br (.leaf () []) (.leaf () [])))))))), (z5 = true → (z5 = true) ∧ z6 = .v z8 ∧ z7 = []) ∧ (z5 = false → (z10 = true → (z10 = true) ∧ z6 = .v z8 ∧ z7 = []) ∧ (z10 = false → (z11 = true → (z11 = true) ∧ z6 = .v z8 ∧ z7 = []) ∧ (z11 = false → (z12 = true → (z12 = true) ∧ z6 = .v z8 ∧ z7 = []) ∧ (z12 = false → (z2 = true → (z2 = true) ∧ z6 = .v z8 ∧ z7 = []) ∧ (z2 = false → (z3 = true → (z3 = true) ∧ z6 = .v z8 ∧ z7 = []) ∧ (z3 = false → (z4 = true → (z4 = true) ∧ z6 = .v z8 ∧ z7 = []) ∧ (z4 = false → (z9 = true → z6 = .v z8 ∧ z7 = []) ∧ (z9 = false → (.v (vB false) : S) = .v z8 ∧ z7 = [])))))))))) (by kernel_rfl) ?_
  refine ⟨fun h1 => have p1 := (andT dT (andT dT dT)).1 h1; ?_, fun h1 => have p1 := (andF dT (andF dT dF)).1 h1; ?_⟩
  refine ⟨h1, (sB ?_), rfl⟩
  rotate_left
  refine ⟨fun h2 => have p2 := (andT dT (andT dT dT)).1 h2; ?_, fun h2 => have p2 := (andF dT (andF dT dF)).1 h2; ?_⟩
  refine ⟨h2, (sB ?_), rfl⟩
  rotate_left
  refine ⟨fun h3 => have p3 := (andT dT (andT dT dT)).1 h3; ?_, fun h3 => have p3 := (andF dT (andF dT dF)).1 h3; ?_⟩
  refine ⟨h3, (sB ?_), rfl⟩
  rotate_left
  refine ⟨fun h4 => have p4 := (andT dT (andT dT dT)).1 h4; ?_, fun h4 => have p4 := (andF dT (andF dT dF)).1 h4; ?_⟩
  refine ⟨h4, (sB ?_), rfl⟩
  rotate_left
  refine ⟨fun h5 => have p5 := (andT dT (andT dT dT)).1 h5; ?_, fun h5 => have p5 := (andF dT (andF dT dF)).1 h5; ?_⟩
  refine ⟨h5, (sB ?_), rfl⟩
  rotate_left
  refine ⟨fun h6 => have p6 := (andT dT (andT dT dT)).1 h6; ?_, fun h6 => have p6 := (andF dT (andF dT dF)).1 h6; ?_⟩
  refine ⟨h6, (sB ?_), rfl⟩
  rotate_left
  refine ⟨fun h7 => have p7 := (andT dT (andT dT dT)).1 h7; ?_, fun h7 => have p7 := (andF dT (andF dT dF)).1 h7; ?_⟩
  refine ⟨h7, (sB ?_), rfl⟩
  rotate_left
  refine ⟨fun h8 => have p8 := (andT dT (andT dT dT)).1 h8; ?_, fun h8 => have p8 := (andF dT (andF dT dF)).1 h8; ?_⟩
  refine ⟨(sB ?_), rfl⟩
  rotate_left
  refine ⟨(sB ?_), rfl⟩
  rotate_left
  all_goals first | (rw [Bool.eq_iff_iff]; simp [utfOk, utfIs]; omega) | (rw [Bool.eq_iff_iff]; simp [utfOk, utfIs, within]; omega) | (simp_all [utfOk, utfIs, within]; done)
theorem utfOk_s (u : Utf) : Fun Tryz.prog 144 [.agg (cUtf u)] [] (.v (vB (utfOk u))) [] := by
  have hN : bigN = 274877906944 := rfl
  refine fun_ofw Tryz.func144 (by kernel_rfl) (by kernel_rfl) (w := let z1 := decide (u.low = 128); let z2 := ([] : List Blk); let z3 := vB (utfOk u); let z4 := decide (u.high = 191); let z5 := (.v (vB false) : S); let z6 := decide (u.want = 0) && (decide (u.low = 0) && decide (u.high = 0)); let z7 := decide (u.low = 160); let z8 := decide (u.low = 144); let z9 := decide (u.want = 2); let z10 := decide (u.want = 3); let z11 := z4 = true → (.v (vB true) : S) = .v z3 ∧ z2 = []; let z12 := z4 = false → (z1 = false) ∧ z5 = .v z3 ∧ z2 = []; let z13 := vB (within u.want 1 3); let z14 := (.v (vB (decide (u.high = 159))) : S); let z15 := (.v (vB (decide (u.high = 143))) : S); let z16 := z10 = false → z5 = .v z3 ∧ z2 = []; (.br (.leaf () []) (.br (.br (.seg [.call [] (.v z13) []] (.leaf () [])) (.br (.br (.seg [.br false, .br true] (.leaf () [])) (.seg [.br true] (.leaf () []))) (.br (.br (.seg [.br false, .br true] (.leaf () [])) (.seg [.br true] (.leaf () []))) (.leaf () [])))) (.br (.br (.br (.leaf () []) (.seg [.br false] (.leaf () []))) (.seg [.br false] (.leaf () []))) (.br (.br (.br (.leaf () []) (.seg [.br false] (.leaf () []))) (.seg [.br false] (.leaf () []))) (.leaf () [])))), (z6 = true → (.v (vB true) : S) = .v z3 ∧ z2 = []) ∧ (z6 = false → (z1 = true → (z4 = true → (Fun Tryz.prog 105 [vI u.want, vI 1, vI 3] [] (.v z13) []) ∧ (.v z13 : S) = .v z3 ∧ z2 = []) ∧ (z4 = false → (z9 = true → (z7 = true → (z4 = false) ∧ (z1 = true) ∧ z14 = .v z3 ∧ z2 = []) ∧ (z7 = false → (z1 = true) ∧ z14 = .v z3 ∧ z2 = [])) ∧ (z9 = false → (z10 = true → (z8 = true → (z4 = false) ∧ (z1 = true) ∧ z15 = .v z3 ∧ z2 = []) ∧ (z8 = false → (z1 = true) ∧ z15 = .v z3 ∧ z2 = [])) ∧ z16))) ∧ (z1 = false → (z9 = true → (z7 = true → z11 ∧ z12) ∧ (z7 = false → (z1 = false) ∧ z5 = .v z3 ∧ z2 = [])) ∧ (z9 = false → (z10 = true → (z8 = true → z11 ∧ z12) ∧ (z8 = false → (z1 = false) ∧ z5 = .v z3 ∧ z2 = [])) ∧ z16))))) (by kernel_rfl) ?_
  refine ⟨fun h1 => have p1 := (andT dT (andT dT dT)).1 h1; ?_, fun h1 => have p1 := (andF dT (andF dT dF)).1 h1; ?_⟩
  refine ⟨(sB ?_), rfl⟩
  rotate_left
  refine dsp (fun h2 p2 => ?_) fun h2 p2 => ?_
  refine dsp (fun h3 p3 => ?_) fun h3 p3 => ?_
  refine ⟨(within_s _ _ _), (sB ?_), rfl⟩
  rotate_left
  refine dsp (fun h4 p4 => ?_) fun h4 p4 => ?_
  refine dsp (fun h5 p5 => ?_) fun h5 p5 => ?_
  refine ⟨h3, h2, (sB ?_), rfl⟩
  rotate_left
  refine ⟨h2, (sB ?_), rfl⟩
  rotate_left
  refine dsp (fun h5 p5 => ?_) fun h5 p5 => ?_
  refine dsp (fun h6 p6 => ?_) fun h6 p6 => ?_
  refine ⟨h3, h2, (sB ?_), rfl⟩
  rotate_left
  refine ⟨h2, (sB ?_), rfl⟩
  rotate_left
  refine ⟨(sB ?_), rfl⟩
  rotate_left
  refine dsp (fun h3 p3 => ?_) fun h3 p3 => ?_
  refine dsp (fun h4 p4 => ?_) fun h4 p4 => ?_
  refine dsp (fun h5 p5 => ?_) fun h5 p5 => ?_
  refine ⟨(sB ?_), rfl⟩
  rotate_left
  refine ⟨h2, (sB ?_), rfl⟩
  rotate_left
  refine ⟨h2, (sB ?_), rfl⟩
  rotate_left
  refine dsp (fun h4 p4 => ?_) fun h4 p4 => ?_
  refine dsp (fun h5 p5 => ?_) fun h5 p5 => ?_
  refine dsp (fun h6 p6 => ?_) fun h6 p6 => ?_
  refine ⟨(sB ?_), rfl⟩
  rotate_left
  refine ⟨h2, (sB ?_), rfl⟩
  rotate_left
  refine ⟨h2, (sB ?_), rfl⟩
  rotate_left
  refine ⟨(sB ?_), rfl⟩
  rotate_left
  all_goals first | (rw [Bool.eq_iff_iff]; simp [utfOk, utfIs]; omega) | (rw [Bool.eq_iff_iff]; simp [utfOk, utfIs, within]; omega) | (simp_all [utfOk, utfIs, within]; done)
theorem utfFirst_i (b : Int) : Fun Tryz.prog 238 [vI b] [] (.tup [.agg (cUtf ((utfFirst b).getD utf0)), vB (utfFirst b).isSome]) [] := by
  have hN : bigN = 274877906944 := rfl
  refine fun_ofw Tryz.func238 (by kernel_rfl) (by kernel_rfl) (w := let zi : Int → C := .int .i64; let z2 := ([] : List Blk); let z3 := utfFirst b; let z1 := cUtf (z3.getD utf0); let z4 := decide (b = 224); let z5 := decide (b = 237); let z6 := decide (b = 240); let z7 := decide (b = 244); let z8 := within b 194 223; let z9 := within b 224 239; let z10 := within b 240 244; let z11 := within b 0 127; (.seg [.call [] (.v (vB z11)) []] (.br (.leaf () []) (.seg [.call [] (.v (vB z8)) []] (.br (.br (.leaf () []) (.br (.leaf () []) (.br (.leaf () []) (.br (.leaf () []) (.leaf () []))))) (.seg [.call [] (.v (vB z9)) []] (.br (.br (.leaf () []) (.br (.leaf () []) (.br (.leaf () []) (.br (.leaf () []) (.leaf () []))))) (.seg [.call [] (.v (vB z10)) []] (.br (.br (.leaf () []) (.br (.leaf () []) (.br (.leaf () []) (.br (.leaf () []) (.leaf () []))))) (.leaf () [])))))))), (Fun Tryz.prog 173 [vI b, vI 0, vI 127] [] (.v (vB z11)) []) ∧ (z11 = true → (.tup [.agg [zi 0, zi 0, zi 0], vB true] : S) = .tup [.agg z1, vB z3.isSome] ∧ z2 = []) ∧ (z11 = false → (Fun Tryz.prog 173 [vI b, vI 194, vI 223] [] (.v (vB z8)) []) ∧ (z8 = true → (z4 = true → (.tup [.agg [zi 1, zi 160, zi 191], vB true] : S) = .tup [.agg z1, vB z3.isSome] ∧ z2 = []) ∧ (z4 = false → (z5 = true → (.tup [.agg [zi 1, zi 128, zi 159], vB true] : S) = .tup [.agg z1, vB z3.isSome] ∧ z2 = []) ∧ (z5 = false → (z6 = true → (.tup [.agg [zi 1, zi 144, zi 191], vB true] : S) = .tup [.agg z1, vB z3.isSome] ∧ z2 = []) ∧ (z6 = false → (z7 = true → (.tup [.agg [zi 1, zi 128, zi 143], vB true] : S) = .tup [.agg z1, vB z3.isSome] ∧ z2 = []) ∧ (z7 = false → (.tup [.agg [zi 1, zi 128, zi 191], vB true] : S) = .tup [.agg z1, vB z3.isSome] ∧ z2 = []))))) ∧ (z8 = false → (Fun Tryz.prog 173 [vI b, vI 224, vI 239] [] (.v (vB z9)) []) ∧ (z9 = true → (z4 = true → (.tup [.agg [zi 2, zi 160, zi 191], vB true] : S) = .tup [.agg z1, vB z3.isSome] ∧ z2 = []) ∧ (z4 = false → (z5 = true → (.tup [.agg [zi 2, zi 128, zi 159], vB true] : S) = .tup [.agg z1, vB z3.isSome] ∧ z2 = []) ∧ (z5 = false → (z6 = true → (.tup [.agg [zi 2, zi 144, zi 191], vB true] : S) = .tup [.agg z1, vB z3.isSome] ∧ z2 = []) ∧ (z6 = false → (z7 = true → (.tup [.agg [zi 2, zi 128, zi 143], vB true] : S) = .tup [.agg z1, vB z3.isSome] ∧ z2 = []) ∧ (z7 = false → (.tup [.agg [zi 2, zi 128, zi 191], vB true] : S) = .tup [.agg z1, vB z3.isSome] ∧ z2 = []))))) ∧ (z9 = false → (Fun Tryz.prog 173 [vI b, vI 240, vI 244] [] (.v (vB z10)) []) ∧ (z10 = true → (z4 = true → (.tup [.agg [zi 3, zi 160, zi 191], vB true] : S) = .tup [.agg z1, vB z3.isSome] ∧ z2 = []) ∧ (z4 = false → (z5 = true → (.tup [.agg [zi 3, zi 128, zi 159], vB true] : S) = .tup [.agg z1, vB z3.isSome] ∧ z2 = []) ∧ (z5 = false → (z6 = true → (.tup [.agg [zi 3, zi 144, zi 191], vB true] : S) = .tup [.agg z1, vB z3.isSome] ∧ z2 = []) ∧ (z6 = false → (z7 = true → (.tup [.agg [zi 3, zi 128, zi 143], vB true] : S) = .tup [.agg z1, vB z3.isSome] ∧ z2 = []) ∧ (z7 = false → (.tup [.agg [zi 3, zi 128, zi 191], vB true] : S) = .tup [.agg z1, vB z3.isSome] ∧ z2 = []))))) ∧ (z10 = false → (.tup [.agg [zi 0, zi 0, zi 0], vB false] : S) = .tup [.agg z1, vB z3.isSome] ∧ z2 = [])))))) (by kernel_rfl) ?_
  refine ⟨(within_i _ _ _), fun h1 => have p1 := within_t h1; ?_, fun h1 => have p1 := within_f h1; ?_⟩
  refine have hm1 : (utfFirst b).getD utf0 = utf0 := ?_; ?_
  rotate_left
  refine ⟨(congrArg S.tup (consE (congrArg V.agg (consE (congrArg (C.int .i64) ?_) (consE (congrArg (C.int .i64) ?_) (consE (congrArg (C.int .i64) ?_) rfl)))) (consE (congrArg V.c (congrArg C.bool ?_)) rfl))), rfl⟩
  rotate_left 4
  refine ⟨(within_i _ _ _), fun h2 => have p2 := within_t h2; ?_, fun h2 => have p2 := within_f h2; ?_⟩
  refine dsp (fun h3 p3 => ?_) fun h3 p3 => ?_
  refine have hm1 : (utfFirst b).getD utf0 = (⟨1, 160, 191⟩ : Utf) := ?_; ?_
  rotate_left
  refine ⟨(congrArg S.tup (consE (congrArg V.agg (consE (congrArg (C.int .i64) ?_) (consE (congrArg (C.int .i64) ?_) (consE (congrArg (C.int .i64) ?_) rfl)))) (consE (congrArg V.c (congrArg C.bool ?_)) rfl))), rfl⟩
  rotate_left 4
  refine dsp (fun h4 p4 => ?_) fun h4 p4 => ?_
  refine have hm1 : (utfFirst b).getD utf0 = (⟨1, 128, 159⟩ : Utf) := ?_; ?_
  rotate_left
  refine ⟨(congrArg S.tup (consE (congrArg V.agg (consE (congrArg (C.int .i64) ?_) (consE (congrArg (C.int .i64) ?_) (consE (congrArg (C.int .i64) ?_) rfl)))) (consE (congrArg V.c (congrArg C.bool ?_)) rfl))), rfl⟩
  rotate_left 4
  refine dsp (fun h5 p5 => ?_) fun h5 p5 => ?_
  refine have hm1 : (utfFirst b).getD utf0 = (⟨1, 144, 191⟩ : Utf) := ?_; ?_
  rotate_left
  refine ⟨(congrArg S.tup (consE (congrArg V.agg (consE (congrArg (C.int .i64) ?_) (consE (congrArg (C.int .i64) ?_) (consE (congrArg (C.int .i64) ?_) rfl)))) (consE (congrArg V.c (congrArg C.bool ?_)) rfl))), rfl⟩
  rotate_left 4
  refine dsp (fun h6 p6 => ?_) fun h6 p6 => ?_
  refine have hm1 : (utfFirst b).getD utf0 = (⟨1, 128, 143⟩ : Utf) := ?_; ?_
  rotate_left
  refine ⟨(congrArg S.tup (consE (congrArg V.agg (consE (congrArg (C.int .i64) ?_) (consE (congrArg (C.int .i64) ?_) (consE (congrArg (C.int .i64) ?_) rfl)))) (consE (congrArg V.c (congrArg C.bool ?_)) rfl))), rfl⟩
  rotate_left 4
  refine have hm1 : (utfFirst b).getD utf0 = (⟨1, 128, 191⟩ : Utf) := ?_; ?_
  rotate_left
  refine ⟨(congrArg S.tup (consE (congrArg V.agg (consE (congrArg (C.int .i64) ?_) (consE (congrArg (C.int .i64) ?_) (consE (congrArg (C.int .i64) ?_) rfl)))) (consE (congrArg V.c (congrArg C.bool ?_)) rfl))), rfl⟩
  rotate_left 4
  refine ⟨(within_i _ _ _), fun h3 => have p3 := within_t h3; ?_, fun h3 => have p3 := within_f h3; ?_⟩
  refine dsp (fun h4 p4 => ?_) fun h4 p4 => ?_
  refine have hm1 : (utfFirst b).getD utf0 = (⟨2, 160, 191⟩ : Utf) := ?_; ?_
  rotate_left
  refine ⟨(congrArg S.tup (consE (congrArg V.agg (consE (congrArg (C.int .i64) ?_) (consE (congrArg (C.int .i64) ?_) (consE (congrArg (C.int .i64) ?_) rfl)))) (consE (congrArg V.c (congrArg C.bool ?_)) rfl))), rfl⟩
  rotate_left 4
  refine dsp (fun h5 p5 => ?_) fun h5 p5 => ?_
  refine have hm1 : (utfFirst b).getD utf0 = (⟨2, 128, 159⟩ : Utf) := ?_; ?_
  rotate_left
  refine ⟨(congrArg S.tup (consE (congrArg V.agg (consE (congrArg (C.int .i64) ?_) (consE (congrArg (C.int .i64) ?_) (consE (congrArg (C.int .i64) ?_) rfl)))) (consE (congrArg V.c (congrArg C.bool ?_)) rfl))), rfl⟩
  rotate_left 4
  refine dsp (fun h6 p6 => ?_) fun h6 p6 => ?_
  refine have hm1 : (utfFirst b).getD utf0 = (⟨2, 144, 191⟩ : Utf) := ?_; ?_
  rotate_left
  refine ⟨(congrArg S.tup (consE (congrArg V.agg (consE (congrArg (C.int .i64) ?_) (consE (congrArg (C.int .i64) ?_) (consE (congrArg (C.int .i64) ?_) rfl)))) (consE (congrArg V.c (congrArg C.bool ?_)) rfl))), rfl⟩
  rotate_left 4
  refine dsp (fun h7 p7 => ?_) fun h7 p7 => ?_
  refine have hm1 : (utfFirst b).getD utf0 = (⟨2, 128, 143⟩ : Utf) := ?_; ?_
  rotate_left
  refine ⟨(congrArg S.tup (consE (congrArg V.agg (consE (congrArg (C.int .i64) ?_) (consE (congrArg (C.int .i64) ?_) (consE (congrArg (C.int .i64) ?_) rfl)))) (consE (congrArg V.c (congrArg C.bool ?_)) rfl))), rfl⟩
  rotate_left 4
  refine have hm1 : (utfFirst b).getD utf0 = (⟨2, 128, 191⟩ : Utf) := ?_; ?_
  rotate_left
  refine ⟨(congrArg S.tup (consE (congrArg V.agg (consE (congrArg (C.int .i64) ?_) (consE (congrArg (C.int .i64) ?_) (consE (congrArg (C.int .i64) ?_) rfl)))) (consE (congrArg V.c (congrArg C.bool ?_)) rfl))), rfl⟩
  rotate_left 4
  refine ⟨(within_i _ _ _), fun h4 => have p4 := within_t h4; ?_, fun h4 => have p4 := within_f h4; ?_⟩
  refine dsp (fun h5 p5 => ?_) fun h5 p5 => ?_
  refine have hm1 : (utfFirst b).getD utf0 = (⟨3, 160, 191⟩ : Utf) := ?_; ?_
  rotate_left
  refine ⟨(congrArg S.tup (consE (congrArg V.agg (consE (congrArg (C.int .i64) ?_) (consE (congrArg (C.int .i64) ?_) (consE (congrArg (C.int .i64) ?_) rfl)))) (consE (congrArg V.c (congrArg C.bool ?_)) rfl))), rfl⟩
  rotate_left 4
  refine dsp (fun h6 p6 => ?_) fun h6 p6 => ?_
  refine have hm1 : (utfFirst b).getD utf0 = (⟨3, 128, 159⟩ : Utf) := ?_; ?_
  rotate_left
  refine ⟨(congrArg S.tup (consE (congrArg V.agg (consE (congrArg (C.int .i64) ?_) (consE (congrArg (C.int .i64) ?_) (consE (congrArg (C.int .i64) ?_) rfl)))) (consE (congrArg V.c (congrArg C.bool ?_)) rfl))), rfl⟩
  rotate_left 4
  refine dsp (fun h7 p7 => ?_) fun h7 p7 => ?_
  refine have hm1 : (utfFirst b).getD utf0 = (⟨3, 144, 191⟩ : Utf) := ?_; ?_
  rotate_left
  refine ⟨(congrArg S.tup (consE (congrArg V.agg (consE (congrArg (C.int .i64) ?_) (consE (congrArg (C.int .i64) ?_) (consE (congrArg (C.int .i64) ?_) rfl)))) (consE (congrArg V.c (congrArg C.bool ?_)) rfl))), rfl⟩
  rotate_left 4
  refine dsp (fun h8 p8 => ?_) fun h8 p8 => ?_
  refine have hm1 : (utfFirst b).getD utf0 = (⟨3, 128, 143⟩ : Utf) := ?_; ?_
  rotate_left
  refine ⟨(congrArg S.tup (consE (congrArg V.agg (consE (congrArg (C.int .i64) ?_) (consE (congrArg (C.int .i64) ?_) (consE (congrArg (C.int .i64) ?_) rfl)))) (consE (congrArg V.c (congrArg C.bool ?_)) rfl))), rfl⟩
  rotate_left 4
  refine have hm1 : (utfFirst b).getD utf0 = (⟨3, 128, 191⟩ : Utf) := ?_; ?_
  rotate_left
  refine ⟨(congrArg S.tup (consE (congrArg V.agg (consE (congrArg (C.int .i64) ?_) (consE (congrArg (C.int .i64) ?_) (consE (congrArg (C.int .i64) ?_) rfl)))) (consE (congrArg V.c (congrArg C.bool ?_)) rfl))), rfl⟩
  rotate_left 4
  refine have hm1 : (utfFirst b).getD utf0 = utf0 := ?_; ?_
  rotate_left
  refine ⟨(congrArg S.tup (consE (congrArg V.agg (consE (congrArg (C.int .i64) ?_) (consE (congrArg (C.int .i64) ?_) (consE (congrArg (C.int .i64) ?_) rfl)))) (consE (congrArg V.c (congrArg C.bool ?_)) rfl))), rfl⟩
  rotate_left 4
  all_goals first | (simp [utfFirst, utf0, *]; done) | (simp_all [utfFirst, utf0, within]; done) | (simp_all [utfFirst, utf0, within]; omega)
theorem utfFirst_s (b : Int) : Fun Tryz.prog 155 [vI b] [] (.tup [.agg (cUtf ((utfFirst b).getD utf0)), vB (utfFirst b).isSome]) [] := by
  have hN : bigN = 274877906944 := rfl
  refine fun_ofw Tryz.func155 (by kernel_rfl) (by kernel_rfl) (w := let zi : Int → C := .int .i64; let z2 := ([] : List Blk); let z3 := utfFirst b; let z1 := cUtf (z3.getD utf0); let z4 := decide (b = 224); let z5 := decide (b = 237); let z6 := decide (b = 240); let z7 := decide (b = 244); let z8 := within b 194 223; let z9 := within b 224 239; let z10 := within b 240 244; let z11 := within b 0 127; (.seg [.call [] (.v (vB z11)) []] (.br (.leaf () []) (.seg [.call [] (.v (vB z8)) []] (.br (.br (.leaf () []) (.br (.leaf () []) (.br (.leaf () []) (.br (.leaf () []) (.leaf () []))))) (.seg [.call [] (.v (vB z9)) []] (.br (.br (.leaf () []) (.br (.leaf () []) (.br (.leaf () []) (.br (.leaf () []) (.leaf () []))))) (.seg [.call [] (.v (vB z10)) []] (.br (.br (.leaf () []) (.br (.leaf () []) (.br (.leaf () []) (.br (.leaf () []) (.leaf () []))))) (.leaf () [])))))))), (Fun Tryz.prog 105 [vI b, vI 0, vI 127] [] (.v (vB z11)) []) ∧ (z11 = true → (.tup [.agg [zi 0, zi 0, zi 0], vB true] : S) = .tup [.agg z1, vB z3.isSome] ∧ z2 = []) ∧ (z11 = false → (Fun Tryz.prog 105 [vI b, vI 194, vI 223] [] (.v (vB z8)) []) ∧ (z8 = true → (z4 = true → (.tup [.agg [zi 1, zi 160, zi 191], vB true] : S) = .tup [.agg z1, vB z3.isSome] ∧ z2 = []) ∧ (z4 = false → (z5 = true → (.tup [.agg [zi 1, zi 128, zi 159], vB true] : S) = .tup [.agg z1, vB z3.isSome] ∧ z2 = []) ∧ (z5 = false → (z6 = true → (.tup [.agg [zi 1, zi 144, zi 191], vB true] : S) = .tup [.agg z1, vB z3.isSome] ∧ z2 = []) ∧ (z6 = false → (z7 = true → (.tup [.agg [zi 1, zi 128, zi 143], vB true] : S) = .tup [.agg z1, vB z3.isSome] ∧ z2 = []) ∧ (z7 = false → (.tup [.agg [zi 1, zi 128, zi 191], vB true] : S) = .tup [.agg z1, vB z3.isSome] ∧ z2 = []))))) ∧ (z8 = false → (Fun Tryz.prog 105 [vI b, vI 224, vI 239] [] (.v (vB z9)) []) ∧ (z9 = true → (z4 = true → (.tup [.agg [zi 2, zi 160, zi 191], vB true] : S) = .tup [.agg z1, vB z3.isSome] ∧ z2 = []) ∧ (z4 = false → (z5 = true → (.tup [.agg [zi 2, zi 128, zi 159], vB true] : S) = .tup [.agg z1, vB z3.isSome] ∧ z2 = []) ∧ (z5 = false → (z6 = true → (.tup [.agg [zi 2, zi 144, zi 191], vB true] : S) = .tup [.agg z1, vB z3.isSome] ∧ z2 = []) ∧ (z6 = false → (z7 = true → (.tup [.agg [zi 2, zi 128, zi 143], vB true] : S) = .tup [.agg z1, vB z3.isSome] ∧ z2 = []) ∧ (z7 = false → (.tup [.agg [zi 2, zi 128, zi 191], vB true] : S) = .tup [.agg z1, vB z3.isSome] ∧ z2 = []))))) ∧ (z9 = false → (Fun Tryz.prog 105 [vI b, vI 240, vI 244] [] (.v (vB z10)) []) ∧ (z10 = true → (z4 = true → (.tup [.agg [zi 3, zi 160, zi 191], vB true] : S) = .tup [.agg z1, vB z3.isSome] ∧ z2 = []) ∧ (z4 = false → (z5 = true → (.tup [.agg [zi 3, zi 128, zi 159], vB true] : S) = .tup [.agg z1, vB z3.isSome] ∧ z2 = []) ∧ (z5 = false → (z6 = true → (.tup [.agg [zi 3, zi 144, zi 191], vB true] : S) = .tup [.agg z1, vB z3.isSome] ∧ z2 = []) ∧ (z6 = false → (z7 = true → (.tup [.agg [zi 3, zi 128, zi 143], vB true] : S) = .tup [.agg z1, vB z3.isSome] ∧ z2 = []) ∧ (z7 = false → (.tup [.agg [zi 3, zi 128, zi 191], vB true] : S) = .tup [.agg z1, vB z3.isSome] ∧ z2 = []))))) ∧ (z10 = false → (.tup [.agg [zi 0, zi 0, zi 0], vB false] : S) = .tup [.agg z1, vB z3.isSome] ∧ z2 = [])))))) (by kernel_rfl) ?_
  refine ⟨(within_s _ _ _), fun h1 => have p1 := within_t h1; ?_, fun h1 => have p1 := within_f h1; ?_⟩
  refine have hm1 : (utfFirst b).getD utf0 = utf0 := ?_; ?_
  rotate_left
  refine ⟨(congrArg S.tup (consE (congrArg V.agg (consE (congrArg (C.int .i64) ?_) (consE (congrArg (C.int .i64) ?_) (consE (congrArg (C.int .i64) ?_) rfl)))) (consE (congrArg V.c (congrArg C.bool ?_)) rfl))), rfl⟩
  rotate_left 4
  refine ⟨(within_s _ _ _), fun h2 => have p2 := within_t h2; ?_, fun h2 => have p2 := within_f h2; ?_⟩
  refine dsp (fun h3 p3 => ?_) fun h3 p3 => ?_
  refine have hm1 : (utfFirst b).getD utf0 = (⟨1, 160, 191⟩ : Utf) := ?_; ?_
  rotate_left
  refine ⟨(congrArg S.tup (consE (congrArg V.agg (consE (congrArg (C.int .i64) ?_) (consE (congrArg (C.int .i64) ?_) (consE (congrArg (C.int .i64) ?_) rfl)))) (consE (congrArg V.c (congrArg C.bool ?_)) rfl))), rfl⟩
  rotate_left 4
  refine dsp (fun h4 p4 => ?_) fun h4 p4 => ?_
  refine have hm1 : (utfFirst b).getD utf0 = (⟨1, 128, 159⟩ : Utf) := ?_; ?_
  rotate_left
  refine ⟨(congrArg S.tup (consE (congrArg V.agg (consE (congrArg (C.int .i64) ?_) (consE (congrArg (C.int .i64) ?_) (consE (congrArg (C.int .i64) ?_) rfl)))) (consE (congrArg V.c (congrArg C.bool ?_)) rfl))), rfl⟩
  rotate_left 4
  refine dsp (fun h5 p5 => ?_) fun h5 p5 => ?_
  refine have hm1 : (utfFirst b).getD utf0 = (⟨1, 144, 191⟩ : Utf) := ?_; ?_
  rotate_left
  refine ⟨(congrArg S.tup (consE (congrArg V.agg (consE (congrArg (C.int .i64) ?_) (consE (congrArg (C.int .i64) ?_) (consE (congrArg (C.int .i64) ?_) rfl)))) (consE (congrArg V.c (congrArg C.bool ?_)) rfl))), rfl⟩
  rotate_left 4
  refine dsp (fun h6 p6 => ?_) fun h6 p6 => ?_
  refine have hm1 : (utfFirst b).getD utf0 = (⟨1, 128, 143⟩ : Utf) := ?_; ?_
  rotate_left
  refine ⟨(congrArg S.tup (consE (congrArg V.agg (consE (congrArg (C.int .i64) ?_) (consE (congrArg (C.int .i64) ?_) (consE (congrArg (C.int .i64) ?_) rfl)))) (consE (congrArg V.c (congrArg C.bool ?_)) rfl))), rfl⟩
  rotate_left 4
  refine have hm1 : (utfFirst b).getD utf0 = (⟨1, 128, 191⟩ : Utf) := ?_; ?_
  rotate_left
  refine ⟨(congrArg S.tup (consE (congrArg V.agg (consE (congrArg (C.int .i64) ?_) (consE (congrArg (C.int .i64) ?_) (consE (congrArg (C.int .i64) ?_) rfl)))) (consE (congrArg V.c (congrArg C.bool ?_)) rfl))), rfl⟩
  rotate_left 4
  refine ⟨(within_s _ _ _), fun h3 => have p3 := within_t h3; ?_, fun h3 => have p3 := within_f h3; ?_⟩
  refine dsp (fun h4 p4 => ?_) fun h4 p4 => ?_
  refine have hm1 : (utfFirst b).getD utf0 = (⟨2, 160, 191⟩ : Utf) := ?_; ?_
  rotate_left
  refine ⟨(congrArg S.tup (consE (congrArg V.agg (consE (congrArg (C.int .i64) ?_) (consE (congrArg (C.int .i64) ?_) (consE (congrArg (C.int .i64) ?_) rfl)))) (consE (congrArg V.c (congrArg C.bool ?_)) rfl))), rfl⟩
  rotate_left 4
  refine dsp (fun h5 p5 => ?_) fun h5 p5 => ?_
  refine have hm1 : (utfFirst b).getD utf0 = (⟨2, 128, 159⟩ : Utf) := ?_; ?_
  rotate_left
  refine ⟨(congrArg S.tup (consE (congrArg V.agg (consE (congrArg (C.int .i64) ?_) (consE (congrArg (C.int .i64) ?_) (consE (congrArg (C.int .i64) ?_) rfl)))) (consE (congrArg V.c (congrArg C.bool ?_)) rfl))), rfl⟩
  rotate_left 4
  refine dsp (fun h6 p6 => ?_) fun h6 p6 => ?_
  refine have hm1 : (utfFirst b).getD utf0 = (⟨2, 144, 191⟩ : Utf) := ?_; ?_
  rotate_left
  refine ⟨(congrArg S.tup (consE (congrArg V.agg (consE (congrArg (C.int .i64) ?_) (consE (congrArg (C.int .i64) ?_) (consE (congrArg (C.int .i64) ?_) rfl)))) (consE (congrArg V.c (congrArg C.bool ?_)) rfl))), rfl⟩
  rotate_left 4
  refine dsp (fun h7 p7 => ?_) fun h7 p7 => ?_
  refine have hm1 : (utfFirst b).getD utf0 = (⟨2, 128, 143⟩ : Utf) := ?_; ?_
  rotate_left
  refine ⟨(congrArg S.tup (consE (congrArg V.agg (consE (congrArg (C.int .i64) ?_) (consE (congrArg (C.int .i64) ?_) (consE (congrArg (C.int .i64) ?_) rfl)))) (consE (congrArg V.c (congrArg C.bool ?_)) rfl))), rfl⟩
  rotate_left 4
  refine have hm1 : (utfFirst b).getD utf0 = (⟨2, 128, 191⟩ : Utf) := ?_; ?_
  rotate_left
  refine ⟨(congrArg S.tup (consE (congrArg V.agg (consE (congrArg (C.int .i64) ?_) (consE (congrArg (C.int .i64) ?_) (consE (congrArg (C.int .i64) ?_) rfl)))) (consE (congrArg V.c (congrArg C.bool ?_)) rfl))), rfl⟩
  rotate_left 4
  refine ⟨(within_s _ _ _), fun h4 => have p4 := within_t h4; ?_, fun h4 => have p4 := within_f h4; ?_⟩
  refine dsp (fun h5 p5 => ?_) fun h5 p5 => ?_
  refine have hm1 : (utfFirst b).getD utf0 = (⟨3, 160, 191⟩ : Utf) := ?_; ?_
  rotate_left
  refine ⟨(congrArg S.tup (consE (congrArg V.agg (consE (congrArg (C.int .i64) ?_) (consE (congrArg (C.int .i64) ?_) (consE (congrArg (C.int .i64) ?_) rfl)))) (consE (congrArg V.c (congrArg C.bool ?_)) rfl))), rfl⟩
  rotate_left 4
  refine dsp (fun h6 p6 => ?_) fun h6 p6 => ?_
  refine have hm1 : (utfFirst b).getD utf0 = (⟨3, 128, 159⟩ : Utf) := ?_; ?_
  rotate_left
  refine ⟨(congrArg S.tup (consE (congrArg V.agg (consE (congrArg (C.int .i64) ?_) (consE (congrArg (C.int .i64) ?_) (consE (congrArg (C.int .i64) ?_) rfl)))) (consE (congrArg V.c (congrArg C.bool ?_)) rfl))), rfl⟩
  rotate_left 4
  refine dsp (fun h7 p7 => ?_) fun h7 p7 => ?_
  refine have hm1 : (utfFirst b).getD utf0 = (⟨3, 144, 191⟩ : Utf) := ?_; ?_
  rotate_left
  refine ⟨(congrArg S.tup (consE (congrArg V.agg (consE (congrArg (C.int .i64) ?_) (consE (congrArg (C.int .i64) ?_) (consE (congrArg (C.int .i64) ?_) rfl)))) (consE (congrArg V.c (congrArg C.bool ?_)) rfl))), rfl⟩
  rotate_left 4
  refine dsp (fun h8 p8 => ?_) fun h8 p8 => ?_
  refine have hm1 : (utfFirst b).getD utf0 = (⟨3, 128, 143⟩ : Utf) := ?_; ?_
  rotate_left
  refine ⟨(congrArg S.tup (consE (congrArg V.agg (consE (congrArg (C.int .i64) ?_) (consE (congrArg (C.int .i64) ?_) (consE (congrArg (C.int .i64) ?_) rfl)))) (consE (congrArg V.c (congrArg C.bool ?_)) rfl))), rfl⟩
  rotate_left 4
  refine have hm1 : (utfFirst b).getD utf0 = (⟨3, 128, 191⟩ : Utf) := ?_; ?_
  rotate_left
  refine ⟨(congrArg S.tup (consE (congrArg V.agg (consE (congrArg (C.int .i64) ?_) (consE (congrArg (C.int .i64) ?_) (consE (congrArg (C.int .i64) ?_) rfl)))) (consE (congrArg V.c (congrArg C.bool ?_)) rfl))), rfl⟩
  rotate_left 4
  refine have hm1 : (utfFirst b).getD utf0 = utf0 := ?_; ?_
  rotate_left
  refine ⟨(congrArg S.tup (consE (congrArg V.agg (consE (congrArg (C.int .i64) ?_) (consE (congrArg (C.int .i64) ?_) (consE (congrArg (C.int .i64) ?_) rfl)))) (consE (congrArg V.c (congrArg C.bool ?_)) rfl))), rfl⟩
  rotate_left 4
  all_goals first | (simp [utfFirst, utf0, *]; done) | (simp_all [utfFirst, utf0, within]; done) | (simp_all [utfFirst, utf0, within]; omega)
theorem utfByte_i (u : Utf) (b : Int) : Fun Tryz.prog 223 [.agg (cUtf u), vI b] [] (.tup [.agg (cUtf ((utfByte u b).getD u)), vB (utfByte u b).isSome]) [] := by
  have hN : bigN = 274877906944 := rfl
  refine fun_ofw Tryz.func223 (by kernel_rfl) (by kernel_rfl) (w := let z2 := (.tup [.agg (cUtf u), vB false] : S); let z3 := within b u.low u.high; let z4 := utfByte u b; let z1 := cUtf (z4.getD u); let z5 := ([] : List Blk); let z7 := utfFirst b; let z6 := cUtf (z7.getD utf0); (.seg [.call [] (.v (vB (utfOk u))) []] (.br (.leaf () []) (.br (.seg [.call [] (.tup [.agg z6, vB z7.isSome]) []] (.br (.leaf () []) (.leaf () []))) (.seg [.call [] (.v (vB z3)) []] (.br (.leaf () []) (.br (.leaf () []) (.seg [.as 42 (.v (vI (u.want - 1)))] (.leaf () []))))))), (Fun Tryz.prog 175 [.agg (cUtf u)] [] (.v (vB (utfOk u))) []) ∧ ((!(utfOk u)) = true → z2 = .tup [.agg z1, vB z4.isSome] ∧ z5 = []) ∧ ((!(utfOk u)) = false → ((decide (u.want = 0)) = true → (Fun Tryz.prog 238 [vI b] [] (.tup [.agg z6, vB z7.isSome]) []) ∧ ((!z7.isSome) = true → z2 = .tup [.agg z1, vB z4.isSome] ∧ z5 = []) ∧ ((!z7.isSome) = false → (.tup [.agg z6, vB true] : S) = .tup [.agg z1, vB z4.isSome] ∧ z5 = [])) ∧ ((decide (u.want = 0)) = false → (Fun Tryz.prog 173 [vI b, vI u.low, vI u.high] [] (.v (vB z3)) []) ∧ ((!z3) = true → z2 = .tup [.agg z1, vB z4.isSome] ∧ z5 = []) ∧ ((!z3) = false → ((decide (u.want = 1)) = true → (.tup [.agg [.int .i64 0, .int .i64 0, .int .i64 0], vB true] : S) = .tup [.agg z1, vB z4.isSome] ∧ z5 = []) ∧ ((decide (u.want = 1)) = false → ((.v (vI (IntKind.i64.wrap (u.want - 1))) : S) = .v (vI (u.want - 1))) ∧ (.tup [.agg [.int .i64 (u.want - 1), .int .i64 128, .int .i64 191], vB true] : S) = .tup [.agg z1, vB z4.isSome] ∧ z5 = [])))))) (by kernel_rfl) ?_
  refine ⟨(utfOk_i u), fun h1 => have q1 := bnot_t h1; ?_, fun h1 => have q1 := bnot_f h1; have p1 := utfOk_want q1; ?_⟩
  refine have hm1 : (utfByte u b).getD u = u := ?_; ?_
  rotate_left
  refine ⟨(congrArg S.tup (consE (congrArg V.agg (consE (congrArg (C.int .i64) ?_) (consE (congrArg (C.int .i64) ?_) (consE (congrArg (C.int .i64) ?_) rfl)))) (consE (congrArg V.c (congrArg C.bool ?_)) rfl))), rfl⟩
  rotate_left 4
  refine dsp (fun h2 p2 => ?_) fun h2 p2 => ?_
  have hu := utfOk_zero q1 p2
  refine ⟨(utfFirst_i _), fun h3 => have q3 := bnot_t h3; ?_, fun h3 => have q3 := bnot_f h3; ?_⟩
  refine have hm1 : (utfByte u b).getD u = u := ?_; ?_
  rotate_left
  refine ⟨(congrArg S.tup (consE (congrArg V.agg (consE (congrArg (C.int .i64) ?_) (consE (congrArg (C.int .i64) ?_) (consE (congrArg (C.int .i64) ?_) rfl)))) (consE (congrArg V.c (congrArg C.bool ?_)) rfl))), rfl⟩
  rotate_left 4
  refine have hm1 : (utfByte u b).getD u = ((utfFirst b).getD utf0) := ?_; ?_
  rotate_left
  refine ⟨(congrArg S.tup (consE (congrArg V.agg (consE (congrArg (C.int .i64) ?_) (consE (congrArg (C.int .i64) ?_) (consE (congrArg (C.int .i64) ?_) rfl)))) (consE (congrArg V.c (congrArg C.bool ?_)) rfl))), rfl⟩
  rotate_left 4
  refine ⟨(within_i _ _ _), fun h3 => have q3 := bnot_t h3; have p3 := within_f q3; ?_, fun h3 => have q3 := bnot_f h3; have p3 := within_t q3; ?_⟩
  refine have hm1 : (utfByte u b).getD u = u := ?_; ?_
  rotate_left
  refine ⟨(congrArg S.tup (consE (congrArg V.agg (consE (congrArg (C.int .i64) ?_) (consE (congrArg (C.int .i64) ?_) (consE (congrArg (C.int .i64) ?_) rfl)))) (consE (congrArg V.c (congrArg C.bool ?_)) rfl))), rfl⟩
  rotate_left 4
  refine dsp (fun h4 p4 => ?_) fun h4 p4 => ?_
  refine have hm1 : (utfByte u b).getD u = utf0 := ?_; ?_
  rotate_left
  refine ⟨(congrArg S.tup (consE (congrArg V.agg (consE (congrArg (C.int .i64) ?_) (consE (congrArg (C.int .i64) ?_) (consE (congrArg (C.int .i64) ?_) rfl)))) (consE (congrArg V.c (congrArg C.bool ?_)) rfl))), rfl⟩
  rotate_left 4
  refine ⟨(as_i64 (by omega) (by omega)), ?_⟩
  refine have hm1 : (utfByte u b).getD u = (⟨u.want - 1, 128, 191⟩ : Utf) := ?_; ?_
  rotate_left
  refine ⟨(congrArg S.tup (consE (congrArg V.agg (consE (congrArg (C.int .i64) ?_) (consE (congrArg (C.int .i64) ?_) (consE (congrArg (C.int .i64) ?_) rfl)))) (consE (congrArg V.c (congrArg C.bool ?_)) rfl))), rfl⟩
  rotate_left 4
  all_goals first | (simp [utfByte, *]; done) | (simp [utfByte, utf0, *]; done) | (simp_all [utfByte, utf0, within]; done) | (simp_all [utfByte, utf0, within]; omega)
theorem utfByte_s (u : Utf) (b : Int) : Fun Tryz.prog 108 [.agg (cUtf u), vI b] [] (.tup [.agg (cUtf ((utfByte u b).getD u)), vB (utfByte u b).isSome]) [] := by
  have hN : bigN = 274877906944 := rfl
  refine fun_ofw Tryz.func108 (by kernel_rfl) (by kernel_rfl) (w := let z2 := within b u.low u.high; let z3 := cUtf ((utfFirst b).getD utf0); let z4 := utfByte u b; let z1 := cUtf (z4.getD u); let z5 := ([] : List Blk); let z6 := (.tup [.agg (cUtf u), vB false] : S); (.seg [.call [] (.v (vB (utfOk u))) []] (.br (.leaf () []) (.br (.seg [.call [] (.tup [.agg z3, vB (utfFirst b).isSome]) []] (.leaf () [])) (.seg [.call [] (.v (vB z2)) []] (.br (.leaf () []) (.br (.leaf () []) (.seg [.as 31 (.v (vI (u.want - 1)))] (.leaf () []))))))), (Fun Tryz.prog 144 [.agg (cUtf u)] [] (.v (vB (utfOk u))) []) ∧ ((!(utfOk u)) = true → z6 = .tup [.agg z1, vB z4.isSome] ∧ z5 = []) ∧ ((!(utfOk u)) = false → ((decide (u.want = 0)) = true → (Fun Tryz.prog 155 [vI b] [] (.tup [.agg z3, vB (utfFirst b).isSome]) []) ∧ (.tup [.agg z3, vB (utfFirst b).isSome] : S) = .tup [.agg z1, vB z4.isSome] ∧ z5 = []) ∧ ((decide (u.want = 0)) = false → (Fun Tryz.prog 105 [vI b, vI u.low, vI u.high] [] (.v (vB z2)) []) ∧ ((!z2) = true → z6 = .tup [.agg z1, vB z4.isSome] ∧ z5 = []) ∧ ((!z2) = false → ((decide (u.want = 1)) = true → (.tup [.agg [.int .i64 0, .int .i64 0, .int .i64 0], vB true] : S) = .tup [.agg z1, vB z4.isSome] ∧ z5 = []) ∧ ((decide (u.want = 1)) = false → ((.v (vI (IntKind.i64.wrap (u.want - 1))) : S) = .v (vI (u.want - 1))) ∧ (.tup [.agg [.int .i64 (u.want - 1), .int .i64 128, .int .i64 191], vB true] : S) = .tup [.agg z1, vB z4.isSome] ∧ z5 = [])))))) (by kernel_rfl) ?_
  refine ⟨(utfOk_s u), fun h1 => have q1 := bnot_t h1; ?_, fun h1 => have q1 := bnot_f h1; have p1 := utfOk_want q1; ?_⟩
  refine have hm1 : (utfByte u b).getD u = u := ?_; ?_
  rotate_left
  refine ⟨(congrArg S.tup (consE (congrArg V.agg (consE (congrArg (C.int .i64) ?_) (consE (congrArg (C.int .i64) ?_) (consE (congrArg (C.int .i64) ?_) rfl)))) (consE (congrArg V.c (congrArg C.bool ?_)) rfl))), rfl⟩
  rotate_left 4
  refine dsp (fun h2 p2 => ?_) fun h2 p2 => ?_
  have hu := utfOk_zero q1 p2
  refine ⟨(utfFirst_s _), ?_⟩
  refine have hm1 : (utfByte u b).getD u = ((utfFirst b).getD utf0) := ?_; ?_
  rotate_left
  refine ⟨(congrArg S.tup (consE (congrArg V.agg (consE (congrArg (C.int .i64) ?_) (consE (congrArg (C.int .i64) ?_) (consE (congrArg (C.int .i64) ?_) rfl)))) (consE (congrArg V.c (congrArg C.bool ?_)) rfl))), rfl⟩
  rotate_left 4
  refine ⟨(within_s _ _ _), fun h3 => have q3 := bnot_t h3; have p3 := within_f q3; ?_, fun h3 => have q3 := bnot_f h3; have p3 := within_t q3; ?_⟩
  refine have hm1 : (utfByte u b).getD u = u := ?_; ?_
  rotate_left
  refine ⟨(congrArg S.tup (consE (congrArg V.agg (consE (congrArg (C.int .i64) ?_) (consE (congrArg (C.int .i64) ?_) (consE (congrArg (C.int .i64) ?_) rfl)))) (consE (congrArg V.c (congrArg C.bool ?_)) rfl))), rfl⟩
  rotate_left 4
  refine dsp (fun h4 p4 => ?_) fun h4 p4 => ?_
  refine have hm1 : (utfByte u b).getD u = utf0 := ?_; ?_
  rotate_left
  refine ⟨(congrArg S.tup (consE (congrArg V.agg (consE (congrArg (C.int .i64) ?_) (consE (congrArg (C.int .i64) ?_) (consE (congrArg (C.int .i64) ?_) rfl)))) (consE (congrArg V.c (congrArg C.bool ?_)) rfl))), rfl⟩
  rotate_left 4
  refine ⟨(as_i64 (by omega) (by omega)), ?_⟩
  refine have hm1 : (utfByte u b).getD u = (⟨u.want - 1, 128, 191⟩ : Utf) := ?_; ?_
  rotate_left
  refine ⟨(congrArg S.tup (consE (congrArg V.agg (consE (congrArg (C.int .i64) ?_) (consE (congrArg (C.int .i64) ?_) (consE (congrArg (C.int .i64) ?_) rfl)))) (consE (congrArg V.c (congrArg C.bool ?_)) rfl))), rfl⟩
  rotate_left 4
  all_goals first | (simp [utfByte, *]; done) | (simp [utfByte, utf0, *]; done) | (simp_all [utfByte, utf0, within]; done) | (simp_all [utfByte, utf0, within]; omega)
end Go.Proofs.YtpchkcpcdbdhdaaGreat.Ax
