/- Models. -/
import Derived.Test.YtecljjcmjongfaaAxB
import Derived.Test.YtecljjcmjongfaaAx22
namespace Go.Proofs.Ytecljjcmjongfaa.Ax
open Go.RowKit
set_option linter.unusedSimpArgs false
set_option linter.unusedVariables false
theorem consE {α : Type} {a b : α} {l m : List α} (h : a = b) (t : l = m) : a :: l = b :: m := by rw [h, t]
def vI (x : Int) : V := .c (.int .i64 x)
def vB (x : Bool) : V := .c (.bool x)
def vT (x : List UInt8) : V := .c (.str x)
def vO (j : Nat) : V := .c (.own j)
def vP (j : Nat) : V := .c (.ptr j 0)
theorem sB {a b : Bool} (h : a = b) : (.v (.c (.bool a)) : S) = .v (.c (.bool b)) := by rw [h]
theorem sI {a b : Int} (h : a = b) : (.v (.c (.int .i64 a)) : S) = .v (.c (.int .i64 b)) := by rw [h]
theorem dT {p : Prop} [Decidable p] : decide p = true ↔ p := decide_eq_true_iff
theorem dF {p : Prop} [Decidable p] : decide p = false ↔ ¬ p := decide_eq_false_iff_not
theorem andT {a b : Bool} {P Q : Prop} (h : a = true ↔ P) (g : b = true ↔ Q) : (a && b) = true ↔ P ∧ Q := by rw [Bool.and_eq_true, h, g]
theorem andF {a b : Bool} {P Q : Prop} (h : a = true ↔ P) (g : b = false ↔ Q) : (a && b) = false ↔ (P → Q) := by rw [Bool.and_eq_false_imp, h, g]
theorem orT {a b : Bool} {P Q : Prop} (h : a = true ↔ P) (g : b = true ↔ Q) : (a || b) = true ↔ P ∨ Q := by rw [Bool.or_eq_true, h, g]
theorem orF {a b : Bool} {P Q : Prop} (h : a = false ↔ P) (g : b = false ↔ Q) : (a || b) = false ↔ P ∧ Q := by rw [Bool.or_eq_false_iff, h, g]
theorem has_of {F : Fam} {j : F.ι} {tm : List (Nat × S)} {H : List Blk} (h1 : tm = F.tm j) (h2 : H = F.H j) (h : F.inv j) : F.Has tm H := ⟨j, h, h1, h2⟩
theorem nxt_of {F : Fam} {i j : F.ι} {tm : List (Nat × S)} {H : List Blk} (h1 : tm = F.tm j) (h2 : H = F.H j) (h : F.inv j) (hm : F.mu j < F.mu i) : F.Nxt i tm H := ⟨j, ⟨h, hm⟩, h1, h2⟩
theorem fun_ofw {P : Program} {f : FuncId} {fn : Func} (hf : P.funcs[f]? = some fn) (hb : fn.body.isNone = false) (hn : (fn.name == "runtime.NumGoroutine") = false) {args : List V} {L L' : List Blk} {r : S} {w : DT Unit × Prop}
    (hw : walkT P fn args L w.1 (fun _ r' Lp => r' = r ∧ Lp = L') = w.2) (h : w.2) : Fun P f args L r L' := fun_of hf hb hn hw h
theorem funs_ofw {P : Program} {ι : Type} {f : FuncId} {fn : Func} (hf : P.funcs[f]? = some fn) (hb : fn.body.isNone = false) (hn : (fn.name == "runtime.NumGoroutine") = false) {args : List V} {L : List Blk} {L' : ι → List Blk} {r : ι → S} {good : ι → Prop} {w : DT ι × Prop}
    (hw : walkT P fn args L w.1 (fun i r' Lp => good i ∧ r' = r i ∧ Lp = L' i) = w.2) (h : w.2) : ∃ i, good i ∧ Fun P f args L (r i) (L' i) := funs_of hf hb hn hw h

/-! ### Structures -/
structure Scn where
  bits : Int
  have_ : Int
  deriving DecidableEq, Inhabited
structure Utf where
  want : Int
  low : Int
  high : Int
  deriving DecidableEq, Inhabited
structure Pln where
  shapes : List Shp
  root : Int
  deep : Int
  most : Int
  deriving DecidableEq, Inhabited
structure Dcd where
  plan : Pln
  mode : Int
  stack : List Lev
  scan : Scn
  start : Int
  at_ : Int
  field : Fld
  wire : Int
  want : Int
  utf : Utf
  end_ : Ev
  deriving DecidableEq, Inhabited
def fld0 : Fld := ⟨0, 0, false, false, 0⟩
def ev0 : Ev := ⟨0, 0, 0, 0, [], 0, 0⟩
def utf0 : Utf := ⟨0, 0, 0⟩
def scn0 : Scn := ⟨0, 0⟩
theorem drop_el {α : Type} {l : List α} {i : Nat} {x : α} (h : l[i]? = some x) : l.drop i = x :: l.drop (i + 1) := by
  have hl := (List.getElem?_eq_some_iff.1 h).1
  rw [List.drop_eq_getElem_cons hl]
  congr 1
  rw [List.getElem?_eq_getElem hl] at h
  exact Option.some.inj h
theorem bnot_t {b : Bool} (h : (!b) = true) : b = false := by cases b <;> simp_all
theorem bnot_f {b : Bool} (h : (!b) = false) : b = true := by cases b <;> simp_all
theorem getD_of {α : Type} {l : List α} {i : Nat} {x d : α} (h : l[i]? = some x) : l.getD i d = x := by simp [List.getD, h]
theorem drop_end {α : Type} {l : List α} {i : Nat} (h : ¬ ((i : Nat) : Int) < ((l.length : Nat) : Int)) : l.drop i = [] := List.drop_eq_nil_of_le (by omega)

/-! ### Words of numbers -/
theorem as_tmod {k : IntKind} {a m : Int} (h : 0 ≤ a) : (.v (.c (.int k (Int.tmod a m))) : S) = .v (.c (.int k (a % m))) := by rw [Int.tmod_eq_emod_of_nonneg h]
theorem as_tdiv_i64 {a m : Int} (h : 0 ≤ a) (h2 : a ≤ 9223372036854775807) (hm : 0 < m) : (.v (.c (.int .i64 (IntKind.i64.wrap (Int.tdiv a m)))) : S) = .v (.c (.int .i64 (a / m))) := by
  rw [Int.tdiv_eq_ediv_of_nonneg h]
  have h3 := Int.ediv_nonneg h (Int.le_of_lt hm)
  have h4 := Int.ediv_le_self m h
  exact as_i64 (by omega) (by omega)
theorem as_tdiv_u64 {a m : Int} (h : 0 ≤ a) (h2 : a ≤ 18446744073709551615) (hm : 0 < m) : (.v (.c (.int .u64 (IntKind.u64.wrap (Int.tdiv a m)))) : S) = .v (.c (.int .u64 (a / m))) := by
  rw [Int.tdiv_eq_ediv_of_nonneg h]
  have h3 := Int.ediv_nonneg h (Int.le_of_lt hm)
  have h4 := Int.ediv_le_self m h
  exact as_u64 (by omega) (by omega)
/-- The bits of a small number beside those of a multiple. -/
theorem or_add {a b : Int} {k : Nat} (ha : 0 ≤ a) (hk : a < 2 ^ k) {c : Int} (hc : 0 ≤ c) (hb : b = c * 2 ^ k) (hs : b + 2 ^ k ≤ 18446744073709551616) : (((BitVec.ofInt 64 a ||| BitVec.ofInt 64 b).toNat : Nat) : Int) = a + b := by
  obtain ⟨n, rfl⟩ := Int.eq_ofNat_of_zero_le ha
  obtain ⟨m, rfl⟩ := Int.eq_ofNat_of_zero_le hc
  have hb' : b = ((m * 2 ^ k : Nat) : Int) := by rw [hb, Int.natCast_mul, Int.natCast_pow]; rfl
  have hp : (0 : Int) < 2 ^ k := Int.pow_pos (by decide)
  subst hb'
  have e : ((2 ^ k : Nat) : Int) = 2 ^ k := by rw [Int.natCast_pow]; rfl
  rw [← e] at hk hs hp
  have h1 : n < 2 ^ k := by omega
  have h2 : m * 2 ^ k + 2 ^ k ≤ 18446744073709551616 := by omega
  have h3 : n < 2 ^ 64 := by omega
  have h4 : m * 2 ^ k < 2 ^ 64 := by omega
  rw [BitVec.toNat_or, BitVec.ofInt_natCast, BitVec.ofInt_natCast, BitVec.toNat_ofNat, BitVec.toNat_ofNat, Nat.mod_eq_of_lt h3, Nat.mod_eq_of_lt h4, Nat.or_comm, Nat.mul_comm m, ← Nat.two_pow_add_eq_or_of_lt h1]
  rw [Nat.mul_comm, Int.natCast_add, Int.add_comm]

/-! ### Kinds, wires, numbers -/
def numberOk (n : Int) : Bool := within n 1 536870911 && !within n 19000 19999
def wireOk (w : Int) : Bool := decide (w = 0) || decide (w = 1) || decide (w = 2) || decide (w = 5)
def kindOk (k : Int) : Bool := within k 1 8
def numeric (k : Int) : Bool := within k 1 5
def wireOf (k : Int) : Int := if kindOk k then (if k = 4 then 5 else if k = 5 then 1 else if k ≤ 3 then 0 else 2) else -1
def widthOf (w : Int) : Int := if w = 1 then 8 else if w = 5 then 4 else 0
def bitsFit (k u : Int) : Bool := if k = 3 then decide (u ≤ 1) else if k = 4 then decide (u ≤ 4294967295) else numeric k
def runs (f : Fld) : Bool := f.rep && numeric f.kind
def allowed (f : Fld) (w : Int) : Bool := decide (w = wireOf f.kind) || (decide (w = 2) && runs f)
def hasField (k : Int) : Bool := decide (k = 2) || decide (k = 3) || decide (k = 6)
theorem widthOf_b (w : Int) : 0 ≤ widthOf w ∧ widthOf w ≤ 8 := by unfold widthOf; split <;> (try split) <;> omega
theorem wireOf_b (k : Int) : -1 ≤ wireOf k ∧ wireOf k ≤ 5 := by unfold wireOf; repeat' split; all_goals omega

/-! ### Schemas -/
def fldOk (f : Fld) (n : Int) : Bool := numberOk f.number && kindOk f.kind && !(f.packed && (!f.rep || !numeric f.kind)) && (if f.kind = 8 then within f.msg 0 (n - 1) else decide (f.msg = -1))
def fieldsOk (n : Int) : Int → List Fld → Bool
  | _, [] => true
  | b, f :: r => decide (b < f.number) && fldOk f n && fieldsOk n f.number r
def shapesOk (n : Int) : Int → List Shp → Bool
  | _, [] => true
  | b, x :: r => decide (b < x.id) && decide (x.id ≤ 99) && decide ((x.fields.length : Int) ≤ 8) && fieldsOk n 0 x.fields && shapesOk n x.id r
def schemaOk (l : List Shp) : Bool := decide ((l.length : Int) ≤ 6) && shapesOk (l.length : Int) 0 l
def fieldIn (l : List Fld) (n : Int) : Option Fld := l.find? fun f => decide (f.number = n)
def shp0 : Shp := ⟨0, []⟩
def fieldAt (l : List Shp) (s n : Int) : Option Fld := if within s 0 ((l.length : Int) - 1) then fieldIn (l.getD s.toNat shp0).fields n else none
def planOk (p : Pln) : Bool := schemaOk p.shapes && within p.root 0 ((p.shapes.length : Int) - 1) && within p.deep 1 8 && within p.most 0 2000
theorem fldOk_t {f : Fld} {n : Int} (h : fldOk f n = true) : 1 ≤ f.number ∧ f.number ≤ 536870911 ∧ 1 ≤ f.kind ∧ f.kind ≤ 8 ∧ (f.kind = 8 → 0 ≤ f.msg ∧ f.msg ≤ n - 1) ∧ (f.kind ≠ 8 → f.msg = -1) := by
  simp only [fldOk, numberOk, kindOk, within, Bool.and_eq_true, decide_eq_true_eq] at h
  obtain ⟨⟨⟨h1, h2⟩, h3⟩, h4⟩ := h
  refine ⟨h1.1.1, h1.1.2, h2.1, h2.2, fun hk => ?_, fun hk => ?_⟩
  · rw [if_pos hk] at h4; simpa using h4
  · rw [if_neg hk] at h4; simpa using h4
theorem schemaOk_t {l : List Shp} (h : schemaOk l = true) : l.length ≤ 6 := by
  simp only [schemaOk, Bool.and_eq_true, decide_eq_true_eq] at h; omega
theorem planOk_t {p : Pln} (h : planOk p = true) : p.shapes.length ≤ 6 ∧ schemaOk p.shapes = true ∧ 0 ≤ p.root ∧ p.root < (p.shapes.length : Int) ∧ 1 ≤ p.deep ∧ p.deep ≤ 8 ∧ 0 ≤ p.most ∧ p.most ≤ 2000 := by
  simp only [planOk, within, Bool.and_eq_true, decide_eq_true_eq] at h
  have := schemaOk_t h.1.1.1
  refine ⟨this, h.1.1.1, ?_⟩; omega
theorem fieldsOk_mem {n : Int} : ∀ {b : Int} {l : List Fld}, fieldsOk n b l = true → ∀ f ∈ l, fldOk f n = true ∧ b < f.number
  | _, [], _, f, hf => by cases hf
  | b, g :: r, h, f, hf => by
    simp only [fieldsOk, Bool.and_eq_true, decide_eq_true_eq] at h
    rcases List.mem_cons.1 hf with rfl | hf
    · exact ⟨h.1.2, h.1.1⟩
    · have := fieldsOk_mem h.2 f hf; exact ⟨this.1, by omega⟩
theorem shapesOk_mem {n : Int} : ∀ {b : Int} {l : List Shp}, shapesOk n b l = true → ∀ x ∈ l, (x.fields.length ≤ 8 ∧ fieldsOk n 0 x.fields = true) ∧ b < x.id ∧ x.id ≤ 99
  | _, [], _, f, hf => by cases hf
  | b, g :: r, h, f, hf => by
    simp only [shapesOk, Bool.and_eq_true, decide_eq_true_eq] at h
    rcases List.mem_cons.1 hf with rfl | hf
    · exact ⟨⟨by omega, h.1.2⟩, h.1.1.1.1, h.1.1.1.2⟩
    · have := shapesOk_mem h.2 f hf; exact ⟨this.1, by omega, this.2.2⟩
theorem schemaOk_fields {l : List Shp} (h : schemaOk l = true) : ∀ x ∈ l, List.length x.fields ≤ 1000 := fun x hx => by
  simp only [schemaOk, Bool.and_eq_true] at h
  have := (shapesOk_mem h.2 x hx).1.1
  omega
theorem fieldAt_ok {l : List Shp} {s n : Int} {f : Fld} (hl : schemaOk l = true) (h : fieldAt l s n = some f) : fldOk f (l.length : Int) = true ∧ f.number = n := by
  unfold fieldAt at h
  split at h
  · rename_i hs
    have hs := within_t hs
    simp only [schemaOk, Bool.and_eq_true, decide_eq_true_eq] at hl
    have hm : l.getD s.toNat shp0 ∈ l := by
      rw [List.getD_eq_getElem?_getD, List.getElem?_eq_getElem (by omega)]
      exact List.getElem_mem _
    have hx := (shapesOk_mem hl.2 _ hm).1.2
    have hf := List.mem_of_find?_eq_some h
    have hp := List.find?_some h
    exact ⟨(fieldsOk_mem hx f hf).1, by simpa using hp⟩
  · cases h

/-! ### Tags -/
def tagOf (n w : Int) : Int := if within n 1 536870911 && within w 0 7 then 8 * n + w else 0
def tagOk (u : Int) : Bool := within u 8 4294967295
def tagNum (u : Int) : Int := if tagOk u then u / 8 else 0
def tagWire (u : Int) : Int := if tagOk u then u % 8 else 0
theorem tagOf_b (n w : Int) : 0 ≤ tagOf n w ∧ tagOf n w ≤ 4294967295 := by
  unfold tagOf within; split <;> simp_all <;> omega

/-! ### Utf-8 -/
def utfIs (u : Utf) (w l h : Int) : Bool := decide (u.want = w) && (decide (u.low = l) && decide (u.high = h))
def utfOk (u : Utf) : Bool := utfIs u 0 0 0 || utfIs u 1 128 191 || utfIs u 2 128 191 || utfIs u 3 128 191 || utfIs u 2 160 191 || utfIs u 2 128 159 || utfIs u 3 144 191 || utfIs u 3 128 143
theorem utfOk_t {u : Utf} (h : utfOk u = true) : (u.want = 0 ∧ u.low = 0 ∧ u.high = 0) ∨ (u.want = 1 ∧ u.low = 128 ∧ u.high = 191) ∨ (u.want = 2 ∧ u.low = 128 ∧ u.high = 191) ∨ (u.want = 3 ∧ u.low = 128 ∧ u.high = 191) ∨ (u.want = 2 ∧ u.low = 160 ∧ u.high = 191) ∨ (u.want = 2 ∧ u.low = 128 ∧ u.high = 159) ∨ (u.want = 3 ∧ u.low = 144 ∧ u.high = 191) ∨ (u.want = 3 ∧ u.low = 128 ∧ u.high = 143) := by
  simp only [utfOk, utfIs, Bool.or_eq_true, Bool.and_eq_true, decide_eq_true_eq] at h
  rcases h with ((((((h | h) | h) | h) | h) | h) | h) | h <;> simp [h]
theorem utfOk_zero {u : Utf} (h : utfOk u = true) (h0 : u.want = 0) : u = utf0 := by
  rcases utfOk_t h with h | h | h | h | h | h | h | h <;> first | (cases u; simp_all [utf0]; done) | omega
theorem utfOk_want {u : Utf} (h : utfOk u = true) : 0 ≤ u.want ∧ u.want ≤ 3 := by
  rcases utfOk_t h with h | h | h | h | h | h | h | h <;> omega
def utfFirst (b : Int) : Option Utf :=
  if within b 0 127 then some utf0
  else if within b 194 223 then some ⟨1, 128, 191⟩
  else if within b 224 239 then some ⟨2, if b = 224 then 160 else 128, if b = 237 then 159 else 191⟩
  else if within b 240 244 then some ⟨3, if b = 240 then 144 else 128, if b = 244 then 143 else 191⟩
  else none
def utfByte (u : Utf) (b : Int) : Option Utf :=
  if utfOk u then (if u.want = 0 then utfFirst b else if within b u.low u.high then some (if u.want = 1 then utf0 else ⟨u.want - 1, 128, 191⟩) else none) else none
/-- The state after a text, or behind its first bad byte; where that byte is. -/
def utfRun : Utf → List UInt8 → Nat → Utf × Option Nat
  | u, [], _ => (u, none)
  | u, b :: r, i => match utfByte u (b.toNat : Int) with
    | some v => utfRun v r (i + 1)
    | none => (u, some i)
def utfSt (u : Utf) (s : List UInt8) : Utf := (utfRun u s 0).1
def utfBad (u : Utf) (s : List UInt8) : Int := match (utfRun u s 0).2 with
  | some i => (i : Int)
  | none => -1

/-! ### Varints -/
theorem utf_eq {u : Utf} (h : u.want = 0 ∧ u.low = 0 ∧ u.high = 0) : u = utf0 := by cases u; simp_all [utf0]
theorem utf_ne {u : Utf} (h : ¬ (u.want = 0 ∧ u.low = 0 ∧ u.high = 0)) : u ≠ utf0 := fun e => h (by subst e; simp [utf0])
def putVarN (u : Nat) : List UInt8 := if h : u < 128 then [UInt8.ofNat u] else UInt8.ofNat (u % 128 + 128) :: putVarN (u / 128)
termination_by u
decreasing_by omega
def putVar (u : Int) : List UInt8 := putVarN u.toNat
def varLen (u : Int) : Int := ((putVar u).length : Int)
theorem putVarN_small {u : Nat} (h : u < 128) : putVarN u = [UInt8.ofNat u] := by rw [putVarN, dif_pos h]
theorem putVarN_big {u : Nat} (h : ¬ u < 128) : putVarN u = UInt8.ofNat (u % 128 + 128) :: putVarN (u / 128) := by rw [putVarN, dif_neg h]
theorem putVarN_len : ∀ (k u : Nat), u < 128 ^ k → 1 ≤ k → (putVarN u).length ≤ k
  | 0, _, _, h => by omega
  | k + 1, u, h, _ => by
    by_cases hu : u < 128
    · rw [putVarN_small hu]; simp
    · rw [putVarN_big hu]
      have hk : 1 ≤ k := by
        rcases k with _ | k
        · simp at h; omega
        · omega
      have := putVarN_len k (u / 128) (by rw [Nat.pow_succ] at h; exact Nat.div_lt_of_lt_mul (by rw [Nat.mul_comm]; exact h)) hk
      simp; omega
theorem putVarN_pos (u : Nat) : 1 ≤ (putVarN u).length := by
  by_cases hu : u < 128
  · rw [putVarN_small hu]; simp
  · rw [putVarN_big hu]; simp
theorem putVar_small {u : Int} (h0 : 0 ≤ u) (h : u ≤ 127) : putVar u = [UInt8.ofNat u.toNat] := putVarN_small (by omega)
theorem putVar_big {u : Int} (h0 : 0 ≤ u) (h : 127 < u) : putVar u = UInt8.ofNat (u % 128 + 128).toNat :: putVar (u / 128) := by
  unfold putVar
  rw [putVarN_big (by omega), show (u / 128).toNat = u.toNat / 128 by omega, show (u % 128 + 128).toNat = u.toNat % 128 + 128 by omega]
theorem putVar_pos (u : Int) : 1 ≤ (putVar u).length := putVarN_pos _
theorem varLen_b {u : Int} (h : u ≤ 18446744073709551615) : 1 ≤ varLen u ∧ varLen u ≤ 10 := by
  have h1 := putVarN_pos u.toNat
  have h2 := putVarN_len 10 u.toNat (by omega) (by omega)
  unfold varLen putVar; omega
def padL (u n : Nat) : List Int := (List.range n).map fun (i : Nat) => ((u / 128 ^ i % 128 + 128 : Nat) : Int)
theorem padL_len {u n : Nat} : (padL u n).length = n := by simp [padL]
theorem padL_get {u n i : Nat} (h : i < n) : (padL u n)[i]? = some ((u / 128 ^ i % 128 + 128 : Nat) : Int) := by simp [padL, h]
theorem padU_step {u i : Nat} : ((u / 128 ^ i : Nat) : Int) / 128 = ((u / 128 ^ (i + 1) : Nat) : Int) := by
  rw [Nat.pow_succ, ← Nat.div_div_eq_div_mul]; omega
theorem padL_succ {u n : Nat} : padL u (n + 1) = ((u % 128 + 128 : Nat) : Int) :: padL (u / 128) n := by
  simp only [padL, List.range_succ_eq_map, List.map_cons, List.map_map]
  congr 1
  · simp
  · apply List.map_congr_left
    intro i _
    simp only [Function.comp, Nat.succ_eq_add_one]
    rw [Nat.pow_succ, Nat.mul_comm, ← Nat.div_div_eq_div_mul]
theorem putVarN_pad : ∀ (k u : Nat), (putVarN u).length = k + 1 → putVarN u = ((padL u k).map toByte) ++ [UInt8.ofNat (u / 128 ^ k % 128)]
  | 0, u, h => by
    by_cases hu : u < 128
    · rw [putVarN_small hu]; simp [padL, Nat.mod_eq_of_lt hu]
    · rw [putVarN_big hu] at h
      have := putVarN_pos (u / 128)
      simp only [List.length_cons] at h; omega
  | k + 1, u, h => by
    by_cases hu : u < 128
    · rw [putVarN_small hu] at h; simp at h
    · rw [putVarN_big hu] at h ⊢
      have ih := putVarN_pad k (u / 128) (by simpa using h)
      rw [ih, padL_succ]
      simp only [List.map_cons, List.cons_append]
      congr 2
      rw [Nat.pow_succ, Nat.mul_comm, ← Nat.div_div_eq_div_mul]
theorem padL_fix {u : Int} {n : Nat} {x : Int} (hn : n = (putVar u).length) (hx : (padL u.toNat n)[n - 1]? = some x) : List.map toByte (List.set (padL u.toNat n) (n - 1) (x % 128)) = putVar u := by
  have hp := putVar_pos u
  obtain ⟨k, rfl⟩ : ∃ k, n = k + 1 := ⟨n - 1, by omega⟩
  have h := putVarN_pad k u.toNat (by unfold putVar at hn; omega)
  unfold putVar
  rw [h]
  have hk : k + 1 - 1 = k := by omega
  rw [hk] at hx ⊢
  rw [padL_get (by omega)] at hx
  have hx := Option.some.inj hx
  have hs : padL u.toNat (k + 1) = padL u.toNat k ++ [((u.toNat / 128 ^ k % 128 + 128 : Nat) : Int)] := by simp [padL, List.range_succ]
  rw [hs, List.set_append_right _ _ (by rw [padL_len]; omega), padL_len, Nat.sub_self, List.map_append]
  simp only [List.set_cons_zero, List.map_cons, List.map_nil, toByte]
  rw [← hx]
  congr 3
  omega
theorem mask_u8 {a : Int} (h : 0 ≤ a) (h2 : a ≤ 255) : (.v (.c (.int .u8 (IntKind.u8.wrap (((BitVec.ofInt 8 a &&& BitVec.ofInt 8 127).toNat : Nat) : Int)))) : S) = .v (.c (.int .u8 (a % 128))) := by
  obtain ⟨n, rfl⟩ := Int.eq_ofNat_of_zero_le h
  have e : (BitVec.ofInt 8 ((n : Nat) : Int) &&& BitVec.ofInt 8 127).toNat = n % 128 := by
    rw [BitVec.toNat_and, BitVec.ofInt_natCast, BitVec.toNat_ofNat, Nat.mod_eq_of_lt (by omega)]
    exact Nat.and_two_pow_sub_one_eq_mod n 7
  rw [e]
  have := as_u8 (x := ((n % 128 : Nat) : Int)) (by omega) (by omega)
  rw [this]; simp
theorem or_128 {a : Int} (h : 0 ≤ a) (h2 : a ≤ 127) : (.v (.c (.int .u64 (IntKind.u64.wrap (((BitVec.ofInt 64 a ||| BitVec.ofInt 64 128).toNat : Nat) : Int)))) : S) = .v (.c (.int .u64 (a + 128))) := by
  rw [or_add (k := 7) (c := 1) h (by omega) (by omega) (by decide) (by decide)]
  exact as_u64 (by omega) (by omega)
/-- A varint that ends ahead of a place: the number, what stands behind, the error. f: how many bytes more it may have. -/
def vwA (s : List UInt8) (at_ end_ : Int) : Nat → Int → Int → Int × Int × Int
  | 0, _, _ => (0, (s.length : Int), 10)
  | f + 1, k, u =>
    if end_ ≤ at_ + k then (0, end_, 9)
    else if (s.length : Int) ≤ at_ + k then (0, (s.length : Int), 10)
    else if k = 9 ∧ 1 < ((s.getD (at_ + k).toNat 0).toNat : Int) then (0, at_ + k, 1)
    else if ((s.getD (at_ + k).toNat 0).toNat : Int) < 128 then (u + ((s.getD (at_ + k).toNat 0).toNat : Int) % 128 * 2 ^ (7 * k).toNat, at_ + k + 1, 0)
    else vwA s at_ end_ f (k + 1) (u + ((s.getD (at_ + k).toNat 0).toNat : Int) % 128 * 2 ^ (7 * k).toNat)
def varWithin (s : List UInt8) (at_ end_ : Int) : Int × Int × Int := if within at_ 0 (s.length : Int) then vwA s at_ end_ 10 0 0 else (0, (s.length : Int), 10)

theorem vb_shl {c : Int} {k : Nat} (hk : k ≤ 9) (h0 : 0 ≤ c) (h1 : c ≤ 127) (h9 : k = 9 → c ≤ 1) : 0 ≤ c * 2 ^ (7 * k) ∧ c * 2 ^ (7 * k) + 2 ^ (7 * k) ≤ 18446744073709551616 ∧ (0 : Int) < 2 ^ (7 * k) ∧ c * 2 ^ (7 * k) + 2 ^ (7 * k) ≤ 2 ^ (7 * (k + 1)) := by
  rcases (show k = 0 ∨ k = 1 ∨ k = 2 ∨ k = 3 ∨ k = 4 ∨ k = 5 ∨ k = 6 ∨ k = 7 ∨ k = 8 ∨ k = 9 by omega) with rfl | rfl | rfl | rfl | rfl | rfl | rfl | rfl | rfl | rfl <;> simp at * <;> omega
theorem as_shl_vb {c : Int} {k : Nat} (hk : k ≤ 9) (h0 : 0 ≤ c) (h1 : c ≤ 127) (h9 : k = 9 → c ≤ 1) : (.v (.c (.int .u64 (IntKind.u64.wrap (c * 2 ^ min (Int.toNat (7 * ((k : Nat) : Int))) 64)))) : S) = .v (.c (.int .u64 (c * 2 ^ (7 * k)))) := by
  have h := vb_shl hk h0 h1 h9
  rw [show min (Int.toNat (7 * ((k : Nat) : Int))) 64 = 7 * k by omega]
  exact as_u64 (by omega) (by omega)
theorem as_or_vb {u c : Int} {k : Nat} (hk : k ≤ 9) (h0 : 0 ≤ c) (h1 : c ≤ 127) (h9 : k = 9 → c ≤ 1) (hu : 0 ≤ u) (hu' : u < 2 ^ (7 * k)) : (.v (.c (.int .u64 (IntKind.u64.wrap (((BitVec.ofInt 64 u ||| BitVec.ofInt 64 (c * 2 ^ (7 * k))).toNat : Nat) : Int)))) : S) = .v (.c (.int .u64 (u + c * 2 ^ (7 * k)))) := by
  have h := vb_shl hk h0 h1 h9
  rw [or_add (k := 7 * k) (c := c) hu hu' h0 rfl (by omega)]
  exact as_u64 (by omega) (by omega)
theorem vwA_b {s : List UInt8} {a e : Int} : ∀ (f k : Nat) (u : Int), k ≤ 9 → 10 ≤ f + k → 0 ≤ u → u < 2 ^ (7 * k) → 0 ≤ (vwA s a e f k u).1 ∧ (vwA s a e f k u).1 ≤ 18446744073709551615
  | 0, k, u, _, _, _, _ => by simp [vwA]
  | f + 1, k, u, hk, hf, h0, h1 => by
    rw [vwA]
    have hb := UInt8.toNat_lt (s.getD (a + (k : Int)).toNat 0)
    split
    · simp
    split
    · simp
    split
    · simp
    rename_i h9
    have h9' : k = 9 → ¬ (1 < ((s.getD (a + (k : Int)).toNat 0).toNat : Int)) := fun h hh => h9 ⟨by omega, hh⟩
    have e7 : ((7 * (k : Int)).toNat) = 7 * k := by omega
    have hv := vb_shl (c := ((s.getD (a + (k : Int)).toNat 0).toNat : Int) % 128) (k := k) (by omega) (by omega) (by omega) (by intro h; have := h9' h; omega)
    split
    · rw [e7]; dsimp only; omega
    · rename_i h128
      have hk8 : k ≠ 9 := fun h => by have := h9' h; omega
      rw [e7, show (k : Int) + 1 = ((k + 1 : Nat) : Int) by simp]
      exact vwA_b f (k + 1) _ (by omega) (by omega) (by omega) (by omega)
theorem varWithin_b (s : List UInt8) (a e : Int) : 0 ≤ (varWithin s a e).1 ∧ (varWithin s a e).1 ≤ 18446744073709551615 := by
  unfold varWithin
  split
  · exact vwA_b 10 0 0 (by omega) (by omega) (by omega) (by decide)
  · simp
/-! ### Numbers of so many bytes -/
def putFixN : Nat → Nat → List UInt8
  | 0, _ => []
  | n + 1, u => UInt8.ofNat (u % 256) :: putFixN n (u / 256)
def widthOk (w : Int) : Bool := decide (w = 4) || decide (w = 8)
def putFix (u w : Int) : List UInt8 := if !widthOk w || (decide (w = 4) && decide (4294967295 < u)) then [] else putFixN w.toNat u.toNat
def getFixN : List UInt8 → Nat
  | [] => 0
  | b :: r => b.toNat + 256 * getFixN r
def getFixOk (s : List UInt8) (at_ w : Int) : Bool := widthOk w && within at_ 0 ((s.length : Int) - w)
def getFix (s : List UInt8) (at_ w : Int) : Int := if getFixOk s at_ w then (getFixN ((s.drop at_.toNat).take w.toNat) : Int) else 0
theorem getFixN_snoc : ∀ (l : List UInt8) (b : UInt8), getFixN (l ++ [b]) = getFixN l + b.toNat * 2 ^ (8 * l.length)
  | [], b => by simp [getFixN]
  | a :: l, b => by
    simp only [List.cons_append, getFixN, getFixN_snoc l b, List.length_cons]
    rw [show 8 * (l.length + 1) = 8 * l.length + 8 by omega, Nat.pow_add, ← Nat.mul_assoc]
    omega
theorem getFixN_lt : ∀ (l : List UInt8), getFixN l < 2 ^ (8 * l.length)
  | [] => by simp [getFixN]
  | a :: l => by
    have := getFixN_lt l
    have := UInt8.toNat_lt a
    simp only [getFixN, List.length_cons]
    rw [show 8 * (l.length + 1) = 8 * l.length + 8 by omega, Nat.pow_add]
    omega
theorem getFixN_le {l : List UInt8} {k : Nat} (h : l.length ≤ k) : getFixN l < 2 ^ (8 * k) := Nat.lt_of_lt_of_le (getFixN_lt l) (Nat.pow_le_pow_right (by decide) (by omega))
theorem take_snoc {α : Type} {l : List α} {a i : Nat} {x : α} (h : l[a + i]? = some x) : (l.drop a).take (i + 1) = (l.drop a).take i ++ [x] := by
  have h' : (l.drop a)[i]? = some x := by rw [List.getElem?_drop]; exact h
  obtain ⟨hl, hx⟩ := List.getElem?_eq_some_iff.1 h'
  rw [List.take_succ_eq_append_getElem hl, hx]
theorem fb_shl {c : Int} {k : Nat} (hk : k ≤ 7) (h0 : 0 ≤ c) (h1 : c ≤ 255) : 0 ≤ c * 2 ^ (8 * k) ∧ c * 2 ^ (8 * k) + 2 ^ (8 * k) ≤ 18446744073709551616 ∧ (0 : Int) < 2 ^ (8 * k) := by
  rcases (show k = 0 ∨ k = 1 ∨ k = 2 ∨ k = 3 ∨ k = 4 ∨ k = 5 ∨ k = 6 ∨ k = 7 by omega) with rfl | rfl | rfl | rfl | rfl | rfl | rfl | rfl <;> simp at * <;> omega
theorem as_shl_fb {c : Int} {k : Nat} (hk : k ≤ 7) (h0 : 0 ≤ c) (h1 : c ≤ 255) : (.v (.c (.int .u64 (IntKind.u64.wrap (c * 2 ^ min (Int.toNat (8 * ((k : Nat) : Int))) 64)))) : S) = .v (.c (.int .u64 (c * 2 ^ (8 * k)))) := by
  have h := fb_shl hk h0 h1
  rw [show min (Int.toNat (8 * ((k : Nat) : Int))) 64 = 8 * k by omega]
  exact as_u64 (by omega) (by omega)
theorem as_or_fb {u c : Int} {k : Nat} (hk : k ≤ 7) (h0 : 0 ≤ c) (h1 : c ≤ 255) (hu : 0 ≤ u) (hu' : u < 2 ^ (8 * k)) : (.v (.c (.int .u64 (IntKind.u64.wrap (((BitVec.ofInt 64 u ||| BitVec.ofInt 64 (c * 2 ^ (8 * k))).toNat : Nat) : Int)))) : S) = .v (.c (.int .u64 (u + c * 2 ^ (8 * k)))) := by
  have h := fb_shl hk h0 h1
  rw [or_add (k := 8 * k) (c := c) hu hu' h0 rfl (by omega)]
  exact as_u64 (by omega) (by omega)
theorem widthOk_t {w : Int} (h : widthOk w = true) : w = 4 ∨ w = 8 := by simpa [widthOk] using h
theorem widthOk_f {w : Int} (h : widthOk w = false) : w ≠ 4 ∧ w ≠ 8 := by simpa [widthOk] using h
def fixL (u n : Nat) : List Int := (List.range n).map fun (i : Nat) => ((u / 256 ^ i % 256 : Nat) : Int)
theorem fixL_len {u n : Nat} : (fixL u n).length = n := by simp [fixL]
theorem fixL_get {u n i : Nat} (h : i < n) : (fixL u n)[i]? = some ((u / 256 ^ i % 256 : Nat) : Int) := by simp [fixL, h]
theorem fixU_step {u i : Nat} : ((u / 256 ^ i : Nat) : Int) / 256 = ((u / 256 ^ (i + 1) : Nat) : Int) := by
  rw [Nat.pow_succ, ← Nat.div_div_eq_div_mul]; omega
theorem fixL_put : ∀ (n u : Nat), (fixL u n).map toByte = putFixN n u
  | 0, u => rfl
  | n + 1, u => by
    rw [putFixN, ← fixL_put n (u / 256)]
    simp only [fixL, List.range_succ_eq_map, List.map_cons, List.map_map]
    congr 1
    · simp only [toByte, Nat.pow_zero, Nat.div_one]; congr 1
    · apply List.map_congr_left
      intro i _
      simp only [Function.comp, Nat.succ_eq_add_one]
      rw [Nat.pow_succ, Nat.mul_comm, ← Nat.div_div_eq_div_mul]
theorem as_mod8 {u : Int} (h : 0 ≤ u) : (.v (.c (.int .u8 (IntKind.u8.wrap u))) : S) = .v (.c (.int .u8 (u % 256))) := by
  have : IntKind.u8.wrap u = u % 256 := by simp [IntKind.wrap, IntKind.signed, IntKind.bits]
  rw [this]
theorem putFix_len {u w : Int} : (putFix u w).length ≤ 8 := by
  have hlen : ∀ (n u : Nat), (putFixN n u).length = n := fun n => by induction n with
    | zero => intro u; rfl
    | succ n ih => intro u; simp [putFixN, ih]
  unfold putFix
  split
  · simp
  · rename_i h
    have hw : widthOk w = true := by
      simp only [Bool.or_eq_true, Bool.not_eq_true', Bool.and_eq_true, not_or] at h
      simpa using h.1
    rw [hlen]
    rcases widthOk_t hw with rfl | rfl <;> decide
def failEv (c a : Int) : Ev := ⟨10, 0, 0, 0, [], c, a⟩
def numEv (f : Fld) (u : Int) : Ev := ⟨2, f.number, if f.kind = 3 ∧ u ≠ 0 then 1 else u, 0, [], 0, 0⟩
def frameOf (b : List UInt8) : List UInt8 := putVar (b.length : Int) ++ b
theorem putVar_len {u : Int} (h : u ≤ 18446744073709551615) : (putVar u).length ≤ 10 := by
  have := putVarN_len 10 u.toNat (by omega) (by omega); exact this
theorem fieldIn_cons {f : Fld} {l : List Fld} {n : Int} : fieldIn (f :: l) n = if f.number = n then some f else fieldIn l n := by
  unfold fieldIn; rw [List.find?_cons]; by_cases h : f.number = n <;> simp [h]
theorem fieldAt_in {l : List Shp} {s n : Int} {x : Shp} (hs : within s 0 ((l.length : Int) - 1) = true) (hx : l[s.toNat]? = some x) : fieldAt l s n = fieldIn x.fields n := by
  rw [fieldAt, if_pos hs, getD_of hx]
def many (l : List Ev) (k : Int) : Int := ((l.filter fun e => decide (e.kind = k)).length : Int)
theorem many_cons {e : Ev} {l : List Ev} {k : Int} : many (e :: l) k = (if e.kind = k then 1 else 0) + many l k := by
  unfold many; rw [List.filter_cons]; by_cases h : e.kind = k <;> simp [h]; omega
theorem many_b (l : List Ev) (k : Int) : 0 ≤ many l k ∧ many l k ≤ (l.length : Int) := by
  unfold many; have := List.length_filter_le (fun e : Ev => decide (e.kind = k)) l; omega
/-- The first end of a frame, from a place on. -/
def frameStopN : List Ev → Nat → Int
  | [], _ => -1
  | e :: r, i => if e.kind = 8 then (i : Int) else frameStopN r (i + 1)
def frameStop (l : List Ev) (a : Int) : Int := if a < 0 then -1 else frameStopN (l.drop a.toNat) a.toNat
theorem frameStopN_b : ∀ (l : List Ev) (i : Nat), frameStopN l i = -1 ∨ ((i : Int) ≤ frameStopN l i ∧ frameStopN l i < (i : Int) + (l.length : Int))
  | [], i => .inl rfl
  | e :: r, i => by
    unfold frameStopN
    split
    · right; simp; omega
    · rcases frameStopN_b r (i + 1) with h | h
      · exact .inl h
      · right; simp; omega
theorem frameStop_b (l : List Ev) (a : Int) : -1 ≤ frameStop l a ∧ (frameStop l a < (l.length : Int) ∨ (a : Int) > (l.length : Int) ∧ frameStop l a = -1) := by
  unfold frameStop
  split
  · omega
  · rcases frameStopN_b (l.drop a.toNat) a.toNat with h | h
    · rw [h]; omega
    · rw [List.length_drop] at h; omega
/-! ### Events as a frame -/
structure Fa where
  stack : List Int
  inText : Bool
  isText : Bool
  utf : Utf
  ended : Bool
  deriving Inhabited
structure Fmr where
  plan : Pln
  st : Fa
structure Fs where
  stack : List Int
  field : Fld
  open_ : Bool
  utf : Utf
  ended : Bool
def lastD (l : List Int) : Int := l.getD (l.length - 1) 0
def faOwn (p : Pln) (a : Fa) (e : Ev) : Option Fld := fieldAt p.shapes (lastD a.stack) e.field
def isBytes (k : Int) : Bool := decide (k = 6) || decide (k = 7)
def valCode (p : Pln) (a : Fa) (e : Ev) : Int := match faOwn p a e with
  | none => 3
  | some f =>
    if (e.kind = 2 ∧ numeric f.kind = false) ∨ (e.kind = 3 ∧ isBytes f.kind = false) ∨ (e.kind = 6 ∧ f.kind ≠ 8) then 2
    else if e.kind = 2 ∧ bitsFit f.kind e.bits = false then 4
    else if e.kind = 6 ∧ p.deep ≤ (a.stack.length : Int) then 6
    else 0
def valStep (p : Pln) (a : Fa) (e : Ev) : Fa :=
  if valCode p a e ≠ 0 then a
  else if e.kind = 3 then ⟨a.stack, true, decide (((faOwn p a e).getD fld0).kind = 6), utf0, a.ended⟩
  else if e.kind = 6 then ⟨a.stack ++ [((faOwn p a e).getD fld0).msg], a.inText, a.isText, a.utf, a.ended⟩
  else a
theorem valCode_some {p : Pln} {a : Fa} {e : Ev} {f : Fld} (h : faOwn p a e = some f) : valCode p a e = if (e.kind = 2 ∧ numeric f.kind = false) ∨ (e.kind = 3 ∧ isBytes f.kind = false) ∨ (e.kind = 6 ∧ f.kind ≠ 8) then 2 else if e.kind = 2 ∧ bitsFit f.kind e.bits = false then 4 else if e.kind = 6 ∧ p.deep ≤ (a.stack.length : Int) then 6 else 0 := by
  unfold valCode; rw [h]
theorem valCode_none {p : Pln} {a : Fa} {e : Ev} (h : faOwn p a e = none) : valCode p a e = 3 := by
  unfold valCode; rw [h]
theorem valStep_some {p : Pln} {a : Fa} {e : Ev} {f : Fld} (h : faOwn p a e = some f) : valStep p a e = if valCode p a e ≠ 0 then a else if e.kind = 3 then ⟨a.stack, true, decide (f.kind = 6), utf0, a.ended⟩ else if e.kind = 6 then ⟨a.stack ++ [f.msg], a.inText, a.isText, a.utf, a.ended⟩ else a := by
  unfold valStep; rw [h]; rfl
theorem valStep_none {p : Pln} {a : Fa} {e : Ev} (h : faOwn p a e = none) : valStep p a e = a := by
  unfold valStep; rw [if_pos (by rw [valCode_none h]; decide)]
def partCode (a : Fa) (e : Ev) : Int :=
  if e.kind = 4 then (if a.isText = true ∧ 0 ≤ utfBad a.utf e.text then 5 else 0)
  else if e.kind = 5 then (if a.isText = true ∧ a.utf ≠ utf0 then 5 else 0)
  else 2
def partStep (a : Fa) (e : Ev) : Fa :=
  if partCode a e ≠ 0 then a
  else if e.kind = 4 then (if a.isText = true then ⟨a.stack, a.inText, a.isText, utfSt a.utf e.text, a.ended⟩ else a)
  else ⟨a.stack, false, a.isText, a.utf, a.ended⟩
def faCode (p : Pln) (a : Fa) (e : Ev) : Int :=
  if a.ended = true then 2
  else if a.inText = true then partCode a e
  else if hasField e.kind = true then valCode p a e
  else if e.kind = 7 ∧ 1 < a.stack.length then 0
  else if e.kind = 8 ∧ a.stack.length = 1 then 0
  else 2
def faStep (p : Pln) (a : Fa) (e : Ev) : Fa :=
  if a.ended = true then a
  else if a.inText = true then partStep a e
  else if hasField e.kind = true then valStep p a e
  else if e.kind = 7 ∧ 1 < a.stack.length then ⟨a.stack.take (a.stack.length - 1), a.inText, a.isText, a.utf, a.ended⟩
  else if e.kind = 8 ∧ a.stack.length = 1 then ⟨a.stack, a.inText, a.isText, a.utf, true⟩
  else a
/-- The code of events from a place on; where it is. -/
def faRun (p : Pln) : Fa → List Ev → Int → Int × Int
  | a, [], i => if a.ended = true then (0, 0) else (7, i)
  | a, e :: r, i => if faCode p a e ≠ 0 then (faCode p a e, i) else faRun p (faStep p a e) r (i + 1)
def fa0 (p : Pln) : Fa := ⟨[p.root], false, false, utf0, false⟩
def frameCode (p : Pln) (l : List Ev) : Int × Int := match l with
  | [] => (1, 0)
  | e :: r => if planOk p = true ∧ e.kind = 1 then faRun p (fa0 p) r 1 else (1, 0)
def absS (r : Fs) : Fa := ⟨r.stack, r.open_, decide (r.field.kind = 6), r.utf, r.ended⟩
theorem utfFirst_ok {b : Int} {u : Utf} (h : utfFirst b = some u) : utfOk u = true := by
  unfold utfFirst at h
  repeat' split at h
  all_goals first | (cases h; done) | (cases h; first | decide | (exfalso; omega) | (simp only [utfOk, utfIs]; simp_all; done) | (simp only [utfOk, utfIs]; simp_all; omega))
theorem utfByte_ok {u v : Utf} {b : Int} (h : utfByte u b = some v) : utfOk v = true := by
  unfold utfByte at h
  split at h
  · rename_i hu
    have hw := utfOk_want hu
    split at h
    · exact utfFirst_ok h
    · split at h
      · split at h
        · cases h; decide
        · cases h
          rcases utfOk_t hu with h | h | h | h | h | h | h | h <;> simp_all [utfOk, utfIs]
      · cases h
  · cases h
theorem utfRun_ok : ∀ {u : Utf} {s : List UInt8} {i : Nat}, utfOk u = true → utfOk (utfRun u s i).1 = true
  | u, [], i, h => h
  | u, b :: r, i, h => by
    unfold utfRun
    split
    · rename_i v hv; exact utfRun_ok (utfByte_ok hv)
    · exact h
theorem utfSt_ok {u : Utf} {s : List UInt8} (h : utfOk u = true) : utfOk (utfSt u s) = true := utfRun_ok h
def fsPart (r : Fs) (e : Ev) : Fs := ⟨r.stack, r.field, (partStep (absS r) e).inText, (partStep (absS r) e).utf, r.ended⟩
def fsVal (p : Pln) (r : Fs) (e : Ev) : Fs := ⟨(valStep p (absS r) e).stack, if valCode p (absS r) e = 0 ∧ e.kind = 3 then (faOwn p (absS r) e).getD fld0 else r.field, (valStep p (absS r) e).inText, (valStep p (absS r) e).utf, r.ended⟩
def fsStep (p : Pln) (r : Fs) (e : Ev) : Fs :=
  if r.ended = true then r
  else if r.open_ = true then fsPart r e
  else if hasField e.kind = true then fsVal p r e
  else if e.kind = 7 ∧ 1 < r.stack.length then ⟨r.stack.take (r.stack.length - 1), r.field, r.open_, r.utf, r.ended⟩
  else if e.kind = 8 ∧ r.stack.length = 1 then ⟨r.stack, r.field, r.open_, r.utf, true⟩
  else r
theorem absS_part (r : Fs) (e : Ev) : absS (fsPart r e) = partStep (absS r) e := by
  unfold fsPart partStep; repeat' split
  all_goals (simp_all [absS])
theorem absS_val (p : Pln) (r : Fs) (e : Ev) : absS (fsVal p r e) = valStep p (absS r) e := by
  unfold fsVal valStep; repeat' split
  all_goals (simp_all [absS])
theorem absS_step (p : Pln) (r : Fs) (e : Ev) : absS (fsStep p r e) = faStep p (absS r) e := by
  unfold fsStep faStep
  have h1 : (absS r).ended = r.ended := rfl
  have h2 : (absS r).inText = r.open_ := rfl
  have h3 : (absS r).stack = r.stack := rfl
  rw [h1, h2, h3]
  split
  · rfl
  split
  · exact absS_part r e
  split
  · exact absS_val p r e
  split
  · rfl
  split <;> rfl
theorem partStep_stack (a : Fa) (e : Ev) : (partStep a e).stack = a.stack := by
  unfold partStep; repeat' split
  all_goals rfl
theorem faStep_stack {p : Pln} {a : Fa} (e : Ev) (h1 : 1 ≤ a.stack.length) (h2 : a.stack.length ≤ 8) (hd : p.deep ≤ 8) : 1 ≤ (faStep p a e).stack.length ∧ (faStep p a e).stack.length ≤ 8 := by
  unfold faStep
  split
  · exact ⟨h1, h2⟩
  split
  · rw [partStep_stack]; exact ⟨h1, h2⟩
  split
  · unfold valStep
    split
    · exact ⟨h1, h2⟩
    · rename_i hv
      split
      · exact ⟨h1, h2⟩
      split
      · rename_i h6
        have hv : valCode p a e = 0 := by simpa using hv
        have : (a.stack.length : Int) < p.deep := by
          unfold valCode at hv
          split at hv
          · omega
          · split at hv
            · omega
            split at hv
            · omega
            split at hv
            · omega
            · rename_i hh; omega
        simp; omega
      · exact ⟨h1, h2⟩
  split
  · rename_i hh; simp; omega
  split <;> exact ⟨h1, h2⟩
theorem faStep_utf {p : Pln} {a : Fa} {e : Ev} (h : utfOk a.utf = true) : utfOk (faStep p a e).utf = true := by
  unfold faStep partStep valStep
  repeat' split
  all_goals first | exact h | exact utfSt_ok h | (show utfOk utf0 = true; decide)
theorem fsStep_stack (p : Pln) (r : Fs) (e : Ev) : (fsStep p r e).stack = (faStep p (absS r) e).stack := by rw [← absS_step]; rfl
theorem fsStep_utf (p : Pln) (r : Fs) (e : Ev) : (fsStep p r e).utf = (faStep p (absS r) e).utf := by rw [← absS_step]; rfl
/-- What an event may hold. -/
def EvB (e : Ev) : Prop := List.length e.text ≤ bigN ∧ (0 : Int) ≤ e.bits ∧ e.bits ≤ 18446744073709551615
theorem frameCode_cons {p : Pln} {l : List Ev} {e : Ev} (h0 : l[0]? = some e) (hp : planOk p = true) (hk : e.kind = 1) : frameCode p l = faRun p (fa0 p) (l.drop 1) 1 := by
  cases l with
  | nil => simp at h0
  | cons a r => simp at h0; subst h0; simp [frameCode, hp, hk]
theorem frameCode_bad {p : Pln} {l : List Ev} {e : Ev} (h0 : l[0]? = some e) (hp : ¬ (planOk p = true ∧ e.kind = 1)) : frameCode p l = (1, 0) := by
  cases l with
  | nil => rfl
  | cons a r => simp at h0; subst h0; simp only [frameCode]; rw [if_neg hp]
theorem frameCode_plan {p : Pln} {l : List Ev} (hp : planOk p = false) : frameCode p l = (1, 0) := by
  cases l with
  | nil => rfl
  | cons a r => simp [frameCode, hp]
theorem faRun_cons {p : Pln} {a : Fa} {e : Ev} {r : List Ev} {i : Int} : faRun p a (e :: r) i = if faCode p a e ≠ 0 then (faCode p a e, i) else faRun p (faStep p a e) r (i + 1) := rfl
theorem faRun_nil {p : Pln} {a : Fa} {i : Int} : faRun p a [] i = if a.ended = true then (0, 0) else (7, i) := rfl
def cEv (x : Ev) : List C := [.int .i64 x.kind, .int .i64 x.field, .int .u64 x.bits, .int .i64 x.len, .str x.text, .int .i64 x.code, .int .i64 x.at_]
def cFld (x : Fld) : List C := [.int .i64 x.number, .int .i64 x.kind, .bool x.rep, .bool x.packed, .int .i64 x.msg]
def cShp (x : Shp) : List C := [.int .i64 x.id, .seq .fld x.fields]
def cLev (x : Lev) : List C := [.int .i64 x.msg, .int .i64 x.left]
def cRd (x : Rd) : List C := [.int .i64 x.n, .int .i64 x.code]
def cRFld (x : RFld) : List C := [.int .i64 x.number, .int .i64 x.kind, .bool x.rep, .bool x.packed, .int .i64 x.ref]
def cRMsg (x : RMsg) : List C := [.int .i64 x.id, .seq .rfld x.fields]
def cScn (x : Scn) : List C := [.int .u64 x.bits, .int .i64 x.have_]
def cUtf (x : Utf) : List C := [.int .i64 x.want, .int .i64 x.low, .int .i64 x.high]
def cPln (x : Pln) : List C := [.seq .shp x.shapes, .int .i64 x.root, .int .i64 x.deep, .int .i64 x.most]
def cDcd (x : Dcd) : List C := [.seq .shp x.plan.shapes, .int .i64 x.plan.root, .int .i64 x.plan.deep, .int .i64 x.plan.most, .int .i64 x.mode, .seq .lev x.stack, .int .u64 x.scan.bits, .int .i64 x.scan.have_, .int .i64 x.start, .int .i64 x.at_, .int .i64 x.field.number, .int .i64 x.field.kind, .bool x.field.rep, .bool x.field.packed, .int .i64 x.field.msg, .int .i64 x.wire, .int .i64 x.want, .int .i64 x.utf.want, .int .i64 x.utf.low, .int .i64 x.utf.high, .int .i64 x.end_.kind, .int .i64 x.end_.field, .int .u64 x.end_.bits, .int .i64 x.end_.len, .str x.end_.text, .int .i64 x.end_.code, .int .i64 x.end_.at_]
def cFa (x : Fa) : List C := [.seq .int x.stack, .bool x.inText, .bool x.isText, .int .i64 x.utf.want, .int .i64 x.utf.low, .int .i64 x.utf.high, .bool x.ended]
def cFmr (x : Fmr) : List C := [.seq .shp x.plan.shapes, .int .i64 x.plan.root, .int .i64 x.plan.deep, .int .i64 x.plan.most, .seq .int x.st.stack, .bool x.st.inText, .bool x.st.isText, .int .i64 x.st.utf.want, .int .i64 x.st.utf.low, .int .i64 x.st.utf.high, .bool x.st.ended]
def cFs (x : Fs) : List C := [.seq .int x.stack, .int .i64 x.field.number, .int .i64 x.field.kind, .bool x.field.rep, .bool x.field.packed, .int .i64 x.field.msg, .bool x.open_, .int .i64 x.utf.want, .int .i64 x.utf.low, .int .i64 x.utf.high, .bool x.ended]
def oFmr4 (j4 : Nat) (x : Fmr) : List C := [.seq .shp x.plan.shapes, .int .i64 x.plan.root, .int .i64 x.plan.deep, .int .i64 x.plan.most, .own j4, .bool x.st.inText, .bool x.st.isText, .int .i64 x.st.utf.want, .int .i64 x.st.utf.low, .int .i64 x.st.utf.high, .bool x.st.ended]
def oFs0 (j0 : Nat) (x : Fs) : List C := [.own j0, .int .i64 x.field.number, .int .i64 x.field.kind, .bool x.field.rep, .bool x.field.packed, .int .i64 x.field.msg, .bool x.open_, .int .i64 x.utf.want, .int .i64 x.utf.low, .int .i64 x.utf.high, .bool x.ended]
def oPln0 (j0 : Nat) (x : Pln) : List C := [.own j0, .int .i64 x.root, .int .i64 x.deep, .int .i64 x.most]
end Go.Proofs.Ytecljjcmjongfaa.Ax
