/- Models. Models: the grammar. Numbers. Varints. Numbers of so many bytes; tags. -/
import Derived.Test.YtaflinakodideaaGreatKB4
set_option linter.unusedSimpArgs false
set_option linter.unusedVariables false
namespace Go.Proofs.YtaflinakodideaaGreat.Ax
open Go.RowKit
theorem consE {α : Type} {a b : α} {l m : List α} (h : a = b) (t : l = m) : a :: l = b :: m := by rw [h, t]
def vI (x : Int) : V := .c (.int .i64 x)
def vB (x : Bool) : V := .c (.bool x)
def vT (x : List UInt8) : V := .c (.str x)
def vO (j : Nat) : V := .c (.own j)
def vP (j : Nat) : V := .c (.ptr j 0)
theorem sB {a b : Bool} (h : a = b) : (.v (.c (.bool a)) : S) = .v (.c (.bool b)) := by rw [h]
theorem sI {a b : Int} (h : a = b) : (.v (.c (.int .i64 a)) : S) = .v (.c (.int .i64 b)) := by rw [h]
theorem dT {p : Prop} [Decidable p] : decide p = true ↔ p := decide_eq_true_iff
theorem dF {p : Prop} [Decidable p] : decide p = false ↔ ¬ p := decide_eq_false_iff_not
theorem andT {a b : Bool} {P Q : Prop} (h : a = true ↔ P) (g : b = true ↔ Q) : (a && b) = true ↔ P ∧ Q := by rw [Bool.and_eq_true, h, g]
theorem andF {a b : Bool} {P Q : Prop} (h : a = true ↔ P) (g : b = false ↔ Q) : (a && b) = false ↔ (P → Q) := by rw [Bool.and_eq_false_imp, h, g]
theorem has_of {F : Fam} {j : F.ι} {tm : List (Nat × S)} {H : List Blk} (h1 : tm = F.tm j) (h2 : H = F.H j) (h : F.inv j) : F.Has tm H := ⟨j, h, h1, h2⟩
theorem nxt_of {F : Fam} {i j : F.ι} {tm : List (Nat × S)} {H : List Blk} (h1 : tm = F.tm j) (h2 : H = F.H j) (h : F.inv j) (hm : F.mu j < F.mu i) : F.Nxt i tm H := ⟨j, ⟨h, hm⟩, h1, h2⟩
abbrev In {α : Type} (P Q : α → Prop) : Prop := (∃ o, P o) ∧ ∀ o, P o → Q o
theorem fun_ofw {P : Program} {f : FuncId} {fn : Func} (hf : P.funcs[f]? = some fn) (hb : fn.body.isNone = false) (hn : (fn.name == "runtime.NumGoroutine") = false) {args : List V} {L L' : List Blk} {r : S} {w : DT Unit × Prop}
  (hw : walkT P fn args L w.1 (fun _ r' Lp => r' = r ∧ Lp = L') = w.2) (h : w.2) : Fun P f args L r L' := fun_of hf hb hn hw h
theorem funs_ofw {P : Program} {ι : Type} {f : FuncId} {fn : Func} (hf : P.funcs[f]? = some fn) (hb : fn.body.isNone = false) (hn : (fn.name == "runtime.NumGoroutine") = false) {args : List V} {L : List Blk} {L' : ι → List Blk} {r : ι → S} {good : ι → Prop} {w : DT ι × Prop}
  (hw : walkT P fn args L w.1 (fun i r' Lp => good i ∧ r' = r i ∧ Lp = L' i) = w.2) (h : w.2) : ∃ i, good i ∧ Fun P f args L (r i) (L' i) := funs_of hf hb hn hw h
theorem dsp {p : Prop} [Decidable p] {A B : Prop} (h1 : decide p = true → p → A) (h2 : decide p = false → ¬ p → B) : (decide p = true → A) ∧ (decide p = false → B) := ⟨fun h => h1 h (of_decide_eq_true h), fun h => h2 h (of_decide_eq_false h)⟩
/-! ### Structures -/
structure Scn where
 bits : Int
 have_ : Int
 deriving DecidableEq, Inhabited
structure Utf where
 want : Int
 low : Int
 high : Int
 deriving DecidableEq, Inhabited
structure Pln where
 shapes : List Shp
 root : Int
 deep : Int
 most : Int
 deriving DecidableEq, Inhabited
structure Dcd where
 plan : Pln
 mode : Int
 stack : List Lev
 scan : Scn
 start : Int
 at_ : Int
 field : Fld
 wire : Int
 want : Int
 utf : Utf
 end_ : Ev
 deriving DecidableEq, Inhabited
def fld0 : Fld := ⟨0, 0, false, false, 0⟩
def ev0 : Ev := ⟨0, 0, 0, 0, [], 0, 0⟩
def utf0 : Utf := ⟨0, 0, 0⟩
theorem drop_el {α : Type} {l : List α} {i : Nat} {x : α} (h : l[i]? = some x) : l.drop i = x :: l.drop (i + 1) := by
 have hl := (List.getElem?_eq_some_iff.1 h).1
 rw [List.drop_eq_getElem_cons hl]
 congr 1
 rw [List.getElem?_eq_getElem hl] at h
 exact Option.some.inj h
theorem bnot_t {b : Bool} (h : (!b) = true) : b = false := by cases b <;> simp_all
theorem bnot_f {b : Bool} (h : (!b) = false) : b = true := by cases b <;> simp_all
theorem getD_of {α : Type} {l : List α} {i : Nat} {x d : α} (h : l[i]? = some x) : l.getD i d = x := by simp [List.getD, h]
theorem drop_end {α : Type} {l : List α} {i : Nat} (h : ¬ ((i : Nat) : Int) < ((l.length : Nat) : Int)) : l.drop i = [] := List.drop_eq_nil_of_le (by omega)
/-! ### Words of numbers -/
theorem as_tmod {k : IntKind} {a m : Int} (h : 0 ≤ a) : (.v (.c (.int k (Int.tmod a m))) : S) = .v (.c (.int k (a % m))) := by rw [Int.tmod_eq_emod_of_nonneg h]
theorem as_tdiv_u64 {a m : Int} (h : 0 ≤ a) (h2 : a ≤ 18446744073709551615) (hm : 0 < m) : (.v (.c (.int .u64 (IntKind.u64.wrap (Int.tdiv a m)))) : S) = .v (.c (.int .u64 (a / m))) := by
 rw [Int.tdiv_eq_ediv_of_nonneg h]
 have h3 := Int.ediv_nonneg h (Int.le_of_lt hm)
 have h4 := Int.ediv_le_self m h
 exact as_u64 (by omega) (by omega)
theorem or_add {a b : Int} {k : Nat} (ha : 0 ≤ a) (hk : a < 2 ^ k) {c : Int} (hc : 0 ≤ c) (hb : b = c * 2 ^ k) (hs : b + 2 ^ k ≤ 18446744073709551616) : (((BitVec.ofInt 64 a ||| BitVec.ofInt 64 b).toNat : Nat) : Int) = a + b := by
 obtain ⟨n, rfl⟩ := Int.eq_ofNat_of_zero_le ha
 obtain ⟨m, rfl⟩ := Int.eq_ofNat_of_zero_le hc
 have hb' : b = ((m * 2 ^ k : Nat) : Int) := by rw [hb, Int.natCast_mul, Int.natCast_pow]; rfl
 have hp : (0 : Int) < 2 ^ k := Int.pow_pos (by decide)
 subst hb'
 have e : ((2 ^ k : Nat) : Int) = 2 ^ k := by rw [Int.natCast_pow]; rfl
 rw [← e] at hk hs hp
 have h1 : n < 2 ^ k := by omega
 have h2 : m * 2 ^ k + 2 ^ k ≤ 18446744073709551616 := by omega
 have h3 : n < 2 ^ 64 := by omega
 have h4 : m * 2 ^ k < 2 ^ 64 := by omega
 rw [BitVec.toNat_or, BitVec.ofInt_natCast, BitVec.ofInt_natCast, BitVec.toNat_ofNat, BitVec.toNat_ofNat, Nat.mod_eq_of_lt h3, Nat.mod_eq_of_lt h4, Nat.or_comm, Nat.mul_comm m, ← Nat.two_pow_add_eq_or_of_lt h1]
 rw [Nat.mul_comm, Int.natCast_add, Int.add_comm]
/-! ### Kinds, wires, numbers -/
def numberOk (n : Int) : Bool := within n 1 536870911 && !within n 19000 19999
def wireOk (w : Int) : Bool := decide (w = 0) || decide (w = 1) || decide (w = 2) || decide (w = 5)
def kindOk (k : Int) : Bool := within k 1 8
def numeric (k : Int) : Bool := within k 1 5
def wireOf (k : Int) : Int := if kindOk k then (if k = 4 then 5 else if k = 5 then 1 else if k ≤ 3 then 0 else 2) else -1
def widthOf (w : Int) : Int := if w = 1 then 8 else if w = 5 then 4 else 0
def runs (f : Fld) : Bool := f.rep && numeric f.kind
def allowed (f : Fld) (w : Int) : Bool := decide (w = wireOf f.kind) || (decide (w = 2) && runs f)
theorem widthOf_b (w : Int) : 0 ≤ widthOf w ∧ widthOf w ≤ 8 := by unfold widthOf; split <;> (try split) <;> omega
def fldOk (f : Fld) (n : Int) : Bool := numberOk f.number && kindOk f.kind && !(f.packed && (!f.rep || !numeric f.kind)) && (if f.kind = 8 then within f.msg 0 (n - 1) else decide (f.msg = -1))
def fieldsOk (n : Int) : Int → List Fld → Bool
 | _, [] => true
 | b, f :: r => decide (b < f.number) && fldOk f n && fieldsOk n f.number r
def shapesOk (n : Int) : Int → List Shp → Bool
 | _, [] => true
 | b, x :: r => decide (b < x.id) && decide (x.id ≤ 99) && decide ((x.fields.length : Int) ≤ 8) && fieldsOk n 0 x.fields && shapesOk n x.id r
def schemaOk (l : List Shp) : Bool := decide ((l.length : Int) ≤ 6) && shapesOk (l.length : Int) 0 l
def fieldIn (l : List Fld) (n : Int) : Option Fld := l.find? fun f => decide (f.number = n)
def shp0 : Shp := ⟨0, []⟩
def fieldAt (l : List Shp) (s n : Int) : Option Fld := if within s 0 ((l.length : Int) - 1) then fieldIn (l.getD s.toNat shp0).fields n else none
def planOk (p : Pln) : Bool := schemaOk p.shapes && within p.root 0 ((p.shapes.length : Int) - 1) && within p.deep 1 8 && within p.most 0 2000
theorem fldOk_t {f : Fld} {n : Int} (h : fldOk f n = true) : 1 ≤ f.number ∧ f.number ≤ 536870911 ∧ 1 ≤ f.kind ∧ f.kind ≤ 8 ∧ (f.kind = 8 → 0 ≤ f.msg ∧ f.msg ≤ n - 1) ∧ (f.kind ≠ 8 → f.msg = -1) := by
 simp only [fldOk, numberOk, kindOk, within, Bool.and_eq_true, decide_eq_true_eq] at h
 obtain ⟨⟨⟨h1, h2⟩, h3⟩, h4⟩ := h
 refine ⟨h1.1.1, h1.1.2, h2.1, h2.2, fun hk => ?_, fun hk => ?_⟩
 ·rw [if_pos hk] at h4; simpa using h4
 ·rw [if_neg hk] at h4; simpa using h4
theorem schemaOk_t {l : List Shp} (h : schemaOk l = true) : l.length ≤ 6 := by
 simp only [schemaOk, Bool.and_eq_true, decide_eq_true_eq] at h; omega
theorem planOk_t {p : Pln} (h : planOk p = true) : p.shapes.length ≤ 6 ∧ schemaOk p.shapes = true ∧ 0 ≤ p.root ∧ p.root < (p.shapes.length : Int) ∧ 1 ≤ p.deep ∧ p.deep ≤ 8 ∧ 0 ≤ p.most ∧ p.most ≤ 2000 := by
 simp only [planOk, within, Bool.and_eq_true, decide_eq_true_eq] at h
 have := schemaOk_t h.1.1.1
 refine ⟨this, h.1.1.1, ?_⟩; omega
theorem fieldsOk_mem {n : Int} : ∀ {b : Int} {l : List Fld}, fieldsOk n b l = true → ∀ f ∈ l, fldOk f n = true ∧ b < f.number
 | _, [], _, f, hf => by cases hf
 | b, g :: r, h, f, hf => by
  simp only [fieldsOk, Bool.and_eq_true, decide_eq_true_eq] at h
  rcases List.mem_cons.1 hf with rfl | hf
  ·exact ⟨h.1.2, h.1.1⟩
  ·have := fieldsOk_mem h.2 f hf; exact ⟨this.1, by omega⟩
theorem shapesOk_mem {n : Int} : ∀ {b : Int} {l : List Shp}, shapesOk n b l = true → ∀ x ∈ l, (x.fields.length ≤ 8 ∧ fieldsOk n 0 x.fields = true) ∧ b < x.id ∧ x.id ≤ 99
 | _, [], _, f, hf => by cases hf
 | b, g :: r, h, f, hf => by
  simp only [shapesOk, Bool.and_eq_true, decide_eq_true_eq] at h
  rcases List.mem_cons.1 hf with rfl | hf
  ·exact ⟨⟨by omega, h.1.2⟩, h.1.1.1.1, h.1.1.1.2⟩
  ·have := shapesOk_mem h.2 f hf; exact ⟨this.1, by omega, this.2.2⟩
theorem schemaOk_fields {l : List Shp} (h : schemaOk l = true) : ∀ x ∈ l, List.length x.fields ≤ 1000 := fun x hx => by
 simp only [schemaOk, Bool.and_eq_true] at h
 have := (shapesOk_mem h.2 x hx).1.1
 omega
theorem fieldAt_ok {l : List Shp} {s n : Int} {f : Fld} (hl : schemaOk l = true) (h : fieldAt l s n = some f) : fldOk f (l.length : Int) = true ∧ f.number = n := by
 unfold fieldAt at h
 split at h
 ·rename_i hs
  have hs := within_t hs
  simp only [schemaOk, Bool.and_eq_true, decide_eq_true_eq] at hl
  have hm : l.getD s.toNat shp0 ∈ l := by
   rw [List.getD_eq_getElem?_getD, List.getElem?_eq_getElem (by omega)]
   exact List.getElem_mem _
  have hx := (shapesOk_mem hl.2 _ hm).1.2
  have hf := List.mem_of_find?_eq_some h
  have hp := List.find?_some h
  exact ⟨(fieldsOk_mem hx f hf).1, by simpa using hp⟩
 ·cases h
/-! ### Tags -/
def tagOf (n w : Int) : Int := if within n 1 536870911 && within w 0 7 then 8 * n + w else 0
def tagOk (u : Int) : Bool := within u 8 4294967295
def tagNum (u : Int) : Int := if tagOk u then u / 8 else 0
def tagWire (u : Int) : Int := if tagOk u then u % 8 else 0
theorem tagOf_b (n w : Int) : 0 ≤ tagOf n w ∧ tagOf n w ≤ 4294967295 := by
 unfold tagOf within; split <;> simp_all <;> omega
/-! ### Utf-8 -/
def utfIs (u : Utf) (w l h : Int) : Bool := decide (u.want = w) && (decide (u.low = l) && decide (u.high = h))
def utfOk (u : Utf) : Bool := utfIs u 0 0 0 || utfIs u 1 128 191 || utfIs u 2 128 191 || utfIs u 3 128 191 || utfIs u 2 160 191 || utfIs u 2 128 159 || utfIs u 3 144 191 || utfIs u 3 128 143
theorem utfOk_t {u : Utf} (h : utfOk u = true) : (u.want = 0 ∧ u.low = 0 ∧ u.high = 0) ∨ (u.want = 1 ∧ u.low = 128 ∧ u.high = 191) ∨ (u.want = 2 ∧ u.low = 128 ∧ u.high = 191) ∨ (u.want = 3 ∧ u.low = 128 ∧ u.high = 191) ∨ (u.want = 2 ∧ u.low = 160 ∧ u.high = 191) ∨ (u.want = 2 ∧ u.low = 128 ∧ u.high = 159) ∨ (u.want = 3 ∧ u.low = 144 ∧ u.high = 191) ∨ (u.want = 3 ∧ u.low = 128 ∧ u.high = 143) := by
 simp only [utfOk, utfIs, Bool.or_eq_true, Bool.and_eq_true, decide_eq_true_eq] at h
 rcases h with ((((((h | h) | h) | h) | h) | h) | h) | h <;> simp [h]
theorem utfOk_zero {u : Utf} (h : utfOk u = true) (h0 : u.want = 0) : u = utf0 := by
 rcases utfOk_t h with h | h | h | h | h | h | h | h <;> first | (cases u; simp_all [utf0]; done) | omega
theorem utfOk_want {u : Utf} (h : utfOk u = true) : 0 ≤ u.want ∧ u.want ≤ 3 := by
 rcases utfOk_t h with h | h | h | h | h | h | h | h <;> omega
def utfFirst (b : Int) : Option Utf :=
 if within b 0 127 then some utf0
 else if within b 194 223 then some ⟨1, 128, 191⟩
 else if within b 224 239 then some ⟨2, if b = 224 then 160 else 128, if b = 237 then 159 else 191⟩
 else if within b 240 244 then some ⟨3, if b = 240 then 144 else 128, if b = 244 then 143 else 191⟩
 else none
def utfByte (u : Utf) (b : Int) : Option Utf :=
 if utfOk u then (if u.want = 0 then utfFirst b else if within b u.low u.high then some (if u.want = 1 then utf0 else ⟨u.want - 1, 128, 191⟩) else none) else none
def utfRun : Utf → List UInt8 → Nat → Utf × Option Nat
 | u, [], _ => (u, none)
 | u, b :: r, i => match utfByte u (b.toNat : Int) with
  | some v => utfRun v r (i + 1)
  | none => (u, some i)
def utfSt (u : Utf) (s : List UInt8) : Utf := (utfRun u s 0).1
def utfBad (u : Utf) (s : List UInt8) : Int := match (utfRun u s 0).2 with
 | some i => (i : Int)
 | none => -1
/-! ### Varints -/
def putVarN (u : Nat) : List UInt8 := if h : u < 128 then [UInt8.ofNat u] else UInt8.ofNat (u % 128 + 128) :: putVarN (u / 128)
termination_by u
decreasing_by omega
def putVar (u : Int) : List UInt8 := putVarN u.toNat
def varLen (u : Int) : Int := ((putVar u).length : Int)
theorem putVarN_small {u : Nat} (h : u < 128) : putVarN u = [UInt8.ofNat u] := by rw [putVarN, dif_pos h]
theorem putVarN_big {u : Nat} (h : ¬ u < 128) : putVarN u = UInt8.ofNat (u % 128 + 128) :: putVarN (u / 128) := by rw [putVarN, dif_neg h]
theorem putVarN_len : ∀ (k u : Nat), u < 128 ^ k → 1 ≤ k → (putVarN u).length ≤ k
 | 0, _, _, h => by omega
 | k + 1, u, h, _ => by
  by_cases hu : u < 128
  ·rw [putVarN_small hu]; simp
  ·rw [putVarN_big hu]
   have hk : 1 ≤ k := by
    rcases k with _ | k
    ·simp at h; omega
    ·omega
   have := putVarN_len k (u / 128) (by rw [Nat.pow_succ] at h; exact Nat.div_lt_of_lt_mul (by rw [Nat.mul_comm]; exact h)) hk
   simp; omega
theorem putVarN_pos (u : Nat) : 1 ≤ (putVarN u).length := by
 by_cases hu : u < 128
 ·rw [putVarN_small hu]; simp
 ·rw [putVarN_big hu]; simp
theorem putVar_small {u : Int} (h0 : 0 ≤ u) (h : u ≤ 127) : putVar u = [UInt8.ofNat u.toNat] := putVarN_small (by omega)
theorem putVar_big {u : Int} (h0 : 0 ≤ u) (h : 127 < u) : putVar u = UInt8.ofNat (u % 128 + 128).toNat :: putVar (u / 128) := by
 unfold putVar
 rw [putVarN_big (by omega), show (u / 128).toNat = u.toNat / 128 by omega, show (u % 128 + 128).toNat = u.toNat % 128 + 128 by omega]
theorem putVar_pos (u : Int) : 1 ≤ (putVar u).length := putVarN_pos _
theorem varLen_b {u : Int} (h : u ≤ 18446744073709551615) : 1 ≤ varLen u ∧ varLen u ≤ 10 := by
 have h1 := putVarN_pos u.toNat
 have h2 := putVarN_len 10 u.toNat (by omega) (by omega)
 unfold varLen putVar; omega
def padL (u n : Nat) : List Int := (List.range n).map fun (i : Nat) => ((u / 128 ^ i % 128 + 128 : Nat) : Int)
theorem padL_len {u n : Nat} : (padL u n).length = n := by simp [padL]
theorem padL_get {u n i : Nat} (h : i < n) : (padL u n)[i]? = some ((u / 128 ^ i % 128 + 128 : Nat) : Int) := by simp [padL, h]
theorem padU_step {u i : Nat} : ((u / 128 ^ i : Nat) : Int) / 128 = ((u / 128 ^ (i + 1) : Nat) : Int) := by
 rw [Nat.pow_succ, ← Nat.div_div_eq_div_mul]; omega
theorem padL_succ {u n : Nat} : padL u (n + 1) = ((u % 128 + 128 : Nat) : Int) :: padL (u / 128) n := by
 simp only [padL, List.range_succ_eq_map, List.map_cons, List.map_map]
 congr 1
 ·simp
 ·apply List.map_congr_left
  intro i _
  simp only [Function.comp, Nat.succ_eq_add_one]
  rw [Nat.pow_succ, Nat.mul_comm, ← Nat.div_div_eq_div_mul]
theorem putVarN_pad : ∀ (k u : Nat), (putVarN u).length = k + 1 → putVarN u = ((padL u k).map toByte) ++ [UInt8.ofNat (u / 128 ^ k % 128)]
 | 0, u, h => by
  by_cases hu : u < 128
  ·rw [putVarN_small hu]; simp [padL, Nat.mod_eq_of_lt hu]
  ·rw [putVarN_big hu] at h
   have := putVarN_pos (u / 128)
   simp only [List.length_cons] at h; omega
 | k + 1, u, h => by
  by_cases hu : u < 128
  ·rw [putVarN_small hu] at h; simp at h
  ·rw [putVarN_big hu] at h ⊢
   have ih := putVarN_pad k (u / 128) (by simpa using h)
   rw [ih, padL_succ]
   simp only [List.map_cons, List.cons_append]
   congr 2
   rw [Nat.pow_succ, Nat.mul_comm, ← Nat.div_div_eq_div_mul]
theorem padL_fix {u : Int} {n : Nat} {x : Int} (hn : n = (putVar u).length) (hx : (padL u.toNat n)[n - 1]? = some x) : List.map toByte (List.set (padL u.toNat n) (n - 1) (x % 128)) = putVar u := by
 have hp := putVar_pos u
 obtain ⟨k, rfl⟩ : ∃ k, n = k + 1 := ⟨n - 1, by omega⟩
 have h := putVarN_pad k u.toNat (by unfold putVar at hn; omega)
 unfold putVar
 rw [h]
 have hk : k + 1 - 1 = k := by omega
 rw [hk] at hx ⊢
 rw [padL_get (by omega)] at hx
 have hx := Option.some.inj hx
 have hs : padL u.toNat (k + 1) = padL u.toNat k ++ [((u.toNat / 128 ^ k % 128 + 128 : Nat) : Int)] := by simp [padL, List.range_succ]
 rw [hs, List.set_append_right _ _ (by rw [padL_len]; omega), padL_len, Nat.sub_self, List.map_append]
 simp only [List.set_cons_zero, List.map_cons, List.map_nil, toByte]
 rw [← hx]
 congr 3
 omega
theorem mask_u8 {a : Int} (h : 0 ≤ a) (h2 : a ≤ 255) : (.v (.c (.int .u8 (IntKind.u8.wrap (((BitVec.ofInt 8 a &&& BitVec.ofInt 8 127).toNat : Nat) : Int)))) : S) = .v (.c (.int .u8 (a % 128))) := by
 obtain ⟨n, rfl⟩ := Int.eq_ofNat_of_zero_le h
 have e : (BitVec.ofInt 8 ((n : Nat) : Int) &&& BitVec.ofInt 8 127).toNat = n % 128 := by
  rw [BitVec.toNat_and, BitVec.ofInt_natCast, BitVec.toNat_ofNat, Nat.mod_eq_of_lt (by omega)]
  exact Nat.and_two_pow_sub_one_eq_mod n 7
 rw [e]
 have := as_u8 (x := ((n % 128 : Nat) : Int)) (by omega) (by omega)
 rw [this]; simp
theorem or_128 {a : Int} (h : 0 ≤ a) (h2 : a ≤ 127) : (.v (.c (.int .u64 (IntKind.u64.wrap (((BitVec.ofInt 64 a ||| BitVec.ofInt 64 128).toNat : Nat) : Int)))) : S) = .v (.c (.int .u64 (a + 128))) := by
 rw [or_add (k := 7) (c := 1) h (by omega) (by omega) (by decide) (by decide)]
 exact as_u64 (by omega) (by omega)
def vwA (s : List UInt8) (at_ end_ : Int) : Nat → Int → Int → Int × Int × Int
 | 0, _, _ => (0, (s.length : Int), 10)
 | f + 1, k, u =>
  if end_ ≤ at_ + k then (0, end_, 9)
  else if (s.length : Int) ≤ at_ + k then (0, (s.length : Int), 10)
  else if k = 9 ∧ 1 < ((s.getD (at_ + k).toNat 0).toNat : Int) then (0, at_ + k, 1)
  else if ((s.getD (at_ + k).toNat 0).toNat : Int) < 128 then (u + ((s.getD (at_ + k).toNat 0).toNat : Int) % 128 * 2 ^ (7 * k).toNat, at_ + k + 1, 0)
  else vwA s at_ end_ f (k + 1) (u + ((s.getD (at_ + k).toNat 0).toNat : Int) % 128 * 2 ^ (7 * k).toNat)
def varWithin (s : List UInt8) (at_ end_ : Int) : Int × Int × Int := if within at_ 0 (s.length : Int) then vwA s at_ end_ 10 0 0 else (0, (s.length : Int), 10)
theorem vb_shl {c : Int} {k : Nat} (hk : k ≤ 9) (h0 : 0 ≤ c) (h1 : c ≤ 127) (h9 : k = 9 → c ≤ 1) : 0 ≤ c * 2 ^ (7 * k) ∧ c * 2 ^ (7 * k) + 2 ^ (7 * k) ≤ 18446744073709551616 ∧ (0 : Int) < 2 ^ (7 * k) ∧ c * 2 ^ (7 * k) + 2 ^ (7 * k) ≤ 2 ^ (7 * (k + 1)) := by
 rcases (show k = 0 ∨ k = 1 ∨ k = 2 ∨ k = 3 ∨ k = 4 ∨ k = 5 ∨ k = 6 ∨ k = 7 ∨ k = 8 ∨ k = 9 by omega) with rfl | rfl | rfl | rfl | rfl | rfl | rfl | rfl | rfl | rfl <;> simp at * <;> omega
theorem as_shl_vb {c : Int} {k : Nat} (hk : k ≤ 9) (h0 : 0 ≤ c) (h1 : c ≤ 127) (h9 : k = 9 → c ≤ 1) : (.v (.c (.int .u64 (IntKind.u64.wrap (c * 2 ^ min (Int.toNat (7 * ((k : Nat) : Int))) 64)))) : S) = .v (.c (.int .u64 (c * 2 ^ (7 * k)))) := by
 have h := vb_shl hk h0 h1 h9
 rw [show min (Int.toNat (7 * ((k : Nat) : Int))) 64 = 7 * k by omega]
 exact as_u64 (by omega) (by omega)
theorem as_or_vb {u c : Int} {k : Nat} (hk : k ≤ 9) (h0 : 0 ≤ c) (h1 : c ≤ 127) (h9 : k = 9 → c ≤ 1) (hu : 0 ≤ u) (hu' : u < 2 ^ (7 * k)) : (.v (.c (.int .u64 (IntKind.u64.wrap (((BitVec.ofInt 64 u ||| BitVec.ofInt 64 (c * 2 ^ (7 * k))).toNat : Nat) : Int)))) : S) = .v (.c (.int .u64 (u + c * 2 ^ (7 * k)))) := by
 have h := vb_shl hk h0 h1 h9
 rw [or_add (k := 7 * k) (c := c) hu hu' h0 rfl (by omega)]
 exact as_u64 (by omega) (by omega)
theorem vwA_b {s : List UInt8} {a e : Int} : ∀ (f k : Nat) (u : Int), k ≤ 9 → 10 ≤ f + k → 0 ≤ u → u < 2 ^ (7 * k) → 0 ≤ (vwA s a e f k u).1 ∧ (vwA s a e f k u).1 ≤ 18446744073709551615
 | 0, k, u, _, _, _, _ => by simp [vwA]
 | f + 1, k, u, hk, hf, h0, h1 => by
  rw [vwA]
  have hb := UInt8.toNat_lt (s.getD (a + (k : Int)).toNat 0)
  split
  ·simp
  split
  ·simp
  split
  ·simp
  rename_i h9
  have h9' : k = 9 → ¬ (1 < ((s.getD (a + (k : Int)).toNat 0).toNat : Int)) := fun h hh => h9 ⟨by omega, hh⟩
  have e7 : ((7 * (k : Int)).toNat) = 7 * k := by omega
  have hv := vb_shl (c := ((s.getD (a + (k : Int)).toNat 0).toNat : Int) % 128) (k := k) (by omega) (by omega) (by omega) (by intro h; have := h9' h; omega)
  split
  ·rw [e7]; dsimp only; omega
  ·rename_i h128
   have hk8 : k ≠ 9 := fun h => by have := h9' h; omega
   rw [e7, show (k : Int) + 1 = ((k + 1 : Nat) : Int) by simp]
   exact vwA_b f (k + 1) _ (by omega) (by omega) (by omega) (by omega)
theorem varWithin_b (s : List UInt8) (a e : Int) : 0 ≤ (varWithin s a e).1 ∧ (varWithin s a e).1 ≤ 18446744073709551615 := by
 unfold varWithin
 split
 ·exact vwA_b 10 0 0 (by omega) (by omega) (by omega) (by decide)
 ·simp
/-! ### Numbers of so many bytes -/
def widthOk (w : Int) : Bool := decide (w = 4) || decide (w = 8)
def getFixN : List UInt8 → Nat
 | [] => 0
 | b :: r => b.toNat + 256 * getFixN r
def getFixOk (s : List UInt8) (at_ w : Int) : Bool := widthOk w && within at_ 0 ((s.length : Int) - w)
def getFix (s : List UInt8) (at_ w : Int) : Int := if getFixOk s at_ w then (getFixN ((s.drop at_.toNat).take w.toNat) : Int) else 0
theorem getFixN_snoc : ∀ (l : List UInt8) (b : UInt8), getFixN (l ++ [b]) = getFixN l + b.toNat * 2 ^ (8 * l.length)
 | [], b => by simp [getFixN]
 | a :: l, b => by
  simp only [List.cons_append, getFixN, getFixN_snoc l b, List.length_cons]
  rw [show 8 * (l.length + 1) = 8 * l.length + 8 by omega, Nat.pow_add, ← Nat.mul_assoc]
  omega
theorem getFixN_lt : ∀ (l : List UInt8), getFixN l < 2 ^ (8 * l.length)
 | [] => by simp [getFixN]
 | a :: l => by
  have := getFixN_lt l
  have := UInt8.toNat_lt a
  simp only [getFixN, List.length_cons]
  rw [show 8 * (l.length + 1) = 8 * l.length + 8 by omega, Nat.pow_add]
  omega
theorem getFixN_le {l : List UInt8} {k : Nat} (h : l.length ≤ k) : getFixN l < 2 ^ (8 * k) := Nat.lt_of_lt_of_le (getFixN_lt l) (Nat.pow_le_pow_right (by decide) (by omega))
theorem take_snoc {α : Type} {l : List α} {a i : Nat} {x : α} (h : l[a + i]? = some x) : (l.drop a).take (i + 1) = (l.drop a).take i ++ [x] := by
 have h' : (l.drop a)[i]? = some x := by rw [List.getElem?_drop]; exact h
 obtain ⟨hl, hx⟩ := List.getElem?_eq_some_iff.1 h'
 rw [List.take_succ_eq_append_getElem hl, hx]
theorem fb_shl {c : Int} {k : Nat} (hk : k ≤ 7) (h0 : 0 ≤ c) (h1 : c ≤ 255) : 0 ≤ c * 2 ^ (8 * k) ∧ c * 2 ^ (8 * k) + 2 ^ (8 * k) ≤ 18446744073709551616 ∧ (0 : Int) < 2 ^ (8 * k) := by
 rcases (show k = 0 ∨ k = 1 ∨ k = 2 ∨ k = 3 ∨ k = 4 ∨ k = 5 ∨ k = 6 ∨ k = 7 by omega) with rfl | rfl | rfl | rfl | rfl | rfl | rfl | rfl <;> simp at * <;> omega
theorem as_shl_fb {c : Int} {k : Nat} (hk : k ≤ 7) (h0 : 0 ≤ c) (h1 : c ≤ 255) : (.v (.c (.int .u64 (IntKind.u64.wrap (c * 2 ^ min (Int.toNat (8 * ((k : Nat) : Int))) 64)))) : S) = .v (.c (.int .u64 (c * 2 ^ (8 * k)))) := by
 have h := fb_shl hk h0 h1
 rw [show min (Int.toNat (8 * ((k : Nat) : Int))) 64 = 8 * k by omega]
 exact as_u64 (by omega) (by omega)
theorem as_or_fb {u c : Int} {k : Nat} (hk : k ≤ 7) (h0 : 0 ≤ c) (h1 : c ≤ 255) (hu : 0 ≤ u) (hu' : u < 2 ^ (8 * k)) : (.v (.c (.int .u64 (IntKind.u64.wrap (((BitVec.ofInt 64 u ||| BitVec.ofInt 64 (c * 2 ^ (8 * k))).toNat : Nat) : Int)))) : S) = .v (.c (.int .u64 (u + c * 2 ^ (8 * k)))) := by
 have h := fb_shl hk h0 h1
 rw [or_add (k := 8 * k) (c := c) hu hu' h0 rfl (by omega)]
 exact as_u64 (by omega) (by omega)
theorem widthOk_t {w : Int} (h : widthOk w = true) : w = 4 ∨ w = 8 := by simpa [widthOk] using h
theorem widthOk_f {w : Int} (h : widthOk w = false) : w ≠ 4 ∧ w ≠ 8 := by simpa [widthOk] using h
def failEv (c a : Int) : Ev := ⟨10, 0, 0, 0, [], c, a⟩
def numEv (f : Fld) (u : Int) : Ev := ⟨2, f.number, if f.kind = 3 ∧ u ≠ 0 then 1 else u, 0, [], 0, 0⟩
def frameOf (b : List UInt8) : List UInt8 := putVar (b.length : Int) ++ b
theorem putVar_len {u : Int} (h : u ≤ 18446744073709551615) : (putVar u).length ≤ 10 := by
 have := putVarN_len 10 u.toNat (by omega) (by omega); exact this
theorem fieldIn_cons {f : Fld} {l : List Fld} {n : Int} : fieldIn (f :: l) n = if f.number = n then some f else fieldIn l n := by
 unfold fieldIn; rw [List.find?_cons]; by_cases h : f.number = n <;> simp [h]
theorem fieldAt_in {l : List Shp} {s n : Int} {x : Shp} (hs : within s 0 ((l.length : Int) - 1) = true) (hx : l[s.toNat]? = some x) : fieldAt l s n = fieldIn x.fields n := by
 rw [fieldAt, if_pos hs, getD_of hx]
def many (l : List Ev) (k : Int) : Int := ((l.filter fun e => decide (e.kind = k)).length : Int)
structure Fa where
 stack : List Int
 inText : Bool
 isText : Bool
 utf : Utf
 ended : Bool
 deriving Inhabited
structure Fmr where
 plan : Pln
 st : Fa
structure Fs where
 stack : List Int
 field : Fld
 open_ : Bool
 utf : Utf
 ended : Bool
theorem utfFirst_ok {b : Int} {u : Utf} (h : utfFirst b = some u) : utfOk u = true := by
 unfold utfFirst at h
 repeat' split at h
 all_goals first | (cases h; done) | (cases h; first | decide | (exfalso; omega) | (simp only [utfOk, utfIs]; simp_all; done) | (simp only [utfOk, utfIs]; simp_all; omega))
theorem utfByte_ok {u v : Utf} {b : Int} (h : utfByte u b = some v) : utfOk v = true := by
 unfold utfByte at h
 split at h
 ·rename_i hu
  have hw := utfOk_want hu
  split at h
  ·exact utfFirst_ok h
  ·split at h
   ·split at h
    ·cases h; decide
    ·cases h
     rcases utfOk_t hu with h | h | h | h | h | h | h | h <;> simp_all [utfOk, utfIs]
   ·cases h
 ·cases h
theorem utfRun_ok : ∀ {u : Utf} {s : List UInt8} {i : Nat}, utfOk u = true → utfOk (utfRun u s i).1 = true
 | u, [], i, h => h
 | u, b :: r, i, h => by
  unfold utfRun
  split
  ·rename_i v hv; exact utfRun_ok (utfByte_ok hv)
  ·exact h
theorem utfSt_ok {u : Utf} {s : List UInt8} (h : utfOk u = true) : utfOk (utfSt u s) = true := utfRun_ok h
def cEv (x : Ev) : List C := [.int .i64 x.kind, .int .i64 x.field, .int .u64 x.bits, .int .i64 x.len, .str x.text, .int .i64 x.code, .int .i64 x.at_]
def cFld (x : Fld) : List C := [.int .i64 x.number, .int .i64 x.kind, .bool x.rep, .bool x.packed, .int .i64 x.msg]
def cShp (x : Shp) : List C := [.int .i64 x.id, .seq .fld x.fields]
def cUtf (x : Utf) : List C := [.int .i64 x.want, .int .i64 x.low, .int .i64 x.high]
def cPln (x : Pln) : List C := [.seq .shp x.shapes, .int .i64 x.root, .int .i64 x.deep, .int .i64 x.most]
structure Mr where
 plan : Pln
 s : List UInt8
 at_ : Int
 out : List Ev
 fail : Ev
 deriving Inhabited
def mrFail (r : Mr) (c a : Int) : Mr := ⟨r.plan, r.s, r.at_, r.out, failEv c a⟩
def mrAt (r : Mr) (a : Int) : Mr := ⟨r.plan, r.s, a, r.out, r.fail⟩
def mrTell (r : Mr) (e : Ev) : Mr := ⟨r.plan, r.s, r.at_, r.out ++ [e], r.fail⟩
def mrVarOk (r : Mr) (end_ : Int) : Bool := decide ((varWithin r.s r.at_ end_).2.2 = 0)
def mrVarU (r : Mr) (end_ : Int) : Int := if mrVarOk r end_ then (varWithin r.s r.at_ end_).1 else 0
def mrVar (r : Mr) (end_ : Int) : Mr := if mrVarOk r end_ then mrAt r (varWithin r.s r.at_ end_).2.1 else mrFail r (varWithin r.s r.at_ end_).2.2 (varWithin r.s r.at_ end_).2.1
def mrFixOk (r : Mr) (w end_ : Int) : Bool := decide (w ≤ end_ - r.at_) && getFixOk r.s r.at_ w
def mrFixU (r : Mr) (w end_ : Int) : Int := if mrFixOk r w end_ then getFix r.s r.at_ w else 0
def mrFix (r : Mr) (w end_ : Int) : Mr := if end_ - r.at_ < w then mrFail r 9 r.at_ else if getFixOk r.s r.at_ w then mrAt r (r.at_ + w) else mrFail r 10 (r.s.length : Int)
def mrValOk (r : Mr) (wire end_ : Int) : Bool := if 0 < widthOf wire then mrFixOk r (widthOf wire) end_ else mrVarOk r end_
def mrValU (r : Mr) (wire end_ : Int) : Int := if 0 < widthOf wire then mrFixU r (widthOf wire) end_ else mrVarU r end_
def mrVal (r : Mr) (wire end_ : Int) : Mr := if 0 < widthOf wire then mrFix r (widthOf wire) end_ else mrVar r end_
def numStep (r : Mr) (f : Fld) (wire end_ : Int) : Mr := if mrValOk r wire end_ = true ∧ 0 < f.number then mrTell (mrVal r wire end_) (numEv f (mrValU r wire end_)) else mrVal r wire end_
def loopM {α : Type} (go : α → Bool) (step : α → α) : Nat → α → α
 | 0, a => a
 | k + 1, a => if go a then loopM go step k (step a) else a
theorem loopM_stop {α : Type} {go : α → Bool} {step : α → α} {k : Nat} {a : α} (h : go a = false) : loopM go step k a = a := by
 cases k with
 | zero => rfl
 | succ k => simp [loopM, h]
theorem loopM_fuel {α : Type} {go : α → Bool} {step : α → α} (inv : α → Prop) (μ : α → Nat) (dec : ∀ a, inv a → go a = true → inv (step a) ∧ μ (step a) < μ a) : ∀ (n : Nat) (a : α) (k l : Nat), μ a ≤ n → inv a → μ a ≤ k → μ a ≤ l → loopM go step k a = loopM go step l a := by
 intro n
 induction n with
 | zero =>
  intro a k l h hi _ _
  cases hg : go a with
  | false => rw [loopM_stop hg, loopM_stop hg]
  | true => have := (dec a hi hg).2; omega
 | succ n ih =>
  intro a k l h hi hk hl
  cases hg : go a with
  | false => rw [loopM_stop hg, loopM_stop hg]
  | true =>
   obtain ⟨h1, h2⟩ := dec a hi hg
   obtain ⟨k, rfl⟩ : ∃ j, k = j + 1 := ⟨k - 1, by omega⟩
   obtain ⟨l, rfl⟩ : ∃ j, l = j + 1 := ⟨l - 1, by omega⟩
   simp only [loopM, hg, if_true]
   exact ih _ _ _ (by omega) h1 (by omega) (by omega)
theorem loopM_go {α : Type} {go : α → Bool} {step : α → α} (inv : α → Prop) (μ : α → Nat) (dec : ∀ a, inv a → go a = true → inv (step a) ∧ μ (step a) < μ a) {a : α} (hi : inv a) (hg : go a = true) : loopM go step (μ a) a = loopM go step (μ (step a)) (step a) := by
 obtain ⟨h1, h2⟩ := dec a hi hg
 obtain ⟨k, hk⟩ : ∃ j, μ a = j + 1 := ⟨μ a - 1, by omega⟩
 rw [hk]
 simp only [loopM, hg, if_true]
 exact loopM_fuel inv μ dec _ _ _ _ (Nat.le_refl _) h1 (by omega) (Nat.le_refl _)
def mrGo (end_ : Int) (r : Mr) : Bool := decide (r.at_ < end_) && decide (r.fail.kind = 0)
def mrMu (r : Mr) : Nat := if r.fail.kind = 0 then (1 + (r.s.length : Int) - r.at_).toNat else 0
def mrRun (r : Mr) (f : Fld) (end_ : Int) : Mr := loopM (mrGo end_) (fun r => numStep r f (wireOf f.kind) end_) (mrMu r) r
def openEv (f : Fld) (n : Int) : Ev := ⟨3, f.number, 0, n, [], 0, 0⟩
def partEv (t : List UInt8) : Ev := ⟨4, 0, 0, 0, t, 0, 0⟩
def shutEv : Ev := ⟨5, 0, 0, 0, [], 0, 0⟩
def downEv (f : Fld) (n : Int) : Ev := ⟨6, f.number, 0, n, [], 0, 0⟩
def upEv : Ev := ⟨7, 0, 0, 0, [], 0, 0⟩
def txtThere (r : Mr) (n : Int) : List UInt8 := (r.s.drop r.at_.toNat).take n.toNat
def txtBad (r : Mr) (f : Fld) (n : Int) : Int := if f.kind = 6 then utfBad utf0 (txtThere r n) else -1
def txtSt (r : Mr) (f : Fld) (n : Int) : Utf := if f.kind = 6 then utfSt utf0 (txtThere r n) else utf0
def txtGood (r : Mr) (f : Fld) (n : Int) : List UInt8 := if 0 ≤ txtBad r f n then (txtThere r n).take (txtBad r f n).toNat else txtThere r n
def txtTold (r : Mr) (f : Fld) (n : Int) : Mr := if txtGood r f n = [] then mrTell r (openEv f n) else mrTell (mrTell r (openEv f n)) (partEv (txtGood r f n))
def txtStep (r : Mr) (f : Fld) (n : Int) : Mr :=
 if 0 ≤ txtBad r f n then mrFail (txtTold r f n) 5 (r.at_ + txtBad r f n)
 else if ((txtThere r n).length : Int) < n then mrFail (txtTold r f n) 10 (r.s.length : Int)
 else if (txtSt r f n).want ≠ 0 then mrFail (txtTold r f n) 5 (r.at_ + n)
 else mrTell (mrAt (txtTold r f n) (r.at_ + n)) shutEv
def longStep (sub : Mr → Fld → Int → Int → Mr) (r : Mr) (f : Fld) (known : Bool) (end_ : Int) : Mr :=
 if mrVarOk r end_ = false then mrVar r end_
 else if end_ - (mrVar r end_).at_ < mrVarU r end_ then mrFail (mrVar r end_) 8 r.at_
 else if known = false then (if (r.s.length : Int) - (mrVar r end_).at_ < mrVarU r end_ then mrFail (mrVar r end_) 10 (r.s.length : Int) else mrAt (mrVar r end_) ((mrVar r end_).at_ + mrVarU r end_))
 else if f.kind = 8 then sub (mrVar r end_) f (mrVarU r end_) r.at_
 else if numeric f.kind = true then mrRun (mrVar r end_) f ((mrVar r end_).at_ + mrVarU r end_)
 else txtStep (mrVar r end_) f (mrVarU r end_)
def msgStep (sub : Mr → Fld → Int → Int → Mr) (shape end_ : Int) (r : Mr) : Mr :=
 if mrVarOk r end_ = false then mrVar r end_
 else if tagOk (mrVarU r end_) = false then mrFail (mrVar r end_) 2 r.at_
 else if wireOk (tagWire (mrVarU r end_)) = false then mrFail (mrVar r end_) 3 r.at_
 else if (fieldAt r.plan.shapes shape (tagNum (mrVarU r end_))).isSome = true ∧ allowed ((fieldAt r.plan.shapes shape (tagNum (mrVarU r end_))).getD fld0) (tagWire (mrVarU r end_)) = false then mrFail (mrVar r end_) 4 r.at_
 else if tagWire (mrVarU r end_) = 2 then longStep sub (mrVar r end_) ((fieldAt r.plan.shapes shape (tagNum (mrVarU r end_))).getD fld0) (fieldAt r.plan.shapes shape (tagNum (mrVarU r end_))).isSome end_
 else numStep (mrVar r end_) ((fieldAt r.plan.shapes shape (tagNum (mrVarU r end_))).getD fld0) (tagWire (mrVarU r end_)) end_
def msgN : Nat → Int → Int → Mr → Mr
 | 0, shape, end_, r => loopM (mrGo end_) (msgStep (fun r _ _ start => mrFail r 6 start) shape end_) (mrMu r) r
 | D + 1, shape, end_, r => loopM (mrGo end_) (msgStep (fun r f n _ => if (msgN D f.msg (r.at_ + n) (mrTell r (downEv f n))).fail.kind = 0 then mrTell (msgN D f.msg (r.at_ + n) (mrTell r (downEv f n))) upEv else msgN D f.msg (r.at_ + n) (mrTell r (downEv f n))) shape end_) (mrMu r) r
def subN : Nat → Mr → Fld → Int → Int → Mr
 | 0 => fun r _ _ start => mrFail r 6 start
 | D + 1 => fun r f n _ => if (msgN D f.msg (r.at_ + n) (mrTell r (downEv f n))).fail.kind = 0 then mrTell (msgN D f.msg (r.at_ + n) (mrTell r (downEv f n))) upEv else msgN D f.msg (r.at_ + n) (mrTell r (downEv f n))
theorem msgN_eq (D : Nat) (shape end_ : Int) (r : Mr) : msgN D shape end_ r = loopM (mrGo end_) (msgStep (subN D) shape end_) (mrMu r) r := by
 cases D <;> rfl
/-! ### What steps keep -/
theorem vwA_at {s : List UInt8} {a e : Int} : ∀ (f k : Nat) (u : Int), (vwA s a e f k u).2.2 = 0 → a + k < (vwA s a e f k u).2.1 ∧ (vwA s a e f k u).2.1 ≤ e ∧ (vwA s a e f k u).2.1 ≤ (s.length : Int)
 | 0, k, u => by simp [vwA]
 | f + 1, k, u => by
  rw [vwA]
  split
  ·simp
  split
  ·simp
  split
  ·simp
  split
  ·simp; omega
  ·intro h
   have := vwA_at f (k + 1) _ h
   rw [show ((k + 1 : Nat) : Int) = (k : Int) + 1 by simp] at this
   omega
theorem varWithin_at {s : List UInt8} {a e : Int} (h : (varWithin s a e).2.2 = 0) : 0 ≤ a ∧ a < (varWithin s a e).2.1 ∧ (varWithin s a e).2.1 ≤ e ∧ (varWithin s a e).2.1 ≤ (s.length : Int) := by
 unfold varWithin at h ⊢
 split
 ·rename_i hw
  rw [if_pos hw] at h
  have := within_t hw
  have := vwA_at 10 0 0 h
  rw [show ((0 : Nat) : Int) = 0 from rfl] at this
  omega
 ·rename_i hw
  rw [if_neg hw] at h
  simp at h
structure Adv (r r' : Mr) : Prop where
 plan : r'.plan = r.plan
 s : r'.s = r.s
 at_ : r'.fail.kind = 0 → r.at_ ≤ r'.at_ ∧ r'.at_ ≤ (r.s.length : Int)
 fail : r'.fail.kind = 0 → r'.fail = r.fail
 room : r'.fail.kind = 0 → (r'.out.length : Int) + 4 * ((r.s.length : Int) - r'.at_) ≤ (r.out.length : Int) + 4 * ((r.s.length : Int) - r.at_)
 most : (r'.out.length : Int) ≤ (r.out.length : Int) + 4 * ((r.s.length : Int) - r.at_)
def Adv1 (r r' : Mr) : Prop := Adv r r' ∧ (r'.fail.kind = 0 → r.at_ < r'.at_)
theorem Adv.trans {a b c : Mr} (h : Adv a b) (hb : b.fail.kind = 0) (g : Adv b c) : Adv a c := by
 obtain ⟨h1, h2⟩ := h.at_ hb
 have hr := h.room hb
 have gm := g.most
 rw [h.s] at gm
 refine ⟨g.plan.trans h.plan, g.s.trans h.s, fun hc => ?_, fun hc => (g.fail hc).trans (h.fail hb), fun hc => ?_, by omega⟩
 ·have := g.at_ hc
  rw [h.s] at this
  omega
 ·have := g.room hc
  rw [h.s] at this
  omega
theorem Adv.refl (r : Mr) (h : r.at_ ≤ (r.s.length : Int)) : Adv r r := ⟨rfl, rfl, fun _ => ⟨Int.le_refl _, h⟩, fun _ => rfl, fun _ => Int.le_refl _, by omega⟩
theorem Adv1.trans {a b c : Mr} (h : Adv1 a b) (hb : b.fail.kind = 0) (g : Adv b c) : Adv1 a c :=
 ⟨h.1.trans hb g, fun hc => by
  have h1 := h.2 hb
  have := g.at_ hc
  omega⟩
theorem Adv.failed {r r' : Mr} (hp : r'.plan = r.plan) (hs : r'.s = r.s) (hk : r'.fail.kind ≠ 0) (ho : (r'.out.length : Int) ≤ (r.out.length : Int) + 4 * ((r.s.length : Int) - r.at_)) : Adv r r' :=
 ⟨hp, hs, fun h => (hk h).elim, fun h => (hk h).elim, fun h => (hk h).elim, ho⟩
theorem Adv1.failed {r r' : Mr} (hp : r'.plan = r.plan) (hs : r'.s = r.s) (hk : r'.fail.kind ≠ 0) (ho : (r'.out.length : Int) ≤ (r.out.length : Int) + 4 * ((r.s.length : Int) - r.at_)) : Adv1 r r' :=
 ⟨Adv.failed hp hs hk ho, fun h => (hk h).elim⟩
theorem mrFail_kind (r : Mr) (c a : Int) : (mrFail r c a).fail.kind ≠ 0 := by simp [mrFail, failEv]
theorem mrFail_adv {r : Mr} {c a : Int} (h : r.at_ ≤ (r.s.length : Int)) : Adv1 r (mrFail r c a) := Adv1.failed rfl rfl (mrFail_kind r c a) (by simp only [mrFail]; omega)
theorem mrVar_ok {r : Mr} {e : Int} (h : mrVarOk r e = true) : mrVar r e = mrAt r (varWithin r.s r.at_ e).2.1 := by unfold mrVar; rw [if_pos h]
theorem mrVar_bad {r : Mr} {e : Int} (h : mrVarOk r e = false) : mrVar r e = mrFail r (varWithin r.s r.at_ e).2.2 (varWithin r.s r.at_ e).2.1 := by unfold mrVar; rw [if_neg (by simp [h])]
theorem mrAt_adv {r : Mr} {a : Int} (h1 : r.at_ < a) (h2 : a ≤ (r.s.length : Int)) : Adv1 r (mrAt r a) :=
 ⟨⟨rfl, rfl, fun _ => ⟨by simp only [mrAt]; omega, h2⟩, fun _ => rfl, fun _ => by simp only [mrAt]; omega, by simp only [mrAt]; omega⟩, fun _ => h1⟩
theorem mrVar_adv {r : Mr} {e : Int} (h1 : r.at_ ≤ (r.s.length : Int)) : Adv1 r (mrVar r e) ∧ (mrVarOk r e = true → 0 ≤ r.at_ ∧ (mrVar r e).at_ ≤ e) ∧ (mrVar r e).out = r.out := by
 cases hok : mrVarOk r e with
 | true =>
  rw [mrVar_ok hok]
  have hc : (varWithin r.s r.at_ e).2.2 = 0 := by simpa [mrVarOk] using hok
  have hv := varWithin_at hc
  exact ⟨mrAt_adv hv.2.1 hv.2.2.2, fun _ => ⟨hv.1, hv.2.2.1⟩, rfl⟩
 | false =>
  rw [mrVar_bad hok]
  exact ⟨mrFail_adv h1, fun h => by simp at h, rfl⟩
theorem mrVarOk_kind {r : Mr} {e : Int} (h0 : r.fail.kind = 0) : mrVarOk r e = decide ((mrVar r e).fail.kind = 0) := by
 cases hok : mrVarOk r e with
 | true => rw [mrVar_ok hok]; simp [mrAt, h0]
 | false => rw [mrVar_bad hok]; rfl
theorem getFixOk_t {s : List UInt8} {a w : Int} (h : getFixOk s a w = true) : (w = 4 ∨ w = 8) ∧ 0 ≤ a ∧ a + w ≤ (s.length : Int) := by
 simp only [getFixOk, Bool.and_eq_true] at h
 have := within_t h.2
 exact ⟨widthOk_t h.1, by omega, by omega⟩
theorem mrFix_adv {r : Mr} {w e : Int} (h1 : r.at_ ≤ (r.s.length : Int)) : Adv1 r (mrFix r w e) ∧ (mrFix r w e).out = r.out := by
 unfold mrFix
 split
 ·exact ⟨mrFail_adv h1, rfl⟩
 ·split
  ·rename_i h2 h3
   have := getFixOk_t h3
   exact ⟨mrAt_adv (by omega) (by omega), rfl⟩
  ·exact ⟨mrFail_adv h1, rfl⟩
theorem mrVal_adv {r : Mr} {w e : Int} (h1 : r.at_ ≤ (r.s.length : Int)) : Adv1 r (mrVal r w e) ∧ (mrVal r w e).out = r.out := by
 unfold mrVal; split
 ·exact mrFix_adv h1
 ·exact ⟨(mrVar_adv h1).1, (mrVar_adv h1).2.2⟩
theorem mrValOk_kind {r : Mr} {w e : Int} (h0 : r.fail.kind = 0) : mrValOk r w e = decide ((mrVal r w e).fail.kind = 0) := by
 unfold mrValOk mrVal; split
 ·unfold mrFix mrFixOk
  split
  ·rename_i h; rw [decide_eq_false (by omega)]; rfl
  ·rename_i h; rw [decide_eq_true (by omega)]
   split <;> rename_i h2
   ·simp [h2, mrAt, h0]
   ·simp [h2, mrFail, failEv]
 ·exact mrVarOk_kind h0
theorem tell_adv {r r' : Mr} {e : Ev} (h : Adv1 r r') (ho : r'.out = r.out) (hk : r'.fail.kind = 0) : Adv1 r (mrTell r' e) := by
 have ha := h.1.at_ hk
 have hb := h.2 hk
 refine ⟨⟨h.1.plan, h.1.s, h.1.at_, h.1.fail, fun _ => ?_, ?_⟩, h.2⟩
 ·simp only [mrTell, List.length_append, List.length_cons, List.length_nil, ho]; omega
 ·simp only [mrTell, List.length_append, List.length_cons, List.length_nil, ho]; omega
theorem numStep_adv {r : Mr} {f : Fld} {w e : Int} (h1 : r.at_ ≤ (r.s.length : Int)) (h0 : r.fail.kind = 0) : Adv1 r (numStep r f w e) := by
 have hv := mrVal_adv (w := w) (e := e) h1
 unfold numStep
 split
 ·rename_i hh
  have := hh.1
  rw [mrValOk_kind h0] at this
  exact tell_adv hv.1 hv.2 (by simpa using this)
 ·exact hv.1
theorem loopM_adv {go : Mr → Bool} {step : Mr → Mr} (hgo : ∀ r, go r = true → r.fail.kind = 0) (hstep : ∀ r, r.at_ ≤ (r.s.length : Int) → r.fail.kind = 0 → Adv1 r (step r)) : ∀ (k : Nat) (r : Mr), r.at_ ≤ (r.s.length : Int) → Adv r (loopM go step k r)
 | 0, r, h => Adv.refl r h
 | k + 1, r, h => by
  unfold loopM
  cases hg : go r with
  | false => exact Adv.refl r h
  | true =>
   have hk := hgo r hg
   have hs := hstep r h hk
   simp only [if_true]
   by_cases hk' : (step r).fail.kind = 0
   ·have := hs.1.at_ hk'
    exact hs.1.trans hk' (loopM_adv hgo hstep k (step r) (by rw [hs.1.s]; exact this.2))
   ·have : loopM go step k (step r) = step r := loopM_stop (by cases hg' : go (step r) with
     | false => rfl
     | true => exact (hk' (hgo _ hg')).elim)
    rw [this]; exact hs.1
theorem mrGo_kind {e : Int} {r : Mr} (h : mrGo e r = true) : r.fail.kind = 0 := by simp [mrGo] at h; exact h.2
theorem mrMu_dec {r r' : Mr} (h1 : r.at_ ≤ (r.s.length : Int)) (h0 : r.fail.kind = 0) (h : Adv1 r r') : mrMu r' < mrMu r := by
 unfold mrMu
 rw [if_pos h0]
 split
 ·rename_i hk
  have := h.2 hk
  have := h.1.at_ hk
  rw [h.1.s]; omega
 ·omega
theorem mrRun_adv {r : Mr} {f : Fld} {e : Int} (h1 : r.at_ ≤ (r.s.length : Int)) : Adv r (mrRun r f e) :=
 loopM_adv (fun r h => mrGo_kind h) (fun r h h0 => numStep_adv h h0) _ r h1
theorem mrRun_go {r : Mr} {f : Fld} {e : Int} (h1 : r.at_ ≤ (r.s.length : Int)) (hg : mrGo e r = true) : mrRun r f e = mrRun (numStep r f (wireOf f.kind) e) f e := by
 unfold mrRun
 refine loopM_go (fun r => r.at_ ≤ (r.s.length : Int) ∨ r.fail.kind ≠ 0) mrMu (fun a hi hg => ?_) (.inl h1) hg
 have hk := mrGo_kind hg
 have ha := hi.resolve_right (fun h => h hk)
 have := numStep_adv (f := f) (w := wireOf f.kind) (e := e) ha hk
 refine ⟨?_, mrMu_dec ha hk this⟩
 by_cases hk' : (numStep a f (wireOf f.kind) e).fail.kind = 0
 ·left; rw [this.1.s]; exact (this.1.at_ hk').2
 ·exact .inr hk'
theorem mrRun_stop {r : Mr} {f : Fld} {e : Int} (hg : mrGo e r = false) : mrRun r f e = r := loopM_stop hg
theorem numStep_ok {r : Mr} {f : Fld} {w e : Int} (h : mrValOk r w e = true) (hf : 0 < f.number) : numStep r f w e = mrTell (mrVal r w e) (numEv f (mrValU r w e)) := by unfold numStep; rw [if_pos ⟨h, hf⟩]
theorem numStep_bad {r : Mr} {f : Fld} {w e : Int} (h : mrValOk r w e = false) : numStep r f w e = mrVal r w e := by unfold numStep; rw [if_neg (by simp [h])]
structure RunInv (r0 : Mr) (f : Fld) (e : Int) (q : Mr) : Prop where
 at_ : q.at_ ≤ (q.s.length : Int)
 fail : q.fail.kind = 0
 adv : Adv r0 q
 run : mrRun q f e = mrRun r0 f e
theorem RunInv.refl {r : Mr} {f : Fld} {e : Int} (h1 : r.at_ ≤ (r.s.length : Int)) (h0 : r.fail.kind = 0) : RunInv r f e r := ⟨h1, h0, Adv.refl r h1, rfl⟩
theorem RunInv.next {r q : Mr} {f : Fld} {e : Int} (h : RunInv r f e q) (hg : q.at_ < e) (hok : mrValOk q (wireOf f.kind) e = true) (hf : 0 < f.number) : RunInv r f e (mrTell (mrVal q (wireOf f.kind) e) (numEv f (mrValU q (wireOf f.kind) e))) := by
 have hgo : mrGo e q = true := by simp [mrGo, hg, h.fail]
 have hs := numStep_adv (f := f) (w := wireOf f.kind) (e := e) h.at_ h.fail
 have hr := mrRun_go (f := f) h.at_ hgo
 rw [numStep_ok hok hf] at hs hr
 have hk : (mrTell (mrVal q (wireOf f.kind) e) (numEv f (mrValU q (wireOf f.kind) e))).fail.kind = 0 := by
  rw [mrValOk_kind h.fail] at hok; simpa [mrTell] using hok
 exact ⟨by rw [hs.1.s]; exact (hs.1.at_ hk).2, hk, h.adv.trans h.fail hs.1, hr.symm.trans h.run⟩
theorem RunInv.bad {r q : Mr} {f : Fld} {e : Int} (h : RunInv r f e q) (hg : q.at_ < e) (hok : mrValOk q (wireOf f.kind) e = false) : mrRun r f e = mrVal q (wireOf f.kind) e := by
 have hgo : mrGo e q = true := by simp [mrGo, hg, h.fail]
 have hr := mrRun_go (f := f) h.at_ hgo
 rw [numStep_bad hok] at hr
 rw [← h.run, hr]
 refine mrRun_stop ?_
 rw [mrValOk_kind h.fail] at hok
 have : (mrVal q (wireOf f.kind) e).fail.kind ≠ 0 := by simpa using hok
 simp [mrGo, this]
theorem RunInv.end_ {r q : Mr} {f : Fld} {e : Int} (h : RunInv r f e q) (hg : ¬ q.at_ < e) : mrRun r f e = q := by
 rw [← h.run]; exact mrRun_stop (by simp [mrGo]; omega)
theorem RunInv.room {r q : Mr} {f : Fld} {e : Int} (h : RunInv r f e q) : q.s = r.s ∧ q.plan = r.plan ∧ r.at_ ≤ q.at_ ∧ (q.out.length : Int) + 4 * ((r.s.length : Int) - q.at_) ≤ (r.out.length : Int) + 4 * ((r.s.length : Int) - r.at_) :=
 ⟨h.adv.s, h.adv.plan, (h.adv.at_ h.fail).1, h.adv.room h.fail⟩
theorem mrFixU_b (r : Mr) (w e : Int) : 0 ≤ mrFixU r w e ∧ mrFixU r w e ≤ 18446744073709551615 := by
 unfold mrFixU
 split
 ·rename_i h; simp only [mrFixOk, Bool.and_eq_true] at h
  have hw := getFixOk_t h.2
  unfold getFix; rw [if_pos h.2]
  have := getFixN_le (l := List.take w.toNat (List.drop r.at_.toNat r.s)) (k := 8) (by rw [List.length_take]; omega)
  have e8 : (2 : Nat) ^ (8 * 8) = 18446744073709551616 := by decide
  omega
 ·omega
theorem mrValU_b (r : Mr) (w e : Int) : 0 ≤ mrValU r w e ∧ mrValU r w e ≤ 18446744073709551615 := by
 unfold mrValU mrFixU mrVarU
 split
 ·split
  ·rename_i h; simp only [mrFixOk, Bool.and_eq_true] at h
   have hw := getFixOk_t h.2
   unfold getFix; rw [if_pos h.2]
   have := getFixN_le (l := List.take (widthOf w).toNat (List.drop r.at_.toNat r.s)) (k := 8) (by rw [List.length_take]; omega)
   have e8 : (2 : Nat) ^ (8 * 8) = 18446744073709551616 := by decide
   omega
  ·omega
 ·split
  ·exact varWithin_b _ _ _
  ·omega
theorem mrVarU_b (r : Mr) (e : Int) : 0 ≤ mrVarU r e ∧ mrVarU r e ≤ 18446744073709551615 := by
 unfold mrVarU; split
 ·exact varWithin_b _ _ _
 ·omega
theorem bnot_mkt {b : Bool} (h : b = false) : (!b) = true := by rw [h]; rfl
theorem bnot_mkf {b : Bool} (h : b = true) : (!b) = false := by rw [h]; rfl
theorem txt_there {s : List UInt8} {a n e : Int} (ha : 0 ≤ a) (hn : 0 ≤ n) (hl : a ≤ (s.length : Int)) (he : e = a + n ∧ a + n ≤ (s.length : Int) ∨ e = (s.length : Int) ∧ (s.length : Int) ≤ a + n) : List.drop a.toNat (List.take e.toNat s) = (s.drop a.toNat).take n.toNat := by
 rw [List.drop_take]
 rcases he with ⟨he, _⟩ | ⟨he, hm⟩
 ·rw [he, show (a + n).toNat - a.toNat = n.toNat by omega]
 ·rw [List.take_of_length_le (by rw [List.length_drop]; omega), List.take_of_length_le (by rw [List.length_drop]; omega)]
theorem utfRun_bad : ∀ {u : Utf} {s : List UInt8} {i j : Nat}, (utfRun u s i).2 = some j → i ≤ j ∧ j < i + s.length
 | u, [], i, j, h => by simp [utfRun] at h
 | u, b :: r, i, j, h => by
  unfold utfRun at h
  split at h
  ·have := utfRun_bad h; simp only [List.length_cons]; omega
  ·simp at h; simp only [List.length_cons]; omega
theorem utfBad_b (u : Utf) (s : List UInt8) : -1 ≤ utfBad u s ∧ (0 ≤ utfBad u s → utfBad u s < (s.length : Int)) := by
 unfold utfBad
 split
 ·rename_i h; have := utfRun_bad h; omega
 ·omega
theorem txtThere_len {r : Mr} {n : Int} (hn : 0 ≤ n) (ha : 0 ≤ r.at_) (hl : r.at_ ≤ (r.s.length : Int)) : ((txtThere r n).length : Int) ≤ n ∧ ((txtThere r n).length : Int) ≤ (r.s.length : Int) - r.at_ ∧ (((txtThere r n).length : Int) < n → ((txtThere r n).length : Int) = (r.s.length : Int) - r.at_) := by
 unfold txtThere; rw [List.length_take, List.length_drop]; omega
/-! ### Texts, messages -/
structure AdvB (b : Int) (r r' : Mr) : Prop where
 plan : r'.plan = r.plan
 s : r'.s = r.s
 at_ : r'.fail.kind = 0 → r.at_ ≤ r'.at_ ∧ r'.at_ ≤ (r.s.length : Int)
 fail : r'.fail.kind = 0 → r'.fail = r.fail
 room : r'.fail.kind = 0 → (r'.out.length : Int) + 4 * ((r.s.length : Int) - r'.at_) ≤ (r.out.length : Int) + b + 4 * ((r.s.length : Int) - r.at_)
 most : (r'.out.length : Int) ≤ (r.out.length : Int) + b + 4 * ((r.s.length : Int) - r.at_)
theorem Adv.b {r r' : Mr} (h : Adv r r') : AdvB 0 r r' := ⟨h.plan, h.s, h.at_, h.fail, fun hk => by have := h.room hk; omega, by have := h.most; omega⟩
theorem AdvB.tell {b : Int} {r r' : Mr} (h : AdvB b r r') (e : Ev) : AdvB (b + 1) r (mrTell r' e) :=
 ⟨h.plan, h.s, h.at_, h.fail, fun hk => by have := h.room hk; simp only [mrTell, List.length_append, List.length_cons, List.length_nil]; omega, by have := h.most; simp only [mrTell, List.length_append, List.length_cons, List.length_nil]; omega⟩
theorem AdvB.failed {b : Int} {r r' : Mr} (h : AdvB b r r') (c a : Int) : AdvB b r (mrFail r' c a) :=
 ⟨h.plan, h.s, fun hk => (mrFail_kind _ _ _ hk).elim, fun hk => (mrFail_kind _ _ _ hk).elim, fun hk => (mrFail_kind _ _ _ hk).elim, h.most⟩
theorem AdvB.moved {b : Int} {r r' : Mr} (h : AdvB b r r') {a : Int} (h1 : r'.fail.kind = 0 → r'.at_ ≤ a) (h2 : a ≤ (r.s.length : Int)) : AdvB b r (mrAt r' a) :=
 ⟨h.plan, h.s, fun hk => by have := h.at_ hk; have := h1 hk; exact ⟨by simp only [mrAt]; omega, h2⟩, h.fail, fun hk => by have := h.room hk; have := h1 hk; simp only [mrAt]; omega, h.most⟩
theorem AdvB.trans {b c : Int} {x y z : Mr} (h : AdvB b x y) (hb : y.fail.kind = 0) (g : AdvB c y z) : AdvB (b + c) x z := by
 obtain ⟨h1, h2⟩ := h.at_ hb
 have hr := h.room hb
 have gm := g.most
 rw [h.s] at gm
 refine ⟨g.plan.trans h.plan, g.s.trans h.s, fun hc => ?_, fun hc => (g.fail hc).trans (h.fail hb), fun hc => ?_, by omega⟩
 ·have := g.at_ hc
  rw [h.s] at this
  omega
 ·have := g.room hc
  rw [h.s] at this
  omega
theorem AdvB.mono {b c : Int} {r r' : Mr} (h : AdvB b r r') (hc : b ≤ c) : AdvB c r r' := ⟨h.plan, h.s, h.at_, h.fail, fun hk => by have := h.room hk; omega, by have := h.most; omega⟩
theorem Adv1.after {b : Int} {r v w : Mr} (h : Adv1 r v) (ho : v.out = r.out) (hk : v.fail.kind = 0) (g : AdvB b v w) (hb : b ≤ 4) : Adv1 r w := by
 have h1 := h.1.at_ hk
 have h2 := h.2 hk
 have gm := g.most
 rw [h.1.s, ho] at gm
 refine ⟨⟨g.plan.trans h.1.plan, g.s.trans h.1.s, fun hc => ?_, fun hc => (g.fail hc).trans (h.1.fail hk), fun hc => ?_, by omega⟩, fun hc => ?_⟩
 ·have := g.at_ hc
  rw [h.1.s] at this
  omega
 ·have := g.room hc
  rw [h.1.s, ho] at this
  omega
 ·have := g.at_ hc
  omega
theorem txtTold_adv {r : Mr} {f : Fld} {n : Int} (hl : r.at_ ≤ (r.s.length : Int)) : AdvB 2 r (txtTold r f n) ∧ (txtTold r f n).at_ = r.at_ ∧ (txtTold r f n).fail = r.fail := by
 unfold txtTold
 split
 ·exact ⟨((Adv.refl r hl).b.tell _).mono (by decide), rfl, rfl⟩
 ·exact ⟨(((Adv.refl r hl).b.tell _).tell _).mono (by decide), rfl, rfl⟩
theorem txtStep_adv {r : Mr} {f : Fld} {n : Int} (ha : 0 ≤ r.at_) (hl : r.at_ ≤ (r.s.length : Int)) (hn : 0 ≤ n) : AdvB 3 r (txtStep r f n) := by
 obtain ⟨h1, h2, h3⟩ := txtTold_adv (f := f) (n := n) hl
 have ht := txtThere_len hn ha hl
 unfold txtStep
 split
 ·exact (h1.failed _ _).mono (by decide)
 split
 ·exact (h1.failed _ _).mono (by decide)
 split
 ·exact (h1.failed _ _).mono (by decide)
 ·exact ((h1.moved (fun _ => by omega) (by omega)).tell _).mono (by decide)
def SubAdv (sub : Mr → Fld → Int → Int → Mr) : Prop := ∀ (v : Mr) (f : Fld) (n s : Int), v.at_ ≤ (v.s.length : Int) → v.fail.kind = 0 → AdvB 2 v (sub v f n s)
theorem longStep_adv {sub : Mr → Fld → Int → Int → Mr} (hsub : SubAdv sub) {r : Mr} {f : Fld} {known : Bool} {e : Int} (hl : r.at_ ≤ (r.s.length : Int)) (h0 : r.fail.kind = 0) : Adv1 r (longStep sub r f known e) := by
 obtain ⟨hv, hv2, hv3⟩ := mrVar_adv (e := e) hl
 have hu := mrVarU_b r e
 unfold longStep
 split
 ·exact hv
 ·rename_i hok
  have hok : mrVarOk r e = true := by simpa using hok
  have hk : (mrVar r e).fail.kind = 0 := by rw [mrVarOk_kind h0] at hok; simpa using hok
  have ha := hv.1.at_ hk
  have hs := congrArg List.length hv.1.s
  have h2 := hv2 hok
  have hl' : (mrVar r e).at_ ≤ ((mrVar r e).s.length : Int) := by omega
  have hr := (Adv.refl (mrVar r e) hl').b
  split
  ·exact hv.after hv3 hk (hr.failed _ _) (by decide)
  split
  ·split
   ·exact hv.after hv3 hk (hr.failed _ _) (by decide)
   ·exact hv.after hv3 hk (hr.moved (fun _ => by omega) (by omega)) (by decide)
  split
  ·exact hv.after hv3 hk (hsub _ _ _ _ hl' hk) (by decide)
  split
  ·exact hv.after hv3 hk (mrRun_adv hl').b (by decide)
  ·exact hv.after hv3 hk (txtStep_adv (by omega) hl' hu.1) (by decide)
theorem msgStep_adv {sub : Mr → Fld → Int → Int → Mr} (hsub : SubAdv sub) {shape e : Int} {r : Mr} (hl : r.at_ ≤ (r.s.length : Int)) (h0 : r.fail.kind = 0) : Adv1 r (msgStep sub shape e r) := by
 obtain ⟨hv, hv2, hv3⟩ := mrVar_adv (e := e) hl
 unfold msgStep
 split
 ·exact hv
 ·rename_i hok
  have hok : mrVarOk r e = true := by simpa using hok
  have hk : (mrVar r e).fail.kind = 0 := by rw [mrVarOk_kind h0] at hok; simpa using hok
  have ha := hv.1.at_ hk
  have hs := congrArg List.length hv.1.s
  have hl' : (mrVar r e).at_ ≤ ((mrVar r e).s.length : Int) := by omega
  have hr := (Adv.refl (mrVar r e) hl').b
  split
  ·exact hv.after hv3 hk (hr.failed _ _) (by decide)
  split
  ·exact hv.after hv3 hk (hr.failed _ _) (by decide)
  split
  ·exact hv.after hv3 hk (hr.failed _ _) (by decide)
  split
  ·exact hv.after hv3 hk (longStep_adv hsub hl' hk).1.b (by decide)
  ·exact hv.after hv3 hk (numStep_adv hl' hk).1.b (by decide)
theorem msgN_adv' {D : Nat} (hs : SubAdv (subN D)) {shape e : Int} {r : Mr} (hl : r.at_ ≤ (r.s.length : Int)) : Adv r (msgN D shape e r) := by
 rw [msgN_eq]
 exact loopM_adv (fun r h => mrGo_kind h) (fun r h h0 => msgStep_adv hs h h0) _ r hl
theorem subN_adv : ∀ D, SubAdv (subN D)
 | 0 => fun v f n s hl h0 => ((Adv.refl v hl).b.failed _ _).mono (by decide)
 | D + 1 => fun v f n s hl h0 => by
  have ht : AdvB 1 v (mrTell v (downEv f n)) := (Adv.refl v hl).b.tell _
  have hm := (msgN_adv' (subN_adv D) (shape := f.msg) (e := v.at_ + n) (r := mrTell v (downEv f n)) hl).b
  have hb := ht.trans h0 hm
  simp only [subN]
  split
  ·exact (hb.tell _).mono (by decide)
  ·exact hb.mono (by decide)
theorem msgN_adv {D : Nat} {shape e : Int} {r : Mr} (hl : r.at_ ≤ (r.s.length : Int)) : Adv r (msgN D shape e r) := msgN_adv' (subN_adv D) hl
structure LInv (step : Mr → Mr) (e : Int) (r0 q : Mr) : Prop where
 adv : Adv r0 q
 run : loopM (mrGo e) step (mrMu q) q = loopM (mrGo e) step (mrMu r0) r0
def StepAdv (step : Mr → Mr) : Prop := ∀ r : Mr, r.at_ ≤ (r.s.length : Int) → r.fail.kind = 0 → Adv1 r (step r)
theorem LInv.refl {step : Mr → Mr} {e : Int} {r : Mr} (h1 : r.at_ ≤ (r.s.length : Int)) : LInv step e r r := ⟨Adv.refl r h1, rfl⟩
theorem LInv.at_ {step : Mr → Mr} {e : Int} {r q : Mr} (h : LInv step e r q) (hk : q.fail.kind = 0) : r.at_ ≤ q.at_ ∧ q.at_ ≤ (q.s.length : Int) := by
 have := h.adv.at_ hk
 rw [h.adv.s]; exact this
theorem LInv.room {step : Mr → Mr} {e : Int} {r q : Mr} (h : LInv step e r q) (hk : q.fail.kind = 0) : q.s.length = r.s.length ∧ q.plan = r.plan ∧ r.at_ ≤ q.at_ ∧ q.at_ ≤ (r.s.length : Int) ∧ (q.out.length : Int) + 4 * ((r.s.length : Int) - q.at_) ≤ (r.out.length : Int) + 4 * ((r.s.length : Int) - r.at_) :=
 ⟨by rw [h.adv.s], h.adv.plan, (h.adv.at_ hk).1, (h.adv.at_ hk).2, h.adv.room hk⟩
theorem LInv.go {step : Mr → Mr} (hs : StepAdv step) {e : Int} {r q : Mr} (h : LInv step e r q) (hg : q.at_ < e) (hk : q.fail.kind = 0) : LInv step e r (step q) ∧ mrMu (step q) < mrMu q := by
 have hgo : mrGo e q = true := by simp [mrGo, hg, hk]
 have ha := h.at_ hk
 have hq := hs q ha.2 hk
 refine ⟨⟨h.adv.trans hk hq.1, ?_⟩, mrMu_dec ha.2 hk hq⟩
 rw [← h.run]
 refine (loopM_go (fun r => r.at_ ≤ (r.s.length : Int) ∨ r.fail.kind ≠ 0) mrMu (fun a hi hg => ?_) (.inl ha.2) hgo).symm
 have hk' := mrGo_kind hg
 have hl : a.at_ ≤ (a.s.length : Int) := hi.resolve_right (fun h => h hk')
 refine ⟨?_, mrMu_dec hl hk' (hs a hl hk')⟩
 by_cases hk2 : (step a).fail.kind = 0
 ·left; rw [(hs a hl hk').1.s]; exact ((hs a hl hk').1.at_ hk2).2
 ·exact .inr hk2
theorem LInv.stop {step : Mr → Mr} {e : Int} {r q : Mr} (h : LInv step e r q) (hg : mrGo e q = false) : loopM (mrGo e) step (mrMu r) r = q := by rw [← h.run]; exact loopM_stop hg
theorem LInv.end_ {step : Mr → Mr} {e : Int} {r q : Mr} (h : LInv step e r q) (hg : ¬ q.at_ < e) : loopM (mrGo e) step (mrMu r) r = q := h.stop (by simp [mrGo]; omega)
theorem LInv.bad {step : Mr → Mr} {e : Int} {r q : Mr} (h : LInv step e r q) (hk : q.fail.kind ≠ 0) : loopM (mrGo e) step (mrMu r) r = q := h.stop (by simp [mrGo, hk])
theorem msgN_loop (D : Nat) (shape e : Int) : StepAdv (msgStep (subN D) shape e) := fun _ h h0 => msgStep_adv (subN_adv D) h h0
theorem numStep_loop (f : Fld) (w e : Int) : StepAdv (fun r => numStep r f w e) := fun _ h h0 => numStep_adv h h0
theorem LInv.leave {step : Mr → Mr} (hs : StepAdv step) {e : Int} {r q x : Mr} (h : LInv step e r q) (hg : q.at_ < e) (hk : q.fail.kind = 0) (hx : step q = x) (hx2 : x.fail.kind ≠ 0) : loopM (mrGo e) step (mrMu r) r = x := by
 subst hx; exact (h.go hs hg hk).1.bad hx2
theorem LInv.next {step : Mr → Mr} (hs : StepAdv step) {e : Int} {r q x : Mr} (h : LInv step e r q) (hg : q.at_ < e) (hk : q.fail.kind = 0) (hx : step q = x) : LInv step e r x ∧ mrMu x < mrMu q := by
 subst hx; exact h.go hs hg hk
theorem field_facts {l : List Shp} {s n : Int} (hl : schemaOk l = true) : ((fieldAt l s n).isSome = true → 1 ≤ ((fieldAt l s n).getD fld0).number ∧ 1 ≤ ((fieldAt l s n).getD fld0).kind ∧ ((fieldAt l s n).getD fld0).kind ≤ 8) ∧ ((fieldAt l s n).isSome = false → ((fieldAt l s n).getD fld0).number = 0) := by
 cases h : fieldAt l s n with
 | none => simp [fld0]
 | some f =>
  have := fldOk_t (fieldAt_ok hl h).1
  simp; omega
theorem msgN_room {D : Nat} {s e : Int} {v : Mr} {k b : Nat} (h : v.at_ ≤ (v.s.length : Int)) (hb : (v.out.length : Int) + 4 * ((v.s.length : Int) - v.at_) + (k : Int) ≤ (b : Int)) : (msgN D s e v).out.length + k ≤ b := by
 have := (msgN_adv (D := D) (shape := s) (e := e) h).most; omega
theorem msgN_room0 {D : Nat} {s e : Int} {v : Mr} {b : Nat} (h : v.at_ ≤ (v.s.length : Int)) (hb : (v.out.length : Int) + 4 * ((v.s.length : Int) - v.at_) ≤ (b : Int)) : (msgN D s e v).out.length ≤ b := by
 have := (msgN_adv (D := D) (shape := s) (e := e) h).most; omega
theorem wireOf_num {k : Int} (h : 1 ≤ k ∧ k ≤ 5) : wireOf k = 0 ∨ wireOf k = 1 ∨ wireOf k = 5 := by
 have hk : kindOk k = true := by simp only [kindOk, within, Bool.and_eq_true, decide_eq_true_eq]; omega
 unfold wireOf
 rw [if_pos hk]
 split
 ·exact .inr (.inr rfl)
 ·split
  ·exact .inr (.inl rfl)
  ·exact .inl (by rw [if_pos (by omega)])
theorem tagWire_b (u : Int) : 0 ≤ tagWire u ∧ tagWire u ≤ 7 := by unfold tagWire; split <;> omega
theorem field_known {l : List Shp} {s n : Int} (hl : schemaOk l = true) : (fieldAt l s n).isSome = decide (((fieldAt l s n).getD fld0).number ≠ 0) := by
 have := field_facts (s := s) (n := n) hl
 cases h : (fieldAt l s n).isSome with
 | true => exact (decide_eq_true (by have := (this.1 h).1; omega)).symm
 | false => exact (decide_eq_false (by have := this.2 h; omega)).symm
def oMr6 (j6 : Nat) (x : Mr) : List C := [.seq .shp x.plan.shapes, .int .i64 x.plan.root, .int .i64 x.plan.deep, .int .i64 x.plan.most, .str x.s, .int .i64 x.at_, .own j6, .int .i64 x.fail.kind, .int .i64 x.fail.field, .int .u64 x.fail.bits, .int .i64 x.fail.len, .str x.fail.text, .int .i64 x.fail.code, .int .i64 x.fail.at_]
theorem within_i (n : Int) (lo : Int) (hi : Int) : Fun Tryz.prog 43 [vI n, vI lo, vI hi] [] (.v (vB (within n lo hi))) [] := by
 have hN : bigN = 274877906944 := rfl
 refine fun_ofw Tryz.func43 (by kernel_rfl) (by kernel_rfl) (w := (.br (.leaf () []) (.leaf () []), ((decide (lo ≤ n)) = true → (.v (vB (decide (n ≤ hi))) : S) = .v (vB (within n lo hi)) ∧ ([] : List Blk) = []) ∧ ((decide (lo ≤ n)) = false → (.v (vB false) : S) = .v (vB (within n lo hi)) ∧ ([] : List Blk) = []))) (by kernel_rfl) ?_
 refine dsp (fun h1 p1 => ?_) fun h1 p1 => ?_
 exact ⟨(congrArg S.v (congrArg V.c (congrArg C.bool (by simp [within, *])))), rfl⟩
 exact ⟨(congrArg S.v (congrArg V.c (congrArg C.bool (by simp [within, *])))), rfl⟩
theorem within_s (n : Int) (lo : Int) (hi : Int) : Fun Tryz.prog 45 [vI n, vI lo, vI hi] [] (.v (vB (within n lo hi))) [] := by
 have hN : bigN = 274877906944 := rfl
 refine fun_ofw Tryz.func45 (by kernel_rfl) (by kernel_rfl) (w := (.br (.leaf () []) (.leaf () []), ((decide (lo ≤ n)) = true → (.v (vB (decide (n ≤ hi))) : S) = .v (vB (within n lo hi)) ∧ ([] : List Blk) = []) ∧ ((decide (lo ≤ n)) = false → (.v (vB false) : S) = .v (vB (within n lo hi)) ∧ ([] : List Blk) = []))) (by kernel_rfl) ?_
 refine dsp (fun h1 p1 => ?_) fun h1 p1 => ?_
 exact ⟨(congrArg S.v (congrArg V.c (congrArg C.bool (by simp [within, *])))), rfl⟩
 exact ⟨(congrArg S.v (congrArg V.c (congrArg C.bool (by simp [within, *])))), rfl⟩
theorem l1min (a : Int) (b : Int) : Fun Tryz.prog 50 [vI a, vI b] [] (.v (vI (min a b))) [] := by
 have hN : bigN = 274877906944 := rfl
 refine fun_ofw Tryz.func50 (by kernel_rfl) (by kernel_rfl) (w := (.br (.leaf () []) (.leaf () []), ((decide (a < b)) = true → (.v (vI a) : S) = .v (vI (min a b)) ∧ ([] : List Blk) = []) ∧ ((decide (a < b)) = false → (.v (vI b) : S) = .v (vI (min a b)) ∧ ([] : List Blk) = []))) (by kernel_rfl) ?_
 refine dsp (fun h1 p1 => ?_) fun h1 p1 => ?_
 exact ⟨(congrArg S.v (congrArg V.c (congrArg (C.int .i64) (by omega)))), rfl⟩
 exact ⟨(congrArg S.v (congrArg V.c (congrArg (C.int .i64) (by omega)))), rfl⟩
theorem l1max (a : Int) (b : Int) : Fun Tryz.prog 124 [vI a, vI b] [] (.v (vI (max a b))) [] := by
 have hN : bigN = 274877906944 := rfl
 refine fun_ofw Tryz.func124 (by kernel_rfl) (by kernel_rfl) (w := (.br (.leaf () []) (.leaf () []), ((decide (b < a)) = true → (.v (vI a) : S) = .v (vI (max a b)) ∧ ([] : List Blk) = []) ∧ ((decide (b < a)) = false → (.v (vI b) : S) = .v (vI (max a b)) ∧ ([] : List Blk) = []))) (by kernel_rfl) ?_
 refine dsp (fun h1 p1 => ?_) fun h1 p1 => ?_
 exact ⟨(congrArg S.v (congrArg V.c (congrArg (C.int .i64) (by omega)))), rfl⟩
 exact ⟨(congrArg S.v (congrArg V.c (congrArg (C.int .i64) (by omega)))), rfl⟩
theorem numberOk_i (n : Int) : Fun Tryz.prog 142 [vI n] [] (.v (vB (numberOk n))) [] := by
 have hN : bigN = 274877906944 := rfl
 refine fun_ofw Tryz.func142 (by kernel_rfl) (by kernel_rfl) (w := let z1 := within n 1 536870911; let z2 := within n 19000 19999; (.seg [.call [] (.v (vB z1)) []] (.br (.seg [.call [] (.v (vB z2)) []] (.leaf () [])) (.leaf () [])), (Fun Tryz.prog 43 [vI n, vI 1, vI 536870911] [] (.v (vB z1)) []) ∧ (z1 = true → (Fun Tryz.prog 43 [vI n, vI 19000, vI 19999] [] (.v (vB z2)) []) ∧ (.v (vB (!z2)) : S) = .v (vB (numberOk n)) ∧ ([] : List Blk) = []) ∧ (z1 = false → (.v (vB false) : S) = .v (vB (numberOk n)) ∧ ([] : List Blk) = []))) (by kernel_rfl) ?_
 refine ⟨(within_i _ _ _), fun h1 => have p1 := within_t h1; ?_, fun h1 => have p1 := within_f h1; ?_⟩
 exact ⟨(within_i _ _ _), (congrArg S.v (congrArg V.c (congrArg C.bool (by simp [numberOk, *])))), rfl⟩
 exact ⟨(congrArg S.v (congrArg V.c (congrArg C.bool (by simp [numberOk, *])))), rfl⟩
theorem numberOk_s (n : Int) : Fun Tryz.prog 140 [vI n] [] (.v (vB (numberOk n))) [] := by
 have hN : bigN = 274877906944 := rfl
 refine fun_ofw Tryz.func140 (by kernel_rfl) (by kernel_rfl) (w := let z1 := within n 1 536870911; let z2 := within n 19000 19999; (.seg [.call [] (.v (vB z1)) []] (.br (.seg [.call [] (.v (vB z2)) []] (.leaf () [])) (.leaf () [])), (Fun Tryz.prog 45 [vI n, vI 1, vI 536870911] [] (.v (vB z1)) []) ∧ (z1 = true → (Fun Tryz.prog 45 [vI n, vI 19000, vI 19999] [] (.v (vB z2)) []) ∧ (.v (vB (!z2)) : S) = .v (vB (numberOk n)) ∧ ([] : List Blk) = []) ∧ (z1 = false → (.v (vB false) : S) = .v (vB (numberOk n)) ∧ ([] : List Blk) = []))) (by kernel_rfl) ?_
 refine ⟨(within_s _ _ _), fun h1 => have p1 := within_t h1; ?_, fun h1 => have p1 := within_f h1; ?_⟩
 exact ⟨(within_s _ _ _), (congrArg S.v (congrArg V.c (congrArg C.bool (by simp [numberOk, *])))), rfl⟩
 exact ⟨(congrArg S.v (congrArg V.c (congrArg C.bool (by simp [numberOk, *])))), rfl⟩
theorem wireOk_i (w : Int) : Fun Tryz.prog 77 [vI w] [] (.v (vB (wireOk w))) [] := by
 have hN : bigN = 274877906944 := rfl
 refine fun_ofw Tryz.func77 (by kernel_rfl) (by kernel_rfl) (w := let z1 := vB (wireOk w); let z2 := ([] : List Blk); let z3 := (.v (vB true) : S); (.br (.leaf () []) (.br (.leaf () []) (.br (.leaf () []) (.leaf () []))), ((decide (w = 0)) = true → z3 = .v z1 ∧ z2 = []) ∧ ((decide (w = 0)) = false → ((decide (w = 1)) = true → z3 = .v z1 ∧ z2 = []) ∧ ((decide (w = 1)) = false → ((decide (w = 2)) = true → z3 = .v z1 ∧ z2 = []) ∧ ((decide (w = 2)) = false → (.v (vB (decide (w = 5))) : S) = .v z1 ∧ z2 = []))))) (by kernel_rfl) ?_
 refine dsp (fun h1 p1 => ?_) fun h1 p1 => ?_
 exact ⟨(congrArg S.v (congrArg V.c (congrArg C.bool (by simp [wireOk, *])))), rfl⟩
 refine dsp (fun h2 p2 => ?_) fun h2 p2 => ?_
 exact ⟨(congrArg S.v (congrArg V.c (congrArg C.bool (by simp [wireOk, *])))), rfl⟩
 refine dsp (fun h3 p3 => ?_) fun h3 p3 => ?_
 exact ⟨(congrArg S.v (congrArg V.c (congrArg C.bool (by simp [wireOk, *])))), rfl⟩
 exact ⟨(congrArg S.v (congrArg V.c (congrArg C.bool (by simp [wireOk, *])))), rfl⟩
theorem wireOk_s (w : Int) : Fun Tryz.prog 86 [vI w] [] (.v (vB (wireOk w))) [] := by
 have hN : bigN = 274877906944 := rfl
 refine fun_ofw Tryz.func86 (by kernel_rfl) (by kernel_rfl) (w := let z1 := vB (wireOk w); let z2 := ([] : List Blk); let z3 := (.v (vB true) : S); (.br (.leaf () []) (.br (.leaf () []) (.br (.leaf () []) (.leaf () []))), ((decide (w = 0)) = true → z3 = .v z1 ∧ z2 = []) ∧ ((decide (w = 0)) = false → ((decide (w = 1)) = true → z3 = .v z1 ∧ z2 = []) ∧ ((decide (w = 1)) = false → ((decide (w = 2)) = true → z3 = .v z1 ∧ z2 = []) ∧ ((decide (w = 2)) = false → (.v (vB (decide (w = 5))) : S) = .v z1 ∧ z2 = []))))) (by kernel_rfl) ?_
 refine dsp (fun h1 p1 => ?_) fun h1 p1 => ?_
 exact ⟨(congrArg S.v (congrArg V.c (congrArg C.bool (by simp [wireOk, *])))), rfl⟩
 refine dsp (fun h2 p2 => ?_) fun h2 p2 => ?_
 exact ⟨(congrArg S.v (congrArg V.c (congrArg C.bool (by simp [wireOk, *])))), rfl⟩
 refine dsp (fun h3 p3 => ?_) fun h3 p3 => ?_
 exact ⟨(congrArg S.v (congrArg V.c (congrArg C.bool (by simp [wireOk, *])))), rfl⟩
 exact ⟨(congrArg S.v (congrArg V.c (congrArg C.bool (by simp [wireOk, *])))), rfl⟩
theorem kindOk_i (k : Int) : Fun Tryz.prog 143 [vI k] [] (.v (vB (kindOk k))) [] := by
 have hN : bigN = 274877906944 := rfl
 refine fun_ofw Tryz.func143 (by kernel_rfl) (by kernel_rfl) (w := let z1 := vB (within k 1 8); (.seg [.call [] (.v z1) []] (.leaf () []), (Fun Tryz.prog 43 [vI k, vI 1, vI 8] [] (.v z1) []) ∧ (.v z1 : S) = .v (vB (kindOk k)) ∧ ([] : List Blk) = [])) (by kernel_rfl) ?_
 exact ⟨(within_i _ _ _), (congrArg S.v (congrArg V.c (congrArg C.bool (by rfl)))), rfl⟩
theorem kindOk_s (k : Int) : Fun Tryz.prog 135 [vI k] [] (.v (vB (kindOk k))) [] := by
 have hN : bigN = 274877906944 := rfl
 refine fun_ofw Tryz.func135 (by kernel_rfl) (by kernel_rfl) (w := let z1 := vB (within k 1 8); (.seg [.call [] (.v z1) []] (.leaf () []), (Fun Tryz.prog 45 [vI k, vI 1, vI 8] [] (.v z1) []) ∧ (.v z1 : S) = .v (vB (kindOk k)) ∧ ([] : List Blk) = [])) (by kernel_rfl) ?_
 exact ⟨(within_s _ _ _), (congrArg S.v (congrArg V.c (congrArg C.bool (by rfl)))), rfl⟩
theorem numeric_i (k : Int) : Fun Tryz.prog 130 [vI k] [] (.v (vB (numeric k))) [] := by
 have hN : bigN = 274877906944 := rfl
 refine fun_ofw Tryz.func130 (by kernel_rfl) (by kernel_rfl) (w := let z1 := vB (within k 1 5); (.seg [.call [] (.v z1) []] (.leaf () []), (Fun Tryz.prog 43 [vI k, vI 1, vI 5] [] (.v z1) []) ∧ (.v z1 : S) = .v (vB (numeric k)) ∧ ([] : List Blk) = [])) (by kernel_rfl) ?_
 exact ⟨(within_i _ _ _), (congrArg S.v (congrArg V.c (congrArg C.bool (by rfl)))), rfl⟩
theorem numeric_s (k : Int) : Fun Tryz.prog 141 [vI k] [] (.v (vB (numeric k))) [] := by
 have hN : bigN = 274877906944 := rfl
 refine fun_ofw Tryz.func141 (by kernel_rfl) (by kernel_rfl) (w := let z1 := vB (within k 1 5); (.seg [.call [] (.v z1) []] (.leaf () []), (Fun Tryz.prog 45 [vI k, vI 1, vI 5] [] (.v z1) []) ∧ (.v z1 : S) = .v (vB (numeric k)) ∧ ([] : List Blk) = [])) (by kernel_rfl) ?_
 exact ⟨(within_s _ _ _), (congrArg S.v (congrArg V.c (congrArg C.bool (by rfl)))), rfl⟩
theorem wireOf_i (k : Int) : Fun Tryz.prog 128 [vI k] [] (.v (vI (wireOf k))) [] := by
 have hN : bigN = 274877906944 := rfl
 refine fun_ofw Tryz.func128 (by kernel_rfl) (by kernel_rfl) (w := let zi : Int → C := .int .i64; let z1 := List.getD [0, 0, 0, 5, 1, 2, 2, 2] (Int.toNat (k - 1)) 0; (.seg [.call [] (.v (vB (kindOk k))) []] (.br (.leaf () []) (.seg [.as 8 (.v (vI (k - 1))), .ce (zi z1)] (.leaf () []))), (Fun Tryz.prog 143 [vI k] [] (.v (vB (kindOk k))) []) ∧ ((!(kindOk k)) = true → (.v (vI (-1)) : S) = .v (vI (wireOf k)) ∧ ([] : List Blk) = []) ∧ ((!(kindOk k)) = false → ((.v (vI (IntKind.i64.wrap (k - 1))) : S) = .v (vI (k - 1))) ∧ ((([zi 0, zi 0, zi 0, zi 5, zi 1, zi 2, zi 2, zi 2] : List C)[Int.toNat (k - 1)]?) = some (zi z1)) ∧ (k - 1 < ((8 : Nat) : Int)) ∧ ((0 : Int) ≤ k - 1) ∧ (.v (vI z1) : S) = .v (vI (wireOf k)) ∧ ([] : List Blk) = []))) (by kernel_rfl) ?_
 refine ⟨(kindOk_i _), fun h1 => have q1 := bnot_t h1; have p1 := within_f q1; ?_, fun h1 => have q1 := bnot_f h1; have p1 := within_t q1; ?_⟩
 refine ⟨(sI ?_), rfl⟩
 rotate_left
 refine ⟨(as_i64 (by omega) (by omega)), (ce_int (l := [0, 0, 0, 5, 1, 2, 2, 2]) (by simp; omega)), (by omega), (by omega), (sI ?_), rfl⟩
 rotate_left
 all_goals first | (simp [wireOf, *]; done) | (rcases (show k = 1 ∨ k = 2 ∨ k = 3 ∨ k = 4 ∨ k = 5 ∨ k = 6 ∨ k = 7 ∨ k = 8 by omega) with rfl | rfl | rfl | rfl | rfl | rfl | rfl | rfl <;> rfl)
theorem wireOf_s (k : Int) : Fun Tryz.prog 103 [vI k] [] (.v (vI (wireOf k))) [] := by
 have hN : bigN = 274877906944 := rfl
 refine fun_ofw Tryz.func103 (by kernel_rfl) (by kernel_rfl) (w := let z1 := vI (wireOf k); let z2 := ([] : List Blk); (.seg [.call [] (.v (vB (kindOk k))) []] (.br (.leaf () []) (.br (.leaf () []) (.br (.leaf () []) (.seg [.call [] (.v (vB (numeric k))) []] (.br (.leaf () []) (.leaf () [])))))), (Fun Tryz.prog 135 [vI k] [] (.v (vB (kindOk k))) []) ∧ ((!(kindOk k)) = true → (.v (vI (-1)) : S) = .v z1 ∧ z2 = []) ∧ ((!(kindOk k)) = false → ((decide (k = 4)) = true → (.v (vI 5) : S) = .v z1 ∧ z2 = []) ∧ ((decide (k = 4)) = false → ((decide (k = 5)) = true → (.v (vI 1) : S) = .v z1 ∧ z2 = []) ∧ ((decide (k = 5)) = false → (Fun Tryz.prog 141 [vI k] [] (.v (vB (numeric k))) []) ∧ ((numeric k) = true → (.v (vI 0) : S) = .v z1 ∧ z2 = []) ∧ ((numeric k) = false → (.v (vI 2) : S) = .v z1 ∧ z2 = [])))))) (by kernel_rfl) ?_
 refine ⟨(kindOk_s _), fun h1 => have q1 := bnot_t h1; have p1 := within_f q1; ?_, fun h1 => have q1 := bnot_f h1; have p1 := within_t q1; ?_⟩
 refine ⟨(sI ?_), rfl⟩
 rotate_left
 refine dsp (fun h2 p2 => ?_) fun h2 p2 => ?_
 refine ⟨(sI ?_), rfl⟩
 rotate_left
 refine dsp (fun h3 p3 => ?_) fun h3 p3 => ?_
 refine ⟨(sI ?_), rfl⟩
 rotate_left
 refine ⟨(numeric_s _), fun h4 => have p4 := within_t h4; ?_, fun h4 => have p4 := within_f h4; ?_⟩
 refine ⟨(sI ?_), rfl⟩
 rotate_left
 refine ⟨(sI ?_), rfl⟩
 rotate_left
 all_goals first | (simp [wireOf, *] <;> (repeat' split) <;> omega) | (subst_vars; rfl)
theorem widthOf_i (w : Int) : Fun Tryz.prog 133 [vI w] [] (.v (vI (widthOf w))) [] := by
 have hN : bigN = 274877906944 := rfl
 refine fun_ofw Tryz.func133 (by kernel_rfl) (by kernel_rfl) (w := (.br (.leaf () []) (.br (.leaf () []) (.leaf () [])), ((decide (w = 1)) = true → (.v (vI 8) : S) = .v (vI (widthOf w)) ∧ ([] : List Blk) = []) ∧ ((decide (w = 1)) = false → ((decide (w = 5)) = true → (.v (vI 4) : S) = .v (vI (widthOf w)) ∧ ([] : List Blk) = []) ∧ ((decide (w = 5)) = false → (.v (vI 0) : S) = .v (vI (widthOf w)) ∧ ([] : List Blk) = [])))) (by kernel_rfl) ?_
 refine dsp (fun h1 p1 => ?_) fun h1 p1 => ?_
 exact ⟨(congrArg S.v (congrArg V.c (congrArg (C.int .i64) (by simp [widthOf, *])))), rfl⟩
 refine dsp (fun h2 p2 => ?_) fun h2 p2 => ?_
 exact ⟨(congrArg S.v (congrArg V.c (congrArg (C.int .i64) (by simp [widthOf, *])))), rfl⟩
 exact ⟨(congrArg S.v (congrArg V.c (congrArg (C.int .i64) (by simp [widthOf, *])))), rfl⟩
theorem widthOf_s (w : Int) : Fun Tryz.prog 119 [vI w] [] (.v (vI (widthOf w))) [] := by
 have hN : bigN = 274877906944 := rfl
 refine fun_ofw Tryz.func119 (by kernel_rfl) (by kernel_rfl) (w := (.br (.leaf () []) (.br (.leaf () []) (.leaf () [])), ((decide (w = 1)) = true → (.v (vI 8) : S) = .v (vI (widthOf w)) ∧ ([] : List Blk) = []) ∧ ((decide (w = 1)) = false → ((decide (w = 5)) = true → (.v (vI 4) : S) = .v (vI (widthOf w)) ∧ ([] : List Blk) = []) ∧ ((decide (w = 5)) = false → (.v (vI 0) : S) = .v (vI (widthOf w)) ∧ ([] : List Blk) = [])))) (by kernel_rfl) ?_
 refine dsp (fun h1 p1 => ?_) fun h1 p1 => ?_
 exact ⟨(congrArg S.v (congrArg V.c (congrArg (C.int .i64) (by simp [widthOf, *])))), rfl⟩
 refine dsp (fun h2 p2 => ?_) fun h2 p2 => ?_
 exact ⟨(congrArg S.v (congrArg V.c (congrArg (C.int .i64) (by simp [widthOf, *])))), rfl⟩
 exact ⟨(congrArg S.v (congrArg V.c (congrArg (C.int .i64) (by simp [widthOf, *])))), rfl⟩
theorem runs_i (f : Fld) : Fun Tryz.prog 129 [.agg (cFld f)] [] (.v (vB (runs f))) [] := by
 have hN : bigN = 274877906944 := rfl
 refine fun_ofw Tryz.func129 (by kernel_rfl) (by kernel_rfl) (w := let z1 := vB (numeric f.kind); (.br (.seg [.call [] (.v z1) []] (.leaf () [])) (.leaf () []), (f.rep = true → (Fun Tryz.prog 130 [vI f.kind] [] (.v z1) []) ∧ (.v z1 : S) = .v (vB (runs f)) ∧ ([] : List Blk) = []) ∧ (f.rep = false → (.v (vB false) : S) = .v (vB (runs f)) ∧ ([] : List Blk) = []))) (by kernel_rfl) ?_
 refine ⟨fun h1 => ?_, fun h1 => ?_⟩
 exact ⟨(numeric_i _), (congrArg S.v (congrArg V.c (congrArg C.bool (by simp [runs, *])))), rfl⟩
 exact ⟨(congrArg S.v (congrArg V.c (congrArg C.bool (by simp [runs, *])))), rfl⟩
theorem runs_s (f : Fld) : Fun Tryz.prog 122 [.agg (cFld f)] [] (.v (vB (runs f))) [] := by
 have hN : bigN = 274877906944 := rfl
 refine fun_ofw Tryz.func122 (by kernel_rfl) (by kernel_rfl) (w := let z1 := vB (numeric f.kind); (.br (.seg [.call [] (.v z1) []] (.leaf () [])) (.leaf () []), (f.rep = true → (Fun Tryz.prog 141 [vI f.kind] [] (.v z1) []) ∧ (.v z1 : S) = .v (vB (runs f)) ∧ ([] : List Blk) = []) ∧ (f.rep = false → (.v (vB false) : S) = .v (vB (runs f)) ∧ ([] : List Blk) = []))) (by kernel_rfl) ?_
 refine ⟨fun h1 => ?_, fun h1 => ?_⟩
 exact ⟨(numeric_s _), (congrArg S.v (congrArg V.c (congrArg C.bool (by simp [runs, *])))), rfl⟩
 exact ⟨(congrArg S.v (congrArg V.c (congrArg C.bool (by simp [runs, *])))), rfl⟩
theorem allowed_i (f : Fld) (w : Int) (hp1 : (0 : Int) ≤ w) : Fun Tryz.prog 78 [.agg (cFld f), vI w] [] (.v (vB (allowed f w))) [] := by
 have hN : bigN = 274877906944 := rfl
 refine fun_ofw Tryz.func78 (by kernel_rfl) (by kernel_rfl) (w := let z1 := vB (allowed f w); (.seg [.call [] (.v (vI (wireOf f.kind))) []] (.br (.leaf () []) (.br (.seg [.call [] (.v (vB (runs f))) []] (.leaf () [])) (.leaf () []))), (Fun Tryz.prog 128 [vI f.kind] [] (.v (vI (wireOf f.kind))) []) ∧ ((decide (w = wireOf f.kind)) = true → (.v (vB true) : S) = .v z1 ∧ ([] : List Blk) = []) ∧ ((decide (w = wireOf f.kind)) = false → ((decide (w = 2)) = true → (Fun Tryz.prog 129 [.agg (cFld f)] [] (.v (vB (runs f))) []) ∧ (.v (vB (runs f)) : S) = .v z1 ∧ ([] : List Blk) = []) ∧ ((decide (w = 2)) = false → (.v (vB false) : S) = .v z1 ∧ ([] : List Blk) = [])))) (by kernel_rfl) ?_
 refine ⟨(wireOf_i _), dsp (fun h1 p1 => ?_) fun h1 p1 => ?_⟩
 refine ⟨(sB ?_), rfl⟩
 rotate_left
 refine dsp (fun h2 p2 => ?_) fun h2 p2 => ?_
 refine ⟨(runs_i f), (sB ?_), rfl⟩
 rotate_left
 refine ⟨(sB ?_), rfl⟩
 rotate_left
 all_goals first | (simp [allowed, *] <;> (repeat' split) <;> omega) | (simp [allowed, wireOf, *] <;> (repeat' split) <;> omega)
theorem allowed_s (f : Fld) (w : Int) (hp1 : (0 : Int) ≤ w) : Fun Tryz.prog 87 [.agg (cFld f), vI w] [] (.v (vB (allowed f w))) [] := by
 have hN : bigN = 274877906944 := rfl
 refine fun_ofw Tryz.func87 (by kernel_rfl) (by kernel_rfl) (w := let z2 := vB (runs f); let z3 := vB (allowed f w); let z4 := kindOk f.kind; let z5 := ([] : List Blk); let z1 := (decide (w = 2)) = false → (.v (vB false) : S) = .v z3 ∧ z5 = []; (.seg [.call [] (.v (vB z4)) []] (.br (.seg [.call [] (.v (vI (wireOf f.kind))) []] (.br (.leaf () []) (.br (.seg [.call [] (.v z2) []] (.leaf () [])) (.leaf () [])))) (.br (.seg [.call [] (.v z2) []] (.leaf () [])) (.leaf () []))), (Fun Tryz.prog 135 [vI f.kind] [] (.v (vB z4)) []) ∧ (z4 = true → (Fun Tryz.prog 103 [vI f.kind] [] (.v (vI (wireOf f.kind))) []) ∧ ((decide (w = wireOf f.kind)) = true → (.v (vB true) : S) = .v z3 ∧ z5 = []) ∧ ((decide (w = wireOf f.kind)) = false → ((decide (w = 2)) = true → (Fun Tryz.prog 122 [.agg (cFld f)] [] (.v z2) []) ∧ (.v z2 : S) = .v z3 ∧ z5 = []) ∧ z1)) ∧ (z4 = false → ((decide (w = 2)) = true → (Fun Tryz.prog 122 [.agg (cFld f)] [] (.v z2) []) ∧ (.v z2 : S) = .v z3 ∧ z5 = []) ∧ z1))) (by kernel_rfl) ?_
 refine ⟨(kindOk_s _), fun h1 => have p1 := within_t h1; ?_, fun h1 => have p1 := within_f h1; ?_⟩
 refine ⟨(wireOf_s _), dsp (fun h2 p2 => ?_) fun h2 p2 => ?_⟩
 refine ⟨(sB ?_), rfl⟩
 rotate_left
 refine dsp (fun h3 p3 => ?_) fun h3 p3 => ?_
 refine ⟨(runs_s f), (sB ?_), rfl⟩
 rotate_left
 refine ⟨(sB ?_), rfl⟩
 rotate_left
 refine dsp (fun h2 p2 => ?_) fun h2 p2 => ?_
 refine ⟨(runs_s f), (sB ?_), rfl⟩
 rotate_left
 refine ⟨(sB ?_), rfl⟩
 rotate_left
 all_goals first | (simp [allowed, *] <;> (repeat' split) <;> omega) | (simp [allowed, wireOf, *] <;> (repeat' split) <;> omega)
structure putVar_s_V0 where
 u : Int
 out : List Int
def putVar_s_F0 (u : Int) : Fam := ⟨putVar_s_V0, fun q1 => [(0, .v (.c (.int .u64 q1.u))), (3, .v (vO 0))], fun q1 => [.lst .u8 q1.out], fun q1 => (0 : Int) ≤ q1.u ∧ q1.u ≤ 18446744073709551615 ∧ List.map toByte q1.out ++ putVar q1.u = putVar u ∧ q1.out.length + List.length (putVar q1.u) ≤ 10, fun q1 => q1.u.toNat⟩
theorem putVar_s (u : Int) (hp1 : (0 : Int) ≤ u ∧ u ≤ 18446744073709551615) : Fun Tryz.prog 54 [.c (.int .u64 u)] [] (.v (vT (putVar u))) [] := by
 have hN : bigN = 274877906944 := rfl
 refine fun_ofw Tryz.func54 (by kernel_rfl) (by kernel_rfl) (w := let z2 := putVar_s_F0 u; (.seg [.ty .u8, .at 0, .keep [0, 3], .sel [0]] (.loop z2 fun q1 => .br (.seg [.as 9 (.v (.c (.int .u64 (q1.u % 128)))), .as 10 (.v (.c (.int .u64 (q1.u % 128 + 128)))), .as 11 (.v (.c (.int .u8 (q1.u % 128 + 128)))), .ty .u8, .ty .u8, .as 15 (.v (.c (.int .u64 (q1.u / 128)))), .at 0, .keep [0, 3], .sel [2]] (.next)) (.seg [.as 18 (.v (.c (.int .u8 q1.u))), .ty .u8, .ty .u8] (.leaf () []))), z2.Has [(0, .v (.c (.int .u64 u))), (3, .v (vO 0))] [.lst .u8 ([] : List Int)] ∧ ∀ q1, z2.inv q1 → (let z1 := q1.u % 128 + 128; ((decide (127 < q1.u)) = true → ((128 : Int) ≠ 0) ∧ ((.v (.c (.int .u64 (Int.tmod q1.u 128))) : S) = .v (.c (.int .u64 (q1.u % 128)))) ∧ ((.v (.c (.int .u64 (IntKind.u64.wrap ((q1.u % 128) + 128)))) : S) = .v (.c (.int .u64 z1))) ∧ ((.v (.c (.int .u8 (IntKind.u8.wrap z1))) : S) = .v (.c (.int .u8 z1))) ∧ (q1.out.length + List.length [q1.u % 128 + 128] ≤ bigN) ∧ ((128 : Int) ≠ 0) ∧ ((.v (.c (.int .u64 (IntKind.u64.wrap (Int.tdiv q1.u 128)))) : S) = .v (.c (.int .u64 (q1.u / 128)))) ∧ z2.Nxt q1 [(0, .v (.c (.int .u64 (q1.u / 128)))), (3, .v (vO 0))] [.lst .u8 (q1.out ++ [q1.u % 128 + 128])]) ∧ ((decide (127 < q1.u)) = false → ((.v (.c (.int .u8 (IntKind.u8.wrap (q1.u)))) : S) = .v (.c (.int .u8 q1.u))) ∧ (q1.out.length + List.length [q1.u] ≤ bigN) ∧ (.v (vT (List.map toByte (q1.out ++ [q1.u]))) : S) = .v (vT (putVar u)) ∧ ([] : List Blk) = [])))) (by kernel_rfl) ?_
 refine ⟨has_of (j := (⟨u, ([] : List Int)⟩ : putVar_s_V0)) rfl rfl (by dsimp only [putVar_s_F0]; exact ⟨by omega, by omega, by simp, by have := varLen_b (u := u) (by omega); unfold varLen at this; simp; omega⟩), fun (q1 : putVar_s_V0) hq_q1 => ?_⟩
 have hi_q1 : (0 : Int) ≤ q1.u ∧ q1.u ≤ 18446744073709551615 ∧ List.map toByte q1.out ++ putVar q1.u = putVar u ∧ q1.out.length + List.length (putVar q1.u) ≤ 10 := hq_q1
 obtain ⟨v1, v2, v3, v4⟩ := hi_q1
 refine dsp (fun h1 p1 => ?_) fun h1 p1 => ?_
 exact ⟨(by decide), (as_tmod (by omega)), (as_u64 (by omega) (by omega)), (as_u8 (by omega) (by omega)), (by have := putVar_pos q1.u; simp; omega), (by decide), (as_tdiv_u64 (by omega) (by omega) (by decide)), nxt_of (j := (⟨q1.u / 128, q1.out ++ [q1.u % 128 + 128]⟩ : putVar_s_V0)) rfl rfl (by dsimp only [putVar_s_F0]; exact ⟨by omega, by omega, by rw [← v3, putVar_big (u := q1.u) (by omega) (by omega)]; simp [toByte], by rw [putVar_big (u := q1.u) (by omega) (by omega)] at v4; simp at v4 ⊢; omega⟩) (by dsimp only [putVar_s_F0]; omega)⟩
 refine ⟨(as_u8 (by omega) (by omega)), (by have := putVar_pos q1.u; simp; omega), (congrArg S.v (congrArg V.c (congrArg C.str ?_))), rfl⟩
 rotate_left
 all_goals rw [← v3, putVar_small (u := q1.u) (by omega) (by omega)]; simp [toByte]
structure varLen_i_V0 where
 u : Int
 n : Int
def varLen_i_F0 (u : Int) : Fam := ⟨varLen_i_V0, fun q1 => [(0, .v (.c (.int .u64 q1.u))), (3, .v (vI q1.n))], fun _ => [], fun q1 => (0 : Int) ≤ q1.u ∧ q1.u ≤ 18446744073709551615 ∧ ((List.length (putVar q1.u) : Nat) : Int) + q1.n = varLen u + 1 ∧ 1 ≤ q1.n, fun q1 => q1.u.toNat⟩
theorem varLen_i (u : Int) (hp1 : (0 : Int) ≤ u ∧ u ≤ 18446744073709551615) : Fun Tryz.prog 65 [.c (.int .u64 u)] [] (.v (vI (varLen u))) [] := by
 have hN : bigN = 274877906944 := rfl
 refine fun_ofw Tryz.func65 (by kernel_rfl) (by kernel_rfl) (w := let z1 := varLen_i_F0 u; (.seg [.at 0, .keep [0, 3], .sel []] (.loop z1 fun q1 => .br (.seg [.as 9 (.v (vI (q1.n + 1))), .as 7 (.v (.c (.int .u64 (q1.u / 128)))), .at 0, .keep [0, 3], .sel []] (.next)) (.leaf () [])), z1.Has [(0, .v (.c (.int .u64 u))), (3, .v (vI 1))] [] ∧ ∀ q1, z1.inv q1 → (((decide (127 < q1.u)) = true → ((.v (vI (IntKind.i64.wrap (q1.n + 1))) : S) = .v (vI (q1.n + 1))) ∧ ((0 : Int) ≤ 7) ∧ ((.v (.c (.int .u64 (Int.fdiv q1.u (2 ^ 7)))) : S) = .v (.c (.int .u64 (q1.u / 128)))) ∧ z1.Nxt q1 [(0, .v (.c (.int .u64 (q1.u / 128)))), (3, .v (vI (q1.n + 1)))] []) ∧ ((decide (127 < q1.u)) = false → (.v (vI q1.n) : S) = .v (vI (varLen u)) ∧ ([] : List Blk) = [])))) (by kernel_rfl) ?_
 refine ⟨has_of (j := (⟨u, 1⟩ : varLen_i_V0)) rfl rfl (by dsimp only [varLen_i_F0]; exact ⟨by omega, by omega, by unfold varLen; omega, by omega⟩), fun (q1 : varLen_i_V0) hq_q1 => ?_⟩
 have hi_q1 : (0 : Int) ≤ q1.u ∧ q1.u ≤ 18446744073709551615 ∧ ((List.length (putVar q1.u) : Nat) : Int) + q1.n = varLen u + 1 ∧ 1 ≤ q1.n := hq_q1
 obtain ⟨v1, v2, v3, v4⟩ := hi_q1
 have hb := varLen_b (u := u) (by omega)
 have hc := putVar_pos q1.u
 refine dsp (fun h1 p1 => ?_) fun h1 p1 => ?_
 exact ⟨(as_i64 (by omega) (by omega)), (by decide), (as_shr (k := 7) (by decide) (by decide)), nxt_of (j := (⟨q1.u / 128, q1.n + 1⟩ : varLen_i_V0)) rfl rfl (by dsimp only [varLen_i_F0]; exact ⟨by omega, by omega, by rw [putVar_big (u := q1.u) (by omega) (by omega)] at v3; simp at v3 ⊢; omega, by omega⟩) (by dsimp only [varLen_i_F0]; omega)⟩
 refine ⟨(sI ?_), rfl⟩
 rotate_left
 all_goals rw [putVar_small (u := q1.u) (by omega) (by omega)] at v3; simp at v3; omega
structure padVar_i_V0 where
 u : Int
 out : List Int
 v : Nat
def padVar_i_F0 (u : Int) : Fam := ⟨padVar_i_V0, fun q1 => [(0, .v (.c (.int .u64 q1.u))), (1, .v (vI (varLen u))), (5, .v (vO 0)), (15, .v (vI (varLen u))), (16, .v (vI (q1.v : Int)))], fun q1 => [.lst .u8 q1.out], fun q1 => q1.v ≤ (List.length (putVar u)) ∧ q1.out.length = (List.length (putVar u)) ∧ List.take q1.v q1.out = List.take q1.v (padL (u.toNat) (List.length (putVar u))) ∧ q1.u = ((u.toNat / 128 ^ q1.v : Nat) : Int), fun q1 => (List.length (putVar u)) - q1.v⟩
theorem padVar_i (u : Int) (hp1 : (0 : Int) ≤ u ∧ u ≤ 18446744073709551615) : Fun Tryz.prog 64 [.c (.int .u64 u), vI (varLen u)] [] (.v (vT (putVar u))) [] := by
 have hN : bigN = 274877906944 := rfl
 have hb := varLen_b (u := u) (by omega)
 have hl : varLen u = (((putVar u).length : Nat) : Int) := rfl
 refine fun_ofw Tryz.func64 (by kernel_rfl) (by kernel_rfl) (w := let z4 := varLen u; let z5 := varLen u - 1; let z6 := List.replicate (z4.toNat) (0 : Int); let z7 := padVar_i_F0 u; (.seg [.call [] (.v (vI z4)) [], .call [] (.v (vB (within z4 z4 10))) [], .br false, .ty .u8, .as 15 (.v (vI z4)), .at 0, .keep [0, 1, 5, 15, 16], .sel [0]] (.loop z7 fun q1 => .br (.seg [.as 22 (.v (.c (.int .u64 (q1.u % 128)))), .as 23 (.v (.c (.int .u64 ((q1.u % 128) + 128)))), .as 24 (.v (.c (.int .u8 (q1.u % 128 + 128))))] (.intro (fun (x1 : Int) => q1.out[q1.v]? = some x1) fun x1 => .seg [.el .u8 x1, .as 27 (.v (.c (.int .u64 (q1.u / 128)))), .as 28 (.v (vI ((q1.v : Int) + 1))), .at 0, .keep [0, 1, 5, 15, 16], .sel [0]] (.next))) (.seg [.as 31 (.v (vI z5))] (.intro (fun (x1 : Int) => q1.out[z5.toNat]? = some x1) fun x1 => .seg [.el .u8 x1, .as 34 (.v (.c (.int .u8 (x1 % 128)))), .el .u8 x1] (.leaf () [])))), (Fun Tryz.prog 65 [.c (.int .u64 u)] [] (.v (vI z4)) []) ∧ (Fun Tryz.prog 43 [vI z4, vI z4, vI 10] [] (.v (vB (within z4 z4 10))) []) ∧ ((!(within z4 z4 10)) = false) ∧ (varLen u ≤ 9223372036854775807) ∧ (((1 : Nat) : Int) * z4 ≤ 281474976710656) ∧ (varLen u ≤ varLen u) ∧ ((0 : Int) ≤ varLen u) ∧ ((.v (vI (z6.length : Int)) : S) = .v (vI z4)) ∧ z7.Has [(0, .v (.c (.int .u64 u))), (1, .v (vI z4)), (5, .v (vO 0)), (15, .v (vI z4)), (16, .v (vI 0))] [.lst .u8 z6] ∧ ∀ q1, z7.inv q1 → (let z2 := (q1.v : Int); let z3 := (q1.out.length : Int); ((decide (z2 < varLen u)) = true → ((.v (.c (.int .u64 (IntKind.u64.wrap (((BitVec.ofInt 64 q1.u &&& BitVec.ofInt 64 127).toNat : Nat))))) : S) = .v (.c (.int .u64 (q1.u % 128)))) ∧ ((.v (.c (.int .u64 (IntKind.u64.wrap (((BitVec.ofInt 64 (q1.u % 128) ||| BitVec.ofInt 64 128).toNat : Nat))))) : S) = .v (.c (.int .u64 ((q1.u % 128) + 128)))) ∧ ((.v (.c (.int .u8 (IntKind.u8.wrap ((q1.u % 128) + 128)))) : S) = .v (.c (.int .u8 (q1.u % 128 + 128)))) ∧ (∃ (x1 : Int), q1.out[q1.v]? = some x1) ∧ ∀ (x1 : Int), (q1.out[q1.v]? = some x1) → ((z2 < z3) ∧ ((0 : Int) ≤ z2) ∧ (q1.out[q1.v]? = some x1) ∧ ((0 : Int) ≤ 7) ∧ ((.v (.c (.int .u64 (Int.fdiv q1.u (2 ^ 7)))) : S) = .v (.c (.int .u64 (q1.u / 128)))) ∧ ((.v (vI (IntKind.i64.wrap (z2 + 1))) : S) = .v (vI (z2 + 1))) ∧ z7.Nxt q1 [(0, .v (.c (.int .u64 (q1.u / 128)))), (1, .v (vI z4)), (5, .v (vO 0)), (15, .v (vI z4)), (16, .v (vI (z2 + 1)))] [.lst .u8 (List.set q1.out q1.v (q1.u % 128 + 128))])) ∧ ((decide (z2 < varLen u)) = false → ((.v (vI (IntKind.i64.wrap (z4 - 1))) : S) = .v (vI z5)) ∧ (∃ (x1 : Int), q1.out[z5.toNat]? = some x1) ∧ ∀ (x1 : Int), (q1.out[z5.toNat]? = some x1) → (let z1 := q1.out[z5.toNat]? = some x1; (varLen u - 1 < z3) ∧ ((0 : Int) ≤ varLen u - 1) ∧ z1 ∧ ((.v (.c (.int .u8 (IntKind.u8.wrap (((BitVec.ofInt 8 x1 &&& BitVec.ofInt 8 127).toNat : Nat))))) : S) = .v (.c (.int .u8 (x1 % 128)))) ∧ (varLen u - 1 < z3) ∧ ((0 : Int) ≤ varLen u - 1) ∧ z1 ∧ (.v (vT (List.map toByte (List.set q1.out (z5.toNat) (x1 % 128)))) : S) = .v (vT (putVar u)) ∧ ([] : List Blk) = []))))) (by kernel_rfl) ?_
 refine ⟨(varLen_i _ (by omega)), (within_i _ _ _), (by simp [within]; omega), (by omega), (by omega), (by omega), (by omega), (as_int (by rw [List.length_replicate]; omega)), has_of (j := (⟨u, List.replicate (Int.toNat (varLen u)) (0 : Int), 0⟩ : padVar_i_V0)) (by first | rfl | simp) rfl (by dsimp only [padVar_i_F0]; exact ⟨by omega, by unfold varLen; simp, by simp, by simp; omega⟩), fun (q1 : padVar_i_V0) hq_q1 => ?_⟩
 have hi_q1 : q1.v ≤ (List.length (putVar u)) ∧ q1.out.length = (List.length (putVar u)) ∧ List.take q1.v q1.out = List.take q1.v (padL (u.toNat) (List.length (putVar u))) ∧ q1.u = ((u.toNat / 128 ^ q1.v : Nat) : Int) := hq_q1
 obtain ⟨v1, v2, v3, v4⟩ := hi_q1
 have hb := varLen_b (u := u) (by omega)
 have hu0 : (0 : Int) ≤ q1.u := by rw [v4]; exact Int.natCast_nonneg _
 have hu1 : q1.u ≤ 18446744073709551615 := by rw [v4]; have := Nat.div_le_self (u.toNat) (128 ^ q1.v); omega
 refine dsp (fun h1 p1 => ?_) fun h1 p1 => ?_
 refine ⟨(as_mask_u64 (k := 7) (by decide) (by decide)), (or_128 (by omega) (by omega)), (as_u8 (by omega) (by omega)), (ax_get (l := q1.out) (i := q1.v) (by omega)), fun x1 hx1 => ?_⟩
 exact ⟨(by omega), (by omega), hx1, (by decide), (as_shr (k := 7) (by decide) (by decide)), (as_i64 (by omega) (by omega)), nxt_of (j := (⟨q1.u / 128, List.set q1.out q1.v (q1.u % 128 + 128), q1.v + 1⟩ : padVar_i_V0)) (by first | rfl | simp) rfl (by dsimp only [padVar_i_F0]; exact ⟨by omega, by simp [v2], fill_set v3 (by rw [v2, padL_len]) (by rw [padL_get (by omega), v4]; simp <;> omega), by rw [v4, padU_step]⟩) (by dsimp only [padVar_i_F0]; omega)⟩
 refine ⟨(as_i64 (by omega) (by omega)), (ax_get (l := q1.out) (i := Int.toNat (varLen u - 1)) (by omega)), fun x1 hx1 => ?_⟩
 refine ⟨(by omega), (by omega), ?_⟩
 have hq := fill_done v3 (by rw [v2, padL_len]) (by rw [padL_len]; omega)
 have hxe := hx1
 rw [hq, padL_get (by omega)] at hxe
 have hxe := Option.some.inj hxe
 have hxb : 0 ≤ x1 ∧ x1 ≤ 255 := by rw [← hxe]; omega
 refine ⟨hx1, (mask_u8 (by omega) (by omega)), (by omega), (by omega), hx1, (congrArg S.v (congrArg V.c (congrArg C.str ?_))), rfl⟩
 rotate_left
 all_goals rw [hq] at hx1 ⊢; rw [show Int.toNat (varLen u - 1) = List.length (putVar u) - 1 by omega] at hx1 ⊢; exact padL_fix rfl hx1
theorem putVar_i (u : Int) (hp1 : (0 : Int) ≤ u ∧ u ≤ 18446744073709551615) : Fun Tryz.prog 33 [.c (.int .u64 u)] [] (.v (vT (putVar u))) [] := by
 have hN : bigN = 274877906944 := rfl
 refine fun_ofw Tryz.func33 (by kernel_rfl) (by kernel_rfl) (w := let z1 := vT (putVar u); (.seg [.call [] (.v (vI (varLen u))) [], .call [] (.v z1) []] (.leaf () []), (Fun Tryz.prog 65 [.c (.int .u64 u)] [] (.v (vI (varLen u))) []) ∧ (Fun Tryz.prog 64 [.c (.int .u64 u), vI (varLen u)] [] (.v z1) []) ∧ (.v z1 : S) = .v z1 ∧ ([] : List Blk) = [])) (by kernel_rfl) ?_
 exact ⟨(varLen_i _ (by omega)), (padVar_i _ (by omega)), rfl, rfl⟩
structure varWithin_i_V0 where
 u : Int
 k : Nat
def varWithin_i_F0 (s : List UInt8) (at_ : Int) (end_ : Int) : Fam := ⟨varWithin_i_V0, fun q1 => [(0, .v (vT s)), (1, .v (vI at_)), (2, .v (vI end_)), (9, .v (.c (.int .u64 q1.u))), (10, .v (vI (q1.k : Int)))], fun _ => [], fun q1 => q1.k ≤ 9 ∧ (0 : Int) ≤ q1.u ∧ q1.u < 2 ^ (7 * q1.k) ∧ vwA s at_ end_ (10 - q1.k) (((q1.k : Nat)) : Int) q1.u = varWithin s at_ end_, fun q1 => 10 - q1.k⟩
theorem varWithin_i (s : List UInt8) (at_ : Int) (end_ : Int) (hp1 : s.length ≤ bigN) : Fun Tryz.prog 126 [vT s, vI at_, vI end_] [] (.tup [.c (.int .u64 (varWithin s at_ end_).1), vI (varWithin s at_ end_).2.1, vI (varWithin s at_ end_).2.2]) [] := by
 have hN : bigN = 274877906944 := rfl
 refine fun_ofw Tryz.func126 (by kernel_rfl) (by kernel_rfl) (w := let z9 := varWithin s at_ end_; let z10 := (s.length : Int); let z11 := varWithin_i_F0 s at_ end_; let z12 := ([] : List Blk); let z13 := within at_ 0 z10; let z14 := (.tup [.c (.int .u64 0), vI z10, vI 10] : S); (.seg [.call [] (.v (vB z13)) []] (.br (.leaf () []) (.seg [.at 0, .keep [0, 1, 2, 9, 10], .sel []] (.loop z11 fun q1 => let z6 := (q1.k : Int); .seg [.as 24 (.v (vI (at_ + z6)))] (.br (.leaf () []) (.seg [.as 31 (.v (vI (at_ + z6)))] (.br (.leaf () []) (.br (.seg [.as 44 (.v (vI (at_ + z6)))] (.intro (fun (x1 : UInt8) => s[Int.toNat (at_ + z6)]? = some x1) fun x1 => let z1 := ((UInt8.toNat x1 : Nat) : Int) % 128; .seg [.ch x1] (.br (.seg [.as 50 (.v (vI (at_ + z6)))] (.leaf () [])) (.seg [.as 54 (.v (vI (at_ + z6))), .ch x1, .as 58 (.v (.c (.int .u8 z1))), .as 59 (.v (.c (.int .u64 z1))), .as 61 (.v (vI (7 * z6))), .as 62 (.v (.c (.int .u64 (7 * z6)))), .as 63 (.v (.c (.int .u64 (z1 * 2 ^ (7 * q1.k))))), .as 64 (.v (.c (.int .u64 (q1.u + z1 * 2 ^ (7 * q1.k)))))] (.br (.seg [.as 70 (.v (vI (at_ + z6))), .as 71 (.v (vI (at_ + z6 + 1)))] (.leaf () [])) (.seg [.as 20 (.v (vI (z6 + 1))), .at 0, .keep [0, 1, 2, 9, 10], .sel []] (.next))))))) (.seg [.as 54 (.v (vI (at_ + z6)))] (.intro (fun (x1 : UInt8) => s[Int.toNat (at_ + z6)]? = some x1) fun x1 => let z4 := ((UInt8.toNat x1 : Nat) : Int) % 128; .seg [.ch x1, .as 58 (.v (.c (.int .u8 z4))), .as 59 (.v (.c (.int .u64 z4))), .as 61 (.v (vI (7 * z6))), .as 62 (.v (.c (.int .u64 (7 * z6)))), .as 63 (.v (.c (.int .u64 (z4 * 2 ^ (7 * q1.k))))), .as 64 (.v (.c (.int .u64 (q1.u + z4 * 2 ^ (7 * q1.k)))))] (.br (.seg [.as 70 (.v (vI (at_ + z6))), .as 71 (.v (vI (at_ + z6 + 1)))] (.leaf () [])) (.seg [.as 20 (.v (vI (z6 + 1))), .at 0, .keep [0, 1, 2, 9, 10], .sel []] (.next)))))))))))), (Fun Tryz.prog 43 [vI at_, vI 0, vI z10] [] (.v (vB z13)) []) ∧ ((!z13) = true → z14 = .tup [.c (.int .u64 z9.1), vI z9.2.1, vI z9.2.2] ∧ z12 = []) ∧ ((!z13) = false → z11.Has [(0, .v (vT s)), (1, .v (vI at_)), (2, .v (vI end_)), (9, .v (.c (.int .u64 0))), (10, .v (vI 0))] [] ∧ ∀ q1, z11.inv q1 → (let z7 := (q1.k : Int); let z8 := 7 * q1.k; ((.v (vI (IntKind.i64.wrap (at_ + z7))) : S) = .v (vI (at_ + z7))) ∧ ((decide (end_ ≤ at_ + z7)) = true → (.tup [.c (.int .u64 0), vI end_, vI 9] : S) = .tup [.c (.int .u64 z9.1), vI z9.2.1, vI z9.2.2] ∧ z12 = []) ∧ ((decide (end_ ≤ at_ + z7)) = false → ((.v (vI (IntKind.i64.wrap (at_ + z7))) : S) = .v (vI (at_ + z7))) ∧ ((decide (z10 ≤ at_ + z7)) = true → z14 = .tup [.c (.int .u64 z9.1), vI z9.2.1, vI z9.2.2] ∧ z12 = []) ∧ ((decide (z10 ≤ at_ + z7)) = false → ((decide (z7 = 9)) = true → ((.v (vI (IntKind.i64.wrap (at_ + z7))) : S) = .v (vI (at_ + z7))) ∧ (∃ (x1 : UInt8), s[Int.toNat (at_ + z7)]? = some x1) ∧ ∀ (x1 : UInt8), (s[Int.toNat (at_ + z7)]? = some x1) → (let z2 := ((UInt8.toNat x1 : Nat) : Int); let z3 := s[Int.toNat (at_ + z7)]? = some x1; z3 ∧ ((0 : Int) ≤ at_ + z7) ∧ ((decide (1 < z2)) = true → ((.v (vI (IntKind.i64.wrap (at_ + z7))) : S) = .v (vI (at_ + z7))) ∧ (.tup [.c (.int .u64 0), vI (at_ + z7), vI 1] : S) = .tup [.c (.int .u64 z9.1), vI z9.2.1, vI z9.2.2] ∧ z12 = []) ∧ ((decide (1 < z2)) = false → ((.v (vI (IntKind.i64.wrap (at_ + z7))) : S) = .v (vI (at_ + z7))) ∧ z3 ∧ ((0 : Int) ≤ at_ + z7) ∧ ((.v (.c (.int .u8 (IntKind.u8.wrap (((BitVec.ofInt 8 z2 &&& BitVec.ofInt 8 127).toNat : Nat))))) : S) = .v (.c (.int .u8 (z2 % 128)))) ∧ ((.v (.c (.int .u64 (IntKind.u64.wrap (z2 % 128)))) : S) = .v (.c (.int .u64 (z2 % 128)))) ∧ ((.v (vI (IntKind.i64.wrap (7 * z7))) : S) = .v (vI (7 * z7))) ∧ ((.v (.c (.int .u64 (IntKind.u64.wrap (7 * z7)))) : S) = .v (.c (.int .u64 (7 * z7)))) ∧ ((0 : Int) ≤ 7 * z7) ∧ ((.v (.c (.int .u64 (IntKind.u64.wrap ((z2 % 128) * 2 ^ min (Int.toNat (7 * z7)) 64)))) : S) = .v (.c (.int .u64 ((z2 % 128) * 2 ^ z8)))) ∧ ((.v (.c (.int .u64 (IntKind.u64.wrap (((BitVec.ofInt 64 q1.u ||| BitVec.ofInt 64 ((z2 % 128) * 2 ^ z8)).toNat : Nat))))) : S) = .v (.c (.int .u64 (q1.u + (z2 % 128) * 2 ^ z8)))) ∧ ((decide (z2 < 128)) = true → ((.v (vI (IntKind.i64.wrap (at_ + z7))) : S) = .v (vI (at_ + z7))) ∧ ((.v (vI (IntKind.i64.wrap ((at_ + z7) + 1))) : S) = .v (vI (at_ + z7 + 1))) ∧ (.tup [.c (.int .u64 (q1.u + (z2 % 128) * 2 ^ z8)), vI (at_ + z7 + 1), vI 0] : S) = .tup [.c (.int .u64 z9.1), vI z9.2.1, vI z9.2.2] ∧ z12 = []) ∧ ((decide (z2 < 128)) = false → ((.v (vI (IntKind.i64.wrap (z7 + 1))) : S) = .v (vI (z7 + 1))) ∧ z11.Nxt q1 [(0, .v (vT s)), (1, .v (vI at_)), (2, .v (vI end_)), (9, .v (.c (.int .u64 (q1.u + (z2 % 128) * 2 ^ z8)))), (10, .v (vI (z7 + 1)))] [])))) ∧ ((decide (z7 = 9)) = false → ((.v (vI (IntKind.i64.wrap (at_ + z7))) : S) = .v (vI (at_ + z7))) ∧ (∃ (x1 : UInt8), s[Int.toNat (at_ + z7)]? = some x1) ∧ ∀ (x1 : UInt8), (s[Int.toNat (at_ + z7)]? = some x1) → (let z5 := ((UInt8.toNat x1 : Nat) : Int); (s[Int.toNat (at_ + z7)]? = some x1) ∧ ((0 : Int) ≤ at_ + z7) ∧ ((.v (.c (.int .u8 (IntKind.u8.wrap (((BitVec.ofInt 8 z5 &&& BitVec.ofInt 8 127).toNat : Nat))))) : S) = .v (.c (.int .u8 (z5 % 128)))) ∧ ((.v (.c (.int .u64 (IntKind.u64.wrap (z5 % 128)))) : S) = .v (.c (.int .u64 (z5 % 128)))) ∧ ((.v (vI (IntKind.i64.wrap (7 * z7))) : S) = .v (vI (7 * z7))) ∧ ((.v (.c (.int .u64 (IntKind.u64.wrap (7 * z7)))) : S) = .v (.c (.int .u64 (7 * z7)))) ∧ ((0 : Int) ≤ 7 * z7) ∧ ((.v (.c (.int .u64 (IntKind.u64.wrap ((z5 % 128) * 2 ^ min (Int.toNat (7 * z7)) 64)))) : S) = .v (.c (.int .u64 ((z5 % 128) * 2 ^ z8)))) ∧ ((.v (.c (.int .u64 (IntKind.u64.wrap (((BitVec.ofInt 64 q1.u ||| BitVec.ofInt 64 ((z5 % 128) * 2 ^ z8)).toNat : Nat))))) : S) = .v (.c (.int .u64 (q1.u + (z5 % 128) * 2 ^ z8)))) ∧ ((decide (z5 < 128)) = true → ((.v (vI (IntKind.i64.wrap (at_ + z7))) : S) = .v (vI (at_ + z7))) ∧ ((.v (vI (IntKind.i64.wrap ((at_ + z7) + 1))) : S) = .v (vI (at_ + z7 + 1))) ∧ (.tup [.c (.int .u64 (q1.u + (z5 % 128) * 2 ^ z8)), vI (at_ + z7 + 1), vI 0] : S) = .tup [.c (.int .u64 z9.1), vI z9.2.1, vI z9.2.2] ∧ z12 = []) ∧ ((decide (z5 < 128)) = false → ((.v (vI (IntKind.i64.wrap (z7 + 1))) : S) = .v (vI (z7 + 1))) ∧ z11.Nxt q1 [(0, .v (vT s)), (1, .v (vI at_)), (2, .v (vI end_)), (9, .v (.c (.int .u64 (q1.u + (z5 % 128) * 2 ^ z8)))), (10, .v (vI (z7 + 1)))] []))))))))) (by kernel_rfl) ?_
 refine ⟨(within_i _ _ _), fun h1 => have q1 := bnot_t h1; have p1 := within_f q1; ?_, fun h1 => have q1 := bnot_f h1; have p1 := within_t q1; ?_⟩
 refine ⟨(congrArg S.tup (consE (congrArg V.c (congrArg (C.int .u64) ?_)) (consE (congrArg V.c (congrArg (C.int .i64) ?_)) (consE (congrArg V.c (congrArg (C.int .i64) ?_)) rfl)))), rfl⟩
 rotate_left 3
 have hw : within at_ 0 (s.length : Int) = true := by simpa using h1
 refine ⟨has_of (j := (⟨0, 0⟩ : varWithin_i_V0)) (by first | rfl | simp) rfl (by dsimp only [varWithin_i_F0]; exact ⟨by omega, by omega, by decide, by simp [varWithin, hw]⟩), fun (q1 : varWithin_i_V0) hq_q1 => ?_⟩
 have hi_q1 : q1.k ≤ 9 ∧ (0 : Int) ≤ q1.u ∧ q1.u < 2 ^ (7 * q1.k) ∧ vwA s at_ end_ (10 - q1.k) (((q1.k : Nat)) : Int) q1.u = varWithin s at_ end_ := hq_q1
 obtain ⟨v1, v2, v3, v4⟩ := hi_q1
 obtain ⟨f, hf⟩ : ∃ f, 10 - q1.k = f + 1 := ⟨9 - q1.k, by omega⟩
 rw [hf, vwA] at v4
 have e7 : Int.toNat (7 * (q1.k : Int)) = 7 * q1.k := by omega
 refine ⟨(as_i64 (by omega) (by omega)), dsp (fun h2 p2 => ?_) fun h2 p2 => ?_⟩
 rw [if_pos p2] at v4
 refine ⟨(congrArg S.tup (consE (congrArg V.c (congrArg (C.int .u64) ?_)) (consE (congrArg V.c (congrArg (C.int .i64) ?_)) (consE (congrArg V.c (congrArg (C.int .i64) ?_)) rfl)))), rfl⟩
 rotate_left 3
 rw [if_neg p2] at v4
 refine ⟨(as_i64 (by omega) (by omega)), dsp (fun h3 p3 => ?_) fun h3 p3 => ?_⟩
 rw [if_pos p3] at v4
 refine ⟨(congrArg S.tup (consE (congrArg V.c (congrArg (C.int .u64) ?_)) (consE (congrArg V.c (congrArg (C.int .i64) ?_)) (consE (congrArg V.c (congrArg (C.int .i64) ?_)) rfl)))), rfl⟩
 rotate_left 3
 rw [if_neg p3] at v4
 refine dsp (fun h4 p4 => ?_) fun h4 p4 => ?_
 refine ⟨(as_i64 (by omega) (by omega)), (ax_get (l := s) (i := Int.toNat (at_ + (q1.k : Int))) (by omega)), fun x1 hx1 => ?_⟩
 have hb_x1 := UInt8.toNat_lt x1
 have he := getD_of (d := 0) hx1
 have hv := fun h9 => vb_shl (c := (x1.toNat : Int) % 128) (k := q1.k) (by omega) (by omega) (by omega) h9
 refine ⟨hx1, (by omega), dsp (fun h5 p5 => ?_) fun h5 p5 => ?_⟩
 rw [if_pos ⟨by omega, by rw [he]; omega⟩] at v4
 refine ⟨(as_i64 (by omega) (by omega)), (congrArg S.tup (consE (congrArg V.c (congrArg (C.int .u64) ?_)) (consE (congrArg V.c (congrArg (C.int .i64) ?_)) (consE (congrArg V.c (congrArg (C.int .i64) ?_)) rfl)))), rfl⟩
 rotate_left 3
 rw [if_neg (by rw [he]; omega)] at v4
 refine ⟨(as_i64 (by omega) (by omega)), hx1, (by omega), (mask_u8 (by omega) (by omega)), (as_u64 (by omega) (by omega)), (as_i64 (by omega) (by omega)), (as_u64 (by omega) (by omega)), (by omega), (as_shl_vb (by omega) (by omega) (by omega) (by intro h; omega)), (as_or_vb (by omega) (by omega) (by omega) (by intro h; omega) (by omega) (by omega)), dsp (fun h6 p6 => ?_) fun h6 p6 => ?_⟩
 have hv := hv (by intro h; omega)
 rw [he, e7] at v4
 rw [if_pos p6] at v4
 refine ⟨(as_i64 (by omega) (by omega)), (as_i64 (by omega) (by omega)), (congrArg S.tup (consE (congrArg V.c (congrArg (C.int .u64) ?_)) (consE (congrArg V.c (congrArg (C.int .i64) ?_)) (consE (congrArg V.c (congrArg (C.int .i64) ?_)) rfl)))), rfl⟩
 rotate_left 3
 have hv := hv (by intro h; omega)
 rw [he, e7] at v4
 rw [if_neg p6] at v4
 exact ⟨(as_i64 (by omega) (by omega)), nxt_of (j := (⟨q1.u + (((UInt8.toNat x1 : Nat) : Int) % 128) * 2 ^ (7 * q1.k), q1.k + 1⟩ : varWithin_i_V0)) (by first | rfl | simp) rfl (by dsimp only [varWithin_i_F0]; exact ⟨by omega, by omega, by omega, by rw [show 10 - (q1.k + 1) = f by omega, show (((q1.k + 1) : Nat) : Int) = (q1.k : Int) + 1 by simp]; exact v4⟩) (by dsimp only [varWithin_i_F0]; omega)⟩
 rw [if_neg (by omega)] at v4
 refine ⟨(as_i64 (by omega) (by omega)), (ax_get (l := s) (i := Int.toNat (at_ + (q1.k : Int))) (by omega)), fun x1 hx1 => ?_⟩
 have hb_x1 := UInt8.toNat_lt x1
 have he := getD_of (d := 0) hx1
 have hv := fun h9 => vb_shl (c := (x1.toNat : Int) % 128) (k := q1.k) (by omega) (by omega) (by omega) h9
 refine ⟨hx1, (by omega), (mask_u8 (by omega) (by omega)), (as_u64 (by omega) (by omega)), (as_i64 (by omega) (by omega)), (as_u64 (by omega) (by omega)), (by omega), (as_shl_vb (by omega) (by omega) (by omega) (by intro h; omega)), (as_or_vb (by omega) (by omega) (by omega) (by intro h; omega) (by omega) (by omega)), dsp (fun h5 p5 => ?_) fun h5 p5 => ?_⟩
 have hv := hv (by intro h; omega)
 rw [he, e7] at v4
 rw [if_pos p5] at v4
 refine ⟨(as_i64 (by omega) (by omega)), (as_i64 (by omega) (by omega)), (congrArg S.tup (consE (congrArg V.c (congrArg (C.int .u64) ?_)) (consE (congrArg V.c (congrArg (C.int .i64) ?_)) (consE (congrArg V.c (congrArg (C.int .i64) ?_)) rfl)))), rfl⟩
 rotate_left 3
 have hv := hv (by intro h; omega)
 rw [he, e7] at v4
 rw [if_neg p5] at v4
 exact ⟨(as_i64 (by omega) (by omega)), nxt_of (j := (⟨q1.u + (((UInt8.toNat x1 : Nat) : Int) % 128) * 2 ^ (7 * q1.k), q1.k + 1⟩ : varWithin_i_V0)) (by first | rfl | simp) rfl (by dsimp only [varWithin_i_F0]; exact ⟨by omega, by omega, by omega, by rw [show 10 - (q1.k + 1) = f by omega, show (((q1.k + 1) : Nat) : Int) = (q1.k : Int) + 1 by simp]; exact v4⟩) (by dsimp only [varWithin_i_F0]; omega)⟩
 all_goals first | (rw [← v4]) | (simp [varWithin, *]; done)
structure varWithin_s_V0 where
 u : Int
 k : Nat
def varWithin_s_F0 (s : List UInt8) (at_ : Int) (end_ : Int) : Fam := ⟨varWithin_s_V0, fun q1 => [(0, .v (vT s)), (1, .v (vI at_)), (2, .v (vI end_)), (9, .v (.c (.int .u64 q1.u))), (10, .v (vI (q1.k : Int)))], fun _ => [], fun q1 => q1.k ≤ 9 ∧ (0 : Int) ≤ q1.u ∧ q1.u < 2 ^ (7 * q1.k) ∧ vwA s at_ end_ (10 - q1.k) (((q1.k : Nat)) : Int) q1.u = varWithin s at_ end_, fun q1 => 10 - q1.k⟩
theorem varWithin_s (s : List UInt8) (at_ : Int) (end_ : Int) (hp1 : s.length ≤ bigN) : Fun Tryz.prog 92 [vT s, vI at_, vI end_] [] (.tup [.c (.int .u64 (varWithin s at_ end_).1), vI (varWithin s at_ end_).2.1, vI (varWithin s at_ end_).2.2]) [] := by
 have hN : bigN = 274877906944 := rfl
 refine fun_ofw Tryz.func92 (by kernel_rfl) (by kernel_rfl) (w := let z6 := varWithin s at_ end_; let z7 := (s.length : Int); let z8 := varWithin_s_F0 s at_ end_; let z9 := ([] : List Blk); let z10 := within at_ 0 z7; let z11 := (.tup [.c (.int .u64 0), vI z7, vI 10] : S); (.seg [.call [] (.v (vB z10)) []] (.br (.leaf () []) (.seg [.at 0, .keep [0, 1, 2, 9, 10], .sel []] (.loop z8 fun q1 => let z3 := (q1.k : Int); .seg [.br true, .as 26 (.v (vI (at_ + z3)))] (.br (.leaf () []) (.seg [.as 33 (.v (vI (at_ + z3)))] (.br (.leaf () []) (.seg [.as 42 (.v (vI (at_ + z3)))] (.intro (fun (x1 : UInt8) => s[Int.toNat (at_ + z3)]? = some x1) fun x1 => let z1 := ((UInt8.toNat x1 : Nat) : Int) % 128; .seg [.ch x1, .as 44 (.v (.c (.int .u64 ((UInt8.toNat x1 : Nat) : Int))))] (.br (.br (.seg [.as 53 (.v (vI (at_ + z3)))] (.leaf () [])) (.seg [.as 56 (.v (.c (.int .u64 z1))), .as 58 (.v (vI (7 * z3))), .as 59 (.v (.c (.int .u64 (7 * z3)))), .as 60 (.v (.c (.int .u64 (z1 * 2 ^ (7 * q1.k))))), .as 61 (.v (.c (.int .u64 (q1.u + (z1 * 2 ^ (7 * q1.k))))))] (.br (.seg [.as 67 (.v (vI (at_ + z3))), .as 68 (.v (vI (at_ + z3 + 1)))] (.leaf () [])) (.seg [.as 22 (.v (vI (z3 + 1))), .at 0, .keep [0, 1, 2, 9, 10], .sel []] (.next))))) (.seg [.as 56 (.v (.c (.int .u64 z1))), .as 58 (.v (vI (7 * z3))), .as 59 (.v (.c (.int .u64 (7 * z3)))), .as 60 (.v (.c (.int .u64 (z1 * 2 ^ (7 * q1.k))))), .as 61 (.v (.c (.int .u64 (q1.u + (z1 * 2 ^ (7 * q1.k))))))] (.br (.seg [.as 67 (.v (vI (at_ + z3))), .as 68 (.v (vI (at_ + z3 + 1)))] (.leaf () [])) (.seg [.as 22 (.v (vI (z3 + 1))), .at 0, .keep [0, 1, 2, 9, 10], .sel []] (.next))))))))))))), (Fun Tryz.prog 45 [vI at_, vI 0, vI z7] [] (.v (vB z10)) []) ∧ ((!z10) = true → z11 = .tup [.c (.int .u64 z6.1), vI z6.2.1, vI z6.2.2] ∧ z9 = []) ∧ ((!z10) = false → z8.Has [(0, .v (vT s)), (1, .v (vI at_)), (2, .v (vI end_)), (9, .v (.c (.int .u64 0))), (10, .v (vI 0))] [] ∧ ∀ q1, z8.inv q1 → (let z4 := (q1.k : Int); let z5 := 7 * q1.k; ((decide (z4 < 10)) = true) ∧ ((.v (vI (IntKind.i64.wrap (at_ + z4))) : S) = .v (vI (at_ + z4))) ∧ ((decide (end_ ≤ at_ + z4)) = true → (.tup [.c (.int .u64 0), vI end_, vI 9] : S) = .tup [.c (.int .u64 z6.1), vI z6.2.1, vI z6.2.2] ∧ z9 = []) ∧ ((decide (end_ ≤ at_ + z4)) = false → ((.v (vI (IntKind.i64.wrap (at_ + z4))) : S) = .v (vI (at_ + z4))) ∧ ((decide (z7 ≤ at_ + z4)) = true → z11 = .tup [.c (.int .u64 z6.1), vI z6.2.1, vI z6.2.2] ∧ z9 = []) ∧ ((decide (z7 ≤ at_ + z4)) = false → ((.v (vI (IntKind.i64.wrap (at_ + z4))) : S) = .v (vI (at_ + z4))) ∧ (∃ (x1 : UInt8), s[Int.toNat (at_ + z4)]? = some x1) ∧ ∀ (x1 : UInt8), (s[Int.toNat (at_ + z4)]? = some x1) → (let z2 := ((UInt8.toNat x1 : Nat) : Int); (s[Int.toNat (at_ + z4)]? = some x1) ∧ ((0 : Int) ≤ at_ + z4) ∧ ((.v (.c (.int .u64 (IntKind.u64.wrap (z2)))) : S) = .v (.c (.int .u64 z2))) ∧ ((decide (z4 = 9)) = true → ((decide (1 < z2)) = true → ((.v (vI (IntKind.i64.wrap (at_ + z4))) : S) = .v (vI (at_ + z4))) ∧ (.tup [.c (.int .u64 0), vI (at_ + z4), vI 1] : S) = .tup [.c (.int .u64 z6.1), vI z6.2.1, vI z6.2.2] ∧ z9 = []) ∧ ((decide (1 < z2)) = false → ((128 : Int) ≠ 0) ∧ ((.v (.c (.int .u64 (Int.tmod z2 128))) : S) = .v (.c (.int .u64 (z2 % 128)))) ∧ ((.v (vI (IntKind.i64.wrap (7 * z4))) : S) = .v (vI (7 * z4))) ∧ ((.v (.c (.int .u64 (IntKind.u64.wrap (7 * z4)))) : S) = .v (.c (.int .u64 (7 * z4)))) ∧ ((0 : Int) ≤ 7 * z4) ∧ ((.v (.c (.int .u64 (IntKind.u64.wrap ((z2 % 128) * 2 ^ min (Int.toNat (7 * z4)) 64)))) : S) = .v (.c (.int .u64 ((z2 % 128) * 2 ^ z5)))) ∧ ((.v (.c (.int .u64 (IntKind.u64.wrap (q1.u + ((z2 % 128) * 2 ^ z5))))) : S) = .v (.c (.int .u64 (q1.u + ((z2 % 128) * 2 ^ z5))))) ∧ ((decide (z2 < 128)) = true → ((.v (vI (IntKind.i64.wrap (at_ + z4))) : S) = .v (vI (at_ + z4))) ∧ ((.v (vI (IntKind.i64.wrap ((at_ + z4) + 1))) : S) = .v (vI (at_ + z4 + 1))) ∧ (.tup [.c (.int .u64 (q1.u + ((z2 % 128) * 2 ^ z5))), vI (at_ + z4 + 1), vI 0] : S) = .tup [.c (.int .u64 z6.1), vI z6.2.1, vI z6.2.2] ∧ z9 = []) ∧ ((decide (z2 < 128)) = false → ((.v (vI (IntKind.i64.wrap (z4 + 1))) : S) = .v (vI (z4 + 1))) ∧ z8.Nxt q1 [(0, .v (vT s)), (1, .v (vI at_)), (2, .v (vI end_)), (9, .v (.c (.int .u64 (q1.u + ((z2 % 128) * 2 ^ z5))))), (10, .v (vI (z4 + 1)))] []))) ∧ ((decide (z4 = 9)) = false → ((128 : Int) ≠ 0) ∧ ((.v (.c (.int .u64 (Int.tmod z2 128))) : S) = .v (.c (.int .u64 (z2 % 128)))) ∧ ((.v (vI (IntKind.i64.wrap (7 * z4))) : S) = .v (vI (7 * z4))) ∧ ((.v (.c (.int .u64 (IntKind.u64.wrap (7 * z4)))) : S) = .v (.c (.int .u64 (7 * z4)))) ∧ ((0 : Int) ≤ 7 * z4) ∧ ((.v (.c (.int .u64 (IntKind.u64.wrap ((z2 % 128) * 2 ^ min (Int.toNat (7 * z4)) 64)))) : S) = .v (.c (.int .u64 ((z2 % 128) * 2 ^ z5)))) ∧ ((.v (.c (.int .u64 (IntKind.u64.wrap (q1.u + ((z2 % 128) * 2 ^ z5))))) : S) = .v (.c (.int .u64 (q1.u + ((z2 % 128) * 2 ^ z5))))) ∧ ((decide (z2 < 128)) = true → ((.v (vI (IntKind.i64.wrap (at_ + z4))) : S) = .v (vI (at_ + z4))) ∧ ((.v (vI (IntKind.i64.wrap ((at_ + z4) + 1))) : S) = .v (vI (at_ + z4 + 1))) ∧ (.tup [.c (.int .u64 (q1.u + ((z2 % 128) * 2 ^ z5))), vI (at_ + z4 + 1), vI 0] : S) = .tup [.c (.int .u64 z6.1), vI z6.2.1, vI z6.2.2] ∧ z9 = []) ∧ ((decide (z2 < 128)) = false → ((.v (vI (IntKind.i64.wrap (z4 + 1))) : S) = .v (vI (z4 + 1))) ∧ z8.Nxt q1 [(0, .v (vT s)), (1, .v (vI at_)), (2, .v (vI end_)), (9, .v (.c (.int .u64 (q1.u + ((z2 % 128) * 2 ^ z5))))), (10, .v (vI (z4 + 1)))] []))))))))) (by kernel_rfl) ?_
 refine ⟨(within_s _ _ _), fun h1 => have q1 := bnot_t h1; have p1 := within_f q1; ?_, fun h1 => have q1 := bnot_f h1; have p1 := within_t q1; ?_⟩
 refine ⟨(congrArg S.tup (consE (congrArg V.c (congrArg (C.int .u64) ?_)) (consE (congrArg V.c (congrArg (C.int .i64) ?_)) (consE (congrArg V.c (congrArg (C.int .i64) ?_)) rfl)))), rfl⟩
 rotate_left 3
 have hw : within at_ 0 (s.length : Int) = true := by simpa using h1
 refine ⟨has_of (j := (⟨0, 0⟩ : varWithin_s_V0)) (by first | rfl | simp) rfl (by dsimp only [varWithin_s_F0]; exact ⟨by omega, by omega, by decide, by simp [varWithin, hw]⟩), fun (q1 : varWithin_s_V0) hq_q1 => ?_⟩
 have hi_q1 : q1.k ≤ 9 ∧ (0 : Int) ≤ q1.u ∧ q1.u < 2 ^ (7 * q1.k) ∧ vwA s at_ end_ (10 - q1.k) (((q1.k : Nat)) : Int) q1.u = varWithin s at_ end_ := hq_q1
 obtain ⟨v1, v2, v3, v4⟩ := hi_q1
 obtain ⟨f, hf⟩ : ∃ f, 10 - q1.k = f + 1 := ⟨9 - q1.k, by omega⟩
 rw [hf, vwA] at v4
 have e7 : Int.toNat (7 * (q1.k : Int)) = 7 * q1.k := by omega
 refine ⟨(by simp; omega), (as_i64 (by omega) (by omega)), dsp (fun h2 p2 => ?_) fun h2 p2 => ?_⟩
 rw [if_pos p2] at v4
 refine ⟨(congrArg S.tup (consE (congrArg V.c (congrArg (C.int .u64) ?_)) (consE (congrArg V.c (congrArg (C.int .i64) ?_)) (consE (congrArg V.c (congrArg (C.int .i64) ?_)) rfl)))), rfl⟩
 rotate_left 3
 rw [if_neg p2] at v4
 refine ⟨(as_i64 (by omega) (by omega)), dsp (fun h3 p3 => ?_) fun h3 p3 => ?_⟩
 rw [if_pos p3] at v4
 refine ⟨(congrArg S.tup (consE (congrArg V.c (congrArg (C.int .u64) ?_)) (consE (congrArg V.c (congrArg (C.int .i64) ?_)) (consE (congrArg V.c (congrArg (C.int .i64) ?_)) rfl)))), rfl⟩
 rotate_left 3
 rw [if_neg p3] at v4
 refine ⟨(as_i64 (by omega) (by omega)), (ax_get (l := s) (i := Int.toNat (at_ + (q1.k : Int))) (by omega)), fun x1 hx1 => ?_⟩
 have hb_x1 := UInt8.toNat_lt x1
 have he := getD_of (d := 0) hx1
 have hv := fun h9 => vb_shl (c := (x1.toNat : Int) % 128) (k := q1.k) (by omega) (by omega) (by omega) h9
 refine ⟨hx1, (by omega), (as_u64 (by omega) (by omega)), dsp (fun h4 p4 => ?_) fun h4 p4 => ?_⟩
 refine dsp (fun h5 p5 => ?_) fun h5 p5 => ?_
 rw [if_pos ⟨by omega, by rw [he]; omega⟩] at v4
 refine ⟨(as_i64 (by omega) (by omega)), (congrArg S.tup (consE (congrArg V.c (congrArg (C.int .u64) ?_)) (consE (congrArg V.c (congrArg (C.int .i64) ?_)) (consE (congrArg V.c (congrArg (C.int .i64) ?_)) rfl)))), rfl⟩
 rotate_left 3
 rw [if_neg (by rw [he]; omega)] at v4
 refine ⟨(by decide), (as_tmod (by omega)), (as_i64 (by omega) (by omega)), (as_u64 (by omega) (by omega)), (by omega), (as_shl_vb (by omega) (by omega) (by omega) (by intro h; omega)), (as_u64 (by omega) (by omega)), dsp (fun h6 p6 => ?_) fun h6 p6 => ?_⟩
 have hv := hv (by intro h; omega)
 rw [he, e7] at v4
 rw [if_pos p6] at v4
 refine ⟨(as_i64 (by omega) (by omega)), (as_i64 (by omega) (by omega)), (congrArg S.tup (consE (congrArg V.c (congrArg (C.int .u64) ?_)) (consE (congrArg V.c (congrArg (C.int .i64) ?_)) (consE (congrArg V.c (congrArg (C.int .i64) ?_)) rfl)))), rfl⟩
 rotate_left 3
 have hv := hv (by intro h; omega)
 rw [he, e7] at v4
 rw [if_neg p6] at v4
 exact ⟨(as_i64 (by omega) (by omega)), nxt_of (j := (⟨q1.u + ((((UInt8.toNat x1 : Nat) : Int) % 128) * 2 ^ (7 * q1.k)), q1.k + 1⟩ : varWithin_s_V0)) (by first | rfl | simp) rfl (by dsimp only [varWithin_s_F0]; exact ⟨by omega, by omega, by omega, by rw [show 10 - (q1.k + 1) = f by omega, show (((q1.k + 1) : Nat) : Int) = (q1.k : Int) + 1 by simp]; exact v4⟩) (by dsimp only [varWithin_s_F0]; omega)⟩
 rw [if_neg (by omega)] at v4
 refine ⟨(by decide), (as_tmod (by omega)), (as_i64 (by omega) (by omega)), (as_u64 (by omega) (by omega)), (by omega), (as_shl_vb (by omega) (by omega) (by omega) (by intro h; omega)), (as_u64 (by omega) (by omega)), dsp (fun h5 p5 => ?_) fun h5 p5 => ?_⟩
 have hv := hv (by intro h; omega)
 rw [he, e7] at v4
 rw [if_pos p5] at v4
 refine ⟨(as_i64 (by omega) (by omega)), (as_i64 (by omega) (by omega)), (congrArg S.tup (consE (congrArg V.c (congrArg (C.int .u64) ?_)) (consE (congrArg V.c (congrArg (C.int .i64) ?_)) (consE (congrArg V.c (congrArg (C.int .i64) ?_)) rfl)))), rfl⟩
 rotate_left 3
 have hv := hv (by intro h; omega)
 rw [he, e7] at v4
 rw [if_neg p5] at v4
 exact ⟨(as_i64 (by omega) (by omega)), nxt_of (j := (⟨q1.u + ((((UInt8.toNat x1 : Nat) : Int) % 128) * 2 ^ (7 * q1.k)), q1.k + 1⟩ : varWithin_s_V0)) (by first | rfl | simp) rfl (by dsimp only [varWithin_s_F0]; exact ⟨by omega, by omega, by omega, by rw [show 10 - (q1.k + 1) = f by omega, show (((q1.k + 1) : Nat) : Int) = (q1.k : Int) + 1 by simp]; exact v4⟩) (by dsimp only [varWithin_s_F0]; omega)⟩
 all_goals first | (rw [← v4]) | (simp [varWithin, *]; done)
theorem widthOk_i (w : Int) : Fun Tryz.prog 170 [vI w] [] (.v (vB (widthOk w))) [] := by
 have hN : bigN = 274877906944 := rfl
 refine fun_ofw Tryz.func170 (by kernel_rfl) (by kernel_rfl) (w := (.br (.leaf () []) (.leaf () []), ((decide (w = 4)) = true → (.v (vB true) : S) = .v (vB (widthOk w)) ∧ ([] : List Blk) = []) ∧ ((decide (w = 4)) = false → (.v (vB (decide (w = 8))) : S) = .v (vB (widthOk w)) ∧ ([] : List Blk) = []))) (by kernel_rfl) ?_
 refine dsp (fun h1 p1 => ?_) fun h1 p1 => ?_
 exact ⟨(congrArg S.v (congrArg V.c (congrArg C.bool (by simp [widthOk, *])))), rfl⟩
 exact ⟨(congrArg S.v (congrArg V.c (congrArg C.bool (by simp [widthOk, *])))), rfl⟩
structure getFix_i_V0 where
 u : Int
 v : Nat
def getFix_i_F0 (s : List UInt8) (at_ : Int) (w : Int) : Fam := ⟨getFix_i_V0, fun q1 => [(0, .v (vT s)), (1, .v (vI at_)), (8, .v (.c (.int .u64 q1.u))), (22, .v (vI w)), (23, .v (vI (q1.v : Int)))], fun _ => [], fun q1 => (q1.v : Int) ≤ w ∧ q1.u = ((getFixN (List.take q1.v (List.drop (at_.toNat) s)) : Nat) : Int), fun q1 => w.toNat - q1.v⟩
theorem getFix_i (s : List UInt8) (at_ : Int) (w : Int) (hp1 : s.length ≤ bigN) : Fun Tryz.prog 163 [vT s, vI at_, vI w] [] (.tup [.c (.int .u64 (getFix s at_ w)), vB (getFixOk s at_ w)]) [] := by
 have hN : bigN = 274877906944 := rfl
 refine fun_ofw Tryz.func163 (by kernel_rfl) (by kernel_rfl) (w := let z5 := (s.length : Int) - w; let z6 := getFix_i_F0 s at_ w; let z7 := within at_ 0 z5; let z8 := (.tup [.c (.int .u64 0), vB false] : S); let z9 := getFixOk s at_ w; (.seg [.call [] (.v (vB (widthOk w))) []] (.br (.leaf () []) (.seg [.as 18 (.v (vI z5)), .call [] (.v (vB z7)) []] (.br (.leaf () []) (.seg [.at 0, .keep [0, 1, 8, 22, 23], .sel []] (.loop z6 fun q1 => let z3 := (q1.v : Int); .br (.seg [.as 30 (.v (vI (at_ + z3)))] (.intro (fun (x1 : UInt8) => s[Int.toNat (at_ + z3)]? = some x1) fun x1 => let z1 := ((UInt8.toNat x1 : Nat) : Int); .seg [.ch x1, .as 32 (.v (.c (.int .u64 z1))), .as 34 (.v (vI (8 * z3))), .as 35 (.v (.c (.int .u64 (8 * z3)))), .as 36 (.v (.c (.int .u64 (z1 * 2 ^ (8 * q1.v))))), .as 37 (.v (.c (.int .u64 (q1.u + z1 * 2 ^ (8 * q1.v))))), .as 38 (.v (vI (z3 + 1))), .at 0, .keep [0, 1, 8, 22, 23], .sel []] (.next))) (.leaf () [])))))), (Fun Tryz.prog 170 [vI w] [] (.v (vB (widthOk w))) []) ∧ ((!(widthOk w)) = true → z8 = .tup [.c (.int .u64 (getFix s at_ w)), vB z9] ∧ ([] : List Blk) = []) ∧ ((!(widthOk w)) = false → ((.v (vI (IntKind.i64.wrap z5)) : S) = .v (vI z5)) ∧ (Fun Tryz.prog 43 [vI at_, vI 0, vI z5] [] (.v (vB z7)) []) ∧ ((!z7) = true → z8 = .tup [.c (.int .u64 (getFix s at_ w)), vB z9] ∧ ([] : List Blk) = []) ∧ ((!z7) = false → z6.Has [(0, .v (vT s)), (1, .v (vI at_)), (8, .v (.c (.int .u64 0))), (22, .v (vI w)), (23, .v (vI 0))] [] ∧ ∀ q1, z6.inv q1 → (let z4 := (q1.v : Int); ((decide (z4 < w)) = true → ((.v (vI (IntKind.i64.wrap (at_ + z4))) : S) = .v (vI (at_ + z4))) ∧ (∃ (x1 : UInt8), s[Int.toNat (at_ + z4)]? = some x1) ∧ ∀ (x1 : UInt8), (s[Int.toNat (at_ + z4)]? = some x1) → (let z2 := ((UInt8.toNat x1 : Nat) : Int); (s[Int.toNat (at_ + z4)]? = some x1) ∧ ((0 : Int) ≤ at_ + z4) ∧ ((.v (.c (.int .u64 (IntKind.u64.wrap (z2)))) : S) = .v (.c (.int .u64 z2))) ∧ ((.v (vI (IntKind.i64.wrap (8 * z4))) : S) = .v (vI (8 * z4))) ∧ ((.v (.c (.int .u64 (IntKind.u64.wrap (8 * z4)))) : S) = .v (.c (.int .u64 (8 * z4)))) ∧ ((0 : Int) ≤ 8 * z4) ∧ ((.v (.c (.int .u64 (IntKind.u64.wrap (z2 * 2 ^ min (Int.toNat (8 * z4)) 64)))) : S) = .v (.c (.int .u64 (z2 * 2 ^ (8 * q1.v))))) ∧ ((.v (.c (.int .u64 (IntKind.u64.wrap (((BitVec.ofInt 64 q1.u ||| BitVec.ofInt 64 (z2 * 2 ^ (8 * q1.v))).toNat : Nat))))) : S) = .v (.c (.int .u64 (q1.u + z2 * 2 ^ (8 * q1.v))))) ∧ ((.v (vI (IntKind.i64.wrap (z4 + 1))) : S) = .v (vI (z4 + 1))) ∧ z6.Nxt q1 [(0, .v (vT s)), (1, .v (vI at_)), (8, .v (.c (.int .u64 (q1.u + z2 * 2 ^ (8 * q1.v))))), (22, .v (vI w)), (23, .v (vI (z4 + 1)))] [])) ∧ ((decide (z4 < w)) = false → (.tup [.c (.int .u64 q1.u), vB true] : S) = .tup [.c (.int .u64 (getFix s at_ w)), vB z9] ∧ ([] : List Blk) = [])))))) (by kernel_rfl) ?_
 refine ⟨(widthOk_i _), fun h1 => have q1 := bnot_t h1; have p1 := widthOk_f q1; ?_, fun h1 => have q1 := bnot_f h1; have p1 := widthOk_t q1; ?_⟩
 refine ⟨(congrArg S.tup (consE (congrArg V.c (congrArg (C.int .u64) ?_)) (consE (congrArg V.c (congrArg C.bool ?_)) rfl))), rfl⟩
 rotate_left 2
 refine ⟨(as_i64 (by omega) (by omega)), (within_i _ _ _), fun h2 => have q2 := bnot_t h2; have p2 := within_f q2; ?_, fun h2 => have q2 := bnot_f h2; have p2 := within_t q2; ?_⟩
 refine ⟨(congrArg S.tup (consE (congrArg V.c (congrArg (C.int .u64) ?_)) (consE (congrArg V.c (congrArg C.bool ?_)) rfl))), rfl⟩
 rotate_left 2
 refine ⟨has_of (j := (⟨0, 0⟩ : getFix_i_V0)) (by first | rfl | simp) rfl (by dsimp only [getFix_i_F0]; exact ⟨by omega, by simp [getFixN]⟩), fun (q1 : getFix_i_V0) hq_q1 => ?_⟩
 have hi_q1 : (q1.v : Int) ≤ w ∧ q1.u = ((getFixN (List.take q1.v (List.drop (at_.toNat) s)) : Nat) : Int) := hq_q1
 obtain ⟨v1, v2⟩ := hi_q1
 have hw8 : w = 4 ∨ w = 8 := by omega
 have hlt := getFixN_le (l := List.take q1.v (List.drop (at_.toNat) s)) (k := q1.v) (by simp; omega)
 have hlt2 : q1.u < 2 ^ (8 * q1.v) := by rw [v2]; exact_mod_cast hlt
 have hu0 : (0 : Int) ≤ q1.u := by rw [v2]; exact Int.natCast_nonneg _
 refine dsp (fun h3 p3 => ?_) fun h3 p3 => ?_
 refine ⟨(as_i64 (by omega) (by omega)), (ax_get (l := s) (i := Int.toNat (at_ + (q1.v : Int))) (by omega)), fun x1 hx1 => ?_⟩
 have hb_x1 := UInt8.toNat_lt x1
 exact ⟨hx1, (by omega), (as_u64 (by omega) (by omega)), (as_i64 (by omega) (by omega)), (as_u64 (by omega) (by omega)), (by omega), (as_shl_fb (by omega) (by omega) (by omega)), (as_or_fb (by omega) (by omega) (by omega) (by omega) (by omega)), (as_i64 (by omega) (by omega)), nxt_of (j := (⟨q1.u + ((UInt8.toNat x1 : Nat) : Int) * 2 ^ (8 * q1.v), q1.v + 1⟩ : getFix_i_V0)) (by first | rfl | simp) rfl (by dsimp only [getFix_i_F0]; exact ⟨by omega, by rw [take_snoc (x := x1) (by rw [← hx1]; congr 1; omega), getFixN_snoc, v2, show List.length (List.take q1.v (List.drop (at_.toNat) s)) = q1.v by simp; omega]; simp⟩) (by dsimp only [getFix_i_F0]; omega)⟩
 have hok : getFixOk s at_ w = true := by simp [getFixOk, widthOk, within]; omega
 have hvw : q1.v = w.toNat := by omega
 rw [hvw] at v2
 have hr : q1.u = getFix s at_ w := by rw [getFix, if_pos hok, v2]
 refine ⟨(congrArg S.tup (consE (congrArg V.c (congrArg (C.int .u64) ?_)) (consE (congrArg V.c (congrArg C.bool ?_)) rfl))), rfl⟩
 rotate_left 2
 all_goals first | (exact hr) | (exact hok.symm) | (simp_all [getFixOk, getFix, widthOk]; done)
structure getFix_s_V0 where
 u : Int
 i : Int
def getFix_s_F0 (s : List UInt8) (at_ : Int) (w : Int) : Fam := ⟨getFix_s_V0, fun q1 => [(0, .v (vT s)), (1, .v (vI at_)), (8, .v (.c (.int .u64 q1.u))), (9, .v (vI q1.i))], fun _ => [], fun q1 => (-1 : Int) ≤ q1.i ∧ q1.i < w ∧ q1.u = ((getFixN (List.take (Int.toNat (w - 1 - q1.i)) (List.drop (Int.toNat (at_ + q1.i + 1)) s)) : Nat) : Int), fun q1 => Int.toNat (q1.i + 1)⟩
theorem getFix_s (s : List UInt8) (at_ : Int) (w : Int) (hp1 : s.length ≤ bigN) : Fun Tryz.prog 164 [vT s, vI at_, vI w] [] (.tup [.c (.int .u64 (getFix s at_ w)), vB (getFixOk s at_ w)]) [] := by
 have hN : bigN = 274877906944 := rfl
 refine fun_ofw Tryz.func164 (by kernel_rfl) (by kernel_rfl) (w := let z7 := (s.length : Int) - w; let z9 := getFix_s_F0 s at_ w; let z10 := within at_ 0 z7; let z12 := (.v (vI (IntKind.i64.wrap z7)) : S) = .v (vI z7); let z13 := getFixOk s at_ w; let z14 := getFix s at_ w; let z15 := vI (w - 1); let z11 := (.v (vI (IntKind.i64.wrap (w - 1))) : S) = .v z15; let z16 := (.tup [.c (.int .u64 0), vB false] : S); let z17 := ([] : List Blk); let z8 := (!z10) = true → z16 = .tup [.c (.int .u64 z14), vB z13] ∧ z17 = []; (.br (.br (.leaf () []) (.seg [.as 21 (.v (vI z7)), .call [] (.v (vB z10)) []] (.br (.leaf () []) (.seg [.as 26 (.v z15), .at 0, .keep [0, 1, 8, 9], .sel []] (.loop z9 fun q1 => .br (.seg [.as 32 (.v (.c (.int .u64 (256 * q1.u)))), .as 36 (.v (vI (at_ + q1.i)))] (.intro (fun (x1 : UInt8) => s[Int.toNat (at_ + q1.i)]? = some x1) fun x1 => .seg [.ch x1, .as 38 (.v (.c (.int .u64 ((UInt8.toNat x1 : Nat) : Int)))), .as 39 (.v (.c (.int .u64 ((256 * q1.u) + ((UInt8.toNat x1 : Nat) : Int))))), .as 30 (.v (vI (q1.i - 1))), .at 0, .keep [0, 1, 8, 9], .sel []] (.next))) (.leaf () [])))))) (.seg [.as 21 (.v (vI z7)), .call [] (.v (vB z10)) []] (.br (.leaf () []) (.seg [.as 26 (.v z15), .at 0, .keep [0, 1, 8, 9], .sel []] (.loop z9 fun q1 => .br (.seg [.as 32 (.v (.c (.int .u64 (256 * q1.u)))), .as 36 (.v (vI (at_ + q1.i)))] (.intro (fun (x1 : UInt8) => s[Int.toNat (at_ + q1.i)]? = some x1) fun x1 => .seg [.ch x1, .as 38 (.v (.c (.int .u64 ((UInt8.toNat x1 : Nat) : Int)))), .as 39 (.v (.c (.int .u64 ((256 * q1.u) + ((UInt8.toNat x1 : Nat) : Int))))), .as 30 (.v (vI (q1.i - 1))), .at 0, .keep [0, 1, 8, 9], .sel []] (.next))) (.leaf () []))))), ((!decide (w = 4)) = true → ((!decide (w = 8)) = true → z16 = .tup [.c (.int .u64 z14), vB z13] ∧ z17 = []) ∧ ((!decide (w = 8)) = false → z12 ∧ (Fun Tryz.prog 45 [vI at_, vI 0, vI z7] [] (.v (vB z10)) []) ∧ z8 ∧ ((!z10) = false → z11 ∧ z9.Has [(0, .v (vT s)), (1, .v (vI at_)), (8, .v (.c (.int .u64 0))), (9, .v z15)] [] ∧ ∀ q1, z9.inv q1 → (let z2 := 256 * q1.u; let z3 := at_ + q1.i; ((decide (0 ≤ q1.i)) = true → ((.v (.c (.int .u64 (IntKind.u64.wrap z2))) : S) = .v (.c (.int .u64 z2))) ∧ ((.v (vI (IntKind.i64.wrap z3)) : S) = .v (vI z3)) ∧ (∃ (x1 : UInt8), s[z3.toNat]? = some x1) ∧ ∀ (x1 : UInt8), (s[z3.toNat]? = some x1) → (let z1 := ((UInt8.toNat x1 : Nat) : Int); (s[z3.toNat]? = some x1) ∧ ((0 : Int) ≤ at_ + q1.i) ∧ ((.v (.c (.int .u64 (IntKind.u64.wrap (z1)))) : S) = .v (.c (.int .u64 z1))) ∧ ((.v (.c (.int .u64 (IntKind.u64.wrap (z2 + z1)))) : S) = .v (.c (.int .u64 (z2 + z1)))) ∧ ((.v (vI (IntKind.i64.wrap (q1.i - 1))) : S) = .v (vI (q1.i - 1))) ∧ z9.Nxt q1 [(0, .v (vT s)), (1, .v (vI at_)), (8, .v (.c (.int .u64 (z2 + z1)))), (9, .v (vI (q1.i - 1)))] [])) ∧ ((decide (0 ≤ q1.i)) = false → (.tup [.c (.int .u64 q1.u), vB true] : S) = .tup [.c (.int .u64 z14), vB z13] ∧ z17 = []))))) ∧ ((!decide (w = 4)) = false → z12 ∧ (Fun Tryz.prog 45 [vI at_, vI 0, vI z7] [] (.v (vB z10)) []) ∧ z8 ∧ ((!z10) = false → z11 ∧ z9.Has [(0, .v (vT s)), (1, .v (vI at_)), (8, .v (.c (.int .u64 0))), (9, .v z15)] [] ∧ ∀ q1, z9.inv q1 → (let z5 := 256 * q1.u; let z6 := at_ + q1.i; ((decide (0 ≤ q1.i)) = true → ((.v (.c (.int .u64 (IntKind.u64.wrap z5))) : S) = .v (.c (.int .u64 z5))) ∧ ((.v (vI (IntKind.i64.wrap z6)) : S) = .v (vI z6)) ∧ (∃ (x1 : UInt8), s[z6.toNat]? = some x1) ∧ ∀ (x1 : UInt8), (s[z6.toNat]? = some x1) → (let z4 := ((UInt8.toNat x1 : Nat) : Int); (s[z6.toNat]? = some x1) ∧ ((0 : Int) ≤ at_ + q1.i) ∧ ((.v (.c (.int .u64 (IntKind.u64.wrap (z4)))) : S) = .v (.c (.int .u64 z4))) ∧ ((.v (.c (.int .u64 (IntKind.u64.wrap (z5 + z4)))) : S) = .v (.c (.int .u64 (z5 + z4)))) ∧ ((.v (vI (IntKind.i64.wrap (q1.i - 1))) : S) = .v (vI (q1.i - 1))) ∧ z9.Nxt q1 [(0, .v (vT s)), (1, .v (vI at_)), (8, .v (.c (.int .u64 (z5 + z4)))), (9, .v (vI (q1.i - 1)))] [])) ∧ ((decide (0 ≤ q1.i)) = false → (.tup [.c (.int .u64 q1.u), vB true] : S) = .tup [.c (.int .u64 z14), vB z13] ∧ z17 = [])))))) (by kernel_rfl) ?_
 refine ⟨fun h1 => have q1 := bnot_t h1; have p1 := of_decide_eq_false q1; ?_, fun h1 => have q1 := bnot_f h1; have p1 := of_decide_eq_true q1; ?_⟩
 refine ⟨fun h2 => have q2 := bnot_t h2; have p2 := of_decide_eq_false q2; ?_, fun h2 => have q2 := bnot_f h2; have p2 := of_decide_eq_true q2; ?_⟩
 refine ⟨(congrArg S.tup (consE (congrArg V.c (congrArg (C.int .u64) ?_)) (consE (congrArg V.c (congrArg C.bool ?_)) rfl))), rfl⟩
 rotate_left 2
 refine ⟨(as_i64 (by omega) (by omega)), (within_s _ _ _), fun h3 => have q3 := bnot_t h3; have p3 := within_f q3; ?_, fun h3 => have q3 := bnot_f h3; have p3 := within_t q3; ?_⟩
 refine ⟨(congrArg S.tup (consE (congrArg V.c (congrArg (C.int .u64) ?_)) (consE (congrArg V.c (congrArg C.bool ?_)) rfl))), rfl⟩
 rotate_left 2
 refine ⟨(as_i64 (by omega) (by omega)), has_of (j := (⟨0, w - 1⟩ : getFix_s_V0)) rfl rfl (by dsimp only [getFix_s_F0]; exact ⟨by omega, by omega, by simp [getFixN]⟩), fun (q1 : getFix_s_V0) hq_q1 => ?_⟩
 have hi_q1 : (-1 : Int) ≤ q1.i ∧ q1.i < w ∧ q1.u = ((getFixN (List.take (Int.toNat (w - 1 - q1.i)) (List.drop (Int.toNat (at_ + q1.i + 1)) s)) : Nat) : Int) := hq_q1
 obtain ⟨v1, v2, v3⟩ := hi_q1
 have hw8 : w = 4 ∨ w = 8 := by omega
 have hlt := getFixN_le (l := List.take (Int.toNat (w - 1 - q1.i)) (List.drop (Int.toNat (at_ + q1.i + 1)) s)) (k := Int.toNat (w - 1 - q1.i)) (by rw [List.length_take]; omega)
 have hu0 : (0 : Int) ≤ q1.u := by rw [v3]; exact Int.natCast_nonneg _
 refine dsp (fun h4 p4 => ?_) fun h4 p4 => ?_
 have hle : getFixN (List.take (Int.toNat (w - 1 - q1.i)) (List.drop (Int.toNat (at_ + q1.i + 1)) s)) < 2 ^ 56 := Nat.lt_of_lt_of_le hlt (Nat.pow_le_pow_right (by decide) (by omega))
 have hu1 : q1.u < 72057594037927936 := by rw [v3]; omega
 refine ⟨(as_u64 (by omega) (by omega)), (as_i64 (by omega) (by omega)), (ax_get (l := s) (i := Int.toNat (at_ + q1.i)) (by omega)), fun x1 hx1 => ?_⟩
 have hb_x1 := UInt8.toNat_lt x1
 exact ⟨hx1, (by omega), (as_u64 (by omega) (by omega)), (as_u64 (by omega) (by omega)), (as_i64 (by omega) (by omega)), nxt_of (j := (⟨(256 * q1.u) + ((UInt8.toNat x1 : Nat) : Int), q1.i - 1⟩ : getFix_s_V0)) rfl rfl (by dsimp only [getFix_s_F0]; exact ⟨by omega, by omega, by rw [show Int.toNat (w - 1 - (q1.i - 1)) = Int.toNat (w - 1 - q1.i) + 1 by omega, show Int.toNat (at_ + (q1.i - 1) + 1) = Int.toNat (at_ + q1.i) by omega, drop_el hx1, List.take_succ_cons, getFixN, v3, show Int.toNat (at_ + q1.i) + 1 = Int.toNat (at_ + q1.i + 1) by omega]; omega⟩) (by dsimp only [getFix_s_F0]; omega)⟩
 have hok : getFixOk s at_ w = true := by simp [getFixOk, widthOk, within]; omega
 have hvw : q1.i = -1 := by omega
 rw [hvw] at v3
 have hr : q1.u = getFix s at_ w := by rw [getFix, if_pos hok, v3, show Int.toNat (w - 1 - -1) = w.toNat by omega, show Int.toNat (at_ + -1 + 1) = at_.toNat by omega]
 refine ⟨(congrArg S.tup (consE (congrArg V.c (congrArg (C.int .u64) ?_)) (consE (congrArg V.c (congrArg C.bool ?_)) rfl))), rfl⟩
 rotate_left 2
 refine ⟨(as_i64 (by omega) (by omega)), (within_s _ _ _), fun h2 => have q2 := bnot_t h2; have p2 := within_f q2; ?_, fun h2 => have q2 := bnot_f h2; have p2 := within_t q2; ?_⟩
 refine ⟨(congrArg S.tup (consE (congrArg V.c (congrArg (C.int .u64) ?_)) (consE (congrArg V.c (congrArg C.bool ?_)) rfl))), rfl⟩
 rotate_left 2
 refine ⟨(as_i64 (by omega) (by omega)), has_of (j := (⟨0, w - 1⟩ : getFix_s_V0)) rfl rfl (by dsimp only [getFix_s_F0]; exact ⟨by omega, by omega, by simp [getFixN]⟩), fun (q1 : getFix_s_V0) hq_q1 => ?_⟩
 have hi_q1 : (-1 : Int) ≤ q1.i ∧ q1.i < w ∧ q1.u = ((getFixN (List.take (Int.toNat (w - 1 - q1.i)) (List.drop (Int.toNat (at_ + q1.i + 1)) s)) : Nat) : Int) := hq_q1
 obtain ⟨v1, v2, v3⟩ := hi_q1
 have hw8 : w = 4 ∨ w = 8 := by omega
 have hlt := getFixN_le (l := List.take (Int.toNat (w - 1 - q1.i)) (List.drop (Int.toNat (at_ + q1.i + 1)) s)) (k := Int.toNat (w - 1 - q1.i)) (by rw [List.length_take]; omega)
 have hu0 : (0 : Int) ≤ q1.u := by rw [v3]; exact Int.natCast_nonneg _
 refine dsp (fun h3 p3 => ?_) fun h3 p3 => ?_
 have hle : getFixN (List.take (Int.toNat (w - 1 - q1.i)) (List.drop (Int.toNat (at_ + q1.i + 1)) s)) < 2 ^ 56 := Nat.lt_of_lt_of_le hlt (Nat.pow_le_pow_right (by decide) (by omega))
 have hu1 : q1.u < 72057594037927936 := by rw [v3]; omega
 refine ⟨(as_u64 (by omega) (by omega)), (as_i64 (by omega) (by omega)), (ax_get (l := s) (i := Int.toNat (at_ + q1.i)) (by omega)), fun x1 hx1 => ?_⟩
 have hb_x1 := UInt8.toNat_lt x1
 exact ⟨hx1, (by omega), (as_u64 (by omega) (by omega)), (as_u64 (by omega) (by omega)), (as_i64 (by omega) (by omega)), nxt_of (j := (⟨(256 * q1.u) + ((UInt8.toNat x1 : Nat) : Int), q1.i - 1⟩ : getFix_s_V0)) rfl rfl (by dsimp only [getFix_s_F0]; exact ⟨by omega, by omega, by rw [show Int.toNat (w - 1 - (q1.i - 1)) = Int.toNat (w - 1 - q1.i) + 1 by omega, show Int.toNat (at_ + (q1.i - 1) + 1) = Int.toNat (at_ + q1.i) by omega, drop_el hx1, List.take_succ_cons, getFixN, v3, show Int.toNat (at_ + q1.i) + 1 = Int.toNat (at_ + q1.i + 1) by omega]; omega⟩) (by dsimp only [getFix_s_F0]; omega)⟩
 have hok : getFixOk s at_ w = true := by simp [getFixOk, widthOk, within]; omega
 have hvw : q1.i = -1 := by omega
 rw [hvw] at v3
 have hr : q1.u = getFix s at_ w := by rw [getFix, if_pos hok, v3, show Int.toNat (w - 1 - -1) = w.toNat by omega, show Int.toNat (at_ + -1 + 1) = at_.toNat by omega]
 refine ⟨(congrArg S.tup (consE (congrArg V.c (congrArg (C.int .u64) ?_)) (consE (congrArg V.c (congrArg C.bool ?_)) rfl))), rfl⟩
 rotate_left 2
 all_goals first | (exact hr) | (exact hok.symm) | (simp_all [getFixOk, getFix, widthOk]; done)
structure putFix_i_V0 where
 u : Int
 out : List Int
 v : Nat
structure putFix_s_V0 where
 u : Int
 out : List Int
 i : Nat
theorem tagOf_s (n : Int) (w : Int) : Fun Tryz.prog 117 [vI n, vI w] [] (.v (.c (.int .u64 (tagOf n w)))) [] := by
 have hN : bigN = 274877906944 := rfl
 refine fun_ofw Tryz.func117 (by kernel_rfl) (by kernel_rfl) (w := let z1 := (8 * n) + w; let z2 := within n 1 536870911; let z3 := within w 0 7; (.seg [.call [] (.v (vB z2)) []] (.br (.leaf () []) (.seg [.call [] (.v (vB z3)) []] (.br (.leaf () []) (.seg [.as 14 (.v (vI (8 * n))), .as 16 (.v (vI z1)), .as 17 (.v (.c (.int .u64 z1)))] (.leaf () []))))), (Fun Tryz.prog 45 [vI n, vI 1, vI 536870911] [] (.v (vB z2)) []) ∧ ((!z2) = true → (.v (.c (.int .u64 0)) : S) = .v (.c (.int .u64 (tagOf n w))) ∧ ([] : List Blk) = []) ∧ ((!z2) = false → (Fun Tryz.prog 45 [vI w, vI 0, vI 7] [] (.v (vB z3)) []) ∧ ((!z3) = true → (.v (.c (.int .u64 0)) : S) = .v (.c (.int .u64 (tagOf n w))) ∧ ([] : List Blk) = []) ∧ ((!z3) = false → ((.v (vI (IntKind.i64.wrap (8 * n))) : S) = .v (vI (8 * n))) ∧ ((.v (vI (IntKind.i64.wrap z1)) : S) = .v (vI z1)) ∧ ((.v (.c (.int .u64 (IntKind.u64.wrap z1))) : S) = .v (.c (.int .u64 z1))) ∧ (.v (.c (.int .u64 z1)) : S) = .v (.c (.int .u64 (tagOf n w))) ∧ ([] : List Blk) = [])))) (by kernel_rfl) ?_
 refine ⟨(within_s _ _ _), fun h1 => have q1 := bnot_t h1; have p1 := within_f q1; ?_, fun h1 => have q1 := bnot_f h1; have p1 := within_t q1; ?_⟩
 exact ⟨(congrArg S.v (congrArg V.c (congrArg (C.int .u64) (by simp [tagOf, *])))), rfl⟩
 refine ⟨(within_s _ _ _), fun h2 => have q2 := bnot_t h2; have p2 := within_f q2; ?_, fun h2 => have q2 := bnot_f h2; have p2 := within_t q2; ?_⟩
 exact ⟨(congrArg S.v (congrArg V.c (congrArg (C.int .u64) (by simp [tagOf, *])))), rfl⟩
 exact ⟨(as_i64 (by omega) (by omega)), (as_i64 (by omega) (by omega)), (as_u64 (by omega) (by omega)), (congrArg S.v (congrArg V.c (congrArg (C.int .u64) (by simp [tagOf, *])))), rfl⟩
theorem tagIn_i (u : Int) (hp1 : (0 : Int) ≤ u ∧ u ≤ 18446744073709551615) : Fun Tryz.prog 74 [.c (.int .u64 u)] [] (.tup [vI (tagNum u), vI (tagWire u), vB (tagOk u)]) [] := by
 have hN : bigN = 274877906944 := rfl
 refine fun_ofw Tryz.func74 (by kernel_rfl) (by kernel_rfl) (w := let z1 : List V := [vI (tagNum u), vI (tagWire u), vB (tagOk u)]; let z2 := (.v (.c (.int .u64 (Int.fdiv u (2 ^ 3)))) : S) = .v (.c (.int .u64 (u / 8))); let z3 := (.tup [vI 0, vI 0, vB false] : S); (.br (.leaf () []) (.seg [.as 9 (.v (.c (.int .u64 (u / 8))))] (.br (.leaf () []) (.seg [.as 13 (.v (.c (.int .u64 (u / 8)))), .as 14 (.v (vI (u / 8))), .as 16 (.v (.c (.int .u64 (u % 8)))), .as 17 (.v (vI (u % 8)))] (.leaf () [])))), ((decide (u < 8)) = true → z3 = .tup z1 ∧ ([] : List Blk) = []) ∧ ((decide (u < 8)) = false → ((0 : Int) ≤ 3) ∧ z2 ∧ ((decide (536870911 < u / 8)) = true → z3 = .tup z1 ∧ ([] : List Blk) = []) ∧ ((decide (536870911 < u / 8)) = false → ((0 : Int) ≤ 3) ∧ z2 ∧ ((.v (vI (IntKind.i64.wrap (u / 8))) : S) = .v (vI (u / 8))) ∧ ((.v (.c (.int .u64 (IntKind.u64.wrap (((BitVec.ofInt 64 u &&& BitVec.ofInt 64 7).toNat : Nat))))) : S) = .v (.c (.int .u64 (u % 8)))) ∧ ((.v (vI (IntKind.i64.wrap (u % 8))) : S) = .v (vI (u % 8))) ∧ (.tup [vI (u / 8), vI (u % 8), vB true] : S) = .tup z1 ∧ ([] : List Blk) = [])))) (by kernel_rfl) ?_
 refine dsp (fun h1 p1 => ?_) fun h1 p1 => ?_
 refine ⟨(congrArg S.tup (consE (congrArg V.c (congrArg (C.int .i64) ?_)) (consE (congrArg V.c (congrArg (C.int .i64) ?_)) (consE (congrArg V.c (congrArg C.bool ?_)) rfl)))), rfl⟩
 rotate_left 3
 refine ⟨(by decide), (as_shr (k := 3) (by decide) (by decide)), dsp (fun h2 p2 => ?_) fun h2 p2 => ?_⟩
 refine ⟨(congrArg S.tup (consE (congrArg V.c (congrArg (C.int .i64) ?_)) (consE (congrArg V.c (congrArg (C.int .i64) ?_)) (consE (congrArg V.c (congrArg C.bool ?_)) rfl)))), rfl⟩
 rotate_left 3
 refine ⟨(by decide), (as_shr (k := 3) (by decide) (by decide)), (as_i64 (by omega) (by omega)), (as_mask_u64 (k := 3) (by decide) (by decide)), (as_i64 (by omega) (by omega)), (congrArg S.tup (consE (congrArg V.c (congrArg (C.int .i64) ?_)) (consE (congrArg V.c (congrArg (C.int .i64) ?_)) (consE (congrArg V.c (congrArg C.bool ?_)) rfl)))), rfl⟩
 rotate_left 3
 all_goals first | ((have ht : tagOk u = true := by (simp [tagOk, within]; omega)); simp [tagNum, tagWire, ht]) | ((have ht : tagOk u = false := by (simp [tagOk, within]; omega)); simp [tagNum, tagWire, ht])
theorem tagIn_s (u : Int) (hp1 : (0 : Int) ≤ u ∧ u ≤ 18446744073709551615) : Fun Tryz.prog 83 [.c (.int .u64 u)] [] (.tup [vI (tagNum u), vI (tagWire u), vB (tagOk u)]) [] := by
 have hN : bigN = 274877906944 := rfl
 refine fun_ofw Tryz.func83 (by kernel_rfl) (by kernel_rfl) (w := let z1 : List V := [vI (tagNum u), vI (tagWire u), vB (tagOk u)]; let z2 := (.tup [vI 0, vI 0, vB false] : S); (.br (.leaf () []) (.br (.leaf () []) (.seg [.as 12 (.v (.c (.int .u64 (u / 8)))), .as 13 (.v (vI (u / 8))), .as 15 (.v (.c (.int .u64 (u % 8)))), .as 16 (.v (vI (u % 8)))] (.leaf () []))), ((decide (u < 8)) = true → z2 = .tup z1 ∧ ([] : List Blk) = []) ∧ ((decide (u < 8)) = false → ((decide (4294967295 < u)) = true → z2 = .tup z1 ∧ ([] : List Blk) = []) ∧ ((decide (4294967295 < u)) = false → ((8 : Int) ≠ 0) ∧ ((.v (.c (.int .u64 (IntKind.u64.wrap (Int.tdiv u 8)))) : S) = .v (.c (.int .u64 (u / 8)))) ∧ ((.v (vI (IntKind.i64.wrap (u / 8))) : S) = .v (vI (u / 8))) ∧ ((8 : Int) ≠ 0) ∧ ((.v (.c (.int .u64 (Int.tmod u 8))) : S) = .v (.c (.int .u64 (u % 8)))) ∧ ((.v (vI (IntKind.i64.wrap (u % 8))) : S) = .v (vI (u % 8))) ∧ (.tup [vI (u / 8), vI (u % 8), vB true] : S) = .tup z1 ∧ ([] : List Blk) = [])))) (by kernel_rfl) ?_
 refine dsp (fun h1 p1 => ?_) fun h1 p1 => ?_
 refine ⟨(congrArg S.tup (consE (congrArg V.c (congrArg (C.int .i64) ?_)) (consE (congrArg V.c (congrArg (C.int .i64) ?_)) (consE (congrArg V.c (congrArg C.bool ?_)) rfl)))), rfl⟩
 rotate_left 3
 refine dsp (fun h2 p2 => ?_) fun h2 p2 => ?_
 refine ⟨(congrArg S.tup (consE (congrArg V.c (congrArg (C.int .i64) ?_)) (consE (congrArg V.c (congrArg (C.int .i64) ?_)) (consE (congrArg V.c (congrArg C.bool ?_)) rfl)))), rfl⟩
 rotate_left 3
 refine ⟨(by decide), (as_tdiv_u64 (by omega) (by omega) (by decide)), (as_i64 (by omega) (by omega)), (by decide), (as_tmod (by omega)), (as_i64 (by omega) (by omega)), (congrArg S.tup (consE (congrArg V.c (congrArg (C.int .i64) ?_)) (consE (congrArg V.c (congrArg (C.int .i64) ?_)) (consE (congrArg V.c (congrArg C.bool ?_)) rfl)))), rfl⟩
 rotate_left 3
 all_goals first | ((have ht : tagOk u = true := by (simp [tagOk, within]; omega)); simp [tagNum, tagWire, ht]) | ((have ht : tagOk u = false := by (simp [tagOk, within]; omega)); simp [tagNum, tagWire, ht])
theorem failure_i (c : Int) (a : Int) : Fun Tryz.prog 127 [vI c, vI a] [] (.v (.agg (cEv (failEv c a)))) [] := by
 have hN : bigN = 274877906944 := rfl
 refine fun_ofw Tryz.func127 (by kernel_rfl) (by kernel_rfl) (w := (.leaf () [], (.v (.agg [.int .i64 10, .int .i64 0, .int .u64 0, .int .i64 0, .str [], .int .i64 c, .int .i64 a]) : S) = .v (.agg (cEv (failEv c a))) ∧ ([] : List Blk) = [])) (by kernel_rfl) ?_
 have hm1 : failEv c a = (⟨10, 0, 0, 0, [], c, a⟩ : Ev) := by rfl
 exact ⟨(by rw [hm1] <;> rfl), rfl⟩
theorem failure_s (c : Int) (a : Int) : Fun Tryz.prog 85 [vI c, vI a] [] (.v (.agg (cEv (failEv c a)))) [] := by
 have hN : bigN = 274877906944 := rfl
 refine fun_ofw Tryz.func85 (by kernel_rfl) (by kernel_rfl) (w := (.leaf () [], (.v (.agg [.int .i64 10, .int .i64 0, .int .u64 0, .int .i64 0, .str [], .int .i64 c, .int .i64 a]) : S) = .v (.agg (cEv (failEv c a))) ∧ ([] : List Blk) = [])) (by kernel_rfl) ?_
 have hm1 : failEv c a = (⟨10, 0, 0, 0, [], c, a⟩ : Ev) := by rfl
 exact ⟨(by rw [hm1] <;> rfl), rfl⟩
theorem numEvent_i (f : Fld) (u : Int) (hp1 : (0 : Int) ≤ u) : Fun Tryz.prog 81 [.agg (cFld f), .c (.int .u64 u)] [] (.v (.agg (cEv (numEv f u)))) [] := by
 have hN : bigN = 274877906944 := rfl
 refine fun_ofw Tryz.func81 (by kernel_rfl) (by kernel_rfl) (w := let zi : Int → C := .int .i64; let z1 : List C := [zi 2, zi f.number, .int .u64 u, zi 0, .str [], zi 0, zi 0]; (.br (.br (.leaf () []) (.leaf () [])) (.leaf () []), ((decide (f.kind = 3)) = true → ((!decide (u = 0)) = true → (.v (.agg [zi 2, zi f.number, .int .u64 1, zi 0, .str [], zi 0, zi 0]) : S) = .v (.agg (cEv (numEv f u))) ∧ ([] : List Blk) = []) ∧ ((!decide (u = 0)) = false → (.v (.agg z1) : S) = .v (.agg (cEv (numEv f u))) ∧ ([] : List Blk) = [])) ∧ ((decide (f.kind = 3)) = false → (.v (.agg z1) : S) = .v (.agg (cEv (numEv f u))) ∧ ([] : List Blk) = []))) (by kernel_rfl) ?_
 refine dsp (fun h1 p1 => ?_) fun h1 p1 => ?_
 refine ⟨fun h2 => have q2 := bnot_t h2; have p2 := of_decide_eq_false q2; ?_, fun h2 => have q2 := bnot_f h2; have p2 := of_decide_eq_true q2; ?_⟩
 refine have hm1 : numEv f u = (⟨2, f.number, 1, 0, [], 0, 0⟩ : Ev) := ?_; ?_
 rotate_left
 exact ⟨(by rw [hm1] <;> rfl), rfl⟩
 refine have hm1 : numEv f u = (⟨2, f.number, u, 0, [], 0, 0⟩ : Ev) := ?_; ?_
 rotate_left
 exact ⟨(by rw [hm1] <;> rfl), rfl⟩
 refine have hm1 : numEv f u = (⟨2, f.number, u, 0, [], 0, 0⟩ : Ev) := ?_; ?_
 rotate_left
 exact ⟨(by rw [hm1] <;> rfl), rfl⟩
 all_goals simp [numEv, *] <;> omega
theorem numEvent_s (f : Fld) (u : Int) (hp1 : (0 : Int) ≤ u) : Fun Tryz.prog 139 [.agg (cFld f), .c (.int .u64 u)] [] (.v (.agg (cEv (numEv f u)))) [] := by
 have hN : bigN = 274877906944 := rfl
 refine fun_ofw Tryz.func139 (by kernel_rfl) (by kernel_rfl) (w := let zi : Int → C := .int .i64; let z1 : List C := [zi 2, zi f.number, .int .u64 u, zi 0, .str [], zi 0, zi 0]; (.br (.br (.leaf () []) (.leaf () [])) (.leaf () []), ((decide (f.kind = 3)) = true → ((decide (1 < u)) = true → (.v (.agg [zi 2, zi f.number, .int .u64 1, zi 0, .str [], zi 0, zi 0]) : S) = .v (.agg (cEv (numEv f u))) ∧ ([] : List Blk) = []) ∧ ((decide (1 < u)) = false → (.v (.agg z1) : S) = .v (.agg (cEv (numEv f u))) ∧ ([] : List Blk) = [])) ∧ ((decide (f.kind = 3)) = false → (.v (.agg z1) : S) = .v (.agg (cEv (numEv f u))) ∧ ([] : List Blk) = []))) (by kernel_rfl) ?_
 refine dsp (fun h1 p1 => ?_) fun h1 p1 => ?_
 refine dsp (fun h2 p2 => ?_) fun h2 p2 => ?_
 refine have hm1 : numEv f u = (⟨2, f.number, 1, 0, [], 0, 0⟩ : Ev) := ?_; ?_
 rotate_left
 exact ⟨(by rw [hm1] <;> rfl), rfl⟩
 refine have hm1 : numEv f u = (⟨2, f.number, u, 0, [], 0, 0⟩ : Ev) := ?_; ?_
 rotate_left
 exact ⟨(by rw [hm1] <;> rfl), rfl⟩
 refine have hm1 : numEv f u = (⟨2, f.number, u, 0, [], 0, 0⟩ : Ev) := ?_; ?_
 rotate_left
 exact ⟨(by rw [hm1] <;> rfl), rfl⟩
 all_goals simp [numEv, *] <;> omega
theorem frameOf_i (b : List UInt8) (hp1 : b.length ≤ bigN) : Fun Tryz.prog 13 [vT b] [] (.v (vT (frameOf b))) [] := by
 have hN : bigN = 274877906944 := rfl
 refine fun_ofw Tryz.func13 (by kernel_rfl) (by kernel_rfl) (w := let z1 := (b.length : Int); (.seg [.as 5 (.v (.c (.int .u64 z1))), .call [] (.v (vT (putVar z1))) []] (.leaf () []), ((.v (.c (.int .u64 (IntKind.u64.wrap (z1)))) : S) = .v (.c (.int .u64 z1))) ∧ (Fun Tryz.prog 33 [.c (.int .u64 z1)] [] (.v (vT (putVar z1))) []) ∧ (((List.length (putVar z1) + b.length : Nat) : Int) ≤ i64max) ∧ (.v (vT ((putVar z1) ++ b)) : S) = .v (vT (frameOf b)) ∧ ([] : List Blk) = [])) (by kernel_rfl) ?_
 exact ⟨(as_u64 (by omega) (by omega)), (putVar_i _ (by omega)), (by have := putVar_len (u := (b.length : Int)) (by omega); simp only [i64max]; omega), (congrArg S.v (congrArg V.c (congrArg C.str (by rfl)))), rfl⟩
theorem frameOf_s (b : List UInt8) (hp1 : b.length ≤ bigN) : Fun Tryz.prog 29 [vT b] [] (.v (vT (frameOf b))) [] := by
 have hN : bigN = 274877906944 := rfl
 refine fun_ofw Tryz.func29 (by kernel_rfl) (by kernel_rfl) (w := let z1 := (b.length : Int); (.seg [.as 5 (.v (.c (.int .u64 z1))), .call [] (.v (vT (putVar z1))) []] (.leaf () []), ((.v (.c (.int .u64 (IntKind.u64.wrap (z1)))) : S) = .v (.c (.int .u64 z1))) ∧ (Fun Tryz.prog 54 [.c (.int .u64 z1)] [] (.v (vT (putVar z1))) []) ∧ (((List.length (putVar z1) + b.length : Nat) : Int) ≤ i64max) ∧ (.v (vT ((putVar z1) ++ b)) : S) = .v (vT (frameOf b)) ∧ ([] : List Blk) = [])) (by kernel_rfl) ?_
 exact ⟨(as_u64 (by omega) (by omega)), (putVar_s _ (by omega)), (by have := putVar_len (u := (b.length : Int)) (by omega); simp only [i64max]; omega), (congrArg S.v (congrArg V.c (congrArg C.str (by rfl)))), rfl⟩
end Go.Proofs.YtaflinakodideaaGreat.Ax
