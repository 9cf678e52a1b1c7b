/- Models. Numbers. Varints. Numbers of so many bytes; tags. Utf-8. -/
import Derived.Test.YtaflinakodideaaGreatKB4
set_option linter.unusedSimpArgs false
set_option linter.unusedVariables false
namespace Go.Proofs.YtaflinakodideaaGreat.Ax
open Go.RowKit
theorem consE {α : Type} {a b : α} {l m : List α} (h : a = b) (t : l = m) : a :: l = b :: m := by rw [h, t]
def vI (x : Int) : V := .c (.int .i64 x)
def vB (x : Bool) : V := .c (.bool x)
def vT (x : List UInt8) : V := .c (.str x)
def vO (j : Nat) : V := .c (.own j)
def vP (j : Nat) : V := .c (.ptr j 0)
theorem sB {a b : Bool} (h : a = b) : (.v (.c (.bool a)) : S) = .v (.c (.bool b)) := by rw [h]
theorem sI {a b : Int} (h : a = b) : (.v (.c (.int .i64 a)) : S) = .v (.c (.int .i64 b)) := by rw [h]
theorem dT {p : Prop} [Decidable p] : decide p = true ↔ p := decide_eq_true_iff
theorem dF {p : Prop} [Decidable p] : decide p = false ↔ ¬ p := decide_eq_false_iff_not
theorem andT {a b : Bool} {P Q : Prop} (h : a = true ↔ P) (g : b = true ↔ Q) : (a && b) = true ↔ P ∧ Q := by rw [Bool.and_eq_true, h, g]
theorem andF {a b : Bool} {P Q : Prop} (h : a = true ↔ P) (g : b = false ↔ Q) : (a && b) = false ↔ (P → Q) := by rw [Bool.and_eq_false_imp, h, g]
theorem has_of {F : Fam} {j : F.ι} {tm : List (Nat × S)} {H : List Blk} (h1 : tm = F.tm j) (h2 : H = F.H j) (h : F.inv j) : F.Has tm H := ⟨j, h, h1, h2⟩
theorem nxt_of {F : Fam} {i j : F.ι} {tm : List (Nat × S)} {H : List Blk} (h1 : tm = F.tm j) (h2 : H = F.H j) (h : F.inv j) (hm : F.mu j < F.mu i) : F.Nxt i tm H := ⟨j, ⟨h, hm⟩, h1, h2⟩
abbrev In {α : Type} (P Q : α → Prop) : Prop := (∃ o, P o) ∧ ∀ o, P o → Q o
theorem fun_ofw {P : Program} {f : FuncId} {fn : Func} (hf : P.funcs[f]? = some fn) (hb : fn.body.isNone = false) (hn : (fn.name == "runtime.NumGoroutine") = false) {args : List V} {L L' : List Blk} {r : S} {w : DT Unit × Prop}
  (hw : walkT P fn args L w.1 (fun _ r' Lp => r' = r ∧ Lp = L') = w.2) (h : w.2) : Fun P f args L r L' := fun_of hf hb hn hw h
theorem funs_ofw {P : Program} {ι : Type} {f : FuncId} {fn : Func} (hf : P.funcs[f]? = some fn) (hb : fn.body.isNone = false) (hn : (fn.name == "runtime.NumGoroutine") = false) {args : List V} {L : List Blk} {L' : ι → List Blk} {r : ι → S} {good : ι → Prop} {w : DT ι × Prop}
  (hw : walkT P fn args L w.1 (fun i r' Lp => good i ∧ r' = r i ∧ Lp = L' i) = w.2) (h : w.2) : ∃ i, good i ∧ Fun P f args L (r i) (L' i) := funs_of hf hb hn hw h
theorem dsp {p : Prop} [Decidable p] {A B : Prop} (h1 : decide p = true → p → A) (h2 : decide p = false → ¬ p → B) : (decide p = true → A) ∧ (decide p = false → B) := ⟨fun h => h1 h (of_decide_eq_true h), fun h => h2 h (of_decide_eq_false h)⟩
/-! ### Structures -/
structure Scn where
 bits : Int
 have_ : Int
 deriving DecidableEq, Inhabited
structure Utf where
 want : Int
 low : Int
 high : Int
 deriving DecidableEq, Inhabited
structure Pln where
 shapes : List Shp
 root : Int
 deep : Int
 most : Int
 deriving DecidableEq, Inhabited
structure Dcd where
 plan : Pln
 mode : Int
 stack : List Lev
 scan : Scn
 start : Int
 at_ : Int
 field : Fld
 wire : Int
 want : Int
 utf : Utf
 end_ : Ev
 deriving DecidableEq, Inhabited
def fld0 : Fld := ⟨0, 0, false, false, 0⟩
def utf0 : Utf := ⟨0, 0, 0⟩
theorem drop_el {α : Type} {l : List α} {i : Nat} {x : α} (h : l[i]? = some x) : l.drop i = x :: l.drop (i + 1) := by
 have hl := (List.getElem?_eq_some_iff.1 h).1
 rw [List.drop_eq_getElem_cons hl]
 congr 1
 rw [List.getElem?_eq_getElem hl] at h
 exact Option.some.inj h
theorem bnot_t {b : Bool} (h : (!b) = true) : b = false := by cases b <;> simp_all
theorem bnot_f {b : Bool} (h : (!b) = false) : b = true := by cases b <;> simp_all
theorem getD_of {α : Type} {l : List α} {i : Nat} {x d : α} (h : l[i]? = some x) : l.getD i d = x := by simp [List.getD, h]
theorem drop_end {α : Type} {l : List α} {i : Nat} (h : ¬ ((i : Nat) : Int) < ((l.length : Nat) : Int)) : l.drop i = [] := List.drop_eq_nil_of_le (by omega)
/-! ### Words of numbers -/
theorem as_tmod {k : IntKind} {a m : Int} (h : 0 ≤ a) : (.v (.c (.int k (Int.tmod a m))) : S) = .v (.c (.int k (a % m))) := by rw [Int.tmod_eq_emod_of_nonneg h]
theorem as_tdiv_u64 {a m : Int} (h : 0 ≤ a) (h2 : a ≤ 18446744073709551615) (hm : 0 < m) : (.v (.c (.int .u64 (IntKind.u64.wrap (Int.tdiv a m)))) : S) = .v (.c (.int .u64 (a / m))) := by
 rw [Int.tdiv_eq_ediv_of_nonneg h]
 have h3 := Int.ediv_nonneg h (Int.le_of_lt hm)
 have h4 := Int.ediv_le_self m h
 exact as_u64 (by omega) (by omega)
theorem or_add {a b : Int} {k : Nat} (ha : 0 ≤ a) (hk : a < 2 ^ k) {c : Int} (hc : 0 ≤ c) (hb : b = c * 2 ^ k) (hs : b + 2 ^ k ≤ 18446744073709551616) : (((BitVec.ofInt 64 a ||| BitVec.ofInt 64 b).toNat : Nat) : Int) = a + b := by
 obtain ⟨n, rfl⟩ := Int.eq_ofNat_of_zero_le ha
 obtain ⟨m, rfl⟩ := Int.eq_ofNat_of_zero_le hc
 have hb' : b = ((m * 2 ^ k : Nat) : Int) := by rw [hb, Int.natCast_mul, Int.natCast_pow]; rfl
 have hp : (0 : Int) < 2 ^ k := Int.pow_pos (by decide)
 subst hb'
 have e : ((2 ^ k : Nat) : Int) = 2 ^ k := by rw [Int.natCast_pow]; rfl
 rw [← e] at hk hs hp
 have h1 : n < 2 ^ k := by omega
 have h2 : m * 2 ^ k + 2 ^ k ≤ 18446744073709551616 := by omega
 have h3 : n < 2 ^ 64 := by omega
 have h4 : m * 2 ^ k < 2 ^ 64 := by omega
 rw [BitVec.toNat_or, BitVec.ofInt_natCast, BitVec.ofInt_natCast, BitVec.toNat_ofNat, BitVec.toNat_ofNat, Nat.mod_eq_of_lt h3, Nat.mod_eq_of_lt h4, Nat.or_comm, Nat.mul_comm m, ← Nat.two_pow_add_eq_or_of_lt h1]
 rw [Nat.mul_comm, Int.natCast_add, Int.add_comm]
/-! ### Kinds, wires, numbers -/
def numberOk (n : Int) : Bool := within n 1 536870911 && !within n 19000 19999
def kindOk (k : Int) : Bool := within k 1 8
def numeric (k : Int) : Bool := within k 1 5
def wireOf (k : Int) : Int := if kindOk k then (if k = 4 then 5 else if k = 5 then 1 else if k ≤ 3 then 0 else 2) else -1
def widthOf (w : Int) : Int := if w = 1 then 8 else if w = 5 then 4 else 0
def bitsFit (k u : Int) : Bool := if k = 3 then decide (u ≤ 1) else if k = 4 then decide (u ≤ 4294967295) else numeric k
def runs (f : Fld) : Bool := f.rep && numeric f.kind
def hasField (k : Int) : Bool := decide (k = 2) || decide (k = 3) || decide (k = 6)
theorem widthOf_b (w : Int) : 0 ≤ widthOf w ∧ widthOf w ≤ 8 := by unfold widthOf; split <;> (try split) <;> omega
theorem wireOf_b (k : Int) : -1 ≤ wireOf k ∧ wireOf k ≤ 5 := by unfold wireOf; repeat' split; all_goals omega
/-! ### Schemas -/
def fldOk (f : Fld) (n : Int) : Bool := numberOk f.number && kindOk f.kind && !(f.packed && (!f.rep || !numeric f.kind)) && (if f.kind = 8 then within f.msg 0 (n - 1) else decide (f.msg = -1))
def fieldsOk (n : Int) : Int → List Fld → Bool
 | _, [] => true
 | b, f :: r => decide (b < f.number) && fldOk f n && fieldsOk n f.number r
def shapesOk (n : Int) : Int → List Shp → Bool
 | _, [] => true
 | b, x :: r => decide (b < x.id) && decide (x.id ≤ 99) && decide ((x.fields.length : Int) ≤ 8) && fieldsOk n 0 x.fields && shapesOk n x.id r
def schemaOk (l : List Shp) : Bool := decide ((l.length : Int) ≤ 6) && shapesOk (l.length : Int) 0 l
def fieldIn (l : List Fld) (n : Int) : Option Fld := l.find? fun f => decide (f.number = n)
def shp0 : Shp := ⟨0, []⟩
def fieldAt (l : List Shp) (s n : Int) : Option Fld := if within s 0 ((l.length : Int) - 1) then fieldIn (l.getD s.toNat shp0).fields n else none
def planOk (p : Pln) : Bool := schemaOk p.shapes && within p.root 0 ((p.shapes.length : Int) - 1) && within p.deep 1 8 && within p.most 0 2000
theorem fldOk_t {f : Fld} {n : Int} (h : fldOk f n = true) : 1 ≤ f.number ∧ f.number ≤ 536870911 ∧ 1 ≤ f.kind ∧ f.kind ≤ 8 ∧ (f.kind = 8 → 0 ≤ f.msg ∧ f.msg ≤ n - 1) ∧ (f.kind ≠ 8 → f.msg = -1) := by
 simp only [fldOk, numberOk, kindOk, within, Bool.and_eq_true, decide_eq_true_eq] at h
 obtain ⟨⟨⟨h1, h2⟩, h3⟩, h4⟩ := h
 refine ⟨h1.1.1, h1.1.2, h2.1, h2.2, fun hk => ?_, fun hk => ?_⟩
 ·rw [if_pos hk] at h4; simpa using h4
 ·rw [if_neg hk] at h4; simpa using h4
theorem schemaOk_t {l : List Shp} (h : schemaOk l = true) : l.length ≤ 6 := by
 simp only [schemaOk, Bool.and_eq_true, decide_eq_true_eq] at h; omega
theorem planOk_t {p : Pln} (h : planOk p = true) : p.shapes.length ≤ 6 ∧ schemaOk p.shapes = true ∧ 0 ≤ p.root ∧ p.root < (p.shapes.length : Int) ∧ 1 ≤ p.deep ∧ p.deep ≤ 8 ∧ 0 ≤ p.most ∧ p.most ≤ 2000 := by
 simp only [planOk, within, Bool.and_eq_true, decide_eq_true_eq] at h
 have := schemaOk_t h.1.1.1
 refine ⟨this, h.1.1.1, ?_⟩; omega
theorem fieldsOk_mem {n : Int} : ∀ {b : Int} {l : List Fld}, fieldsOk n b l = true → ∀ f ∈ l, fldOk f n = true ∧ b < f.number
 | _, [], _, f, hf => by cases hf
 | b, g :: r, h, f, hf => by
  simp only [fieldsOk, Bool.and_eq_true, decide_eq_true_eq] at h
  rcases List.mem_cons.1 hf with rfl | hf
  ·exact ⟨h.1.2, h.1.1⟩
  ·have := fieldsOk_mem h.2 f hf; exact ⟨this.1, by omega⟩
theorem shapesOk_mem {n : Int} : ∀ {b : Int} {l : List Shp}, shapesOk n b l = true → ∀ x ∈ l, (x.fields.length ≤ 8 ∧ fieldsOk n 0 x.fields = true) ∧ b < x.id ∧ x.id ≤ 99
 | _, [], _, f, hf => by cases hf
 | b, g :: r, h, f, hf => by
  simp only [shapesOk, Bool.and_eq_true, decide_eq_true_eq] at h
  rcases List.mem_cons.1 hf with rfl | hf
  ·exact ⟨⟨by omega, h.1.2⟩, h.1.1.1.1, h.1.1.1.2⟩
  ·have := shapesOk_mem h.2 f hf; exact ⟨this.1, by omega, this.2.2⟩
theorem schemaOk_fields {l : List Shp} (h : schemaOk l = true) : ∀ x ∈ l, List.length x.fields ≤ 1000 := fun x hx => by
 simp only [schemaOk, Bool.and_eq_true] at h
 have := (shapesOk_mem h.2 x hx).1.1
 omega
def tagOf (n w : Int) : Int := if within n 1 536870911 && within w 0 7 then 8 * n + w else 0
theorem tagOf_b (n w : Int) : 0 ≤ tagOf n w ∧ tagOf n w ≤ 4294967295 := by
 unfold tagOf within; split <;> simp_all <;> omega
/-! ### Utf-8 -/
def utfIs (u : Utf) (w l h : Int) : Bool := decide (u.want = w) && (decide (u.low = l) && decide (u.high = h))
def utfOk (u : Utf) : Bool := utfIs u 0 0 0 || utfIs u 1 128 191 || utfIs u 2 128 191 || utfIs u 3 128 191 || utfIs u 2 160 191 || utfIs u 2 128 159 || utfIs u 3 144 191 || utfIs u 3 128 143
theorem utfOk_t {u : Utf} (h : utfOk u = true) : (u.want = 0 ∧ u.low = 0 ∧ u.high = 0) ∨ (u.want = 1 ∧ u.low = 128 ∧ u.high = 191) ∨ (u.want = 2 ∧ u.low = 128 ∧ u.high = 191) ∨ (u.want = 3 ∧ u.low = 128 ∧ u.high = 191) ∨ (u.want = 2 ∧ u.low = 160 ∧ u.high = 191) ∨ (u.want = 2 ∧ u.low = 128 ∧ u.high = 159) ∨ (u.want = 3 ∧ u.low = 144 ∧ u.high = 191) ∨ (u.want = 3 ∧ u.low = 128 ∧ u.high = 143) := by
 simp only [utfOk, utfIs, Bool.or_eq_true, Bool.and_eq_true, decide_eq_true_eq] at h
 rcases h with ((((((h | h) | h) | h) | h) | h) | h) | h <;> simp [h]
theorem utfOk_zero {u : Utf} (h : utfOk u = true) (h0 : u.want = 0) : u = utf0 := by
 rcases utfOk_t h with h | h | h | h | h | h | h | h <;> first | (cases u; simp_all [utf0]; done) | omega
theorem utfOk_want {u : Utf} (h : utfOk u = true) : 0 ≤ u.want ∧ u.want ≤ 3 := by
 rcases utfOk_t h with h | h | h | h | h | h | h | h <;> omega
def utfFirst (b : Int) : Option Utf :=
 if within b 0 127 then some utf0
 else if within b 194 223 then some ⟨1, 128, 191⟩
 else if within b 224 239 then some ⟨2, if b = 224 then 160 else 128, if b = 237 then 159 else 191⟩
 else if within b 240 244 then some ⟨3, if b = 240 then 144 else 128, if b = 244 then 143 else 191⟩
 else none
def utfByte (u : Utf) (b : Int) : Option Utf :=
 if utfOk u then (if u.want = 0 then utfFirst b else if within b u.low u.high then some (if u.want = 1 then utf0 else ⟨u.want - 1, 128, 191⟩) else none) else none
def utfRun : Utf → List UInt8 → Nat → Utf × Option Nat
 | u, [], _ => (u, none)
 | u, b :: r, i => match utfByte u (b.toNat : Int) with
  | some v => utfRun v r (i + 1)
  | none => (u, some i)
def utfSt (u : Utf) (s : List UInt8) : Utf := (utfRun u s 0).1
def utfBad (u : Utf) (s : List UInt8) : Int := match (utfRun u s 0).2 with
 | some i => (i : Int)
 | none => -1
/-! ### Varints -/
theorem utf_eq {u : Utf} (h : u.want = 0 ∧ u.low = 0 ∧ u.high = 0) : u = utf0 := by cases u; simp_all [utf0]
theorem utf_ne {u : Utf} (h : ¬ (u.want = 0 ∧ u.low = 0 ∧ u.high = 0)) : u ≠ utf0 := fun e => h (by subst e; simp [utf0])
def putVarN (u : Nat) : List UInt8 := if h : u < 128 then [UInt8.ofNat u] else UInt8.ofNat (u % 128 + 128) :: putVarN (u / 128)
termination_by u
decreasing_by omega
def putVar (u : Int) : List UInt8 := putVarN u.toNat
def varLen (u : Int) : Int := ((putVar u).length : Int)
theorem putVarN_small {u : Nat} (h : u < 128) : putVarN u = [UInt8.ofNat u] := by rw [putVarN, dif_pos h]
theorem putVarN_big {u : Nat} (h : ¬ u < 128) : putVarN u = UInt8.ofNat (u % 128 + 128) :: putVarN (u / 128) := by rw [putVarN, dif_neg h]
theorem putVarN_len : ∀ (k u : Nat), u < 128 ^ k → 1 ≤ k → (putVarN u).length ≤ k
 | 0, _, _, h => by omega
 | k + 1, u, h, _ => by
  by_cases hu : u < 128
  ·rw [putVarN_small hu]; simp
  ·rw [putVarN_big hu]
   have hk : 1 ≤ k := by
    rcases k with _ | k
    ·simp at h; omega
    ·omega
   have := putVarN_len k (u / 128) (by rw [Nat.pow_succ] at h; exact Nat.div_lt_of_lt_mul (by rw [Nat.mul_comm]; exact h)) hk
   simp; omega
theorem putVarN_pos (u : Nat) : 1 ≤ (putVarN u).length := by
 by_cases hu : u < 128
 ·rw [putVarN_small hu]; simp
 ·rw [putVarN_big hu]; simp
theorem putVar_small {u : Int} (h0 : 0 ≤ u) (h : u ≤ 127) : putVar u = [UInt8.ofNat u.toNat] := putVarN_small (by omega)
theorem putVar_big {u : Int} (h0 : 0 ≤ u) (h : 127 < u) : putVar u = UInt8.ofNat (u % 128 + 128).toNat :: putVar (u / 128) := by
 unfold putVar
 rw [putVarN_big (by omega), show (u / 128).toNat = u.toNat / 128 by omega, show (u % 128 + 128).toNat = u.toNat % 128 + 128 by omega]
theorem putVar_pos (u : Int) : 1 ≤ (putVar u).length := putVarN_pos _
theorem varLen_b {u : Int} (h : u ≤ 18446744073709551615) : 1 ≤ varLen u ∧ varLen u ≤ 10 := by
 have h1 := putVarN_pos u.toNat
 have h2 := putVarN_len 10 u.toNat (by omega) (by omega)
 unfold varLen putVar; omega
def padL (u n : Nat) : List Int := (List.range n).map fun (i : Nat) => ((u / 128 ^ i % 128 + 128 : Nat) : Int)
theorem padL_len {u n : Nat} : (padL u n).length = n := by simp [padL]
theorem padL_get {u n i : Nat} (h : i < n) : (padL u n)[i]? = some ((u / 128 ^ i % 128 + 128 : Nat) : Int) := by simp [padL, h]
theorem padU_step {u i : Nat} : ((u / 128 ^ i : Nat) : Int) / 128 = ((u / 128 ^ (i + 1) : Nat) : Int) := by
 rw [Nat.pow_succ, ← Nat.div_div_eq_div_mul]; omega
theorem padL_succ {u n : Nat} : padL u (n + 1) = ((u % 128 + 128 : Nat) : Int) :: padL (u / 128) n := by
 simp only [padL, List.range_succ_eq_map, List.map_cons, List.map_map]
 congr 1
 ·simp
 ·apply List.map_congr_left
  intro i _
  simp only [Function.comp, Nat.succ_eq_add_one]
  rw [Nat.pow_succ, Nat.mul_comm, ← Nat.div_div_eq_div_mul]
theorem putVarN_pad : ∀ (k u : Nat), (putVarN u).length = k + 1 → putVarN u = ((padL u k).map toByte) ++ [UInt8.ofNat (u / 128 ^ k % 128)]
 | 0, u, h => by
  by_cases hu : u < 128
  ·rw [putVarN_small hu]; simp [padL, Nat.mod_eq_of_lt hu]
  ·rw [putVarN_big hu] at h
   have := putVarN_pos (u / 128)
   simp only [List.length_cons] at h; omega
 | k + 1, u, h => by
  by_cases hu : u < 128
  ·rw [putVarN_small hu] at h; simp at h
  ·rw [putVarN_big hu] at h ⊢
   have ih := putVarN_pad k (u / 128) (by simpa using h)
   rw [ih, padL_succ]
   simp only [List.map_cons, List.cons_append]
   congr 2
   rw [Nat.pow_succ, Nat.mul_comm, ← Nat.div_div_eq_div_mul]
theorem padL_fix {u : Int} {n : Nat} {x : Int} (hn : n = (putVar u).length) (hx : (padL u.toNat n)[n - 1]? = some x) : List.map toByte (List.set (padL u.toNat n) (n - 1) (x % 128)) = putVar u := by
 have hp := putVar_pos u
 obtain ⟨k, rfl⟩ : ∃ k, n = k + 1 := ⟨n - 1, by omega⟩
 have h := putVarN_pad k u.toNat (by unfold putVar at hn; omega)
 unfold putVar
 rw [h]
 have hk : k + 1 - 1 = k := by omega
 rw [hk] at hx ⊢
 rw [padL_get (by omega)] at hx
 have hx := Option.some.inj hx
 have hs : padL u.toNat (k + 1) = padL u.toNat k ++ [((u.toNat / 128 ^ k % 128 + 128 : Nat) : Int)] := by simp [padL, List.range_succ]
 rw [hs, List.set_append_right _ _ (by rw [padL_len]; omega), padL_len, Nat.sub_self, List.map_append]
 simp only [List.set_cons_zero, List.map_cons, List.map_nil, toByte]
 rw [← hx]
 congr 3
 omega
theorem mask_u8 {a : Int} (h : 0 ≤ a) (h2 : a ≤ 255) : (.v (.c (.int .u8 (IntKind.u8.wrap (((BitVec.ofInt 8 a &&& BitVec.ofInt 8 127).toNat : Nat) : Int)))) : S) = .v (.c (.int .u8 (a % 128))) := by
 obtain ⟨n, rfl⟩ := Int.eq_ofNat_of_zero_le h
 have e : (BitVec.ofInt 8 ((n : Nat) : Int) &&& BitVec.ofInt 8 127).toNat = n % 128 := by
  rw [BitVec.toNat_and, BitVec.ofInt_natCast, BitVec.toNat_ofNat, Nat.mod_eq_of_lt (by omega)]
  exact Nat.and_two_pow_sub_one_eq_mod n 7
 rw [e]
 have := as_u8 (x := ((n % 128 : Nat) : Int)) (by omega) (by omega)
 rw [this]; simp
theorem or_128 {a : Int} (h : 0 ≤ a) (h2 : a ≤ 127) : (.v (.c (.int .u64 (IntKind.u64.wrap (((BitVec.ofInt 64 a ||| BitVec.ofInt 64 128).toNat : Nat) : Int)))) : S) = .v (.c (.int .u64 (a + 128))) := by
 rw [or_add (k := 7) (c := 1) h (by omega) (by omega) (by decide) (by decide)]
 exact as_u64 (by omega) (by omega)
def putFixN : Nat → Nat → List UInt8
 | 0, _ => []
 | n + 1, u => UInt8.ofNat (u % 256) :: putFixN n (u / 256)
def widthOk (w : Int) : Bool := decide (w = 4) || decide (w = 8)
def putFix (u w : Int) : List UInt8 := if !widthOk w || (decide (w = 4) && decide (4294967295 < u)) then [] else putFixN w.toNat u.toNat
theorem widthOk_t {w : Int} (h : widthOk w = true) : w = 4 ∨ w = 8 := by simpa [widthOk] using h
theorem widthOk_f {w : Int} (h : widthOk w = false) : w ≠ 4 ∧ w ≠ 8 := by simpa [widthOk] using h
def fixL (u n : Nat) : List Int := (List.range n).map fun (i : Nat) => ((u / 256 ^ i % 256 : Nat) : Int)
theorem fixL_len {u n : Nat} : (fixL u n).length = n := by simp [fixL]
theorem fixL_get {u n i : Nat} (h : i < n) : (fixL u n)[i]? = some ((u / 256 ^ i % 256 : Nat) : Int) := by simp [fixL, h]
theorem fixU_step {u i : Nat} : ((u / 256 ^ i : Nat) : Int) / 256 = ((u / 256 ^ (i + 1) : Nat) : Int) := by
 rw [Nat.pow_succ, ← Nat.div_div_eq_div_mul]; omega
theorem fixL_put : ∀ (n u : Nat), (fixL u n).map toByte = putFixN n u
 | 0, u => rfl
 | n + 1, u => by
  rw [putFixN, ← fixL_put n (u / 256)]
  simp only [fixL, List.range_succ_eq_map, List.map_cons, List.map_map]
  congr 1
  ·simp only [toByte, Nat.pow_zero, Nat.div_one]; congr 1
  ·apply List.map_congr_left
   intro i _
   simp only [Function.comp, Nat.succ_eq_add_one]
   rw [Nat.pow_succ, Nat.mul_comm, ← Nat.div_div_eq_div_mul]
theorem as_mod8 {u : Int} (h : 0 ≤ u) : (.v (.c (.int .u8 (IntKind.u8.wrap u))) : S) = .v (.c (.int .u8 (u % 256))) := by
 have : IntKind.u8.wrap u = u % 256 := by simp [IntKind.wrap, IntKind.signed, IntKind.bits]
 rw [this]
theorem putFix_len {u w : Int} : (putFix u w).length ≤ 8 := by
 have hlen : ∀ (n u : Nat), (putFixN n u).length = n := fun n => by induction n with
  | zero => intro u; rfl
  | succ n ih => intro u; simp [putFixN, ih]
 unfold putFix
 split
 ·simp
 ·rename_i h
  have hw : widthOk w = true := by
   simp only [Bool.or_eq_true, Bool.not_eq_true', Bool.and_eq_true, not_or] at h
   simpa using h.1
  rw [hlen]
  rcases widthOk_t hw with rfl | rfl <;> decide
def frameOf (b : List UInt8) : List UInt8 := putVar (b.length : Int) ++ b
theorem putVar_len {u : Int} (h : u ≤ 18446744073709551615) : (putVar u).length ≤ 10 := by
 have := putVarN_len 10 u.toNat (by omega) (by omega); exact this
theorem fieldIn_cons {f : Fld} {l : List Fld} {n : Int} : fieldIn (f :: l) n = if f.number = n then some f else fieldIn l n := by
 unfold fieldIn; rw [List.find?_cons]; by_cases h : f.number = n <;> simp [h]
theorem fieldAt_in {l : List Shp} {s n : Int} {x : Shp} (hs : within s 0 ((l.length : Int) - 1) = true) (hx : l[s.toNat]? = some x) : fieldAt l s n = fieldIn x.fields n := by
 rw [fieldAt, if_pos hs, getD_of hx]
def many (l : List Ev) (k : Int) : Int := ((l.filter fun e => decide (e.kind = k)).length : Int)
def frameStopN : List Ev → Nat → Int
 | [], _ => -1
 | e :: r, i => if e.kind = 8 then (i : Int) else frameStopN r (i + 1)
def frameStop (l : List Ev) (a : Int) : Int := if a < 0 then -1 else frameStopN (l.drop a.toNat) a.toNat
theorem frameStopN_b : ∀ (l : List Ev) (i : Nat), frameStopN l i = -1 ∨ ((i : Int) ≤ frameStopN l i ∧ frameStopN l i < (i : Int) + (l.length : Int))
 | [], i => .inl rfl
 | e :: r, i => by
  unfold frameStopN
  split
  ·right; simp; omega
  ·rcases frameStopN_b r (i + 1) with h | h
   ·exact .inl h
   ·right; simp; omega
theorem frameStop_b (l : List Ev) (a : Int) : -1 ≤ frameStop l a ∧ (frameStop l a < (l.length : Int) ∨ (a : Int) > (l.length : Int) ∧ frameStop l a = -1) := by
 unfold frameStop
 split
 ·omega
 ·rcases frameStopN_b (l.drop a.toNat) a.toNat with h | h
  ·rw [h]; omega
  ·rw [List.length_drop] at h; omega
/-! ### Events as a frame -/
structure Fa where
 stack : List Int
 inText : Bool
 isText : Bool
 utf : Utf
 ended : Bool
 deriving Inhabited
structure Fmr where
 plan : Pln
 st : Fa
structure Fs where
 stack : List Int
 field : Fld
 open_ : Bool
 utf : Utf
 ended : Bool
def lastD (l : List Int) : Int := l.getD (l.length - 1) 0
def faOwn (p : Pln) (a : Fa) (e : Ev) : Option Fld := fieldAt p.shapes (lastD a.stack) e.field
def isBytes (k : Int) : Bool := decide (k = 6) || decide (k = 7)
def valCode (p : Pln) (a : Fa) (e : Ev) : Int := match faOwn p a e with
 | none => 3
 | some f =>
  if (e.kind = 2 ∧ numeric f.kind = false) ∨ (e.kind = 3 ∧ isBytes f.kind = false) ∨ (e.kind = 6 ∧ f.kind ≠ 8) then 2
  else if e.kind = 2 ∧ bitsFit f.kind e.bits = false then 4
  else if e.kind = 6 ∧ p.deep ≤ (a.stack.length : Int) then 6
  else 0
def valStep (p : Pln) (a : Fa) (e : Ev) : Fa :=
 if valCode p a e ≠ 0 then a
 else if e.kind = 3 then ⟨a.stack, true, decide (((faOwn p a e).getD fld0).kind = 6), utf0, a.ended⟩
 else if e.kind = 6 then ⟨a.stack ++ [((faOwn p a e).getD fld0).msg], a.inText, a.isText, a.utf, a.ended⟩
 else a
theorem valCode_some {p : Pln} {a : Fa} {e : Ev} {f : Fld} (h : faOwn p a e = some f) : valCode p a e = if (e.kind = 2 ∧ numeric f.kind = false) ∨ (e.kind = 3 ∧ isBytes f.kind = false) ∨ (e.kind = 6 ∧ f.kind ≠ 8) then 2 else if e.kind = 2 ∧ bitsFit f.kind e.bits = false then 4 else if e.kind = 6 ∧ p.deep ≤ (a.stack.length : Int) then 6 else 0 := by
 unfold valCode; rw [h]
theorem valCode_none {p : Pln} {a : Fa} {e : Ev} (h : faOwn p a e = none) : valCode p a e = 3 := by
 unfold valCode; rw [h]
theorem valStep_some {p : Pln} {a : Fa} {e : Ev} {f : Fld} (h : faOwn p a e = some f) : valStep p a e = if valCode p a e ≠ 0 then a else if e.kind = 3 then ⟨a.stack, true, decide (f.kind = 6), utf0, a.ended⟩ else if e.kind = 6 then ⟨a.stack ++ [f.msg], a.inText, a.isText, a.utf, a.ended⟩ else a := by
 unfold valStep; rw [h]; rfl
theorem valStep_none {p : Pln} {a : Fa} {e : Ev} (h : faOwn p a e = none) : valStep p a e = a := by
 unfold valStep; rw [if_pos (by rw [valCode_none h]; decide)]
def partCode (a : Fa) (e : Ev) : Int :=
 if e.kind = 4 then (if a.isText = true ∧ 0 ≤ utfBad a.utf e.text then 5 else 0)
 else if e.kind = 5 then (if a.isText = true ∧ a.utf ≠ utf0 then 5 else 0)
 else 2
def partStep (a : Fa) (e : Ev) : Fa :=
 if partCode a e ≠ 0 then a
 else if e.kind = 4 then (if a.isText = true then ⟨a.stack, a.inText, a.isText, utfSt a.utf e.text, a.ended⟩ else a)
 else ⟨a.stack, false, a.isText, a.utf, a.ended⟩
def faCode (p : Pln) (a : Fa) (e : Ev) : Int :=
 if a.ended = true then 2
 else if a.inText = true then partCode a e
 else if hasField e.kind = true then valCode p a e
 else if e.kind = 7 ∧ 1 < a.stack.length then 0
 else if e.kind = 8 ∧ a.stack.length = 1 then 0
 else 2
def faStep (p : Pln) (a : Fa) (e : Ev) : Fa :=
 if a.ended = true then a
 else if a.inText = true then partStep a e
 else if hasField e.kind = true then valStep p a e
 else if e.kind = 7 ∧ 1 < a.stack.length then ⟨a.stack.take (a.stack.length - 1), a.inText, a.isText, a.utf, a.ended⟩
 else if e.kind = 8 ∧ a.stack.length = 1 then ⟨a.stack, a.inText, a.isText, a.utf, true⟩
 else a
def faRun (p : Pln) : Fa → List Ev → Int → Int × Int
 | a, [], i => if a.ended = true then (0, 0) else (7, i)
 | a, e :: r, i => if faCode p a e ≠ 0 then (faCode p a e, i) else faRun p (faStep p a e) r (i + 1)
def fa0 (p : Pln) : Fa := ⟨[p.root], false, false, utf0, false⟩
def frameCode (p : Pln) (l : List Ev) : Int × Int := match l with
 | [] => (1, 0)
 | e :: r => if planOk p = true ∧ e.kind = 1 then faRun p (fa0 p) r 1 else (1, 0)
def absS (r : Fs) : Fa := ⟨r.stack, r.open_, decide (r.field.kind = 6), r.utf, r.ended⟩
theorem utfFirst_ok {b : Int} {u : Utf} (h : utfFirst b = some u) : utfOk u = true := by
 unfold utfFirst at h
 repeat' split at h
 all_goals first | (cases h; done) | (cases h; first | decide | (exfalso; omega) | (simp only [utfOk, utfIs]; simp_all; done) | (simp only [utfOk, utfIs]; simp_all; omega))
theorem utfByte_ok {u v : Utf} {b : Int} (h : utfByte u b = some v) : utfOk v = true := by
 unfold utfByte at h
 split at h
 ·rename_i hu
  have hw := utfOk_want hu
  split at h
  ·exact utfFirst_ok h
  ·split at h
   ·split at h
    ·cases h; decide
    ·cases h
     rcases utfOk_t hu with h | h | h | h | h | h | h | h <;> simp_all [utfOk, utfIs]
   ·cases h
 ·cases h
theorem utfRun_ok : ∀ {u : Utf} {s : List UInt8} {i : Nat}, utfOk u = true → utfOk (utfRun u s i).1 = true
 | u, [], i, h => h
 | u, b :: r, i, h => by
  unfold utfRun
  split
  ·rename_i v hv; exact utfRun_ok (utfByte_ok hv)
  ·exact h
theorem utfSt_ok {u : Utf} {s : List UInt8} (h : utfOk u = true) : utfOk (utfSt u s) = true := utfRun_ok h
def fsPart (r : Fs) (e : Ev) : Fs := ⟨r.stack, r.field, (partStep (absS r) e).inText, (partStep (absS r) e).utf, r.ended⟩
def fsVal (p : Pln) (r : Fs) (e : Ev) : Fs := ⟨(valStep p (absS r) e).stack, if valCode p (absS r) e = 0 ∧ e.kind = 3 then (faOwn p (absS r) e).getD fld0 else r.field, (valStep p (absS r) e).inText, (valStep p (absS r) e).utf, r.ended⟩
def fsStep (p : Pln) (r : Fs) (e : Ev) : Fs :=
 if r.ended = true then r
 else if r.open_ = true then fsPart r e
 else if hasField e.kind = true then fsVal p r e
 else if e.kind = 7 ∧ 1 < r.stack.length then ⟨r.stack.take (r.stack.length - 1), r.field, r.open_, r.utf, r.ended⟩
 else if e.kind = 8 ∧ r.stack.length = 1 then ⟨r.stack, r.field, r.open_, r.utf, true⟩
 else r
theorem absS_part (r : Fs) (e : Ev) : absS (fsPart r e) = partStep (absS r) e := by
 unfold fsPart partStep; repeat' split
 all_goals (simp_all [absS])
theorem absS_val (p : Pln) (r : Fs) (e : Ev) : absS (fsVal p r e) = valStep p (absS r) e := by
 unfold fsVal valStep; repeat' split
 all_goals (simp_all [absS])
theorem absS_step (p : Pln) (r : Fs) (e : Ev) : absS (fsStep p r e) = faStep p (absS r) e := by
 unfold fsStep faStep
 have h1 : (absS r).ended = r.ended := rfl
 have h2 : (absS r).inText = r.open_ := rfl
 have h3 : (absS r).stack = r.stack := rfl
 rw [h1, h2, h3]
 split
 ·rfl
 split
 ·exact absS_part r e
 split
 ·exact absS_val p r e
 split
 ·rfl
 split <;> rfl
theorem partStep_stack (a : Fa) (e : Ev) : (partStep a e).stack = a.stack := by
 unfold partStep; repeat' split
 all_goals rfl
theorem faStep_stack {p : Pln} {a : Fa} (e : Ev) (h1 : 1 ≤ a.stack.length) (h2 : a.stack.length ≤ 8) (hd : p.deep ≤ 8) : 1 ≤ (faStep p a e).stack.length ∧ (faStep p a e).stack.length ≤ 8 := by
 unfold faStep
 split
 ·exact ⟨h1, h2⟩
 split
 ·rw [partStep_stack]; exact ⟨h1, h2⟩
 split
 ·unfold valStep
  split
  ·exact ⟨h1, h2⟩
  ·rename_i hv
   split
   ·exact ⟨h1, h2⟩
   split
   ·rename_i h6
    have hv : valCode p a e = 0 := by simpa using hv
    have : (a.stack.length : Int) < p.deep := by
     unfold valCode at hv
     split at hv
     ·omega
     ·split at hv
      ·omega
      split at hv
      ·omega
      split at hv
      ·omega
      ·rename_i hh; omega
    simp; omega
   ·exact ⟨h1, h2⟩
 split
 ·rename_i hh; simp; omega
 split <;> exact ⟨h1, h2⟩
theorem faStep_utf {p : Pln} {a : Fa} {e : Ev} (h : utfOk a.utf = true) : utfOk (faStep p a e).utf = true := by
 unfold faStep partStep valStep
 repeat' split
 all_goals first | exact h | exact utfSt_ok h | (show utfOk utf0 = true; decide)
theorem fsStep_stack (p : Pln) (r : Fs) (e : Ev) : (fsStep p r e).stack = (faStep p (absS r) e).stack := by rw [← absS_step]; rfl
theorem fsStep_utf (p : Pln) (r : Fs) (e : Ev) : (fsStep p r e).utf = (faStep p (absS r) e).utf := by rw [← absS_step]; rfl
def EvB (e : Ev) : Prop := List.length e.text ≤ bigN ∧ (0 : Int) ≤ e.bits ∧ e.bits ≤ 18446744073709551615
theorem frameCode_cons {p : Pln} {l : List Ev} {e : Ev} (h0 : l[0]? = some e) (hp : planOk p = true) (hk : e.kind = 1) : frameCode p l = faRun p (fa0 p) (l.drop 1) 1 := by
 cases l with
 | nil => simp at h0
 | cons a r => simp at h0; subst h0; simp [frameCode, hp, hk]
theorem frameCode_bad {p : Pln} {l : List Ev} {e : Ev} (h0 : l[0]? = some e) (hp : ¬ (planOk p = true ∧ e.kind = 1)) : frameCode p l = (1, 0) := by
 cases l with
 | nil => rfl
 | cons a r => simp at h0; subst h0; simp only [frameCode]; rw [if_neg hp]
theorem frameCode_plan {p : Pln} {l : List Ev} (hp : planOk p = false) : frameCode p l = (1, 0) := by
 cases l with
 | nil => rfl
 | cons a r => simp [frameCode, hp]
theorem faRun_cons {p : Pln} {a : Fa} {e : Ev} {r : List Ev} {i : Int} : faRun p a (e :: r) i = if faCode p a e ≠ 0 then (faCode p a e, i) else faRun p (faStep p a e) r (i + 1) := rfl
theorem faRun_nil {p : Pln} {a : Fa} {i : Int} : faRun p a [] i = if a.ended = true then (0, 0) else (7, i) := rfl
def cEv (x : Ev) : List C := [.int .i64 x.kind, .int .i64 x.field, .int .u64 x.bits, .int .i64 x.len, .str x.text, .int .i64 x.code, .int .i64 x.at_]
def cFld (x : Fld) : List C := [.int .i64 x.number, .int .i64 x.kind, .bool x.rep, .bool x.packed, .int .i64 x.msg]
def cShp (x : Shp) : List C := [.int .i64 x.id, .seq .fld x.fields]
def cUtf (x : Utf) : List C := [.int .i64 x.want, .int .i64 x.low, .int .i64 x.high]
def cPln (x : Pln) : List C := [.seq .shp x.shapes, .int .i64 x.root, .int .i64 x.deep, .int .i64 x.most]
def oFmr4 (j4 : Nat) (x : Fmr) : List C := [.seq .shp x.plan.shapes, .int .i64 x.plan.root, .int .i64 x.plan.deep, .int .i64 x.plan.most, .own j4, .bool x.st.inText, .bool x.st.isText, .int .i64 x.st.utf.want, .int .i64 x.st.utf.low, .int .i64 x.st.utf.high, .bool x.st.ended]
def oFs0 (j0 : Nat) (x : Fs) : List C := [.own j0, .int .i64 x.field.number, .int .i64 x.field.kind, .bool x.field.rep, .bool x.field.packed, .int .i64 x.field.msg, .bool x.open_, .int .i64 x.utf.want, .int .i64 x.utf.low, .int .i64 x.utf.high, .bool x.ended]
theorem within_i (n : Int) (lo : Int) (hi : Int) : Fun Tryz.prog 43 [vI n, vI lo, vI hi] [] (.v (vB (within n lo hi))) [] := by
 have hN : bigN = 274877906944 := rfl
 refine fun_ofw Tryz.func43 (by kernel_rfl) (by kernel_rfl) (w := (.br (.leaf () []) (.leaf () []), ((decide (lo ≤ n)) = true → (.v (vB (decide (n ≤ hi))) : S) = .v (vB (within n lo hi)) ∧ ([] : List Blk) = []) ∧ ((decide (lo ≤ n)) = false → (.v (vB false) : S) = .v (vB (within n lo hi)) ∧ ([] : List Blk) = []))) (by kernel_rfl) ?_
 refine dsp (fun h1 p1 => ?_) fun h1 p1 => ?_
 exact ⟨(congrArg S.v (congrArg V.c (congrArg C.bool (by simp [within, *])))), rfl⟩
 exact ⟨(congrArg S.v (congrArg V.c (congrArg C.bool (by simp [within, *])))), rfl⟩
theorem within_s (n : Int) (lo : Int) (hi : Int) : Fun Tryz.prog 45 [vI n, vI lo, vI hi] [] (.v (vB (within n lo hi))) [] := by
 have hN : bigN = 274877906944 := rfl
 refine fun_ofw Tryz.func45 (by kernel_rfl) (by kernel_rfl) (w := (.br (.leaf () []) (.leaf () []), ((decide (lo ≤ n)) = true → (.v (vB (decide (n ≤ hi))) : S) = .v (vB (within n lo hi)) ∧ ([] : List Blk) = []) ∧ ((decide (lo ≤ n)) = false → (.v (vB false) : S) = .v (vB (within n lo hi)) ∧ ([] : List Blk) = []))) (by kernel_rfl) ?_
 refine dsp (fun h1 p1 => ?_) fun h1 p1 => ?_
 exact ⟨(congrArg S.v (congrArg V.c (congrArg C.bool (by simp [within, *])))), rfl⟩
 exact ⟨(congrArg S.v (congrArg V.c (congrArg C.bool (by simp [within, *])))), rfl⟩
theorem numberOk_i (n : Int) : Fun Tryz.prog 142 [vI n] [] (.v (vB (numberOk n))) [] := by
 have hN : bigN = 274877906944 := rfl
 refine fun_ofw Tryz.func142 (by kernel_rfl) (by kernel_rfl) (w := let z1 := within n 1 536870911; let z2 := within n 19000 19999; (.seg [.call [] (.v (vB z1)) []] (.br (.seg [.call [] (.v (vB z2)) []] (.leaf () [])) (.leaf () [])), (Fun Tryz.prog 43 [vI n, vI 1, vI 536870911] [] (.v (vB z1)) []) ∧ (z1 = true → (Fun Tryz.prog 43 [vI n, vI 19000, vI 19999] [] (.v (vB z2)) []) ∧ (.v (vB (!z2)) : S) = .v (vB (numberOk n)) ∧ ([] : List Blk) = []) ∧ (z1 = false → (.v (vB false) : S) = .v (vB (numberOk n)) ∧ ([] : List Blk) = []))) (by kernel_rfl) ?_
 refine ⟨(within_i _ _ _), fun h1 => have p1 := within_t h1; ?_, fun h1 => have p1 := within_f h1; ?_⟩
 exact ⟨(within_i _ _ _), (congrArg S.v (congrArg V.c (congrArg C.bool (by simp [numberOk, *])))), rfl⟩
 exact ⟨(congrArg S.v (congrArg V.c (congrArg C.bool (by simp [numberOk, *])))), rfl⟩
theorem numberOk_s (n : Int) : Fun Tryz.prog 140 [vI n] [] (.v (vB (numberOk n))) [] := by
 have hN : bigN = 274877906944 := rfl
 refine fun_ofw Tryz.func140 (by kernel_rfl) (by kernel_rfl) (w := let z1 := within n 1 536870911; let z2 := within n 19000 19999; (.seg [.call [] (.v (vB z1)) []] (.br (.seg [.call [] (.v (vB z2)) []] (.leaf () [])) (.leaf () [])), (Fun Tryz.prog 45 [vI n, vI 1, vI 536870911] [] (.v (vB z1)) []) ∧ (z1 = true → (Fun Tryz.prog 45 [vI n, vI 19000, vI 19999] [] (.v (vB z2)) []) ∧ (.v (vB (!z2)) : S) = .v (vB (numberOk n)) ∧ ([] : List Blk) = []) ∧ (z1 = false → (.v (vB false) : S) = .v (vB (numberOk n)) ∧ ([] : List Blk) = []))) (by kernel_rfl) ?_
 refine ⟨(within_s _ _ _), fun h1 => have p1 := within_t h1; ?_, fun h1 => have p1 := within_f h1; ?_⟩
 exact ⟨(within_s _ _ _), (congrArg S.v (congrArg V.c (congrArg C.bool (by simp [numberOk, *])))), rfl⟩
 exact ⟨(congrArg S.v (congrArg V.c (congrArg C.bool (by simp [numberOk, *])))), rfl⟩
theorem kindOk_i (k : Int) : Fun Tryz.prog 143 [vI k] [] (.v (vB (kindOk k))) [] := by
 have hN : bigN = 274877906944 := rfl
 refine fun_ofw Tryz.func143 (by kernel_rfl) (by kernel_rfl) (w := let z1 := vB (within k 1 8); (.seg [.call [] (.v z1) []] (.leaf () []), (Fun Tryz.prog 43 [vI k, vI 1, vI 8] [] (.v z1) []) ∧ (.v z1 : S) = .v (vB (kindOk k)) ∧ ([] : List Blk) = [])) (by kernel_rfl) ?_
 exact ⟨(within_i _ _ _), (congrArg S.v (congrArg V.c (congrArg C.bool (by rfl)))), rfl⟩
theorem kindOk_s (k : Int) : Fun Tryz.prog 135 [vI k] [] (.v (vB (kindOk k))) [] := by
 have hN : bigN = 274877906944 := rfl
 refine fun_ofw Tryz.func135 (by kernel_rfl) (by kernel_rfl) (w := let z1 := vB (within k 1 8); (.seg [.call [] (.v z1) []] (.leaf () []), (Fun Tryz.prog 45 [vI k, vI 1, vI 8] [] (.v z1) []) ∧ (.v z1 : S) = .v (vB (kindOk k)) ∧ ([] : List Blk) = [])) (by kernel_rfl) ?_
 exact ⟨(within_s _ _ _), (congrArg S.v (congrArg V.c (congrArg C.bool (by rfl)))), rfl⟩
theorem numeric_i (k : Int) : Fun Tryz.prog 130 [vI k] [] (.v (vB (numeric k))) [] := by
 have hN : bigN = 274877906944 := rfl
 refine fun_ofw Tryz.func130 (by kernel_rfl) (by kernel_rfl) (w := let z1 := vB (within k 1 5); (.seg [.call [] (.v z1) []] (.leaf () []), (Fun Tryz.prog 43 [vI k, vI 1, vI 5] [] (.v z1) []) ∧ (.v z1 : S) = .v (vB (numeric k)) ∧ ([] : List Blk) = [])) (by kernel_rfl) ?_
 exact ⟨(within_i _ _ _), (congrArg S.v (congrArg V.c (congrArg C.bool (by rfl)))), rfl⟩
theorem numeric_s (k : Int) : Fun Tryz.prog 141 [vI k] [] (.v (vB (numeric k))) [] := by
 have hN : bigN = 274877906944 := rfl
 refine fun_ofw Tryz.func141 (by kernel_rfl) (by kernel_rfl) (w := let z1 := vB (within k 1 5); (.seg [.call [] (.v z1) []] (.leaf () []), (Fun Tryz.prog 45 [vI k, vI 1, vI 5] [] (.v z1) []) ∧ (.v z1 : S) = .v (vB (numeric k)) ∧ ([] : List Blk) = [])) (by kernel_rfl) ?_
 exact ⟨(within_s _ _ _), (congrArg S.v (congrArg V.c (congrArg C.bool (by rfl)))), rfl⟩
theorem wireOf_i (k : Int) : Fun Tryz.prog 128 [vI k] [] (.v (vI (wireOf k))) [] := by
 have hN : bigN = 274877906944 := rfl
 refine fun_ofw Tryz.func128 (by kernel_rfl) (by kernel_rfl) (w := let zi : Int → C := .int .i64; let z1 := List.getD [0, 0, 0, 5, 1, 2, 2, 2] (Int.toNat (k - 1)) 0; (.seg [.call [] (.v (vB (kindOk k))) []] (.br (.leaf () []) (.seg [.as 8 (.v (vI (k - 1))), .ce (zi z1)] (.leaf () []))), (Fun Tryz.prog 143 [vI k] [] (.v (vB (kindOk k))) []) ∧ ((!(kindOk k)) = true → (.v (vI (-1)) : S) = .v (vI (wireOf k)) ∧ ([] : List Blk) = []) ∧ ((!(kindOk k)) = false → ((.v (vI (IntKind.i64.wrap (k - 1))) : S) = .v (vI (k - 1))) ∧ ((([zi 0, zi 0, zi 0, zi 5, zi 1, zi 2, zi 2, zi 2] : List C)[Int.toNat (k - 1)]?) = some (zi z1)) ∧ (k - 1 < ((8 : Nat) : Int)) ∧ ((0 : Int) ≤ k - 1) ∧ (.v (vI z1) : S) = .v (vI (wireOf k)) ∧ ([] : List Blk) = []))) (by kernel_rfl) ?_
 refine ⟨(kindOk_i _), fun h1 => have q1 := bnot_t h1; have p1 := within_f q1; ?_, fun h1 => have q1 := bnot_f h1; have p1 := within_t q1; ?_⟩
 refine ⟨(sI ?_), rfl⟩
 rotate_left
 refine ⟨(as_i64 (by omega) (by omega)), (ce_int (l := [0, 0, 0, 5, 1, 2, 2, 2]) (by simp; omega)), (by omega), (by omega), (sI ?_), rfl⟩
 rotate_left
 all_goals first | (simp [wireOf, *]; done) | (rcases (show k = 1 ∨ k = 2 ∨ k = 3 ∨ k = 4 ∨ k = 5 ∨ k = 6 ∨ k = 7 ∨ k = 8 by omega) with rfl | rfl | rfl | rfl | rfl | rfl | rfl | rfl <;> rfl)
theorem wireOf_s (k : Int) : Fun Tryz.prog 103 [vI k] [] (.v (vI (wireOf k))) [] := by
 have hN : bigN = 274877906944 := rfl
 refine fun_ofw Tryz.func103 (by kernel_rfl) (by kernel_rfl) (w := let z1 := vI (wireOf k); let z2 := ([] : List Blk); (.seg [.call [] (.v (vB (kindOk k))) []] (.br (.leaf () []) (.br (.leaf () []) (.br (.leaf () []) (.seg [.call [] (.v (vB (numeric k))) []] (.br (.leaf () []) (.leaf () [])))))), (Fun Tryz.prog 135 [vI k] [] (.v (vB (kindOk k))) []) ∧ ((!(kindOk k)) = true → (.v (vI (-1)) : S) = .v z1 ∧ z2 = []) ∧ ((!(kindOk k)) = false → ((decide (k = 4)) = true → (.v (vI 5) : S) = .v z1 ∧ z2 = []) ∧ ((decide (k = 4)) = false → ((decide (k = 5)) = true → (.v (vI 1) : S) = .v z1 ∧ z2 = []) ∧ ((decide (k = 5)) = false → (Fun Tryz.prog 141 [vI k] [] (.v (vB (numeric k))) []) ∧ ((numeric k) = true → (.v (vI 0) : S) = .v z1 ∧ z2 = []) ∧ ((numeric k) = false → (.v (vI 2) : S) = .v z1 ∧ z2 = [])))))) (by kernel_rfl) ?_
 refine ⟨(kindOk_s _), fun h1 => have q1 := bnot_t h1; have p1 := within_f q1; ?_, fun h1 => have q1 := bnot_f h1; have p1 := within_t q1; ?_⟩
 refine ⟨(sI ?_), rfl⟩
 rotate_left
 refine dsp (fun h2 p2 => ?_) fun h2 p2 => ?_
 refine ⟨(sI ?_), rfl⟩
 rotate_left
 refine dsp (fun h3 p3 => ?_) fun h3 p3 => ?_
 refine ⟨(sI ?_), rfl⟩
 rotate_left
 refine ⟨(numeric_s _), fun h4 => have p4 := within_t h4; ?_, fun h4 => have p4 := within_f h4; ?_⟩
 refine ⟨(sI ?_), rfl⟩
 rotate_left
 refine ⟨(sI ?_), rfl⟩
 rotate_left
 all_goals first | (simp [wireOf, *] <;> (repeat' split) <;> omega) | (subst_vars; rfl)
theorem widthOf_i (w : Int) : Fun Tryz.prog 133 [vI w] [] (.v (vI (widthOf w))) [] := by
 have hN : bigN = 274877906944 := rfl
 refine fun_ofw Tryz.func133 (by kernel_rfl) (by kernel_rfl) (w := (.br (.leaf () []) (.br (.leaf () []) (.leaf () [])), ((decide (w = 1)) = true → (.v (vI 8) : S) = .v (vI (widthOf w)) ∧ ([] : List Blk) = []) ∧ ((decide (w = 1)) = false → ((decide (w = 5)) = true → (.v (vI 4) : S) = .v (vI (widthOf w)) ∧ ([] : List Blk) = []) ∧ ((decide (w = 5)) = false → (.v (vI 0) : S) = .v (vI (widthOf w)) ∧ ([] : List Blk) = [])))) (by kernel_rfl) ?_
 refine dsp (fun h1 p1 => ?_) fun h1 p1 => ?_
 exact ⟨(congrArg S.v (congrArg V.c (congrArg (C.int .i64) (by simp [widthOf, *])))), rfl⟩
 refine dsp (fun h2 p2 => ?_) fun h2 p2 => ?_
 exact ⟨(congrArg S.v (congrArg V.c (congrArg (C.int .i64) (by simp [widthOf, *])))), rfl⟩
 exact ⟨(congrArg S.v (congrArg V.c (congrArg (C.int .i64) (by simp [widthOf, *])))), rfl⟩
theorem widthOf_s (w : Int) : Fun Tryz.prog 119 [vI w] [] (.v (vI (widthOf w))) [] := by
 have hN : bigN = 274877906944 := rfl
 refine fun_ofw Tryz.func119 (by kernel_rfl) (by kernel_rfl) (w := (.br (.leaf () []) (.br (.leaf () []) (.leaf () [])), ((decide (w = 1)) = true → (.v (vI 8) : S) = .v (vI (widthOf w)) ∧ ([] : List Blk) = []) ∧ ((decide (w = 1)) = false → ((decide (w = 5)) = true → (.v (vI 4) : S) = .v (vI (widthOf w)) ∧ ([] : List Blk) = []) ∧ ((decide (w = 5)) = false → (.v (vI 0) : S) = .v (vI (widthOf w)) ∧ ([] : List Blk) = [])))) (by kernel_rfl) ?_
 refine dsp (fun h1 p1 => ?_) fun h1 p1 => ?_
 exact ⟨(congrArg S.v (congrArg V.c (congrArg (C.int .i64) (by simp [widthOf, *])))), rfl⟩
 refine dsp (fun h2 p2 => ?_) fun h2 p2 => ?_
 exact ⟨(congrArg S.v (congrArg V.c (congrArg (C.int .i64) (by simp [widthOf, *])))), rfl⟩
 exact ⟨(congrArg S.v (congrArg V.c (congrArg (C.int .i64) (by simp [widthOf, *])))), rfl⟩
theorem bitsFit_i (k : Int) (u : Int) (hp1 : (0 : Int) ≤ u ∧ u ≤ 18446744073709551615) : Fun Tryz.prog 165 [vI k, .c (.int .u64 u)] [] (.v (vB (bitsFit k u))) [] := by
 have hN : bigN = 274877906944 := rfl
 refine fun_ofw Tryz.func165 (by kernel_rfl) (by kernel_rfl) (w := let z1 := vB (bitsFit k u); let z2 := ([] : List Blk); let z3 := (.v (vB true) : S); (.br (.seg [.br true] (.leaf () [])) (.br (.seg [.br true] (.leaf () [])) (.br (.leaf () []) (.br (.leaf () []) (.br (.seg [.as 17 (.v (.c (.int .u64 (u / 4294967296))))] (.leaf () [])) (.leaf () []))))), ((decide (k = 1)) = true → ((decide (k = 1)) = true) ∧ z3 = .v z1 ∧ z2 = []) ∧ ((decide (k = 1)) = false → ((decide (k = 2)) = true → ((decide (k = 2)) = true) ∧ z3 = .v z1 ∧ z2 = []) ∧ ((decide (k = 2)) = false → ((decide (k = 5)) = true → z3 = .v z1 ∧ z2 = []) ∧ ((decide (k = 5)) = false → ((decide (k = 3)) = true → (.v (vB (decide (u ≤ 1))) : S) = .v z1 ∧ z2 = []) ∧ ((decide (k = 3)) = false → ((decide (k = 4)) = true → ((0 : Int) ≤ 32) ∧ ((.v (.c (.int .u64 (Int.fdiv u (2 ^ 32)))) : S) = .v (.c (.int .u64 (u / 4294967296)))) ∧ (.v (vB (decide (u / 4294967296 = 0))) : S) = .v z1 ∧ z2 = []) ∧ ((decide (k = 4)) = false → (.v (vB false) : S) = .v z1 ∧ z2 = []))))))) (by kernel_rfl) ?_
 refine dsp (fun h1 p1 => ?_) fun h1 p1 => ?_
 refine ⟨h1, (sB ?_), rfl⟩
 rotate_left
 refine dsp (fun h2 p2 => ?_) fun h2 p2 => ?_
 refine ⟨h2, (sB ?_), rfl⟩
 rotate_left
 refine dsp (fun h3 p3 => ?_) fun h3 p3 => ?_
 refine ⟨(sB ?_), rfl⟩
 rotate_left
 refine dsp (fun h4 p4 => ?_) fun h4 p4 => ?_
 refine ⟨(sB ?_), rfl⟩
 rotate_left
 refine dsp (fun h5 p5 => ?_) fun h5 p5 => ?_
 refine ⟨(by decide), (as_shr (k := 32) (by decide) (by decide)), (sB ?_), rfl⟩
 rotate_left
 refine ⟨(sB ?_), rfl⟩
 rotate_left
 all_goals simp [bitsFit, numeric, within, *] <;> omega
theorem bitsFit_s (k : Int) (u : Int) (hp1 : (0 : Int) ≤ u ∧ u ≤ 18446744073709551615) : Fun Tryz.prog 150 [vI k, .c (.int .u64 u)] [] (.v (vB (bitsFit k u))) [] := by
 have hN : bigN = 274877906944 := rfl
 refine fun_ofw Tryz.func150 (by kernel_rfl) (by kernel_rfl) (w := let z1 := vB (bitsFit k u); (.br (.leaf () []) (.br (.leaf () []) (.seg [.call [] (.v (vB (numeric k))) []] (.leaf () []))), ((decide (k = 3)) = true → (.v (vB (decide (u ≤ 1))) : S) = .v z1 ∧ ([] : List Blk) = []) ∧ ((decide (k = 3)) = false → ((decide (k = 4)) = true → (.v (vB (decide (u ≤ 4294967295))) : S) = .v z1 ∧ ([] : List Blk) = []) ∧ ((decide (k = 4)) = false → (Fun Tryz.prog 141 [vI k] [] (.v (vB (numeric k))) []) ∧ (.v (vB (numeric k)) : S) = .v z1 ∧ ([] : List Blk) = [])))) (by kernel_rfl) ?_
 refine dsp (fun h1 p1 => ?_) fun h1 p1 => ?_
 refine ⟨(sB ?_), rfl⟩
 rotate_left
 refine dsp (fun h2 p2 => ?_) fun h2 p2 => ?_
 refine ⟨(sB ?_), rfl⟩
 rotate_left
 refine ⟨(numeric_s _), (sB ?_), rfl⟩
 rotate_left
 all_goals simp [bitsFit, numeric, within, *] <;> omega
theorem runs_s (f : Fld) : Fun Tryz.prog 122 [.agg (cFld f)] [] (.v (vB (runs f))) [] := by
 have hN : bigN = 274877906944 := rfl
 refine fun_ofw Tryz.func122 (by kernel_rfl) (by kernel_rfl) (w := let z1 := vB (numeric f.kind); (.br (.seg [.call [] (.v z1) []] (.leaf () [])) (.leaf () []), (f.rep = true → (Fun Tryz.prog 141 [vI f.kind] [] (.v z1) []) ∧ (.v z1 : S) = .v (vB (runs f)) ∧ ([] : List Blk) = []) ∧ (f.rep = false → (.v (vB false) : S) = .v (vB (runs f)) ∧ ([] : List Blk) = []))) (by kernel_rfl) ?_
 refine ⟨fun h1 => ?_, fun h1 => ?_⟩
 exact ⟨(numeric_s _), (congrArg S.v (congrArg V.c (congrArg C.bool (by simp [runs, *])))), rfl⟩
 exact ⟨(congrArg S.v (congrArg V.c (congrArg C.bool (by simp [runs, *])))), rfl⟩
structure putVar_s_V0 where
 u : Int
 out : List Int
def putVar_s_F0 (u : Int) : Fam := ⟨putVar_s_V0, fun q1 => [(0, .v (.c (.int .u64 q1.u))), (3, .v (vO 0))], fun q1 => [.lst .u8 q1.out], fun q1 => (0 : Int) ≤ q1.u ∧ q1.u ≤ 18446744073709551615 ∧ List.map toByte q1.out ++ putVar q1.u = putVar u ∧ q1.out.length + List.length (putVar q1.u) ≤ 10, fun q1 => q1.u.toNat⟩
theorem putVar_s (u : Int) (hp1 : (0 : Int) ≤ u ∧ u ≤ 18446744073709551615) : Fun Tryz.prog 54 [.c (.int .u64 u)] [] (.v (vT (putVar u))) [] := by
 have hN : bigN = 274877906944 := rfl
 refine fun_ofw Tryz.func54 (by kernel_rfl) (by kernel_rfl) (w := let z2 := putVar_s_F0 u; (.seg [.ty .u8, .at 0, .keep [0, 3], .sel [0]] (.loop z2 fun q1 => .br (.seg [.as 9 (.v (.c (.int .u64 (q1.u % 128)))), .as 10 (.v (.c (.int .u64 (q1.u % 128 + 128)))), .as 11 (.v (.c (.int .u8 (q1.u % 128 + 128)))), .ty .u8, .ty .u8, .as 15 (.v (.c (.int .u64 (q1.u / 128)))), .at 0, .keep [0, 3], .sel [2]] (.next)) (.seg [.as 18 (.v (.c (.int .u8 q1.u))), .ty .u8, .ty .u8] (.leaf () []))), z2.Has [(0, .v (.c (.int .u64 u))), (3, .v (vO 0))] [.lst .u8 ([] : List Int)] ∧ ∀ q1, z2.inv q1 → (let z1 := q1.u % 128 + 128; ((decide (127 < q1.u)) = true → ((128 : Int) ≠ 0) ∧ ((.v (.c (.int .u64 (Int.tmod q1.u 128))) : S) = .v (.c (.int .u64 (q1.u % 128)))) ∧ ((.v (.c (.int .u64 (IntKind.u64.wrap ((q1.u % 128) + 128)))) : S) = .v (.c (.int .u64 z1))) ∧ ((.v (.c (.int .u8 (IntKind.u8.wrap z1))) : S) = .v (.c (.int .u8 z1))) ∧ (q1.out.length + List.length [q1.u % 128 + 128] ≤ bigN) ∧ ((128 : Int) ≠ 0) ∧ ((.v (.c (.int .u64 (IntKind.u64.wrap (Int.tdiv q1.u 128)))) : S) = .v (.c (.int .u64 (q1.u / 128)))) ∧ z2.Nxt q1 [(0, .v (.c (.int .u64 (q1.u / 128)))), (3, .v (vO 0))] [.lst .u8 (q1.out ++ [q1.u % 128 + 128])]) ∧ ((decide (127 < q1.u)) = false → ((.v (.c (.int .u8 (IntKind.u8.wrap (q1.u)))) : S) = .v (.c (.int .u8 q1.u))) ∧ (q1.out.length + List.length [q1.u] ≤ bigN) ∧ (.v (vT (List.map toByte (q1.out ++ [q1.u]))) : S) = .v (vT (putVar u)) ∧ ([] : List Blk) = [])))) (by kernel_rfl) ?_
 refine ⟨has_of (j := (⟨u, ([] : List Int)⟩ : putVar_s_V0)) rfl rfl (by dsimp only [putVar_s_F0]; exact ⟨by omega, by omega, by simp, by have := varLen_b (u := u) (by omega); unfold varLen at this; simp; omega⟩), fun (q1 : putVar_s_V0) hq_q1 => ?_⟩
 have hi_q1 : (0 : Int) ≤ q1.u ∧ q1.u ≤ 18446744073709551615 ∧ List.map toByte q1.out ++ putVar q1.u = putVar u ∧ q1.out.length + List.length (putVar q1.u) ≤ 10 := hq_q1
 obtain ⟨v1, v2, v3, v4⟩ := hi_q1
 refine dsp (fun h1 p1 => ?_) fun h1 p1 => ?_
 exact ⟨(by decide), (as_tmod (by omega)), (as_u64 (by omega) (by omega)), (as_u8 (by omega) (by omega)), (by have := putVar_pos q1.u; simp; omega), (by decide), (as_tdiv_u64 (by omega) (by omega) (by decide)), nxt_of (j := (⟨q1.u / 128, q1.out ++ [q1.u % 128 + 128]⟩ : putVar_s_V0)) rfl rfl (by dsimp only [putVar_s_F0]; exact ⟨by omega, by omega, by rw [← v3, putVar_big (u := q1.u) (by omega) (by omega)]; simp [toByte], by rw [putVar_big (u := q1.u) (by omega) (by omega)] at v4; simp at v4 ⊢; omega⟩) (by dsimp only [putVar_s_F0]; omega)⟩
 refine ⟨(as_u8 (by omega) (by omega)), (by have := putVar_pos q1.u; simp; omega), (congrArg S.v (congrArg V.c (congrArg C.str ?_))), rfl⟩
 rotate_left
 all_goals rw [← v3, putVar_small (u := q1.u) (by omega) (by omega)]; simp [toByte]
structure varLen_i_V0 where
 u : Int
 n : Int
def varLen_i_F0 (u : Int) : Fam := ⟨varLen_i_V0, fun q1 => [(0, .v (.c (.int .u64 q1.u))), (3, .v (vI q1.n))], fun _ => [], fun q1 => (0 : Int) ≤ q1.u ∧ q1.u ≤ 18446744073709551615 ∧ ((List.length (putVar q1.u) : Nat) : Int) + q1.n = varLen u + 1 ∧ 1 ≤ q1.n, fun q1 => q1.u.toNat⟩
theorem varLen_i (u : Int) (hp1 : (0 : Int) ≤ u ∧ u ≤ 18446744073709551615) : Fun Tryz.prog 65 [.c (.int .u64 u)] [] (.v (vI (varLen u))) [] := by
 have hN : bigN = 274877906944 := rfl
 refine fun_ofw Tryz.func65 (by kernel_rfl) (by kernel_rfl) (w := let z1 := varLen_i_F0 u; (.seg [.at 0, .keep [0, 3], .sel []] (.loop z1 fun q1 => .br (.seg [.as 9 (.v (vI (q1.n + 1))), .as 7 (.v (.c (.int .u64 (q1.u / 128)))), .at 0, .keep [0, 3], .sel []] (.next)) (.leaf () [])), z1.Has [(0, .v (.c (.int .u64 u))), (3, .v (vI 1))] [] ∧ ∀ q1, z1.inv q1 → (((decide (127 < q1.u)) = true → ((.v (vI (IntKind.i64.wrap (q1.n + 1))) : S) = .v (vI (q1.n + 1))) ∧ ((0 : Int) ≤ 7) ∧ ((.v (.c (.int .u64 (Int.fdiv q1.u (2 ^ 7)))) : S) = .v (.c (.int .u64 (q1.u / 128)))) ∧ z1.Nxt q1 [(0, .v (.c (.int .u64 (q1.u / 128)))), (3, .v (vI (q1.n + 1)))] []) ∧ ((decide (127 < q1.u)) = false → (.v (vI q1.n) : S) = .v (vI (varLen u)) ∧ ([] : List Blk) = [])))) (by kernel_rfl) ?_
 refine ⟨has_of (j := (⟨u, 1⟩ : varLen_i_V0)) rfl rfl (by dsimp only [varLen_i_F0]; exact ⟨by omega, by omega, by unfold varLen; omega, by omega⟩), fun (q1 : varLen_i_V0) hq_q1 => ?_⟩
 have hi_q1 : (0 : Int) ≤ q1.u ∧ q1.u ≤ 18446744073709551615 ∧ ((List.length (putVar q1.u) : Nat) : Int) + q1.n = varLen u + 1 ∧ 1 ≤ q1.n := hq_q1
 obtain ⟨v1, v2, v3, v4⟩ := hi_q1
 have hb := varLen_b (u := u) (by omega)
 have hc := putVar_pos q1.u
 refine dsp (fun h1 p1 => ?_) fun h1 p1 => ?_
 exact ⟨(as_i64 (by omega) (by omega)), (by decide), (as_shr (k := 7) (by decide) (by decide)), nxt_of (j := (⟨q1.u / 128, q1.n + 1⟩ : varLen_i_V0)) rfl rfl (by dsimp only [varLen_i_F0]; exact ⟨by omega, by omega, by rw [putVar_big (u := q1.u) (by omega) (by omega)] at v3; simp at v3 ⊢; omega, by omega⟩) (by dsimp only [varLen_i_F0]; omega)⟩
 refine ⟨(sI ?_), rfl⟩
 rotate_left
 all_goals rw [putVar_small (u := q1.u) (by omega) (by omega)] at v3; simp at v3; omega
structure padVar_i_V0 where
 u : Int
 out : List Int
 v : Nat
def padVar_i_F0 (u : Int) : Fam := ⟨padVar_i_V0, fun q1 => [(0, .v (.c (.int .u64 q1.u))), (1, .v (vI (varLen u))), (5, .v (vO 0)), (15, .v (vI (varLen u))), (16, .v (vI (q1.v : Int)))], fun q1 => [.lst .u8 q1.out], fun q1 => q1.v ≤ (List.length (putVar u)) ∧ q1.out.length = (List.length (putVar u)) ∧ List.take q1.v q1.out = List.take q1.v (padL (u.toNat) (List.length (putVar u))) ∧ q1.u = ((u.toNat / 128 ^ q1.v : Nat) : Int), fun q1 => (List.length (putVar u)) - q1.v⟩
theorem padVar_i (u : Int) (hp1 : (0 : Int) ≤ u ∧ u ≤ 18446744073709551615) : Fun Tryz.prog 64 [.c (.int .u64 u), vI (varLen u)] [] (.v (vT (putVar u))) [] := by
 have hN : bigN = 274877906944 := rfl
 have hb := varLen_b (u := u) (by omega)
 have hl : varLen u = (((putVar u).length : Nat) : Int) := rfl
 refine fun_ofw Tryz.func64 (by kernel_rfl) (by kernel_rfl) (w := let z4 := varLen u; let z5 := varLen u - 1; let z6 := List.replicate (z4.toNat) (0 : Int); let z7 := padVar_i_F0 u; (.seg [.call [] (.v (vI z4)) [], .call [] (.v (vB (within z4 z4 10))) [], .br false, .ty .u8, .as 15 (.v (vI z4)), .at 0, .keep [0, 1, 5, 15, 16], .sel [0]] (.loop z7 fun q1 => .br (.seg [.as 22 (.v (.c (.int .u64 (q1.u % 128)))), .as 23 (.v (.c (.int .u64 ((q1.u % 128) + 128)))), .as 24 (.v (.c (.int .u8 (q1.u % 128 + 128))))] (.intro (fun (x1 : Int) => q1.out[q1.v]? = some x1) fun x1 => .seg [.el .u8 x1, .as 27 (.v (.c (.int .u64 (q1.u / 128)))), .as 28 (.v (vI ((q1.v : Int) + 1))), .at 0, .keep [0, 1, 5, 15, 16], .sel [0]] (.next))) (.seg [.as 31 (.v (vI z5))] (.intro (fun (x1 : Int) => q1.out[z5.toNat]? = some x1) fun x1 => .seg [.el .u8 x1, .as 34 (.v (.c (.int .u8 (x1 % 128)))), .el .u8 x1] (.leaf () [])))), (Fun Tryz.prog 65 [.c (.int .u64 u)] [] (.v (vI z4)) []) ∧ (Fun Tryz.prog 43 [vI z4, vI z4, vI 10] [] (.v (vB (within z4 z4 10))) []) ∧ ((!(within z4 z4 10)) = false) ∧ (varLen u ≤ 9223372036854775807) ∧ (((1 : Nat) : Int) * z4 ≤ 281474976710656) ∧ (varLen u ≤ varLen u) ∧ ((0 : Int) ≤ varLen u) ∧ ((.v (vI (z6.length : Int)) : S) = .v (vI z4)) ∧ z7.Has [(0, .v (.c (.int .u64 u))), (1, .v (vI z4)), (5, .v (vO 0)), (15, .v (vI z4)), (16, .v (vI 0))] [.lst .u8 z6] ∧ ∀ q1, z7.inv q1 → (let z2 := (q1.v : Int); let z3 := (q1.out.length : Int); ((decide (z2 < varLen u)) = true → ((.v (.c (.int .u64 (IntKind.u64.wrap (((BitVec.ofInt 64 q1.u &&& BitVec.ofInt 64 127).toNat : Nat))))) : S) = .v (.c (.int .u64 (q1.u % 128)))) ∧ ((.v (.c (.int .u64 (IntKind.u64.wrap (((BitVec.ofInt 64 (q1.u % 128) ||| BitVec.ofInt 64 128).toNat : Nat))))) : S) = .v (.c (.int .u64 ((q1.u % 128) + 128)))) ∧ ((.v (.c (.int .u8 (IntKind.u8.wrap ((q1.u % 128) + 128)))) : S) = .v (.c (.int .u8 (q1.u % 128 + 128)))) ∧ (∃ (x1 : Int), q1.out[q1.v]? = some x1) ∧ ∀ (x1 : Int), (q1.out[q1.v]? = some x1) → ((z2 < z3) ∧ ((0 : Int) ≤ z2) ∧ (q1.out[q1.v]? = some x1) ∧ ((0 : Int) ≤ 7) ∧ ((.v (.c (.int .u64 (Int.fdiv q1.u (2 ^ 7)))) : S) = .v (.c (.int .u64 (q1.u / 128)))) ∧ ((.v (vI (IntKind.i64.wrap (z2 + 1))) : S) = .v (vI (z2 + 1))) ∧ z7.Nxt q1 [(0, .v (.c (.int .u64 (q1.u / 128)))), (1, .v (vI z4)), (5, .v (vO 0)), (15, .v (vI z4)), (16, .v (vI (z2 + 1)))] [.lst .u8 (List.set q1.out q1.v (q1.u % 128 + 128))])) ∧ ((decide (z2 < varLen u)) = false → ((.v (vI (IntKind.i64.wrap (z4 - 1))) : S) = .v (vI z5)) ∧ (∃ (x1 : Int), q1.out[z5.toNat]? = some x1) ∧ ∀ (x1 : Int), (q1.out[z5.toNat]? = some x1) → (let z1 := q1.out[z5.toNat]? = some x1; (varLen u - 1 < z3) ∧ ((0 : Int) ≤ varLen u - 1) ∧ z1 ∧ ((.v (.c (.int .u8 (IntKind.u8.wrap (((BitVec.ofInt 8 x1 &&& BitVec.ofInt 8 127).toNat : Nat))))) : S) = .v (.c (.int .u8 (x1 % 128)))) ∧ (varLen u - 1 < z3) ∧ ((0 : Int) ≤ varLen u - 1) ∧ z1 ∧ (.v (vT (List.map toByte (List.set q1.out (z5.toNat) (x1 % 128)))) : S) = .v (vT (putVar u)) ∧ ([] : List Blk) = []))))) (by kernel_rfl) ?_
 refine ⟨(varLen_i _ (by omega)), (within_i _ _ _), (by simp [within]; omega), (by omega), (by omega), (by omega), (by omega), (as_int (by rw [List.length_replicate]; omega)), has_of (j := (⟨u, List.replicate (Int.toNat (varLen u)) (0 : Int), 0⟩ : padVar_i_V0)) (by first | rfl | simp) rfl (by dsimp only [padVar_i_F0]; exact ⟨by omega, by unfold varLen; simp, by simp, by simp; omega⟩), fun (q1 : padVar_i_V0) hq_q1 => ?_⟩
 have hi_q1 : q1.v ≤ (List.length (putVar u)) ∧ q1.out.length = (List.length (putVar u)) ∧ List.take q1.v q1.out = List.take q1.v (padL (u.toNat) (List.length (putVar u))) ∧ q1.u = ((u.toNat / 128 ^ q1.v : Nat) : Int) := hq_q1
 obtain ⟨v1, v2, v3, v4⟩ := hi_q1
 have hb := varLen_b (u := u) (by omega)
 have hu0 : (0 : Int) ≤ q1.u := by rw [v4]; exact Int.natCast_nonneg _
 have hu1 : q1.u ≤ 18446744073709551615 := by rw [v4]; have := Nat.div_le_self (u.toNat) (128 ^ q1.v); omega
 refine dsp (fun h1 p1 => ?_) fun h1 p1 => ?_
 refine ⟨(as_mask_u64 (k := 7) (by decide) (by decide)), (or_128 (by omega) (by omega)), (as_u8 (by omega) (by omega)), (ax_get (l := q1.out) (i := q1.v) (by omega)), fun x1 hx1 => ?_⟩
 exact ⟨(by omega), (by omega), hx1, (by decide), (as_shr (k := 7) (by decide) (by decide)), (as_i64 (by omega) (by omega)), nxt_of (j := (⟨q1.u / 128, List.set q1.out q1.v (q1.u % 128 + 128), q1.v + 1⟩ : padVar_i_V0)) (by first | rfl | simp) rfl (by dsimp only [padVar_i_F0]; exact ⟨by omega, by simp [v2], fill_set v3 (by rw [v2, padL_len]) (by rw [padL_get (by omega), v4]; simp <;> omega), by rw [v4, padU_step]⟩) (by dsimp only [padVar_i_F0]; omega)⟩
 refine ⟨(as_i64 (by omega) (by omega)), (ax_get (l := q1.out) (i := Int.toNat (varLen u - 1)) (by omega)), fun x1 hx1 => ?_⟩
 refine ⟨(by omega), (by omega), ?_⟩
 have hq := fill_done v3 (by rw [v2, padL_len]) (by rw [padL_len]; omega)
 have hxe := hx1
 rw [hq, padL_get (by omega)] at hxe
 have hxe := Option.some.inj hxe
 have hxb : 0 ≤ x1 ∧ x1 ≤ 255 := by rw [← hxe]; omega
 refine ⟨hx1, (mask_u8 (by omega) (by omega)), (by omega), (by omega), hx1, (congrArg S.v (congrArg V.c (congrArg C.str ?_))), rfl⟩
 rotate_left
 all_goals rw [hq] at hx1 ⊢; rw [show Int.toNat (varLen u - 1) = List.length (putVar u) - 1 by omega] at hx1 ⊢; exact padL_fix rfl hx1
theorem putVar_i (u : Int) (hp1 : (0 : Int) ≤ u ∧ u ≤ 18446744073709551615) : Fun Tryz.prog 33 [.c (.int .u64 u)] [] (.v (vT (putVar u))) [] := by
 have hN : bigN = 274877906944 := rfl
 refine fun_ofw Tryz.func33 (by kernel_rfl) (by kernel_rfl) (w := let z1 := vT (putVar u); (.seg [.call [] (.v (vI (varLen u))) [], .call [] (.v z1) []] (.leaf () []), (Fun Tryz.prog 65 [.c (.int .u64 u)] [] (.v (vI (varLen u))) []) ∧ (Fun Tryz.prog 64 [.c (.int .u64 u), vI (varLen u)] [] (.v z1) []) ∧ (.v z1 : S) = .v z1 ∧ ([] : List Blk) = [])) (by kernel_rfl) ?_
 exact ⟨(varLen_i _ (by omega)), (padVar_i _ (by omega)), rfl, rfl⟩
structure varWithin_i_V0 where
 u : Int
 k : Nat
structure varWithin_s_V0 where
 u : Int
 k : Nat
theorem widthOk_i (w : Int) : Fun Tryz.prog 170 [vI w] [] (.v (vB (widthOk w))) [] := by
 have hN : bigN = 274877906944 := rfl
 refine fun_ofw Tryz.func170 (by kernel_rfl) (by kernel_rfl) (w := (.br (.leaf () []) (.leaf () []), ((decide (w = 4)) = true → (.v (vB true) : S) = .v (vB (widthOk w)) ∧ ([] : List Blk) = []) ∧ ((decide (w = 4)) = false → (.v (vB (decide (w = 8))) : S) = .v (vB (widthOk w)) ∧ ([] : List Blk) = []))) (by kernel_rfl) ?_
 refine dsp (fun h1 p1 => ?_) fun h1 p1 => ?_
 exact ⟨(congrArg S.v (congrArg V.c (congrArg C.bool (by simp [widthOk, *])))), rfl⟩
 exact ⟨(congrArg S.v (congrArg V.c (congrArg C.bool (by simp [widthOk, *])))), rfl⟩
structure getFix_i_V0 where
 u : Int
 v : Nat
structure getFix_s_V0 where
 u : Int
 i : Int
structure putFix_i_V0 where
 u : Int
 out : List Int
 v : Nat
def putFix_i_F0 (u : Int) (w : Int) : Fam := ⟨putFix_i_V0, fun q1 => [(0, .v (.c (.int .u64 q1.u))), (5, .v (vO 0)), (22, .v (vI w)), (23, .v (vI (q1.v : Int)))], fun q1 => [.lst .u8 q1.out], fun q1 => q1.v ≤ (w.toNat) ∧ q1.out.length = (w.toNat) ∧ List.take q1.v q1.out = List.take q1.v (fixL (u.toNat) (w.toNat)) ∧ q1.u = ((u.toNat / 256 ^ q1.v : Nat) : Int), fun q1 => (w.toNat) - q1.v⟩
theorem putFix_i (u : Int) (w : Int) (hp1 : (0 : Int) ≤ u ∧ u ≤ 18446744073709551615) : Fun Tryz.prog 154 [.c (.int .u64 u), vI w] [] (.v (vT (putFix u w))) [] := by
 have hN : bigN = 274877906944 := rfl
 refine fun_ofw Tryz.func154 (by kernel_rfl) (by kernel_rfl) (w := let z3 := List.replicate (w.toNat) (0 : Int); let z4 := putFix_i_F0 u w; let z5 := (.v (vI (z3.length : Int)) : S) = .v (vI w); let z6 := vT (putFix u w); let z7 := ((1 : Nat) : Int) * w ≤ 281474976710656; let z8 := ([] : List Blk); (.seg [.call [] (.v (vB (widthOk w))) []] (.br (.leaf () []) (.br (.seg [.as 15 (.v (.c (.int .u64 (u / 4294967296))))] (.br (.leaf () []) (.seg [.ty .u8, .as 22 (.v (vI w)), .at 0, .keep [0, 5, 22, 23], .sel [0]] (.loop z4 fun q1 => .br (.seg [.as 29 (.v (.c (.int .u8 (q1.u % 256))))] (.intro (fun (x1 : Int) => q1.out[q1.v]? = some x1) fun x1 => .seg [.el .u8 x1, .as 32 (.v (.c (.int .u64 (q1.u / 256)))), .as 33 (.v (vI ((q1.v : Int) + 1))), .at 0, .keep [0, 5, 22, 23], .sel [0]] (.next))) (.leaf () []))))) (.seg [.ty .u8, .as 22 (.v (vI w)), .at 0, .keep [0, 5, 22, 23], .sel [0]] (.loop z4 fun q1 => .br (.seg [.as 29 (.v (.c (.int .u8 (q1.u % 256))))] (.intro (fun (x1 : Int) => q1.out[q1.v]? = some x1) fun x1 => .seg [.el .u8 x1, .as 32 (.v (.c (.int .u64 (q1.u / 256)))), .as 33 (.v (vI ((q1.v : Int) + 1))), .at 0, .keep [0, 5, 22, 23], .sel [0]] (.next))) (.leaf () []))))), (Fun Tryz.prog 170 [vI w] [] (.v (vB (widthOk w))) []) ∧ ((!(widthOk w)) = true → (.v (vT []) : S) = .v z6 ∧ z8 = []) ∧ ((!(widthOk w)) = false → ((decide (w = 4)) = true → ((0 : Int) ≤ 32) ∧ ((.v (.c (.int .u64 (Int.fdiv u (2 ^ 32)))) : S) = .v (.c (.int .u64 (u / 4294967296)))) ∧ ((!decide (u / 4294967296 = 0)) = true → (.v (vT []) : S) = .v z6 ∧ z8 = []) ∧ ((!decide (u / 4294967296 = 0)) = false → (w ≤ 9223372036854775807) ∧ z7 ∧ (w ≤ w) ∧ ((0 : Int) ≤ w) ∧ z5 ∧ z4.Has [(0, .v (.c (.int .u64 u))), (5, .v (vO 0)), (22, .v (vI w)), (23, .v (vI 0))] [.lst .u8 z3] ∧ ∀ q1, z4.inv q1 → (let z1 := (q1.v : Int); ((decide (z1 < w)) = true → ((.v (.c (.int .u8 (IntKind.u8.wrap (q1.u)))) : S) = .v (.c (.int .u8 (q1.u % 256)))) ∧ (∃ (x1 : Int), q1.out[q1.v]? = some x1) ∧ ∀ (x1 : Int), (q1.out[q1.v]? = some x1) → ((z1 < (q1.out.length : Int)) ∧ ((0 : Int) ≤ z1) ∧ (q1.out[q1.v]? = some x1) ∧ ((0 : Int) ≤ 8) ∧ ((.v (.c (.int .u64 (Int.fdiv q1.u (2 ^ 8)))) : S) = .v (.c (.int .u64 (q1.u / 256)))) ∧ ((.v (vI (IntKind.i64.wrap (z1 + 1))) : S) = .v (vI (z1 + 1))) ∧ z4.Nxt q1 [(0, .v (.c (.int .u64 (q1.u / 256)))), (5, .v (vO 0)), (22, .v (vI w)), (23, .v (vI (z1 + 1)))] [.lst .u8 (List.set q1.out q1.v (q1.u % 256))])) ∧ ((decide (z1 < w)) = false → (.v (vT (List.map toByte q1.out)) : S) = .v z6 ∧ z8 = [])))) ∧ ((decide (w = 4)) = false → (w ≤ 9223372036854775807) ∧ z7 ∧ (w ≤ w) ∧ ((0 : Int) ≤ w) ∧ z5 ∧ z4.Has [(0, .v (.c (.int .u64 u))), (5, .v (vO 0)), (22, .v (vI w)), (23, .v (vI 0))] [.lst .u8 z3] ∧ ∀ q1, z4.inv q1 → (let z2 := (q1.v : Int); ((decide (z2 < w)) = true → ((.v (.c (.int .u8 (IntKind.u8.wrap (q1.u)))) : S) = .v (.c (.int .u8 (q1.u % 256)))) ∧ (∃ (x1 : Int), q1.out[q1.v]? = some x1) ∧ ∀ (x1 : Int), (q1.out[q1.v]? = some x1) → ((z2 < (q1.out.length : Int)) ∧ ((0 : Int) ≤ z2) ∧ (q1.out[q1.v]? = some x1) ∧ ((0 : Int) ≤ 8) ∧ ((.v (.c (.int .u64 (Int.fdiv q1.u (2 ^ 8)))) : S) = .v (.c (.int .u64 (q1.u / 256)))) ∧ ((.v (vI (IntKind.i64.wrap (z2 + 1))) : S) = .v (vI (z2 + 1))) ∧ z4.Nxt q1 [(0, .v (.c (.int .u64 (q1.u / 256)))), (5, .v (vO 0)), (22, .v (vI w)), (23, .v (vI (z2 + 1)))] [.lst .u8 (List.set q1.out q1.v (q1.u % 256))])) ∧ ((decide (z2 < w)) = false → (.v (vT (List.map toByte q1.out)) : S) = .v z6 ∧ z8 = [])))))) (by kernel_rfl) ?_
 refine ⟨(widthOk_i _), fun h1 => have q1 := bnot_t h1; have p1 := widthOk_f q1; ?_, fun h1 => have q1 := bnot_f h1; have p1 := widthOk_t q1; ?_⟩
 refine ⟨(congrArg S.v (congrArg V.c (congrArg C.str ?_))), rfl⟩
 rotate_left
 have hw8 := widthOk_t (by simpa using h1)
 refine dsp (fun h2 p2 => ?_) fun h2 p2 => ?_
 refine ⟨(by decide), (as_shr (k := 32) (by decide) (by decide)), fun h3 => have q3 := bnot_t h3; have p3 := of_decide_eq_false q3; ?_, fun h3 => have q3 := bnot_f h3; have p3 := of_decide_eq_true q3; ?_⟩
 refine ⟨(congrArg S.v (congrArg V.c (congrArg C.str ?_))), rfl⟩
 rotate_left
 refine ⟨(by omega), (by omega), (by omega), (by omega), (as_int (by rw [List.length_replicate]; omega)), has_of (j := (⟨u, List.replicate (w.toNat) (0 : Int), 0⟩ : putFix_i_V0)) (by first | rfl | simp) rfl (by dsimp only [putFix_i_F0]; exact ⟨by omega, by simp, by simp, by simp; omega⟩), fun (q1 : putFix_i_V0) hq_q1 => ?_⟩
 have hi_q1 : q1.v ≤ (w.toNat) ∧ q1.out.length = (w.toNat) ∧ List.take q1.v q1.out = List.take q1.v (fixL (u.toNat) (w.toNat)) ∧ q1.u = ((u.toNat / 256 ^ q1.v : Nat) : Int) := hq_q1
 obtain ⟨v1, v2, v3, v4⟩ := hi_q1
 have hu0 : (0 : Int) ≤ q1.u := by rw [v4]; exact Int.natCast_nonneg _
 have hu1 : q1.u ≤ 18446744073709551615 := by rw [v4]; have := Nat.div_le_self (u.toNat) (256 ^ q1.v); omega
 refine dsp (fun h4 p4 => ?_) fun h4 p4 => ?_
 refine ⟨(as_mod8 (by omega)), (ax_get (l := q1.out) (i := q1.v) (by omega)), fun x1 hx1 => ?_⟩
 exact ⟨(by omega), (by omega), hx1, (by decide), (as_shr (k := 8) (by decide) (by decide)), (as_i64 (by omega) (by omega)), nxt_of (j := (⟨q1.u / 256, List.set q1.out q1.v (q1.u % 256), q1.v + 1⟩ : putFix_i_V0)) (by first | rfl | simp) rfl (by dsimp only [putFix_i_F0]; exact ⟨by omega, by simp [v2], fill_set v3 (by rw [v2, fixL_len]) (by rw [fixL_get (by omega), v4]; simp <;> omega), by rw [v4, fixU_step]⟩) (by dsimp only [putFix_i_F0]; omega)⟩
 have hq := fill_done v3 (by rw [v2, fixL_len]) (by rw [fixL_len]; omega)
 refine ⟨(congrArg S.v (congrArg V.c (congrArg C.str ?_))), rfl⟩
 rotate_left
 refine ⟨(by omega), (by omega), (by omega), (by omega), (as_int (by rw [List.length_replicate]; omega)), has_of (j := (⟨u, List.replicate (w.toNat) (0 : Int), 0⟩ : putFix_i_V0)) (by first | rfl | simp) rfl (by dsimp only [putFix_i_F0]; exact ⟨by omega, by simp, by simp, by simp; omega⟩), fun (q1 : putFix_i_V0) hq_q1 => ?_⟩
 have hi_q1 : q1.v ≤ (w.toNat) ∧ q1.out.length = (w.toNat) ∧ List.take q1.v q1.out = List.take q1.v (fixL (u.toNat) (w.toNat)) ∧ q1.u = ((u.toNat / 256 ^ q1.v : Nat) : Int) := hq_q1
 obtain ⟨v1, v2, v3, v4⟩ := hi_q1
 have hu0 : (0 : Int) ≤ q1.u := by rw [v4]; exact Int.natCast_nonneg _
 have hu1 : q1.u ≤ 18446744073709551615 := by rw [v4]; have := Nat.div_le_self (u.toNat) (256 ^ q1.v); omega
 refine dsp (fun h3 p3 => ?_) fun h3 p3 => ?_
 refine ⟨(as_mod8 (by omega)), (ax_get (l := q1.out) (i := q1.v) (by omega)), fun x1 hx1 => ?_⟩
 exact ⟨(by omega), (by omega), hx1, (by decide), (as_shr (k := 8) (by decide) (by decide)), (as_i64 (by omega) (by omega)), nxt_of (j := (⟨q1.u / 256, List.set q1.out q1.v (q1.u % 256), q1.v + 1⟩ : putFix_i_V0)) (by first | rfl | simp) rfl (by dsimp only [putFix_i_F0]; exact ⟨by omega, by simp [v2], fill_set v3 (by rw [v2, fixL_len]) (by rw [fixL_get (by omega), v4]; simp <;> omega), by rw [v4, fixU_step]⟩) (by dsimp only [putFix_i_F0]; omega)⟩
 have hq := fill_done v3 (by rw [v2, fixL_len]) (by rw [fixL_len]; omega)
 refine ⟨(congrArg S.v (congrArg V.c (congrArg C.str ?_))), rfl⟩
 rotate_left
 all_goals first | (rw [hq, fixL_put]; simp_all [putFix, widthOk]; omega) | (rw [hq, fixL_put]; simp_all [putFix, widthOk]) | (simp_all [putFix, widthOk]; done) | (simp_all [putFix, widthOk]; omega)
structure putFix_s_V0 where
 u : Int
 out : List Int
 i : Nat
def putFix_s_F0 (u : Int) (w : Int) : Fam := ⟨putFix_s_V0, fun q1 => [(0, .v (.c (.int .u64 q1.u))), (1, .v (vI w)), (5, .v (vO 0)), (6, .v (vI (q1.i : Int)))], fun q1 => [.lst .u8 q1.out], fun q1 => (q1.i : Int) ≤ w ∧ (0 : Int) ≤ q1.u ∧ q1.u ≤ 18446744073709551615 ∧ List.map toByte q1.out ++ putFixN (w.toNat - q1.i) (q1.u.toNat) = putFixN (w.toNat) (u.toNat) ∧ q1.out.length = q1.i, fun q1 => w.toNat - q1.i⟩
theorem putFix_s (u : Int) (w : Int) (hp1 : (0 : Int) ≤ u ∧ u ≤ 18446744073709551615) : Fun Tryz.prog 167 [.c (.int .u64 u), vI w] [] (.v (vT (putFix u w))) [] := by
 have hN : bigN = 274877906944 := rfl
 refine fun_ofw Tryz.func167 (by kernel_rfl) (by kernel_rfl) (w := let z5 := putFix_s_F0 u w; let z6 := (256 : Int) ≠ 0; let z8 := vT (putFix u w); let z9 : List Blk := [.lst .u8 ([] : List Int)]; let z10 := ([] : List Blk); let z11 := decide (4294967295 < u); let z7 := z11 = true → (.v (vT []) : S) = .v z8 ∧ z10 = []; let z12 := decide (w = 4); (.br (.br (.leaf () []) (.br (.br (.leaf () []) (.seg [.ty .u8, .at 0, .keep [0, 1, 5, 6], .sel [0]] (.loop z5 fun q1 => .br (.seg [.as 29 (.v (.c (.int .u64 (q1.u % 256)))), .as 30 (.v (.c (.int .u8 (q1.u % 256)))), .ty .u8, .ty .u8, .as 34 (.v (.c (.int .u64 (q1.u / 256)))), .as 26 (.v (vI ((q1.i : Int) + 1))), .at 0, .keep [0, 1, 5, 6], .sel [2]] (.next)) (.leaf () [])))) (.seg [.ty .u8, .at 0, .keep [0, 1, 5, 6], .sel [0]] (.loop z5 fun q1 => .br (.seg [.as 29 (.v (.c (.int .u64 (q1.u % 256)))), .as 30 (.v (.c (.int .u8 (q1.u % 256)))), .ty .u8, .ty .u8, .as 34 (.v (.c (.int .u64 (q1.u / 256)))), .as 26 (.v (vI ((q1.i : Int) + 1))), .at 0, .keep [0, 1, 5, 6], .sel [2]] (.next)) (.leaf () []))))) (.br (.br (.leaf () []) (.seg [.ty .u8, .at 0, .keep [0, 1, 5, 6], .sel [0]] (.loop z5 fun q1 => .br (.seg [.as 29 (.v (.c (.int .u64 (q1.u % 256)))), .as 30 (.v (.c (.int .u8 (q1.u % 256)))), .ty .u8, .ty .u8, .as 34 (.v (.c (.int .u64 (q1.u / 256)))), .as 26 (.v (vI ((q1.i : Int) + 1))), .at 0, .keep [0, 1, 5, 6], .sel [2]] (.next)) (.leaf () [])))) (.seg [.ty .u8, .at 0, .keep [0, 1, 5, 6], .sel [0]] (.loop z5 fun q1 => .br (.seg [.as 29 (.v (.c (.int .u64 (q1.u % 256)))), .as 30 (.v (.c (.int .u8 (q1.u % 256)))), .ty .u8, .ty .u8, .as 34 (.v (.c (.int .u64 (q1.u / 256)))), .as 26 (.v (vI ((q1.i : Int) + 1))), .at 0, .keep [0, 1, 5, 6], .sel [2]] (.next)) (.leaf () [])))), ((!decide (w = 4)) = true → ((!decide (w = 8)) = true → (.v (vT []) : S) = .v z8 ∧ z10 = []) ∧ ((!decide (w = 8)) = false → (z12 = true → z7 ∧ (z11 = false → z5.Has [(0, .v (.c (.int .u64 u))), (1, .v (vI w)), (5, .v (vO 0)), (6, .v (vI 0))] z9 ∧ ∀ q1, z5.inv q1 → (let z1 := (q1.i : Int); ((decide (z1 < w)) = true → z6 ∧ ((.v (.c (.int .u64 (Int.tmod q1.u 256))) : S) = .v (.c (.int .u64 (q1.u % 256)))) ∧ ((.v (.c (.int .u8 (IntKind.u8.wrap (q1.u % 256)))) : S) = .v (.c (.int .u8 (q1.u % 256)))) ∧ (q1.out.length + List.length [q1.u % 256] ≤ bigN) ∧ z6 ∧ ((.v (.c (.int .u64 (IntKind.u64.wrap (Int.tdiv q1.u 256)))) : S) = .v (.c (.int .u64 (q1.u / 256)))) ∧ ((.v (vI (IntKind.i64.wrap (z1 + 1))) : S) = .v (vI (z1 + 1))) ∧ z5.Nxt q1 [(0, .v (.c (.int .u64 (q1.u / 256)))), (1, .v (vI w)), (5, .v (vO 0)), (6, .v (vI (z1 + 1)))] [.lst .u8 (q1.out ++ [q1.u % 256])]) ∧ ((decide (z1 < w)) = false → (.v (vT (List.map toByte q1.out)) : S) = .v z8 ∧ z10 = [])))) ∧ (z12 = false → z5.Has [(0, .v (.c (.int .u64 u))), (1, .v (vI w)), (5, .v (vO 0)), (6, .v (vI 0))] z9 ∧ ∀ q1, z5.inv q1 → (let z2 := (q1.i : Int); ((decide (z2 < w)) = true → z6 ∧ ((.v (.c (.int .u64 (Int.tmod q1.u 256))) : S) = .v (.c (.int .u64 (q1.u % 256)))) ∧ ((.v (.c (.int .u8 (IntKind.u8.wrap (q1.u % 256)))) : S) = .v (.c (.int .u8 (q1.u % 256)))) ∧ (q1.out.length + List.length [q1.u % 256] ≤ bigN) ∧ z6 ∧ ((.v (.c (.int .u64 (IntKind.u64.wrap (Int.tdiv q1.u 256)))) : S) = .v (.c (.int .u64 (q1.u / 256)))) ∧ ((.v (vI (IntKind.i64.wrap (z2 + 1))) : S) = .v (vI (z2 + 1))) ∧ z5.Nxt q1 [(0, .v (.c (.int .u64 (q1.u / 256)))), (1, .v (vI w)), (5, .v (vO 0)), (6, .v (vI (z2 + 1)))] [.lst .u8 (q1.out ++ [q1.u % 256])]) ∧ ((decide (z2 < w)) = false → (.v (vT (List.map toByte q1.out)) : S) = .v z8 ∧ z10 = []))))) ∧ ((!decide (w = 4)) = false → (z12 = true → z7 ∧ (z11 = false → z5.Has [(0, .v (.c (.int .u64 u))), (1, .v (vI w)), (5, .v (vO 0)), (6, .v (vI 0))] z9 ∧ ∀ q1, z5.inv q1 → (let z3 := (q1.i : Int); ((decide (z3 < w)) = true → z6 ∧ ((.v (.c (.int .u64 (Int.tmod q1.u 256))) : S) = .v (.c (.int .u64 (q1.u % 256)))) ∧ ((.v (.c (.int .u8 (IntKind.u8.wrap (q1.u % 256)))) : S) = .v (.c (.int .u8 (q1.u % 256)))) ∧ (q1.out.length + List.length [q1.u % 256] ≤ bigN) ∧ z6 ∧ ((.v (.c (.int .u64 (IntKind.u64.wrap (Int.tdiv q1.u 256)))) : S) = .v (.c (.int .u64 (q1.u / 256)))) ∧ ((.v (vI (IntKind.i64.wrap (z3 + 1))) : S) = .v (vI (z3 + 1))) ∧ z5.Nxt q1 [(0, .v (.c (.int .u64 (q1.u / 256)))), (1, .v (vI w)), (5, .v (vO 0)), (6, .v (vI (z3 + 1)))] [.lst .u8 (q1.out ++ [q1.u % 256])]) ∧ ((decide (z3 < w)) = false → (.v (vT (List.map toByte q1.out)) : S) = .v z8 ∧ z10 = [])))) ∧ (z12 = false → z5.Has [(0, .v (.c (.int .u64 u))), (1, .v (vI w)), (5, .v (vO 0)), (6, .v (vI 0))] z9 ∧ ∀ q1, z5.inv q1 → (let z4 := (q1.i : Int); ((decide (z4 < w)) = true → z6 ∧ ((.v (.c (.int .u64 (Int.tmod q1.u 256))) : S) = .v (.c (.int .u64 (q1.u % 256)))) ∧ ((.v (.c (.int .u8 (IntKind.u8.wrap (q1.u % 256)))) : S) = .v (.c (.int .u8 (q1.u % 256)))) ∧ (q1.out.length + List.length [q1.u % 256] ≤ bigN) ∧ z6 ∧ ((.v (.c (.int .u64 (IntKind.u64.wrap (Int.tdiv q1.u 256)))) : S) = .v (.c (.int .u64 (q1.u / 256)))) ∧ ((.v (vI (IntKind.i64.wrap (z4 + 1))) : S) = .v (vI (z4 + 1))) ∧ z5.Nxt q1 [(0, .v (.c (.int .u64 (q1.u / 256)))), (1, .v (vI w)), (5, .v (vO 0)), (6, .v (vI (z4 + 1)))] [.lst .u8 (q1.out ++ [q1.u % 256])]) ∧ ((decide (z4 < w)) = false → (.v (vT (List.map toByte q1.out)) : S) = .v z8 ∧ z10 = [])))))) (by kernel_rfl) ?_
 refine ⟨fun h1 => have q1 := bnot_t h1; have p1 := of_decide_eq_false q1; ?_, fun h1 => have q1 := bnot_f h1; have p1 := of_decide_eq_true q1; ?_⟩
 refine ⟨fun h2 => have q2 := bnot_t h2; have p2 := of_decide_eq_false q2; ?_, fun h2 => have q2 := bnot_f h2; have p2 := of_decide_eq_true q2; ?_⟩
 refine ⟨(congrArg S.v (congrArg V.c (congrArg C.str ?_))), rfl⟩
 rotate_left
 refine dsp (fun h3 p3 => ?_) fun h3 p3 => ?_
 refine dsp (fun h4 p4 => ?_) fun h4 p4 => ?_
 refine ⟨(congrArg S.v (congrArg V.c (congrArg C.str ?_))), rfl⟩
 rotate_left
 refine ⟨has_of (j := (⟨u, ([] : List Int), 0⟩ : putFix_s_V0)) (by first | rfl | simp) rfl (by dsimp only [putFix_s_F0]; exact ⟨by omega, by omega, by omega, by simp, by simp⟩), fun (q1 : putFix_s_V0) hq_q1 => ?_⟩
 have hi_q1 : (q1.i : Int) ≤ w ∧ (0 : Int) ≤ q1.u ∧ q1.u ≤ 18446744073709551615 ∧ List.map toByte q1.out ++ putFixN (w.toNat - q1.i) (q1.u.toNat) = putFixN (w.toNat) (u.toNat) ∧ q1.out.length = q1.i := hq_q1
 obtain ⟨v1, v2, v3, v4, v5⟩ := hi_q1
 refine dsp (fun h5 p5 => ?_) fun h5 p5 => ?_
 exact ⟨(by decide), (as_tmod (by omega)), (as_u8 (by omega) (by omega)), (by simp only [List.length_cons, List.length_nil]; omega), (by decide), (as_tdiv_u64 (by omega) (by omega) (by decide)), (as_i64 (by omega) (by omega)), nxt_of (j := (⟨q1.u / 256, q1.out ++ [q1.u % 256], q1.i + 1⟩ : putFix_s_V0)) (by first | rfl | simp) rfl (by dsimp only [putFix_s_F0]; exact ⟨by omega, by omega, by omega, by rw [← v4, show w.toNat - q1.i = (w.toNat - (q1.i + 1)) + 1 by omega, putFixN, show Int.toNat (q1.u / 256) = q1.u.toNat / 256 by omega]; simp only [List.map_append, List.map_cons, List.map_nil, List.append_assoc, List.cons_append, List.nil_append, toByte]; rw [show Int.toNat (q1.u % 256) = q1.u.toNat % 256 by omega], by simp [v5]⟩) (by dsimp only [putFix_s_F0]; omega)⟩
 have hz : w.toNat - q1.i = 0 := by omega
 rw [hz] at v4
 simp only [putFixN, List.append_nil] at v4
 refine ⟨(congrArg S.v (congrArg V.c (congrArg C.str ?_))), rfl⟩
 rotate_left
 refine ⟨has_of (j := (⟨u, ([] : List Int), 0⟩ : putFix_s_V0)) (by first | rfl | simp) rfl (by dsimp only [putFix_s_F0]; exact ⟨by omega, by omega, by omega, by simp, by simp⟩), fun (q1 : putFix_s_V0) hq_q1 => ?_⟩
 have hi_q1 : (q1.i : Int) ≤ w ∧ (0 : Int) ≤ q1.u ∧ q1.u ≤ 18446744073709551615 ∧ List.map toByte q1.out ++ putFixN (w.toNat - q1.i) (q1.u.toNat) = putFixN (w.toNat) (u.toNat) ∧ q1.out.length = q1.i := hq_q1
 obtain ⟨v1, v2, v3, v4, v5⟩ := hi_q1
 refine dsp (fun h4 p4 => ?_) fun h4 p4 => ?_
 exact ⟨(by decide), (as_tmod (by omega)), (as_u8 (by omega) (by omega)), (by simp only [List.length_cons, List.length_nil]; omega), (by decide), (as_tdiv_u64 (by omega) (by omega) (by decide)), (as_i64 (by omega) (by omega)), nxt_of (j := (⟨q1.u / 256, q1.out ++ [q1.u % 256], q1.i + 1⟩ : putFix_s_V0)) (by first | rfl | simp) rfl (by dsimp only [putFix_s_F0]; exact ⟨by omega, by omega, by omega, by rw [← v4, show w.toNat - q1.i = (w.toNat - (q1.i + 1)) + 1 by omega, putFixN, show Int.toNat (q1.u / 256) = q1.u.toNat / 256 by omega]; simp only [List.map_append, List.map_cons, List.map_nil, List.append_assoc, List.cons_append, List.nil_append, toByte]; rw [show Int.toNat (q1.u % 256) = q1.u.toNat % 256 by omega], by simp [v5]⟩) (by dsimp only [putFix_s_F0]; omega)⟩
 have hz : w.toNat - q1.i = 0 := by omega
 rw [hz] at v4
 simp only [putFixN, List.append_nil] at v4
 refine ⟨(congrArg S.v (congrArg V.c (congrArg C.str ?_))), rfl⟩
 rotate_left
 refine dsp (fun h2 p2 => ?_) fun h2 p2 => ?_
 refine dsp (fun h3 p3 => ?_) fun h3 p3 => ?_
 refine ⟨(congrArg S.v (congrArg V.c (congrArg C.str ?_))), rfl⟩
 rotate_left
 refine ⟨has_of (j := (⟨u, ([] : List Int), 0⟩ : putFix_s_V0)) (by first | rfl | simp) rfl (by dsimp only [putFix_s_F0]; exact ⟨by omega, by omega, by omega, by simp, by simp⟩), fun (q1 : putFix_s_V0) hq_q1 => ?_⟩
 have hi_q1 : (q1.i : Int) ≤ w ∧ (0 : Int) ≤ q1.u ∧ q1.u ≤ 18446744073709551615 ∧ List.map toByte q1.out ++ putFixN (w.toNat - q1.i) (q1.u.toNat) = putFixN (w.toNat) (u.toNat) ∧ q1.out.length = q1.i := hq_q1
 obtain ⟨v1, v2, v3, v4, v5⟩ := hi_q1
 refine dsp (fun h4 p4 => ?_) fun h4 p4 => ?_
 exact ⟨(by decide), (as_tmod (by omega)), (as_u8 (by omega) (by omega)), (by simp only [List.length_cons, List.length_nil]; omega), (by decide), (as_tdiv_u64 (by omega) (by omega) (by decide)), (as_i64 (by omega) (by omega)), nxt_of (j := (⟨q1.u / 256, q1.out ++ [q1.u % 256], q1.i + 1⟩ : putFix_s_V0)) (by first | rfl | simp) rfl (by dsimp only [putFix_s_F0]; exact ⟨by omega, by omega, by omega, by rw [← v4, show w.toNat - q1.i = (w.toNat - (q1.i + 1)) + 1 by omega, putFixN, show Int.toNat (q1.u / 256) = q1.u.toNat / 256 by omega]; simp only [List.map_append, List.map_cons, List.map_nil, List.append_assoc, List.cons_append, List.nil_append, toByte]; rw [show Int.toNat (q1.u % 256) = q1.u.toNat % 256 by omega], by simp [v5]⟩) (by dsimp only [putFix_s_F0]; omega)⟩
 have hz : w.toNat - q1.i = 0 := by omega
 rw [hz] at v4
 simp only [putFixN, List.append_nil] at v4
 refine ⟨(congrArg S.v (congrArg V.c (congrArg C.str ?_))), rfl⟩
 rotate_left
 refine ⟨has_of (j := (⟨u, ([] : List Int), 0⟩ : putFix_s_V0)) (by first | rfl | simp) rfl (by dsimp only [putFix_s_F0]; exact ⟨by omega, by omega, by omega, by simp, by simp⟩), fun (q1 : putFix_s_V0) hq_q1 => ?_⟩
 have hi_q1 : (q1.i : Int) ≤ w ∧ (0 : Int) ≤ q1.u ∧ q1.u ≤ 18446744073709551615 ∧ List.map toByte q1.out ++ putFixN (w.toNat - q1.i) (q1.u.toNat) = putFixN (w.toNat) (u.toNat) ∧ q1.out.length = q1.i := hq_q1
 obtain ⟨v1, v2, v3, v4, v5⟩ := hi_q1
 refine dsp (fun h3 p3 => ?_) fun h3 p3 => ?_
 exact ⟨(by decide), (as_tmod (by omega)), (as_u8 (by omega) (by omega)), (by simp only [List.length_cons, List.length_nil]; omega), (by decide), (as_tdiv_u64 (by omega) (by omega) (by decide)), (as_i64 (by omega) (by omega)), nxt_of (j := (⟨q1.u / 256, q1.out ++ [q1.u % 256], q1.i + 1⟩ : putFix_s_V0)) (by first | rfl | simp) rfl (by dsimp only [putFix_s_F0]; exact ⟨by omega, by omega, by omega, by rw [← v4, show w.toNat - q1.i = (w.toNat - (q1.i + 1)) + 1 by omega, putFixN, show Int.toNat (q1.u / 256) = q1.u.toNat / 256 by omega]; simp only [List.map_append, List.map_cons, List.map_nil, List.append_assoc, List.cons_append, List.nil_append, toByte]; rw [show Int.toNat (q1.u % 256) = q1.u.toNat % 256 by omega], by simp [v5]⟩) (by dsimp only [putFix_s_F0]; omega)⟩
 have hz : w.toNat - q1.i = 0 := by omega
 rw [hz] at v4
 simp only [putFixN, List.append_nil] at v4
 refine ⟨(congrArg S.v (congrArg V.c (congrArg C.str ?_))), rfl⟩
 rotate_left
 all_goals first | (rw [v4]; simp_all [putFix, widthOk]; done) | (rw [v4]; simp_all [putFix, widthOk]; omega) | (simp_all [putFix, widthOk]; done) | (simp_all [putFix, widthOk]; omega)
theorem tagOf_i (n : Int) (w : Int) : Fun Tryz.prog 113 [vI n, vI w] [] (.v (.c (.int .u64 (tagOf n w)))) [] := by
 have hN : bigN = 274877906944 := rfl
 refine fun_ofw Tryz.func113 (by kernel_rfl) (by kernel_rfl) (w := let z1 := within n 1 536870911; let z2 := within w 0 7; let z3 := (8 * n) + w; (.seg [.call [] (.v (vB z1)) []] (.br (.leaf () []) (.seg [.call [] (.v (vB z2)) []] (.br (.leaf () []) (.seg [.as 14 (.v (.c (.int .u64 n))), .as 15 (.v (.c (.int .u64 (8 * n)))), .as 17 (.v (.c (.int .u64 w))), .as 18 (.v (.c (.int .u64 z3)))] (.leaf () []))))), (Fun Tryz.prog 43 [vI n, vI 1, vI 536870911] [] (.v (vB z1)) []) ∧ ((!z1) = true → (.v (.c (.int .u64 0)) : S) = .v (.c (.int .u64 (tagOf n w))) ∧ ([] : List Blk) = []) ∧ ((!z1) = false → (Fun Tryz.prog 43 [vI w, vI 0, vI 7] [] (.v (vB z2)) []) ∧ ((!z2) = true → (.v (.c (.int .u64 0)) : S) = .v (.c (.int .u64 (tagOf n w))) ∧ ([] : List Blk) = []) ∧ ((!z2) = false → ((.v (.c (.int .u64 (IntKind.u64.wrap (n)))) : S) = .v (.c (.int .u64 n))) ∧ ((.v (.c (.int .u64 (IntKind.u64.wrap (8 * n)))) : S) = .v (.c (.int .u64 (8 * n)))) ∧ ((.v (.c (.int .u64 (IntKind.u64.wrap (w)))) : S) = .v (.c (.int .u64 w))) ∧ ((.v (.c (.int .u64 (IntKind.u64.wrap z3))) : S) = .v (.c (.int .u64 z3))) ∧ (.v (.c (.int .u64 z3)) : S) = .v (.c (.int .u64 (tagOf n w))) ∧ ([] : List Blk) = [])))) (by kernel_rfl) ?_
 refine ⟨(within_i _ _ _), fun h1 => have q1 := bnot_t h1; have p1 := within_f q1; ?_, fun h1 => have q1 := bnot_f h1; have p1 := within_t q1; ?_⟩
 exact ⟨(congrArg S.v (congrArg V.c (congrArg (C.int .u64) (by simp [tagOf, *])))), rfl⟩
 refine ⟨(within_i _ _ _), fun h2 => have q2 := bnot_t h2; have p2 := within_f q2; ?_, fun h2 => have q2 := bnot_f h2; have p2 := within_t q2; ?_⟩
 exact ⟨(congrArg S.v (congrArg V.c (congrArg (C.int .u64) (by simp [tagOf, *])))), rfl⟩
 exact ⟨(as_u64 (by omega) (by omega)), (as_u64 (by omega) (by omega)), (as_u64 (by omega) (by omega)), (as_u64 (by omega) (by omega)), (congrArg S.v (congrArg V.c (congrArg (C.int .u64) (by simp [tagOf, *])))), rfl⟩
theorem tagOf_s (n : Int) (w : Int) : Fun Tryz.prog 117 [vI n, vI w] [] (.v (.c (.int .u64 (tagOf n w)))) [] := by
 have hN : bigN = 274877906944 := rfl
 refine fun_ofw Tryz.func117 (by kernel_rfl) (by kernel_rfl) (w := let z1 := (8 * n) + w; let z2 := within n 1 536870911; let z3 := within w 0 7; (.seg [.call [] (.v (vB z2)) []] (.br (.leaf () []) (.seg [.call [] (.v (vB z3)) []] (.br (.leaf () []) (.seg [.as 14 (.v (vI (8 * n))), .as 16 (.v (vI z1)), .as 17 (.v (.c (.int .u64 z1)))] (.leaf () []))))), (Fun Tryz.prog 45 [vI n, vI 1, vI 536870911] [] (.v (vB z2)) []) ∧ ((!z2) = true → (.v (.c (.int .u64 0)) : S) = .v (.c (.int .u64 (tagOf n w))) ∧ ([] : List Blk) = []) ∧ ((!z2) = false → (Fun Tryz.prog 45 [vI w, vI 0, vI 7] [] (.v (vB z3)) []) ∧ ((!z3) = true → (.v (.c (.int .u64 0)) : S) = .v (.c (.int .u64 (tagOf n w))) ∧ ([] : List Blk) = []) ∧ ((!z3) = false → ((.v (vI (IntKind.i64.wrap (8 * n))) : S) = .v (vI (8 * n))) ∧ ((.v (vI (IntKind.i64.wrap z1)) : S) = .v (vI z1)) ∧ ((.v (.c (.int .u64 (IntKind.u64.wrap z1))) : S) = .v (.c (.int .u64 z1))) ∧ (.v (.c (.int .u64 z1)) : S) = .v (.c (.int .u64 (tagOf n w))) ∧ ([] : List Blk) = [])))) (by kernel_rfl) ?_
 refine ⟨(within_s _ _ _), fun h1 => have q1 := bnot_t h1; have p1 := within_f q1; ?_, fun h1 => have q1 := bnot_f h1; have p1 := within_t q1; ?_⟩
 exact ⟨(congrArg S.v (congrArg V.c (congrArg (C.int .u64) (by simp [tagOf, *])))), rfl⟩
 refine ⟨(within_s _ _ _), fun h2 => have q2 := bnot_t h2; have p2 := within_f q2; ?_, fun h2 => have q2 := bnot_f h2; have p2 := within_t q2; ?_⟩
 exact ⟨(congrArg S.v (congrArg V.c (congrArg (C.int .u64) (by simp [tagOf, *])))), rfl⟩
 exact ⟨(as_i64 (by omega) (by omega)), (as_i64 (by omega) (by omega)), (as_u64 (by omega) (by omega)), (congrArg S.v (congrArg V.c (congrArg (C.int .u64) (by simp [tagOf, *])))), rfl⟩
theorem frameOf_i (b : List UInt8) (hp1 : b.length ≤ bigN) : Fun Tryz.prog 13 [vT b] [] (.v (vT (frameOf b))) [] := by
 have hN : bigN = 274877906944 := rfl
 refine fun_ofw Tryz.func13 (by kernel_rfl) (by kernel_rfl) (w := let z1 := (b.length : Int); (.seg [.as 5 (.v (.c (.int .u64 z1))), .call [] (.v (vT (putVar z1))) []] (.leaf () []), ((.v (.c (.int .u64 (IntKind.u64.wrap (z1)))) : S) = .v (.c (.int .u64 z1))) ∧ (Fun Tryz.prog 33 [.c (.int .u64 z1)] [] (.v (vT (putVar z1))) []) ∧ (((List.length (putVar z1) + b.length : Nat) : Int) ≤ i64max) ∧ (.v (vT ((putVar z1) ++ b)) : S) = .v (vT (frameOf b)) ∧ ([] : List Blk) = [])) (by kernel_rfl) ?_
 exact ⟨(as_u64 (by omega) (by omega)), (putVar_i _ (by omega)), (by have := putVar_len (u := (b.length : Int)) (by omega); simp only [i64max]; omega), (congrArg S.v (congrArg V.c (congrArg C.str (by rfl)))), rfl⟩
theorem frameOf_s (b : List UInt8) (hp1 : b.length ≤ bigN) : Fun Tryz.prog 29 [vT b] [] (.v (vT (frameOf b))) [] := by
 have hN : bigN = 274877906944 := rfl
 refine fun_ofw Tryz.func29 (by kernel_rfl) (by kernel_rfl) (w := let z1 := (b.length : Int); (.seg [.as 5 (.v (.c (.int .u64 z1))), .call [] (.v (vT (putVar z1))) []] (.leaf () []), ((.v (.c (.int .u64 (IntKind.u64.wrap (z1)))) : S) = .v (.c (.int .u64 z1))) ∧ (Fun Tryz.prog 54 [.c (.int .u64 z1)] [] (.v (vT (putVar z1))) []) ∧ (((List.length (putVar z1) + b.length : Nat) : Int) ≤ i64max) ∧ (.v (vT ((putVar z1) ++ b)) : S) = .v (vT (frameOf b)) ∧ ([] : List Blk) = [])) (by kernel_rfl) ?_
 exact ⟨(as_u64 (by omega) (by omega)), (putVar_s _ (by omega)), (by have := putVar_len (u := (b.length : Int)) (by omega); simp only [i64max]; omega), (congrArg S.v (congrArg V.c (congrArg C.str (by rfl)))), rfl⟩
theorem utfOk_i (u : Utf) : Fun Tryz.prog 177 [.agg (cUtf u)] [] (.v (vB (utfOk u))) [] := by
 have hN : bigN = 274877906944 := rfl
 refine fun_ofw Tryz.func177 (by kernel_rfl) (by kernel_rfl) (w := let z1 := decide (u.low = 128) && decide (u.high = 191); let z2 := decide (u.want = 2) && (decide (u.low = 160) && decide (u.high = 191)); let z3 := decide (u.want = 2) && (decide (u.low = 128) && decide (u.high = 159)); let z4 := decide (u.want = 3) && (decide (u.low = 144) && decide (u.high = 191)); let z5 := decide (u.want = 0) && (decide (u.low = 0) && decide (u.high = 0)); let z6 := (.v (vB true) : S); let z7 := ([] : List Blk); let z8 := vB (utfOk u); let z9 := decide (u.want = 3) && (decide (u.low = 128) && decide (u.high = 143)); let z10 := decide (u.want = 1) && z1; let z11 := decide (u.want = 2) && z1; let z12 := decide (u.want = 3) && z1; (.br (.seg [.br true] (.leaf () [])) (.br (.seg [.br true] (.leaf () [])) (.br (.seg [.br true] (.leaf () [])) (.br (.seg [.br true] (.leaf () [])) (.br (.seg [.br true] (.leaf () [])) (.br (.seg [.br true] (.leaf () [])) (.br (.seg [.br true] (.leaf () [])) (.br (.leaf () []) (.leaf () [])))))))), (z5 = true → (z5 = true) ∧ z6 = .v z8 ∧ z7 = []) ∧ (z5 = false → (z10 = true → (z10 = true) ∧ z6 = .v z8 ∧ z7 = []) ∧ (z10 = false → (z11 = true → (z11 = true) ∧ z6 = .v z8 ∧ z7 = []) ∧ (z11 = false → (z12 = true → (z12 = true) ∧ z6 = .v z8 ∧ z7 = []) ∧ (z12 = false → (z2 = true → (z2 = true) ∧ z6 = .v z8 ∧ z7 = []) ∧ (z2 = false → (z3 = true → (z3 = true) ∧ z6 = .v z8 ∧ z7 = []) ∧ (z3 = false → (z4 = true → (z4 = true) ∧ z6 = .v z8 ∧ z7 = []) ∧ (z4 = false → (z9 = true → z6 = .v z8 ∧ z7 = []) ∧ (z9 = false → (.v (vB false) : S) = .v z8 ∧ z7 = [])))))))))) (by kernel_rfl) ?_
 refine ⟨fun h1 => have p1 := (andT dT (andT dT dT)).1 h1; ?_, fun h1 => have p1 := (andF dT (andF dT dF)).1 h1; ?_⟩
 refine ⟨h1, (sB ?_), rfl⟩
 rotate_left
 refine ⟨fun h2 => have p2 := (andT dT (andT dT dT)).1 h2; ?_, fun h2 => have p2 := (andF dT (andF dT dF)).1 h2; ?_⟩
 refine ⟨h2, (sB ?_), rfl⟩
 rotate_left
 refine ⟨fun h3 => have p3 := (andT dT (andT dT dT)).1 h3; ?_, fun h3 => have p3 := (andF dT (andF dT dF)).1 h3; ?_⟩
 refine ⟨h3, (sB ?_), rfl⟩
 rotate_left
 refine ⟨fun h4 => have p4 := (andT dT (andT dT dT)).1 h4; ?_, fun h4 => have p4 := (andF dT (andF dT dF)).1 h4; ?_⟩
 refine ⟨h4, (sB ?_), rfl⟩
 rotate_left
 refine ⟨fun h5 => have p5 := (andT dT (andT dT dT)).1 h5; ?_, fun h5 => have p5 := (andF dT (andF dT dF)).1 h5; ?_⟩
 refine ⟨h5, (sB ?_), rfl⟩
 rotate_left
 refine ⟨fun h6 => have p6 := (andT dT (andT dT dT)).1 h6; ?_, fun h6 => have p6 := (andF dT (andF dT dF)).1 h6; ?_⟩
 refine ⟨h6, (sB ?_), rfl⟩
 rotate_left
 refine ⟨fun h7 => have p7 := (andT dT (andT dT dT)).1 h7; ?_, fun h7 => have p7 := (andF dT (andF dT dF)).1 h7; ?_⟩
 refine ⟨h7, (sB ?_), rfl⟩
 rotate_left
 refine ⟨fun h8 => have p8 := (andT dT (andT dT dT)).1 h8; ?_, fun h8 => have p8 := (andF dT (andF dT dF)).1 h8; ?_⟩
 refine ⟨(sB ?_), rfl⟩
 rotate_left
 refine ⟨(sB ?_), rfl⟩
 rotate_left
 all_goals first | (rw [Bool.eq_iff_iff]; simp [utfOk, utfIs]; omega) | (rw [Bool.eq_iff_iff]; simp [utfOk, utfIs, within]; omega) | (simp_all [utfOk, utfIs, within]; done)
theorem utfOk_s (u : Utf) : Fun Tryz.prog 174 [.agg (cUtf u)] [] (.v (vB (utfOk u))) [] := by
 have hN : bigN = 274877906944 := rfl
 refine fun_ofw Tryz.func174 (by kernel_rfl) (by kernel_rfl) (w := let z1 := decide (u.low = 128); let z2 := ([] : List Blk); let z3 := vB (utfOk u); let z4 := decide (u.high = 191); let z5 := (.v (vB false) : S); let z6 := decide (u.want = 0) && (decide (u.low = 0) && decide (u.high = 0)); let z7 := decide (u.low = 160); let z8 := decide (u.low = 144); let z9 := decide (u.want = 2); let z10 := decide (u.want = 3); let z11 := z4 = true → (.v (vB true) : S) = .v z3 ∧ z2 = []; let z12 := z4 = false → (z1 = false) ∧ z5 = .v z3 ∧ z2 = []; let z13 := vB (within u.want 1 3); let z14 := (.v (vB (decide (u.high = 159))) : S); let z15 := (.v (vB (decide (u.high = 143))) : S); let z16 := z10 = false → z5 = .v z3 ∧ z2 = []; (.br (.leaf () []) (.br (.br (.seg [.call [] (.v z13) []] (.leaf () [])) (.br (.br (.seg [.br false, .br true] (.leaf () [])) (.seg [.br true] (.leaf () []))) (.br (.br (.seg [.br false, .br true] (.leaf () [])) (.seg [.br true] (.leaf () []))) (.leaf () [])))) (.br (.br (.br (.leaf () []) (.seg [.br false] (.leaf () []))) (.seg [.br false] (.leaf () []))) (.br (.br (.br (.leaf () []) (.seg [.br false] (.leaf () []))) (.seg [.br false] (.leaf () []))) (.leaf () [])))), (z6 = true → (.v (vB true) : S) = .v z3 ∧ z2 = []) ∧ (z6 = false → (z1 = true → (z4 = true → (Fun Tryz.prog 45 [vI u.want, vI 1, vI 3] [] (.v z13) []) ∧ (.v z13 : S) = .v z3 ∧ z2 = []) ∧ (z4 = false → (z9 = true → (z7 = true → (z4 = false) ∧ (z1 = true) ∧ z14 = .v z3 ∧ z2 = []) ∧ (z7 = false → (z1 = true) ∧ z14 = .v z3 ∧ z2 = [])) ∧ (z9 = false → (z10 = true → (z8 = true → (z4 = false) ∧ (z1 = true) ∧ z15 = .v z3 ∧ z2 = []) ∧ (z8 = false → (z1 = true) ∧ z15 = .v z3 ∧ z2 = [])) ∧ z16))) ∧ (z1 = false → (z9 = true → (z7 = true → z11 ∧ z12) ∧ (z7 = false → (z1 = false) ∧ z5 = .v z3 ∧ z2 = [])) ∧ (z9 = false → (z10 = true → (z8 = true → z11 ∧ z12) ∧ (z8 = false → (z1 = false) ∧ z5 = .v z3 ∧ z2 = [])) ∧ z16))))) (by kernel_rfl) ?_
 refine ⟨fun h1 => have p1 := (andT dT (andT dT dT)).1 h1; ?_, fun h1 => have p1 := (andF dT (andF dT dF)).1 h1; ?_⟩
 refine ⟨(sB ?_), rfl⟩
 rotate_left
 refine dsp (fun h2 p2 => ?_) fun h2 p2 => ?_
 refine dsp (fun h3 p3 => ?_) fun h3 p3 => ?_
 refine ⟨(within_s _ _ _), (sB ?_), rfl⟩
 rotate_left
 refine dsp (fun h4 p4 => ?_) fun h4 p4 => ?_
 refine dsp (fun h5 p5 => ?_) fun h5 p5 => ?_
 refine ⟨h3, h2, (sB ?_), rfl⟩
 rotate_left
 refine ⟨h2, (sB ?_), rfl⟩
 rotate_left
 refine dsp (fun h5 p5 => ?_) fun h5 p5 => ?_
 refine dsp (fun h6 p6 => ?_) fun h6 p6 => ?_
 refine ⟨h3, h2, (sB ?_), rfl⟩
 rotate_left
 refine ⟨h2, (sB ?_), rfl⟩
 rotate_left
 refine ⟨(sB ?_), rfl⟩
 rotate_left
 refine dsp (fun h3 p3 => ?_) fun h3 p3 => ?_
 refine dsp (fun h4 p4 => ?_) fun h4 p4 => ?_
 refine dsp (fun h5 p5 => ?_) fun h5 p5 => ?_
 refine ⟨(sB ?_), rfl⟩
 rotate_left
 refine ⟨h2, (sB ?_), rfl⟩
 rotate_left
 refine ⟨h2, (sB ?_), rfl⟩
 rotate_left
 refine dsp (fun h4 p4 => ?_) fun h4 p4 => ?_
 refine dsp (fun h5 p5 => ?_) fun h5 p5 => ?_
 refine dsp (fun h6 p6 => ?_) fun h6 p6 => ?_
 refine ⟨(sB ?_), rfl⟩
 rotate_left
 refine ⟨h2, (sB ?_), rfl⟩
 rotate_left
 refine ⟨h2, (sB ?_), rfl⟩
 rotate_left
 refine ⟨(sB ?_), rfl⟩
 rotate_left
 all_goals first | (rw [Bool.eq_iff_iff]; simp [utfOk, utfIs]; omega) | (rw [Bool.eq_iff_iff]; simp [utfOk, utfIs, within]; omega) | (simp_all [utfOk, utfIs, within]; done)
theorem utfFirst_i (b : Int) : Fun Tryz.prog 178 [vI b] [] (.tup [.agg (cUtf ((utfFirst b).getD utf0)), vB (utfFirst b).isSome]) [] := by
 have hN : bigN = 274877906944 := rfl
 refine fun_ofw Tryz.func178 (by kernel_rfl) (by kernel_rfl) (w := let zi : Int → C := .int .i64; let z2 := ([] : List Blk); let z3 := utfFirst b; let z1 := cUtf (z3.getD utf0); let z4 := decide (b = 224); let z5 := decide (b = 237); let z6 := decide (b = 240); let z7 := decide (b = 244); let z8 := within b 194 223; let z9 := within b 224 239; let z10 := within b 240 244; let z11 := within b 0 127; (.seg [.call [] (.v (vB z11)) []] (.br (.leaf () []) (.seg [.call [] (.v (vB z8)) []] (.br (.br (.leaf () []) (.br (.leaf () []) (.br (.leaf () []) (.br (.leaf () []) (.leaf () []))))) (.seg [.call [] (.v (vB z9)) []] (.br (.br (.leaf () []) (.br (.leaf () []) (.br (.leaf () []) (.br (.leaf () []) (.leaf () []))))) (.seg [.call [] (.v (vB z10)) []] (.br (.br (.leaf () []) (.br (.leaf () []) (.br (.leaf () []) (.br (.leaf () []) (.leaf () []))))) (.leaf () [])))))))), (Fun Tryz.prog 43 [vI b, vI 0, vI 127] [] (.v (vB z11)) []) ∧ (z11 = true → (.tup [.agg [zi 0, zi 0, zi 0], vB true] : S) = .tup [.agg z1, vB z3.isSome] ∧ z2 = []) ∧ (z11 = false → (Fun Tryz.prog 43 [vI b, vI 194, vI 223] [] (.v (vB z8)) []) ∧ (z8 = true → (z4 = true → (.tup [.agg [zi 1, zi 160, zi 191], vB true] : S) = .tup [.agg z1, vB z3.isSome] ∧ z2 = []) ∧ (z4 = false → (z5 = true → (.tup [.agg [zi 1, zi 128, zi 159], vB true] : S) = .tup [.agg z1, vB z3.isSome] ∧ z2 = []) ∧ (z5 = false → (z6 = true → (.tup [.agg [zi 1, zi 144, zi 191], vB true] : S) = .tup [.agg z1, vB z3.isSome] ∧ z2 = []) ∧ (z6 = false → (z7 = true → (.tup [.agg [zi 1, zi 128, zi 143], vB true] : S) = .tup [.agg z1, vB z3.isSome] ∧ z2 = []) ∧ (z7 = false → (.tup [.agg [zi 1, zi 128, zi 191], vB true] : S) = .tup [.agg z1, vB z3.isSome] ∧ z2 = []))))) ∧ (z8 = false → (Fun Tryz.prog 43 [vI b, vI 224, vI 239] [] (.v (vB z9)) []) ∧ (z9 = true → (z4 = true → (.tup [.agg [zi 2, zi 160, zi 191], vB true] : S) = .tup [.agg z1, vB z3.isSome] ∧ z2 = []) ∧ (z4 = false → (z5 = true → (.tup [.agg [zi 2, zi 128, zi 159], vB true] : S) = .tup [.agg z1, vB z3.isSome] ∧ z2 = []) ∧ (z5 = false → (z6 = true → (.tup [.agg [zi 2, zi 144, zi 191], vB true] : S) = .tup [.agg z1, vB z3.isSome] ∧ z2 = []) ∧ (z6 = false → (z7 = true → (.tup [.agg [zi 2, zi 128, zi 143], vB true] : S) = .tup [.agg z1, vB z3.isSome] ∧ z2 = []) ∧ (z7 = false → (.tup [.agg [zi 2, zi 128, zi 191], vB true] : S) = .tup [.agg z1, vB z3.isSome] ∧ z2 = []))))) ∧ (z9 = false → (Fun Tryz.prog 43 [vI b, vI 240, vI 244] [] (.v (vB z10)) []) ∧ (z10 = true → (z4 = true → (.tup [.agg [zi 3, zi 160, zi 191], vB true] : S) = .tup [.agg z1, vB z3.isSome] ∧ z2 = []) ∧ (z4 = false → (z5 = true → (.tup [.agg [zi 3, zi 128, zi 159], vB true] : S) = .tup [.agg z1, vB z3.isSome] ∧ z2 = []) ∧ (z5 = false → (z6 = true → (.tup [.agg [zi 3, zi 144, zi 191], vB true] : S) = .tup [.agg z1, vB z3.isSome] ∧ z2 = []) ∧ (z6 = false → (z7 = true → (.tup [.agg [zi 3, zi 128, zi 143], vB true] : S) = .tup [.agg z1, vB z3.isSome] ∧ z2 = []) ∧ (z7 = false → (.tup [.agg [zi 3, zi 128, zi 191], vB true] : S) = .tup [.agg z1, vB z3.isSome] ∧ z2 = []))))) ∧ (z10 = false → (.tup [.agg [zi 0, zi 0, zi 0], vB false] : S) = .tup [.agg z1, vB z3.isSome] ∧ z2 = [])))))) (by kernel_rfl) ?_
 refine ⟨(within_i _ _ _), fun h1 => have p1 := within_t h1; ?_, fun h1 => have p1 := within_f h1; ?_⟩
 refine have hm1 : (utfFirst b).getD utf0 = utf0 := ?_; ?_
 rotate_left
 refine ⟨(congrArg S.tup (consE (congrArg V.agg (consE (congrArg (C.int .i64) ?_) (consE (congrArg (C.int .i64) ?_) (consE (congrArg (C.int .i64) ?_) rfl)))) (consE (congrArg V.c (congrArg C.bool ?_)) rfl))), rfl⟩
 rotate_left 4
 refine ⟨(within_i _ _ _), fun h2 => have p2 := within_t h2; ?_, fun h2 => have p2 := within_f h2; ?_⟩
 refine dsp (fun h3 p3 => ?_) fun h3 p3 => ?_
 refine have hm1 : (utfFirst b).getD utf0 = (⟨1, 160, 191⟩ : Utf) := ?_; ?_
 rotate_left
 refine ⟨(congrArg S.tup (consE (congrArg V.agg (consE (congrArg (C.int .i64) ?_) (consE (congrArg (C.int .i64) ?_) (consE (congrArg (C.int .i64) ?_) rfl)))) (consE (congrArg V.c (congrArg C.bool ?_)) rfl))), rfl⟩
 rotate_left 4
 refine dsp (fun h4 p4 => ?_) fun h4 p4 => ?_
 refine have hm1 : (utfFirst b).getD utf0 = (⟨1, 128, 159⟩ : Utf) := ?_; ?_
 rotate_left
 refine ⟨(congrArg S.tup (consE (congrArg V.agg (consE (congrArg (C.int .i64) ?_) (consE (congrArg (C.int .i64) ?_) (consE (congrArg (C.int .i64) ?_) rfl)))) (consE (congrArg V.c (congrArg C.bool ?_)) rfl))), rfl⟩
 rotate_left 4
 refine dsp (fun h5 p5 => ?_) fun h5 p5 => ?_
 refine have hm1 : (utfFirst b).getD utf0 = (⟨1, 144, 191⟩ : Utf) := ?_; ?_
 rotate_left
 refine ⟨(congrArg S.tup (consE (congrArg V.agg (consE (congrArg (C.int .i64) ?_) (consE (congrArg (C.int .i64) ?_) (consE (congrArg (C.int .i64) ?_) rfl)))) (consE (congrArg V.c (congrArg C.bool ?_)) rfl))), rfl⟩
 rotate_left 4
 refine dsp (fun h6 p6 => ?_) fun h6 p6 => ?_
 refine have hm1 : (utfFirst b).getD utf0 = (⟨1, 128, 143⟩ : Utf) := ?_; ?_
 rotate_left
 refine ⟨(congrArg S.tup (consE (congrArg V.agg (consE (congrArg (C.int .i64) ?_) (consE (congrArg (C.int .i64) ?_) (consE (congrArg (C.int .i64) ?_) rfl)))) (consE (congrArg V.c (congrArg C.bool ?_)) rfl))), rfl⟩
 rotate_left 4
 refine have hm1 : (utfFirst b).getD utf0 = (⟨1, 128, 191⟩ : Utf) := ?_; ?_
 rotate_left
 refine ⟨(congrArg S.tup (consE (congrArg V.agg (consE (congrArg (C.int .i64) ?_) (consE (congrArg (C.int .i64) ?_) (consE (congrArg (C.int .i64) ?_) rfl)))) (consE (congrArg V.c (congrArg C.bool ?_)) rfl))), rfl⟩
 rotate_left 4
 refine ⟨(within_i _ _ _), fun h3 => have p3 := within_t h3; ?_, fun h3 => have p3 := within_f h3; ?_⟩
 refine dsp (fun h4 p4 => ?_) fun h4 p4 => ?_
 refine have hm1 : (utfFirst b).getD utf0 = (⟨2, 160, 191⟩ : Utf) := ?_; ?_
 rotate_left
 refine ⟨(congrArg S.tup (consE (congrArg V.agg (consE (congrArg (C.int .i64) ?_) (consE (congrArg (C.int .i64) ?_) (consE (congrArg (C.int .i64) ?_) rfl)))) (consE (congrArg V.c (congrArg C.bool ?_)) rfl))), rfl⟩
 rotate_left 4
 refine dsp (fun h5 p5 => ?_) fun h5 p5 => ?_
 refine have hm1 : (utfFirst b).getD utf0 = (⟨2, 128, 159⟩ : Utf) := ?_; ?_
 rotate_left
 refine ⟨(congrArg S.tup (consE (congrArg V.agg (consE (congrArg (C.int .i64) ?_) (consE (congrArg (C.int .i64) ?_) (consE (congrArg (C.int .i64) ?_) rfl)))) (consE (congrArg V.c (congrArg C.bool ?_)) rfl))), rfl⟩
 rotate_left 4
 refine dsp (fun h6 p6 => ?_) fun h6 p6 => ?_
 refine have hm1 : (utfFirst b).getD utf0 = (⟨2, 144, 191⟩ : Utf) := ?_; ?_
 rotate_left
 refine ⟨(congrArg S.tup (consE (congrArg V.agg (consE (congrArg (C.int .i64) ?_) (consE (congrArg (C.int .i64) ?_) (consE (congrArg (C.int .i64) ?_) rfl)))) (consE (congrArg V.c (congrArg C.bool ?_)) rfl))), rfl⟩
 rotate_left 4
 refine dsp (fun h7 p7 => ?_) fun h7 p7 => ?_
 refine have hm1 : (utfFirst b).getD utf0 = (⟨2, 128, 143⟩ : Utf) := ?_; ?_
 rotate_left
 refine ⟨(congrArg S.tup (consE (congrArg V.agg (consE (congrArg (C.int .i64) ?_) (consE (congrArg (C.int .i64) ?_) (consE (congrArg (C.int .i64) ?_) rfl)))) (consE (congrArg V.c (congrArg C.bool ?_)) rfl))), rfl⟩
 rotate_left 4
 refine have hm1 : (utfFirst b).getD utf0 = (⟨2, 128, 191⟩ : Utf) := ?_; ?_
 rotate_left
 refine ⟨(congrArg S.tup (consE (congrArg V.agg (consE (congrArg (C.int .i64) ?_) (consE (congrArg (C.int .i64) ?_) (consE (congrArg (C.int .i64) ?_) rfl)))) (consE (congrArg V.c (congrArg C.bool ?_)) rfl))), rfl⟩
 rotate_left 4
 refine ⟨(within_i _ _ _), fun h4 => have p4 := within_t h4; ?_, fun h4 => have p4 := within_f h4; ?_⟩
 refine dsp (fun h5 p5 => ?_) fun h5 p5 => ?_
 refine have hm1 : (utfFirst b).getD utf0 = (⟨3, 160, 191⟩ : Utf) := ?_; ?_
 rotate_left
 refine ⟨(congrArg S.tup (consE (congrArg V.agg (consE (congrArg (C.int .i64) ?_) (consE (congrArg (C.int .i64) ?_) (consE (congrArg (C.int .i64) ?_) rfl)))) (consE (congrArg V.c (congrArg C.bool ?_)) rfl))), rfl⟩
 rotate_left 4
 refine dsp (fun h6 p6 => ?_) fun h6 p6 => ?_
 refine have hm1 : (utfFirst b).getD utf0 = (⟨3, 128, 159⟩ : Utf) := ?_; ?_
 rotate_left
 refine ⟨(congrArg S.tup (consE (congrArg V.agg (consE (congrArg (C.int .i64) ?_) (consE (congrArg (C.int .i64) ?_) (consE (congrArg (C.int .i64) ?_) rfl)))) (consE (congrArg V.c (congrArg C.bool ?_)) rfl))), rfl⟩
 rotate_left 4
 refine dsp (fun h7 p7 => ?_) fun h7 p7 => ?_
 refine have hm1 : (utfFirst b).getD utf0 = (⟨3, 144, 191⟩ : Utf) := ?_; ?_
 rotate_left
 refine ⟨(congrArg S.tup (consE (congrArg V.agg (consE (congrArg (C.int .i64) ?_) (consE (congrArg (C.int .i64) ?_) (consE (congrArg (C.int .i64) ?_) rfl)))) (consE (congrArg V.c (congrArg C.bool ?_)) rfl))), rfl⟩
 rotate_left 4
 refine dsp (fun h8 p8 => ?_) fun h8 p8 => ?_
 refine have hm1 : (utfFirst b).getD utf0 = (⟨3, 128, 143⟩ : Utf) := ?_; ?_
 rotate_left
 refine ⟨(congrArg S.tup (consE (congrArg V.agg (consE (congrArg (C.int .i64) ?_) (consE (congrArg (C.int .i64) ?_) (consE (congrArg (C.int .i64) ?_) rfl)))) (consE (congrArg V.c (congrArg C.bool ?_)) rfl))), rfl⟩
 rotate_left 4
 refine have hm1 : (utfFirst b).getD utf0 = (⟨3, 128, 191⟩ : Utf) := ?_; ?_
 rotate_left
 refine ⟨(congrArg S.tup (consE (congrArg V.agg (consE (congrArg (C.int .i64) ?_) (consE (congrArg (C.int .i64) ?_) (consE (congrArg (C.int .i64) ?_) rfl)))) (consE (congrArg V.c (congrArg C.bool ?_)) rfl))), rfl⟩
 rotate_left 4
 refine have hm1 : (utfFirst b).getD utf0 = utf0 := ?_; ?_
 rotate_left
 refine ⟨(congrArg S.tup (consE (congrArg V.agg (consE (congrArg (C.int .i64) ?_) (consE (congrArg (C.int .i64) ?_) (consE (congrArg (C.int .i64) ?_) rfl)))) (consE (congrArg V.c (congrArg C.bool ?_)) rfl))), rfl⟩
 rotate_left 4
 all_goals first | (simp [utfFirst, utf0, *]; done) | (simp_all [utfFirst, utf0, within]; done) | (simp_all [utfFirst, utf0, within]; omega)
theorem utfFirst_s (b : Int) : Fun Tryz.prog 175 [vI b] [] (.tup [.agg (cUtf ((utfFirst b).getD utf0)), vB (utfFirst b).isSome]) [] := by
 have hN : bigN = 274877906944 := rfl
 refine fun_ofw Tryz.func175 (by kernel_rfl) (by kernel_rfl) (w := let zi : Int → C := .int .i64; let z2 := ([] : List Blk); let z3 := utfFirst b; let z1 := cUtf (z3.getD utf0); let z4 := decide (b = 224); let z5 := decide (b = 237); let z6 := decide (b = 240); let z7 := decide (b = 244); let z8 := within b 194 223; let z9 := within b 224 239; let z10 := within b 240 244; let z11 := within b 0 127; (.seg [.call [] (.v (vB z11)) []] (.br (.leaf () []) (.seg [.call [] (.v (vB z8)) []] (.br (.br (.leaf () []) (.br (.leaf () []) (.br (.leaf () []) (.br (.leaf () []) (.leaf () []))))) (.seg [.call [] (.v (vB z9)) []] (.br (.br (.leaf () []) (.br (.leaf () []) (.br (.leaf () []) (.br (.leaf () []) (.leaf () []))))) (.seg [.call [] (.v (vB z10)) []] (.br (.br (.leaf () []) (.br (.leaf () []) (.br (.leaf () []) (.br (.leaf () []) (.leaf () []))))) (.leaf () [])))))))), (Fun Tryz.prog 45 [vI b, vI 0, vI 127] [] (.v (vB z11)) []) ∧ (z11 = true → (.tup [.agg [zi 0, zi 0, zi 0], vB true] : S) = .tup [.agg z1, vB z3.isSome] ∧ z2 = []) ∧ (z11 = false → (Fun Tryz.prog 45 [vI b, vI 194, vI 223] [] (.v (vB z8)) []) ∧ (z8 = true → (z4 = true → (.tup [.agg [zi 1, zi 160, zi 191], vB true] : S) = .tup [.agg z1, vB z3.isSome] ∧ z2 = []) ∧ (z4 = false → (z5 = true → (.tup [.agg [zi 1, zi 128, zi 159], vB true] : S) = .tup [.agg z1, vB z3.isSome] ∧ z2 = []) ∧ (z5 = false → (z6 = true → (.tup [.agg [zi 1, zi 144, zi 191], vB true] : S) = .tup [.agg z1, vB z3.isSome] ∧ z2 = []) ∧ (z6 = false → (z7 = true → (.tup [.agg [zi 1, zi 128, zi 143], vB true] : S) = .tup [.agg z1, vB z3.isSome] ∧ z2 = []) ∧ (z7 = false → (.tup [.agg [zi 1, zi 128, zi 191], vB true] : S) = .tup [.agg z1, vB z3.isSome] ∧ z2 = []))))) ∧ (z8 = false → (Fun Tryz.prog 45 [vI b, vI 224, vI 239] [] (.v (vB z9)) []) ∧ (z9 = true → (z4 = true → (.tup [.agg [zi 2, zi 160, zi 191], vB true] : S) = .tup [.agg z1, vB z3.isSome] ∧ z2 = []) ∧ (z4 = false → (z5 = true → (.tup [.agg [zi 2, zi 128, zi 159], vB true] : S) = .tup [.agg z1, vB z3.isSome] ∧ z2 = []) ∧ (z5 = false → (z6 = true → (.tup [.agg [zi 2, zi 144, zi 191], vB true] : S) = .tup [.agg z1, vB z3.isSome] ∧ z2 = []) ∧ (z6 = false → (z7 = true → (.tup [.agg [zi 2, zi 128, zi 143], vB true] : S) = .tup [.agg z1, vB z3.isSome] ∧ z2 = []) ∧ (z7 = false → (.tup [.agg [zi 2, zi 128, zi 191], vB true] : S) = .tup [.agg z1, vB z3.isSome] ∧ z2 = []))))) ∧ (z9 = false → (Fun Tryz.prog 45 [vI b, vI 240, vI 244] [] (.v (vB z10)) []) ∧ (z10 = true → (z4 = true → (.tup [.agg [zi 3, zi 160, zi 191], vB true] : S) = .tup [.agg z1, vB z3.isSome] ∧ z2 = []) ∧ (z4 = false → (z5 = true → (.tup [.agg [zi 3, zi 128, zi 159], vB true] : S) = .tup [.agg z1, vB z3.isSome] ∧ z2 = []) ∧ (z5 = false → (z6 = true → (.tup [.agg [zi 3, zi 144, zi 191], vB true] : S) = .tup [.agg z1, vB z3.isSome] ∧ z2 = []) ∧ (z6 = false → (z7 = true → (.tup [.agg [zi 3, zi 128, zi 143], vB true] : S) = .tup [.agg z1, vB z3.isSome] ∧ z2 = []) ∧ (z7 = false → (.tup [.agg [zi 3, zi 128, zi 191], vB true] : S) = .tup [.agg z1, vB z3.isSome] ∧ z2 = []))))) ∧ (z10 = false → (.tup [.agg [zi 0, zi 0, zi 0], vB false] : S) = .tup [.agg z1, vB z3.isSome] ∧ z2 = [])))))) (by kernel_rfl) ?_
 refine ⟨(within_s _ _ _), fun h1 => have p1 := within_t h1; ?_, fun h1 => have p1 := within_f h1; ?_⟩
 refine have hm1 : (utfFirst b).getD utf0 = utf0 := ?_; ?_
 rotate_left
 refine ⟨(congrArg S.tup (consE (congrArg V.agg (consE (congrArg (C.int .i64) ?_) (consE (congrArg (C.int .i64) ?_) (consE (congrArg (C.int .i64) ?_) rfl)))) (consE (congrArg V.c (congrArg C.bool ?_)) rfl))), rfl⟩
 rotate_left 4
 refine ⟨(within_s _ _ _), fun h2 => have p2 := within_t h2; ?_, fun h2 => have p2 := within_f h2; ?_⟩
 refine dsp (fun h3 p3 => ?_) fun h3 p3 => ?_
 refine have hm1 : (utfFirst b).getD utf0 = (⟨1, 160, 191⟩ : Utf) := ?_; ?_
 rotate_left
 refine ⟨(congrArg S.tup (consE (congrArg V.agg (consE (congrArg (C.int .i64) ?_) (consE (congrArg (C.int .i64) ?_) (consE (congrArg (C.int .i64) ?_) rfl)))) (consE (congrArg V.c (congrArg C.bool ?_)) rfl))), rfl⟩
 rotate_left 4
 refine dsp (fun h4 p4 => ?_) fun h4 p4 => ?_
 refine have hm1 : (utfFirst b).getD utf0 = (⟨1, 128, 159⟩ : Utf) := ?_; ?_
 rotate_left
 refine ⟨(congrArg S.tup (consE (congrArg V.agg (consE (congrArg (C.int .i64) ?_) (consE (congrArg (C.int .i64) ?_) (consE (congrArg (C.int .i64) ?_) rfl)))) (consE (congrArg V.c (congrArg C.bool ?_)) rfl))), rfl⟩
 rotate_left 4
 refine dsp (fun h5 p5 => ?_) fun h5 p5 => ?_
 refine have hm1 : (utfFirst b).getD utf0 = (⟨1, 144, 191⟩ : Utf) := ?_; ?_
 rotate_left
 refine ⟨(congrArg S.tup (consE (congrArg V.agg (consE (congrArg (C.int .i64) ?_) (consE (congrArg (C.int .i64) ?_) (consE (congrArg (C.int .i64) ?_) rfl)))) (consE (congrArg V.c (congrArg C.bool ?_)) rfl))), rfl⟩
 rotate_left 4
 refine dsp (fun h6 p6 => ?_) fun h6 p6 => ?_
 refine have hm1 : (utfFirst b).getD utf0 = (⟨1, 128, 143⟩ : Utf) := ?_; ?_
 rotate_left
 refine ⟨(congrArg S.tup (consE (congrArg V.agg (consE (congrArg (C.int .i64) ?_) (consE (congrArg (C.int .i64) ?_) (consE (congrArg (C.int .i64) ?_) rfl)))) (consE (congrArg V.c (congrArg C.bool ?_)) rfl))), rfl⟩
 rotate_left 4
 refine have hm1 : (utfFirst b).getD utf0 = (⟨1, 128, 191⟩ : Utf) := ?_; ?_
 rotate_left
 refine ⟨(congrArg S.tup (consE (congrArg V.agg (consE (congrArg (C.int .i64) ?_) (consE (congrArg (C.int .i64) ?_) (consE (congrArg (C.int .i64) ?_) rfl)))) (consE (congrArg V.c (congrArg C.bool ?_)) rfl))), rfl⟩
 rotate_left 4
 refine ⟨(within_s _ _ _), fun h3 => have p3 := within_t h3; ?_, fun h3 => have p3 := within_f h3; ?_⟩
 refine dsp (fun h4 p4 => ?_) fun h4 p4 => ?_
 refine have hm1 : (utfFirst b).getD utf0 = (⟨2, 160, 191⟩ : Utf) := ?_; ?_
 rotate_left
 refine ⟨(congrArg S.tup (consE (congrArg V.agg (consE (congrArg (C.int .i64) ?_) (consE (congrArg (C.int .i64) ?_) (consE (congrArg (C.int .i64) ?_) rfl)))) (consE (congrArg V.c (congrArg C.bool ?_)) rfl))), rfl⟩
 rotate_left 4
 refine dsp (fun h5 p5 => ?_) fun h5 p5 => ?_
 refine have hm1 : (utfFirst b).getD utf0 = (⟨2, 128, 159⟩ : Utf) := ?_; ?_
 rotate_left
 refine ⟨(congrArg S.tup (consE (congrArg V.agg (consE (congrArg (C.int .i64) ?_) (consE (congrArg (C.int .i64) ?_) (consE (congrArg (C.int .i64) ?_) rfl)))) (consE (congrArg V.c (congrArg C.bool ?_)) rfl))), rfl⟩
 rotate_left 4
 refine dsp (fun h6 p6 => ?_) fun h6 p6 => ?_
 refine have hm1 : (utfFirst b).getD utf0 = (⟨2, 144, 191⟩ : Utf) := ?_; ?_
 rotate_left
 refine ⟨(congrArg S.tup (consE (congrArg V.agg (consE (congrArg (C.int .i64) ?_) (consE (congrArg (C.int .i64) ?_) (consE (congrArg (C.int .i64) ?_) rfl)))) (consE (congrArg V.c (congrArg C.bool ?_)) rfl))), rfl⟩
 rotate_left 4
 refine dsp (fun h7 p7 => ?_) fun h7 p7 => ?_
 refine have hm1 : (utfFirst b).getD utf0 = (⟨2, 128, 143⟩ : Utf) := ?_; ?_
 rotate_left
 refine ⟨(congrArg S.tup (consE (congrArg V.agg (consE (congrArg (C.int .i64) ?_) (consE (congrArg (C.int .i64) ?_) (consE (congrArg (C.int .i64) ?_) rfl)))) (consE (congrArg V.c (congrArg C.bool ?_)) rfl))), rfl⟩
 rotate_left 4
 refine have hm1 : (utfFirst b).getD utf0 = (⟨2, 128, 191⟩ : Utf) := ?_; ?_
 rotate_left
 refine ⟨(congrArg S.tup (consE (congrArg V.agg (consE (congrArg (C.int .i64) ?_) (consE (congrArg (C.int .i64) ?_) (consE (congrArg (C.int .i64) ?_) rfl)))) (consE (congrArg V.c (congrArg C.bool ?_)) rfl))), rfl⟩
 rotate_left 4
 refine ⟨(within_s _ _ _), fun h4 => have p4 := within_t h4; ?_, fun h4 => have p4 := within_f h4; ?_⟩
 refine dsp (fun h5 p5 => ?_) fun h5 p5 => ?_
 refine have hm1 : (utfFirst b).getD utf0 = (⟨3, 160, 191⟩ : Utf) := ?_; ?_
 rotate_left
 refine ⟨(congrArg S.tup (consE (congrArg V.agg (consE (congrArg (C.int .i64) ?_) (consE (congrArg (C.int .i64) ?_) (consE (congrArg (C.int .i64) ?_) rfl)))) (consE (congrArg V.c (congrArg C.bool ?_)) rfl))), rfl⟩
 rotate_left 4
 refine dsp (fun h6 p6 => ?_) fun h6 p6 => ?_
 refine have hm1 : (utfFirst b).getD utf0 = (⟨3, 128, 159⟩ : Utf) := ?_; ?_
 rotate_left
 refine ⟨(congrArg S.tup (consE (congrArg V.agg (consE (congrArg (C.int .i64) ?_) (consE (congrArg (C.int .i64) ?_) (consE (congrArg (C.int .i64) ?_) rfl)))) (consE (congrArg V.c (congrArg C.bool ?_)) rfl))), rfl⟩
 rotate_left 4
 refine dsp (fun h7 p7 => ?_) fun h7 p7 => ?_
 refine have hm1 : (utfFirst b).getD utf0 = (⟨3, 144, 191⟩ : Utf) := ?_; ?_
 rotate_left
 refine ⟨(congrArg S.tup (consE (congrArg V.agg (consE (congrArg (C.int .i64) ?_) (consE (congrArg (C.int .i64) ?_) (consE (congrArg (C.int .i64) ?_) rfl)))) (consE (congrArg V.c (congrArg C.bool ?_)) rfl))), rfl⟩
 rotate_left 4
 refine dsp (fun h8 p8 => ?_) fun h8 p8 => ?_
 refine have hm1 : (utfFirst b).getD utf0 = (⟨3, 128, 143⟩ : Utf) := ?_; ?_
 rotate_left
 refine ⟨(congrArg S.tup (consE (congrArg V.agg (consE (congrArg (C.int .i64) ?_) (consE (congrArg (C.int .i64) ?_) (consE (congrArg (C.int .i64) ?_) rfl)))) (consE (congrArg V.c (congrArg C.bool ?_)) rfl))), rfl⟩
 rotate_left 4
 refine have hm1 : (utfFirst b).getD utf0 = (⟨3, 128, 191⟩ : Utf) := ?_; ?_
 rotate_left
 refine ⟨(congrArg S.tup (consE (congrArg V.agg (consE (congrArg (C.int .i64) ?_) (consE (congrArg (C.int .i64) ?_) (consE (congrArg (C.int .i64) ?_) rfl)))) (consE (congrArg V.c (congrArg C.bool ?_)) rfl))), rfl⟩
 rotate_left 4
 refine have hm1 : (utfFirst b).getD utf0 = utf0 := ?_; ?_
 rotate_left
 refine ⟨(congrArg S.tup (consE (congrArg V.agg (consE (congrArg (C.int .i64) ?_) (consE (congrArg (C.int .i64) ?_) (consE (congrArg (C.int .i64) ?_) rfl)))) (consE (congrArg V.c (congrArg C.bool ?_)) rfl))), rfl⟩
 rotate_left 4
 all_goals first | (simp [utfFirst, utf0, *]; done) | (simp_all [utfFirst, utf0, within]; done) | (simp_all [utfFirst, utf0, within]; omega)
theorem utfByte_i (u : Utf) (b : Int) : Fun Tryz.prog 173 [.agg (cUtf u), vI b] [] (.tup [.agg (cUtf ((utfByte u b).getD u)), vB (utfByte u b).isSome]) [] := by
 have hN : bigN = 274877906944 := rfl
 refine fun_ofw Tryz.func173 (by kernel_rfl) (by kernel_rfl) (w := let z2 := (.tup [.agg (cUtf u), vB false] : S); let z3 := within b u.low u.high; let z4 := utfByte u b; let z1 := cUtf (z4.getD u); let z5 := ([] : List Blk); let z7 := utfFirst b; let z6 := cUtf (z7.getD utf0); (.seg [.call [] (.v (vB (utfOk u))) []] (.br (.leaf () []) (.br (.seg [.call [] (.tup [.agg z6, vB z7.isSome]) []] (.br (.leaf () []) (.leaf () []))) (.seg [.call [] (.v (vB z3)) []] (.br (.leaf () []) (.br (.leaf () []) (.seg [.as 42 (.v (vI (u.want - 1)))] (.leaf () []))))))), (Fun Tryz.prog 177 [.agg (cUtf u)] [] (.v (vB (utfOk u))) []) ∧ ((!(utfOk u)) = true → z2 = .tup [.agg z1, vB z4.isSome] ∧ z5 = []) ∧ ((!(utfOk u)) = false → ((decide (u.want = 0)) = true → (Fun Tryz.prog 178 [vI b] [] (.tup [.agg z6, vB z7.isSome]) []) ∧ ((!z7.isSome) = true → z2 = .tup [.agg z1, vB z4.isSome] ∧ z5 = []) ∧ ((!z7.isSome) = false → (.tup [.agg z6, vB true] : S) = .tup [.agg z1, vB z4.isSome] ∧ z5 = [])) ∧ ((decide (u.want = 0)) = false → (Fun Tryz.prog 43 [vI b, vI u.low, vI u.high] [] (.v (vB z3)) []) ∧ ((!z3) = true → z2 = .tup [.agg z1, vB z4.isSome] ∧ z5 = []) ∧ ((!z3) = false → ((decide (u.want = 1)) = true → (.tup [.agg [.int .i64 0, .int .i64 0, .int .i64 0], vB true] : S) = .tup [.agg z1, vB z4.isSome] ∧ z5 = []) ∧ ((decide (u.want = 1)) = false → ((.v (vI (IntKind.i64.wrap (u.want - 1))) : S) = .v (vI (u.want - 1))) ∧ (.tup [.agg [.int .i64 (u.want - 1), .int .i64 128, .int .i64 191], vB true] : S) = .tup [.agg z1, vB z4.isSome] ∧ z5 = [])))))) (by kernel_rfl) ?_
 refine ⟨(utfOk_i u), fun h1 => have q1 := bnot_t h1; ?_, fun h1 => have q1 := bnot_f h1; have p1 := utfOk_want q1; ?_⟩
 refine have hm1 : (utfByte u b).getD u = u := ?_; ?_
 rotate_left
 refine ⟨(congrArg S.tup (consE (congrArg V.agg (consE (congrArg (C.int .i64) ?_) (consE (congrArg (C.int .i64) ?_) (consE (congrArg (C.int .i64) ?_) rfl)))) (consE (congrArg V.c (congrArg C.bool ?_)) rfl))), rfl⟩
 rotate_left 4
 refine dsp (fun h2 p2 => ?_) fun h2 p2 => ?_
 have hu := utfOk_zero q1 p2
 refine ⟨(utfFirst_i _), fun h3 => have q3 := bnot_t h3; ?_, fun h3 => have q3 := bnot_f h3; ?_⟩
 refine have hm1 : (utfByte u b).getD u = u := ?_; ?_
 rotate_left
 refine ⟨(congrArg S.tup (consE (congrArg V.agg (consE (congrArg (C.int .i64) ?_) (consE (congrArg (C.int .i64) ?_) (consE (congrArg (C.int .i64) ?_) rfl)))) (consE (congrArg V.c (congrArg C.bool ?_)) rfl))), rfl⟩
 rotate_left 4
 refine have hm1 : (utfByte u b).getD u = ((utfFirst b).getD utf0) := ?_; ?_
 rotate_left
 refine ⟨(congrArg S.tup (consE (congrArg V.agg (consE (congrArg (C.int .i64) ?_) (consE (congrArg (C.int .i64) ?_) (consE (congrArg (C.int .i64) ?_) rfl)))) (consE (congrArg V.c (congrArg C.bool ?_)) rfl))), rfl⟩
 rotate_left 4
 refine ⟨(within_i _ _ _), fun h3 => have q3 := bnot_t h3; have p3 := within_f q3; ?_, fun h3 => have q3 := bnot_f h3; have p3 := within_t q3; ?_⟩
 refine have hm1 : (utfByte u b).getD u = u := ?_; ?_
 rotate_left
 refine ⟨(congrArg S.tup (consE (congrArg V.agg (consE (congrArg (C.int .i64) ?_) (consE (congrArg (C.int .i64) ?_) (consE (congrArg (C.int .i64) ?_) rfl)))) (consE (congrArg V.c (congrArg C.bool ?_)) rfl))), rfl⟩
 rotate_left 4
 refine dsp (fun h4 p4 => ?_) fun h4 p4 => ?_
 refine have hm1 : (utfByte u b).getD u = utf0 := ?_; ?_
 rotate_left
 refine ⟨(congrArg S.tup (consE (congrArg V.agg (consE (congrArg (C.int .i64) ?_) (consE (congrArg (C.int .i64) ?_) (consE (congrArg (C.int .i64) ?_) rfl)))) (consE (congrArg V.c (congrArg C.bool ?_)) rfl))), rfl⟩
 rotate_left 4
 refine ⟨(as_i64 (by omega) (by omega)), ?_⟩
 refine have hm1 : (utfByte u b).getD u = (⟨u.want - 1, 128, 191⟩ : Utf) := ?_; ?_
 rotate_left
 refine ⟨(congrArg S.tup (consE (congrArg V.agg (consE (congrArg (C.int .i64) ?_) (consE (congrArg (C.int .i64) ?_) (consE (congrArg (C.int .i64) ?_) rfl)))) (consE (congrArg V.c (congrArg C.bool ?_)) rfl))), rfl⟩
 rotate_left 4
 all_goals first | (simp [utfByte, *]; done) | (simp [utfByte, utf0, *]; done) | (simp_all [utfByte, utf0, within]; done) | (simp_all [utfByte, utf0, within]; omega)
theorem utfByte_s (u : Utf) (b : Int) : Fun Tryz.prog 166 [.agg (cUtf u), vI b] [] (.tup [.agg (cUtf ((utfByte u b).getD u)), vB (utfByte u b).isSome]) [] := by
 have hN : bigN = 274877906944 := rfl
 refine fun_ofw Tryz.func166 (by kernel_rfl) (by kernel_rfl) (w := let z2 := within b u.low u.high; let z3 := cUtf ((utfFirst b).getD utf0); let z4 := utfByte u b; let z1 := cUtf (z4.getD u); let z5 := ([] : List Blk); let z6 := (.tup [.agg (cUtf u), vB false] : S); (.seg [.call [] (.v (vB (utfOk u))) []] (.br (.leaf () []) (.br (.seg [.call [] (.tup [.agg z3, vB (utfFirst b).isSome]) []] (.leaf () [])) (.seg [.call [] (.v (vB z2)) []] (.br (.leaf () []) (.br (.leaf () []) (.seg [.as 31 (.v (vI (u.want - 1)))] (.leaf () []))))))), (Fun Tryz.prog 174 [.agg (cUtf u)] [] (.v (vB (utfOk u))) []) ∧ ((!(utfOk u)) = true → z6 = .tup [.agg z1, vB z4.isSome] ∧ z5 = []) ∧ ((!(utfOk u)) = false → ((decide (u.want = 0)) = true → (Fun Tryz.prog 175 [vI b] [] (.tup [.agg z3, vB (utfFirst b).isSome]) []) ∧ (.tup [.agg z3, vB (utfFirst b).isSome] : S) = .tup [.agg z1, vB z4.isSome] ∧ z5 = []) ∧ ((decide (u.want = 0)) = false → (Fun Tryz.prog 45 [vI b, vI u.low, vI u.high] [] (.v (vB z2)) []) ∧ ((!z2) = true → z6 = .tup [.agg z1, vB z4.isSome] ∧ z5 = []) ∧ ((!z2) = false → ((decide (u.want = 1)) = true → (.tup [.agg [.int .i64 0, .int .i64 0, .int .i64 0], vB true] : S) = .tup [.agg z1, vB z4.isSome] ∧ z5 = []) ∧ ((decide (u.want = 1)) = false → ((.v (vI (IntKind.i64.wrap (u.want - 1))) : S) = .v (vI (u.want - 1))) ∧ (.tup [.agg [.int .i64 (u.want - 1), .int .i64 128, .int .i64 191], vB true] : S) = .tup [.agg z1, vB z4.isSome] ∧ z5 = [])))))) (by kernel_rfl) ?_
 refine ⟨(utfOk_s u), fun h1 => have q1 := bnot_t h1; ?_, fun h1 => have q1 := bnot_f h1; have p1 := utfOk_want q1; ?_⟩
 refine have hm1 : (utfByte u b).getD u = u := ?_; ?_
 rotate_left
 refine ⟨(congrArg S.tup (consE (congrArg V.agg (consE (congrArg (C.int .i64) ?_) (consE (congrArg (C.int .i64) ?_) (consE (congrArg (C.int .i64) ?_) rfl)))) (consE (congrArg V.c (congrArg C.bool ?_)) rfl))), rfl⟩
 rotate_left 4
 refine dsp (fun h2 p2 => ?_) fun h2 p2 => ?_
 have hu := utfOk_zero q1 p2
 refine ⟨(utfFirst_s _), ?_⟩
 refine have hm1 : (utfByte u b).getD u = ((utfFirst b).getD utf0) := ?_; ?_
 rotate_left
 refine ⟨(congrArg S.tup (consE (congrArg V.agg (consE (congrArg (C.int .i64) ?_) (consE (congrArg (C.int .i64) ?_) (consE (congrArg (C.int .i64) ?_) rfl)))) (consE (congrArg V.c (congrArg C.bool ?_)) rfl))), rfl⟩
 rotate_left 4
 refine ⟨(within_s _ _ _), fun h3 => have q3 := bnot_t h3; have p3 := within_f q3; ?_, fun h3 => have q3 := bnot_f h3; have p3 := within_t q3; ?_⟩
 refine have hm1 : (utfByte u b).getD u = u := ?_; ?_
 rotate_left
 refine ⟨(congrArg S.tup (consE (congrArg V.agg (consE (congrArg (C.int .i64) ?_) (consE (congrArg (C.int .i64) ?_) (consE (congrArg (C.int .i64) ?_) rfl)))) (consE (congrArg V.c (congrArg C.bool ?_)) rfl))), rfl⟩
 rotate_left 4
 refine dsp (fun h4 p4 => ?_) fun h4 p4 => ?_
 refine have hm1 : (utfByte u b).getD u = utf0 := ?_; ?_
 rotate_left
 refine ⟨(congrArg S.tup (consE (congrArg V.agg (consE (congrArg (C.int .i64) ?_) (consE (congrArg (C.int .i64) ?_) (consE (congrArg (C.int .i64) ?_) rfl)))) (consE (congrArg V.c (congrArg C.bool ?_)) rfl))), rfl⟩
 rotate_left 4
 refine ⟨(as_i64 (by omega) (by omega)), ?_⟩
 refine have hm1 : (utfByte u b).getD u = (⟨u.want - 1, 128, 191⟩ : Utf) := ?_; ?_
 rotate_left
 refine ⟨(congrArg S.tup (consE (congrArg V.agg (consE (congrArg (C.int .i64) ?_) (consE (congrArg (C.int .i64) ?_) (consE (congrArg (C.int .i64) ?_) rfl)))) (consE (congrArg V.c (congrArg C.bool ?_)) rfl))), rfl⟩
 rotate_left 4
 all_goals first | (simp [utfByte, *]; done) | (simp [utfByte, utf0, *]; done) | (simp_all [utfByte, utf0, within]; done) | (simp_all [utfByte, utf0, within]; omega)
structure utfText_i_V0 where
 u : Utf
 v : Nat
def utfText_i_F0 (u : Utf) (s : List UInt8) : Fam := ⟨utfText_i_V0, fun q1 => [(1, .v (vT s)), (2, .v (vP 0)), (4, .v (vP 1)), (10, .v (vI (s.length : Int))), (11, .v (vI (q1.v : Int)))], fun q1 => [.cells (cUtf q1.u), .cells [.int .i64 0, .int .i64 0, .int .i64 0]], fun q1 => q1.v ≤ s.length ∧ utfRun q1.u (List.drop q1.v s) q1.v = utfRun u s 0, fun q1 => s.length - q1.v⟩
theorem utfText_i (u : Utf) (s : List UInt8) (hp1 : s.length ≤ bigN) : Fun Tryz.prog 162 [.agg (cUtf u), vT s] [] (.tup [.agg (cUtf (utfSt u s)), vI (utfBad u s)]) [] := by
 have hN : bigN = 274877906944 := rfl
 refine fun_ofw Tryz.func162 (by kernel_rfl) (by kernel_rfl) (w := let zi : Int → C := .int .i64; let z5 := (s.length : Int); let z6 := utfText_i_F0 u s; (.seg [.at 0, .keep [1, 2, 4, 10, 11], .sel [0, 1]] (.loop z6 fun q1 => .br (.intro (fun (x1 : UInt8) => s[q1.v]? = some x1) fun x1 => let z1 := utfByte q1.u ((UInt8.toNat x1 : Nat) : Int); .seg [.tree (fr (.two 5 (fr (.one 9 (.one 10 (.first 11 (.done)))) 6 3) 9 (.one 5 (fr (.one 10 (.first 11 (.done))) 6 3))) 0 5) 12 [], .ch x1, .as 19 (.v (vI ((UInt8.toNat x1 : Nat) : Int))), .call [] (.tup [.agg (cUtf (z1.getD q1.u)), vB z1.isSome]) [], .at 0, .keep [1, 2, 4, 6, 7, 8, 10, 11], .sel [0, 1, 2], .call [] (.tup [.agg (cUtf (z1.getD q1.u)), vB z1.isSome]) [], .at 0, .keep [1, 2, 4, 6, 7, 8, 10, 11], .sel [0, 1, 2]] (.br (.leaf () []) (.seg [.as 28 (.v (vI ((q1.v : Int) + 1))), .at 0, .keep [1, 2, 4, 10, 11], .sel [0, 1]] (.next)))) (.leaf () [])), z6.Has [(1, .v (vT s)), (2, .v (vP 0)), (4, .v (vP 1)), (10, .v (vI z5)), (11, .v (vI 0))] [.cells (cUtf u), .cells [zi 0, zi 0, zi 0]] ∧ ∀ q1, z6.inv q1 → (let z3 := (q1.v : Int); let z4 := cUtf q1.u; ((decide (z3 < z5)) = true → (∃ (x1 : UInt8), s[q1.v]? = some x1) ∧ ∀ (x1 : UInt8), (s[q1.v]? = some x1) → (let z2 := ((UInt8.toNat x1 : Nat) : Int); (s[q1.v]? = some x1) ∧ ((0 : Int) ≤ z3) ∧ (s[q1.v]? = some x1) ∧ ((0 : Int) ≤ z3) ∧ ((.v (vI (IntKind.i64.wrap (z2))) : S) = .v (vI z2)) ∧ ((.v (vI (IntKind.i64.wrap (z2))) : S) = .v (vI z2)) ∧ (Fun Tryz.prog 173 [.agg z4, vI z2] [] (.tup [.agg (cUtf ((utfByte q1.u z2).getD q1.u)), vB (utfByte q1.u z2).isSome]) []) ∧ (Fun Tryz.prog 173 [.agg z4, vI z2] [] (.tup [.agg (cUtf ((utfByte q1.u z2).getD q1.u)), vB (utfByte q1.u z2).isSome]) []) ∧ (([.cells z4, .cells [zi 0, zi 0, zi 0], .cells (cUtf ((utfByte q1.u z2).getD q1.u))] : List Blk) = [.cells z4, .cells [zi 0, zi 0, zi 0], .cells (cUtf ((utfByte q1.u z2).getD q1.u))]) ∧ (([(1, .v (vT s)), (2, .v (vP 0)), (4, .v (vP 1)), (6, .v (vI z3)), (7, .v (vP 2)), (8, .v (vB (utfByte q1.u z2).isSome)), (10, .v (vI z5)), (11, .v (vI z3))] : List (Nat × S)) = [(1, .v (vT s)), (2, .v (vP 0)), (4, .v (vP 1)), (6, .v (vI z3)), (7, .v (vP 2)), (8, .v (vB (utfByte q1.u z2).isSome)), (10, .v (vI z5)), (11, .v (vI z3))]) ∧ ((!(utfByte q1.u z2).isSome) = true → (.tup [.agg z4, vI z3] : S) = .tup [.agg (cUtf (utfSt u s)), vI (utfBad u s)] ∧ ([] : List Blk) = []) ∧ ((!(utfByte q1.u z2).isSome) = false → ((.v (vI (IntKind.i64.wrap (z3 + 1))) : S) = .v (vI (z3 + 1))) ∧ z6.Nxt q1 [(1, .v (vT s)), (2, .v (vP 0)), (4, .v (vP 1)), (10, .v (vI z5)), (11, .v (vI (z3 + 1)))] [.cells (cUtf ((utfByte q1.u z2).getD q1.u)), .cells [zi 0, zi 0, zi 0]]))) ∧ ((decide (z3 < z5)) = false → (.tup [.agg z4, vI (-1)] : S) = .tup [.agg (cUtf (utfSt u s)), vI (utfBad u s)] ∧ ([] : List Blk) = [])))) (by kernel_rfl) ?_
 refine ⟨has_of (j := (⟨u, 0⟩ : utfText_i_V0)) (by first | rfl | simp) rfl (by dsimp only [utfText_i_F0]; exact ⟨by omega, by simp⟩), fun (q1 : utfText_i_V0) hq_q1 => ?_⟩
 have hi_q1 : q1.v ≤ s.length ∧ utfRun q1.u (List.drop q1.v s) q1.v = utfRun u s 0 := hq_q1
 obtain ⟨v1, v2⟩ := hi_q1
 refine dsp (fun h1 p1 => ?_) fun h1 p1 => ?_
 refine ⟨(ax_get (l := s) (i := q1.v) (by omega)), fun x1 hx1 => ?_⟩
 have hb_x1 := UInt8.toNat_lt x1
 refine ⟨hx1, (by omega), hx1, (by omega), (as_i64 (by omega) (by omega)), (as_i64 (by omega) (by omega)), (utfByte_i q1.u _), (utfByte_i q1.u _), rfl, rfl, fun h2 => have q2 := bnot_t h2; ?_, fun h2 => have q2 := bnot_f h2; ?_⟩
 rw [drop_el hx1, utfRun] at v2
 refine have hm1 : utfSt u s = q1.u := ?_; ?_
 rotate_left
 refine ⟨(congrArg S.tup (consE (congrArg V.agg (consE (congrArg (C.int .i64) ?_) (consE (congrArg (C.int .i64) ?_) (consE (congrArg (C.int .i64) ?_) rfl)))) (consE (congrArg V.c (congrArg (C.int .i64) ?_)) rfl))), rfl⟩
 rotate_left 4
 rw [drop_el hx1, utfRun] at v2
 exact ⟨(as_i64 (by omega) (by omega)), nxt_of (j := (⟨((utfByte q1.u ((UInt8.toNat x1 : Nat) : Int)).getD q1.u), q1.v + 1⟩ : utfText_i_V0)) (by first | rfl | simp) rfl (by dsimp only [utfText_i_F0]; exact ⟨by omega, by cases hu : utfByte q1.u (x1.toNat : Int) <;> simp_all⟩) (by dsimp only [utfText_i_F0]; omega)⟩
 rw [drop_end p1] at v2
 refine have hm1 : utfSt u s = q1.u := ?_; ?_
 rotate_left
 refine ⟨(congrArg S.tup (consE (congrArg V.agg (consE (congrArg (C.int .i64) ?_) (consE (congrArg (C.int .i64) ?_) (consE (congrArg (C.int .i64) ?_) rfl)))) (consE (congrArg V.c (congrArg (C.int .i64) ?_)) rfl))), rfl⟩
 rotate_left 4
 all_goals first | (unfold utfSt; rw [← v2, utfRun]; done) | (unfold utfBad; rw [← v2, utfRun]; done) | (unfold utfSt; rw [← v2]; clear v2; cases hu : utfByte q1.u (x1.toNat : Int) <;> simp_all) | (unfold utfBad; rw [← v2]; clear v2; cases hu : utfByte q1.u (x1.toNat : Int) <;> simp_all)
structure utfText_s_V0 where
 u : Utf
 i : Nat
def utfText_s_F0 (u : Utf) (s : List UInt8) : Fam := ⟨utfText_s_V0, fun q1 => [(1, .v (vT s)), (2, .v (vP 0)), (4, .v (vP 1)), (6, .v (vI (q1.i : Int)))], fun q1 => [.cells (cUtf q1.u), .cells [.int .i64 0, .int .i64 0, .int .i64 0]], fun q1 => q1.i ≤ s.length ∧ utfRun q1.u (List.drop q1.i s) q1.i = utfRun u s 0, fun q1 => s.length - q1.i⟩
theorem utfText_s (u : Utf) (s : List UInt8) (hp1 : s.length ≤ bigN) : Fun Tryz.prog 149 [.agg (cUtf u), vT s] [] (.tup [.agg (cUtf (utfSt u s)), vI (utfBad u s)]) [] := by
 have hN : bigN = 274877906944 := rfl
 refine fun_ofw Tryz.func149 (by kernel_rfl) (by kernel_rfl) (w := let zi : Int → C := .int .i64; let z5 := utfText_s_F0 u s; (.seg [.at 0, .keep [1, 2, 4, 6], .sel [0, 1]] (.loop z5 fun q1 => .br (.intro (fun (x1 : UInt8) => s[q1.i]? = some x1) fun x1 => let z1 := utfByte q1.u ((UInt8.toNat x1 : Nat) : Int); .seg [.tree (fr (.two 5 (fr (.one 9 (.one 10 (.first 11 (.done)))) 6 3) 9 (.one 5 (fr (.one 10 (.first 11 (.done))) 6 3))) 0 5) 12 [], .ch x1, .as 20 (.v (vI ((UInt8.toNat x1 : Nat) : Int))), .call [] (.tup [.agg (cUtf (z1.getD q1.u)), vB z1.isSome]) [], .at 0, .keep [1, 2, 4, 6, 7, 8], .sel [0, 1, 2], .call [] (.tup [.agg (cUtf (z1.getD q1.u)), vB z1.isSome]) [], .at 0, .keep [1, 2, 4, 6, 7, 8], .sel [0, 1, 2]] (.br (.leaf () []) (.seg [.as 14 (.v (vI ((q1.i : Int) + 1))), .at 0, .keep [1, 2, 4, 6], .sel [0, 1]] (.next)))) (.leaf () [])), z5.Has [(1, .v (vT s)), (2, .v (vP 0)), (4, .v (vP 1)), (6, .v (vI 0))] [.cells (cUtf u), .cells [zi 0, zi 0, zi 0]] ∧ ∀ q1, z5.inv q1 → (let z3 := (q1.i : Int); let z4 := cUtf q1.u; ((decide (z3 < (s.length : Int))) = true → (∃ (x1 : UInt8), s[q1.i]? = some x1) ∧ ∀ (x1 : UInt8), (s[q1.i]? = some x1) → (let z2 := ((UInt8.toNat x1 : Nat) : Int); (s[q1.i]? = some x1) ∧ ((0 : Int) ≤ z3) ∧ (s[q1.i]? = some x1) ∧ ((0 : Int) ≤ z3) ∧ ((.v (vI (IntKind.i64.wrap (z2))) : S) = .v (vI z2)) ∧ ((.v (vI (IntKind.i64.wrap (z2))) : S) = .v (vI z2)) ∧ (Fun Tryz.prog 166 [.agg z4, vI z2] [] (.tup [.agg (cUtf ((utfByte q1.u z2).getD q1.u)), vB (utfByte q1.u z2).isSome]) []) ∧ (Fun Tryz.prog 166 [.agg z4, vI z2] [] (.tup [.agg (cUtf ((utfByte q1.u z2).getD q1.u)), vB (utfByte q1.u z2).isSome]) []) ∧ (([.cells z4, .cells [zi 0, zi 0, zi 0], .cells (cUtf ((utfByte q1.u z2).getD q1.u))] : List Blk) = [.cells z4, .cells [zi 0, zi 0, zi 0], .cells (cUtf ((utfByte q1.u z2).getD q1.u))]) ∧ (([(1, .v (vT s)), (2, .v (vP 0)), (4, .v (vP 1)), (6, .v (vI z3)), (7, .v (vP 2)), (8, .v (vB (utfByte q1.u z2).isSome))] : List (Nat × S)) = [(1, .v (vT s)), (2, .v (vP 0)), (4, .v (vP 1)), (6, .v (vI z3)), (7, .v (vP 2)), (8, .v (vB (utfByte q1.u z2).isSome))]) ∧ ((!(utfByte q1.u z2).isSome) = true → (.tup [.agg z4, vI z3] : S) = .tup [.agg (cUtf (utfSt u s)), vI (utfBad u s)] ∧ ([] : List Blk) = []) ∧ ((!(utfByte q1.u z2).isSome) = false → ((.v (vI (IntKind.i64.wrap (z3 + 1))) : S) = .v (vI (z3 + 1))) ∧ z5.Nxt q1 [(1, .v (vT s)), (2, .v (vP 0)), (4, .v (vP 1)), (6, .v (vI (z3 + 1)))] [.cells (cUtf ((utfByte q1.u z2).getD q1.u)), .cells [zi 0, zi 0, zi 0]]))) ∧ ((decide (z3 < (s.length : Int))) = false → (.tup [.agg z4, vI (-1)] : S) = .tup [.agg (cUtf (utfSt u s)), vI (utfBad u s)] ∧ ([] : List Blk) = [])))) (by kernel_rfl) ?_
 refine ⟨has_of (j := (⟨u, 0⟩ : utfText_s_V0)) (by first | rfl | simp) rfl (by dsimp only [utfText_s_F0]; exact ⟨by omega, by simp⟩), fun (q1 : utfText_s_V0) hq_q1 => ?_⟩
 have hi_q1 : q1.i ≤ s.length ∧ utfRun q1.u (List.drop q1.i s) q1.i = utfRun u s 0 := hq_q1
 obtain ⟨v1, v2⟩ := hi_q1
 refine dsp (fun h1 p1 => ?_) fun h1 p1 => ?_
 refine ⟨(ax_get (l := s) (i := q1.i) (by omega)), fun x1 hx1 => ?_⟩
 have hb_x1 := UInt8.toNat_lt x1
 refine ⟨hx1, (by omega), hx1, (by omega), (as_i64 (by omega) (by omega)), (as_i64 (by omega) (by omega)), (utfByte_s q1.u _), (utfByte_s q1.u _), rfl, rfl, fun h2 => have q2 := bnot_t h2; ?_, fun h2 => have q2 := bnot_f h2; ?_⟩
 rw [drop_el hx1, utfRun] at v2
 refine have hm1 : utfSt u s = q1.u := ?_; ?_
 rotate_left
 refine ⟨(congrArg S.tup (consE (congrArg V.agg (consE (congrArg (C.int .i64) ?_) (consE (congrArg (C.int .i64) ?_) (consE (congrArg (C.int .i64) ?_) rfl)))) (consE (congrArg V.c (congrArg (C.int .i64) ?_)) rfl))), rfl⟩
 rotate_left 4
 rw [drop_el hx1, utfRun] at v2
 exact ⟨(as_i64 (by omega) (by omega)), nxt_of (j := (⟨((utfByte q1.u ((UInt8.toNat x1 : Nat) : Int)).getD q1.u), q1.i + 1⟩ : utfText_s_V0)) (by first | rfl | simp) rfl (by dsimp only [utfText_s_F0]; exact ⟨by omega, by cases hu : utfByte q1.u (x1.toNat : Int) <;> simp_all⟩) (by dsimp only [utfText_s_F0]; omega)⟩
 rw [drop_end p1] at v2
 refine have hm1 : utfSt u s = q1.u := ?_; ?_
 rotate_left
 refine ⟨(congrArg S.tup (consE (congrArg V.agg (consE (congrArg (C.int .i64) ?_) (consE (congrArg (C.int .i64) ?_) (consE (congrArg (C.int .i64) ?_) rfl)))) (consE (congrArg V.c (congrArg (C.int .i64) ?_)) rfl))), rfl⟩
 rotate_left 4
 all_goals first | (unfold utfSt; rw [← v2, utfRun]; done) | (unfold utfBad; rw [← v2, utfRun]; done) | (unfold utfSt; rw [← v2]; clear v2; cases hu : utfByte q1.u (x1.toNat : Int) <;> simp_all) | (unfold utfBad; rw [← v2]; clear v2; cases hu : utfByte q1.u (x1.toNat : Int) <;> simp_all)
end Go.Proofs.YtaflinakodideaaGreat.Ax
