/- Models. Models: sizes. Numbers. Varints. -/
import Derived.Test.YtecljjcmjongfaaGreatKB4
set_option linter.unusedSimpArgs false
set_option linter.unusedVariables false
namespace Go.Proofs.YtecljjcmjongfaaGreat.Ax
open Go.RowKit
theorem consE {α : Type} {a b : α} {l m : List α} (h : a = b) (t : l = m) : a :: l = b :: m := by rw [h, t]
def vI (x : Int) : V := .c (.int .i64 x)
def vB (x : Bool) : V := .c (.bool x)
def vT (x : List UInt8) : V := .c (.str x)
def vO (j : Nat) : V := .c (.own j)
def vP (j : Nat) : V := .c (.ptr j 0)
theorem sB {a b : Bool} (h : a = b) : (.v (.c (.bool a)) : S) = .v (.c (.bool b)) := by rw [h]
theorem sI {a b : Int} (h : a = b) : (.v (.c (.int .i64 a)) : S) = .v (.c (.int .i64 b)) := by rw [h]
theorem dT {p : Prop} [Decidable p] : decide p = true ↔ p := decide_eq_true_iff
theorem dF {p : Prop} [Decidable p] : decide p = false ↔ ¬ p := decide_eq_false_iff_not
theorem andT {a b : Bool} {P Q : Prop} (h : a = true ↔ P) (g : b = true ↔ Q) : (a && b) = true ↔ P ∧ Q := by rw [Bool.and_eq_true, h, g]
theorem andF {a b : Bool} {P Q : Prop} (h : a = true ↔ P) (g : b = false ↔ Q) : (a && b) = false ↔ (P → Q) := by rw [Bool.and_eq_false_imp, h, g]
theorem orT {a b : Bool} {P Q : Prop} (h : a = true ↔ P) (g : b = true ↔ Q) : (a || b) = true ↔ P ∨ Q := by rw [Bool.or_eq_true, h, g]
theorem orF {a b : Bool} {P Q : Prop} (h : a = false ↔ P) (g : b = false ↔ Q) : (a || b) = false ↔ P ∧ Q := by rw [Bool.or_eq_false_iff, h, g]
theorem has_of {F : Fam} {j : F.ι} {tm : List (Nat × S)} {H : List Blk} (h1 : tm = F.tm j) (h2 : H = F.H j) (h : F.inv j) : F.Has tm H := ⟨j, h, h1, h2⟩
theorem nxt_of {F : Fam} {i j : F.ι} {tm : List (Nat × S)} {H : List Blk} (h1 : tm = F.tm j) (h2 : H = F.H j) (h : F.inv j) (hm : F.mu j < F.mu i) : F.Nxt i tm H := ⟨j, ⟨h, hm⟩, h1, h2⟩
theorem fun_ofw {P : Program} {f : FuncId} {fn : Func} (hf : P.funcs[f]? = some fn) (hb : fn.body.isNone = false) (hn : (fn.name == "runtime.NumGoroutine") = false) {args : List V} {L L' : List Blk} {r : S} {w : DT Unit × Prop}
    (hw : walkT P fn args L w.1 (fun _ r' Lp => r' = r ∧ Lp = L') = w.2) (h : w.2) : Fun P f args L r L' := fun_of hf hb hn hw h
theorem dsp {p : Prop} [Decidable p] {A B : Prop} (h1 : decide p = true → p → A) (h2 : decide p = false → ¬ p → B) : (decide p = true → A) ∧ (decide p = false → B) := ⟨fun h => h1 h (of_decide_eq_true h), fun h => h2 h (of_decide_eq_false h)⟩
/-! ### Structures -/
structure Scn where
  bits : Int
  have_ : Int
  deriving DecidableEq, Inhabited
structure Utf where
  want : Int
  low : Int
  high : Int
  deriving DecidableEq, Inhabited
structure Pln where
  shapes : List Shp
  root : Int
  deep : Int
  most : Int
  deriving DecidableEq, Inhabited
structure Dcd where
  plan : Pln
  mode : Int
  stack : List Lev
  scan : Scn
  start : Int
  at_ : Int
  field : Fld
  wire : Int
  want : Int
  utf : Utf
  end_ : Ev
  deriving DecidableEq, Inhabited
def fld0 : Fld := ⟨0, 0, false, false, 0⟩
def ev0 : Ev := ⟨0, 0, 0, 0, [], 0, 0⟩
def utf0 : Utf := ⟨0, 0, 0⟩
def scn0 : Scn := ⟨0, 0⟩
theorem drop_el {α : Type} {l : List α} {i : Nat} {x : α} (h : l[i]? = some x) : l.drop i = x :: l.drop (i + 1) := by
  have hl := (List.getElem?_eq_some_iff.1 h).1
  rw [List.drop_eq_getElem_cons hl]
  congr 1
  rw [List.getElem?_eq_getElem hl] at h
  exact Option.some.inj h
theorem bnot_t {b : Bool} (h : (!b) = true) : b = false := by cases b <;> simp_all
theorem bnot_f {b : Bool} (h : (!b) = false) : b = true := by cases b <;> simp_all
theorem getD_of {α : Type} {l : List α} {i : Nat} {x d : α} (h : l[i]? = some x) : l.getD i d = x := by simp [List.getD, h]
theorem drop_end {α : Type} {l : List α} {i : Nat} (h : ¬ ((i : Nat) : Int) < ((l.length : Nat) : Int)) : l.drop i = [] := List.drop_eq_nil_of_le (by omega)
/-! ### Words of numbers -/
theorem as_tmod {k : IntKind} {a m : Int} (h : 0 ≤ a) : (.v (.c (.int k (Int.tmod a m))) : S) = .v (.c (.int k (a % m))) := by rw [Int.tmod_eq_emod_of_nonneg h]
theorem as_tdiv_u64 {a m : Int} (h : 0 ≤ a) (h2 : a ≤ 18446744073709551615) (hm : 0 < m) : (.v (.c (.int .u64 (IntKind.u64.wrap (Int.tdiv a m)))) : S) = .v (.c (.int .u64 (a / m))) := by
  rw [Int.tdiv_eq_ediv_of_nonneg h]
  have h3 := Int.ediv_nonneg h (Int.le_of_lt hm)
  have h4 := Int.ediv_le_self m h
  exact as_u64 (by omega) (by omega)
theorem or_add {a b : Int} {k : Nat} (ha : 0 ≤ a) (hk : a < 2 ^ k) {c : Int} (hc : 0 ≤ c) (hb : b = c * 2 ^ k) (hs : b + 2 ^ k ≤ 18446744073709551616) : (((BitVec.ofInt 64 a ||| BitVec.ofInt 64 b).toNat : Nat) : Int) = a + b := by
  obtain ⟨n, rfl⟩ := Int.eq_ofNat_of_zero_le ha
  obtain ⟨m, rfl⟩ := Int.eq_ofNat_of_zero_le hc
  have hb' : b = ((m * 2 ^ k : Nat) : Int) := by rw [hb, Int.natCast_mul, Int.natCast_pow]; rfl
  have hp : (0 : Int) < 2 ^ k := Int.pow_pos (by decide)
  subst hb'
  have e : ((2 ^ k : Nat) : Int) = 2 ^ k := by rw [Int.natCast_pow]; rfl
  rw [← e] at hk hs hp
  have h1 : n < 2 ^ k := by omega
  have h2 : m * 2 ^ k + 2 ^ k ≤ 18446744073709551616 := by omega
  have h3 : n < 2 ^ 64 := by omega
  have h4 : m * 2 ^ k < 2 ^ 64 := by omega
  rw [BitVec.toNat_or, BitVec.ofInt_natCast, BitVec.ofInt_natCast, BitVec.toNat_ofNat, BitVec.toNat_ofNat, Nat.mod_eq_of_lt h3, Nat.mod_eq_of_lt h4, Nat.or_comm, Nat.mul_comm m, ← Nat.two_pow_add_eq_or_of_lt h1]
  rw [Nat.mul_comm, Int.natCast_add, Int.add_comm]
/-! ### Kinds, wires, numbers -/
def numberOk (n : Int) : Bool := within n 1 536870911 && !within n 19000 19999
def wireOk (w : Int) : Bool := decide (w = 0) || decide (w = 1) || decide (w = 2) || decide (w = 5)
def kindOk (k : Int) : Bool := within k 1 8
def numeric (k : Int) : Bool := within k 1 5
def wireOf (k : Int) : Int := if kindOk k then (if k = 4 then 5 else if k = 5 then 1 else if k ≤ 3 then 0 else 2) else -1
def widthOf (w : Int) : Int := if w = 1 then 8 else if w = 5 then 4 else 0
def bitsFit (k u : Int) : Bool := if k = 3 then decide (u ≤ 1) else if k = 4 then decide (u ≤ 4294967295) else numeric k
def runs (f : Fld) : Bool := f.rep && numeric f.kind
def allowed (f : Fld) (w : Int) : Bool := decide (w = wireOf f.kind) || (decide (w = 2) && runs f)
def hasField (k : Int) : Bool := decide (k = 2) || decide (k = 3) || decide (k = 6)
theorem widthOf_b (w : Int) : 0 ≤ widthOf w ∧ widthOf w ≤ 8 := by unfold widthOf; split <;> (try split) <;> omega
theorem wireOf_b (k : Int) : -1 ≤ wireOf k ∧ wireOf k ≤ 5 := by unfold wireOf; repeat' split; all_goals omega
/-! ### Schemas -/
def fldOk (f : Fld) (n : Int) : Bool := numberOk f.number && kindOk f.kind && !(f.packed && (!f.rep || !numeric f.kind)) && (if f.kind = 8 then within f.msg 0 (n - 1) else decide (f.msg = -1))
def fieldsOk (n : Int) : Int → List Fld → Bool
  | _, [] => true
  | b, f :: r => decide (b < f.number) && fldOk f n && fieldsOk n f.number r
def shapesOk (n : Int) : Int → List Shp → Bool
  | _, [] => true
  | b, x :: r => decide (b < x.id) && decide (x.id ≤ 99) && decide ((x.fields.length : Int) ≤ 8) && fieldsOk n 0 x.fields && shapesOk n x.id r
def schemaOk (l : List Shp) : Bool := decide ((l.length : Int) ≤ 6) && shapesOk (l.length : Int) 0 l
def fieldIn (l : List Fld) (n : Int) : Option Fld := l.find? fun f => decide (f.number = n)
def shp0 : Shp := ⟨0, []⟩
def fieldAt (l : List Shp) (s n : Int) : Option Fld := if within s 0 ((l.length : Int) - 1) then fieldIn (l.getD s.toNat shp0).fields n else none
def planOk (p : Pln) : Bool := schemaOk p.shapes && within p.root 0 ((p.shapes.length : Int) - 1) && within p.deep 1 8 && within p.most 0 2000
theorem fldOk_t {f : Fld} {n : Int} (h : fldOk f n = true) : 1 ≤ f.number ∧ f.number ≤ 536870911 ∧ 1 ≤ f.kind ∧ f.kind ≤ 8 ∧ (f.kind = 8 → 0 ≤ f.msg ∧ f.msg ≤ n - 1) ∧ (f.kind ≠ 8 → f.msg = -1) := by
  simp only [fldOk, numberOk, kindOk, within, Bool.and_eq_true, decide_eq_true_eq] at h
  obtain ⟨⟨⟨h1, h2⟩, h3⟩, h4⟩ := h
  refine ⟨h1.1.1, h1.1.2, h2.1, h2.2, fun hk => ?_, fun hk => ?_⟩
  · rw [if_pos hk] at h4; simpa using h4
  · rw [if_neg hk] at h4; simpa using h4
theorem schemaOk_t {l : List Shp} (h : schemaOk l = true) : l.length ≤ 6 := by
  simp only [schemaOk, Bool.and_eq_true, decide_eq_true_eq] at h; omega
theorem planOk_t {p : Pln} (h : planOk p = true) : p.shapes.length ≤ 6 ∧ schemaOk p.shapes = true ∧ 0 ≤ p.root ∧ p.root < (p.shapes.length : Int) ∧ 1 ≤ p.deep ∧ p.deep ≤ 8 ∧ 0 ≤ p.most ∧ p.most ≤ 2000 := by
  simp only [planOk, within, Bool.and_eq_true, decide_eq_true_eq] at h
  have := schemaOk_t h.1.1.1
  refine ⟨this, h.1.1.1, ?_⟩; omega
theorem fieldsOk_mem {n : Int} : ∀ {b : Int} {l : List Fld}, fieldsOk n b l = true → ∀ f ∈ l, fldOk f n = true ∧ b < f.number
  | _, [], _, f, hf => by cases hf
  | b, g :: r, h, f, hf => by
    simp only [fieldsOk, Bool.and_eq_true, decide_eq_true_eq] at h
    rcases List.mem_cons.1 hf with rfl | hf
    · exact ⟨h.1.2, h.1.1⟩
    · have := fieldsOk_mem h.2 f hf; exact ⟨this.1, by omega⟩
theorem shapesOk_mem {n : Int} : ∀ {b : Int} {l : List Shp}, shapesOk n b l = true → ∀ x ∈ l, (x.fields.length ≤ 8 ∧ fieldsOk n 0 x.fields = true) ∧ b < x.id ∧ x.id ≤ 99
  | _, [], _, f, hf => by cases hf
  | b, g :: r, h, f, hf => by
    simp only [shapesOk, Bool.and_eq_true, decide_eq_true_eq] at h
    rcases List.mem_cons.1 hf with rfl | hf
    · exact ⟨⟨by omega, h.1.2⟩, h.1.1.1.1, h.1.1.1.2⟩
    · have := shapesOk_mem h.2 f hf; exact ⟨this.1, by omega, this.2.2⟩
theorem schemaOk_fields {l : List Shp} (h : schemaOk l = true) : ∀ x ∈ l, List.length x.fields ≤ 1000 := fun x hx => by
  simp only [schemaOk, Bool.and_eq_true] at h
  have := (shapesOk_mem h.2 x hx).1.1
  omega
theorem fieldAt_ok {l : List Shp} {s n : Int} {f : Fld} (hl : schemaOk l = true) (h : fieldAt l s n = some f) : fldOk f (l.length : Int) = true ∧ f.number = n := by
  unfold fieldAt at h
  split at h
  · rename_i hs
    have hs := within_t hs
    simp only [schemaOk, Bool.and_eq_true, decide_eq_true_eq] at hl
    have hm : l.getD s.toNat shp0 ∈ l := by
      rw [List.getD_eq_getElem?_getD, List.getElem?_eq_getElem (by omega)]
      exact List.getElem_mem _
    have hx := (shapesOk_mem hl.2 _ hm).1.2
    have hf := List.mem_of_find?_eq_some h
    have hp := List.find?_some h
    exact ⟨(fieldsOk_mem hx f hf).1, by simpa using hp⟩
  · cases h
/-! ### Tags -/
def tagOf (n w : Int) : Int := if within n 1 536870911 && within w 0 7 then 8 * n + w else 0
def tagOk (u : Int) : Bool := within u 8 4294967295
def tagNum (u : Int) : Int := if tagOk u then u / 8 else 0
def tagWire (u : Int) : Int := if tagOk u then u % 8 else 0
theorem tagOf_b (n w : Int) : 0 ≤ tagOf n w ∧ tagOf n w ≤ 4294967295 := by
  unfold tagOf within; split <;> simp_all <;> omega
/-! ### Utf-8 -/
def utfIs (u : Utf) (w l h : Int) : Bool := decide (u.want = w) && (decide (u.low = l) && decide (u.high = h))
def utfOk (u : Utf) : Bool := utfIs u 0 0 0 || utfIs u 1 128 191 || utfIs u 2 128 191 || utfIs u 3 128 191 || utfIs u 2 160 191 || utfIs u 2 128 159 || utfIs u 3 144 191 || utfIs u 3 128 143
theorem utfOk_t {u : Utf} (h : utfOk u = true) : (u.want = 0 ∧ u.low = 0 ∧ u.high = 0) ∨ (u.want = 1 ∧ u.low = 128 ∧ u.high = 191) ∨ (u.want = 2 ∧ u.low = 128 ∧ u.high = 191) ∨ (u.want = 3 ∧ u.low = 128 ∧ u.high = 191) ∨ (u.want = 2 ∧ u.low = 160 ∧ u.high = 191) ∨ (u.want = 2 ∧ u.low = 128 ∧ u.high = 159) ∨ (u.want = 3 ∧ u.low = 144 ∧ u.high = 191) ∨ (u.want = 3 ∧ u.low = 128 ∧ u.high = 143) := by
  simp only [utfOk, utfIs, Bool.or_eq_true, Bool.and_eq_true, decide_eq_true_eq] at h
  rcases h with ((((((h | h) | h) | h) | h) | h) | h) | h <;> simp [h]
theorem utfOk_zero {u : Utf} (h : utfOk u = true) (h0 : u.want = 0) : u = utf0 := by
  rcases utfOk_t h with h | h | h | h | h | h | h | h <;> first | (cases u; simp_all [utf0]; done) | omega
theorem utfOk_want {u : Utf} (h : utfOk u = true) : 0 ≤ u.want ∧ u.want ≤ 3 := by
  rcases utfOk_t h with h | h | h | h | h | h | h | h <;> omega
def utfFirst (b : Int) : Option Utf :=
  if within b 0 127 then some utf0
  else if within b 194 223 then some ⟨1, 128, 191⟩
  else if within b 224 239 then some ⟨2, if b = 224 then 160 else 128, if b = 237 then 159 else 191⟩
  else if within b 240 244 then some ⟨3, if b = 240 then 144 else 128, if b = 244 then 143 else 191⟩
  else none
def utfByte (u : Utf) (b : Int) : Option Utf :=
  if utfOk u then (if u.want = 0 then utfFirst b else if within b u.low u.high then some (if u.want = 1 then utf0 else ⟨u.want - 1, 128, 191⟩) else none) else none
def utfRun : Utf → List UInt8 → Nat → Utf × Option Nat
  | u, [], _ => (u, none)
  | u, b :: r, i => match utfByte u (b.toNat : Int) with
    | some v => utfRun v r (i + 1)
    | none => (u, some i)
def utfSt (u : Utf) (s : List UInt8) : Utf := (utfRun u s 0).1
def utfBad (u : Utf) (s : List UInt8) : Int := match (utfRun u s 0).2 with
  | some i => (i : Int)
  | none => -1
/-! ### Varints -/
theorem utf_eq {u : Utf} (h : u.want = 0 ∧ u.low = 0 ∧ u.high = 0) : u = utf0 := by cases u; simp_all [utf0]
theorem utf_ne {u : Utf} (h : ¬ (u.want = 0 ∧ u.low = 0 ∧ u.high = 0)) : u ≠ utf0 := fun e => h (by subst e; simp [utf0])
def putVarN (u : Nat) : List UInt8 := if h : u < 128 then [UInt8.ofNat u] else UInt8.ofNat (u % 128 + 128) :: putVarN (u / 128)
termination_by u
decreasing_by omega
def putVar (u : Int) : List UInt8 := putVarN u.toNat
def varLen (u : Int) : Int := ((putVar u).length : Int)
theorem putVarN_small {u : Nat} (h : u < 128) : putVarN u = [UInt8.ofNat u] := by rw [putVarN, dif_pos h]
theorem putVarN_big {u : Nat} (h : ¬ u < 128) : putVarN u = UInt8.ofNat (u % 128 + 128) :: putVarN (u / 128) := by rw [putVarN, dif_neg h]
theorem putVarN_len : ∀ (k u : Nat), u < 128 ^ k → 1 ≤ k → (putVarN u).length ≤ k
  | 0, _, _, h => by omega
  | k + 1, u, h, _ => by
    by_cases hu : u < 128
    · rw [putVarN_small hu]; simp
    · rw [putVarN_big hu]
      have hk : 1 ≤ k := by
        rcases k with _ | k
        · simp at h; omega
        · omega
      have := putVarN_len k (u / 128) (by rw [Nat.pow_succ] at h; exact Nat.div_lt_of_lt_mul (by rw [Nat.mul_comm]; exact h)) hk
      simp; omega
theorem putVarN_pos (u : Nat) : 1 ≤ (putVarN u).length := by
  by_cases hu : u < 128
  · rw [putVarN_small hu]; simp
  · rw [putVarN_big hu]; simp
theorem putVar_small {u : Int} (h0 : 0 ≤ u) (h : u ≤ 127) : putVar u = [UInt8.ofNat u.toNat] := putVarN_small (by omega)
theorem putVar_big {u : Int} (h0 : 0 ≤ u) (h : 127 < u) : putVar u = UInt8.ofNat (u % 128 + 128).toNat :: putVar (u / 128) := by
  unfold putVar
  rw [putVarN_big (by omega), show (u / 128).toNat = u.toNat / 128 by omega, show (u % 128 + 128).toNat = u.toNat % 128 + 128 by omega]
theorem putVar_pos (u : Int) : 1 ≤ (putVar u).length := putVarN_pos _
theorem varLen_b {u : Int} (h : u ≤ 18446744073709551615) : 1 ≤ varLen u ∧ varLen u ≤ 10 := by
  have h1 := putVarN_pos u.toNat
  have h2 := putVarN_len 10 u.toNat (by omega) (by omega)
  unfold varLen putVar; omega
def padL (u n : Nat) : List Int := (List.range n).map fun (i : Nat) => ((u / 128 ^ i % 128 + 128 : Nat) : Int)
theorem padL_len {u n : Nat} : (padL u n).length = n := by simp [padL]
theorem padL_get {u n i : Nat} (h : i < n) : (padL u n)[i]? = some ((u / 128 ^ i % 128 + 128 : Nat) : Int) := by simp [padL, h]
theorem padU_step {u i : Nat} : ((u / 128 ^ i : Nat) : Int) / 128 = ((u / 128 ^ (i + 1) : Nat) : Int) := by
  rw [Nat.pow_succ, ← Nat.div_div_eq_div_mul]; omega
theorem padL_succ {u n : Nat} : padL u (n + 1) = ((u % 128 + 128 : Nat) : Int) :: padL (u / 128) n := by
  simp only [padL, List.range_succ_eq_map, List.map_cons, List.map_map]
  congr 1
  · simp
  · apply List.map_congr_left
    intro i _
    simp only [Function.comp, Nat.succ_eq_add_one]
    rw [Nat.pow_succ, Nat.mul_comm, ← Nat.div_div_eq_div_mul]
theorem putVarN_pad : ∀ (k u : Nat), (putVarN u).length = k + 1 → putVarN u = ((padL u k).map toByte) ++ [UInt8.ofNat (u / 128 ^ k % 128)]
  | 0, u, h => by
    by_cases hu : u < 128
    · rw [putVarN_small hu]; simp [padL, Nat.mod_eq_of_lt hu]
    · rw [putVarN_big hu] at h
      have := putVarN_pos (u / 128)
      simp only [List.length_cons] at h; omega
  | k + 1, u, h => by
    by_cases hu : u < 128
    · rw [putVarN_small hu] at h; simp at h
    · rw [putVarN_big hu] at h ⊢
      have ih := putVarN_pad k (u / 128) (by simpa using h)
      rw [ih, padL_succ]
      simp only [List.map_cons, List.cons_append]
      congr 2
      rw [Nat.pow_succ, Nat.mul_comm, ← Nat.div_div_eq_div_mul]
theorem padL_fix {u : Int} {n : Nat} {x : Int} (hn : n = (putVar u).length) (hx : (padL u.toNat n)[n - 1]? = some x) : List.map toByte (List.set (padL u.toNat n) (n - 1) (x % 128)) = putVar u := by
  have hp := putVar_pos u
  obtain ⟨k, rfl⟩ : ∃ k, n = k + 1 := ⟨n - 1, by omega⟩
  have h := putVarN_pad k u.toNat (by unfold putVar at hn; omega)
  unfold putVar
  rw [h]
  have hk : k + 1 - 1 = k := by omega
  rw [hk] at hx ⊢
  rw [padL_get (by omega)] at hx
  have hx := Option.some.inj hx
  have hs : padL u.toNat (k + 1) = padL u.toNat k ++ [((u.toNat / 128 ^ k % 128 + 128 : Nat) : Int)] := by simp [padL, List.range_succ]
  rw [hs, List.set_append_right _ _ (by rw [padL_len]; omega), padL_len, Nat.sub_self, List.map_append]
  simp only [List.set_cons_zero, List.map_cons, List.map_nil, toByte]
  rw [← hx]
  congr 3
  omega
theorem mask_u8 {a : Int} (h : 0 ≤ a) (h2 : a ≤ 255) : (.v (.c (.int .u8 (IntKind.u8.wrap (((BitVec.ofInt 8 a &&& BitVec.ofInt 8 127).toNat : Nat) : Int)))) : S) = .v (.c (.int .u8 (a % 128))) := by
  obtain ⟨n, rfl⟩ := Int.eq_ofNat_of_zero_le h
  have e : (BitVec.ofInt 8 ((n : Nat) : Int) &&& BitVec.ofInt 8 127).toNat = n % 128 := by
    rw [BitVec.toNat_and, BitVec.ofInt_natCast, BitVec.toNat_ofNat, Nat.mod_eq_of_lt (by omega)]
    exact Nat.and_two_pow_sub_one_eq_mod n 7
  rw [e]
  have := as_u8 (x := ((n % 128 : Nat) : Int)) (by omega) (by omega)
  rw [this]; simp
theorem or_128 {a : Int} (h : 0 ≤ a) (h2 : a ≤ 127) : (.v (.c (.int .u64 (IntKind.u64.wrap (((BitVec.ofInt 64 a ||| BitVec.ofInt 64 128).toNat : Nat) : Int)))) : S) = .v (.c (.int .u64 (a + 128))) := by
  rw [or_add (k := 7) (c := 1) h (by omega) (by omega) (by decide) (by decide)]
  exact as_u64 (by omega) (by omega)
def putFixN : Nat → Nat → List UInt8
  | 0, _ => []
  | n + 1, u => UInt8.ofNat (u % 256) :: putFixN n (u / 256)
def widthOk (w : Int) : Bool := decide (w = 4) || decide (w = 8)
def putFix (u w : Int) : List UInt8 := if !widthOk w || (decide (w = 4) && decide (4294967295 < u)) then [] else putFixN w.toNat u.toNat
theorem widthOk_t {w : Int} (h : widthOk w = true) : w = 4 ∨ w = 8 := by simpa [widthOk] using h
theorem widthOk_f {w : Int} (h : widthOk w = false) : w ≠ 4 ∧ w ≠ 8 := by simpa [widthOk] using h
def fixL (u n : Nat) : List Int := (List.range n).map fun (i : Nat) => ((u / 256 ^ i % 256 : Nat) : Int)
theorem fixL_len {u n : Nat} : (fixL u n).length = n := by simp [fixL]
theorem fixL_get {u n i : Nat} (h : i < n) : (fixL u n)[i]? = some ((u / 256 ^ i % 256 : Nat) : Int) := by simp [fixL, h]
theorem fixU_step {u i : Nat} : ((u / 256 ^ i : Nat) : Int) / 256 = ((u / 256 ^ (i + 1) : Nat) : Int) := by
  rw [Nat.pow_succ, ← Nat.div_div_eq_div_mul]; omega
theorem fixL_put : ∀ (n u : Nat), (fixL u n).map toByte = putFixN n u
  | 0, u => rfl
  | n + 1, u => by
    rw [putFixN, ← fixL_put n (u / 256)]
    simp only [fixL, List.range_succ_eq_map, List.map_cons, List.map_map]
    congr 1
    · simp only [toByte, Nat.pow_zero, Nat.div_one]; congr 1
    · apply List.map_congr_left
      intro i _
      simp only [Function.comp, Nat.succ_eq_add_one]
      rw [Nat.pow_succ, Nat.mul_comm, ← Nat.div_div_eq_div_mul]
theorem as_mod8 {u : Int} (h : 0 ≤ u) : (.v (.c (.int .u8 (IntKind.u8.wrap u))) : S) = .v (.c (.int .u8 (u % 256))) := by
  have : IntKind.u8.wrap u = u % 256 := by simp [IntKind.wrap, IntKind.signed, IntKind.bits]
  rw [this]
theorem putFix_len {u w : Int} : (putFix u w).length ≤ 8 := by
  have hlen : ∀ (n u : Nat), (putFixN n u).length = n := fun n => by induction n with
    | zero => intro u; rfl
    | succ n ih => intro u; simp [putFixN, ih]
  unfold putFix
  split
  · simp
  · rename_i h
    have hw : widthOk w = true := by
      simp only [Bool.or_eq_true, Bool.not_eq_true', Bool.and_eq_true, not_or] at h
      simpa using h.1
    rw [hlen]
    rcases widthOk_t hw with rfl | rfl <;> decide
def failEv (c a : Int) : Ev := ⟨10, 0, 0, 0, [], c, a⟩
def numEv (f : Fld) (u : Int) : Ev := ⟨2, f.number, if f.kind = 3 ∧ u ≠ 0 then 1 else u, 0, [], 0, 0⟩
def frameOf (b : List UInt8) : List UInt8 := putVar (b.length : Int) ++ b
theorem putVar_len {u : Int} (h : u ≤ 18446744073709551615) : (putVar u).length ≤ 10 := by
  have := putVarN_len 10 u.toNat (by omega) (by omega); exact this
theorem fieldIn_cons {f : Fld} {l : List Fld} {n : Int} : fieldIn (f :: l) n = if f.number = n then some f else fieldIn l n := by
  unfold fieldIn; rw [List.find?_cons]; by_cases h : f.number = n <;> simp [h]
theorem fieldAt_in {l : List Shp} {s n : Int} {x : Shp} (hs : within s 0 ((l.length : Int) - 1) = true) (hx : l[s.toNat]? = some x) : fieldAt l s n = fieldIn x.fields n := by
  rw [fieldAt, if_pos hs, getD_of hx]
def many (l : List Ev) (k : Int) : Int := ((l.filter fun e => decide (e.kind = k)).length : Int)
def frameStopN : List Ev → Nat → Int
  | [], _ => -1
  | e :: r, i => if e.kind = 8 then (i : Int) else frameStopN r (i + 1)
def frameStop (l : List Ev) (a : Int) : Int := if a < 0 then -1 else frameStopN (l.drop a.toNat) a.toNat
theorem frameStopN_b : ∀ (l : List Ev) (i : Nat), frameStopN l i = -1 ∨ ((i : Int) ≤ frameStopN l i ∧ frameStopN l i < (i : Int) + (l.length : Int))
  | [], i => .inl rfl
  | e :: r, i => by
    unfold frameStopN
    split
    · right; simp; omega
    · rcases frameStopN_b r (i + 1) with h | h
      · exact .inl h
      · right; simp; omega
theorem frameStop_b (l : List Ev) (a : Int) : -1 ≤ frameStop l a ∧ (frameStop l a < (l.length : Int) ∨ (a : Int) > (l.length : Int) ∧ frameStop l a = -1) := by
  unfold frameStop
  split
  · omega
  · rcases frameStopN_b (l.drop a.toNat) a.toNat with h | h
    · rw [h]; omega
    · rw [List.length_drop] at h; omega
/-! ### Events as a frame -/
structure Fa where
  stack : List Int
  inText : Bool
  isText : Bool
  utf : Utf
  ended : Bool
  deriving Inhabited
structure Fmr where
  plan : Pln
  st : Fa
structure Fs where
  stack : List Int
  field : Fld
  open_ : Bool
  utf : Utf
  ended : Bool
def lastD (l : List Int) : Int := l.getD (l.length - 1) 0
def faOwn (p : Pln) (a : Fa) (e : Ev) : Option Fld := fieldAt p.shapes (lastD a.stack) e.field
def isBytes (k : Int) : Bool := decide (k = 6) || decide (k = 7)
def valCode (p : Pln) (a : Fa) (e : Ev) : Int := match faOwn p a e with
  | none => 3
  | some f =>
    if (e.kind = 2 ∧ numeric f.kind = false) ∨ (e.kind = 3 ∧ isBytes f.kind = false) ∨ (e.kind = 6 ∧ f.kind ≠ 8) then 2
    else if e.kind = 2 ∧ bitsFit f.kind e.bits = false then 4
    else if e.kind = 6 ∧ p.deep ≤ (a.stack.length : Int) then 6
    else 0
def valStep (p : Pln) (a : Fa) (e : Ev) : Fa :=
  if valCode p a e ≠ 0 then a
  else if e.kind = 3 then ⟨a.stack, true, decide (((faOwn p a e).getD fld0).kind = 6), utf0, a.ended⟩
  else if e.kind = 6 then ⟨a.stack ++ [((faOwn p a e).getD fld0).msg], a.inText, a.isText, a.utf, a.ended⟩
  else a
theorem valCode_some {p : Pln} {a : Fa} {e : Ev} {f : Fld} (h : faOwn p a e = some f) : valCode p a e = if (e.kind = 2 ∧ numeric f.kind = false) ∨ (e.kind = 3 ∧ isBytes f.kind = false) ∨ (e.kind = 6 ∧ f.kind ≠ 8) then 2 else if e.kind = 2 ∧ bitsFit f.kind e.bits = false then 4 else if e.kind = 6 ∧ p.deep ≤ (a.stack.length : Int) then 6 else 0 := by
  unfold valCode; rw [h]
theorem valCode_none {p : Pln} {a : Fa} {e : Ev} (h : faOwn p a e = none) : valCode p a e = 3 := by
  unfold valCode; rw [h]
theorem valStep_some {p : Pln} {a : Fa} {e : Ev} {f : Fld} (h : faOwn p a e = some f) : valStep p a e = if valCode p a e ≠ 0 then a else if e.kind = 3 then ⟨a.stack, true, decide (f.kind = 6), utf0, a.ended⟩ else if e.kind = 6 then ⟨a.stack ++ [f.msg], a.inText, a.isText, a.utf, a.ended⟩ else a := by
  unfold valStep; rw [h]; rfl
theorem valStep_none {p : Pln} {a : Fa} {e : Ev} (h : faOwn p a e = none) : valStep p a e = a := by
  unfold valStep; rw [if_pos (by rw [valCode_none h]; decide)]
def partCode (a : Fa) (e : Ev) : Int :=
  if e.kind = 4 then (if a.isText = true ∧ 0 ≤ utfBad a.utf e.text then 5 else 0)
  else if e.kind = 5 then (if a.isText = true ∧ a.utf ≠ utf0 then 5 else 0)
  else 2
def partStep (a : Fa) (e : Ev) : Fa :=
  if partCode a e ≠ 0 then a
  else if e.kind = 4 then (if a.isText = true then ⟨a.stack, a.inText, a.isText, utfSt a.utf e.text, a.ended⟩ else a)
  else ⟨a.stack, false, a.isText, a.utf, a.ended⟩
def faCode (p : Pln) (a : Fa) (e : Ev) : Int :=
  if a.ended = true then 2
  else if a.inText = true then partCode a e
  else if hasField e.kind = true then valCode p a e
  else if e.kind = 7 ∧ 1 < a.stack.length then 0
  else if e.kind = 8 ∧ a.stack.length = 1 then 0
  else 2
def faStep (p : Pln) (a : Fa) (e : Ev) : Fa :=
  if a.ended = true then a
  else if a.inText = true then partStep a e
  else if hasField e.kind = true then valStep p a e
  else if e.kind = 7 ∧ 1 < a.stack.length then ⟨a.stack.take (a.stack.length - 1), a.inText, a.isText, a.utf, a.ended⟩
  else if e.kind = 8 ∧ a.stack.length = 1 then ⟨a.stack, a.inText, a.isText, a.utf, true⟩
  else a
def faRun (p : Pln) : Fa → List Ev → Int → Int × Int
  | a, [], i => if a.ended = true then (0, 0) else (7, i)
  | a, e :: r, i => if faCode p a e ≠ 0 then (faCode p a e, i) else faRun p (faStep p a e) r (i + 1)
def fa0 (p : Pln) : Fa := ⟨[p.root], false, false, utf0, false⟩
def frameCode (p : Pln) (l : List Ev) : Int × Int := match l with
  | [] => (1, 0)
  | e :: r => if planOk p = true ∧ e.kind = 1 then faRun p (fa0 p) r 1 else (1, 0)
def absS (r : Fs) : Fa := ⟨r.stack, r.open_, decide (r.field.kind = 6), r.utf, r.ended⟩
theorem utfFirst_ok {b : Int} {u : Utf} (h : utfFirst b = some u) : utfOk u = true := by
  unfold utfFirst at h
  repeat' split at h
  all_goals first | (cases h; done) | (cases h; first | decide | (exfalso; omega) | (simp only [utfOk, utfIs]; simp_all; done) | (simp only [utfOk, utfIs]; simp_all; omega))
theorem utfByte_ok {u v : Utf} {b : Int} (h : utfByte u b = some v) : utfOk v = true := by
  unfold utfByte at h
  split at h
  · rename_i hu
    have hw := utfOk_want hu
    split at h
    · exact utfFirst_ok h
    · split at h
      · split at h
        · cases h; decide
        · cases h
          rcases utfOk_t hu with h | h | h | h | h | h | h | h <;> simp_all [utfOk, utfIs]
      · cases h
  · cases h
theorem utfRun_ok : ∀ {u : Utf} {s : List UInt8} {i : Nat}, utfOk u = true → utfOk (utfRun u s i).1 = true
  | u, [], i, h => h
  | u, b :: r, i, h => by
    unfold utfRun
    split
    · rename_i v hv; exact utfRun_ok (utfByte_ok hv)
    · exact h
theorem utfSt_ok {u : Utf} {s : List UInt8} (h : utfOk u = true) : utfOk (utfSt u s) = true := utfRun_ok h
def fsPart (r : Fs) (e : Ev) : Fs := ⟨r.stack, r.field, (partStep (absS r) e).inText, (partStep (absS r) e).utf, r.ended⟩
def fsVal (p : Pln) (r : Fs) (e : Ev) : Fs := ⟨(valStep p (absS r) e).stack, if valCode p (absS r) e = 0 ∧ e.kind = 3 then (faOwn p (absS r) e).getD fld0 else r.field, (valStep p (absS r) e).inText, (valStep p (absS r) e).utf, r.ended⟩
def fsStep (p : Pln) (r : Fs) (e : Ev) : Fs :=
  if r.ended = true then r
  else if r.open_ = true then fsPart r e
  else if hasField e.kind = true then fsVal p r e
  else if e.kind = 7 ∧ 1 < r.stack.length then ⟨r.stack.take (r.stack.length - 1), r.field, r.open_, r.utf, r.ended⟩
  else if e.kind = 8 ∧ r.stack.length = 1 then ⟨r.stack, r.field, r.open_, r.utf, true⟩
  else r
theorem absS_part (r : Fs) (e : Ev) : absS (fsPart r e) = partStep (absS r) e := by
  unfold fsPart partStep; repeat' split
  all_goals (simp_all [absS])
theorem absS_val (p : Pln) (r : Fs) (e : Ev) : absS (fsVal p r e) = valStep p (absS r) e := by
  unfold fsVal valStep; repeat' split
  all_goals (simp_all [absS])
theorem absS_step (p : Pln) (r : Fs) (e : Ev) : absS (fsStep p r e) = faStep p (absS r) e := by
  unfold fsStep faStep
  have h1 : (absS r).ended = r.ended := rfl
  have h2 : (absS r).inText = r.open_ := rfl
  have h3 : (absS r).stack = r.stack := rfl
  rw [h1, h2, h3]
  split
  · rfl
  split
  · exact absS_part r e
  split
  · exact absS_val p r e
  split
  · rfl
  split <;> rfl
theorem partStep_stack (a : Fa) (e : Ev) : (partStep a e).stack = a.stack := by
  unfold partStep; repeat' split
  all_goals rfl
theorem faStep_stack {p : Pln} {a : Fa} (e : Ev) (h1 : 1 ≤ a.stack.length) (h2 : a.stack.length ≤ 8) (hd : p.deep ≤ 8) : 1 ≤ (faStep p a e).stack.length ∧ (faStep p a e).stack.length ≤ 8 := by
  unfold faStep
  split
  · exact ⟨h1, h2⟩
  split
  · rw [partStep_stack]; exact ⟨h1, h2⟩
  split
  · unfold valStep
    split
    · exact ⟨h1, h2⟩
    · rename_i hv
      split
      · exact ⟨h1, h2⟩
      split
      · rename_i h6
        have hv : valCode p a e = 0 := by simpa using hv
        have : (a.stack.length : Int) < p.deep := by
          unfold valCode at hv
          split at hv
          · omega
          · split at hv
            · omega
            split at hv
            · omega
            split at hv
            · omega
            · rename_i hh; omega
        simp; omega
      · exact ⟨h1, h2⟩
  split
  · rename_i hh; simp; omega
  split <;> exact ⟨h1, h2⟩
theorem faStep_utf {p : Pln} {a : Fa} {e : Ev} (h : utfOk a.utf = true) : utfOk (faStep p a e).utf = true := by
  unfold faStep partStep valStep
  repeat' split
  all_goals first | exact h | exact utfSt_ok h | (show utfOk utf0 = true; decide)
theorem fsStep_stack (p : Pln) (r : Fs) (e : Ev) : (fsStep p r e).stack = (faStep p (absS r) e).stack := by rw [← absS_step]; rfl
theorem fsStep_utf (p : Pln) (r : Fs) (e : Ev) : (fsStep p r e).utf = (faStep p (absS r) e).utf := by rw [← absS_step]; rfl
def EvB (e : Ev) : Prop := List.length e.text ≤ bigN ∧ (0 : Int) ≤ e.bits ∧ e.bits ≤ 18446744073709551615
theorem frameCode_cons {p : Pln} {l : List Ev} {e : Ev} (h0 : l[0]? = some e) (hp : planOk p = true) (hk : e.kind = 1) : frameCode p l = faRun p (fa0 p) (l.drop 1) 1 := by
  cases l with
  | nil => simp at h0
  | cons a r => simp at h0; subst h0; simp [frameCode, hp, hk]
theorem frameCode_bad {p : Pln} {l : List Ev} {e : Ev} (h0 : l[0]? = some e) (hp : ¬ (planOk p = true ∧ e.kind = 1)) : frameCode p l = (1, 0) := by
  cases l with
  | nil => rfl
  | cons a r => simp at h0; subst h0; simp only [frameCode]; rw [if_neg hp]
theorem frameCode_plan {p : Pln} {l : List Ev} (hp : planOk p = false) : frameCode p l = (1, 0) := by
  cases l with
  | nil => rfl
  | cons a r => simp [frameCode, hp]
theorem faRun_cons {p : Pln} {a : Fa} {e : Ev} {r : List Ev} {i : Int} : faRun p a (e :: r) i = if faCode p a e ≠ 0 then (faCode p a e, i) else faRun p (faStep p a e) r (i + 1) := rfl
theorem faRun_nil {p : Pln} {a : Fa} {i : Int} : faRun p a [] i = if a.ended = true then (0, 0) else (7, i) := rfl
def cEv (x : Ev) : List C := [.int .i64 x.kind, .int .i64 x.field, .int .u64 x.bits, .int .i64 x.len, .str x.text, .int .i64 x.code, .int .i64 x.at_]
def cFld (x : Fld) : List C := [.int .i64 x.number, .int .i64 x.kind, .bool x.rep, .bool x.packed, .int .i64 x.msg]
def cShp (x : Shp) : List C := [.int .i64 x.id, .seq .fld x.fields]
def cLev (x : Lev) : List C := [.int .i64 x.msg, .int .i64 x.left]
def cScn (x : Scn) : List C := [.int .u64 x.bits, .int .i64 x.have_]
def cUtf (x : Utf) : List C := [.int .i64 x.want, .int .i64 x.low, .int .i64 x.high]
def cPln (x : Pln) : List C := [.seq .shp x.shapes, .int .i64 x.root, .int .i64 x.deep, .int .i64 x.most]
def cDcd (x : Dcd) : List C := [.seq .shp x.plan.shapes, .int .i64 x.plan.root, .int .i64 x.plan.deep, .int .i64 x.plan.most, .int .i64 x.mode, .seq .lev x.stack, .int .u64 x.scan.bits, .int .i64 x.scan.have_, .int .i64 x.start, .int .i64 x.at_, .int .i64 x.field.number, .int .i64 x.field.kind, .bool x.field.rep, .bool x.field.packed, .int .i64 x.field.msg, .int .i64 x.wire, .int .i64 x.want, .int .i64 x.utf.want, .int .i64 x.utf.low, .int .i64 x.utf.high, .int .i64 x.end_.kind, .int .i64 x.end_.field, .int .u64 x.end_.bits, .int .i64 x.end_.len, .str x.end_.text, .int .i64 x.end_.code, .int .i64 x.end_.at_]
def oDcd0_5 (j0 : Nat) (j5 : Nat) (x : Dcd) : List C := [.own j0, .int .i64 x.plan.root, .int .i64 x.plan.deep, .int .i64 x.plan.most, .int .i64 x.mode, .own j5, .int .u64 x.scan.bits, .int .i64 x.scan.have_, .int .i64 x.start, .int .i64 x.at_, .int .i64 x.field.number, .int .i64 x.field.kind, .bool x.field.rep, .bool x.field.packed, .int .i64 x.field.msg, .int .i64 x.wire, .int .i64 x.want, .int .i64 x.utf.want, .int .i64 x.utf.low, .int .i64 x.utf.high, .int .i64 x.end_.kind, .int .i64 x.end_.field, .int .u64 x.end_.bits, .int .i64 x.end_.len, .str x.end_.text, .int .i64 x.end_.code, .int .i64 x.end_.at_]
def oFmr4 (j4 : Nat) (x : Fmr) : List C := [.seq .shp x.plan.shapes, .int .i64 x.plan.root, .int .i64 x.plan.deep, .int .i64 x.plan.most, .own j4, .bool x.st.inText, .bool x.st.isText, .int .i64 x.st.utf.want, .int .i64 x.st.utf.low, .int .i64 x.st.utf.high, .bool x.st.ended]
def oFs0 (j0 : Nat) (x : Fs) : List C := [.own j0, .int .i64 x.field.number, .int .i64 x.field.kind, .bool x.field.rep, .bool x.field.packed, .int .i64 x.field.msg, .bool x.open_, .int .i64 x.utf.want, .int .i64 x.utf.low, .int .i64 x.utf.high, .bool x.ended]
def oPln0 (j0 : Nat) (x : Pln) : List C := [.own j0, .int .i64 x.root, .int .i64 x.deep, .int .i64 x.most]
structure Sz where
  plan : Pln
  list : List Ev
  at_ : Int
  sizes : List Int
def putNum (f : Fld) (u : Int) : List UInt8 := if 0 < widthOf (wireOf f.kind) then putFix u (widthOf (wireOf f.kind)) else putVar u
def tagP (n w : Int) : List UInt8 := putVar (tagOf n w)
def isRun (f : Fld) (e : Ev) : Bool := decide (e.kind = 2) && decide (e.field = f.number)
def runL (f : Fld) : List Ev → Nat
  | [] => 0
  | e :: r => if isRun f e then runL f r + 1 else 0
def numsN (f : Fld) (l : List Ev) : Nat := 1 + if f.packed then runL f (l.drop 1) else 0
def valsM (f : Fld) (l : List Ev) : List UInt8 := l.flatMap fun e => putNum f e.bits
def textM (l : List Ev) : List UInt8 := l.flatMap fun e => e.text
def numsM (f : Fld) (l : List Ev) : List UInt8 := if f.packed then tagP f.number 2 ++ frameOf (valsM f (l.take (numsN f l))) else tagP f.number (wireOf f.kind) ++ valsM f (l.take (numsN f l))
def dl (c k : Int) : Int := if k = 6 ∨ k = 3 then 1 else if k = 7 ∨ k = 5 then -1 else if k = 8 then c else 0
def upL (c : Int) : Int → List Ev → Nat
  | _, [] => 0
  | n, e :: r => if n + dl c e.kind = 0 then 0 else upL c (n + dl c e.kind) r + 1
def fOf (p : Pln) (sh : Int) (e : Ev) : Fld := (fieldAt p.shapes sh e.field).getD fld0
def mT (p : Pln) (sh : Int) : List Ev → List UInt8
  | [] => []
  | e :: r =>
    if e.kind = 2 then numsM (fOf p sh e) (e :: r) ++ mT p sh (r.drop (numsN (fOf p sh e) (e :: r) - 1))
    else if e.kind = 3 then tagP (fOf p sh e).number 2 ++ frameOf (textM (r.take (upL 0 1 r))) ++ mT p sh (r.drop (upL 0 1 r + 1))
    else if e.kind = 6 then tagP (fOf p sh e).number 2 ++ frameOf (mT p (fOf p sh e).msg (r.take (upL 0 1 r))) ++ mT p sh (r.drop (upL 0 1 r + 1))
    else []
termination_by l => l.length
decreasing_by all_goals (simp only [List.length_drop, List.length_take, List.length_cons]; omega)
def sT (p : Pln) (sh : Int) : List Ev → List Int
  | [] => []
  | e :: r =>
    if e.kind = 2 then (if (fOf p sh e).packed then ((valsM (fOf p sh e) ((e :: r).take (numsN (fOf p sh e) (e :: r)))).length : Int) else -1) :: (List.replicate (numsN (fOf p sh e) (e :: r) - 1) (-1) ++ sT p sh (r.drop (numsN (fOf p sh e) (e :: r) - 1)))
    else if e.kind = 3 then ((textM (r.take (upL 0 1 r))).length : Int) :: (List.replicate (upL 0 1 r + 1) (-1) ++ sT p sh (r.drop (upL 0 1 r + 1)))
    else if e.kind = 6 then ((mT p (fOf p sh e).msg (r.take (upL 0 1 r))).length : Int) :: (sT p (fOf p sh e).msg (r.take (upL 0 1 r)) ++ (-1) :: sT p sh (r.drop (upL 0 1 r + 1)))
    else []
termination_by l => l.length
decreasing_by all_goals (simp only [List.length_drop, List.length_take, List.length_cons]; omega)
inductive Bd (p : Pln) : Int → List Ev → Prop
  | nil (sh : Int) : Bd p sh []
  | num {sh : Int} {e : Ev} {l : List Ev} {f : Fld} : e.kind = 2 → fieldAt p.shapes sh e.field = some f → Bd p sh l → Bd p sh (e :: l)
  | text {sh : Int} {e s : Ev} {ps l : List Ev} {f : Fld} : e.kind = 3 → fieldAt p.shapes sh e.field = some f → (∀ x ∈ ps, x.kind = 4) → s.kind = 5 → Bd p sh l → Bd p sh (e :: (ps ++ s :: l))
  | down {sh : Int} {e u : Ev} {b l : List Ev} {f : Fld} : e.kind = 6 → fieldAt p.shapes sh e.field = some f → Bd p f.msg b → u.kind = 7 → Bd p sh l → Bd p sh (e :: (b ++ u :: l))
theorem fOf_some {p : Pln} {sh : Int} {e : Ev} {f : Fld} (h : fieldAt p.shapes sh e.field = some f) : fOf p sh e = f := by rw [fOf, h]; rfl
theorem fieldAt_num {l : List Shp} {s n : Int} {f : Fld} (h : fieldAt l s n = some f) : f.number = n := by
  unfold fieldAt at h
  split at h
  · have hp := List.find?_some h; simpa using hp
  · cases h
theorem upL_parts {c : Int} : ∀ {n : Int} {ps t : List Ev}, 1 ≤ n → (∀ x ∈ ps, x.kind = 4) → upL c n (ps ++ t) = ps.length + upL c n t
  | n, [], t, _, _ => by simp
  | n, x :: ps, t, hn, h => by
    have hx : dl c x.kind = 0 := by rw [h x (List.mem_cons_self ..)]; rfl
    rw [List.cons_append, upL, hx, Int.add_zero, if_neg (by omega), upL_parts hn (fun y hy => h y (List.mem_cons_of_mem _ hy))]
    simp only [List.length_cons]; omega
theorem upL_up {c n : Int} {s : Ev} {t : List Ev} (hn : 1 ≤ n) (h : s.kind = 7 ∨ s.kind = 5) : upL c (n + 1) (s :: t) = upL c n t + 1 := by
  have hx : dl c s.kind = -1 := by rcases h with h | h <;> rw [h] <;> rfl
  rw [upL, hx, show n + 1 + -1 = n by omega, if_neg (by omega)]
theorem upL_here {c : Int} {s : Ev} {t : List Ev} (h : s.kind = 7 ∨ s.kind = 5) : upL c 1 (s :: t) = 0 := by
  have hx : dl c s.kind = -1 := by rcases h with h | h <;> rw [h] <;> rfl
  rw [upL, hx, if_pos (by omega)]
theorem upL_down {c n : Int} {e : Ev} {t : List Ev} (hn : 0 ≤ n) (h : e.kind = 6 ∨ e.kind = 3) : upL c n (e :: t) = upL c (n + 1) t + 1 := by
  have hx : dl c e.kind = 1 := by rcases h with h | h <;> rw [h] <;> rfl
  rw [upL, hx, if_neg (by omega)]
theorem upL_num {c n : Int} {e : Ev} {t : List Ev} (hn : 1 ≤ n) (h : e.kind = 2) : upL c n (e :: t) = upL c n t + 1 := by
  have hx : dl c e.kind = 0 := by rw [h]; rfl
  rw [upL, hx, Int.add_zero, if_neg (by omega)]
theorem upL_bd {p : Pln} {c : Int} {sh : Int} {b : List Ev} (h : Bd p sh b) : ∀ {n : Int} {t : List Ev}, 1 ≤ n → upL c n (b ++ t) = b.length + upL c n t := by
  induction h with
  | nil => intro n t _; simp
  | num hk _ _ ih => intro n t hn; rw [List.cons_append, upL_num hn hk, ih hn]; simp only [List.length_cons]; omega
  | text hk _ hp hs _ ih =>
    intro n t hn
    rw [List.cons_append, upL_down (by omega) (.inr hk), List.append_assoc, upL_parts (by omega) hp, List.cons_append, upL_up hn (.inr hs), ih hn]
    simp only [List.length_cons, List.length_append]; omega
  | down hk _ _ hu _ ih1 ih2 =>
    intro n t hn
    rw [List.cons_append, upL_down (by omega) (.inl hk), List.append_assoc, ih1 (by omega), List.cons_append, upL_up hn (.inl hu), ih2 hn]
    simp only [List.length_cons, List.length_append]; omega
theorem numsN_pos (f : Fld) (l : List Ev) : 1 ≤ numsN f l := by unfold numsN; omega
theorem runL_le (f : Fld) : ∀ l : List Ev, runL f l ≤ l.length
  | [] => Nat.le_refl _
  | e :: r => by unfold runL; have := runL_le f r; split <;> simp only [List.length_cons] <;> omega
theorem numsN_le (f : Fld) {l : List Ev} (h : 1 ≤ l.length) : numsN f l ≤ l.length := by
  have := runL_le f (l.drop 1); rw [List.length_drop] at this
  unfold numsN; split <;> omega
theorem runL_app {f : Fld} {u : Ev} {t : List Ev} (hu : u.kind ≠ 2) : ∀ l : List Ev, runL f (l ++ u :: t) = runL f l
  | [] => by simp [runL, isRun, hu]
  | e :: r => by rw [List.cons_append, runL, runL, runL_app hu r]
theorem bd_num {p : Pln} {sh : Int} {e : Ev} {l : List Ev} (h : Bd p sh (e :: l)) (hk : e.kind = 2) : Bd p sh l ∧ ∃ f, fieldAt p.shapes sh e.field = some f := by
  cases h with
  | num _ hf hl => exact ⟨hl, _, hf⟩
  | text h3 => omega
  | down h6 => omega
theorem bd_run {p : Pln} {sh : Int} {f : Fld} : ∀ {l : List Ev}, Bd p sh l → Bd p sh (l.drop (runL f l))
  | [], h => h
  | e :: r, h => by
    unfold runL
    split
    · rename_i hr
      have hk : e.kind = 2 := by simp only [isRun, Bool.and_eq_true, decide_eq_true_eq] at hr; exact hr.1
      rw [List.drop_succ_cons]; exact bd_run (bd_num h hk).1
    · exact h
theorem bd_nums {p : Pln} {sh : Int} {f : Fld} {e : Ev} {l : List Ev} (h : Bd p sh (e :: l)) (hk : e.kind = 2) : Bd p sh (l.drop (numsN f (e :: l) - 1)) := by
  have h1 := (bd_num h hk).1
  unfold numsN
  split
  · rw [show 1 + runL f ((e :: l).drop 1) - 1 = runL f l by simp]; exact bd_run h1
  · exact h1
theorem mT_num {p : Pln} {sh : Int} {e : Ev} {r : List Ev} (h : e.kind = 2) : mT p sh (e :: r) = numsM (fOf p sh e) (e :: r) ++ mT p sh (r.drop (numsN (fOf p sh e) (e :: r) - 1)) := by rw [mT, if_pos h]
theorem sT_num {p : Pln} {sh : Int} {e : Ev} {r : List Ev} (h : e.kind = 2) : sT p sh (e :: r) = (if (fOf p sh e).packed then ((valsM (fOf p sh e) ((e :: r).take (numsN (fOf p sh e) (e :: r)))).length : Int) else -1) :: (List.replicate (numsN (fOf p sh e) (e :: r) - 1) (-1) ++ sT p sh (r.drop (numsN (fOf p sh e) (e :: r) - 1))) := by rw [sT, if_pos h]
theorem up_text {c : Int} {s : Ev} {ps t : List Ev} (hp : ∀ x ∈ ps, x.kind = 4) (hs : s.kind = 5) : upL c 1 (ps ++ s :: t) = ps.length := by rw [upL_parts (by omega) hp, upL_here (.inr hs)]; rfl
theorem up_bd {p : Pln} {c sh : Int} {u : Ev} {b t : List Ev} (hb : Bd p sh b) (hu : u.kind = 7) : upL c 1 (b ++ u :: t) = b.length := by rw [upL_bd hb (by omega), upL_here (.inl hu)]; rfl
theorem drop_mid {α : Type} {a : List α} {x : α} {b : List α} : (a ++ x :: b).drop (a.length + 1) = b := by
  rw [← List.drop_drop, List.drop_left]; rfl
theorem mT_text {p : Pln} {sh : Int} {e s : Ev} {ps t : List Ev} (h : e.kind = 3) (hp : ∀ x ∈ ps, x.kind = 4) (hs : s.kind = 5) : mT p sh (e :: (ps ++ s :: t)) = tagP (fOf p sh e).number 2 ++ frameOf (textM ps) ++ mT p sh t := by
  rw [mT, if_neg (by omega), if_pos h, up_text hp hs, List.take_left, drop_mid]
theorem sT_text {p : Pln} {sh : Int} {e s : Ev} {ps t : List Ev} (h : e.kind = 3) (hp : ∀ x ∈ ps, x.kind = 4) (hs : s.kind = 5) : sT p sh (e :: (ps ++ s :: t)) = ((textM ps).length : Int) :: (List.replicate (ps.length + 1) (-1) ++ sT p sh t) := by
  rw [sT, if_neg (by omega), if_pos h, up_text hp hs, List.take_left, drop_mid]
theorem mT_down {p : Pln} {sh : Int} {e u : Ev} {b t : List Ev} {s : Int} (h : e.kind = 6) (hb : Bd p s b) (hu : u.kind = 7) : mT p sh (e :: (b ++ u :: t)) = tagP (fOf p sh e).number 2 ++ frameOf (mT p (fOf p sh e).msg b) ++ mT p sh t := by
  rw [mT, if_neg (by omega), if_neg (by omega), if_pos h, up_bd hb hu, List.take_left, drop_mid]
theorem sT_down {p : Pln} {sh : Int} {e u : Ev} {b t : List Ev} {s : Int} (h : e.kind = 6) (hb : Bd p s b) (hu : u.kind = 7) : sT p sh (e :: (b ++ u :: t)) = ((mT p (fOf p sh e).msg b).length : Int) :: (sT p (fOf p sh e).msg b ++ (-1) :: sT p sh t) := by
  rw [sT, if_neg (by omega), if_neg (by omega), if_pos h, up_bd hb hu, List.take_left, drop_mid]
theorem mT_end {p : Pln} {sh : Int} {u : Ev} {t : List Ev} (h : u.kind = 7 ∨ u.kind = 8) : mT p sh (u :: t) = [] := by
  rw [mT, if_neg (by omega), if_neg (by omega), if_neg (by omega)]
theorem sT_end {p : Pln} {sh : Int} {u : Ev} {t : List Ev} (h : u.kind = 7 ∨ u.kind = 8) : sT p sh (u :: t) = [] := by
  rw [sT, if_neg (by omega), if_neg (by omega), if_neg (by omega)]
theorem numsN_app {f : Fld} {e u : Ev} {l t : List Ev} (hu : u.kind ≠ 2) : numsN f (e :: l ++ u :: t) = numsN f (e :: l) := by
  unfold numsN; simp only [List.cons_append, List.drop_succ_cons, List.drop_zero, runL_app hu]
theorem numsM_app {f : Fld} {e u : Ev} {l t : List Ev} (hu : u.kind ≠ 2) : numsM f (e :: l ++ u :: t) = numsM f (e :: l) := by
  unfold numsM
  rw [numsN_app hu, List.take_append_of_le_length (numsN_le f (by simp))]
theorem mT_tail {p : Pln} {u : Ev} {t : List Ev} (hu : u.kind = 7 ∨ u.kind = 8) : ∀ (k : Nat) {sh : Int} {b : List Ev}, b.length ≤ k → Bd p sh b → mT p sh (b ++ u :: t) = mT p sh b ∧ sT p sh (b ++ u :: t) = sT p sh b := by
  intro k
  induction k with
  | zero =>
    intro sh b hl _
    have : b = [] := List.eq_nil_of_length_eq_zero (by omega)
    subst this
    exact ⟨by rw [List.nil_append, mT_end hu]; rw [mT], by rw [List.nil_append, sT_end hu]; rw [sT]⟩
  | succ k ih =>
    intro sh b hl hb
    cases hb with
    | nil => exact ⟨by rw [List.nil_append, mT_end hu]; rw [mT], by rw [List.nil_append, sT_end hu]; rw [sT]⟩
    | @num _ e l f hk hf hl2 =>
      have hb : Bd p sh (e :: l) := .num hk hf hl2
      have h2 : u.kind ≠ 2 := by omega
      have hn := numsN_pos (fOf p sh e) (e :: l)
      have hm := numsN_le (fOf p sh e) (l := e :: l) (by simp)
      simp only [List.length_cons] at hm hl
      have hr := ih (sh := sh) (b := l.drop (numsN (fOf p sh e) (e :: l) - 1)) (by rw [List.length_drop]; omega) (bd_nums hb hk)
      have hd : (l ++ u :: t).drop (numsN (fOf p sh e) (e :: l) - 1) = l.drop (numsN (fOf p sh e) (e :: l) - 1) ++ u :: t := List.drop_append_of_le_length (by omega)
      have e1 := numsN_app (f := fOf p sh e) (e := e) (l := l) (t := t) h2
      have e2 := numsM_app (f := fOf p sh e) (e := e) (l := l) (t := t) h2
      have e3 : (e :: (l ++ u :: t)).take (numsN (fOf p sh e) (e :: l)) = (e :: l).take (numsN (fOf p sh e) (e :: l)) := List.take_append_of_le_length (l₁ := e :: l) (by simp only [List.length_cons]; omega)
      rw [List.cons_append] at e1 e2 ⊢
      rw [mT_num hk, mT_num hk, sT_num hk, sT_num hk, e1, e2, e3, hd, hr.1, hr.2]
      exact ⟨rfl, rfl⟩
    | @text _ e s ps l f hk hf hp hs hl2 =>
      simp only [List.length_cons, List.length_append] at hl
      have hr := ih (sh := sh) (b := l) (by omega) hl2
      rw [List.cons_append, List.append_assoc, List.cons_append, mT_text hk hp hs, mT_text hk hp hs, sT_text hk hp hs, sT_text hk hp hs, hr.1, hr.2]
      exact ⟨rfl, rfl⟩
    | @down _ e w b l f hk hf hb1 hw hl2 =>
      simp only [List.length_cons, List.length_append] at hl
      have hr := ih (sh := sh) (b := l) (by omega) hl2
      rw [List.cons_append, List.append_assoc, List.cons_append, mT_down hk hb1 hw, mT_down hk hb1 hw, sT_down hk hb1 hw, sT_down hk hb1 hw, hr.1, hr.2]
      exact ⟨rfl, rfl⟩
theorem sT_len {p : Pln} : ∀ (k : Nat) {sh : Int} {b : List Ev}, b.length ≤ k → Bd p sh b → (sT p sh b).length = b.length := by
  intro k
  induction k with
  | zero =>
    intro sh b hl _
    have : b = [] := List.eq_nil_of_length_eq_zero (by omega)
    subst this; rw [sT]; rfl
  | succ k ih =>
    intro sh b hl hb
    cases hb with
    | nil => rw [sT]; rfl
    | @num _ e l f hk hf hl2 =>
      have hb : Bd p sh (e :: l) := .num hk hf hl2
      have hn := numsN_pos (fOf p sh e) (e :: l)
      have hm := numsN_le (fOf p sh e) (l := e :: l) (by simp)
      simp only [List.length_cons] at hm hl
      have hr := ih (sh := sh) (b := l.drop (numsN (fOf p sh e) (e :: l) - 1)) (by rw [List.length_drop]; omega) (bd_nums hb hk)
      rw [sT_num hk]
      simp only [List.length_cons, List.length_append, List.length_replicate, hr, List.length_drop]; omega
    | @text _ e s ps l f hk hf hp hs hl2 =>
      simp only [List.length_cons, List.length_append] at hl
      have hr := ih (sh := sh) (b := l) (by omega) hl2
      rw [sT_text hk hp hs]
      simp only [List.length_cons, List.length_append, List.length_replicate, hr]; omega
    | @down _ e w b l f hk hf hb1 hw hl2 =>
      simp only [List.length_cons, List.length_append] at hl
      have hr := ih (sh := sh) (b := l) (by omega) hl2
      have hq := ih (b := b) (by omega) hb1
      rw [sT_down hk hb1 hw, fOf_some hf]
      simp only [List.length_cons, List.length_append, hq, hr]
def txtN : List Ev → Nat
  | [] => 0
  | e :: r => e.text.length + txtN r
theorem txtN_app : ∀ (a b : List Ev), txtN (a ++ b) = txtN a + txtN b
  | [], b => by simp [txtN]
  | e :: a, b => by rw [List.cons_append, txtN, txtN, txtN_app a b]; omega
theorem txtN_drop (l : List Ev) (k : Nat) : txtN (l.drop k) ≤ txtN l := by
  have := txtN_app (l.take k) (l.drop k); rw [List.take_append_drop] at this; omega
theorem txtN_take (l : List Ev) (k : Nat) : txtN (l.take k) ≤ txtN l := by
  have := txtN_app (l.take k) (l.drop k); rw [List.take_append_drop] at this; omega
theorem textM_len : ∀ l : List Ev, (textM l).length = txtN l
  | [] => rfl
  | e :: r => by
    have := textM_len r
    unfold textM at this ⊢
    rw [List.flatMap_cons, List.length_append, txtN, this]
theorem putNum_len {f : Fld} {u : Int} (h : u ≤ 18446744073709551615) : (putNum f u).length ≤ 10 := by
  unfold putNum; split
  · have := putFix_len (u := u) (w := widthOf (wireOf f.kind)); omega
  · exact putVar_len h
theorem valsM_len {f : Fld} : ∀ {l : List Ev}, (∀ e ∈ l, EvB e) → (valsM f l).length ≤ 10 * l.length
  | [], _ => Nat.le_refl _
  | e :: r, h => by
    have h1 := valsM_len (f := f) (l := r) fun x hx => h x (List.mem_cons_of_mem _ hx)
    have h2 := putNum_len (f := f) (h e (List.mem_cons_self ..)).2.2
    unfold valsM at h1 ⊢
    rw [List.flatMap_cons, List.length_append, List.length_cons]; omega
theorem tagP_len (n w : Int) : (tagP n w).length ≤ 10 := putVar_len (by have := tagOf_b n w; omega)
theorem frameOf_len {b : List UInt8} (h : b.length ≤ 18446744073709551615) : (frameOf b).length ≤ 10 + b.length := by
  unfold frameOf; rw [List.length_append]; have := putVar_len (u := ((b.length : Nat) : Int)) (by omega); omega
theorem numsM_len {f : Fld} {l : List Ev} (hl : 1 ≤ l.length) (hb : l.length ≤ 1048576) (h : ∀ e ∈ l, EvB e) : (numsM f l).length ≤ 30 * numsN f l ∧ (valsM f (l.take (numsN f l))).length ≤ 10 * numsN f l := by
  have h0 := numsN_pos f l
  have h1 := numsN_le f hl
  have h2 := valsM_len (f := f) (l := l.take (numsN f l)) fun e he => h e (List.mem_of_mem_take he)
  rw [List.length_take] at h2
  refine ⟨?_, by omega⟩
  unfold numsM; split <;> rw [List.length_append]
  · have := tagP_len f.number 2
    have := frameOf_len (b := valsM f (l.take (numsN f l))) (by omega)
    omega
  · have := tagP_len f.number (wireOf f.kind); omega
def EvsB (l : List Ev) : Prop := l.length ≤ 1048576 ∧ txtN l ≤ 1048576 ∧ ∀ e ∈ l, EvB e
theorem EvsB.drop {l : List Ev} (h : EvsB l) (k : Nat) : EvsB (l.drop k) := ⟨by have := h.1; rw [List.length_drop]; omega, Nat.le_trans (txtN_drop l k) h.2.1, fun e he => h.2.2 e (List.mem_of_mem_drop he)⟩
theorem EvsB.take {l : List Ev} (h : EvsB l) (k : Nat) : EvsB (l.take k) := ⟨by have := h.1; rw [List.length_take]; omega, Nat.le_trans (txtN_take l k) h.2.1, fun e he => h.2.2 e (List.mem_of_mem_take he)⟩
theorem EvsB.right {a b : List Ev} (h : EvsB (a ++ b)) : EvsB b := by have := h.drop a.length; rwa [List.drop_left] at this
theorem EvsB.left {a b : List Ev} (h : EvsB (a ++ b)) : EvsB a := by have := h.take a.length; rwa [List.take_left] at this
theorem EvsB.cons {e : Ev} {b : List Ev} (h : EvsB (e :: b)) : EvsB b := h.drop 1
theorem mT_len {p : Pln} : ∀ (k : Nat) {sh : Int} {b : List Ev}, b.length ≤ k → Bd p sh b → EvsB b → (mT p sh b).length ≤ 30 * b.length + txtN b := by
  intro k
  induction k with
  | zero =>
    intro sh b hl _ _
    have : b = [] := List.eq_nil_of_length_eq_zero (by omega)
    subst this; rw [mT]; simp
  | succ k ih =>
    intro sh b hl hb hv
    cases hb with
    | nil => rw [mT]; simp
    | @num _ e l f hk hf hl2 =>
      have hb : Bd p sh (e :: l) := .num hk hf hl2
      have hn := numsN_pos (fOf p sh e) (e :: l)
      have hm := numsN_le (fOf p sh e) (l := e :: l) (by simp)
      have hx := (numsM_len (f := fOf p sh e) (l := e :: l) (by simp) hv.1 hv.2.2).1
      simp only [List.length_cons] at hm hl
      have hr := ih (sh := sh) (b := l.drop (numsN (fOf p sh e) (e :: l) - 1)) (by rw [List.length_drop]; omega) (bd_nums hb hk) (hv.cons.drop _)
      have ht := txtN_drop l (numsN (fOf p sh e) (e :: l) - 1)
      rw [List.length_drop] at hr
      rw [mT_num hk, List.length_append, List.length_cons, txtN]; omega
    | @text _ e s ps l f hk hf hp hs hl2 =>
      have hv2 := hv.cons
      have hr := ih (sh := sh) (b := l) (by simp only [List.length_cons, List.length_append] at hl; omega) hl2 hv2.right.cons
      have := tagP_len (fOf p sh e).number 2
      have hw := hv2.2.1
      rw [txtN_app] at hw
      have h3 := textM_len ps
      have := frameOf_len (b := textM ps) (by omega)
      rw [mT_text hk hp hs]
      simp only [List.length_cons, List.length_append, txtN, txtN_app]; omega
    | @down _ e w b l f hk hf hb1 hw hl2 =>
      have hv2 := hv.cons
      simp only [List.length_cons, List.length_append] at hl
      have hr := ih (sh := sh) (b := l) (by omega) hl2 hv2.right.cons
      have hq := ih (b := b) (by omega) hb1 hv2.left
      have := tagP_len (fOf p sh e).number 2
      have h5 := hv2.left.1
      have h6 := hv2.left.2.1
      have := frameOf_len (b := mT p f.msg b) (by omega)
      rw [mT_down hk hb1 hw, fOf_some hf]
      rw [fOf_some hf] at *
      simp only [List.length_cons, List.length_append, txtN, txtN_app]; omega
/-! ### Frames without errors -/
theorem faRun_text {p : Pln} : ∀ {r : List Ev} {a : Fa} {i : Int}, a.inText = true → a.ended = false → (faRun p a r i).1 = 0 → ∃ ps s r2 a2 i2, r = ps ++ s :: r2 ∧ (∀ x ∈ ps, x.kind = 4) ∧ s.kind = 5 ∧ (faRun p a2 r2 i2).1 = 0 ∧ a2.stack = a.stack ∧ a2.inText = false ∧ a2.ended = false
  | [], a, i, ht, he, h => by rw [faRun_nil, if_neg (by simp [he])] at h; exact absurd h (by simp)
  | e :: r, a, i, ht, he, h => by
    rw [faRun_cons] at h
    split at h
    · rename_i hc; exact absurd h hc
    · rename_i hc
      have hc : faCode p a e = 0 := by simpa using hc
      have hp : partCode a e = 0 := by unfold faCode at hc; rwa [if_neg (by simp [he]), if_pos ht] at hc
      have hs : faStep p a e = partStep a e := by unfold faStep; rw [if_neg (by simp [he]), if_pos ht]
      rw [hs] at h
      have h45 : e.kind = 4 ∨ e.kind = 5 := by
        unfold partCode at hp
        split at hp
        · exact .inl (by assumption)
        · split at hp
          · exact .inr (by assumption)
          · exact absurd hp (by decide)
      rcases h45 with h4 | h5
      · have hst : (partStep a e).inText = true ∧ (partStep a e).ended = false ∧ (partStep a e).stack = a.stack := by
          unfold partStep; rw [if_neg (by simp [hp]), if_pos h4]; split <;> exact ⟨ht, he, rfl⟩
        obtain ⟨ps, s, r2, a2, i2, h1, h2, h3, h4', h5, h6, h7⟩ := faRun_text hst.1 hst.2.1 h
        exact ⟨e :: ps, s, r2, a2, i2, by rw [h1]; rfl, fun x hx => by
          rcases List.mem_cons.1 hx with rfl | hx
          · exact h4
          · exact h2 x hx, h3, h4', by rw [h5, hst.2.2], h6, h7⟩
      · refine ⟨[], e, r, _, _, rfl, (fun x hx => by cases hx), h5, h, ?_⟩
        unfold partStep; rw [if_neg (by simp [hp]), if_neg (by omega)]; exact ⟨rfl, rfl, he⟩
theorem lastD_snoc {st : List Int} {sh : Int} : lastD (st ++ [sh]) = sh := by unfold lastD; simp
theorem faRun_bd {p : Pln} : ∀ (k : Nat) {r : List Ev} {a : Fa} {i : Int} {st : List Int} {sh : Int}, r.length ≤ k → a.inText = false → a.ended = false → a.stack = st ++ [sh] → (faRun p a r i).1 = 0 →
    ∃ b u r2, r = b ++ u :: r2 ∧ Bd p sh b ∧ ((st = [] ∧ u.kind = 8 ∧ r2 = []) ∨ (st ≠ [] ∧ u.kind = 7 ∧ ∃ a2 i2, (faRun p a2 r2 i2).1 = 0 ∧ a2.stack = st ∧ a2.inText = false ∧ a2.ended = false)) := by
  intro k
  induction k with
  | zero =>
    intro r a i st sh hl ht he hs h
    have : r = [] := List.eq_nil_of_length_eq_zero (by omega)
    subst this
    rw [faRun_nil, if_neg (by simp [he])] at h; exact absurd h (by simp)
  | succ k ih =>
    intro r a i st sh hl ht he hs h
    cases r with
    | nil => rw [faRun_nil, if_neg (by simp [he])] at h; exact absurd h (by simp)
    | cons e r =>
      simp only [List.length_cons] at hl
      rw [faRun_cons] at h
      split at h
      · rename_i hc; exact absurd h hc
      rename_i hc
      have hc : faCode p a e = 0 := by simpa using hc
      unfold faCode at hc
      rw [if_neg (by simp [he]), if_neg (by simp [ht])] at hc
      have hst : faStep p a e = if hasField e.kind = true then valStep p a e else if e.kind = 7 ∧ 1 < a.stack.length then ⟨a.stack.take (a.stack.length - 1), a.inText, a.isText, a.utf, a.ended⟩ else if e.kind = 8 ∧ a.stack.length = 1 then ⟨a.stack, a.inText, a.isText, a.utf, true⟩ else a := by
        unfold faStep; rw [if_neg (by simp [he]), if_neg (by simp [ht])]
      rw [hst] at h
      split at hc
      · rename_i hf
        rw [if_pos hf] at h
        obtain ⟨f, ho⟩ : ∃ f, faOwn p a e = some f := by
          cases ho : faOwn p a e with
          | none => rw [valCode_none ho] at hc; exact absurd hc (by decide)
          | some f => exact ⟨f, rfl⟩
        have hfa : fieldAt p.shapes sh e.field = some f := by have := ho; unfold faOwn at this; rwa [hs, lastD_snoc] at this
        rw [valStep_some ho, if_neg (by simp [hc])] at h
        have hk : e.kind = 2 ∨ e.kind = 3 ∨ e.kind = 6 := by
          simp only [hasField, Bool.or_eq_true, decide_eq_true_eq] at hf; omega
        rcases hk with hk | hk | hk
        · rw [if_neg (by omega), if_neg (by omega)] at h
          obtain ⟨b, u, r2, h1, h2, h3⟩ := ih (by omega) ht he hs h
          exact ⟨e :: b, u, r2, by rw [h1]; rfl, .num hk hfa h2, h3⟩
        · rw [if_pos hk] at h
          obtain ⟨ps, s, r2, a2, i2, h1, h2, h3, h4, h5, h6, h7⟩ := faRun_text (a := ⟨a.stack, true, decide (f.kind = 6), utf0, a.ended⟩) rfl he h
          obtain ⟨b, u, r3, g1, g2, g3⟩ := ih (by have := congrArg List.length h1; simp only [List.length_append, List.length_cons] at this; omega) h6 h7 (by rw [h5]; exact hs) h4
          exact ⟨e :: (ps ++ s :: b), u, r3, by rw [h1, g1]; simp, .text hk hfa h2 h3 g2, g3⟩
        · rw [if_neg (by omega), if_pos hk] at h
          obtain ⟨b, u, r2, h1, h2, h3⟩ := ih (a := ⟨a.stack ++ [f.msg], a.inText, a.isText, a.utf, a.ended⟩) (st := a.stack) (sh := f.msg) (by omega) ht he rfl h
          rcases h3 with h3 | ⟨_, h3, a2, i2, h4, h5, h6, h7⟩
          · rw [hs] at h3; simp at h3
          · obtain ⟨c, v, r3, g1, g2, g3⟩ := ih (by have := congrArg List.length h1; simp only [List.length_append, List.length_cons] at this; omega) h6 h7 (by rw [h5]; exact hs) h4
            exact ⟨e :: (b ++ u :: c), v, r3, by rw [h1, g1]; simp, .down hk hfa h2 h3 g2, g3⟩
      · rename_i hf
        rw [if_neg hf] at h
        split at hc
        · rename_i h7
          rw [if_pos h7] at h
          exact ⟨[], e, r, rfl, .nil _, .inr ⟨fun h0 => by have := h7.2; rw [hs, h0] at this; simp at this, h7.1, _, _, h, by rw [hs]; simp, ht, he⟩⟩
        · rename_i h7
          rw [if_neg h7] at h
          split at hc
          · rename_i h8
            rw [if_pos h8] at h
            have hst : st = [] := by have := h8.2; rw [hs] at this; simpa using this
            cases r with
            | nil => exact ⟨[], e, [], rfl, .nil _, .inl ⟨hst, h8.1, rfl⟩⟩
            | cons x r => rw [faRun_cons, if_pos (by unfold faCode; rw [if_pos rfl]; decide)] at h; unfold faCode at h; rw [if_pos rfl] at h; exact absurd h (by simp)
          · exact absurd hc (by decide)
theorem frame_bd {p : Pln} {l : List Ev} (h : (frameCode p l).1 = 0) : planOk p = true ∧ ∃ e b u, l = e :: (b ++ [u]) ∧ Bd p p.root b ∧ u.kind = 8 := by
  cases l with
  | nil => exact absurd h (by simp [frameCode])
  | cons e r =>
    unfold frameCode at h
    simp only at h
    split at h
    · rename_i hp
      obtain ⟨b, u, r2, h1, h2, h3⟩ := faRun_bd r.length (st := []) (sh := p.root) (Nat.le_refl _) rfl rfl rfl h
      rcases h3 with ⟨_, h3, h4⟩ | ⟨h0, _⟩
      · subst h4; exact ⟨hp.1, e, b, u, by rw [h1], h2, h3⟩
      · exact absurd rfl h0
    · exact absurd h (by simp)
/-! ### The program's way -/
def BdT (p : Pln) (sh : Int) (l : List Ev) : Prop := ∃ b u t, l = b ++ u :: t ∧ Bd p sh b ∧ (u.kind = 7 ∨ u.kind = 8)
def tl (z : Sz) : List Ev := z.list.drop z.at_.toNat
def ptL : List Ev → Nat
  | [] => 0
  | e :: r => if e.kind = 4 then ptL r + 1 else 0
def numsZ (z : Sz) (f : Fld) : Sz := ⟨z.plan, z.list, z.at_ + (numsN f (tl z) : Int), if f.packed then z.sizes.set z.at_.toNat ((valsM f ((tl z).take (numsN f (tl z)))).length : Int) else z.sizes⟩
def txt (z : Sz) : List UInt8 := textM (((tl z).drop 1).take (ptL ((tl z).drop 1)))
def textZ (z : Sz) : Sz := ⟨z.plan, z.list, z.at_ + (ptL ((tl z).drop 1) : Int) + 2, z.sizes⟩
def msgZ (sh : Int) (z : Sz) : Sz := ⟨z.plan, z.list, z.at_ + (upL (-1) 1 (tl z) : Int) + 1, z.sizes.take z.at_.toNat ++ sT z.plan sh (tl z) ++ List.replicate (z.sizes.length - (z.at_.toNat + upL (-1) 1 (tl z))) (-1)⟩
theorem tl_at {z : Sz} {x : Ev} (h : z.list[z.at_.toNat]? = some x) : tl z = x :: z.list.drop (z.at_.toNat + 1) := drop_el h
theorem tl_len (z : Sz) : (tl z).length = z.list.length - z.at_.toNat := List.length_drop
theorem tl_next {p : Pln} {l : List Ev} {a : Int} {s : List Int} (h : 0 ≤ a) : tl ⟨p, l, a + 1, s⟩ = (l.drop a.toNat).drop 1 := by
  unfold tl; rw [List.drop_drop]; congr 1; show Int.toNat (a + 1) = _; omega
theorem tl_add {p : Pln} {l : List Ev} {a : Int} {s : List Int} {k : Nat} (h : 0 ≤ a) : tl ⟨p, l, a + (k : Int), s⟩ = (l.drop a.toNat).drop k := by
  unfold tl; rw [List.drop_drop]; congr 1; show Int.toNat (a + (k : Int)) = _; omega
theorem ptL_parts : ∀ {ps : List Ev} {s : Ev} {t : List Ev}, (∀ x ∈ ps, x.kind = 4) → s.kind = 5 → ptL (ps ++ s :: t) = ps.length
  | [], s, t, _, hs => by rw [List.nil_append, ptL, if_neg (by omega)]; rfl
  | x :: ps, s, t, h, hs => by
    rw [List.cons_append, ptL, if_pos (h x (List.mem_cons_self ..)), ptL_parts (fun y hy => h y (List.mem_cons_of_mem _ hy)) hs]; rfl
structure NInv (f : Fld) (z q : Sz) (o : List UInt8) : Prop where
  pl : q.plan = z.plan
  li : q.list = z.list
  sz : q.sizes = z.sizes
  lo : z.at_ ≤ q.at_
  room : runL f (tl q) < (tl q).length
  go : f.packed = true → q.at_ + (runL f (tl q) : Int) = z.at_ + (runL f (tl z) : Int) ∧ o ++ valsM f ((tl q).take (runL f (tl q))) = valsM f ((tl z).take (runL f (tl z)))
  one : f.packed = false → q = z ∧ o = []
theorem NInv.refl {f : Fld} {z : Sz} (h : runL f (tl z) < (tl z).length) : NInv f z z [] := ⟨rfl, rfl, rfl, Int.le_refl _, h, fun _ => ⟨rfl, rfl⟩, fun _ => ⟨rfl, rfl⟩⟩
theorem NInv.in_ {f : Fld} {z q : Sz} {o : List UInt8} (h : NInv f z q o) (h0 : 0 ≤ z.at_) : q.at_ + 1 ≤ (q.list.length : Int) := by
  have h1 := h.room; rw [tl_len] at h1; have := h.lo; omega
theorem isRun_of {f : Fld} {x : Ev} (hk : x.kind = 2) (hf : x.field = f.number) : isRun f x = true := by simp [isRun, hk, hf]
theorem NInv.next {f : Fld} {z q : Sz} {o b : List UInt8} {x : Ev} (h : NInv f z q o) (h0 : 0 ≤ z.at_) (hx : q.list[q.at_.toNat]? = some x) (hk : x.kind = 2) (hf : x.field = f.number) (hp : f.packed = true) (hb : b = putNum f x.bits) :
    NInv f z ⟨q.plan, q.list, q.at_ + 1, q.sizes⟩ (o ++ b) ∧ runL f (tl ⟨q.plan, q.list, q.at_ + 1, q.sizes⟩) < runL f (tl q) := by
  have hlo := h.lo
  have e2 : tl (⟨q.plan, q.list, q.at_ + 1, q.sizes⟩ : Sz) = q.list.drop (q.at_.toNat + 1) := by rw [tl_next (by omega), List.drop_drop]
  have e1 := tl_at hx
  have e3 : runL f (tl q) = runL f (q.list.drop (q.at_.toNat + 1)) + 1 := by rw [e1, runL, if_pos (isRun_of hk hf)]
  have hr := h.room
  rw [e1, List.length_cons] at hr
  rw [← e1, e3] at hr
  have hg := h.go hp
  refine ⟨⟨h.pl, h.li, h.sz, by show z.at_ ≤ q.at_ + 1; omega, by rw [e2]; omega, fun _ => ⟨?_, ?_⟩, fun hn => by rw [hp] at hn; cases hn⟩, by rw [e2, e3]; omega⟩
  · rw [e2, ← hg.1, e3]; show q.at_ + 1 + _ = _; omega
  · rw [e2, ← hg.2, e3, e1, List.take_succ_cons, hb]; unfold valsM; rw [List.flatMap_cons, List.append_assoc]
theorem NInv.stop {f : Fld} {z q : Sz} {o : List UInt8} {x : Ev} (h : NInv f z q o) (hx : q.list[q.at_.toNat]? = some x) (hn : ¬ (x.kind = 2 ∧ x.field = f.number)) (h1 : 1 ≤ runL f (tl z)) :
    f.packed = true ∧ o = valsM f ((tl z).take (numsN f (tl z))) ∧ q = ⟨z.plan, z.list, z.at_ + (numsN f (tl z) : Int), z.sizes⟩ := by
  have e0 : runL f (tl q) = 0 := by rw [tl_at hx, runL, if_neg (by simp only [isRun, Bool.and_eq_true, decide_eq_true_eq]; exact hn)]
  have hp : f.packed = true := by
    cases hp : f.packed with
    | true => rfl
    | false => have := (h.one hp).1; subst this; omega
  have hg := h.go hp
  have en : numsN f (tl z) = runL f (tl z) := by
    unfold numsN
    rw [if_pos hp]
    cases ht : tl z with
    | nil => rw [ht] at h1; exact absurd h1 (by simp [runL])
    | cons e r =>
      rw [ht] at h1
      rw [runL] at h1 ⊢
      split at h1
      · rename_i hr; rw [if_pos hr]; simp; omega
      · omega
  refine ⟨hp, ?_, ?_⟩
  · rw [en, ← hg.2, e0]; simp [valsM]
  · cases q
    have h2 := h.pl; have h3 := h.li; have h4 := h.sz; have h5 := hg.1
    rw [e0] at h5
    simp only at h2 h3 h4 h5
    subst h2; subst h3; subst h4
    rw [en, show _ = _ from h5.symm]; simp
theorem NInv.only {f : Fld} {z q : Sz} {o : List UInt8} {x : Ev} (h : NInv f z q o) (hp : f.packed = false) (hx : q.list[q.at_.toNat]? = some x) : q = z ∧ o = [] ∧ numsM f (tl z) = tagP f.number (wireOf f.kind) ++ putNum f x.bits ∧ numsN f (tl z) = 1 := by
  obtain ⟨h1, h2⟩ := h.one hp
  subst h1
  have en : numsN f (tl q) = 1 := by unfold numsN; rw [hp]; rfl
  refine ⟨rfl, h2, ?_, en⟩
  unfold numsM
  rw [hp, en, tl_at hx]; simp [valsM]
structure TInv (z q : Sz) (o : List UInt8) : Prop where
  pl : q.plan = z.plan
  li : q.list = z.list
  sz : q.sizes = z.sizes
  lo : z.at_ + 1 ≤ q.at_
  room : ptL (tl q) < (tl q).length
  at_ : q.at_ + (ptL (tl q) : Int) = z.at_ + 1 + (ptL ((tl z).drop 1) : Int)
  out : o ++ textM ((tl q).take (ptL (tl q))) = txt z
theorem TInv.refl {z : Sz} (h0 : 0 ≤ z.at_) (h : ptL ((tl z).drop 1) < ((tl z).drop 1).length) : TInv z ⟨z.plan, z.list, z.at_ + 1, z.sizes⟩ [] := by
  have e : tl (⟨z.plan, z.list, z.at_ + 1, z.sizes⟩ : Sz) = (tl z).drop 1 := tl_next h0
  exact ⟨rfl, rfl, rfl, Int.le_refl _, by rw [e]; exact h, by rw [e], by rw [e]; rfl⟩
theorem TInv.in_ {z q : Sz} {o : List UInt8} (h : TInv z q o) (h0 : 0 ≤ z.at_) : q.at_ + 1 ≤ (q.list.length : Int) := by
  have h1 := h.room; rw [tl_len] at h1; have := h.lo; omega
theorem TInv.next {z q : Sz} {o : List UInt8} {x : Ev} (h : TInv z q o) (h0 : 0 ≤ z.at_) (hx : q.list[q.at_.toNat]? = some x) (hk : x.kind = 4) :
    TInv z ⟨q.plan, q.list, q.at_ + 1, q.sizes⟩ (o ++ x.text) ∧ ptL (tl ⟨q.plan, q.list, q.at_ + 1, q.sizes⟩) < ptL (tl q) := by
  have hlo := h.lo
  have e2 : tl (⟨q.plan, q.list, q.at_ + 1, q.sizes⟩ : Sz) = q.list.drop (q.at_.toNat + 1) := by rw [tl_next (by omega), List.drop_drop]
  have e1 := tl_at hx
  have e3 : ptL (tl q) = ptL (q.list.drop (q.at_.toNat + 1)) + 1 := by rw [e1, ptL, if_pos hk]
  have hr := h.room
  rw [e1, List.length_cons] at hr
  rw [← e1, e3] at hr
  refine ⟨⟨h.pl, h.li, h.sz, by show z.at_ + 1 ≤ q.at_ + 1; omega, by rw [e2]; omega, ?_, ?_⟩, by rw [e2, e3]; omega⟩
  · have := h.at_; rw [e3] at this; rw [e2, ← this]; show q.at_ + 1 + _ = _; omega
  · rw [e2, ← h.out, e3, e1, List.take_succ_cons]; unfold textM; rw [List.flatMap_cons, List.append_assoc]
theorem TInv.stop {z q : Sz} {o : List UInt8} {x : Ev} (h : TInv z q o) (hx : q.list[q.at_.toNat]? = some x) (hn : x.kind ≠ 4) : o = txt z ∧ (⟨q.plan, q.list, q.at_ + 1, q.sizes⟩ : Sz) = textZ z := by
  have e0 : ptL (tl q) = 0 := by rw [tl_at hx, ptL, if_neg hn]
  refine ⟨?_, ?_⟩
  · rw [← h.out, e0]; simp [textM]
  · have h5 := h.at_
    rw [e0] at h5
    unfold textZ
    rw [h.pl, h.li, h.sz, show q.at_ + 1 = z.at_ + (ptL ((tl z).drop 1) : Int) + 2 by omega]
theorem txt_room {z q : Sz} {o : List UInt8} (h : TInv z q o) (hb : EvsB z.list) : o.length ≤ 1048576 := by
  have h1 := congrArg List.length h.out
  rw [List.length_append] at h1
  have h2 : (txt z).length ≤ txtN z.list := by
    unfold txt tl; rw [textM_len]
    exact Nat.le_trans (txtN_take _ _) (Nat.le_trans (txtN_drop _ _) (txtN_drop _ _))
  have := hb.2.1
  omega
theorem txt_len {z : Sz} (hb : EvsB z.list) : (txt z).length ≤ 1048576 := by
  unfold txt tl; rw [textM_len]
  exact Nat.le_trans (Nat.le_trans (txtN_take _ _) (Nat.le_trans (txtN_drop _ _) (txtN_drop _ _))) hb.2.1
theorem nums_room {f : Fld} {z q : Sz} {o : List UInt8} (h : NInv f z q o) (hb : EvsB z.list) : o.length ≤ 10485760 := by
  have hv : ∀ k, (valsM f ((tl z).take k)).length ≤ 10485760 := fun k => by
    have hh := (hb.drop z.at_.toNat).take k
    have := valsM_len (f := f) hh.2.2
    have := hh.1
    unfold tl; omega
  cases hp : f.packed with
  | true =>
    have h1 := congrArg List.length (h.go hp).2
    rw [List.length_append] at h1
    have := hv (runL f (tl z)); omega
  | false => rw [(h.one hp).2]; simp
theorem vals_room {f : Fld} {z : Sz} (hb : EvsB z.list) (k : Nat) : (valsM f ((tl z).take k)).length ≤ 10485760 := by
  have hh := (hb.drop z.at_.toNat).take k
  have := valsM_len (f := f) hh.2.2
  have := hh.1
  unfold tl; omega
theorem bdT_num {p : Pln} {sh : Int} {e : Ev} {r : List Ev} (h : BdT p sh (e :: r)) (hk : e.kind = 2) : ∃ f, fieldAt p.shapes sh e.field = some f ∧ fOf p sh e = f ∧ isRun f e = true ∧ 1 ≤ runL f (e :: r) ∧ runL f (e :: r) < (e :: r).length ∧ numsN f (e :: r) ≤ r.length ∧
    BdT p sh ((e :: r).drop (numsN f (e :: r))) ∧ mT p sh (e :: r) = numsM f (e :: r) ++ mT p sh ((e :: r).drop (numsN f (e :: r))) ∧ upL (-1) 1 (e :: r) = numsN f (e :: r) + upL (-1) 1 ((e :: r).drop (numsN f (e :: r))) ∧
    sT p sh (e :: r) = (if f.packed then ((valsM f ((e :: r).take (numsN f (e :: r)))).length : Int) else -1) :: (List.replicate (numsN f (e :: r) - 1) (-1) ++ sT p sh ((e :: r).drop (numsN f (e :: r)))) := by
  obtain ⟨b, u, t, hl, hb, hu⟩ := h
  cases b with
  | nil => simp at hl; obtain ⟨h1, _⟩ := hl; subst h1; omega
  | cons e2 b =>
    simp only [List.cons_append, List.cons.injEq] at hl
    obtain ⟨h1, h2⟩ := hl
    subst h1
    obtain ⟨_, f, hf⟩ := bd_num hb hk
    have hff := fOf_some hf
    have hr : isRun f e = true := isRun_of hk (fieldAt_num hf).symm
    have hn := numsN_pos f (e :: r)
    have hu2 : u.kind ≠ 2 := by omega
    have e1 : runL f (e :: r) = runL f b + 1 := by rw [runL, if_pos hr, h2, runL_app hu2]
    have e2 : numsN f (e :: r) = numsN f (e :: b) := by rw [h2, ← List.cons_append, numsN_app hu2]
    have e3 := numsN_le f (l := e :: b) (by simp)
    have e4 := runL_le f b
    have hlen := congrArg List.length h2
    simp only [List.length_append, List.length_cons] at hlen e3
    have hbd : Bd p sh ((e :: b).drop (numsN f (e :: b))) := by
      have := bd_nums (f := f) hb hk
      rw [show numsN f (e :: b) = numsN f (e :: b) - 1 + 1 by have := numsN_pos f (e :: b); omega, List.drop_succ_cons]; exact this
    have hdr : (e :: r).drop (numsN f (e :: r)) = (e :: b).drop (numsN f (e :: b)) ++ u :: t := by
      rw [e2, h2, ← List.cons_append, List.drop_append_of_le_length (by simp only [List.length_cons]; omega)]
    have hdd : r.drop (numsN f (e :: r) - 1) = (e :: r).drop (numsN f (e :: r)) := by
      conv => rhs; rw [show numsN f (e :: r) = numsN f (e :: r) - 1 + 1 by omega, List.drop_succ_cons]
    refine ⟨f, hf, hff, hr, by omega, by simp only [List.length_cons]; omega, by omega, ⟨_, u, t, hdr, hbd, hu⟩, ?_, ?_, ?_⟩
    · rw [mT_num hk, hff, hdd]
    · have hup : upL (-1) 1 (u :: t) = 0 := by
        rw [upL]; rcases hu with hu | hu <;> rw [hu] <;> rfl
      rw [hdr, h2, ← List.cons_append, upL_bd hb (by omega), upL_bd hbd (by omega), hup, numsN_app hu2]
      simp only [List.length_drop, List.length_cons]; omega
    · rw [sT_num hk, hff, hdd]
theorem upT_here {u : Ev} {t : List Ev} (hu : u.kind = 7 ∨ u.kind = 8) : upL (-1) 1 (u :: t) = 0 := by
  rw [upL]; rcases hu with hu | hu <;> rw [hu] <;> rfl
theorem upT {p : Pln} {sh : Int} {b : List Ev} {u : Ev} {t : List Ev} (hb : Bd p sh b) (hu : u.kind = 7 ∨ u.kind = 8) : upL (-1) 1 (b ++ u :: t) = b.length := by
  rw [upL_bd hb (by omega), upT_here hu]; rfl
theorem bdT_text {p : Pln} {sh : Int} {e : Ev} {r : List Ev} (h : BdT p sh (e :: r)) (hk : e.kind = 3) : ∃ f, fieldAt p.shapes sh e.field = some f ∧ fOf p sh e = f ∧ ptL r < r.length ∧
    BdT p sh (r.drop (ptL r + 1)) ∧ mT p sh (e :: r) = tagP f.number 2 ++ frameOf (textM (r.take (ptL r))) ++ mT p sh (r.drop (ptL r + 1)) ∧ upL (-1) 1 (e :: r) = ptL r + 2 + upL (-1) 1 (r.drop (ptL r + 1)) ∧
    sT p sh (e :: r) = ((textM (r.take (ptL r))).length : Int) :: (List.replicate (ptL r + 1) (-1) ++ sT p sh (r.drop (ptL r + 1))) := by
  obtain ⟨b, u, t, hl, hb, hu⟩ := h
  cases hb with
  | nil => simp at hl; obtain ⟨h1, _⟩ := hl; subst h1; omega
  | num h2 => simp at hl; obtain ⟨h1, _⟩ := hl; subst h1; omega
  | down h2 => simp at hl; obtain ⟨h1, _⟩ := hl; subst h1; omega
  | @text _ e2 s ps l f hk2 hf hp hs hl2 =>
    simp only [List.cons_append, List.cons.injEq, List.append_assoc] at hl
    obtain ⟨h1, h2⟩ := hl
    subst h1
    have e1 : ptL r = ps.length := by rw [h2, ptL_parts hp hs]
    have hd : r.drop (ptL r + 1) = l ++ u :: t := by rw [e1, h2, drop_mid]
    have ht : r.take (ptL r) = ps := by rw [e1, h2, List.take_left]
    refine ⟨f, hf, fOf_some hf, by rw [e1, h2]; simp, ⟨l, u, t, hd, hl2, hu⟩, ?_, ?_, ?_⟩
    · rw [hd, ht, h2, mT_text hk hp hs, fOf_some hf]
    · have hb : Bd p sh (e :: (ps ++ s :: l)) := .text hk hf hp hs hl2
      have : e :: r = (e :: (ps ++ s :: l)) ++ u :: t := by rw [h2]; simp
      rw [hd, this, upT hb hu, upT hl2 hu, e1]; simp only [List.length_cons, List.length_append]; omega
    · rw [hd, ht, h2, sT_text hk hp hs, ← h2, e1]
theorem bdT_down {p : Pln} {sh : Int} {e : Ev} {r : List Ev} (h : BdT p sh (e :: r)) (hk : e.kind = 6) : ∃ f, fieldAt p.shapes sh e.field = some f ∧ fOf p sh e = f ∧ BdT p f.msg r ∧ upL (-1) 1 r < r.length ∧ (sT p f.msg r).length = upL (-1) 1 r ∧
    BdT p sh (r.drop (upL (-1) 1 r + 1)) ∧ mT p sh (e :: r) = tagP f.number 2 ++ frameOf (mT p f.msg r) ++ mT p sh (r.drop (upL (-1) 1 r + 1)) ∧ upL (-1) 1 (e :: r) = upL (-1) 1 r + 2 + upL (-1) 1 (r.drop (upL (-1) 1 r + 1)) ∧
    sT p sh (e :: r) = ((mT p f.msg r).length : Int) :: (sT p f.msg r ++ (-1) :: sT p sh (r.drop (upL (-1) 1 r + 1))) := by
  obtain ⟨b, u, t, hl, hb, hu⟩ := h
  cases hb with
  | nil => simp at hl; obtain ⟨h1, _⟩ := hl; subst h1; omega
  | num h2 => simp at hl; obtain ⟨h1, _⟩ := hl; subst h1; omega
  | text h2 => simp at hl; obtain ⟨h1, _⟩ := hl; subst h1; omega
  | @down _ e2 w c l f hk2 hf hc hw hl2 =>
    simp only [List.cons_append, List.cons.injEq, List.append_assoc] at hl
    obtain ⟨h1, h2⟩ := hl
    subst h1
    have e1 : upL (-1) 1 r = c.length := by rw [h2, upT hc (.inl hw)]
    have hd : r.drop (upL (-1) 1 r + 1) = l ++ u :: t := by rw [e1, h2, drop_mid]
    have hm := mT_tail (p := p) (u := w) (t := l ++ u :: t) (.inl hw) _ (Nat.le_refl _) hc
    rw [← h2] at hm
    refine ⟨f, hf, fOf_some hf, ⟨c, w, _, h2, hc, .inl hw⟩, by rw [e1, h2]; simp, by rw [hm.2, e1, sT_len _ (Nat.le_refl _) hc], ⟨l, u, t, hd, hl2, hu⟩, ?_, ?_, ?_⟩
    · rw [hd, hm.1, h2, mT_down hk hc hw, fOf_some hf]
    · have hb : Bd p sh (e :: (c ++ w :: l)) := .down hk hf hc hw hl2
      have : e :: r = (e :: (c ++ w :: l)) ++ u :: t := by rw [h2]; simp
      rw [hd, this, upT hb hu, upT hl2 hu, e1]; simp only [List.length_cons, List.length_append]; omega
    · rw [hd, hm.1, hm.2, h2, sT_down hk hc hw, fOf_some hf]
theorem bdT_head {p : Pln} {sh : Int} {e : Ev} {r : List Ev} (h : BdT p sh (e :: r)) (hk : ¬ hasField e.kind = true) : mT p sh (e :: r) = [] ∧ sT p sh (e :: r) = [] ∧ upL (-1) 1 (e :: r) = 0 := by
  simp only [hasField, Bool.or_eq_true, decide_eq_true_eq] at hk
  obtain ⟨b, u, t, hl, hb, hu⟩ := h
  cases hb with
  | nil => simp at hl; obtain ⟨h1, h2⟩ := hl; subst h1; subst h2; exact ⟨mT_end hu, sT_end hu, upT_here hu⟩
  | num h2 => simp at hl; obtain ⟨h1, _⟩ := hl; subst h1; omega
  | text h2 => simp at hl; obtain ⟨h1, _⟩ := hl; subst h1; omega
  | down h2 => simp at hl; obtain ⟨h1, _⟩ := hl; subst h1; omega
theorem bdT_ne {p : Pln} {sh : Int} {l : List Ev} (h : BdT p sh l) : upL (-1) 1 l < l.length := by
  obtain ⟨b, u, t, hl, hb, hu⟩ := h
  rw [hl, upT hb hu]; simp
theorem bdT_mT_len {p : Pln} {sh : Int} {l : List Ev} (h : BdT p sh l) (hv : EvsB l) : (mT p sh l).length ≤ 33000000 := by
  obtain ⟨b, u, t, hl, hb, hu⟩ := h
  rw [hl] at hv ⊢
  rw [(mT_tail hu _ (Nat.le_refl _) hb).1]
  have := mT_len _ (Nat.le_refl _) hb hv.left
  have h1 := hv.left.1; have h2 := hv.left.2.1; omega
structure MInv (sh : Int) (z q : Sz) (o : List UInt8) : Prop where
  pl : q.plan = z.plan
  li : q.list = z.list
  lo : z.at_ ≤ q.at_
  bd : BdT z.plan sh (tl q)
  len : q.sizes.length = z.sizes.length
  at_ : q.at_ + (upL (-1) 1 (tl q) : Int) = z.at_ + (upL (-1) 1 (tl z) : Int)
  out : o ++ mT z.plan sh (tl q) = mT z.plan sh (tl z)
  rest : q.sizes.drop q.at_.toNat = List.replicate (q.sizes.length - q.at_.toNat) (-1)
  done : q.sizes.take q.at_.toNat ++ sT z.plan sh (tl q) = z.sizes.take z.at_.toNat ++ sT z.plan sh (tl z)
structure MB (sh : Int) (z : Sz) : Prop where
  at_ : 0 ≤ z.at_
  bd : BdT z.plan sh (tl z)
  len : z.sizes.length = z.list.length
  rest : z.sizes.drop z.at_.toNat = List.replicate (z.sizes.length - z.at_.toNat) (-1)
  ev : EvsB z.list
  pl : planOk z.plan = true
theorem MInv.refl {sh : Int} {z : Sz} (h : MB sh z) : MInv sh z z [] := ⟨rfl, rfl, Int.le_refl _, h.bd, rfl, rfl, rfl, h.rest, rfl⟩
theorem MInv.step {sh : Int} {z q : Sz} {o b : List UInt8} {k : Nat} {s S : List Int} (h : MInv sh z q o) (h0 : 0 ≤ z.at_) (hb : BdT z.plan sh ((tl q).drop k)) (hm : mT z.plan sh (tl q) = b ++ mT z.plan sh ((tl q).drop k)) (hu : upL (-1) 1 (tl q) = k + upL (-1) 1 ((tl q).drop k))
    (hs : sT z.plan sh (tl q) = s ++ sT z.plan sh ((tl q).drop k)) (hk : s.length = k) (hS : S = q.sizes.take q.at_.toNat ++ s ++ q.sizes.drop (q.at_.toNat + k)) (hr : q.at_.toNat + k ≤ q.sizes.length) :
    MInv sh z ⟨q.plan, q.list, q.at_ + (k : Int), S⟩ (o ++ b) := by
  have hlo := h.lo
  have hq : 0 ≤ q.at_ := by omega
  have e : tl (⟨q.plan, q.list, q.at_ + (k : Int), S⟩ : Sz) = (tl q).drop k := tl_add hq
  have en : Int.toNat (q.at_ + (k : Int)) = q.at_.toNat + k := by omega
  have hl : S.length = q.sizes.length := by rw [hS]; simp only [List.length_append, List.length_take, List.length_drop, hk]; omega
  have hlt : (q.sizes.take q.at_.toNat ++ s).length = q.at_.toNat + k := by rw [List.length_append, List.length_take, hk]; omega
  refine ⟨h.pl, h.li, by show z.at_ ≤ q.at_ + (k : Int); omega, by rw [e]; exact hb, hl.trans h.len, ?_, ?_, ?_, ?_⟩
  · have := h.at_; rw [e]; show q.at_ + (k : Int) + _ = _; rw [hu] at this; omega
  · rw [e, List.append_assoc, ← hm]; exact h.out
  · show S.drop (Int.toNat (q.at_ + (k : Int))) = List.replicate (S.length - Int.toNat (q.at_ + (k : Int))) (-1)
    rw [en, hl, hS, ← hlt, List.drop_left, hlt, ← List.drop_drop, h.rest, List.drop_replicate]; congr 1; omega
  · show S.take (Int.toNat (q.at_ + (k : Int))) ++ _ = _
    rw [e, en, hS, ← hlt, List.take_left, List.append_assoc, ← hs]; exact h.done
theorem run_split {S : List Int} {a j : Nat} (h : S.drop a = List.replicate (S.length - a) (-1)) (hj : a + j ≤ S.length) : S.drop a = List.replicate j (-1) ++ S.drop (a + j) := by
  rw [← List.drop_drop, h, List.drop_replicate, List.replicate_append_replicate]; congr 1; omega
theorem set_run {S : List Int} {a j : Nat} {v : Int} (h : S.drop a = List.replicate (S.length - a) (-1)) (hj : a + 1 + j ≤ S.length) : S.set a v = S.take a ++ (v :: List.replicate j (-1)) ++ S.drop (a + (j + 1)) := by
  have h1 : S.drop (a + 1) = List.replicate (S.length - (a + 1)) (-1) := by rw [← List.drop_drop, h, List.drop_replicate]; congr 1
  rw [List.set_eq_take_append_cons_drop, if_pos (by omega), run_split h1 hj, List.append_assoc, List.cons_append, show a + 1 + j = a + (j + 1) by omega]
theorem MInv.here {sh : Int} {z q : Sz} {o : List UInt8} {x : Ev} (h : MInv sh z q o) (hx : q.list[q.at_.toNat]? = some x) : tl q = x :: q.list.drop (q.at_.toNat + 1) := tl_at hx
theorem MInv.room {sh : Int} {z q : Sz} {o : List UInt8} (h : MInv sh z q o) (hz : MB sh z) : q.at_ + 1 ≤ (q.list.length : Int) ∧ q.sizes.length = q.list.length ∧ 0 ≤ q.at_ ∧ q.list.length ≤ 1048576 ∧ q.list = z.list ∧ q.plan = z.plan ∧ EvsB q.list := by
  have h1 := bdT_ne h.bd
  rw [tl_len] at h1
  have := h.lo; have := hz.at_; have := hz.ev.1
  refine ⟨by omega, by rw [h.len, hz.len, h.li], by omega, by rw [h.li]; exact this, h.li, h.pl, by rw [h.li]; exact hz.ev⟩
theorem MInv.small {sh : Int} {z q : Sz} {o : List UInt8} (h : MInv sh z q o) (hz : MB sh z) : o.length ≤ 33000000 ∧ (mT z.plan sh (tl z)).length ≤ 33000000 := by
  have h1 := congrArg List.length h.out
  rw [List.length_append] at h1
  have := bdT_mT_len hz.bd (hz.ev.drop z.at_.toNat)
  exact ⟨by omega, this⟩
theorem MInv.num {sh : Int} {z q : Sz} {o : List UInt8} {x : Ev} (h : MInv sh z q o) (hz : MB sh z) (hx : q.list[q.at_.toNat]? = some x) (hk : x.kind = 2) :
    ∃ f, fieldAt z.plan.shapes sh x.field = some f ∧ isRun f x = true ∧ 1 ≤ runL f (tl q) ∧ runL f (tl q) < (tl q).length ∧ 1 ≤ numsN f (tl q) ∧ q.at_ + (numsN f (tl q) : Int) + 1 ≤ (q.list.length : Int) ∧ MInv sh z (numsZ q f) (o ++ numsM f (tl q)) := by
  have hr := h.room hz
  have e := tl_at hx
  have hb := h.bd
  rw [e] at hb
  obtain ⟨f, h1, h2, h3, h4, h5, h6, h7, h8, h9, h10⟩ := bdT_num hb hk
  rw [← e] at h4 h5 h6 h7 h8 h9 h10
  have hn := numsN_pos f (tl q)
  rw [List.length_drop] at h6
  have hst : MInv sh z ⟨q.plan, q.list, q.at_ + (numsN f (tl q) : Int), if f.packed then q.sizes.set q.at_.toNat ((valsM f ((tl q).take (numsN f (tl q)))).length : Int) else q.sizes⟩ (o ++ numsM f (tl q)) := by
    refine h.step hz.at_ (s := (if f.packed then ((valsM f ((tl q).take (numsN f (tl q)))).length : Int) else -1) :: List.replicate (numsN f (tl q) - 1) (-1)) h7 h8 h9 h10 (by simp only [List.length_cons, List.length_replicate]; omega) ?_ (by omega)
    have hm := set_run (v := ((valsM f ((tl q).take (numsN f (tl q)))).length : Int)) (j := numsN f (tl q) - 1) h.rest (by omega)
    rw [show numsN f (tl q) - 1 + 1 = numsN f (tl q) by omega] at hm
    cases hp : f.packed with
    | true => exact hm
    | false =>
      have e1 : numsN f (tl q) = 1 := by unfold numsN; rw [hp]; rfl
      have := run_split (j := 1) h.rest (by omega)
      rw [e1]
      show q.sizes = _
      rw [List.append_assoc]
      exact (List.take_append_drop q.at_.toNat q.sizes).symm.trans (congrArg (_ ++ ·) this)
  exact ⟨f, h1, h3, h4, h5, hn, by omega, hst⟩
theorem MInv.text {sh : Int} {z q : Sz} {o : List UInt8} {x : Ev} (h : MInv sh z q o) (hz : MB sh z) (hx : q.list[q.at_.toNat]? = some x) (hk : x.kind = 3) :
    ∃ f, fieldAt z.plan.shapes sh x.field = some f ∧ ptL ((tl q).drop 1) < ((tl q).drop 1).length ∧ q.at_ + (ptL ((tl q).drop 1) : Int) + 3 ≤ (q.list.length : Int) ∧ MInv sh z ⟨(textZ q).plan, (textZ q).list, (textZ q).at_, (textZ q).sizes.set q.at_.toNat ((txt q).length : Int)⟩ (o ++ (tagP f.number 2 ++ frameOf (txt q))) := by
  have hr := h.room hz
  have e := tl_at hx
  have hb := h.bd
  rw [e] at hb
  obtain ⟨f, h1, h2, h3, h4, h5, h6, h7⟩ := bdT_text hb hk
  have ed : (tl q).drop 1 = q.list.drop (q.at_.toNat + 1) := by rw [e]; rfl
  have ek : (tl q).drop (ptL ((tl q).drop 1) + 2) = (q.list.drop (q.at_.toNat + 1)).drop (ptL (q.list.drop (q.at_.toNat + 1)) + 1) := by rw [ed, e, List.drop_succ_cons]
  rw [← e] at h5 h6 h7
  have hne := bdT_ne h4
  have hne' := hne
  rw [List.length_drop] at hne
  rw [List.length_drop] at hne
  refine ⟨f, h1, by rw [ed]; exact h3, by rw [ed]; omega, ?_⟩
  have hst := h.step (b := tagP f.number 2 ++ frameOf (txt q)) (k := ptL ((tl q).drop 1) + 2) (s := ((txt q).length : Int) :: List.replicate (ptL ((tl q).drop 1) + 1) (-1)) (S := q.sizes.set q.at_.toNat ((txt q).length : Int)) hz.at_ (by rw [ek]; exact h4) (by rw [ek, h5]; unfold txt; rw [ed]) (by rw [ek, h6, ed]) (by rw [ek, h7]; unfold txt; rw [ed]; rfl) (by simp) (set_run h.rest (by rw [ed]; omega)) (by rw [ed]; omega)
  have ea : (textZ q).at_ = q.at_ + ((ptL ((tl q).drop 1) + 2 : Nat) : Int) := by show q.at_ + (ptL ((tl q).drop 1) : Int) + 2 = _; omega
  rw [ea]
  exact hst
theorem set_mid {S A : List Int} {a : Nat} {v : Int} (ha : a < S.length) (h : S.drop (a + 1) = List.replicate (S.length - (a + 1)) (-1)) (hA : a + 1 + A.length + 1 ≤ S.length) :
    (S.take (a + 1) ++ A ++ List.replicate (S.length - (a + 1 + A.length)) (-1)).set a v = S.take a ++ (v :: (A ++ [-1])) ++ S.drop (a + (A.length + 2)) := by
  have h1 : S.drop (a + (A.length + 2)) = List.replicate (S.length - (a + (A.length + 2))) (-1) := by
    rw [show a + (A.length + 2) = a + 1 + (A.length + 1) by omega, ← List.drop_drop, h, List.drop_replicate]; congr 1; omega
  have ht : (S.take (a + 1)).length = a + 1 := by rw [List.length_take]; omega
  have h2 : List.replicate (S.length - (a + 1 + A.length)) (-1 : Int) = -1 :: List.replicate (S.length - (a + (A.length + 2))) (-1) := by
    rw [show S.length - (a + 1 + A.length) = (S.length - (a + (A.length + 2))) + 1 by omega, List.replicate_succ]
  rw [List.set_eq_take_append_cons_drop, if_pos (by simp only [List.length_append, ht]; omega), List.append_assoc, List.take_append_of_le_length (by omega), List.drop_append_of_le_length (by omega), List.take_take, Nat.min_eq_left (by omega), h1, h2, List.drop_eq_nil_of_le (by omega)]
  simp
theorem MInv.down {sh : Int} {z q : Sz} {o : List UInt8} {x : Ev} (h : MInv sh z q o) (hz : MB sh z) (hx : q.list[q.at_.toNat]? = some x) (hk : x.kind = 6) :
    ∃ f, fieldAt z.plan.shapes sh x.field = some f ∧ MB f.msg ⟨q.plan, q.list, q.at_ + 1, q.sizes⟩ ∧ (tl ⟨q.plan, q.list, q.at_ + 1, q.sizes⟩).length < (tl q).length ∧ q.at_ + (upL (-1) 1 (tl ⟨q.plan, q.list, q.at_ + 1, q.sizes⟩) : Int) + 3 ≤ (q.list.length : Int) ∧
      (msgZ f.msg ⟨q.plan, q.list, q.at_ + 1, q.sizes⟩).sizes.length = q.sizes.length ∧
      MInv sh z ⟨q.plan, q.list, (msgZ f.msg ⟨q.plan, q.list, q.at_ + 1, q.sizes⟩).at_, (msgZ f.msg ⟨q.plan, q.list, q.at_ + 1, q.sizes⟩).sizes.set q.at_.toNat ((mT q.plan f.msg (tl ⟨q.plan, q.list, q.at_ + 1, q.sizes⟩)).length : Int)⟩ (o ++ (tagP f.number 2 ++ frameOf (mT q.plan f.msg (tl ⟨q.plan, q.list, q.at_ + 1, q.sizes⟩)))) := by
  have hr := h.room hz
  have e := tl_at hx
  have hb := h.bd
  rw [e] at hb
  obtain ⟨f, h1, h2, h3, h4, h5, h6, h7, h8, h9⟩ := bdT_down hb hk
  have en : Int.toNat (q.at_ + 1) = q.at_.toNat + 1 := by omega
  have et : tl (⟨q.plan, q.list, q.at_ + 1, q.sizes⟩ : Sz) = q.list.drop (q.at_.toNat + 1) := by show q.list.drop (Int.toNat (q.at_ + 1)) = _; rw [en]
  have ek : (tl q).drop (upL (-1) 1 (q.list.drop (q.at_.toNat + 1)) + 2) = (q.list.drop (q.at_.toNat + 1)).drop (upL (-1) 1 (q.list.drop (q.at_.toNat + 1)) + 1) := by rw [e, List.drop_succ_cons]
  rw [← e] at h7 h8 h9
  have hne := bdT_ne h6
  rw [List.length_drop, List.length_drop] at hne
  have hrest : q.sizes.drop (q.at_.toNat + 1) = List.replicate (q.sizes.length - (q.at_.toNat + 1)) (-1) := by
    rw [← List.drop_drop, h.rest, List.drop_replicate]; congr 1
  have esz : (msgZ f.msg ⟨q.plan, q.list, q.at_ + 1, q.sizes⟩).sizes = q.sizes.take (q.at_.toNat + 1) ++ sT z.plan f.msg (q.list.drop (q.at_.toNat + 1)) ++ List.replicate (q.sizes.length - (q.at_.toNat + 1 + (sT z.plan f.msg (q.list.drop (q.at_.toNat + 1))).length)) (-1) := by
    show q.sizes.take (Int.toNat (q.at_ + 1)) ++ sT q.plan f.msg (tl ⟨q.plan, q.list, q.at_ + 1, q.sizes⟩) ++ List.replicate (q.sizes.length - (Int.toNat (q.at_ + 1) + upL (-1) 1 (tl ⟨q.plan, q.list, q.at_ + 1, q.sizes⟩))) (-1) = _
    rw [et, en, h.pl, h5]
  refine ⟨f, h1, ⟨by show 0 ≤ q.at_ + 1; omega, by rw [et]; show BdT q.plan _ _; rw [h.pl]; exact h3, hr.2.1, by show q.sizes.drop (Int.toNat (q.at_ + 1)) = List.replicate (q.sizes.length - Int.toNat (q.at_ + 1)) (-1); rw [en]; exact hrest, hr.2.2.2.2.2.2, by show planOk q.plan = true; rw [h.pl]; exact hz.pl⟩, by rw [et, tl_len, List.length_drop]; omega, by rw [et]; omega, ?_, ?_⟩
  · rw [esz]; simp only [List.length_append, List.length_take, List.length_replicate, h5]; omega
  · have hst := h.step (b := tagP f.number 2 ++ frameOf (mT z.plan f.msg (q.list.drop (q.at_.toNat + 1)))) (k := upL (-1) 1 (q.list.drop (q.at_.toNat + 1)) + 2) (s := ((mT z.plan f.msg (q.list.drop (q.at_.toNat + 1))).length : Int) :: (sT z.plan f.msg (q.list.drop (q.at_.toNat + 1)) ++ [-1]))
      (S := (msgZ f.msg ⟨q.plan, q.list, q.at_ + 1, q.sizes⟩).sizes.set q.at_.toNat ((mT z.plan f.msg (q.list.drop (q.at_.toNat + 1))).length : Int)) hz.at_ (by rw [ek]; exact h6) (by rw [ek, h7]) (by rw [ek, h8]) (by rw [ek, h9]; simp) (by simp [h5]) (by rw [esz, set_mid (by omega) hrest (by rw [h5]; omega), h5]) (by omega)
    have ea : (msgZ f.msg ⟨q.plan, q.list, q.at_ + 1, q.sizes⟩).at_ = q.at_ + ((upL (-1) 1 (q.list.drop (q.at_.toNat + 1)) + 2 : Nat) : Int) := by
      show q.at_ + 1 + (upL (-1) 1 (tl ⟨q.plan, q.list, q.at_ + 1, q.sizes⟩) : Int) + 1 = _; rw [et]; omega
    rw [ea, et, h.pl]
    have hp := h.pl
    rw [h.pl] at hst
    exact hst
theorem MInv.end_ {sh : Int} {z q : Sz} {o : List UInt8} {x : Ev} (h : MInv sh z q o) (hz : MB sh z) (hx : q.list[q.at_.toNat]? = some x) (hk : ¬ hasField x.kind = true) : o = mT z.plan sh (tl z) ∧ (⟨q.plan, q.list, q.at_ + 1, q.sizes⟩ : Sz) = msgZ sh z := by
  have e := tl_at hx
  have hb := h.bd
  rw [e] at hb
  obtain ⟨h1, h2, h3⟩ := bdT_head hb hk
  rw [← e] at h1 h2 h3
  have ho := h.out
  have hd := h.done
  have ha := h.at_
  rw [h1, List.append_nil] at ho
  rw [h2, List.append_nil] at hd
  rw [h3] at ha
  refine ⟨ho, ?_⟩
  unfold msgZ
  have hlo := h.lo; have hz0 := hz.at_
  have hs : q.sizes = z.sizes.take z.at_.toNat ++ sT z.plan sh (tl z) ++ List.replicate (z.sizes.length - (z.at_.toNat + upL (-1) 1 (tl z))) (-1) := by
    rw [← hd, ← h.len, show z.at_.toNat + upL (-1) 1 (tl z) = q.at_.toNat by omega, ← h.rest, List.take_append_drop]
  rw [h.pl, h.li, ← hs, show q.at_ + 1 = z.at_ + (upL (-1) 1 (tl z) : Int) + 1 by omega]
/-! ### Bodies, frames, errors -/
def bodyOf (p : Pln) (l : List Ev) : List UInt8 := if (frameCode p l).1 = 0 then mT p p.root (l.drop 1) else []
def sz0 (p : Pln) (l : List Ev) : Sz := ⟨p, l, 1, List.replicate l.length (-1)⟩
def sizesOf (p : Pln) (l : List Ev) : List Int := if (frameCode p l).1 = 0 then (msgZ p.root (sz0 p l)).sizes.set 0 ((mT p p.root (l.drop 1)).length : Int) else []
theorem frame_mb {p : Pln} {l : List Ev} (h : (frameCode p l).1 = 0) (hv : EvsB l) : MB p.root (sz0 p l) ∧ tl (sz0 p l) = l.drop 1 ∧ 2 ≤ l.length ∧ Bd p p.root ((l.drop 1).take (l.length - 2)) ∧ mT p p.root (l.drop 1) = mT p p.root ((l.drop 1).take (l.length - 2)) := by
  obtain ⟨hp, e, b, u, hl, hb, hu⟩ := frame_bd h
  have et : tl (sz0 p l) = l.drop 1 := rfl
  have e1 : l.drop 1 = b ++ [u] := by rw [hl]; rfl
  have e2 : l.length - 2 = b.length := by rw [hl]; simp
  have e3 : (l.drop 1).take (l.length - 2) = b := by rw [e1, e2, List.take_left]
  refine ⟨⟨(by show (0 : Int) ≤ 1; decide), ⟨b, u, [], by rw [et, e1], hb, .inr hu⟩, by show (List.replicate l.length (-1 : Int)).length = l.length; simp, ?_, hv, hp⟩, et, by rw [hl]; simp, by rw [e3]; exact hb, by rw [e3, e1, (mT_tail (.inr hu) _ (Nat.le_refl _) hb).1]⟩
  show (List.replicate l.length (-1 : Int)).drop 1 = List.replicate ((List.replicate l.length (-1 : Int)).length - 1) (-1)
  rw [List.drop_replicate, List.length_replicate]
theorem bodyOf_len {p : Pln} {l : List Ev} (hv : EvsB l) : (bodyOf p l).length ≤ 33000000 := by
  unfold bodyOf
  split
  · rename_i h
    obtain ⟨h1, h2, _⟩ := frame_mb h hv
    rw [← h2]; exact bdT_mT_len h1.bd (hv.drop 1)
  · simp
def frErr (p : Pln) (l : List Ev) : Int × Int := if (frameCode p l).1 = 0 ∧ p.most < ((bodyOf p l).length : Int) then (8, 0) else frameCode p l
def cutN (l : List Ev) : Nat := if frameStop l 0 + 1 = 0 then l.length else Int.toNat (frameStop l 0 + 1)
theorem cutN_b {l : List Ev} (h : 1 ≤ l.length) : 1 ≤ cutN l ∧ cutN l ≤ l.length := by
  have := frameStop_b l 0; unfold cutN; split <;> omega
def divM : List Ev → List (List Ev)
  | [] => []
  | e :: r => (e :: r).take (cutN (e :: r)) :: divM (r.drop (cutN (e :: r) - 1))
termination_by l => l.length
decreasing_by simp only [List.length_drop, List.length_cons]; omega
theorem divM_next {l : List Ev} (h : 1 ≤ l.length) : divM l = l.take (cutN l) :: divM (l.drop (cutN l)) := by
  cases l with
  | nil => exact absurd h (by decide)
  | cons e r =>
    have := (cutN_b h).1
    rw [divM]
    congr 2
    conv => rhs; rw [show cutN (e :: r) = cutN (e :: r) - 1 + 1 by omega, List.drop_succ_cons]
theorem divM_nil : divM [] = [] := by rw [divM]
theorem divM_b : ∀ (k : Nat) {l : List Ev}, l.length ≤ k → (divM l).length ≤ l.length ∧ (EvsB l → ∀ f ∈ divM l, EvsB f) := by
  intro k
  induction k with
  | zero =>
    intro l h
    have : l = [] := List.eq_nil_of_length_eq_zero (by omega)
    subst this; rw [divM_nil]; exact ⟨Nat.le_refl _, fun _ f hf => by cases hf⟩
  | succ k ih =>
    intro l h
    cases l with
    | nil => rw [divM_nil]; exact ⟨Nat.le_refl _, fun _ f hf => by cases hf⟩
    | cons e r =>
      have hc := cutN_b (l := e :: r) (by simp)
      have hi := ih (l := (e :: r).drop (cutN (e :: r))) (by rw [List.length_drop]; simp only [List.length_cons] at *; omega)
      rw [divM_next (by simp)]
      refine ⟨by have := hi.1; rw [List.length_drop] at this; simp only [List.length_cons] at *; omega, fun hv f hf => ?_⟩
      rcases List.mem_cons.1 hf with rfl | hf
      · exact hv.take _
      · exact hi.2 (hv.drop _) f hf
def formL (p : Pln) : List (List Ev) → Int → Int × Int
  | [], _ => (0, 0)
  | f :: r, a => if (frErr p f).1 ≠ 0 then ((frErr p f).1, a + (frErr p f).2) else formL p r (a + (f.length : Int))
def formed (p : Pln) (l : List Ev) : Int × Int := if planOk p then formL p (divM l) 0 else (1, 0)
theorem upL_cons {c n : Int} {e : Ev} {r : List Ev} : upL c n (e :: r) = if n + dl c e.kind = 0 then 0 else upL c (n + dl c e.kind) r + 1 := rfl
theorem runL_cons {f : Fld} {e : Ev} {r : List Ev} : runL f (e :: r) = if isRun f e then runL f r + 1 else 0 := rfl
structure SInv (p : Pln) (sh : Int) (l : List Ev) (i : Int) (o : List UInt8) : Prop where
  lo : 0 ≤ i
  hi : i ≤ (l.length : Int)
  bd : Bd p sh (l.drop i.toNat)
  out : o ++ mT p sh (l.drop i.toNat) = mT p sh l
theorem SInv.refl {p : Pln} {sh : Int} {l : List Ev} (h : Bd p sh l) : SInv p sh l 0 [] := ⟨Int.le_refl _, by omega, h, rfl⟩
theorem SInv.step {p : Pln} {sh : Int} {l : List Ev} {i j : Int} {o b : List UInt8} {r : List Ev} (h : SInv p sh l i o) (hj : i ≤ j) (hl : j ≤ (l.length : Int)) (hd : l.drop j.toNat = r) (hb : Bd p sh r) (hm : mT p sh (l.drop i.toNat) = b ++ mT p sh r) : SInv p sh l j (o ++ b) :=
  ⟨by have := h.lo; omega, hl, by rw [hd]; exact hb, by rw [hd, List.append_assoc, ← hm]; exact h.out⟩
theorem SInv.small {p : Pln} {sh : Int} {l : List Ev} {i : Int} {o : List UInt8} (h : SInv p sh l i o) (hb : Bd p sh l) (hv : EvsB l) : o.length ≤ 33000000 := by
  have h1 := congrArg List.length h.out
  rw [List.length_append] at h1
  have := mT_len _ (Nat.le_refl _) hb hv
  have := hv.1; have := hv.2.1; omega
theorem SInv.end_ {p : Pln} {sh : Int} {l : List Ev} {i : Int} {o : List UInt8} (h : SInv p sh l i o) (hi : ¬ i < (l.length : Int)) : o = mT p sh l := by
  have h1 := h.out
  rw [List.drop_eq_nil_of_le (by omega), mT, List.append_nil] at h1; exact h1
theorem SInv.num {p : Pln} {sh : Int} {l : List Ev} {i : Int} {o : List UInt8} {x : Ev} (h : SInv p sh l i o) (hx : l[i.toNat]? = some x) (hk : x.kind = 2) :
    ∃ f, fieldAt p.shapes sh x.field = some f ∧ 1 ≤ numsN f (l.drop i.toNat) ∧ i + (numsN f (l.drop i.toNat) : Int) ≤ (l.length : Int) ∧ SInv p sh l (i + (numsN f (l.drop i.toNat) : Int)) (o ++ numsM f (l.drop i.toNat)) := by
  have e := drop_el hx
  have hb := h.bd
  have hlo := h.lo
  rw [e] at hb
  obtain ⟨_, f, hf⟩ := bd_num hb hk
  have hn := numsN_pos f (l.drop i.toNat)
  have hil := (List.getElem?_eq_some_iff.1 hx).1
  have hm := numsN_le f (l := l.drop i.toNat) (by rw [List.length_drop]; omega)
  have hm' := hm
  rw [List.length_drop] at hm
  refine ⟨f, hf, hn, by omega, h.step (by omega) (by omega) (by rw [show Int.toNat (i + (numsN f (l.drop i.toNat) : Int)) = i.toNat + numsN f (l.drop i.toNat) by omega, ← List.drop_drop, e]; conv => lhs; rw [show numsN f (x :: l.drop (i.toNat + 1)) = numsN f (x :: l.drop (i.toNat + 1)) - 1 + 1 by rw [← e]; omega, List.drop_succ_cons]) (bd_nums hb hk) (by rw [e, mT_num hk, fOf_some hf])⟩
theorem take_sub {α : Type} {l : List α} {i s : Nat} : (l.take s).drop i = (l.drop i).take (s - i) := List.drop_take
theorem SInv.text {p : Pln} {sh : Int} {l : List Ev} {i s : Int} {o : List UInt8} {x : Ev} (h : SInv p sh l i o) (hx : l[i.toNat]? = some x) (hk : x.kind = 3) (hs : s = i + (upL 0 0 (l.drop i.toNat) : Int)) :
    ∃ f, fieldAt p.shapes sh x.field = some f ∧ i + 1 ≤ s ∧ s + 1 ≤ (l.length : Int) ∧ SInv p sh l (s + 1) (o ++ (tagP f.number 2 ++ frameOf (textM ((l.take s.toNat).drop (Int.toNat (i + 1)))))) := by
  have e := drop_el hx
  have hb := h.bd
  have hlo := h.lo
  have hil := (List.getElem?_eq_some_iff.1 hx).1
  rw [e] at hb
  generalize hr : l.drop (i.toNat + 1) = r at *
  have hlr := congrArg List.length hr
  rw [List.length_drop] at hlr
  cases hb with
  | num h2 => omega
  | down h2 => omega
  | @text _ e2 w ps l2 f hk2 hf hp hw hl2 =>
    have hu : upL 0 0 (l.drop i.toNat) = ps.length + 1 := by rw [e, upL_down (by omega) (.inr hk)]; exact congrArg (· + 1) (up_text hp hw)
    rw [hu] at hs
    simp only [List.length_append, List.length_cons] at hlr
    refine ⟨f, hf, by omega, by omega, ?_⟩
    have et : (l.take s.toNat).drop (Int.toNat (i + 1)) = ps := by
      rw [take_sub, show Int.toNat (i + 1) = i.toNat + 1 by omega, hr, show s.toNat - (i.toNat + 1) = ps.length by omega, List.take_left]
    rw [et]
    exact h.step (r := l2) (by omega) (by omega) (by rw [show Int.toNat (s + 1) = i.toNat + 1 + (ps.length + 1) by omega, ← List.drop_drop, hr, drop_mid]) hl2 (by rw [e, mT_text hk hp hw, fOf_some hf])
theorem SInv.down {p : Pln} {sh : Int} {l : List Ev} {i s : Int} {o : List UInt8} {x : Ev} (h : SInv p sh l i o) (hx : l[i.toNat]? = some x) (h2 : x.kind ≠ 2) (h3 : x.kind ≠ 3) (hs : s = i + (upL 0 0 (l.drop i.toNat) : Int)) :
    ∃ f, fieldAt p.shapes sh x.field = some f ∧ i + 1 ≤ s ∧ s + 1 ≤ (l.length : Int) ∧ Bd p f.msg ((l.take s.toNat).drop (Int.toNat (i + 1))) ∧ ((l.take s.toNat).drop (Int.toNat (i + 1))).length < l.length ∧ SInv p sh l (s + 1) (o ++ (tagP f.number 2 ++ frameOf (mT p f.msg ((l.take s.toNat).drop (Int.toNat (i + 1)))))) := by
  have e := drop_el hx
  have hb := h.bd
  have hlo := h.lo
  have hil := (List.getElem?_eq_some_iff.1 hx).1
  rw [e] at hb
  generalize hr : l.drop (i.toNat + 1) = r at *
  have hlr := congrArg List.length hr
  rw [List.length_drop] at hlr
  cases hb with
  | num h => omega
  | text h => omega
  | @down _ e2 w b l2 f hk hf hb1 hw hl2 =>
    have hu : upL 0 0 (l.drop i.toNat) = b.length + 1 := by rw [e, upL_down (by omega) (.inl hk)]; exact congrArg (· + 1) (up_bd hb1 hw)
    rw [hu] at hs
    simp only [List.length_append, List.length_cons] at hlr
    have et : (l.take s.toNat).drop (Int.toNat (i + 1)) = b := by
      rw [take_sub, show Int.toNat (i + 1) = i.toNat + 1 by omega, hr, show s.toNat - (i.toNat + 1) = b.length by omega, List.take_left]
    rw [et]
    refine ⟨f, hf, by omega, by omega, hb1, by omega, ?_⟩
    exact h.step (r := l2) (by omega) (by omega) (by rw [show Int.toNat (s + 1) = i.toNat + 1 + (b.length + 1) by omega, ← List.drop_drop, hr, drop_mid]) hl2 (by rw [e, mT_down hk hb1 hw, fOf_some hf])
theorem valsM_cons {f : Fld} {e : Ev} {r : List Ev} : valsM f (e :: r) = putNum f e.bits ++ valsM f r := by unfold valsM; rw [List.flatMap_cons]
theorem textM_cons {e : Ev} {r : List Ev} : textM (e :: r) = e.text ++ textM r := by unfold textM; rw [List.flatMap_cons]
theorem toByte_of (s : List UInt8) : List.map toByte (List.map (fun b => (UInt8.toNat b : Int)) s) = s := by
  rw [List.map_map]
  conv => rhs; rw [← List.map_id s]
  apply List.map_congr_left
  intro b _
  simp [toByte]
theorem faRun_b {p : Pln} : ∀ {r : List Ev} {a : Fa} {i : Int}, 0 ≤ i → 0 ≤ (faRun p a r i).2 ∧ (faRun p a r i).2 ≤ i + (r.length : Int)
  | [], a, i, h => by rw [faRun_nil]; split <;> simp only [List.length_nil] <;> omega
  | e :: r, a, i, h => by
    rw [faRun_cons]
    have := faRun_b (p := p) (r := r) (a := faStep p a e) (i := i + 1) (by omega)
    split <;> simp only [List.length_cons] <;> omega
theorem frameCode_b (p : Pln) (l : List Ev) : 0 ≤ (frameCode p l).2 ∧ (frameCode p l).2 ≤ (l.length : Int) + 1 := by
  unfold frameCode
  split
  · simp
  · split
    · rename_i e r _
      have := faRun_b (p := p) (r := r) (a := fa0 p) (i := 1) (by decide)
      simp only [List.length_cons]; omega
    · simp only [List.length_cons]; omega
theorem frErr_b (p : Pln) (l : List Ev) : 0 ≤ (frErr p l).2 ∧ (frErr p l).2 ≤ (l.length : Int) + 1 := by
  unfold frErr; have := frameCode_b p l; split <;> (try simp only) <;> omega
theorem frame_cut {l : List Ev} : List.drop 1 (List.take (Int.toNat ((l.length : Int) - 1)) l) = (l.drop 1).take (l.length - 2) := by
  rw [take_sub]; congr 1; omega
theorem bodyOf_cut {p : Pln} {l : List Ev} (h : (frameCode p l).1 = 0) (hv : EvsB l) : Bd p p.root (List.drop 1 (List.take (Int.toNat ((l.length : Int) - 1)) l)) ∧ bodyOf p l = mT p p.root (List.drop 1 (List.take (Int.toNat ((l.length : Int) - 1)) l)) ∧ 2 ≤ l.length ∧ planOk p = true := by
  obtain ⟨h1, h2, h3, h4, h5⟩ := frame_mb h hv
  rw [frame_cut]
  exact ⟨h4, by unfold bodyOf; rw [if_pos h, h5], h3, h1.pl⟩
theorem formL_cons {p : Pln} {f : List Ev} {r : List (List Ev)} {a : Int} : formL p (f :: r) a = if (frErr p f).1 ≠ 0 then ((frErr p f).1, a + (frErr p f).2) else formL p r (a + (f.length : Int)) := rfl
theorem cutN_0 {l : List Ev} (h : frameStop l 0 + 1 = 0) : cutN l = l.length := by unfold cutN; rw [if_pos h]
theorem cutN_1 {l : List Ev} (h : ¬ frameStop l 0 + 1 = 0) : cutN l = Int.toNat (frameStop l 0 + 1) := by unfold cutN; rw [if_neg h]
def oSz6 (j6 : Nat) (x : Sz) : List C := [.seq .shp x.plan.shapes, .int .i64 x.plan.root, .int .i64 x.plan.deep, .int .i64 x.plan.most, .seq .ev x.list, .int .i64 x.at_, .own j6]
theorem within_i (n : Int) (lo : Int) (hi : Int) : Fun Tryz.prog 143 [vI n, vI lo, vI hi] [] (.v (vB (within n lo hi))) [] := by
  have hN : bigN = 274877906944 := rfl
  refine fun_ofw Tryz.func143 (by kernel_rfl) (by kernel_rfl) (w := (.br (.leaf () []) (.leaf () []), ((decide (lo ≤ n)) = true → (.v (vB (decide (n ≤ hi))) : S) = .v (vB (within n lo hi)) ∧ ([] : List Blk) = []) ∧ ((decide (lo ≤ n)) = false → (.v (vB false) : S) = .v (vB (within n lo hi)) ∧ ([] : List Blk) = []))) (by kernel_rfl) ?_
  refine dsp (fun h1 p1 => ?_) fun h1 p1 => ?_
  exact ⟨(congrArg S.v (congrArg V.c (congrArg C.bool (by simp [within, *])))), rfl⟩
  exact ⟨(congrArg S.v (congrArg V.c (congrArg C.bool (by simp [within, *])))), rfl⟩
theorem within_s (n : Int) (lo : Int) (hi : Int) : Fun Tryz.prog 72 [vI n, vI lo, vI hi] [] (.v (vB (within n lo hi))) [] := by
  have hN : bigN = 274877906944 := rfl
  refine fun_ofw Tryz.func72 (by kernel_rfl) (by kernel_rfl) (w := (.br (.leaf () []) (.leaf () []), ((decide (lo ≤ n)) = true → (.v (vB (decide (n ≤ hi))) : S) = .v (vB (within n lo hi)) ∧ ([] : List Blk) = []) ∧ ((decide (lo ≤ n)) = false → (.v (vB false) : S) = .v (vB (within n lo hi)) ∧ ([] : List Blk) = []))) (by kernel_rfl) ?_
  refine dsp (fun h1 p1 => ?_) fun h1 p1 => ?_
  exact ⟨(congrArg S.v (congrArg V.c (congrArg C.bool (by simp [within, *])))), rfl⟩
  exact ⟨(congrArg S.v (congrArg V.c (congrArg C.bool (by simp [within, *])))), rfl⟩
theorem l1max (a : Int) (b : Int) : Fun Tryz.prog 163 [vI a, vI b] [] (.v (vI (max a b))) [] := by
  have hN : bigN = 274877906944 := rfl
  refine fun_ofw Tryz.func163 (by kernel_rfl) (by kernel_rfl) (w := (.br (.leaf () []) (.leaf () []), ((decide (b < a)) = true → (.v (vI a) : S) = .v (vI (max a b)) ∧ ([] : List Blk) = []) ∧ ((decide (b < a)) = false → (.v (vI b) : S) = .v (vI (max a b)) ∧ ([] : List Blk) = []))) (by kernel_rfl) ?_
  refine dsp (fun h1 p1 => ?_) fun h1 p1 => ?_
  exact ⟨(congrArg S.v (congrArg V.c (congrArg (C.int .i64) (by omega)))), rfl⟩
  exact ⟨(congrArg S.v (congrArg V.c (congrArg (C.int .i64) (by omega)))), rfl⟩
theorem numberOk_i (n : Int) : Fun Tryz.prog 234 [vI n] [] (.v (vB (numberOk n))) [] := by
  have hN : bigN = 274877906944 := rfl
  refine fun_ofw Tryz.func234 (by kernel_rfl) (by kernel_rfl) (w := let z1 := within n 1 536870911; let z2 := within n 19000 19999; (.seg [.call [] (.v (vB z1)) []] (.br (.seg [.call [] (.v (vB z2)) []] (.leaf () [])) (.leaf () [])), (Fun Tryz.prog 143 [vI n, vI 1, vI 536870911] [] (.v (vB z1)) []) ∧ (z1 = true → (Fun Tryz.prog 143 [vI n, vI 19000, vI 19999] [] (.v (vB z2)) []) ∧ (.v (vB (!z2)) : S) = .v (vB (numberOk n)) ∧ ([] : List Blk) = []) ∧ (z1 = false → (.v (vB false) : S) = .v (vB (numberOk n)) ∧ ([] : List Blk) = []))) (by kernel_rfl) ?_
  refine ⟨(within_i _ _ _), fun h1 => have p1 := within_t h1; ?_, fun h1 => have p1 := within_f h1; ?_⟩
  exact ⟨(within_i _ _ _), (congrArg S.v (congrArg V.c (congrArg C.bool (by simp [numberOk, *])))), rfl⟩
  exact ⟨(congrArg S.v (congrArg V.c (congrArg C.bool (by simp [numberOk, *])))), rfl⟩
theorem numberOk_s (n : Int) : Fun Tryz.prog 228 [vI n] [] (.v (vB (numberOk n))) [] := by
  have hN : bigN = 274877906944 := rfl
  refine fun_ofw Tryz.func228 (by kernel_rfl) (by kernel_rfl) (w := let z1 := within n 1 536870911; let z2 := within n 19000 19999; (.seg [.call [] (.v (vB z1)) []] (.br (.seg [.call [] (.v (vB z2)) []] (.leaf () [])) (.leaf () [])), (Fun Tryz.prog 72 [vI n, vI 1, vI 536870911] [] (.v (vB z1)) []) ∧ (z1 = true → (Fun Tryz.prog 72 [vI n, vI 19000, vI 19999] [] (.v (vB z2)) []) ∧ (.v (vB (!z2)) : S) = .v (vB (numberOk n)) ∧ ([] : List Blk) = []) ∧ (z1 = false → (.v (vB false) : S) = .v (vB (numberOk n)) ∧ ([] : List Blk) = []))) (by kernel_rfl) ?_
  refine ⟨(within_s _ _ _), fun h1 => have p1 := within_t h1; ?_, fun h1 => have p1 := within_f h1; ?_⟩
  exact ⟨(within_s _ _ _), (congrArg S.v (congrArg V.c (congrArg C.bool (by simp [numberOk, *])))), rfl⟩
  exact ⟨(congrArg S.v (congrArg V.c (congrArg C.bool (by simp [numberOk, *])))), rfl⟩
theorem wireOk_i (w : Int) : Fun Tryz.prog 145 [vI w] [] (.v (vB (wireOk w))) [] := by
  have hN : bigN = 274877906944 := rfl
  refine fun_ofw Tryz.func145 (by kernel_rfl) (by kernel_rfl) (w := let z1 := vB (wireOk w); let z2 := ([] : List Blk); let z3 := (.v (vB true) : S); (.br (.leaf () []) (.br (.leaf () []) (.br (.leaf () []) (.leaf () []))), ((decide (w = 0)) = true → z3 = .v z1 ∧ z2 = []) ∧ ((decide (w = 0)) = false → ((decide (w = 1)) = true → z3 = .v z1 ∧ z2 = []) ∧ ((decide (w = 1)) = false → ((decide (w = 2)) = true → z3 = .v z1 ∧ z2 = []) ∧ ((decide (w = 2)) = false → (.v (vB (decide (w = 5))) : S) = .v z1 ∧ z2 = []))))) (by kernel_rfl) ?_
  refine dsp (fun h1 p1 => ?_) fun h1 p1 => ?_
  exact ⟨(congrArg S.v (congrArg V.c (congrArg C.bool (by simp [wireOk, *])))), rfl⟩
  refine dsp (fun h2 p2 => ?_) fun h2 p2 => ?_
  exact ⟨(congrArg S.v (congrArg V.c (congrArg C.bool (by simp [wireOk, *])))), rfl⟩
  refine dsp (fun h3 p3 => ?_) fun h3 p3 => ?_
  exact ⟨(congrArg S.v (congrArg V.c (congrArg C.bool (by simp [wireOk, *])))), rfl⟩
  exact ⟨(congrArg S.v (congrArg V.c (congrArg C.bool (by simp [wireOk, *])))), rfl⟩
theorem wireOk_s (w : Int) : Fun Tryz.prog 120 [vI w] [] (.v (vB (wireOk w))) [] := by
  have hN : bigN = 274877906944 := rfl
  refine fun_ofw Tryz.func120 (by kernel_rfl) (by kernel_rfl) (w := let z1 := vB (wireOk w); let z2 := ([] : List Blk); let z3 := (.v (vB true) : S); (.br (.leaf () []) (.br (.leaf () []) (.br (.leaf () []) (.leaf () []))), ((decide (w = 0)) = true → z3 = .v z1 ∧ z2 = []) ∧ ((decide (w = 0)) = false → ((decide (w = 1)) = true → z3 = .v z1 ∧ z2 = []) ∧ ((decide (w = 1)) = false → ((decide (w = 2)) = true → z3 = .v z1 ∧ z2 = []) ∧ ((decide (w = 2)) = false → (.v (vB (decide (w = 5))) : S) = .v z1 ∧ z2 = []))))) (by kernel_rfl) ?_
  refine dsp (fun h1 p1 => ?_) fun h1 p1 => ?_
  exact ⟨(congrArg S.v (congrArg V.c (congrArg C.bool (by simp [wireOk, *])))), rfl⟩
  refine dsp (fun h2 p2 => ?_) fun h2 p2 => ?_
  exact ⟨(congrArg S.v (congrArg V.c (congrArg C.bool (by simp [wireOk, *])))), rfl⟩
  refine dsp (fun h3 p3 => ?_) fun h3 p3 => ?_
  exact ⟨(congrArg S.v (congrArg V.c (congrArg C.bool (by simp [wireOk, *])))), rfl⟩
  exact ⟨(congrArg S.v (congrArg V.c (congrArg C.bool (by simp [wireOk, *])))), rfl⟩
theorem kindOk_i (k : Int) : Fun Tryz.prog 224 [vI k] [] (.v (vB (kindOk k))) [] := by
  have hN : bigN = 274877906944 := rfl
  refine fun_ofw Tryz.func224 (by kernel_rfl) (by kernel_rfl) (w := let z1 := vB (within k 1 8); (.seg [.call [] (.v z1) []] (.leaf () []), (Fun Tryz.prog 143 [vI k, vI 1, vI 8] [] (.v z1) []) ∧ (.v z1 : S) = .v (vB (kindOk k)) ∧ ([] : List Blk) = [])) (by kernel_rfl) ?_
  exact ⟨(within_i _ _ _), (congrArg S.v (congrArg V.c (congrArg C.bool (by rfl)))), rfl⟩
theorem kindOk_s (k : Int) : Fun Tryz.prog 175 [vI k] [] (.v (vB (kindOk k))) [] := by
  have hN : bigN = 274877906944 := rfl
  refine fun_ofw Tryz.func175 (by kernel_rfl) (by kernel_rfl) (w := let z1 := vB (within k 1 8); (.seg [.call [] (.v z1) []] (.leaf () []), (Fun Tryz.prog 72 [vI k, vI 1, vI 8] [] (.v z1) []) ∧ (.v z1 : S) = .v (vB (kindOk k)) ∧ ([] : List Blk) = [])) (by kernel_rfl) ?_
  exact ⟨(within_s _ _ _), (congrArg S.v (congrArg V.c (congrArg C.bool (by rfl)))), rfl⟩
theorem numeric_i (k : Int) : Fun Tryz.prog 222 [vI k] [] (.v (vB (numeric k))) [] := by
  have hN : bigN = 274877906944 := rfl
  refine fun_ofw Tryz.func222 (by kernel_rfl) (by kernel_rfl) (w := let z1 := vB (within k 1 5); (.seg [.call [] (.v z1) []] (.leaf () []), (Fun Tryz.prog 143 [vI k, vI 1, vI 5] [] (.v z1) []) ∧ (.v z1 : S) = .v (vB (numeric k)) ∧ ([] : List Blk) = [])) (by kernel_rfl) ?_
  exact ⟨(within_i _ _ _), (congrArg S.v (congrArg V.c (congrArg C.bool (by rfl)))), rfl⟩
theorem numeric_s (k : Int) : Fun Tryz.prog 176 [vI k] [] (.v (vB (numeric k))) [] := by
  have hN : bigN = 274877906944 := rfl
  refine fun_ofw Tryz.func176 (by kernel_rfl) (by kernel_rfl) (w := let z1 := vB (within k 1 5); (.seg [.call [] (.v z1) []] (.leaf () []), (Fun Tryz.prog 72 [vI k, vI 1, vI 5] [] (.v z1) []) ∧ (.v z1 : S) = .v (vB (numeric k)) ∧ ([] : List Blk) = [])) (by kernel_rfl) ?_
  exact ⟨(within_s _ _ _), (congrArg S.v (congrArg V.c (congrArg C.bool (by rfl)))), rfl⟩
theorem wireOf_i (k : Int) : Fun Tryz.prog 192 [vI k] [] (.v (vI (wireOf k))) [] := by
  have hN : bigN = 274877906944 := rfl
  refine fun_ofw Tryz.func192 (by kernel_rfl) (by kernel_rfl) (w := let zi : Int → C := .int .i64; let z1 := List.getD [0, 0, 0, 5, 1, 2, 2, 2] (Int.toNat (k - 1)) 0; (.seg [.call [] (.v (vB (kindOk k))) []] (.br (.leaf () []) (.seg [.as 8 (.v (vI (k - 1))), .ce (zi z1)] (.leaf () []))), (Fun Tryz.prog 224 [vI k] [] (.v (vB (kindOk k))) []) ∧ ((!(kindOk k)) = true → (.v (vI (-1)) : S) = .v (vI (wireOf k)) ∧ ([] : List Blk) = []) ∧ ((!(kindOk k)) = false → ((.v (vI (IntKind.i64.wrap (k - 1))) : S) = .v (vI (k - 1))) ∧ ((([zi 0, zi 0, zi 0, zi 5, zi 1, zi 2, zi 2, zi 2] : List C)[Int.toNat (k - 1)]?) = some (zi z1)) ∧ (k - 1 < ((8 : Nat) : Int)) ∧ ((0 : Int) ≤ k - 1) ∧ (.v (vI z1) : S) = .v (vI (wireOf k)) ∧ ([] : List Blk) = []))) (by kernel_rfl) ?_
  refine ⟨(kindOk_i _), fun h1 => have q1 := bnot_t h1; have p1 := within_f q1; ?_, fun h1 => have q1 := bnot_f h1; have p1 := within_t q1; ?_⟩
  refine ⟨(sI ?_), rfl⟩
  rotate_left
  refine ⟨(as_i64 (by omega) (by omega)), (ce_int (l := [0, 0, 0, 5, 1, 2, 2, 2]) (by simp; omega)), (by omega), (by omega), (sI ?_), rfl⟩
  rotate_left
  all_goals first | (simp [wireOf, *]; done) | (rcases (show k = 1 ∨ k = 2 ∨ k = 3 ∨ k = 4 ∨ k = 5 ∨ k = 6 ∨ k = 7 ∨ k = 8 by omega) with rfl | rfl | rfl | rfl | rfl | rfl | rfl | rfl <;> rfl)
theorem wireOf_s (k : Int) : Fun Tryz.prog 130 [vI k] [] (.v (vI (wireOf k))) [] := by
  have hN : bigN = 274877906944 := rfl
  refine fun_ofw Tryz.func130 (by kernel_rfl) (by kernel_rfl) (w := let z1 := vI (wireOf k); let z2 := ([] : List Blk); (.seg [.call [] (.v (vB (kindOk k))) []] (.br (.leaf () []) (.br (.leaf () []) (.br (.leaf () []) (.seg [.call [] (.v (vB (numeric k))) []] (.br (.leaf () []) (.leaf () [])))))), (Fun Tryz.prog 175 [vI k] [] (.v (vB (kindOk k))) []) ∧ ((!(kindOk k)) = true → (.v (vI (-1)) : S) = .v z1 ∧ z2 = []) ∧ ((!(kindOk k)) = false → ((decide (k = 4)) = true → (.v (vI 5) : S) = .v z1 ∧ z2 = []) ∧ ((decide (k = 4)) = false → ((decide (k = 5)) = true → (.v (vI 1) : S) = .v z1 ∧ z2 = []) ∧ ((decide (k = 5)) = false → (Fun Tryz.prog 176 [vI k] [] (.v (vB (numeric k))) []) ∧ ((numeric k) = true → (.v (vI 0) : S) = .v z1 ∧ z2 = []) ∧ ((numeric k) = false → (.v (vI 2) : S) = .v z1 ∧ z2 = [])))))) (by kernel_rfl) ?_
  refine ⟨(kindOk_s _), fun h1 => have q1 := bnot_t h1; have p1 := within_f q1; ?_, fun h1 => have q1 := bnot_f h1; have p1 := within_t q1; ?_⟩
  refine ⟨(sI ?_), rfl⟩
  rotate_left
  refine dsp (fun h2 p2 => ?_) fun h2 p2 => ?_
  refine ⟨(sI ?_), rfl⟩
  rotate_left
  refine dsp (fun h3 p3 => ?_) fun h3 p3 => ?_
  refine ⟨(sI ?_), rfl⟩
  rotate_left
  refine ⟨(numeric_s _), fun h4 => have p4 := within_t h4; ?_, fun h4 => have p4 := within_f h4; ?_⟩
  refine ⟨(sI ?_), rfl⟩
  rotate_left
  refine ⟨(sI ?_), rfl⟩
  rotate_left
  all_goals first | (simp [wireOf, *] <;> (repeat' split) <;> omega) | (subst_vars; rfl)
theorem widthOf_i (w : Int) : Fun Tryz.prog 188 [vI w] [] (.v (vI (widthOf w))) [] := by
  have hN : bigN = 274877906944 := rfl
  refine fun_ofw Tryz.func188 (by kernel_rfl) (by kernel_rfl) (w := (.br (.leaf () []) (.br (.leaf () []) (.leaf () [])), ((decide (w = 1)) = true → (.v (vI 8) : S) = .v (vI (widthOf w)) ∧ ([] : List Blk) = []) ∧ ((decide (w = 1)) = false → ((decide (w = 5)) = true → (.v (vI 4) : S) = .v (vI (widthOf w)) ∧ ([] : List Blk) = []) ∧ ((decide (w = 5)) = false → (.v (vI 0) : S) = .v (vI (widthOf w)) ∧ ([] : List Blk) = [])))) (by kernel_rfl) ?_
  refine dsp (fun h1 p1 => ?_) fun h1 p1 => ?_
  exact ⟨(congrArg S.v (congrArg V.c (congrArg (C.int .i64) (by simp [widthOf, *])))), rfl⟩
  refine dsp (fun h2 p2 => ?_) fun h2 p2 => ?_
  exact ⟨(congrArg S.v (congrArg V.c (congrArg (C.int .i64) (by simp [widthOf, *])))), rfl⟩
  exact ⟨(congrArg S.v (congrArg V.c (congrArg (C.int .i64) (by simp [widthOf, *])))), rfl⟩
theorem widthOf_s (w : Int) : Fun Tryz.prog 126 [vI w] [] (.v (vI (widthOf w))) [] := by
  have hN : bigN = 274877906944 := rfl
  refine fun_ofw Tryz.func126 (by kernel_rfl) (by kernel_rfl) (w := (.br (.leaf () []) (.br (.leaf () []) (.leaf () [])), ((decide (w = 1)) = true → (.v (vI 8) : S) = .v (vI (widthOf w)) ∧ ([] : List Blk) = []) ∧ ((decide (w = 1)) = false → ((decide (w = 5)) = true → (.v (vI 4) : S) = .v (vI (widthOf w)) ∧ ([] : List Blk) = []) ∧ ((decide (w = 5)) = false → (.v (vI 0) : S) = .v (vI (widthOf w)) ∧ ([] : List Blk) = [])))) (by kernel_rfl) ?_
  refine dsp (fun h1 p1 => ?_) fun h1 p1 => ?_
  exact ⟨(congrArg S.v (congrArg V.c (congrArg (C.int .i64) (by simp [widthOf, *])))), rfl⟩
  refine dsp (fun h2 p2 => ?_) fun h2 p2 => ?_
  exact ⟨(congrArg S.v (congrArg V.c (congrArg (C.int .i64) (by simp [widthOf, *])))), rfl⟩
  exact ⟨(congrArg S.v (congrArg V.c (congrArg (C.int .i64) (by simp [widthOf, *])))), rfl⟩
theorem bitsFit_i (k : Int) (u : Int) (hp1 : (0 : Int) ≤ u ∧ u ≤ 18446744073709551615) : Fun Tryz.prog 244 [vI k, .c (.int .u64 u)] [] (.v (vB (bitsFit k u))) [] := by
  have hN : bigN = 274877906944 := rfl
  refine fun_ofw Tryz.func244 (by kernel_rfl) (by kernel_rfl) (w := let z1 := vB (bitsFit k u); let z2 := ([] : List Blk); let z3 := (.v (vB true) : S); (.br (.seg [.br true] (.leaf () [])) (.br (.seg [.br true] (.leaf () [])) (.br (.leaf () []) (.br (.leaf () []) (.br (.seg [.as 17 (.v (.c (.int .u64 (u / 4294967296))))] (.leaf () [])) (.leaf () []))))), ((decide (k = 1)) = true → ((decide (k = 1)) = true) ∧ z3 = .v z1 ∧ z2 = []) ∧ ((decide (k = 1)) = false → ((decide (k = 2)) = true → ((decide (k = 2)) = true) ∧ z3 = .v z1 ∧ z2 = []) ∧ ((decide (k = 2)) = false → ((decide (k = 5)) = true → z3 = .v z1 ∧ z2 = []) ∧ ((decide (k = 5)) = false → ((decide (k = 3)) = true → (.v (vB (decide (u ≤ 1))) : S) = .v z1 ∧ z2 = []) ∧ ((decide (k = 3)) = false → ((decide (k = 4)) = true → ((0 : Int) ≤ 32) ∧ ((.v (.c (.int .u64 (Int.fdiv u (2 ^ 32)))) : S) = .v (.c (.int .u64 (u / 4294967296)))) ∧ (.v (vB (decide (u / 4294967296 = 0))) : S) = .v z1 ∧ z2 = []) ∧ ((decide (k = 4)) = false → (.v (vB false) : S) = .v z1 ∧ z2 = []))))))) (by kernel_rfl) ?_
  refine dsp (fun h1 p1 => ?_) fun h1 p1 => ?_
  refine ⟨h1, (sB ?_), rfl⟩
  rotate_left
  refine dsp (fun h2 p2 => ?_) fun h2 p2 => ?_
  refine ⟨h2, (sB ?_), rfl⟩
  rotate_left
  refine dsp (fun h3 p3 => ?_) fun h3 p3 => ?_
  refine ⟨(sB ?_), rfl⟩
  rotate_left
  refine dsp (fun h4 p4 => ?_) fun h4 p4 => ?_
  refine ⟨(sB ?_), rfl⟩
  rotate_left
  refine dsp (fun h5 p5 => ?_) fun h5 p5 => ?_
  refine ⟨(by decide), (as_shr (k := 32) (by decide) (by decide)), (sB ?_), rfl⟩
  rotate_left
  refine ⟨(sB ?_), rfl⟩
  rotate_left
  all_goals simp [bitsFit, numeric, within, *] <;> omega
theorem bitsFit_s (k : Int) (u : Int) (hp1 : (0 : Int) ≤ u ∧ u ≤ 18446744073709551615) : Fun Tryz.prog 230 [vI k, .c (.int .u64 u)] [] (.v (vB (bitsFit k u))) [] := by
  have hN : bigN = 274877906944 := rfl
  refine fun_ofw Tryz.func230 (by kernel_rfl) (by kernel_rfl) (w := let z1 := vB (bitsFit k u); (.br (.leaf () []) (.br (.leaf () []) (.seg [.call [] (.v (vB (numeric k))) []] (.leaf () []))), ((decide (k = 3)) = true → (.v (vB (decide (u ≤ 1))) : S) = .v z1 ∧ ([] : List Blk) = []) ∧ ((decide (k = 3)) = false → ((decide (k = 4)) = true → (.v (vB (decide (u ≤ 4294967295))) : S) = .v z1 ∧ ([] : List Blk) = []) ∧ ((decide (k = 4)) = false → (Fun Tryz.prog 176 [vI k] [] (.v (vB (numeric k))) []) ∧ (.v (vB (numeric k)) : S) = .v z1 ∧ ([] : List Blk) = [])))) (by kernel_rfl) ?_
  refine dsp (fun h1 p1 => ?_) fun h1 p1 => ?_
  refine ⟨(sB ?_), rfl⟩
  rotate_left
  refine dsp (fun h2 p2 => ?_) fun h2 p2 => ?_
  refine ⟨(sB ?_), rfl⟩
  rotate_left
  refine ⟨(numeric_s _), (sB ?_), rfl⟩
  rotate_left
  all_goals simp [bitsFit, numeric, within, *] <;> omega
theorem runs_i (f : Fld) : Fun Tryz.prog 186 [.agg (cFld f)] [] (.v (vB (runs f))) [] := by
  have hN : bigN = 274877906944 := rfl
  refine fun_ofw Tryz.func186 (by kernel_rfl) (by kernel_rfl) (w := let z1 := vB (numeric f.kind); (.br (.seg [.call [] (.v z1) []] (.leaf () [])) (.leaf () []), (f.rep = true → (Fun Tryz.prog 222 [vI f.kind] [] (.v z1) []) ∧ (.v z1 : S) = .v (vB (runs f)) ∧ ([] : List Blk) = []) ∧ (f.rep = false → (.v (vB false) : S) = .v (vB (runs f)) ∧ ([] : List Blk) = []))) (by kernel_rfl) ?_
  refine ⟨fun h1 => ?_, fun h1 => ?_⟩
  exact ⟨(numeric_i _), (congrArg S.v (congrArg V.c (congrArg C.bool (by simp [runs, *])))), rfl⟩
  exact ⟨(congrArg S.v (congrArg V.c (congrArg C.bool (by simp [runs, *])))), rfl⟩
theorem runs_s (f : Fld) : Fun Tryz.prog 128 [.agg (cFld f)] [] (.v (vB (runs f))) [] := by
  have hN : bigN = 274877906944 := rfl
  refine fun_ofw Tryz.func128 (by kernel_rfl) (by kernel_rfl) (w := let z1 := vB (numeric f.kind); (.br (.seg [.call [] (.v z1) []] (.leaf () [])) (.leaf () []), (f.rep = true → (Fun Tryz.prog 176 [vI f.kind] [] (.v z1) []) ∧ (.v z1 : S) = .v (vB (runs f)) ∧ ([] : List Blk) = []) ∧ (f.rep = false → (.v (vB false) : S) = .v (vB (runs f)) ∧ ([] : List Blk) = []))) (by kernel_rfl) ?_
  refine ⟨fun h1 => ?_, fun h1 => ?_⟩
  exact ⟨(numeric_s _), (congrArg S.v (congrArg V.c (congrArg C.bool (by simp [runs, *])))), rfl⟩
  exact ⟨(congrArg S.v (congrArg V.c (congrArg C.bool (by simp [runs, *])))), rfl⟩
theorem allowed_i (f : Fld) (w : Int) (hp1 : (0 : Int) ≤ w) : Fun Tryz.prog 187 [.agg (cFld f), vI w] [] (.v (vB (allowed f w))) [] := by
  have hN : bigN = 274877906944 := rfl
  refine fun_ofw Tryz.func187 (by kernel_rfl) (by kernel_rfl) (w := let z1 := vB (allowed f w); (.seg [.call [] (.v (vI (wireOf f.kind))) []] (.br (.leaf () []) (.br (.seg [.call [] (.v (vB (runs f))) []] (.leaf () [])) (.leaf () []))), (Fun Tryz.prog 192 [vI f.kind] [] (.v (vI (wireOf f.kind))) []) ∧ ((decide (w = wireOf f.kind)) = true → (.v (vB true) : S) = .v z1 ∧ ([] : List Blk) = []) ∧ ((decide (w = wireOf f.kind)) = false → ((decide (w = 2)) = true → (Fun Tryz.prog 186 [.agg (cFld f)] [] (.v (vB (runs f))) []) ∧ (.v (vB (runs f)) : S) = .v z1 ∧ ([] : List Blk) = []) ∧ ((decide (w = 2)) = false → (.v (vB false) : S) = .v z1 ∧ ([] : List Blk) = [])))) (by kernel_rfl) ?_
  refine ⟨(wireOf_i _), dsp (fun h1 p1 => ?_) fun h1 p1 => ?_⟩
  refine ⟨(sB ?_), rfl⟩
  rotate_left
  refine dsp (fun h2 p2 => ?_) fun h2 p2 => ?_
  refine ⟨(runs_i f), (sB ?_), rfl⟩
  rotate_left
  refine ⟨(sB ?_), rfl⟩
  rotate_left
  all_goals first | (simp [allowed, *] <;> (repeat' split) <;> omega) | (simp [allowed, wireOf, *] <;> (repeat' split) <;> omega)
theorem allowed_s (f : Fld) (w : Int) (hp1 : (0 : Int) ≤ w) : Fun Tryz.prog 127 [.agg (cFld f), vI w] [] (.v (vB (allowed f w))) [] := by
  have hN : bigN = 274877906944 := rfl
  refine fun_ofw Tryz.func127 (by kernel_rfl) (by kernel_rfl) (w := let z2 := vB (runs f); let z3 := vB (allowed f w); let z4 := kindOk f.kind; let z5 := ([] : List Blk); let z1 := (decide (w = 2)) = false → (.v (vB false) : S) = .v z3 ∧ z5 = []; (.seg [.call [] (.v (vB z4)) []] (.br (.seg [.call [] (.v (vI (wireOf f.kind))) []] (.br (.leaf () []) (.br (.seg [.call [] (.v z2) []] (.leaf () [])) (.leaf () [])))) (.br (.seg [.call [] (.v z2) []] (.leaf () [])) (.leaf () []))), (Fun Tryz.prog 175 [vI f.kind] [] (.v (vB z4)) []) ∧ (z4 = true → (Fun Tryz.prog 130 [vI f.kind] [] (.v (vI (wireOf f.kind))) []) ∧ ((decide (w = wireOf f.kind)) = true → (.v (vB true) : S) = .v z3 ∧ z5 = []) ∧ ((decide (w = wireOf f.kind)) = false → ((decide (w = 2)) = true → (Fun Tryz.prog 128 [.agg (cFld f)] [] (.v z2) []) ∧ (.v z2 : S) = .v z3 ∧ z5 = []) ∧ z1)) ∧ (z4 = false → ((decide (w = 2)) = true → (Fun Tryz.prog 128 [.agg (cFld f)] [] (.v z2) []) ∧ (.v z2 : S) = .v z3 ∧ z5 = []) ∧ z1))) (by kernel_rfl) ?_
  refine ⟨(kindOk_s _), fun h1 => have p1 := within_t h1; ?_, fun h1 => have p1 := within_f h1; ?_⟩
  refine ⟨(wireOf_s _), dsp (fun h2 p2 => ?_) fun h2 p2 => ?_⟩
  refine ⟨(sB ?_), rfl⟩
  rotate_left
  refine dsp (fun h3 p3 => ?_) fun h3 p3 => ?_
  refine ⟨(runs_s f), (sB ?_), rfl⟩
  rotate_left
  refine ⟨(sB ?_), rfl⟩
  rotate_left
  refine dsp (fun h2 p2 => ?_) fun h2 p2 => ?_
  refine ⟨(runs_s f), (sB ?_), rfl⟩
  rotate_left
  refine ⟨(sB ?_), rfl⟩
  rotate_left
  all_goals first | (simp [allowed, *] <;> (repeat' split) <;> omega) | (simp [allowed, wireOf, *] <;> (repeat' split) <;> omega)
structure putVar_s_V0 where
  u : Int
  out : List Int
def putVar_s_F0 (u : Int) : Fam := ⟨putVar_s_V0, fun q1 => [(0, .v (.c (.int .u64 q1.u))), (3, .v (vO 0))], fun q1 => [.lst .u8 q1.out], fun q1 => (0 : Int) ≤ q1.u ∧ q1.u ≤ 18446744073709551615 ∧ List.map toByte q1.out ++ putVar q1.u = putVar u ∧ q1.out.length + List.length (putVar q1.u) ≤ 10, fun q1 => q1.u.toNat⟩
theorem putVar_s (u : Int) (hp1 : (0 : Int) ≤ u ∧ u ≤ 18446744073709551615) : Fun Tryz.prog 240 [.c (.int .u64 u)] [] (.v (vT (putVar u))) [] := by
  have hN : bigN = 274877906944 := rfl
  refine fun_ofw Tryz.func240 (by kernel_rfl) (by kernel_rfl) (w := let z2 := putVar_s_F0 u; (.seg [.ty .u8, .at 0, .keep [0, 3], .sel [0]] (.loop z2 fun q1 => .br (.seg [.as 9 (.v (.c (.int .u64 (q1.u % 128)))), .as 10 (.v (.c (.int .u64 (q1.u % 128 + 128)))), .as 11 (.v (.c (.int .u8 (q1.u % 128 + 128)))), .ty .u8, .ty .u8, .as 15 (.v (.c (.int .u64 (q1.u / 128)))), .at 0, .keep [0, 3], .sel [2]] (.next)) (.seg [.as 18 (.v (.c (.int .u8 q1.u))), .ty .u8, .ty .u8] (.leaf () []))), z2.Has [(0, .v (.c (.int .u64 u))), (3, .v (vO 0))] [.lst .u8 ([] : List Int)] ∧ ∀ q1, z2.inv q1 → (let z1 := q1.u % 128 + 128; ((decide (127 < q1.u)) = true → ((128 : Int) ≠ 0) ∧ ((.v (.c (.int .u64 (Int.tmod q1.u 128))) : S) = .v (.c (.int .u64 (q1.u % 128)))) ∧ ((.v (.c (.int .u64 (IntKind.u64.wrap ((q1.u % 128) + 128)))) : S) = .v (.c (.int .u64 z1))) ∧ ((.v (.c (.int .u8 (IntKind.u8.wrap z1))) : S) = .v (.c (.int .u8 z1))) ∧ (q1.out.length + List.length [q1.u % 128 + 128] ≤ bigN) ∧ ((128 : Int) ≠ 0) ∧ ((.v (.c (.int .u64 (IntKind.u64.wrap (Int.tdiv q1.u 128)))) : S) = .v (.c (.int .u64 (q1.u / 128)))) ∧ z2.Nxt q1 [(0, .v (.c (.int .u64 (q1.u / 128)))), (3, .v (vO 0))] [.lst .u8 (q1.out ++ [q1.u % 128 + 128])]) ∧ ((decide (127 < q1.u)) = false → ((.v (.c (.int .u8 (IntKind.u8.wrap (q1.u)))) : S) = .v (.c (.int .u8 q1.u))) ∧ (q1.out.length + List.length [q1.u] ≤ bigN) ∧ (.v (vT (List.map toByte (q1.out ++ [q1.u]))) : S) = .v (vT (putVar u)) ∧ ([] : List Blk) = [])))) (by kernel_rfl) ?_
  refine ⟨has_of (j := (⟨u, ([] : List Int)⟩ : putVar_s_V0)) rfl rfl (by dsimp only [putVar_s_F0]; exact ⟨by omega, by omega, by simp, by have := varLen_b (u := u) (by omega); unfold varLen at this; simp; omega⟩), fun (q1 : putVar_s_V0) hq_q1 => ?_⟩
  have hi_q1 : (0 : Int) ≤ q1.u ∧ q1.u ≤ 18446744073709551615 ∧ List.map toByte q1.out ++ putVar q1.u = putVar u ∧ q1.out.length + List.length (putVar q1.u) ≤ 10 := hq_q1
  obtain ⟨v1, v2, v3, v4⟩ := hi_q1
  refine dsp (fun h1 p1 => ?_) fun h1 p1 => ?_
  exact ⟨(by decide), (as_tmod (by omega)), (as_u64 (by omega) (by omega)), (as_u8 (by omega) (by omega)), (by have := putVar_pos q1.u; simp; omega), (by decide), (as_tdiv_u64 (by omega) (by omega) (by decide)), nxt_of (j := (⟨q1.u / 128, q1.out ++ [q1.u % 128 + 128]⟩ : putVar_s_V0)) rfl rfl (by dsimp only [putVar_s_F0]; exact ⟨by omega, by omega, by rw [← v3, putVar_big (u := q1.u) (by omega) (by omega)]; simp [toByte], by rw [putVar_big (u := q1.u) (by omega) (by omega)] at v4; simp at v4 ⊢; omega⟩) (by dsimp only [putVar_s_F0]; omega)⟩
  refine ⟨(as_u8 (by omega) (by omega)), (by have := putVar_pos q1.u; simp; omega), (congrArg S.v (congrArg V.c (congrArg C.str ?_))), rfl⟩
  rotate_left
  all_goals rw [← v3, putVar_small (u := q1.u) (by omega) (by omega)]; simp [toByte]
structure varLen_i_V0 where
  u : Int
  n : Int
def varLen_i_F0 (u : Int) : Fam := ⟨varLen_i_V0, fun q1 => [(0, .v (.c (.int .u64 q1.u))), (3, .v (vI q1.n))], fun _ => [], fun q1 => (0 : Int) ≤ q1.u ∧ q1.u ≤ 18446744073709551615 ∧ ((List.length (putVar q1.u) : Nat) : Int) + q1.n = varLen u + 1 ∧ 1 ≤ q1.n, fun q1 => q1.u.toNat⟩
theorem varLen_i (u : Int) (hp1 : (0 : Int) ≤ u ∧ u ≤ 18446744073709551615) : Fun Tryz.prog 239 [.c (.int .u64 u)] [] (.v (vI (varLen u))) [] := by
  have hN : bigN = 274877906944 := rfl
  refine fun_ofw Tryz.func239 (by kernel_rfl) (by kernel_rfl) (w := let z1 := varLen_i_F0 u; (.seg [.at 0, .keep [0, 3], .sel []] (.loop z1 fun q1 => .br (.seg [.as 9 (.v (vI (q1.n + 1))), .as 7 (.v (.c (.int .u64 (q1.u / 128)))), .at 0, .keep [0, 3], .sel []] (.next)) (.leaf () [])), z1.Has [(0, .v (.c (.int .u64 u))), (3, .v (vI 1))] [] ∧ ∀ q1, z1.inv q1 → (((decide (127 < q1.u)) = true → ((.v (vI (IntKind.i64.wrap (q1.n + 1))) : S) = .v (vI (q1.n + 1))) ∧ ((0 : Int) ≤ 7) ∧ ((.v (.c (.int .u64 (Int.fdiv q1.u (2 ^ 7)))) : S) = .v (.c (.int .u64 (q1.u / 128)))) ∧ z1.Nxt q1 [(0, .v (.c (.int .u64 (q1.u / 128)))), (3, .v (vI (q1.n + 1)))] []) ∧ ((decide (127 < q1.u)) = false → (.v (vI q1.n) : S) = .v (vI (varLen u)) ∧ ([] : List Blk) = [])))) (by kernel_rfl) ?_
  refine ⟨has_of (j := (⟨u, 1⟩ : varLen_i_V0)) rfl rfl (by dsimp only [varLen_i_F0]; exact ⟨by omega, by omega, by unfold varLen; omega, by omega⟩), fun (q1 : varLen_i_V0) hq_q1 => ?_⟩
  have hi_q1 : (0 : Int) ≤ q1.u ∧ q1.u ≤ 18446744073709551615 ∧ ((List.length (putVar q1.u) : Nat) : Int) + q1.n = varLen u + 1 ∧ 1 ≤ q1.n := hq_q1
  obtain ⟨v1, v2, v3, v4⟩ := hi_q1
  have hb := varLen_b (u := u) (by omega)
  have hc := putVar_pos q1.u
  refine dsp (fun h1 p1 => ?_) fun h1 p1 => ?_
  exact ⟨(as_i64 (by omega) (by omega)), (by decide), (as_shr (k := 7) (by decide) (by decide)), nxt_of (j := (⟨q1.u / 128, q1.n + 1⟩ : varLen_i_V0)) rfl rfl (by dsimp only [varLen_i_F0]; exact ⟨by omega, by omega, by rw [putVar_big (u := q1.u) (by omega) (by omega)] at v3; simp at v3 ⊢; omega, by omega⟩) (by dsimp only [varLen_i_F0]; omega)⟩
  refine ⟨(sI ?_), rfl⟩
  rotate_left
  all_goals rw [putVar_small (u := q1.u) (by omega) (by omega)] at v3; simp at v3; omega
structure padVar_i_V0 where
  u : Int
  out : List Int
  v : Nat
def padVar_i_F0 (u : Int) : Fam := ⟨padVar_i_V0, fun q1 => [(0, .v (.c (.int .u64 q1.u))), (1, .v (vI (varLen u))), (5, .v (vO 0)), (15, .v (vI (varLen u))), (16, .v (vI (q1.v : Int)))], fun q1 => [.lst .u8 q1.out], fun q1 => q1.v ≤ (List.length (putVar u)) ∧ q1.out.length = (List.length (putVar u)) ∧ List.take q1.v q1.out = List.take q1.v (padL (u.toNat) (List.length (putVar u))) ∧ q1.u = ((u.toNat / 128 ^ q1.v : Nat) : Int), fun q1 => (List.length (putVar u)) - q1.v⟩
theorem padVar_i (u : Int) (hp1 : (0 : Int) ≤ u ∧ u ≤ 18446744073709551615) : Fun Tryz.prog 238 [.c (.int .u64 u), vI (varLen u)] [] (.v (vT (putVar u))) [] := by
  have hN : bigN = 274877906944 := rfl
  have hb := varLen_b (u := u) (by omega)
  have hl : varLen u = (((putVar u).length : Nat) : Int) := rfl
  refine fun_ofw Tryz.func238 (by kernel_rfl) (by kernel_rfl) (w := let z4 := varLen u; let z5 := varLen u - 1; let z6 := List.replicate (z4.toNat) (0 : Int); let z7 := padVar_i_F0 u; (.seg [.call [] (.v (vI z4)) [], .call [] (.v (vB (within z4 z4 10))) [], .br false, .ty .u8, .as 15 (.v (vI z4)), .at 0, .keep [0, 1, 5, 15, 16], .sel [0]] (.loop z7 fun q1 => .br (.seg [.as 22 (.v (.c (.int .u64 (q1.u % 128)))), .as 23 (.v (.c (.int .u64 ((q1.u % 128) + 128)))), .as 24 (.v (.c (.int .u8 (q1.u % 128 + 128))))] (.intro (fun (x1 : Int) => q1.out[q1.v]? = some x1) fun x1 => .seg [.el .u8 x1, .as 27 (.v (.c (.int .u64 (q1.u / 128)))), .as 28 (.v (vI ((q1.v : Int) + 1))), .at 0, .keep [0, 1, 5, 15, 16], .sel [0]] (.next))) (.seg [.as 31 (.v (vI z5))] (.intro (fun (x1 : Int) => q1.out[z5.toNat]? = some x1) fun x1 => .seg [.el .u8 x1, .as 34 (.v (.c (.int .u8 (x1 % 128)))), .el .u8 x1] (.leaf () [])))), (Fun Tryz.prog 239 [.c (.int .u64 u)] [] (.v (vI z4)) []) ∧ (Fun Tryz.prog 143 [vI z4, vI z4, vI 10] [] (.v (vB (within z4 z4 10))) []) ∧ ((!(within z4 z4 10)) = false) ∧ (varLen u ≤ 9223372036854775807) ∧ (((1 : Nat) : Int) * z4 ≤ 281474976710656) ∧ (varLen u ≤ varLen u) ∧ ((0 : Int) ≤ varLen u) ∧ ((.v (vI (z6.length : Int)) : S) = .v (vI z4)) ∧ z7.Has [(0, .v (.c (.int .u64 u))), (1, .v (vI z4)), (5, .v (vO 0)), (15, .v (vI z4)), (16, .v (vI 0))] [.lst .u8 z6] ∧ ∀ q1, z7.inv q1 → (let z2 := (q1.v : Int); let z3 := (q1.out.length : Int); ((decide (z2 < varLen u)) = true → ((.v (.c (.int .u64 (IntKind.u64.wrap (((BitVec.ofInt 64 q1.u &&& BitVec.ofInt 64 127).toNat : Nat))))) : S) = .v (.c (.int .u64 (q1.u % 128)))) ∧ ((.v (.c (.int .u64 (IntKind.u64.wrap (((BitVec.ofInt 64 (q1.u % 128) ||| BitVec.ofInt 64 128).toNat : Nat))))) : S) = .v (.c (.int .u64 ((q1.u % 128) + 128)))) ∧ ((.v (.c (.int .u8 (IntKind.u8.wrap ((q1.u % 128) + 128)))) : S) = .v (.c (.int .u8 (q1.u % 128 + 128)))) ∧ (∃ (x1 : Int), q1.out[q1.v]? = some x1) ∧ ∀ (x1 : Int), (q1.out[q1.v]? = some x1) → ((z2 < z3) ∧ ((0 : Int) ≤ z2) ∧ (q1.out[q1.v]? = some x1) ∧ ((0 : Int) ≤ 7) ∧ ((.v (.c (.int .u64 (Int.fdiv q1.u (2 ^ 7)))) : S) = .v (.c (.int .u64 (q1.u / 128)))) ∧ ((.v (vI (IntKind.i64.wrap (z2 + 1))) : S) = .v (vI (z2 + 1))) ∧ z7.Nxt q1 [(0, .v (.c (.int .u64 (q1.u / 128)))), (1, .v (vI z4)), (5, .v (vO 0)), (15, .v (vI z4)), (16, .v (vI (z2 + 1)))] [.lst .u8 (List.set q1.out q1.v (q1.u % 128 + 128))])) ∧ ((decide (z2 < varLen u)) = false → ((.v (vI (IntKind.i64.wrap (z4 - 1))) : S) = .v (vI z5)) ∧ (∃ (x1 : Int), q1.out[z5.toNat]? = some x1) ∧ ∀ (x1 : Int), (q1.out[z5.toNat]? = some x1) → (let z1 := q1.out[z5.toNat]? = some x1; (varLen u - 1 < z3) ∧ ((0 : Int) ≤ varLen u - 1) ∧ z1 ∧ ((.v (.c (.int .u8 (IntKind.u8.wrap (((BitVec.ofInt 8 x1 &&& BitVec.ofInt 8 127).toNat : Nat))))) : S) = .v (.c (.int .u8 (x1 % 128)))) ∧ (varLen u - 1 < z3) ∧ ((0 : Int) ≤ varLen u - 1) ∧ z1 ∧ (.v (vT (List.map toByte (List.set q1.out (z5.toNat) (x1 % 128)))) : S) = .v (vT (putVar u)) ∧ ([] : List Blk) = []))))) (by kernel_rfl) ?_
  refine ⟨(varLen_i _ (by omega)), (within_i _ _ _), (by simp [within]; omega), (by omega), (by omega), (by omega), (by omega), (as_int (by rw [List.length_replicate]; omega)), has_of (j := (⟨u, List.replicate (Int.toNat (varLen u)) (0 : Int), 0⟩ : padVar_i_V0)) (by first | rfl | simp) rfl (by dsimp only [padVar_i_F0]; exact ⟨by omega, by unfold varLen; simp, by simp, by simp; omega⟩), fun (q1 : padVar_i_V0) hq_q1 => ?_⟩
  have hi_q1 : q1.v ≤ (List.length (putVar u)) ∧ q1.out.length = (List.length (putVar u)) ∧ List.take q1.v q1.out = List.take q1.v (padL (u.toNat) (List.length (putVar u))) ∧ q1.u = ((u.toNat / 128 ^ q1.v : Nat) : Int) := hq_q1
  obtain ⟨v1, v2, v3, v4⟩ := hi_q1
  have hb := varLen_b (u := u) (by omega)
  have hu0 : (0 : Int) ≤ q1.u := by rw [v4]; exact Int.natCast_nonneg _
  have hu1 : q1.u ≤ 18446744073709551615 := by rw [v4]; have := Nat.div_le_self (u.toNat) (128 ^ q1.v); omega
  refine dsp (fun h1 p1 => ?_) fun h1 p1 => ?_
  refine ⟨(as_mask_u64 (k := 7) (by decide) (by decide)), (or_128 (by omega) (by omega)), (as_u8 (by omega) (by omega)), (ax_get (l := q1.out) (i := q1.v) (by omega)), fun x1 hx1 => ?_⟩
  exact ⟨(by omega), (by omega), hx1, (by decide), (as_shr (k := 7) (by decide) (by decide)), (as_i64 (by omega) (by omega)), nxt_of (j := (⟨q1.u / 128, List.set q1.out q1.v (q1.u % 128 + 128), q1.v + 1⟩ : padVar_i_V0)) (by first | rfl | simp) rfl (by dsimp only [padVar_i_F0]; exact ⟨by omega, by simp [v2], fill_set v3 (by rw [v2, padL_len]) (by rw [padL_get (by omega), v4]; simp <;> omega), by rw [v4, padU_step]⟩) (by dsimp only [padVar_i_F0]; omega)⟩
  refine ⟨(as_i64 (by omega) (by omega)), (ax_get (l := q1.out) (i := Int.toNat (varLen u - 1)) (by omega)), fun x1 hx1 => ?_⟩
  refine ⟨(by omega), (by omega), ?_⟩
  have hq := fill_done v3 (by rw [v2, padL_len]) (by rw [padL_len]; omega)
  have hxe := hx1
  rw [hq, padL_get (by omega)] at hxe
  have hxe := Option.some.inj hxe
  have hxb : 0 ≤ x1 ∧ x1 ≤ 255 := by rw [← hxe]; omega
  refine ⟨hx1, (mask_u8 (by omega) (by omega)), (by omega), (by omega), hx1, (congrArg S.v (congrArg V.c (congrArg C.str ?_))), rfl⟩
  rotate_left
  all_goals rw [hq] at hx1 ⊢; rw [show Int.toNat (varLen u - 1) = List.length (putVar u) - 1 by omega] at hx1 ⊢; exact padL_fix rfl hx1
theorem putVar_i (u : Int) (hp1 : (0 : Int) ≤ u ∧ u ≤ 18446744073709551615) : Fun Tryz.prog 215 [.c (.int .u64 u)] [] (.v (vT (putVar u))) [] := by
  have hN : bigN = 274877906944 := rfl
  refine fun_ofw Tryz.func215 (by kernel_rfl) (by kernel_rfl) (w := let z1 := vT (putVar u); (.seg [.call [] (.v (vI (varLen u))) [], .call [] (.v z1) []] (.leaf () []), (Fun Tryz.prog 239 [.c (.int .u64 u)] [] (.v (vI (varLen u))) []) ∧ (Fun Tryz.prog 238 [.c (.int .u64 u), vI (varLen u)] [] (.v z1) []) ∧ (.v z1 : S) = .v z1 ∧ ([] : List Blk) = [])) (by kernel_rfl) ?_
  exact ⟨(varLen_i _ (by omega)), (padVar_i _ (by omega)), rfl, rfl⟩
end Go.Proofs.YtecljjcmjongfaaGreat.Ax
