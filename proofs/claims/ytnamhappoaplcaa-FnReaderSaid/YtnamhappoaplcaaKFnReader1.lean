/- Models. Models: the machine. Models: the machine's steps. Models: bytes, whole inputs. Models: readers, streams. Draws of numbers, bytes, scripts. Numbers. Readers. ReadSome. What a read tells. Bent readers. The law FnReadAgain. What readers bring. -/
import Derived.Test.YtnamhappoaplcaaKB4
set_option linter.unusedSimpArgs false
set_option linter.unusedVariables false
namespace Go.Proofs.Ytnamhappoaplcaa.Ax
open Go.RowKit
theorem consE {α : Type} {a b : α} {l m : List α} (h : a = b) (t : l = m) : a :: l = b :: m := by rw [h, t]
def vI (x : Int) : V := .c (.int .i64 x)
def vB (x : Bool) : V := .c (.bool x)
def vT (x : List UInt8) : V := .c (.str x)
def vO (j : Nat) : V := .c (.own j)
def vP (j : Nat) : V := .c (.ptr j 0)
theorem sB {a b : Bool} (h : a = b) : (.v (.c (.bool a)) : S) = .v (.c (.bool b)) := by rw [h]
theorem sI {a b : Int} (h : a = b) : (.v (.c (.int .i64 a)) : S) = .v (.c (.int .i64 b)) := by rw [h]
theorem has_of {F : Fam} {j : F.ι} {tm : List (Nat × S)} {H : List Blk} (h1 : tm = F.tm j) (h2 : H = F.H j) (h : F.inv j) : F.Has tm H := ⟨j, h, h1, h2⟩
theorem nxt_of {F : Fam} {i j : F.ι} {tm : List (Nat × S)} {H : List Blk} (h1 : tm = F.tm j) (h2 : H = F.H j) (h : F.inv j) (hm : F.mu j < F.mu i) : F.Nxt i tm H := ⟨j, ⟨h, hm⟩, h1, h2⟩
theorem fun_ofw {P : Program} {f : FuncId} {fn : Func} (hf : P.funcs[f]? = some fn) (hb : fn.body.isNone = false) (hn : (fn.name == "runtime.NumGoroutine") = false) {args : List V} {L L' : List Blk} {r : S} {w : DT Unit × Prop}
  (hw : walkT P fn args L w.1 (fun _ r' Lp => r' = r ∧ Lp = L') = w.2) (h : w.2) : Fun P f args L r L' := fun_of hf hb hn hw h
theorem funs_ofw {P : Program} {ι : Type} {f : FuncId} {fn : Func} (hf : P.funcs[f]? = some fn) (hb : fn.body.isNone = false) (hn : (fn.name == "runtime.NumGoroutine") = false) {args : List V} {L : List Blk} {L' : ι → List Blk} {r : ι → S} {good : ι → Prop} {w : DT ι × Prop}
  (hw : walkT P fn args L w.1 (fun i r' Lp => good i ∧ r' = r i ∧ Lp = L' i) = w.2) (h : w.2) : ∃ i, good i ∧ Fun P f args L (r i) (L' i) := funs_of hf hb hn hw h
theorem dsp {p : Prop} [Decidable p] {A B : Prop} (h1 : decide p = true → p → A) (h2 : decide p = false → ¬ p → B) : (decide p = true → A) ∧ (decide p = false → B) := ⟨fun h => h1 h (of_decide_eq_true h), fun h => h2 h (of_decide_eq_false h)⟩
/-! ### Structures -/
structure Scn where
 bits : Int
 have_ : Int
 deriving DecidableEq, Inhabited
structure Utf where
 want : Int
 low : Int
 high : Int
 deriving DecidableEq, Inhabited
structure Pln where
 shapes : List Shp
 root : Int
 deep : Int
 most : Int
 deriving DecidableEq, Inhabited
structure Dcd where
 plan : Pln
 mode : Int
 stack : List Lev
 scan : Scn
 start : Int
 at_ : Int
 field : Fld
 wire : Int
 want : Int
 utf : Utf
 end_ : Ev
 deriving DecidableEq, Inhabited
def fld0 : Fld := ⟨0, 0, false, false, 0⟩
theorem drop_el {α : Type} {l : List α} {i : Nat} {x : α} (h : l[i]? = some x) : l.drop i = x :: l.drop (i + 1) := by
 have hl := (List.getElem?_eq_some_iff.1 h).1
 rw [List.drop_eq_getElem_cons hl]
 congr 1
 rw [List.getElem?_eq_getElem hl] at h
 exact Option.some.inj h
theorem bnot_t {b : Bool} (h : (!b) = true) : b = false := by cases b <;> simp_all
theorem bnot_f {b : Bool} (h : (!b) = false) : b = true := by cases b <;> simp_all
def numberOk (n : Int) : Bool := within n 1 536870911 && !within n 19000 19999
def kindOk (k : Int) : Bool := within k 1 8
def numeric (k : Int) : Bool := within k 1 5
def fldOk (f : Fld) (n : Int) : Bool := numberOk f.number && kindOk f.kind && !(f.packed && (!f.rep || !numeric f.kind)) && (if f.kind = 8 then within f.msg 0 (n - 1) else decide (f.msg = -1))
def fieldsOk (n : Int) : Int → List Fld → Bool
 | _, [] => true
 | b, f :: r => decide (b < f.number) && fldOk f n && fieldsOk n f.number r
def shapesOk (n : Int) : Int → List Shp → Bool
 | _, [] => true
 | b, x :: r => decide (b < x.id) && decide (x.id ≤ 99) && decide ((x.fields.length : Int) ≤ 8) && fieldsOk n 0 x.fields && shapesOk n x.id r
def schemaOk (l : List Shp) : Bool := decide ((l.length : Int) ≤ 6) && shapesOk (l.length : Int) 0 l
def fieldIn (l : List Fld) (n : Int) : Option Fld := l.find? fun f => decide (f.number = n)
def shp0 : Shp := ⟨0, []⟩
def fieldAt (l : List Shp) (s n : Int) : Option Fld := if within s 0 ((l.length : Int) - 1) then fieldIn (l.getD s.toNat shp0).fields n else none
def planOk (p : Pln) : Bool := schemaOk p.shapes && within p.root 0 ((p.shapes.length : Int) - 1) && within p.deep 1 8 && within p.most 0 2000
theorem schemaOk_t {l : List Shp} (h : schemaOk l = true) : l.length ≤ 6 := by
 simp only [schemaOk, Bool.and_eq_true, decide_eq_true_eq] at h; omega
theorem planOk_t {p : Pln} (h : planOk p = true) : p.shapes.length ≤ 6 ∧ schemaOk p.shapes = true ∧ 0 ≤ p.root ∧ p.root < (p.shapes.length : Int) ∧ 1 ≤ p.deep ∧ p.deep ≤ 8 ∧ 0 ≤ p.most ∧ p.most ≤ 2000 := by
 simp only [planOk, within, Bool.and_eq_true, decide_eq_true_eq] at h
 have := schemaOk_t h.1.1.1
 refine ⟨this, h.1.1.1, ?_⟩; omega
def many (l : List Ev) (k : Int) : Int := ((l.filter fun e => decide (e.kind = k)).length : Int)
structure Fa where
 stack : List Int
 inText : Bool
 isText : Bool
 utf : Utf
 ended : Bool
 deriving Inhabited
structure Fmr where
 plan : Pln
 st : Fa
structure Fs where
 stack : List Int
 field : Fld
 open_ : Bool
 utf : Utf
 ended : Bool
def lev0 : Lev := ⟨0, 0⟩
def topL (d : Dcd) : Int := (d.stack.getD (d.stack.length - 1) lev0).left
def levOk (n : Int) (l : Lev) : Bool := within l.msg 0 (n - 1) && within l.left 0 2000
def levelsOk (d : Dcd) : Bool := planOk d.plan && decide ((d.stack.length : Int) ≤ d.plan.deep) && d.stack.all (levOk (d.plan.shapes.length : Int))
def knownN (l : List Shp) (f : Fld) : Nat → Bool
 | 0 => false
 | k + 1 => knownN l f k || decide (fieldAt l (k : Int) f.number = some f)
def known (l : List Shp) (f : Fld) : Bool := knownN l f l.length
structure Mac where
 d : Dcd
 out : List Ev
def lastL (d : Dcd) : Lev := d.stack.getD (d.stack.length - 1) lev0
def stepD (d : Dcd) : Dcd := ⟨d.plan, d.mode, if d.stack.length = 0 then d.stack else d.stack.set (d.stack.length - 1) ⟨(lastL d).msg, topL d - 1⟩, d.scan, d.start, d.at_ + 1, d.field, d.wire, if d.mode = 6 ∨ d.mode = 7 ∨ d.mode = 8 then d.want - 1 else d.want, d.utf, d.end_⟩
theorem levelsOk_b {d : Dcd} (h : levelsOk d = true) : planOk d.plan = true ∧ (d.stack.length : Int) ≤ d.plan.deep ∧ d.stack.length ≤ 8 ∧ (∀ l ∈ d.stack, levOk (d.plan.shapes.length : Int) l = true) := by
 simp only [levelsOk, Bool.and_eq_true, decide_eq_true_eq, List.all_eq_true] at h
 have := planOk_t h.1.1
 exact ⟨h.1.1, h.1.2, by omega, h.2⟩
theorem levelsOk_mk {d : Dcd} (h1 : planOk d.plan = true) (h2 : (d.stack.length : Int) ≤ d.plan.deep) (h3 : ∀ l ∈ d.stack, levOk (d.plan.shapes.length : Int) l = true) : levelsOk d = true := by
 simp only [levelsOk, Bool.and_eq_true, decide_eq_true_eq, List.all_eq_true]; exact ⟨⟨h1, h2⟩, h3⟩
theorem lastL_mem {d : Dcd} (h : d.stack.length ≠ 0) : lastL d ∈ d.stack := by
 unfold lastL
 rw [List.getD_eq_getElem?_getD, List.getElem?_eq_getElem (by omega)]
 exact List.getElem_mem _
structure MW (d : Dcd) : Prop where
 lv : levelsOk d = true
 kn : d.field = fld0 ∨ known d.plan.shapes d.field = true
 b0 : 0 ≤ d.scan.bits ∧ d.scan.bits ≤ 18446744073709551615
 at_ : 0 ≤ d.at_ ∧ d.at_ ≤ 1000000001
 want : -1 ≤ d.want ∧ d.want ≤ 2001
theorem MW.step {d : Dcd} (h : MW d) (hs : d.stack.length = 0 ∨ 1 ≤ topL d) (ha : d.at_ ≤ 1000000000) (hw : (d.mode = 6 ∨ d.mode = 7 ∨ d.mode = 8) → 0 ≤ d.want) : MW (stepD d) := by
 have hb := levelsOk_b h.lv
 refine ⟨?_, h.kn, h.b0, ?_, ?_⟩
 ·refine levelsOk_mk (d := stepD d) hb.1 ?_ ?_
  ·show (((stepD d).stack.length : Nat) : Int) ≤ d.plan.deep
   unfold stepD; simp only; split
   ·exact hb.2.1
   ·rw [List.length_set]; exact hb.2.1
  ·intro l hl
   show levOk (d.plan.shapes.length : Int) l = true
   unfold stepD at hl
   simp only at hl
   split at hl
   ·exact hb.2.2.2 l hl
   ·rename_i hn
    rcases List.mem_or_eq_of_mem_set hl with hl | hl
    ·exact hb.2.2.2 l hl
    ·have hx := hb.2.2.2 _ (lastL_mem hn)
     have ht : topL d = (lastL d).left := rfl
     simp only [levOk, Bool.and_eq_true] at hx
     have h1 := within_t hx.1; have h2 := within_t hx.2
     subst hl; simp [levOk, within]; omega
 ·have := h.at_; show 0 ≤ d.at_ + 1 ∧ d.at_ + 1 ≤ 1000000001; omega
 ·have := h.want
  show -1 ≤ (if d.mode = 6 ∨ d.mode = 7 ∨ d.mode = 8 then d.want - 1 else d.want) ∧ (if d.mode = 6 ∨ d.mode = 7 ∨ d.mode = 8 then d.want - 1 else d.want) ≤ 2001
  split
  ·rename_i hm; have := hw hm; omega
  ·exact this
structure Gr (m q : Mac) : Prop where
 plan : q.d.plan = m.d.plan
 stack : q.d.stack.length ≤ m.d.stack.length + 1
 out : q.out.length ≤ m.out.length + m.d.stack.length + 6
theorem Gr.of {m x q : Mac} (h : Gr x q) (hp : x.d.plan = m.d.plan) (hs : x.d.stack.length = m.d.stack.length) (ho : x.out.length = m.out.length) : Gr m q := ⟨h.plan.trans hp, by have := h.stack; omega, by have := h.out; omega⟩
structure Rdr where
 data : List UInt8
 at_ : Int
 script : List Rd
 next : Int
 code : Int
structure Strm where
 reader : Rdr
 dec : Dcd
 queue : List Ev
 reads : Int
def readerOk (r : Rdr) : Bool := decide ((r.data.length : Int) ≤ 4000) && within r.at_ 0 (r.data.length : Int) && decide ((r.script.length : Int) ≤ 200) && within r.next 0 (r.script.length : Int) && (decide (r.code = 0) || decide (r.code = 1) || decide (20 ≤ r.code))
theorem readerOk_t {a : Rdr} (h : readerOk a = true) : (a.data.length : Int) ≤ 4000 ∧ 0 ≤ a.at_ ∧ a.at_ ≤ (a.data.length : Int) ∧ (a.script.length : Int) ≤ 200 ∧ 0 ≤ a.next ∧ a.next ≤ (a.script.length : Int) ∧ (a.code = 0 ∨ a.code = 1 ∨ 20 ≤ a.code) := by
 simp only [readerOk, within, Bool.and_eq_true, Bool.or_eq_true, decide_eq_true_eq] at h
 omega
def clampN (n room left : Int) : Int := max (min (min n room) left) 0
theorem clampN_b (n room left : Int) : 0 ≤ clampN n room left ∧ (0 ≤ left → clampN n room left ≤ left) ∧ (1 ≤ n → 1 ≤ room → 1 ≤ left → 1 ≤ clampN n room left) := by unfold clampN; omega
def entryOf (r : Rdr) (room : Int) : Rd := if r.next < (r.script.length : Int) then r.script.getD r.next.toNat ⟨0, 0⟩ else ⟨room, 1⟩
def rsNext (r : Rdr) : Int := if r.next < (r.script.length : Int) then r.next + 1 else r.next
def rsN (r : Rdr) (room : Int) : Int := clampN (entryOf r room).n room ((r.data.length : Int) - r.at_)
def rsCode (r : Rdr) (room : Int) : Int := if 20 ≤ (entryOf r room).code then (entryOf r room).code else if (entryOf r room).code = 1 ∧ r.at_ + rsN r room = (r.data.length : Int) then 1 else r.code
def rsBad (r : Rdr) (room : Int) : Bool := !readerOk r || decide (room < 1) || !decide (r.code = 0)
def readSome (r : Rdr) (room : Int) : Rdr := if rsBad r room then r else ⟨r.data, r.at_ + rsN r room, r.script, rsNext r, rsCode r room⟩
def readTxt (r : Rdr) (room : Int) : List UInt8 := if rsBad r room then [] else List.drop r.at_.toNat (List.take (r.at_ + rsN r room).toNat r.data)
def readCode (r : Rdr) (room : Int) : Int := if !readerOk r || decide (room < 1) then 1 else if !decide (r.code = 0) then r.code else rsCode r room
def cRdr (x : Rdr) : List C := [.str x.data, .int .i64 x.at_, .seq .rd x.script, .int .i64 x.next, .int .i64 x.code]
def oRdr2 (j2 : Nat) (x : Rdr) : List C := [.str x.data, .int .i64 x.at_, .own j2, .int .i64 x.next, .int .i64 x.code]
structure Cur where
 b : List Int
 i : Int
 h : Int
def CurOk (c : Cur) : Prop := 0 ≤ c.i ∧ c.b.length ≤ 1048576
def cCur (x : Cur) : List C := [.seq .u8 x.b, .int .i64 x.i, .int .i64 x.h]
structure l1Byte_o_O where
 x : Int
 c1 : Cur
theorem l1Byte_o (c : Cur) (hp1 : CurOk c) : ∃ o : l1Byte_o_O, (((0 : Int) ≤ o.x ∧ o.x ≤ 255) ∧ (CurOk o.c1)) ∧ Fun Try.prog 30 [vP 0] [.cells (cCur c)] (.v (vI o.x)) [.cells (cCur o.c1)] := by
 have hN : bigN = 274877906944 := rfl
 have hcb := hp1.1
 have hcl := hp1.2
 refine funs_ofw Try.func30 (by kernel_rfl) (by kernel_rfl) (w := let z5 := (IntKind.i64.wrap (c.h * 6364136223846793005)) + 1442695040888963407; let z3 := IntKind.i64.wrap z5; let z8 := (.v (vI (Int.fdiv z3 (2 ^ 33))) : S) = .v (vI (z3 / 8589934592)); let z10 : List Blk := [.cells [.seq .u8 c.b, .int .i64 (c.i + 1), .int .i64 z3]]; let z11 := decide (c.i < ((List.length c.b : Nat) : Int)); let z12 : List Blk := [.cells [.seq .u8 c.b, .int .i64 c.i, .int .i64 z3]]; let z13 := z3 / 35184372088832; let z4 := IntKind.i64.wrap (((BitVec.ofInt 64 (z3 / 8589934592) ^^^ BitVec.ofInt 64 z13).toNat : Nat)); let z7 := (.v (vI (Int.fdiv z3 (2 ^ 45))) : S) = .v (vI z13); let z9 := z4 % 256; let z6 := (.v (vI (IntKind.i64.wrap (((BitVec.ofInt 64 z4 &&& BitVec.ofInt 64 255).toNat : Nat)))) : S) = .v (vI z9); (.seg [.ord (os 13 []) [], .as 17 (.v (vI (z3 / 8589934592))), .as 22 (.v (vI z13)), .as 24 (.v (vI z9)), .ord (os 10 []) []] (.br (.intro (fun (x1 : Int) => c.b[Int.toNat c.i]? = some x1) fun x1 => let z1 := IntKind.i64.wrap (z9 + (IntKind.i64.wrap (x1))); .seg [.ord (os 15 []) [], .el .u8 x1, .as 48 (.v (vI (z1 % 256))), .as 54 (.v (vI (c.i + 1)))] (.leaf (⟨z1 % 256, (⟨c.b, c.i + 1, IntKind.i64.wrap z5⟩ : Cur)⟩ : l1Byte_o_O) [0])) (.leaf (⟨z4 % 256, (⟨c.b, c.i, IntKind.i64.wrap z5⟩ : Cur)⟩ : l1Byte_o_O) [0])), ((0 : Int) ≤ 33) ∧ ((0 : Int) ≤ 33) ∧ z8 ∧ z8 ∧ ((0 : Int) ≤ 45) ∧ ((0 : Int) ≤ 45) ∧ z7 ∧ z7 ∧ z6 ∧ z6 ∧ (z11 = true → (∃ (x1 : Int), c.b[Int.toNat c.i]? = some x1) ∧ ∀ (x1 : Int), (c.b[Int.toNat c.i]? = some x1) → (let z2 := IntKind.i64.wrap (z9 + (IntKind.i64.wrap (x1))); (c.b[Int.toNat c.i]? = some x1) ∧ ((0 : Int) ≤ c.i) ∧ (c.b[Int.toNat c.i]? = some x1) ∧ ((0 : Int) ≤ c.i) ∧ ((.v (vI (IntKind.i64.wrap (((BitVec.ofInt 64 z2 &&& BitVec.ofInt 64 255).toNat : Nat)))) : S) = .v (vI (z2 % 256))) ∧ ((.v (vI (IntKind.i64.wrap (((BitVec.ofInt 64 z2 &&& BitVec.ofInt 64 255).toNat : Nat)))) : S) = .v (vI (z2 % 256))) ∧ ((.v (vI (IntKind.i64.wrap (c.i + 1))) : S) = .v (vI (c.i + 1))) ∧ (((0 : Int) ≤ (z2 % 256) ∧ (z2 % 256) ≤ 255) ∧ (CurOk (⟨c.b, c.i + 1, IntKind.i64.wrap z5⟩ : Cur))) ∧ (.v (vI (z2 % 256)) : S) = .v (vI (z2 % 256)) ∧ (z10 : List Blk) = z10)) ∧ (z11 = false → (((0 : Int) ≤ z9 ∧ z9 ≤ 255) ∧ (CurOk (⟨c.b, c.i, IntKind.i64.wrap z5⟩ : Cur))) ∧ (.v (vI z9) : S) = .v (vI z9) ∧ (z12 : List Blk) = z12))) (by kernel_rfl) ?_
 refine ⟨(by decide), (by decide), (as_shr (k := 33) (by decide) (by decide)), (as_shr (k := 33) (by decide) (by decide)), (by decide), (by decide), (as_shr (k := 45) (by decide) (by decide)), (as_shr (k := 45) (by decide) (by decide)), (as_mask_i64 (k := 8) (by decide) (by decide)), (as_mask_i64 (k := 8) (by decide) (by decide)), dsp (fun h1 p1 => ?_) fun h1 p1 => ?_⟩
 refine ⟨(ax_get (l := c.b) (i := Int.toNat c.i) (by omega)), fun x1 hx1 => ?_⟩
 exact ⟨hx1, (by omega), hx1, (by omega), (as_mask_i64 (k := 8) (by decide) (by decide)), (as_mask_i64 (k := 8) (by decide) (by decide)), (as_i64 (by omega) (by omega)), ⟨(by omega), (by first | assumption | (exact ⟨by dsimp only; first | omega | (have := hp1.1; omega), hp1.2⟩))⟩, rfl, rfl⟩
 exact ⟨⟨(by omega), (by first | assumption | (exact ⟨by dsimp only; first | omega | (have := hp1.1; omega), hp1.2⟩))⟩, rfl, rfl⟩
structure l1Below_o_O where
 x : Int
 c1 : Cur
theorem l1Below_o (c : Cur) (n : Int) (hp1 : CurOk c) : ∃ o : l1Below_o_O, (((0 : Int) ≤ o.x) ∧ ((1 : Int) ≤ n → o.x < n) ∧ (n ≤ (0 : Int) → o.x = (0 : Int)) ∧ (CurOk o.c1)) ∧ Fun Try.prog 26 [vP 0, vI n] [.cells (cCur c)] (.v (vI o.x)) [.cells (cCur o.c1)] := by
 have hN : bigN = 274877906944 := rfl
 refine funs_ofw Try.func26 (by kernel_rfl) (by kernel_rfl) (w := let z11 : List Blk := [.cells (cCur c)]; (.br (.leaf (⟨0, c⟩ : l1Below_o_O) [0]) (.br (.intro (fun (o1 : l1Byte_o_O) => (((0 : Int) ≤ o1.x ∧ o1.x ≤ 255) ∧ (CurOk o1.c1)) ∧ Fun Try.prog 30 [vP 0] z11 (.v (vI o1.x)) [.cells (cCur o1.c1)]) fun o1 => .seg [.call [0] (.v (vI o1.x)) [.cells (cCur o1.c1)]] (.leaf (⟨Int.tmod o1.x n, o1.c1⟩ : l1Below_o_O) [0])) (.intro (fun (o1 : l1Byte_o_O) => (((0 : Int) ≤ o1.x ∧ o1.x ≤ 255) ∧ (CurOk o1.c1)) ∧ Fun Try.prog 30 [vP 0] z11 (.v (vI o1.x)) [.cells (cCur o1.c1)]) fun o1 => .seg [.call [0] (.v (vI o1.x)) [.cells (cCur o1.c1)]] (.intro (fun (o2 : l1Byte_o_O) => (((0 : Int) ≤ o2.x ∧ o2.x ≤ 255) ∧ (CurOk o2.c1)) ∧ Fun Try.prog 30 [vP 0] [.cells (cCur o1.c1)] (.v (vI o2.x)) [.cells (cCur o2.c1)]) fun o2 => let z7 := (o1.x * 16777216) + (o2.x * 65536); .seg [.call [0] (.v (vI o2.x)) [.cells (cCur o2.c1)]] (.intro (fun (o3 : l1Byte_o_O) => (((0 : Int) ≤ o3.x ∧ o3.x ≤ 255) ∧ (CurOk o3.c1)) ∧ Fun Try.prog 30 [vP 0] [.cells (cCur o2.c1)] (.v (vI o3.x)) [.cells (cCur o3.c1)]) fun o3 => let z4 := z7 + (o3.x * 256); .seg [.call [0] (.v (vI o3.x)) [.cells (cCur o3.c1)]] (.intro (fun (o4 : l1Byte_o_O) => (((0 : Int) ≤ o4.x ∧ o4.x ≤ 255) ∧ (CurOk o4.c1)) ∧ Fun Try.prog 30 [vP 0] [.cells (cCur o3.c1)] (.v (vI o4.x)) [.cells (cCur o4.c1)]) fun o4 => let z2 := z4 + o4.x; .seg [.call [0] (.v (vI o4.x)) [.cells (cCur o4.c1)], .as 26 (.v (vI (o1.x * 16777216))), .as 28 (.v (vI (o2.x * 65536))), .as 29 (.v (vI z7)), .as 31 (.v (vI (o3.x * 256))), .as 32 (.v (vI z4)), .as 34 (.v (vI z2))] (.leaf (⟨Int.tmod z2 n, o4.c1⟩ : l1Below_o_O) [0])))))), ((decide (n ≤ 0)) = true → (((0 : Int) ≤ 0) ∧ ((1 : Int) ≤ n → 0 < n) ∧ (n ≤ (0 : Int) → 0 = (0 : Int)) ∧ (CurOk c)) ∧ (.v (vI 0) : S) = .v (vI 0) ∧ (z11 : List Blk) = z11) ∧ ((decide (n ≤ 0)) = false → ((decide (n ≤ 256)) = true → (∃ (o1 : l1Byte_o_O), (((0 : Int) ≤ o1.x ∧ o1.x ≤ 255) ∧ (CurOk o1.c1)) ∧ Fun Try.prog 30 [vP 0] z11 (.v (vI o1.x)) [.cells (cCur o1.c1)]) ∧ ∀ (o1 : l1Byte_o_O), ((((0 : Int) ≤ o1.x ∧ o1.x ≤ 255) ∧ (CurOk o1.c1)) ∧ Fun Try.prog 30 [vP 0] z11 (.v (vI o1.x)) [.cells (cCur o1.c1)]) → (let z1 := Int.tmod o1.x n; (Fun Try.prog 30 [vP 0] z11 (.v (vI o1.x)) [.cells (cCur o1.c1)]) ∧ (n ≠ 0) ∧ (((0 : Int) ≤ z1) ∧ ((1 : Int) ≤ n → z1 < n) ∧ (n ≤ (0 : Int) → z1 = (0 : Int)) ∧ (CurOk o1.c1)) ∧ (.v (vI z1) : S) = .v (vI z1) ∧ ([.cells (cCur o1.c1)] : List Blk) = [.cells (cCur o1.c1)])) ∧ ((decide (n ≤ 256)) = false → (∃ (o1 : l1Byte_o_O), (((0 : Int) ≤ o1.x ∧ o1.x ≤ 255) ∧ (CurOk o1.c1)) ∧ Fun Try.prog 30 [vP 0] z11 (.v (vI o1.x)) [.cells (cCur o1.c1)]) ∧ ∀ (o1 : l1Byte_o_O), ((((0 : Int) ≤ o1.x ∧ o1.x ≤ 255) ∧ (CurOk o1.c1)) ∧ Fun Try.prog 30 [vP 0] z11 (.v (vI o1.x)) [.cells (cCur o1.c1)]) → (let z10 : List Blk := [.cells (cCur o1.c1)]; (Fun Try.prog 30 [vP 0] z11 (.v (vI o1.x)) z10) ∧ (∃ (o2 : l1Byte_o_O), (((0 : Int) ≤ o2.x ∧ o2.x ≤ 255) ∧ (CurOk o2.c1)) ∧ Fun Try.prog 30 [vP 0] z10 (.v (vI o2.x)) [.cells (cCur o2.c1)]) ∧ ∀ (o2 : l1Byte_o_O), ((((0 : Int) ≤ o2.x ∧ o2.x ≤ 255) ∧ (CurOk o2.c1)) ∧ Fun Try.prog 30 [vP 0] z10 (.v (vI o2.x)) [.cells (cCur o2.c1)]) → (let z8 := (o1.x * 16777216) + (o2.x * 65536); let z9 : List Blk := [.cells (cCur o2.c1)]; (Fun Try.prog 30 [vP 0] z10 (.v (vI o2.x)) z9) ∧ (∃ (o3 : l1Byte_o_O), (((0 : Int) ≤ o3.x ∧ o3.x ≤ 255) ∧ (CurOk o3.c1)) ∧ Fun Try.prog 30 [vP 0] z9 (.v (vI o3.x)) [.cells (cCur o3.c1)]) ∧ ∀ (o3 : l1Byte_o_O), ((((0 : Int) ≤ o3.x ∧ o3.x ≤ 255) ∧ (CurOk o3.c1)) ∧ Fun Try.prog 30 [vP 0] z9 (.v (vI o3.x)) [.cells (cCur o3.c1)]) → (let z5 := z8 + (o3.x * 256); let z6 : List Blk := [.cells (cCur o3.c1)]; (Fun Try.prog 30 [vP 0] z9 (.v (vI o3.x)) z6) ∧ (∃ (o4 : l1Byte_o_O), (((0 : Int) ≤ o4.x ∧ o4.x ≤ 255) ∧ (CurOk o4.c1)) ∧ Fun Try.prog 30 [vP 0] z6 (.v (vI o4.x)) [.cells (cCur o4.c1)]) ∧ ∀ (o4 : l1Byte_o_O), ((((0 : Int) ≤ o4.x ∧ o4.x ≤ 255) ∧ (CurOk o4.c1)) ∧ Fun Try.prog 30 [vP 0] z6 (.v (vI o4.x)) [.cells (cCur o4.c1)]) → (let z3 := z5 + o4.x; (Fun Try.prog 30 [vP 0] z6 (.v (vI o4.x)) [.cells (cCur o4.c1)]) ∧ ((.v (vI (IntKind.i64.wrap (o1.x * 16777216))) : S) = .v (vI (o1.x * 16777216))) ∧ ((.v (vI (IntKind.i64.wrap (o2.x * 65536))) : S) = .v (vI (o2.x * 65536))) ∧ ((.v (vI (IntKind.i64.wrap z8)) : S) = .v (vI z8)) ∧ ((.v (vI (IntKind.i64.wrap (o3.x * 256))) : S) = .v (vI (o3.x * 256))) ∧ ((.v (vI (IntKind.i64.wrap z5)) : S) = .v (vI z5)) ∧ ((.v (vI (IntKind.i64.wrap z3)) : S) = .v (vI z3)) ∧ (n ≠ 0) ∧ (((0 : Int) ≤ (Int.tmod z3 n)) ∧ ((1 : Int) ≤ n → (Int.tmod z3 n) < n) ∧ (n ≤ (0 : Int) → (Int.tmod z3 n) = (0 : Int)) ∧ (CurOk o4.c1)) ∧ (.v (vI (Int.tmod z3 n)) : S) = .v (vI (Int.tmod z3 n)) ∧ ([.cells (cCur o4.c1)] : List Blk) = [.cells (cCur o4.c1)])))))))) (by kernel_rfl) ?_
 refine dsp (fun h1 p1 => ?_) fun h1 p1 => ?_
 exact ⟨⟨(by omega), (by omega), (by omega), (by first | assumption | (exact ⟨by dsimp only; first | omega | (have := hp1.1; omega), hp1.2⟩))⟩, rfl, rfl⟩
 refine dsp (fun h2 p2 => ?_) fun h2 p2 => ?_
 refine ⟨(l1Byte_o c (by first | assumption | (exact ⟨by dsimp only; first | omega | (have := hp1.1; omega), hp1.2⟩))), fun o1 ho_o1 => ?_⟩
 obtain ⟨⟨hp_o1_0, hp_o1_1⟩, hf_o1⟩ := ho_o1
 exact ⟨hf_o1, (by omega), ⟨(by have := tmod_b o1.x n; omega), (by have := tmod_b o1.x n; omega), (by have := tmod_b o1.x n; omega), (by first | assumption | (exact ⟨by dsimp only; first | omega | (have := hp1.1; omega), hp1.2⟩))⟩, rfl, rfl⟩
 refine ⟨(l1Byte_o c (by first | assumption | (exact ⟨by dsimp only; first | omega | (have := hp1.1; omega), hp1.2⟩))), fun o1 ho_o1 => ?_⟩
 obtain ⟨⟨hp_o1_0, hp_o1_1⟩, hf_o1⟩ := ho_o1
 refine ⟨hf_o1, (l1Byte_o o1.c1 (by first | assumption | (exact ⟨by dsimp only; first | omega | (have := hp1.1; omega), hp1.2⟩))), fun o2 ho_o2 => ?_⟩
 obtain ⟨⟨hp_o2_0, hp_o2_1⟩, hf_o2⟩ := ho_o2
 refine ⟨hf_o2, (l1Byte_o o2.c1 (by first | assumption | (exact ⟨by dsimp only; first | omega | (have := hp1.1; omega), hp1.2⟩))), fun o3 ho_o3 => ?_⟩
 obtain ⟨⟨hp_o3_0, hp_o3_1⟩, hf_o3⟩ := ho_o3
 refine ⟨hf_o3, (l1Byte_o o3.c1 (by first | assumption | (exact ⟨by dsimp only; first | omega | (have := hp1.1; omega), hp1.2⟩))), fun o4 ho_o4 => ?_⟩
 obtain ⟨⟨hp_o4_0, hp_o4_1⟩, hf_o4⟩ := ho_o4
 exact ⟨hf_o4, (as_i64 (by omega) (by omega)), (as_i64 (by omega) (by omega)), (as_i64 (by omega) (by omega)), (as_i64 (by omega) (by omega)), (as_i64 (by omega) (by omega)), (as_i64 (by omega) (by omega)), (by omega), ⟨(by have := tmod_b ((((o1.x * 16777216) + (o2.x * 65536)) + (o3.x * 256)) + o4.x) n; omega), (by have := tmod_b ((((o1.x * 16777216) + (o2.x * 65536)) + (o3.x * 256)) + o4.x) n; omega), (by have := tmod_b ((((o1.x * 16777216) + (o2.x * 65536)) + (o3.x * 256)) + o4.x) n; omega), (by first | assumption | (exact ⟨by dsimp only; first | omega | (have := hp1.1; omega), hp1.2⟩))⟩, rfl, rfl⟩
structure l1Once_o_O where
 p : Bool
 c1 : Cur
theorem l1Once_o (c : Cur) (n : Int) (hp1 : CurOk c) : ∃ o : l1Once_o_O, ((CurOk o.c1)) ∧ Fun Try.prog 31 [vP 0, vI n] [.cells (cCur c)] (.v (vB o.p)) [.cells (cCur o.c1)] := by
 have hN : bigN = 274877906944 := rfl
 refine funs_ofw Try.func31 (by kernel_rfl) (by kernel_rfl) (w := let z1 : List Blk := [.cells (cCur c)]; (.intro (fun (o1 : l1Below_o_O) => (((0 : Int) ≤ o1.x) ∧ ((1 : Int) ≤ n → o1.x < n) ∧ (n ≤ (0 : Int) → o1.x = (0 : Int)) ∧ (CurOk o1.c1)) ∧ Fun Try.prog 26 [vP 0, vI n] z1 (.v (vI o1.x)) [.cells (cCur o1.c1)]) fun o1 => .seg [.call [0] (.v (vI o1.x)) [.cells (cCur o1.c1)]] (.leaf (⟨decide (o1.x = 0), o1.c1⟩ : l1Once_o_O) [0]), (∃ (o1 : l1Below_o_O), (((0 : Int) ≤ o1.x) ∧ ((1 : Int) ≤ n → o1.x < n) ∧ (n ≤ (0 : Int) → o1.x = (0 : Int)) ∧ (CurOk o1.c1)) ∧ Fun Try.prog 26 [vP 0, vI n] z1 (.v (vI o1.x)) [.cells (cCur o1.c1)]) ∧ ∀ (o1 : l1Below_o_O), ((((0 : Int) ≤ o1.x) ∧ ((1 : Int) ≤ n → o1.x < n) ∧ (n ≤ (0 : Int) → o1.x = (0 : Int)) ∧ (CurOk o1.c1)) ∧ Fun Try.prog 26 [vP 0, vI n] z1 (.v (vI o1.x)) [.cells (cCur o1.c1)]) → ((Fun Try.prog 26 [vP 0, vI n] z1 (.v (vI o1.x)) [.cells (cCur o1.c1)]) ∧ ((CurOk o1.c1)) ∧ (.v (vB (decide (o1.x = 0))) : S) = .v (vB (decide (o1.x = 0))) ∧ ([.cells (cCur o1.c1)] : List Blk) = [.cells (cCur o1.c1)]))) (by kernel_rfl) ?_
 refine ⟨(l1Below_o c n (by first | assumption | (exact ⟨by dsimp only; first | omega | (have := hp1.1; omega), hp1.2⟩))), fun o1 ho_o1 => ?_⟩
 obtain ⟨⟨hp_o1_0, hp_o1_1, hp_o1_2, hp_o1_3⟩, hf_o1⟩ := ho_o1
 exact ⟨hf_o1, (by first | assumption | (exact ⟨by dsimp only; first | omega | (have := hp1.1; omega), hp1.2⟩)), rfl, rfl⟩
structure l1PickInt_o_O where
 x : Int
 c1 : Cur
theorem l1PickInt_o (c : Cur) (l : List Int) (hp1 : CurOk c) (hp2 : 1 ≤ List.length l) (hp3 : List.length l ≤ 1000) : ∃ o : l1PickInt_o_O, ((CurOk o.c1)) ∧ Fun Try.prog 28 [vP 0, .c (.seq .int l)] [.cells (cCur c)] (.v (vI o.x)) [.cells (cCur o.c1)] := by
 have hN : bigN = 274877906944 := rfl
 refine funs_ofw Try.func28 (by kernel_rfl) (by kernel_rfl) (w := let z1 := ((List.length l : Nat) : Int); let z2 : List Blk := [.cells (cCur c)]; (.intro (fun (o1 : l1Below_o_O) => (((0 : Int) ≤ o1.x) ∧ ((1 : Int) ≤ z1 → o1.x < z1) ∧ (z1 ≤ (0 : Int) → o1.x = (0 : Int)) ∧ (CurOk o1.c1)) ∧ Fun Try.prog 26 [vP 0, vI z1] z2 (.v (vI o1.x)) [.cells (cCur o1.c1)]) fun o1 => .seg [.call [0] (.v (vI o1.x)) [.cells (cCur o1.c1)]] (.intro (fun (x1 : Int) => l[Int.toNat o1.x]? = some x1) fun x1 => .seg [.el .int x1] (.leaf (⟨x1, o1.c1⟩ : l1PickInt_o_O) [0])), (∃ (o1 : l1Below_o_O), (((0 : Int) ≤ o1.x) ∧ ((1 : Int) ≤ z1 → o1.x < z1) ∧ (z1 ≤ (0 : Int) → o1.x = (0 : Int)) ∧ (CurOk o1.c1)) ∧ Fun Try.prog 26 [vP 0, vI z1] z2 (.v (vI o1.x)) [.cells (cCur o1.c1)]) ∧ ∀ (o1 : l1Below_o_O), ((((0 : Int) ≤ o1.x) ∧ ((1 : Int) ≤ z1 → o1.x < z1) ∧ (z1 ≤ (0 : Int) → o1.x = (0 : Int)) ∧ (CurOk o1.c1)) ∧ Fun Try.prog 26 [vP 0, vI z1] z2 (.v (vI o1.x)) [.cells (cCur o1.c1)]) → ((Fun Try.prog 26 [vP 0, vI z1] z2 (.v (vI o1.x)) [.cells (cCur o1.c1)]) ∧ (∃ (x1 : Int), l[Int.toNat o1.x]? = some x1) ∧ ∀ (x1 : Int), (l[Int.toNat o1.x]? = some x1) → ((l[Int.toNat o1.x]? = some x1) ∧ ((0 : Int) ≤ o1.x) ∧ ((CurOk o1.c1)) ∧ (.v (vI x1) : S) = .v (vI x1) ∧ ([.cells (cCur o1.c1)] : List Blk) = [.cells (cCur o1.c1)])))) (by kernel_rfl) ?_
 refine ⟨(l1Below_o c ((List.length l : Nat) : Int) (by first | assumption | (exact ⟨by dsimp only; first | omega | (have := hp1.1; omega), hp1.2⟩))), fun o1 ho_o1 => ?_⟩
 obtain ⟨⟨hp_o1_0, hp_o1_1, hp_o1_2, hp_o1_3⟩, hf_o1⟩ := ho_o1
 refine ⟨hf_o1, (ax_get (l := l) (i := Int.toNat o1.x) (by omega)), fun x1 hx1 => ?_⟩
 exact ⟨hx1, (by omega), (by first | assumption | (exact ⟨by dsimp only; first | omega | (have := hp1.1; omega), hp1.2⟩)), rfl, rfl⟩
structure l1Whole_o_O where
 x : Int
 c1 : Cur
theorem l1Whole_o (c : Cur) (hp1 : CurOk c) : ∃ o : l1Whole_o_O, ((CurOk o.c1)) ∧ Fun Try.prog 32 [vP 0] [.cells (cCur c)] (.v (vI o.x)) [.cells (cCur o.c1)] := by
 have hN : bigN = 274877906944 := rfl
 refine funs_ofw Try.func32 (by kernel_rfl) (by kernel_rfl) (w := let z4 : List V := [vP 0, .c (.seq .int [0, 1, (-1), 9, 10, 127, 128, 999999999, 1000000000, 9223372036854775807, (-9223372036854775808)])]; let z5 : List V := [vP 0, vI 1000000]; let z6 : List Blk := [.cells (cCur c)]; (.intro (fun (o1 : l1Below_o_O) => (((0 : Int) ≤ o1.x) ∧ ((1 : Int) ≤ 3 → o1.x < 3) ∧ (3 ≤ (0 : Int) → o1.x = (0 : Int)) ∧ (CurOk o1.c1)) ∧ Fun Try.prog 26 [vP 0, vI 3] z6 (.v (vI o1.x)) [.cells (cCur o1.c1)]) fun o1 => let z2 : List Blk := [.cells (cCur o1.c1)]; .seg [.call [0] (.v (vI o1.x)) z2] (.br (.seg [.ty .int, .pubS 8] (.intro (fun (o2 : l1PickInt_o_O) => ((CurOk o2.c1)) ∧ Fun Try.prog 28 z4 z2 (.v (vI o2.x)) [.cells (cCur o2.c1)]) fun o2 => .seg [.call [0] (.v (vI o2.x)) [.cells (cCur o2.c1)]] (.leaf (⟨o2.x, o2.c1⟩ : l1Whole_o_O) [0]))) (.br (.intro (fun (o2 : l1Below_o_O) => (((0 : Int) ≤ o2.x) ∧ ((1 : Int) ≤ 1000000 → o2.x < 1000000) ∧ (1000000 ≤ (0 : Int) → o2.x = (0 : Int)) ∧ (CurOk o2.c1)) ∧ Fun Try.prog 26 z5 z2 (.v (vI o2.x)) [.cells (cCur o2.c1)]) fun o2 => .seg [.call [0] (.v (vI o2.x)) [.cells (cCur o2.c1)], .as 14 (.v (vI (o2.x - 500000)))] (.leaf (⟨o2.x - 500000, o2.c1⟩ : l1Whole_o_O) [0])) (.intro (fun (o2 : l1Below_o_O) => (((0 : Int) ≤ o2.x) ∧ ((1 : Int) ≤ 20 → o2.x < 20) ∧ (20 ≤ (0 : Int) → o2.x = (0 : Int)) ∧ (CurOk o2.c1)) ∧ Fun Try.prog 26 [vP 0, vI 20] z2 (.v (vI o2.x)) [.cells (cCur o2.c1)]) fun o2 => .seg [.call [0] (.v (vI o2.x)) [.cells (cCur o2.c1)]] (.leaf (⟨o2.x, o2.c1⟩ : l1Whole_o_O) [0])))), (∃ (o1 : l1Below_o_O), (((0 : Int) ≤ o1.x) ∧ ((1 : Int) ≤ 3 → o1.x < 3) ∧ (3 ≤ (0 : Int) → o1.x = (0 : Int)) ∧ (CurOk o1.c1)) ∧ Fun Try.prog 26 [vP 0, vI 3] z6 (.v (vI o1.x)) [.cells (cCur o1.c1)]) ∧ ∀ (o1 : l1Below_o_O), ((((0 : Int) ≤ o1.x) ∧ ((1 : Int) ≤ 3 → o1.x < 3) ∧ (3 ≤ (0 : Int) → o1.x = (0 : Int)) ∧ (CurOk o1.c1)) ∧ Fun Try.prog 26 [vP 0, vI 3] z6 (.v (vI o1.x)) [.cells (cCur o1.c1)]) → (let z3 : List Blk := [.cells (cCur o1.c1)]; (Fun Try.prog 26 [vP 0, vI 3] z6 (.v (vI o1.x)) z3) ∧ ((decide (o1.x = 0)) = true → (∃ (o2 : l1PickInt_o_O), ((CurOk o2.c1)) ∧ Fun Try.prog 28 z4 z3 (.v (vI o2.x)) [.cells (cCur o2.c1)]) ∧ ∀ (o2 : l1PickInt_o_O), (((CurOk o2.c1)) ∧ Fun Try.prog 28 z4 z3 (.v (vI o2.x)) [.cells (cCur o2.c1)]) → ((Fun Try.prog 28 z4 z3 (.v (vI o2.x)) [.cells (cCur o2.c1)]) ∧ ((CurOk o2.c1)) ∧ (.v (vI o2.x) : S) = .v (vI o2.x) ∧ ([.cells (cCur o2.c1)] : List Blk) = [.cells (cCur o2.c1)])) ∧ ((decide (o1.x = 0)) = false → ((decide (o1.x = 1)) = true → (∃ (o2 : l1Below_o_O), (((0 : Int) ≤ o2.x) ∧ ((1 : Int) ≤ 1000000 → o2.x < 1000000) ∧ (1000000 ≤ (0 : Int) → o2.x = (0 : Int)) ∧ (CurOk o2.c1)) ∧ Fun Try.prog 26 z5 z3 (.v (vI o2.x)) [.cells (cCur o2.c1)]) ∧ ∀ (o2 : l1Below_o_O), ((((0 : Int) ≤ o2.x) ∧ ((1 : Int) ≤ 1000000 → o2.x < 1000000) ∧ (1000000 ≤ (0 : Int) → o2.x = (0 : Int)) ∧ (CurOk o2.c1)) ∧ Fun Try.prog 26 z5 z3 (.v (vI o2.x)) [.cells (cCur o2.c1)]) → (let z1 := o2.x - 500000; (Fun Try.prog 26 z5 z3 (.v (vI o2.x)) [.cells (cCur o2.c1)]) ∧ ((.v (vI (IntKind.i64.wrap z1)) : S) = .v (vI z1)) ∧ ((CurOk o2.c1)) ∧ (.v (vI z1) : S) = .v (vI z1) ∧ ([.cells (cCur o2.c1)] : List Blk) = [.cells (cCur o2.c1)])) ∧ ((decide (o1.x = 1)) = false → (∃ (o2 : l1Below_o_O), (((0 : Int) ≤ o2.x) ∧ ((1 : Int) ≤ 20 → o2.x < 20) ∧ (20 ≤ (0 : Int) → o2.x = (0 : Int)) ∧ (CurOk o2.c1)) ∧ Fun Try.prog 26 [vP 0, vI 20] z3 (.v (vI o2.x)) [.cells (cCur o2.c1)]) ∧ ∀ (o2 : l1Below_o_O), ((((0 : Int) ≤ o2.x) ∧ ((1 : Int) ≤ 20 → o2.x < 20) ∧ (20 ≤ (0 : Int) → o2.x = (0 : Int)) ∧ (CurOk o2.c1)) ∧ Fun Try.prog 26 [vP 0, vI 20] z3 (.v (vI o2.x)) [.cells (cCur o2.c1)]) → ((Fun Try.prog 26 [vP 0, vI 20] z3 (.v (vI o2.x)) [.cells (cCur o2.c1)]) ∧ ((CurOk o2.c1)) ∧ (.v (vI o2.x) : S) = .v (vI o2.x) ∧ ([.cells (cCur o2.c1)] : List Blk) = [.cells (cCur o2.c1)])))))) (by kernel_rfl) ?_
 refine ⟨(l1Below_o c 3 (by first | assumption | (exact ⟨by dsimp only; first | omega | (have := hp1.1; omega), hp1.2⟩))), fun o1 ho_o1 => ?_⟩
 obtain ⟨⟨hp_o1_0, hp_o1_1, hp_o1_2, hp_o1_3⟩, hf_o1⟩ := ho_o1
 refine ⟨hf_o1, dsp (fun h1 p1 => ?_) fun h1 p1 => ?_⟩
 refine ⟨(l1PickInt_o o1.c1 [0, 1, (-1), 9, 10, 127, 128, 999999999, 1000000000, 9223372036854775807, (-9223372036854775808)] (by first | assumption | (exact ⟨by dsimp only; first | omega | (have := hp1.1; omega), hp1.2⟩)) (by simp only [List.length_cons, List.length_nil]; omega) (by simp only [List.length_cons, List.length_nil]; omega)), fun o2 ho_o2 => ?_⟩
 obtain ⟨hp_o2, hf_o2⟩ := ho_o2
 exact ⟨hf_o2, (by first | assumption | (exact ⟨by dsimp only; first | omega | (have := hp1.1; omega), hp1.2⟩)), rfl, rfl⟩
 refine dsp (fun h2 p2 => ?_) fun h2 p2 => ?_
 refine ⟨(l1Below_o o1.c1 1000000 (by first | assumption | (exact ⟨by dsimp only; first | omega | (have := hp1.1; omega), hp1.2⟩))), fun o2 ho_o2 => ?_⟩
 obtain ⟨⟨hp_o2_0, hp_o2_1, hp_o2_2, hp_o2_3⟩, hf_o2⟩ := ho_o2
 exact ⟨hf_o2, (as_i64 (by omega) (by omega)), (by first | assumption | (exact ⟨by dsimp only; first | omega | (have := hp1.1; omega), hp1.2⟩)), rfl, rfl⟩
 refine ⟨(l1Below_o o1.c1 20 (by first | assumption | (exact ⟨by dsimp only; first | omega | (have := hp1.1; omega), hp1.2⟩))), fun o2 ho_o2 => ?_⟩
 obtain ⟨⟨hp_o2_0, hp_o2_1, hp_o2_2, hp_o2_3⟩, hf_o2⟩ := ho_o2
 exact ⟨hf_o2, (by first | assumption | (exact ⟨by dsimp only; first | omega | (have := hp1.1; omega), hp1.2⟩)), rfl, rfl⟩
structure l1New_o_O where
 c1 : Cur
structure l1New_o_V0 where
 h : Int
 i : Nat
def l1New_o_F0 (b : List Int) : Fam := ⟨l1New_o_V0, fun q1 => [(0, .v (.c (.seq .u8 b))), (3, .v (vI q1.h)), (4, .v (vI ((q1.i : Nat) : Int)))], fun _ => [], fun q1 => q1.i ≤ List.length b ∧ (0 : Int) ≤ q1.h ∧ q1.h ≤ 1073741823, fun q1 => List.length b - q1.i⟩
theorem l1New_o (b : List Int) (hp1 : List.length b ≤ 1048576) : ∃ o : l1New_o_O, ((CurOk o.c1)) ∧ Fun Try.prog 16 [.c (.seq .u8 b)] [] (.v (vP 0)) [.cells (cCur o.c1)] := by
 have hN : bigN = 274877906944 := rfl
 refine funs_ofw Try.func16 (by kernel_rfl) (by kernel_rfl) (w := let z4 := ((List.length b : Nat) : Int); let z5 := l1New_o_F0 b; (.seg [.as 7 (.v (vI (28433 + z4))), .at 0, .keep [0, 3, 4], .sel []] (.loop z5 fun q1 => .br (.br (.seg [.as 19 (.v (vI (q1.h * 131)))] (.intro (fun (x1 : Int) => b[q1.i]? = some x1) fun x1 => .seg [.el .u8 x1, .as 27 (.v (vI ((IntKind.i64.wrap ((IntKind.i64.wrap ((q1.h * 131) + (IntKind.i64.wrap (x1)))) + 7)) % 1073741824))), .as 17 (.v (vI (((q1.i : Nat) : Int) + 1))), .at 0, .keep [0, 3, 4], .sel []] (.next))) (.leaf (⟨(⟨b, 0, q1.h⟩ : Cur)⟩ : l1New_o_O) [0])) (.leaf (⟨(⟨b, 0, q1.h⟩ : Cur)⟩ : l1New_o_O) [0])), ((.v (vI (IntKind.i64.wrap (28433 + z4))) : S) = .v (vI (28433 + z4))) ∧ z5.Has [(0, .v (.c (.seq .u8 b))), (3, .v (vI (28433 + z4))), (4, .v (vI 0))] [] ∧ ∀ q1, z5.inv q1 → (let z2 : List Blk := [.cells [.seq .u8 b, .int .i64 0, .int .i64 q1.h]]; let z3 := ((q1.i : Nat) : Int); ((decide (z3 < z4)) = true → ((decide (z3 < 4000)) = true → ((.v (vI (IntKind.i64.wrap (q1.h * 131))) : S) = .v (vI (q1.h * 131))) ∧ (∃ (x1 : Int), b[q1.i]? = some x1) ∧ ∀ (x1 : Int), (b[q1.i]? = some x1) → (let z1 := IntKind.i64.wrap ((IntKind.i64.wrap ((q1.h * 131) + (IntKind.i64.wrap (x1)))) + 7); (b[q1.i]? = some x1) ∧ ((0 : Int) ≤ z3) ∧ ((.v (vI (IntKind.i64.wrap (((BitVec.ofInt 64 z1 &&& BitVec.ofInt 64 1073741823).toNat : Nat)))) : S) = .v (vI (z1 % 1073741824))) ∧ ((.v (vI (IntKind.i64.wrap (z3 + 1))) : S) = .v (vI (z3 + 1))) ∧ z5.Nxt q1 [(0, .v (.c (.seq .u8 b))), (3, .v (vI (z1 % 1073741824))), (4, .v (vI (z3 + 1)))] [])) ∧ ((decide (z3 < 4000)) = false → ((CurOk (⟨b, 0, q1.h⟩ : Cur))) ∧ (.v (vP 0) : S) = .v (vP 0) ∧ (z2 : List Blk) = z2)) ∧ ((decide (z3 < z4)) = false → ((CurOk (⟨b, 0, q1.h⟩ : Cur))) ∧ (.v (vP 0) : S) = .v (vP 0) ∧ (z2 : List Blk) = z2)))) (by kernel_rfl) ?_
 refine ⟨(as_i64 (by omega) (by omega)), has_of (j := (⟨28433 + ((List.length b : Nat) : Int), 0⟩ : l1New_o_V0)) (by first | rfl | simp) rfl (by dsimp only [l1New_o_F0]; exact ⟨by omega, by omega, by omega⟩), fun (q1 : l1New_o_V0) hq_q1 => ?_⟩
 have hi_q1 : q1.i ≤ List.length b ∧ (0 : Int) ≤ q1.h ∧ q1.h ≤ 1073741823 := hq_q1
 obtain ⟨v1, v2, v3⟩ := hi_q1
 refine dsp (fun h1 p1 => ?_) fun h1 p1 => ?_
 refine dsp (fun h2 p2 => ?_) fun h2 p2 => ?_
 refine ⟨(as_i64 (by omega) (by omega)), (ax_get (l := b) (i := q1.i) (by omega)), fun x1 hx1 => ?_⟩
 exact ⟨hx1, (by omega), (as_mask_i64 (k := 30) (by decide) (by decide)), (as_i64 (by omega) (by omega)), nxt_of (j := (⟨(IntKind.i64.wrap ((IntKind.i64.wrap ((q1.h * 131) + (IntKind.i64.wrap (x1)))) + 7)) % 1073741824, q1.i + 1⟩ : l1New_o_V0)) (by first | rfl | simp) rfl (by dsimp only [l1New_o_F0]; exact ⟨by omega, by omega, by omega⟩) (by dsimp only [l1New_o_F0]; omega)⟩
 exact ⟨(⟨by dsimp only; omega, hp1⟩), rfl, rfl⟩
 exact ⟨(⟨by dsimp only; omega, hp1⟩), rfl, rfl⟩
structure l1Bytes_o_O where
 l : List Int
 c1 : Cur
structure l1Bytes_o_V0 where
 c : Cur
 b : List Int
 i : Nat
def l1Bytes_o_F0 (n : Int) : Fam := ⟨l1Bytes_o_V0, fun q1 => [(0, .v (vP 0)), (1, .v (vI n)), (5, .v (vO 1)), (6, .v (vI ((q1.i : Nat) : Int)))], fun q1 => [.cells (cCur q1.c), .lst .u8 q1.b], fun q1 => CurOk q1.c ∧ List.length q1.b = q1.i ∧ (q1.i = 0 ∨ ((q1.i : Nat) : Int) ≤ n), fun q1 => Int.toNat n - q1.i⟩
theorem l1Bytes_o (c : Cur) (n : Int) (hp1 : CurOk c) (hp2 : n ≤ 100000) : ∃ o : l1Bytes_o_O, ((List.length o.l ≤ Int.toNat n) ∧ (CurOk o.c1)) ∧ Fun Try.prog 25 [vP 0, vI n] [.cells (cCur c)] (.v (vO 1)) [.cells (cCur o.c1), .lst .u8 o.l] := by
 have hN : bigN = 274877906944 := rfl
 refine funs_ofw Try.func25 (by kernel_rfl) (by kernel_rfl) (w := let z3 := l1Bytes_o_F0 n; (.seg [.ty .u8, .at 0, .keep [0, 1, 5, 6], .sel [0, 1]] (.loop z3 fun q1 => .br (.intro (fun (o1 : l1Byte_o_O) => (((0 : Int) ≤ o1.x ∧ o1.x ≤ 255) ∧ (CurOk o1.c1)) ∧ Fun Try.prog 30 [vP 0] [.cells (cCur q1.c)] (.v (vI o1.x)) [.cells (cCur o1.c1)]) fun o1 => .seg [.call [0] (.v (vI o1.x)) [.cells (cCur o1.c1)], .as 16 (.v (.c (.int .u8 o1.x))), .ty .u8, .ty .u8, .as 12 (.v (vI (((q1.i : Nat) : Int) + 1))), .at 0, .keep [0, 1, 5, 6], .sel [0, 3]] (.next)) (.leaf (⟨q1.b, q1.c⟩ : l1Bytes_o_O) [0, 1])), z3.Has [(0, .v (vP 0)), (1, .v (vI n)), (5, .v (vO 1)), (6, .v (vI 0))] [.cells (cCur c), .lst .u8 ([] : List Int)] ∧ ∀ q1, z3.inv q1 → (let z1 := ((q1.i : Nat) : Int); let z2 := cCur q1.c; ((decide (z1 < n)) = true → (∃ (o1 : l1Byte_o_O), (((0 : Int) ≤ o1.x ∧ o1.x ≤ 255) ∧ (CurOk o1.c1)) ∧ Fun Try.prog 30 [vP 0] [.cells z2] (.v (vI o1.x)) [.cells (cCur o1.c1)]) ∧ ∀ (o1 : l1Byte_o_O), ((((0 : Int) ≤ o1.x ∧ o1.x ≤ 255) ∧ (CurOk o1.c1)) ∧ Fun Try.prog 30 [vP 0] [.cells z2] (.v (vI o1.x)) [.cells (cCur o1.c1)]) → ((Fun Try.prog 30 [vP 0] [.cells z2] (.v (vI o1.x)) [.cells (cCur o1.c1)]) ∧ ((.v (.c (.int .u8 (IntKind.u8.wrap (o1.x)))) : S) = .v (.c (.int .u8 o1.x))) ∧ (List.length q1.b + List.length [o1.x] ≤ bigN) ∧ ((.v (vI (IntKind.i64.wrap (z1 + 1))) : S) = .v (vI (z1 + 1))) ∧ z3.Nxt q1 [(0, .v (vP 0)), (1, .v (vI n)), (5, .v (vO 1)), (6, .v (vI (z1 + 1)))] [.cells (cCur o1.c1), .lst .u8 (q1.b ++ [o1.x])])) ∧ ((decide (z1 < n)) = false → ((List.length q1.b ≤ Int.toNat n) ∧ (CurOk q1.c)) ∧ (.v (vO 1) : S) = .v (vO 1) ∧ ([.cells z2, .lst .u8 q1.b] : List Blk) = [.cells z2, .lst .u8 q1.b])))) (by kernel_rfl) ?_
 refine ⟨has_of (j := (⟨c, ([] : List Int), 0⟩ : l1Bytes_o_V0)) (by first | rfl | simp) rfl (by dsimp only [l1Bytes_o_F0]; exact ⟨hp1, rfl, .inl rfl⟩), fun (q1 : l1Bytes_o_V0) hq_q1 => ?_⟩
 have hi_q1 : CurOk q1.c ∧ List.length q1.b = q1.i ∧ (q1.i = 0 ∨ ((q1.i : Nat) : Int) ≤ n) := hq_q1
 obtain ⟨v1, v2, v3⟩ := hi_q1
 refine dsp (fun h1 p1 => ?_) fun h1 p1 => ?_
 refine ⟨(l1Byte_o q1.c (by first | assumption | (exact ⟨by dsimp only; first | omega | (have := hp1.1; omega), hp1.2⟩))), fun o1 ho_o1 => ?_⟩
 obtain ⟨⟨hp_o1_0, hp_o1_1⟩, hf_o1⟩ := ho_o1
 exact ⟨hf_o1, (as_u8 (by omega) (by omega)), (by simp only [List.length_cons, List.length_nil]; omega), (as_i64 (by omega) (by omega)), nxt_of (j := (⟨o1.c1, q1.b ++ [o1.x], q1.i + 1⟩ : l1Bytes_o_V0)) (by first | rfl | simp) rfl (by dsimp only [l1Bytes_o_F0]; exact ⟨by assumption, by simp; omega, by omega⟩) (by dsimp only [l1Bytes_o_F0]; omega)⟩
 exact ⟨⟨(by omega), (by first | assumption | (exact ⟨by dsimp only; first | omega | (have := hp1.1; omega), hp1.2⟩))⟩, rfl, rfl⟩
structure l19Script_o_O where
 l : List Rd
 c1 : Cur
structure l19Script_o_V0 where
 c : Cur
 out : List Rd
 i : Nat
def l19Script_o_F0 (o1 : l1Below_o_O) : Fam := ⟨l19Script_o_V0, fun q1 => [(0, .v (vP 0)), (3, .v (vO 1)), (4, .v (vI o1.x)), (5, .v (vI ((q1.i : Nat) : Int)))], fun q1 => [.cells (cCur q1.c), .lst .rd q1.out], fun q1 => CurOk q1.c ∧ List.length q1.out = q1.i ∧ q1.i ≤ 8, fun q1 => 8 - q1.i⟩
theorem l19Script_o (c : Cur) (hp1 : CurOk c) : ∃ o : l19Script_o_O, ((List.length o.l ≤ 8) ∧ (CurOk o.c1)) ∧ Fun Try.prog 27 [vP 0] [.cells (cCur c)] (.v (vO 1)) [.cells (cCur o.c1), .lst .rd o.l] := by
 have hN : bigN = 274877906944 := rfl
 refine funs_ofw Try.func27 (by kernel_rfl) (by kernel_rfl) (w := let z21 : List V := [vP 0, .c (.seq .int [0, 1, 1, 2, 3, 5, 9, 16, 30, (-1)])]; let z22 : List V := [vP 0, vI 30]; let z23 : List V := [vP 0, vI 24]; let z24 : List V := [vP 0, vI 3]; let z25 : List Blk := [.cells (cCur c)]; (.seg [.ty .rd] (.intro (fun (o1 : l1Below_o_O) => (((0 : Int) ≤ o1.x) ∧ ((1 : Int) ≤ 8 → o1.x < 8) ∧ (8 ≤ (0 : Int) → o1.x = (0 : Int)) ∧ (CurOk o1.c1)) ∧ Fun Try.prog 26 [vP 0, vI 8] z25 (.v (vI o1.x)) [.cells (cCur o1.c1)]) fun o1 => .seg [.call [0] (.v (vI o1.x)) [.cells (cCur o1.c1)], .at 0, .keep [0, 3, 4, 5], .sel [0, 1]] (.loop (l19Script_o_F0 o1) fun q1 => let z15 := vI (((q1.i : Nat) : Int) + 1); .br (.seg [.ty .int, .pubS 16] (.intro (fun (o2 : l1PickInt_o_O) => ((CurOk o2.c1)) ∧ Fun Try.prog 28 z21 [.cells (cCur q1.c)] (.v (vI o2.x)) [.cells (cCur o2.c1)]) fun o2 => .seg [.call [0] (.v (vI o2.x)) [.cells (cCur o2.c1)]] (.intro (fun (o3 : l1Once_o_O) => ((CurOk o3.c1)) ∧ Fun Try.prog 31 [vP 0, vI 6] [.cells (cCur o2.c1)] (.v (vB o3.p)) [.cells (cCur o3.c1)]) fun o3 => .seg [.call [0] (.v (vB o3.p)) [.cells (cCur o3.c1)]] (.br (.intro (fun (o4 : l1Once_o_O) => ((CurOk o4.c1)) ∧ Fun Try.prog 31 z23 [.cells (cCur o3.c1)] (.v (vB o4.p)) [.cells (cCur o4.c1)]) fun o4 => .seg [.call [0] (.v (vB o4.p)) [.cells (cCur o4.c1)]] (.br (.intro (fun (o5 : l1Below_o_O) => (((0 : Int) ≤ o5.x) ∧ ((1 : Int) ≤ 3 → o5.x < 3) ∧ (3 ≤ (0 : Int) → o5.x = (0 : Int)) ∧ (CurOk o5.c1)) ∧ Fun Try.prog 26 z24 [.cells (cCur o4.c1)] (.v (vI o5.x)) [.cells (cCur o5.c1)]) fun o5 => .seg [.call [0] (.v (vI o5.x)) [.cells (cCur o5.c1)], .as 26 (.v (vI (20 + o5.x)))] (.intro (fun (o6 : l1Once_o_O) => ((CurOk o6.c1)) ∧ Fun Try.prog 31 z22 [.cells (cCur o5.c1)] (.v (vB o6.p)) [.cells (cCur o6.c1)]) fun o6 => .seg [.call [0] (.v (vB o6.p)) [.cells (cCur o6.c1)]] (.br (.intro (fun (o7 : l1Whole_o_O) => ((CurOk o7.c1)) ∧ Fun Try.prog 32 [vP 0] [.cells (cCur o6.c1)] (.v (vI o7.x)) [.cells (cCur o7.c1)]) fun o7 => .seg [.call [0] (.v (vI o7.x)) [.cells (cCur o7.c1)]] (.intro (fun (o8 : l1Whole_o_O) => ((CurOk o8.c1)) ∧ Fun Try.prog 32 [vP 0] [.cells (cCur o7.c1)] (.v (vI o8.x)) [.cells (cCur o8.c1)]) fun o8 => .seg [.call [0] (.v (vI o8.x)) [.cells (cCur o8.c1)], .ty .rd, .ty .rd, .as 14 (.v z15), .at 0, .keep [0, 3, 4, 5], .sel [0, 5]] (.next))) (.seg [.ty .rd, .ty .rd, .as 14 (.v z15), .at 0, .keep [0, 3, 4, 5], .sel [0, 5]] (.next))))) (.intro (fun (o5 : l1Once_o_O) => ((CurOk o5.c1)) ∧ Fun Try.prog 31 z22 [.cells (cCur o4.c1)] (.v (vB o5.p)) [.cells (cCur o5.c1)]) fun o5 => .seg [.call [0] (.v (vB o5.p)) [.cells (cCur o5.c1)]] (.br (.intro (fun (o6 : l1Whole_o_O) => ((CurOk o6.c1)) ∧ Fun Try.prog 32 [vP 0] [.cells (cCur o5.c1)] (.v (vI o6.x)) [.cells (cCur o6.c1)]) fun o6 => .seg [.call [0] (.v (vI o6.x)) [.cells (cCur o6.c1)]] (.intro (fun (o7 : l1Whole_o_O) => ((CurOk o7.c1)) ∧ Fun Try.prog 32 [vP 0] [.cells (cCur o6.c1)] (.v (vI o7.x)) [.cells (cCur o7.c1)]) fun o7 => .seg [.call [0] (.v (vI o7.x)) [.cells (cCur o7.c1)], .ty .rd, .ty .rd, .as 14 (.v z15), .at 0, .keep [0, 3, 4, 5], .sel [0, 5]] (.next))) (.seg [.ty .rd, .ty .rd, .as 14 (.v z15), .at 0, .keep [0, 3, 4, 5], .sel [0, 5]] (.next)))))) (.intro (fun (o4 : l1Once_o_O) => ((CurOk o4.c1)) ∧ Fun Try.prog 31 z23 [.cells (cCur o3.c1)] (.v (vB o4.p)) [.cells (cCur o4.c1)]) fun o4 => .seg [.call [0] (.v (vB o4.p)) [.cells (cCur o4.c1)]] (.br (.intro (fun (o5 : l1Below_o_O) => (((0 : Int) ≤ o5.x) ∧ ((1 : Int) ≤ 3 → o5.x < 3) ∧ (3 ≤ (0 : Int) → o5.x = (0 : Int)) ∧ (CurOk o5.c1)) ∧ Fun Try.prog 26 z24 [.cells (cCur o4.c1)] (.v (vI o5.x)) [.cells (cCur o5.c1)]) fun o5 => .seg [.call [0] (.v (vI o5.x)) [.cells (cCur o5.c1)], .as 26 (.v (vI (20 + o5.x)))] (.intro (fun (o6 : l1Once_o_O) => ((CurOk o6.c1)) ∧ Fun Try.prog 31 z22 [.cells (cCur o5.c1)] (.v (vB o6.p)) [.cells (cCur o6.c1)]) fun o6 => .seg [.call [0] (.v (vB o6.p)) [.cells (cCur o6.c1)]] (.br (.intro (fun (o7 : l1Whole_o_O) => ((CurOk o7.c1)) ∧ Fun Try.prog 32 [vP 0] [.cells (cCur o6.c1)] (.v (vI o7.x)) [.cells (cCur o7.c1)]) fun o7 => .seg [.call [0] (.v (vI o7.x)) [.cells (cCur o7.c1)]] (.intro (fun (o8 : l1Whole_o_O) => ((CurOk o8.c1)) ∧ Fun Try.prog 32 [vP 0] [.cells (cCur o7.c1)] (.v (vI o8.x)) [.cells (cCur o8.c1)]) fun o8 => .seg [.call [0] (.v (vI o8.x)) [.cells (cCur o8.c1)], .ty .rd, .ty .rd, .as 14 (.v z15), .at 0, .keep [0, 3, 4, 5], .sel [0, 5]] (.next))) (.seg [.ty .rd, .ty .rd, .as 14 (.v z15), .at 0, .keep [0, 3, 4, 5], .sel [0, 5]] (.next))))) (.intro (fun (o5 : l1Once_o_O) => ((CurOk o5.c1)) ∧ Fun Try.prog 31 z22 [.cells (cCur o4.c1)] (.v (vB o5.p)) [.cells (cCur o5.c1)]) fun o5 => .seg [.call [0] (.v (vB o5.p)) [.cells (cCur o5.c1)]] (.br (.intro (fun (o6 : l1Whole_o_O) => ((CurOk o6.c1)) ∧ Fun Try.prog 32 [vP 0] [.cells (cCur o5.c1)] (.v (vI o6.x)) [.cells (cCur o6.c1)]) fun o6 => .seg [.call [0] (.v (vI o6.x)) [.cells (cCur o6.c1)]] (.intro (fun (o7 : l1Whole_o_O) => ((CurOk o7.c1)) ∧ Fun Try.prog 32 [vP 0] [.cells (cCur o6.c1)] (.v (vI o7.x)) [.cells (cCur o7.c1)]) fun o7 => .seg [.call [0] (.v (vI o7.x)) [.cells (cCur o7.c1)], .ty .rd, .ty .rd, .as 14 (.v z15), .at 0, .keep [0, 3, 4, 5], .sel [0, 5]] (.next))) (.seg [.ty .rd, .ty .rd, .as 14 (.v z15), .at 0, .keep [0, 3, 4, 5], .sel [0, 5]] (.next)))))))))) (.leaf (⟨q1.out, q1.c⟩ : l19Script_o_O) [0, 1]))), (∃ (o1 : l1Below_o_O), (((0 : Int) ≤ o1.x) ∧ ((1 : Int) ≤ 8 → o1.x < 8) ∧ (8 ≤ (0 : Int) → o1.x = (0 : Int)) ∧ (CurOk o1.c1)) ∧ Fun Try.prog 26 [vP 0, vI 8] z25 (.v (vI o1.x)) [.cells (cCur o1.c1)]) ∧ ∀ (o1 : l1Below_o_O), ((((0 : Int) ≤ o1.x) ∧ ((1 : Int) ≤ 8 → o1.x < 8) ∧ (8 ≤ (0 : Int) → o1.x = (0 : Int)) ∧ (CurOk o1.c1)) ∧ Fun Try.prog 26 [vP 0, vI 8] z25 (.v (vI o1.x)) [.cells (cCur o1.c1)]) → (let z20 := l19Script_o_F0 o1; (Fun Try.prog 26 [vP 0, vI 8] z25 (.v (vI o1.x)) [.cells (cCur o1.c1)]) ∧ z20.Has [(0, .v (vP 0)), (3, .v (vO 1)), (4, .v (vI o1.x)), (5, .v (vI 0))] [.cells (cCur o1.c1), .lst .rd ([] : List Rd)] ∧ ∀ q1, z20.inv q1 → (let z18 := ((q1.i : Nat) : Int); let z17 := vI (z18 + 1); let z16 := (.v (vI (IntKind.i64.wrap (z18 + 1))) : S) = .v z17; let z19 := cCur q1.c; ((decide (z18 < o1.x)) = true → (∃ (o2 : l1PickInt_o_O), ((CurOk o2.c1)) ∧ Fun Try.prog 28 z21 [.cells z19] (.v (vI o2.x)) [.cells (cCur o2.c1)]) ∧ ∀ (o2 : l1PickInt_o_O), (((CurOk o2.c1)) ∧ Fun Try.prog 28 z21 [.cells z19] (.v (vI o2.x)) [.cells (cCur o2.c1)]) → (let z14 : List Blk := [.cells (cCur o2.c1)]; (Fun Try.prog 28 z21 [.cells z19] (.v (vI o2.x)) z14) ∧ (∃ (o3 : l1Once_o_O), ((CurOk o3.c1)) ∧ Fun Try.prog 31 [vP 0, vI 6] z14 (.v (vB o3.p)) [.cells (cCur o3.c1)]) ∧ ∀ (o3 : l1Once_o_O), (((CurOk o3.c1)) ∧ Fun Try.prog 31 [vP 0, vI 6] z14 (.v (vB o3.p)) [.cells (cCur o3.c1)]) → (let z13 : List Blk := [.cells (cCur o3.c1)]; (Fun Try.prog 31 [vP 0, vI 6] z14 (.v (vB o3.p)) z13) ∧ (o3.p = true → (∃ (o4 : l1Once_o_O), ((CurOk o4.c1)) ∧ Fun Try.prog 31 z23 z13 (.v (vB o4.p)) [.cells (cCur o4.c1)]) ∧ ∀ (o4 : l1Once_o_O), (((CurOk o4.c1)) ∧ Fun Try.prog 31 z23 z13 (.v (vB o4.p)) [.cells (cCur o4.c1)]) → (let z6 : List Blk := [.cells (cCur o4.c1)]; (Fun Try.prog 31 z23 z13 (.v (vB o4.p)) z6) ∧ (o4.p = true → (∃ (o5 : l1Below_o_O), (((0 : Int) ≤ o5.x) ∧ ((1 : Int) ≤ 3 → o5.x < 3) ∧ (3 ≤ (0 : Int) → o5.x = (0 : Int)) ∧ (CurOk o5.c1)) ∧ Fun Try.prog 26 z24 z6 (.v (vI o5.x)) [.cells (cCur o5.c1)]) ∧ ∀ (o5 : l1Below_o_O), ((((0 : Int) ≤ o5.x) ∧ ((1 : Int) ≤ 3 → o5.x < 3) ∧ (3 ≤ (0 : Int) → o5.x = (0 : Int)) ∧ (CurOk o5.c1)) ∧ Fun Try.prog 26 z24 z6 (.v (vI o5.x)) [.cells (cCur o5.c1)]) → (let z3 : List Blk := [.cells (cCur o5.c1)]; (Fun Try.prog 26 z24 z6 (.v (vI o5.x)) z3) ∧ ((.v (vI (IntKind.i64.wrap (20 + o5.x))) : S) = .v (vI (20 + o5.x))) ∧ (∃ (o6 : l1Once_o_O), ((CurOk o6.c1)) ∧ Fun Try.prog 31 z22 z3 (.v (vB o6.p)) [.cells (cCur o6.c1)]) ∧ ∀ (o6 : l1Once_o_O), (((CurOk o6.c1)) ∧ Fun Try.prog 31 z22 z3 (.v (vB o6.p)) [.cells (cCur o6.c1)]) → (let z2 : List Blk := [.cells (cCur o6.c1)]; (Fun Try.prog 31 z22 z3 (.v (vB o6.p)) z2) ∧ (o6.p = true → (∃ (o7 : l1Whole_o_O), ((CurOk o7.c1)) ∧ Fun Try.prog 32 [vP 0] z2 (.v (vI o7.x)) [.cells (cCur o7.c1)]) ∧ ∀ (o7 : l1Whole_o_O), (((CurOk o7.c1)) ∧ Fun Try.prog 32 [vP 0] z2 (.v (vI o7.x)) [.cells (cCur o7.c1)]) → (let z1 : List Blk := [.cells (cCur o7.c1)]; (Fun Try.prog 32 [vP 0] z2 (.v (vI o7.x)) z1) ∧ (∃ (o8 : l1Whole_o_O), ((CurOk o8.c1)) ∧ Fun Try.prog 32 [vP 0] z1 (.v (vI o8.x)) [.cells (cCur o8.c1)]) ∧ ∀ (o8 : l1Whole_o_O), (((CurOk o8.c1)) ∧ Fun Try.prog 32 [vP 0] z1 (.v (vI o8.x)) [.cells (cCur o8.c1)]) → ((Fun Try.prog 32 [vP 0] z1 (.v (vI o8.x)) [.cells (cCur o8.c1)]) ∧ (List.length q1.out + List.length [(⟨o7.x, o8.x⟩ : Rd)] ≤ bigN) ∧ z16 ∧ z20.Nxt q1 [(0, .v (vP 0)), (3, .v (vO 1)), (4, .v (vI o1.x)), (5, .v z17)] [.cells (cCur o8.c1), .lst .rd (q1.out ++ [(⟨o7.x, o8.x⟩ : Rd)])]))) ∧ (o6.p = false → (List.length q1.out + List.length [(⟨o2.x, 20 + o5.x⟩ : Rd)] ≤ bigN) ∧ z16 ∧ z20.Nxt q1 [(0, .v (vP 0)), (3, .v (vO 1)), (4, .v (vI o1.x)), (5, .v z17)] [.cells (cCur o6.c1), .lst .rd (q1.out ++ [(⟨o2.x, 20 + o5.x⟩ : Rd)])])))) ∧ (o4.p = false → (∃ (o5 : l1Once_o_O), ((CurOk o5.c1)) ∧ Fun Try.prog 31 z22 z6 (.v (vB o5.p)) [.cells (cCur o5.c1)]) ∧ ∀ (o5 : l1Once_o_O), (((CurOk o5.c1)) ∧ Fun Try.prog 31 z22 z6 (.v (vB o5.p)) [.cells (cCur o5.c1)]) → (let z5 : List Blk := [.cells (cCur o5.c1)]; (Fun Try.prog 31 z22 z6 (.v (vB o5.p)) z5) ∧ (o5.p = true → (∃ (o6 : l1Whole_o_O), ((CurOk o6.c1)) ∧ Fun Try.prog 32 [vP 0] z5 (.v (vI o6.x)) [.cells (cCur o6.c1)]) ∧ ∀ (o6 : l1Whole_o_O), (((CurOk o6.c1)) ∧ Fun Try.prog 32 [vP 0] z5 (.v (vI o6.x)) [.cells (cCur o6.c1)]) → (let z4 : List Blk := [.cells (cCur o6.c1)]; (Fun Try.prog 32 [vP 0] z5 (.v (vI o6.x)) z4) ∧ (∃ (o7 : l1Whole_o_O), ((CurOk o7.c1)) ∧ Fun Try.prog 32 [vP 0] z4 (.v (vI o7.x)) [.cells (cCur o7.c1)]) ∧ ∀ (o7 : l1Whole_o_O), (((CurOk o7.c1)) ∧ Fun Try.prog 32 [vP 0] z4 (.v (vI o7.x)) [.cells (cCur o7.c1)]) → ((Fun Try.prog 32 [vP 0] z4 (.v (vI o7.x)) [.cells (cCur o7.c1)]) ∧ (List.length q1.out + List.length [(⟨o6.x, o7.x⟩ : Rd)] ≤ bigN) ∧ z16 ∧ z20.Nxt q1 [(0, .v (vP 0)), (3, .v (vO 1)), (4, .v (vI o1.x)), (5, .v z17)] [.cells (cCur o7.c1), .lst .rd (q1.out ++ [(⟨o6.x, o7.x⟩ : Rd)])]))) ∧ (o5.p = false → (List.length q1.out + List.length [(⟨o2.x, 1⟩ : Rd)] ≤ bigN) ∧ z16 ∧ z20.Nxt q1 [(0, .v (vP 0)), (3, .v (vO 1)), (4, .v (vI o1.x)), (5, .v z17)] [.cells (cCur o5.c1), .lst .rd (q1.out ++ [(⟨o2.x, 1⟩ : Rd)])]))))) ∧ (o3.p = false → (∃ (o4 : l1Once_o_O), ((CurOk o4.c1)) ∧ Fun Try.prog 31 z23 z13 (.v (vB o4.p)) [.cells (cCur o4.c1)]) ∧ ∀ (o4 : l1Once_o_O), (((CurOk o4.c1)) ∧ Fun Try.prog 31 z23 z13 (.v (vB o4.p)) [.cells (cCur o4.c1)]) → (let z12 : List Blk := [.cells (cCur o4.c1)]; (Fun Try.prog 31 z23 z13 (.v (vB o4.p)) z12) ∧ (o4.p = true → (∃ (o5 : l1Below_o_O), (((0 : Int) ≤ o5.x) ∧ ((1 : Int) ≤ 3 → o5.x < 3) ∧ (3 ≤ (0 : Int) → o5.x = (0 : Int)) ∧ (CurOk o5.c1)) ∧ Fun Try.prog 26 z24 z12 (.v (vI o5.x)) [.cells (cCur o5.c1)]) ∧ ∀ (o5 : l1Below_o_O), ((((0 : Int) ≤ o5.x) ∧ ((1 : Int) ≤ 3 → o5.x < 3) ∧ (3 ≤ (0 : Int) → o5.x = (0 : Int)) ∧ (CurOk o5.c1)) ∧ Fun Try.prog 26 z24 z12 (.v (vI o5.x)) [.cells (cCur o5.c1)]) → (let z9 : List Blk := [.cells (cCur o5.c1)]; (Fun Try.prog 26 z24 z12 (.v (vI o5.x)) z9) ∧ ((.v (vI (IntKind.i64.wrap (20 + o5.x))) : S) = .v (vI (20 + o5.x))) ∧ (∃ (o6 : l1Once_o_O), ((CurOk o6.c1)) ∧ Fun Try.prog 31 z22 z9 (.v (vB o6.p)) [.cells (cCur o6.c1)]) ∧ ∀ (o6 : l1Once_o_O), (((CurOk o6.c1)) ∧ Fun Try.prog 31 z22 z9 (.v (vB o6.p)) [.cells (cCur o6.c1)]) → (let z8 : List Blk := [.cells (cCur o6.c1)]; (Fun Try.prog 31 z22 z9 (.v (vB o6.p)) z8) ∧ (o6.p = true → (∃ (o7 : l1Whole_o_O), ((CurOk o7.c1)) ∧ Fun Try.prog 32 [vP 0] z8 (.v (vI o7.x)) [.cells (cCur o7.c1)]) ∧ ∀ (o7 : l1Whole_o_O), (((CurOk o7.c1)) ∧ Fun Try.prog 32 [vP 0] z8 (.v (vI o7.x)) [.cells (cCur o7.c1)]) → (let z7 : List Blk := [.cells (cCur o7.c1)]; (Fun Try.prog 32 [vP 0] z8 (.v (vI o7.x)) z7) ∧ (∃ (o8 : l1Whole_o_O), ((CurOk o8.c1)) ∧ Fun Try.prog 32 [vP 0] z7 (.v (vI o8.x)) [.cells (cCur o8.c1)]) ∧ ∀ (o8 : l1Whole_o_O), (((CurOk o8.c1)) ∧ Fun Try.prog 32 [vP 0] z7 (.v (vI o8.x)) [.cells (cCur o8.c1)]) → ((Fun Try.prog 32 [vP 0] z7 (.v (vI o8.x)) [.cells (cCur o8.c1)]) ∧ (List.length q1.out + List.length [(⟨o7.x, o8.x⟩ : Rd)] ≤ bigN) ∧ z16 ∧ z20.Nxt q1 [(0, .v (vP 0)), (3, .v (vO 1)), (4, .v (vI o1.x)), (5, .v z17)] [.cells (cCur o8.c1), .lst .rd (q1.out ++ [(⟨o7.x, o8.x⟩ : Rd)])]))) ∧ (o6.p = false → (List.length q1.out + List.length [(⟨o2.x, 20 + o5.x⟩ : Rd)] ≤ bigN) ∧ z16 ∧ z20.Nxt q1 [(0, .v (vP 0)), (3, .v (vO 1)), (4, .v (vI o1.x)), (5, .v z17)] [.cells (cCur o6.c1), .lst .rd (q1.out ++ [(⟨o2.x, 20 + o5.x⟩ : Rd)])])))) ∧ (o4.p = false → (∃ (o5 : l1Once_o_O), ((CurOk o5.c1)) ∧ Fun Try.prog 31 z22 z12 (.v (vB o5.p)) [.cells (cCur o5.c1)]) ∧ ∀ (o5 : l1Once_o_O), (((CurOk o5.c1)) ∧ Fun Try.prog 31 z22 z12 (.v (vB o5.p)) [.cells (cCur o5.c1)]) → (let z11 : List Blk := [.cells (cCur o5.c1)]; (Fun Try.prog 31 z22 z12 (.v (vB o5.p)) z11) ∧ (o5.p = true → (∃ (o6 : l1Whole_o_O), ((CurOk o6.c1)) ∧ Fun Try.prog 32 [vP 0] z11 (.v (vI o6.x)) [.cells (cCur o6.c1)]) ∧ ∀ (o6 : l1Whole_o_O), (((CurOk o6.c1)) ∧ Fun Try.prog 32 [vP 0] z11 (.v (vI o6.x)) [.cells (cCur o6.c1)]) → (let z10 : List Blk := [.cells (cCur o6.c1)]; (Fun Try.prog 32 [vP 0] z11 (.v (vI o6.x)) z10) ∧ (∃ (o7 : l1Whole_o_O), ((CurOk o7.c1)) ∧ Fun Try.prog 32 [vP 0] z10 (.v (vI o7.x)) [.cells (cCur o7.c1)]) ∧ ∀ (o7 : l1Whole_o_O), (((CurOk o7.c1)) ∧ Fun Try.prog 32 [vP 0] z10 (.v (vI o7.x)) [.cells (cCur o7.c1)]) → ((Fun Try.prog 32 [vP 0] z10 (.v (vI o7.x)) [.cells (cCur o7.c1)]) ∧ (List.length q1.out + List.length [(⟨o6.x, o7.x⟩ : Rd)] ≤ bigN) ∧ z16 ∧ z20.Nxt q1 [(0, .v (vP 0)), (3, .v (vO 1)), (4, .v (vI o1.x)), (5, .v z17)] [.cells (cCur o7.c1), .lst .rd (q1.out ++ [(⟨o6.x, o7.x⟩ : Rd)])]))) ∧ (o5.p = false → (List.length q1.out + List.length [(⟨o2.x, 0⟩ : Rd)] ≤ bigN) ∧ z16 ∧ z20.Nxt q1 [(0, .v (vP 0)), (3, .v (vO 1)), (4, .v (vI o1.x)), (5, .v z17)] [.cells (cCur o5.c1), .lst .rd (q1.out ++ [(⟨o2.x, 0⟩ : Rd)])])))))))) ∧ ((decide (z18 < o1.x)) = false → ((List.length q1.out ≤ 8) ∧ (CurOk q1.c)) ∧ (.v (vO 1) : S) = .v (vO 1) ∧ ([.cells z19, .lst .rd q1.out] : List Blk) = [.cells z19, .lst .rd q1.out]))))) (by kernel_rfl) ?_
 refine ⟨(l1Below_o c 8 (by first | assumption | (exact ⟨by dsimp only; first | omega | (have := hp1.1; omega), hp1.2⟩))), fun o1 ho_o1 => ?_⟩
 obtain ⟨⟨hp_o1_0, hp_o1_1, hp_o1_2, hp_o1_3⟩, hf_o1⟩ := ho_o1
 refine ⟨hf_o1, has_of (j := (⟨o1.c1, ([] : List Rd), 0⟩ : l19Script_o_V0)) (by first | rfl | simp) rfl (by dsimp only [l19Script_o_F0]; exact ⟨by assumption, rfl, by omega⟩), fun (q1 : l19Script_o_V0) hq_q1 => ?_⟩
 have hi_q1 : CurOk q1.c ∧ List.length q1.out = q1.i ∧ q1.i ≤ 8 := hq_q1
 obtain ⟨v1, v2, v3⟩ := hi_q1
 refine dsp (fun h1 p1 => ?_) fun h1 p1 => ?_
 refine ⟨(l1PickInt_o q1.c [0, 1, 1, 2, 3, 5, 9, 16, 30, (-1)] (by first | assumption | (exact ⟨by dsimp only; first | omega | (have := hp1.1; omega), hp1.2⟩)) (by simp only [List.length_cons, List.length_nil]; omega) (by simp only [List.length_cons, List.length_nil]; omega)), fun o2 ho_o2 => ?_⟩
 obtain ⟨hp_o2, hf_o2⟩ := ho_o2
 refine ⟨hf_o2, (l1Once_o o2.c1 6 (by first | assumption | (exact ⟨by dsimp only; first | omega | (have := hp1.1; omega), hp1.2⟩))), fun o3 ho_o3 => ?_⟩
 obtain ⟨hp_o3, hf_o3⟩ := ho_o3
 refine ⟨hf_o3, fun h2 => ?_, fun h2 => ?_⟩
 refine ⟨(l1Once_o o3.c1 24 (by first | assumption | (exact ⟨by dsimp only; first | omega | (have := hp1.1; omega), hp1.2⟩))), fun o4 ho_o4 => ?_⟩
 obtain ⟨hp_o4, hf_o4⟩ := ho_o4
 refine ⟨hf_o4, fun h3 => ?_, fun h3 => ?_⟩
 refine ⟨(l1Below_o o4.c1 3 (by first | assumption | (exact ⟨by dsimp only; first | omega | (have := hp1.1; omega), hp1.2⟩))), fun o5 ho_o5 => ?_⟩
 obtain ⟨⟨hp_o5_0, hp_o5_1, hp_o5_2, hp_o5_3⟩, hf_o5⟩ := ho_o5
 refine ⟨hf_o5, (as_i64 (by omega) (by omega)), (l1Once_o o5.c1 30 (by first | assumption | (exact ⟨by dsimp only; first | omega | (have := hp1.1; omega), hp1.2⟩))), fun o6 ho_o6 => ?_⟩
 obtain ⟨hp_o6, hf_o6⟩ := ho_o6
 refine ⟨hf_o6, fun h4 => ?_, fun h4 => ?_⟩
 refine ⟨(l1Whole_o o6.c1 (by first | assumption | (exact ⟨by dsimp only; first | omega | (have := hp1.1; omega), hp1.2⟩))), fun o7 ho_o7 => ?_⟩
 obtain ⟨hp_o7, hf_o7⟩ := ho_o7
 refine ⟨hf_o7, (l1Whole_o o7.c1 (by first | assumption | (exact ⟨by dsimp only; first | omega | (have := hp1.1; omega), hp1.2⟩))), fun o8 ho_o8 => ?_⟩
 obtain ⟨hp_o8, hf_o8⟩ := ho_o8
 exact ⟨hf_o8, (by simp only [List.length_cons, List.length_nil]; omega), (as_i64 (by omega) (by omega)), nxt_of (j := (⟨o8.c1, q1.out ++ [(⟨o7.x, o8.x⟩ : Rd)], q1.i + 1⟩ : l19Script_o_V0)) (by first | rfl | simp) rfl (by dsimp only [l19Script_o_F0]; exact ⟨by assumption, by simp; omega, by omega⟩) (by dsimp only [l19Script_o_F0]; omega)⟩
 exact ⟨(by simp only [List.length_cons, List.length_nil]; omega), (as_i64 (by omega) (by omega)), nxt_of (j := (⟨o6.c1, q1.out ++ [(⟨o2.x, 20 + o5.x⟩ : Rd)], q1.i + 1⟩ : l19Script_o_V0)) (by first | rfl | simp) rfl (by dsimp only [l19Script_o_F0]; exact ⟨by assumption, by simp; omega, by omega⟩) (by dsimp only [l19Script_o_F0]; omega)⟩
 refine ⟨(l1Once_o o4.c1 30 (by first | assumption | (exact ⟨by dsimp only; first | omega | (have := hp1.1; omega), hp1.2⟩))), fun o5 ho_o5 => ?_⟩
 obtain ⟨hp_o5, hf_o5⟩ := ho_o5
 refine ⟨hf_o5, fun h4 => ?_, fun h4 => ?_⟩
 refine ⟨(l1Whole_o o5.c1 (by first | assumption | (exact ⟨by dsimp only; first | omega | (have := hp1.1; omega), hp1.2⟩))), fun o6 ho_o6 => ?_⟩
 obtain ⟨hp_o6, hf_o6⟩ := ho_o6
 refine ⟨hf_o6, (l1Whole_o o6.c1 (by first | assumption | (exact ⟨by dsimp only; first | omega | (have := hp1.1; omega), hp1.2⟩))), fun o7 ho_o7 => ?_⟩
 obtain ⟨hp_o7, hf_o7⟩ := ho_o7
 exact ⟨hf_o7, (by simp only [List.length_cons, List.length_nil]; omega), (as_i64 (by omega) (by omega)), nxt_of (j := (⟨o7.c1, q1.out ++ [(⟨o6.x, o7.x⟩ : Rd)], q1.i + 1⟩ : l19Script_o_V0)) (by first | rfl | simp) rfl (by dsimp only [l19Script_o_F0]; exact ⟨by assumption, by simp; omega, by omega⟩) (by dsimp only [l19Script_o_F0]; omega)⟩
 exact ⟨(by simp only [List.length_cons, List.length_nil]; omega), (as_i64 (by omega) (by omega)), nxt_of (j := (⟨o5.c1, q1.out ++ [(⟨o2.x, 1⟩ : Rd)], q1.i + 1⟩ : l19Script_o_V0)) (by first | rfl | simp) rfl (by dsimp only [l19Script_o_F0]; exact ⟨by assumption, by simp; omega, by omega⟩) (by dsimp only [l19Script_o_F0]; omega)⟩
 refine ⟨(l1Once_o o3.c1 24 (by first | assumption | (exact ⟨by dsimp only; first | omega | (have := hp1.1; omega), hp1.2⟩))), fun o4 ho_o4 => ?_⟩
 obtain ⟨hp_o4, hf_o4⟩ := ho_o4
 refine ⟨hf_o4, fun h3 => ?_, fun h3 => ?_⟩
 refine ⟨(l1Below_o o4.c1 3 (by first | assumption | (exact ⟨by dsimp only; first | omega | (have := hp1.1; omega), hp1.2⟩))), fun o5 ho_o5 => ?_⟩
 obtain ⟨⟨hp_o5_0, hp_o5_1, hp_o5_2, hp_o5_3⟩, hf_o5⟩ := ho_o5
 refine ⟨hf_o5, (as_i64 (by omega) (by omega)), (l1Once_o o5.c1 30 (by first | assumption | (exact ⟨by dsimp only; first | omega | (have := hp1.1; omega), hp1.2⟩))), fun o6 ho_o6 => ?_⟩
 obtain ⟨hp_o6, hf_o6⟩ := ho_o6
 refine ⟨hf_o6, fun h4 => ?_, fun h4 => ?_⟩
 refine ⟨(l1Whole_o o6.c1 (by first | assumption | (exact ⟨by dsimp only; first | omega | (have := hp1.1; omega), hp1.2⟩))), fun o7 ho_o7 => ?_⟩
 obtain ⟨hp_o7, hf_o7⟩ := ho_o7
 refine ⟨hf_o7, (l1Whole_o o7.c1 (by first | assumption | (exact ⟨by dsimp only; first | omega | (have := hp1.1; omega), hp1.2⟩))), fun o8 ho_o8 => ?_⟩
 obtain ⟨hp_o8, hf_o8⟩ := ho_o8
 exact ⟨hf_o8, (by simp only [List.length_cons, List.length_nil]; omega), (as_i64 (by omega) (by omega)), nxt_of (j := (⟨o8.c1, q1.out ++ [(⟨o7.x, o8.x⟩ : Rd)], q1.i + 1⟩ : l19Script_o_V0)) (by first | rfl | simp) rfl (by dsimp only [l19Script_o_F0]; exact ⟨by assumption, by simp; omega, by omega⟩) (by dsimp only [l19Script_o_F0]; omega)⟩
 exact ⟨(by simp only [List.length_cons, List.length_nil]; omega), (as_i64 (by omega) (by omega)), nxt_of (j := (⟨o6.c1, q1.out ++ [(⟨o2.x, 20 + o5.x⟩ : Rd)], q1.i + 1⟩ : l19Script_o_V0)) (by first | rfl | simp) rfl (by dsimp only [l19Script_o_F0]; exact ⟨by assumption, by simp; omega, by omega⟩) (by dsimp only [l19Script_o_F0]; omega)⟩
 refine ⟨(l1Once_o o4.c1 30 (by first | assumption | (exact ⟨by dsimp only; first | omega | (have := hp1.1; omega), hp1.2⟩))), fun o5 ho_o5 => ?_⟩
 obtain ⟨hp_o5, hf_o5⟩ := ho_o5
 refine ⟨hf_o5, fun h4 => ?_, fun h4 => ?_⟩
 refine ⟨(l1Whole_o o5.c1 (by first | assumption | (exact ⟨by dsimp only; first | omega | (have := hp1.1; omega), hp1.2⟩))), fun o6 ho_o6 => ?_⟩
 obtain ⟨hp_o6, hf_o6⟩ := ho_o6
 refine ⟨hf_o6, (l1Whole_o o6.c1 (by first | assumption | (exact ⟨by dsimp only; first | omega | (have := hp1.1; omega), hp1.2⟩))), fun o7 ho_o7 => ?_⟩
 obtain ⟨hp_o7, hf_o7⟩ := ho_o7
 exact ⟨hf_o7, (by simp only [List.length_cons, List.length_nil]; omega), (as_i64 (by omega) (by omega)), nxt_of (j := (⟨o7.c1, q1.out ++ [(⟨o6.x, o7.x⟩ : Rd)], q1.i + 1⟩ : l19Script_o_V0)) (by first | rfl | simp) rfl (by dsimp only [l19Script_o_F0]; exact ⟨by assumption, by simp; omega, by omega⟩) (by dsimp only [l19Script_o_F0]; omega)⟩
 exact ⟨(by simp only [List.length_cons, List.length_nil]; omega), (as_i64 (by omega) (by omega)), nxt_of (j := (⟨o5.c1, q1.out ++ [(⟨o2.x, 0⟩ : Rd)], q1.i + 1⟩ : l19Script_o_V0)) (by first | rfl | simp) rfl (by dsimp only [l19Script_o_F0]; exact ⟨by assumption, by simp; omega, by omega⟩) (by dsimp only [l19Script_o_F0]; omega)⟩
 exact ⟨⟨(by omega), (by first | assumption | (exact ⟨by dsimp only; first | omega | (have := hp1.1; omega), hp1.2⟩))⟩, rfl, rfl⟩
structure l19Room_o_O where
 x : Int
 c1 : Cur
theorem l19Room_o (c : Cur) (hp1 : CurOk c) : ∃ o : l19Room_o_O, ((CurOk o.c1)) ∧ Fun Try.prog 18 [vP 0] [.cells (cCur c)] (.v (vI o.x)) [.cells (cCur o.c1)] := by
 have hN : bigN = 274877906944 := rfl
 refine funs_ofw Try.func18 (by kernel_rfl) (by kernel_rfl) (w := let z1 : List V := [vP 0, .c (.seq .int [1, 2, 5, 16, 16, 0, (-1), 9223372036854775807])]; let z2 : List Blk := [.cells (cCur c)]; (.seg [.ty .int, .pubS 4] (.intro (fun (o1 : l1PickInt_o_O) => ((CurOk o1.c1)) ∧ Fun Try.prog 28 z1 z2 (.v (vI o1.x)) [.cells (cCur o1.c1)]) fun o1 => .seg [.call [0] (.v (vI o1.x)) [.cells (cCur o1.c1)]] (.leaf (⟨o1.x, o1.c1⟩ : l19Room_o_O) [0])), (∃ (o1 : l1PickInt_o_O), ((CurOk o1.c1)) ∧ Fun Try.prog 28 z1 z2 (.v (vI o1.x)) [.cells (cCur o1.c1)]) ∧ ∀ (o1 : l1PickInt_o_O), (((CurOk o1.c1)) ∧ Fun Try.prog 28 z1 z2 (.v (vI o1.x)) [.cells (cCur o1.c1)]) → ((Fun Try.prog 28 z1 z2 (.v (vI o1.x)) [.cells (cCur o1.c1)]) ∧ ((CurOk o1.c1)) ∧ (.v (vI o1.x) : S) = .v (vI o1.x) ∧ ([.cells (cCur o1.c1)] : List Blk) = [.cells (cCur o1.c1)]))) (by kernel_rfl) ?_
 refine ⟨(l1PickInt_o c [1, 2, 5, 16, 16, 0, (-1), 9223372036854775807] (by first | assumption | (exact ⟨by dsimp only; first | omega | (have := hp1.1; omega), hp1.2⟩)) (by simp only [List.length_cons, List.length_nil]; omega) (by simp only [List.length_cons, List.length_nil]; omega)), fun o1 ho_o1 => ?_⟩
 obtain ⟨hp_o1, hf_o1⟩ := ho_o1
 exact ⟨hf_o1, (by first | assumption | (exact ⟨by dsimp only; first | omega | (have := hp1.1; omega), hp1.2⟩)), rfl, rfl⟩
theorem within_i (n : Int) (lo : Int) (hi : Int) : Fun Try.prog 23 [vI n, vI lo, vI hi] [] (.v (vB (within n lo hi))) [] := by
 have hN : bigN = 274877906944 := rfl
 refine fun_ofw Try.func23 (by kernel_rfl) (by kernel_rfl) (w := (.br (.leaf () []) (.leaf () []), ((decide (lo ≤ n)) = true → (.v (vB (decide (n ≤ hi))) : S) = .v (vB (within n lo hi)) ∧ ([] : List Blk) = []) ∧ ((decide (lo ≤ n)) = false → (.v (vB false) : S) = .v (vB (within n lo hi)) ∧ ([] : List Blk) = []))) (by kernel_rfl) ?_
 refine dsp (fun h1 p1 => ?_) fun h1 p1 => ?_
 exact ⟨(congrArg S.v (congrArg V.c (congrArg C.bool (by simp [within, *])))), rfl⟩
 exact ⟨(congrArg S.v (congrArg V.c (congrArg C.bool (by simp [within, *])))), rfl⟩
theorem within_s (n : Int) (lo : Int) (hi : Int) : Fun Try.prog 24 [vI n, vI lo, vI hi] [] (.v (vB (within n lo hi))) [] := by
 have hN : bigN = 274877906944 := rfl
 refine fun_ofw Try.func24 (by kernel_rfl) (by kernel_rfl) (w := (.br (.leaf () []) (.leaf () []), ((decide (lo ≤ n)) = true → (.v (vB (decide (n ≤ hi))) : S) = .v (vB (within n lo hi)) ∧ ([] : List Blk) = []) ∧ ((decide (lo ≤ n)) = false → (.v (vB false) : S) = .v (vB (within n lo hi)) ∧ ([] : List Blk) = []))) (by kernel_rfl) ?_
 refine dsp (fun h1 p1 => ?_) fun h1 p1 => ?_
 exact ⟨(congrArg S.v (congrArg V.c (congrArg C.bool (by simp [within, *])))), rfl⟩
 exact ⟨(congrArg S.v (congrArg V.c (congrArg C.bool (by simp [within, *])))), rfl⟩
theorem l1min (a : Int) (b : Int) : Fun Try.prog 22 [vI a, vI b] [] (.v (vI (min a b))) [] := by
 have hN : bigN = 274877906944 := rfl
 refine fun_ofw Try.func22 (by kernel_rfl) (by kernel_rfl) (w := (.br (.leaf () []) (.leaf () []), ((decide (a < b)) = true → (.v (vI a) : S) = .v (vI (min a b)) ∧ ([] : List Blk) = []) ∧ ((decide (a < b)) = false → (.v (vI b) : S) = .v (vI (min a b)) ∧ ([] : List Blk) = []))) (by kernel_rfl) ?_
 refine dsp (fun h1 p1 => ?_) fun h1 p1 => ?_
 exact ⟨(congrArg S.v (congrArg V.c (congrArg (C.int .i64) (by omega)))), rfl⟩
 exact ⟨(congrArg S.v (congrArg V.c (congrArg (C.int .i64) (by omega)))), rfl⟩
theorem l1max (a : Int) (b : Int) : Fun Try.prog 21 [vI a, vI b] [] (.v (vI (max a b))) [] := by
 have hN : bigN = 274877906944 := rfl
 refine fun_ofw Try.func21 (by kernel_rfl) (by kernel_rfl) (w := (.br (.leaf () []) (.leaf () []), ((decide (b < a)) = true → (.v (vI a) : S) = .v (vI (max a b)) ∧ ([] : List Blk) = []) ∧ ((decide (b < a)) = false → (.v (vI b) : S) = .v (vI (max a b)) ∧ ([] : List Blk) = []))) (by kernel_rfl) ?_
 refine dsp (fun h1 p1 => ?_) fun h1 p1 => ?_
 exact ⟨(congrArg S.v (congrArg V.c (congrArg (C.int .i64) (by omega)))), rfl⟩
 exact ⟨(congrArg S.v (congrArg V.c (congrArg (C.int .i64) (by omega)))), rfl⟩
theorem cloneRd (l : List Rd) (hp1 : List.length l ≤ bigN) : Fun Try.prog 29 [.c (.seq .rd l)] [] (.v (vO 0)) [.lst .rd l] := by
 refine ⟨callable_of Try.func29 (by kernel_rfl) (by kernel_rfl), ?_⟩
 have key : Sm Try.prog 8 0 (regAt Try.f29 1) [(2, .v (.c .nil)), (0, .v (.c (.seq .rd l)))] [] .ret [(2, .v (.c (.own 0)))] [.lst .rd l] := by
  refine Sm.nilTest' (s := 0) (t3 := 3) (t4 := 4) (t := .rd) (l := l) rfl rfl rfl rfl rfl rfl rfl Try.underlying24 (by kernel_rfl) rfl rfl rfl fun p hp => ?_
  cases p with
  | true =>
   have hl := hp rfl
   subst hl
   exact .inr ⟨by decide, piece_sound (ds := [.br true, .at 0, .mkS 2 .rd, .keep [2], .sel [0]]) (ob := [true = true]) (by kernel_rfl) ⟨rfl, trivial⟩⟩
  | false =>
   exact .inl ⟨[(0, .v (.c (.seq .rd l)))], [], piece_sound (ds := [.br false, .at 0, .keep [0], .sel []]) (ob := [false = false]) (by kernel_rfl) ⟨rfl, trivial⟩,
    (piece_sound (tm' := [(2, .v (.c (.own 0)))]) (H' := [.lst .rd ([] ++ l)]) (ds := [.ty .rd, .ty .rd, .at 0, .keep [2], .sel [1]]) (ob := [List.length ([] : List Rd) + List.length l ≤ bigN]) (by kernel_rfl) ⟨by simpa using hp1, trivial⟩).to (by rfl) (by rfl)⟩
 exact walk_sound Try.func29 (res := .v (.c (.own 0))) (L' := [.lst .rd l]) (ds := [.jump 1 .ret [(2, .v (.c (.own 0)))] [.lst .rd l]]) (σ := [0]) (ob := [Sm Try.prog 8 0 (regAt Try.f29 1) [(2, .v (.c .nil)), (0, .v (.c (.seq .rd l)))] [] .ret [(2, .v (.c (.own 0)))] [.lst .rd l]]) (by kernel_rfl) ⟨key, trivial⟩
theorem readerOk_i (r : Rdr) (hp1 : List.length (r).data ≤ bigN) (hp2 : List.length (r).script ≤ bigN) : Fun Try.prog 9 [.agg (cRdr r)] [] (.v (vB (readerOk r))) [] := by
 have hN : bigN = 274877906944 := rfl
 refine fun_ofw Try.func9 (by kernel_rfl) (by kernel_rfl) (w := let z1 := ((List.length r.script : Nat) : Int); let z2 := ((List.length r.data : Nat) : Int); let z3 := vB (readerOk r); let z4 := ([] : List Blk); let z5 := within r.next 0 z1; let z6 := within r.at_ 0 z2; let z7 := (.v (vB false) : S); (.br (.seg [.call [] (.v (vB z6)) []] (.br (.br (.seg [.call [] (.v (vB z5)) []] (.br (.br (.leaf () []) (.br (.leaf () []) (.leaf () []))) (.leaf () []))) (.leaf () [])) (.leaf () []))) (.leaf () []), ((decide (z2 ≤ 4000)) = true → (Fun Try.prog 23 [vI r.at_, vI 0, vI z2] [] (.v (vB z6)) []) ∧ (z6 = true → ((decide (z1 ≤ 200)) = true → (Fun Try.prog 23 [vI r.next, vI 0, vI z1] [] (.v (vB z5)) []) ∧ (z5 = true → ((decide (r.code = 0)) = true → (.v (vB true) : S) = .v z3 ∧ z4 = []) ∧ ((decide (r.code = 0)) = false → ((decide (r.code = 1)) = true → (.v (vB true) : S) = .v z3 ∧ z4 = []) ∧ ((decide (r.code = 1)) = false → (.v (vB (decide (20 ≤ r.code))) : S) = .v z3 ∧ z4 = []))) ∧ (z5 = false → z7 = .v z3 ∧ z4 = [])) ∧ ((decide (z1 ≤ 200)) = false → z7 = .v z3 ∧ z4 = [])) ∧ (z6 = false → z7 = .v z3 ∧ z4 = [])) ∧ ((decide (z2 ≤ 4000)) = false → z7 = .v z3 ∧ z4 = []))) (by kernel_rfl) ?_
 refine dsp (fun h1 p1 => ?_) fun h1 p1 => ?_
 refine ⟨(within_i _ _ _), fun h2 => have p2 := within_t h2; ?_, fun h2 => have p2 := within_f h2; ?_⟩
 refine dsp (fun h3 p3 => ?_) fun h3 p3 => ?_
 refine ⟨(within_i _ _ _), fun h4 => have p4 := within_t h4; ?_, fun h4 => have p4 := within_f h4; ?_⟩
 refine dsp (fun h5 p5 => ?_) fun h5 p5 => ?_
 refine ⟨(sB ?_), rfl⟩
 rotate_left
 refine dsp (fun h6 p6 => ?_) fun h6 p6 => ?_
 refine ⟨(sB ?_), rfl⟩
 rotate_left
 refine ⟨(sB ?_), rfl⟩
 rotate_left
 refine ⟨(sB ?_), rfl⟩
 rotate_left
 refine ⟨(sB ?_), rfl⟩
 rotate_left
 refine ⟨(sB ?_), rfl⟩
 rotate_left
 refine ⟨(sB ?_), rfl⟩
 rotate_left
 all_goals first | (simp_all [readerOk]; done) | (grind [readerOk])
theorem readerOk_s (r : Rdr) (hp1 : List.length (r).data ≤ bigN) (hp2 : List.length (r).script ≤ bigN) : Fun Try.prog 13 [.agg (cRdr r)] [] (.v (vB (readerOk r))) [] := by
 have hN : bigN = 274877906944 := rfl
 refine fun_ofw Try.func13 (by kernel_rfl) (by kernel_rfl) (w := let z1 := ((List.length r.script : Nat) : Int); let z2 := ((List.length r.data : Nat) : Int); let z3 := vB (readerOk r); let z4 := ([] : List Blk); let z5 := within r.next 0 z1; let z6 := within r.at_ 0 z2; let z7 := (.v (vB false) : S); (.br (.leaf () []) (.seg [.call [] (.v (vB z6)) []] (.br (.leaf () []) (.br (.leaf () []) (.seg [.call [] (.v (vB z5)) []] (.br (.leaf () []) (.br (.leaf () []) (.br (.leaf () []) (.leaf () [])))))))), ((decide (4000 < z2)) = true → z7 = .v z3 ∧ z4 = []) ∧ ((decide (4000 < z2)) = false → (Fun Try.prog 24 [vI r.at_, vI 0, vI z2] [] (.v (vB z6)) []) ∧ ((!z6) = true → z7 = .v z3 ∧ z4 = []) ∧ ((!z6) = false → ((decide (200 < z1)) = true → z7 = .v z3 ∧ z4 = []) ∧ ((decide (200 < z1)) = false → (Fun Try.prog 24 [vI r.next, vI 0, vI z1] [] (.v (vB z5)) []) ∧ ((!z5) = true → z7 = .v z3 ∧ z4 = []) ∧ ((!z5) = false → ((decide (r.code = 0)) = true → (.v (vB true) : S) = .v z3 ∧ z4 = []) ∧ ((decide (r.code = 0)) = false → ((decide (r.code = 1)) = true → (.v (vB true) : S) = .v z3 ∧ z4 = []) ∧ ((decide (r.code = 1)) = false → (.v (vB (decide (20 ≤ r.code))) : S) = .v z3 ∧ z4 = [])))))))) (by kernel_rfl) ?_
 refine dsp (fun h1 p1 => ?_) fun h1 p1 => ?_
 refine ⟨(sB ?_), rfl⟩
 rotate_left
 refine ⟨(within_s _ _ _), fun h2 => have q2 := bnot_t h2; have p2 := within_f q2; ?_, fun h2 => have q2 := bnot_f h2; have p2 := within_t q2; ?_⟩
 refine ⟨(sB ?_), rfl⟩
 rotate_left
 refine dsp (fun h3 p3 => ?_) fun h3 p3 => ?_
 refine ⟨(sB ?_), rfl⟩
 rotate_left
 refine ⟨(within_s _ _ _), fun h4 => have q4 := bnot_t h4; have p4 := within_f q4; ?_, fun h4 => have q4 := bnot_f h4; have p4 := within_t q4; ?_⟩
 refine ⟨(sB ?_), rfl⟩
 rotate_left
 refine dsp (fun h5 p5 => ?_) fun h5 p5 => ?_
 refine ⟨(sB ?_), rfl⟩
 rotate_left
 refine dsp (fun h6 p6 => ?_) fun h6 p6 => ?_
 refine ⟨(sB ?_), rfl⟩
 rotate_left
 refine ⟨(sB ?_), rfl⟩
 rotate_left
 all_goals first | (simp_all [readerOk]; done) | (grind [readerOk])
theorem entryOf_some {r : Rdr} {room : Int} {x : Rd} (h : r.next < (r.script.length : Int)) (hx : r.script[r.next.toNat]? = some x) : entryOf r room = x := by
 simp [entryOf, h, List.getD, hx]
theorem entryOf_none {r : Rdr} {room : Int} (h : ¬ r.next < (r.script.length : Int)) : entryOf r room = ⟨room, 1⟩ := by
 simp [entryOf, h]
theorem copyRdr_i (r : Rdr) (hp1 : List.length (r).script ≤ bigN) : Fun Try.prog 19 [.agg (cRdr r)] [] (.v (.agg (oRdr2 0 r))) [.lst .rd r.script] := by
 have hN : bigN = 274877906944 := rfl
 refine fun_ofw Try.func19 (by kernel_rfl) (by kernel_rfl) (w := let z1 : List Blk := [.lst .rd r.script]; (.seg [.call [] (.v (vO 0)) z1] (.leaf () [2]), (Fun Try.prog 29 [.c (.seq .rd r.script)] [] (.v (vO 0)) z1) ∧ (.v (.agg (oRdr2 0 r)) : S) = .v (.agg (oRdr2 0 r)) ∧ (z1 : List Blk) = z1)) (by kernel_rfl) ?_
 exact ⟨(cloneRd r.script (by omega)), rfl, rfl⟩
theorem copyRdr_s (r : Rdr) (hp1 : List.length (r).script ≤ bigN) : Fun Try.prog 20 [.agg (cRdr r)] [] (.v (.agg (oRdr2 0 r))) [.lst .rd r.script] := by
 have hN : bigN = 274877906944 := rfl
 refine fun_ofw Try.func20 (by kernel_rfl) (by kernel_rfl) (w := (.seg [.ty .rd, .ty .rd] (.leaf () [3]), (List.length ([] : List Rd) + List.length r.script ≤ bigN) ∧ (.v (.agg (oRdr2 0 r)) : S) = .v (.agg (oRdr2 0 r)) ∧ ([.lst .rd (([] : List Rd) ++ r.script)] : List Blk) = [.lst .rd r.script])) (by kernel_rfl) ?_
 refine ⟨(by simp only [List.length_cons, List.length_nil]; omega), ?_⟩
 have hm1 : r = (⟨r.data, r.at_, ([] : List Rd) ++ r.script, r.next, r.code⟩ : Rdr) := by rfl
 exact ⟨(by rw [hm1] <;> rfl), (by rw [hm1] <;> rfl)⟩
theorem readSome_i (r : Rdr) (room : Int) (hp1 : List.length (r).script ≤ bigN) (hp2 : List.length (r).data ≤ bigN) : Fun Try.prog 7 [.agg (cRdr r), vI room] [] (.tup [.agg (oRdr2 0 (readSome r room)), vT (readTxt r room), vI (readCode r room)]) [.lst .rd (readSome r room).script] := by
 have hN : bigN = 274877906944 := rfl
 refine fun_ofw Try.func7 (by kernel_rfl) (by kernel_rfl) (w := let zi : Int → C := .int .i64; let z5 := ((List.length r.data : Nat) : Int); let z7 : List Blk := [.lst .rd (readSome r room).script]; let z8 := ([.lst .rd r.script] : List Blk); let z9 := oRdr2 0 (readSome r room); let z10 := (0 : Int) ≤ r.at_; let z11 := readCode r room; let z13 := readTxt r room; let z14 := z5 - r.at_; let z6 := clampN room room z14; let z15 := Int.toNat r.at_; let z17 := r.next + 1; let z18 := decide (r.next < ((List.length r.script : Nat) : Int)); let z19 := r.at_ ≤ r.at_ + z6; let z20 := (.v (vI (IntKind.i64.wrap z14)) : S) = .v (vI z14); let z21 := os 13 [10]; let z22 := r.at_ + z6; let z16 := List.drop z15 (List.take (Int.toNat z22) r.data); let z23 := r.at_ + z6 ≤ z5; let z24 := (.tup [.agg (oRdr2 0 r), vT [], vI 1] : S); let z25 := if room < room then room else room; let z12 := if z5 - r.at_ < z25 then z5 - r.at_ else z25; (.seg [.call [] (.v (.agg (oRdr2 0 r))) [.lst .rd r.script], .call [] (.v (vB (readerOk r))) []] (.br (.leaf () [2]) (.br (.leaf () [2]) (.br (.seg [.ord (os 6 [3]) [1]] (.leaf () [2])) (.br (.intro (fun (x1 : Rd) => r.script[Int.toNat r.next]? = some x1) fun x1 => let z1 := clampN x1.n room z14; .seg [.el .rd x1, .as 44 (.v (vI z17)), .as 54 (.v (vI z14)), .as 56 (.v (vI z1)), .as 60 (.v (vI (r.at_ + z1)))] (.br (.seg [.ord z21 [1]] (.leaf () [2])) (.br (.br (.seg [.ord z21 [1]] (.leaf () [2])) (.seg [.ord z21 [1]] (.leaf () [2]))) (.seg [.ord z21 [1]] (.leaf () [2]))))) (.seg [.as 54 (.v (vI z14)), .as 56 (.v (vI z6)), .as 60 (.v (vI z22)), .br false, .br true] (.br (.seg [.ord z21 [1]] (.leaf () [2])) (.seg [.ord z21 [1]] (.leaf () [2])))))))), (Fun Try.prog 19 [.agg (cRdr r)] [] (.v (.agg (oRdr2 0 r))) [.lst .rd r.script]) ∧ (Fun Try.prog 9 [.agg (cRdr r)] [] (.v (vB (readerOk r))) []) ∧ ((!(readerOk r)) = true → z24 = .tup [.agg z9, vT z13, vI z11] ∧ z8 = z7) ∧ ((!(readerOk r)) = false → ((decide (room < 1)) = true → z24 = .tup [.agg z9, vT z13, vI z11] ∧ z8 = z7) ∧ ((decide (room < 1)) = false → ((!decide (r.code = 0)) = true → (.tup [.agg (oRdr2 0 r), vT [], vI r.code] : S) = .tup [.agg z9, vT z13, vI z11] ∧ z8 = z7) ∧ ((!decide (r.code = 0)) = false → (z18 = true → (∃ (x1 : Rd), r.script[Int.toNat r.next]? = some x1) ∧ ∀ (x1 : Rd), (r.script[Int.toNat r.next]? = some x1) → (let z2 := clampN x1.n room z14; let z4 := if room < x1.n then room else x1.n; let z3 := if z5 - r.at_ < z4 then z5 - r.at_ else z4; (r.script[Int.toNat r.next]? = some x1) ∧ ((0 : Int) ≤ r.next) ∧ ((.v (vI (IntKind.i64.wrap z17)) : S) = .v (vI z17)) ∧ z20 ∧ ((.v (vI (if 0 > z3 then 0 else z3)) : S) = .v (vI z2)) ∧ ((.v (vI (IntKind.i64.wrap (r.at_ + z2))) : S) = .v (vI (r.at_ + z2))) ∧ ((decide (20 ≤ x1.code)) = true → (r.at_ + z2 ≤ z5) ∧ (r.at_ ≤ r.at_ + z2) ∧ z10 ∧ (r.at_ + z2 ≤ z5) ∧ (r.at_ ≤ r.at_ + z2) ∧ z10 ∧ (.tup [.agg [.str r.data, zi (r.at_ + z2), .own 0, zi z17, zi x1.code], vT (List.drop z15 (List.take (Int.toNat (r.at_ + z2)) r.data)), vI x1.code] : S) = .tup [.agg z9, vT z13, vI z11] ∧ z8 = z7) ∧ ((decide (20 ≤ x1.code)) = false → ((decide (x1.code = 1)) = true → ((decide (r.at_ + z2 = z5)) = true → (r.at_ + z2 ≤ z5) ∧ (r.at_ ≤ r.at_ + z2) ∧ z10 ∧ (r.at_ + z2 ≤ z5) ∧ (r.at_ ≤ r.at_ + z2) ∧ z10 ∧ (.tup [.agg [.str r.data, zi (r.at_ + z2), .own 0, zi z17, zi 1], vT (List.drop z15 (List.take (Int.toNat (r.at_ + z2)) r.data)), vI 1] : S) = .tup [.agg z9, vT z13, vI z11] ∧ z8 = z7) ∧ ((decide (r.at_ + z2 = z5)) = false → (r.at_ + z2 ≤ z5) ∧ (r.at_ ≤ r.at_ + z2) ∧ z10 ∧ (r.at_ + z2 ≤ z5) ∧ (r.at_ ≤ r.at_ + z2) ∧ z10 ∧ (.tup [.agg [.str r.data, zi (r.at_ + z2), .own 0, zi z17, zi r.code], vT (List.drop z15 (List.take (Int.toNat (r.at_ + z2)) r.data)), vI r.code] : S) = .tup [.agg z9, vT z13, vI z11] ∧ z8 = z7)) ∧ ((decide (x1.code = 1)) = false → (r.at_ + z2 ≤ z5) ∧ (r.at_ ≤ r.at_ + z2) ∧ z10 ∧ (r.at_ + z2 ≤ z5) ∧ (r.at_ ≤ r.at_ + z2) ∧ z10 ∧ (.tup [.agg [.str r.data, zi (r.at_ + z2), .own 0, zi z17, zi r.code], vT (List.drop z15 (List.take (Int.toNat (r.at_ + z2)) r.data)), vI r.code] : S) = .tup [.agg z9, vT z13, vI z11] ∧ z8 = z7)))) ∧ (z18 = false → z20 ∧ ((.v (vI (if 0 > z12 then 0 else z12)) : S) = .v (vI z6)) ∧ ((.v (vI (IntKind.i64.wrap z22)) : S) = .v (vI z22)) ∧ ((decide (20 ≤ 1)) = false) ∧ ((decide (1 = 1)) = true) ∧ ((decide (r.at_ + z6 = z5)) = true → z23 ∧ z19 ∧ z10 ∧ z23 ∧ z19 ∧ z10 ∧ (.tup [.agg [.str r.data, zi z22, .own 0, zi r.next, zi 1], vT z16, vI 1] : S) = .tup [.agg z9, vT z13, vI z11] ∧ z8 = z7) ∧ ((decide (r.at_ + z6 = z5)) = false → z23 ∧ z19 ∧ z10 ∧ z23 ∧ z19 ∧ z10 ∧ (.tup [.agg [.str r.data, zi z22, .own 0, zi r.next, zi r.code], vT z16, vI r.code] : S) = .tup [.agg z9, vT z13, vI z11] ∧ z8 = z7))))))) (by kernel_rfl) ?_
 refine ⟨(copyRdr_i r (by omega)), (readerOk_i r (by omega) (by omega)), fun h1 => have q1 := bnot_t h1; ?_, fun h1 => have q1 := bnot_f h1; have p1 := readerOk_t q1; ?_⟩
 refine have hm1 : readSome r room = r := ?_; ?_
 rotate_left
 refine ⟨(congrArg S.tup (consE (congrArg V.agg (consE (congrArg C.str ?_) (consE (congrArg (C.int .i64) ?_) (consE rfl (consE (congrArg (C.int .i64) ?_) (consE (congrArg (C.int .i64) ?_) rfl)))))) (consE (congrArg V.c (congrArg C.str ?_)) (consE (congrArg V.c (congrArg (C.int .i64) ?_)) rfl)))), (by rw [hm1] <;> rfl)⟩
 rotate_left 6
 refine dsp (fun h2 p2 => ?_) fun h2 p2 => ?_
 refine have hm1 : readSome r room = r := ?_; ?_
 rotate_left
 refine ⟨(congrArg S.tup (consE (congrArg V.agg (consE (congrArg C.str ?_) (consE (congrArg (C.int .i64) ?_) (consE rfl (consE (congrArg (C.int .i64) ?_) (consE (congrArg (C.int .i64) ?_) rfl)))))) (consE (congrArg V.c (congrArg C.str ?_)) (consE (congrArg V.c (congrArg (C.int .i64) ?_)) rfl)))), (by rw [hm1] <;> rfl)⟩
 rotate_left 6
 refine ⟨fun h3 => have q3 := bnot_t h3; have p3 := of_decide_eq_false q3; ?_, fun h3 => have q3 := bnot_f h3; have p3 := of_decide_eq_true q3; ?_⟩
 refine have hm1 : readSome r room = r := ?_; ?_
 rotate_left
 refine ⟨(congrArg S.tup (consE (congrArg V.agg (consE (congrArg C.str ?_) (consE (congrArg (C.int .i64) ?_) (consE rfl (consE (congrArg (C.int .i64) ?_) (consE (congrArg (C.int .i64) ?_) rfl)))))) (consE (congrArg V.c (congrArg C.str ?_)) (consE (congrArg V.c (congrArg (C.int .i64) ?_)) rfl)))), (by rw [hm1] <;> rfl)⟩
 rotate_left 6
 refine dsp (fun h4 p4 => ?_) fun h4 p4 => ?_
 refine ⟨(ax_get (l := r.script) (i := Int.toNat r.next) (by omega)), fun x1 hx1 => ?_⟩
 have he : entryOf r room = x1 := entryOf_some (by omega) hx1
 refine ⟨hx1, (by omega), (as_i64 (by omega) (by omega)), (as_i64 (by omega) (by omega)), (as_int (by unfold clampN; omega)), (as_i64 (by have := clampN_b x1.n room (((List.length r.data : Nat) : Int) - r.at_); omega) (by have := clampN_b x1.n room (((List.length r.data : Nat) : Int) - r.at_); omega)), dsp (fun h5 p5 => ?_) fun h5 p5 => ?_⟩
 refine ⟨(by have := clampN_b x1.n room (((List.length r.data : Nat) : Int) - r.at_); omega), (by have := clampN_b x1.n room (((List.length r.data : Nat) : Int) - r.at_); omega), (by omega), (by have := clampN_b x1.n room (((List.length r.data : Nat) : Int) - r.at_); omega), (by have := clampN_b x1.n room (((List.length r.data : Nat) : Int) - r.at_); omega), (by omega), ?_⟩
 refine have hm1 : readSome r room = (⟨r.data, r.at_ + (clampN x1.n room (((List.length r.data : Nat) : Int) - r.at_)), r.script, r.next + 1, x1.code⟩ : Rdr) := ?_; ?_
 rotate_left
 refine ⟨(congrArg S.tup (consE (congrArg V.agg (consE (congrArg C.str ?_) (consE (congrArg (C.int .i64) ?_) (consE rfl (consE (congrArg (C.int .i64) ?_) (consE (congrArg (C.int .i64) ?_) rfl)))))) (consE (congrArg V.c (congrArg C.str ?_)) (consE (congrArg V.c (congrArg (C.int .i64) ?_)) rfl)))), (by rw [hm1] <;> rfl)⟩
 rotate_left 6
 refine dsp (fun h6 p6 => ?_) fun h6 p6 => ?_
 refine dsp (fun h7 p7 => ?_) fun h7 p7 => ?_
 refine ⟨(by have := clampN_b x1.n room (((List.length r.data : Nat) : Int) - r.at_); omega), (by have := clampN_b x1.n room (((List.length r.data : Nat) : Int) - r.at_); omega), (by omega), (by have := clampN_b x1.n room (((List.length r.data : Nat) : Int) - r.at_); omega), (by have := clampN_b x1.n room (((List.length r.data : Nat) : Int) - r.at_); omega), (by omega), ?_⟩
 refine have hm1 : readSome r room = (⟨r.data, r.at_ + (clampN x1.n room (((List.length r.data : Nat) : Int) - r.at_)), r.script, r.next + 1, 1⟩ : Rdr) := ?_; ?_
 rotate_left
 refine ⟨(congrArg S.tup (consE (congrArg V.agg (consE (congrArg C.str ?_) (consE (congrArg (C.int .i64) ?_) (consE rfl (consE (congrArg (C.int .i64) ?_) (consE (congrArg (C.int .i64) ?_) rfl)))))) (consE (congrArg V.c (congrArg C.str ?_)) (consE (congrArg V.c (congrArg (C.int .i64) ?_)) rfl)))), (by rw [hm1] <;> rfl)⟩
 rotate_left 6
 refine ⟨(by have := clampN_b x1.n room (((List.length r.data : Nat) : Int) - r.at_); omega), (by have := clampN_b x1.n room (((List.length r.data : Nat) : Int) - r.at_); omega), (by omega), (by have := clampN_b x1.n room (((List.length r.data : Nat) : Int) - r.at_); omega), (by have := clampN_b x1.n room (((List.length r.data : Nat) : Int) - r.at_); omega), (by omega), ?_⟩
 refine have hm1 : readSome r room = (⟨r.data, r.at_ + (clampN x1.n room (((List.length r.data : Nat) : Int) - r.at_)), r.script, r.next + 1, r.code⟩ : Rdr) := ?_; ?_
 rotate_left
 refine ⟨(congrArg S.tup (consE (congrArg V.agg (consE (congrArg C.str ?_) (consE (congrArg (C.int .i64) ?_) (consE rfl (consE (congrArg (C.int .i64) ?_) (consE (congrArg (C.int .i64) ?_) rfl)))))) (consE (congrArg V.c (congrArg C.str ?_)) (consE (congrArg V.c (congrArg (C.int .i64) ?_)) rfl)))), (by rw [hm1] <;> rfl)⟩
 rotate_left 6
 refine ⟨(by have := clampN_b x1.n room (((List.length r.data : Nat) : Int) - r.at_); omega), (by have := clampN_b x1.n room (((List.length r.data : Nat) : Int) - r.at_); omega), (by omega), (by have := clampN_b x1.n room (((List.length r.data : Nat) : Int) - r.at_); omega), (by have := clampN_b x1.n room (((List.length r.data : Nat) : Int) - r.at_); omega), (by omega), ?_⟩
 refine have hm1 : readSome r room = (⟨r.data, r.at_ + (clampN x1.n room (((List.length r.data : Nat) : Int) - r.at_)), r.script, r.next + 1, r.code⟩ : Rdr) := ?_; ?_
 rotate_left
 refine ⟨(congrArg S.tup (consE (congrArg V.agg (consE (congrArg C.str ?_) (consE (congrArg (C.int .i64) ?_) (consE rfl (consE (congrArg (C.int .i64) ?_) (consE (congrArg (C.int .i64) ?_) rfl)))))) (consE (congrArg V.c (congrArg C.str ?_)) (consE (congrArg V.c (congrArg (C.int .i64) ?_)) rfl)))), (by rw [hm1] <;> rfl)⟩
 rotate_left 6
 have he : entryOf r room = ⟨room, 1⟩ := entryOf_none (by omega)
 refine ⟨(as_i64 (by omega) (by omega)), (as_int (by unfold clampN; omega)), (as_i64 (by have := clampN_b room room (((List.length r.data : Nat) : Int) - r.at_); omega) (by have := clampN_b room room (((List.length r.data : Nat) : Int) - r.at_); omega)), (by decide), (by decide), dsp (fun h5 p5 => ?_) fun h5 p5 => ?_⟩
 refine ⟨(by have := clampN_b room room (((List.length r.data : Nat) : Int) - r.at_); omega), (by have := clampN_b room room (((List.length r.data : Nat) : Int) - r.at_); omega), (by omega), (by have := clampN_b room room (((List.length r.data : Nat) : Int) - r.at_); omega), (by have := clampN_b room room (((List.length r.data : Nat) : Int) - r.at_); omega), (by omega), ?_⟩
 refine have hm1 : readSome r room = (⟨r.data, r.at_ + (clampN room room (((List.length r.data : Nat) : Int) - r.at_)), r.script, r.next, 1⟩ : Rdr) := ?_; ?_
 rotate_left
 refine ⟨(congrArg S.tup (consE (congrArg V.agg (consE (congrArg C.str ?_) (consE (congrArg (C.int .i64) ?_) (consE rfl (consE (congrArg (C.int .i64) ?_) (consE (congrArg (C.int .i64) ?_) rfl)))))) (consE (congrArg V.c (congrArg C.str ?_)) (consE (congrArg V.c (congrArg (C.int .i64) ?_)) rfl)))), (by rw [hm1] <;> rfl)⟩
 rotate_left 6
 refine ⟨(by have := clampN_b room room (((List.length r.data : Nat) : Int) - r.at_); omega), (by have := clampN_b room room (((List.length r.data : Nat) : Int) - r.at_); omega), (by omega), (by have := clampN_b room room (((List.length r.data : Nat) : Int) - r.at_); omega), (by have := clampN_b room room (((List.length r.data : Nat) : Int) - r.at_); omega), (by omega), ?_⟩
 refine have hm1 : readSome r room = (⟨r.data, r.at_ + (clampN room room (((List.length r.data : Nat) : Int) - r.at_)), r.script, r.next, r.code⟩ : Rdr) := ?_; ?_
 rotate_left
 refine ⟨(congrArg S.tup (consE (congrArg V.agg (consE (congrArg C.str ?_) (consE (congrArg (C.int .i64) ?_) (consE rfl (consE (congrArg (C.int .i64) ?_) (consE (congrArg (C.int .i64) ?_) rfl)))))) (consE (congrArg V.c (congrArg C.str ?_)) (consE (congrArg V.c (congrArg (C.int .i64) ?_)) rfl)))), (by rw [hm1] <;> rfl)⟩
 rotate_left 6
 all_goals first | ((simp [readSome, readTxt, readCode, rsBad, rsNext, rsN, rsCode, *] <;> omega)) | ((simp [readSome, readTxt, readCode, rsBad, rsNext, rsN, rsCode, *]; done)) | ((simp_all [readSome, readTxt, readCode, rsBad, rsNext, rsN, rsCode]; done)) | (grind [readSome, readTxt, readCode, rsBad, rsNext, rsN, rsCode])
theorem readSome_s (r : Rdr) (room : Int) (hp1 : List.length (r).script ≤ bigN) (hp2 : List.length (r).data ≤ bigN) : Fun Try.prog 8 [.agg (cRdr r), vI room] [] (.tup [.agg (oRdr2 0 (readSome r room)), vT (readTxt r room), vI (readCode r room)]) [.lst .rd (readSome r room).script] := by
 have hN : bigN = 274877906944 := rfl
 refine fun_ofw Try.func8 (by kernel_rfl) (by kernel_rfl) (w := let zi : Int → C := .int .i64; let z6 := ((List.length r.data : Nat) : Int); let z9 : List Blk := [.lst .rd (readSome r room).script]; let z10 := ([.lst .rd r.script] : List Blk); let z12 := oRdr2 0 (readSome r room); let z13 := (0 : Int) ≤ r.at_; let z14 := readCode r room; let z15 := readTxt r room; let z16 := z6 - r.at_; let z7 := clampN room room z16; let z8 := min room z16; let z11 := (.v (vI (IntKind.i64.wrap z16)) : S) = .v (vI z16); let z18 := decide (r.next < ((List.length r.script : Nat) : Int)); let z19 := r.at_ ≤ r.at_ + z7; let z20 := min room z8; let z21 := r.next + 1; let z22 := os 13 [10]; let z23 := r.at_ + z7; let z24 := Int.toNat r.at_; let z17 := List.drop z24 (List.take (Int.toNat z23) r.data); let z25 := r.at_ + z7 ≤ z6; let z26 := (.tup [.agg (oRdr2 0 r), vT [], vI 1] : S); (.seg [.call [] (.v (.agg (oRdr2 0 r))) [.lst .rd r.script], .call [] (.v (vB (readerOk r))) []] (.br (.leaf () [2]) (.br (.leaf () [2]) (.br (.seg [.ord (os 6 [3]) [1]] (.leaf () [2])) (.br (.intro (fun (x1 : Rd) => r.script[Int.toNat r.next]? = some x1) fun x1 => let z1 := min x1.n z8; let z2 := clampN x1.n room z16; .seg [.el .rd x1, .as 42 (.v (vI z21)), .ord (os 13 [9, 10, 11]) [], .as 52 (.v (vI z16)), .call [] (.v (vI z8)) [], .call [] (.v (vI z1)) [], .call [] (.v (vI (max 0 z1))) [], .as 55 (.v (vI z2)), .as 59 (.v (vI (r.at_ + z2)))] (.br (.seg [.ord z22 [1]] (.leaf () [2])) (.br (.br (.seg [.ord z22 [1]] (.leaf () [2])) (.seg [.ord z22 [1]] (.leaf () [2]))) (.seg [.ord z22 [1]] (.leaf () [2]))))) (.seg [.ord (os 13 [9, 10, 11]) [], .as 52 (.v (vI z16)), .call [] (.v (vI z8)) [], .call [] (.v (vI z20)) [], .call [] (.v (vI (max 0 z20))) [], .as 55 (.v (vI z7)), .as 59 (.v (vI z23)), .br false, .br true] (.br (.seg [.ord z22 [1]] (.leaf () [2])) (.seg [.ord z22 [1]] (.leaf () [2])))))))), (Fun Try.prog 20 [.agg (cRdr r)] [] (.v (.agg (oRdr2 0 r))) [.lst .rd r.script]) ∧ (Fun Try.prog 13 [.agg (cRdr r)] [] (.v (vB (readerOk r))) []) ∧ ((!(readerOk r)) = true → z26 = .tup [.agg z12, vT z15, vI z14] ∧ z10 = z9) ∧ ((!(readerOk r)) = false → ((decide (room < 1)) = true → z26 = .tup [.agg z12, vT z15, vI z14] ∧ z10 = z9) ∧ ((decide (room < 1)) = false → ((!decide (r.code = 0)) = true → (.tup [.agg (oRdr2 0 r), vT [], vI r.code] : S) = .tup [.agg z12, vT z15, vI z14] ∧ z10 = z9) ∧ ((!decide (r.code = 0)) = false → (z18 = true → (∃ (x1 : Rd), r.script[Int.toNat r.next]? = some x1) ∧ ∀ (x1 : Rd), (r.script[Int.toNat r.next]? = some x1) → (let z3 := clampN x1.n room z16; let z4 := (.tup [.agg [.str r.data, zi (r.at_ + z3), .own 0, zi z21, zi x1.code], vT (List.drop z24 (List.take (Int.toNat (r.at_ + z3)) r.data)), vI x1.code] : S); let z5 := min x1.n z8; (r.script[Int.toNat r.next]? = some x1) ∧ ((0 : Int) ≤ r.next) ∧ ((.v (vI (IntKind.i64.wrap z21)) : S) = .v (vI z21)) ∧ z11 ∧ z11 ∧ (Fun Try.prog 22 [vI room, vI z16] [] (.v (vI z8)) []) ∧ (Fun Try.prog 22 [vI x1.n, vI z8] [] (.v (vI z5)) []) ∧ (Fun Try.prog 21 [vI 0, vI z5] [] (.v (vI (max 0 z5))) []) ∧ ((.v (vI (max 0 z5)) : S) = .v (vI z3)) ∧ ((.v (vI (IntKind.i64.wrap (r.at_ + z3))) : S) = .v (vI (r.at_ + z3))) ∧ ((decide (20 ≤ x1.code)) = true → (r.at_ + z3 ≤ z6) ∧ (r.at_ ≤ r.at_ + z3) ∧ z13 ∧ (r.at_ + z3 ≤ z6) ∧ (r.at_ ≤ r.at_ + z3) ∧ z13 ∧ z4 = .tup [.agg z12, vT z15, vI z14] ∧ z10 = z9) ∧ ((decide (20 ≤ x1.code)) = false → ((decide (x1.code = 1)) = true → ((decide (r.at_ + z3 = z6)) = true → (r.at_ + z3 ≤ z6) ∧ (r.at_ ≤ r.at_ + z3) ∧ z13 ∧ (r.at_ + z3 ≤ z6) ∧ (r.at_ ≤ r.at_ + z3) ∧ z13 ∧ z4 = .tup [.agg z12, vT z15, vI z14] ∧ z10 = z9) ∧ ((decide (r.at_ + z3 = z6)) = false → (r.at_ + z3 ≤ z6) ∧ (r.at_ ≤ r.at_ + z3) ∧ z13 ∧ (r.at_ + z3 ≤ z6) ∧ (r.at_ ≤ r.at_ + z3) ∧ z13 ∧ (.tup [.agg [.str r.data, zi (r.at_ + z3), .own 0, zi z21, zi r.code], vT (List.drop z24 (List.take (Int.toNat (r.at_ + z3)) r.data)), vI r.code] : S) = .tup [.agg z12, vT z15, vI z14] ∧ z10 = z9)) ∧ ((decide (x1.code = 1)) = false → (r.at_ + z3 ≤ z6) ∧ (r.at_ ≤ r.at_ + z3) ∧ z13 ∧ (r.at_ + z3 ≤ z6) ∧ (r.at_ ≤ r.at_ + z3) ∧ z13 ∧ (.tup [.agg [.str r.data, zi (r.at_ + z3), .own 0, zi z21, zi r.code], vT (List.drop z24 (List.take (Int.toNat (r.at_ + z3)) r.data)), vI r.code] : S) = .tup [.agg z12, vT z15, vI z14] ∧ z10 = z9)))) ∧ (z18 = false → z11 ∧ z11 ∧ (Fun Try.prog 22 [vI room, vI z16] [] (.v (vI z8)) []) ∧ (Fun Try.prog 22 [vI room, vI z8] [] (.v (vI z20)) []) ∧ (Fun Try.prog 21 [vI 0, vI z20] [] (.v (vI (max 0 z20))) []) ∧ ((.v (vI (max 0 z20)) : S) = .v (vI z7)) ∧ ((.v (vI (IntKind.i64.wrap z23)) : S) = .v (vI z23)) ∧ ((decide (20 ≤ 1)) = false) ∧ ((decide (1 = 1)) = true) ∧ ((decide (r.at_ + z7 = z6)) = true → z25 ∧ z19 ∧ z13 ∧ z25 ∧ z19 ∧ z13 ∧ (.tup [.agg [.str r.data, zi z23, .own 0, zi r.next, zi 1], vT z17, vI 1] : S) = .tup [.agg z12, vT z15, vI z14] ∧ z10 = z9) ∧ ((decide (r.at_ + z7 = z6)) = false → z25 ∧ z19 ∧ z13 ∧ z25 ∧ z19 ∧ z13 ∧ (.tup [.agg [.str r.data, zi z23, .own 0, zi r.next, zi r.code], vT z17, vI r.code] : S) = .tup [.agg z12, vT z15, vI z14] ∧ z10 = z9))))))) (by kernel_rfl) ?_
 refine ⟨(copyRdr_s r (by omega)), (readerOk_s r (by omega) (by omega)), fun h1 => have q1 := bnot_t h1; ?_, fun h1 => have q1 := bnot_f h1; have p1 := readerOk_t q1; ?_⟩
 refine have hm1 : readSome r room = r := ?_; ?_
 rotate_left
 refine ⟨(congrArg S.tup (consE (congrArg V.agg (consE (congrArg C.str ?_) (consE (congrArg (C.int .i64) ?_) (consE rfl (consE (congrArg (C.int .i64) ?_) (consE (congrArg (C.int .i64) ?_) rfl)))))) (consE (congrArg V.c (congrArg C.str ?_)) (consE (congrArg V.c (congrArg (C.int .i64) ?_)) rfl)))), (by rw [hm1] <;> rfl)⟩
 rotate_left 6
 refine dsp (fun h2 p2 => ?_) fun h2 p2 => ?_
 refine have hm1 : readSome r room = r := ?_; ?_
 rotate_left
 refine ⟨(congrArg S.tup (consE (congrArg V.agg (consE (congrArg C.str ?_) (consE (congrArg (C.int .i64) ?_) (consE rfl (consE (congrArg (C.int .i64) ?_) (consE (congrArg (C.int .i64) ?_) rfl)))))) (consE (congrArg V.c (congrArg C.str ?_)) (consE (congrArg V.c (congrArg (C.int .i64) ?_)) rfl)))), (by rw [hm1] <;> rfl)⟩
 rotate_left 6
 refine ⟨fun h3 => have q3 := bnot_t h3; have p3 := of_decide_eq_false q3; ?_, fun h3 => have q3 := bnot_f h3; have p3 := of_decide_eq_true q3; ?_⟩
 refine have hm1 : readSome r room = r := ?_; ?_
 rotate_left
 refine ⟨(congrArg S.tup (consE (congrArg V.agg (consE (congrArg C.str ?_) (consE (congrArg (C.int .i64) ?_) (consE rfl (consE (congrArg (C.int .i64) ?_) (consE (congrArg (C.int .i64) ?_) rfl)))))) (consE (congrArg V.c (congrArg C.str ?_)) (consE (congrArg V.c (congrArg (C.int .i64) ?_)) rfl)))), (by rw [hm1] <;> rfl)⟩
 rotate_left 6
 refine dsp (fun h4 p4 => ?_) fun h4 p4 => ?_
 refine ⟨(ax_get (l := r.script) (i := Int.toNat r.next) (by omega)), fun x1 hx1 => ?_⟩
 have he : entryOf r room = x1 := entryOf_some (by omega) hx1
 refine ⟨hx1, (by omega), (as_i64 (by omega) (by omega)), (as_i64 (by omega) (by omega)), (as_i64 (by omega) (by omega)), (l1min _ _), (l1min _ _), (l1max _ _), (as_int (by unfold clampN; omega)), (as_i64 (by have := clampN_b x1.n room (((List.length r.data : Nat) : Int) - r.at_); omega) (by have := clampN_b x1.n room (((List.length r.data : Nat) : Int) - r.at_); omega)), dsp (fun h5 p5 => ?_) fun h5 p5 => ?_⟩
 refine ⟨(by have := clampN_b x1.n room (((List.length r.data : Nat) : Int) - r.at_); omega), (by have := clampN_b x1.n room (((List.length r.data : Nat) : Int) - r.at_); omega), (by omega), (by have := clampN_b x1.n room (((List.length r.data : Nat) : Int) - r.at_); omega), (by have := clampN_b x1.n room (((List.length r.data : Nat) : Int) - r.at_); omega), (by omega), ?_⟩
 refine have hm1 : readSome r room = (⟨r.data, r.at_ + (clampN x1.n room (((List.length r.data : Nat) : Int) - r.at_)), r.script, r.next + 1, x1.code⟩ : Rdr) := ?_; ?_
 rotate_left
 refine ⟨(congrArg S.tup (consE (congrArg V.agg (consE (congrArg C.str ?_) (consE (congrArg (C.int .i64) ?_) (consE rfl (consE (congrArg (C.int .i64) ?_) (consE (congrArg (C.int .i64) ?_) rfl)))))) (consE (congrArg V.c (congrArg C.str ?_)) (consE (congrArg V.c (congrArg (C.int .i64) ?_)) rfl)))), (by rw [hm1] <;> rfl)⟩
 rotate_left 6
 refine dsp (fun h6 p6 => ?_) fun h6 p6 => ?_
 refine dsp (fun h7 p7 => ?_) fun h7 p7 => ?_
 refine ⟨(by have := clampN_b x1.n room (((List.length r.data : Nat) : Int) - r.at_); omega), (by have := clampN_b x1.n room (((List.length r.data : Nat) : Int) - r.at_); omega), (by omega), (by have := clampN_b x1.n room (((List.length r.data : Nat) : Int) - r.at_); omega), (by have := clampN_b x1.n room (((List.length r.data : Nat) : Int) - r.at_); omega), (by omega), ?_⟩
 refine have hm1 : readSome r room = (⟨r.data, r.at_ + (clampN x1.n room (((List.length r.data : Nat) : Int) - r.at_)), r.script, r.next + 1, x1.code⟩ : Rdr) := ?_; ?_
 rotate_left
 refine ⟨(congrArg S.tup (consE (congrArg V.agg (consE (congrArg C.str ?_) (consE (congrArg (C.int .i64) ?_) (consE rfl (consE (congrArg (C.int .i64) ?_) (consE (congrArg (C.int .i64) ?_) rfl)))))) (consE (congrArg V.c (congrArg C.str ?_)) (consE (congrArg V.c (congrArg (C.int .i64) ?_)) rfl)))), (by rw [hm1] <;> rfl)⟩
 rotate_left 6
 refine ⟨(by have := clampN_b x1.n room (((List.length r.data : Nat) : Int) - r.at_); omega), (by have := clampN_b x1.n room (((List.length r.data : Nat) : Int) - r.at_); omega), (by omega), (by have := clampN_b x1.n room (((List.length r.data : Nat) : Int) - r.at_); omega), (by have := clampN_b x1.n room (((List.length r.data : Nat) : Int) - r.at_); omega), (by omega), ?_⟩
 refine have hm1 : readSome r room = (⟨r.data, r.at_ + (clampN x1.n room (((List.length r.data : Nat) : Int) - r.at_)), r.script, r.next + 1, r.code⟩ : Rdr) := ?_; ?_
 rotate_left
 refine ⟨(congrArg S.tup (consE (congrArg V.agg (consE (congrArg C.str ?_) (consE (congrArg (C.int .i64) ?_) (consE rfl (consE (congrArg (C.int .i64) ?_) (consE (congrArg (C.int .i64) ?_) rfl)))))) (consE (congrArg V.c (congrArg C.str ?_)) (consE (congrArg V.c (congrArg (C.int .i64) ?_)) rfl)))), (by rw [hm1] <;> rfl)⟩
 rotate_left 6
 refine ⟨(by have := clampN_b x1.n room (((List.length r.data : Nat) : Int) - r.at_); omega), (by have := clampN_b x1.n room (((List.length r.data : Nat) : Int) - r.at_); omega), (by omega), (by have := clampN_b x1.n room (((List.length r.data : Nat) : Int) - r.at_); omega), (by have := clampN_b x1.n room (((List.length r.data : Nat) : Int) - r.at_); omega), (by omega), ?_⟩
 refine have hm1 : readSome r room = (⟨r.data, r.at_ + (clampN x1.n room (((List.length r.data : Nat) : Int) - r.at_)), r.script, r.next + 1, r.code⟩ : Rdr) := ?_; ?_
 rotate_left
 refine ⟨(congrArg S.tup (consE (congrArg V.agg (consE (congrArg C.str ?_) (consE (congrArg (C.int .i64) ?_) (consE rfl (consE (congrArg (C.int .i64) ?_) (consE (congrArg (C.int .i64) ?_) rfl)))))) (consE (congrArg V.c (congrArg C.str ?_)) (consE (congrArg V.c (congrArg (C.int .i64) ?_)) rfl)))), (by rw [hm1] <;> rfl)⟩
 rotate_left 6
 have he : entryOf r room = ⟨room, 1⟩ := entryOf_none (by omega)
 refine ⟨(as_i64 (by omega) (by omega)), (as_i64 (by omega) (by omega)), (l1min _ _), (l1min _ _), (l1max _ _), (as_int (by unfold clampN; omega)), (as_i64 (by have := clampN_b room room (((List.length r.data : Nat) : Int) - r.at_); omega) (by have := clampN_b room room (((List.length r.data : Nat) : Int) - r.at_); omega)), (by decide), (by decide), dsp (fun h5 p5 => ?_) fun h5 p5 => ?_⟩
 refine ⟨(by have := clampN_b room room (((List.length r.data : Nat) : Int) - r.at_); omega), (by have := clampN_b room room (((List.length r.data : Nat) : Int) - r.at_); omega), (by omega), (by have := clampN_b room room (((List.length r.data : Nat) : Int) - r.at_); omega), (by have := clampN_b room room (((List.length r.data : Nat) : Int) - r.at_); omega), (by omega), ?_⟩
 refine have hm1 : readSome r room = (⟨r.data, r.at_ + (clampN room room (((List.length r.data : Nat) : Int) - r.at_)), r.script, r.next, 1⟩ : Rdr) := ?_; ?_
 rotate_left
 refine ⟨(congrArg S.tup (consE (congrArg V.agg (consE (congrArg C.str ?_) (consE (congrArg (C.int .i64) ?_) (consE rfl (consE (congrArg (C.int .i64) ?_) (consE (congrArg (C.int .i64) ?_) rfl)))))) (consE (congrArg V.c (congrArg C.str ?_)) (consE (congrArg V.c (congrArg (C.int .i64) ?_)) rfl)))), (by rw [hm1] <;> rfl)⟩
 rotate_left 6
 refine ⟨(by have := clampN_b room room (((List.length r.data : Nat) : Int) - r.at_); omega), (by have := clampN_b room room (((List.length r.data : Nat) : Int) - r.at_); omega), (by omega), (by have := clampN_b room room (((List.length r.data : Nat) : Int) - r.at_); omega), (by have := clampN_b room room (((List.length r.data : Nat) : Int) - r.at_); omega), (by omega), ?_⟩
 refine have hm1 : readSome r room = (⟨r.data, r.at_ + (clampN room room (((List.length r.data : Nat) : Int) - r.at_)), r.script, r.next, r.code⟩ : Rdr) := ?_; ?_
 rotate_left
 refine ⟨(congrArg S.tup (consE (congrArg V.agg (consE (congrArg C.str ?_) (consE (congrArg (C.int .i64) ?_) (consE rfl (consE (congrArg (C.int .i64) ?_) (consE (congrArg (C.int .i64) ?_) rfl)))))) (consE (congrArg V.c (congrArg C.str ?_)) (consE (congrArg V.c (congrArg (C.int .i64) ?_)) rfl)))), (by rw [hm1] <;> rfl)⟩
 rotate_left 6
 all_goals first | ((simp [readSome, readTxt, readCode, rsBad, rsNext, rsN, rsCode, *] <;> omega)) | ((simp [readSome, readTxt, readCode, rsBad, rsNext, rsN, rsCode, *]; done)) | ((simp_all [readSome, readTxt, readCode, rsBad, rsNext, rsN, rsCode]; done)) | (grind [readSome, readTxt, readCode, rsBad, rsNext, rsN, rsCode])
theorem readSome_keeps (r : Rdr) (room : Int) : (readSome r room).script = r.script ∧ (readSome r room).data = r.data := by
 unfold readSome
 split
 ·exact ⟨rfl, rfl⟩
 ·exact ⟨rfl, rfl⟩
theorem rsBad_f {r : Rdr} {room : Int} (h : rsBad r room = false) : readerOk r = true ∧ 1 ≤ room ∧ r.code = 0 := by
 simp only [rsBad, Bool.or_eq_false_iff, Bool.not_eq_false', decide_eq_false_iff_not, decide_eq_true_eq] at h
 exact ⟨h.1.1, by omega, h.2⟩
theorem rsBad_t {r : Rdr} {room : Int} (h1 : readerOk r = true) (h2 : 1 ≤ room) (h3 : r.code = 0) : rsBad r room = false := by
 simp only [rsBad, h1, h3, Bool.not_true, Bool.false_or, decide_true, Bool.or_false]
 exact decide_eq_false (by omega)
theorem readSome_good {r : Rdr} {room : Int} (h : rsBad r room = false) : readSome r room = ⟨r.data, r.at_ + rsN r room, r.script, rsNext r, rsCode r room⟩ ∧ readTxt r room = List.drop r.at_.toNat (List.take (r.at_ + rsN r room).toNat r.data) ∧ readCode r room = rsCode r room := by
 have hb := rsBad_f h
 refine ⟨by unfold readSome; rw [h]; rfl, by unfold readTxt; rw [h]; rfl, ?_⟩
 unfold readCode
 rw [hb.1, hb.2.2]
 simp only [Bool.not_true, Bool.false_or, decide_true]
 rw [if_neg (by simpa using hb.2.1)]
 rfl
theorem rs_b {r : Rdr} {room : Int} (h : readerOk r = true) : 0 ≤ rsN r room ∧ r.at_ + rsN r room ≤ (r.data.length : Int) ∧ rsN r room ≤ max room 0 ∧ r.next ≤ rsNext r ∧ rsNext r ≤ (r.script.length : Int) ∧ (rsCode r room = r.code ∨ rsCode r room = 1 ∨ 20 ≤ rsCode r room) := by
 have ht := readerOk_t h
 have hn : rsN r room = clampN (entryOf r room).n room ((r.data.length : Int) - r.at_) := rfl
 have hx : rsNext r = if r.next < (r.script.length : Int) then r.next + 1 else r.next := rfl
 have hc : rsCode r room = if 20 ≤ (entryOf r room).code then (entryOf r room).code else if (entryOf r room).code = 1 ∧ r.at_ + rsN r room = (r.data.length : Int) then 1 else r.code := rfl
 unfold clampN at hn
 refine ⟨by omega, by omega, by omega, ?_, ?_, ?_⟩
 ·split at hx <;> omega
 ·split at hx <;> omega
 ·split at hc
  ·right; right; omega
  ·split at hc <;> omega
theorem readSome_right {r : Rdr} {room : Int} (h : readerOk r = true) : readerOk (readSome r room) = true := by
 cases hb : rsBad r room with
 | true => unfold readSome; rw [hb]; exact h
 | false =>
  have ht := readerOk_t h
  have hs := rs_b (room := room) h
  rw [(readSome_good hb).1]
  simp only [readerOk, within, Bool.and_eq_true, Bool.or_eq_true, decide_eq_true_eq]
  omega
theorem readTxt_n {r : Rdr} {room : Int} (h : rsBad r room = false) : ((readTxt r room).length : Int) = rsN r room := by
 have hb := rsBad_f h
 have ht := readerOk_t hb.1
 have hs := rs_b (room := room) hb.1
 rw [(readSome_good h).2.1, List.length_drop, List.length_take]
 omega
structure l19Bent_o_O where
 r : Rdr
 c1 : Cur
structure l19Bent_o_V0 where
 c : Cur
 r : Rdr
 i : Nat
def l19Bent_o_F0 (o4 : l1Below_o_O) : Fam := ⟨l19Bent_o_V0, fun q1 => [(0, .v (vP 0)), (2, .v (vP 1)), (3, .v (vP 2)), (4, .v (vI o4.x)), (5, .v (vI ((q1.i : Nat) : Int)))], fun q1 => [.cells (cCur q1.c), .cells [.str [], .int .i64 0, .nil, .int .i64 0, .int .i64 0], .cells (oRdr2 3 q1.r), .lst .rd q1.r.script], fun q1 => CurOk q1.c ∧ (List.length (q1.r).script ≤ 8 ∧ List.length (q1.r).data ≤ 23) ∧ q1.i ≤ 8, fun q1 => 8 - q1.i⟩
structure l19Bent_o_V1 where
 c : Cur
 r : Rdr
def l19Bent_o_F1  : Fam := ⟨l19Bent_o_V1, fun q2 => [(0, .v (vP 0)), (2, .v (vP 1)), (3, .v (vP 2))], fun q2 => [.cells (cCur q2.c), .cells [.str [], .int .i64 0, .nil, .int .i64 0, .int .i64 0], .cells (oRdr2 3 q2.r), .lst .rd q2.r.script], fun q2 => CurOk q2.c ∧ (List.length (q2.r).script ≤ 201 ∧ List.length (q2.r).data ≤ 23), fun q2 => 202 - List.length (q2.r).script⟩
theorem l19Bent_o (c : Cur) (hp1 : CurOk c) : ∃ o : l19Bent_o_O, ((List.length (o.r).script ≤ 201) ∧ (List.length (o.r).data ≤ 23) ∧ (CurOk o.c1)) ∧ Fun Try.prog 17 [vP 0] [.cells (cCur c)] (.v (.agg (oRdr2 1 o.r))) [.cells (cCur o.c1), .lst .rd o.r.script] := by
 have hN : bigN = 274877906944 := rfl
 refine funs_ofw Try.func17 (by kernel_rfl) (by kernel_rfl) (w := let zi : Int → C := .int .i64; let z29 : List C := [.str [], zi 0, .nil, zi 0, zi 0]; let z30 := ([(0, .v (vP 0)), (2, .v (vP 1)), (3, .v (vP 2))] : List (Nat × S)) = [(0, .v (vP 0)), (2, .v (vP 1)), (3, .v (vP 2))]; let z31 : List V := [vP 0, .c (.seq .int [(-1), 0, 1, 2, 19, 20])]; let z32 : List Blk := [.cells (cCur c)]; let z33 : List V := [vP 0, vI 24]; let z34 := l19Bent_o_F1; (.intro (fun (o1 : l1Below_o_O) => (((0 : Int) ≤ o1.x) ∧ ((1 : Int) ≤ 24 → o1.x < 24) ∧ (24 ≤ (0 : Int) → o1.x = (0 : Int)) ∧ (CurOk o1.c1)) ∧ Fun Try.prog 26 z33 z32 (.v (vI o1.x)) [.cells (cCur o1.c1)]) fun o1 => .intro (fun (o2 : l1Bytes_o_O) => ((List.length o2.l ≤ Int.toNat o1.x) ∧ (CurOk o2.c1)) ∧ Fun Try.prog 25 [vP 0, vI o1.x] [.cells (cCur o1.c1)] (.v (vO 1)) [.cells (cCur o2.c1), .lst .u8 o2.l]) fun o2 => let z24 : List Blk := [.cells (cCur o2.c1), .lst .u8 o2.l]; .intro (fun (o3 : l19Script_o_O) => ((List.length o3.l ≤ 8) ∧ (CurOk o3.c1)) ∧ Fun Try.prog 27 [vP 0] [.cells (cCur o2.c1)] (.v (vO 1)) [.cells (cCur o3.c1), .lst .rd o3.l]) fun o3 => let z20 : List Blk := [.cells (cCur o3.c1), .lst .rd o3.l]; .seg [.tree (.first 0 (.first 1 (.first 5 (.two 2 (.two 3 (.three 4 (.two 6 (.first 7 (.one 8 (.one 9 (.done)))) 8 (.one 6 (.first 7 (.one 9 (.done))))) 6 (.two 4 (.first 7 (.one 8 (.one 9 (.done)))) 8 (.one 4 (.first 7 (.one 9 (.done))))) 8 (.two 4 (.one 6 (.first 7 (.one 9 (.done)))) 6 (.one 4 (.first 7 (.one 9 (.done)))))) 8 (.one 3 (.two 4 (.one 6 (.first 7 (.one 9 (.done)))) 6 (.one 4 (.first 7 (.one 9 (.done))))))) 8 (.one 2 (.one 3 (.two 4 (.one 6 (.first 7 (.one 9 (.done)))) 6 (.one 4 (.first 7 (.one 9 (.done))))))))))) 9 [0], .call [0] (.v (vI o1.x)) [.cells (cCur o1.c1)], .call [0] (.v (vO 1)) z24, .call [0] (.v (vO 1)) z20, .at 0, .keep [0, 2, 3], .sel [0, 1, 4, 3], .call [0] (.v (vO 1)) z20, .at 0, .keep [0, 2, 3], .sel [0, 1, 3, 4], .call [0] (.v (vO 1)) z20, .at 0, .keep [0, 2, 3], .sel [0, 1, 4, 3], .at 0, .keep [0, 2, 3], .sel [0, 1, 4, 3], .call [0] (.v (vO 1)) z20, .at 0, .keep [0, 2, 3], .sel [0, 1, 3, 4], .call [0] (.v (vO 1)) z20, .at 0, .keep [0, 2, 3], .sel [0, 1, 3, 4], .call [0] (.v (vO 1)) z24, .call [0] (.v (vO 1)) z20, .at 0, .keep [0, 2, 3], .sel [0, 1, 2, 4], .call [0] (.v (vO 1)) z20, .at 0, .keep [0, 2, 3], .sel [0, 1, 2, 4], .call [0] (.v (vI o1.x)) [.cells (cCur o1.c1)], .call [0] (.v (vO 1)) z24, .call [0] (.v (vO 1)) z20, .at 0, .keep [0, 2, 3], .sel [0, 1, 2, 4], .call [0] (.v (vO 1)) z20, .at 0, .keep [0, 2, 3], .sel [0, 1, 2, 4]] (.intro (fun (o4 : l1Below_o_O) => (((0 : Int) ≤ o4.x) ∧ ((1 : Int) ≤ 4 → o4.x < 4) ∧ (4 ≤ (0 : Int) → o4.x = (0 : Int)) ∧ (CurOk o4.c1)) ∧ Fun Try.prog 26 [vP 0, vI 4] [.cells (cCur o3.c1)] (.v (vI o4.x)) [.cells (cCur o4.c1)]) fun o4 => .seg [.call [0] (.v (vI o4.x)) [.cells (cCur o4.c1)], .at 0, .keep [0, 2, 3, 4, 5], .sel [0, 1, 2, 3]] (.loop (l19Bent_o_F0 o4) fun q1 => let z11 := ((List.length q1.r.script : Nat) : Int); let z12 := ((List.length q1.r.data : Nat) : Int); .br (.intro (fun (o5 : l1Below_o_O) => (((0 : Int) ≤ o5.x) ∧ ((1 : Int) ≤ 6 → o5.x < 6) ∧ (6 ≤ (0 : Int) → o5.x = (0 : Int)) ∧ (CurOk o5.c1)) ∧ Fun Try.prog 26 [vP 0, vI 6] [.cells (cCur q1.c)] (.v (vI o5.x)) [.cells (cCur o5.c1)]) fun o5 => .seg [.ord (os 10 [2, 4, 9]) [0], .call [0] (.v (vI o5.x)) [.cells (cCur o5.c1)], .as 25 (.v (vI (1 + o5.x))), .call [] (.tup [.agg (oRdr2 0 (readSome q1.r (1 + o5.x))), vT (readTxt q1.r (1 + o5.x)), vI (readCode q1.r (1 + o5.x))]) [.lst .rd (readSome q1.r (1 + o5.x)).script], .as 20 (.v (vI (((q1.i : Nat) : Int) + 1))), .at 0, .keep [0, 2, 3, 4, 5], .sel [0, 1, 2, 4]] (.next)) (.intro (fun (o5 : l1Below_o_O) => (((0 : Int) ≤ o5.x) ∧ ((1 : Int) ≤ 14 → o5.x < 14) ∧ (14 ≤ (0 : Int) → o5.x = (0 : Int)) ∧ (CurOk o5.c1)) ∧ Fun Try.prog 26 [vP 0, vI 14] [.cells (cCur q1.c)] (.v (vI o5.x)) [.cells (cCur o5.c1)]) fun o5 => let z8 : List Blk := [.cells (cCur o5.c1)]; .seg [.call [0] (.v (vI o5.x)) z8] (.br (.seg [.as 41 (.v (vI (z12 + 1))), .ty .int, .pubS 42] (.intro (fun (o6 : l1PickInt_o_O) => ((CurOk o6.c1)) ∧ Fun Try.prog 28 [vP 0, .c (.seq .int [(-1), 0, z12, z12 + 1, 9223372036854775807])] z8 (.v (vI o6.x)) [.cells (cCur o6.c1)]) fun o6 => .seg [.call [0] (.v (vI o6.x)) [.cells (cCur o6.c1)]] (.leaf (⟨(⟨q1.r.data, o6.x, q1.r.script, q1.r.next, q1.r.code⟩ : Rdr), o6.c1⟩ : l19Bent_o_O) [0, 3]))) (.br (.seg [.as 54 (.v (vI (z11 + 1))), .ty .int, .pubS 55] (.intro (fun (o6 : l1PickInt_o_O) => ((CurOk o6.c1)) ∧ Fun Try.prog 28 [vP 0, .c (.seq .int [(-1), 0, z11, z11 + 1])] z8 (.v (vI o6.x)) [.cells (cCur o6.c1)]) fun o6 => .seg [.call [0] (.v (vI o6.x)) [.cells (cCur o6.c1)]] (.leaf (⟨(⟨q1.r.data, q1.r.at_, q1.r.script, o6.x, q1.r.code⟩ : Rdr), o6.c1⟩ : l19Bent_o_O) [0, 3]))) (.br (.seg [.ty .int, .pubS 61] (.intro (fun (o6 : l1PickInt_o_O) => ((CurOk o6.c1)) ∧ Fun Try.prog 28 z31 z8 (.v (vI o6.x)) [.cells (cCur o6.c1)]) fun o6 => .seg [.call [0] (.v (vI o6.x)) [.cells (cCur o6.c1)]] (.leaf (⟨(⟨q1.r.data, q1.r.at_, q1.r.script, q1.r.next, o6.x⟩ : Rdr), o6.c1⟩ : l19Bent_o_O) [0, 3]))) (.br (.seg [.at 0, .keep [0, 2, 3], .sel [0, 1, 2, 3]] (.loop z34 fun q2 => .intro (fun (o6 : l1Below_o_O) => (((0 : Int) ≤ o6.x) ∧ ((1 : Int) ≤ 2 → o6.x < 2) ∧ (2 ≤ (0 : Int) → o6.x = (0 : Int)) ∧ (CurOk o6.c1)) ∧ Fun Try.prog 26 [vP 0, vI 2] [.cells (cCur q2.c)] (.v (vI o6.x)) [.cells (cCur o6.c1)]) fun o6 => .seg [.ord (os 7 [4]) [0], .call [0] (.v (vI o6.x)) [.cells (cCur o6.c1)], .as 71 (.v (vI (200 + o6.x)))] (.br (.seg [.ty .rd, .ty .rd, .at 0, .keep [0, 2, 3], .sel [0, 1, 2, 5]] (.next)) (.leaf (⟨q2.r, o6.c1⟩ : l19Bent_o_O) [0, 3])))) (.leaf (⟨q1.r, o5.c1⟩ : l19Bent_o_O) [0, 3])))))))), (∃ (o1 : l1Below_o_O), (((0 : Int) ≤ o1.x) ∧ ((1 : Int) ≤ 24 → o1.x < 24) ∧ (24 ≤ (0 : Int) → o1.x = (0 : Int)) ∧ (CurOk o1.c1)) ∧ Fun Try.prog 26 z33 z32 (.v (vI o1.x)) [.cells (cCur o1.c1)]) ∧ ∀ (o1 : l1Below_o_O), ((((0 : Int) ≤ o1.x) ∧ ((1 : Int) ≤ 24 → o1.x < 24) ∧ (24 ≤ (0 : Int) → o1.x = (0 : Int)) ∧ (CurOk o1.c1)) ∧ Fun Try.prog 26 z33 z32 (.v (vI o1.x)) [.cells (cCur o1.c1)]) → (let z27 : List Blk := [.cells (cCur o1.c1)]; let z28 : List V := [vP 0, vI o1.x]; (∃ (o2 : l1Bytes_o_O), ((List.length o2.l ≤ Int.toNat o1.x) ∧ (CurOk o2.c1)) ∧ Fun Try.prog 25 z28 z27 (.v (vO 1)) [.cells (cCur o2.c1), .lst .u8 o2.l]) ∧ ∀ (o2 : l1Bytes_o_O), (((List.length o2.l ≤ Int.toNat o1.x) ∧ (CurOk o2.c1)) ∧ Fun Try.prog 25 z28 z27 (.v (vO 1)) [.cells (cCur o2.c1), .lst .u8 o2.l]) → (let z25 : List Blk := [.cells (cCur o2.c1)]; let z26 : List Blk := [.cells (cCur o2.c1), .lst .u8 o2.l]; (∃ (o3 : l19Script_o_O), ((List.length o3.l ≤ 8) ∧ (CurOk o3.c1)) ∧ Fun Try.prog 27 [vP 0] z25 (.v (vO 1)) [.cells (cCur o3.c1), .lst .rd o3.l]) ∧ ∀ (o3 : l19Script_o_O), (((List.length o3.l ≤ 8) ∧ (CurOk o3.c1)) ∧ Fun Try.prog 27 [vP 0] z25 (.v (vO 1)) [.cells (cCur o3.c1), .lst .rd o3.l]) → (let z23 := cCur o3.c1; let z21 : List Blk := [.cells z23, .cells z29, .cells [.str (List.map toByte o2.l), zi 0, .own 3, zi 0, zi 0], .lst .rd o3.l]; let z22 : List Blk := [.cells z23, .lst .rd o3.l]; (Fun Try.prog 26 z33 z32 (.v (vI o1.x)) z27) ∧ (Fun Try.prog 25 z28 z27 (.v (vO 1)) z26) ∧ (Fun Try.prog 27 [vP 0] z25 (.v (vO 1)) z22) ∧ (Fun Try.prog 27 [vP 0] z25 (.v (vO 1)) z22) ∧ ((z21 : List Blk) = z21) ∧ z30 ∧ (Fun Try.prog 27 [vP 0] z25 (.v (vO 1)) z22) ∧ ((z21 : List Blk) = z21) ∧ z30 ∧ ((z21 : List Blk) = z21) ∧ z30 ∧ (Fun Try.prog 27 [vP 0] z25 (.v (vO 1)) z22) ∧ (Fun Try.prog 27 [vP 0] z25 (.v (vO 1)) z22) ∧ ((z21 : List Blk) = z21) ∧ z30 ∧ ((z21 : List Blk) = z21) ∧ z30 ∧ (Fun Try.prog 25 z28 z27 (.v (vO 1)) z26) ∧ (Fun Try.prog 27 [vP 0] z25 (.v (vO 1)) z22) ∧ (Fun Try.prog 27 [vP 0] z25 (.v (vO 1)) z22) ∧ ((z21 : List Blk) = z21) ∧ z30 ∧ ((z21 : List Blk) = z21) ∧ z30 ∧ (Fun Try.prog 26 z33 z32 (.v (vI o1.x)) z27) ∧ (Fun Try.prog 25 z28 z27 (.v (vO 1)) z26) ∧ (Fun Try.prog 27 [vP 0] z25 (.v (vO 1)) z22) ∧ (Fun Try.prog 27 [vP 0] z25 (.v (vO 1)) z22) ∧ ((z21 : List Blk) = z21) ∧ z30 ∧ ((z21 : List Blk) = z21) ∧ z30 ∧ (∃ (o4 : l1Below_o_O), (((0 : Int) ≤ o4.x) ∧ ((1 : Int) ≤ 4 → o4.x < 4) ∧ (4 ≤ (0 : Int) → o4.x = (0 : Int)) ∧ (CurOk o4.c1)) ∧ Fun Try.prog 26 [vP 0, vI 4] [.cells z23] (.v (vI o4.x)) [.cells (cCur o4.c1)]) ∧ ∀ (o4 : l1Below_o_O), ((((0 : Int) ≤ o4.x) ∧ ((1 : Int) ≤ 4 → o4.x < 4) ∧ (4 ≤ (0 : Int) → o4.x = (0 : Int)) ∧ (CurOk o4.c1)) ∧ Fun Try.prog 26 [vP 0, vI 4] [.cells z23] (.v (vI o4.x)) [.cells (cCur o4.c1)]) → ((Fun Try.prog 26 [vP 0, vI 4] [.cells z23] (.v (vI o4.x)) [.cells (cCur o4.c1)]) ∧ (l19Bent_o_F0 o4).Has [(0, .v (vP 0)), (2, .v (vP 1)), (3, .v (vP 2)), (4, .v (vI o4.x)), (5, .v (vI 0))] [.cells (cCur o4.c1), .cells z29, .cells [.str (List.map toByte o2.l), zi 0, .own 3, zi 0, zi 0], .lst .rd o3.l] ∧ ∀ q1, (l19Bent_o_F0 o4).inv q1 → (let z14 := ((List.length q1.r.script : Nat) : Int); let z15 := ((List.length q1.r.data : Nat) : Int); let z13 : List V := [vP 0, .c (.seq .int [(-1), 0, z15, z15 + 1, 9223372036854775807])]; let z16 : List Blk := [.cells (cCur q1.c)]; let z17 := ((q1.i : Nat) : Int); let z18 := List.length q1.r.script ≤ 201; let z19 := List.length q1.r.data ≤ 23; ((decide (z17 < o4.x)) = true → (∃ (o5 : l1Below_o_O), (((0 : Int) ≤ o5.x) ∧ ((1 : Int) ≤ 6 → o5.x < 6) ∧ (6 ≤ (0 : Int) → o5.x = (0 : Int)) ∧ (CurOk o5.c1)) ∧ Fun Try.prog 26 [vP 0, vI 6] z16 (.v (vI o5.x)) [.cells (cCur o5.c1)]) ∧ ∀ (o5 : l1Below_o_O), ((((0 : Int) ≤ o5.x) ∧ ((1 : Int) ≤ 6 → o5.x < 6) ∧ (6 ≤ (0 : Int) → o5.x = (0 : Int)) ∧ (CurOk o5.c1)) ∧ Fun Try.prog 26 [vP 0, vI 6] z16 (.v (vI o5.x)) [.cells (cCur o5.c1)]) → (let z2 := 1 + o5.x; let z1 := readSome q1.r z2; (Fun Try.prog 26 [vP 0, vI 6] z16 (.v (vI o5.x)) [.cells (cCur o5.c1)]) ∧ ((.v (vI (IntKind.i64.wrap z2)) : S) = .v (vI z2)) ∧ (Fun Try.prog 8 [.agg (cRdr q1.r), vI z2] [] (.tup [.agg (oRdr2 0 z1), vT (readTxt q1.r z2), vI (readCode q1.r z2)]) [.lst .rd z1.script]) ∧ ((.v (vI (IntKind.i64.wrap (z17 + 1))) : S) = .v (vI (z17 + 1))) ∧ (l19Bent_o_F0 o4).Nxt q1 [(0, .v (vP 0)), (2, .v (vP 1)), (3, .v (vP 2)), (4, .v (vI o4.x)), (5, .v (vI (z17 + 1)))] [.cells (cCur o5.c1), .cells z29, .cells (oRdr2 3 z1), .lst .rd z1.script])) ∧ ((decide (z17 < o4.x)) = false → (∃ (o5 : l1Below_o_O), (((0 : Int) ≤ o5.x) ∧ ((1 : Int) ≤ 14 → o5.x < 14) ∧ (14 ≤ (0 : Int) → o5.x = (0 : Int)) ∧ (CurOk o5.c1)) ∧ Fun Try.prog 26 [vP 0, vI 14] z16 (.v (vI o5.x)) [.cells (cCur o5.c1)]) ∧ ∀ (o5 : l1Below_o_O), ((((0 : Int) ≤ o5.x) ∧ ((1 : Int) ≤ 14 → o5.x < 14) ∧ (14 ≤ (0 : Int) → o5.x = (0 : Int)) ∧ (CurOk o5.c1)) ∧ Fun Try.prog 26 [vP 0, vI 14] z16 (.v (vI o5.x)) [.cells (cCur o5.c1)]) → (let z9 : List Blk := [.cells (cCur o5.c1)]; let z10 : List Blk := [.cells (cCur o5.c1), .lst .rd q1.r.script]; (Fun Try.prog 26 [vP 0, vI 14] z16 (.v (vI o5.x)) z9) ∧ ((decide (o5.x = 0)) = true → ((.v (vI (IntKind.i64.wrap (z15 + 1))) : S) = .v (vI (z15 + 1))) ∧ (∃ (o6 : l1PickInt_o_O), ((CurOk o6.c1)) ∧ Fun Try.prog 28 z13 z9 (.v (vI o6.x)) [.cells (cCur o6.c1)]) ∧ ∀ (o6 : l1PickInt_o_O), (((CurOk o6.c1)) ∧ Fun Try.prog 28 z13 z9 (.v (vI o6.x)) [.cells (cCur o6.c1)]) → (let z3 : List Blk := [.cells (cCur o6.c1), .lst .rd q1.r.script]; (Fun Try.prog 28 z13 z9 (.v (vI o6.x)) [.cells (cCur o6.c1)]) ∧ (z18 ∧ z19 ∧ (CurOk o6.c1)) ∧ (.v (.agg [.str q1.r.data, zi o6.x, .own 1, zi q1.r.next, zi q1.r.code]) : S) = .v (.agg [.str q1.r.data, zi o6.x, .own 1, zi q1.r.next, zi q1.r.code]) ∧ (z3 : List Blk) = z3)) ∧ ((decide (o5.x = 0)) = false → ((decide (o5.x = 1)) = true → ((.v (vI (IntKind.i64.wrap (z14 + 1))) : S) = .v (vI (z14 + 1))) ∧ (∃ (o6 : l1PickInt_o_O), ((CurOk o6.c1)) ∧ Fun Try.prog 28 [vP 0, .c (.seq .int [(-1), 0, z14, z14 + 1])] z9 (.v (vI o6.x)) [.cells (cCur o6.c1)]) ∧ ∀ (o6 : l1PickInt_o_O), (((CurOk o6.c1)) ∧ Fun Try.prog 28 [vP 0, .c (.seq .int [(-1), 0, z14, z14 + 1])] z9 (.v (vI o6.x)) [.cells (cCur o6.c1)]) → (let z4 : List Blk := [.cells (cCur o6.c1), .lst .rd q1.r.script]; (Fun Try.prog 28 [vP 0, .c (.seq .int [(-1), 0, z14, z14 + 1])] z9 (.v (vI o6.x)) [.cells (cCur o6.c1)]) ∧ (z18 ∧ z19 ∧ (CurOk o6.c1)) ∧ (.v (.agg [.str q1.r.data, zi q1.r.at_, .own 1, zi o6.x, zi q1.r.code]) : S) = .v (.agg [.str q1.r.data, zi q1.r.at_, .own 1, zi o6.x, zi q1.r.code]) ∧ (z4 : List Blk) = z4)) ∧ ((decide (o5.x = 1)) = false → ((decide (o5.x = 2)) = true → (∃ (o6 : l1PickInt_o_O), ((CurOk o6.c1)) ∧ Fun Try.prog 28 z31 z9 (.v (vI o6.x)) [.cells (cCur o6.c1)]) ∧ ∀ (o6 : l1PickInt_o_O), (((CurOk o6.c1)) ∧ Fun Try.prog 28 z31 z9 (.v (vI o6.x)) [.cells (cCur o6.c1)]) → (let z5 : List Blk := [.cells (cCur o6.c1), .lst .rd q1.r.script]; (Fun Try.prog 28 z31 z9 (.v (vI o6.x)) [.cells (cCur o6.c1)]) ∧ (z18 ∧ z19 ∧ (CurOk o6.c1)) ∧ (.v (.agg [.str q1.r.data, zi q1.r.at_, .own 1, zi q1.r.next, zi o6.x]) : S) = .v (.agg [.str q1.r.data, zi q1.r.at_, .own 1, zi q1.r.next, zi o6.x]) ∧ (z5 : List Blk) = z5)) ∧ ((decide (o5.x = 2)) = false → ((decide (o5.x = 3)) = true → z34.Has [(0, .v (vP 0)), (2, .v (vP 1)), (3, .v (vP 2))] [.cells (cCur o5.c1), .cells z29, .cells (oRdr2 3 q1.r), .lst .rd q1.r.script] ∧ ∀ q2, z34.inv q2 → ((∃ (o6 : l1Below_o_O), (((0 : Int) ≤ o6.x) ∧ ((1 : Int) ≤ 2 → o6.x < 2) ∧ (2 ≤ (0 : Int) → o6.x = (0 : Int)) ∧ (CurOk o6.c1)) ∧ Fun Try.prog 26 [vP 0, vI 2] [.cells (cCur q2.c)] (.v (vI o6.x)) [.cells (cCur o6.c1)]) ∧ ∀ (o6 : l1Below_o_O), ((((0 : Int) ≤ o6.x) ∧ ((1 : Int) ≤ 2 → o6.x < 2) ∧ (2 ≤ (0 : Int) → o6.x = (0 : Int)) ∧ (CurOk o6.c1)) ∧ Fun Try.prog 26 [vP 0, vI 2] [.cells (cCur q2.c)] (.v (vI o6.x)) [.cells (cCur o6.c1)]) → (let z6 := decide (((List.length q2.r.script : Nat) : Int) < 200 + o6.x); let z7 : List Blk := [.cells (cCur o6.c1), .lst .rd q2.r.script]; (Fun Try.prog 26 [vP 0, vI 2] [.cells (cCur q2.c)] (.v (vI o6.x)) [.cells (cCur o6.c1)]) ∧ ((.v (vI (IntKind.i64.wrap (200 + o6.x))) : S) = .v (vI (200 + o6.x))) ∧ (z6 = true → (List.length q2.r.script + List.length [(⟨0, 0⟩ : Rd)] ≤ bigN) ∧ z34.Nxt q2 [(0, .v (vP 0)), (2, .v (vP 1)), (3, .v (vP 2))] [.cells (cCur o6.c1), .cells z29, .cells (oRdr2 3 q2.r), .lst .rd (q2.r.script ++ [(⟨0, 0⟩ : Rd)])]) ∧ (z6 = false → ((List.length (q2.r).script ≤ 201) ∧ (List.length (q2.r).data ≤ 23) ∧ (CurOk o6.c1)) ∧ (.v (.agg (oRdr2 1 q2.r)) : S) = .v (.agg (oRdr2 1 q2.r)) ∧ (z7 : List Blk) = z7)))) ∧ ((decide (o5.x = 3)) = false → ((List.length (q1.r).script ≤ 201) ∧ (List.length (q1.r).data ≤ 23) ∧ (CurOk o5.c1)) ∧ (.v (.agg (oRdr2 1 q1.r)) : S) = .v (.agg (oRdr2 1 q1.r)) ∧ (z10 : List Blk) = z10))))))))))))) (by kernel_rfl) ?_
 refine ⟨(l1Below_o c 24 (by first | assumption | (exact ⟨by dsimp only; first | omega | (have := hp1.1; omega), hp1.2⟩))), fun o1 ho_o1 => ?_⟩
 obtain ⟨⟨hp_o1_0, hp_o1_1, hp_o1_2, hp_o1_3⟩, hf_o1⟩ := ho_o1
 refine ⟨(l1Bytes_o o1.c1 o1.x (by first | assumption | (exact ⟨by dsimp only; first | omega | (have := hp1.1; omega), hp1.2⟩)) (by omega)), fun o2 ho_o2 => ?_⟩
 obtain ⟨⟨hp_o2_0, hp_o2_1⟩, hf_o2⟩ := ho_o2
 refine ⟨(l19Script_o o2.c1 (by first | assumption | (exact ⟨by dsimp only; first | omega | (have := hp1.1; omega), hp1.2⟩))), fun o3 ho_o3 => ?_⟩
 obtain ⟨⟨hp_o3_0, hp_o3_1⟩, hf_o3⟩ := ho_o3
 refine ⟨hf_o1, hf_o2, hf_o3, hf_o3, rfl, rfl, hf_o3, rfl, rfl, rfl, rfl, hf_o3, hf_o3, rfl, rfl, rfl, rfl, hf_o2, hf_o3, hf_o3, rfl, rfl, rfl, rfl, hf_o1, hf_o2, hf_o3, hf_o3, rfl, rfl, rfl, rfl, (l1Below_o o3.c1 4 (by first | assumption | (exact ⟨by dsimp only; first | omega | (have := hp1.1; omega), hp1.2⟩))), fun o4 ho_o4 => ?_⟩
 obtain ⟨⟨hp_o4_0, hp_o4_1, hp_o4_2, hp_o4_3⟩, hf_o4⟩ := ho_o4
 refine ⟨hf_o4, has_of (j := (⟨o4.c1, (⟨List.map toByte o2.l, 0, o3.l, 0, 0⟩ : Rdr), 0⟩ : l19Bent_o_V0)) (by first | rfl | simp) (by first | rfl | simp) (by dsimp only [l19Bent_o_F0]; exact ⟨by assumption, by (try dsimp only); (try simp only [List.length_map]); omega, by omega⟩), fun (q1 : l19Bent_o_V0) hq_q1 => ?_⟩
 have hi_q1 : CurOk q1.c ∧ (List.length (q1.r).script ≤ 8 ∧ List.length (q1.r).data ≤ 23) ∧ q1.i ≤ 8 := hq_q1
 obtain ⟨v1, v2, v3⟩ := hi_q1
 refine dsp (fun h1 p1 => ?_) fun h1 p1 => ?_
 refine ⟨(l1Below_o q1.c 6 (by first | assumption | (exact ⟨by dsimp only; first | omega | (have := hp1.1; omega), hp1.2⟩))), fun o5 ho_o5 => ?_⟩
 obtain ⟨⟨hp_o5_0, hp_o5_1, hp_o5_2, hp_o5_3⟩, hf_o5⟩ := ho_o5
 exact ⟨hf_o5, (as_i64 (by omega) (by omega)), (readSome_s q1.r _ (by omega) (by omega)), (as_i64 (by omega) (by omega)), nxt_of (j := (⟨o5.c1, (readSome q1.r (1 + o5.x)), q1.i + 1⟩ : l19Bent_o_V0)) (by first | rfl | simp) rfl (by dsimp only [l19Bent_o_F0]; exact ⟨by assumption, by rw [(readSome_keeps _ _).1, (readSome_keeps _ _).2]; exact v2, by omega⟩) (by dsimp only [l19Bent_o_F0]; omega)⟩
 refine ⟨(l1Below_o q1.c 14 (by first | assumption | (exact ⟨by dsimp only; first | omega | (have := hp1.1; omega), hp1.2⟩))), fun o5 ho_o5 => ?_⟩
 obtain ⟨⟨hp_o5_0, hp_o5_1, hp_o5_2, hp_o5_3⟩, hf_o5⟩ := ho_o5
 refine ⟨hf_o5, dsp (fun h2 p2 => ?_) fun h2 p2 => ?_⟩
 refine ⟨(as_i64 (by omega) (by omega)), (l1PickInt_o o5.c1 [(-1), 0, ((List.length q1.r.data : Nat) : Int), ((List.length q1.r.data : Nat) : Int) + 1, 9223372036854775807] (by first | assumption | (exact ⟨by dsimp only; first | omega | (have := hp1.1; omega), hp1.2⟩)) (by simp only [List.length_cons, List.length_nil]; omega) (by simp only [List.length_cons, List.length_nil]; omega)), fun o6 ho_o6 => ?_⟩
 obtain ⟨hp_o6, hf_o6⟩ := ho_o6
 exact ⟨hf_o6, ⟨(by omega), (by omega), (by first | assumption | (exact ⟨by dsimp only; first | omega | (have := hp1.1; omega), hp1.2⟩))⟩, rfl, rfl⟩
 refine dsp (fun h3 p3 => ?_) fun h3 p3 => ?_
 refine ⟨(as_i64 (by omega) (by omega)), (l1PickInt_o o5.c1 [(-1), 0, ((List.length q1.r.script : Nat) : Int), ((List.length q1.r.script : Nat) : Int) + 1] (by first | assumption | (exact ⟨by dsimp only; first | omega | (have := hp1.1; omega), hp1.2⟩)) (by simp only [List.length_cons, List.length_nil]; omega) (by simp only [List.length_cons, List.length_nil]; omega)), fun o6 ho_o6 => ?_⟩
 obtain ⟨hp_o6, hf_o6⟩ := ho_o6
 exact ⟨hf_o6, ⟨(by omega), (by omega), (by first | assumption | (exact ⟨by dsimp only; first | omega | (have := hp1.1; omega), hp1.2⟩))⟩, rfl, rfl⟩
 refine dsp (fun h4 p4 => ?_) fun h4 p4 => ?_
 refine ⟨(l1PickInt_o o5.c1 [(-1), 0, 1, 2, 19, 20] (by first | assumption | (exact ⟨by dsimp only; first | omega | (have := hp1.1; omega), hp1.2⟩)) (by simp only [List.length_cons, List.length_nil]; omega) (by simp only [List.length_cons, List.length_nil]; omega)), fun o6 ho_o6 => ?_⟩
 obtain ⟨hp_o6, hf_o6⟩ := ho_o6
 exact ⟨hf_o6, ⟨(by omega), (by omega), (by first | assumption | (exact ⟨by dsimp only; first | omega | (have := hp1.1; omega), hp1.2⟩))⟩, rfl, rfl⟩
 refine dsp (fun h5 p5 => ?_) fun h5 p5 => ?_
 refine ⟨has_of (j := (⟨o5.c1, q1.r⟩ : l19Bent_o_V1)) rfl rfl (by dsimp only [l19Bent_o_F1]; exact ⟨by assumption, by (try dsimp only); (try simp only [List.length_map]); omega⟩), fun (q2 : l19Bent_o_V1) hq_q2 => ?_⟩
 have hi_q2 : CurOk q2.c ∧ (List.length (q2.r).script ≤ 201 ∧ List.length (q2.r).data ≤ 23) := hq_q2
 obtain ⟨w1, w2⟩ := hi_q2
 refine ⟨(l1Below_o q2.c 2 (by first | assumption | (exact ⟨by dsimp only; first | omega | (have := hp1.1; omega), hp1.2⟩))), fun o6 ho_o6 => ?_⟩
 obtain ⟨⟨hp_o6_0, hp_o6_1, hp_o6_2, hp_o6_3⟩, hf_o6⟩ := ho_o6
 refine ⟨hf_o6, (as_i64 (by omega) (by omega)), dsp (fun h6 p6 => ?_) fun h6 p6 => ?_⟩
 exact ⟨(by simp only [List.length_cons, List.length_nil]; omega), nxt_of (j := (⟨o6.c1, (⟨q2.r.data, q2.r.at_, q2.r.script ++ [(⟨0, 0⟩ : Rd)], q2.r.next, q2.r.code⟩ : Rdr)⟩ : l19Bent_o_V1)) rfl (by first | rfl | simp) (by dsimp only [l19Bent_o_F1]; exact ⟨by assumption, by simp; omega⟩) (by dsimp only [l19Bent_o_F1]; simp; omega)⟩
 exact ⟨⟨(by omega), (by omega), (by first | assumption | (exact ⟨by dsimp only; first | omega | (have := hp1.1; omega), hp1.2⟩))⟩, rfl, rfl⟩
 exact ⟨⟨(by omega), (by omega), (by first | assumption | (exact ⟨by dsimp only; first | omega | (have := hp1.1; omega), hp1.2⟩))⟩, rfl, rfl⟩
structure drawReadSome_o_O where
 r : Rdr
 x : Int
structure drawReadAll_o_O where
 r : Rdr
 x : Int
theorem drawReadAll_o (code : List Int) (hp1 : List.length code ≤ 1048576) : ∃ o : drawReadAll_o_O, ((List.length (o.r).script ≤ 201) ∧ (List.length (o.r).data ≤ 23)) ∧ Fun Try.prog 10 [.c (.seq .u8 code)] [] (.tup [.agg (oRdr2 0 o.r), vI o.x]) [.lst .rd o.r.script] := by
 have hN : bigN = 274877906944 := rfl
 refine funs_ofw Try.func10 (by kernel_rfl) (by kernel_rfl) (w := (.intro (fun (o1 : l1New_o_O) => ((CurOk o1.c1)) ∧ Fun Try.prog 16 [.c (.seq .u8 code)] [] (.v (vP 0)) [.cells (cCur o1.c1)]) fun o1 => .seg [.call [] (.v (vP 0)) [.cells (cCur o1.c1)]] (.intro (fun (o2 : l19Bent_o_O) => ((List.length (o2.r).script ≤ 201) ∧ (List.length (o2.r).data ≤ 23) ∧ (CurOk o2.c1)) ∧ Fun Try.prog 17 [vP 0] [.cells (cCur o1.c1)] (.v (.agg (oRdr2 1 o2.r))) [.cells (cCur o2.c1), .lst .rd o2.r.script]) fun o2 => .seg [.call [1] (.v (.agg (oRdr2 1 o2.r))) [.cells (cCur o2.c1), .lst .rd o2.r.script]] (.intro (fun (o3 : l19Room_o_O) => ((CurOk o3.c1)) ∧ Fun Try.prog 18 [vP 0] [.cells (cCur o2.c1)] (.v (vI o3.x)) [.cells (cCur o3.c1)]) fun o3 => .seg [.call [1] (.v (vI o3.x)) [.cells (cCur o3.c1)]] (.leaf (⟨o2.r, o3.x⟩ : drawReadAll_o_O) [2]))), (∃ (o1 : l1New_o_O), ((CurOk o1.c1)) ∧ Fun Try.prog 16 [.c (.seq .u8 code)] [] (.v (vP 0)) [.cells (cCur o1.c1)]) ∧ ∀ (o1 : l1New_o_O), (((CurOk o1.c1)) ∧ Fun Try.prog 16 [.c (.seq .u8 code)] [] (.v (vP 0)) [.cells (cCur o1.c1)]) → (let z1 : List Blk := [.cells (cCur o1.c1)]; (Fun Try.prog 16 [.c (.seq .u8 code)] [] (.v (vP 0)) z1) ∧ (∃ (o2 : l19Bent_o_O), ((List.length (o2.r).script ≤ 201) ∧ (List.length (o2.r).data ≤ 23) ∧ (CurOk o2.c1)) ∧ Fun Try.prog 17 [vP 0] z1 (.v (.agg (oRdr2 1 o2.r))) [.cells (cCur o2.c1), .lst .rd o2.r.script]) ∧ ∀ (o2 : l19Bent_o_O), (((List.length (o2.r).script ≤ 201) ∧ (List.length (o2.r).data ≤ 23) ∧ (CurOk o2.c1)) ∧ Fun Try.prog 17 [vP 0] z1 (.v (.agg (oRdr2 1 o2.r))) [.cells (cCur o2.c1), .lst .rd o2.r.script]) → ((Fun Try.prog 17 [vP 0] z1 (.v (.agg (oRdr2 1 o2.r))) [.cells (cCur o2.c1), .lst .rd o2.r.script]) ∧ (∃ (o3 : l19Room_o_O), ((CurOk o3.c1)) ∧ Fun Try.prog 18 [vP 0] [.cells (cCur o2.c1)] (.v (vI o3.x)) [.cells (cCur o3.c1)]) ∧ ∀ (o3 : l19Room_o_O), (((CurOk o3.c1)) ∧ Fun Try.prog 18 [vP 0] [.cells (cCur o2.c1)] (.v (vI o3.x)) [.cells (cCur o3.c1)]) → ((Fun Try.prog 18 [vP 0] [.cells (cCur o2.c1)] (.v (vI o3.x)) [.cells (cCur o3.c1)]) ∧ ((List.length (o2.r).script ≤ 201) ∧ (List.length (o2.r).data ≤ 23)) ∧ (.tup [.agg (oRdr2 0 o2.r), vI o3.x] : S) = .tup [.agg (oRdr2 0 o2.r), vI o3.x] ∧ ([.lst .rd o2.r.script] : List Blk) = [.lst .rd o2.r.script]))))) (by kernel_rfl) ?_
 refine ⟨(l1New_o code (by omega)), fun o1 ho_o1 => ?_⟩
 obtain ⟨hp_o1, hf_o1⟩ := ho_o1
 refine ⟨hf_o1, (l19Bent_o o1.c1 (by first | assumption | (exact ⟨by dsimp only; first | omega | (have := hp1.1; omega), hp1.2⟩))), fun o2 ho_o2 => ?_⟩
 obtain ⟨⟨hp_o2_0, hp_o2_1, hp_o2_2⟩, hf_o2⟩ := ho_o2
 refine ⟨hf_o2, (l19Room_o o2.c1 (by first | assumption | (exact ⟨by dsimp only; first | omega | (have := hp1.1; omega), hp1.2⟩))), fun o3 ho_o3 => ?_⟩
 obtain ⟨hp_o3, hf_o3⟩ := ho_o3
 exact ⟨hf_o3, ⟨(by omega), (by omega)⟩, rfl, rfl⟩
theorem big_ok (l : List Int) (hp1 : ((List.length l : Nat) : Int) ≤ 9223372036854775807) : Fun Try.prog 5 [.c (.seq .u8 l)] [] (.v (vB (decide (1048576 < ((List.length l : Nat) : Int))))) [] := by
 have hN : bigN = 274877906944 := rfl
 refine fun_ofw Try.func5 (by kernel_rfl) (by kernel_rfl) (w := let z1 := vB (decide (1048576 < ((List.length l : Nat) : Int))); (.leaf () [], (.v z1 : S) = .v z1 ∧ ([] : List Blk) = [])) (by kernel_rfl) ?_
 exact ⟨rfl, rfl⟩
theorem map_toByte_toNat (s : List UInt8) : List.map toByte (List.map (fun b => (UInt8.toNat b : Int)) s) = s := by
 rw [List.map_map]
 conv => rhs; rw [← List.map_id s]
 apply List.map_congr_left
 intro b _
 simp [toByte]
def rleft (r : Rdr) : Nat := ((r.script.length : Int) - r.next).toNat + ((r.data.length : Int) - r.at_).toNat
theorem readCode_ok {r : Rdr} {room : Int} (h : readerOk r = true) (h2 : 1 ≤ room) : readCode r room = if r.code = 0 then rsCode r room else r.code := by
 unfold readCode
 rw [h]
 simp only [Bool.not_true, Bool.false_or]
 rw [if_neg (by simpa using h2)]
 by_cases hc : r.code = 0
 ·rw [if_neg (by simp [hc]), if_pos hc]
 ·rw [if_pos (by simp [hc]), if_neg hc]
theorem rleft_next {r : Rdr} {room : Int} (hr : readerOk r = true) (h2 : 1 ≤ room) (h : readCode r room = 0) : rleft (readSome r room) < rleft r := by
 have ht := readerOk_t hr
 rw [readCode_ok hr h2] at h
 split at h
 ·rename_i hc
  have hb := rsBad_t hr h2 hc
  have hs := rs_b (room := room) hr
  rw [(readSome_good hb).1]
  have hn : rsN r room = clampN (entryOf r room).n room ((r.data.length : Int) - r.at_) := rfl
  have hx : rsNext r = if r.next < (r.script.length : Int) then r.next + 1 else r.next := rfl
  unfold rleft
  simp only
  by_cases hl : r.next < (r.script.length : Int)
  ·rw [if_pos hl] at hx; omega
  ·have he : entryOf r room = ⟨room, 1⟩ := by unfold entryOf; rw [if_neg hl]
   have hcd : rsCode r room = if 20 ≤ (entryOf r room).code then (entryOf r room).code else if (entryOf r room).code = 1 ∧ r.at_ + rsN r room = (r.data.length : Int) then 1 else r.code := rfl
   rw [he] at hn hcd
   simp only at hn hcd
   rw [if_neg (by decide)] at hcd
   rw [if_neg hl] at hx
   unfold clampN at hn
   split at hcd
   ·omega
   ·rename_i hy
    have : ¬ r.at_ + rsN r room = (r.data.length : Int) := fun e => hy ⟨by first | rfl | trivial, e⟩
    omega
 ·rename_i hc; exact absurd h hc
def readAllM (room : Int) : Nat → Rdr → List (List UInt8) × Int
 | 0, _ => ([], 0)
 | k + 1, r => if readCode r room = 0 then (readTxt r room :: (readAllM room k (readSome r room)).1, (readAllM room k (readSome r room)).2) else ([readTxt r room], readCode r room)
theorem readAllM_more {room : Int} (h2 : 1 ≤ room) : ∀ (n : Nat) {r : Rdr} {k : Nat}, rleft r ≤ n → readerOk r = true → rleft r + 1 ≤ k → readAllM room k r = readAllM room (rleft r + 1) r := by
 intro n
 induction n with
 | zero =>
  intro r k hn hr hk
  obtain ⟨j, rfl⟩ : ∃ j, k = j + 1 := ⟨k - 1, by omega⟩
  rw [readAllM, readAllM]
  by_cases hc : readCode r room = 0
  ·have := rleft_next hr h2 hc; omega
  ·rw [if_neg hc, if_neg hc]
 | succ n ih =>
  intro r k hn hr hk
  obtain ⟨j, rfl⟩ : ∃ j, k = j + 1 := ⟨k - 1, by omega⟩
  rw [readAllM, readAllM]
  by_cases hc : readCode r room = 0
  ·have hl := rleft_next hr h2 hc
   have hk2 := readSome_right (room := room) hr
   rw [if_pos hc, if_pos hc, ih (k := j) (by omega) hk2 (by omega), ih (k := rleft r) (by omega) hk2 (by omega)]
  ·rw [if_neg hc, if_neg hc]
def readAll (r : Rdr) (room : Int) : List (List UInt8) × Int := if readerOk r = true ∧ 1 ≤ room then readAllM room (rleft r + 1) r else ([], 1)
theorem readAll_no {r : Rdr} {room : Int} (h : ¬ (readerOk r = true ∧ 1 ≤ room)) : readAll r room = ([], 1) := by unfold readAll; rw [if_neg h]
theorem readAll_if {r : Rdr} {room : Int} (h : readerOk r = true) (h2 : 1 ≤ room) : readAll r room = readAllM room (rleft r + 1) r := by unfold readAll; rw [if_pos ⟨h, h2⟩]
theorem readAllM_step {r : Rdr} {room : Int} (hr : readerOk r = true) (h2 : 1 ≤ room) (hc : readCode r room = 0) : readAllM room (rleft r + 1) r = (readTxt r room :: (readAllM room (rleft (readSome r room) + 1) (readSome r room)).1, (readAllM room (rleft (readSome r room) + 1) (readSome r room)).2) := by
 rw [readAllM, if_pos hc]
 have hl := rleft_next hr h2 hc
 rw [readAllM_more h2 (rleft r) (by omega) (readSome_right hr) (by omega)]
theorem readAllM_last {r : Rdr} {room : Int} (hc : readCode r room ≠ 0) : readAllM room (rleft r + 1) r = ([readTxt r room], readCode r room) := by
 rw [readAllM, if_neg hc]
theorem rleft_most {r : Rdr} (h : readerOk r = true) : rleft r ≤ 4200 := by
 have := readerOk_t h
 unfold rleft
 omega
theorem take_two {l : List UInt8} {a n m : Nat} : List.take n (List.drop a l) ++ List.take m (List.drop (a + n) l) = List.take (n + m) (List.drop a l) := by
 rw [List.take_add, List.drop_drop]
theorem readFlat_last {r : Rdr} {room : Int} (hr : readerOk r = true) (h2 : 1 ≤ room) (hc0 : r.code = 0) (hc : readCode r room ≠ 0) : ∃ m, m ≤ (List.drop r.at_.toNat r.data).length ∧ (readAllM room (rleft r + 1) r).1.flatten = List.take m (List.drop r.at_.toNat r.data) ∧ ((readAllM room (rleft r + 1) r).2 = 1 → m = (List.drop r.at_.toNat r.data).length) ∧ ∀ c ∈ (readAllM room (rleft r + 1) r).1, (c.length : Int) ≤ room := by
 have hb := rsBad_t hr h2 hc0
 have hg := readSome_good hb
 have hs := rs_b (room := room) hr
 have ht := readerOk_t hr
 have hn2 := readTxt_n hb
 rw [readAllM_last hc]
 refine ⟨(rsN r room).toNat, ?_, ?_, fun h => ?_, fun c hcm => ?_⟩
 ·rw [List.length_drop]; omega
 ·rw [List.flatten_cons, List.flatten_nil, List.append_nil, hg.2.1, List.drop_take]
  congr 1
  omega
 ·have h : readCode r room = 1 := h
  rw [hg.2.2] at h
  have hcd : rsCode r room = if 20 ≤ (entryOf r room).code then (entryOf r room).code else if (entryOf r room).code = 1 ∧ r.at_ + rsN r room = (r.data.length : Int) then 1 else r.code := rfl
  rw [List.length_drop]
  split at hcd
  ·omega
  ·split at hcd <;> omega
 ·rcases List.mem_cons.1 hcm with rfl | hcm
  ·omega
  ·cases hcm
theorem readAllM_flat {room : Int} (h2 : 1 ≤ room) : ∀ (n : Nat) {r : Rdr}, rleft r ≤ n → readerOk r = true → r.code = 0 → ∃ m, m ≤ (List.drop r.at_.toNat r.data).length ∧ (readAllM room (rleft r + 1) r).1.flatten = List.take m (List.drop r.at_.toNat r.data) ∧ ((readAllM room (rleft r + 1) r).2 = 1 → m = (List.drop r.at_.toNat r.data).length) ∧ ∀ c ∈ (readAllM room (rleft r + 1) r).1, (c.length : Int) ≤ room := by
 intro n
 induction n with
 | zero =>
  intro r hn hr hc0
  have hc : readCode r room ≠ 0 := fun hc => by have := rleft_next hr h2 hc; omega
  exact readFlat_last hr h2 hc0 hc
 | succ n ih =>
  intro r hn hr hc0
  by_cases hc : readCode r room = 0
  ·have hl := rleft_next hr h2 hc
   have hb := rsBad_t hr h2 hc0
   have hg := readSome_good hb
   have hs := rs_b (room := room) hr
   have ht := readerOk_t hr
   have hn2 := readTxt_n hb
   have hcode : (readSome r room).code = 0 := by rw [hg.1]; rw [hg.2.2] at hc; exact hc
   obtain ⟨m, h3, h4, h5, h6⟩ := ih (r := readSome r room) (by omega) (readSome_right hr) hcode
   have hat : (readSome r room).at_.toNat = r.at_.toNat + (rsN r room).toNat := by rw [hg.1]; show (r.at_ + rsN r room).toNat = _; omega
   have hda : (readSome r room).data = r.data := by rw [hg.1]
   rw [hat, hda] at h3 h4 h5
   have htx : readTxt r room = List.take (rsN r room).toNat (List.drop r.at_.toNat r.data) := by
    rw [hg.2.1, List.drop_take]
    congr 1
    omega
   rw [readAllM_step hr h2 hc]
   refine ⟨(rsN r room).toNat + m, ?_, ?_, fun h => ?_, fun c hcm => ?_⟩
   ·rw [List.length_drop] at h3 ⊢; omega
   ·rw [List.flatten_cons, h4, htx, take_two]
   ·have := h5 h; rw [List.length_drop] at this ⊢; omega
   ·rcases List.mem_cons.1 hcm with rfl | hcm
    ·omega
    ·exact h6 c hcm
  ·exact readFlat_last hr h2 hc0 hc
theorem readAllM_len {room : Int} (h2 : 1 ≤ room) : ∀ (n : Nat) {r : Rdr}, rleft r ≤ n → readerOk r = true → (readAllM room (rleft r + 1) r).1.length ≤ rleft r + 1 := by
 intro n
 induction n with
 | zero =>
  intro r hn hr
  have hc : readCode r room ≠ 0 := fun hc => by have := rleft_next hr h2 hc; omega
  rw [readAllM_last hc]; simp
 | succ n ih =>
  intro r hn hr
  by_cases hc : readCode r room = 0
  ·have hl := rleft_next hr h2 hc
   have := ih (r := readSome r room) (by omega) (readSome_right hr)
   rw [readAllM_step hr h2 hc]
   simp only [List.length_cons]; omega
  ·rw [readAllM_last hc]; simp
theorem readAll_facts {r : Rdr} {room : Int} (hr : readerOk r = true) (h2 : 1 ≤ room) : (readAll r room).1.length ≤ 4201 ∧ (∀ c ∈ (readAll r room).1, (c.length : Int) ≤ room) ∧ (readAll r room).1.flatten.length ≤ 4000 ∧ (r.code ≠ 0 → (readAll r room).1.flatten = [] ∧ (readAll r room).2 = r.code) ∧ (r.code = 0 → (readAll r room).1.flatten.length ≤ (List.drop r.at_.toNat r.data).length ∧ List.take (readAll r room).1.flatten.length (List.drop r.at_.toNat r.data) = (readAll r room).1.flatten ∧ ((readAll r room).2 = 1 → (readAll r room).1.flatten = List.drop r.at_.toNat r.data)) := by
 have ht := readerOk_t hr
 have hm := rleft_most hr
 rw [readAll_if hr h2]
 have hlen := readAllM_len h2 (rleft r) (Nat.le_refl _) hr
 by_cases hc : r.code = 0
 ·obtain ⟨m, h3, h4, h5, h6⟩ := readAllM_flat h2 (rleft r) (Nat.le_refl _) hr hc
  have hl : (readAllM room (rleft r + 1) r).1.flatten.length = m := by rw [h4, List.length_take]; omega
  have hd : (List.drop r.at_.toNat r.data).length ≤ 4000 := by rw [List.length_drop]; omega
  refine ⟨by omega, h6, by omega, fun h => absurd hc h, fun _ => ⟨by omega, by rw [hl, h4], fun h => ?_⟩⟩
  rw [h4, List.take_of_length_le (by rw [h5 h]; exact Nat.le_refl _)]
 ·have hk : readCode r room = r.code := by rw [readCode_ok hr h2, if_neg hc]
  have hx : readTxt r room = [] := by
   unfold readTxt rsBad
   rw [hr]
   simp [hc]
  rw [readAllM_last (by rw [hk]; exact hc), hx, hk]
  exact ⟨by simp, fun c hm => by simp at hm; subst hm; simp; omega, by simp, fun _ => ⟨rfl, rfl⟩, fun h => absurd h hc⟩
end Go.Proofs.Ytnamhappoaplcaa.Ax
