/- Opening what the laws are handed. -/
import Derived.Test.YtecljjcmjongfaaGreatKS1
import Derived.Test.YtecljjcmjongfaaGreatKB4
set_option linter.unusedSimpArgs false
set_option linter.unusedVariables false
namespace Go.Proofs.YtecljjcmjongfaaGreat.Ax
open Go.ChangeShapes Go.WideShapes Go.ChangeAt Go.RowKit
theorem cof___laws_Shape : Tryz.prog.cellsOf 22 = 1 := by kernel_rfl
theorem cof_int : Tryz.prog.cellsOf 3 = 1 := by kernel_rfl
theorem cof_bool : Tryz.prog.cellsOf 4 = 1 := by kernel_rfl
def okFld (y : Fld) : Prop := I64 y.number ∧ I64 y.kind ∧ True ∧ True ∧ I64 y.msg
theorem e_fld {H : Type} {tok : TypeId × Value → H} {w : World} {sp : Nat → Bool} {held : Bool} (fuel : Nat) (cs : List Value) (x : DataW H × List MemPlace) (hl : cs.length = 5) (h : DataW.trod tok Tryz.prog w 0 sp held fuel 61 cs = some x) : ∃ y : Fld, All2 Rep0 (enc .fld y) cs ∧ okFld y := by
  match cs, hl with
  | [c0, c1, c2, c3, c4], _ =>
    obtain ⟨xs, n, _, rfl, _, hxl, hf⟩ := DataW.trod_struct Tryz.underlying61 h
    match xs, hxl with
    | [y0, y1, y2, y3, y4], _ =>
      have f0 : DataW.trod tok Tryz.prog w 0 sp held n 3 [c0] = some y0 := by simpa [cof_int] using hf 0 _ rfl
      obtain ⟨i0, e0, _, w0⟩ := DataW.trod_int Tryz.underlying3 f0
      simp only [List.cons.injEq, and_true] at e0
      subst e0
      have f1 : DataW.trod tok Tryz.prog w 0 sp held n 3 [c1] = some y1 := by simpa [cof_int] using hf 1 _ rfl
      obtain ⟨i1, e1, _, w1⟩ := DataW.trod_int Tryz.underlying3 f1
      simp only [List.cons.injEq, and_true] at e1
      subst e1
      have f2 : DataW.trod tok Tryz.prog w 0 sp held n 4 [c2] = some y2 := by simpa [cof_bool] using hf 2 _ rfl
      obtain ⟨i2, e2⟩ := bool_trod Tryz.underlying4 f2
      simp only [List.cons.injEq, and_true] at e2
      subst e2
      have f3 : DataW.trod tok Tryz.prog w 0 sp held n 4 [c3] = some y3 := by simpa [cof_bool] using hf 3 _ rfl
      obtain ⟨i3, e3⟩ := bool_trod Tryz.underlying4 f3
      simp only [List.cons.injEq, and_true] at e3
      subst e3
      have f4 : DataW.trod tok Tryz.prog w 0 sp held n 3 [c4] = some y4 := by simpa [cof_int] using hf 4 _ rfl
      obtain ⟨i4, e4, _, w4⟩ := DataW.trod_int Tryz.underlying3 f4
      simp only [List.cons.injEq, and_true] at e4
      subst e4
      exact ⟨⟨i0, i1, i2, i3, i4⟩, .cons (show Rep0 (.int .i64 i0) _ from rfl) (.cons (show Rep0 (.int .i64 i1) _ from rfl) (.cons (show Rep0 (.bool i2) _ from rfl) (.cons (show Rep0 (.bool i3) _ from rfl) (.cons (show Rep0 (.int .i64 i4) _ from rfl) .nil)))), ⟨bounds_i64 w0, bounds_i64 w1, trivial, trivial, bounds_i64 w4⟩⟩
theorem cof___laws_Field : Tryz.prog.cellsOf 164 = 1 := by kernel_rfl
def okShp (y : Shp) : Prop := I64 y.id ∧ (Le63 y.fields.length ∧ ∀ e ∈ y.fields, okFld e)
theorem cof_laws_Field : Tryz.prog.cellsOf 61 = 5 := by kernel_rfl
theorem e_shp {H : Type} {tok : TypeId × Value → H} {w : World} {sp : Nat → Bool} {held : Bool} (fuel : Nat) (cs : List Value) (x : DataW H × List MemPlace) (hl : cs.length = 2) (h : DataW.trod tok Tryz.prog w 0 sp held fuel 166 cs = some x) : ∃ y : Shp, All2 (Rep1 w (RR w)) (enc .shp y) cs ∧ okShp y := by
  match cs, hl with
  | [c0, c1], _ =>
    obtain ⟨xs, n, _, rfl, _, hxl, hf⟩ := DataW.trod_struct Tryz.underlying166 h
    match xs, hxl with
    | [y0, y1], _ =>
      have f0 : DataW.trod tok Tryz.prog w 0 sp held n 3 [c0] = some y0 := by simpa [cof_int] using hf 0 _ rfl
      obtain ⟨i0, e0, _, w0⟩ := DataW.trod_int Tryz.underlying3 f0
      simp only [List.cons.injEq, and_true] at e0
      subst e0
      have f1 : DataW.trod tok Tryz.prog w 0 sp held n 164 [c1] = some y1 := by simpa [cof___laws_Field] using hf 1 _ rfl
      obtain ⟨i1, s1, l1, k1⟩ := open_sq (cr := Rep0) (t := .fld) (Q := fun e => okFld e) Tryz.underlying164 cof_laws_Field (by decide) e_fld f1
      exact ⟨⟨i0, i1⟩, .cons (rep0_1 (show Rep0 (.int .i64 i0) _ from rfl)) (.cons s1 .nil), ⟨bounds_i64 w0, ⟨l1, k1⟩⟩⟩
theorem cof_laws_Schema : Tryz.prog.cellsOf 24 = 1 := by kernel_rfl
def okPln (y : Pln) : Prop := (Le63 y.shapes.length ∧ ∀ e ∈ y.shapes, okShp e) ∧ I64 y.root ∧ I64 y.deep ∧ I64 y.most
theorem cof_laws_Shape : Tryz.prog.cellsOf 166 = 2 := by kernel_rfl
theorem o_Pln {H : Type} {tok : TypeId × Value → H} {w : World} {sp : Nat → Bool} {held : Bool} {fuel : Nat} {cs : List Value} {x : DataW H × List MemPlace} (hl : cs.length = 4) (h : DataW.trod tok Tryz.prog w 0 sp held fuel 26 cs = some x) : ∃ y : Pln, All2 (RepC [] P0 w (RR w)) ([.seq .shp y.shapes, .int .i64 y.root, .int .i64 y.deep, .int .i64 y.most]) cs ∧ okPln y := by
  match cs, hl with
  | [c0, c1, c2, c3], _ =>
    obtain ⟨xs, n, _, rfl, _, hxl, hf⟩ := DataW.trod_struct Tryz.underlying26 h
    match xs, hxl with
    | [y0, y1, y2, y3], _ =>
      have f0 : DataW.trod tok Tryz.prog w 0 sp held n 24 [c0] = some y0 := by simpa [cof_laws_Schema] using hf 0 _ rfl
      obtain ⟨xs0, n0, _, rfl, _, hxl0, hf0⟩ := DataW.trod_struct Tryz.underlying24 f0
      obtain ⟨z0, rfl⟩ := List.length_eq_one_iff.1 hxl0
      have g0 : DataW.trod tok Tryz.prog w 0 sp held n0 22 [c0] = some z0 := by simpa [cof___laws_Shape] using hf0 0 _ rfl
      obtain ⟨i0, s0, l0, k0⟩ := open_sq (cr := (Rep1 w (RR w))) (t := .shp) (Q := fun e => okShp e) Tryz.underlying22 cof_laws_Shape (by decide) e_shp g0
      have f1 : DataW.trod tok Tryz.prog w 0 sp held n 3 [c1] = some y1 := by simpa [cof_int] using hf 1 _ rfl
      obtain ⟨i1, e1, _, w1⟩ := DataW.trod_int Tryz.underlying3 f1
      simp only [List.cons.injEq, and_true] at e1
      subst e1
      have f2 : DataW.trod tok Tryz.prog w 0 sp held n 3 [c2] = some y2 := by simpa [cof_int] using hf 2 _ rfl
      obtain ⟨i2, e2, _, w2⟩ := DataW.trod_int Tryz.underlying3 f2
      simp only [List.cons.injEq, and_true] at e2
      subst e2
      have f3 : DataW.trod tok Tryz.prog w 0 sp held n 3 [c3] = some y3 := by simpa [cof_int] using hf 3 _ rfl
      obtain ⟨i3, e3, _, w3⟩ := DataW.trod_int Tryz.underlying3 f3
      simp only [List.cons.injEq, and_true] at e3
      subst e3
      exact ⟨⟨i0, i1, i2, i3⟩, .cons s0 (.cons (rep0_C (show Rep0 (.int .i64 i1) _ from rfl)) (.cons (rep0_C (show Rep0 (.int .i64 i2) _ from rfl)) (.cons (rep0_C (show Rep0 (.int .i64 i3) _ from rfl)) .nil))), ⟨⟨l0, k0⟩, bounds_i64 w1, bounds_i64 w2, bounds_i64 w3⟩⟩
theorem cof_laws_Plan : Tryz.prog.cellsOf 26 = 4 := by kernel_rfl
def okLev (y : Lev) : Prop := I64 y.msg ∧ I64 y.left
theorem e_lev {H : Type} {tok : TypeId × Value → H} {w : World} {sp : Nat → Bool} {held : Bool} (fuel : Nat) (cs : List Value) (x : DataW H × List MemPlace) (hl : cs.length = 2) (h : DataW.trod tok Tryz.prog w 0 sp held fuel 158 cs = some x) : ∃ y : Lev, All2 Rep0 (enc .lev y) cs ∧ okLev y := by
  match cs, hl with
  | [c0, c1], _ =>
    obtain ⟨xs, n, _, rfl, _, hxl, hf⟩ := DataW.trod_struct Tryz.underlying158 h
    match xs, hxl with
    | [y0, y1], _ =>
      have f0 : DataW.trod tok Tryz.prog w 0 sp held n 3 [c0] = some y0 := by simpa [cof_int] using hf 0 _ rfl
      obtain ⟨i0, e0, _, w0⟩ := DataW.trod_int Tryz.underlying3 f0
      simp only [List.cons.injEq, and_true] at e0
      subst e0
      have f1 : DataW.trod tok Tryz.prog w 0 sp held n 3 [c1] = some y1 := by simpa [cof_int] using hf 1 _ rfl
      obtain ⟨i1, e1, _, w1⟩ := DataW.trod_int Tryz.underlying3 f1
      simp only [List.cons.injEq, and_true] at e1
      subst e1
      exact ⟨⟨i0, i1⟩, .cons (show Rep0 (.int .i64 i0) _ from rfl) (.cons (show Rep0 (.int .i64 i1) _ from rfl) .nil), ⟨bounds_i64 w0, bounds_i64 w1⟩⟩
theorem cof___laws_Level : Tryz.prog.cellsOf 56 = 1 := by kernel_rfl
theorem cof_uint64 : Tryz.prog.cellsOf 57 = 1 := by kernel_rfl
def okScn (y : Scn) : Prop := U64 y.bits ∧ I64 y.have_
theorem o_Scn {H : Type} {tok : TypeId × Value → H} {w : World} {sp : Nat → Bool} {held : Bool} {fuel : Nat} {cs : List Value} {x : DataW H × List MemPlace} (hl : cs.length = 2) (h : DataW.trod tok Tryz.prog w 0 sp held fuel 59 cs = some x) : ∃ y : Scn, All2 (RepC [] P0 w (RR w)) ([.int .u64 y.bits, .int .i64 y.have_]) cs ∧ okScn y := by
  match cs, hl with
  | [c0, c1], _ =>
    obtain ⟨xs, n, _, rfl, _, hxl, hf⟩ := DataW.trod_struct Tryz.underlying59 h
    match xs, hxl with
    | [y0, y1], _ =>
      have f0 : DataW.trod tok Tryz.prog w 0 sp held n 57 [c0] = some y0 := by simpa [cof_uint64] using hf 0 _ rfl
      obtain ⟨i0, e0, _, w0⟩ := DataW.trod_int Tryz.underlying57 f0
      simp only [List.cons.injEq, and_true] at e0
      subst e0
      have f1 : DataW.trod tok Tryz.prog w 0 sp held n 3 [c1] = some y1 := by simpa [cof_int] using hf 1 _ rfl
      obtain ⟨i1, e1, _, w1⟩ := DataW.trod_int Tryz.underlying3 f1
      simp only [List.cons.injEq, and_true] at e1
      subst e1
      exact ⟨⟨i0, i1⟩, .cons (rep0_C (show Rep0 (.int .u64 i0) _ from rfl)) (.cons (rep0_C (show Rep0 (.int .i64 i1) _ from rfl)) .nil), ⟨bounds_u64 w0, bounds_i64 w1⟩⟩
theorem cof_laws_Scan : Tryz.prog.cellsOf 59 = 2 := by kernel_rfl
theorem o_Fld {H : Type} {tok : TypeId × Value → H} {w : World} {sp : Nat → Bool} {held : Bool} {fuel : Nat} {cs : List Value} {x : DataW H × List MemPlace} (hl : cs.length = 5) (h : DataW.trod tok Tryz.prog w 0 sp held fuel 61 cs = some x) : ∃ y : Fld, All2 (RepC [] P0 w (RR w)) ([.int .i64 y.number, .int .i64 y.kind, .bool y.rep, .bool y.packed, .int .i64 y.msg]) cs ∧ okFld y := by
  match cs, hl with
  | [c0, c1, c2, c3, c4], _ =>
    obtain ⟨xs, n, _, rfl, _, hxl, hf⟩ := DataW.trod_struct Tryz.underlying61 h
    match xs, hxl with
    | [y0, y1, y2, y3, y4], _ =>
      have f0 : DataW.trod tok Tryz.prog w 0 sp held n 3 [c0] = some y0 := by simpa [cof_int] using hf 0 _ rfl
      obtain ⟨i0, e0, _, w0⟩ := DataW.trod_int Tryz.underlying3 f0
      simp only [List.cons.injEq, and_true] at e0
      subst e0
      have f1 : DataW.trod tok Tryz.prog w 0 sp held n 3 [c1] = some y1 := by simpa [cof_int] using hf 1 _ rfl
      obtain ⟨i1, e1, _, w1⟩ := DataW.trod_int Tryz.underlying3 f1
      simp only [List.cons.injEq, and_true] at e1
      subst e1
      have f2 : DataW.trod tok Tryz.prog w 0 sp held n 4 [c2] = some y2 := by simpa [cof_bool] using hf 2 _ rfl
      obtain ⟨i2, e2⟩ := bool_trod Tryz.underlying4 f2
      simp only [List.cons.injEq, and_true] at e2
      subst e2
      have f3 : DataW.trod tok Tryz.prog w 0 sp held n 4 [c3] = some y3 := by simpa [cof_bool] using hf 3 _ rfl
      obtain ⟨i3, e3⟩ := bool_trod Tryz.underlying4 f3
      simp only [List.cons.injEq, and_true] at e3
      subst e3
      have f4 : DataW.trod tok Tryz.prog w 0 sp held n 3 [c4] = some y4 := by simpa [cof_int] using hf 4 _ rfl
      obtain ⟨i4, e4, _, w4⟩ := DataW.trod_int Tryz.underlying3 f4
      simp only [List.cons.injEq, and_true] at e4
      subst e4
      exact ⟨⟨i0, i1, i2, i3, i4⟩, .cons (rep0_C (show Rep0 (.int .i64 i0) _ from rfl)) (.cons (rep0_C (show Rep0 (.int .i64 i1) _ from rfl)) (.cons (rep0_C (show Rep0 (.bool i2) _ from rfl)) (.cons (rep0_C (show Rep0 (.bool i3) _ from rfl)) (.cons (rep0_C (show Rep0 (.int .i64 i4) _ from rfl)) .nil)))), ⟨bounds_i64 w0, bounds_i64 w1, trivial, trivial, bounds_i64 w4⟩⟩
def okUtf (y : Utf) : Prop := I64 y.want ∧ I64 y.low ∧ I64 y.high
theorem o_Utf {H : Type} {tok : TypeId × Value → H} {w : World} {sp : Nat → Bool} {held : Bool} {fuel : Nat} {cs : List Value} {x : DataW H × List MemPlace} (hl : cs.length = 3) (h : DataW.trod tok Tryz.prog w 0 sp held fuel 63 cs = some x) : ∃ y : Utf, All2 (RepC [] P0 w (RR w)) ([.int .i64 y.want, .int .i64 y.low, .int .i64 y.high]) cs ∧ okUtf y := by
  match cs, hl with
  | [c0, c1, c2], _ =>
    obtain ⟨xs, n, _, rfl, _, hxl, hf⟩ := DataW.trod_struct Tryz.underlying63 h
    match xs, hxl with
    | [y0, y1, y2], _ =>
      have f0 : DataW.trod tok Tryz.prog w 0 sp held n 3 [c0] = some y0 := by simpa [cof_int] using hf 0 _ rfl
      obtain ⟨i0, e0, _, w0⟩ := DataW.trod_int Tryz.underlying3 f0
      simp only [List.cons.injEq, and_true] at e0
      subst e0
      have f1 : DataW.trod tok Tryz.prog w 0 sp held n 3 [c1] = some y1 := by simpa [cof_int] using hf 1 _ rfl
      obtain ⟨i1, e1, _, w1⟩ := DataW.trod_int Tryz.underlying3 f1
      simp only [List.cons.injEq, and_true] at e1
      subst e1
      have f2 : DataW.trod tok Tryz.prog w 0 sp held n 3 [c2] = some y2 := by simpa [cof_int] using hf 2 _ rfl
      obtain ⟨i2, e2, _, w2⟩ := DataW.trod_int Tryz.underlying3 f2
      simp only [List.cons.injEq, and_true] at e2
      subst e2
      exact ⟨⟨i0, i1, i2⟩, .cons (rep0_C (show Rep0 (.int .i64 i0) _ from rfl)) (.cons (rep0_C (show Rep0 (.int .i64 i1) _ from rfl)) (.cons (rep0_C (show Rep0 (.int .i64 i2) _ from rfl)) .nil)), ⟨bounds_i64 w0, bounds_i64 w1, bounds_i64 w2⟩⟩
theorem cof_laws_Utf : Tryz.prog.cellsOf 63 = 3 := by kernel_rfl
theorem cof_string : Tryz.prog.cellsOf 9 = 1 := by kernel_rfl
def okEv (y : Ev) : Prop := I64 y.kind ∧ I64 y.field ∧ U64 y.bits ∧ I64 y.len ∧ Le63 y.text.length ∧ I64 y.code ∧ I64 y.at_
theorem o_Ev {H : Type} {tok : TypeId × Value → H} {w : World} {sp : Nat → Bool} {held : Bool} {fuel : Nat} {cs : List Value} {x : DataW H × List MemPlace} (hl : cs.length = 7) (h : DataW.trod tok Tryz.prog w 0 sp held fuel 65 cs = some x) : ∃ y : Ev, All2 (RepC [] P0 w (RR w)) ([.int .i64 y.kind, .int .i64 y.field, .int .u64 y.bits, .int .i64 y.len, .str y.text, .int .i64 y.code, .int .i64 y.at_]) cs ∧ okEv y := by
  match cs, hl with
  | [c0, c1, c2, c3, c4, c5, c6], _ =>
    obtain ⟨xs, n, _, rfl, _, hxl, hf⟩ := DataW.trod_struct Tryz.underlying65 h
    match xs, hxl with
    | [y0, y1, y2, y3, y4, y5, y6], _ =>
      have f0 : DataW.trod tok Tryz.prog w 0 sp held n 3 [c0] = some y0 := by simpa [cof_int] using hf 0 _ rfl
      obtain ⟨i0, e0, _, w0⟩ := DataW.trod_int Tryz.underlying3 f0
      simp only [List.cons.injEq, and_true] at e0
      subst e0
      have f1 : DataW.trod tok Tryz.prog w 0 sp held n 3 [c1] = some y1 := by simpa [cof_int] using hf 1 _ rfl
      obtain ⟨i1, e1, _, w1⟩ := DataW.trod_int Tryz.underlying3 f1
      simp only [List.cons.injEq, and_true] at e1
      subst e1
      have f2 : DataW.trod tok Tryz.prog w 0 sp held n 57 [c2] = some y2 := by simpa [cof_uint64] using hf 2 _ rfl
      obtain ⟨i2, e2, _, w2⟩ := DataW.trod_int Tryz.underlying57 f2
      simp only [List.cons.injEq, and_true] at e2
      subst e2
      have f3 : DataW.trod tok Tryz.prog w 0 sp held n 3 [c3] = some y3 := by simpa [cof_int] using hf 3 _ rfl
      obtain ⟨i3, e3, _, w3⟩ := DataW.trod_int Tryz.underlying3 f3
      simp only [List.cons.injEq, and_true] at e3
      subst e3
      have f4 : DataW.trod tok Tryz.prog w 0 sp held n 9 [c4] = some y4 := by simpa [cof_string] using hf 4 _ rfl
      obtain ⟨i4, e4, _, w4⟩ := DataW.trod_string Tryz.underlying9 f4
      simp only [List.cons.injEq, and_true] at e4
      subst e4
      have f5 : DataW.trod tok Tryz.prog w 0 sp held n 3 [c5] = some y5 := by simpa [cof_int] using hf 5 _ rfl
      obtain ⟨i5, e5, _, w5⟩ := DataW.trod_int Tryz.underlying3 f5
      simp only [List.cons.injEq, and_true] at e5
      subst e5
      have f6 : DataW.trod tok Tryz.prog w 0 sp held n 3 [c6] = some y6 := by simpa [cof_int] using hf 6 _ rfl
      obtain ⟨i6, e6, _, w6⟩ := DataW.trod_int Tryz.underlying3 f6
      simp only [List.cons.injEq, and_true] at e6
      subst e6
      exact ⟨⟨i0, i1, i2, i3, i4.data.toList, i5, i6⟩, .cons (rep0_C (show Rep0 (.int .i64 i0) _ from rfl)) (.cons (rep0_C (show Rep0 (.int .i64 i1) _ from rfl)) (.cons (rep0_C (show Rep0 (.int .u64 i2) _ from rfl)) (.cons (rep0_C (show Rep0 (.int .i64 i3) _ from rfl)) (.cons (rep0_C (show Rep0 (.str i4.data.toList) _ from str_rep)) (.cons (rep0_C (show Rep0 (.int .i64 i5) _ from rfl)) (.cons (rep0_C (show Rep0 (.int .i64 i6) _ from rfl)) .nil)))))), ⟨bounds_i64 w0, bounds_i64 w1, bounds_u64 w2, bounds_i64 w3, str_le w4, bounds_i64 w5, bounds_i64 w6⟩⟩
theorem cof_laws_Event : Tryz.prog.cellsOf 65 = 7 := by kernel_rfl
def okDcd (y : Dcd) : Prop := okPln y.plan ∧ I64 y.mode ∧ (Le63 y.stack.length ∧ ∀ e ∈ y.stack, okLev e) ∧ okScn y.scan ∧ I64 y.start ∧ I64 y.at_ ∧ okFld y.field ∧ I64 y.wire ∧ I64 y.want ∧ okUtf y.utf ∧ okEv y.end_
theorem cof_laws_Level : Tryz.prog.cellsOf 158 = 2 := by kernel_rfl
theorem o_Dcd {H : Type} {tok : TypeId × Value → H} {w : World} {sp : Nat → Bool} {held : Bool} {fuel : Nat} {cs : List Value} {x : DataW H × List MemPlace} (hl : cs.length = 27) (h : DataW.trod tok Tryz.prog w 0 sp held fuel 67 cs = some x) : ∃ y : Dcd, All2 (RepC [] P0 w (RR w)) ([.seq .shp y.plan.shapes, .int .i64 y.plan.root, .int .i64 y.plan.deep, .int .i64 y.plan.most, .int .i64 y.mode, .seq .lev y.stack, .int .u64 y.scan.bits, .int .i64 y.scan.have_, .int .i64 y.start, .int .i64 y.at_, .int .i64 y.field.number, .int .i64 y.field.kind, .bool y.field.rep, .bool y.field.packed, .int .i64 y.field.msg, .int .i64 y.wire, .int .i64 y.want, .int .i64 y.utf.want, .int .i64 y.utf.low, .int .i64 y.utf.high, .int .i64 y.end_.kind, .int .i64 y.end_.field, .int .u64 y.end_.bits, .int .i64 y.end_.len, .str y.end_.text, .int .i64 y.end_.code, .int .i64 y.end_.at_]) cs ∧ okDcd y := by
  match cs, hl with
  | [c0, c1, c2, c3, c4, c5, c6, c7, c8, c9, c10, c11, c12, c13, c14, c15, c16, c17, c18, c19, c20, c21, c22, c23, c24, c25, c26], _ =>
    obtain ⟨xs, n, _, rfl, _, hxl, hf⟩ := DataW.trod_struct Tryz.underlying67 h
    match xs, hxl with
    | [y0, y1, y2, y3, y4, y5, y6, y7, y8, y9, y10], _ =>
      have f0 : DataW.trod tok Tryz.prog w 0 sp held n 26 [c0, c1, c2, c3] = some y0 := by simpa [cof_laws_Plan] using hf 0 _ rfl
      obtain ⟨i0, s0, k0⟩ := o_Pln rfl f0
      obtain ⟨a0_0, t0_0⟩ := s0.inv
      obtain ⟨a0_1, t0_1⟩ := t0_0.inv
      obtain ⟨a0_2, t0_2⟩ := t0_1.inv
      obtain ⟨a0_3, t0_3⟩ := t0_2.inv
      have f1 : DataW.trod tok Tryz.prog w 0 sp held n 3 [c4] = some y1 := by simpa [cof_int] using hf 1 _ rfl
      obtain ⟨i1, e1, _, w1⟩ := DataW.trod_int Tryz.underlying3 f1
      simp only [List.cons.injEq, and_true] at e1
      subst e1
      have f2 : DataW.trod tok Tryz.prog w 0 sp held n 56 [c5] = some y2 := by simpa [cof___laws_Level] using hf 2 _ rfl
      obtain ⟨i2, s2, l2, k2⟩ := open_sq (cr := (Rep1 w (RR w))) (t := .lev) (Q := fun e => okLev e) Tryz.underlying56 cof_laws_Level (by decide) (fun fuel cs x hl h => by obtain ⟨y, h1, h2⟩ := e_lev fuel cs x hl h; exact ⟨y, all_rep0_1 h1, h2⟩) f2
      have f3 : DataW.trod tok Tryz.prog w 0 sp held n 59 [c6, c7] = some y3 := by simpa [cof_laws_Scan] using hf 3 _ rfl
      obtain ⟨i3, s3, k3⟩ := o_Scn rfl f3
      obtain ⟨a3_0, t3_0⟩ := s3.inv
      obtain ⟨a3_1, t3_1⟩ := t3_0.inv
      have f4 : DataW.trod tok Tryz.prog w 0 sp held n 3 [c8] = some y4 := by simpa [cof_int] using hf 4 _ rfl
      obtain ⟨i4, e4, _, w4⟩ := DataW.trod_int Tryz.underlying3 f4
      simp only [List.cons.injEq, and_true] at e4
      subst e4
      have f5 : DataW.trod tok Tryz.prog w 0 sp held n 3 [c9] = some y5 := by simpa [cof_int] using hf 5 _ rfl
      obtain ⟨i5, e5, _, w5⟩ := DataW.trod_int Tryz.underlying3 f5
      simp only [List.cons.injEq, and_true] at e5
      subst e5
      have f6 : DataW.trod tok Tryz.prog w 0 sp held n 61 [c10, c11, c12, c13, c14] = some y6 := by simpa [cof_laws_Field] using hf 6 _ rfl
      obtain ⟨i6, s6, k6⟩ := o_Fld rfl f6
      obtain ⟨a6_0, t6_0⟩ := s6.inv
      obtain ⟨a6_1, t6_1⟩ := t6_0.inv
      obtain ⟨a6_2, t6_2⟩ := t6_1.inv
      obtain ⟨a6_3, t6_3⟩ := t6_2.inv
      obtain ⟨a6_4, t6_4⟩ := t6_3.inv
      have f7 : DataW.trod tok Tryz.prog w 0 sp held n 3 [c15] = some y7 := by simpa [cof_int] using hf 7 _ rfl
      obtain ⟨i7, e7, _, w7⟩ := DataW.trod_int Tryz.underlying3 f7
      simp only [List.cons.injEq, and_true] at e7
      subst e7
      have f8 : DataW.trod tok Tryz.prog w 0 sp held n 3 [c16] = some y8 := by simpa [cof_int] using hf 8 _ rfl
      obtain ⟨i8, e8, _, w8⟩ := DataW.trod_int Tryz.underlying3 f8
      simp only [List.cons.injEq, and_true] at e8
      subst e8
      have f9 : DataW.trod tok Tryz.prog w 0 sp held n 63 [c17, c18, c19] = some y9 := by simpa [cof_laws_Utf] using hf 9 _ rfl
      obtain ⟨i9, s9, k9⟩ := o_Utf rfl f9
      obtain ⟨a9_0, t9_0⟩ := s9.inv
      obtain ⟨a9_1, t9_1⟩ := t9_0.inv
      obtain ⟨a9_2, t9_2⟩ := t9_1.inv
      have f10 : DataW.trod tok Tryz.prog w 0 sp held n 65 [c20, c21, c22, c23, c24, c25, c26] = some y10 := by simpa [cof_laws_Event] using hf 10 _ rfl
      obtain ⟨i10, s10, k10⟩ := o_Ev rfl f10
      obtain ⟨a10_0, t10_0⟩ := s10.inv
      obtain ⟨a10_1, t10_1⟩ := t10_0.inv
      obtain ⟨a10_2, t10_2⟩ := t10_1.inv
      obtain ⟨a10_3, t10_3⟩ := t10_2.inv
      obtain ⟨a10_4, t10_4⟩ := t10_3.inv
      obtain ⟨a10_5, t10_5⟩ := t10_4.inv
      obtain ⟨a10_6, t10_6⟩ := t10_5.inv
      exact ⟨⟨i0, i1, i2, i3, i4, i5, i6, i7, i8, i9, i10⟩, .cons a0_0 (.cons a0_1 (.cons a0_2 (.cons a0_3 (.cons (rep0_C (show Rep0 (.int .i64 i1) _ from rfl)) (.cons s2 (.cons a3_0 (.cons a3_1 (.cons (rep0_C (show Rep0 (.int .i64 i4) _ from rfl)) (.cons (rep0_C (show Rep0 (.int .i64 i5) _ from rfl)) (.cons a6_0 (.cons a6_1 (.cons a6_2 (.cons a6_3 (.cons a6_4 (.cons (rep0_C (show Rep0 (.int .i64 i7) _ from rfl)) (.cons (rep0_C (show Rep0 (.int .i64 i8) _ from rfl)) (.cons a9_0 (.cons a9_1 (.cons a9_2 (.cons a10_0 (.cons a10_1 (.cons a10_2 (.cons a10_3 (.cons a10_4 (.cons a10_5 (.cons a10_6 .nil)))))))))))))))))))))))))), ⟨k0, bounds_i64 w1, ⟨l2, k2⟩, k3, bounds_i64 w4, bounds_i64 w5, k6, bounds_i64 w7, bounds_i64 w8, k9, k10⟩⟩
theorem cof_laws_Dec : Tryz.prog.cellsOf 67 = 27 := by kernel_rfl
theorem e_str {H : Type} {tok : TypeId × Value → H} {w : World} {sp : Nat → Bool} {held : Bool} (fuel : Nat) (cs : List Value) (x : DataW H × List MemPlace) (hl : cs.length = 1) (h : DataW.trod tok Tryz.prog w 0 sp held fuel 9 cs = some x) : ∃ y : List UInt8, All2 Rep0 (enc .str y) cs ∧ Le63 y.length := by
  obtain ⟨i, rfl, _, hw⟩ := DataW.trod_string Tryz.underlying9 h
  exact ⟨i.data.toList, .cons str_rep .nil, str_le hw⟩
end Go.Proofs.YtecljjcmjongfaaGreat.Ax
