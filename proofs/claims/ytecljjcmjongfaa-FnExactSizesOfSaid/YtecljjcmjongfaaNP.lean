/- Opening what the laws are handed. -/
import Derived.Test.YtecljjcmjongfaaM1
import Derived.Test.YtecljjcmjongfaaAxO
namespace Go.Proofs.Ytecljjcmjongfaa.Ax
open Go.ChangeShapes Go.WideShapes Go.ChangeAt Go.RowKit
theorem cof___laws_Shape : Try.prog.cellsOf 22 = 1 := by kernel_rfl
theorem cof_int : Try.prog.cellsOf 3 = 1 := by kernel_rfl
theorem cof_bool : Try.prog.cellsOf 4 = 1 := by kernel_rfl
def okFld (y : Fld) : Prop := I64 y.number ∧ I64 y.kind ∧ True ∧ True ∧ I64 y.msg
theorem e_fld {H : Type} {tok : TypeId × Value → H} {w : World} {sp : Nat → Bool} {held : Bool} (fuel : Nat) (cs : List Value) (x : DataW H × List MemPlace) (hl : cs.length = 5) (h : DataW.trod tok Try.prog w 0 sp held fuel 209 cs = some x) : ∃ y : Fld, All2 Rep0 (enc .fld y) cs ∧ okFld y := by
  match cs, hl with
  | [c0, c1, c2, c3, c4], _ =>
    obtain ⟨xs, n, _, rfl, _, hxl, hf⟩ := DataW.trod_struct Try.underlying209 h
    match xs, hxl with
    | [y0, y1, y2, y3, y4], _ =>
      have f0 : DataW.trod tok Try.prog w 0 sp held n 3 [c0] = some y0 := by simpa [cof_int] using hf 0 _ rfl
      obtain ⟨i0, e0, _, w0⟩ := DataW.trod_int Try.underlying3 f0
      simp only [List.cons.injEq, and_true] at e0
      subst e0
      have f1 : DataW.trod tok Try.prog w 0 sp held n 3 [c1] = some y1 := by simpa [cof_int] using hf 1 _ rfl
      obtain ⟨i1, e1, _, w1⟩ := DataW.trod_int Try.underlying3 f1
      simp only [List.cons.injEq, and_true] at e1
      subst e1
      have f2 : DataW.trod tok Try.prog w 0 sp held n 4 [c2] = some y2 := by simpa [cof_bool] using hf 2 _ rfl
      obtain ⟨i2, e2⟩ := bool_trod Try.underlying4 f2
      simp only [List.cons.injEq, and_true] at e2
      subst e2
      have f3 : DataW.trod tok Try.prog w 0 sp held n 4 [c3] = some y3 := by simpa [cof_bool] using hf 3 _ rfl
      obtain ⟨i3, e3⟩ := bool_trod Try.underlying4 f3
      simp only [List.cons.injEq, and_true] at e3
      subst e3
      have f4 : DataW.trod tok Try.prog w 0 sp held n 3 [c4] = some y4 := by simpa [cof_int] using hf 4 _ rfl
      obtain ⟨i4, e4, _, w4⟩ := DataW.trod_int Try.underlying3 f4
      simp only [List.cons.injEq, and_true] at e4
      subst e4
      exact ⟨⟨i0, i1, i2, i3, i4⟩, .cons (show Rep0 (.int .i64 i0) _ from rfl) (.cons (show Rep0 (.int .i64 i1) _ from rfl) (.cons (show Rep0 (.bool i2) _ from rfl) (.cons (show Rep0 (.bool i3) _ from rfl) (.cons (show Rep0 (.int .i64 i4) _ from rfl) .nil)))), ⟨bounds_i64 w0, bounds_i64 w1, trivial, trivial, bounds_i64 w4⟩⟩
theorem cof___laws_Field : Try.prog.cellsOf 164 = 1 := by kernel_rfl
def okShp (y : Shp) : Prop := I64 y.id ∧ (Le63 y.fields.length ∧ ∀ e ∈ y.fields, okFld e)
theorem cof_laws_Field : Try.prog.cellsOf 209 = 5 := by kernel_rfl
theorem e_shp {H : Type} {tok : TypeId × Value → H} {w : World} {sp : Nat → Bool} {held : Bool} (fuel : Nat) (cs : List Value) (x : DataW H × List MemPlace) (hl : cs.length = 2) (h : DataW.trod tok Try.prog w 0 sp held fuel 166 cs = some x) : ∃ y : Shp, All2 (Rep1 w (RR w)) (enc .shp y) cs ∧ okShp y := by
  match cs, hl with
  | [c0, c1], _ =>
    obtain ⟨xs, n, _, rfl, _, hxl, hf⟩ := DataW.trod_struct Try.underlying166 h
    match xs, hxl with
    | [y0, y1], _ =>
      have f0 : DataW.trod tok Try.prog w 0 sp held n 3 [c0] = some y0 := by simpa [cof_int] using hf 0 _ rfl
      obtain ⟨i0, e0, _, w0⟩ := DataW.trod_int Try.underlying3 f0
      simp only [List.cons.injEq, and_true] at e0
      subst e0
      have f1 : DataW.trod tok Try.prog w 0 sp held n 164 [c1] = some y1 := by simpa [cof___laws_Field] using hf 1 _ rfl
      obtain ⟨i1, s1, l1, k1⟩ := open_sq (cr := Rep0) (t := .fld) (Q := fun e => okFld e) Try.underlying164 cof_laws_Field (by decide) e_fld f1
      exact ⟨⟨i0, i1⟩, .cons (rep0_1 (show Rep0 (.int .i64 i0) _ from rfl)) (.cons s1 .nil), ⟨bounds_i64 w0, ⟨l1, k1⟩⟩⟩
theorem cof_laws_Schema : Try.prog.cellsOf 24 = 1 := by kernel_rfl
def okPln (y : Pln) : Prop := (Le63 y.shapes.length ∧ ∀ e ∈ y.shapes, okShp e) ∧ I64 y.root ∧ I64 y.deep ∧ I64 y.most
theorem cof_laws_Shape : Try.prog.cellsOf 166 = 2 := by kernel_rfl
theorem o_Pln {H : Type} {tok : TypeId × Value → H} {w : World} {sp : Nat → Bool} {held : Bool} {fuel : Nat} {cs : List Value} {x : DataW H × List MemPlace} (hl : cs.length = 4) (h : DataW.trod tok Try.prog w 0 sp held fuel 26 cs = some x) : ∃ y : Pln, All2 (RepC [] P0 w (RR w)) ([.seq .shp y.shapes, .int .i64 y.root, .int .i64 y.deep, .int .i64 y.most]) cs ∧ okPln y := by
  match cs, hl with
  | [c0, c1, c2, c3], _ =>
    obtain ⟨xs, n, _, rfl, _, hxl, hf⟩ := DataW.trod_struct Try.underlying26 h
    match xs, hxl with
    | [y0, y1, y2, y3], _ =>
      have f0 : DataW.trod tok Try.prog w 0 sp held n 24 [c0] = some y0 := by simpa [cof_laws_Schema] using hf 0 _ rfl
      obtain ⟨xs0, n0, _, rfl, _, hxl0, hf0⟩ := DataW.trod_struct Try.underlying24 f0
      obtain ⟨z0, rfl⟩ := List.length_eq_one_iff.1 hxl0
      have g0 : DataW.trod tok Try.prog w 0 sp held n0 22 [c0] = some z0 := by simpa [cof___laws_Shape] using hf0 0 _ rfl
      obtain ⟨i0, s0, l0, k0⟩ := open_sq (cr := (Rep1 w (RR w))) (t := .shp) (Q := fun e => okShp e) Try.underlying22 cof_laws_Shape (by decide) e_shp g0
      have f1 : DataW.trod tok Try.prog w 0 sp held n 3 [c1] = some y1 := by simpa [cof_int] using hf 1 _ rfl
      obtain ⟨i1, e1, _, w1⟩ := DataW.trod_int Try.underlying3 f1
      simp only [List.cons.injEq, and_true] at e1
      subst e1
      have f2 : DataW.trod tok Try.prog w 0 sp held n 3 [c2] = some y2 := by simpa [cof_int] using hf 2 _ rfl
      obtain ⟨i2, e2, _, w2⟩ := DataW.trod_int Try.underlying3 f2
      simp only [List.cons.injEq, and_true] at e2
      subst e2
      have f3 : DataW.trod tok Try.prog w 0 sp held n 3 [c3] = some y3 := by simpa [cof_int] using hf 3 _ rfl
      obtain ⟨i3, e3, _, w3⟩ := DataW.trod_int Try.underlying3 f3
      simp only [List.cons.injEq, and_true] at e3
      subst e3
      exact ⟨⟨i0, i1, i2, i3⟩, .cons s0 (.cons (rep0_C (show Rep0 (.int .i64 i1) _ from rfl)) (.cons (rep0_C (show Rep0 (.int .i64 i2) _ from rfl)) (.cons (rep0_C (show Rep0 (.int .i64 i3) _ from rfl)) .nil))), ⟨⟨l0, k0⟩, bounds_i64 w1, bounds_i64 w2, bounds_i64 w3⟩⟩
theorem cof_laws_Plan : Try.prog.cellsOf 26 = 4 := by kernel_rfl
theorem cof_uint64 : Try.prog.cellsOf 45 = 1 := by kernel_rfl
theorem cof_string : Try.prog.cellsOf 9 = 1 := by kernel_rfl
def okEv (y : Ev) : Prop := I64 y.kind ∧ I64 y.field ∧ U64 y.bits ∧ I64 y.len ∧ Le63 y.text.length ∧ I64 y.code ∧ I64 y.at_
theorem e_ev {H : Type} {tok : TypeId × Value → H} {w : World} {sp : Nat → Bool} {held : Bool} (fuel : Nat) (cs : List Value) (x : DataW H × List MemPlace) (hl : cs.length = 7) (h : DataW.trod tok Try.prog w 0 sp held fuel 98 cs = some x) : ∃ y : Ev, All2 Rep0 (enc .ev y) cs ∧ okEv y := by
  match cs, hl with
  | [c0, c1, c2, c3, c4, c5, c6], _ =>
    obtain ⟨xs, n, _, rfl, _, hxl, hf⟩ := DataW.trod_struct Try.underlying98 h
    match xs, hxl with
    | [y0, y1, y2, y3, y4, y5, y6], _ =>
      have f0 : DataW.trod tok Try.prog w 0 sp held n 3 [c0] = some y0 := by simpa [cof_int] using hf 0 _ rfl
      obtain ⟨i0, e0, _, w0⟩ := DataW.trod_int Try.underlying3 f0
      simp only [List.cons.injEq, and_true] at e0
      subst e0
      have f1 : DataW.trod tok Try.prog w 0 sp held n 3 [c1] = some y1 := by simpa [cof_int] using hf 1 _ rfl
      obtain ⟨i1, e1, _, w1⟩ := DataW.trod_int Try.underlying3 f1
      simp only [List.cons.injEq, and_true] at e1
      subst e1
      have f2 : DataW.trod tok Try.prog w 0 sp held n 45 [c2] = some y2 := by simpa [cof_uint64] using hf 2 _ rfl
      obtain ⟨i2, e2, _, w2⟩ := DataW.trod_int Try.underlying45 f2
      simp only [List.cons.injEq, and_true] at e2
      subst e2
      have f3 : DataW.trod tok Try.prog w 0 sp held n 3 [c3] = some y3 := by simpa [cof_int] using hf 3 _ rfl
      obtain ⟨i3, e3, _, w3⟩ := DataW.trod_int Try.underlying3 f3
      simp only [List.cons.injEq, and_true] at e3
      subst e3
      have f4 : DataW.trod tok Try.prog w 0 sp held n 9 [c4] = some y4 := by simpa [cof_string] using hf 4 _ rfl
      obtain ⟨i4, e4, _, w4⟩ := DataW.trod_string Try.underlying9 f4
      simp only [List.cons.injEq, and_true] at e4
      subst e4
      have f5 : DataW.trod tok Try.prog w 0 sp held n 3 [c5] = some y5 := by simpa [cof_int] using hf 5 _ rfl
      obtain ⟨i5, e5, _, w5⟩ := DataW.trod_int Try.underlying3 f5
      simp only [List.cons.injEq, and_true] at e5
      subst e5
      have f6 : DataW.trod tok Try.prog w 0 sp held n 3 [c6] = some y6 := by simpa [cof_int] using hf 6 _ rfl
      obtain ⟨i6, e6, _, w6⟩ := DataW.trod_int Try.underlying3 f6
      simp only [List.cons.injEq, and_true] at e6
      subst e6
      exact ⟨⟨i0, i1, i2, i3, i4.data.toList, i5, i6⟩, .cons (show Rep0 (.int .i64 i0) _ from rfl) (.cons (show Rep0 (.int .i64 i1) _ from rfl) (.cons (show Rep0 (.int .u64 i2) _ from rfl) (.cons (show Rep0 (.int .i64 i3) _ from rfl) (.cons (show Rep0 (.str i4.data.toList) _ from str_rep) (.cons (show Rep0 (.int .i64 i5) _ from rfl) (.cons (show Rep0 (.int .i64 i6) _ from rfl) .nil)))))), ⟨bounds_i64 w0, bounds_i64 w1, bounds_u64 w2, bounds_i64 w3, str_le w4, bounds_i64 w5, bounds_i64 w6⟩⟩
theorem cof_laws_Event : Try.prog.cellsOf 98 = 7 := by kernel_rfl
end Go.Proofs.Ytecljjcmjongfaa.Ax
