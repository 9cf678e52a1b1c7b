/- Opening what the laws are handed. -/
import Derived.Test.YthmhekbmhpljcaaGreatNP
import Derived.Test.YthmhekbmhpljcaaGreatSF
namespace Go.Proofs.YthmhekbmhpljcaaGreat.Ax
open Go.ChangeShapes Go.WideShapes Go.ChangeAt Go.RowKit
def okRd (y : Rd) : Prop := I64 y.n ∧ I64 y.code
theorem e_rd {H : Type} {tok : TypeId × Value → H} {w : World} {sp : Nat → Bool} {held : Bool} (fuel : Nat) (cs : List Value) (x : DataW H × List MemPlace) (hl : cs.length = 2) (h : DataW.trod tok Tryz.prog w 0 sp held fuel 161 cs = some x) : ∃ y : Rd, All2 Rep0 (enc .rd y) cs ∧ okRd y := by
  match cs, hl with
  | [c0, c1], _ =>
    obtain ⟨xs, n, _, rfl, _, hxl, hf⟩ := DataW.trod_struct Tryz.underlying161 h
    match xs, hxl with
    | [y0, y1], _ =>
      have f0 : DataW.trod tok Tryz.prog w 0 sp held n 3 [c0] = some y0 := by simpa [cof_int] using hf 0 _ rfl
      obtain ⟨i0, e0, _, w0⟩ := DataW.trod_int Tryz.underlying3 f0
      simp only [List.cons.injEq, and_true] at e0
      subst e0
      have f1 : DataW.trod tok Tryz.prog w 0 sp held n 3 [c1] = some y1 := by simpa [cof_int] using hf 1 _ rfl
      obtain ⟨i1, e1, _, w1⟩ := DataW.trod_int Tryz.underlying3 f1
      simp only [List.cons.injEq, and_true] at e1
      subst e1
      exact ⟨⟨i0, i1⟩, .cons (show Rep0 (.int .i64 i0) _ from rfl) (.cons (show Rep0 (.int .i64 i1) _ from rfl) .nil), ⟨bounds_i64 w0, bounds_i64 w1⟩⟩
theorem cof___laws_Read : Tryz.prog.cellsOf 22 = 1 := by kernel_rfl
def okRdr (y : Rdr) : Prop := Le63 y.data.length ∧ I64 y.at_ ∧ (Le63 y.script.length ∧ ∀ e ∈ y.script, okRd e) ∧ I64 y.next ∧ I64 y.code
theorem cof_laws_Read : Tryz.prog.cellsOf 161 = 2 := by kernel_rfl
theorem o_Rdr {H : Type} {tok : TypeId × Value → H} {w : World} {sp : Nat → Bool} {held : Bool} {fuel : Nat} {cs : List Value} {x : DataW H × List MemPlace} (hl : cs.length = 5) (h : DataW.trod tok Tryz.prog w 0 sp held fuel 24 cs = some x) : ∃ y : Rdr, All2 (RepC [] P0 w (RR w)) ([.str y.data, .int .i64 y.at_, .seq .rd y.script, .int .i64 y.next, .int .i64 y.code]) cs ∧ okRdr y := by
  match cs, hl with
  | [c0, c1, c2, c3, c4], _ =>
    obtain ⟨xs, n, _, rfl, _, hxl, hf⟩ := DataW.trod_struct Tryz.underlying24 h
    match xs, hxl with
    | [y0, y1, y2, y3, y4], _ =>
      have f0 : DataW.trod tok Tryz.prog w 0 sp held n 9 [c0] = some y0 := by simpa [cof_string] using hf 0 _ rfl
      obtain ⟨i0, e0, _, w0⟩ := DataW.trod_string Tryz.underlying9 f0
      simp only [List.cons.injEq, and_true] at e0
      subst e0
      have f1 : DataW.trod tok Tryz.prog w 0 sp held n 3 [c1] = some y1 := by simpa [cof_int] using hf 1 _ rfl
      obtain ⟨i1, e1, _, w1⟩ := DataW.trod_int Tryz.underlying3 f1
      simp only [List.cons.injEq, and_true] at e1
      subst e1
      have f2 : DataW.trod tok Tryz.prog w 0 sp held n 22 [c2] = some y2 := by simpa [cof___laws_Read] using hf 2 _ rfl
      obtain ⟨i2, s2, l2, k2⟩ := open_sq (cr := (Rep1 w (RR w))) (t := .rd) (Q := fun e => okRd e) Tryz.underlying22 cof_laws_Read (by decide) (fun fuel cs x hl h => by obtain ⟨y, h1, h2⟩ := e_rd fuel cs x hl h; exact ⟨y, all_rep0_1 h1, h2⟩) f2
      have f3 : DataW.trod tok Tryz.prog w 0 sp held n 3 [c3] = some y3 := by simpa [cof_int] using hf 3 _ rfl
      obtain ⟨i3, e3, _, w3⟩ := DataW.trod_int Tryz.underlying3 f3
      simp only [List.cons.injEq, and_true] at e3
      subst e3
      have f4 : DataW.trod tok Tryz.prog w 0 sp held n 3 [c4] = some y4 := by simpa [cof_int] using hf 4 _ rfl
      obtain ⟨i4, e4, _, w4⟩ := DataW.trod_int Tryz.underlying3 f4
      simp only [List.cons.injEq, and_true] at e4
      subst e4
      exact ⟨⟨i0.data.toList, i1, i2, i3, i4⟩, .cons (rep0_C (show Rep0 (.str i0.data.toList) _ from str_rep)) (.cons (rep0_C (show Rep0 (.int .i64 i1) _ from rfl)) (.cons s2 (.cons (rep0_C (show Rep0 (.int .i64 i3) _ from rfl)) (.cons (rep0_C (show Rep0 (.int .i64 i4) _ from rfl)) .nil)))), ⟨str_le w0, bounds_i64 w1, ⟨l2, k2⟩, bounds_i64 w3, bounds_i64 w4⟩⟩
theorem cof_laws_Reader : Tryz.prog.cellsOf 24 = 5 := by kernel_rfl
def okLev (y : Lev) : Prop := I64 y.msg ∧ I64 y.left
theorem e_lev {H : Type} {tok : TypeId × Value → H} {w : World} {sp : Nat → Bool} {held : Bool} (fuel : Nat) (cs : List Value) (x : DataW H × List MemPlace) (hl : cs.length = 2) (h : DataW.trod tok Tryz.prog w 0 sp held fuel 163 cs = some x) : ∃ y : Lev, All2 Rep0 (enc .lev y) cs ∧ okLev y := by
  match cs, hl with
  | [c0, c1], _ =>
    obtain ⟨xs, n, _, rfl, _, hxl, hf⟩ := DataW.trod_struct Tryz.underlying163 h
    match xs, hxl with
    | [y0, y1], _ =>
      have f0 : DataW.trod tok Tryz.prog w 0 sp held n 3 [c0] = some y0 := by simpa [cof_int] using hf 0 _ rfl
      obtain ⟨i0, e0, _, w0⟩ := DataW.trod_int Tryz.underlying3 f0
      simp only [List.cons.injEq, and_true] at e0
      subst e0
      have f1 : DataW.trod tok Tryz.prog w 0 sp held n 3 [c1] = some y1 := by simpa [cof_int] using hf 1 _ rfl
      obtain ⟨i1, e1, _, w1⟩ := DataW.trod_int Tryz.underlying3 f1
      simp only [List.cons.injEq, and_true] at e1
      subst e1
      exact ⟨⟨i0, i1⟩, .cons (show Rep0 (.int .i64 i0) _ from rfl) (.cons (show Rep0 (.int .i64 i1) _ from rfl) .nil), ⟨bounds_i64 w0, bounds_i64 w1⟩⟩
theorem cof___laws_Level : Tryz.prog.cellsOf 30 = 1 := by kernel_rfl
def okScn (y : Scn) : Prop := U64 y.bits ∧ I64 y.have_
theorem o_Scn {H : Type} {tok : TypeId × Value → H} {w : World} {sp : Nat → Bool} {held : Bool} {fuel : Nat} {cs : List Value} {x : DataW H × List MemPlace} (hl : cs.length = 2) (h : DataW.trod tok Tryz.prog w 0 sp held fuel 33 cs = some x) : ∃ y : Scn, All2 (RepC [] P0 w (RR w)) ([.int .u64 y.bits, .int .i64 y.have_]) cs ∧ okScn y := by
  match cs, hl with
  | [c0, c1], _ =>
    obtain ⟨xs, n, _, rfl, _, hxl, hf⟩ := DataW.trod_struct Tryz.underlying33 h
    match xs, hxl with
    | [y0, y1], _ =>
      have f0 : DataW.trod tok Tryz.prog w 0 sp held n 31 [c0] = some y0 := by simpa [cof_uint64] using hf 0 _ rfl
      obtain ⟨i0, e0, _, w0⟩ := DataW.trod_int Tryz.underlying31 f0
      simp only [List.cons.injEq, and_true] at e0
      subst e0
      have f1 : DataW.trod tok Tryz.prog w 0 sp held n 3 [c1] = some y1 := by simpa [cof_int] using hf 1 _ rfl
      obtain ⟨i1, e1, _, w1⟩ := DataW.trod_int Tryz.underlying3 f1
      simp only [List.cons.injEq, and_true] at e1
      subst e1
      exact ⟨⟨i0, i1⟩, .cons (rep0_C (show Rep0 (.int .u64 i0) _ from rfl)) (.cons (rep0_C (show Rep0 (.int .i64 i1) _ from rfl)) .nil), ⟨bounds_u64 w0, bounds_i64 w1⟩⟩
theorem cof_laws_Scan : Tryz.prog.cellsOf 33 = 2 := by kernel_rfl
theorem o_Fld {H : Type} {tok : TypeId × Value → H} {w : World} {sp : Nat → Bool} {held : Bool} {fuel : Nat} {cs : List Value} {x : DataW H × List MemPlace} (hl : cs.length = 5) (h : DataW.trod tok Tryz.prog w 0 sp held fuel 35 cs = some x) : ∃ y : Fld, All2 (RepC [] P0 w (RR w)) ([.int .i64 y.number, .int .i64 y.kind, .bool y.rep, .bool y.packed, .int .i64 y.msg]) cs ∧ okFld y := by
  match cs, hl with
  | [c0, c1, c2, c3, c4], _ =>
    obtain ⟨xs, n, _, rfl, _, hxl, hf⟩ := DataW.trod_struct Tryz.underlying35 h
    match xs, hxl with
    | [y0, y1, y2, y3, y4], _ =>
      have f0 : DataW.trod tok Tryz.prog w 0 sp held n 3 [c0] = some y0 := by simpa [cof_int] using hf 0 _ rfl
      obtain ⟨i0, e0, _, w0⟩ := DataW.trod_int Tryz.underlying3 f0
      simp only [List.cons.injEq, and_true] at e0
      subst e0
      have f1 : DataW.trod tok Tryz.prog w 0 sp held n 3 [c1] = some y1 := by simpa [cof_int] using hf 1 _ rfl
      obtain ⟨i1, e1, _, w1⟩ := DataW.trod_int Tryz.underlying3 f1
      simp only [List.cons.injEq, and_true] at e1
      subst e1
      have f2 : DataW.trod tok Tryz.prog w 0 sp held n 4 [c2] = some y2 := by simpa [cof_bool] using hf 2 _ rfl
      obtain ⟨i2, e2⟩ := bool_trod Tryz.underlying4 f2
      simp only [List.cons.injEq, and_true] at e2
      subst e2
      have f3 : DataW.trod tok Tryz.prog w 0 sp held n 4 [c3] = some y3 := by simpa [cof_bool] using hf 3 _ rfl
      obtain ⟨i3, e3⟩ := bool_trod Tryz.underlying4 f3
      simp only [List.cons.injEq, and_true] at e3
      subst e3
      have f4 : DataW.trod tok Tryz.prog w 0 sp held n 3 [c4] = some y4 := by simpa [cof_int] using hf 4 _ rfl
      obtain ⟨i4, e4, _, w4⟩ := DataW.trod_int Tryz.underlying3 f4
      simp only [List.cons.injEq, and_true] at e4
      subst e4
      exact ⟨⟨i0, i1, i2, i3, i4⟩, .cons (rep0_C (show Rep0 (.int .i64 i0) _ from rfl)) (.cons (rep0_C (show Rep0 (.int .i64 i1) _ from rfl)) (.cons (rep0_C (show Rep0 (.bool i2) _ from rfl)) (.cons (rep0_C (show Rep0 (.bool i3) _ from rfl)) (.cons (rep0_C (show Rep0 (.int .i64 i4) _ from rfl)) .nil)))), ⟨bounds_i64 w0, bounds_i64 w1, trivial, trivial, bounds_i64 w4⟩⟩
def okUtf (y : Utf) : Prop := I64 y.want ∧ I64 y.low ∧ I64 y.high
theorem o_Utf {H : Type} {tok : TypeId × Value → H} {w : World} {sp : Nat → Bool} {held : Bool} {fuel : Nat} {cs : List Value} {x : DataW H × List MemPlace} (hl : cs.length = 3) (h : DataW.trod tok Tryz.prog w 0 sp held fuel 37 cs = some x) : ∃ y : Utf, All2 (RepC [] P0 w (RR w)) ([.int .i64 y.want, .int .i64 y.low, .int .i64 y.high]) cs ∧ okUtf y := by
  match cs, hl with
  | [c0, c1, c2], _ =>
    obtain ⟨xs, n, _, rfl, _, hxl, hf⟩ := DataW.trod_struct Tryz.underlying37 h
    match xs, hxl with
    | [y0, y1, y2], _ =>
      have f0 : DataW.trod tok Tryz.prog w 0 sp held n 3 [c0] = some y0 := by simpa [cof_int] using hf 0 _ rfl
      obtain ⟨i0, e0, _, w0⟩ := DataW.trod_int Tryz.underlying3 f0
      simp only [List.cons.injEq, and_true] at e0
      subst e0
      have f1 : DataW.trod tok Tryz.prog w 0 sp held n 3 [c1] = some y1 := by simpa [cof_int] using hf 1 _ rfl
      obtain ⟨i1, e1, _, w1⟩ := DataW.trod_int Tryz.underlying3 f1
      simp only [List.cons.injEq, and_true] at e1
      subst e1
      have f2 : DataW.trod tok Tryz.prog w 0 sp held n 3 [c2] = some y2 := by simpa [cof_int] using hf 2 _ rfl
      obtain ⟨i2, e2, _, w2⟩ := DataW.trod_int Tryz.underlying3 f2
      simp only [List.cons.injEq, and_true] at e2
      subst e2
      exact ⟨⟨i0, i1, i2⟩, .cons (rep0_C (show Rep0 (.int .i64 i0) _ from rfl)) (.cons (rep0_C (show Rep0 (.int .i64 i1) _ from rfl)) (.cons (rep0_C (show Rep0 (.int .i64 i2) _ from rfl)) .nil)), ⟨bounds_i64 w0, bounds_i64 w1, bounds_i64 w2⟩⟩
theorem cof_laws_Utf : Tryz.prog.cellsOf 37 = 3 := by kernel_rfl
theorem o_Ev {H : Type} {tok : TypeId × Value → H} {w : World} {sp : Nat → Bool} {held : Bool} {fuel : Nat} {cs : List Value} {x : DataW H × List MemPlace} (hl : cs.length = 7) (h : DataW.trod tok Tryz.prog w 0 sp held fuel 39 cs = some x) : ∃ y : Ev, All2 (RepC [] P0 w (RR w)) ([.int .i64 y.kind, .int .i64 y.field, .int .u64 y.bits, .int .i64 y.len, .str y.text, .int .i64 y.code, .int .i64 y.at_]) cs ∧ okEv y := by
  match cs, hl with
  | [c0, c1, c2, c3, c4, c5, c6], _ =>
    obtain ⟨xs, n, _, rfl, _, hxl, hf⟩ := DataW.trod_struct Tryz.underlying39 h
    match xs, hxl with
    | [y0, y1, y2, y3, y4, y5, y6], _ =>
      have f0 : DataW.trod tok Tryz.prog w 0 sp held n 3 [c0] = some y0 := by simpa [cof_int] using hf 0 _ rfl
      obtain ⟨i0, e0, _, w0⟩ := DataW.trod_int Tryz.underlying3 f0
      simp only [List.cons.injEq, and_true] at e0
      subst e0
      have f1 : DataW.trod tok Tryz.prog w 0 sp held n 3 [c1] = some y1 := by simpa [cof_int] using hf 1 _ rfl
      obtain ⟨i1, e1, _, w1⟩ := DataW.trod_int Tryz.underlying3 f1
      simp only [List.cons.injEq, and_true] at e1
      subst e1
      have f2 : DataW.trod tok Tryz.prog w 0 sp held n 31 [c2] = some y2 := by simpa [cof_uint64] using hf 2 _ rfl
      obtain ⟨i2, e2, _, w2⟩ := DataW.trod_int Tryz.underlying31 f2
      simp only [List.cons.injEq, and_true] at e2
      subst e2
      have f3 : DataW.trod tok Tryz.prog w 0 sp held n 3 [c3] = some y3 := by simpa [cof_int] using hf 3 _ rfl
      obtain ⟨i3, e3, _, w3⟩ := DataW.trod_int Tryz.underlying3 f3
      simp only [List.cons.injEq, and_true] at e3
      subst e3
      have f4 : DataW.trod tok Tryz.prog w 0 sp held n 9 [c4] = some y4 := by simpa [cof_string] using hf 4 _ rfl
      obtain ⟨i4, e4, _, w4⟩ := DataW.trod_string Tryz.underlying9 f4
      simp only [List.cons.injEq, and_true] at e4
      subst e4
      have f5 : DataW.trod tok Tryz.prog w 0 sp held n 3 [c5] = some y5 := by simpa [cof_int] using hf 5 _ rfl
      obtain ⟨i5, e5, _, w5⟩ := DataW.trod_int Tryz.underlying3 f5
      simp only [List.cons.injEq, and_true] at e5
      subst e5
      have f6 : DataW.trod tok Tryz.prog w 0 sp held n 3 [c6] = some y6 := by simpa [cof_int] using hf 6 _ rfl
      obtain ⟨i6, e6, _, w6⟩ := DataW.trod_int Tryz.underlying3 f6
      simp only [List.cons.injEq, and_true] at e6
      subst e6
      exact ⟨⟨i0, i1, i2, i3, i4.data.toList, i5, i6⟩, .cons (rep0_C (show Rep0 (.int .i64 i0) _ from rfl)) (.cons (rep0_C (show Rep0 (.int .i64 i1) _ from rfl)) (.cons (rep0_C (show Rep0 (.int .u64 i2) _ from rfl)) (.cons (rep0_C (show Rep0 (.int .i64 i3) _ from rfl)) (.cons (rep0_C (show Rep0 (.str i4.data.toList) _ from str_rep)) (.cons (rep0_C (show Rep0 (.int .i64 i5) _ from rfl)) (.cons (rep0_C (show Rep0 (.int .i64 i6) _ from rfl)) .nil)))))), ⟨bounds_i64 w0, bounds_i64 w1, bounds_u64 w2, bounds_i64 w3, str_le w4, bounds_i64 w5, bounds_i64 w6⟩⟩
def okDcd (y : Dcd) : Prop := okPln y.plan ∧ I64 y.mode ∧ (Le63 y.stack.length ∧ ∀ e ∈ y.stack, okLev e) ∧ okScn y.scan ∧ I64 y.start ∧ I64 y.at_ ∧ okFld y.field ∧ I64 y.wire ∧ I64 y.want ∧ okUtf y.utf ∧ okEv y.end_
theorem cof_laws_Level : Tryz.prog.cellsOf 163 = 2 := by kernel_rfl
theorem o_Dcd {H : Type} {tok : TypeId × Value → H} {w : World} {sp : Nat → Bool} {held : Bool} {fuel : Nat} {cs : List Value} {x : DataW H × List MemPlace} (hl : cs.length = 27) (h : DataW.trod tok Tryz.prog w 0 sp held fuel 41 cs = some x) : ∃ y : Dcd, All2 (RepC [] P0 w (RR w)) ([.seq .shp y.plan.shapes, .int .i64 y.plan.root, .int .i64 y.plan.deep, .int .i64 y.plan.most, .int .i64 y.mode, .seq .lev y.stack, .int .u64 y.scan.bits, .int .i64 y.scan.have_, .int .i64 y.start, .int .i64 y.at_, .int .i64 y.field.number, .int .i64 y.field.kind, .bool y.field.rep, .bool y.field.packed, .int .i64 y.field.msg, .int .i64 y.wire, .int .i64 y.want, .int .i64 y.utf.want, .int .i64 y.utf.low, .int .i64 y.utf.high, .int .i64 y.end_.kind, .int .i64 y.end_.field, .int .u64 y.end_.bits, .int .i64 y.end_.len, .str y.end_.text, .int .i64 y.end_.code, .int .i64 y.end_.at_]) cs ∧ okDcd y := by
  match cs, hl with
  | [c0, c1, c2, c3, c4, c5, c6, c7, c8, c9, c10, c11, c12, c13, c14, c15, c16, c17, c18, c19, c20, c21, c22, c23, c24, c25, c26], _ =>
    obtain ⟨xs, n, _, rfl, _, hxl, hf⟩ := DataW.trod_struct Tryz.underlying41 h
    match xs, hxl with
    | [y0, y1, y2, y3, y4, y5, y6, y7, y8, y9, y10], _ =>
      have f0 : DataW.trod tok Tryz.prog w 0 sp held n 29 [c0, c1, c2, c3] = some y0 := by simpa [cof_laws_Plan] using hf 0 _ rfl
      obtain ⟨i0, s0, k0⟩ := o_Pln rfl f0
      obtain ⟨a0_0, t0_0⟩ := s0.inv
      obtain ⟨a0_1, t0_1⟩ := t0_0.inv
      obtain ⟨a0_2, t0_2⟩ := t0_1.inv
      obtain ⟨a0_3, t0_3⟩ := t0_2.inv
      have f1 : DataW.trod tok Tryz.prog w 0 sp held n 3 [c4] = some y1 := by simpa [cof_int] using hf 1 _ rfl
      obtain ⟨i1, e1, _, w1⟩ := DataW.trod_int Tryz.underlying3 f1
      simp only [List.cons.injEq, and_true] at e1
      subst e1
      have f2 : DataW.trod tok Tryz.prog w 0 sp held n 30 [c5] = some y2 := by simpa [cof___laws_Level] using hf 2 _ rfl
      obtain ⟨i2, s2, l2, k2⟩ := open_sq (cr := (Rep1 w (RR w))) (t := .lev) (Q := fun e => okLev e) Tryz.underlying30 cof_laws_Level (by decide) (fun fuel cs x hl h => by obtain ⟨y, h1, h2⟩ := e_lev fuel cs x hl h; exact ⟨y, all_rep0_1 h1, h2⟩) f2
      have f3 : DataW.trod tok Tryz.prog w 0 sp held n 33 [c6, c7] = some y3 := by simpa [cof_laws_Scan] using hf 3 _ rfl
      obtain ⟨i3, s3, k3⟩ := o_Scn rfl f3
      obtain ⟨a3_0, t3_0⟩ := s3.inv
      obtain ⟨a3_1, t3_1⟩ := t3_0.inv
      have f4 : DataW.trod tok Tryz.prog w 0 sp held n 3 [c8] = some y4 := by simpa [cof_int] using hf 4 _ rfl
      obtain ⟨i4, e4, _, w4⟩ := DataW.trod_int Tryz.underlying3 f4
      simp only [List.cons.injEq, and_true] at e4
      subst e4
      have f5 : DataW.trod tok Tryz.prog w 0 sp held n 3 [c9] = some y5 := by simpa [cof_int] using hf 5 _ rfl
      obtain ⟨i5, e5, _, w5⟩ := DataW.trod_int Tryz.underlying3 f5
      simp only [List.cons.injEq, and_true] at e5
      subst e5
      have f6 : DataW.trod tok Tryz.prog w 0 sp held n 35 [c10, c11, c12, c13, c14] = some y6 := by simpa [cof_laws_Field] using hf 6 _ rfl
      obtain ⟨i6, s6, k6⟩ := o_Fld rfl f6
      obtain ⟨a6_0, t6_0⟩ := s6.inv
      obtain ⟨a6_1, t6_1⟩ := t6_0.inv
      obtain ⟨a6_2, t6_2⟩ := t6_1.inv
      obtain ⟨a6_3, t6_3⟩ := t6_2.inv
      obtain ⟨a6_4, t6_4⟩ := t6_3.inv
      have f7 : DataW.trod tok Tryz.prog w 0 sp held n 3 [c15] = some y7 := by simpa [cof_int] using hf 7 _ rfl
      obtain ⟨i7, e7, _, w7⟩ := DataW.trod_int Tryz.underlying3 f7
      simp only [List.cons.injEq, and_true] at e7
      subst e7
      have f8 : DataW.trod tok Tryz.prog w 0 sp held n 3 [c16] = some y8 := by simpa [cof_int] using hf 8 _ rfl
      obtain ⟨i8, e8, _, w8⟩ := DataW.trod_int Tryz.underlying3 f8
      simp only [List.cons.injEq, and_true] at e8
      subst e8
      have f9 : DataW.trod tok Tryz.prog w 0 sp held n 37 [c17, c18, c19] = some y9 := by simpa [cof_laws_Utf] using hf 9 _ rfl
      obtain ⟨i9, s9, k9⟩ := o_Utf rfl f9
      obtain ⟨a9_0, t9_0⟩ := s9.inv
      obtain ⟨a9_1, t9_1⟩ := t9_0.inv
      obtain ⟨a9_2, t9_2⟩ := t9_1.inv
      have f10 : DataW.trod tok Tryz.prog w 0 sp held n 39 [c20, c21, c22, c23, c24, c25, c26] = some y10 := by simpa [cof_laws_Event] using hf 10 _ rfl
      obtain ⟨i10, s10, k10⟩ := o_Ev rfl f10
      obtain ⟨a10_0, t10_0⟩ := s10.inv
      obtain ⟨a10_1, t10_1⟩ := t10_0.inv
      obtain ⟨a10_2, t10_2⟩ := t10_1.inv
      obtain ⟨a10_3, t10_3⟩ := t10_2.inv
      obtain ⟨a10_4, t10_4⟩ := t10_3.inv
      obtain ⟨a10_5, t10_5⟩ := t10_4.inv
      obtain ⟨a10_6, t10_6⟩ := t10_5.inv
      exact ⟨⟨i0, i1, i2, i3, i4, i5, i6, i7, i8, i9, i10⟩, .cons a0_0 (.cons a0_1 (.cons a0_2 (.cons a0_3 (.cons (rep0_C (show Rep0 (.int .i64 i1) _ from rfl)) (.cons s2 (.cons a3_0 (.cons a3_1 (.cons (rep0_C (show Rep0 (.int .i64 i4) _ from rfl)) (.cons (rep0_C (show Rep0 (.int .i64 i5) _ from rfl)) (.cons a6_0 (.cons a6_1 (.cons a6_2 (.cons a6_3 (.cons a6_4 (.cons (rep0_C (show Rep0 (.int .i64 i7) _ from rfl)) (.cons (rep0_C (show Rep0 (.int .i64 i8) _ from rfl)) (.cons a9_0 (.cons a9_1 (.cons a9_2 (.cons a10_0 (.cons a10_1 (.cons a10_2 (.cons a10_3 (.cons a10_4 (.cons a10_5 (.cons a10_6 .nil)))))))))))))))))))))))))), ⟨k0, bounds_i64 w1, ⟨l2, k2⟩, k3, bounds_i64 w4, bounds_i64 w5, k6, bounds_i64 w7, bounds_i64 w8, k9, k10⟩⟩
theorem cof_laws_Dec : Tryz.prog.cellsOf 41 = 27 := by kernel_rfl
theorem cof___laws_Event : Tryz.prog.cellsOf 42 = 1 := by kernel_rfl
def okStrm (y : Strm) : Prop := okRdr y.reader ∧ okDcd y.dec ∧ (Le63 y.queue.length ∧ ∀ e ∈ y.queue, okEv e) ∧ I64 y.reads
theorem o_Strm {H : Type} {tok : TypeId × Value → H} {w : World} {sp : Nat → Bool} {held : Bool} {fuel : Nat} {cs : List Value} {x : DataW H × List MemPlace} (hl : cs.length = 34) (h : DataW.trod tok Tryz.prog w 0 sp held fuel 44 cs = some x) : ∃ y : Strm, All2 (RepC [] P0 w (RR w)) ([.str y.reader.data, .int .i64 y.reader.at_, .seq .rd y.reader.script, .int .i64 y.reader.next, .int .i64 y.reader.code, .seq .shp y.dec.plan.shapes, .int .i64 y.dec.plan.root, .int .i64 y.dec.plan.deep, .int .i64 y.dec.plan.most, .int .i64 y.dec.mode, .seq .lev y.dec.stack, .int .u64 y.dec.scan.bits, .int .i64 y.dec.scan.have_, .int .i64 y.dec.start, .int .i64 y.dec.at_, .int .i64 y.dec.field.number, .int .i64 y.dec.field.kind, .bool y.dec.field.rep, .bool y.dec.field.packed, .int .i64 y.dec.field.msg, .int .i64 y.dec.wire, .int .i64 y.dec.want, .int .i64 y.dec.utf.want, .int .i64 y.dec.utf.low, .int .i64 y.dec.utf.high, .int .i64 y.dec.end_.kind, .int .i64 y.dec.end_.field, .int .u64 y.dec.end_.bits, .int .i64 y.dec.end_.len, .str y.dec.end_.text, .int .i64 y.dec.end_.code, .int .i64 y.dec.end_.at_, .seq .ev y.queue, .int .i64 y.reads]) cs ∧ okStrm y := by
  match cs, hl with
  | c0 :: c1 :: c2 :: c3 :: c4 :: c5 :: c6 :: c7 :: c8 :: c9 :: c10 :: c11 :: c12 :: c13 :: c14 :: c15 :: c16 :: c17 :: c18 :: c19 :: c20 :: c21 :: c22 :: c23 :: c24 :: c25 :: c26 :: c27 :: c28 :: c29 :: c30 :: c31 :: c32 :: c33 :: [], _ =>
    obtain ⟨xs, n, _, rfl, _, hxl, hf⟩ := DataW.trod_struct Tryz.underlying44 h
    match xs, hxl with
    | [y0, y1, y2, y3], _ =>
      have f0 : DataW.trod tok Tryz.prog w 0 sp held n 24 [c0, c1, c2, c3, c4] = some y0 := by simpa [cof_laws_Reader] using hf 0 _ rfl
      obtain ⟨i0, s0, k0⟩ := o_Rdr rfl f0
      obtain ⟨a0_0, t0_0⟩ := s0.inv
      obtain ⟨a0_1, t0_1⟩ := t0_0.inv
      obtain ⟨a0_2, t0_2⟩ := t0_1.inv
      obtain ⟨a0_3, t0_3⟩ := t0_2.inv
      obtain ⟨a0_4, t0_4⟩ := t0_3.inv
      have f1 : DataW.trod tok Tryz.prog w 0 sp held n 41 [c5, c6, c7, c8, c9, c10, c11, c12, c13, c14, c15, c16, c17, c18, c19, c20, c21, c22, c23, c24, c25, c26, c27, c28, c29, c30, c31] = some y1 := by simpa [cof_laws_Dec] using hf 1 _ rfl
      obtain ⟨i1, s1, k1⟩ := o_Dcd rfl f1
      obtain ⟨a1_0, t1_0⟩ := s1.inv
      obtain ⟨a1_1, t1_1⟩ := t1_0.inv
      obtain ⟨a1_2, t1_2⟩ := t1_1.inv
      obtain ⟨a1_3, t1_3⟩ := t1_2.inv
      obtain ⟨a1_4, t1_4⟩ := t1_3.inv
      obtain ⟨a1_5, t1_5⟩ := t1_4.inv
      obtain ⟨a1_6, t1_6⟩ := t1_5.inv
      obtain ⟨a1_7, t1_7⟩ := t1_6.inv
      obtain ⟨a1_8, t1_8⟩ := t1_7.inv
      obtain ⟨a1_9, t1_9⟩ := t1_8.inv
      obtain ⟨a1_10, t1_10⟩ := t1_9.inv
      obtain ⟨a1_11, t1_11⟩ := t1_10.inv
      obtain ⟨a1_12, t1_12⟩ := t1_11.inv
      obtain ⟨a1_13, t1_13⟩ := t1_12.inv
      obtain ⟨a1_14, t1_14⟩ := t1_13.inv
      obtain ⟨a1_15, t1_15⟩ := t1_14.inv
      obtain ⟨a1_16, t1_16⟩ := t1_15.inv
      obtain ⟨a1_17, t1_17⟩ := t1_16.inv
      obtain ⟨a1_18, t1_18⟩ := t1_17.inv
      obtain ⟨a1_19, t1_19⟩ := t1_18.inv
      obtain ⟨a1_20, t1_20⟩ := t1_19.inv
      obtain ⟨a1_21, t1_21⟩ := t1_20.inv
      obtain ⟨a1_22, t1_22⟩ := t1_21.inv
      obtain ⟨a1_23, t1_23⟩ := t1_22.inv
      obtain ⟨a1_24, t1_24⟩ := t1_23.inv
      obtain ⟨a1_25, t1_25⟩ := t1_24.inv
      obtain ⟨a1_26, t1_26⟩ := t1_25.inv
      have f2 : DataW.trod tok Tryz.prog w 0 sp held n 42 [c32] = some y2 := by simpa [cof___laws_Event] using hf 2 _ rfl
      obtain ⟨i2, s2, l2, k2⟩ := open_sq (cr := (Rep1 w (RR w))) (t := .ev) (Q := fun e => okEv e) Tryz.underlying42 cof_laws_Event (by decide) (fun fuel cs x hl h => by obtain ⟨y, h1, h2⟩ := e_ev fuel cs x hl h; exact ⟨y, all_rep0_1 h1, h2⟩) f2
      have f3 : DataW.trod tok Tryz.prog w 0 sp held n 3 [c33] = some y3 := by simpa [cof_int] using hf 3 _ rfl
      obtain ⟨i3, e3, _, w3⟩ := DataW.trod_int Tryz.underlying3 f3
      simp only [List.cons.injEq, and_true] at e3
      subst e3
      exact ⟨⟨i0, i1, i2, i3⟩, .cons a0_0 (.cons a0_1 (.cons a0_2 (.cons a0_3 (.cons a0_4 (.cons a1_0 (.cons a1_1 (.cons a1_2 (.cons a1_3 (.cons a1_4 (.cons a1_5 (.cons a1_6 (.cons a1_7 (.cons a1_8 (.cons a1_9 (.cons a1_10 (.cons a1_11 (.cons a1_12 (.cons a1_13 (.cons a1_14 (.cons a1_15 (.cons a1_16 (.cons a1_17 (.cons a1_18 (.cons a1_19 (.cons a1_20 (.cons a1_21 (.cons a1_22 (.cons a1_23 (.cons a1_24 (.cons a1_25 (.cons a1_26 (.cons s2 (.cons (rep0_C (show Rep0 (.int .i64 i3) _ from rfl)) .nil))))))))))))))))))))))))))))))))), ⟨k0, k1, ⟨l2, k2⟩, bounds_i64 w3⟩⟩
theorem cof_laws_Stream : Tryz.prog.cellsOf 44 = 34 := by kernel_rfl
end Go.Proofs.YthmhekbmhpljcaaGreat.Ax
