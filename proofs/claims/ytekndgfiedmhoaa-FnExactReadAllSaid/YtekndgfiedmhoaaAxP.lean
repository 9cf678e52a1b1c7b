/- Opening readers. -/
import Derived.Test.YtekndgfiedmhoaaAxD
import Derived.Test.YtekndgfiedmhoaaAxO
namespace Go.Proofs.Ytekndgfiedmhoaa.Ax
open Go.ChangeShapes Go.WideShapes Go.ChangeAt Go.RowKit
theorem cof_string : Try.prog.cellsOf 9 = 1 := by kernel_rfl
theorem cof_int : Try.prog.cellsOf 3 = 1 := by kernel_rfl
def okRd (y : Rd) : Prop := I64 y.n ∧ I64 y.code
theorem e_rd {H : Type} {tok : TypeId × Value → H} {w : World} {sp : Nat → Bool} {held : Bool} (fuel : Nat) (cs : List Value) (x : DataW H × List MemPlace) (hl : cs.length = 2) (h : DataW.trod tok Try.prog w 0 sp held fuel 77 cs = some x) : ∃ y : Rd, All2 Rep0 (enc .rd y) cs ∧ okRd y := by
  match cs, hl with
  | [c0, c1], _ =>
    obtain ⟨xs, n, _, rfl, _, hxl, hf⟩ := DataW.trod_struct Try.underlying77 h
    match xs, hxl with
    | [y0, y1], _ =>
      have f0 : DataW.trod tok Try.prog w 0 sp held n 3 [c0] = some y0 := by simpa [cof_int] using hf 0 _ rfl
      obtain ⟨i0, e0, _, w0⟩ := DataW.trod_int Try.underlying3 f0
      simp only [List.cons.injEq, and_true] at e0
      subst e0
      have f1 : DataW.trod tok Try.prog w 0 sp held n 3 [c1] = some y1 := by simpa [cof_int] using hf 1 _ rfl
      obtain ⟨i1, e1, _, w1⟩ := DataW.trod_int Try.underlying3 f1
      simp only [List.cons.injEq, and_true] at e1
      subst e1
      exact ⟨⟨i0, i1⟩, .cons (show Rep0 (.int .i64 i0) _ from rfl) (.cons (show Rep0 (.int .i64 i1) _ from rfl) .nil), ⟨bounds_i64 w0, bounds_i64 w1⟩⟩
theorem cof___laws_Read : Try.prog.cellsOf 31 = 1 := by kernel_rfl
def okRdr (y : Rdr) : Prop := Le63 y.data.length ∧ I64 y.at_ ∧ (Le63 y.script.length ∧ ∀ e ∈ y.script, okRd e) ∧ I64 y.next ∧ I64 y.code
theorem cof_laws_Read : Try.prog.cellsOf 77 = 2 := by kernel_rfl
theorem o_Rdr {H : Type} {tok : TypeId × Value → H} {w : World} {sp : Nat → Bool} {held : Bool} {fuel : Nat} {cs : List Value} {x : DataW H × List MemPlace} (hl : cs.length = 5) (h : DataW.trod tok Try.prog w 0 sp held fuel 33 cs = some x) : ∃ y : Rdr, All2 (RepC [] P0 w (RR w)) ([.str y.data, .int .i64 y.at_, .seq .rd y.script, .int .i64 y.next, .int .i64 y.code]) cs ∧ okRdr y := by
  match cs, hl with
  | [c0, c1, c2, c3, c4], _ =>
    obtain ⟨xs, n, _, rfl, _, hxl, hf⟩ := DataW.trod_struct Try.underlying33 h
    match xs, hxl with
    | [y0, y1, y2, y3, y4], _ =>
      have f0 : DataW.trod tok Try.prog w 0 sp held n 9 [c0] = some y0 := by simpa [cof_string] using hf 0 _ rfl
      obtain ⟨i0, e0, _, w0⟩ := DataW.trod_string Try.underlying9 f0
      simp only [List.cons.injEq, and_true] at e0
      subst e0
      have f1 : DataW.trod tok Try.prog w 0 sp held n 3 [c1] = some y1 := by simpa [cof_int] using hf 1 _ rfl
      obtain ⟨i1, e1, _, w1⟩ := DataW.trod_int Try.underlying3 f1
      simp only [List.cons.injEq, and_true] at e1
      subst e1
      have f2 : DataW.trod tok Try.prog w 0 sp held n 31 [c2] = some y2 := by simpa [cof___laws_Read] using hf 2 _ rfl
      obtain ⟨i2, s2, l2, k2⟩ := open_sq (cr := (Rep1 w (RR w))) (t := .rd) (Q := fun e => okRd e) Try.underlying31 cof_laws_Read (by decide) (fun fuel cs x hl h => by obtain ⟨y, h1, h2⟩ := e_rd fuel cs x hl h; exact ⟨y, all_rep0_1 h1, h2⟩) f2
      have f3 : DataW.trod tok Try.prog w 0 sp held n 3 [c3] = some y3 := by simpa [cof_int] using hf 3 _ rfl
      obtain ⟨i3, e3, _, w3⟩ := DataW.trod_int Try.underlying3 f3
      simp only [List.cons.injEq, and_true] at e3
      subst e3
      have f4 : DataW.trod tok Try.prog w 0 sp held n 3 [c4] = some y4 := by simpa [cof_int] using hf 4 _ rfl
      obtain ⟨i4, e4, _, w4⟩ := DataW.trod_int Try.underlying3 f4
      simp only [List.cons.injEq, and_true] at e4
      subst e4
      exact ⟨⟨i0.data.toList, i1, i2, i3, i4⟩, .cons (rep0_C (show Rep0 (.str i0.data.toList) _ from str_rep)) (.cons (rep0_C (show Rep0 (.int .i64 i1) _ from rfl)) (.cons s2 (.cons (rep0_C (show Rep0 (.int .i64 i3) _ from rfl)) (.cons (rep0_C (show Rep0 (.int .i64 i4) _ from rfl)) .nil)))), ⟨str_le w0, bounds_i64 w1, ⟨l2, k2⟩, bounds_i64 w3, bounds_i64 w4⟩⟩
theorem cof_laws_Reader : Try.prog.cellsOf 33 = 5 := by kernel_rfl
end Go.Proofs.Ytekndgfiedmhoaa.Ax
