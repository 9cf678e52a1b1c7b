/- Opening an argument of type []laws.Event. -/
import Derived.Test.YtekndgfiedmhoaaEventS
import Derived.Test.YtekndgfiedmhoaaLaw
namespace Go.Proofs.Ytekndgfiedmhoaa
open Go.ChangeShapes Go.WideShapes Go.ChangeAt Go.RowKit
theorem A.c_int : Try.prog.cellsOf 3 = 1 := by kernel_rfl
theorem A.c_u64 : Try.prog.cellsOf 67 = 1 := by kernel_rfl
theorem A.c_str : Try.prog.cellsOf 9 = 1 := by kernel_rfl
theorem A.c_lev : Try.prog.cellsOf 69 = 7 := by kernel_rfl
def I64 (n : Int) : Prop := -9223372036854775808 ≤ n ∧ n ≤ 9223372036854775807
def U64 (n : Int) : Prop := 0 ≤ n ∧ n ≤ 18446744073709551615
structure Ev.Ok (e : Ev) : Prop where
  kind : I64 e.kind
  field : I64 e.field
  bits : U64 e.bits
  len : I64 e.len
  text : e.text.size ≤ maxLen
  code : I64 e.code
  at_ : I64 e.at_

section
variable {H : Type} {tok : TypeId × Value → H} {w : World} {sp : Nat → Bool} {held : Bool} {fuel : Nat} {cs : List Value} {x : DataW H × List MemPlace}
theorem open_ev (hl : cs.length = 7) (h : DataW.trod tok Try.prog w 0 sp held fuel 69 cs = some x) : ∃ y : Ev, cs = encEv y ∧ y.Ok := by
  match cs, hl with
  | [c0, c1, c2, c3, c4, c5, c6], _ =>
    obtain ⟨xs, n, _, rfl, _, hxl, hf⟩ := DataW.trod_struct Try.underlying69 h
    match xs, hxl with
    | [y0, y1, y2, y3, y4, y5, y6], _ =>
      have f0 : DataW.trod tok Try.prog w 0 sp held n 3 [c0] = some y0 := by simpa [A.c_int] using hf 0 _ rfl
      have f1 : DataW.trod tok Try.prog w 0 sp held n 3 [c1] = some y1 := by simpa [A.c_int] using hf 1 _ rfl
      have f2 : DataW.trod tok Try.prog w 0 sp held n 67 [c2] = some y2 := by simpa [A.c_u64] using hf 2 _ rfl
      have f3 : DataW.trod tok Try.prog w 0 sp held n 3 [c3] = some y3 := by simpa [A.c_int] using hf 3 _ rfl
      have f4 : DataW.trod tok Try.prog w 0 sp held n 9 [c4] = some y4 := by simpa [A.c_str] using hf 4 _ rfl
      have f5 : DataW.trod tok Try.prog w 0 sp held n 3 [c5] = some y5 := by simpa [A.c_int] using hf 5 _ rfl
      have f6 : DataW.trod tok Try.prog w 0 sp held n 3 [c6] = some y6 := by simpa [A.c_int] using hf 6 _ rfl
      obtain ⟨i0, e0, _, w0⟩ := DataW.trod_int Try.underlying3 f0
      obtain ⟨i1, e1, _, w1⟩ := DataW.trod_int Try.underlying3 f1
      obtain ⟨i2, e2, _, w2⟩ := DataW.trod_int Try.underlying67 f2
      obtain ⟨i3, e3, _, w3⟩ := DataW.trod_int Try.underlying3 f3
      obtain ⟨i4, e4, _, w4⟩ := DataW.trod_string Try.underlying9 f4
      obtain ⟨i5, e5, _, w5⟩ := DataW.trod_int Try.underlying3 f5
      obtain ⟨i6, e6, _, w6⟩ := DataW.trod_int Try.underlying3 f6
      simp only [List.cons.injEq, and_true] at e0 e1 e2 e3 e4 e5 e6
      subst e0 e1 e2 e3 e4 e5 e6
      exact ⟨⟨i0, i1, i2, i3, i4, i5, i6⟩, rfl, ⟨bounds_i64 w0, bounds_i64 w1, bounds_u64 w2, bounds_i64 w3, w4, bounds_i64 w5, bounds_i64 w6⟩⟩

theorem open_evs {a : Option Addr} {len cap : Nat} {d : DataW H} {p : List MemPlace} (h : DataW.Trod tok Try.prog w 0 sp held 24 (.slice a len cap) d p) : ∃ l : List Ev, Sl encEv 7 w (.slice a len cap) l ∧ len = l.length ∧ ∀ y ∈ l, y.Ok := by
  obtain ⟨fuel, hf⟩ := h
  exact open_sl Try.underlying24 A.c_lev (by omega) (fun fuel cs x hl h => open_ev hl h) hf
end
end Go.Proofs.Ytekndgfiedmhoaa
