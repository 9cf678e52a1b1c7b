/- Opening an argument of type []laws.Read. -/
import Derived.Test.YtekndgfiedmhoaaReadS
import Derived.Test.YtekndgfiedmhoaaOpen
namespace Go.Proofs.Ytekndgfiedmhoaa
open Go.ChangeShapes Go.WideShapes Go.ChangeAt Go.RowKit
theorem A.c_lRead : Try.prog.cellsOf 77 = 2 := by kernel_rfl
structure Rd.Ok (y : Rd) : Prop where
  n : I64 y.n
  code : I64 y.code

section
variable {H : Type} {tok : TypeId × Value → H} {w : World} {sp : Nat → Bool} {held : Bool} {fuel : Nat} {cs : List Value} {x : DataW H × List MemPlace}
theorem open_Rd (hl : cs.length = 2) (h : DataW.trod tok Try.prog w 0 sp held fuel 77 cs = some x) : ∃ y : Rd, cs = encRd y ∧ y.Ok := by
  match cs, hl with
  | [c0, c1], _ =>
    obtain ⟨xs, n, _, rfl, _, hxl, hf⟩ := DataW.trod_struct Try.underlying77 h
    match xs, hxl with
    | [y0, y1], _ =>
      have f0 : DataW.trod tok Try.prog w 0 sp held n 3 [c0] = some y0 := by simpa [A.c_int] using hf 0 _ rfl
      have f1 : DataW.trod tok Try.prog w 0 sp held n 3 [c1] = some y1 := by simpa [A.c_int] using hf 1 _ rfl
      obtain ⟨i0, e0, _, w0⟩ := DataW.trod_int Try.underlying3 f0
      obtain ⟨i1, e1, _, w1⟩ := DataW.trod_int Try.underlying3 f1
      simp only [List.cons.injEq, and_true] at e0 e1
      subst e0 e1
      exact ⟨⟨i0, i1⟩, rfl, ⟨bounds_i64 w0, bounds_i64 w1⟩⟩

theorem open_Rds {a : Option Addr} {len cap : Nat} {fuel : Nat} (h : DataW.trod tok Try.prog w 0 sp held fuel 31 [.slice a len cap] = some x) : ∃ l : List Rd, Sl encRd 2 w (.slice a len cap) l ∧ len = l.length ∧ ∀ y ∈ l, y.Ok :=
  open_sl Try.underlying31 A.c_lRead (by omega) (fun fuel cs x hl h => open_Rd hl h) h
end
end Go.Proofs.Ytekndgfiedmhoaa
