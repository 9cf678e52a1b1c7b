/- Opening an argument of type laws.Reader. -/
import Derived.Test.YtekndgfiedmhoaaReader2
import Derived.Test.YtekndgfiedmhoaaOpenRead
namespace Go.Proofs.Ytekndgfiedmhoaa
open Go.ChangeShapes Go.WideShapes Go.ChangeAt Go.RowKit
theorem A.c_lReader : Try.prog.cellsOf 33 = 5 := by kernel_rfl
theorem A.c_lReadS : Try.prog.cellsOf 31 = 1 := by kernel_rfl
structure Rdr.Ok (r : Rdr) : Prop where
  data : r.data.size ≤ maxLen
  at_ : I64 r.at_
  script : ∀ y ∈ r.script, y.Ok
  next : I64 r.next
  code : I64 r.code

section
variable {H : Type} {tok : TypeId × Value → H} {w : World} {sp : Nat → Bool} {held : Bool} {fuel : Nat} {cs : List Value} {x : DataW H × List MemPlace}
theorem slice_cell {t e : TypeId} {c : Value} (ht : Try.prog.underlying t = some (.slice e)) (h : DataW.trod tok Try.prog w 0 sp held fuel t [c] = some x) : ∃ a len cap, c = .slice a len cap := by
  rcases Go.Deep.open_slice ht h with ⟨h0, _⟩ | ⟨a', len', cap', m, n, D, Pl, hcs, _⟩
  · simp at h0; exact ⟨_, _, _, h0⟩
  · simp at hcs; exact ⟨_, _, _, hcs⟩

theorem open_Rdr (hl : cs.length = 5) (h : DataW.trod tok Try.prog w 0 sp held fuel 33 cs = some x) : ∃ (r : Rdr) (sv : Value), cs = encRdr sv r ∧ Sl encRd 2 w sv r.script ∧ r.Ok := by
  match cs, hl with
  | [c0, c1, c2, c3, c4], _ =>
    obtain ⟨xs, n, _, rfl, _, hxl, hf⟩ := DataW.trod_struct Try.underlying33 h
    match xs, hxl with
    | [y0, y1, y2, y3, y4], _ =>
      have f0 : DataW.trod tok Try.prog w 0 sp held n 9 [c0] = some y0 := by simpa [A.c_str] using hf 0 _ rfl
      have f1 : DataW.trod tok Try.prog w 0 sp held n 3 [c1] = some y1 := by simpa [A.c_int] using hf 1 _ rfl
      have f2 : DataW.trod tok Try.prog w 0 sp held n 31 [c2] = some y2 := by simpa [A.c_lReadS] using hf 2 _ rfl
      have f3 : DataW.trod tok Try.prog w 0 sp held n 3 [c3] = some y3 := by simpa [A.c_int] using hf 3 _ rfl
      have f4 : DataW.trod tok Try.prog w 0 sp held n 3 [c4] = some y4 := by simpa [A.c_int] using hf 4 _ rfl
      obtain ⟨i0, e0, _, w0⟩ := DataW.trod_string Try.underlying9 f0
      obtain ⟨i1, e1, _, w1⟩ := DataW.trod_int Try.underlying3 f1
      obtain ⟨a, len, cap, e2⟩ := slice_cell Try.underlying31 f2
      obtain ⟨i3, e3, _, w3⟩ := DataW.trod_int Try.underlying3 f3
      obtain ⟨i4, e4, _, w4⟩ := DataW.trod_int Try.underlying3 f4
      simp only [List.cons.injEq, and_true] at e0 e1 e3 e4
      subst e0 e1 e2 e3 e4
      obtain ⟨l, hsl, hlen, hok⟩ := open_Rds f2
      exact ⟨⟨i0, i1, l, i3, i4⟩, _, rfl, hsl, ⟨w0, bounds_i64 w1, hok, bounds_i64 w3, bounds_i64 w4⟩⟩

theorem open_reader {r : Reach} {b0 : Nat} {v : Value} {d : DataW H} {p : List MemPlace} (hv : Value.okWide Try.prog w r b0 33 v) (h : DataW.Trod tok Try.prog w 0 sp held 33 v d p) :
    ∃ (r : Rdr) (sv : Value), v = .agg (encRdr sv r).toArray ∧ Sl encRd 2 w sv r.script ∧ r.Ok := by
  obtain ⟨cs, rfl, hsz⟩ := okWide_struct Try.underlying33 hv
  obtain ⟨fuel, hf⟩ := h
  obtain ⟨l⟩ := cs
  obtain ⟨r, sv, he, h1, h2⟩ := open_Rdr (cs := l) (by rw [A.c_lReader] at hsz; exact hsz) hf
  exact ⟨r, sv, by rw [← he], h1, h2⟩
end
end Go.Proofs.Ytekndgfiedmhoaa
