/- Opening arguments: words that all types use. -/
import Derived.Test.YtekndgfiedmhoaaMem
import Derived.Test.YtekndgfiedmhoaaLaw
namespace Go.Proofs.Ytekndgfiedmhoaa
open Go.ChangeShapes Go.WideShapes Go.ChangeAt Go.RowKit
theorem A.c_int : Try.prog.cellsOf 3 = 1 := by kernel_rfl
theorem A.c_u64 : Try.prog.cellsOf 67 = 1 := by kernel_rfl
theorem A.c_str : Try.prog.cellsOf 9 = 1 := by kernel_rfl
theorem A.c_bool : Try.prog.cellsOf 4 = 1 := by kernel_rfl
def I64 (n : Int) : Prop := -9223372036854775808 ≤ n ∧ n ≤ 9223372036854775807
def U64 (n : Int) : Prop := 0 ≤ n ∧ n ≤ 18446744073709551615
theorem trod_bool' {H : Type} {tok : TypeId × Value → H} {P : Program} {w : World} {base : Nat} {sp : Nat → Bool} {held : Bool} {fuel : Nat} {t : TypeId} {cs : List Value} {x : DataW H × List MemPlace} (ht : P.underlying t = some .bool) (h : DataW.trod tok P w base sp held fuel t cs = some x) : ∃ b, cs = [.bool b] ∧ x = (.lit (.bool b), []) := by
  cases fuel with
  | zero => simp [DataW.trod] at h
  | succ n =>
    unfold DataW.trod at h
    rw [ht] at h
    split at h <;> simp_all
end Go.Proofs.Ytekndgfiedmhoaa
