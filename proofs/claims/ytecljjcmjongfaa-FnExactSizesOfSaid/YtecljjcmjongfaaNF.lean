/- Events. -/
import Derived.Test.YtecljjcmjongfaaNE
namespace Go.Proofs.Ytecljjcmjongfaa.Ax
open Go.RowKit
set_option linter.unusedSimpArgs false
set_option linter.unusedVariables false
theorem hasField_i (k : Int) : Fun Try.prog 144 [vI k] [] (.v (vB (hasField k))) [] := by
  have hN : bigN = 274877906944 := rfl
  refine fun_ofw Try.func144 (by kernel_rfl) (by kernel_rfl) (w := (.br (.leaf () []) (.br (.leaf () []) (.leaf () [])), ((decide (k = 2)) = true → (.v (vB true) : S) = .v (vB (hasField k)) ∧ ([] : List Blk) = []) ∧ ((decide (k = 2)) = false → ((decide (k = 3)) = true → (.v (vB true) : S) = .v (vB (hasField k)) ∧ ([] : List Blk) = []) ∧ ((decide (k = 3)) = false → (.v (vB (decide (k = 6))) : S) = .v (vB (hasField k)) ∧ ([] : List Blk) = [])))) (by kernel_rfl) ?_
  refine ⟨fun h1 => have p1 := of_decide_eq_true h1; ?_, fun h1 => have p1 := of_decide_eq_false h1; ?_⟩
  exact ⟨(congrArg S.v (congrArg V.c (congrArg C.bool (by grind [hasField])))), rfl⟩
  refine ⟨fun h2 => have p2 := of_decide_eq_true h2; ?_, fun h2 => have p2 := of_decide_eq_false h2; ?_⟩
  exact ⟨(congrArg S.v (congrArg V.c (congrArg C.bool (by grind [hasField])))), rfl⟩
  exact ⟨(congrArg S.v (congrArg V.c (congrArg C.bool (by grind [hasField])))), rfl⟩
end Go.Proofs.Ytecljjcmjongfaa.Ax
