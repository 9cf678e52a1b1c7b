/- Numbers. -/
import Derived.Test.YtecljjcmjongfaaM1
namespace Go.Proofs.Ytecljjcmjongfaa.Ax
open Go.RowKit
set_option linter.unusedSimpArgs false
set_option linter.unusedVariables false
theorem within_i (n : Int) (lo : Int) (hi : Int) : Fun Try.prog 49 [vI n, vI lo, vI hi] [] (.v (vB (within n lo hi))) [] := by
  have hN : bigN = 274877906944 := rfl
  refine fun_ofw Try.func49 (by kernel_rfl) (by kernel_rfl) (w := (.br (.leaf () []) (.leaf () []), ((decide (lo ≤ n)) = true → (.v (vB (decide (n ≤ hi))) : S) = .v (vB (within n lo hi)) ∧ ([] : List Blk) = []) ∧ ((decide (lo ≤ n)) = false → (.v (vB false) : S) = .v (vB (within n lo hi)) ∧ ([] : List Blk) = []))) (by kernel_rfl) ?_
  refine ⟨fun h1 => have p1 := of_decide_eq_true h1; ?_, fun h1 => have p1 := of_decide_eq_false h1; ?_⟩
  exact ⟨(congrArg S.v (congrArg V.c (congrArg C.bool (by simp [within, *])))), rfl⟩
  exact ⟨(congrArg S.v (congrArg V.c (congrArg C.bool (by simp [within, *])))), rfl⟩
theorem within_s (n : Int) (lo : Int) (hi : Int) : Fun Try.prog 47 [vI n, vI lo, vI hi] [] (.v (vB (within n lo hi))) [] := by
  have hN : bigN = 274877906944 := rfl
  refine fun_ofw Try.func47 (by kernel_rfl) (by kernel_rfl) (w := (.br (.leaf () []) (.leaf () []), ((decide (lo ≤ n)) = true → (.v (vB (decide (n ≤ hi))) : S) = .v (vB (within n lo hi)) ∧ ([] : List Blk) = []) ∧ ((decide (lo ≤ n)) = false → (.v (vB false) : S) = .v (vB (within n lo hi)) ∧ ([] : List Blk) = []))) (by kernel_rfl) ?_
  refine ⟨fun h1 => have p1 := of_decide_eq_true h1; ?_, fun h1 => have p1 := of_decide_eq_false h1; ?_⟩
  exact ⟨(congrArg S.v (congrArg V.c (congrArg C.bool (by simp [within, *])))), rfl⟩
  exact ⟨(congrArg S.v (congrArg V.c (congrArg C.bool (by simp [within, *])))), rfl⟩
theorem l1min (a : Int) (b : Int) : Fun Try.prog 160 [vI a, vI b] [] (.v (vI (min a b))) [] := by
  have hN : bigN = 274877906944 := rfl
  refine fun_ofw Try.func160 (by kernel_rfl) (by kernel_rfl) (w := (.br (.leaf () []) (.leaf () []), ((decide (a < b)) = true → (.v (vI a) : S) = .v (vI (min a b)) ∧ ([] : List Blk) = []) ∧ ((decide (a < b)) = false → (.v (vI b) : S) = .v (vI (min a b)) ∧ ([] : List Blk) = []))) (by kernel_rfl) ?_
  refine ⟨fun h1 => have p1 := of_decide_eq_true h1; ?_, fun h1 => have p1 := of_decide_eq_false h1; ?_⟩
  exact ⟨(congrArg S.v (congrArg V.c (congrArg (C.int .i64) (by omega)))), rfl⟩
  exact ⟨(congrArg S.v (congrArg V.c (congrArg (C.int .i64) (by omega)))), rfl⟩
theorem numberOk_i (n : Int) : Fun Try.prog 157 [vI n] [] (.v (vB (numberOk n))) [] := by
  have hN : bigN = 274877906944 := rfl
  refine fun_ofw Try.func157 (by kernel_rfl) (by kernel_rfl) (w := let z1 := within n 1 536870911; let z2 := within n 19000 19999; (.seg [.call [] (.v (vB z1)) []] (.br (.seg [.call [] (.v (vB z2)) []] (.leaf () [])) (.leaf () [])), (Fun Try.prog 49 [vI n, vI 1, vI 536870911] [] (.v (vB z1)) []) ∧ (z1 = true → (Fun Try.prog 49 [vI n, vI 19000, vI 19999] [] (.v (vB z2)) []) ∧ (.v (vB (!z2)) : S) = .v (vB (numberOk n)) ∧ ([] : List Blk) = []) ∧ (z1 = false → (.v (vB false) : S) = .v (vB (numberOk n)) ∧ ([] : List Blk) = []))) (by kernel_rfl) ?_
  refine ⟨(within_i _ _ _), fun h1 => have p1 := within_t h1; ?_, fun h1 => have p1 := within_f h1; ?_⟩
  exact ⟨(within_i _ _ _), (congrArg S.v (congrArg V.c (congrArg C.bool (by simp [numberOk, *])))), rfl⟩
  exact ⟨(congrArg S.v (congrArg V.c (congrArg C.bool (by simp [numberOk, *])))), rfl⟩
theorem numberOk_s (n : Int) : Fun Try.prog 154 [vI n] [] (.v (vB (numberOk n))) [] := by
  have hN : bigN = 274877906944 := rfl
  refine fun_ofw Try.func154 (by kernel_rfl) (by kernel_rfl) (w := let z1 := within n 1 536870911; let z2 := within n 19000 19999; (.seg [.call [] (.v (vB z1)) []] (.br (.seg [.call [] (.v (vB z2)) []] (.leaf () [])) (.leaf () [])), (Fun Try.prog 47 [vI n, vI 1, vI 536870911] [] (.v (vB z1)) []) ∧ (z1 = true → (Fun Try.prog 47 [vI n, vI 19000, vI 19999] [] (.v (vB z2)) []) ∧ (.v (vB (!z2)) : S) = .v (vB (numberOk n)) ∧ ([] : List Blk) = []) ∧ (z1 = false → (.v (vB false) : S) = .v (vB (numberOk n)) ∧ ([] : List Blk) = []))) (by kernel_rfl) ?_
  refine ⟨(within_s _ _ _), fun h1 => have p1 := within_t h1; ?_, fun h1 => have p1 := within_f h1; ?_⟩
  exact ⟨(within_s _ _ _), (congrArg S.v (congrArg V.c (congrArg C.bool (by simp [numberOk, *])))), rfl⟩
  exact ⟨(congrArg S.v (congrArg V.c (congrArg C.bool (by simp [numberOk, *])))), rfl⟩
theorem wireOk_i (w : Int) : Fun Try.prog 88 [vI w] [] (.v (vB (wireOk w))) [] := by
  have hN : bigN = 274877906944 := rfl
  refine fun_ofw Try.func88 (by kernel_rfl) (by kernel_rfl) (w := let z1 := vB (wireOk w); let z2 := ([] : List Blk); let z3 := (.v (vB true) : S); (.br (.leaf () []) (.br (.leaf () []) (.br (.leaf () []) (.leaf () []))), ((decide (w = 0)) = true → z3 = .v z1 ∧ z2 = []) ∧ ((decide (w = 0)) = false → ((decide (w = 1)) = true → z3 = .v z1 ∧ z2 = []) ∧ ((decide (w = 1)) = false → ((decide (w = 2)) = true → z3 = .v z1 ∧ z2 = []) ∧ ((decide (w = 2)) = false → (.v (vB (decide (w = 5))) : S) = .v z1 ∧ z2 = []))))) (by kernel_rfl) ?_
  refine ⟨fun h1 => have p1 := of_decide_eq_true h1; ?_, fun h1 => have p1 := of_decide_eq_false h1; ?_⟩
  exact ⟨(congrArg S.v (congrArg V.c (congrArg C.bool (by simp [wireOk, *])))), rfl⟩
  refine ⟨fun h2 => have p2 := of_decide_eq_true h2; ?_, fun h2 => have p2 := of_decide_eq_false h2; ?_⟩
  exact ⟨(congrArg S.v (congrArg V.c (congrArg C.bool (by simp [wireOk, *])))), rfl⟩
  refine ⟨fun h3 => have p3 := of_decide_eq_true h3; ?_, fun h3 => have p3 := of_decide_eq_false h3; ?_⟩
  exact ⟨(congrArg S.v (congrArg V.c (congrArg C.bool (by simp [wireOk, *])))), rfl⟩
  exact ⟨(congrArg S.v (congrArg V.c (congrArg C.bool (by simp [wireOk, *])))), rfl⟩
theorem wireOk_s (w : Int) : Fun Try.prog 82 [vI w] [] (.v (vB (wireOk w))) [] := by
  have hN : bigN = 274877906944 := rfl
  refine fun_ofw Try.func82 (by kernel_rfl) (by kernel_rfl) (w := let z1 := vB (wireOk w); let z2 := ([] : List Blk); let z3 := (.v (vB true) : S); (.br (.leaf () []) (.br (.leaf () []) (.br (.leaf () []) (.leaf () []))), ((decide (w = 0)) = true → z3 = .v z1 ∧ z2 = []) ∧ ((decide (w = 0)) = false → ((decide (w = 1)) = true → z3 = .v z1 ∧ z2 = []) ∧ ((decide (w = 1)) = false → ((decide (w = 2)) = true → z3 = .v z1 ∧ z2 = []) ∧ ((decide (w = 2)) = false → (.v (vB (decide (w = 5))) : S) = .v z1 ∧ z2 = []))))) (by kernel_rfl) ?_
  refine ⟨fun h1 => have p1 := of_decide_eq_true h1; ?_, fun h1 => have p1 := of_decide_eq_false h1; ?_⟩
  exact ⟨(congrArg S.v (congrArg V.c (congrArg C.bool (by simp [wireOk, *])))), rfl⟩
  refine ⟨fun h2 => have p2 := of_decide_eq_true h2; ?_, fun h2 => have p2 := of_decide_eq_false h2; ?_⟩
  exact ⟨(congrArg S.v (congrArg V.c (congrArg C.bool (by simp [wireOk, *])))), rfl⟩
  refine ⟨fun h3 => have p3 := of_decide_eq_true h3; ?_, fun h3 => have p3 := of_decide_eq_false h3; ?_⟩
  exact ⟨(congrArg S.v (congrArg V.c (congrArg C.bool (by simp [wireOk, *])))), rfl⟩
  exact ⟨(congrArg S.v (congrArg V.c (congrArg C.bool (by simp [wireOk, *])))), rfl⟩
theorem kindOk_i (k : Int) : Fun Try.prog 158 [vI k] [] (.v (vB (kindOk k))) [] := by
  have hN : bigN = 274877906944 := rfl
  refine fun_ofw Try.func158 (by kernel_rfl) (by kernel_rfl) (w := let z1 := vB (within k 1 8); (.seg [.call [] (.v z1) []] (.leaf () []), (Fun Try.prog 49 [vI k, vI 1, vI 8] [] (.v z1) []) ∧ (.v z1 : S) = .v (vB (kindOk k)) ∧ ([] : List Blk) = [])) (by kernel_rfl) ?_
  exact ⟨(within_i _ _ _), (congrArg S.v (congrArg V.c (congrArg C.bool (by rfl)))), rfl⟩
theorem kindOk_s (k : Int) : Fun Try.prog 123 [vI k] [] (.v (vB (kindOk k))) [] := by
  have hN : bigN = 274877906944 := rfl
  refine fun_ofw Try.func123 (by kernel_rfl) (by kernel_rfl) (w := let z1 := vB (within k 1 8); (.seg [.call [] (.v z1) []] (.leaf () []), (Fun Try.prog 47 [vI k, vI 1, vI 8] [] (.v z1) []) ∧ (.v z1 : S) = .v (vB (kindOk k)) ∧ ([] : List Blk) = [])) (by kernel_rfl) ?_
  exact ⟨(within_s _ _ _), (congrArg S.v (congrArg V.c (congrArg C.bool (by rfl)))), rfl⟩
theorem numeric_i (k : Int) : Fun Try.prog 133 [vI k] [] (.v (vB (numeric k))) [] := by
  have hN : bigN = 274877906944 := rfl
  refine fun_ofw Try.func133 (by kernel_rfl) (by kernel_rfl) (w := let z1 := vB (within k 1 5); (.seg [.call [] (.v z1) []] (.leaf () []), (Fun Try.prog 49 [vI k, vI 1, vI 5] [] (.v z1) []) ∧ (.v z1 : S) = .v (vB (numeric k)) ∧ ([] : List Blk) = [])) (by kernel_rfl) ?_
  exact ⟨(within_i _ _ _), (congrArg S.v (congrArg V.c (congrArg C.bool (by rfl)))), rfl⟩
theorem numeric_s (k : Int) : Fun Try.prog 155 [vI k] [] (.v (vB (numeric k))) [] := by
  have hN : bigN = 274877906944 := rfl
  refine fun_ofw Try.func155 (by kernel_rfl) (by kernel_rfl) (w := let z1 := vB (within k 1 5); (.seg [.call [] (.v z1) []] (.leaf () []), (Fun Try.prog 47 [vI k, vI 1, vI 5] [] (.v z1) []) ∧ (.v z1 : S) = .v (vB (numeric k)) ∧ ([] : List Blk) = [])) (by kernel_rfl) ?_
  exact ⟨(within_s _ _ _), (congrArg S.v (congrArg V.c (congrArg C.bool (by rfl)))), rfl⟩
theorem wireOf_i (k : Int) : Fun Try.prog 131 [vI k] [] (.v (vI (wireOf k))) [] := by
  have hN : bigN = 274877906944 := rfl
  refine fun_ofw Try.func131 (by kernel_rfl) (by kernel_rfl) (w := let z1 := List.getD [0, 0, 0, 5, 1, 2, 2, 2] (Int.toNat (k - 1)) 0; (.seg [.call [] (.v (vB (kindOk k))) []] (.br (.leaf () []) (.seg [.as 8 (.v (vI (k - 1))), .ce (.int .i64 z1)] (.leaf () []))), (Fun Try.prog 158 [vI k] [] (.v (vB (kindOk k))) []) ∧ ((!(kindOk k)) = true → (.v (vI (-1)) : S) = .v (vI (wireOf k)) ∧ ([] : List Blk) = []) ∧ ((!(kindOk k)) = false → ((.v (vI (IntKind.i64.wrap (k - 1))) : S) = .v (vI (k - 1))) ∧ ((([.int .i64 0, .int .i64 0, .int .i64 0, .int .i64 5, .int .i64 1, .int .i64 2, .int .i64 2, .int .i64 2] : List C)[Int.toNat (k - 1)]?) = some (.int .i64 z1)) ∧ (k - 1 < ((8 : Nat) : Int)) ∧ ((0 : Int) ≤ k - 1) ∧ (.v (vI z1) : S) = .v (vI (wireOf k)) ∧ ([] : List Blk) = []))) (by kernel_rfl) ?_
  refine ⟨(kindOk_i _), fun h1 => have q1 := bnot_t h1; have p1 := within_f q1; ?_, fun h1 => have q1 := bnot_f h1; have p1 := within_t q1; ?_⟩
  refine ⟨(sI ?_), rfl⟩
  rotate_left
  refine ⟨(as_i64 (by omega) (by omega)), (ce_int (l := [0, 0, 0, 5, 1, 2, 2, 2]) (by simp; omega)), (by omega), (by omega), (sI ?_), rfl⟩
  rotate_left
  all_goals first | (simp [wireOf, *]; done) | (rcases (show k = 1 ∨ k = 2 ∨ k = 3 ∨ k = 4 ∨ k = 5 ∨ k = 6 ∨ k = 7 ∨ k = 8 by omega) with rfl | rfl | rfl | rfl | rfl | rfl | rfl | rfl <;> rfl)
theorem wireOf_s (k : Int) : Fun Try.prog 124 [vI k] [] (.v (vI (wireOf k))) [] := by
  have hN : bigN = 274877906944 := rfl
  refine fun_ofw Try.func124 (by kernel_rfl) (by kernel_rfl) (w := let z1 := vI (wireOf k); let z2 := ([] : List Blk); (.seg [.call [] (.v (vB (kindOk k))) []] (.br (.leaf () []) (.br (.leaf () []) (.br (.leaf () []) (.seg [.call [] (.v (vB (numeric k))) []] (.br (.leaf () []) (.leaf () [])))))), (Fun Try.prog 123 [vI k] [] (.v (vB (kindOk k))) []) ∧ ((!(kindOk k)) = true → (.v (vI (-1)) : S) = .v z1 ∧ z2 = []) ∧ ((!(kindOk k)) = false → ((decide (k = 4)) = true → (.v (vI 5) : S) = .v z1 ∧ z2 = []) ∧ ((decide (k = 4)) = false → ((decide (k = 5)) = true → (.v (vI 1) : S) = .v z1 ∧ z2 = []) ∧ ((decide (k = 5)) = false → (Fun Try.prog 155 [vI k] [] (.v (vB (numeric k))) []) ∧ ((numeric k) = true → (.v (vI 0) : S) = .v z1 ∧ z2 = []) ∧ ((numeric k) = false → (.v (vI 2) : S) = .v z1 ∧ z2 = [])))))) (by kernel_rfl) ?_
  refine ⟨(kindOk_s _), fun h1 => have q1 := bnot_t h1; have p1 := within_f q1; ?_, fun h1 => have q1 := bnot_f h1; have p1 := within_t q1; ?_⟩
  refine ⟨(sI ?_), rfl⟩
  rotate_left
  refine ⟨fun h2 => have p2 := of_decide_eq_true h2; ?_, fun h2 => have p2 := of_decide_eq_false h2; ?_⟩
  refine ⟨(sI ?_), rfl⟩
  rotate_left
  refine ⟨fun h3 => have p3 := of_decide_eq_true h3; ?_, fun h3 => have p3 := of_decide_eq_false h3; ?_⟩
  refine ⟨(sI ?_), rfl⟩
  rotate_left
  refine ⟨(numeric_s _), fun h4 => have p4 := within_t h4; ?_, fun h4 => have p4 := within_f h4; ?_⟩
  refine ⟨(sI ?_), rfl⟩
  rotate_left
  refine ⟨(sI ?_), rfl⟩
  rotate_left
  all_goals first | (simp [wireOf, *] <;> (repeat' split) <;> omega) | (subst_vars; rfl)
theorem widthOf_i (w : Int) : Fun Try.prog 136 [vI w] [] (.v (vI (widthOf w))) [] := by
  have hN : bigN = 274877906944 := rfl
  refine fun_ofw Try.func136 (by kernel_rfl) (by kernel_rfl) (w := (.br (.leaf () []) (.br (.leaf () []) (.leaf () [])), ((decide (w = 1)) = true → (.v (vI 8) : S) = .v (vI (widthOf w)) ∧ ([] : List Blk) = []) ∧ ((decide (w = 1)) = false → ((decide (w = 5)) = true → (.v (vI 4) : S) = .v (vI (widthOf w)) ∧ ([] : List Blk) = []) ∧ ((decide (w = 5)) = false → (.v (vI 0) : S) = .v (vI (widthOf w)) ∧ ([] : List Blk) = [])))) (by kernel_rfl) ?_
  refine ⟨fun h1 => have p1 := of_decide_eq_true h1; ?_, fun h1 => have p1 := of_decide_eq_false h1; ?_⟩
  exact ⟨(congrArg S.v (congrArg V.c (congrArg (C.int .i64) (by simp [widthOf, *])))), rfl⟩
  refine ⟨fun h2 => have p2 := of_decide_eq_true h2; ?_, fun h2 => have p2 := of_decide_eq_false h2; ?_⟩
  exact ⟨(congrArg S.v (congrArg V.c (congrArg (C.int .i64) (by simp [widthOf, *])))), rfl⟩
  exact ⟨(congrArg S.v (congrArg V.c (congrArg (C.int .i64) (by simp [widthOf, *])))), rfl⟩
theorem widthOf_s (w : Int) : Fun Try.prog 129 [vI w] [] (.v (vI (widthOf w))) [] := by
  have hN : bigN = 274877906944 := rfl
  refine fun_ofw Try.func129 (by kernel_rfl) (by kernel_rfl) (w := (.br (.leaf () []) (.br (.leaf () []) (.leaf () [])), ((decide (w = 1)) = true → (.v (vI 8) : S) = .v (vI (widthOf w)) ∧ ([] : List Blk) = []) ∧ ((decide (w = 1)) = false → ((decide (w = 5)) = true → (.v (vI 4) : S) = .v (vI (widthOf w)) ∧ ([] : List Blk) = []) ∧ ((decide (w = 5)) = false → (.v (vI 0) : S) = .v (vI (widthOf w)) ∧ ([] : List Blk) = [])))) (by kernel_rfl) ?_
  refine ⟨fun h1 => have p1 := of_decide_eq_true h1; ?_, fun h1 => have p1 := of_decide_eq_false h1; ?_⟩
  exact ⟨(congrArg S.v (congrArg V.c (congrArg (C.int .i64) (by simp [widthOf, *])))), rfl⟩
  refine ⟨fun h2 => have p2 := of_decide_eq_true h2; ?_, fun h2 => have p2 := of_decide_eq_false h2; ?_⟩
  exact ⟨(congrArg S.v (congrArg V.c (congrArg (C.int .i64) (by simp [widthOf, *])))), rfl⟩
  exact ⟨(congrArg S.v (congrArg V.c (congrArg (C.int .i64) (by simp [widthOf, *])))), rfl⟩
theorem bitsFit_i (k : Int) (u : Int) (hp1 : (0 : Int) ≤ u ∧ u ≤ 18446744073709551615) : Fun Try.prog 180 [vI k, .c (.int .u64 u)] [] (.v (vB (bitsFit k u))) [] := by
  have hN : bigN = 274877906944 := rfl
  refine fun_ofw Try.func180 (by kernel_rfl) (by kernel_rfl) (w := let z1 := vB (bitsFit k u); let z2 := ([] : List Blk); let z3 := (.v (vB true) : S); (.br (.seg [.br true] (.leaf () [])) (.br (.seg [.br true] (.leaf () [])) (.br (.leaf () []) (.br (.leaf () []) (.br (.seg [.as 17 (.v (.c (.int .u64 (u / 4294967296))))] (.leaf () [])) (.leaf () []))))), ((decide (k = 1)) = true → ((decide (k = 1)) = true) ∧ z3 = .v z1 ∧ z2 = []) ∧ ((decide (k = 1)) = false → ((decide (k = 2)) = true → ((decide (k = 2)) = true) ∧ z3 = .v z1 ∧ z2 = []) ∧ ((decide (k = 2)) = false → ((decide (k = 5)) = true → z3 = .v z1 ∧ z2 = []) ∧ ((decide (k = 5)) = false → ((decide (k = 3)) = true → (.v (vB (decide (u ≤ 1))) : S) = .v z1 ∧ z2 = []) ∧ ((decide (k = 3)) = false → ((decide (k = 4)) = true → ((0 : Int) ≤ 32) ∧ ((.v (.c (.int .u64 (Int.fdiv u (2 ^ 32)))) : S) = .v (.c (.int .u64 (u / 4294967296)))) ∧ (.v (vB (decide (u / 4294967296 = 0))) : S) = .v z1 ∧ z2 = []) ∧ ((decide (k = 4)) = false → (.v (vB false) : S) = .v z1 ∧ z2 = []))))))) (by kernel_rfl) ?_
  refine ⟨fun h1 => have p1 := of_decide_eq_true h1; ?_, fun h1 => have p1 := of_decide_eq_false h1; ?_⟩
  refine ⟨h1, (sB ?_), rfl⟩
  rotate_left
  refine ⟨fun h2 => have p2 := of_decide_eq_true h2; ?_, fun h2 => have p2 := of_decide_eq_false h2; ?_⟩
  refine ⟨h2, (sB ?_), rfl⟩
  rotate_left
  refine ⟨fun h3 => have p3 := of_decide_eq_true h3; ?_, fun h3 => have p3 := of_decide_eq_false h3; ?_⟩
  refine ⟨(sB ?_), rfl⟩
  rotate_left
  refine ⟨fun h4 => have p4 := of_decide_eq_true h4; ?_, fun h4 => have p4 := of_decide_eq_false h4; ?_⟩
  refine ⟨(sB ?_), rfl⟩
  rotate_left
  refine ⟨fun h5 => have p5 := of_decide_eq_true h5; ?_, fun h5 => have p5 := of_decide_eq_false h5; ?_⟩
  refine ⟨(by decide), (as_shr (k := 32) (by decide) (by decide)), (sB ?_), rfl⟩
  rotate_left
  refine ⟨(sB ?_), rfl⟩
  rotate_left
  all_goals simp [bitsFit, numeric, within, *] <;> omega
theorem bitsFit_s (k : Int) (u : Int) (hp1 : (0 : Int) ≤ u ∧ u ≤ 18446744073709551615) : Fun Try.prog 165 [vI k, .c (.int .u64 u)] [] (.v (vB (bitsFit k u))) [] := by
  have hN : bigN = 274877906944 := rfl
  refine fun_ofw Try.func165 (by kernel_rfl) (by kernel_rfl) (w := let z1 := vB (bitsFit k u); (.br (.leaf () []) (.br (.leaf () []) (.seg [.call [] (.v (vB (numeric k))) []] (.leaf () []))), ((decide (k = 3)) = true → (.v (vB (decide (u ≤ 1))) : S) = .v z1 ∧ ([] : List Blk) = []) ∧ ((decide (k = 3)) = false → ((decide (k = 4)) = true → (.v (vB (decide (u ≤ 4294967295))) : S) = .v z1 ∧ ([] : List Blk) = []) ∧ ((decide (k = 4)) = false → (Fun Try.prog 155 [vI k] [] (.v (vB (numeric k))) []) ∧ (.v (vB (numeric k)) : S) = .v z1 ∧ ([] : List Blk) = [])))) (by kernel_rfl) ?_
  refine ⟨fun h1 => have p1 := of_decide_eq_true h1; ?_, fun h1 => have p1 := of_decide_eq_false h1; ?_⟩
  refine ⟨(sB ?_), rfl⟩
  rotate_left
  refine ⟨fun h2 => have p2 := of_decide_eq_true h2; ?_, fun h2 => have p2 := of_decide_eq_false h2; ?_⟩
  refine ⟨(sB ?_), rfl⟩
  rotate_left
  refine ⟨(numeric_s _), (sB ?_), rfl⟩
  rotate_left
  all_goals simp [bitsFit, numeric, within, *] <;> omega
theorem runs_i (f : Fld) : Fun Try.prog 132 [.agg (cFld f)] [] (.v (vB (runs f))) [] := by
  have hN : bigN = 274877906944 := rfl
  refine fun_ofw Try.func132 (by kernel_rfl) (by kernel_rfl) (w := let z1 := vB (numeric f.kind); (.br (.seg [.call [] (.v z1) []] (.leaf () [])) (.leaf () []), (f.rep = true → (Fun Try.prog 133 [vI f.kind] [] (.v z1) []) ∧ (.v z1 : S) = .v (vB (runs f)) ∧ ([] : List Blk) = []) ∧ (f.rep = false → (.v (vB false) : S) = .v (vB (runs f)) ∧ ([] : List Blk) = []))) (by kernel_rfl) ?_
  refine ⟨fun h1 => ?_, fun h1 => ?_⟩
  exact ⟨(numeric_i _), (congrArg S.v (congrArg V.c (congrArg C.bool (by simp [runs, *])))), rfl⟩
  exact ⟨(congrArg S.v (congrArg V.c (congrArg C.bool (by simp [runs, *])))), rfl⟩
theorem runs_s (f : Fld) : Fun Try.prog 125 [.agg (cFld f)] [] (.v (vB (runs f))) [] := by
  have hN : bigN = 274877906944 := rfl
  refine fun_ofw Try.func125 (by kernel_rfl) (by kernel_rfl) (w := let z1 := vB (numeric f.kind); (.br (.seg [.call [] (.v z1) []] (.leaf () [])) (.leaf () []), (f.rep = true → (Fun Try.prog 155 [vI f.kind] [] (.v z1) []) ∧ (.v z1 : S) = .v (vB (runs f)) ∧ ([] : List Blk) = []) ∧ (f.rep = false → (.v (vB false) : S) = .v (vB (runs f)) ∧ ([] : List Blk) = []))) (by kernel_rfl) ?_
  refine ⟨fun h1 => ?_, fun h1 => ?_⟩
  exact ⟨(numeric_s _), (congrArg S.v (congrArg V.c (congrArg C.bool (by simp [runs, *])))), rfl⟩
  exact ⟨(congrArg S.v (congrArg V.c (congrArg C.bool (by simp [runs, *])))), rfl⟩
theorem allowed_i (f : Fld) (w : Int) (hp1 : (0 : Int) ≤ w) : Fun Try.prog 89 [.agg (cFld f), vI w] [] (.v (vB (allowed f w))) [] := by
  have hN : bigN = 274877906944 := rfl
  refine fun_ofw Try.func89 (by kernel_rfl) (by kernel_rfl) (w := let z1 := vB (allowed f w); (.seg [.call [] (.v (vI (wireOf f.kind))) []] (.br (.leaf () []) (.br (.seg [.call [] (.v (vB (runs f))) []] (.leaf () [])) (.leaf () []))), (Fun Try.prog 131 [vI f.kind] [] (.v (vI (wireOf f.kind))) []) ∧ ((decide (w = wireOf f.kind)) = true → (.v (vB true) : S) = .v z1 ∧ ([] : List Blk) = []) ∧ ((decide (w = wireOf f.kind)) = false → ((decide (w = 2)) = true → (Fun Try.prog 132 [.agg (cFld f)] [] (.v (vB (runs f))) []) ∧ (.v (vB (runs f)) : S) = .v z1 ∧ ([] : List Blk) = []) ∧ ((decide (w = 2)) = false → (.v (vB false) : S) = .v z1 ∧ ([] : List Blk) = [])))) (by kernel_rfl) ?_
  refine ⟨(wireOf_i _), fun h1 => have p1 := of_decide_eq_true h1; ?_, fun h1 => have p1 := of_decide_eq_false h1; ?_⟩
  refine ⟨(sB ?_), rfl⟩
  rotate_left
  refine ⟨fun h2 => have p2 := of_decide_eq_true h2; ?_, fun h2 => have p2 := of_decide_eq_false h2; ?_⟩
  refine ⟨(runs_i f), (sB ?_), rfl⟩
  rotate_left
  refine ⟨(sB ?_), rfl⟩
  rotate_left
  all_goals first | (simp [allowed, *] <;> (repeat' split) <;> omega) | (simp [allowed, wireOf, *] <;> (repeat' split) <;> omega)
theorem allowed_s (f : Fld) (w : Int) (hp1 : (0 : Int) ≤ w) : Fun Try.prog 83 [.agg (cFld f), vI w] [] (.v (vB (allowed f w))) [] := by
  have hN : bigN = 274877906944 := rfl
  refine fun_ofw Try.func83 (by kernel_rfl) (by kernel_rfl) (w := let z2 := vB (runs f); let z3 := vB (allowed f w); let z4 := kindOk f.kind; let z5 := ([] : List Blk); let z1 := (decide (w = 2)) = false → (.v (vB false) : S) = .v z3 ∧ z5 = []; (.seg [.call [] (.v (vB z4)) []] (.br (.seg [.call [] (.v (vI (wireOf f.kind))) []] (.br (.leaf () []) (.br (.seg [.call [] (.v z2) []] (.leaf () [])) (.leaf () [])))) (.br (.seg [.call [] (.v z2) []] (.leaf () [])) (.leaf () []))), (Fun Try.prog 123 [vI f.kind] [] (.v (vB z4)) []) ∧ (z4 = true → (Fun Try.prog 124 [vI f.kind] [] (.v (vI (wireOf f.kind))) []) ∧ ((decide (w = wireOf f.kind)) = true → (.v (vB true) : S) = .v z3 ∧ z5 = []) ∧ ((decide (w = wireOf f.kind)) = false → ((decide (w = 2)) = true → (Fun Try.prog 125 [.agg (cFld f)] [] (.v z2) []) ∧ (.v z2 : S) = .v z3 ∧ z5 = []) ∧ z1)) ∧ (z4 = false → ((decide (w = 2)) = true → (Fun Try.prog 125 [.agg (cFld f)] [] (.v z2) []) ∧ (.v z2 : S) = .v z3 ∧ z5 = []) ∧ z1))) (by kernel_rfl) ?_
  refine ⟨(kindOk_s _), fun h1 => have p1 := within_t h1; ?_, fun h1 => have p1 := within_f h1; ?_⟩
  refine ⟨(wireOf_s _), fun h2 => have p2 := of_decide_eq_true h2; ?_, fun h2 => have p2 := of_decide_eq_false h2; ?_⟩
  refine ⟨(sB ?_), rfl⟩
  rotate_left
  refine ⟨fun h3 => have p3 := of_decide_eq_true h3; ?_, fun h3 => have p3 := of_decide_eq_false h3; ?_⟩
  refine ⟨(runs_s f), (sB ?_), rfl⟩
  rotate_left
  refine ⟨(sB ?_), rfl⟩
  rotate_left
  refine ⟨fun h2 => have p2 := of_decide_eq_true h2; ?_, fun h2 => have p2 := of_decide_eq_false h2; ?_⟩
  refine ⟨(runs_s f), (sB ?_), rfl⟩
  rotate_left
  refine ⟨(sB ?_), rfl⟩
  rotate_left
  all_goals first | (simp [allowed, *] <;> (repeat' split) <;> omega) | (simp [allowed, wireOf, *] <;> (repeat' split) <;> omega)
end Go.Proofs.Ytecljjcmjongfaa.Ax
