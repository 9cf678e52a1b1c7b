/- Utf-8. -/
import Derived.Test.YtecljjcmjongfaaNC
namespace Go.Proofs.Ytecljjcmjongfaa.Ax
open Go.RowKit
set_option linter.unusedSimpArgs false
set_option linter.unusedVariables false
theorem utfOk_i (u : Utf) : Fun Try.prog 184 [.agg (cUtf u)] [] (.v (vB (utfOk u))) [] := by
  have hN : bigN = 274877906944 := rfl
  refine fun_ofw Try.func184 (by kernel_rfl) (by kernel_rfl) (w := let z1 := decide (u.low = 128) && decide (u.high = 191); let z2 := decide (u.want = 2) && (decide (u.low = 160) && decide (u.high = 191)); let z3 := decide (u.want = 2) && (decide (u.low = 128) && decide (u.high = 159)); let z4 := decide (u.want = 3) && (decide (u.low = 144) && decide (u.high = 191)); let z5 := decide (u.want = 0) && (decide (u.low = 0) && decide (u.high = 0)); let z6 := (.v (vB true) : S); let z7 := ([] : List Blk); let z8 := vB (utfOk u); let z9 := decide (u.want = 3) && (decide (u.low = 128) && decide (u.high = 143)); let z10 := decide (u.want = 1) && z1; let z11 := decide (u.want = 2) && z1; let z12 := decide (u.want = 3) && z1; (.br (.seg [.br true] (.leaf () [])) (.br (.seg [.br true] (.leaf () [])) (.br (.seg [.br true] (.leaf () [])) (.br (.seg [.br true] (.leaf () [])) (.br (.seg [.br true] (.leaf () [])) (.br (.seg [.br true] (.leaf () [])) (.br (.seg [.br true] (.leaf () [])) (.br (.leaf () []) (.leaf () [])))))))), (z5 = true → (z5 = true) ∧ z6 = .v z8 ∧ z7 = []) ∧ (z5 = false → (z10 = true → (z10 = true) ∧ z6 = .v z8 ∧ z7 = []) ∧ (z10 = false → (z11 = true → (z11 = true) ∧ z6 = .v z8 ∧ z7 = []) ∧ (z11 = false → (z12 = true → (z12 = true) ∧ z6 = .v z8 ∧ z7 = []) ∧ (z12 = false → (z2 = true → (z2 = true) ∧ z6 = .v z8 ∧ z7 = []) ∧ (z2 = false → (z3 = true → (z3 = true) ∧ z6 = .v z8 ∧ z7 = []) ∧ (z3 = false → (z4 = true → (z4 = true) ∧ z6 = .v z8 ∧ z7 = []) ∧ (z4 = false → (z9 = true → z6 = .v z8 ∧ z7 = []) ∧ (z9 = false → (.v (vB false) : S) = .v z8 ∧ z7 = [])))))))))) (by kernel_rfl) ?_
  refine ⟨fun h1 => have p1 := (andT dT (andT dT dT)).1 h1; ?_, fun h1 => have p1 := (andF dT (andF dT dF)).1 h1; ?_⟩
  refine ⟨h1, (sB ?_), rfl⟩
  rotate_left
  refine ⟨fun h2 => have p2 := (andT dT (andT dT dT)).1 h2; ?_, fun h2 => have p2 := (andF dT (andF dT dF)).1 h2; ?_⟩
  refine ⟨h2, (sB ?_), rfl⟩
  rotate_left
  refine ⟨fun h3 => have p3 := (andT dT (andT dT dT)).1 h3; ?_, fun h3 => have p3 := (andF dT (andF dT dF)).1 h3; ?_⟩
  refine ⟨h3, (sB ?_), rfl⟩
  rotate_left
  refine ⟨fun h4 => have p4 := (andT dT (andT dT dT)).1 h4; ?_, fun h4 => have p4 := (andF dT (andF dT dF)).1 h4; ?_⟩
  refine ⟨h4, (sB ?_), rfl⟩
  rotate_left
  refine ⟨fun h5 => have p5 := (andT dT (andT dT dT)).1 h5; ?_, fun h5 => have p5 := (andF dT (andF dT dF)).1 h5; ?_⟩
  refine ⟨h5, (sB ?_), rfl⟩
  rotate_left
  refine ⟨fun h6 => have p6 := (andT dT (andT dT dT)).1 h6; ?_, fun h6 => have p6 := (andF dT (andF dT dF)).1 h6; ?_⟩
  refine ⟨h6, (sB ?_), rfl⟩
  rotate_left
  refine ⟨fun h7 => have p7 := (andT dT (andT dT dT)).1 h7; ?_, fun h7 => have p7 := (andF dT (andF dT dF)).1 h7; ?_⟩
  refine ⟨h7, (sB ?_), rfl⟩
  rotate_left
  refine ⟨fun h8 => have p8 := (andT dT (andT dT dT)).1 h8; ?_, fun h8 => have p8 := (andF dT (andF dT dF)).1 h8; ?_⟩
  refine ⟨(sB ?_), rfl⟩
  rotate_left
  refine ⟨(sB ?_), rfl⟩
  rotate_left
  all_goals first | (rw [Bool.eq_iff_iff]; simp [utfOk, utfIs]; omega) | (rw [Bool.eq_iff_iff]; simp [utfOk, utfIs, within]; omega) | (simp_all [utfOk, utfIs, within]; done)
theorem utfOk_s (u : Utf) : Fun Try.prog 182 [.agg (cUtf u)] [] (.v (vB (utfOk u))) [] := by
  have hN : bigN = 274877906944 := rfl
  refine fun_ofw Try.func182 (by kernel_rfl) (by kernel_rfl) (w := let z1 := decide (u.low = 128); let z2 := ([] : List Blk); let z3 := vB (utfOk u); let z4 := decide (u.high = 191); let z5 := (.v (vB false) : S); let z6 := decide (u.want = 0) && (decide (u.low = 0) && decide (u.high = 0)); let z7 := decide (u.low = 160); let z8 := decide (u.low = 144); let z9 := decide (u.want = 2); let z10 := decide (u.want = 3); let z11 := z4 = true → (.v (vB true) : S) = .v z3 ∧ z2 = []; let z12 := z4 = false → (z1 = false) ∧ z5 = .v z3 ∧ z2 = []; let z13 := vB (within u.want 1 3); let z14 := (.v (vB (decide (u.high = 159))) : S); let z15 := (.v (vB (decide (u.high = 143))) : S); let z16 := z10 = false → z5 = .v z3 ∧ z2 = []; (.br (.leaf () []) (.br (.br (.seg [.call [] (.v z13) []] (.leaf () [])) (.br (.br (.seg [.br false, .br true] (.leaf () [])) (.seg [.br true] (.leaf () []))) (.br (.br (.seg [.br false, .br true] (.leaf () [])) (.seg [.br true] (.leaf () []))) (.leaf () [])))) (.br (.br (.br (.leaf () []) (.seg [.br false] (.leaf () []))) (.seg [.br false] (.leaf () []))) (.br (.br (.br (.leaf () []) (.seg [.br false] (.leaf () []))) (.seg [.br false] (.leaf () []))) (.leaf () [])))), (z6 = true → (.v (vB true) : S) = .v z3 ∧ z2 = []) ∧ (z6 = false → (z1 = true → (z4 = true → (Fun Try.prog 47 [vI u.want, vI 1, vI 3] [] (.v z13) []) ∧ (.v z13 : S) = .v z3 ∧ z2 = []) ∧ (z4 = false → (z9 = true → (z7 = true → (z4 = false) ∧ (z1 = true) ∧ z14 = .v z3 ∧ z2 = []) ∧ (z7 = false → (z1 = true) ∧ z14 = .v z3 ∧ z2 = [])) ∧ (z9 = false → (z10 = true → (z8 = true → (z4 = false) ∧ (z1 = true) ∧ z15 = .v z3 ∧ z2 = []) ∧ (z8 = false → (z1 = true) ∧ z15 = .v z3 ∧ z2 = [])) ∧ z16))) ∧ (z1 = false → (z9 = true → (z7 = true → z11 ∧ z12) ∧ (z7 = false → (z1 = false) ∧ z5 = .v z3 ∧ z2 = [])) ∧ (z9 = false → (z10 = true → (z8 = true → z11 ∧ z12) ∧ (z8 = false → (z1 = false) ∧ z5 = .v z3 ∧ z2 = [])) ∧ z16))))) (by kernel_rfl) ?_
  refine ⟨fun h1 => have p1 := (andT dT (andT dT dT)).1 h1; ?_, fun h1 => have p1 := (andF dT (andF dT dF)).1 h1; ?_⟩
  refine ⟨(sB ?_), rfl⟩
  rotate_left
  refine ⟨fun h2 => have p2 := of_decide_eq_true h2; ?_, fun h2 => have p2 := of_decide_eq_false h2; ?_⟩
  refine ⟨fun h3 => have p3 := of_decide_eq_true h3; ?_, fun h3 => have p3 := of_decide_eq_false h3; ?_⟩
  refine ⟨(within_s _ _ _), (sB ?_), rfl⟩
  rotate_left
  refine ⟨fun h4 => have p4 := of_decide_eq_true h4; ?_, fun h4 => have p4 := of_decide_eq_false h4; ?_⟩
  refine ⟨fun h5 => have p5 := of_decide_eq_true h5; ?_, fun h5 => have p5 := of_decide_eq_false h5; ?_⟩
  refine ⟨h3, h2, (sB ?_), rfl⟩
  rotate_left
  refine ⟨h2, (sB ?_), rfl⟩
  rotate_left
  refine ⟨fun h5 => have p5 := of_decide_eq_true h5; ?_, fun h5 => have p5 := of_decide_eq_false h5; ?_⟩
  refine ⟨fun h6 => have p6 := of_decide_eq_true h6; ?_, fun h6 => have p6 := of_decide_eq_false h6; ?_⟩
  refine ⟨h3, h2, (sB ?_), rfl⟩
  rotate_left
  refine ⟨h2, (sB ?_), rfl⟩
  rotate_left
  refine ⟨(sB ?_), rfl⟩
  rotate_left
  refine ⟨fun h3 => have p3 := of_decide_eq_true h3; ?_, fun h3 => have p3 := of_decide_eq_false h3; ?_⟩
  refine ⟨fun h4 => have p4 := of_decide_eq_true h4; ?_, fun h4 => have p4 := of_decide_eq_false h4; ?_⟩
  refine ⟨fun h5 => have p5 := of_decide_eq_true h5; ?_, fun h5 => have p5 := of_decide_eq_false h5; ?_⟩
  refine ⟨(sB ?_), rfl⟩
  rotate_left
  refine ⟨h2, (sB ?_), rfl⟩
  rotate_left
  refine ⟨h2, (sB ?_), rfl⟩
  rotate_left
  refine ⟨fun h4 => have p4 := of_decide_eq_true h4; ?_, fun h4 => have p4 := of_decide_eq_false h4; ?_⟩
  refine ⟨fun h5 => have p5 := of_decide_eq_true h5; ?_, fun h5 => have p5 := of_decide_eq_false h5; ?_⟩
  refine ⟨fun h6 => have p6 := of_decide_eq_true h6; ?_, fun h6 => have p6 := of_decide_eq_false h6; ?_⟩
  refine ⟨(sB ?_), rfl⟩
  rotate_left
  refine ⟨h2, (sB ?_), rfl⟩
  rotate_left
  refine ⟨h2, (sB ?_), rfl⟩
  rotate_left
  refine ⟨(sB ?_), rfl⟩
  rotate_left
  all_goals first | (rw [Bool.eq_iff_iff]; simp [utfOk, utfIs]; omega) | (rw [Bool.eq_iff_iff]; simp [utfOk, utfIs, within]; omega) | (simp_all [utfOk, utfIs, within]; done)
theorem utfFirst_i (b : Int) : Fun Try.prog 185 [vI b] [] (.tup [.agg (cUtf ((utfFirst b).getD utf0)), vB (utfFirst b).isSome]) [] := by
  have hN : bigN = 274877906944 := rfl
  refine fun_ofw Try.func185 (by kernel_rfl) (by kernel_rfl) (w := let z2 := ([] : List Blk); let z3 := utfFirst b; let z1 := cUtf (z3.getD utf0); let z4 := decide (b = 224); let z5 := decide (b = 237); let z6 := decide (b = 240); let z7 := decide (b = 244); let z8 := within b 194 223; let z9 := within b 224 239; let z10 := within b 240 244; let z11 := within b 0 127; (.seg [.call [] (.v (vB z11)) []] (.br (.leaf () []) (.seg [.call [] (.v (vB z8)) []] (.br (.br (.leaf () []) (.br (.leaf () []) (.br (.leaf () []) (.br (.leaf () []) (.leaf () []))))) (.seg [.call [] (.v (vB z9)) []] (.br (.br (.leaf () []) (.br (.leaf () []) (.br (.leaf () []) (.br (.leaf () []) (.leaf () []))))) (.seg [.call [] (.v (vB z10)) []] (.br (.br (.leaf () []) (.br (.leaf () []) (.br (.leaf () []) (.br (.leaf () []) (.leaf () []))))) (.leaf () [])))))))), (Fun Try.prog 49 [vI b, vI 0, vI 127] [] (.v (vB z11)) []) ∧ (z11 = true → (.tup [.agg [.int .i64 0, .int .i64 0, .int .i64 0], vB true] : S) = .tup [.agg z1, vB z3.isSome] ∧ z2 = []) ∧ (z11 = false → (Fun Try.prog 49 [vI b, vI 194, vI 223] [] (.v (vB z8)) []) ∧ (z8 = true → (z4 = true → (.tup [.agg [.int .i64 1, .int .i64 160, .int .i64 191], vB true] : S) = .tup [.agg z1, vB z3.isSome] ∧ z2 = []) ∧ (z4 = false → (z5 = true → (.tup [.agg [.int .i64 1, .int .i64 128, .int .i64 159], vB true] : S) = .tup [.agg z1, vB z3.isSome] ∧ z2 = []) ∧ (z5 = false → (z6 = true → (.tup [.agg [.int .i64 1, .int .i64 144, .int .i64 191], vB true] : S) = .tup [.agg z1, vB z3.isSome] ∧ z2 = []) ∧ (z6 = false → (z7 = true → (.tup [.agg [.int .i64 1, .int .i64 128, .int .i64 143], vB true] : S) = .tup [.agg z1, vB z3.isSome] ∧ z2 = []) ∧ (z7 = false → (.tup [.agg [.int .i64 1, .int .i64 128, .int .i64 191], vB true] : S) = .tup [.agg z1, vB z3.isSome] ∧ z2 = []))))) ∧ (z8 = false → (Fun Try.prog 49 [vI b, vI 224, vI 239] [] (.v (vB z9)) []) ∧ (z9 = true → (z4 = true → (.tup [.agg [.int .i64 2, .int .i64 160, .int .i64 191], vB true] : S) = .tup [.agg z1, vB z3.isSome] ∧ z2 = []) ∧ (z4 = false → (z5 = true → (.tup [.agg [.int .i64 2, .int .i64 128, .int .i64 159], vB true] : S) = .tup [.agg z1, vB z3.isSome] ∧ z2 = []) ∧ (z5 = false → (z6 = true → (.tup [.agg [.int .i64 2, .int .i64 144, .int .i64 191], vB true] : S) = .tup [.agg z1, vB z3.isSome] ∧ z2 = []) ∧ (z6 = false → (z7 = true → (.tup [.agg [.int .i64 2, .int .i64 128, .int .i64 143], vB true] : S) = .tup [.agg z1, vB z3.isSome] ∧ z2 = []) ∧ (z7 = false → (.tup [.agg [.int .i64 2, .int .i64 128, .int .i64 191], vB true] : S) = .tup [.agg z1, vB z3.isSome] ∧ z2 = []))))) ∧ (z9 = false → (Fun Try.prog 49 [vI b, vI 240, vI 244] [] (.v (vB z10)) []) ∧ (z10 = true → (z4 = true → (.tup [.agg [.int .i64 3, .int .i64 160, .int .i64 191], vB true] : S) = .tup [.agg z1, vB z3.isSome] ∧ z2 = []) ∧ (z4 = false → (z5 = true → (.tup [.agg [.int .i64 3, .int .i64 128, .int .i64 159], vB true] : S) = .tup [.agg z1, vB z3.isSome] ∧ z2 = []) ∧ (z5 = false → (z6 = true → (.tup [.agg [.int .i64 3, .int .i64 144, .int .i64 191], vB true] : S) = .tup [.agg z1, vB z3.isSome] ∧ z2 = []) ∧ (z6 = false → (z7 = true → (.tup [.agg [.int .i64 3, .int .i64 128, .int .i64 143], vB true] : S) = .tup [.agg z1, vB z3.isSome] ∧ z2 = []) ∧ (z7 = false → (.tup [.agg [.int .i64 3, .int .i64 128, .int .i64 191], vB true] : S) = .tup [.agg z1, vB z3.isSome] ∧ z2 = []))))) ∧ (z10 = false → (.tup [.agg [.int .i64 0, .int .i64 0, .int .i64 0], vB false] : S) = .tup [.agg z1, vB z3.isSome] ∧ z2 = [])))))) (by kernel_rfl) ?_
  refine ⟨(within_i _ _ _), fun h1 => have p1 := within_t h1; ?_, fun h1 => have p1 := within_f h1; ?_⟩
  refine have hm1 : (utfFirst b).getD utf0 = utf0 := ?_; ?_
  rotate_left
  refine ⟨(congrArg S.tup (consE (congrArg V.agg (consE (congrArg (C.int .i64) ?_) (consE (congrArg (C.int .i64) ?_) (consE (congrArg (C.int .i64) ?_) rfl)))) (consE (congrArg V.c (congrArg C.bool ?_)) rfl))), rfl⟩
  rotate_left 4
  refine ⟨(within_i _ _ _), fun h2 => have p2 := within_t h2; ?_, fun h2 => have p2 := within_f h2; ?_⟩
  refine ⟨fun h3 => have p3 := of_decide_eq_true h3; ?_, fun h3 => have p3 := of_decide_eq_false h3; ?_⟩
  refine have hm1 : (utfFirst b).getD utf0 = (⟨1, 160, 191⟩ : Utf) := ?_; ?_
  rotate_left
  refine ⟨(congrArg S.tup (consE (congrArg V.agg (consE (congrArg (C.int .i64) ?_) (consE (congrArg (C.int .i64) ?_) (consE (congrArg (C.int .i64) ?_) rfl)))) (consE (congrArg V.c (congrArg C.bool ?_)) rfl))), rfl⟩
  rotate_left 4
  refine ⟨fun h4 => have p4 := of_decide_eq_true h4; ?_, fun h4 => have p4 := of_decide_eq_false h4; ?_⟩
  refine have hm1 : (utfFirst b).getD utf0 = (⟨1, 128, 159⟩ : Utf) := ?_; ?_
  rotate_left
  refine ⟨(congrArg S.tup (consE (congrArg V.agg (consE (congrArg (C.int .i64) ?_) (consE (congrArg (C.int .i64) ?_) (consE (congrArg (C.int .i64) ?_) rfl)))) (consE (congrArg V.c (congrArg C.bool ?_)) rfl))), rfl⟩
  rotate_left 4
  refine ⟨fun h5 => have p5 := of_decide_eq_true h5; ?_, fun h5 => have p5 := of_decide_eq_false h5; ?_⟩
  refine have hm1 : (utfFirst b).getD utf0 = (⟨1, 144, 191⟩ : Utf) := ?_; ?_
  rotate_left
  refine ⟨(congrArg S.tup (consE (congrArg V.agg (consE (congrArg (C.int .i64) ?_) (consE (congrArg (C.int .i64) ?_) (consE (congrArg (C.int .i64) ?_) rfl)))) (consE (congrArg V.c (congrArg C.bool ?_)) rfl))), rfl⟩
  rotate_left 4
  refine ⟨fun h6 => have p6 := of_decide_eq_true h6; ?_, fun h6 => have p6 := of_decide_eq_false h6; ?_⟩
  refine have hm1 : (utfFirst b).getD utf0 = (⟨1, 128, 143⟩ : Utf) := ?_; ?_
  rotate_left
  refine ⟨(congrArg S.tup (consE (congrArg V.agg (consE (congrArg (C.int .i64) ?_) (consE (congrArg (C.int .i64) ?_) (consE (congrArg (C.int .i64) ?_) rfl)))) (consE (congrArg V.c (congrArg C.bool ?_)) rfl))), rfl⟩
  rotate_left 4
  refine have hm1 : (utfFirst b).getD utf0 = (⟨1, 128, 191⟩ : Utf) := ?_; ?_
  rotate_left
  refine ⟨(congrArg S.tup (consE (congrArg V.agg (consE (congrArg (C.int .i64) ?_) (consE (congrArg (C.int .i64) ?_) (consE (congrArg (C.int .i64) ?_) rfl)))) (consE (congrArg V.c (congrArg C.bool ?_)) rfl))), rfl⟩
  rotate_left 4
  refine ⟨(within_i _ _ _), fun h3 => have p3 := within_t h3; ?_, fun h3 => have p3 := within_f h3; ?_⟩
  refine ⟨fun h4 => have p4 := of_decide_eq_true h4; ?_, fun h4 => have p4 := of_decide_eq_false h4; ?_⟩
  refine have hm1 : (utfFirst b).getD utf0 = (⟨2, 160, 191⟩ : Utf) := ?_; ?_
  rotate_left
  refine ⟨(congrArg S.tup (consE (congrArg V.agg (consE (congrArg (C.int .i64) ?_) (consE (congrArg (C.int .i64) ?_) (consE (congrArg (C.int .i64) ?_) rfl)))) (consE (congrArg V.c (congrArg C.bool ?_)) rfl))), rfl⟩
  rotate_left 4
  refine ⟨fun h5 => have p5 := of_decide_eq_true h5; ?_, fun h5 => have p5 := of_decide_eq_false h5; ?_⟩
  refine have hm1 : (utfFirst b).getD utf0 = (⟨2, 128, 159⟩ : Utf) := ?_; ?_
  rotate_left
  refine ⟨(congrArg S.tup (consE (congrArg V.agg (consE (congrArg (C.int .i64) ?_) (consE (congrArg (C.int .i64) ?_) (consE (congrArg (C.int .i64) ?_) rfl)))) (consE (congrArg V.c (congrArg C.bool ?_)) rfl))), rfl⟩
  rotate_left 4
  refine ⟨fun h6 => have p6 := of_decide_eq_true h6; ?_, fun h6 => have p6 := of_decide_eq_false h6; ?_⟩
  refine have hm1 : (utfFirst b).getD utf0 = (⟨2, 144, 191⟩ : Utf) := ?_; ?_
  rotate_left
  refine ⟨(congrArg S.tup (consE (congrArg V.agg (consE (congrArg (C.int .i64) ?_) (consE (congrArg (C.int .i64) ?_) (consE (congrArg (C.int .i64) ?_) rfl)))) (consE (congrArg V.c (congrArg C.bool ?_)) rfl))), rfl⟩
  rotate_left 4
  refine ⟨fun h7 => have p7 := of_decide_eq_true h7; ?_, fun h7 => have p7 := of_decide_eq_false h7; ?_⟩
  refine have hm1 : (utfFirst b).getD utf0 = (⟨2, 128, 143⟩ : Utf) := ?_; ?_
  rotate_left
  refine ⟨(congrArg S.tup (consE (congrArg V.agg (consE (congrArg (C.int .i64) ?_) (consE (congrArg (C.int .i64) ?_) (consE (congrArg (C.int .i64) ?_) rfl)))) (consE (congrArg V.c (congrArg C.bool ?_)) rfl))), rfl⟩
  rotate_left 4
  refine have hm1 : (utfFirst b).getD utf0 = (⟨2, 128, 191⟩ : Utf) := ?_; ?_
  rotate_left
  refine ⟨(congrArg S.tup (consE (congrArg V.agg (consE (congrArg (C.int .i64) ?_) (consE (congrArg (C.int .i64) ?_) (consE (congrArg (C.int .i64) ?_) rfl)))) (consE (congrArg V.c (congrArg C.bool ?_)) rfl))), rfl⟩
  rotate_left 4
  refine ⟨(within_i _ _ _), fun h4 => have p4 := within_t h4; ?_, fun h4 => have p4 := within_f h4; ?_⟩
  refine ⟨fun h5 => have p5 := of_decide_eq_true h5; ?_, fun h5 => have p5 := of_decide_eq_false h5; ?_⟩
  refine have hm1 : (utfFirst b).getD utf0 = (⟨3, 160, 191⟩ : Utf) := ?_; ?_
  rotate_left
  refine ⟨(congrArg S.tup (consE (congrArg V.agg (consE (congrArg (C.int .i64) ?_) (consE (congrArg (C.int .i64) ?_) (consE (congrArg (C.int .i64) ?_) rfl)))) (consE (congrArg V.c (congrArg C.bool ?_)) rfl))), rfl⟩
  rotate_left 4
  refine ⟨fun h6 => have p6 := of_decide_eq_true h6; ?_, fun h6 => have p6 := of_decide_eq_false h6; ?_⟩
  refine have hm1 : (utfFirst b).getD utf0 = (⟨3, 128, 159⟩ : Utf) := ?_; ?_
  rotate_left
  refine ⟨(congrArg S.tup (consE (congrArg V.agg (consE (congrArg (C.int .i64) ?_) (consE (congrArg (C.int .i64) ?_) (consE (congrArg (C.int .i64) ?_) rfl)))) (consE (congrArg V.c (congrArg C.bool ?_)) rfl))), rfl⟩
  rotate_left 4
  refine ⟨fun h7 => have p7 := of_decide_eq_true h7; ?_, fun h7 => have p7 := of_decide_eq_false h7; ?_⟩
  refine have hm1 : (utfFirst b).getD utf0 = (⟨3, 144, 191⟩ : Utf) := ?_; ?_
  rotate_left
  refine ⟨(congrArg S.tup (consE (congrArg V.agg (consE (congrArg (C.int .i64) ?_) (consE (congrArg (C.int .i64) ?_) (consE (congrArg (C.int .i64) ?_) rfl)))) (consE (congrArg V.c (congrArg C.bool ?_)) rfl))), rfl⟩
  rotate_left 4
  refine ⟨fun h8 => have p8 := of_decide_eq_true h8; ?_, fun h8 => have p8 := of_decide_eq_false h8; ?_⟩
  refine have hm1 : (utfFirst b).getD utf0 = (⟨3, 128, 143⟩ : Utf) := ?_; ?_
  rotate_left
  refine ⟨(congrArg S.tup (consE (congrArg V.agg (consE (congrArg (C.int .i64) ?_) (consE (congrArg (C.int .i64) ?_) (consE (congrArg (C.int .i64) ?_) rfl)))) (consE (congrArg V.c (congrArg C.bool ?_)) rfl))), rfl⟩
  rotate_left 4
  refine have hm1 : (utfFirst b).getD utf0 = (⟨3, 128, 191⟩ : Utf) := ?_; ?_
  rotate_left
  refine ⟨(congrArg S.tup (consE (congrArg V.agg (consE (congrArg (C.int .i64) ?_) (consE (congrArg (C.int .i64) ?_) (consE (congrArg (C.int .i64) ?_) rfl)))) (consE (congrArg V.c (congrArg C.bool ?_)) rfl))), rfl⟩
  rotate_left 4
  refine have hm1 : (utfFirst b).getD utf0 = utf0 := ?_; ?_
  rotate_left
  refine ⟨(congrArg S.tup (consE (congrArg V.agg (consE (congrArg (C.int .i64) ?_) (consE (congrArg (C.int .i64) ?_) (consE (congrArg (C.int .i64) ?_) rfl)))) (consE (congrArg V.c (congrArg C.bool ?_)) rfl))), rfl⟩
  rotate_left 4
  all_goals first | (simp [utfFirst, utf0, *]; done) | (simp_all [utfFirst, utf0, within]; done) | (simp_all [utfFirst, utf0, within]; omega)
theorem utfFirst_s (b : Int) : Fun Try.prog 183 [vI b] [] (.tup [.agg (cUtf ((utfFirst b).getD utf0)), vB (utfFirst b).isSome]) [] := by
  have hN : bigN = 274877906944 := rfl
  refine fun_ofw Try.func183 (by kernel_rfl) (by kernel_rfl) (w := let z2 := ([] : List Blk); let z3 := utfFirst b; let z1 := cUtf (z3.getD utf0); let z4 := decide (b = 224); let z5 := decide (b = 237); let z6 := decide (b = 240); let z7 := decide (b = 244); let z8 := within b 194 223; let z9 := within b 224 239; let z10 := within b 240 244; let z11 := within b 0 127; (.seg [.call [] (.v (vB z11)) []] (.br (.leaf () []) (.seg [.call [] (.v (vB z8)) []] (.br (.br (.leaf () []) (.br (.leaf () []) (.br (.leaf () []) (.br (.leaf () []) (.leaf () []))))) (.seg [.call [] (.v (vB z9)) []] (.br (.br (.leaf () []) (.br (.leaf () []) (.br (.leaf () []) (.br (.leaf () []) (.leaf () []))))) (.seg [.call [] (.v (vB z10)) []] (.br (.br (.leaf () []) (.br (.leaf () []) (.br (.leaf () []) (.br (.leaf () []) (.leaf () []))))) (.leaf () [])))))))), (Fun Try.prog 47 [vI b, vI 0, vI 127] [] (.v (vB z11)) []) ∧ (z11 = true → (.tup [.agg [.int .i64 0, .int .i64 0, .int .i64 0], vB true] : S) = .tup [.agg z1, vB z3.isSome] ∧ z2 = []) ∧ (z11 = false → (Fun Try.prog 47 [vI b, vI 194, vI 223] [] (.v (vB z8)) []) ∧ (z8 = true → (z4 = true → (.tup [.agg [.int .i64 1, .int .i64 160, .int .i64 191], vB true] : S) = .tup [.agg z1, vB z3.isSome] ∧ z2 = []) ∧ (z4 = false → (z5 = true → (.tup [.agg [.int .i64 1, .int .i64 128, .int .i64 159], vB true] : S) = .tup [.agg z1, vB z3.isSome] ∧ z2 = []) ∧ (z5 = false → (z6 = true → (.tup [.agg [.int .i64 1, .int .i64 144, .int .i64 191], vB true] : S) = .tup [.agg z1, vB z3.isSome] ∧ z2 = []) ∧ (z6 = false → (z7 = true → (.tup [.agg [.int .i64 1, .int .i64 128, .int .i64 143], vB true] : S) = .tup [.agg z1, vB z3.isSome] ∧ z2 = []) ∧ (z7 = false → (.tup [.agg [.int .i64 1, .int .i64 128, .int .i64 191], vB true] : S) = .tup [.agg z1, vB z3.isSome] ∧ z2 = []))))) ∧ (z8 = false → (Fun Try.prog 47 [vI b, vI 224, vI 239] [] (.v (vB z9)) []) ∧ (z9 = true → (z4 = true → (.tup [.agg [.int .i64 2, .int .i64 160, .int .i64 191], vB true] : S) = .tup [.agg z1, vB z3.isSome] ∧ z2 = []) ∧ (z4 = false → (z5 = true → (.tup [.agg [.int .i64 2, .int .i64 128, .int .i64 159], vB true] : S) = .tup [.agg z1, vB z3.isSome] ∧ z2 = []) ∧ (z5 = false → (z6 = true → (.tup [.agg [.int .i64 2, .int .i64 144, .int .i64 191], vB true] : S) = .tup [.agg z1, vB z3.isSome] ∧ z2 = []) ∧ (z6 = false → (z7 = true → (.tup [.agg [.int .i64 2, .int .i64 128, .int .i64 143], vB true] : S) = .tup [.agg z1, vB z3.isSome] ∧ z2 = []) ∧ (z7 = false → (.tup [.agg [.int .i64 2, .int .i64 128, .int .i64 191], vB true] : S) = .tup [.agg z1, vB z3.isSome] ∧ z2 = []))))) ∧ (z9 = false → (Fun Try.prog 47 [vI b, vI 240, vI 244] [] (.v (vB z10)) []) ∧ (z10 = true → (z4 = true → (.tup [.agg [.int .i64 3, .int .i64 160, .int .i64 191], vB true] : S) = .tup [.agg z1, vB z3.isSome] ∧ z2 = []) ∧ (z4 = false → (z5 = true → (.tup [.agg [.int .i64 3, .int .i64 128, .int .i64 159], vB true] : S) = .tup [.agg z1, vB z3.isSome] ∧ z2 = []) ∧ (z5 = false → (z6 = true → (.tup [.agg [.int .i64 3, .int .i64 144, .int .i64 191], vB true] : S) = .tup [.agg z1, vB z3.isSome] ∧ z2 = []) ∧ (z6 = false → (z7 = true → (.tup [.agg [.int .i64 3, .int .i64 128, .int .i64 143], vB true] : S) = .tup [.agg z1, vB z3.isSome] ∧ z2 = []) ∧ (z7 = false → (.tup [.agg [.int .i64 3, .int .i64 128, .int .i64 191], vB true] : S) = .tup [.agg z1, vB z3.isSome] ∧ z2 = []))))) ∧ (z10 = false → (.tup [.agg [.int .i64 0, .int .i64 0, .int .i64 0], vB false] : S) = .tup [.agg z1, vB z3.isSome] ∧ z2 = [])))))) (by kernel_rfl) ?_
  refine ⟨(within_s _ _ _), fun h1 => have p1 := within_t h1; ?_, fun h1 => have p1 := within_f h1; ?_⟩
  refine have hm1 : (utfFirst b).getD utf0 = utf0 := ?_; ?_
  rotate_left
  refine ⟨(congrArg S.tup (consE (congrArg V.agg (consE (congrArg (C.int .i64) ?_) (consE (congrArg (C.int .i64) ?_) (consE (congrArg (C.int .i64) ?_) rfl)))) (consE (congrArg V.c (congrArg C.bool ?_)) rfl))), rfl⟩
  rotate_left 4
  refine ⟨(within_s _ _ _), fun h2 => have p2 := within_t h2; ?_, fun h2 => have p2 := within_f h2; ?_⟩
  refine ⟨fun h3 => have p3 := of_decide_eq_true h3; ?_, fun h3 => have p3 := of_decide_eq_false h3; ?_⟩
  refine have hm1 : (utfFirst b).getD utf0 = (⟨1, 160, 191⟩ : Utf) := ?_; ?_
  rotate_left
  refine ⟨(congrArg S.tup (consE (congrArg V.agg (consE (congrArg (C.int .i64) ?_) (consE (congrArg (C.int .i64) ?_) (consE (congrArg (C.int .i64) ?_) rfl)))) (consE (congrArg V.c (congrArg C.bool ?_)) rfl))), rfl⟩
  rotate_left 4
  refine ⟨fun h4 => have p4 := of_decide_eq_true h4; ?_, fun h4 => have p4 := of_decide_eq_false h4; ?_⟩
  refine have hm1 : (utfFirst b).getD utf0 = (⟨1, 128, 159⟩ : Utf) := ?_; ?_
  rotate_left
  refine ⟨(congrArg S.tup (consE (congrArg V.agg (consE (congrArg (C.int .i64) ?_) (consE (congrArg (C.int .i64) ?_) (consE (congrArg (C.int .i64) ?_) rfl)))) (consE (congrArg V.c (congrArg C.bool ?_)) rfl))), rfl⟩
  rotate_left 4
  refine ⟨fun h5 => have p5 := of_decide_eq_true h5; ?_, fun h5 => have p5 := of_decide_eq_false h5; ?_⟩
  refine have hm1 : (utfFirst b).getD utf0 = (⟨1, 144, 191⟩ : Utf) := ?_; ?_
  rotate_left
  refine ⟨(congrArg S.tup (consE (congrArg V.agg (consE (congrArg (C.int .i64) ?_) (consE (congrArg (C.int .i64) ?_) (consE (congrArg (C.int .i64) ?_) rfl)))) (consE (congrArg V.c (congrArg C.bool ?_)) rfl))), rfl⟩
  rotate_left 4
  refine ⟨fun h6 => have p6 := of_decide_eq_true h6; ?_, fun h6 => have p6 := of_decide_eq_false h6; ?_⟩
  refine have hm1 : (utfFirst b).getD utf0 = (⟨1, 128, 143⟩ : Utf) := ?_; ?_
  rotate_left
  refine ⟨(congrArg S.tup (consE (congrArg V.agg (consE (congrArg (C.int .i64) ?_) (consE (congrArg (C.int .i64) ?_) (consE (congrArg (C.int .i64) ?_) rfl)))) (consE (congrArg V.c (congrArg C.bool ?_)) rfl))), rfl⟩
  rotate_left 4
  refine have hm1 : (utfFirst b).getD utf0 = (⟨1, 128, 191⟩ : Utf) := ?_; ?_
  rotate_left
  refine ⟨(congrArg S.tup (consE (congrArg V.agg (consE (congrArg (C.int .i64) ?_) (consE (congrArg (C.int .i64) ?_) (consE (congrArg (C.int .i64) ?_) rfl)))) (consE (congrArg V.c (congrArg C.bool ?_)) rfl))), rfl⟩
  rotate_left 4
  refine ⟨(within_s _ _ _), fun h3 => have p3 := within_t h3; ?_, fun h3 => have p3 := within_f h3; ?_⟩
  refine ⟨fun h4 => have p4 := of_decide_eq_true h4; ?_, fun h4 => have p4 := of_decide_eq_false h4; ?_⟩
  refine have hm1 : (utfFirst b).getD utf0 = (⟨2, 160, 191⟩ : Utf) := ?_; ?_
  rotate_left
  refine ⟨(congrArg S.tup (consE (congrArg V.agg (consE (congrArg (C.int .i64) ?_) (consE (congrArg (C.int .i64) ?_) (consE (congrArg (C.int .i64) ?_) rfl)))) (consE (congrArg V.c (congrArg C.bool ?_)) rfl))), rfl⟩
  rotate_left 4
  refine ⟨fun h5 => have p5 := of_decide_eq_true h5; ?_, fun h5 => have p5 := of_decide_eq_false h5; ?_⟩
  refine have hm1 : (utfFirst b).getD utf0 = (⟨2, 128, 159⟩ : Utf) := ?_; ?_
  rotate_left
  refine ⟨(congrArg S.tup (consE (congrArg V.agg (consE (congrArg (C.int .i64) ?_) (consE (congrArg (C.int .i64) ?_) (consE (congrArg (C.int .i64) ?_) rfl)))) (consE (congrArg V.c (congrArg C.bool ?_)) rfl))), rfl⟩
  rotate_left 4
  refine ⟨fun h6 => have p6 := of_decide_eq_true h6; ?_, fun h6 => have p6 := of_decide_eq_false h6; ?_⟩
  refine have hm1 : (utfFirst b).getD utf0 = (⟨2, 144, 191⟩ : Utf) := ?_; ?_
  rotate_left
  refine ⟨(congrArg S.tup (consE (congrArg V.agg (consE (congrArg (C.int .i64) ?_) (consE (congrArg (C.int .i64) ?_) (consE (congrArg (C.int .i64) ?_) rfl)))) (consE (congrArg V.c (congrArg C.bool ?_)) rfl))), rfl⟩
  rotate_left 4
  refine ⟨fun h7 => have p7 := of_decide_eq_true h7; ?_, fun h7 => have p7 := of_decide_eq_false h7; ?_⟩
  refine have hm1 : (utfFirst b).getD utf0 = (⟨2, 128, 143⟩ : Utf) := ?_; ?_
  rotate_left
  refine ⟨(congrArg S.tup (consE (congrArg V.agg (consE (congrArg (C.int .i64) ?_) (consE (congrArg (C.int .i64) ?_) (consE (congrArg (C.int .i64) ?_) rfl)))) (consE (congrArg V.c (congrArg C.bool ?_)) rfl))), rfl⟩
  rotate_left 4
  refine have hm1 : (utfFirst b).getD utf0 = (⟨2, 128, 191⟩ : Utf) := ?_; ?_
  rotate_left
  refine ⟨(congrArg S.tup (consE (congrArg V.agg (consE (congrArg (C.int .i64) ?_) (consE (congrArg (C.int .i64) ?_) (consE (congrArg (C.int .i64) ?_) rfl)))) (consE (congrArg V.c (congrArg C.bool ?_)) rfl))), rfl⟩
  rotate_left 4
  refine ⟨(within_s _ _ _), fun h4 => have p4 := within_t h4; ?_, fun h4 => have p4 := within_f h4; ?_⟩
  refine ⟨fun h5 => have p5 := of_decide_eq_true h5; ?_, fun h5 => have p5 := of_decide_eq_false h5; ?_⟩
  refine have hm1 : (utfFirst b).getD utf0 = (⟨3, 160, 191⟩ : Utf) := ?_; ?_
  rotate_left
  refine ⟨(congrArg S.tup (consE (congrArg V.agg (consE (congrArg (C.int .i64) ?_) (consE (congrArg (C.int .i64) ?_) (consE (congrArg (C.int .i64) ?_) rfl)))) (consE (congrArg V.c (congrArg C.bool ?_)) rfl))), rfl⟩
  rotate_left 4
  refine ⟨fun h6 => have p6 := of_decide_eq_true h6; ?_, fun h6 => have p6 := of_decide_eq_false h6; ?_⟩
  refine have hm1 : (utfFirst b).getD utf0 = (⟨3, 128, 159⟩ : Utf) := ?_; ?_
  rotate_left
  refine ⟨(congrArg S.tup (consE (congrArg V.agg (consE (congrArg (C.int .i64) ?_) (consE (congrArg (C.int .i64) ?_) (consE (congrArg (C.int .i64) ?_) rfl)))) (consE (congrArg V.c (congrArg C.bool ?_)) rfl))), rfl⟩
  rotate_left 4
  refine ⟨fun h7 => have p7 := of_decide_eq_true h7; ?_, fun h7 => have p7 := of_decide_eq_false h7; ?_⟩
  refine have hm1 : (utfFirst b).getD utf0 = (⟨3, 144, 191⟩ : Utf) := ?_; ?_
  rotate_left
  refine ⟨(congrArg S.tup (consE (congrArg V.agg (consE (congrArg (C.int .i64) ?_) (consE (congrArg (C.int .i64) ?_) (consE (congrArg (C.int .i64) ?_) rfl)))) (consE (congrArg V.c (congrArg C.bool ?_)) rfl))), rfl⟩
  rotate_left 4
  refine ⟨fun h8 => have p8 := of_decide_eq_true h8; ?_, fun h8 => have p8 := of_decide_eq_false h8; ?_⟩
  refine have hm1 : (utfFirst b).getD utf0 = (⟨3, 128, 143⟩ : Utf) := ?_; ?_
  rotate_left
  refine ⟨(congrArg S.tup (consE (congrArg V.agg (consE (congrArg (C.int .i64) ?_) (consE (congrArg (C.int .i64) ?_) (consE (congrArg (C.int .i64) ?_) rfl)))) (consE (congrArg V.c (congrArg C.bool ?_)) rfl))), rfl⟩
  rotate_left 4
  refine have hm1 : (utfFirst b).getD utf0 = (⟨3, 128, 191⟩ : Utf) := ?_; ?_
  rotate_left
  refine ⟨(congrArg S.tup (consE (congrArg V.agg (consE (congrArg (C.int .i64) ?_) (consE (congrArg (C.int .i64) ?_) (consE (congrArg (C.int .i64) ?_) rfl)))) (consE (congrArg V.c (congrArg C.bool ?_)) rfl))), rfl⟩
  rotate_left 4
  refine have hm1 : (utfFirst b).getD utf0 = utf0 := ?_; ?_
  rotate_left
  refine ⟨(congrArg S.tup (consE (congrArg V.agg (consE (congrArg (C.int .i64) ?_) (consE (congrArg (C.int .i64) ?_) (consE (congrArg (C.int .i64) ?_) rfl)))) (consE (congrArg V.c (congrArg C.bool ?_)) rfl))), rfl⟩
  rotate_left 4
  all_goals first | (simp [utfFirst, utf0, *]; done) | (simp_all [utfFirst, utf0, within]; done) | (simp_all [utfFirst, utf0, within]; omega)
theorem utfByte_i (u : Utf) (b : Int) : Fun Try.prog 178 [.agg (cUtf u), vI b] [] (.tup [.agg (cUtf ((utfByte u b).getD u)), vB (utfByte u b).isSome]) [] := by
  have hN : bigN = 274877906944 := rfl
  refine fun_ofw Try.func178 (by kernel_rfl) (by kernel_rfl) (w := let z2 := (.tup [.agg (cUtf u), vB false] : S); let z3 := within b u.low u.high; let z4 := utfByte u b; let z1 := cUtf (z4.getD u); let z5 := ([] : List Blk); let z7 := utfFirst b; let z6 := cUtf (z7.getD utf0); (.seg [.call [] (.v (vB (utfOk u))) []] (.br (.leaf () []) (.br (.seg [.call [] (.tup [.agg z6, vB z7.isSome]) []] (.br (.leaf () []) (.leaf () []))) (.seg [.call [] (.v (vB z3)) []] (.br (.leaf () []) (.br (.leaf () []) (.seg [.as 42 (.v (vI (u.want - 1)))] (.leaf () []))))))), (Fun Try.prog 184 [.agg (cUtf u)] [] (.v (vB (utfOk u))) []) ∧ ((!(utfOk u)) = true → z2 = .tup [.agg z1, vB z4.isSome] ∧ z5 = []) ∧ ((!(utfOk u)) = false → ((decide (u.want = 0)) = true → (Fun Try.prog 185 [vI b] [] (.tup [.agg z6, vB z7.isSome]) []) ∧ ((!z7.isSome) = true → z2 = .tup [.agg z1, vB z4.isSome] ∧ z5 = []) ∧ ((!z7.isSome) = false → (.tup [.agg z6, vB true] : S) = .tup [.agg z1, vB z4.isSome] ∧ z5 = [])) ∧ ((decide (u.want = 0)) = false → (Fun Try.prog 49 [vI b, vI u.low, vI u.high] [] (.v (vB z3)) []) ∧ ((!z3) = true → z2 = .tup [.agg z1, vB z4.isSome] ∧ z5 = []) ∧ ((!z3) = false → ((decide (u.want = 1)) = true → (.tup [.agg [.int .i64 0, .int .i64 0, .int .i64 0], vB true] : S) = .tup [.agg z1, vB z4.isSome] ∧ z5 = []) ∧ ((decide (u.want = 1)) = false → ((.v (vI (IntKind.i64.wrap (u.want - 1))) : S) = .v (vI (u.want - 1))) ∧ (.tup [.agg [.int .i64 (u.want - 1), .int .i64 128, .int .i64 191], vB true] : S) = .tup [.agg z1, vB z4.isSome] ∧ z5 = [])))))) (by kernel_rfl) ?_
  refine ⟨(utfOk_i u), fun h1 => have q1 := bnot_t h1; ?_, fun h1 => have q1 := bnot_f h1; have p1 := utfOk_want q1; ?_⟩
  refine have hm1 : (utfByte u b).getD u = u := ?_; ?_
  rotate_left
  refine ⟨(congrArg S.tup (consE (congrArg V.agg (consE (congrArg (C.int .i64) ?_) (consE (congrArg (C.int .i64) ?_) (consE (congrArg (C.int .i64) ?_) rfl)))) (consE (congrArg V.c (congrArg C.bool ?_)) rfl))), rfl⟩
  rotate_left 4
  refine ⟨fun h2 => have p2 := of_decide_eq_true h2; ?_, fun h2 => have p2 := of_decide_eq_false h2; ?_⟩
  have hu := utfOk_zero q1 p2
  refine ⟨(utfFirst_i _), fun h3 => have q3 := bnot_t h3; ?_, fun h3 => have q3 := bnot_f h3; ?_⟩
  refine have hm1 : (utfByte u b).getD u = u := ?_; ?_
  rotate_left
  refine ⟨(congrArg S.tup (consE (congrArg V.agg (consE (congrArg (C.int .i64) ?_) (consE (congrArg (C.int .i64) ?_) (consE (congrArg (C.int .i64) ?_) rfl)))) (consE (congrArg V.c (congrArg C.bool ?_)) rfl))), rfl⟩
  rotate_left 4
  refine have hm1 : (utfByte u b).getD u = ((utfFirst b).getD utf0) := ?_; ?_
  rotate_left
  refine ⟨(congrArg S.tup (consE (congrArg V.agg (consE (congrArg (C.int .i64) ?_) (consE (congrArg (C.int .i64) ?_) (consE (congrArg (C.int .i64) ?_) rfl)))) (consE (congrArg V.c (congrArg C.bool ?_)) rfl))), rfl⟩
  rotate_left 4
  refine ⟨(within_i _ _ _), fun h3 => have q3 := bnot_t h3; have p3 := within_f q3; ?_, fun h3 => have q3 := bnot_f h3; have p3 := within_t q3; ?_⟩
  refine have hm1 : (utfByte u b).getD u = u := ?_; ?_
  rotate_left
  refine ⟨(congrArg S.tup (consE (congrArg V.agg (consE (congrArg (C.int .i64) ?_) (consE (congrArg (C.int .i64) ?_) (consE (congrArg (C.int .i64) ?_) rfl)))) (consE (congrArg V.c (congrArg C.bool ?_)) rfl))), rfl⟩
  rotate_left 4
  refine ⟨fun h4 => have p4 := of_decide_eq_true h4; ?_, fun h4 => have p4 := of_decide_eq_false h4; ?_⟩
  refine have hm1 : (utfByte u b).getD u = utf0 := ?_; ?_
  rotate_left
  refine ⟨(congrArg S.tup (consE (congrArg V.agg (consE (congrArg (C.int .i64) ?_) (consE (congrArg (C.int .i64) ?_) (consE (congrArg (C.int .i64) ?_) rfl)))) (consE (congrArg V.c (congrArg C.bool ?_)) rfl))), rfl⟩
  rotate_left 4
  refine ⟨(as_i64 (by omega) (by omega)), ?_⟩
  refine have hm1 : (utfByte u b).getD u = (⟨u.want - 1, 128, 191⟩ : Utf) := ?_; ?_
  rotate_left
  refine ⟨(congrArg S.tup (consE (congrArg V.agg (consE (congrArg (C.int .i64) ?_) (consE (congrArg (C.int .i64) ?_) (consE (congrArg (C.int .i64) ?_) rfl)))) (consE (congrArg V.c (congrArg C.bool ?_)) rfl))), rfl⟩
  rotate_left 4
  all_goals first | (simp [utfByte, *]; done) | (simp [utfByte, utf0, *]; done) | (simp_all [utfByte, utf0, within]; done) | (simp_all [utfByte, utf0, within]; omega)
theorem utfByte_s (u : Utf) (b : Int) : Fun Try.prog 177 [.agg (cUtf u), vI b] [] (.tup [.agg (cUtf ((utfByte u b).getD u)), vB (utfByte u b).isSome]) [] := by
  have hN : bigN = 274877906944 := rfl
  refine fun_ofw Try.func177 (by kernel_rfl) (by kernel_rfl) (w := let z2 := within b u.low u.high; let z3 := cUtf ((utfFirst b).getD utf0); let z4 := utfByte u b; let z1 := cUtf (z4.getD u); let z5 := ([] : List Blk); let z6 := (.tup [.agg (cUtf u), vB false] : S); (.seg [.call [] (.v (vB (utfOk u))) []] (.br (.leaf () []) (.br (.seg [.call [] (.tup [.agg z3, vB (utfFirst b).isSome]) []] (.leaf () [])) (.seg [.call [] (.v (vB z2)) []] (.br (.leaf () []) (.br (.leaf () []) (.seg [.as 31 (.v (vI (u.want - 1)))] (.leaf () []))))))), (Fun Try.prog 182 [.agg (cUtf u)] [] (.v (vB (utfOk u))) []) ∧ ((!(utfOk u)) = true → z6 = .tup [.agg z1, vB z4.isSome] ∧ z5 = []) ∧ ((!(utfOk u)) = false → ((decide (u.want = 0)) = true → (Fun Try.prog 183 [vI b] [] (.tup [.agg z3, vB (utfFirst b).isSome]) []) ∧ (.tup [.agg z3, vB (utfFirst b).isSome] : S) = .tup [.agg z1, vB z4.isSome] ∧ z5 = []) ∧ ((decide (u.want = 0)) = false → (Fun Try.prog 47 [vI b, vI u.low, vI u.high] [] (.v (vB z2)) []) ∧ ((!z2) = true → z6 = .tup [.agg z1, vB z4.isSome] ∧ z5 = []) ∧ ((!z2) = false → ((decide (u.want = 1)) = true → (.tup [.agg [.int .i64 0, .int .i64 0, .int .i64 0], vB true] : S) = .tup [.agg z1, vB z4.isSome] ∧ z5 = []) ∧ ((decide (u.want = 1)) = false → ((.v (vI (IntKind.i64.wrap (u.want - 1))) : S) = .v (vI (u.want - 1))) ∧ (.tup [.agg [.int .i64 (u.want - 1), .int .i64 128, .int .i64 191], vB true] : S) = .tup [.agg z1, vB z4.isSome] ∧ z5 = [])))))) (by kernel_rfl) ?_
  refine ⟨(utfOk_s u), fun h1 => have q1 := bnot_t h1; ?_, fun h1 => have q1 := bnot_f h1; have p1 := utfOk_want q1; ?_⟩
  refine have hm1 : (utfByte u b).getD u = u := ?_; ?_
  rotate_left
  refine ⟨(congrArg S.tup (consE (congrArg V.agg (consE (congrArg (C.int .i64) ?_) (consE (congrArg (C.int .i64) ?_) (consE (congrArg (C.int .i64) ?_) rfl)))) (consE (congrArg V.c (congrArg C.bool ?_)) rfl))), rfl⟩
  rotate_left 4
  refine ⟨fun h2 => have p2 := of_decide_eq_true h2; ?_, fun h2 => have p2 := of_decide_eq_false h2; ?_⟩
  have hu := utfOk_zero q1 p2
  refine ⟨(utfFirst_s _), ?_⟩
  refine have hm1 : (utfByte u b).getD u = ((utfFirst b).getD utf0) := ?_; ?_
  rotate_left
  refine ⟨(congrArg S.tup (consE (congrArg V.agg (consE (congrArg (C.int .i64) ?_) (consE (congrArg (C.int .i64) ?_) (consE (congrArg (C.int .i64) ?_) rfl)))) (consE (congrArg V.c (congrArg C.bool ?_)) rfl))), rfl⟩
  rotate_left 4
  refine ⟨(within_s _ _ _), fun h3 => have q3 := bnot_t h3; have p3 := within_f q3; ?_, fun h3 => have q3 := bnot_f h3; have p3 := within_t q3; ?_⟩
  refine have hm1 : (utfByte u b).getD u = u := ?_; ?_
  rotate_left
  refine ⟨(congrArg S.tup (consE (congrArg V.agg (consE (congrArg (C.int .i64) ?_) (consE (congrArg (C.int .i64) ?_) (consE (congrArg (C.int .i64) ?_) rfl)))) (consE (congrArg V.c (congrArg C.bool ?_)) rfl))), rfl⟩
  rotate_left 4
  refine ⟨fun h4 => have p4 := of_decide_eq_true h4; ?_, fun h4 => have p4 := of_decide_eq_false h4; ?_⟩
  refine have hm1 : (utfByte u b).getD u = utf0 := ?_; ?_
  rotate_left
  refine ⟨(congrArg S.tup (consE (congrArg V.agg (consE (congrArg (C.int .i64) ?_) (consE (congrArg (C.int .i64) ?_) (consE (congrArg (C.int .i64) ?_) rfl)))) (consE (congrArg V.c (congrArg C.bool ?_)) rfl))), rfl⟩
  rotate_left 4
  refine ⟨(as_i64 (by omega) (by omega)), ?_⟩
  refine have hm1 : (utfByte u b).getD u = (⟨u.want - 1, 128, 191⟩ : Utf) := ?_; ?_
  rotate_left
  refine ⟨(congrArg S.tup (consE (congrArg V.agg (consE (congrArg (C.int .i64) ?_) (consE (congrArg (C.int .i64) ?_) (consE (congrArg (C.int .i64) ?_) rfl)))) (consE (congrArg V.c (congrArg C.bool ?_)) rfl))), rfl⟩
  rotate_left 4
  all_goals first | (simp [utfByte, *]; done) | (simp [utfByte, utf0, *]; done) | (simp_all [utfByte, utf0, within]; done) | (simp_all [utfByte, utf0, within]; omega)
structure utfText_i_V0 where
  u : Utf
  v : Nat
def utfText_i_F0 (u : Utf) (s : List UInt8) : Fam := ⟨utfText_i_V0, fun q1 => [(1, .v (vT s)), (2, .v (vP 0)), (4, .v (vP 1)), (10, .v (vI (s.length : Int))), (11, .v (vI (q1.v : Int)))], fun q1 => [.cells (cUtf q1.u), .cells [.int .i64 0, .int .i64 0, .int .i64 0]], fun q1 => q1.v ≤ s.length ∧ utfRun q1.u (List.drop q1.v s) q1.v = utfRun u s 0, fun q1 => s.length - q1.v⟩

theorem utfText_i (u : Utf) (s : List UInt8) (hp1 : s.length ≤ bigN) : Fun Try.prog 163 [.agg (cUtf u), vT s] [] (.tup [.agg (cUtf (utfSt u s)), vI (utfBad u s)]) [] := by
  have hN : bigN = 274877906944 := rfl
  refine fun_ofw Try.func163 (by kernel_rfl) (by kernel_rfl) (w := let z5 := (s.length : Int); let z6 := utfText_i_F0 u s; (.seg [.at 0, .keep [1, 2, 4, 10, 11], .sel [0, 1]] (.loop z6 fun q1 => .br (.intro (fun (x1 : UInt8) => s[q1.v]? = some x1) fun x1 => let z1 := utfByte q1.u ((UInt8.toNat x1 : Nat) : Int); .seg [.tree (fr (.two 5 (fr (.one 9 (.one 10 (.first 11 (.done)))) 6 3) 9 (.one 5 (fr (.one 10 (.first 11 (.done))) 6 3))) 0 5) 12 [], .ch x1, .as 19 (.v (vI ((UInt8.toNat x1 : Nat) : Int))), .call [] (.tup [.agg (cUtf (z1.getD q1.u)), vB z1.isSome]) [], .at 0, .keep [1, 2, 4, 6, 7, 8, 10, 11], .sel [0, 1, 2], .call [] (.tup [.agg (cUtf (z1.getD q1.u)), vB z1.isSome]) [], .at 0, .keep [1, 2, 4, 6, 7, 8, 10, 11], .sel [0, 1, 2]] (.br (.leaf () []) (.seg [.as 28 (.v (vI ((q1.v : Int) + 1))), .at 0, .keep [1, 2, 4, 10, 11], .sel [0, 1]] (.next)))) (.leaf () [])), z6.Has [(1, .v (vT s)), (2, .v (vP 0)), (4, .v (vP 1)), (10, .v (vI z5)), (11, .v (vI 0))] [.cells (cUtf u), .cells [.int .i64 0, .int .i64 0, .int .i64 0]] ∧ ∀ q1, z6.inv q1 → (let z3 := (q1.v : Int); let z4 := cUtf q1.u; ((decide (z3 < z5)) = true → (∃ (x1 : UInt8), s[q1.v]? = some x1) ∧ ∀ (x1 : UInt8), (s[q1.v]? = some x1) → (let z2 := ((UInt8.toNat x1 : Nat) : Int); (s[q1.v]? = some x1) ∧ ((0 : Int) ≤ z3) ∧ (s[q1.v]? = some x1) ∧ ((0 : Int) ≤ z3) ∧ ((.v (vI (IntKind.i64.wrap (z2))) : S) = .v (vI z2)) ∧ ((.v (vI (IntKind.i64.wrap (z2))) : S) = .v (vI z2)) ∧ (Fun Try.prog 178 [.agg z4, vI z2] [] (.tup [.agg (cUtf ((utfByte q1.u z2).getD q1.u)), vB (utfByte q1.u z2).isSome]) []) ∧ (Fun Try.prog 178 [.agg z4, vI z2] [] (.tup [.agg (cUtf ((utfByte q1.u z2).getD q1.u)), vB (utfByte q1.u z2).isSome]) []) ∧ (([.cells z4, .cells [.int .i64 0, .int .i64 0, .int .i64 0], .cells (cUtf ((utfByte q1.u z2).getD q1.u))] : List Blk) = [.cells z4, .cells [.int .i64 0, .int .i64 0, .int .i64 0], .cells (cUtf ((utfByte q1.u z2).getD q1.u))]) ∧ (([(1, .v (vT s)), (2, .v (vP 0)), (4, .v (vP 1)), (6, .v (vI z3)), (7, .v (vP 2)), (8, .v (vB (utfByte q1.u z2).isSome)), (10, .v (vI z5)), (11, .v (vI z3))] : List (Nat × S)) = [(1, .v (vT s)), (2, .v (vP 0)), (4, .v (vP 1)), (6, .v (vI z3)), (7, .v (vP 2)), (8, .v (vB (utfByte q1.u z2).isSome)), (10, .v (vI z5)), (11, .v (vI z3))]) ∧ ((!(utfByte q1.u z2).isSome) = true → (.tup [.agg z4, vI z3] : S) = .tup [.agg (cUtf (utfSt u s)), vI (utfBad u s)] ∧ ([] : List Blk) = []) ∧ ((!(utfByte q1.u z2).isSome) = false → ((.v (vI (IntKind.i64.wrap (z3 + 1))) : S) = .v (vI (z3 + 1))) ∧ z6.Nxt q1 [(1, .v (vT s)), (2, .v (vP 0)), (4, .v (vP 1)), (10, .v (vI z5)), (11, .v (vI (z3 + 1)))] [.cells (cUtf ((utfByte q1.u z2).getD q1.u)), .cells [.int .i64 0, .int .i64 0, .int .i64 0]]))) ∧ ((decide (z3 < z5)) = false → (.tup [.agg z4, vI (-1)] : S) = .tup [.agg (cUtf (utfSt u s)), vI (utfBad u s)] ∧ ([] : List Blk) = [])))) (by kernel_rfl) ?_
  refine ⟨has_of (j := (⟨u, 0⟩ : utfText_i_V0)) (by first | rfl | simp) rfl (by dsimp only [utfText_i_F0]; exact ⟨by omega, by simp⟩), fun (q1 : utfText_i_V0) hq_q1 => ?_⟩
  have hi_q1 : q1.v ≤ s.length ∧ utfRun q1.u (List.drop q1.v s) q1.v = utfRun u s 0 := hq_q1
  obtain ⟨v1, v2⟩ := hi_q1
  refine ⟨fun h1 => have p1 := of_decide_eq_true h1; ?_, fun h1 => have p1 := of_decide_eq_false h1; ?_⟩
  refine ⟨(ax_get (l := s) (i := q1.v) (by omega)), fun x1 hx1 => ?_⟩
  have hb_x1 := UInt8.toNat_lt x1
  refine ⟨hx1, (by omega), hx1, (by omega), (as_i64 (by omega) (by omega)), (as_i64 (by omega) (by omega)), (utfByte_i q1.u _), (utfByte_i q1.u _), rfl, rfl, fun h2 => have q2 := bnot_t h2; ?_, fun h2 => have q2 := bnot_f h2; ?_⟩
  rw [drop_el hx1, utfRun] at v2
  refine have hm1 : utfSt u s = q1.u := ?_; ?_
  rotate_left
  refine ⟨(congrArg S.tup (consE (congrArg V.agg (consE (congrArg (C.int .i64) ?_) (consE (congrArg (C.int .i64) ?_) (consE (congrArg (C.int .i64) ?_) rfl)))) (consE (congrArg V.c (congrArg (C.int .i64) ?_)) rfl))), rfl⟩
  rotate_left 4
  rw [drop_el hx1, utfRun] at v2
  exact ⟨(as_i64 (by omega) (by omega)), nxt_of (j := (⟨((utfByte q1.u ((UInt8.toNat x1 : Nat) : Int)).getD q1.u), q1.v + 1⟩ : utfText_i_V0)) (by first | rfl | simp) rfl (by dsimp only [utfText_i_F0]; exact ⟨by omega, by cases hu : utfByte q1.u (x1.toNat : Int) <;> simp_all⟩) (by dsimp only [utfText_i_F0]; omega)⟩
  rw [drop_end p1] at v2
  refine have hm1 : utfSt u s = q1.u := ?_; ?_
  rotate_left
  refine ⟨(congrArg S.tup (consE (congrArg V.agg (consE (congrArg (C.int .i64) ?_) (consE (congrArg (C.int .i64) ?_) (consE (congrArg (C.int .i64) ?_) rfl)))) (consE (congrArg V.c (congrArg (C.int .i64) ?_)) rfl))), rfl⟩
  rotate_left 4
  all_goals first | (unfold utfSt; rw [← v2, utfRun]; done) | (unfold utfBad; rw [← v2, utfRun]; done) | (unfold utfSt; rw [← v2]; clear v2; cases hu : utfByte q1.u (x1.toNat : Int) <;> simp_all) | (unfold utfBad; rw [← v2]; clear v2; cases hu : utfByte q1.u (x1.toNat : Int) <;> simp_all)
structure utfText_s_V0 where
  u : Utf
  i : Nat
def utfText_s_F0 (u : Utf) (s : List UInt8) : Fam := ⟨utfText_s_V0, fun q1 => [(1, .v (vT s)), (2, .v (vP 0)), (4, .v (vP 1)), (6, .v (vI (q1.i : Int)))], fun q1 => [.cells (cUtf q1.u), .cells [.int .i64 0, .int .i64 0, .int .i64 0]], fun q1 => q1.i ≤ s.length ∧ utfRun q1.u (List.drop q1.i s) q1.i = utfRun u s 0, fun q1 => s.length - q1.i⟩

theorem utfText_s (u : Utf) (s : List UInt8) (hp1 : s.length ≤ bigN) : Fun Try.prog 161 [.agg (cUtf u), vT s] [] (.tup [.agg (cUtf (utfSt u s)), vI (utfBad u s)]) [] := by
  have hN : bigN = 274877906944 := rfl
  refine fun_ofw Try.func161 (by kernel_rfl) (by kernel_rfl) (w := let z5 := utfText_s_F0 u s; (.seg [.at 0, .keep [1, 2, 4, 6], .sel [0, 1]] (.loop z5 fun q1 => .br (.intro (fun (x1 : UInt8) => s[q1.i]? = some x1) fun x1 => let z1 := utfByte q1.u ((UInt8.toNat x1 : Nat) : Int); .seg [.tree (fr (.two 5 (fr (.one 9 (.one 10 (.first 11 (.done)))) 6 3) 9 (.one 5 (fr (.one 10 (.first 11 (.done))) 6 3))) 0 5) 12 [], .ch x1, .as 20 (.v (vI ((UInt8.toNat x1 : Nat) : Int))), .call [] (.tup [.agg (cUtf (z1.getD q1.u)), vB z1.isSome]) [], .at 0, .keep [1, 2, 4, 6, 7, 8], .sel [0, 1, 2], .call [] (.tup [.agg (cUtf (z1.getD q1.u)), vB z1.isSome]) [], .at 0, .keep [1, 2, 4, 6, 7, 8], .sel [0, 1, 2]] (.br (.leaf () []) (.seg [.as 14 (.v (vI ((q1.i : Int) + 1))), .at 0, .keep [1, 2, 4, 6], .sel [0, 1]] (.next)))) (.leaf () [])), z5.Has [(1, .v (vT s)), (2, .v (vP 0)), (4, .v (vP 1)), (6, .v (vI 0))] [.cells (cUtf u), .cells [.int .i64 0, .int .i64 0, .int .i64 0]] ∧ ∀ q1, z5.inv q1 → (let z3 := (q1.i : Int); let z4 := cUtf q1.u; ((decide (z3 < (s.length : Int))) = true → (∃ (x1 : UInt8), s[q1.i]? = some x1) ∧ ∀ (x1 : UInt8), (s[q1.i]? = some x1) → (let z2 := ((UInt8.toNat x1 : Nat) : Int); (s[q1.i]? = some x1) ∧ ((0 : Int) ≤ z3) ∧ (s[q1.i]? = some x1) ∧ ((0 : Int) ≤ z3) ∧ ((.v (vI (IntKind.i64.wrap (z2))) : S) = .v (vI z2)) ∧ ((.v (vI (IntKind.i64.wrap (z2))) : S) = .v (vI z2)) ∧ (Fun Try.prog 177 [.agg z4, vI z2] [] (.tup [.agg (cUtf ((utfByte q1.u z2).getD q1.u)), vB (utfByte q1.u z2).isSome]) []) ∧ (Fun Try.prog 177 [.agg z4, vI z2] [] (.tup [.agg (cUtf ((utfByte q1.u z2).getD q1.u)), vB (utfByte q1.u z2).isSome]) []) ∧ (([.cells z4, .cells [.int .i64 0, .int .i64 0, .int .i64 0], .cells (cUtf ((utfByte q1.u z2).getD q1.u))] : List Blk) = [.cells z4, .cells [.int .i64 0, .int .i64 0, .int .i64 0], .cells (cUtf ((utfByte q1.u z2).getD q1.u))]) ∧ (([(1, .v (vT s)), (2, .v (vP 0)), (4, .v (vP 1)), (6, .v (vI z3)), (7, .v (vP 2)), (8, .v (vB (utfByte q1.u z2).isSome))] : List (Nat × S)) = [(1, .v (vT s)), (2, .v (vP 0)), (4, .v (vP 1)), (6, .v (vI z3)), (7, .v (vP 2)), (8, .v (vB (utfByte q1.u z2).isSome))]) ∧ ((!(utfByte q1.u z2).isSome) = true → (.tup [.agg z4, vI z3] : S) = .tup [.agg (cUtf (utfSt u s)), vI (utfBad u s)] ∧ ([] : List Blk) = []) ∧ ((!(utfByte q1.u z2).isSome) = false → ((.v (vI (IntKind.i64.wrap (z3 + 1))) : S) = .v (vI (z3 + 1))) ∧ z5.Nxt q1 [(1, .v (vT s)), (2, .v (vP 0)), (4, .v (vP 1)), (6, .v (vI (z3 + 1)))] [.cells (cUtf ((utfByte q1.u z2).getD q1.u)), .cells [.int .i64 0, .int .i64 0, .int .i64 0]]))) ∧ ((decide (z3 < (s.length : Int))) = false → (.tup [.agg z4, vI (-1)] : S) = .tup [.agg (cUtf (utfSt u s)), vI (utfBad u s)] ∧ ([] : List Blk) = [])))) (by kernel_rfl) ?_
  refine ⟨has_of (j := (⟨u, 0⟩ : utfText_s_V0)) (by first | rfl | simp) rfl (by dsimp only [utfText_s_F0]; exact ⟨by omega, by simp⟩), fun (q1 : utfText_s_V0) hq_q1 => ?_⟩
  have hi_q1 : q1.i ≤ s.length ∧ utfRun q1.u (List.drop q1.i s) q1.i = utfRun u s 0 := hq_q1
  obtain ⟨v1, v2⟩ := hi_q1
  refine ⟨fun h1 => have p1 := of_decide_eq_true h1; ?_, fun h1 => have p1 := of_decide_eq_false h1; ?_⟩
  refine ⟨(ax_get (l := s) (i := q1.i) (by omega)), fun x1 hx1 => ?_⟩
  have hb_x1 := UInt8.toNat_lt x1
  refine ⟨hx1, (by omega), hx1, (by omega), (as_i64 (by omega) (by omega)), (as_i64 (by omega) (by omega)), (utfByte_s q1.u _), (utfByte_s q1.u _), rfl, rfl, fun h2 => have q2 := bnot_t h2; ?_, fun h2 => have q2 := bnot_f h2; ?_⟩
  rw [drop_el hx1, utfRun] at v2
  refine have hm1 : utfSt u s = q1.u := ?_; ?_
  rotate_left
  refine ⟨(congrArg S.tup (consE (congrArg V.agg (consE (congrArg (C.int .i64) ?_) (consE (congrArg (C.int .i64) ?_) (consE (congrArg (C.int .i64) ?_) rfl)))) (consE (congrArg V.c (congrArg (C.int .i64) ?_)) rfl))), rfl⟩
  rotate_left 4
  rw [drop_el hx1, utfRun] at v2
  exact ⟨(as_i64 (by omega) (by omega)), nxt_of (j := (⟨((utfByte q1.u ((UInt8.toNat x1 : Nat) : Int)).getD q1.u), q1.i + 1⟩ : utfText_s_V0)) (by first | rfl | simp) rfl (by dsimp only [utfText_s_F0]; exact ⟨by omega, by cases hu : utfByte q1.u (x1.toNat : Int) <;> simp_all⟩) (by dsimp only [utfText_s_F0]; omega)⟩
  rw [drop_end p1] at v2
  refine have hm1 : utfSt u s = q1.u := ?_; ?_
  rotate_left
  refine ⟨(congrArg S.tup (consE (congrArg V.agg (consE (congrArg (C.int .i64) ?_) (consE (congrArg (C.int .i64) ?_) (consE (congrArg (C.int .i64) ?_) rfl)))) (consE (congrArg V.c (congrArg (C.int .i64) ?_)) rfl))), rfl⟩
  rotate_left 4
  all_goals first | (unfold utfSt; rw [← v2, utfRun]; done) | (unfold utfBad; rw [← v2, utfRun]; done) | (unfold utfSt; rw [← v2]; clear v2; cases hu : utfByte q1.u (x1.toNat : Int) <;> simp_all) | (unfold utfBad; rw [← v2]; clear v2; cases hu : utfByte q1.u (x1.toNat : Int) <;> simp_all)
end Go.Proofs.Ytecljjcmjongfaa.Ax
