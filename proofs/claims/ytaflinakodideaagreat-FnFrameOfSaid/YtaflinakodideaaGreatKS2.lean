/- Utf-8. Schemas. Events. The grammar: numbers, runs, texts. -/
import Derived.Test.YtaflinakodideaaGreatKS1
set_option linter.unusedSimpArgs false
set_option linter.unusedVariables false
namespace Go.Proofs.YtaflinakodideaaGreat.Ax
open Go.RowKit
theorem utfOk_i (u : Utf) : Fun Tryz.prog 177 [.agg (cUtf u)] [] (.v (vB (utfOk u))) [] := by
 have hN : bigN = 274877906944 := rfl
 refine fun_ofw Tryz.func177 (by kernel_rfl) (by kernel_rfl) (w := let z1 := decide (u.low = 128) && decide (u.high = 191); let z2 := decide (u.want = 2) && (decide (u.low = 160) && decide (u.high = 191)); let z3 := decide (u.want = 2) && (decide (u.low = 128) && decide (u.high = 159)); let z4 := decide (u.want = 3) && (decide (u.low = 144) && decide (u.high = 191)); let z5 := decide (u.want = 0) && (decide (u.low = 0) && decide (u.high = 0)); let z6 := (.v (vB true) : S); let z7 := ([] : List Blk); let z8 := vB (utfOk u); let z9 := decide (u.want = 3) && (decide (u.low = 128) && decide (u.high = 143)); let z10 := decide (u.want = 1) && z1; let z11 := decide (u.want = 2) && z1; let z12 := decide (u.want = 3) && z1; (.br (.seg [.br true] (.leaf () [])) (.br (.seg [.br true] (.leaf () [])) (.br (.seg [.br true] (.leaf () [])) (.br (.seg [.br true] (.leaf () [])) (.br (.seg [.br true] (.leaf () [])) (.br (.seg [.br true] (.leaf () [])) (.br (.seg [.br true] (.leaf () [])) (.br (.leaf () []) (.leaf () [])))))))), (z5 = true → (z5 = true) ∧ z6 = .v z8 ∧ z7 = []) ∧ (z5 = false → (z10 = true → (z10 = true) ∧ z6 = .v z8 ∧ z7 = []) ∧ (z10 = false → (z11 = true → (z11 = true) ∧ z6 = .v z8 ∧ z7 = []) ∧ (z11 = false → (z12 = true → (z12 = true) ∧ z6 = .v z8 ∧ z7 = []) ∧ (z12 = false → (z2 = true → (z2 = true) ∧ z6 = .v z8 ∧ z7 = []) ∧ (z2 = false → (z3 = true → (z3 = true) ∧ z6 = .v z8 ∧ z7 = []) ∧ (z3 = false → (z4 = true → (z4 = true) ∧ z6 = .v z8 ∧ z7 = []) ∧ (z4 = false → (z9 = true → z6 = .v z8 ∧ z7 = []) ∧ (z9 = false → (.v (vB false) : S) = .v z8 ∧ z7 = [])))))))))) (by kernel_rfl) ?_
 refine ⟨fun h1 => have p1 := (andT dT (andT dT dT)).1 h1; ?_, fun h1 => have p1 := (andF dT (andF dT dF)).1 h1; ?_⟩
 refine ⟨h1, (sB ?_), rfl⟩
 rotate_left
 refine ⟨fun h2 => have p2 := (andT dT (andT dT dT)).1 h2; ?_, fun h2 => have p2 := (andF dT (andF dT dF)).1 h2; ?_⟩
 refine ⟨h2, (sB ?_), rfl⟩
 rotate_left
 refine ⟨fun h3 => have p3 := (andT dT (andT dT dT)).1 h3; ?_, fun h3 => have p3 := (andF dT (andF dT dF)).1 h3; ?_⟩
 refine ⟨h3, (sB ?_), rfl⟩
 rotate_left
 refine ⟨fun h4 => have p4 := (andT dT (andT dT dT)).1 h4; ?_, fun h4 => have p4 := (andF dT (andF dT dF)).1 h4; ?_⟩
 refine ⟨h4, (sB ?_), rfl⟩
 rotate_left
 refine ⟨fun h5 => have p5 := (andT dT (andT dT dT)).1 h5; ?_, fun h5 => have p5 := (andF dT (andF dT dF)).1 h5; ?_⟩
 refine ⟨h5, (sB ?_), rfl⟩
 rotate_left
 refine ⟨fun h6 => have p6 := (andT dT (andT dT dT)).1 h6; ?_, fun h6 => have p6 := (andF dT (andF dT dF)).1 h6; ?_⟩
 refine ⟨h6, (sB ?_), rfl⟩
 rotate_left
 refine ⟨fun h7 => have p7 := (andT dT (andT dT dT)).1 h7; ?_, fun h7 => have p7 := (andF dT (andF dT dF)).1 h7; ?_⟩
 refine ⟨h7, (sB ?_), rfl⟩
 rotate_left
 refine ⟨fun h8 => have p8 := (andT dT (andT dT dT)).1 h8; ?_, fun h8 => have p8 := (andF dT (andF dT dF)).1 h8; ?_⟩
 refine ⟨(sB ?_), rfl⟩
 rotate_left
 refine ⟨(sB ?_), rfl⟩
 rotate_left
 all_goals first | (rw [Bool.eq_iff_iff]; simp [utfOk, utfIs]; omega) | (rw [Bool.eq_iff_iff]; simp [utfOk, utfIs, within]; omega) | (simp_all [utfOk, utfIs, within]; done)
theorem utfOk_s (u : Utf) : Fun Tryz.prog 174 [.agg (cUtf u)] [] (.v (vB (utfOk u))) [] := by
 have hN : bigN = 274877906944 := rfl
 refine fun_ofw Tryz.func174 (by kernel_rfl) (by kernel_rfl) (w := let z1 := decide (u.low = 128); let z2 := ([] : List Blk); let z3 := vB (utfOk u); let z4 := decide (u.high = 191); let z5 := (.v (vB false) : S); let z6 := decide (u.want = 0) && (decide (u.low = 0) && decide (u.high = 0)); let z7 := decide (u.low = 160); let z8 := decide (u.low = 144); let z9 := decide (u.want = 2); let z10 := decide (u.want = 3); let z11 := z4 = true → (.v (vB true) : S) = .v z3 ∧ z2 = []; let z12 := z4 = false → (z1 = false) ∧ z5 = .v z3 ∧ z2 = []; let z13 := vB (within u.want 1 3); let z14 := (.v (vB (decide (u.high = 159))) : S); let z15 := (.v (vB (decide (u.high = 143))) : S); let z16 := z10 = false → z5 = .v z3 ∧ z2 = []; (.br (.leaf () []) (.br (.br (.seg [.call [] (.v z13) []] (.leaf () [])) (.br (.br (.seg [.br false, .br true] (.leaf () [])) (.seg [.br true] (.leaf () []))) (.br (.br (.seg [.br false, .br true] (.leaf () [])) (.seg [.br true] (.leaf () []))) (.leaf () [])))) (.br (.br (.br (.leaf () []) (.seg [.br false] (.leaf () []))) (.seg [.br false] (.leaf () []))) (.br (.br (.br (.leaf () []) (.seg [.br false] (.leaf () []))) (.seg [.br false] (.leaf () []))) (.leaf () [])))), (z6 = true → (.v (vB true) : S) = .v z3 ∧ z2 = []) ∧ (z6 = false → (z1 = true → (z4 = true → (Fun Tryz.prog 45 [vI u.want, vI 1, vI 3] [] (.v z13) []) ∧ (.v z13 : S) = .v z3 ∧ z2 = []) ∧ (z4 = false → (z9 = true → (z7 = true → (z4 = false) ∧ (z1 = true) ∧ z14 = .v z3 ∧ z2 = []) ∧ (z7 = false → (z1 = true) ∧ z14 = .v z3 ∧ z2 = [])) ∧ (z9 = false → (z10 = true → (z8 = true → (z4 = false) ∧ (z1 = true) ∧ z15 = .v z3 ∧ z2 = []) ∧ (z8 = false → (z1 = true) ∧ z15 = .v z3 ∧ z2 = [])) ∧ z16))) ∧ (z1 = false → (z9 = true → (z7 = true → z11 ∧ z12) ∧ (z7 = false → (z1 = false) ∧ z5 = .v z3 ∧ z2 = [])) ∧ (z9 = false → (z10 = true → (z8 = true → z11 ∧ z12) ∧ (z8 = false → (z1 = false) ∧ z5 = .v z3 ∧ z2 = [])) ∧ z16))))) (by kernel_rfl) ?_
 refine ⟨fun h1 => have p1 := (andT dT (andT dT dT)).1 h1; ?_, fun h1 => have p1 := (andF dT (andF dT dF)).1 h1; ?_⟩
 refine ⟨(sB ?_), rfl⟩
 rotate_left
 refine dsp (fun h2 p2 => ?_) fun h2 p2 => ?_
 refine dsp (fun h3 p3 => ?_) fun h3 p3 => ?_
 refine ⟨(within_s _ _ _), (sB ?_), rfl⟩
 rotate_left
 refine dsp (fun h4 p4 => ?_) fun h4 p4 => ?_
 refine dsp (fun h5 p5 => ?_) fun h5 p5 => ?_
 refine ⟨h3, h2, (sB ?_), rfl⟩
 rotate_left
 refine ⟨h2, (sB ?_), rfl⟩
 rotate_left
 refine dsp (fun h5 p5 => ?_) fun h5 p5 => ?_
 refine dsp (fun h6 p6 => ?_) fun h6 p6 => ?_
 refine ⟨h3, h2, (sB ?_), rfl⟩
 rotate_left
 refine ⟨h2, (sB ?_), rfl⟩
 rotate_left
 refine ⟨(sB ?_), rfl⟩
 rotate_left
 refine dsp (fun h3 p3 => ?_) fun h3 p3 => ?_
 refine dsp (fun h4 p4 => ?_) fun h4 p4 => ?_
 refine dsp (fun h5 p5 => ?_) fun h5 p5 => ?_
 refine ⟨(sB ?_), rfl⟩
 rotate_left
 refine ⟨h2, (sB ?_), rfl⟩
 rotate_left
 refine ⟨h2, (sB ?_), rfl⟩
 rotate_left
 refine dsp (fun h4 p4 => ?_) fun h4 p4 => ?_
 refine dsp (fun h5 p5 => ?_) fun h5 p5 => ?_
 refine dsp (fun h6 p6 => ?_) fun h6 p6 => ?_
 refine ⟨(sB ?_), rfl⟩
 rotate_left
 refine ⟨h2, (sB ?_), rfl⟩
 rotate_left
 refine ⟨h2, (sB ?_), rfl⟩
 rotate_left
 refine ⟨(sB ?_), rfl⟩
 rotate_left
 all_goals first | (rw [Bool.eq_iff_iff]; simp [utfOk, utfIs]; omega) | (rw [Bool.eq_iff_iff]; simp [utfOk, utfIs, within]; omega) | (simp_all [utfOk, utfIs, within]; done)
theorem utfFirst_i (b : Int) : Fun Tryz.prog 178 [vI b] [] (.tup [.agg (cUtf ((utfFirst b).getD utf0)), vB (utfFirst b).isSome]) [] := by
 have hN : bigN = 274877906944 := rfl
 refine fun_ofw Tryz.func178 (by kernel_rfl) (by kernel_rfl) (w := let zi : Int → C := .int .i64; let z2 := ([] : List Blk); let z3 := utfFirst b; let z1 := cUtf (z3.getD utf0); let z4 := decide (b = 224); let z5 := decide (b = 237); let z6 := decide (b = 240); let z7 := decide (b = 244); let z8 := within b 194 223; let z9 := within b 224 239; let z10 := within b 240 244; let z11 := within b 0 127; (.seg [.call [] (.v (vB z11)) []] (.br (.leaf () []) (.seg [.call [] (.v (vB z8)) []] (.br (.br (.leaf () []) (.br (.leaf () []) (.br (.leaf () []) (.br (.leaf () []) (.leaf () []))))) (.seg [.call [] (.v (vB z9)) []] (.br (.br (.leaf () []) (.br (.leaf () []) (.br (.leaf () []) (.br (.leaf () []) (.leaf () []))))) (.seg [.call [] (.v (vB z10)) []] (.br (.br (.leaf () []) (.br (.leaf () []) (.br (.leaf () []) (.br (.leaf () []) (.leaf () []))))) (.leaf () [])))))))), (Fun Tryz.prog 43 [vI b, vI 0, vI 127] [] (.v (vB z11)) []) ∧ (z11 = true → (.tup [.agg [zi 0, zi 0, zi 0], vB true] : S) = .tup [.agg z1, vB z3.isSome] ∧ z2 = []) ∧ (z11 = false → (Fun Tryz.prog 43 [vI b, vI 194, vI 223] [] (.v (vB z8)) []) ∧ (z8 = true → (z4 = true → (.tup [.agg [zi 1, zi 160, zi 191], vB true] : S) = .tup [.agg z1, vB z3.isSome] ∧ z2 = []) ∧ (z4 = false → (z5 = true → (.tup [.agg [zi 1, zi 128, zi 159], vB true] : S) = .tup [.agg z1, vB z3.isSome] ∧ z2 = []) ∧ (z5 = false → (z6 = true → (.tup [.agg [zi 1, zi 144, zi 191], vB true] : S) = .tup [.agg z1, vB z3.isSome] ∧ z2 = []) ∧ (z6 = false → (z7 = true → (.tup [.agg [zi 1, zi 128, zi 143], vB true] : S) = .tup [.agg z1, vB z3.isSome] ∧ z2 = []) ∧ (z7 = false → (.tup [.agg [zi 1, zi 128, zi 191], vB true] : S) = .tup [.agg z1, vB z3.isSome] ∧ z2 = []))))) ∧ (z8 = false → (Fun Tryz.prog 43 [vI b, vI 224, vI 239] [] (.v (vB z9)) []) ∧ (z9 = true → (z4 = true → (.tup [.agg [zi 2, zi 160, zi 191], vB true] : S) = .tup [.agg z1, vB z3.isSome] ∧ z2 = []) ∧ (z4 = false → (z5 = true → (.tup [.agg [zi 2, zi 128, zi 159], vB true] : S) = .tup [.agg z1, vB z3.isSome] ∧ z2 = []) ∧ (z5 = false → (z6 = true → (.tup [.agg [zi 2, zi 144, zi 191], vB true] : S) = .tup [.agg z1, vB z3.isSome] ∧ z2 = []) ∧ (z6 = false → (z7 = true → (.tup [.agg [zi 2, zi 128, zi 143], vB true] : S) = .tup [.agg z1, vB z3.isSome] ∧ z2 = []) ∧ (z7 = false → (.tup [.agg [zi 2, zi 128, zi 191], vB true] : S) = .tup [.agg z1, vB z3.isSome] ∧ z2 = []))))) ∧ (z9 = false → (Fun Tryz.prog 43 [vI b, vI 240, vI 244] [] (.v (vB z10)) []) ∧ (z10 = true → (z4 = true → (.tup [.agg [zi 3, zi 160, zi 191], vB true] : S) = .tup [.agg z1, vB z3.isSome] ∧ z2 = []) ∧ (z4 = false → (z5 = true → (.tup [.agg [zi 3, zi 128, zi 159], vB true] : S) = .tup [.agg z1, vB z3.isSome] ∧ z2 = []) ∧ (z5 = false → (z6 = true → (.tup [.agg [zi 3, zi 144, zi 191], vB true] : S) = .tup [.agg z1, vB z3.isSome] ∧ z2 = []) ∧ (z6 = false → (z7 = true → (.tup [.agg [zi 3, zi 128, zi 143], vB true] : S) = .tup [.agg z1, vB z3.isSome] ∧ z2 = []) ∧ (z7 = false → (.tup [.agg [zi 3, zi 128, zi 191], vB true] : S) = .tup [.agg z1, vB z3.isSome] ∧ z2 = []))))) ∧ (z10 = false → (.tup [.agg [zi 0, zi 0, zi 0], vB false] : S) = .tup [.agg z1, vB z3.isSome] ∧ z2 = [])))))) (by kernel_rfl) ?_
 refine ⟨(within_i _ _ _), fun h1 => have p1 := within_t h1; ?_, fun h1 => have p1 := within_f h1; ?_⟩
 refine have hm1 : (utfFirst b).getD utf0 = utf0 := ?_; ?_
 rotate_left
 refine ⟨(congrArg S.tup (consE (congrArg V.agg (consE (congrArg (C.int .i64) ?_) (consE (congrArg (C.int .i64) ?_) (consE (congrArg (C.int .i64) ?_) rfl)))) (consE (congrArg V.c (congrArg C.bool ?_)) rfl))), rfl⟩
 rotate_left 4
 refine ⟨(within_i _ _ _), fun h2 => have p2 := within_t h2; ?_, fun h2 => have p2 := within_f h2; ?_⟩
 refine dsp (fun h3 p3 => ?_) fun h3 p3 => ?_
 refine have hm1 : (utfFirst b).getD utf0 = (⟨1, 160, 191⟩ : Utf) := ?_; ?_
 rotate_left
 refine ⟨(congrArg S.tup (consE (congrArg V.agg (consE (congrArg (C.int .i64) ?_) (consE (congrArg (C.int .i64) ?_) (consE (congrArg (C.int .i64) ?_) rfl)))) (consE (congrArg V.c (congrArg C.bool ?_)) rfl))), rfl⟩
 rotate_left 4
 refine dsp (fun h4 p4 => ?_) fun h4 p4 => ?_
 refine have hm1 : (utfFirst b).getD utf0 = (⟨1, 128, 159⟩ : Utf) := ?_; ?_
 rotate_left
 refine ⟨(congrArg S.tup (consE (congrArg V.agg (consE (congrArg (C.int .i64) ?_) (consE (congrArg (C.int .i64) ?_) (consE (congrArg (C.int .i64) ?_) rfl)))) (consE (congrArg V.c (congrArg C.bool ?_)) rfl))), rfl⟩
 rotate_left 4
 refine dsp (fun h5 p5 => ?_) fun h5 p5 => ?_
 refine have hm1 : (utfFirst b).getD utf0 = (⟨1, 144, 191⟩ : Utf) := ?_; ?_
 rotate_left
 refine ⟨(congrArg S.tup (consE (congrArg V.agg (consE (congrArg (C.int .i64) ?_) (consE (congrArg (C.int .i64) ?_) (consE (congrArg (C.int .i64) ?_) rfl)))) (consE (congrArg V.c (congrArg C.bool ?_)) rfl))), rfl⟩
 rotate_left 4
 refine dsp (fun h6 p6 => ?_) fun h6 p6 => ?_
 refine have hm1 : (utfFirst b).getD utf0 = (⟨1, 128, 143⟩ : Utf) := ?_; ?_
 rotate_left
 refine ⟨(congrArg S.tup (consE (congrArg V.agg (consE (congrArg (C.int .i64) ?_) (consE (congrArg (C.int .i64) ?_) (consE (congrArg (C.int .i64) ?_) rfl)))) (consE (congrArg V.c (congrArg C.bool ?_)) rfl))), rfl⟩
 rotate_left 4
 refine have hm1 : (utfFirst b).getD utf0 = (⟨1, 128, 191⟩ : Utf) := ?_; ?_
 rotate_left
 refine ⟨(congrArg S.tup (consE (congrArg V.agg (consE (congrArg (C.int .i64) ?_) (consE (congrArg (C.int .i64) ?_) (consE (congrArg (C.int .i64) ?_) rfl)))) (consE (congrArg V.c (congrArg C.bool ?_)) rfl))), rfl⟩
 rotate_left 4
 refine ⟨(within_i _ _ _), fun h3 => have p3 := within_t h3; ?_, fun h3 => have p3 := within_f h3; ?_⟩
 refine dsp (fun h4 p4 => ?_) fun h4 p4 => ?_
 refine have hm1 : (utfFirst b).getD utf0 = (⟨2, 160, 191⟩ : Utf) := ?_; ?_
 rotate_left
 refine ⟨(congrArg S.tup (consE (congrArg V.agg (consE (congrArg (C.int .i64) ?_) (consE (congrArg (C.int .i64) ?_) (consE (congrArg (C.int .i64) ?_) rfl)))) (consE (congrArg V.c (congrArg C.bool ?_)) rfl))), rfl⟩
 rotate_left 4
 refine dsp (fun h5 p5 => ?_) fun h5 p5 => ?_
 refine have hm1 : (utfFirst b).getD utf0 = (⟨2, 128, 159⟩ : Utf) := ?_; ?_
 rotate_left
 refine ⟨(congrArg S.tup (consE (congrArg V.agg (consE (congrArg (C.int .i64) ?_) (consE (congrArg (C.int .i64) ?_) (consE (congrArg (C.int .i64) ?_) rfl)))) (consE (congrArg V.c (congrArg C.bool ?_)) rfl))), rfl⟩
 rotate_left 4
 refine dsp (fun h6 p6 => ?_) fun h6 p6 => ?_
 refine have hm1 : (utfFirst b).getD utf0 = (⟨2, 144, 191⟩ : Utf) := ?_; ?_
 rotate_left
 refine ⟨(congrArg S.tup (consE (congrArg V.agg (consE (congrArg (C.int .i64) ?_) (consE (congrArg (C.int .i64) ?_) (consE (congrArg (C.int .i64) ?_) rfl)))) (consE (congrArg V.c (congrArg C.bool ?_)) rfl))), rfl⟩
 rotate_left 4
 refine dsp (fun h7 p7 => ?_) fun h7 p7 => ?_
 refine have hm1 : (utfFirst b).getD utf0 = (⟨2, 128, 143⟩ : Utf) := ?_; ?_
 rotate_left
 refine ⟨(congrArg S.tup (consE (congrArg V.agg (consE (congrArg (C.int .i64) ?_) (consE (congrArg (C.int .i64) ?_) (consE (congrArg (C.int .i64) ?_) rfl)))) (consE (congrArg V.c (congrArg C.bool ?_)) rfl))), rfl⟩
 rotate_left 4
 refine have hm1 : (utfFirst b).getD utf0 = (⟨2, 128, 191⟩ : Utf) := ?_; ?_
 rotate_left
 refine ⟨(congrArg S.tup (consE (congrArg V.agg (consE (congrArg (C.int .i64) ?_) (consE (congrArg (C.int .i64) ?_) (consE (congrArg (C.int .i64) ?_) rfl)))) (consE (congrArg V.c (congrArg C.bool ?_)) rfl))), rfl⟩
 rotate_left 4
 refine ⟨(within_i _ _ _), fun h4 => have p4 := within_t h4; ?_, fun h4 => have p4 := within_f h4; ?_⟩
 refine dsp (fun h5 p5 => ?_) fun h5 p5 => ?_
 refine have hm1 : (utfFirst b).getD utf0 = (⟨3, 160, 191⟩ : Utf) := ?_; ?_
 rotate_left
 refine ⟨(congrArg S.tup (consE (congrArg V.agg (consE (congrArg (C.int .i64) ?_) (consE (congrArg (C.int .i64) ?_) (consE (congrArg (C.int .i64) ?_) rfl)))) (consE (congrArg V.c (congrArg C.bool ?_)) rfl))), rfl⟩
 rotate_left 4
 refine dsp (fun h6 p6 => ?_) fun h6 p6 => ?_
 refine have hm1 : (utfFirst b).getD utf0 = (⟨3, 128, 159⟩ : Utf) := ?_; ?_
 rotate_left
 refine ⟨(congrArg S.tup (consE (congrArg V.agg (consE (congrArg (C.int .i64) ?_) (consE (congrArg (C.int .i64) ?_) (consE (congrArg (C.int .i64) ?_) rfl)))) (consE (congrArg V.c (congrArg C.bool ?_)) rfl))), rfl⟩
 rotate_left 4
 refine dsp (fun h7 p7 => ?_) fun h7 p7 => ?_
 refine have hm1 : (utfFirst b).getD utf0 = (⟨3, 144, 191⟩ : Utf) := ?_; ?_
 rotate_left
 refine ⟨(congrArg S.tup (consE (congrArg V.agg (consE (congrArg (C.int .i64) ?_) (consE (congrArg (C.int .i64) ?_) (consE (congrArg (C.int .i64) ?_) rfl)))) (consE (congrArg V.c (congrArg C.bool ?_)) rfl))), rfl⟩
 rotate_left 4
 refine dsp (fun h8 p8 => ?_) fun h8 p8 => ?_
 refine have hm1 : (utfFirst b).getD utf0 = (⟨3, 128, 143⟩ : Utf) := ?_; ?_
 rotate_left
 refine ⟨(congrArg S.tup (consE (congrArg V.agg (consE (congrArg (C.int .i64) ?_) (consE (congrArg (C.int .i64) ?_) (consE (congrArg (C.int .i64) ?_) rfl)))) (consE (congrArg V.c (congrArg C.bool ?_)) rfl))), rfl⟩
 rotate_left 4
 refine have hm1 : (utfFirst b).getD utf0 = (⟨3, 128, 191⟩ : Utf) := ?_; ?_
 rotate_left
 refine ⟨(congrArg S.tup (consE (congrArg V.agg (consE (congrArg (C.int .i64) ?_) (consE (congrArg (C.int .i64) ?_) (consE (congrArg (C.int .i64) ?_) rfl)))) (consE (congrArg V.c (congrArg C.bool ?_)) rfl))), rfl⟩
 rotate_left 4
 refine have hm1 : (utfFirst b).getD utf0 = utf0 := ?_; ?_
 rotate_left
 refine ⟨(congrArg S.tup (consE (congrArg V.agg (consE (congrArg (C.int .i64) ?_) (consE (congrArg (C.int .i64) ?_) (consE (congrArg (C.int .i64) ?_) rfl)))) (consE (congrArg V.c (congrArg C.bool ?_)) rfl))), rfl⟩
 rotate_left 4
 all_goals first | (simp [utfFirst, utf0, *]; done) | (simp_all [utfFirst, utf0, within]; done) | (simp_all [utfFirst, utf0, within]; omega)
theorem utfFirst_s (b : Int) : Fun Tryz.prog 175 [vI b] [] (.tup [.agg (cUtf ((utfFirst b).getD utf0)), vB (utfFirst b).isSome]) [] := by
 have hN : bigN = 274877906944 := rfl
 refine fun_ofw Tryz.func175 (by kernel_rfl) (by kernel_rfl) (w := let zi : Int → C := .int .i64; let z2 := ([] : List Blk); let z3 := utfFirst b; let z1 := cUtf (z3.getD utf0); let z4 := decide (b = 224); let z5 := decide (b = 237); let z6 := decide (b = 240); let z7 := decide (b = 244); let z8 := within b 194 223; let z9 := within b 224 239; let z10 := within b 240 244; let z11 := within b 0 127; (.seg [.call [] (.v (vB z11)) []] (.br (.leaf () []) (.seg [.call [] (.v (vB z8)) []] (.br (.br (.leaf () []) (.br (.leaf () []) (.br (.leaf () []) (.br (.leaf () []) (.leaf () []))))) (.seg [.call [] (.v (vB z9)) []] (.br (.br (.leaf () []) (.br (.leaf () []) (.br (.leaf () []) (.br (.leaf () []) (.leaf () []))))) (.seg [.call [] (.v (vB z10)) []] (.br (.br (.leaf () []) (.br (.leaf () []) (.br (.leaf () []) (.br (.leaf () []) (.leaf () []))))) (.leaf () [])))))))), (Fun Tryz.prog 45 [vI b, vI 0, vI 127] [] (.v (vB z11)) []) ∧ (z11 = true → (.tup [.agg [zi 0, zi 0, zi 0], vB true] : S) = .tup [.agg z1, vB z3.isSome] ∧ z2 = []) ∧ (z11 = false → (Fun Tryz.prog 45 [vI b, vI 194, vI 223] [] (.v (vB z8)) []) ∧ (z8 = true → (z4 = true → (.tup [.agg [zi 1, zi 160, zi 191], vB true] : S) = .tup [.agg z1, vB z3.isSome] ∧ z2 = []) ∧ (z4 = false → (z5 = true → (.tup [.agg [zi 1, zi 128, zi 159], vB true] : S) = .tup [.agg z1, vB z3.isSome] ∧ z2 = []) ∧ (z5 = false → (z6 = true → (.tup [.agg [zi 1, zi 144, zi 191], vB true] : S) = .tup [.agg z1, vB z3.isSome] ∧ z2 = []) ∧ (z6 = false → (z7 = true → (.tup [.agg [zi 1, zi 128, zi 143], vB true] : S) = .tup [.agg z1, vB z3.isSome] ∧ z2 = []) ∧ (z7 = false → (.tup [.agg [zi 1, zi 128, zi 191], vB true] : S) = .tup [.agg z1, vB z3.isSome] ∧ z2 = []))))) ∧ (z8 = false → (Fun Tryz.prog 45 [vI b, vI 224, vI 239] [] (.v (vB z9)) []) ∧ (z9 = true → (z4 = true → (.tup [.agg [zi 2, zi 160, zi 191], vB true] : S) = .tup [.agg z1, vB z3.isSome] ∧ z2 = []) ∧ (z4 = false → (z5 = true → (.tup [.agg [zi 2, zi 128, zi 159], vB true] : S) = .tup [.agg z1, vB z3.isSome] ∧ z2 = []) ∧ (z5 = false → (z6 = true → (.tup [.agg [zi 2, zi 144, zi 191], vB true] : S) = .tup [.agg z1, vB z3.isSome] ∧ z2 = []) ∧ (z6 = false → (z7 = true → (.tup [.agg [zi 2, zi 128, zi 143], vB true] : S) = .tup [.agg z1, vB z3.isSome] ∧ z2 = []) ∧ (z7 = false → (.tup [.agg [zi 2, zi 128, zi 191], vB true] : S) = .tup [.agg z1, vB z3.isSome] ∧ z2 = []))))) ∧ (z9 = false → (Fun Tryz.prog 45 [vI b, vI 240, vI 244] [] (.v (vB z10)) []) ∧ (z10 = true → (z4 = true → (.tup [.agg [zi 3, zi 160, zi 191], vB true] : S) = .tup [.agg z1, vB z3.isSome] ∧ z2 = []) ∧ (z4 = false → (z5 = true → (.tup [.agg [zi 3, zi 128, zi 159], vB true] : S) = .tup [.agg z1, vB z3.isSome] ∧ z2 = []) ∧ (z5 = false → (z6 = true → (.tup [.agg [zi 3, zi 144, zi 191], vB true] : S) = .tup [.agg z1, vB z3.isSome] ∧ z2 = []) ∧ (z6 = false → (z7 = true → (.tup [.agg [zi 3, zi 128, zi 143], vB true] : S) = .tup [.agg z1, vB z3.isSome] ∧ z2 = []) ∧ (z7 = false → (.tup [.agg [zi 3, zi 128, zi 191], vB true] : S) = .tup [.agg z1, vB z3.isSome] ∧ z2 = []))))) ∧ (z10 = false → (.tup [.agg [zi 0, zi 0, zi 0], vB false] : S) = .tup [.agg z1, vB z3.isSome] ∧ z2 = [])))))) (by kernel_rfl) ?_
 refine ⟨(within_s _ _ _), fun h1 => have p1 := within_t h1; ?_, fun h1 => have p1 := within_f h1; ?_⟩
 refine have hm1 : (utfFirst b).getD utf0 = utf0 := ?_; ?_
 rotate_left
 refine ⟨(congrArg S.tup (consE (congrArg V.agg (consE (congrArg (C.int .i64) ?_) (consE (congrArg (C.int .i64) ?_) (consE (congrArg (C.int .i64) ?_) rfl)))) (consE (congrArg V.c (congrArg C.bool ?_)) rfl))), rfl⟩
 rotate_left 4
 refine ⟨(within_s _ _ _), fun h2 => have p2 := within_t h2; ?_, fun h2 => have p2 := within_f h2; ?_⟩
 refine dsp (fun h3 p3 => ?_) fun h3 p3 => ?_
 refine have hm1 : (utfFirst b).getD utf0 = (⟨1, 160, 191⟩ : Utf) := ?_; ?_
 rotate_left
 refine ⟨(congrArg S.tup (consE (congrArg V.agg (consE (congrArg (C.int .i64) ?_) (consE (congrArg (C.int .i64) ?_) (consE (congrArg (C.int .i64) ?_) rfl)))) (consE (congrArg V.c (congrArg C.bool ?_)) rfl))), rfl⟩
 rotate_left 4
 refine dsp (fun h4 p4 => ?_) fun h4 p4 => ?_
 refine have hm1 : (utfFirst b).getD utf0 = (⟨1, 128, 159⟩ : Utf) := ?_; ?_
 rotate_left
 refine ⟨(congrArg S.tup (consE (congrArg V.agg (consE (congrArg (C.int .i64) ?_) (consE (congrArg (C.int .i64) ?_) (consE (congrArg (C.int .i64) ?_) rfl)))) (consE (congrArg V.c (congrArg C.bool ?_)) rfl))), rfl⟩
 rotate_left 4
 refine dsp (fun h5 p5 => ?_) fun h5 p5 => ?_
 refine have hm1 : (utfFirst b).getD utf0 = (⟨1, 144, 191⟩ : Utf) := ?_; ?_
 rotate_left
 refine ⟨(congrArg S.tup (consE (congrArg V.agg (consE (congrArg (C.int .i64) ?_) (consE (congrArg (C.int .i64) ?_) (consE (congrArg (C.int .i64) ?_) rfl)))) (consE (congrArg V.c (congrArg C.bool ?_)) rfl))), rfl⟩
 rotate_left 4
 refine dsp (fun h6 p6 => ?_) fun h6 p6 => ?_
 refine have hm1 : (utfFirst b).getD utf0 = (⟨1, 128, 143⟩ : Utf) := ?_; ?_
 rotate_left
 refine ⟨(congrArg S.tup (consE (congrArg V.agg (consE (congrArg (C.int .i64) ?_) (consE (congrArg (C.int .i64) ?_) (consE (congrArg (C.int .i64) ?_) rfl)))) (consE (congrArg V.c (congrArg C.bool ?_)) rfl))), rfl⟩
 rotate_left 4
 refine have hm1 : (utfFirst b).getD utf0 = (⟨1, 128, 191⟩ : Utf) := ?_; ?_
 rotate_left
 refine ⟨(congrArg S.tup (consE (congrArg V.agg (consE (congrArg (C.int .i64) ?_) (consE (congrArg (C.int .i64) ?_) (consE (congrArg (C.int .i64) ?_) rfl)))) (consE (congrArg V.c (congrArg C.bool ?_)) rfl))), rfl⟩
 rotate_left 4
 refine ⟨(within_s _ _ _), fun h3 => have p3 := within_t h3; ?_, fun h3 => have p3 := within_f h3; ?_⟩
 refine dsp (fun h4 p4 => ?_) fun h4 p4 => ?_
 refine have hm1 : (utfFirst b).getD utf0 = (⟨2, 160, 191⟩ : Utf) := ?_; ?_
 rotate_left
 refine ⟨(congrArg S.tup (consE (congrArg V.agg (consE (congrArg (C.int .i64) ?_) (consE (congrArg (C.int .i64) ?_) (consE (congrArg (C.int .i64) ?_) rfl)))) (consE (congrArg V.c (congrArg C.bool ?_)) rfl))), rfl⟩
 rotate_left 4
 refine dsp (fun h5 p5 => ?_) fun h5 p5 => ?_
 refine have hm1 : (utfFirst b).getD utf0 = (⟨2, 128, 159⟩ : Utf) := ?_; ?_
 rotate_left
 refine ⟨(congrArg S.tup (consE (congrArg V.agg (consE (congrArg (C.int .i64) ?_) (consE (congrArg (C.int .i64) ?_) (consE (congrArg (C.int .i64) ?_) rfl)))) (consE (congrArg V.c (congrArg C.bool ?_)) rfl))), rfl⟩
 rotate_left 4
 refine dsp (fun h6 p6 => ?_) fun h6 p6 => ?_
 refine have hm1 : (utfFirst b).getD utf0 = (⟨2, 144, 191⟩ : Utf) := ?_; ?_
 rotate_left
 refine ⟨(congrArg S.tup (consE (congrArg V.agg (consE (congrArg (C.int .i64) ?_) (consE (congrArg (C.int .i64) ?_) (consE (congrArg (C.int .i64) ?_) rfl)))) (consE (congrArg V.c (congrArg C.bool ?_)) rfl))), rfl⟩
 rotate_left 4
 refine dsp (fun h7 p7 => ?_) fun h7 p7 => ?_
 refine have hm1 : (utfFirst b).getD utf0 = (⟨2, 128, 143⟩ : Utf) := ?_; ?_
 rotate_left
 refine ⟨(congrArg S.tup (consE (congrArg V.agg (consE (congrArg (C.int .i64) ?_) (consE (congrArg (C.int .i64) ?_) (consE (congrArg (C.int .i64) ?_) rfl)))) (consE (congrArg V.c (congrArg C.bool ?_)) rfl))), rfl⟩
 rotate_left 4
 refine have hm1 : (utfFirst b).getD utf0 = (⟨2, 128, 191⟩ : Utf) := ?_; ?_
 rotate_left
 refine ⟨(congrArg S.tup (consE (congrArg V.agg (consE (congrArg (C.int .i64) ?_) (consE (congrArg (C.int .i64) ?_) (consE (congrArg (C.int .i64) ?_) rfl)))) (consE (congrArg V.c (congrArg C.bool ?_)) rfl))), rfl⟩
 rotate_left 4
 refine ⟨(within_s _ _ _), fun h4 => have p4 := within_t h4; ?_, fun h4 => have p4 := within_f h4; ?_⟩
 refine dsp (fun h5 p5 => ?_) fun h5 p5 => ?_
 refine have hm1 : (utfFirst b).getD utf0 = (⟨3, 160, 191⟩ : Utf) := ?_; ?_
 rotate_left
 refine ⟨(congrArg S.tup (consE (congrArg V.agg (consE (congrArg (C.int .i64) ?_) (consE (congrArg (C.int .i64) ?_) (consE (congrArg (C.int .i64) ?_) rfl)))) (consE (congrArg V.c (congrArg C.bool ?_)) rfl))), rfl⟩
 rotate_left 4
 refine dsp (fun h6 p6 => ?_) fun h6 p6 => ?_
 refine have hm1 : (utfFirst b).getD utf0 = (⟨3, 128, 159⟩ : Utf) := ?_; ?_
 rotate_left
 refine ⟨(congrArg S.tup (consE (congrArg V.agg (consE (congrArg (C.int .i64) ?_) (consE (congrArg (C.int .i64) ?_) (consE (congrArg (C.int .i64) ?_) rfl)))) (consE (congrArg V.c (congrArg C.bool ?_)) rfl))), rfl⟩
 rotate_left 4
 refine dsp (fun h7 p7 => ?_) fun h7 p7 => ?_
 refine have hm1 : (utfFirst b).getD utf0 = (⟨3, 144, 191⟩ : Utf) := ?_; ?_
 rotate_left
 refine ⟨(congrArg S.tup (consE (congrArg V.agg (consE (congrArg (C.int .i64) ?_) (consE (congrArg (C.int .i64) ?_) (consE (congrArg (C.int .i64) ?_) rfl)))) (consE (congrArg V.c (congrArg C.bool ?_)) rfl))), rfl⟩
 rotate_left 4
 refine dsp (fun h8 p8 => ?_) fun h8 p8 => ?_
 refine have hm1 : (utfFirst b).getD utf0 = (⟨3, 128, 143⟩ : Utf) := ?_; ?_
 rotate_left
 refine ⟨(congrArg S.tup (consE (congrArg V.agg (consE (congrArg (C.int .i64) ?_) (consE (congrArg (C.int .i64) ?_) (consE (congrArg (C.int .i64) ?_) rfl)))) (consE (congrArg V.c (congrArg C.bool ?_)) rfl))), rfl⟩
 rotate_left 4
 refine have hm1 : (utfFirst b).getD utf0 = (⟨3, 128, 191⟩ : Utf) := ?_; ?_
 rotate_left
 refine ⟨(congrArg S.tup (consE (congrArg V.agg (consE (congrArg (C.int .i64) ?_) (consE (congrArg (C.int .i64) ?_) (consE (congrArg (C.int .i64) ?_) rfl)))) (consE (congrArg V.c (congrArg C.bool ?_)) rfl))), rfl⟩
 rotate_left 4
 refine have hm1 : (utfFirst b).getD utf0 = utf0 := ?_; ?_
 rotate_left
 refine ⟨(congrArg S.tup (consE (congrArg V.agg (consE (congrArg (C.int .i64) ?_) (consE (congrArg (C.int .i64) ?_) (consE (congrArg (C.int .i64) ?_) rfl)))) (consE (congrArg V.c (congrArg C.bool ?_)) rfl))), rfl⟩
 rotate_left 4
 all_goals first | (simp [utfFirst, utf0, *]; done) | (simp_all [utfFirst, utf0, within]; done) | (simp_all [utfFirst, utf0, within]; omega)
theorem utfByte_i (u : Utf) (b : Int) : Fun Tryz.prog 173 [.agg (cUtf u), vI b] [] (.tup [.agg (cUtf ((utfByte u b).getD u)), vB (utfByte u b).isSome]) [] := by
 have hN : bigN = 274877906944 := rfl
 refine fun_ofw Tryz.func173 (by kernel_rfl) (by kernel_rfl) (w := let z2 := (.tup [.agg (cUtf u), vB false] : S); let z3 := within b u.low u.high; let z4 := utfByte u b; let z1 := cUtf (z4.getD u); let z5 := ([] : List Blk); let z7 := utfFirst b; let z6 := cUtf (z7.getD utf0); (.seg [.call [] (.v (vB (utfOk u))) []] (.br (.leaf () []) (.br (.seg [.call [] (.tup [.agg z6, vB z7.isSome]) []] (.br (.leaf () []) (.leaf () []))) (.seg [.call [] (.v (vB z3)) []] (.br (.leaf () []) (.br (.leaf () []) (.seg [.as 42 (.v (vI (u.want - 1)))] (.leaf () []))))))), (Fun Tryz.prog 177 [.agg (cUtf u)] [] (.v (vB (utfOk u))) []) ∧ ((!(utfOk u)) = true → z2 = .tup [.agg z1, vB z4.isSome] ∧ z5 = []) ∧ ((!(utfOk u)) = false → ((decide (u.want = 0)) = true → (Fun Tryz.prog 178 [vI b] [] (.tup [.agg z6, vB z7.isSome]) []) ∧ ((!z7.isSome) = true → z2 = .tup [.agg z1, vB z4.isSome] ∧ z5 = []) ∧ ((!z7.isSome) = false → (.tup [.agg z6, vB true] : S) = .tup [.agg z1, vB z4.isSome] ∧ z5 = [])) ∧ ((decide (u.want = 0)) = false → (Fun Tryz.prog 43 [vI b, vI u.low, vI u.high] [] (.v (vB z3)) []) ∧ ((!z3) = true → z2 = .tup [.agg z1, vB z4.isSome] ∧ z5 = []) ∧ ((!z3) = false → ((decide (u.want = 1)) = true → (.tup [.agg [.int .i64 0, .int .i64 0, .int .i64 0], vB true] : S) = .tup [.agg z1, vB z4.isSome] ∧ z5 = []) ∧ ((decide (u.want = 1)) = false → ((.v (vI (IntKind.i64.wrap (u.want - 1))) : S) = .v (vI (u.want - 1))) ∧ (.tup [.agg [.int .i64 (u.want - 1), .int .i64 128, .int .i64 191], vB true] : S) = .tup [.agg z1, vB z4.isSome] ∧ z5 = [])))))) (by kernel_rfl) ?_
 refine ⟨(utfOk_i u), fun h1 => have q1 := bnot_t h1; ?_, fun h1 => have q1 := bnot_f h1; have p1 := utfOk_want q1; ?_⟩
 refine have hm1 : (utfByte u b).getD u = u := ?_; ?_
 rotate_left
 refine ⟨(congrArg S.tup (consE (congrArg V.agg (consE (congrArg (C.int .i64) ?_) (consE (congrArg (C.int .i64) ?_) (consE (congrArg (C.int .i64) ?_) rfl)))) (consE (congrArg V.c (congrArg C.bool ?_)) rfl))), rfl⟩
 rotate_left 4
 refine dsp (fun h2 p2 => ?_) fun h2 p2 => ?_
 have hu := utfOk_zero q1 p2
 refine ⟨(utfFirst_i _), fun h3 => have q3 := bnot_t h3; ?_, fun h3 => have q3 := bnot_f h3; ?_⟩
 refine have hm1 : (utfByte u b).getD u = u := ?_; ?_
 rotate_left
 refine ⟨(congrArg S.tup (consE (congrArg V.agg (consE (congrArg (C.int .i64) ?_) (consE (congrArg (C.int .i64) ?_) (consE (congrArg (C.int .i64) ?_) rfl)))) (consE (congrArg V.c (congrArg C.bool ?_)) rfl))), rfl⟩
 rotate_left 4
 refine have hm1 : (utfByte u b).getD u = ((utfFirst b).getD utf0) := ?_; ?_
 rotate_left
 refine ⟨(congrArg S.tup (consE (congrArg V.agg (consE (congrArg (C.int .i64) ?_) (consE (congrArg (C.int .i64) ?_) (consE (congrArg (C.int .i64) ?_) rfl)))) (consE (congrArg V.c (congrArg C.bool ?_)) rfl))), rfl⟩
 rotate_left 4
 refine ⟨(within_i _ _ _), fun h3 => have q3 := bnot_t h3; have p3 := within_f q3; ?_, fun h3 => have q3 := bnot_f h3; have p3 := within_t q3; ?_⟩
 refine have hm1 : (utfByte u b).getD u = u := ?_; ?_
 rotate_left
 refine ⟨(congrArg S.tup (consE (congrArg V.agg (consE (congrArg (C.int .i64) ?_) (consE (congrArg (C.int .i64) ?_) (consE (congrArg (C.int .i64) ?_) rfl)))) (consE (congrArg V.c (congrArg C.bool ?_)) rfl))), rfl⟩
 rotate_left 4
 refine dsp (fun h4 p4 => ?_) fun h4 p4 => ?_
 refine have hm1 : (utfByte u b).getD u = utf0 := ?_; ?_
 rotate_left
 refine ⟨(congrArg S.tup (consE (congrArg V.agg (consE (congrArg (C.int .i64) ?_) (consE (congrArg (C.int .i64) ?_) (consE (congrArg (C.int .i64) ?_) rfl)))) (consE (congrArg V.c (congrArg C.bool ?_)) rfl))), rfl⟩
 rotate_left 4
 refine ⟨(as_i64 (by omega) (by omega)), ?_⟩
 refine have hm1 : (utfByte u b).getD u = (⟨u.want - 1, 128, 191⟩ : Utf) := ?_; ?_
 rotate_left
 refine ⟨(congrArg S.tup (consE (congrArg V.agg (consE (congrArg (C.int .i64) ?_) (consE (congrArg (C.int .i64) ?_) (consE (congrArg (C.int .i64) ?_) rfl)))) (consE (congrArg V.c (congrArg C.bool ?_)) rfl))), rfl⟩
 rotate_left 4
 all_goals first | (simp [utfByte, *]; done) | (simp [utfByte, utf0, *]; done) | (simp_all [utfByte, utf0, within]; done) | (simp_all [utfByte, utf0, within]; omega)
theorem utfByte_s (u : Utf) (b : Int) : Fun Tryz.prog 166 [.agg (cUtf u), vI b] [] (.tup [.agg (cUtf ((utfByte u b).getD u)), vB (utfByte u b).isSome]) [] := by
 have hN : bigN = 274877906944 := rfl
 refine fun_ofw Tryz.func166 (by kernel_rfl) (by kernel_rfl) (w := let z2 := within b u.low u.high; let z3 := cUtf ((utfFirst b).getD utf0); let z4 := utfByte u b; let z1 := cUtf (z4.getD u); let z5 := ([] : List Blk); let z6 := (.tup [.agg (cUtf u), vB false] : S); (.seg [.call [] (.v (vB (utfOk u))) []] (.br (.leaf () []) (.br (.seg [.call [] (.tup [.agg z3, vB (utfFirst b).isSome]) []] (.leaf () [])) (.seg [.call [] (.v (vB z2)) []] (.br (.leaf () []) (.br (.leaf () []) (.seg [.as 31 (.v (vI (u.want - 1)))] (.leaf () []))))))), (Fun Tryz.prog 174 [.agg (cUtf u)] [] (.v (vB (utfOk u))) []) ∧ ((!(utfOk u)) = true → z6 = .tup [.agg z1, vB z4.isSome] ∧ z5 = []) ∧ ((!(utfOk u)) = false → ((decide (u.want = 0)) = true → (Fun Tryz.prog 175 [vI b] [] (.tup [.agg z3, vB (utfFirst b).isSome]) []) ∧ (.tup [.agg z3, vB (utfFirst b).isSome] : S) = .tup [.agg z1, vB z4.isSome] ∧ z5 = []) ∧ ((decide (u.want = 0)) = false → (Fun Tryz.prog 45 [vI b, vI u.low, vI u.high] [] (.v (vB z2)) []) ∧ ((!z2) = true → z6 = .tup [.agg z1, vB z4.isSome] ∧ z5 = []) ∧ ((!z2) = false → ((decide (u.want = 1)) = true → (.tup [.agg [.int .i64 0, .int .i64 0, .int .i64 0], vB true] : S) = .tup [.agg z1, vB z4.isSome] ∧ z5 = []) ∧ ((decide (u.want = 1)) = false → ((.v (vI (IntKind.i64.wrap (u.want - 1))) : S) = .v (vI (u.want - 1))) ∧ (.tup [.agg [.int .i64 (u.want - 1), .int .i64 128, .int .i64 191], vB true] : S) = .tup [.agg z1, vB z4.isSome] ∧ z5 = [])))))) (by kernel_rfl) ?_
 refine ⟨(utfOk_s u), fun h1 => have q1 := bnot_t h1; ?_, fun h1 => have q1 := bnot_f h1; have p1 := utfOk_want q1; ?_⟩
 refine have hm1 : (utfByte u b).getD u = u := ?_; ?_
 rotate_left
 refine ⟨(congrArg S.tup (consE (congrArg V.agg (consE (congrArg (C.int .i64) ?_) (consE (congrArg (C.int .i64) ?_) (consE (congrArg (C.int .i64) ?_) rfl)))) (consE (congrArg V.c (congrArg C.bool ?_)) rfl))), rfl⟩
 rotate_left 4
 refine dsp (fun h2 p2 => ?_) fun h2 p2 => ?_
 have hu := utfOk_zero q1 p2
 refine ⟨(utfFirst_s _), ?_⟩
 refine have hm1 : (utfByte u b).getD u = ((utfFirst b).getD utf0) := ?_; ?_
 rotate_left
 refine ⟨(congrArg S.tup (consE (congrArg V.agg (consE (congrArg (C.int .i64) ?_) (consE (congrArg (C.int .i64) ?_) (consE (congrArg (C.int .i64) ?_) rfl)))) (consE (congrArg V.c (congrArg C.bool ?_)) rfl))), rfl⟩
 rotate_left 4
 refine ⟨(within_s _ _ _), fun h3 => have q3 := bnot_t h3; have p3 := within_f q3; ?_, fun h3 => have q3 := bnot_f h3; have p3 := within_t q3; ?_⟩
 refine have hm1 : (utfByte u b).getD u = u := ?_; ?_
 rotate_left
 refine ⟨(congrArg S.tup (consE (congrArg V.agg (consE (congrArg (C.int .i64) ?_) (consE (congrArg (C.int .i64) ?_) (consE (congrArg (C.int .i64) ?_) rfl)))) (consE (congrArg V.c (congrArg C.bool ?_)) rfl))), rfl⟩
 rotate_left 4
 refine dsp (fun h4 p4 => ?_) fun h4 p4 => ?_
 refine have hm1 : (utfByte u b).getD u = utf0 := ?_; ?_
 rotate_left
 refine ⟨(congrArg S.tup (consE (congrArg V.agg (consE (congrArg (C.int .i64) ?_) (consE (congrArg (C.int .i64) ?_) (consE (congrArg (C.int .i64) ?_) rfl)))) (consE (congrArg V.c (congrArg C.bool ?_)) rfl))), rfl⟩
 rotate_left 4
 refine ⟨(as_i64 (by omega) (by omega)), ?_⟩
 refine have hm1 : (utfByte u b).getD u = (⟨u.want - 1, 128, 191⟩ : Utf) := ?_; ?_
 rotate_left
 refine ⟨(congrArg S.tup (consE (congrArg V.agg (consE (congrArg (C.int .i64) ?_) (consE (congrArg (C.int .i64) ?_) (consE (congrArg (C.int .i64) ?_) rfl)))) (consE (congrArg V.c (congrArg C.bool ?_)) rfl))), rfl⟩
 rotate_left 4
 all_goals first | (simp [utfByte, *]; done) | (simp [utfByte, utf0, *]; done) | (simp_all [utfByte, utf0, within]; done) | (simp_all [utfByte, utf0, within]; omega)
structure utfText_i_V0 where
 u : Utf
 v : Nat
def utfText_i_F0 (u : Utf) (s : List UInt8) : Fam := ⟨utfText_i_V0, fun q1 => [(1, .v (vT s)), (2, .v (vP 0)), (4, .v (vP 1)), (10, .v (vI (s.length : Int))), (11, .v (vI (q1.v : Int)))], fun q1 => [.cells (cUtf q1.u), .cells [.int .i64 0, .int .i64 0, .int .i64 0]], fun q1 => q1.v ≤ s.length ∧ utfRun q1.u (List.drop q1.v s) q1.v = utfRun u s 0, fun q1 => s.length - q1.v⟩
theorem utfText_i (u : Utf) (s : List UInt8) (hp1 : s.length ≤ bigN) : Fun Tryz.prog 162 [.agg (cUtf u), vT s] [] (.tup [.agg (cUtf (utfSt u s)), vI (utfBad u s)]) [] := by
 have hN : bigN = 274877906944 := rfl
 refine fun_ofw Tryz.func162 (by kernel_rfl) (by kernel_rfl) (w := let zi : Int → C := .int .i64; let z5 := (s.length : Int); let z6 := utfText_i_F0 u s; (.seg [.at 0, .keep [1, 2, 4, 10, 11], .sel [0, 1]] (.loop z6 fun q1 => .br (.intro (fun (x1 : UInt8) => s[q1.v]? = some x1) fun x1 => let z1 := utfByte q1.u ((UInt8.toNat x1 : Nat) : Int); .seg [.tree (fr (.two 5 (fr (.one 9 (.one 10 (.first 11 (.done)))) 6 3) 9 (.one 5 (fr (.one 10 (.first 11 (.done))) 6 3))) 0 5) 12 [], .ch x1, .as 19 (.v (vI ((UInt8.toNat x1 : Nat) : Int))), .call [] (.tup [.agg (cUtf (z1.getD q1.u)), vB z1.isSome]) [], .at 0, .keep [1, 2, 4, 6, 7, 8, 10, 11], .sel [0, 1, 2], .call [] (.tup [.agg (cUtf (z1.getD q1.u)), vB z1.isSome]) [], .at 0, .keep [1, 2, 4, 6, 7, 8, 10, 11], .sel [0, 1, 2]] (.br (.leaf () []) (.seg [.as 28 (.v (vI ((q1.v : Int) + 1))), .at 0, .keep [1, 2, 4, 10, 11], .sel [0, 1]] (.next)))) (.leaf () [])), z6.Has [(1, .v (vT s)), (2, .v (vP 0)), (4, .v (vP 1)), (10, .v (vI z5)), (11, .v (vI 0))] [.cells (cUtf u), .cells [zi 0, zi 0, zi 0]] ∧ ∀ q1, z6.inv q1 → (let z3 := (q1.v : Int); let z4 := cUtf q1.u; ((decide (z3 < z5)) = true → (∃ (x1 : UInt8), s[q1.v]? = some x1) ∧ ∀ (x1 : UInt8), (s[q1.v]? = some x1) → (let z2 := ((UInt8.toNat x1 : Nat) : Int); (s[q1.v]? = some x1) ∧ ((0 : Int) ≤ z3) ∧ (s[q1.v]? = some x1) ∧ ((0 : Int) ≤ z3) ∧ ((.v (vI (IntKind.i64.wrap (z2))) : S) = .v (vI z2)) ∧ ((.v (vI (IntKind.i64.wrap (z2))) : S) = .v (vI z2)) ∧ (Fun Tryz.prog 173 [.agg z4, vI z2] [] (.tup [.agg (cUtf ((utfByte q1.u z2).getD q1.u)), vB (utfByte q1.u z2).isSome]) []) ∧ (Fun Tryz.prog 173 [.agg z4, vI z2] [] (.tup [.agg (cUtf ((utfByte q1.u z2).getD q1.u)), vB (utfByte q1.u z2).isSome]) []) ∧ (([.cells z4, .cells [zi 0, zi 0, zi 0], .cells (cUtf ((utfByte q1.u z2).getD q1.u))] : List Blk) = [.cells z4, .cells [zi 0, zi 0, zi 0], .cells (cUtf ((utfByte q1.u z2).getD q1.u))]) ∧ (([(1, .v (vT s)), (2, .v (vP 0)), (4, .v (vP 1)), (6, .v (vI z3)), (7, .v (vP 2)), (8, .v (vB (utfByte q1.u z2).isSome)), (10, .v (vI z5)), (11, .v (vI z3))] : List (Nat × S)) = [(1, .v (vT s)), (2, .v (vP 0)), (4, .v (vP 1)), (6, .v (vI z3)), (7, .v (vP 2)), (8, .v (vB (utfByte q1.u z2).isSome)), (10, .v (vI z5)), (11, .v (vI z3))]) ∧ ((!(utfByte q1.u z2).isSome) = true → (.tup [.agg z4, vI z3] : S) = .tup [.agg (cUtf (utfSt u s)), vI (utfBad u s)] ∧ ([] : List Blk) = []) ∧ ((!(utfByte q1.u z2).isSome) = false → ((.v (vI (IntKind.i64.wrap (z3 + 1))) : S) = .v (vI (z3 + 1))) ∧ z6.Nxt q1 [(1, .v (vT s)), (2, .v (vP 0)), (4, .v (vP 1)), (10, .v (vI z5)), (11, .v (vI (z3 + 1)))] [.cells (cUtf ((utfByte q1.u z2).getD q1.u)), .cells [zi 0, zi 0, zi 0]]))) ∧ ((decide (z3 < z5)) = false → (.tup [.agg z4, vI (-1)] : S) = .tup [.agg (cUtf (utfSt u s)), vI (utfBad u s)] ∧ ([] : List Blk) = [])))) (by kernel_rfl) ?_
 refine ⟨has_of (j := (⟨u, 0⟩ : utfText_i_V0)) (by first | rfl | simp) rfl (by dsimp only [utfText_i_F0]; exact ⟨by omega, by simp⟩), fun (q1 : utfText_i_V0) hq_q1 => ?_⟩
 have hi_q1 : q1.v ≤ s.length ∧ utfRun q1.u (List.drop q1.v s) q1.v = utfRun u s 0 := hq_q1
 obtain ⟨v1, v2⟩ := hi_q1
 refine dsp (fun h1 p1 => ?_) fun h1 p1 => ?_
 refine ⟨(ax_get (l := s) (i := q1.v) (by omega)), fun x1 hx1 => ?_⟩
 have hb_x1 := UInt8.toNat_lt x1
 refine ⟨hx1, (by omega), hx1, (by omega), (as_i64 (by omega) (by omega)), (as_i64 (by omega) (by omega)), (utfByte_i q1.u _), (utfByte_i q1.u _), rfl, rfl, fun h2 => have q2 := bnot_t h2; ?_, fun h2 => have q2 := bnot_f h2; ?_⟩
 rw [drop_el hx1, utfRun] at v2
 refine have hm1 : utfSt u s = q1.u := ?_; ?_
 rotate_left
 refine ⟨(congrArg S.tup (consE (congrArg V.agg (consE (congrArg (C.int .i64) ?_) (consE (congrArg (C.int .i64) ?_) (consE (congrArg (C.int .i64) ?_) rfl)))) (consE (congrArg V.c (congrArg (C.int .i64) ?_)) rfl))), rfl⟩
 rotate_left 4
 rw [drop_el hx1, utfRun] at v2
 exact ⟨(as_i64 (by omega) (by omega)), nxt_of (j := (⟨((utfByte q1.u ((UInt8.toNat x1 : Nat) : Int)).getD q1.u), q1.v + 1⟩ : utfText_i_V0)) (by first | rfl | simp) rfl (by dsimp only [utfText_i_F0]; exact ⟨by omega, by cases hu : utfByte q1.u (x1.toNat : Int) <;> simp_all⟩) (by dsimp only [utfText_i_F0]; omega)⟩
 rw [drop_end p1] at v2
 refine have hm1 : utfSt u s = q1.u := ?_; ?_
 rotate_left
 refine ⟨(congrArg S.tup (consE (congrArg V.agg (consE (congrArg (C.int .i64) ?_) (consE (congrArg (C.int .i64) ?_) (consE (congrArg (C.int .i64) ?_) rfl)))) (consE (congrArg V.c (congrArg (C.int .i64) ?_)) rfl))), rfl⟩
 rotate_left 4
 all_goals first | (unfold utfSt; rw [← v2, utfRun]; done) | (unfold utfBad; rw [← v2, utfRun]; done) | (unfold utfSt; rw [← v2]; clear v2; cases hu : utfByte q1.u (x1.toNat : Int) <;> simp_all) | (unfold utfBad; rw [← v2]; clear v2; cases hu : utfByte q1.u (x1.toNat : Int) <;> simp_all)
structure utfText_s_V0 where
 u : Utf
 i : Nat
def utfText_s_F0 (u : Utf) (s : List UInt8) : Fam := ⟨utfText_s_V0, fun q1 => [(1, .v (vT s)), (2, .v (vP 0)), (4, .v (vP 1)), (6, .v (vI (q1.i : Int)))], fun q1 => [.cells (cUtf q1.u), .cells [.int .i64 0, .int .i64 0, .int .i64 0]], fun q1 => q1.i ≤ s.length ∧ utfRun q1.u (List.drop q1.i s) q1.i = utfRun u s 0, fun q1 => s.length - q1.i⟩
theorem utfText_s (u : Utf) (s : List UInt8) (hp1 : s.length ≤ bigN) : Fun Tryz.prog 149 [.agg (cUtf u), vT s] [] (.tup [.agg (cUtf (utfSt u s)), vI (utfBad u s)]) [] := by
 have hN : bigN = 274877906944 := rfl
 refine fun_ofw Tryz.func149 (by kernel_rfl) (by kernel_rfl) (w := let zi : Int → C := .int .i64; let z5 := utfText_s_F0 u s; (.seg [.at 0, .keep [1, 2, 4, 6], .sel [0, 1]] (.loop z5 fun q1 => .br (.intro (fun (x1 : UInt8) => s[q1.i]? = some x1) fun x1 => let z1 := utfByte q1.u ((UInt8.toNat x1 : Nat) : Int); .seg [.tree (fr (.two 5 (fr (.one 9 (.one 10 (.first 11 (.done)))) 6 3) 9 (.one 5 (fr (.one 10 (.first 11 (.done))) 6 3))) 0 5) 12 [], .ch x1, .as 20 (.v (vI ((UInt8.toNat x1 : Nat) : Int))), .call [] (.tup [.agg (cUtf (z1.getD q1.u)), vB z1.isSome]) [], .at 0, .keep [1, 2, 4, 6, 7, 8], .sel [0, 1, 2], .call [] (.tup [.agg (cUtf (z1.getD q1.u)), vB z1.isSome]) [], .at 0, .keep [1, 2, 4, 6, 7, 8], .sel [0, 1, 2]] (.br (.leaf () []) (.seg [.as 14 (.v (vI ((q1.i : Int) + 1))), .at 0, .keep [1, 2, 4, 6], .sel [0, 1]] (.next)))) (.leaf () [])), z5.Has [(1, .v (vT s)), (2, .v (vP 0)), (4, .v (vP 1)), (6, .v (vI 0))] [.cells (cUtf u), .cells [zi 0, zi 0, zi 0]] ∧ ∀ q1, z5.inv q1 → (let z3 := (q1.i : Int); let z4 := cUtf q1.u; ((decide (z3 < (s.length : Int))) = true → (∃ (x1 : UInt8), s[q1.i]? = some x1) ∧ ∀ (x1 : UInt8), (s[q1.i]? = some x1) → (let z2 := ((UInt8.toNat x1 : Nat) : Int); (s[q1.i]? = some x1) ∧ ((0 : Int) ≤ z3) ∧ (s[q1.i]? = some x1) ∧ ((0 : Int) ≤ z3) ∧ ((.v (vI (IntKind.i64.wrap (z2))) : S) = .v (vI z2)) ∧ ((.v (vI (IntKind.i64.wrap (z2))) : S) = .v (vI z2)) ∧ (Fun Tryz.prog 166 [.agg z4, vI z2] [] (.tup [.agg (cUtf ((utfByte q1.u z2).getD q1.u)), vB (utfByte q1.u z2).isSome]) []) ∧ (Fun Tryz.prog 166 [.agg z4, vI z2] [] (.tup [.agg (cUtf ((utfByte q1.u z2).getD q1.u)), vB (utfByte q1.u z2).isSome]) []) ∧ (([.cells z4, .cells [zi 0, zi 0, zi 0], .cells (cUtf ((utfByte q1.u z2).getD q1.u))] : List Blk) = [.cells z4, .cells [zi 0, zi 0, zi 0], .cells (cUtf ((utfByte q1.u z2).getD q1.u))]) ∧ (([(1, .v (vT s)), (2, .v (vP 0)), (4, .v (vP 1)), (6, .v (vI z3)), (7, .v (vP 2)), (8, .v (vB (utfByte q1.u z2).isSome))] : List (Nat × S)) = [(1, .v (vT s)), (2, .v (vP 0)), (4, .v (vP 1)), (6, .v (vI z3)), (7, .v (vP 2)), (8, .v (vB (utfByte q1.u z2).isSome))]) ∧ ((!(utfByte q1.u z2).isSome) = true → (.tup [.agg z4, vI z3] : S) = .tup [.agg (cUtf (utfSt u s)), vI (utfBad u s)] ∧ ([] : List Blk) = []) ∧ ((!(utfByte q1.u z2).isSome) = false → ((.v (vI (IntKind.i64.wrap (z3 + 1))) : S) = .v (vI (z3 + 1))) ∧ z5.Nxt q1 [(1, .v (vT s)), (2, .v (vP 0)), (4, .v (vP 1)), (6, .v (vI (z3 + 1)))] [.cells (cUtf ((utfByte q1.u z2).getD q1.u)), .cells [zi 0, zi 0, zi 0]]))) ∧ ((decide (z3 < (s.length : Int))) = false → (.tup [.agg z4, vI (-1)] : S) = .tup [.agg (cUtf (utfSt u s)), vI (utfBad u s)] ∧ ([] : List Blk) = [])))) (by kernel_rfl) ?_
 refine ⟨has_of (j := (⟨u, 0⟩ : utfText_s_V0)) (by first | rfl | simp) rfl (by dsimp only [utfText_s_F0]; exact ⟨by omega, by simp⟩), fun (q1 : utfText_s_V0) hq_q1 => ?_⟩
 have hi_q1 : q1.i ≤ s.length ∧ utfRun q1.u (List.drop q1.i s) q1.i = utfRun u s 0 := hq_q1
 obtain ⟨v1, v2⟩ := hi_q1
 refine dsp (fun h1 p1 => ?_) fun h1 p1 => ?_
 refine ⟨(ax_get (l := s) (i := q1.i) (by omega)), fun x1 hx1 => ?_⟩
 have hb_x1 := UInt8.toNat_lt x1
 refine ⟨hx1, (by omega), hx1, (by omega), (as_i64 (by omega) (by omega)), (as_i64 (by omega) (by omega)), (utfByte_s q1.u _), (utfByte_s q1.u _), rfl, rfl, fun h2 => have q2 := bnot_t h2; ?_, fun h2 => have q2 := bnot_f h2; ?_⟩
 rw [drop_el hx1, utfRun] at v2
 refine have hm1 : utfSt u s = q1.u := ?_; ?_
 rotate_left
 refine ⟨(congrArg S.tup (consE (congrArg V.agg (consE (congrArg (C.int .i64) ?_) (consE (congrArg (C.int .i64) ?_) (consE (congrArg (C.int .i64) ?_) rfl)))) (consE (congrArg V.c (congrArg (C.int .i64) ?_)) rfl))), rfl⟩
 rotate_left 4
 rw [drop_el hx1, utfRun] at v2
 exact ⟨(as_i64 (by omega) (by omega)), nxt_of (j := (⟨((utfByte q1.u ((UInt8.toNat x1 : Nat) : Int)).getD q1.u), q1.i + 1⟩ : utfText_s_V0)) (by first | rfl | simp) rfl (by dsimp only [utfText_s_F0]; exact ⟨by omega, by cases hu : utfByte q1.u (x1.toNat : Int) <;> simp_all⟩) (by dsimp only [utfText_s_F0]; omega)⟩
 rw [drop_end p1] at v2
 refine have hm1 : utfSt u s = q1.u := ?_; ?_
 rotate_left
 refine ⟨(congrArg S.tup (consE (congrArg V.agg (consE (congrArg (C.int .i64) ?_) (consE (congrArg (C.int .i64) ?_) (consE (congrArg (C.int .i64) ?_) rfl)))) (consE (congrArg V.c (congrArg (C.int .i64) ?_)) rfl))), rfl⟩
 rotate_left 4
 all_goals first | (unfold utfSt; rw [← v2, utfRun]; done) | (unfold utfBad; rw [← v2, utfRun]; done) | (unfold utfSt; rw [← v2]; clear v2; cases hu : utfByte q1.u (x1.toNat : Int) <;> simp_all) | (unfold utfBad; rw [← v2]; clear v2; cases hu : utfByte q1.u (x1.toNat : Int) <;> simp_all)
theorem fldOk_i (f : Fld) (before : Int) (n : Int) (hp1 : (0 : Int) ≤ n ∧ n ≤ 1000) : Fun Tryz.prog 93 [.agg (cFld f), vI before, vI n] [] (.v (vB (decide (before < (f).number) && fldOk f n))) [] := by
 have hN : bigN = 274877906944 := rfl
 refine fun_ofw Tryz.func93 (by kernel_rfl) (by kernel_rfl) (w := let z1 := vB (decide (before < (f).number) && fldOk f n); let z2 := vB (within f.msg 0 (n - 1)); let z4 := ([] : List Blk); let z5 := (.v (vB false) : S); let z6 := (.v (vI (IntKind.i64.wrap (n - 1))) : S) = .v (vI (n - 1)); let z7 := numberOk f.number; let z8 := numeric f.kind; let z9 := kindOk f.kind; let z10 := decide (f.kind = 8); let z3 := z10 = false → (.v (vB (decide (f.msg = (-1)))) : S) = .v z1 ∧ z4 = []; (.seg [.call [] (.v (vB z7)) []] (.br (.leaf () []) (.br (.leaf () []) (.seg [.call [] (.v (vB z9)) []] (.br (.leaf () []) (.br (.br (.leaf () []) (.seg [.call [] (.v (vB z8)) []] (.br (.leaf () []) (.br (.seg [.as 45 (.v (vI (n - 1))), .call [] (.v z2) []] (.leaf () [])) (.leaf () []))))) (.br (.seg [.as 45 (.v (vI (n - 1))), .call [] (.v z2) []] (.leaf () [])) (.leaf () []))))))), (Fun Tryz.prog 142 [vI f.number] [] (.v (vB z7)) []) ∧ ((!z7) = true → z5 = .v z1 ∧ z4 = []) ∧ ((!z7) = false → ((decide (f.number ≤ before)) = true → z5 = .v z1 ∧ z4 = []) ∧ ((decide (f.number ≤ before)) = false → (Fun Tryz.prog 143 [vI f.kind] [] (.v (vB z9)) []) ∧ ((!z9) = true → z5 = .v z1 ∧ z4 = []) ∧ ((!z9) = false → (f.packed = true → ((!f.rep) = true → z5 = .v z1 ∧ z4 = []) ∧ ((!f.rep) = false → (Fun Tryz.prog 130 [vI f.kind] [] (.v (vB z8)) []) ∧ ((!z8) = true → z5 = .v z1 ∧ z4 = []) ∧ ((!z8) = false → (z10 = true → z6 ∧ (Fun Tryz.prog 43 [vI f.msg, vI 0, vI (n - 1)] [] (.v z2) []) ∧ (.v z2 : S) = .v z1 ∧ z4 = []) ∧ z3))) ∧ (f.packed = false → (z10 = true → z6 ∧ (Fun Tryz.prog 43 [vI f.msg, vI 0, vI (n - 1)] [] (.v z2) []) ∧ (.v z2 : S) = .v z1 ∧ z4 = []) ∧ z3)))))) (by kernel_rfl) ?_
 refine ⟨(numberOk_i _), fun h1 => have q1 := bnot_t h1; ?_, fun h1 => have q1 := bnot_f h1; ?_⟩
 refine ⟨(sB ?_), rfl⟩
 rotate_left
 refine dsp (fun h2 p2 => ?_) fun h2 p2 => ?_
 refine ⟨(sB ?_), rfl⟩
 rotate_left
 refine ⟨(kindOk_i _), fun h3 => have q3 := bnot_t h3; have p3 := within_f q3; ?_, fun h3 => have q3 := bnot_f h3; have p3 := within_t q3; ?_⟩
 refine ⟨(sB ?_), rfl⟩
 rotate_left
 refine ⟨fun h4 => ?_, fun h4 => ?_⟩
 refine ⟨fun h5 => have q5 := bnot_t h5; ?_, fun h5 => have q5 := bnot_f h5; ?_⟩
 refine ⟨(sB ?_), rfl⟩
 rotate_left
 refine ⟨(numeric_i _), fun h6 => have q6 := bnot_t h6; have p6 := within_f q6; ?_, fun h6 => have q6 := bnot_f h6; have p6 := within_t q6; ?_⟩
 refine ⟨(sB ?_), rfl⟩
 rotate_left
 refine dsp (fun h7 p7 => ?_) fun h7 p7 => ?_
 refine ⟨(as_i64 (by omega) (by omega)), (within_i _ _ _), (sB ?_), rfl⟩
 rotate_left
 refine ⟨(sB ?_), rfl⟩
 rotate_left
 refine dsp (fun h5 p5 => ?_) fun h5 p5 => ?_
 refine ⟨(as_i64 (by omega) (by omega)), (within_i _ _ _), (sB ?_), rfl⟩
 rotate_left
 refine ⟨(sB ?_), rfl⟩
 rotate_left
 all_goals first | (simp [fldOk, *]; done) | (simp_all [fldOk]; done) | (simp_all [fldOk]; omega) | (rw [Bool.eq_iff_iff]; simp_all [fldOk]; omega)
theorem fldOk_s (s : List Shp) (f : Fld) (hp1 : s.length ≤ 1000) : Fun Tryz.prog 90 [.agg [.seq .shp s], .agg (cFld f)] [] (.v (vB (fldOk f (s.length : Int)))) [] := by
 have hN : bigN = 274877906944 := rfl
 refine fun_ofw Tryz.func90 (by kernel_rfl) (by kernel_rfl) (w := let z1 := (s.length : Int); let z2 := vB (within f.msg 0 (z1 - 1)); let z4 := vB (fldOk f z1); let z5 := ([] : List Blk); let z6 := (.v (vI (IntKind.i64.wrap (z1 - 1))) : S) = .v (vI (z1 - 1)); let z7 := numberOk f.number; let z8 := (.v (vB false) : S); let z9 := numeric f.kind; let z10 := kindOk f.kind; let z11 := decide (f.kind = 8); let z3 := z11 = false → (.v (vB (decide (f.msg = (-1)))) : S) = .v z4 ∧ z5 = []; (.seg [.call [] (.v (vB z7)) []] (.br (.leaf () []) (.seg [.call [] (.v (vB z10)) []] (.br (.leaf () []) (.br (.br (.leaf () []) (.seg [.call [] (.v (vB z9)) []] (.br (.leaf () []) (.br (.seg [.as 38 (.v (vI (z1 - 1))), .call [] (.v z2) []] (.leaf () [])) (.leaf () []))))) (.br (.seg [.as 38 (.v (vI (z1 - 1))), .call [] (.v z2) []] (.leaf () [])) (.leaf () [])))))), (Fun Tryz.prog 140 [vI f.number] [] (.v (vB z7)) []) ∧ ((!z7) = true → z8 = .v z4 ∧ z5 = []) ∧ ((!z7) = false → (Fun Tryz.prog 135 [vI f.kind] [] (.v (vB z10)) []) ∧ ((!z10) = true → z8 = .v z4 ∧ z5 = []) ∧ ((!z10) = false → (f.packed = true → ((!f.rep) = true → z8 = .v z4 ∧ z5 = []) ∧ ((!f.rep) = false → (Fun Tryz.prog 141 [vI f.kind] [] (.v (vB z9)) []) ∧ ((!z9) = true → z8 = .v z4 ∧ z5 = []) ∧ ((!z9) = false → (z11 = true → z6 ∧ (Fun Tryz.prog 45 [vI f.msg, vI 0, vI (z1 - 1)] [] (.v z2) []) ∧ (.v z2 : S) = .v z4 ∧ z5 = []) ∧ z3))) ∧ (f.packed = false → (z11 = true → z6 ∧ (Fun Tryz.prog 45 [vI f.msg, vI 0, vI (z1 - 1)] [] (.v z2) []) ∧ (.v z2 : S) = .v z4 ∧ z5 = []) ∧ z3))))) (by kernel_rfl) ?_
 refine ⟨(numberOk_s _), fun h1 => have q1 := bnot_t h1; ?_, fun h1 => have q1 := bnot_f h1; ?_⟩
 refine ⟨(sB ?_), rfl⟩
 rotate_left
 refine ⟨(kindOk_s _), fun h2 => have q2 := bnot_t h2; have p2 := within_f q2; ?_, fun h2 => have q2 := bnot_f h2; have p2 := within_t q2; ?_⟩
 refine ⟨(sB ?_), rfl⟩
 rotate_left
 refine ⟨fun h3 => ?_, fun h3 => ?_⟩
 refine ⟨fun h4 => have q4 := bnot_t h4; ?_, fun h4 => have q4 := bnot_f h4; ?_⟩
 refine ⟨(sB ?_), rfl⟩
 rotate_left
 refine ⟨(numeric_s _), fun h5 => have q5 := bnot_t h5; have p5 := within_f q5; ?_, fun h5 => have q5 := bnot_f h5; have p5 := within_t q5; ?_⟩
 refine ⟨(sB ?_), rfl⟩
 rotate_left
 refine dsp (fun h6 p6 => ?_) fun h6 p6 => ?_
 refine ⟨(as_i64 (by omega) (by omega)), (within_s _ _ _), (sB ?_), rfl⟩
 rotate_left
 refine ⟨(sB ?_), rfl⟩
 rotate_left
 refine dsp (fun h4 p4 => ?_) fun h4 p4 => ?_
 refine ⟨(as_i64 (by omega) (by omega)), (within_s _ _ _), (sB ?_), rfl⟩
 rotate_left
 refine ⟨(sB ?_), rfl⟩
 rotate_left
 all_goals first | (simp [fldOk, *]; done) | (simp_all [fldOk]; done) | (simp_all [fldOk]; omega) | (rw [Bool.eq_iff_iff]; simp_all [fldOk]; omega)
structure schemaOk_i_V0 where
 id : Int
 v : Nat
def schemaOk_i_F0 (s : List Shp) : Fam := ⟨schemaOk_i_V0, fun q1 => [(1, .v (vP 0)), (3, .v (vI q1.id)), (14, .v (.c (.seq .shp s))), (15, .v (vI (s.length : Int))), (16, .v (vI (q1.v : Int)))], fun _ => [.cells [.seq .shp s]], fun q1 => q1.v ≤ s.length ∧ shapesOk (s.length : Int) q1.id (List.drop q1.v s) = shapesOk (s.length : Int) 0 s, fun q1 => s.length - q1.v⟩
structure schemaOk_i_V1 where
 number : Int
 v : Nat
def schemaOk_i_F1 (s : List Shp) (q1 : schemaOk_i_V0) (x1 : Shp) : Fam := ⟨schemaOk_i_V1, fun q2 => [(1, .v (vP 0)), (5, .v (vP 1)), (6, .v (vI q2.number)), (14, .v (.c (.seq .shp s))), (15, .v (vI (s.length : Int))), (16, .v (vI (q1.v : Int))), (36, .v (.c (.seq .fld x1.fields))), (37, .v (vI (x1.fields.length : Int))), (38, .v (vI (q2.v : Int)))], fun _ => [.cells [.seq .shp s], .cells (cShp x1)], fun q2 => q2.v ≤ x1.fields.length ∧ fieldsOk (s.length : Int) q2.number (List.drop q2.v x1.fields) = fieldsOk (s.length : Int) 0 x1.fields, fun q2 => x1.fields.length - q2.v⟩
theorem schemaOk_i (s : List Shp) : Fun Tryz.prog 53 [.agg [.seq .shp s]] [] (.v (vB (schemaOk s))) [] := by
 have hN : bigN = 274877906944 := rfl
 refine fun_ofw Tryz.func53 (by kernel_rfl) (by kernel_rfl) (w := let z7 := (s.length : Int); let z8 := vB (schemaOk s); let z9 := (.v (vB false) : S); let z10 := ([] : List Blk); let z11 := schemaOk_i_F0 s; (.br (.leaf () []) (.seg [.at 0, .keep [1, 3, 14, 15, 16], .sel [0]] (.loop z11 fun q1 => .br (.intro (fun (x1 : Shp) => s[q1.v]? = some x1) fun x1 => .seg [.el .shp x1] (.br (.leaf () []) (.br (.leaf () []) (.br (.leaf () []) (.seg [.at 0, .keep [1, 5, 6, 14, 15, 16, 36, 37, 38], .sel [0, 1]] (.loop (schemaOk_i_F1 s q1 x1) fun q2 => .br (.intro (fun (x2 : Fld) => x1.fields[q2.v]? = some x2) fun x2 => .seg [.el .fld x2, .call [] (.v (vB (decide (q2.number < (x2).number) && fldOk x2 z7))) []] (.br (.leaf () []) (.seg [.as 51 (.v (vI ((q2.v : Int) + 1))), .at 0, .keep [1, 5, 6, 14, 15, 16, 36, 37, 38], .sel [0, 1]] (.next)))) (.seg [.as 54 (.v (vI ((q1.v : Int) + 1))), .at 0, .keep [1, 3, 14, 15, 16], .sel [0]] (.next)))))))) (.leaf () []))), ((decide (6 < z7)) = true → z9 = .v z8 ∧ z10 = []) ∧ ((decide (6 < z7)) = false → z11.Has [(1, .v (vP 0)), (3, .v (vI 0)), (14, .v (.c (.seq .shp s))), (15, .v (vI z7)), (16, .v (vI 0))] [.cells [.seq .shp s]] ∧ ∀ q1, z11.inv q1 → (let z6 := (q1.v : Int); ((decide (z6 < z7)) = true → (∃ (x1 : Shp), s[q1.v]? = some x1) ∧ ∀ (x1 : Shp), (s[q1.v]? = some x1) → (let z3 := (x1.fields.length : Int); let z4 := schemaOk_i_F1 s q1 x1; let z5 : List Blk := [.cells [.seq .shp s], .cells (cShp x1)]; (s[q1.v]? = some x1) ∧ ((0 : Int) ≤ z6) ∧ ((decide (x1.id ≤ q1.id)) = true → z9 = .v z8 ∧ z10 = []) ∧ ((decide (x1.id ≤ q1.id)) = false → ((decide (99 < x1.id)) = true → z9 = .v z8 ∧ z10 = []) ∧ ((decide (99 < x1.id)) = false → ((decide (8 < z3)) = true → z9 = .v z8 ∧ z10 = []) ∧ ((decide (8 < z3)) = false → z4.Has [(1, .v (vP 0)), (5, .v (vP 1)), (6, .v (vI 0)), (14, .v (.c (.seq .shp s))), (15, .v (vI z7)), (16, .v (vI z6)), (36, .v (.c (.seq .fld x1.fields))), (37, .v (vI z3)), (38, .v (vI 0))] z5 ∧ ∀ q2, z4.inv q2 → (let z2 := (q2.v : Int); ((decide (z2 < z3)) = true → (∃ (x2 : Fld), x1.fields[q2.v]? = some x2) ∧ ∀ (x2 : Fld), (x1.fields[q2.v]? = some x2) → (let z1 := decide (q2.number < (x2).number) && fldOk x2 z7; (x1.fields[q2.v]? = some x2) ∧ ((0 : Int) ≤ z2) ∧ (Fun Tryz.prog 93 [.agg (cFld x2), vI q2.number, vI z7] [] (.v (vB z1)) []) ∧ ((!z1) = true → z9 = .v z8 ∧ z10 = []) ∧ ((!z1) = false → ((.v (vI (IntKind.i64.wrap (z2 + 1))) : S) = .v (vI (z2 + 1))) ∧ z4.Nxt q2 [(1, .v (vP 0)), (5, .v (vP 1)), (6, .v (vI x2.number)), (14, .v (.c (.seq .shp s))), (15, .v (vI z7)), (16, .v (vI z6)), (36, .v (.c (.seq .fld x1.fields))), (37, .v (vI z3)), (38, .v (vI (z2 + 1)))] z5))) ∧ ((decide (z2 < z3)) = false → ((.v (vI (IntKind.i64.wrap (z6 + 1))) : S) = .v (vI (z6 + 1))) ∧ z11.Nxt q1 [(1, .v (vP 0)), (3, .v (vI x1.id)), (14, .v (.c (.seq .shp s))), (15, .v (vI z7)), (16, .v (vI (z6 + 1)))] [.cells [.seq .shp s]]))))))) ∧ ((decide (z6 < z7)) = false → (.v (vB true) : S) = .v z8 ∧ z10 = []))))) (by kernel_rfl) ?_
 refine dsp (fun h1 p1 => ?_) fun h1 p1 => ?_
 refine ⟨(sB ?_), rfl⟩
 rotate_left
 refine ⟨has_of (j := (⟨0, 0⟩ : schemaOk_i_V0)) (by first | rfl | simp) rfl (by dsimp only [schemaOk_i_F0]; exact ⟨by omega, rfl⟩), fun (q1 : schemaOk_i_V0) hq_q1 => ?_⟩
 have hi_q1 : q1.v ≤ s.length ∧ shapesOk (s.length : Int) q1.id (List.drop q1.v s) = shapesOk (s.length : Int) 0 s := hq_q1
 obtain ⟨v1, v2⟩ := hi_q1
 refine dsp (fun h2 p2 => ?_) fun h2 p2 => ?_
 refine ⟨(ax_get (l := s) (i := q1.v) (by omega)), fun x1 hx1 => ?_⟩
 rw [drop_el hx1, shapesOk] at v2
 refine ⟨hx1, (by omega), dsp (fun h3 p3 => ?_) fun h3 p3 => ?_⟩
 refine ⟨(sB ?_), rfl⟩
 rotate_left
 refine dsp (fun h4 p4 => ?_) fun h4 p4 => ?_
 refine ⟨(sB ?_), rfl⟩
 rotate_left
 refine dsp (fun h5 p5 => ?_) fun h5 p5 => ?_
 refine ⟨(sB ?_), rfl⟩
 rotate_left
 refine ⟨has_of (j := (⟨0, 0⟩ : schemaOk_i_V1)) (by first | rfl | simp) rfl (by dsimp only [schemaOk_i_F1]; exact ⟨by omega, rfl⟩), fun (q2 : schemaOk_i_V1) hq_q2 => ?_⟩
 have hi_q2 : q2.v ≤ x1.fields.length ∧ fieldsOk (s.length : Int) q2.number (List.drop q2.v x1.fields) = fieldsOk (s.length : Int) 0 x1.fields := hq_q2
 obtain ⟨w1, w2⟩ := hi_q2
 refine dsp (fun h6 p6 => ?_) fun h6 p6 => ?_
 refine ⟨(ax_get (l := x1.fields) (i := q2.v) (by omega)), fun x2 hx2 => ?_⟩
 rw [drop_el hx2, fieldsOk] at w2
 refine ⟨hx2, (by omega), (fldOk_i x2 _ _ (by omega)), fun h7 => have q7 := bnot_t h7; have p7 := (andF dT Iff.rfl).1 q7; ?_, fun h7 => have q7 := bnot_f h7; have p7 := (andT dT Iff.rfl).1 q7; ?_⟩
 refine ⟨(sB ?_), rfl⟩
 rotate_left
 exact ⟨(as_i64 (by omega) (by omega)), nxt_of (j := (⟨x2.number, q2.v + 1⟩ : schemaOk_i_V1)) (by first | rfl | simp) rfl (by dsimp only [schemaOk_i_F1]; exact ⟨by omega, by grind [fieldsOk]⟩) (by dsimp only [schemaOk_i_F1]; omega)⟩
 rw [drop_end p6] at w2
 exact ⟨(as_i64 (by omega) (by omega)), nxt_of (j := (⟨x1.id, q1.v + 1⟩ : schemaOk_i_V0)) (by first | rfl | simp) rfl (by dsimp only [schemaOk_i_F0]; exact ⟨by omega, by grind [shapesOk, fieldsOk]⟩) (by dsimp only [schemaOk_i_F0]; omega)⟩
 rw [drop_end p2] at v2
 refine ⟨(sB ?_), rfl⟩
 rotate_left
 all_goals grind [schemaOk, shapesOk, fieldsOk]
structure schemaOk_s_V0 where
 i : Nat
 pv : Int
def schemaOk_s_F0 (s : List Shp) : Fam := ⟨schemaOk_s_V0, fun q1 => [(1, .v (vP 0)), (3, .v (vI (q1.i : Int)))], fun _ => [.cells [.seq .shp s]], fun q1 => q1.i ≤ s.length ∧ (0 : Int) ≤ q1.pv ∧ (q1.i = 0 → q1.pv = 0) ∧ (∀ y, 0 < q1.i → s[Int.toNat ((q1.i : Int) - 1)]? = some y → q1.pv = y.id) ∧ shapesOk (s.length : Int) q1.pv (List.drop q1.i s) = shapesOk (s.length : Int) 0 s, fun q1 => s.length - q1.i⟩
structure schemaOk_s_V1 where
 k : Nat
 pv : Int
def schemaOk_s_F1 (s : List Shp) (q1 : schemaOk_s_V0) (x1 : Shp) : Fam := ⟨schemaOk_s_V1, fun q2 => [(1, .v (vP 0)), (3, .v (vI (q1.i : Int))), (4, .v (vP 1)), (5, .v (vI (q2.k : Int)))], fun _ => [.cells [.seq .shp s], .cells (cShp x1)], fun q2 => q2.k ≤ x1.fields.length ∧ (0 : Int) ≤ q2.pv ∧ (q2.k = 0 → q2.pv = 0) ∧ (∀ y, 0 < q2.k → x1.fields[Int.toNat ((q2.k : Int) - 1)]? = some y → q2.pv = y.number) ∧ fieldsOk (s.length : Int) q2.pv (List.drop q2.k x1.fields) = fieldsOk (s.length : Int) 0 x1.fields, fun q2 => x1.fields.length - q2.k⟩
theorem schemaOk_s (s : List Shp) : Fun Tryz.prog 47 [.agg [.seq .shp s]] [] (.v (vB (schemaOk s))) [] := by
 have hN : bigN = 274877906944 := rfl
 refine fun_ofw Tryz.func47 (by kernel_rfl) (by kernel_rfl) (w := let z25 := (s.length : Int); let z26 := (.v (vB false) : S); let z27 := vB (schemaOk s); let z28 := ([] : List Blk); let z29 := schemaOk_s_F0 s; let z30 := os 28 [6]; let z31 : List Blk := [.cells [.seq .shp s]]; (.br (.leaf () []) (.seg [.at 0, .keep [1, 3], .sel [0]] (.loop z29 fun q1 => let z23 := (q1.i : Int); .br (.intro (fun (x1 : Shp) => s[q1.i]? = some x1) fun x1 => let z17 := within x1.id 1 99; .seg [.el .shp x1] (.case (!z17) (.seg [.ord (os 26 [2]) [], .call [] (.v (vB z17)) [], .br true] (.leaf () [])) (.case (decide (0 < z23)) (.intro (fun (x2 : Shp) => s[Int.toNat (z23 - 1)]? = some x2) fun x2 => .case (decide (x1.id ≤ x2.id)) (.seg [.ord (os 26 [2]) [], .call [] (.v (vB z17)) [], .br false, .br true, .as 33 (.v (vI (z23 - 1))), .el .shp x2, .br true] (.leaf () [])) (.seg [.ord (os 26 [2]) [], .call [] (.v (vB z17)) [], .br false, .br true, .as 33 (.v (vI (z23 - 1))), .el .shp x2, .br false] (.br (.leaf () []) (.seg [.at 0, .keep [1, 3, 4, 5], .sel [0, 1]] (.loop (schemaOk_s_F1 s q1 x1) fun q2 => let z6 := (q2.k : Int); .br (.intro (fun (x3 : Fld) => x1.fields[q2.k]? = some x3) fun x3 => let z3 := fldOk x3 z25; .case (!z3) (.seg [.ord z30 [], .el .fld x3, .call [] (.v (vB z3)) [], .br true] (.leaf () [])) (.case (decide (0 < z6)) (.intro (fun (x4 : Fld) => x1.fields[Int.toNat (z6 - 1)]? = some x4) fun x4 => .seg [.ord z30 [], .el .fld x3, .call [] (.v (vB z3)) [], .br false, .br true, .as 70 (.v (vI (z6 - 1))), .el .fld x4, .el .fld x3] (.br (.leaf () []) (.seg [.as 54 (.v (vI (z6 + 1))), .at 0, .keep [1, 3, 4, 5], .sel [0, 1]] (.next)))) (.seg [.ord z30 [], .el .fld x3, .call [] (.v (vB z3)) [], .br false, .br false, .as 54 (.v (vI (z6 + 1))), .at 0, .keep [1, 3, 4, 5], .sel [0, 1]] (.next)))) (.seg [.as 16 (.v (vI (z23 + 1))), .at 0, .keep [1, 3], .sel [0]] (.next))))))) (.seg [.ord (os 26 [2]) [], .call [] (.v (vB z17)) [], .br false, .br false] (.br (.leaf () []) (.seg [.at 0, .keep [1, 3, 4, 5], .sel [0, 1]] (.loop (schemaOk_s_F1 s q1 x1) fun q2 => let z15 := (q2.k : Int); .br (.intro (fun (x2 : Fld) => x1.fields[q2.k]? = some x2) fun x2 => let z12 := fldOk x2 z25; .case (!z12) (.seg [.ord z30 [], .el .fld x2, .call [] (.v (vB z12)) [], .br true] (.leaf () [])) (.case (decide (0 < z15)) (.intro (fun (x3 : Fld) => x1.fields[Int.toNat (z15 - 1)]? = some x3) fun x3 => .seg [.ord z30 [], .el .fld x2, .call [] (.v (vB z12)) [], .br false, .br true, .as 70 (.v (vI (z15 - 1))), .el .fld x3, .el .fld x2] (.br (.leaf () []) (.seg [.as 54 (.v (vI (z15 + 1))), .at 0, .keep [1, 3, 4, 5], .sel [0, 1]] (.next)))) (.seg [.ord z30 [], .el .fld x2, .call [] (.v (vB z12)) [], .br false, .br false, .as 54 (.v (vI (z15 + 1))), .at 0, .keep [1, 3, 4, 5], .sel [0, 1]] (.next)))) (.seg [.as 16 (.v (vI (z23 + 1))), .at 0, .keep [1, 3], .sel [0]] (.next))))))))) (.leaf () []))), ((decide (6 < z25)) = true → z26 = .v z27 ∧ z28 = []) ∧ ((decide (6 < z25)) = false → z29.Has [(1, .v (vP 0)), (3, .v (vI 0))] z31 ∧ ∀ q1, z29.inv q1 → (let z24 := (q1.i : Int); ((decide (z24 < z25)) = true → (∃ (x1 : Shp), s[q1.i]? = some x1) ∧ ∀ (x1 : Shp), (s[q1.i]? = some x1) → (let z18 := (x1.fields.length : Int); let z19 : List Blk := [.cells [.seq .shp s], .cells (cShp x1)]; let z20 := within x1.id 1 99; let z21 := schemaOk_s_F1 s q1 x1; let z22 : List V := [vI x1.id, vI 1, vI 99]; (s[q1.i]? = some x1) ∧ ((0 : Int) ≤ z24) ∧ ((!z20) = true → (Fun Tryz.prog 45 z22 [] (.v (vB z20)) []) ∧ ((!z20) = true) ∧ z26 = .v z27 ∧ z28 = []) ∧ ((!z20) = false → ((decide (0 < z24)) = true → (∃ (x2 : Shp), s[Int.toNat (z24 - 1)]? = some x2) ∧ ∀ (x2 : Shp), (s[Int.toNat (z24 - 1)]? = some x2) → (let z8 := s[Int.toNat (z24 - 1)]? = some x2; let z9 := decide (x1.id ≤ x2.id); (z9 = true → (Fun Tryz.prog 45 z22 [] (.v (vB z20)) []) ∧ ((!z20) = false) ∧ ((decide (0 < z24)) = true) ∧ ((.v (vI (IntKind.i64.wrap (z24 - 1))) : S) = .v (vI (z24 - 1))) ∧ ((.v (vI (IntKind.i64.wrap (z24 - 1))) : S) = .v (vI (z24 - 1))) ∧ z8 ∧ ((0 : Int) ≤ z24 - 1) ∧ z8 ∧ ((0 : Int) ≤ z24 - 1) ∧ (z9 = true) ∧ z26 = .v z27 ∧ z28 = []) ∧ (z9 = false → (Fun Tryz.prog 45 z22 [] (.v (vB z20)) []) ∧ ((!z20) = false) ∧ ((decide (0 < z24)) = true) ∧ ((.v (vI (IntKind.i64.wrap (z24 - 1))) : S) = .v (vI (z24 - 1))) ∧ ((.v (vI (IntKind.i64.wrap (z24 - 1))) : S) = .v (vI (z24 - 1))) ∧ z8 ∧ ((0 : Int) ≤ z24 - 1) ∧ z8 ∧ ((0 : Int) ≤ z24 - 1) ∧ (z9 = false) ∧ ((decide (8 < z18)) = true → z26 = .v z27 ∧ z28 = []) ∧ ((decide (8 < z18)) = false → z21.Has [(1, .v (vP 0)), (3, .v (vI z24)), (4, .v (vP 1)), (5, .v (vI 0))] z19 ∧ ∀ q2, z21.inv q2 → (let z7 := (q2.k : Int); ((decide (z7 < z18)) = true → (∃ (x3 : Fld), x1.fields[q2.k]? = some x3) ∧ ∀ (x3 : Fld), (x1.fields[q2.k]? = some x3) → (let z4 := fldOk x3 z25; let z5 := x1.fields[q2.k]? = some x3; ((!z4) = true → z5 ∧ ((0 : Int) ≤ z7) ∧ z5 ∧ ((0 : Int) ≤ z7) ∧ (Fun Tryz.prog 90 [.agg [.seq .shp s], .agg (cFld x3)] [] (.v (vB z4)) []) ∧ ((!z4) = true) ∧ z26 = .v z27 ∧ z28 = []) ∧ ((!z4) = false → ((decide (0 < z7)) = true → (∃ (x4 : Fld), x1.fields[Int.toNat (z7 - 1)]? = some x4) ∧ ∀ (x4 : Fld), (x1.fields[Int.toNat (z7 - 1)]? = some x4) → (let z1 := x1.fields[Int.toNat (z7 - 1)]? = some x4; let z2 := decide (x3.number ≤ x4.number); z5 ∧ ((0 : Int) ≤ z7) ∧ z5 ∧ ((0 : Int) ≤ z7) ∧ (Fun Tryz.prog 90 [.agg [.seq .shp s], .agg (cFld x3)] [] (.v (vB z4)) []) ∧ ((!z4) = false) ∧ ((decide (0 < z7)) = true) ∧ ((.v (vI (IntKind.i64.wrap (z7 - 1))) : S) = .v (vI (z7 - 1))) ∧ ((.v (vI (IntKind.i64.wrap (z7 - 1))) : S) = .v (vI (z7 - 1))) ∧ z1 ∧ ((0 : Int) ≤ z7 - 1) ∧ z1 ∧ ((0 : Int) ≤ z7 - 1) ∧ z5 ∧ ((0 : Int) ≤ z7) ∧ z5 ∧ ((0 : Int) ≤ z7) ∧ (z2 = true → z26 = .v z27 ∧ z28 = []) ∧ (z2 = false → ((.v (vI (IntKind.i64.wrap (z7 + 1))) : S) = .v (vI (z7 + 1))) ∧ z21.Nxt q2 [(1, .v (vP 0)), (3, .v (vI z24)), (4, .v (vP 1)), (5, .v (vI (z7 + 1)))] z19))) ∧ ((decide (0 < z7)) = false → z5 ∧ ((0 : Int) ≤ z7) ∧ z5 ∧ ((0 : Int) ≤ z7) ∧ (Fun Tryz.prog 90 [.agg [.seq .shp s], .agg (cFld x3)] [] (.v (vB z4)) []) ∧ ((!z4) = false) ∧ ((decide (0 < z7)) = false) ∧ ((.v (vI (IntKind.i64.wrap (z7 + 1))) : S) = .v (vI (z7 + 1))) ∧ z21.Nxt q2 [(1, .v (vP 0)), (3, .v (vI z24)), (4, .v (vP 1)), (5, .v (vI (z7 + 1)))] z19)))) ∧ ((decide (z7 < z18)) = false → ((.v (vI (IntKind.i64.wrap (z24 + 1))) : S) = .v (vI (z24 + 1))) ∧ z29.Nxt q1 [(1, .v (vP 0)), (3, .v (vI (z24 + 1)))] z31)))))) ∧ ((decide (0 < z24)) = false → (Fun Tryz.prog 45 z22 [] (.v (vB z20)) []) ∧ ((!z20) = false) ∧ ((decide (0 < z24)) = false) ∧ ((decide (8 < z18)) = true → z26 = .v z27 ∧ z28 = []) ∧ ((decide (8 < z18)) = false → z21.Has [(1, .v (vP 0)), (3, .v (vI z24)), (4, .v (vP 1)), (5, .v (vI 0))] z19 ∧ ∀ q2, z21.inv q2 → (let z16 := (q2.k : Int); ((decide (z16 < z18)) = true → (∃ (x2 : Fld), x1.fields[q2.k]? = some x2) ∧ ∀ (x2 : Fld), (x1.fields[q2.k]? = some x2) → (let z13 := fldOk x2 z25; let z14 := x1.fields[q2.k]? = some x2; ((!z13) = true → z14 ∧ ((0 : Int) ≤ z16) ∧ z14 ∧ ((0 : Int) ≤ z16) ∧ (Fun Tryz.prog 90 [.agg [.seq .shp s], .agg (cFld x2)] [] (.v (vB z13)) []) ∧ ((!z13) = true) ∧ z26 = .v z27 ∧ z28 = []) ∧ ((!z13) = false → ((decide (0 < z16)) = true → (∃ (x3 : Fld), x1.fields[Int.toNat (z16 - 1)]? = some x3) ∧ ∀ (x3 : Fld), (x1.fields[Int.toNat (z16 - 1)]? = some x3) → (let z10 := x1.fields[Int.toNat (z16 - 1)]? = some x3; let z11 := decide (x2.number ≤ x3.number); z14 ∧ ((0 : Int) ≤ z16) ∧ z14 ∧ ((0 : Int) ≤ z16) ∧ (Fun Tryz.prog 90 [.agg [.seq .shp s], .agg (cFld x2)] [] (.v (vB z13)) []) ∧ ((!z13) = false) ∧ ((decide (0 < z16)) = true) ∧ ((.v (vI (IntKind.i64.wrap (z16 - 1))) : S) = .v (vI (z16 - 1))) ∧ ((.v (vI (IntKind.i64.wrap (z16 - 1))) : S) = .v (vI (z16 - 1))) ∧ z10 ∧ ((0 : Int) ≤ z16 - 1) ∧ z10 ∧ ((0 : Int) ≤ z16 - 1) ∧ z14 ∧ ((0 : Int) ≤ z16) ∧ z14 ∧ ((0 : Int) ≤ z16) ∧ (z11 = true → z26 = .v z27 ∧ z28 = []) ∧ (z11 = false → ((.v (vI (IntKind.i64.wrap (z16 + 1))) : S) = .v (vI (z16 + 1))) ∧ z21.Nxt q2 [(1, .v (vP 0)), (3, .v (vI z24)), (4, .v (vP 1)), (5, .v (vI (z16 + 1)))] z19))) ∧ ((decide (0 < z16)) = false → z14 ∧ ((0 : Int) ≤ z16) ∧ z14 ∧ ((0 : Int) ≤ z16) ∧ (Fun Tryz.prog 90 [.agg [.seq .shp s], .agg (cFld x2)] [] (.v (vB z13)) []) ∧ ((!z13) = false) ∧ ((decide (0 < z16)) = false) ∧ ((.v (vI (IntKind.i64.wrap (z16 + 1))) : S) = .v (vI (z16 + 1))) ∧ z21.Nxt q2 [(1, .v (vP 0)), (3, .v (vI z24)), (4, .v (vP 1)), (5, .v (vI (z16 + 1)))] z19)))) ∧ ((decide (z16 < z18)) = false → ((.v (vI (IntKind.i64.wrap (z24 + 1))) : S) = .v (vI (z24 + 1))) ∧ z29.Nxt q1 [(1, .v (vP 0)), (3, .v (vI (z24 + 1)))] z31))))))) ∧ ((decide (z24 < z25)) = false → (.v (vB true) : S) = .v z27 ∧ z28 = []))))) (by kernel_rfl) ?_
 refine dsp (fun h1 p1 => ?_) fun h1 p1 => ?_
 exact ⟨(congrArg S.v (congrArg V.c (congrArg C.bool (by unfold schemaOk; grind)))), rfl⟩
 refine ⟨has_of (j := (⟨0, 0⟩ : schemaOk_s_V0)) (by first | rfl | simp) rfl (by dsimp only [schemaOk_s_F0]; exact ⟨by omega, by omega, by omega, by omega, rfl⟩), fun (q1 : schemaOk_s_V0) hq_q1 => ?_⟩
 have hi_q1 : q1.i ≤ s.length ∧ (0 : Int) ≤ q1.pv ∧ (q1.i = 0 → q1.pv = 0) ∧ (∀ y, 0 < q1.i → s[Int.toNat ((q1.i : Int) - 1)]? = some y → q1.pv = y.id) ∧ shapesOk (s.length : Int) q1.pv (List.drop q1.i s) = shapesOk (s.length : Int) 0 s := hq_q1
 obtain ⟨v1, v2, v3, v4, v5⟩ := hi_q1
 refine dsp (fun h2 p2 => ?_) fun h2 p2 => ?_
 refine ⟨(ax_get (l := s) (i := q1.i) (by omega)), fun x1 hx1 => ?_⟩
 rw [drop_el hx1, shapesOk] at v5
 refine ⟨hx1, (by omega), fun h3 => have q3 := bnot_t h3; have p3 := within_f q3; ?_, fun h3 => have q3 := bnot_f h3; have p3 := within_t q3; ?_⟩
 exact ⟨(within_s _ _ _), h3, (congrArg S.v (congrArg V.c (congrArg C.bool (by unfold schemaOk; grind)))), rfl⟩
 refine dsp (fun h4 p4 => ?_) fun h4 p4 => ?_
 refine ⟨(ax_get (l := s) (i := Int.toNat ((q1.i : Int) - 1)) (by omega)), fun x2 hx2 => ?_⟩
 have hy := v4 _ (by omega) hx2
 refine dsp (fun h5 p5 => ?_) fun h5 p5 => ?_
 exact ⟨(within_s _ _ _), h3, h4, (as_i64 (by omega) (by omega)), (as_i64 (by omega) (by omega)), hx2, (by omega), hx2, (by omega), h5, (congrArg S.v (congrArg V.c (congrArg C.bool (by unfold schemaOk; grind)))), rfl⟩
 refine ⟨(within_s _ _ _), h3, h4, (as_i64 (by omega) (by omega)), (as_i64 (by omega) (by omega)), hx2, (by omega), hx2, (by omega), h5, dsp (fun h6 p6 => ?_) fun h6 p6 => ?_⟩
 exact ⟨(congrArg S.v (congrArg V.c (congrArg C.bool (by unfold schemaOk; grind)))), rfl⟩
 refine ⟨has_of (j := (⟨0, 0⟩ : schemaOk_s_V1)) (by first | rfl | simp) rfl (by dsimp only [schemaOk_s_F1]; exact ⟨by omega, by omega, by omega, by omega, rfl⟩), fun (q2 : schemaOk_s_V1) hq_q2 => ?_⟩
 have hi_q2 : q2.k ≤ x1.fields.length ∧ (0 : Int) ≤ q2.pv ∧ (q2.k = 0 → q2.pv = 0) ∧ (∀ y, 0 < q2.k → x1.fields[Int.toNat ((q2.k : Int) - 1)]? = some y → q2.pv = y.number) ∧ fieldsOk (s.length : Int) q2.pv (List.drop q2.k x1.fields) = fieldsOk (s.length : Int) 0 x1.fields := hq_q2
 obtain ⟨w1, w2, w3, w4, w5⟩ := hi_q2
 refine dsp (fun h7 p7 => ?_) fun h7 p7 => ?_
 refine ⟨(ax_get (l := x1.fields) (i := q2.k) (by omega)), fun x3 hx3 => ?_⟩
 rw [drop_el hx3, fieldsOk] at w5
 refine ⟨fun h8 => have q8 := bnot_t h8; ?_, fun h8 => have q8 := bnot_f h8; have p8 := fldOk_t q8; ?_⟩
 exact ⟨hx3, (by omega), hx3, (by omega), (fldOk_s s x3 (by omega)), h8, (congrArg S.v (congrArg V.c (congrArg C.bool (by unfold schemaOk; grind)))), rfl⟩
 refine dsp (fun h9 p9 => ?_) fun h9 p9 => ?_
 refine ⟨(ax_get (l := x1.fields) (i := Int.toNat ((q2.k : Int) - 1)) (by omega)), fun x4 hx4 => ?_⟩
 have hz := w4 _ (by omega) hx4
 refine ⟨hx3, (by omega), hx3, (by omega), (fldOk_s s x3 (by omega)), h8, h9, (as_i64 (by omega) (by omega)), (as_i64 (by omega) (by omega)), hx4, (by omega), hx4, (by omega), hx3, (by omega), hx3, (by omega), dsp (fun h10 p10 => ?_) fun h10 p10 => ?_⟩
 exact ⟨(congrArg S.v (congrArg V.c (congrArg C.bool (by unfold schemaOk; grind)))), rfl⟩
 exact ⟨(as_i64 (by omega) (by omega)), nxt_of (j := (⟨q2.k + 1, x3.number⟩ : schemaOk_s_V1)) (by first | rfl | simp) rfl (by dsimp only [schemaOk_s_F1]; exact ⟨by omega, by grind, by omega, by intro y h1 h2; rw [show Int.toNat ((((q2.k + 1) : Nat) : Int) - 1) = q2.k by omega] at h2; grind, by rw [← w5, decide_eq_true (show q2.pv < x3.number by omega), bnot_f (by assumption : (!fldOk x3 _) = false)]; simp⟩) (by dsimp only [schemaOk_s_F1]; omega)⟩
 exact ⟨hx3, (by omega), hx3, (by omega), (fldOk_s s x3 (by omega)), h8, h9, (as_i64 (by omega) (by omega)), nxt_of (j := (⟨q2.k + 1, x3.number⟩ : schemaOk_s_V1)) (by first | rfl | simp) rfl (by dsimp only [schemaOk_s_F1]; exact ⟨by omega, by grind, by omega, by intro y h1 h2; rw [show Int.toNat ((((q2.k + 1) : Nat) : Int) - 1) = q2.k by omega] at h2; grind, by rw [← w5, decide_eq_true (show q2.pv < x3.number by omega), bnot_f (by assumption : (!fldOk x3 _) = false)]; simp⟩) (by dsimp only [schemaOk_s_F1]; omega)⟩
 rw [drop_end p7, fieldsOk] at w5
 exact ⟨(as_i64 (by omega) (by omega)), nxt_of (j := (⟨q1.i + 1, x1.id⟩ : schemaOk_s_V0)) (by first | rfl | simp) rfl (by dsimp only [schemaOk_s_F0]; exact ⟨by omega, by grind, by omega, by intro y h1 h2; rw [show Int.toNat ((((q1.i + 1) : Nat) : Int) - 1) = q1.i by omega] at h2; grind, by rw [← v5, decide_eq_true (show q1.pv < x1.id by omega), decide_eq_true (show x1.id ≤ 99 by omega), decide_eq_true (show (x1.fields.length : Int) ≤ 8 by omega), ← w5]; simp⟩) (by dsimp only [schemaOk_s_F0]; omega)⟩
 refine ⟨(within_s _ _ _), h3, h4, dsp (fun h5 p5 => ?_) fun h5 p5 => ?_⟩
 exact ⟨(congrArg S.v (congrArg V.c (congrArg C.bool (by unfold schemaOk; grind)))), rfl⟩
 refine ⟨has_of (j := (⟨0, 0⟩ : schemaOk_s_V1)) (by first | rfl | simp) rfl (by dsimp only [schemaOk_s_F1]; exact ⟨by omega, by omega, by omega, by omega, rfl⟩), fun (q2 : schemaOk_s_V1) hq_q2 => ?_⟩
 have hi_q2 : q2.k ≤ x1.fields.length ∧ (0 : Int) ≤ q2.pv ∧ (q2.k = 0 → q2.pv = 0) ∧ (∀ y, 0 < q2.k → x1.fields[Int.toNat ((q2.k : Int) - 1)]? = some y → q2.pv = y.number) ∧ fieldsOk (s.length : Int) q2.pv (List.drop q2.k x1.fields) = fieldsOk (s.length : Int) 0 x1.fields := hq_q2
 obtain ⟨w1, w2, w3, w4, w5⟩ := hi_q2
 refine dsp (fun h6 p6 => ?_) fun h6 p6 => ?_
 refine ⟨(ax_get (l := x1.fields) (i := q2.k) (by omega)), fun x2 hx2 => ?_⟩
 rw [drop_el hx2, fieldsOk] at w5
 refine ⟨fun h7 => have q7 := bnot_t h7; ?_, fun h7 => have q7 := bnot_f h7; have p7 := fldOk_t q7; ?_⟩
 exact ⟨hx2, (by omega), hx2, (by omega), (fldOk_s s x2 (by omega)), h7, (congrArg S.v (congrArg V.c (congrArg C.bool (by unfold schemaOk; grind)))), rfl⟩
 refine dsp (fun h8 p8 => ?_) fun h8 p8 => ?_
 refine ⟨(ax_get (l := x1.fields) (i := Int.toNat ((q2.k : Int) - 1)) (by omega)), fun x3 hx3 => ?_⟩
 have hz := w4 _ (by omega) hx3
 refine ⟨hx2, (by omega), hx2, (by omega), (fldOk_s s x2 (by omega)), h7, h8, (as_i64 (by omega) (by omega)), (as_i64 (by omega) (by omega)), hx3, (by omega), hx3, (by omega), hx2, (by omega), hx2, (by omega), dsp (fun h9 p9 => ?_) fun h9 p9 => ?_⟩
 exact ⟨(congrArg S.v (congrArg V.c (congrArg C.bool (by unfold schemaOk; grind)))), rfl⟩
 exact ⟨(as_i64 (by omega) (by omega)), nxt_of (j := (⟨q2.k + 1, x2.number⟩ : schemaOk_s_V1)) (by first | rfl | simp) rfl (by dsimp only [schemaOk_s_F1]; exact ⟨by omega, by grind, by omega, by intro y h1 h2; rw [show Int.toNat ((((q2.k + 1) : Nat) : Int) - 1) = q2.k by omega] at h2; grind, by rw [← w5, decide_eq_true (show q2.pv < x2.number by omega), bnot_f (by assumption : (!fldOk x2 _) = false)]; simp⟩) (by dsimp only [schemaOk_s_F1]; omega)⟩
 exact ⟨hx2, (by omega), hx2, (by omega), (fldOk_s s x2 (by omega)), h7, h8, (as_i64 (by omega) (by omega)), nxt_of (j := (⟨q2.k + 1, x2.number⟩ : schemaOk_s_V1)) (by first | rfl | simp) rfl (by dsimp only [schemaOk_s_F1]; exact ⟨by omega, by grind, by omega, by intro y h1 h2; rw [show Int.toNat ((((q2.k + 1) : Nat) : Int) - 1) = q2.k by omega] at h2; grind, by rw [← w5, decide_eq_true (show q2.pv < x2.number by omega), bnot_f (by assumption : (!fldOk x2 _) = false)]; simp⟩) (by dsimp only [schemaOk_s_F1]; omega)⟩
 rw [drop_end p6, fieldsOk] at w5
 exact ⟨(as_i64 (by omega) (by omega)), nxt_of (j := (⟨q1.i + 1, x1.id⟩ : schemaOk_s_V0)) (by first | rfl | simp) rfl (by dsimp only [schemaOk_s_F0]; exact ⟨by omega, by grind, by omega, by intro y h1 h2; rw [show Int.toNat ((((q1.i + 1) : Nat) : Int) - 1) = q1.i by omega] at h2; grind, by rw [← v5, decide_eq_true (show q1.pv < x1.id by omega), decide_eq_true (show x1.id ≤ 99 by omega), decide_eq_true (show (x1.fields.length : Int) ≤ 8 by omega), ← w5]; simp⟩) (by dsimp only [schemaOk_s_F0]; omega)⟩
 rw [drop_end p2, shapesOk] at v5
 exact ⟨(congrArg S.v (congrArg V.c (congrArg C.bool (by unfold schemaOk; grind)))), rfl⟩
structure fieldAt_i_V0 where
 v : Nat
def fieldAt_i_F0 (n : Int) (x1 : Shp) : Fam := ⟨fieldAt_i_V0, fun q1 => [(2, .v (vI n)), (6, .v (vP 0)), (23, .v (.c (.seq .fld x1.fields))), (24, .v (vI (x1.fields.length : Int))), (25, .v (vI (q1.v : Int)))], fun _ => [.cells [.int .i64 0, .int .i64 0, .bool false, .bool false, .int .i64 0]], fun q1 => q1.v ≤ x1.fields.length ∧ fieldIn (List.drop q1.v x1.fields) n = fieldIn x1.fields n, fun q1 => x1.fields.length - q1.v⟩
theorem fieldAt_i (s : List Shp) (sh : Int) (n : Int) (hp1 : s.length ≤ 1000) (hp2 : ∀ x ∈ s, x.fields.length ≤ 1000) : Fun Tryz.prog 75 [.agg [.seq .shp s], vI sh, vI n] [] (.tup [.agg (cFld ((fieldAt s sh n).getD fld0)), vB (fieldAt s sh n).isSome]) [] := by
 have hN : bigN = 274877906944 := rfl
 refine fun_ofw Tryz.func75 (by kernel_rfl) (by kernel_rfl) (w := let z4 : List C := [.int .i64 0, .int .i64 0, .bool false, .bool false, .int .i64 0]; let z5 := (s.length : Int) - 1; let z6 := fieldAt s sh n; let z7 := within sh 0 z5; let z8 := cFld (z6.getD fld0); (.seg [.as 14 (.v (vI z5)), .call [] (.v (vB z7)) []] (.br (.leaf () []) (.intro (fun (x1 : Shp) => s[sh.toNat]? = some x1) fun x1 => .seg [.el .shp x1, .at 0, .keep [2, 6, 23, 24, 25], .sel [1]] (.loop (fieldAt_i_F0 n x1) fun q1 => .br (.intro (fun (x2 : Fld) => x1.fields[q1.v]? = some x2) fun x2 => .seg [.el .fld x2] (.br (.leaf () []) (.seg [.as 34 (.v (vI ((q1.v : Int) + 1))), .at 0, .keep [2, 6, 23, 24, 25], .sel [0]] (.next)))) (.leaf () [])))), ((.v (vI (IntKind.i64.wrap z5)) : S) = .v (vI z5)) ∧ (Fun Tryz.prog 43 [vI sh, vI 0, vI z5] [] (.v (vB z7)) []) ∧ ((!z7) = true → (.tup [.agg z4, vB false] : S) = .tup [.agg z8, vB z6.isSome] ∧ ([] : List Blk) = []) ∧ ((!z7) = false → (∃ (x1 : Shp), s[sh.toNat]? = some x1) ∧ ∀ (x1 : Shp), (s[sh.toNat]? = some x1) → (let z2 := (x1.fields.length : Int); let z3 := fieldAt_i_F0 n x1; (s[sh.toNat]? = some x1) ∧ ((0 : Int) ≤ sh) ∧ z3.Has [(2, .v (vI n)), (6, .v (vP 0)), (23, .v (.c (.seq .fld x1.fields))), (24, .v (vI z2)), (25, .v (vI 0))] [.cells z4] ∧ ∀ q1, z3.inv q1 → (let z1 := (q1.v : Int); ((decide (z1 < z2)) = true → (∃ (x2 : Fld), x1.fields[q1.v]? = some x2) ∧ ∀ (x2 : Fld), (x1.fields[q1.v]? = some x2) → ((x1.fields[q1.v]? = some x2) ∧ ((0 : Int) ≤ z1) ∧ ((decide (x2.number = n)) = true → (.tup [.agg (cFld x2), vB true] : S) = .tup [.agg z8, vB z6.isSome] ∧ ([] : List Blk) = []) ∧ ((decide (x2.number = n)) = false → ((.v (vI (IntKind.i64.wrap (z1 + 1))) : S) = .v (vI (z1 + 1))) ∧ z3.Nxt q1 [(2, .v (vI n)), (6, .v (vP 0)), (23, .v (.c (.seq .fld x1.fields))), (24, .v (vI z2)), (25, .v (vI (z1 + 1)))] [.cells z4]))) ∧ ((decide (z1 < z2)) = false → (.tup [.agg z4, vB false] : S) = .tup [.agg z8, vB z6.isSome] ∧ ([] : List Blk) = [])))))) (by kernel_rfl) ?_
 refine ⟨(as_i64 (by omega) (by omega)), (within_i _ _ _), fun h1 => have q1 := bnot_t h1; have p1 := within_f q1; ?_, fun h1 => have q1 := bnot_f h1; have p1 := within_t q1; ?_⟩
 refine have hm1 : (fieldAt s sh n).getD fld0 = (⟨0, 0, false, false, 0⟩ : Fld) := ?_; ?_
 rotate_left
 refine ⟨(congrArg S.tup (consE (congrArg V.agg (consE (congrArg (C.int .i64) ?_) (consE (congrArg (C.int .i64) ?_) (consE (congrArg C.bool ?_) (consE (congrArg C.bool ?_) (consE (congrArg (C.int .i64) ?_) rfl)))))) (consE (congrArg V.c (congrArg C.bool ?_)) rfl))), rfl⟩
 rotate_left 6
 have q1_ := q1
 refine ⟨(ax_get (l := s) (i := sh.toNat) (by omega)), fun x1 hx1 => ?_⟩
 have hfa := fieldAt_in (n := n) q1_ hx1
 have hfl := hp2 x1 (List.mem_of_getElem? hx1)
 refine ⟨hx1, (by omega), has_of (j := (⟨0⟩ : fieldAt_i_V0)) (by first | rfl | simp) rfl (by dsimp only [fieldAt_i_F0]; exact ⟨by omega, by simp⟩), fun (q1 : fieldAt_i_V0) hq_q1 => ?_⟩
 have hi_q1 : q1.v ≤ x1.fields.length ∧ fieldIn (List.drop q1.v x1.fields) n = fieldIn x1.fields n := hq_q1
 obtain ⟨v1, v2⟩ := hi_q1
 refine dsp (fun h2 p2 => ?_) fun h2 p2 => ?_
 refine ⟨(ax_get (l := x1.fields) (i := q1.v) (by omega)), fun x2 hx2 => ?_⟩
 rw [drop_el hx2, fieldIn_cons] at v2
 refine ⟨hx2, (by omega), dsp (fun h3 p3 => ?_) fun h3 p3 => ?_⟩
 refine have hm1 : (fieldAt s sh n).getD fld0 = x2 := ?_; ?_
 rotate_left
 refine ⟨(congrArg S.tup (consE (congrArg V.agg (consE (congrArg (C.int .i64) ?_) (consE (congrArg (C.int .i64) ?_) (consE (congrArg C.bool ?_) (consE (congrArg C.bool ?_) (consE (congrArg (C.int .i64) ?_) rfl)))))) (consE (congrArg V.c (congrArg C.bool ?_)) rfl))), rfl⟩
 rotate_left 6
 exact ⟨(as_i64 (by omega) (by omega)), nxt_of (j := (⟨q1.v + 1⟩ : fieldAt_i_V0)) (by first | rfl | simp) rfl (by dsimp only [fieldAt_i_F0]; exact ⟨by omega, by grind⟩) (by dsimp only [fieldAt_i_F0]; omega)⟩
 rw [drop_end p2] at v2
 refine have hm1 : (fieldAt s sh n).getD fld0 = (⟨0, 0, false, false, 0⟩ : Fld) := ?_; ?_
 rotate_left
 refine ⟨(congrArg S.tup (consE (congrArg V.agg (consE (congrArg (C.int .i64) ?_) (consE (congrArg (C.int .i64) ?_) (consE (congrArg C.bool ?_) (consE (congrArg C.bool ?_) (consE (congrArg (C.int .i64) ?_) rfl)))))) (consE (congrArg V.c (congrArg C.bool ?_)) rfl))), rfl⟩
 rotate_left 6
 all_goals grind [fieldAt, fld0, fieldIn]
structure fieldAt_s_V0 where
 i : Nat
def fieldAt_s_F0 (n : Int) (x1 : Shp) : Fam := ⟨fieldAt_s_V0, fun q1 => [(2, .v (vI n)), (6, .v (vP 0)), (8, .v (.c (.seq .fld x1.fields))), (9, .v (vI (q1.i : Int)))], fun _ => [.cells [.int .i64 0, .int .i64 0, .bool false, .bool false, .int .i64 0]], fun q1 => q1.i ≤ x1.fields.length ∧ fieldIn (List.drop q1.i x1.fields) n = fieldIn x1.fields n, fun q1 => x1.fields.length - q1.i⟩
theorem fieldAt_s (s : List Shp) (sh : Int) (n : Int) (hp1 : s.length ≤ 1000) (hp2 : ∀ x ∈ s, x.fields.length ≤ 1000) : Fun Tryz.prog 84 [.agg [.seq .shp s], vI sh, vI n] [] (.tup [.agg (cFld ((fieldAt s sh n).getD fld0)), vB (fieldAt s sh n).isSome]) [] := by
 have hN : bigN = 274877906944 := rfl
 refine fun_ofw Tryz.func84 (by kernel_rfl) (by kernel_rfl) (w := let z4 : List C := [.int .i64 0, .int .i64 0, .bool false, .bool false, .int .i64 0]; let z5 := (s.length : Int) - 1; let z6 := fieldAt s sh n; let z7 := within sh 0 z5; let z8 := cFld (z6.getD fld0); (.seg [.as 14 (.v (vI z5)), .call [] (.v (vB z7)) []] (.br (.leaf () []) (.intro (fun (x1 : Shp) => s[sh.toNat]? = some x1) fun x1 => .seg [.el .shp x1, .at 0, .keep [2, 6, 8, 9], .sel [1]] (.loop (fieldAt_s_F0 n x1) fun q1 => .br (.intro (fun (x2 : Fld) => x1.fields[q1.i]? = some x2) fun x2 => .seg [.el .fld x2] (.br (.seg [.el .fld x2] (.leaf () [])) (.seg [.as 29 (.v (vI ((q1.i : Int) + 1))), .at 0, .keep [2, 6, 8, 9], .sel [0]] (.next)))) (.leaf () [])))), ((.v (vI (IntKind.i64.wrap z5)) : S) = .v (vI z5)) ∧ (Fun Tryz.prog 45 [vI sh, vI 0, vI z5] [] (.v (vB z7)) []) ∧ ((!z7) = true → (.tup [.agg z4, vB false] : S) = .tup [.agg z8, vB z6.isSome] ∧ ([] : List Blk) = []) ∧ ((!z7) = false → (∃ (x1 : Shp), s[sh.toNat]? = some x1) ∧ ∀ (x1 : Shp), (s[sh.toNat]? = some x1) → (let z2 := (x1.fields.length : Int); let z3 := fieldAt_s_F0 n x1; (s[sh.toNat]? = some x1) ∧ ((0 : Int) ≤ sh) ∧ z3.Has [(2, .v (vI n)), (6, .v (vP 0)), (8, .v (.c (.seq .fld x1.fields))), (9, .v (vI 0))] [.cells z4] ∧ ∀ q1, z3.inv q1 → (let z1 := (q1.i : Int); ((decide (z1 < z2)) = true → (∃ (x2 : Fld), x1.fields[q1.i]? = some x2) ∧ ∀ (x2 : Fld), (x1.fields[q1.i]? = some x2) → ((x1.fields[q1.i]? = some x2) ∧ ((0 : Int) ≤ z1) ∧ ((decide (x2.number = n)) = true → (x1.fields[q1.i]? = some x2) ∧ ((0 : Int) ≤ z1) ∧ (.tup [.agg (cFld x2), vB true] : S) = .tup [.agg z8, vB z6.isSome] ∧ ([] : List Blk) = []) ∧ ((decide (x2.number = n)) = false → ((.v (vI (IntKind.i64.wrap (z1 + 1))) : S) = .v (vI (z1 + 1))) ∧ z3.Nxt q1 [(2, .v (vI n)), (6, .v (vP 0)), (8, .v (.c (.seq .fld x1.fields))), (9, .v (vI (z1 + 1)))] [.cells z4]))) ∧ ((decide (z1 < z2)) = false → (.tup [.agg z4, vB false] : S) = .tup [.agg z8, vB z6.isSome] ∧ ([] : List Blk) = [])))))) (by kernel_rfl) ?_
 refine ⟨(as_i64 (by omega) (by omega)), (within_s _ _ _), fun h1 => have q1 := bnot_t h1; have p1 := within_f q1; ?_, fun h1 => have q1 := bnot_f h1; have p1 := within_t q1; ?_⟩
 refine have hm1 : (fieldAt s sh n).getD fld0 = (⟨0, 0, false, false, 0⟩ : Fld) := ?_; ?_
 rotate_left
 refine ⟨(congrArg S.tup (consE (congrArg V.agg (consE (congrArg (C.int .i64) ?_) (consE (congrArg (C.int .i64) ?_) (consE (congrArg C.bool ?_) (consE (congrArg C.bool ?_) (consE (congrArg (C.int .i64) ?_) rfl)))))) (consE (congrArg V.c (congrArg C.bool ?_)) rfl))), rfl⟩
 rotate_left 6
 have q1_ := q1
 refine ⟨(ax_get (l := s) (i := sh.toNat) (by omega)), fun x1 hx1 => ?_⟩
 have hfa := fieldAt_in (n := n) q1_ hx1
 have hfl := hp2 x1 (List.mem_of_getElem? hx1)
 refine ⟨hx1, (by omega), has_of (j := (⟨0⟩ : fieldAt_s_V0)) (by first | rfl | simp) rfl (by dsimp only [fieldAt_s_F0]; exact ⟨by omega, by simp⟩), fun (q1 : fieldAt_s_V0) hq_q1 => ?_⟩
 have hi_q1 : q1.i ≤ x1.fields.length ∧ fieldIn (List.drop q1.i x1.fields) n = fieldIn x1.fields n := hq_q1
 obtain ⟨v1, v2⟩ := hi_q1
 refine dsp (fun h2 p2 => ?_) fun h2 p2 => ?_
 refine ⟨(ax_get (l := x1.fields) (i := q1.i) (by omega)), fun x2 hx2 => ?_⟩
 rw [drop_el hx2, fieldIn_cons] at v2
 refine ⟨hx2, (by omega), dsp (fun h3 p3 => ?_) fun h3 p3 => ?_⟩
 refine ⟨hx2, (by omega), ?_⟩
 refine have hm1 : (fieldAt s sh n).getD fld0 = x2 := ?_; ?_
 rotate_left
 refine ⟨(congrArg S.tup (consE (congrArg V.agg (consE (congrArg (C.int .i64) ?_) (consE (congrArg (C.int .i64) ?_) (consE (congrArg C.bool ?_) (consE (congrArg C.bool ?_) (consE (congrArg (C.int .i64) ?_) rfl)))))) (consE (congrArg V.c (congrArg C.bool ?_)) rfl))), rfl⟩
 rotate_left 6
 exact ⟨(as_i64 (by omega) (by omega)), nxt_of (j := (⟨q1.i + 1⟩ : fieldAt_s_V0)) (by first | rfl | simp) rfl (by dsimp only [fieldAt_s_F0]; exact ⟨by omega, by grind⟩) (by dsimp only [fieldAt_s_F0]; omega)⟩
 rw [drop_end p2] at v2
 refine have hm1 : (fieldAt s sh n).getD fld0 = (⟨0, 0, false, false, 0⟩ : Fld) := ?_; ?_
 rotate_left
 refine ⟨(congrArg S.tup (consE (congrArg V.agg (consE (congrArg (C.int .i64) ?_) (consE (congrArg (C.int .i64) ?_) (consE (congrArg C.bool ?_) (consE (congrArg C.bool ?_) (consE (congrArg (C.int .i64) ?_) rfl)))))) (consE (congrArg V.c (congrArg C.bool ?_)) rfl))), rfl⟩
 rotate_left 6
 all_goals grind [fieldAt, fld0, fieldIn]
theorem planOk_i (p : Pln) : Fun Tryz.prog 23 [.agg (cPln p)] [] (.v (vB (planOk p))) [] := by
 have hN : bigN = 274877906944 := rfl
 refine fun_ofw Tryz.func23 (by kernel_rfl) (by kernel_rfl) (w := let z1 := (p.shapes.length : Int) - 1; let z2 := within p.root 0 z1; let z3 := schemaOk p.shapes; let z4 := within p.deep 1 8; let z5 := vB (within p.most 0 2000); let z6 := vB (planOk p); let z7 := ([] : List Blk); let z8 := (.v (vB false) : S); (.seg [.call [] (.v (vB z3)) []] (.br (.seg [.as 13 (.v (vI z1)), .call [] (.v (vB z2)) []] (.br (.seg [.call [] (.v (vB z4)) []] (.br (.seg [.call [] (.v z5) []] (.leaf () [])) (.leaf () []))) (.leaf () []))) (.leaf () [])), (Fun Tryz.prog 53 [.agg [.seq .shp p.shapes]] [] (.v (vB z3)) []) ∧ (z3 = true → ((.v (vI (IntKind.i64.wrap z1)) : S) = .v (vI z1)) ∧ (Fun Tryz.prog 43 [vI p.root, vI 0, vI z1] [] (.v (vB z2)) []) ∧ (z2 = true → (Fun Tryz.prog 43 [vI p.deep, vI 1, vI 8] [] (.v (vB z4)) []) ∧ (z4 = true → (Fun Tryz.prog 43 [vI p.most, vI 0, vI 2000] [] (.v z5) []) ∧ (.v z5 : S) = .v z6 ∧ z7 = []) ∧ (z4 = false → z8 = .v z6 ∧ z7 = [])) ∧ (z2 = false → z8 = .v z6 ∧ z7 = [])) ∧ (z3 = false → z8 = .v z6 ∧ z7 = []))) (by kernel_rfl) ?_
 refine ⟨(schemaOk_i p.shapes), fun h1 => have p1 := schemaOk_t h1; ?_, fun h1 => ?_⟩
 refine ⟨(as_i64 (by omega) (by omega)), (within_i _ _ _), fun h2 => have p2 := within_t h2; ?_, fun h2 => have p2 := within_f h2; ?_⟩
 refine ⟨(within_i _ _ _), fun h3 => have p3 := within_t h3; ?_, fun h3 => have p3 := within_f h3; ?_⟩
 exact ⟨(within_i _ _ _), (congrArg S.v (congrArg V.c (congrArg C.bool (by grind [planOk])))), rfl⟩
 exact ⟨(congrArg S.v (congrArg V.c (congrArg C.bool (by grind [planOk])))), rfl⟩
 exact ⟨(congrArg S.v (congrArg V.c (congrArg C.bool (by grind [planOk])))), rfl⟩
 exact ⟨(congrArg S.v (congrArg V.c (congrArg C.bool (by grind [planOk])))), rfl⟩
theorem planOk_s (p : Pln) : Fun Tryz.prog 18 [.agg (cPln p)] [] (.v (vB (planOk p))) [] := by
 have hN : bigN = 274877906944 := rfl
 refine fun_ofw Tryz.func18 (by kernel_rfl) (by kernel_rfl) (w := let z1 := (p.shapes.length : Int) - 1; let z2 := within p.root 0 z1; let z3 := schemaOk p.shapes; let z4 := within p.deep 1 8; let z5 := vB (within p.most 0 2000); let z6 := vB (planOk p); let z7 := ([] : List Blk); let z8 := (.v (vB false) : S); (.seg [.call [] (.v (vB z3)) []] (.br (.seg [.as 13 (.v (vI z1)), .call [] (.v (vB z2)) []] (.br (.seg [.call [] (.v (vB z4)) []] (.br (.seg [.call [] (.v z5) []] (.leaf () [])) (.leaf () []))) (.leaf () []))) (.leaf () [])), (Fun Tryz.prog 47 [.agg [.seq .shp p.shapes]] [] (.v (vB z3)) []) ∧ (z3 = true → ((.v (vI (IntKind.i64.wrap z1)) : S) = .v (vI z1)) ∧ (Fun Tryz.prog 45 [vI p.root, vI 0, vI z1] [] (.v (vB z2)) []) ∧ (z2 = true → (Fun Tryz.prog 45 [vI p.deep, vI 1, vI 8] [] (.v (vB z4)) []) ∧ (z4 = true → (Fun Tryz.prog 45 [vI p.most, vI 0, vI 2000] [] (.v z5) []) ∧ (.v z5 : S) = .v z6 ∧ z7 = []) ∧ (z4 = false → z8 = .v z6 ∧ z7 = [])) ∧ (z2 = false → z8 = .v z6 ∧ z7 = [])) ∧ (z3 = false → z8 = .v z6 ∧ z7 = []))) (by kernel_rfl) ?_
 refine ⟨(schemaOk_s p.shapes), fun h1 => have p1 := schemaOk_t h1; ?_, fun h1 => ?_⟩
 refine ⟨(as_i64 (by omega) (by omega)), (within_s _ _ _), fun h2 => have p2 := within_t h2; ?_, fun h2 => have p2 := within_f h2; ?_⟩
 refine ⟨(within_s _ _ _), fun h3 => have p3 := within_t h3; ?_, fun h3 => have p3 := within_f h3; ?_⟩
 exact ⟨(within_s _ _ _), (congrArg S.v (congrArg V.c (congrArg C.bool (by grind [planOk])))), rfl⟩
 exact ⟨(congrArg S.v (congrArg V.c (congrArg C.bool (by grind [planOk])))), rfl⟩
 exact ⟨(congrArg S.v (congrArg V.c (congrArg C.bool (by grind [planOk])))), rfl⟩
 exact ⟨(congrArg S.v (congrArg V.c (congrArg C.bool (by grind [planOk])))), rfl⟩
structure frameStop_i_V0 where
 i : Int
theorem stop_i (r : Mr) (c : Int) (a : Int) : Fun Tryz.prog 76 [vP 0, vI c, vI a] [.cells (oMr6 1 r), .lst .ev r.out] (.v (vB false)) [.cells (oMr6 1 (mrFail r c a)), .lst .ev (mrFail r c a).out] := by
 have hN : bigN = 274877906944 := rfl
 refine fun_ofw Tryz.func76 (by kernel_rfl) (by kernel_rfl) (w := let zi : Int → C := .int .i64; let z1 := failEv c a; (.seg [.call [] (.v (.agg (cEv z1))) []] (.leaf () [0, 1]), (Fun Tryz.prog 127 [vI c, vI a] [] (.v (.agg (cEv z1))) []) ∧ (.v (vB false) : S) = .v (vB false) ∧ ([.cells [.seq .shp r.plan.shapes, zi r.plan.root, zi r.plan.deep, zi r.plan.most, .str r.s, zi r.at_, .own 1, zi z1.kind, zi z1.field, .int .u64 z1.bits, zi z1.len, .str z1.text, zi z1.code, zi z1.at_], .lst .ev r.out] : List Blk) = [.cells (oMr6 1 (mrFail r c a)), .lst .ev (mrFail r c a).out])) (by kernel_rfl) ?_
 refine ⟨(failure_i _ _), ?_⟩
 have hm1 : mrFail r c a = (⟨r.plan, r.s, r.at_, r.out, (failEv c a)⟩ : Mr) := by rfl
 exact ⟨rfl, (by rw [hm1] <;> rfl)⟩
theorem variable_i (r : Mr) (end_ : Int) (hp1 : List.length (r).s ≤ bigN) : Fun Tryz.prog 73 [vP 0, vI end_] [.cells (oMr6 1 r), .lst .ev r.out] (.tup [.c (.int .u64 (mrVarU r end_)), vB (mrVarOk r end_)]) [.cells (oMr6 1 (mrVar r end_)), .lst .ev (mrVar r end_).out] := by
 have hN : bigN = 274877906944 := rfl
 refine fun_ofw Tryz.func73 (by kernel_rfl) (by kernel_rfl) (w := let zi : Int → C := .int .i64; let z1 := varWithin r.s r.at_ end_; let z2 : List Blk := [.cells (oMr6 1 (mrFail r z1.2.2 z1.2.1)), .lst .ev (mrFail r z1.2.2 z1.2.1).out]; let z3 : List Blk := [.cells (oMr6 1 (mrVar r end_)), .lst .ev (mrVar r end_).out]; (.seg [.ord (os 17 [9]) [], .call [] (.tup [.c (.int .u64 z1.1), vI z1.2.1, vI z1.2.2]) []] (.br (.seg [.call [0, 1] (.v (vB false)) z2] (.leaf () [0, 1])) (.leaf () [0, 1])), (Fun Tryz.prog 126 [vT r.s, vI r.at_, vI end_] [] (.tup [.c (.int .u64 z1.1), vI z1.2.1, vI z1.2.2]) []) ∧ ((!decide (z1.2.2 = 0)) = true → (Fun Tryz.prog 76 [vP 0, vI z1.2.2, vI z1.2.1] [.cells (oMr6 1 r), .lst .ev r.out] (.v (vB false)) z2) ∧ (.tup [.c (.int .u64 0), vB false] : S) = .tup [.c (.int .u64 (mrVarU r end_)), vB (mrVarOk r end_)] ∧ (z2 : List Blk) = z3) ∧ ((!decide (z1.2.2 = 0)) = false → (.tup [.c (.int .u64 z1.1), vB true] : S) = .tup [.c (.int .u64 (mrVarU r end_)), vB (mrVarOk r end_)] ∧ ([.cells [.seq .shp r.plan.shapes, zi r.plan.root, zi r.plan.deep, zi r.plan.most, .str r.s, zi z1.2.1, .own 1, zi r.fail.kind, zi r.fail.field, .int .u64 r.fail.bits, zi r.fail.len, .str r.fail.text, zi r.fail.code, zi r.fail.at_], .lst .ev r.out] : List Blk) = z3))) (by kernel_rfl) ?_
 refine ⟨(varWithin_i _ _ _ (by omega)), fun h1 => have q1 := bnot_t h1; have p1 := of_decide_eq_false q1; ?_, fun h1 => have q1 := bnot_f h1; have p1 := of_decide_eq_true q1; ?_⟩
 refine ⟨(stop_i r _ _), ?_⟩
 refine have hm1 : mrVar r end_ = (mrFail r (varWithin r.s r.at_ end_).2.2 (varWithin r.s r.at_ end_).2.1) := ?_; ?_
 rotate_left
 refine ⟨(congrArg S.tup (consE (congrArg V.c (congrArg (C.int .u64) ?_)) (consE (congrArg V.c (congrArg C.bool ?_)) rfl))), (by rw [hm1] <;> rfl)⟩
 rotate_left 2
 refine have hm1 : mrVar r end_ = (⟨r.plan, r.s, (varWithin r.s r.at_ end_).2.1, r.out, r.fail⟩ : Mr) := ?_; ?_
 rotate_left
 refine ⟨(congrArg S.tup (consE (congrArg V.c (congrArg (C.int .u64) ?_)) (consE (congrArg V.c (congrArg C.bool ?_)) rfl))), (by rw [hm1] <;> rfl)⟩
 rotate_left 2
 all_goals first | (simp_all [mrVar, mrVarOk, mrVarU, mrFail, mrAt]; done) | (grind [mrVar, mrVarOk, mrVarU, mrFail, mrAt])
theorem variable_s (r : Mr) (end_ : Int) (hp1 : List.length (r).s ≤ bigN) : Fun Tryz.prog 82 [vP 0, vI end_] [.cells (oMr6 1 r), .lst .ev r.out] (.v (.c (.int .u64 (mrVarU r end_)))) [.cells (oMr6 1 (mrVar r end_)), .lst .ev (mrVar r end_).out] := by
 have hN : bigN = 274877906944 := rfl
 refine fun_ofw Tryz.func82 (by kernel_rfl) (by kernel_rfl) (w := let zi : Int → C := .int .i64; let z1 := varWithin r.s r.at_ end_; let z2 := failEv z1.2.2 z1.2.1; let z3 : List Blk := [.cells (oMr6 1 (mrVar r end_)), .lst .ev (mrVar r end_).out]; (.seg [.ord (os 17 [9]) [], .call [] (.tup [.c (.int .u64 z1.1), vI z1.2.1, vI z1.2.2]) []] (.br (.seg [.call [] (.v (.agg (cEv z2))) []] (.leaf () [0, 1])) (.leaf () [0, 1])), (Fun Tryz.prog 92 [vT r.s, vI r.at_, vI end_] [] (.tup [.c (.int .u64 z1.1), vI z1.2.1, vI z1.2.2]) []) ∧ ((!decide (z1.2.2 = 0)) = true → (Fun Tryz.prog 85 [vI z1.2.2, vI z1.2.1] [] (.v (.agg (cEv z2))) []) ∧ (.v (.c (.int .u64 0)) : S) = .v (.c (.int .u64 (mrVarU r end_))) ∧ ([.cells [.seq .shp r.plan.shapes, zi r.plan.root, zi r.plan.deep, zi r.plan.most, .str r.s, zi r.at_, .own 1, zi z2.kind, zi z2.field, .int .u64 z2.bits, zi z2.len, .str z2.text, zi z2.code, zi z2.at_], .lst .ev r.out] : List Blk) = z3) ∧ ((!decide (z1.2.2 = 0)) = false → (.v (.c (.int .u64 z1.1)) : S) = .v (.c (.int .u64 (mrVarU r end_))) ∧ ([.cells [.seq .shp r.plan.shapes, zi r.plan.root, zi r.plan.deep, zi r.plan.most, .str r.s, zi z1.2.1, .own 1, zi r.fail.kind, zi r.fail.field, .int .u64 r.fail.bits, zi r.fail.len, .str r.fail.text, zi r.fail.code, zi r.fail.at_], .lst .ev r.out] : List Blk) = z3))) (by kernel_rfl) ?_
 refine ⟨(varWithin_s _ _ _ (by omega)), fun h1 => have q1 := bnot_t h1; have p1 := of_decide_eq_false q1; ?_, fun h1 => have q1 := bnot_f h1; have p1 := of_decide_eq_true q1; ?_⟩
 refine ⟨(failure_s _ _), ?_⟩
 refine have hm1 : mrVar r end_ = (⟨r.plan, r.s, r.at_, r.out, (failEv (varWithin r.s r.at_ end_).2.2 (varWithin r.s r.at_ end_).2.1)⟩ : Mr) := ?_; ?_
 rotate_left
 refine ⟨(congrArg S.v (congrArg V.c (congrArg (C.int .u64) ?_))), (by rw [hm1] <;> rfl)⟩
 rotate_left
 refine have hm1 : mrVar r end_ = (⟨r.plan, r.s, (varWithin r.s r.at_ end_).2.1, r.out, r.fail⟩ : Mr) := ?_; ?_
 rotate_left
 refine ⟨(congrArg S.v (congrArg V.c (congrArg (C.int .u64) ?_))), (by rw [hm1] <;> rfl)⟩
 rotate_left
 all_goals first | (simp_all [mrVar, mrVarOk, mrVarU, mrFail, mrAt]; done) | (grind [mrVar, mrVarOk, mrVarU, mrFail, mrAt])
theorem fixed_i (r : Mr) (w : Int) (end_ : Int) (hp1 : List.length (r).s ≤ bigN) (hp2 : (0 : Int) ≤ (r).at_ ∧ (r).at_ ≤ ((List.length (r).s : Nat) : Int)) (hp3 : (0 : Int) ≤ w ∧ w ≤ 8) (hp4 : -1000000000 ≤ end_ ∧ end_ ≤ 9223372036854775807) : Fun Tryz.prog 134 [vP 0, vI w, vI end_] [.cells (oMr6 1 r), .lst .ev r.out] (.tup [.c (.int .u64 (mrFixU r w end_)), vB (mrFixOk r w end_)]) [.cells (oMr6 1 (mrFix r w end_)), .lst .ev (mrFix r w end_).out] := by
 have hN : bigN = 274877906944 := rfl
 refine fun_ofw Tryz.func134 (by kernel_rfl) (by kernel_rfl) (w := let zi : Int → C := .int .i64; let z2 : List Blk := [.cells (oMr6 1 (mrFail r 9 r.at_)), .lst .ev (mrFail r 9 r.at_).out]; let z3 : List Blk := [.cells (oMr6 1 (mrFix r w end_)), .lst .ev (mrFix r w end_).out]; let z4 := getFixOk r.s r.at_ w; let z5 := (r.s.length : Int); let z1 : List Blk := [.cells (oMr6 1 (mrFail r 10 z5)), .lst .ev (mrFail r 10 z5).out]; let z6 := (.tup [.c (.int .u64 0), vB false] : S); let z7 := getFix r.s r.at_ w; let z8 := mrFixOk r w end_; (.seg [.as 15 (.v (vI (end_ - r.at_)))] (.br (.seg [.call [0, 1] (.v (vB false)) z2] (.leaf () [0, 1])) (.seg [.ord (os 15 [9]) [], .call [] (.tup [.c (.int .u64 z7), vB z4]) []] (.br (.seg [.call [0, 1] (.v (vB false)) z1] (.leaf () [0, 1])) (.seg [.as 51 (.v (vI (r.at_ + w)))] (.leaf () [0, 1]))))), ((.v (vI (IntKind.i64.wrap (end_ - r.at_))) : S) = .v (vI (end_ - r.at_))) ∧ ((decide (end_ - r.at_ < w)) = true → (Fun Tryz.prog 76 [vP 0, vI 9, vI r.at_] [.cells (oMr6 1 r), .lst .ev r.out] (.v (vB false)) z2) ∧ z6 = .tup [.c (.int .u64 (mrFixU r w end_)), vB z8] ∧ (z2 : List Blk) = z3) ∧ ((decide (end_ - r.at_ < w)) = false → (Fun Tryz.prog 163 [vT r.s, vI r.at_, vI w] [] (.tup [.c (.int .u64 z7), vB z4]) []) ∧ ((!z4) = true → (Fun Tryz.prog 76 [vP 0, vI 10, vI z5] [.cells (oMr6 1 r), .lst .ev r.out] (.v (vB false)) z1) ∧ z6 = .tup [.c (.int .u64 (mrFixU r w end_)), vB z8] ∧ (z1 : List Blk) = z3) ∧ ((!z4) = false → ((.v (vI (IntKind.i64.wrap (r.at_ + w))) : S) = .v (vI (r.at_ + w))) ∧ (.tup [.c (.int .u64 z7), vB true] : S) = .tup [.c (.int .u64 (mrFixU r w end_)), vB z8] ∧ ([.cells [.seq .shp r.plan.shapes, zi r.plan.root, zi r.plan.deep, zi r.plan.most, .str r.s, zi (r.at_ + w), .own 1, zi r.fail.kind, zi r.fail.field, .int .u64 r.fail.bits, zi r.fail.len, .str r.fail.text, zi r.fail.code, zi r.fail.at_], .lst .ev r.out] : List Blk) = z3)))) (by kernel_rfl) ?_
 refine ⟨(as_i64 (by omega) (by omega)), dsp (fun h1 p1 => ?_) fun h1 p1 => ?_⟩
 refine ⟨(stop_i r _ _), ?_⟩
 refine have hm1 : mrFix r w end_ = (mrFail r 9 r.at_) := ?_; ?_
 rotate_left
 refine ⟨(congrArg S.tup (consE (congrArg V.c (congrArg (C.int .u64) ?_)) (consE (congrArg V.c (congrArg C.bool ?_)) rfl))), (by rw [hm1] <;> rfl)⟩
 rotate_left 2
 refine ⟨(getFix_i _ _ _ (by omega)), fun h2 => have q2 := bnot_t h2; ?_, fun h2 => have q2 := bnot_f h2; ?_⟩
 refine ⟨(stop_i r _ _), ?_⟩
 refine have hm1 : mrFix r w end_ = (mrFail r 10 (r.s.length : Int)) := ?_; ?_
 rotate_left
 refine ⟨(congrArg S.tup (consE (congrArg V.c (congrArg (C.int .u64) ?_)) (consE (congrArg V.c (congrArg C.bool ?_)) rfl))), (by rw [hm1] <;> rfl)⟩
 rotate_left 2
 have hfx := getFixOk_t q2
 refine ⟨(as_i64 (by omega) (by omega)), ?_⟩
 refine have hm1 : mrFix r w end_ = (⟨r.plan, r.s, r.at_ + w, r.out, r.fail⟩ : Mr) := ?_; ?_
 rotate_left
 refine ⟨(congrArg S.tup (consE (congrArg V.c (congrArg (C.int .u64) ?_)) (consE (congrArg V.c (congrArg C.bool ?_)) rfl))), (by rw [hm1] <;> rfl)⟩
 rotate_left 2
 all_goals first | (simp_all [mrFix, mrFixOk, mrFixU, mrFail, mrAt]; done) | (grind [mrFix, mrFixOk, mrFixU, mrFail, mrAt])
theorem fixed_s (r : Mr) (w : Int) (end_ : Int) (hp1 : List.length (r).s ≤ bigN) (hp2 : (0 : Int) ≤ (r).at_ ∧ (r).at_ ≤ ((List.length (r).s : Nat) : Int)) (hp3 : (0 : Int) ≤ w ∧ w ≤ 8) (hp4 : -1000000000 ≤ end_ ∧ end_ ≤ 9223372036854775807) : Fun Tryz.prog 138 [vP 0, vI w, vI end_] [.cells (oMr6 1 r), .lst .ev r.out] (.v (.c (.int .u64 (mrFixU r w end_)))) [.cells (oMr6 1 (mrFix r w end_)), .lst .ev (mrFix r w end_).out] := by
 have hN : bigN = 274877906944 := rfl
 refine fun_ofw Tryz.func138 (by kernel_rfl) (by kernel_rfl) (w := let zi : Int → C := .int .i64; let z1 := failEv 10 (r.s.length : Int); let z2 : List Blk := [.cells (oMr6 1 (mrFix r w end_)), .lst .ev (mrFix r w end_).out]; let z3 := failEv 9 r.at_; let z4 := getFixOk r.s r.at_ w; let z5 := getFix r.s r.at_ w; (.seg [.as 14 (.v (vI (end_ - r.at_)))] (.br (.seg [.call [] (.v (.agg (cEv z3))) []] (.leaf () [0, 1])) (.seg [.ord (os 15 [9]) [], .call [] (.tup [.c (.int .u64 z5), vB z4]) []] (.br (.seg [.call [] (.v (.agg (cEv z1))) []] (.leaf () [0, 1])) (.seg [.as 55 (.v (vI (r.at_ + w)))] (.leaf () [0, 1]))))), ((.v (vI (IntKind.i64.wrap (end_ - r.at_))) : S) = .v (vI (end_ - r.at_))) ∧ ((decide (end_ - r.at_ < w)) = true → (Fun Tryz.prog 85 [vI 9, vI r.at_] [] (.v (.agg (cEv z3))) []) ∧ (.v (.c (.int .u64 0)) : S) = .v (.c (.int .u64 (mrFixU r w end_))) ∧ ([.cells [.seq .shp r.plan.shapes, zi r.plan.root, zi r.plan.deep, zi r.plan.most, .str r.s, zi r.at_, .own 1, zi z3.kind, zi z3.field, .int .u64 z3.bits, zi z3.len, .str z3.text, zi z3.code, zi z3.at_], .lst .ev r.out] : List Blk) = z2) ∧ ((decide (end_ - r.at_ < w)) = false → (Fun Tryz.prog 164 [vT r.s, vI r.at_, vI w] [] (.tup [.c (.int .u64 z5), vB z4]) []) ∧ ((!z4) = true → (Fun Tryz.prog 85 [vI 10, vI (r.s.length : Int)] [] (.v (.agg (cEv z1))) []) ∧ (.v (.c (.int .u64 0)) : S) = .v (.c (.int .u64 (mrFixU r w end_))) ∧ ([.cells [.seq .shp r.plan.shapes, zi r.plan.root, zi r.plan.deep, zi r.plan.most, .str r.s, zi r.at_, .own 1, zi z1.kind, zi z1.field, .int .u64 z1.bits, zi z1.len, .str z1.text, zi z1.code, zi z1.at_], .lst .ev r.out] : List Blk) = z2) ∧ ((!z4) = false → ((.v (vI (IntKind.i64.wrap (r.at_ + w))) : S) = .v (vI (r.at_ + w))) ∧ (.v (.c (.int .u64 z5)) : S) = .v (.c (.int .u64 (mrFixU r w end_))) ∧ ([.cells [.seq .shp r.plan.shapes, zi r.plan.root, zi r.plan.deep, zi r.plan.most, .str r.s, zi (r.at_ + w), .own 1, zi r.fail.kind, zi r.fail.field, .int .u64 r.fail.bits, zi r.fail.len, .str r.fail.text, zi r.fail.code, zi r.fail.at_], .lst .ev r.out] : List Blk) = z2)))) (by kernel_rfl) ?_
 refine ⟨(as_i64 (by omega) (by omega)), dsp (fun h1 p1 => ?_) fun h1 p1 => ?_⟩
 refine ⟨(failure_s _ _), ?_⟩
 refine have hm1 : mrFix r w end_ = (⟨r.plan, r.s, r.at_, r.out, (failEv 9 r.at_)⟩ : Mr) := ?_; ?_
 rotate_left
 refine ⟨(congrArg S.v (congrArg V.c (congrArg (C.int .u64) ?_))), (by rw [hm1] <;> rfl)⟩
 rotate_left
 refine ⟨(getFix_s _ _ _ (by omega)), fun h2 => have q2 := bnot_t h2; ?_, fun h2 => have q2 := bnot_f h2; ?_⟩
 refine ⟨(failure_s _ _), ?_⟩
 refine have hm1 : mrFix r w end_ = (⟨r.plan, r.s, r.at_, r.out, (failEv 10 (r.s.length : Int))⟩ : Mr) := ?_; ?_
 rotate_left
 refine ⟨(congrArg S.v (congrArg V.c (congrArg (C.int .u64) ?_))), (by rw [hm1] <;> rfl)⟩
 rotate_left
 have hfx := getFixOk_t q2
 refine ⟨(as_i64 (by omega) (by omega)), ?_⟩
 refine have hm1 : mrFix r w end_ = (⟨r.plan, r.s, r.at_ + w, r.out, r.fail⟩ : Mr) := ?_; ?_
 rotate_left
 refine ⟨(congrArg S.v (congrArg V.c (congrArg (C.int .u64) ?_))), (by rw [hm1] <;> rfl)⟩
 rotate_left
 all_goals first | (simp_all [mrFix, mrFixOk, mrFixU, mrFail, mrAt]; done) | (grind [mrFix, mrFixOk, mrFixU, mrFail, mrAt])
theorem val_i (r : Mr) (w : Int) (end_ : Int) (hp1 : List.length (r).s ≤ bigN) (hp2 : (0 : Int) ≤ (r).at_ ∧ (r).at_ ≤ ((List.length (r).s : Nat) : Int)) (hp3 : -1000000000 ≤ end_ ∧ end_ ≤ 9223372036854775807) : Fun Tryz.prog 80 [vP 0, vI w, vI end_] [.cells (oMr6 1 r), .lst .ev r.out] (.tup [.c (.int .u64 (mrValU r w end_)), vB (mrValOk r w end_)]) [.cells (oMr6 1 (mrVal r w end_)), .lst .ev (mrVal r w end_).out] := by
 have hN : bigN = 274877906944 := rfl
 have hwb := widthOf_b w
 refine fun_ofw Tryz.func80 (by kernel_rfl) (by kernel_rfl) (w := let z2 : List Blk := [.cells (oMr6 1 (mrVar r end_)), .lst .ev (mrVar r end_).out]; let z3 := widthOf w; let z1 : List Blk := [.cells (oMr6 1 (mrFix r z3 end_)), .lst .ev (mrFix r z3 end_).out]; let z4 : List Blk := [.cells (oMr6 1 (mrVal r w end_)), .lst .ev (mrVal r w end_).out]; let z5 := mrFixOk r z3 end_; let z6 := mrFixU r z3 end_; (.seg [.call [] (.v (vI z3)) []] (.br (.seg [.call [0, 1] (.tup [.c (.int .u64 z6), vB z5]) z1] (.leaf () [0, 1])) (.seg [.call [0, 1] (.tup [.c (.int .u64 (mrVarU r end_)), vB (mrVarOk r end_)]) z2] (.leaf () [0, 1]))), (Fun Tryz.prog 133 [vI w] [] (.v (vI z3)) []) ∧ ((decide (0 < widthOf w)) = true → (Fun Tryz.prog 134 [vP 0, vI z3, vI end_] [.cells (oMr6 1 r), .lst .ev r.out] (.tup [.c (.int .u64 z6), vB z5]) z1) ∧ (.tup [.c (.int .u64 z6), vB z5] : S) = .tup [.c (.int .u64 (mrValU r w end_)), vB (mrValOk r w end_)] ∧ (z1 : List Blk) = z4) ∧ ((decide (0 < widthOf w)) = false → (Fun Tryz.prog 73 [vP 0, vI end_] [.cells (oMr6 1 r), .lst .ev r.out] (.tup [.c (.int .u64 (mrVarU r end_)), vB (mrVarOk r end_)]) z2) ∧ (.tup [.c (.int .u64 (mrVarU r end_)), vB (mrVarOk r end_)] : S) = .tup [.c (.int .u64 (mrValU r w end_)), vB (mrValOk r w end_)] ∧ (z2 : List Blk) = z4))) (by kernel_rfl) ?_
 refine ⟨(widthOf_i _), dsp (fun h1 p1 => ?_) fun h1 p1 => ?_⟩
 refine ⟨(fixed_i r _ _ (by omega) (by omega) (by omega) (by omega)), ?_⟩
 refine have hm1 : mrVal r w end_ = (mrFix r (widthOf w) end_) := ?_; ?_
 rotate_left
 refine ⟨(congrArg S.tup (consE (congrArg V.c (congrArg (C.int .u64) ?_)) (consE (congrArg V.c (congrArg C.bool ?_)) rfl))), (by rw [hm1] <;> rfl)⟩
 rotate_left 2
 refine ⟨(variable_i r _ (by omega)), ?_⟩
 refine have hm1 : mrVal r w end_ = (mrVar r end_) := ?_; ?_
 rotate_left
 refine ⟨(congrArg S.tup (consE (congrArg V.c (congrArg (C.int .u64) ?_)) (consE (congrArg V.c (congrArg C.bool ?_)) rfl))), (by rw [hm1] <;> rfl)⟩
 rotate_left 2
 all_goals first | (simp_all [mrVal, mrValOk, mrValU]; done) | (grind [mrVal, mrValOk, mrValU])
theorem tell_s (r : Mr) (e : Ev) (hp1 : List.length (r).out ≤ 100000000) : Fun Tryz.prog 136 [vP 0, .agg (cEv e)] [.cells (oMr6 1 r), .lst .ev r.out] (.tup []) [.cells (oMr6 2 (mrTell r e)), .dead, .lst .ev (mrTell r e).out] := by
 have hN : bigN = 274877906944 := rfl
 refine fun_ofw Tryz.func136 (by kernel_rfl) (by kernel_rfl) (w := (.seg [.ord (os 11 [6, 7, 10]) [1], .ty .ev, .ty .ev] (.leaf () [0, 1, 4]), (r.out.length + List.length [e] ≤ bigN) ∧ (.tup [] : S) = .tup [] ∧ ([.cells (oMr6 2 r), .dead, .lst .ev (r.out ++ [e])] : List Blk) = [.cells (oMr6 2 (mrTell r e)), .dead, .lst .ev (mrTell r e).out])) (by kernel_rfl) ?_
 refine ⟨(by simp only [List.length_cons, List.length_nil]; omega), ?_⟩
 have hm1 : mrTell r e = (⟨r.plan, r.s, r.at_, r.out ++ [e], r.fail⟩ : Mr) := by rfl
 exact ⟨rfl, (by rw [hm1] <;> rfl)⟩
theorem num_s (r : Mr) (f : Fld) (w : Int) (end_ : Int) (hp1 : List.length (r).s ≤ 1048576) (hp2 : (r).at_ ≤ ((List.length (r).s : Nat) : Int)) (hp3 : (r).fail.kind = 0) (hp4 : ((List.length (r).out : Nat) : Int) + 4 * (((List.length (r).s : Nat) : Int) - (r).at_) ≤ 100000000) (hp5 : -1000000000 ≤ end_ ∧ end_ ≤ 9223372036854775807) (hp6 : (0 : Int) ≤ (r).at_) (hp7 : (w = 0 ∨ w = 1 ∨ w = 5)) : Fun Tryz.prog 89 [vP 0, .agg (cFld f), vI w, vI end_] [.cells (oMr6 1 r), .lst .ev r.out] (.tup []) [.cells (oMr6 2 (numStep r f w end_)), .dead, .lst .ev (numStep r f w end_).out] := by
 have hN : bigN = 274877906944 := rfl
 have hwb := widthOf_b w
 have hu1 := mrVarU_b r end_
 have hu2 := mrFixU_b r (widthOf w) end_
 have hl1 := congrArg List.length (mrVar_adv (e := end_) hp2).2.2
 have hl2 := congrArg List.length (mrFix_adv (w := widthOf w) (e := end_) hp2).2
 refine fun_ofw Tryz.func89 (by kernel_rfl) (by kernel_rfl) (w := let z2 : List Blk := [.cells (oMr6 2 (numStep r f w end_)), .dead, .lst .ev (numStep r f w end_).out]; let z5 := mrVar r end_; let z9 : List Blk := [.cells (oMr6 1 z5), .lst .ev z5.out]; let z11 := decide (0 < f.number); let z12 := ([.cells (oMr6 2 z5), .dead, .lst .ev z5.out] : List Blk); let z14 := (.tup [] : S); let z15 := mrVarU r end_; let z7 := numEv f z15; let z4 : List Blk := [.cells (oMr6 2 (mrTell z5 z7)), .dead, .lst .ev (mrTell z5 z7).out]; let z16 := widthOf w; let z1 := mrFix r z16 end_; let z8 := mrFixU r z16 end_; let z3 := numEv f z8; let z6 : List Blk := [.cells (oMr6 2 (mrTell z1 z3)), .dead, .lst .ev (mrTell z1 z3).out]; let z10 : List Blk := [.cells (oMr6 1 z1), .lst .ev z1.out]; let z13 := ([.cells (oMr6 2 z1), .dead, .lst .ev z1.out] : List Blk); (.br (.seg [.call [0, 1] (.v (.c (.int .u64 z15))) z9] (.br (.br (.seg [.call [] (.v (.agg (cEv z7))) [], .call [0, 1] (.tup []) z4] (.leaf () [0, 1, 3])) (.seg [.at 0, .cut 0 6] (.leaf () [0, 1, 3]))) (.seg [.at 0, .cut 0 6] (.leaf () [0, 1, 3])))) (.seg [.call [] (.v (vI z16)) [], .call [0, 1] (.v (.c (.int .u64 z8))) z10] (.br (.br (.seg [.call [] (.v (.agg (cEv z3))) [], .call [0, 1] (.tup []) z6] (.leaf () [0, 1, 3])) (.seg [.at 0, .cut 0 6] (.leaf () [0, 1, 3]))) (.seg [.at 0, .cut 0 6] (.leaf () [0, 1, 3])))), ((decide (w = 0)) = true → (Fun Tryz.prog 82 [vP 0, vI end_] [.cells (oMr6 1 r), .lst .ev r.out] (.v (.c (.int .u64 z15))) z9) ∧ ((decide (z5.fail.kind = 0)) = true → (z11 = true → (Fun Tryz.prog 139 [.agg (cFld f), .c (.int .u64 z15)] [] (.v (.agg (cEv z7))) []) ∧ (Fun Tryz.prog 136 [vP 0, .agg (cEv z7)] z9 (.tup []) z4) ∧ z14 = .tup [] ∧ (z4 : List Blk) = z2) ∧ (z11 = false → z14 = .tup [] ∧ z12 = z2)) ∧ ((decide (z5.fail.kind = 0)) = false → z14 = .tup [] ∧ z12 = z2)) ∧ ((decide (w = 0)) = false → (Fun Tryz.prog 119 [vI w] [] (.v (vI z16)) []) ∧ (Fun Tryz.prog 138 [vP 0, vI z16, vI end_] [.cells (oMr6 1 r), .lst .ev r.out] (.v (.c (.int .u64 z8))) z10) ∧ ((decide (z1.fail.kind = 0)) = true → (z11 = true → (Fun Tryz.prog 139 [.agg (cFld f), .c (.int .u64 z8)] [] (.v (.agg (cEv z3))) []) ∧ (Fun Tryz.prog 136 [vP 0, .agg (cEv z3)] z10 (.tup []) z6) ∧ z14 = .tup [] ∧ (z6 : List Blk) = z2) ∧ (z11 = false → z14 = .tup [] ∧ z13 = z2)) ∧ ((decide (z1.fail.kind = 0)) = false → z14 = .tup [] ∧ z13 = z2)))) (by kernel_rfl) ?_
 refine dsp (fun h1 p1 => ?_) fun h1 p1 => ?_
 refine ⟨(variable_s r _ (by omega)), dsp (fun h2 p2 => ?_) fun h2 p2 => ?_⟩
 have hvo := mrValOk_kind (r := r) (w := w) (e := end_) hp3
 have hwv : mrVal r w end_ = (mrVar r end_) := by unfold mrVal; grind [widthOf]
 refine dsp (fun h3 p3 => ?_) fun h3 p3 => ?_
 refine ⟨(numEvent_s f _ (by omega)), (tell_s (mrVar r end_) (numEv f (mrVarU r end_)) (by omega)), ?_⟩
 refine have hm1 : numStep r f w end_ = (mrTell (mrVar r end_) (numEv f (mrVarU r end_))) := ?_; ?_
 rotate_left
 exact ⟨rfl, (by rw [hm1] <;> rfl)⟩
 refine have hm1 : numStep r f w end_ = (mrVar r end_) := ?_; ?_
 rotate_left
 exact ⟨rfl, (by rw [hm1] <;> rfl)⟩
 have hvo := mrValOk_kind (r := r) (w := w) (e := end_) hp3
 have hwv : mrVal r w end_ = (mrVar r end_) := by unfold mrVal; grind [widthOf]
 refine have hm1 : numStep r f w end_ = (mrVar r end_) := ?_; ?_
 rotate_left
 exact ⟨rfl, (by rw [hm1] <;> rfl)⟩
 refine ⟨(widthOf_s _), (fixed_s r _ _ (by omega) (by omega) (by omega) (by omega)), dsp (fun h2 p2 => ?_) fun h2 p2 => ?_⟩
 have hvo := mrValOk_kind (r := r) (w := w) (e := end_) hp3
 have hwv : mrVal r w end_ = (mrFix r (widthOf w) end_) := by unfold mrVal; grind [widthOf]
 refine dsp (fun h3 p3 => ?_) fun h3 p3 => ?_
 refine ⟨(numEvent_s f _ (by omega)), (tell_s (mrFix r (widthOf w) end_) (numEv f (mrFixU r (widthOf w) end_)) (by omega)), ?_⟩
 refine have hm1 : numStep r f w end_ = (mrTell (mrFix r (widthOf w) end_) (numEv f (mrFixU r (widthOf w) end_))) := ?_; ?_
 rotate_left
 exact ⟨rfl, (by rw [hm1] <;> rfl)⟩
 refine have hm1 : numStep r f w end_ = (mrFix r (widthOf w) end_) := ?_; ?_
 rotate_left
 exact ⟨rfl, (by rw [hm1] <;> rfl)⟩
 have hvo := mrValOk_kind (r := r) (w := w) (e := end_) hp3
 have hwv : mrVal r w end_ = (mrFix r (widthOf w) end_) := by unfold mrVal; grind [widthOf]
 refine have hm1 : numStep r f w end_ = (mrFix r (widthOf w) end_) := ?_; ?_
 rotate_left
 exact ⟨rfl, (by rw [hm1] <;> rfl)⟩
 all_goals first | (simp_all [numStep, mrVal, mrValOk, mrValU, mrTell]; done) | (grind [numStep, mrVal, mrValOk, mrValU, mrTell, widthOf])
structure run_i_V0 where
 r : Mr
def run_i_F0 (r : Mr) (f : Fld) (end_ : Int) : Fam := ⟨run_i_V0, fun q1 => [(0, .v (vP 0)), (2, .v (vI end_)), (4, .v (vP 3))], fun q1 => [.cells (oMr6 2 q1.r), .dead, .lst .ev q1.r.out, .cells (cFld f)], fun q1 => RunInv r f end_ q1.r, fun q1 => mrMu q1.r⟩
theorem run_i (r : Mr) (f : Fld) (end_ : Int) (hp1 : List.length (r).s ≤ 1048576) (hp2 : (r).at_ ≤ ((List.length (r).s : Nat) : Int)) (hp3 : (r).fail.kind = 0) (hp4 : ((List.length (r).out : Nat) : Int) + 4 * (((List.length (r).s : Nat) : Int) - (r).at_) ≤ 100000000) (hp5 : -1000000000 ≤ end_ ∧ end_ ≤ 9223372036854775807) (hp6 : (0 : Int) ≤ (r).at_) (hp7 : 1 ≤ (f).number) : Fun Tryz.prog 131 [vP 0, .agg (cFld f), vI end_] [.cells (oMr6 1 r), .lst .ev r.out] (.v (vB (decide ((mrRun r f end_).fail.kind = 0)))) [.cells (oMr6 2 (mrRun r f end_)), .dead, .lst .ev (mrRun r f end_).out] := by
 have hN : bigN = 274877906944 := rfl
 refine fun_ofw Tryz.func131 (by kernel_rfl) (by kernel_rfl) (w := let z6 := wireOf f.kind; let z7 := mrRun r f end_; let z8 := run_i_F0 r f end_; let z9 : List Blk := [.cells (oMr6 2 z7), .dead, .lst .ev z7.out]; let z10 := vB (decide (z7.fail.kind = 0)); (.seg [.at 0, .cut 0 6, .keep [0, 2, 4], .sel [0, 1, 3, 2]] (.loop z8 fun q1 => let z1 := mrValU q1.r z6 end_; let z2 := mrVal q1.r z6 end_; .br (.seg [.call [] (.v (vI z6)) [], .call [0, 2] (.tup [.c (.int .u64 z1), vB (mrValOk q1.r z6 end_)]) [.cells (oMr6 1 z2), .lst .ev z2.out]] (.br (.leaf () [0, 1, 2]) (.seg [.ord (os 13 [7, 8, 9, 12]) [2], .call [] (.v (.agg (cEv (numEv f z1)))) [], .ty .ev, .ty .ev, .at 0, .keep [0, 2, 4], .sel [0, 1, 5, 3]] (.next)))) (.leaf () [0, 1, 2])), z8.Has [(0, .v (vP 0)), (2, .v (vI end_)), (4, .v (vP 3))] [.cells (oMr6 2 r), .dead, .lst .ev r.out, .cells (cFld f)] ∧ ∀ q1, z8.inv q1 → (let z3 := mrVal q1.r z6 end_; let z4 := mrValU q1.r z6 end_; let z5 := mrValOk q1.r z6 end_; ((decide (q1.r.at_ < end_)) = true → (Fun Tryz.prog 128 [vI f.kind] [] (.v (vI z6)) []) ∧ (Fun Tryz.prog 80 [vP 0, vI z6, vI end_] [.cells (oMr6 1 q1.r), .lst .ev q1.r.out] (.tup [.c (.int .u64 z4), vB z5]) [.cells (oMr6 1 z3), .lst .ev z3.out]) ∧ ((!z5) = true → (.v (vB false) : S) = .v z10 ∧ ([.cells (oMr6 2 z3), .dead, .lst .ev z3.out] : List Blk) = z9) ∧ ((!z5) = false → (Fun Tryz.prog 81 [.agg (cFld f), .c (.int .u64 z4)] [] (.v (.agg (cEv (numEv f z4)))) []) ∧ (z3.out.length + List.length [(numEv f z4)] ≤ bigN) ∧ z8.Nxt q1 [(0, .v (vP 0)), (2, .v (vI end_)), (4, .v (vP 3))] [.cells (oMr6 2 z3), .dead, .lst .ev (z3.out ++ [(numEv f z4)]), .cells (cFld f)])) ∧ ((decide (q1.r.at_ < end_)) = false → (.v (vB true) : S) = .v z10 ∧ ([.cells (oMr6 2 q1.r), .dead, .lst .ev q1.r.out] : List Blk) = z9)))) (by kernel_rfl) ?_
 refine ⟨has_of (j := (⟨r⟩ : run_i_V0)) rfl rfl (by dsimp only [run_i_F0]; exact RunInv.refl hp2 hp3), fun (q1 : run_i_V0) hq_q1 => ?_⟩
 have hi_q1 : RunInv r f end_ q1.r := hq_q1
 have hrm := hi_q1.room
 have hat := hi_q1.at_
 have hfl := hi_q1.fail
 have hsl := congrArg List.length hrm.1
 refine dsp (fun h1 p1 => ?_) fun h1 p1 => ?_
 refine ⟨(wireOf_i _), (val_i q1.r _ _ (by omega) (by omega) (by omega)), fun h2 => have q2 := bnot_t h2; ?_, fun h2 => have q2 := bnot_f h2; ?_⟩
 have hbad := hi_q1.bad (by omega) q2
 refine have hm1 : mrRun r f end_ = (mrVal q1.r (wireOf f.kind) end_) := ?_; ?_
 rotate_left
 refine ⟨(sB ?_), (by rw [hm1] <;> rfl)⟩
 rotate_left
 have hvb := mrValU_b q1.r (wireOf f.kind) end_
 have hvo := congrArg List.length (mrVal_adv (r := q1.r) (w := wireOf f.kind) (e := end_) hat).2
 exact ⟨(numEvent_i f _ (by omega)), (by simp only [List.length_cons, List.length_nil]; omega), nxt_of (j := (⟨(⟨(mrVal q1.r (wireOf f.kind) end_).plan, (mrVal q1.r (wireOf f.kind) end_).s, (mrVal q1.r (wireOf f.kind) end_).at_, (mrVal q1.r (wireOf f.kind) end_).out ++ [(numEv f (mrValU q1.r (wireOf f.kind) end_))], (mrVal q1.r (wireOf f.kind) end_).fail⟩ : Mr)⟩ : run_i_V0)) rfl (by first | rfl | simp) (by dsimp only [run_i_F0]; exact RunInv.next hi_q1 (by omega) (by simpa using q2) (by omega)) (by dsimp only [run_i_F0]; have := mrMu_dec hat hfl (numStep_adv (f := f) (w := wireOf f.kind) (e := end_) hat hfl); rw [numStep_ok (by simpa using q2) (by omega)] at this; exact this)⟩
 have hend := hi_q1.end_ p1
 refine have hm1 : mrRun r f end_ = q1.r := ?_; ?_
 rotate_left
 refine ⟨(sB ?_), (by rw [hm1] <;> rfl)⟩
 rotate_left
 all_goals first | (exact hend) | (exact hbad) | (rw [hend]; simp [hfl]) | (rw [hbad]; rw [mrValOk_kind hfl] at q2; exact q2.symm) | (rfl)
end Go.Proofs.YtaflinakodideaaGreat.Ax
