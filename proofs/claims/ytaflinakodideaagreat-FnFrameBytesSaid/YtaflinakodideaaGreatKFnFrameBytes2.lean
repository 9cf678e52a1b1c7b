/- Schemas. Events. Draws of numbers, bytes, scripts. Drawn descriptions: checks. What drawn descriptions compile to. -/
import Derived.Test.YtaflinakodideaaGreatKFnFrameBytes1
set_option linter.unusedSimpArgs false
set_option linter.unusedVariables false
namespace Go.Proofs.YtaflinakodideaaGreat.Ax
open Go.RowKit
theorem fldOk_i (f : Fld) (before : Int) (n : Int) (hp1 : (0 : Int) ≤ n ∧ n ≤ 1000) : Fun Tryz.prog 93 [.agg (cFld f), vI before, vI n] [] (.v (vB (decide (before < (f).number) && fldOk f n))) [] := by
 have hN : bigN = 274877906944 := rfl
 refine fun_ofw Tryz.func93 (by kernel_rfl) (by kernel_rfl) (w := let z1 := vB (decide (before < (f).number) && fldOk f n); let z2 := vB (within f.msg 0 (n - 1)); let z4 := ([] : List Blk); let z5 := (.v (vB false) : S); let z6 := (.v (vI (IntKind.i64.wrap (n - 1))) : S) = .v (vI (n - 1)); let z7 := numberOk f.number; let z8 := numeric f.kind; let z9 := kindOk f.kind; let z10 := decide (f.kind = 8); let z3 := z10 = false → (.v (vB (decide (f.msg = (-1)))) : S) = .v z1 ∧ z4 = []; (.seg [.call [] (.v (vB z7)) []] (.br (.leaf () []) (.br (.leaf () []) (.seg [.call [] (.v (vB z9)) []] (.br (.leaf () []) (.br (.br (.leaf () []) (.seg [.call [] (.v (vB z8)) []] (.br (.leaf () []) (.br (.seg [.as 45 (.v (vI (n - 1))), .call [] (.v z2) []] (.leaf () [])) (.leaf () []))))) (.br (.seg [.as 45 (.v (vI (n - 1))), .call [] (.v z2) []] (.leaf () [])) (.leaf () []))))))), (Fun Tryz.prog 142 [vI f.number] [] (.v (vB z7)) []) ∧ ((!z7) = true → z5 = .v z1 ∧ z4 = []) ∧ ((!z7) = false → ((decide (f.number ≤ before)) = true → z5 = .v z1 ∧ z4 = []) ∧ ((decide (f.number ≤ before)) = false → (Fun Tryz.prog 143 [vI f.kind] [] (.v (vB z9)) []) ∧ ((!z9) = true → z5 = .v z1 ∧ z4 = []) ∧ ((!z9) = false → (f.packed = true → ((!f.rep) = true → z5 = .v z1 ∧ z4 = []) ∧ ((!f.rep) = false → (Fun Tryz.prog 130 [vI f.kind] [] (.v (vB z8)) []) ∧ ((!z8) = true → z5 = .v z1 ∧ z4 = []) ∧ ((!z8) = false → (z10 = true → z6 ∧ (Fun Tryz.prog 43 [vI f.msg, vI 0, vI (n - 1)] [] (.v z2) []) ∧ (.v z2 : S) = .v z1 ∧ z4 = []) ∧ z3))) ∧ (f.packed = false → (z10 = true → z6 ∧ (Fun Tryz.prog 43 [vI f.msg, vI 0, vI (n - 1)] [] (.v z2) []) ∧ (.v z2 : S) = .v z1 ∧ z4 = []) ∧ z3)))))) (by kernel_rfl) ?_
 refine ⟨(numberOk_i _), fun h1 => have q1 := bnot_t h1; ?_, fun h1 => have q1 := bnot_f h1; ?_⟩
 refine ⟨(sB ?_), rfl⟩
 rotate_left
 refine dsp (fun h2 p2 => ?_) fun h2 p2 => ?_
 refine ⟨(sB ?_), rfl⟩
 rotate_left
 refine ⟨(kindOk_i _), fun h3 => have q3 := bnot_t h3; have p3 := within_f q3; ?_, fun h3 => have q3 := bnot_f h3; have p3 := within_t q3; ?_⟩
 refine ⟨(sB ?_), rfl⟩
 rotate_left
 refine ⟨fun h4 => ?_, fun h4 => ?_⟩
 refine ⟨fun h5 => have q5 := bnot_t h5; ?_, fun h5 => have q5 := bnot_f h5; ?_⟩
 refine ⟨(sB ?_), rfl⟩
 rotate_left
 refine ⟨(numeric_i _), fun h6 => have q6 := bnot_t h6; have p6 := within_f q6; ?_, fun h6 => have q6 := bnot_f h6; have p6 := within_t q6; ?_⟩
 refine ⟨(sB ?_), rfl⟩
 rotate_left
 refine dsp (fun h7 p7 => ?_) fun h7 p7 => ?_
 refine ⟨(as_i64 (by omega) (by omega)), (within_i _ _ _), (sB ?_), rfl⟩
 rotate_left
 refine ⟨(sB ?_), rfl⟩
 rotate_left
 refine dsp (fun h5 p5 => ?_) fun h5 p5 => ?_
 refine ⟨(as_i64 (by omega) (by omega)), (within_i _ _ _), (sB ?_), rfl⟩
 rotate_left
 refine ⟨(sB ?_), rfl⟩
 rotate_left
 all_goals first | (simp [fldOk, *]; done) | (simp_all [fldOk]; done) | (simp_all [fldOk]; omega) | (rw [Bool.eq_iff_iff]; simp_all [fldOk]; omega)
theorem fldOk_s (s : List Shp) (f : Fld) (hp1 : s.length ≤ 1000) : Fun Tryz.prog 90 [.agg [.seq .shp s], .agg (cFld f)] [] (.v (vB (fldOk f (s.length : Int)))) [] := by
 have hN : bigN = 274877906944 := rfl
 refine fun_ofw Tryz.func90 (by kernel_rfl) (by kernel_rfl) (w := let z1 := (s.length : Int); let z2 := vB (within f.msg 0 (z1 - 1)); let z4 := vB (fldOk f z1); let z5 := ([] : List Blk); let z6 := (.v (vI (IntKind.i64.wrap (z1 - 1))) : S) = .v (vI (z1 - 1)); let z7 := numberOk f.number; let z8 := (.v (vB false) : S); let z9 := numeric f.kind; let z10 := kindOk f.kind; let z11 := decide (f.kind = 8); let z3 := z11 = false → (.v (vB (decide (f.msg = (-1)))) : S) = .v z4 ∧ z5 = []; (.seg [.call [] (.v (vB z7)) []] (.br (.leaf () []) (.seg [.call [] (.v (vB z10)) []] (.br (.leaf () []) (.br (.br (.leaf () []) (.seg [.call [] (.v (vB z9)) []] (.br (.leaf () []) (.br (.seg [.as 38 (.v (vI (z1 - 1))), .call [] (.v z2) []] (.leaf () [])) (.leaf () []))))) (.br (.seg [.as 38 (.v (vI (z1 - 1))), .call [] (.v z2) []] (.leaf () [])) (.leaf () [])))))), (Fun Tryz.prog 140 [vI f.number] [] (.v (vB z7)) []) ∧ ((!z7) = true → z8 = .v z4 ∧ z5 = []) ∧ ((!z7) = false → (Fun Tryz.prog 135 [vI f.kind] [] (.v (vB z10)) []) ∧ ((!z10) = true → z8 = .v z4 ∧ z5 = []) ∧ ((!z10) = false → (f.packed = true → ((!f.rep) = true → z8 = .v z4 ∧ z5 = []) ∧ ((!f.rep) = false → (Fun Tryz.prog 141 [vI f.kind] [] (.v (vB z9)) []) ∧ ((!z9) = true → z8 = .v z4 ∧ z5 = []) ∧ ((!z9) = false → (z11 = true → z6 ∧ (Fun Tryz.prog 45 [vI f.msg, vI 0, vI (z1 - 1)] [] (.v z2) []) ∧ (.v z2 : S) = .v z4 ∧ z5 = []) ∧ z3))) ∧ (f.packed = false → (z11 = true → z6 ∧ (Fun Tryz.prog 45 [vI f.msg, vI 0, vI (z1 - 1)] [] (.v z2) []) ∧ (.v z2 : S) = .v z4 ∧ z5 = []) ∧ z3))))) (by kernel_rfl) ?_
 refine ⟨(numberOk_s _), fun h1 => have q1 := bnot_t h1; ?_, fun h1 => have q1 := bnot_f h1; ?_⟩
 refine ⟨(sB ?_), rfl⟩
 rotate_left
 refine ⟨(kindOk_s _), fun h2 => have q2 := bnot_t h2; have p2 := within_f q2; ?_, fun h2 => have q2 := bnot_f h2; have p2 := within_t q2; ?_⟩
 refine ⟨(sB ?_), rfl⟩
 rotate_left
 refine ⟨fun h3 => ?_, fun h3 => ?_⟩
 refine ⟨fun h4 => have q4 := bnot_t h4; ?_, fun h4 => have q4 := bnot_f h4; ?_⟩
 refine ⟨(sB ?_), rfl⟩
 rotate_left
 refine ⟨(numeric_s _), fun h5 => have q5 := bnot_t h5; have p5 := within_f q5; ?_, fun h5 => have q5 := bnot_f h5; have p5 := within_t q5; ?_⟩
 refine ⟨(sB ?_), rfl⟩
 rotate_left
 refine dsp (fun h6 p6 => ?_) fun h6 p6 => ?_
 refine ⟨(as_i64 (by omega) (by omega)), (within_s _ _ _), (sB ?_), rfl⟩
 rotate_left
 refine ⟨(sB ?_), rfl⟩
 rotate_left
 refine dsp (fun h4 p4 => ?_) fun h4 p4 => ?_
 refine ⟨(as_i64 (by omega) (by omega)), (within_s _ _ _), (sB ?_), rfl⟩
 rotate_left
 refine ⟨(sB ?_), rfl⟩
 rotate_left
 all_goals first | (simp [fldOk, *]; done) | (simp_all [fldOk]; done) | (simp_all [fldOk]; omega) | (rw [Bool.eq_iff_iff]; simp_all [fldOk]; omega)
structure schemaOk_i_V0 where
 id : Int
 v : Nat
def schemaOk_i_F0 (s : List Shp) : Fam := ⟨schemaOk_i_V0, fun q1 => [(1, .v (vP 0)), (3, .v (vI q1.id)), (14, .v (.c (.seq .shp s))), (15, .v (vI (s.length : Int))), (16, .v (vI (q1.v : Int)))], fun _ => [.cells [.seq .shp s]], fun q1 => q1.v ≤ s.length ∧ shapesOk (s.length : Int) q1.id (List.drop q1.v s) = shapesOk (s.length : Int) 0 s, fun q1 => s.length - q1.v⟩
structure schemaOk_i_V1 where
 number : Int
 v : Nat
def schemaOk_i_F1 (s : List Shp) (q1 : schemaOk_i_V0) (x1 : Shp) : Fam := ⟨schemaOk_i_V1, fun q2 => [(1, .v (vP 0)), (5, .v (vP 1)), (6, .v (vI q2.number)), (14, .v (.c (.seq .shp s))), (15, .v (vI (s.length : Int))), (16, .v (vI (q1.v : Int))), (36, .v (.c (.seq .fld x1.fields))), (37, .v (vI (x1.fields.length : Int))), (38, .v (vI (q2.v : Int)))], fun _ => [.cells [.seq .shp s], .cells (cShp x1)], fun q2 => q2.v ≤ x1.fields.length ∧ fieldsOk (s.length : Int) q2.number (List.drop q2.v x1.fields) = fieldsOk (s.length : Int) 0 x1.fields, fun q2 => x1.fields.length - q2.v⟩
theorem schemaOk_i (s : List Shp) : Fun Tryz.prog 53 [.agg [.seq .shp s]] [] (.v (vB (schemaOk s))) [] := by
 have hN : bigN = 274877906944 := rfl
 refine fun_ofw Tryz.func53 (by kernel_rfl) (by kernel_rfl) (w := let z7 := (s.length : Int); let z8 := vB (schemaOk s); let z9 := (.v (vB false) : S); let z10 := ([] : List Blk); let z11 := schemaOk_i_F0 s; (.br (.leaf () []) (.seg [.at 0, .keep [1, 3, 14, 15, 16], .sel [0]] (.loop z11 fun q1 => .br (.intro (fun (x1 : Shp) => s[q1.v]? = some x1) fun x1 => .seg [.el .shp x1] (.br (.leaf () []) (.br (.leaf () []) (.br (.leaf () []) (.seg [.at 0, .keep [1, 5, 6, 14, 15, 16, 36, 37, 38], .sel [0, 1]] (.loop (schemaOk_i_F1 s q1 x1) fun q2 => .br (.intro (fun (x2 : Fld) => x1.fields[q2.v]? = some x2) fun x2 => .seg [.el .fld x2, .call [] (.v (vB (decide (q2.number < (x2).number) && fldOk x2 z7))) []] (.br (.leaf () []) (.seg [.as 51 (.v (vI ((q2.v : Int) + 1))), .at 0, .keep [1, 5, 6, 14, 15, 16, 36, 37, 38], .sel [0, 1]] (.next)))) (.seg [.as 54 (.v (vI ((q1.v : Int) + 1))), .at 0, .keep [1, 3, 14, 15, 16], .sel [0]] (.next)))))))) (.leaf () []))), ((decide (6 < z7)) = true → z9 = .v z8 ∧ z10 = []) ∧ ((decide (6 < z7)) = false → z11.Has [(1, .v (vP 0)), (3, .v (vI 0)), (14, .v (.c (.seq .shp s))), (15, .v (vI z7)), (16, .v (vI 0))] [.cells [.seq .shp s]] ∧ ∀ q1, z11.inv q1 → (let z6 := (q1.v : Int); ((decide (z6 < z7)) = true → (∃ (x1 : Shp), s[q1.v]? = some x1) ∧ ∀ (x1 : Shp), (s[q1.v]? = some x1) → (let z3 := (x1.fields.length : Int); let z4 := schemaOk_i_F1 s q1 x1; let z5 : List Blk := [.cells [.seq .shp s], .cells (cShp x1)]; (s[q1.v]? = some x1) ∧ ((0 : Int) ≤ z6) ∧ ((decide (x1.id ≤ q1.id)) = true → z9 = .v z8 ∧ z10 = []) ∧ ((decide (x1.id ≤ q1.id)) = false → ((decide (99 < x1.id)) = true → z9 = .v z8 ∧ z10 = []) ∧ ((decide (99 < x1.id)) = false → ((decide (8 < z3)) = true → z9 = .v z8 ∧ z10 = []) ∧ ((decide (8 < z3)) = false → z4.Has [(1, .v (vP 0)), (5, .v (vP 1)), (6, .v (vI 0)), (14, .v (.c (.seq .shp s))), (15, .v (vI z7)), (16, .v (vI z6)), (36, .v (.c (.seq .fld x1.fields))), (37, .v (vI z3)), (38, .v (vI 0))] z5 ∧ ∀ q2, z4.inv q2 → (let z2 := (q2.v : Int); ((decide (z2 < z3)) = true → (∃ (x2 : Fld), x1.fields[q2.v]? = some x2) ∧ ∀ (x2 : Fld), (x1.fields[q2.v]? = some x2) → (let z1 := decide (q2.number < (x2).number) && fldOk x2 z7; (x1.fields[q2.v]? = some x2) ∧ ((0 : Int) ≤ z2) ∧ (Fun Tryz.prog 93 [.agg (cFld x2), vI q2.number, vI z7] [] (.v (vB z1)) []) ∧ ((!z1) = true → z9 = .v z8 ∧ z10 = []) ∧ ((!z1) = false → ((.v (vI (IntKind.i64.wrap (z2 + 1))) : S) = .v (vI (z2 + 1))) ∧ z4.Nxt q2 [(1, .v (vP 0)), (5, .v (vP 1)), (6, .v (vI x2.number)), (14, .v (.c (.seq .shp s))), (15, .v (vI z7)), (16, .v (vI z6)), (36, .v (.c (.seq .fld x1.fields))), (37, .v (vI z3)), (38, .v (vI (z2 + 1)))] z5))) ∧ ((decide (z2 < z3)) = false → ((.v (vI (IntKind.i64.wrap (z6 + 1))) : S) = .v (vI (z6 + 1))) ∧ z11.Nxt q1 [(1, .v (vP 0)), (3, .v (vI x1.id)), (14, .v (.c (.seq .shp s))), (15, .v (vI z7)), (16, .v (vI (z6 + 1)))] [.cells [.seq .shp s]]))))))) ∧ ((decide (z6 < z7)) = false → (.v (vB true) : S) = .v z8 ∧ z10 = []))))) (by kernel_rfl) ?_
 refine dsp (fun h1 p1 => ?_) fun h1 p1 => ?_
 refine ⟨(sB ?_), rfl⟩
 rotate_left
 refine ⟨has_of (j := (⟨0, 0⟩ : schemaOk_i_V0)) (by first | rfl | simp) rfl (by dsimp only [schemaOk_i_F0]; exact ⟨by omega, rfl⟩), fun (q1 : schemaOk_i_V0) hq_q1 => ?_⟩
 have hi_q1 : q1.v ≤ s.length ∧ shapesOk (s.length : Int) q1.id (List.drop q1.v s) = shapesOk (s.length : Int) 0 s := hq_q1
 obtain ⟨v1, v2⟩ := hi_q1
 refine dsp (fun h2 p2 => ?_) fun h2 p2 => ?_
 refine ⟨(ax_get (l := s) (i := q1.v) (by omega)), fun x1 hx1 => ?_⟩
 rw [drop_el hx1, shapesOk] at v2
 refine ⟨hx1, (by omega), dsp (fun h3 p3 => ?_) fun h3 p3 => ?_⟩
 refine ⟨(sB ?_), rfl⟩
 rotate_left
 refine dsp (fun h4 p4 => ?_) fun h4 p4 => ?_
 refine ⟨(sB ?_), rfl⟩
 rotate_left
 refine dsp (fun h5 p5 => ?_) fun h5 p5 => ?_
 refine ⟨(sB ?_), rfl⟩
 rotate_left
 refine ⟨has_of (j := (⟨0, 0⟩ : schemaOk_i_V1)) (by first | rfl | simp) rfl (by dsimp only [schemaOk_i_F1]; exact ⟨by omega, rfl⟩), fun (q2 : schemaOk_i_V1) hq_q2 => ?_⟩
 have hi_q2 : q2.v ≤ x1.fields.length ∧ fieldsOk (s.length : Int) q2.number (List.drop q2.v x1.fields) = fieldsOk (s.length : Int) 0 x1.fields := hq_q2
 obtain ⟨w1, w2⟩ := hi_q2
 refine dsp (fun h6 p6 => ?_) fun h6 p6 => ?_
 refine ⟨(ax_get (l := x1.fields) (i := q2.v) (by omega)), fun x2 hx2 => ?_⟩
 rw [drop_el hx2, fieldsOk] at w2
 refine ⟨hx2, (by omega), (fldOk_i x2 _ _ (by omega)), fun h7 => have q7 := bnot_t h7; have p7 := (andF dT Iff.rfl).1 q7; ?_, fun h7 => have q7 := bnot_f h7; have p7 := (andT dT Iff.rfl).1 q7; ?_⟩
 refine ⟨(sB ?_), rfl⟩
 rotate_left
 exact ⟨(as_i64 (by omega) (by omega)), nxt_of (j := (⟨x2.number, q2.v + 1⟩ : schemaOk_i_V1)) (by first | rfl | simp) rfl (by dsimp only [schemaOk_i_F1]; exact ⟨by omega, by grind [fieldsOk]⟩) (by dsimp only [schemaOk_i_F1]; omega)⟩
 rw [drop_end p6] at w2
 exact ⟨(as_i64 (by omega) (by omega)), nxt_of (j := (⟨x1.id, q1.v + 1⟩ : schemaOk_i_V0)) (by first | rfl | simp) rfl (by dsimp only [schemaOk_i_F0]; exact ⟨by omega, by grind [shapesOk, fieldsOk]⟩) (by dsimp only [schemaOk_i_F0]; omega)⟩
 rw [drop_end p2] at v2
 refine ⟨(sB ?_), rfl⟩
 rotate_left
 all_goals grind [schemaOk, shapesOk, fieldsOk]
structure schemaOk_s_V0 where
 i : Nat
 pv : Int
def schemaOk_s_F0 (s : List Shp) : Fam := ⟨schemaOk_s_V0, fun q1 => [(1, .v (vP 0)), (3, .v (vI (q1.i : Int)))], fun _ => [.cells [.seq .shp s]], fun q1 => q1.i ≤ s.length ∧ (0 : Int) ≤ q1.pv ∧ (q1.i = 0 → q1.pv = 0) ∧ (∀ y, 0 < q1.i → s[Int.toNat ((q1.i : Int) - 1)]? = some y → q1.pv = y.id) ∧ shapesOk (s.length : Int) q1.pv (List.drop q1.i s) = shapesOk (s.length : Int) 0 s, fun q1 => s.length - q1.i⟩
structure schemaOk_s_V1 where
 k : Nat
 pv : Int
def schemaOk_s_F1 (s : List Shp) (q1 : schemaOk_s_V0) (x1 : Shp) : Fam := ⟨schemaOk_s_V1, fun q2 => [(1, .v (vP 0)), (3, .v (vI (q1.i : Int))), (4, .v (vP 1)), (5, .v (vI (q2.k : Int)))], fun _ => [.cells [.seq .shp s], .cells (cShp x1)], fun q2 => q2.k ≤ x1.fields.length ∧ (0 : Int) ≤ q2.pv ∧ (q2.k = 0 → q2.pv = 0) ∧ (∀ y, 0 < q2.k → x1.fields[Int.toNat ((q2.k : Int) - 1)]? = some y → q2.pv = y.number) ∧ fieldsOk (s.length : Int) q2.pv (List.drop q2.k x1.fields) = fieldsOk (s.length : Int) 0 x1.fields, fun q2 => x1.fields.length - q2.k⟩
theorem schemaOk_s (s : List Shp) : Fun Tryz.prog 47 [.agg [.seq .shp s]] [] (.v (vB (schemaOk s))) [] := by
 have hN : bigN = 274877906944 := rfl
 refine fun_ofw Tryz.func47 (by kernel_rfl) (by kernel_rfl) (w := let z25 := (s.length : Int); let z26 := (.v (vB false) : S); let z27 := vB (schemaOk s); let z28 := ([] : List Blk); let z29 := schemaOk_s_F0 s; let z30 := os 28 [6]; let z31 : List Blk := [.cells [.seq .shp s]]; (.br (.leaf () []) (.seg [.at 0, .keep [1, 3], .sel [0]] (.loop z29 fun q1 => let z23 := (q1.i : Int); .br (.intro (fun (x1 : Shp) => s[q1.i]? = some x1) fun x1 => let z17 := within x1.id 1 99; .seg [.el .shp x1] (.case (!z17) (.seg [.ord (os 26 [2]) [], .call [] (.v (vB z17)) [], .br true] (.leaf () [])) (.case (decide (0 < z23)) (.intro (fun (x2 : Shp) => s[Int.toNat (z23 - 1)]? = some x2) fun x2 => .case (decide (x1.id ≤ x2.id)) (.seg [.ord (os 26 [2]) [], .call [] (.v (vB z17)) [], .br false, .br true, .as 33 (.v (vI (z23 - 1))), .el .shp x2, .br true] (.leaf () [])) (.seg [.ord (os 26 [2]) [], .call [] (.v (vB z17)) [], .br false, .br true, .as 33 (.v (vI (z23 - 1))), .el .shp x2, .br false] (.br (.leaf () []) (.seg [.at 0, .keep [1, 3, 4, 5], .sel [0, 1]] (.loop (schemaOk_s_F1 s q1 x1) fun q2 => let z6 := (q2.k : Int); .br (.intro (fun (x3 : Fld) => x1.fields[q2.k]? = some x3) fun x3 => let z3 := fldOk x3 z25; .case (!z3) (.seg [.ord z30 [], .el .fld x3, .call [] (.v (vB z3)) [], .br true] (.leaf () [])) (.case (decide (0 < z6)) (.intro (fun (x4 : Fld) => x1.fields[Int.toNat (z6 - 1)]? = some x4) fun x4 => .seg [.ord z30 [], .el .fld x3, .call [] (.v (vB z3)) [], .br false, .br true, .as 70 (.v (vI (z6 - 1))), .el .fld x4, .el .fld x3] (.br (.leaf () []) (.seg [.as 54 (.v (vI (z6 + 1))), .at 0, .keep [1, 3, 4, 5], .sel [0, 1]] (.next)))) (.seg [.ord z30 [], .el .fld x3, .call [] (.v (vB z3)) [], .br false, .br false, .as 54 (.v (vI (z6 + 1))), .at 0, .keep [1, 3, 4, 5], .sel [0, 1]] (.next)))) (.seg [.as 16 (.v (vI (z23 + 1))), .at 0, .keep [1, 3], .sel [0]] (.next))))))) (.seg [.ord (os 26 [2]) [], .call [] (.v (vB z17)) [], .br false, .br false] (.br (.leaf () []) (.seg [.at 0, .keep [1, 3, 4, 5], .sel [0, 1]] (.loop (schemaOk_s_F1 s q1 x1) fun q2 => let z15 := (q2.k : Int); .br (.intro (fun (x2 : Fld) => x1.fields[q2.k]? = some x2) fun x2 => let z12 := fldOk x2 z25; .case (!z12) (.seg [.ord z30 [], .el .fld x2, .call [] (.v (vB z12)) [], .br true] (.leaf () [])) (.case (decide (0 < z15)) (.intro (fun (x3 : Fld) => x1.fields[Int.toNat (z15 - 1)]? = some x3) fun x3 => .seg [.ord z30 [], .el .fld x2, .call [] (.v (vB z12)) [], .br false, .br true, .as 70 (.v (vI (z15 - 1))), .el .fld x3, .el .fld x2] (.br (.leaf () []) (.seg [.as 54 (.v (vI (z15 + 1))), .at 0, .keep [1, 3, 4, 5], .sel [0, 1]] (.next)))) (.seg [.ord z30 [], .el .fld x2, .call [] (.v (vB z12)) [], .br false, .br false, .as 54 (.v (vI (z15 + 1))), .at 0, .keep [1, 3, 4, 5], .sel [0, 1]] (.next)))) (.seg [.as 16 (.v (vI (z23 + 1))), .at 0, .keep [1, 3], .sel [0]] (.next))))))))) (.leaf () []))), ((decide (6 < z25)) = true → z26 = .v z27 ∧ z28 = []) ∧ ((decide (6 < z25)) = false → z29.Has [(1, .v (vP 0)), (3, .v (vI 0))] z31 ∧ ∀ q1, z29.inv q1 → (let z24 := (q1.i : Int); ((decide (z24 < z25)) = true → (∃ (x1 : Shp), s[q1.i]? = some x1) ∧ ∀ (x1 : Shp), (s[q1.i]? = some x1) → (let z18 := (x1.fields.length : Int); let z19 : List Blk := [.cells [.seq .shp s], .cells (cShp x1)]; let z20 := within x1.id 1 99; let z21 := schemaOk_s_F1 s q1 x1; let z22 : List V := [vI x1.id, vI 1, vI 99]; (s[q1.i]? = some x1) ∧ ((0 : Int) ≤ z24) ∧ ((!z20) = true → (Fun Tryz.prog 45 z22 [] (.v (vB z20)) []) ∧ ((!z20) = true) ∧ z26 = .v z27 ∧ z28 = []) ∧ ((!z20) = false → ((decide (0 < z24)) = true → (∃ (x2 : Shp), s[Int.toNat (z24 - 1)]? = some x2) ∧ ∀ (x2 : Shp), (s[Int.toNat (z24 - 1)]? = some x2) → (let z8 := s[Int.toNat (z24 - 1)]? = some x2; let z9 := decide (x1.id ≤ x2.id); (z9 = true → (Fun Tryz.prog 45 z22 [] (.v (vB z20)) []) ∧ ((!z20) = false) ∧ ((decide (0 < z24)) = true) ∧ ((.v (vI (IntKind.i64.wrap (z24 - 1))) : S) = .v (vI (z24 - 1))) ∧ ((.v (vI (IntKind.i64.wrap (z24 - 1))) : S) = .v (vI (z24 - 1))) ∧ z8 ∧ ((0 : Int) ≤ z24 - 1) ∧ z8 ∧ ((0 : Int) ≤ z24 - 1) ∧ (z9 = true) ∧ z26 = .v z27 ∧ z28 = []) ∧ (z9 = false → (Fun Tryz.prog 45 z22 [] (.v (vB z20)) []) ∧ ((!z20) = false) ∧ ((decide (0 < z24)) = true) ∧ ((.v (vI (IntKind.i64.wrap (z24 - 1))) : S) = .v (vI (z24 - 1))) ∧ ((.v (vI (IntKind.i64.wrap (z24 - 1))) : S) = .v (vI (z24 - 1))) ∧ z8 ∧ ((0 : Int) ≤ z24 - 1) ∧ z8 ∧ ((0 : Int) ≤ z24 - 1) ∧ (z9 = false) ∧ ((decide (8 < z18)) = true → z26 = .v z27 ∧ z28 = []) ∧ ((decide (8 < z18)) = false → z21.Has [(1, .v (vP 0)), (3, .v (vI z24)), (4, .v (vP 1)), (5, .v (vI 0))] z19 ∧ ∀ q2, z21.inv q2 → (let z7 := (q2.k : Int); ((decide (z7 < z18)) = true → (∃ (x3 : Fld), x1.fields[q2.k]? = some x3) ∧ ∀ (x3 : Fld), (x1.fields[q2.k]? = some x3) → (let z4 := fldOk x3 z25; let z5 := x1.fields[q2.k]? = some x3; ((!z4) = true → z5 ∧ ((0 : Int) ≤ z7) ∧ z5 ∧ ((0 : Int) ≤ z7) ∧ (Fun Tryz.prog 90 [.agg [.seq .shp s], .agg (cFld x3)] [] (.v (vB z4)) []) ∧ ((!z4) = true) ∧ z26 = .v z27 ∧ z28 = []) ∧ ((!z4) = false → ((decide (0 < z7)) = true → (∃ (x4 : Fld), x1.fields[Int.toNat (z7 - 1)]? = some x4) ∧ ∀ (x4 : Fld), (x1.fields[Int.toNat (z7 - 1)]? = some x4) → (let z1 := x1.fields[Int.toNat (z7 - 1)]? = some x4; let z2 := decide (x3.number ≤ x4.number); z5 ∧ ((0 : Int) ≤ z7) ∧ z5 ∧ ((0 : Int) ≤ z7) ∧ (Fun Tryz.prog 90 [.agg [.seq .shp s], .agg (cFld x3)] [] (.v (vB z4)) []) ∧ ((!z4) = false) ∧ ((decide (0 < z7)) = true) ∧ ((.v (vI (IntKind.i64.wrap (z7 - 1))) : S) = .v (vI (z7 - 1))) ∧ ((.v (vI (IntKind.i64.wrap (z7 - 1))) : S) = .v (vI (z7 - 1))) ∧ z1 ∧ ((0 : Int) ≤ z7 - 1) ∧ z1 ∧ ((0 : Int) ≤ z7 - 1) ∧ z5 ∧ ((0 : Int) ≤ z7) ∧ z5 ∧ ((0 : Int) ≤ z7) ∧ (z2 = true → z26 = .v z27 ∧ z28 = []) ∧ (z2 = false → ((.v (vI (IntKind.i64.wrap (z7 + 1))) : S) = .v (vI (z7 + 1))) ∧ z21.Nxt q2 [(1, .v (vP 0)), (3, .v (vI z24)), (4, .v (vP 1)), (5, .v (vI (z7 + 1)))] z19))) ∧ ((decide (0 < z7)) = false → z5 ∧ ((0 : Int) ≤ z7) ∧ z5 ∧ ((0 : Int) ≤ z7) ∧ (Fun Tryz.prog 90 [.agg [.seq .shp s], .agg (cFld x3)] [] (.v (vB z4)) []) ∧ ((!z4) = false) ∧ ((decide (0 < z7)) = false) ∧ ((.v (vI (IntKind.i64.wrap (z7 + 1))) : S) = .v (vI (z7 + 1))) ∧ z21.Nxt q2 [(1, .v (vP 0)), (3, .v (vI z24)), (4, .v (vP 1)), (5, .v (vI (z7 + 1)))] z19)))) ∧ ((decide (z7 < z18)) = false → ((.v (vI (IntKind.i64.wrap (z24 + 1))) : S) = .v (vI (z24 + 1))) ∧ z29.Nxt q1 [(1, .v (vP 0)), (3, .v (vI (z24 + 1)))] z31)))))) ∧ ((decide (0 < z24)) = false → (Fun Tryz.prog 45 z22 [] (.v (vB z20)) []) ∧ ((!z20) = false) ∧ ((decide (0 < z24)) = false) ∧ ((decide (8 < z18)) = true → z26 = .v z27 ∧ z28 = []) ∧ ((decide (8 < z18)) = false → z21.Has [(1, .v (vP 0)), (3, .v (vI z24)), (4, .v (vP 1)), (5, .v (vI 0))] z19 ∧ ∀ q2, z21.inv q2 → (let z16 := (q2.k : Int); ((decide (z16 < z18)) = true → (∃ (x2 : Fld), x1.fields[q2.k]? = some x2) ∧ ∀ (x2 : Fld), (x1.fields[q2.k]? = some x2) → (let z13 := fldOk x2 z25; let z14 := x1.fields[q2.k]? = some x2; ((!z13) = true → z14 ∧ ((0 : Int) ≤ z16) ∧ z14 ∧ ((0 : Int) ≤ z16) ∧ (Fun Tryz.prog 90 [.agg [.seq .shp s], .agg (cFld x2)] [] (.v (vB z13)) []) ∧ ((!z13) = true) ∧ z26 = .v z27 ∧ z28 = []) ∧ ((!z13) = false → ((decide (0 < z16)) = true → (∃ (x3 : Fld), x1.fields[Int.toNat (z16 - 1)]? = some x3) ∧ ∀ (x3 : Fld), (x1.fields[Int.toNat (z16 - 1)]? = some x3) → (let z10 := x1.fields[Int.toNat (z16 - 1)]? = some x3; let z11 := decide (x2.number ≤ x3.number); z14 ∧ ((0 : Int) ≤ z16) ∧ z14 ∧ ((0 : Int) ≤ z16) ∧ (Fun Tryz.prog 90 [.agg [.seq .shp s], .agg (cFld x2)] [] (.v (vB z13)) []) ∧ ((!z13) = false) ∧ ((decide (0 < z16)) = true) ∧ ((.v (vI (IntKind.i64.wrap (z16 - 1))) : S) = .v (vI (z16 - 1))) ∧ ((.v (vI (IntKind.i64.wrap (z16 - 1))) : S) = .v (vI (z16 - 1))) ∧ z10 ∧ ((0 : Int) ≤ z16 - 1) ∧ z10 ∧ ((0 : Int) ≤ z16 - 1) ∧ z14 ∧ ((0 : Int) ≤ z16) ∧ z14 ∧ ((0 : Int) ≤ z16) ∧ (z11 = true → z26 = .v z27 ∧ z28 = []) ∧ (z11 = false → ((.v (vI (IntKind.i64.wrap (z16 + 1))) : S) = .v (vI (z16 + 1))) ∧ z21.Nxt q2 [(1, .v (vP 0)), (3, .v (vI z24)), (4, .v (vP 1)), (5, .v (vI (z16 + 1)))] z19))) ∧ ((decide (0 < z16)) = false → z14 ∧ ((0 : Int) ≤ z16) ∧ z14 ∧ ((0 : Int) ≤ z16) ∧ (Fun Tryz.prog 90 [.agg [.seq .shp s], .agg (cFld x2)] [] (.v (vB z13)) []) ∧ ((!z13) = false) ∧ ((decide (0 < z16)) = false) ∧ ((.v (vI (IntKind.i64.wrap (z16 + 1))) : S) = .v (vI (z16 + 1))) ∧ z21.Nxt q2 [(1, .v (vP 0)), (3, .v (vI z24)), (4, .v (vP 1)), (5, .v (vI (z16 + 1)))] z19)))) ∧ ((decide (z16 < z18)) = false → ((.v (vI (IntKind.i64.wrap (z24 + 1))) : S) = .v (vI (z24 + 1))) ∧ z29.Nxt q1 [(1, .v (vP 0)), (3, .v (vI (z24 + 1)))] z31))))))) ∧ ((decide (z24 < z25)) = false → (.v (vB true) : S) = .v z27 ∧ z28 = []))))) (by kernel_rfl) ?_
 refine dsp (fun h1 p1 => ?_) fun h1 p1 => ?_
 exact ⟨(congrArg S.v (congrArg V.c (congrArg C.bool (by unfold schemaOk; grind)))), rfl⟩
 refine ⟨has_of (j := (⟨0, 0⟩ : schemaOk_s_V0)) (by first | rfl | simp) rfl (by dsimp only [schemaOk_s_F0]; exact ⟨by omega, by omega, by omega, by omega, rfl⟩), fun (q1 : schemaOk_s_V0) hq_q1 => ?_⟩
 have hi_q1 : q1.i ≤ s.length ∧ (0 : Int) ≤ q1.pv ∧ (q1.i = 0 → q1.pv = 0) ∧ (∀ y, 0 < q1.i → s[Int.toNat ((q1.i : Int) - 1)]? = some y → q1.pv = y.id) ∧ shapesOk (s.length : Int) q1.pv (List.drop q1.i s) = shapesOk (s.length : Int) 0 s := hq_q1
 obtain ⟨v1, v2, v3, v4, v5⟩ := hi_q1
 refine dsp (fun h2 p2 => ?_) fun h2 p2 => ?_
 refine ⟨(ax_get (l := s) (i := q1.i) (by omega)), fun x1 hx1 => ?_⟩
 rw [drop_el hx1, shapesOk] at v5
 refine ⟨hx1, (by omega), fun h3 => have q3 := bnot_t h3; have p3 := within_f q3; ?_, fun h3 => have q3 := bnot_f h3; have p3 := within_t q3; ?_⟩
 exact ⟨(within_s _ _ _), h3, (congrArg S.v (congrArg V.c (congrArg C.bool (by unfold schemaOk; grind)))), rfl⟩
 refine dsp (fun h4 p4 => ?_) fun h4 p4 => ?_
 refine ⟨(ax_get (l := s) (i := Int.toNat ((q1.i : Int) - 1)) (by omega)), fun x2 hx2 => ?_⟩
 have hy := v4 _ (by omega) hx2
 refine dsp (fun h5 p5 => ?_) fun h5 p5 => ?_
 exact ⟨(within_s _ _ _), h3, h4, (as_i64 (by omega) (by omega)), (as_i64 (by omega) (by omega)), hx2, (by omega), hx2, (by omega), h5, (congrArg S.v (congrArg V.c (congrArg C.bool (by unfold schemaOk; grind)))), rfl⟩
 refine ⟨(within_s _ _ _), h3, h4, (as_i64 (by omega) (by omega)), (as_i64 (by omega) (by omega)), hx2, (by omega), hx2, (by omega), h5, dsp (fun h6 p6 => ?_) fun h6 p6 => ?_⟩
 exact ⟨(congrArg S.v (congrArg V.c (congrArg C.bool (by unfold schemaOk; grind)))), rfl⟩
 refine ⟨has_of (j := (⟨0, 0⟩ : schemaOk_s_V1)) (by first | rfl | simp) rfl (by dsimp only [schemaOk_s_F1]; exact ⟨by omega, by omega, by omega, by omega, rfl⟩), fun (q2 : schemaOk_s_V1) hq_q2 => ?_⟩
 have hi_q2 : q2.k ≤ x1.fields.length ∧ (0 : Int) ≤ q2.pv ∧ (q2.k = 0 → q2.pv = 0) ∧ (∀ y, 0 < q2.k → x1.fields[Int.toNat ((q2.k : Int) - 1)]? = some y → q2.pv = y.number) ∧ fieldsOk (s.length : Int) q2.pv (List.drop q2.k x1.fields) = fieldsOk (s.length : Int) 0 x1.fields := hq_q2
 obtain ⟨w1, w2, w3, w4, w5⟩ := hi_q2
 refine dsp (fun h7 p7 => ?_) fun h7 p7 => ?_
 refine ⟨(ax_get (l := x1.fields) (i := q2.k) (by omega)), fun x3 hx3 => ?_⟩
 rw [drop_el hx3, fieldsOk] at w5
 refine ⟨fun h8 => have q8 := bnot_t h8; ?_, fun h8 => have q8 := bnot_f h8; have p8 := fldOk_t q8; ?_⟩
 exact ⟨hx3, (by omega), hx3, (by omega), (fldOk_s s x3 (by omega)), h8, (congrArg S.v (congrArg V.c (congrArg C.bool (by unfold schemaOk; grind)))), rfl⟩
 refine dsp (fun h9 p9 => ?_) fun h9 p9 => ?_
 refine ⟨(ax_get (l := x1.fields) (i := Int.toNat ((q2.k : Int) - 1)) (by omega)), fun x4 hx4 => ?_⟩
 have hz := w4 _ (by omega) hx4
 refine ⟨hx3, (by omega), hx3, (by omega), (fldOk_s s x3 (by omega)), h8, h9, (as_i64 (by omega) (by omega)), (as_i64 (by omega) (by omega)), hx4, (by omega), hx4, (by omega), hx3, (by omega), hx3, (by omega), dsp (fun h10 p10 => ?_) fun h10 p10 => ?_⟩
 exact ⟨(congrArg S.v (congrArg V.c (congrArg C.bool (by unfold schemaOk; grind)))), rfl⟩
 exact ⟨(as_i64 (by omega) (by omega)), nxt_of (j := (⟨q2.k + 1, x3.number⟩ : schemaOk_s_V1)) (by first | rfl | simp) rfl (by dsimp only [schemaOk_s_F1]; exact ⟨by omega, by grind, by omega, by intro y h1 h2; rw [show Int.toNat ((((q2.k + 1) : Nat) : Int) - 1) = q2.k by omega] at h2; grind, by rw [← w5, decide_eq_true (show q2.pv < x3.number by omega), bnot_f (by assumption : (!fldOk x3 _) = false)]; simp⟩) (by dsimp only [schemaOk_s_F1]; omega)⟩
 exact ⟨hx3, (by omega), hx3, (by omega), (fldOk_s s x3 (by omega)), h8, h9, (as_i64 (by omega) (by omega)), nxt_of (j := (⟨q2.k + 1, x3.number⟩ : schemaOk_s_V1)) (by first | rfl | simp) rfl (by dsimp only [schemaOk_s_F1]; exact ⟨by omega, by grind, by omega, by intro y h1 h2; rw [show Int.toNat ((((q2.k + 1) : Nat) : Int) - 1) = q2.k by omega] at h2; grind, by rw [← w5, decide_eq_true (show q2.pv < x3.number by omega), bnot_f (by assumption : (!fldOk x3 _) = false)]; simp⟩) (by dsimp only [schemaOk_s_F1]; omega)⟩
 rw [drop_end p7, fieldsOk] at w5
 exact ⟨(as_i64 (by omega) (by omega)), nxt_of (j := (⟨q1.i + 1, x1.id⟩ : schemaOk_s_V0)) (by first | rfl | simp) rfl (by dsimp only [schemaOk_s_F0]; exact ⟨by omega, by grind, by omega, by intro y h1 h2; rw [show Int.toNat ((((q1.i + 1) : Nat) : Int) - 1) = q1.i by omega] at h2; grind, by rw [← v5, decide_eq_true (show q1.pv < x1.id by omega), decide_eq_true (show x1.id ≤ 99 by omega), decide_eq_true (show (x1.fields.length : Int) ≤ 8 by omega), ← w5]; simp⟩) (by dsimp only [schemaOk_s_F0]; omega)⟩
 refine ⟨(within_s _ _ _), h3, h4, dsp (fun h5 p5 => ?_) fun h5 p5 => ?_⟩
 exact ⟨(congrArg S.v (congrArg V.c (congrArg C.bool (by unfold schemaOk; grind)))), rfl⟩
 refine ⟨has_of (j := (⟨0, 0⟩ : schemaOk_s_V1)) (by first | rfl | simp) rfl (by dsimp only [schemaOk_s_F1]; exact ⟨by omega, by omega, by omega, by omega, rfl⟩), fun (q2 : schemaOk_s_V1) hq_q2 => ?_⟩
 have hi_q2 : q2.k ≤ x1.fields.length ∧ (0 : Int) ≤ q2.pv ∧ (q2.k = 0 → q2.pv = 0) ∧ (∀ y, 0 < q2.k → x1.fields[Int.toNat ((q2.k : Int) - 1)]? = some y → q2.pv = y.number) ∧ fieldsOk (s.length : Int) q2.pv (List.drop q2.k x1.fields) = fieldsOk (s.length : Int) 0 x1.fields := hq_q2
 obtain ⟨w1, w2, w3, w4, w5⟩ := hi_q2
 refine dsp (fun h6 p6 => ?_) fun h6 p6 => ?_
 refine ⟨(ax_get (l := x1.fields) (i := q2.k) (by omega)), fun x2 hx2 => ?_⟩
 rw [drop_el hx2, fieldsOk] at w5
 refine ⟨fun h7 => have q7 := bnot_t h7; ?_, fun h7 => have q7 := bnot_f h7; have p7 := fldOk_t q7; ?_⟩
 exact ⟨hx2, (by omega), hx2, (by omega), (fldOk_s s x2 (by omega)), h7, (congrArg S.v (congrArg V.c (congrArg C.bool (by unfold schemaOk; grind)))), rfl⟩
 refine dsp (fun h8 p8 => ?_) fun h8 p8 => ?_
 refine ⟨(ax_get (l := x1.fields) (i := Int.toNat ((q2.k : Int) - 1)) (by omega)), fun x3 hx3 => ?_⟩
 have hz := w4 _ (by omega) hx3
 refine ⟨hx2, (by omega), hx2, (by omega), (fldOk_s s x2 (by omega)), h7, h8, (as_i64 (by omega) (by omega)), (as_i64 (by omega) (by omega)), hx3, (by omega), hx3, (by omega), hx2, (by omega), hx2, (by omega), dsp (fun h9 p9 => ?_) fun h9 p9 => ?_⟩
 exact ⟨(congrArg S.v (congrArg V.c (congrArg C.bool (by unfold schemaOk; grind)))), rfl⟩
 exact ⟨(as_i64 (by omega) (by omega)), nxt_of (j := (⟨q2.k + 1, x2.number⟩ : schemaOk_s_V1)) (by first | rfl | simp) rfl (by dsimp only [schemaOk_s_F1]; exact ⟨by omega, by grind, by omega, by intro y h1 h2; rw [show Int.toNat ((((q2.k + 1) : Nat) : Int) - 1) = q2.k by omega] at h2; grind, by rw [← w5, decide_eq_true (show q2.pv < x2.number by omega), bnot_f (by assumption : (!fldOk x2 _) = false)]; simp⟩) (by dsimp only [schemaOk_s_F1]; omega)⟩
 exact ⟨hx2, (by omega), hx2, (by omega), (fldOk_s s x2 (by omega)), h7, h8, (as_i64 (by omega) (by omega)), nxt_of (j := (⟨q2.k + 1, x2.number⟩ : schemaOk_s_V1)) (by first | rfl | simp) rfl (by dsimp only [schemaOk_s_F1]; exact ⟨by omega, by grind, by omega, by intro y h1 h2; rw [show Int.toNat ((((q2.k + 1) : Nat) : Int) - 1) = q2.k by omega] at h2; grind, by rw [← w5, decide_eq_true (show q2.pv < x2.number by omega), bnot_f (by assumption : (!fldOk x2 _) = false)]; simp⟩) (by dsimp only [schemaOk_s_F1]; omega)⟩
 rw [drop_end p6, fieldsOk] at w5
 exact ⟨(as_i64 (by omega) (by omega)), nxt_of (j := (⟨q1.i + 1, x1.id⟩ : schemaOk_s_V0)) (by first | rfl | simp) rfl (by dsimp only [schemaOk_s_F0]; exact ⟨by omega, by grind, by omega, by intro y h1 h2; rw [show Int.toNat ((((q1.i + 1) : Nat) : Int) - 1) = q1.i by omega] at h2; grind, by rw [← v5, decide_eq_true (show q1.pv < x1.id by omega), decide_eq_true (show x1.id ≤ 99 by omega), decide_eq_true (show (x1.fields.length : Int) ≤ 8 by omega), ← w5]; simp⟩) (by dsimp only [schemaOk_s_F0]; omega)⟩
 rw [drop_end p2, shapesOk] at v5
 exact ⟨(congrArg S.v (congrArg V.c (congrArg C.bool (by unfold schemaOk; grind)))), rfl⟩
structure fieldAt_i_V0 where
 v : Nat
def fieldAt_i_F0 (n : Int) (x1 : Shp) : Fam := ⟨fieldAt_i_V0, fun q1 => [(2, .v (vI n)), (6, .v (vP 0)), (23, .v (.c (.seq .fld x1.fields))), (24, .v (vI (x1.fields.length : Int))), (25, .v (vI (q1.v : Int)))], fun _ => [.cells [.int .i64 0, .int .i64 0, .bool false, .bool false, .int .i64 0]], fun q1 => q1.v ≤ x1.fields.length ∧ fieldIn (List.drop q1.v x1.fields) n = fieldIn x1.fields n, fun q1 => x1.fields.length - q1.v⟩
theorem fieldAt_i (s : List Shp) (sh : Int) (n : Int) (hp1 : s.length ≤ 1000) (hp2 : ∀ x ∈ s, x.fields.length ≤ 1000) : Fun Tryz.prog 75 [.agg [.seq .shp s], vI sh, vI n] [] (.tup [.agg (cFld ((fieldAt s sh n).getD fld0)), vB (fieldAt s sh n).isSome]) [] := by
 have hN : bigN = 274877906944 := rfl
 refine fun_ofw Tryz.func75 (by kernel_rfl) (by kernel_rfl) (w := let z4 : List C := [.int .i64 0, .int .i64 0, .bool false, .bool false, .int .i64 0]; let z5 := (s.length : Int) - 1; let z6 := fieldAt s sh n; let z7 := within sh 0 z5; let z8 := cFld (z6.getD fld0); (.seg [.as 14 (.v (vI z5)), .call [] (.v (vB z7)) []] (.br (.leaf () []) (.intro (fun (x1 : Shp) => s[sh.toNat]? = some x1) fun x1 => .seg [.el .shp x1, .at 0, .keep [2, 6, 23, 24, 25], .sel [1]] (.loop (fieldAt_i_F0 n x1) fun q1 => .br (.intro (fun (x2 : Fld) => x1.fields[q1.v]? = some x2) fun x2 => .seg [.el .fld x2] (.br (.leaf () []) (.seg [.as 34 (.v (vI ((q1.v : Int) + 1))), .at 0, .keep [2, 6, 23, 24, 25], .sel [0]] (.next)))) (.leaf () [])))), ((.v (vI (IntKind.i64.wrap z5)) : S) = .v (vI z5)) ∧ (Fun Tryz.prog 43 [vI sh, vI 0, vI z5] [] (.v (vB z7)) []) ∧ ((!z7) = true → (.tup [.agg z4, vB false] : S) = .tup [.agg z8, vB z6.isSome] ∧ ([] : List Blk) = []) ∧ ((!z7) = false → (∃ (x1 : Shp), s[sh.toNat]? = some x1) ∧ ∀ (x1 : Shp), (s[sh.toNat]? = some x1) → (let z2 := (x1.fields.length : Int); let z3 := fieldAt_i_F0 n x1; (s[sh.toNat]? = some x1) ∧ ((0 : Int) ≤ sh) ∧ z3.Has [(2, .v (vI n)), (6, .v (vP 0)), (23, .v (.c (.seq .fld x1.fields))), (24, .v (vI z2)), (25, .v (vI 0))] [.cells z4] ∧ ∀ q1, z3.inv q1 → (let z1 := (q1.v : Int); ((decide (z1 < z2)) = true → (∃ (x2 : Fld), x1.fields[q1.v]? = some x2) ∧ ∀ (x2 : Fld), (x1.fields[q1.v]? = some x2) → ((x1.fields[q1.v]? = some x2) ∧ ((0 : Int) ≤ z1) ∧ ((decide (x2.number = n)) = true → (.tup [.agg (cFld x2), vB true] : S) = .tup [.agg z8, vB z6.isSome] ∧ ([] : List Blk) = []) ∧ ((decide (x2.number = n)) = false → ((.v (vI (IntKind.i64.wrap (z1 + 1))) : S) = .v (vI (z1 + 1))) ∧ z3.Nxt q1 [(2, .v (vI n)), (6, .v (vP 0)), (23, .v (.c (.seq .fld x1.fields))), (24, .v (vI z2)), (25, .v (vI (z1 + 1)))] [.cells z4]))) ∧ ((decide (z1 < z2)) = false → (.tup [.agg z4, vB false] : S) = .tup [.agg z8, vB z6.isSome] ∧ ([] : List Blk) = [])))))) (by kernel_rfl) ?_
 refine ⟨(as_i64 (by omega) (by omega)), (within_i _ _ _), fun h1 => have q1 := bnot_t h1; have p1 := within_f q1; ?_, fun h1 => have q1 := bnot_f h1; have p1 := within_t q1; ?_⟩
 refine have hm1 : (fieldAt s sh n).getD fld0 = (⟨0, 0, false, false, 0⟩ : Fld) := ?_; ?_
 rotate_left
 refine ⟨(congrArg S.tup (consE (congrArg V.agg (consE (congrArg (C.int .i64) ?_) (consE (congrArg (C.int .i64) ?_) (consE (congrArg C.bool ?_) (consE (congrArg C.bool ?_) (consE (congrArg (C.int .i64) ?_) rfl)))))) (consE (congrArg V.c (congrArg C.bool ?_)) rfl))), rfl⟩
 rotate_left 6
 have q1_ := q1
 refine ⟨(ax_get (l := s) (i := sh.toNat) (by omega)), fun x1 hx1 => ?_⟩
 have hfa := fieldAt_in (n := n) q1_ hx1
 have hfl := hp2 x1 (List.mem_of_getElem? hx1)
 refine ⟨hx1, (by omega), has_of (j := (⟨0⟩ : fieldAt_i_V0)) (by first | rfl | simp) rfl (by dsimp only [fieldAt_i_F0]; exact ⟨by omega, by simp⟩), fun (q1 : fieldAt_i_V0) hq_q1 => ?_⟩
 have hi_q1 : q1.v ≤ x1.fields.length ∧ fieldIn (List.drop q1.v x1.fields) n = fieldIn x1.fields n := hq_q1
 obtain ⟨v1, v2⟩ := hi_q1
 refine dsp (fun h2 p2 => ?_) fun h2 p2 => ?_
 refine ⟨(ax_get (l := x1.fields) (i := q1.v) (by omega)), fun x2 hx2 => ?_⟩
 rw [drop_el hx2, fieldIn_cons] at v2
 refine ⟨hx2, (by omega), dsp (fun h3 p3 => ?_) fun h3 p3 => ?_⟩
 refine have hm1 : (fieldAt s sh n).getD fld0 = x2 := ?_; ?_
 rotate_left
 refine ⟨(congrArg S.tup (consE (congrArg V.agg (consE (congrArg (C.int .i64) ?_) (consE (congrArg (C.int .i64) ?_) (consE (congrArg C.bool ?_) (consE (congrArg C.bool ?_) (consE (congrArg (C.int .i64) ?_) rfl)))))) (consE (congrArg V.c (congrArg C.bool ?_)) rfl))), rfl⟩
 rotate_left 6
 exact ⟨(as_i64 (by omega) (by omega)), nxt_of (j := (⟨q1.v + 1⟩ : fieldAt_i_V0)) (by first | rfl | simp) rfl (by dsimp only [fieldAt_i_F0]; exact ⟨by omega, by grind⟩) (by dsimp only [fieldAt_i_F0]; omega)⟩
 rw [drop_end p2] at v2
 refine have hm1 : (fieldAt s sh n).getD fld0 = (⟨0, 0, false, false, 0⟩ : Fld) := ?_; ?_
 rotate_left
 refine ⟨(congrArg S.tup (consE (congrArg V.agg (consE (congrArg (C.int .i64) ?_) (consE (congrArg (C.int .i64) ?_) (consE (congrArg C.bool ?_) (consE (congrArg C.bool ?_) (consE (congrArg (C.int .i64) ?_) rfl)))))) (consE (congrArg V.c (congrArg C.bool ?_)) rfl))), rfl⟩
 rotate_left 6
 all_goals grind [fieldAt, fld0, fieldIn]
structure fieldAt_s_V0 where
 i : Nat
def fieldAt_s_F0 (n : Int) (x1 : Shp) : Fam := ⟨fieldAt_s_V0, fun q1 => [(2, .v (vI n)), (6, .v (vP 0)), (8, .v (.c (.seq .fld x1.fields))), (9, .v (vI (q1.i : Int)))], fun _ => [.cells [.int .i64 0, .int .i64 0, .bool false, .bool false, .int .i64 0]], fun q1 => q1.i ≤ x1.fields.length ∧ fieldIn (List.drop q1.i x1.fields) n = fieldIn x1.fields n, fun q1 => x1.fields.length - q1.i⟩
theorem fieldAt_s (s : List Shp) (sh : Int) (n : Int) (hp1 : s.length ≤ 1000) (hp2 : ∀ x ∈ s, x.fields.length ≤ 1000) : Fun Tryz.prog 84 [.agg [.seq .shp s], vI sh, vI n] [] (.tup [.agg (cFld ((fieldAt s sh n).getD fld0)), vB (fieldAt s sh n).isSome]) [] := by
 have hN : bigN = 274877906944 := rfl
 refine fun_ofw Tryz.func84 (by kernel_rfl) (by kernel_rfl) (w := let z4 : List C := [.int .i64 0, .int .i64 0, .bool false, .bool false, .int .i64 0]; let z5 := (s.length : Int) - 1; let z6 := fieldAt s sh n; let z7 := within sh 0 z5; let z8 := cFld (z6.getD fld0); (.seg [.as 14 (.v (vI z5)), .call [] (.v (vB z7)) []] (.br (.leaf () []) (.intro (fun (x1 : Shp) => s[sh.toNat]? = some x1) fun x1 => .seg [.el .shp x1, .at 0, .keep [2, 6, 8, 9], .sel [1]] (.loop (fieldAt_s_F0 n x1) fun q1 => .br (.intro (fun (x2 : Fld) => x1.fields[q1.i]? = some x2) fun x2 => .seg [.el .fld x2] (.br (.seg [.el .fld x2] (.leaf () [])) (.seg [.as 29 (.v (vI ((q1.i : Int) + 1))), .at 0, .keep [2, 6, 8, 9], .sel [0]] (.next)))) (.leaf () [])))), ((.v (vI (IntKind.i64.wrap z5)) : S) = .v (vI z5)) ∧ (Fun Tryz.prog 45 [vI sh, vI 0, vI z5] [] (.v (vB z7)) []) ∧ ((!z7) = true → (.tup [.agg z4, vB false] : S) = .tup [.agg z8, vB z6.isSome] ∧ ([] : List Blk) = []) ∧ ((!z7) = false → (∃ (x1 : Shp), s[sh.toNat]? = some x1) ∧ ∀ (x1 : Shp), (s[sh.toNat]? = some x1) → (let z2 := (x1.fields.length : Int); let z3 := fieldAt_s_F0 n x1; (s[sh.toNat]? = some x1) ∧ ((0 : Int) ≤ sh) ∧ z3.Has [(2, .v (vI n)), (6, .v (vP 0)), (8, .v (.c (.seq .fld x1.fields))), (9, .v (vI 0))] [.cells z4] ∧ ∀ q1, z3.inv q1 → (let z1 := (q1.i : Int); ((decide (z1 < z2)) = true → (∃ (x2 : Fld), x1.fields[q1.i]? = some x2) ∧ ∀ (x2 : Fld), (x1.fields[q1.i]? = some x2) → ((x1.fields[q1.i]? = some x2) ∧ ((0 : Int) ≤ z1) ∧ ((decide (x2.number = n)) = true → (x1.fields[q1.i]? = some x2) ∧ ((0 : Int) ≤ z1) ∧ (.tup [.agg (cFld x2), vB true] : S) = .tup [.agg z8, vB z6.isSome] ∧ ([] : List Blk) = []) ∧ ((decide (x2.number = n)) = false → ((.v (vI (IntKind.i64.wrap (z1 + 1))) : S) = .v (vI (z1 + 1))) ∧ z3.Nxt q1 [(2, .v (vI n)), (6, .v (vP 0)), (8, .v (.c (.seq .fld x1.fields))), (9, .v (vI (z1 + 1)))] [.cells z4]))) ∧ ((decide (z1 < z2)) = false → (.tup [.agg z4, vB false] : S) = .tup [.agg z8, vB z6.isSome] ∧ ([] : List Blk) = [])))))) (by kernel_rfl) ?_
 refine ⟨(as_i64 (by omega) (by omega)), (within_s _ _ _), fun h1 => have q1 := bnot_t h1; have p1 := within_f q1; ?_, fun h1 => have q1 := bnot_f h1; have p1 := within_t q1; ?_⟩
 refine have hm1 : (fieldAt s sh n).getD fld0 = (⟨0, 0, false, false, 0⟩ : Fld) := ?_; ?_
 rotate_left
 refine ⟨(congrArg S.tup (consE (congrArg V.agg (consE (congrArg (C.int .i64) ?_) (consE (congrArg (C.int .i64) ?_) (consE (congrArg C.bool ?_) (consE (congrArg C.bool ?_) (consE (congrArg (C.int .i64) ?_) rfl)))))) (consE (congrArg V.c (congrArg C.bool ?_)) rfl))), rfl⟩
 rotate_left 6
 have q1_ := q1
 refine ⟨(ax_get (l := s) (i := sh.toNat) (by omega)), fun x1 hx1 => ?_⟩
 have hfa := fieldAt_in (n := n) q1_ hx1
 have hfl := hp2 x1 (List.mem_of_getElem? hx1)
 refine ⟨hx1, (by omega), has_of (j := (⟨0⟩ : fieldAt_s_V0)) (by first | rfl | simp) rfl (by dsimp only [fieldAt_s_F0]; exact ⟨by omega, by simp⟩), fun (q1 : fieldAt_s_V0) hq_q1 => ?_⟩
 have hi_q1 : q1.i ≤ x1.fields.length ∧ fieldIn (List.drop q1.i x1.fields) n = fieldIn x1.fields n := hq_q1
 obtain ⟨v1, v2⟩ := hi_q1
 refine dsp (fun h2 p2 => ?_) fun h2 p2 => ?_
 refine ⟨(ax_get (l := x1.fields) (i := q1.i) (by omega)), fun x2 hx2 => ?_⟩
 rw [drop_el hx2, fieldIn_cons] at v2
 refine ⟨hx2, (by omega), dsp (fun h3 p3 => ?_) fun h3 p3 => ?_⟩
 refine ⟨hx2, (by omega), ?_⟩
 refine have hm1 : (fieldAt s sh n).getD fld0 = x2 := ?_; ?_
 rotate_left
 refine ⟨(congrArg S.tup (consE (congrArg V.agg (consE (congrArg (C.int .i64) ?_) (consE (congrArg (C.int .i64) ?_) (consE (congrArg C.bool ?_) (consE (congrArg C.bool ?_) (consE (congrArg (C.int .i64) ?_) rfl)))))) (consE (congrArg V.c (congrArg C.bool ?_)) rfl))), rfl⟩
 rotate_left 6
 exact ⟨(as_i64 (by omega) (by omega)), nxt_of (j := (⟨q1.i + 1⟩ : fieldAt_s_V0)) (by first | rfl | simp) rfl (by dsimp only [fieldAt_s_F0]; exact ⟨by omega, by grind⟩) (by dsimp only [fieldAt_s_F0]; omega)⟩
 rw [drop_end p2] at v2
 refine have hm1 : (fieldAt s sh n).getD fld0 = (⟨0, 0, false, false, 0⟩ : Fld) := ?_; ?_
 rotate_left
 refine ⟨(congrArg S.tup (consE (congrArg V.agg (consE (congrArg (C.int .i64) ?_) (consE (congrArg (C.int .i64) ?_) (consE (congrArg C.bool ?_) (consE (congrArg C.bool ?_) (consE (congrArg (C.int .i64) ?_) rfl)))))) (consE (congrArg V.c (congrArg C.bool ?_)) rfl))), rfl⟩
 rotate_left 6
 all_goals grind [fieldAt, fld0, fieldIn]
theorem planOk_i (p : Pln) : Fun Tryz.prog 23 [.agg (cPln p)] [] (.v (vB (planOk p))) [] := by
 have hN : bigN = 274877906944 := rfl
 refine fun_ofw Tryz.func23 (by kernel_rfl) (by kernel_rfl) (w := let z1 := (p.shapes.length : Int) - 1; let z2 := within p.root 0 z1; let z3 := schemaOk p.shapes; let z4 := within p.deep 1 8; let z5 := vB (within p.most 0 2000); let z6 := vB (planOk p); let z7 := ([] : List Blk); let z8 := (.v (vB false) : S); (.seg [.call [] (.v (vB z3)) []] (.br (.seg [.as 13 (.v (vI z1)), .call [] (.v (vB z2)) []] (.br (.seg [.call [] (.v (vB z4)) []] (.br (.seg [.call [] (.v z5) []] (.leaf () [])) (.leaf () []))) (.leaf () []))) (.leaf () [])), (Fun Tryz.prog 53 [.agg [.seq .shp p.shapes]] [] (.v (vB z3)) []) ∧ (z3 = true → ((.v (vI (IntKind.i64.wrap z1)) : S) = .v (vI z1)) ∧ (Fun Tryz.prog 43 [vI p.root, vI 0, vI z1] [] (.v (vB z2)) []) ∧ (z2 = true → (Fun Tryz.prog 43 [vI p.deep, vI 1, vI 8] [] (.v (vB z4)) []) ∧ (z4 = true → (Fun Tryz.prog 43 [vI p.most, vI 0, vI 2000] [] (.v z5) []) ∧ (.v z5 : S) = .v z6 ∧ z7 = []) ∧ (z4 = false → z8 = .v z6 ∧ z7 = [])) ∧ (z2 = false → z8 = .v z6 ∧ z7 = [])) ∧ (z3 = false → z8 = .v z6 ∧ z7 = []))) (by kernel_rfl) ?_
 refine ⟨(schemaOk_i p.shapes), fun h1 => have p1 := schemaOk_t h1; ?_, fun h1 => ?_⟩
 refine ⟨(as_i64 (by omega) (by omega)), (within_i _ _ _), fun h2 => have p2 := within_t h2; ?_, fun h2 => have p2 := within_f h2; ?_⟩
 refine ⟨(within_i _ _ _), fun h3 => have p3 := within_t h3; ?_, fun h3 => have p3 := within_f h3; ?_⟩
 exact ⟨(within_i _ _ _), (congrArg S.v (congrArg V.c (congrArg C.bool (by grind [planOk])))), rfl⟩
 exact ⟨(congrArg S.v (congrArg V.c (congrArg C.bool (by grind [planOk])))), rfl⟩
 exact ⟨(congrArg S.v (congrArg V.c (congrArg C.bool (by grind [planOk])))), rfl⟩
 exact ⟨(congrArg S.v (congrArg V.c (congrArg C.bool (by grind [planOk])))), rfl⟩
theorem planOk_s (p : Pln) : Fun Tryz.prog 18 [.agg (cPln p)] [] (.v (vB (planOk p))) [] := by
 have hN : bigN = 274877906944 := rfl
 refine fun_ofw Tryz.func18 (by kernel_rfl) (by kernel_rfl) (w := let z1 := (p.shapes.length : Int) - 1; let z2 := within p.root 0 z1; let z3 := schemaOk p.shapes; let z4 := within p.deep 1 8; let z5 := vB (within p.most 0 2000); let z6 := vB (planOk p); let z7 := ([] : List Blk); let z8 := (.v (vB false) : S); (.seg [.call [] (.v (vB z3)) []] (.br (.seg [.as 13 (.v (vI z1)), .call [] (.v (vB z2)) []] (.br (.seg [.call [] (.v (vB z4)) []] (.br (.seg [.call [] (.v z5) []] (.leaf () [])) (.leaf () []))) (.leaf () []))) (.leaf () [])), (Fun Tryz.prog 47 [.agg [.seq .shp p.shapes]] [] (.v (vB z3)) []) ∧ (z3 = true → ((.v (vI (IntKind.i64.wrap z1)) : S) = .v (vI z1)) ∧ (Fun Tryz.prog 45 [vI p.root, vI 0, vI z1] [] (.v (vB z2)) []) ∧ (z2 = true → (Fun Tryz.prog 45 [vI p.deep, vI 1, vI 8] [] (.v (vB z4)) []) ∧ (z4 = true → (Fun Tryz.prog 45 [vI p.most, vI 0, vI 2000] [] (.v z5) []) ∧ (.v z5 : S) = .v z6 ∧ z7 = []) ∧ (z4 = false → z8 = .v z6 ∧ z7 = [])) ∧ (z2 = false → z8 = .v z6 ∧ z7 = [])) ∧ (z3 = false → z8 = .v z6 ∧ z7 = []))) (by kernel_rfl) ?_
 refine ⟨(schemaOk_s p.shapes), fun h1 => have p1 := schemaOk_t h1; ?_, fun h1 => ?_⟩
 refine ⟨(as_i64 (by omega) (by omega)), (within_s _ _ _), fun h2 => have p2 := within_t h2; ?_, fun h2 => have p2 := within_f h2; ?_⟩
 refine ⟨(within_s _ _ _), fun h3 => have p3 := within_t h3; ?_, fun h3 => have p3 := within_f h3; ?_⟩
 exact ⟨(within_s _ _ _), (congrArg S.v (congrArg V.c (congrArg C.bool (by grind [planOk])))), rfl⟩
 exact ⟨(congrArg S.v (congrArg V.c (congrArg C.bool (by grind [planOk])))), rfl⟩
 exact ⟨(congrArg S.v (congrArg V.c (congrArg C.bool (by grind [planOk])))), rfl⟩
 exact ⟨(congrArg S.v (congrArg V.c (congrArg C.bool (by grind [planOk])))), rfl⟩
theorem hasField_i (k : Int) : Fun Tryz.prog 110 [vI k] [] (.v (vB (hasField k))) [] := by
 have hN : bigN = 274877906944 := rfl
 refine fun_ofw Tryz.func110 (by kernel_rfl) (by kernel_rfl) (w := (.br (.leaf () []) (.br (.leaf () []) (.leaf () [])), ((decide (k = 2)) = true → (.v (vB true) : S) = .v (vB (hasField k)) ∧ ([] : List Blk) = []) ∧ ((decide (k = 2)) = false → ((decide (k = 3)) = true → (.v (vB true) : S) = .v (vB (hasField k)) ∧ ([] : List Blk) = []) ∧ ((decide (k = 3)) = false → (.v (vB (decide (k = 6))) : S) = .v (vB (hasField k)) ∧ ([] : List Blk) = [])))) (by kernel_rfl) ?_
 refine dsp (fun h1 p1 => ?_) fun h1 p1 => ?_
 exact ⟨(congrArg S.v (congrArg V.c (congrArg C.bool (by grind [hasField])))), rfl⟩
 refine dsp (fun h2 p2 => ?_) fun h2 p2 => ?_
 exact ⟨(congrArg S.v (congrArg V.c (congrArg C.bool (by grind [hasField])))), rfl⟩
 exact ⟨(congrArg S.v (congrArg V.c (congrArg C.bool (by grind [hasField])))), rfl⟩
structure frameStop_i_V0 where
 i : Int
def frameStop_i_F0 (l : List Ev) (a : Int) : Fam := ⟨frameStop_i_V0, fun q1 => [(0, .v (.c (.seq .ev l))), (5, .v (vI q1.i))], fun _ => [], fun q1 => (0 : Int) ≤ q1.i ∧ (0 : Int) ≤ a ∧ frameStopN (List.drop (q1.i.toNat) l) (q1.i.toNat) = frameStop l a, fun q1 => l.length - q1.i.toNat⟩
theorem frameStop_i (l : List Ev) (a : Int) (hp1 : l.length ≤ bigN) : Fun Tryz.prog 106 [.c (.seq .ev l), vI a] [] (.v (vI (frameStop l a))) [] := by
 have hN : bigN = 274877906944 := rfl
 refine fun_ofw Tryz.func106 (by kernel_rfl) (by kernel_rfl) (w := let z2 := frameStop_i_F0 l a; let z3 := vI (frameStop l a); (.br (.leaf () []) (.seg [.at 0, .keep [0, 5], .sel []] (.loop z2 fun q1 => .br (.intro (fun (x1 : Ev) => l[q1.i.toNat]? = some x1) fun x1 => .seg [.el .ev x1] (.br (.leaf () []) (.seg [.as 14 (.v (vI (q1.i + 1))), .at 0, .keep [0, 5], .sel []] (.next)))) (.leaf () []))), ((decide (a < 0)) = true → (.v (vI (-1)) : S) = .v z3 ∧ ([] : List Blk) = []) ∧ ((decide (a < 0)) = false → z2.Has [(0, .v (.c (.seq .ev l))), (5, .v (vI a))] [] ∧ ∀ q1, z2.inv q1 → (let z1 := decide (q1.i < (l.length : Int)); (z1 = true → (∃ (x1 : Ev), l[q1.i.toNat]? = some x1) ∧ ∀ (x1 : Ev), (l[q1.i.toNat]? = some x1) → ((l[q1.i.toNat]? = some x1) ∧ ((0 : Int) ≤ q1.i) ∧ ((decide (x1.kind = 8)) = true → (.v (vI q1.i) : S) = .v z3 ∧ ([] : List Blk) = []) ∧ ((decide (x1.kind = 8)) = false → ((.v (vI (IntKind.i64.wrap (q1.i + 1))) : S) = .v (vI (q1.i + 1))) ∧ z2.Nxt q1 [(0, .v (.c (.seq .ev l))), (5, .v (vI (q1.i + 1)))] []))) ∧ (z1 = false → (.v (vI (-1)) : S) = .v z3 ∧ ([] : List Blk) = []))))) (by kernel_rfl) ?_
 refine dsp (fun h1 p1 => ?_) fun h1 p1 => ?_
 refine ⟨(sI ?_), rfl⟩
 rotate_left
 refine ⟨has_of (j := (⟨a⟩ : frameStop_i_V0)) rfl rfl (by dsimp only [frameStop_i_F0]; exact ⟨by omega, by omega, by grind [frameStop]⟩), fun (q1 : frameStop_i_V0) hq_q1 => ?_⟩
 have hi_q1 : (0 : Int) ≤ q1.i ∧ (0 : Int) ≤ a ∧ frameStopN (List.drop (q1.i.toNat) l) (q1.i.toNat) = frameStop l a := hq_q1
 obtain ⟨v1, v2, v3⟩ := hi_q1
 refine dsp (fun h2 p2 => ?_) fun h2 p2 => ?_
 refine ⟨(ax_get (l := l) (i := q1.i.toNat) (by omega)), fun x1 hx1 => ?_⟩
 rw [drop_el hx1, frameStopN] at v3
 refine ⟨hx1, (by omega), dsp (fun h3 p3 => ?_) fun h3 p3 => ?_⟩
 refine ⟨(sI ?_), rfl⟩
 rotate_left
 exact ⟨(as_i64 (by omega) (by omega)), nxt_of (j := (⟨q1.i + 1⟩ : frameStop_i_V0)) rfl rfl (by dsimp only [frameStop_i_F0]; exact ⟨by omega, by omega, by rw [show Int.toNat (q1.i + 1) = q1.i.toNat + 1 by omega]; grind⟩) (by dsimp only [frameStop_i_F0]; omega)⟩
 rw [List.drop_eq_nil_of_le (by omega), frameStopN] at v3
 refine ⟨(sI ?_), rfl⟩
 rotate_left
 all_goals grind [frameStop, frameStopN]
structure Cur where
 b : List Int
 i : Int
 h : Int
def CurOk (c : Cur) : Prop := 0 ≤ c.i ∧ c.b.length ≤ 1048576
def cCur (x : Cur) : List C := [.seq .u8 x.b, .int .i64 x.i, .int .i64 x.h]
structure l1Byte_o_O where
 x : Int
 c1 : Cur
def l1Byte_o_f (c : Cur) (o : l1Byte_o_O) : Prop := Fun Tryz.prog 68 [vP 0] [.cells (cCur c)] (.v (vI o.x)) [.cells (cCur o.c1)]
def l1Byte_o_p (c : Cur) (o : l1Byte_o_O) : Prop := (((0 : Int) ≤ o.x ∧ o.x ≤ 255) ∧ (CurOk o.c1)) ∧ l1Byte_o_f c o
theorem l1Byte_o (c : Cur) (hp1 : CurOk c) : ∃ o : l1Byte_o_O, l1Byte_o_p c o := by
 have hN : bigN = 274877906944 := rfl
 have hcb := hp1.1
 have hcl := hp1.2
 refine funs_ofw Tryz.func68 (by kernel_rfl) (by kernel_rfl) (w := let z5 := (IntKind.i64.wrap (c.h * 6364136223846793005)) + 1442695040888963407; let z3 := IntKind.i64.wrap z5; let z8 := (.v (vI (Int.fdiv z3 (2 ^ 33))) : S) = .v (vI (z3 / 8589934592)); let z10 : List Blk := [.cells [.seq .u8 c.b, .int .i64 (c.i + 1), .int .i64 z3]]; let z11 := decide (c.i < ((List.length c.b : Nat) : Int)); let z12 : List Blk := [.cells [.seq .u8 c.b, .int .i64 c.i, .int .i64 z3]]; let z13 := z3 / 35184372088832; let z4 := IntKind.i64.wrap (((BitVec.ofInt 64 (z3 / 8589934592) ^^^ BitVec.ofInt 64 z13).toNat : Nat)); let z7 := (.v (vI (Int.fdiv z3 (2 ^ 45))) : S) = .v (vI z13); let z9 := z4 % 256; let z6 := (.v (vI (IntKind.i64.wrap (((BitVec.ofInt 64 z4 &&& BitVec.ofInt 64 255).toNat : Nat)))) : S) = .v (vI z9); (.seg [.ord (os 13 []) [], .as 17 (.v (vI (z3 / 8589934592))), .as 22 (.v (vI z13)), .as 24 (.v (vI z9)), .ord (os 10 []) []] (.br (.intro (fun (x1 : Int) => c.b[Int.toNat c.i]? = some x1) fun x1 => let z1 := IntKind.i64.wrap (z9 + (IntKind.i64.wrap (x1))); .seg [.ord (os 15 []) [], .el .u8 x1, .as 48 (.v (vI (z1 % 256))), .as 54 (.v (vI (c.i + 1)))] (.leaf (⟨z1 % 256, (⟨c.b, c.i + 1, IntKind.i64.wrap z5⟩ : Cur)⟩ : l1Byte_o_O) [0])) (.leaf (⟨z4 % 256, (⟨c.b, c.i, IntKind.i64.wrap z5⟩ : Cur)⟩ : l1Byte_o_O) [0])), ((0 : Int) ≤ 33) ∧ ((0 : Int) ≤ 33) ∧ z8 ∧ z8 ∧ ((0 : Int) ≤ 45) ∧ ((0 : Int) ≤ 45) ∧ z7 ∧ z7 ∧ z6 ∧ z6 ∧ (z11 = true → (∃ (x1 : Int), c.b[Int.toNat c.i]? = some x1) ∧ ∀ (x1 : Int), (c.b[Int.toNat c.i]? = some x1) → (let z2 := IntKind.i64.wrap (z9 + (IntKind.i64.wrap (x1))); (c.b[Int.toNat c.i]? = some x1) ∧ ((0 : Int) ≤ c.i) ∧ (c.b[Int.toNat c.i]? = some x1) ∧ ((0 : Int) ≤ c.i) ∧ ((.v (vI (IntKind.i64.wrap (((BitVec.ofInt 64 z2 &&& BitVec.ofInt 64 255).toNat : Nat)))) : S) = .v (vI (z2 % 256))) ∧ ((.v (vI (IntKind.i64.wrap (((BitVec.ofInt 64 z2 &&& BitVec.ofInt 64 255).toNat : Nat)))) : S) = .v (vI (z2 % 256))) ∧ ((.v (vI (IntKind.i64.wrap (c.i + 1))) : S) = .v (vI (c.i + 1))) ∧ (((0 : Int) ≤ (z2 % 256) ∧ (z2 % 256) ≤ 255) ∧ (CurOk (⟨c.b, c.i + 1, IntKind.i64.wrap z5⟩ : Cur))) ∧ (.v (vI (z2 % 256)) : S) = .v (vI (z2 % 256)) ∧ (z10 : List Blk) = z10)) ∧ (z11 = false → (((0 : Int) ≤ z9 ∧ z9 ≤ 255) ∧ (CurOk (⟨c.b, c.i, IntKind.i64.wrap z5⟩ : Cur))) ∧ (.v (vI z9) : S) = .v (vI z9) ∧ (z12 : List Blk) = z12))) (by kernel_rfl) ?_
 refine ⟨(by decide), (by decide), (as_shr (k := 33) (by decide) (by decide)), (as_shr (k := 33) (by decide) (by decide)), (by decide), (by decide), (as_shr (k := 45) (by decide) (by decide)), (as_shr (k := 45) (by decide) (by decide)), (as_mask_i64 (k := 8) (by decide) (by decide)), (as_mask_i64 (k := 8) (by decide) (by decide)), dsp (fun h1 p1 => ?_) fun h1 p1 => ?_⟩
 refine ⟨(ax_get (l := c.b) (i := Int.toNat c.i) (by omega)), fun x1 hx1 => ?_⟩
 exact ⟨hx1, (by omega), hx1, (by omega), (as_mask_i64 (k := 8) (by decide) (by decide)), (as_mask_i64 (k := 8) (by decide) (by decide)), (as_i64 (by omega) (by omega)), ⟨(by omega), (by first | assumption | (exact ⟨by dsimp only; first | omega | (have := hp1.1; omega), hp1.2⟩))⟩, rfl, rfl⟩
 exact ⟨⟨(by omega), (by first | assumption | (exact ⟨by dsimp only; first | omega | (have := hp1.1; omega), hp1.2⟩))⟩, rfl, rfl⟩
structure l1Below_o_O where
 x : Int
 c1 : Cur
def l1Below_o_f (c : Cur) (n : Int) (o : l1Below_o_O) : Prop := Fun Tryz.prog 37 [vP 0, vI n] [.cells (cCur c)] (.v (vI o.x)) [.cells (cCur o.c1)]
def l1Below_o_p (c : Cur) (n : Int) (o : l1Below_o_O) : Prop := (((0 : Int) ≤ o.x) ∧ ((1 : Int) ≤ n → o.x < n) ∧ (n ≤ (0 : Int) → o.x = (0 : Int)) ∧ (CurOk o.c1)) ∧ l1Below_o_f c n o
theorem l1Below_o (c : Cur) (n : Int) (hp1 : CurOk c) : ∃ o : l1Below_o_O, l1Below_o_p c n o := by
 have hN : bigN = 274877906944 := rfl
 refine funs_ofw Tryz.func37 (by kernel_rfl) (by kernel_rfl) (w := let z8 := l1Byte_o_p c; (.br (.leaf (⟨0, c⟩ : l1Below_o_O) [0]) (.br (.intro z8 fun o1 => .seg [.call [0] (.v (vI o1.x)) [.cells (cCur o1.c1)]] (.leaf (⟨Int.tmod o1.x n, o1.c1⟩ : l1Below_o_O) [0])) (.intro z8 fun o1 => .seg [.call [0] (.v (vI o1.x)) [.cells (cCur o1.c1)]] (.intro (l1Byte_o_p o1.c1) fun o2 => let z6 := (o1.x * 16777216) + (o2.x * 65536); .seg [.call [0] (.v (vI o2.x)) [.cells (cCur o2.c1)]] (.intro (l1Byte_o_p o2.c1) fun o3 => let z4 := z6 + (o3.x * 256); .seg [.call [0] (.v (vI o3.x)) [.cells (cCur o3.c1)]] (.intro (l1Byte_o_p o3.c1) fun o4 => let z2 := z4 + o4.x; .seg [.call [0] (.v (vI o4.x)) [.cells (cCur o4.c1)], .as 26 (.v (vI (o1.x * 16777216))), .as 28 (.v (vI (o2.x * 65536))), .as 29 (.v (vI z6)), .as 31 (.v (vI (o3.x * 256))), .as 32 (.v (vI z4)), .as 34 (.v (vI z2))] (.leaf (⟨Int.tmod z2 n, o4.c1⟩ : l1Below_o_O) [0])))))), ((decide (n ≤ 0)) = true → (((0 : Int) ≤ 0) ∧ ((1 : Int) ≤ n → 0 < n) ∧ (n ≤ (0 : Int) → 0 = (0 : Int)) ∧ (CurOk c)) ∧ (.v (vI 0) : S) = .v (vI 0) ∧ ([.cells (cCur c)] : List Blk) = [.cells (cCur c)]) ∧ ((decide (n ≤ 0)) = false → ((decide (n ≤ 256)) = true → In z8 fun o1 => (let z1 := Int.tmod o1.x n; (l1Byte_o_f c o1) ∧ (n ≠ 0) ∧ (((0 : Int) ≤ z1) ∧ ((1 : Int) ≤ n → z1 < n) ∧ (n ≤ (0 : Int) → z1 = (0 : Int)) ∧ (CurOk o1.c1)) ∧ (.v (vI z1) : S) = .v (vI z1) ∧ ([.cells (cCur o1.c1)] : List Blk) = [.cells (cCur o1.c1)])) ∧ ((decide (n ≤ 256)) = false → In z8 fun o1 => ((l1Byte_o_f c o1) ∧ In (l1Byte_o_p o1.c1) fun o2 => (let z7 := (o1.x * 16777216) + (o2.x * 65536); (l1Byte_o_f o1.c1 o2) ∧ In (l1Byte_o_p o2.c1) fun o3 => (let z5 := z7 + (o3.x * 256); (l1Byte_o_f o2.c1 o3) ∧ In (l1Byte_o_p o3.c1) fun o4 => (let z3 := z5 + o4.x; (l1Byte_o_f o3.c1 o4) ∧ ((.v (vI (IntKind.i64.wrap (o1.x * 16777216))) : S) = .v (vI (o1.x * 16777216))) ∧ ((.v (vI (IntKind.i64.wrap (o2.x * 65536))) : S) = .v (vI (o2.x * 65536))) ∧ ((.v (vI (IntKind.i64.wrap z7)) : S) = .v (vI z7)) ∧ ((.v (vI (IntKind.i64.wrap (o3.x * 256))) : S) = .v (vI (o3.x * 256))) ∧ ((.v (vI (IntKind.i64.wrap z5)) : S) = .v (vI z5)) ∧ ((.v (vI (IntKind.i64.wrap z3)) : S) = .v (vI z3)) ∧ (n ≠ 0) ∧ (((0 : Int) ≤ (Int.tmod z3 n)) ∧ ((1 : Int) ≤ n → (Int.tmod z3 n) < n) ∧ (n ≤ (0 : Int) → (Int.tmod z3 n) = (0 : Int)) ∧ (CurOk o4.c1)) ∧ (.v (vI (Int.tmod z3 n)) : S) = .v (vI (Int.tmod z3 n)) ∧ ([.cells (cCur o4.c1)] : List Blk) = [.cells (cCur o4.c1)])))))))) (by kernel_rfl) ?_
 refine dsp (fun h1 p1 => ?_) fun h1 p1 => ?_
 exact ⟨⟨(by omega), (by omega), (by omega), (by first | assumption | (exact ⟨by dsimp only; first | omega | (have := hp1.1; omega), hp1.2⟩))⟩, rfl, rfl⟩
 refine dsp (fun h2 p2 => ?_) fun h2 p2 => ?_
 refine ⟨(l1Byte_o c (by first | assumption | (exact ⟨by dsimp only; first | omega | (have := hp1.1; omega), hp1.2⟩))), fun o1 ho_o1 => ?_⟩
 obtain ⟨⟨hp_o1_0, hp_o1_1⟩, hf_o1⟩ := ho_o1
 exact ⟨hf_o1, (by omega), ⟨(by have := tmod_b o1.x n; omega), (by have := tmod_b o1.x n; omega), (by have := tmod_b o1.x n; omega), (by first | assumption | (exact ⟨by dsimp only; first | omega | (have := hp1.1; omega), hp1.2⟩))⟩, rfl, rfl⟩
 refine ⟨(l1Byte_o c (by first | assumption | (exact ⟨by dsimp only; first | omega | (have := hp1.1; omega), hp1.2⟩))), fun o1 ho_o1 => ?_⟩
 obtain ⟨⟨hp_o1_0, hp_o1_1⟩, hf_o1⟩ := ho_o1
 refine ⟨hf_o1, (l1Byte_o o1.c1 (by first | assumption | (exact ⟨by dsimp only; first | omega | (have := hp1.1; omega), hp1.2⟩))), fun o2 ho_o2 => ?_⟩
 obtain ⟨⟨hp_o2_0, hp_o2_1⟩, hf_o2⟩ := ho_o2
 refine ⟨hf_o2, (l1Byte_o o2.c1 (by first | assumption | (exact ⟨by dsimp only; first | omega | (have := hp1.1; omega), hp1.2⟩))), fun o3 ho_o3 => ?_⟩
 obtain ⟨⟨hp_o3_0, hp_o3_1⟩, hf_o3⟩ := ho_o3
 refine ⟨hf_o3, (l1Byte_o o3.c1 (by first | assumption | (exact ⟨by dsimp only; first | omega | (have := hp1.1; omega), hp1.2⟩))), fun o4 ho_o4 => ?_⟩
 obtain ⟨⟨hp_o4_0, hp_o4_1⟩, hf_o4⟩ := ho_o4
 exact ⟨hf_o4, (as_i64 (by omega) (by omega)), (as_i64 (by omega) (by omega)), (as_i64 (by omega) (by omega)), (as_i64 (by omega) (by omega)), (as_i64 (by omega) (by omega)), (as_i64 (by omega) (by omega)), (by omega), ⟨(by have := tmod_b ((((o1.x * 16777216) + (o2.x * 65536)) + (o3.x * 256)) + o4.x) n; omega), (by have := tmod_b ((((o1.x * 16777216) + (o2.x * 65536)) + (o3.x * 256)) + o4.x) n; omega), (by have := tmod_b ((((o1.x * 16777216) + (o2.x * 65536)) + (o3.x * 256)) + o4.x) n; omega), (by first | assumption | (exact ⟨by dsimp only; first | omega | (have := hp1.1; omega), hp1.2⟩))⟩, rfl, rfl⟩
structure l1Once_o_O where
 p : Bool
 c1 : Cur
def l1Once_o_f (c : Cur) (n : Int) (o : l1Once_o_O) : Prop := Fun Tryz.prog 49 [vP 0, vI n] [.cells (cCur c)] (.v (vB o.p)) [.cells (cCur o.c1)]
def l1Once_o_p (c : Cur) (n : Int) (o : l1Once_o_O) : Prop := ((CurOk o.c1)) ∧ l1Once_o_f c n o
theorem l1Once_o (c : Cur) (n : Int) (hp1 : CurOk c) : ∃ o : l1Once_o_O, l1Once_o_p c n o := by
 have hN : bigN = 274877906944 := rfl
 refine funs_ofw Tryz.func49 (by kernel_rfl) (by kernel_rfl) (w := (.intro (l1Below_o_p c n) fun o1 => .seg [.call [0] (.v (vI o1.x)) [.cells (cCur o1.c1)]] (.leaf (⟨decide (o1.x = 0), o1.c1⟩ : l1Once_o_O) [0]), In (l1Below_o_p c n) fun o1 => ((l1Below_o_f c n o1) ∧ ((CurOk o1.c1)) ∧ (.v (vB (decide (o1.x = 0))) : S) = .v (vB (decide (o1.x = 0))) ∧ ([.cells (cCur o1.c1)] : List Blk) = [.cells (cCur o1.c1)]))) (by kernel_rfl) ?_
 refine ⟨(l1Below_o c n (by first | assumption | (exact ⟨by dsimp only; first | omega | (have := hp1.1; omega), hp1.2⟩))), fun o1 ho_o1 => ?_⟩
 obtain ⟨⟨hp_o1_0, hp_o1_1, hp_o1_2, hp_o1_3⟩, hf_o1⟩ := ho_o1
 exact ⟨hf_o1, (by first | assumption | (exact ⟨by dsimp only; first | omega | (have := hp1.1; omega), hp1.2⟩)), rfl, rfl⟩
structure l1PickInt_o_O where
 x : Int
 c1 : Cur
def l1PickInt_o_f (c : Cur) (l : List Int) (o : l1PickInt_o_O) : Prop := Fun Tryz.prog 41 [vP 0, .c (.seq .int l)] [.cells (cCur c)] (.v (vI o.x)) [.cells (cCur o.c1)]
def l1PickInt_o_p (c : Cur) (l : List Int) (o : l1PickInt_o_O) : Prop := ((o.x ∈ l) ∧ (CurOk o.c1)) ∧ l1PickInt_o_f c l o
theorem l1PickInt_o (c : Cur) (l : List Int) (hp1 : CurOk c) (hp2 : 1 ≤ List.length l) (hp3 : List.length l ≤ 1000) : ∃ o : l1PickInt_o_O, l1PickInt_o_p c l o := by
 have hN : bigN = 274877906944 := rfl
 refine funs_ofw Tryz.func41 (by kernel_rfl) (by kernel_rfl) (w := let z1 := ((List.length l : Nat) : Int); (.intro (l1Below_o_p c z1) fun o1 => .seg [.call [0] (.v (vI o1.x)) [.cells (cCur o1.c1)]] (.intro (fun (x1 : Int) => l[Int.toNat o1.x]? = some x1) fun x1 => .seg [.el .int x1] (.leaf (⟨x1, o1.c1⟩ : l1PickInt_o_O) [0])), In (l1Below_o_p c z1) fun o1 => ((l1Below_o_f c z1 o1) ∧ (∃ (x1 : Int), l[Int.toNat o1.x]? = some x1) ∧ ∀ (x1 : Int), (l[Int.toNat o1.x]? = some x1) → ((l[Int.toNat o1.x]? = some x1) ∧ ((0 : Int) ≤ o1.x) ∧ ((x1 ∈ l) ∧ (CurOk o1.c1)) ∧ (.v (vI x1) : S) = .v (vI x1) ∧ ([.cells (cCur o1.c1)] : List Blk) = [.cells (cCur o1.c1)])))) (by kernel_rfl) ?_
 refine ⟨(l1Below_o c ((List.length l : Nat) : Int) (by first | assumption | (exact ⟨by dsimp only; first | omega | (have := hp1.1; omega), hp1.2⟩))), fun o1 ho_o1 => ?_⟩
 obtain ⟨⟨hp_o1_0, hp_o1_1, hp_o1_2, hp_o1_3⟩, hf_o1⟩ := ho_o1
 refine ⟨hf_o1, (ax_get (l := l) (i := Int.toNat o1.x) (by omega)), fun x1 hx1 => ?_⟩
 exact ⟨hx1, (by omega), ⟨(List.mem_of_getElem? hx1), (by first | assumption | (exact ⟨by dsimp only; first | omega | (have := hp1.1; omega), hp1.2⟩))⟩, rfl, rfl⟩
structure l1Whole_o_O where
 x : Int
 c1 : Cur
def l1Whole_o_f (c : Cur) (o : l1Whole_o_O) : Prop := Fun Tryz.prog 145 [vP 0] [.cells (cCur c)] (.v (vI o.x)) [.cells (cCur o.c1)]
def l1Whole_o_p (c : Cur) (o : l1Whole_o_O) : Prop := ((CurOk o.c1)) ∧ l1Whole_o_f c o
theorem l1Whole_o (c : Cur) (hp1 : CurOk c) : ∃ o : l1Whole_o_O, l1Whole_o_p c o := by
 have hN : bigN = 274877906944 := rfl
 refine funs_ofw Tryz.func145 (by kernel_rfl) (by kernel_rfl) (w := let z2 := -9223372036854775808; (.intro (l1Below_o_p c 3) fun o1 => .seg [.call [0] (.v (vI o1.x)) [.cells (cCur o1.c1)]] (.br (.seg [.ty .int, .pubS 8] (.intro (l1PickInt_o_p o1.c1 [0, 1, (-1), 9, 10, 127, 128, 999999999, 1000000000, 9223372036854775807, z2]) fun o2 => .seg [.call [0] (.v (vI o2.x)) [.cells (cCur o2.c1)]] (.leaf (⟨o2.x, o2.c1⟩ : l1Whole_o_O) [0]))) (.br (.intro (l1Below_o_p o1.c1 1000000) fun o2 => .seg [.call [0] (.v (vI o2.x)) [.cells (cCur o2.c1)], .as 14 (.v (vI (o2.x - 500000)))] (.leaf (⟨o2.x - 500000, o2.c1⟩ : l1Whole_o_O) [0])) (.intro (l1Below_o_p o1.c1 20) fun o2 => .seg [.call [0] (.v (vI o2.x)) [.cells (cCur o2.c1)]] (.leaf (⟨o2.x, o2.c1⟩ : l1Whole_o_O) [0])))), In (l1Below_o_p c 3) fun o1 => ((l1Below_o_f c 3 o1) ∧ ((decide (o1.x = 0)) = true → In (l1PickInt_o_p o1.c1 [0, 1, (-1), 9, 10, 127, 128, 999999999, 1000000000, 9223372036854775807, z2]) fun o2 => ((l1PickInt_o_f o1.c1 [0, 1, (-1), 9, 10, 127, 128, 999999999, 1000000000, 9223372036854775807, z2] o2) ∧ ((CurOk o2.c1)) ∧ (.v (vI o2.x) : S) = .v (vI o2.x) ∧ ([.cells (cCur o2.c1)] : List Blk) = [.cells (cCur o2.c1)])) ∧ ((decide (o1.x = 0)) = false → ((decide (o1.x = 1)) = true → In (l1Below_o_p o1.c1 1000000) fun o2 => (let z1 := o2.x - 500000; (l1Below_o_f o1.c1 1000000 o2) ∧ ((.v (vI (IntKind.i64.wrap z1)) : S) = .v (vI z1)) ∧ ((CurOk o2.c1)) ∧ (.v (vI z1) : S) = .v (vI z1) ∧ ([.cells (cCur o2.c1)] : List Blk) = [.cells (cCur o2.c1)])) ∧ ((decide (o1.x = 1)) = false → In (l1Below_o_p o1.c1 20) fun o2 => ((l1Below_o_f o1.c1 20 o2) ∧ ((CurOk o2.c1)) ∧ (.v (vI o2.x) : S) = .v (vI o2.x) ∧ ([.cells (cCur o2.c1)] : List Blk) = [.cells (cCur o2.c1)])))))) (by kernel_rfl) ?_
 refine ⟨(l1Below_o c 3 (by first | assumption | (exact ⟨by dsimp only; first | omega | (have := hp1.1; omega), hp1.2⟩))), fun o1 ho_o1 => ?_⟩
 obtain ⟨⟨hp_o1_0, hp_o1_1, hp_o1_2, hp_o1_3⟩, hf_o1⟩ := ho_o1
 refine ⟨hf_o1, dsp (fun h1 p1 => ?_) fun h1 p1 => ?_⟩
 refine ⟨(l1PickInt_o o1.c1 [0, 1, (-1), 9, 10, 127, 128, 999999999, 1000000000, 9223372036854775807, (-9223372036854775808)] (by first | assumption | (exact ⟨by dsimp only; first | omega | (have := hp1.1; omega), hp1.2⟩)) (by simp only [List.length_cons, List.length_nil]; omega) (by simp only [List.length_cons, List.length_nil]; omega)), fun o2 ho_o2 => ?_⟩
 obtain ⟨⟨hp_o2_0, hp_o2_1⟩, hf_o2⟩ := ho_o2
 exact ⟨hf_o2, (by first | assumption | (exact ⟨by dsimp only; first | omega | (have := hp1.1; omega), hp1.2⟩)), rfl, rfl⟩
 refine dsp (fun h2 p2 => ?_) fun h2 p2 => ?_
 refine ⟨(l1Below_o o1.c1 1000000 (by first | assumption | (exact ⟨by dsimp only; first | omega | (have := hp1.1; omega), hp1.2⟩))), fun o2 ho_o2 => ?_⟩
 obtain ⟨⟨hp_o2_0, hp_o2_1, hp_o2_2, hp_o2_3⟩, hf_o2⟩ := ho_o2
 exact ⟨hf_o2, (as_i64 (by omega) (by omega)), (by first | assumption | (exact ⟨by dsimp only; first | omega | (have := hp1.1; omega), hp1.2⟩)), rfl, rfl⟩
 refine ⟨(l1Below_o o1.c1 20 (by first | assumption | (exact ⟨by dsimp only; first | omega | (have := hp1.1; omega), hp1.2⟩))), fun o2 ho_o2 => ?_⟩
 obtain ⟨⟨hp_o2_0, hp_o2_1, hp_o2_2, hp_o2_3⟩, hf_o2⟩ := ho_o2
 exact ⟨hf_o2, (by first | assumption | (exact ⟨by dsimp only; first | omega | (have := hp1.1; omega), hp1.2⟩)), rfl, rfl⟩
structure l1New_o_O where
 c1 : Cur
def l1New_o_f (b : List Int) (o : l1New_o_O) : Prop := Fun Tryz.prog 35 [.c (.seq .u8 b)] [] (.v (vP 0)) [.cells (cCur o.c1)]
def l1New_o_p (b : List Int) (o : l1New_o_O) : Prop := ((CurOk o.c1)) ∧ l1New_o_f b o
structure l1New_o_V0 where
 h : Int
 i : Nat
def l1New_o_F0 (b : List Int) : Fam := ⟨l1New_o_V0, fun q1 => [(0, .v (.c (.seq .u8 b))), (3, .v (vI q1.h)), (4, .v (vI ((q1.i : Nat) : Int)))], fun _ => [], fun q1 => q1.i ≤ List.length b ∧ (0 : Int) ≤ q1.h ∧ q1.h ≤ 1073741823, fun q1 => List.length b - q1.i⟩
theorem l1New_o (b : List Int) (hp1 : List.length b ≤ 1048576) : ∃ o : l1New_o_O, l1New_o_p b o := by
 have hN : bigN = 274877906944 := rfl
 refine funs_ofw Tryz.func35 (by kernel_rfl) (by kernel_rfl) (w := let z4 := ((List.length b : Nat) : Int); let z5 := l1New_o_F0 b; (.seg [.as 7 (.v (vI (28433 + z4))), .at 0, .keep [0, 3, 4], .sel []] (.loop z5 fun q1 => .br (.br (.seg [.as 19 (.v (vI (q1.h * 131)))] (.intro (fun (x1 : Int) => b[q1.i]? = some x1) fun x1 => .seg [.el .u8 x1, .as 27 (.v (vI ((IntKind.i64.wrap ((IntKind.i64.wrap ((q1.h * 131) + (IntKind.i64.wrap (x1)))) + 7)) % 1073741824))), .as 17 (.v (vI (((q1.i : Nat) : Int) + 1))), .at 0, .keep [0, 3, 4], .sel []] (.next))) (.leaf (⟨(⟨b, 0, q1.h⟩ : Cur)⟩ : l1New_o_O) [0])) (.leaf (⟨(⟨b, 0, q1.h⟩ : Cur)⟩ : l1New_o_O) [0])), ((.v (vI (IntKind.i64.wrap (28433 + z4))) : S) = .v (vI (28433 + z4))) ∧ z5.Has [(0, .v (.c (.seq .u8 b))), (3, .v (vI (28433 + z4))), (4, .v (vI 0))] [] ∧ ∀ q1, z5.inv q1 → (let z2 : List Blk := [.cells [.seq .u8 b, .int .i64 0, .int .i64 q1.h]]; let z3 := ((q1.i : Nat) : Int); ((decide (z3 < z4)) = true → ((decide (z3 < 4000)) = true → ((.v (vI (IntKind.i64.wrap (q1.h * 131))) : S) = .v (vI (q1.h * 131))) ∧ (∃ (x1 : Int), b[q1.i]? = some x1) ∧ ∀ (x1 : Int), (b[q1.i]? = some x1) → (let z1 := IntKind.i64.wrap ((IntKind.i64.wrap ((q1.h * 131) + (IntKind.i64.wrap (x1)))) + 7); (b[q1.i]? = some x1) ∧ ((0 : Int) ≤ z3) ∧ ((.v (vI (IntKind.i64.wrap (((BitVec.ofInt 64 z1 &&& BitVec.ofInt 64 1073741823).toNat : Nat)))) : S) = .v (vI (z1 % 1073741824))) ∧ ((.v (vI (IntKind.i64.wrap (z3 + 1))) : S) = .v (vI (z3 + 1))) ∧ z5.Nxt q1 [(0, .v (.c (.seq .u8 b))), (3, .v (vI (z1 % 1073741824))), (4, .v (vI (z3 + 1)))] [])) ∧ ((decide (z3 < 4000)) = false → ((CurOk (⟨b, 0, q1.h⟩ : Cur))) ∧ (.v (vP 0) : S) = .v (vP 0) ∧ (z2 : List Blk) = z2)) ∧ ((decide (z3 < z4)) = false → ((CurOk (⟨b, 0, q1.h⟩ : Cur))) ∧ (.v (vP 0) : S) = .v (vP 0) ∧ (z2 : List Blk) = z2)))) (by kernel_rfl) ?_
 refine ⟨(as_i64 (by omega) (by omega)), has_of (j := (⟨28433 + ((List.length b : Nat) : Int), 0⟩ : l1New_o_V0)) (by first | rfl | simp) rfl (by dsimp only [l1New_o_F0]; exact ⟨by omega, by omega, by omega⟩), fun (q1 : l1New_o_V0) hq_q1 => ?_⟩
 have hi_q1 : q1.i ≤ List.length b ∧ (0 : Int) ≤ q1.h ∧ q1.h ≤ 1073741823 := hq_q1
 obtain ⟨v1, v2, v3⟩ := hi_q1
 refine dsp (fun h1 p1 => ?_) fun h1 p1 => ?_
 refine dsp (fun h2 p2 => ?_) fun h2 p2 => ?_
 refine ⟨(as_i64 (by omega) (by omega)), (ax_get (l := b) (i := q1.i) (by omega)), fun x1 hx1 => ?_⟩
 exact ⟨hx1, (by omega), (as_mask_i64 (k := 30) (by decide) (by decide)), (as_i64 (by omega) (by omega)), nxt_of (j := (⟨(IntKind.i64.wrap ((IntKind.i64.wrap ((q1.h * 131) + (IntKind.i64.wrap (x1)))) + 7)) % 1073741824, q1.i + 1⟩ : l1New_o_V0)) (by first | rfl | simp) rfl (by dsimp only [l1New_o_F0]; exact ⟨by omega, by omega, by omega⟩) (by dsimp only [l1New_o_F0]; omega)⟩
 exact ⟨(⟨by dsimp only; omega, hp1⟩), rfl, rfl⟩
 exact ⟨(⟨by dsimp only; omega, hp1⟩), rfl, rfl⟩
structure l1Bytes_o_O where
 l : List Int
 c1 : Cur
def l1Bytes_o_f (c : Cur) (n : Int) (o : l1Bytes_o_O) : Prop := Fun Tryz.prog 39 [vP 0, vI n] [.cells (cCur c)] (.v (vO 1)) [.cells (cCur o.c1), .lst .u8 o.l]
def l1Bytes_o_p (c : Cur) (n : Int) (o : l1Bytes_o_O) : Prop := ((List.length o.l ≤ Int.toNat n) ∧ (CurOk o.c1)) ∧ l1Bytes_o_f c n o
structure l1Bytes_o_V0 where
 c : Cur
 b : List Int
 i : Nat
def l1Bytes_o_F0 (n : Int) : Fam := ⟨l1Bytes_o_V0, fun q1 => [(0, .v (vP 0)), (1, .v (vI n)), (5, .v (vO 1)), (6, .v (vI ((q1.i : Nat) : Int)))], fun q1 => [.cells (cCur q1.c), .lst .u8 q1.b], fun q1 => CurOk q1.c ∧ List.length q1.b = q1.i ∧ (q1.i = 0 ∨ ((q1.i : Nat) : Int) ≤ n), fun q1 => Int.toNat n - q1.i⟩
theorem l1Bytes_o (c : Cur) (n : Int) (hp1 : CurOk c) (hp2 : n ≤ 100000) : ∃ o : l1Bytes_o_O, l1Bytes_o_p c n o := by
 have hN : bigN = 274877906944 := rfl
 refine funs_ofw Tryz.func39 (by kernel_rfl) (by kernel_rfl) (w := let z2 := l1Bytes_o_F0 n; (.seg [.ty .u8, .at 0, .keep [0, 1, 5, 6], .sel [0, 1]] (.loop z2 fun q1 => .br (.intro (l1Byte_o_p q1.c) fun o1 => .seg [.call [0] (.v (vI o1.x)) [.cells (cCur o1.c1)], .as 16 (.v (.c (.int .u8 o1.x))), .ty .u8, .ty .u8, .as 12 (.v (vI (((q1.i : Nat) : Int) + 1))), .at 0, .keep [0, 1, 5, 6], .sel [0, 3]] (.next)) (.leaf (⟨q1.b, q1.c⟩ : l1Bytes_o_O) [0, 1])), z2.Has [(0, .v (vP 0)), (1, .v (vI n)), (5, .v (vO 1)), (6, .v (vI 0))] [.cells (cCur c), .lst .u8 ([] : List Int)] ∧ ∀ q1, z2.inv q1 → (let z1 := ((q1.i : Nat) : Int); ((decide (z1 < n)) = true → In (l1Byte_o_p q1.c) fun o1 => ((l1Byte_o_f q1.c o1) ∧ ((.v (.c (.int .u8 (IntKind.u8.wrap (o1.x)))) : S) = .v (.c (.int .u8 o1.x))) ∧ (List.length q1.b + List.length [o1.x] ≤ bigN) ∧ ((.v (vI (IntKind.i64.wrap (z1 + 1))) : S) = .v (vI (z1 + 1))) ∧ z2.Nxt q1 [(0, .v (vP 0)), (1, .v (vI n)), (5, .v (vO 1)), (6, .v (vI (z1 + 1)))] [.cells (cCur o1.c1), .lst .u8 (q1.b ++ [o1.x])])) ∧ ((decide (z1 < n)) = false → ((List.length q1.b ≤ Int.toNat n) ∧ (CurOk q1.c)) ∧ (.v (vO 1) : S) = .v (vO 1) ∧ ([.cells (cCur q1.c), .lst .u8 q1.b] : List Blk) = [.cells (cCur q1.c), .lst .u8 q1.b])))) (by kernel_rfl) ?_
 refine ⟨has_of (j := (⟨c, ([] : List Int), 0⟩ : l1Bytes_o_V0)) (by first | rfl | simp) rfl (by dsimp only [l1Bytes_o_F0]; exact ⟨hp1, rfl, .inl rfl⟩), fun (q1 : l1Bytes_o_V0) hq_q1 => ?_⟩
 have hi_q1 : CurOk q1.c ∧ List.length q1.b = q1.i ∧ (q1.i = 0 ∨ ((q1.i : Nat) : Int) ≤ n) := hq_q1
 obtain ⟨v1, v2, v3⟩ := hi_q1
 refine dsp (fun h1 p1 => ?_) fun h1 p1 => ?_
 refine ⟨(l1Byte_o q1.c (by first | assumption | (exact ⟨by dsimp only; first | omega | (have := hp1.1; omega), hp1.2⟩))), fun o1 ho_o1 => ?_⟩
 obtain ⟨⟨hp_o1_0, hp_o1_1⟩, hf_o1⟩ := ho_o1
 exact ⟨hf_o1, (as_u8 (by omega) (by omega)), (by simp only [List.length_cons, List.length_nil]; omega), (as_i64 (by omega) (by omega)), nxt_of (j := (⟨o1.c1, q1.b ++ [o1.x], q1.i + 1⟩ : l1Bytes_o_V0)) (by first | rfl | simp) rfl (by dsimp only [l1Bytes_o_F0]; exact ⟨by assumption, by simp; omega, by omega⟩) (by dsimp only [l1Bytes_o_F0]; omega)⟩
 exact ⟨⟨(by omega), (by first | assumption | (exact ⟨by dsimp only; first | omega | (have := hp1.1; omega), hp1.2⟩))⟩, rfl, rfl⟩
structure Raw where
 msgs : List Shp
structure Vio where
 code : Int
 msg : Int
 field : Int
structure FldG (ids : List Int) (f : Fld) : Prop where
 num : numberOk f.number = true
 kd : 1 ≤ f.kind ∧ f.kind ≤ 8
 pk : f.packed = true → f.rep = true ∧ f.kind ≤ 5
 ref : f.kind = 8 → f.msg ∈ ids
 no : f.kind ≠ 8 → f.msg = 0
def nums (fs : List Fld) : List Int := fs.map fun f => f.number
def idsOf (l : List Shp) : List Int := l.map fun m => m.id
def hasId (l : List Shp) (id : Int) : Bool := l.any fun m => decide (m.id = id)
def hasNum (l : List Fld) (n : Int) : Bool := l.any fun f => decide (f.number = n)
structure FldsG (ids : List Int) (fs : List Fld) : Prop where
 len : fs.length ≤ 5
 num : (nums fs).Nodup
 all : ∀ f ∈ fs, FldG ids f
structure RawK (n : Nat) (l : List Shp) : Prop where
 len : l.length = n
 pos : 1 ≤ n ∧ n ≤ 3
 ids : idsOf l = [5, 1, 99].take n
 flds : ∀ m ∈ l, FldsG (idsOf l) m.fields
theorem hasNum_f {l : List Fld} {n : Int} : hasNum l n = false ↔ ∀ f ∈ l, f.number ≠ n := by
 simp [hasNum]
theorem hasId_t {l : List Shp} {x : Int} : hasId l x = true ↔ x ∈ idsOf l := by
 simp [hasId, idsOf]
theorem nodup_take {l : List Int} (h : l.Nodup) {i : Nat} {x : Int} (hx : l[i]? = some x) : x ∉ l.take i := by
 intro hm
 obtain ⟨j, hj, he⟩ := List.mem_take_iff_getElem.1 hm
 have hi := (List.getElem?_eq_some_iff.1 hx)
 obtain ⟨hi1, hi2⟩ := hi
 exact List.pairwise_iff_getElem.1 h j i (by omega) hi1 (by omega) (by rw [hi2, he])
theorem RawK.nodup {n : Nat} {l : List Shp} (h : RawK n l) : (idsOf l).Nodup := by
 rw [h.ids]
 have h2 := h.pos
 have : n = 1 ∨ n = 2 ∨ n = 3 := by omega
 rcases this with rfl | rfl | rfl <;> decide
theorem RawK.noId {n : Nat} {l : List Shp} (h : RawK n l) {i : Nat} {m : Shp} (hm : l[i]? = some m) : hasId (l.take i) m.id = false := by
 cases hc : hasId (l.take i) m.id with
 | false => rfl
 | true =>
  have := hasId_t.1 hc
  unfold idsOf at this
  rw [List.map_take] at this
  exact absurd this (nodup_take (l := idsOf l) h.nodup (by unfold idsOf; rw [List.getElem?_map, hm]; rfl))
theorem FldsG.noNum {ids : List Int} {fs : List Fld} (h : FldsG ids fs) {i : Nat} {f : Fld} (hf : fs[i]? = some f) : hasNum (fs.take i) f.number = false := by
 rw [hasNum_f]
 intro g hg he
 have : f.number ∈ (nums fs).take i := by
  unfold nums
  rw [← List.map_take]
  exact List.mem_map.2 ⟨g, hg, he⟩
 exact absurd this (nodup_take (l := nums fs) h.num (by unfold nums; rw [List.getElem?_map, hf]; rfl))
theorem RawK.id_ok {n : Nat} {l : List Shp} (h : RawK n l) {m : Shp} (hm : m ∈ l) : 1 ≤ m.id ∧ m.id ≤ 99 := by
 have hx : m.id ∈ idsOf l := List.mem_map.2 ⟨m, hm, rfl⟩
 rw [h.ids] at hx
 have := List.mem_of_mem_take hx
 simp at this
 omega
theorem ids_set {l : List Shp} {i : Nat} {m : Shp} {fs : List Fld} (h : l[i]? = some m) : idsOf (l.set i ⟨m.id, fs⟩) = idsOf l := by
 unfold idsOf
 apply List.ext_getElem?
 intro j
 rw [List.getElem?_map, List.getElem?_map, List.getElem?_set]
 split
 ·rename_i hij
  subst hij
  have hl := (List.getElem?_eq_some_iff.1 h).1
  rw [if_pos hl, h]
  rfl
 ·rfl
theorem nums_app (fs : List Fld) (f : Fld) : nums (fs ++ [f]) = nums fs ++ [f.number] := by simp [nums]
theorem RawK.add {n : Nat} {l : List Shp} (h : RawK n l) {i : Nat} {m : Shp} {f : Fld} (hm : l[i]? = some m) (hf : FldG (idsOf l) f) (hn : hasNum m.fields f.number = false) (hk : m.fields.length ≤ 4) : RawK n (l.set i ⟨m.id, m.fields ++ [f]⟩) := by
 have hM := h.flds m (List.mem_of_getElem? hm)
 refine ⟨by rw [List.length_set]; exact h.len, h.pos, by rw [ids_set hm]; exact h.ids, fun x hx => ?_⟩
 rw [ids_set hm]
 rcases List.mem_or_eq_of_mem_set hx with hx | rfl
 ·exact h.flds x hx
 ·refine ⟨by rw [List.length_append]; simp; omega, ?_, fun g hg => ?_⟩
  ·show (nums (m.fields ++ [f])).Nodup
   rw [nums_app, List.nodup_append]
   refine ⟨hM.num, by simp, fun a ha b hb => ?_⟩
   simp at hb
   subst hb
   intro e
   subst e
   obtain ⟨g, hg, he⟩ := List.mem_map.1 ha
   exact hasNum_f.1 hn g hg he
  ·rcases List.mem_append.1 hg with hg | hg
   ·exact hM.all g hg
   ·simp at hg; subst hg; exact hf
def rank (l : List Shp) (id : Int) : Nat := (l.filter fun m => decide (m.id < id)).length
theorem rank_take {l : List Shp} {i : Nat} {m : Shp} {id : Int} (h : l[i]? = some m) : rank (l.take (i + 1)) id = rank (l.take i) id + (if m.id < id then 1 else 0) := by
 have ht : l.take (i + 1) = l.take i ++ [m] := by rw [List.take_add_one, h]; rfl
 unfold rank
 rw [ht, List.filter_append, List.length_append]
 split <;> simp [*]
theorem rank_le (l : List Shp) (id : Int) : rank l id ≤ l.length := List.length_filter_le _ _
theorem rank_lt {l : List Shp} {id : Int} (h : id ∈ idsOf l) : rank l id < l.length := by
 obtain ⟨m, hm, rfl⟩ := List.mem_map.1 h
 unfold rank
 rcases Nat.lt_or_ge (l.filter fun x => decide (x.id < m.id)).length l.length with h | h
 ·exact h
 ·have := List.length_filter_eq_length_iff.1 (Nat.le_antisymm (List.length_filter_le _ _) h) m hm
  simp at this
def ShpG (n : Nat) (fs : List Fld) : Prop := fs.length ≤ 5 ∧ ∀ f ∈ fs, 1 ≤ f.kind ∧ f.kind ≤ 8 ∧ (f.kind = 8 → 0 ≤ f.msg ∧ f.msg < (n : Int))
def SchG (l : List Shp) : Prop := (1 ≤ l.length ∧ l.length ≤ 3) ∧ ∀ e ∈ l, ShpG l.length e.fields
structure PlnG (p : Pln) : Prop where
 sch : SchG p.shapes
 root : 0 ≤ p.root ∧ p.root < (p.shapes.length : Int)
 deep : 1 ≤ p.deep ∧ p.deep ≤ 4
 most : 0 ≤ p.most ∧ p.most ≤ 2000
def PlnB (p : Pln) : Prop := p.shapes.length ≤ 7 ∧ ∀ e ∈ p.shapes, e.fields.length ≤ 6
theorem PlnG.b {p : Pln} (h : PlnG p) : PlnB p := ⟨by have := h.sch.1; omega, fun e he => by have := (h.sch.2 e he).1; omega⟩
theorem take_add1 {α : Type} {l : List α} {i : Nat} {x : α} (h : l[i]? = some x) : l.take (i + 1) = l.take i ++ [x] := by rw [List.take_add_one, h]; rfl
theorem hasId_take {l : List Shp} {i : Nat} {m : Shp} {id : Int} (h : l[i]? = some m) : hasId (l.take (i + 1)) id = (hasId (l.take i) id || decide (m.id = id)) := by
 rw [take_add1 h]; simp [hasId]
theorem hasNum_take {l : List Fld} {i : Nat} {f : Fld} {n : Int} (h : l[i]? = some f) : hasNum (l.take (i + 1)) n = (hasNum (l.take i) n || decide (f.number = n)) := by
 rw [take_add1 h]; simp [hasNum]
theorem hasId_here {l : List Shp} {i : Nat} {m : Shp} {id : Int} {k : Nat} (h : l[i]? = some m) (hi : i < k) (he : m.id = id) : hasId (l.take k) id = true := by
 rw [hasId, List.any_eq_true]
 exact ⟨m, List.mem_of_getElem? (by rw [List.getElem?_take, if_pos hi]; exact h), by simpa using he⟩
theorem hasNum_here {l : List Fld} {i : Nat} {f : Fld} {n : Int} (h : l[i]? = some f) (he : f.number = n) : hasNum l n = true := by
 rw [hasNum, List.any_eq_true]
 exact ⟨f, List.mem_of_getElem? h, by simpa using he⟩
structure hasId_s_V0 where
 i : Nat
def hasId_s_F0 (r : Raw) (id : Int) (n : Int) : Fam := ⟨hasId_s_V0, fun q1 => [(1, .v (vI id)), (2, .v (vI n)), (3, .v (vP 0)), (7, .v (vI ((q1.i : Nat) : Int)))], fun _ => [.cells [.seq .shp r.msgs]], fun q1 => ((q1.i : Nat) : Int) ≤ n ∧ hasId (List.take q1.i r.msgs) id = false, fun q1 => Int.toNat n - q1.i⟩
theorem hasId_s (r : Raw) (id : Int) (n : Int) (hp1 : (0 : Int) ≤ n ∧ n ≤ ((List.length (r).msgs : Nat) : Int)) (hp2 : List.length (r).msgs ≤ 1000) : Fun Tryz.prog 176 [.agg [.seq .shp r.msgs], vI id, vI n] [] (.v (vB (hasId (List.take (Int.toNat n) (r).msgs) id))) [] := by
 have hN : bigN = 274877906944 := rfl
 refine fun_ofw Tryz.func176 (by kernel_rfl) (by kernel_rfl) (w := let z2 := hasId_s_F0 r id n; let z3 := vB (hasId (List.take (Int.toNat n) (r).msgs) id); (.seg [.at 0, .keep [1, 2, 3, 7], .sel [0]] (.loop z2 fun q1 => .br (.intro (fun (x1 : Shp) => r.msgs[q1.i]? = some x1) fun x1 => .seg [.el .shp x1] (.br (.leaf () []) (.seg [.as 12 (.v (vI (((q1.i : Nat) : Int) + 1))), .at 0, .keep [1, 2, 3, 7], .sel [0]] (.next)))) (.leaf () [])), z2.Has [(1, .v (vI id)), (2, .v (vI n)), (3, .v (vP 0)), (7, .v (vI 0))] [.cells [.seq .shp r.msgs]] ∧ ∀ q1, z2.inv q1 → (let z1 := ((q1.i : Nat) : Int); ((decide (z1 < n)) = true → (∃ (x1 : Shp), r.msgs[q1.i]? = some x1) ∧ ∀ (x1 : Shp), (r.msgs[q1.i]? = some x1) → ((r.msgs[q1.i]? = some x1) ∧ ((0 : Int) ≤ z1) ∧ ((decide (x1.id = id)) = true → (.v (vB true) : S) = .v z3 ∧ ([] : List Blk) = []) ∧ ((decide (x1.id = id)) = false → ((.v (vI (IntKind.i64.wrap (z1 + 1))) : S) = .v (vI (z1 + 1))) ∧ z2.Nxt q1 [(1, .v (vI id)), (2, .v (vI n)), (3, .v (vP 0)), (7, .v (vI (z1 + 1)))] [.cells [.seq .shp r.msgs]]))) ∧ ((decide (z1 < n)) = false → (.v (vB false) : S) = .v z3 ∧ ([] : List Blk) = [])))) (by kernel_rfl) ?_
 refine ⟨has_of (j := (⟨0⟩ : hasId_s_V0)) (by first | rfl | simp) rfl (by dsimp only [hasId_s_F0]; exact ⟨by omega, rfl⟩), fun (q1 : hasId_s_V0) hq_q1 => ?_⟩
 have hi_q1 : ((q1.i : Nat) : Int) ≤ n ∧ hasId (List.take q1.i r.msgs) id = false := hq_q1
 obtain ⟨v1, v2⟩ := hi_q1
 refine dsp (fun h1 p1 => ?_) fun h1 p1 => ?_
 refine ⟨(ax_get (l := r.msgs) (i := q1.i) (by omega)), fun x1 hx1 => ?_⟩
 refine ⟨hx1, (by omega), dsp (fun h2 p2 => ?_) fun h2 p2 => ?_⟩
 refine ⟨(sB ?_), rfl⟩
 rotate_left
 exact ⟨(as_i64 (by omega) (by omega)), nxt_of (j := (⟨q1.i + 1⟩ : hasId_s_V0)) (by first | rfl | simp) rfl (by dsimp only [hasId_s_F0]; exact ⟨by omega, by rw [hasId_take hx1, v2]; simpa using by assumption⟩) (by dsimp only [hasId_s_F0]; omega)⟩
 have hin : Int.toNat n = q1.i := by omega
 refine ⟨(sB ?_), rfl⟩
 rotate_left
 all_goals first | ((rw [hin, v2]; done)) | ((rw [hasId_here hx1 (by omega) (by assumption)]; done)) | (grind)
structure hasNum_s_V0 where
 i : Nat
def hasNum_s_F0 (l : List Fld) (n : Int) : Fam := ⟨hasNum_s_V0, fun q1 => [(0, .v (.c (.seq .fld l))), (1, .v (vI n)), (5, .v (vI ((q1.i : Nat) : Int)))], fun _ => [], fun q1 => q1.i ≤ List.length l ∧ hasNum (List.take q1.i l) n = false, fun q1 => List.length l - q1.i⟩
theorem hasNum_s (l : List Fld) (n : Int) (hp1 : List.length l ≤ 1000) : Fun Tryz.prog 158 [.c (.seq .fld l), vI n] [] (.v (vB (hasNum l n))) [] := by
 have hN : bigN = 274877906944 := rfl
 refine fun_ofw Tryz.func158 (by kernel_rfl) (by kernel_rfl) (w := let z2 := hasNum_s_F0 l n; (.seg [.at 0, .keep [0, 1, 5], .sel []] (.loop z2 fun q1 => .br (.intro (fun (x1 : Fld) => l[q1.i]? = some x1) fun x1 => .seg [.el .fld x1] (.br (.leaf () []) (.seg [.as 11 (.v (vI (((q1.i : Nat) : Int) + 1))), .at 0, .keep [0, 1, 5], .sel []] (.next)))) (.leaf () [])), z2.Has [(0, .v (.c (.seq .fld l))), (1, .v (vI n)), (5, .v (vI 0))] [] ∧ ∀ q1, z2.inv q1 → (let z1 := ((q1.i : Nat) : Int); ((decide (z1 < ((List.length l : Nat) : Int))) = true → (∃ (x1 : Fld), l[q1.i]? = some x1) ∧ ∀ (x1 : Fld), (l[q1.i]? = some x1) → ((l[q1.i]? = some x1) ∧ ((0 : Int) ≤ z1) ∧ ((decide (x1.number = n)) = true → (.v (vB true) : S) = .v (vB (hasNum l n)) ∧ ([] : List Blk) = []) ∧ ((decide (x1.number = n)) = false → ((.v (vI (IntKind.i64.wrap (z1 + 1))) : S) = .v (vI (z1 + 1))) ∧ z2.Nxt q1 [(0, .v (.c (.seq .fld l))), (1, .v (vI n)), (5, .v (vI (z1 + 1)))] []))) ∧ ((decide (z1 < ((List.length l : Nat) : Int))) = false → (.v (vB false) : S) = .v (vB (hasNum l n)) ∧ ([] : List Blk) = [])))) (by kernel_rfl) ?_
 refine ⟨has_of (j := (⟨0⟩ : hasNum_s_V0)) (by first | rfl | simp) rfl (by dsimp only [hasNum_s_F0]; exact ⟨by omega, rfl⟩), fun (q1 : hasNum_s_V0) hq_q1 => ?_⟩
 have hi_q1 : q1.i ≤ List.length l ∧ hasNum (List.take q1.i l) n = false := hq_q1
 obtain ⟨v1, v2⟩ := hi_q1
 refine dsp (fun h1 p1 => ?_) fun h1 p1 => ?_
 refine ⟨(ax_get (l := l) (i := q1.i) (by omega)), fun x1 hx1 => ?_⟩
 refine ⟨hx1, (by omega), dsp (fun h2 p2 => ?_) fun h2 p2 => ?_⟩
 refine ⟨(sB ?_), rfl⟩
 rotate_left
 exact ⟨(as_i64 (by omega) (by omega)), nxt_of (j := (⟨q1.i + 1⟩ : hasNum_s_V0)) (by first | rfl | simp) rfl (by dsimp only [hasNum_s_F0]; exact ⟨by omega, by rw [hasNum_take hx1, v2]; simpa using by assumption⟩) (by dsimp only [hasNum_s_F0]; omega)⟩
 have hin : List.take q1.i l = l := List.take_of_length_le (by omega)
 rw [hin] at v2
 refine ⟨(sB ?_), rfl⟩
 rotate_left
 all_goals first | ((rw [v2]; done)) | ((rw [hasNum_here hx1 (by assumption)]; done)) | (grind)
theorem msgCode_s (r : Raw) (msg : Int) (hp1 : RawK (List.length (r).msgs) (r).msgs) (hp2 : (0 : Int) ≤ msg ∧ msg < ((List.length (r).msgs : Nat) : Int)) : Fun Tryz.prog 171 [.agg [.seq .shp r.msgs], vI msg] [] (.v (vI 0)) [] := by
 have hN : bigN = 274877906944 := rfl
 have hpos := hp1.pos
 refine fun_ofw Tryz.func171 (by kernel_rfl) (by kernel_rfl) (w := let z3 := ((List.length r.msgs : Nat) : Int) - 1; let z4 := within msg 0 z3; let z5 := List.take (Int.toNat msg) (r).msgs; (.seg [.as 10 (.v (vI z3)), .call [] (.v (vB z4)) []] (.br (.leaf () []) (.intro (fun (x1 : Shp) => r.msgs[Int.toNat msg]? = some x1) fun x1 => .seg [.el .shp x1, .call [] (.v (vB (within x1.id 1 99))) []] (.br (.leaf () []) (.seg [.call [] (.v (vB (hasId z5 x1.id))) [], .br false, .br false] (.leaf () []))))), ((.v (vI (IntKind.i64.wrap z3)) : S) = .v (vI z3)) ∧ (Fun Tryz.prog 45 [vI msg, vI 0, vI z3] [] (.v (vB z4)) []) ∧ ((!z4) = true → (.v (vI 0) : S) = .v (vI 0) ∧ ([] : List Blk) = []) ∧ ((!z4) = false → (∃ (x1 : Shp), r.msgs[Int.toNat msg]? = some x1) ∧ ∀ (x1 : Shp), (r.msgs[Int.toNat msg]? = some x1) → (let z1 := hasId z5 x1.id; let z2 := within x1.id 1 99; (r.msgs[Int.toNat msg]? = some x1) ∧ ((0 : Int) ≤ msg) ∧ (Fun Tryz.prog 45 [vI x1.id, vI 1, vI 99] [] (.v (vB z2)) []) ∧ ((!z2) = true → (.v (vI 2) : S) = .v (vI 0) ∧ ([] : List Blk) = []) ∧ ((!z2) = false → (Fun Tryz.prog 176 [.agg [.seq .shp r.msgs], vI x1.id, vI msg] [] (.v (vB z1)) []) ∧ (z1 = false) ∧ ((decide (8 < ((List.length x1.fields : Nat) : Int))) = false) ∧ (.v (vI 0) : S) = .v (vI 0) ∧ ([] : List Blk) = []))))) (by kernel_rfl) ?_
 refine ⟨(as_i64 (by omega) (by omega)), (within_s _ _ _), fun h1 => have q1 := bnot_t h1; have p1 := within_f q1; ?_, fun h1 => have q1 := bnot_f h1; have p1 := within_t q1; ?_⟩
 exact ⟨rfl, rfl⟩
 refine ⟨(ax_get (l := r.msgs) (i := Int.toNat msg) (by omega)), fun x1 hx1 => ?_⟩
 have hid := hp1.id_ok (List.mem_of_getElem? hx1)
 have hfl := (hp1.flds _ (List.mem_of_getElem? hx1)).len
 have hno := hp1.noId hx1
 refine ⟨hx1, (by omega), (within_s _ _ _), fun h2 => have q2 := bnot_t h2; have p2 := within_f q2; ?_, fun h2 => have q2 := bnot_f h2; have p2 := within_t q2; ?_⟩
 refine ⟨(sI ?_), rfl⟩
 rotate_left
 exact ⟨(hasId_s r _ _ (by omega) (by omega)), hno, (decide_eq_false (by omega)), rfl, rfl⟩
 all_goals first | (rfl) | ((exfalso; omega)) | ((exfalso; simp_all; done)) | (grind)
theorem fieldCode_s (r : Raw) (msg : Int) (field : Int) (hp1 : RawK (List.length (r).msgs) (r).msgs) (hp2 : (0 : Int) ≤ msg ∧ msg < ((List.length (r).msgs : Nat) : Int)) (hp3 : ∀ m, (r).msgs[Int.toNat msg]? = some m → (0 : Int) ≤ field ∧ field < ((List.length m.fields : Nat) : Int)) : Fun Tryz.prog 172 [.agg [.seq .shp r.msgs], vI msg, vI field] [] (.v (vI 0)) [] := by
 have hN : bigN = 274877906944 := rfl
 have hpos := hp1.pos
 refine fun_ofw Tryz.func172 (by kernel_rfl) (by kernel_rfl) (w := let z12 := ((List.length r.msgs : Nat) : Int); let z13 := ([] : List Blk); let z14 := within msg 0 (z12 - 1); let z15 := (.v (vI 0) : S); let z16 := List.take (Int.toNat z12) (r).msgs; let z17 := (0 : Int) ≤ field; (.seg [.as 13 (.v (vI (z12 - 1))), .call [] (.v (vB z14)) []] (.br (.leaf () []) (.intro (fun (x1 : Shp) => r.msgs[Int.toNat msg]? = some x1) fun x1 => let z8 := ((List.length x1.fields : Nat) : Int) - 1; .seg [.el .shp x1, .as 25 (.v (vI z8)), .call [] (.v (vB (within field 0 z8))) []] (.br (.leaf () []) (.seg [.el .shp x1] (.intro (fun (x2 : Fld) => x1.fields[Int.toNat field]? = some x2) fun x2 => let z1 := vB (hasId z16 x2.msg); .seg [.el .fld x2, .call [] (.v (vB (numberOk x2.number))) []] (.br (.leaf () []) (.seg [.ord (os 7 [5]) [], .call [] (.v (vB (hasNum (List.take (Int.toNat field) x1.fields) x2.number))) [], .br false, .call [] (.v (vB (kindOk x2.kind))) []] (.br (.leaf () []) (.br (.br (.leaf () []) (.seg [.call [] (.v (vB (numeric x2.kind))) []] (.br (.leaf () []) (.br (.seg [.call [] (.v z1) []] (.br (.leaf () []) (.br (.br (.leaf () []) (.leaf () [])) (.leaf () [])))) (.br (.br (.leaf () []) (.leaf () [])) (.leaf () [])))))) (.br (.seg [.call [] (.v z1) []] (.br (.leaf () []) (.br (.br (.leaf () []) (.leaf () [])) (.leaf () [])))) (.br (.br (.leaf () []) (.leaf () [])) (.leaf () [])))))))))))), ((.v (vI (IntKind.i64.wrap (z12 - 1))) : S) = .v (vI (z12 - 1))) ∧ (Fun Tryz.prog 45 [vI msg, vI 0, vI (z12 - 1)] [] (.v (vB z14)) []) ∧ ((!z14) = true → z15 = .v (vI 0) ∧ z13 = []) ∧ ((!z14) = false → (∃ (x1 : Shp), r.msgs[Int.toNat msg]? = some x1) ∧ ∀ (x1 : Shp), (r.msgs[Int.toNat msg]? = some x1) → (let z9 := ((List.length x1.fields : Nat) : Int); let z10 := List.take (Int.toNat field) x1.fields; let z11 := r.msgs[Int.toNat msg]? = some x1; z11 ∧ ((0 : Int) ≤ msg) ∧ ((.v (vI (IntKind.i64.wrap (z9 - 1))) : S) = .v (vI (z9 - 1))) ∧ (Fun Tryz.prog 45 [vI field, vI 0, vI (z9 - 1)] [] (.v (vB (within field 0 (z9 - 1)))) []) ∧ ((!(within field 0 (z9 - 1))) = true → z15 = .v (vI 0) ∧ z13 = []) ∧ ((!(within field 0 (z9 - 1))) = false → z11 ∧ ((0 : Int) ≤ msg) ∧ (∃ (x2 : Fld), x1.fields[Int.toNat field]? = some x2) ∧ ∀ (x2 : Fld), (x1.fields[Int.toNat field]? = some x2) → (let z2 := (!decide (x2.kind = 8)) = true → ((!decide (x2.msg = 0)) = true → (.v (vI 9) : S) = .v (vI 0) ∧ z13 = []) ∧ ((!decide (x2.msg = 0)) = false → z15 = .v (vI 0) ∧ z13 = []); let z3 := hasId z16 x2.msg; let z4 := (!decide (x2.kind = 8)) = false → z15 = .v (vI 0) ∧ z13 = []; let z5 := decide (x2.kind = 8); let z6 := hasNum z10 x2.number; let z7 := numberOk x2.number; (x1.fields[Int.toNat field]? = some x2) ∧ z17 ∧ (Fun Tryz.prog 140 [vI x2.number] [] (.v (vB z7)) []) ∧ ((!z7) = true → (.v (vI 5) : S) = .v (vI 0) ∧ z13 = []) ∧ ((!z7) = false → (field ≤ z9) ∧ z17 ∧ (field ≤ z9) ∧ z17 ∧ (Fun Tryz.prog 158 [.c (.seq .fld z10), vI x2.number] [] (.v (vB z6)) []) ∧ (z6 = false) ∧ (Fun Tryz.prog 135 [vI x2.kind] [] (.v (vB (kindOk x2.kind))) []) ∧ ((!(kindOk x2.kind)) = true → (.v (vI 7) : S) = .v (vI 0) ∧ z13 = []) ∧ ((!(kindOk x2.kind)) = false → (x2.packed = true → ((!x2.rep) = true → (.v (vI 8) : S) = .v (vI 0) ∧ z13 = []) ∧ ((!x2.rep) = false → (Fun Tryz.prog 141 [vI x2.kind] [] (.v (vB (numeric x2.kind))) []) ∧ ((!(numeric x2.kind)) = true → (.v (vI 8) : S) = .v (vI 0) ∧ z13 = []) ∧ ((!(numeric x2.kind)) = false → (z5 = true → (Fun Tryz.prog 176 [.agg [.seq .shp r.msgs], vI x2.msg, vI z12] [] (.v (vB z3)) []) ∧ ((!z3) = true → (.v (vI 9) : S) = .v (vI 0) ∧ z13 = []) ∧ ((!z3) = false → z2 ∧ z4)) ∧ (z5 = false → z2 ∧ z4)))) ∧ (x2.packed = false → (z5 = true → (Fun Tryz.prog 176 [.agg [.seq .shp r.msgs], vI x2.msg, vI z12] [] (.v (vB z3)) []) ∧ ((!z3) = true → (.v (vI 9) : S) = .v (vI 0) ∧ z13 = []) ∧ ((!z3) = false → z2 ∧ z4)) ∧ (z5 = false → z2 ∧ z4)))))))))) (by kernel_rfl) ?_
 refine ⟨(as_i64 (by omega) (by omega)), (within_s _ _ _), fun h1 => have q1 := bnot_t h1; have p1 := within_f q1; ?_, fun h1 => have q1 := bnot_f h1; have p1 := within_t q1; ?_⟩
 exact ⟨rfl, rfl⟩
 refine ⟨(ax_get (l := r.msgs) (i := Int.toNat msg) (by omega)), fun x1 hx1 => ?_⟩
 have hfb := hp3 _ hx1
 have hfg := hp1.flds _ (List.mem_of_getElem? hx1)
 have hfl := hfg.len
 refine ⟨hx1, (by omega), (as_i64 (by omega) (by omega)), (within_s _ _ _), fun h2 => have q2 := bnot_t h2; have p2 := within_f q2; ?_, fun h2 => have q2 := bnot_f h2; have p2 := within_t q2; ?_⟩
 exact ⟨rfl, rfl⟩
 refine ⟨hx1, (by omega), (ax_get (l := x1.fields) (i := Int.toNat field) (by omega)), fun x2 hx2 => ?_⟩
 have hg := hfg.all _ (List.mem_of_getElem? hx2)
 have hnn := hfg.noNum hx2
 have hgk := hg.kd
 have hgm := hg.num
 have hgo : kindOk x2.kind = true := by simp only [kindOk, within, Bool.and_eq_true, decide_eq_true_eq]; omega
 have hgp := hg.pk
 have hgn := hg.no
 refine ⟨hx2, (by omega), (numberOk_s _), fun h3 => have q3 := bnot_t h3; ?_, fun h3 => have q3 := bnot_f h3; ?_⟩
 refine ⟨(sI ?_), rfl⟩
 rotate_left
 refine ⟨(by omega), (by omega), (by omega), (by omega), (hasNum_s _ _ (by simp only [List.length_take]; omega)), hnn, (kindOk_s _), fun h4 => have q4 := bnot_t h4; have p4 := within_f q4; ?_, fun h4 => have q4 := bnot_f h4; have p4 := within_t q4; ?_⟩
 refine ⟨(sI ?_), rfl⟩
 rotate_left
 refine ⟨fun h5 => ?_, fun h5 => ?_⟩
 refine ⟨fun h6 => have q6 := bnot_t h6; ?_, fun h6 => have q6 := bnot_f h6; ?_⟩
 refine ⟨(sI ?_), rfl⟩
 rotate_left
 refine ⟨(numeric_s _), fun h7 => have q7 := bnot_t h7; have p7 := within_f q7; ?_, fun h7 => have q7 := bnot_f h7; have p7 := within_t q7; ?_⟩
 refine ⟨(sI ?_), rfl⟩
 rotate_left
 refine dsp (fun h8 p8 => ?_) fun h8 p8 => ?_
 have hir := (hasId_t (l := r.msgs)).2 (hg.ref (by omega))
 refine ⟨(hasId_s r _ _ (by omega) (by omega)), fun h9 => have q9 := bnot_t h9; ?_, fun h9 => have q9 := bnot_f h9; ?_⟩
 refine ⟨(sI ?_), rfl⟩
 rotate_left
 refine ⟨fun h10 => have q10 := bnot_t h10; have p10 := of_decide_eq_false q10; ?_, fun h10 => have q10 := bnot_f h10; have p10 := of_decide_eq_true q10; ?_⟩
 refine ⟨fun h11 => have q11 := bnot_t h11; have p11 := of_decide_eq_false q11; ?_, fun h11 => have q11 := bnot_f h11; have p11 := of_decide_eq_true q11; ?_⟩
 refine ⟨(sI ?_), rfl⟩
 rotate_left
 exact ⟨rfl, rfl⟩
 exact ⟨rfl, rfl⟩
 refine ⟨fun h9 => have q9 := bnot_t h9; have p9 := of_decide_eq_false q9; ?_, fun h9 => have q9 := bnot_f h9; have p9 := of_decide_eq_true q9; ?_⟩
 refine ⟨fun h10 => have q10 := bnot_t h10; have p10 := of_decide_eq_false q10; ?_, fun h10 => have q10 := bnot_f h10; have p10 := of_decide_eq_true q10; ?_⟩
 refine ⟨(sI ?_), rfl⟩
 rotate_left
 exact ⟨rfl, rfl⟩
 exact ⟨rfl, rfl⟩
 refine dsp (fun h6 p6 => ?_) fun h6 p6 => ?_
 have hir := (hasId_t (l := r.msgs)).2 (hg.ref (by omega))
 refine ⟨(hasId_s r _ _ (by omega) (by omega)), fun h7 => have q7 := bnot_t h7; ?_, fun h7 => have q7 := bnot_f h7; ?_⟩
 refine ⟨(sI ?_), rfl⟩
 rotate_left
 refine ⟨fun h8 => have q8 := bnot_t h8; have p8 := of_decide_eq_false q8; ?_, fun h8 => have q8 := bnot_f h8; have p8 := of_decide_eq_true q8; ?_⟩
 refine ⟨fun h9 => have q9 := bnot_t h9; have p9 := of_decide_eq_false q9; ?_, fun h9 => have q9 := bnot_f h9; have p9 := of_decide_eq_true q9; ?_⟩
 refine ⟨(sI ?_), rfl⟩
 rotate_left
 exact ⟨rfl, rfl⟩
 exact ⟨rfl, rfl⟩
 refine ⟨fun h7 => have q7 := bnot_t h7; have p7 := of_decide_eq_false q7; ?_, fun h7 => have q7 := bnot_f h7; have p7 := of_decide_eq_true q7; ?_⟩
 refine ⟨fun h8 => have q8 := bnot_t h8; have p8 := of_decide_eq_false q8; ?_, fun h8 => have q8 := bnot_f h8; have p8 := of_decide_eq_true q8; ?_⟩
 refine ⟨(sI ?_), rfl⟩
 rotate_left
 exact ⟨rfl, rfl⟩
 exact ⟨rfl, rfl⟩
 all_goals first | (rfl) | ((exfalso; simp_all [numeric, within]; omega)) | ((exfalso; simp_all [numeric, within]; done)) | ((exfalso; omega)) | (grind)
structure first_s_V0 where
 i : Nat
def first_s_F0 (r : Raw) : Fam := ⟨first_s_V0, fun q1 => [(1, .v (vP 0)), (2, .v (vP 1)), (3, .v (vI ((q1.i : Nat) : Int)))], fun _ => [.cells [.seq .shp r.msgs], .cells [.int .i64 0, .int .i64 0, .int .i64 0]], fun q1 => q1.i ≤ List.length r.msgs, fun q1 => List.length r.msgs - q1.i⟩
structure first_s_V1 where
 k : Nat
def first_s_F1 (r : Raw) (q1 : first_s_V0) : Fam := ⟨first_s_V1, fun q2 => [(1, .v (vP 0)), (2, .v (vP 1)), (3, .v (vI ((q1.i : Nat) : Int))), (5, .v (vI ((q2.k : Nat) : Int)))], fun _ => [.cells [.seq .shp r.msgs], .cells [.int .i64 0, .int .i64 0, .int .i64 0]], fun q2 => q2.k ≤ 5, fun q2 => 5 - q2.k⟩
theorem first_s (r : Raw) (hp1 : RawK (List.length (r).msgs) (r).msgs) : Fun Tryz.prog 155 [.agg [.seq .shp r.msgs]] [] (.v (.agg [.int .i64 0, .int .i64 0, .int .i64 0])) [] := by
 have hN : bigN = 274877906944 := rfl
 have hpos := hp1.pos
 refine fun_ofw Tryz.func155 (by kernel_rfl) (by kernel_rfl) (w := let zi : Int → C := .int .i64; let z4 : List Blk := [.cells [.seq .shp r.msgs], .cells [zi 0, zi 0, zi 0]]; let z5 := ((List.length r.msgs : Nat) : Int); let z6 := first_s_F0 r; (.br (.leaf () []) (.seg [.at 0, .keep [1, 2, 3], .sel [0, 1]] (.loop z6 fun q1 => .br (.seg [.call [] (.v (vI 0)) [], .br false, .at 0, .keep [1, 2, 3, 5], .sel [0, 1]] (.loop (first_s_F1 r q1) fun q2 => .intro (fun (x1 : Shp) => r.msgs[q1.i]? = some x1) fun x1 => .seg [.el .shp x1] (.br (.seg [.call [] (.v (vI 0)) [], .br false, .as 36 (.v (vI (((q2.k : Nat) : Int) + 1))), .at 0, .keep [1, 2, 3, 5], .sel [0, 1]] (.next)) (.seg [.as 17 (.v (vI (((q1.i : Nat) : Int) + 1))), .at 0, .keep [1, 2, 3], .sel [0, 1]] (.next))))) (.leaf () []))), ((decide (6 < z5)) = true → (.v (.agg [zi 1, zi 6, zi (-1)]) : S) = .v (.agg [zi 0, zi 0, zi 0]) ∧ ([] : List Blk) = []) ∧ ((decide (6 < z5)) = false → z6.Has [(1, .v (vP 0)), (2, .v (vP 1)), (3, .v (vI 0))] z4 ∧ ∀ q1, z6.inv q1 → (let z3 := ((q1.i : Nat) : Int); ((decide (z3 < z5)) = true → (Fun Tryz.prog 171 [.agg [.seq .shp r.msgs], vI z3] [] (.v (vI 0)) []) ∧ ((!decide (0 = 0)) = false) ∧ (first_s_F1 r q1).Has [(1, .v (vP 0)), (2, .v (vP 1)), (3, .v (vI z3)), (5, .v (vI 0))] z4 ∧ ∀ q2, (first_s_F1 r q1).inv q2 → (let z2 := ((q2.k : Nat) : Int); (∃ (x1 : Shp), r.msgs[q1.i]? = some x1) ∧ ∀ (x1 : Shp), (r.msgs[q1.i]? = some x1) → (let z1 := decide (z2 < ((List.length x1.fields : Nat) : Int)); (r.msgs[q1.i]? = some x1) ∧ ((0 : Int) ≤ z3) ∧ (z1 = true → (Fun Tryz.prog 172 [.agg [.seq .shp r.msgs], vI z3, vI z2] [] (.v (vI 0)) []) ∧ ((!decide (0 = 0)) = false) ∧ ((.v (vI (IntKind.i64.wrap (z2 + 1))) : S) = .v (vI (z2 + 1))) ∧ (first_s_F1 r q1).Nxt q2 [(1, .v (vP 0)), (2, .v (vP 1)), (3, .v (vI z3)), (5, .v (vI (z2 + 1)))] z4) ∧ (z1 = false → ((.v (vI (IntKind.i64.wrap (z3 + 1))) : S) = .v (vI (z3 + 1))) ∧ z6.Nxt q1 [(1, .v (vP 0)), (2, .v (vP 1)), (3, .v (vI (z3 + 1)))] z4)))) ∧ ((decide (z3 < z5)) = false → (.v (.agg [zi 0, zi 0, zi 0]) : S) = .v (.agg [zi 0, zi 0, zi 0]) ∧ ([] : List Blk) = []))))) (by kernel_rfl) ?_
 refine dsp (fun h1 p1 => ?_) fun h1 p1 => ?_
 refine ⟨(congrArg S.v (congrArg V.agg (consE (congrArg (C.int .i64) ?_) (consE (congrArg (C.int .i64) ?_) (consE (congrArg (C.int .i64) ?_) rfl))))), rfl⟩
 rotate_left 3
 refine ⟨has_of (j := (⟨0⟩ : first_s_V0)) (by first | rfl | simp) rfl (by dsimp only [first_s_F0]; omega), fun (q1 : first_s_V0) hq_q1 => ?_⟩
 have hi_q1 : q1.i ≤ List.length r.msgs := hq_q1
 have v1 := hi_q1
 refine dsp (fun h2 p2 => ?_) fun h2 p2 => ?_
 refine ⟨(msgCode_s r _ (by omega) (by omega)), (by decide), has_of (j := (⟨0⟩ : first_s_V1)) (by first | rfl | simp) rfl (by dsimp only [first_s_F1]; omega), fun (q2 : first_s_V1) hq_q2 => ?_⟩
 have hi_q2 : q2.k ≤ 5 := hq_q2
 have w1 := hi_q2
 refine ⟨(ax_get (l := r.msgs) (i := q1.i) (by omega)), fun x1 hx1 => ?_⟩
 have hfl := (hp1.flds _ (List.mem_of_getElem? hx1)).len
 refine ⟨hx1, (by omega), dsp (fun h3 p3 => ?_) fun h3 p3 => ?_⟩
 exact ⟨(fieldCode_s r _ _ (by omega) (by omega) (fun m hm => by (try simp only [Int.toNat_natCast] at hm); rw [hx1] at hm; cases hm; omega)), (by decide), (as_i64 (by omega) (by omega)), nxt_of (j := (⟨q2.k + 1⟩ : first_s_V1)) (by first | rfl | simp) rfl (by dsimp only [first_s_F1]; omega) (by dsimp only [first_s_F1]; omega)⟩
 exact ⟨(as_i64 (by omega) (by omega)), nxt_of (j := (⟨q1.i + 1⟩ : first_s_V0)) (by first | rfl | simp) rfl (by dsimp only [first_s_F0]; omega) (by dsimp only [first_s_F0]; omega)⟩
 exact ⟨rfl, rfl⟩
 all_goals first | (rfl) | ((exfalso; simp_all [numeric, within]; omega)) | ((exfalso; simp_all [numeric, within]; done)) | ((exfalso; omega)) | (grind)
structure rank_s_V0 where
 n : Int
 i : Nat
def rank_s_F0 (r : Raw) (id : Int) : Fam := ⟨rank_s_V0, fun q1 => [(1, .v (vI id)), (2, .v (vP 0)), (5, .v (vI q1.n)), (6, .v (vI ((q1.i : Nat) : Int)))], fun _ => [.cells [.seq .shp r.msgs]], fun q1 => q1.i ≤ List.length r.msgs ∧ q1.n = ((rank (List.take q1.i r.msgs) id : Nat) : Int), fun q1 => List.length r.msgs - q1.i⟩
theorem rank_s (r : Raw) (id : Int) (hp1 : List.length (r).msgs ≤ 1000) : Fun Tryz.prog 156 [.agg [.seq .shp r.msgs], vI id] [] (.v (vI ((rank (r).msgs id : Nat) : Int))) [] := by
 have hN : bigN = 274877906944 := rfl
 refine fun_ofw Tryz.func156 (by kernel_rfl) (by kernel_rfl) (w := let z2 := rank_s_F0 r id; let z3 : List Blk := [.cells [.seq .shp r.msgs]]; let z4 := ((List.length r.msgs : Nat) : Int); (.seg [.at 0, .keep [1, 2, 5, 6], .sel [0]] (.loop z2 fun q1 => .br (.intro (fun (x1 : Shp) => r.msgs[q1.i]? = some x1) fun x1 => .seg [.el .shp x1] (.br (.seg [.as 23 (.v (vI (q1.n + 1))), .as 13 (.v (vI (((q1.i : Nat) : Int) + 1))), .at 0, .keep [1, 2, 5, 6], .sel [0]] (.next)) (.seg [.as 13 (.v (vI (((q1.i : Nat) : Int) + 1))), .at 0, .keep [1, 2, 5, 6], .sel [0]] (.next)))) (.leaf () [])), z2.Has [(1, .v (vI id)), (2, .v (vP 0)), (5, .v (vI 0)), (6, .v (vI 0))] z3 ∧ ∀ q1, z2.inv q1 → (let z1 := ((q1.i : Nat) : Int); ((decide (z1 < z4)) = true → (∃ (x1 : Shp), r.msgs[q1.i]? = some x1) ∧ ∀ (x1 : Shp), (r.msgs[q1.i]? = some x1) → ((r.msgs[q1.i]? = some x1) ∧ ((0 : Int) ≤ z1) ∧ ((decide (x1.id < id)) = true → ((.v (vI (IntKind.i64.wrap (q1.n + 1))) : S) = .v (vI (q1.n + 1))) ∧ ((.v (vI (IntKind.i64.wrap (z1 + 1))) : S) = .v (vI (z1 + 1))) ∧ z2.Nxt q1 [(1, .v (vI id)), (2, .v (vP 0)), (5, .v (vI (q1.n + 1))), (6, .v (vI (z1 + 1)))] z3) ∧ ((decide (x1.id < id)) = false → ((.v (vI (IntKind.i64.wrap (z1 + 1))) : S) = .v (vI (z1 + 1))) ∧ z2.Nxt q1 [(1, .v (vI id)), (2, .v (vP 0)), (5, .v (vI q1.n)), (6, .v (vI (z1 + 1)))] z3))) ∧ ((decide (z1 < z4)) = false → (.v (vI q1.n) : S) = .v (vI ((rank (r).msgs id : Nat) : Int)) ∧ ([] : List Blk) = [])))) (by kernel_rfl) ?_
 refine ⟨has_of (j := (⟨0, 0⟩ : rank_s_V0)) (by first | rfl | simp) rfl (by dsimp only [rank_s_F0]; exact ⟨by omega, by simp [rank]⟩), fun (q1 : rank_s_V0) hq_q1 => ?_⟩
 have hi_q1 : q1.i ≤ List.length r.msgs ∧ q1.n = ((rank (List.take q1.i r.msgs) id : Nat) : Int) := hq_q1
 obtain ⟨v1, v2⟩ := hi_q1
 refine dsp (fun h1 p1 => ?_) fun h1 p1 => ?_
 refine ⟨(ax_get (l := r.msgs) (i := q1.i) (by omega)), fun x1 hx1 => ?_⟩
 have hrk := rank_le (List.take q1.i r.msgs) id
 have hrl : (List.take q1.i r.msgs).length ≤ q1.i := by rw [List.length_take]; omega
 refine ⟨hx1, (by omega), dsp (fun h2 p2 => ?_) fun h2 p2 => ?_⟩
 exact ⟨(as_i64 (by omega) (by omega)), (as_i64 (by omega) (by omega)), nxt_of (j := (⟨q1.n + 1, q1.i + 1⟩ : rank_s_V0)) (by first | rfl | simp) rfl (by dsimp only [rank_s_F0]; exact ⟨by omega, by rw [rank_take hx1]; split <;> omega⟩) (by dsimp only [rank_s_F0]; omega)⟩
 exact ⟨(as_i64 (by omega) (by omega)), nxt_of (j := (⟨q1.n, q1.i + 1⟩ : rank_s_V0)) (by first | rfl | simp) rfl (by dsimp only [rank_s_F0]; exact ⟨by omega, by rw [rank_take hx1]; split <;> omega⟩) (by dsimp only [rank_s_F0]; omega)⟩
 have hin : List.take q1.i r.msgs = r.msgs := List.take_of_length_le (by omega)
 rw [hin] at v2
 refine ⟨(sI ?_), rfl⟩
 rotate_left
 all_goals first | ((rw [v2]; done)) | ((exact v2)) | (omega)
theorem put_mem {l : List Fld} {f g : Fld} {k : Nat} (h : g ∈ (([] ++ List.take k l) ++ [f]) ++ List.drop k l) : g = f ∨ g ∈ l := by
 simp only [List.nil_append, List.mem_append, List.mem_singleton] at h
 rcases h with (h | h) | h
 ·exact .inr (List.mem_of_mem_take h)
 ·exact .inl h
 ·exact .inr (List.mem_of_mem_drop h)
structure put_o_O where
 o : List Fld
def put_o_f (l : List Fld) (f : Fld) (o : put_o_O) : Prop := Fun Tryz.prog 157 [.c (.seq .fld l), .agg (cFld f)] [] (.v (vO 0)) [.lst .fld o.o]
def put_o_p (l : List Fld) (f : Fld) (o : put_o_O) : Prop := ((List.length o.o = List.length l + 1) ∧ (∀ g ∈ o.o, g = f ∨ g ∈ l)) ∧ put_o_f l f o
structure put_o_V0 where
 k : Nat
def put_o_F0 (l : List Fld) (f : Fld) : Fam := ⟨put_o_V0, fun q1 => [(0, .v (.c (.seq .fld l))), (3, .v (vP 0)), (5, .v (vI ((q1.k : Nat) : Int)))], fun _ => [.cells (cFld f)], fun q1 => q1.k ≤ List.length l, fun q1 => List.length l - q1.k⟩
theorem put_o (l : List Fld) (f : Fld) (hp1 : List.length l ≤ 1000) : ∃ o : put_o_O, put_o_p l f o := by
 have hN : bigN = 274877906944 := rfl
 refine funs_ofw Tryz.func157 (by kernel_rfl) (by kernel_rfl) (w := let z7 := ((List.length l : Nat) : Int); let z8 := put_o_F0 l f; (.seg [.at 0, .keep [0, 3, 5], .sel [0]] (.loop z8 fun q1 => let z1 := (([] : List Fld) ++ (List.take q1.k l)) ++ [f]; .case (decide (((q1.k : Nat) : Int) < z7)) (.intro (fun (x1 : Fld) => l[q1.k]? = some x1) fun x1 => .seg [.ord (os 14 []) [], .br true, .el .fld x1] (.br (.seg [.as 22 (.v (vI (((q1.k : Nat) : Int) + 1))), .at 0, .keep [0, 3, 5], .sel [0]] (.next)) (.seg [.ty .fld, .ty .fld, .ord [(0, true), (1, true), (4, true), (5, true), (6, true), (2, false), (3, false), (7, false), (8, true)] [2], .ty .fld, .ty .fld, .ty .fld] (.leaf (⟨z1 ++ (List.drop q1.k l)⟩ : put_o_O) [5])))) (.seg [.ord (os 14 []) [], .br false, .ty .fld, .ty .fld, .ord [(0, true), (1, true), (4, true), (5, true), (6, true), (2, false), (3, false), (7, false), (8, true)] [2], .ty .fld, .ty .fld, .ty .fld] (.leaf (⟨z1 ++ (List.drop q1.k l)⟩ : put_o_O) [5]))), z8.Has [(0, .v (.c (.seq .fld l))), (3, .v (vP 0)), (5, .v (vI 0))] [.cells (cFld f)] ∧ ∀ q1, z8.inv q1 → (let z3 := ((q1.k : Nat) : Int); let z4 := ([] : List Fld) ++ (List.take q1.k l); let z2 := (z4 ++ [f]) ++ (List.drop q1.k l); let z5 := List.length ([] : List Fld) + List.length (List.take q1.k l) ≤ bigN; let z6 := List.length (z4 ++ [f]) + List.length (List.drop q1.k l) ≤ bigN; ((decide (z3 < z7)) = true → (∃ (x1 : Fld), l[q1.k]? = some x1) ∧ ∀ (x1 : Fld), (l[q1.k]? = some x1) → (((decide (z3 < z7)) = true) ∧ (l[q1.k]? = some x1) ∧ ((0 : Int) ≤ z3) ∧ (l[q1.k]? = some x1) ∧ ((0 : Int) ≤ z3) ∧ ((decide (x1.number < f.number)) = true → ((.v (vI (IntKind.i64.wrap (z3 + 1))) : S) = .v (vI (z3 + 1))) ∧ z8.Nxt q1 [(0, .v (.c (.seq .fld l))), (3, .v (vP 0)), (5, .v (vI (z3 + 1)))] [.cells (cFld f)]) ∧ ((decide (x1.number < f.number)) = false → (z3 ≤ z7) ∧ ((0 : Int) ≤ z3) ∧ z5 ∧ (z3 ≤ z7) ∧ ((0 : Int) ≤ z3) ∧ (z3 ≤ z7) ∧ ((0 : Int) ≤ z3) ∧ (List.length z4 + List.length [f] ≤ bigN) ∧ z6 ∧ ((List.length z2 = List.length l + 1) ∧ (∀ g ∈ z2, g = f ∨ g ∈ l)) ∧ (.v (vO 0) : S) = .v (vO 0) ∧ ([.lst .fld z2] : List Blk) = [.lst .fld z2]))) ∧ ((decide (z3 < z7)) = false → ((decide (z3 < z7)) = false) ∧ (z3 ≤ z7) ∧ ((0 : Int) ≤ z3) ∧ z5 ∧ (z3 ≤ z7) ∧ ((0 : Int) ≤ z3) ∧ (z3 ≤ z7) ∧ ((0 : Int) ≤ z3) ∧ (List.length z4 + List.length [f] ≤ bigN) ∧ z6 ∧ ((List.length z2 = List.length l + 1) ∧ (∀ g ∈ z2, g = f ∨ g ∈ l)) ∧ (.v (vO 0) : S) = .v (vO 0) ∧ ([.lst .fld z2] : List Blk) = [.lst .fld z2])))) (by kernel_rfl) ?_
 refine ⟨has_of (j := (⟨0⟩ : put_o_V0)) (by first | rfl | simp) rfl (by dsimp only [put_o_F0]; omega), fun (q1 : put_o_V0) hq_q1 => ?_⟩
 have hi_q1 : q1.k ≤ List.length l := hq_q1
 have v1 := hi_q1
 refine dsp (fun h1 p1 => ?_) fun h1 p1 => ?_
 refine ⟨(ax_get (l := l) (i := q1.k) (by omega)), fun x1 hx1 => ?_⟩
 refine ⟨h1, hx1, (by omega), hx1, (by omega), dsp (fun h2 p2 => ?_) fun h2 p2 => ?_⟩
 exact ⟨(as_i64 (by omega) (by omega)), nxt_of (j := (⟨q1.k + 1⟩ : put_o_V0)) (by first | rfl | simp) rfl (by dsimp only [put_o_F0]; omega) (by dsimp only [put_o_F0]; omega)⟩
 exact ⟨(by omega), (by omega), (by simp only [List.length_take, List.length_cons, List.length_nil]; omega), (by omega), (by omega), (by omega), (by omega), (by simp; omega), (by simp; omega), ⟨(by simp; omega), (fun g hg => put_mem hg)⟩, rfl, rfl⟩
 exact ⟨h1, (by omega), (by omega), (by simp only [List.length_take, List.length_cons, List.length_nil]; omega), (by omega), (by omega), (by omega), (by omega), (by simp; omega), (by simp; omega), ⟨(by simp; omega), (fun g hg => put_mem hg)⟩, rfl, rfl⟩
def FldC (n : Nat) (f : Fld) : Prop := 1 ≤ f.kind ∧ f.kind ≤ 8 ∧ (f.kind = 8 → 0 ≤ f.msg ∧ f.msg < (n : Int))
theorem rep_good {n m : Nat} {e : Shp} (h : e ∈ List.replicate m (⟨0, []⟩ : Shp)) : ShpG n e.fields := by
 rw [List.eq_of_mem_replicate h]
 exact ⟨by simp, fun f hf => by cases hf⟩
theorem set_good {n k : Nat} {l : List Shp} {x e : Shp} (h : ∀ e ∈ l, ShpG n e.fields) (hx : ShpG n x.fields) (he : e ∈ l.set k x) : ShpG n e.fields := by
 rcases List.mem_or_eq_of_mem_set he with he | rfl
 ·exact h e he
 ·exact hx
theorem set_same {l : List Shp} {i : Nat} {x : Shp} (h : l[i]? = some x) : l.set i ⟨x.id, x.fields⟩ = l := by
 apply List.ext_getElem?
 intro j
 rw [List.getElem?_set]
 split
 ·rename_i hij
  subst hij
  rw [if_pos (List.getElem?_eq_some_iff.1 h).1, h]
 ·rfl
theorem ids3_next {l : List Shp} {i : Nat} {x : Int} (hl : idsOf l = List.take i [5, 1, 99]) (hi : i < 3) (hx : ([5, 1, 99, 7] : List Int)[i]? = some x) : idsOf (l ++ [⟨x, []⟩]) = List.take (i + 1) [5, 1, 99] := by
 have : idsOf (l ++ [⟨x, []⟩]) = idsOf l ++ [x] := by simp [idsOf]
 rw [this, hl]
 have h3 : i = 0 ∨ i = 1 ∨ i = 2 := by omega
 rcases h3 with rfl | rfl | rfl <;> simp at hx <;> subst hx <;> rfl
theorem raw_start {n : Nat} {l : List Shp} (h1 : l.length = n) (h2 : 1 ≤ n ∧ n ≤ 3) (h3 : idsOf l = List.take n [5, 1, 99]) (h4 : ∀ m ∈ l, m.fields = []) : RawK n l :=
 ⟨h1, h2, h3, fun m hm => by rw [h4 m hm]; exact ⟨by simp, by simp [nums], fun f hf => by cases hf⟩⟩
theorem set_far {l : List Shp} {i j : Nat} {x m : Shp} (h : ∀ j m, i < j → l[j]? = some m → m.fields = []) (hj : i < j) (hm : (l.set i x)[j]? = some m) : m.fields = [] := by
 rw [List.getElem?_set_ne (by omega)] at hm
 exact h j m hj hm
structure compile_o_O where
 l : List Shp
def compile_o_f (r : Raw) (o : compile_o_O) : Prop := Fun Tryz.prog 114 [.agg [.seq .shp r.msgs]] [] (.tup [.agg [.own 0], .agg [.int .i64 0, .int .i64 0, .int .i64 0]]) [.tree o.l]
def compile_o_p (r : Raw) (o : compile_o_O) : Prop := ((SchG o.l)) ∧ compile_o_f r o
structure compile_o_V0 where
 shapes : List Shp
 i : Nat
def compile_o_F0 (r : Raw) : Fam := ⟨compile_o_V0, fun q1 => [(1, .v (vP 0)), (2, .v (vP 1)), (3, .v (vP 2)), (4, .v (vP 3)), (5, .v (vP 4)), (6, .v (vI ((q1.i : Nat) : Int)))], fun q1 => [.cells [.seq .shp r.msgs], .cells [.nil], .cells [.int .i64 0, .int .i64 0, .int .i64 0], .cells [.int .i64 0, .int .i64 0, .int .i64 0], .cells [.own 5], .tree q1.shapes], fun q1 => q1.i ≤ List.length r.msgs ∧ List.length q1.shapes = List.length r.msgs ∧ ∀ e ∈ q1.shapes, ShpG (List.length r.msgs) e.fields, fun q1 => List.length r.msgs - q1.i⟩
structure compile_o_V1 where
 x : Shp
 k : Nat
def compile_o_F1 (r : Raw) (q1 : compile_o_V0) (x1 : Shp) : Fam := ⟨compile_o_V1, fun q2 => [(1, .v (vP 0)), (2, .v (vP 1)), (3, .v (vP 2)), (4, .v (vP 3)), (5, .v (vP 4)), (6, .v (vI ((q1.i : Nat) : Int))), (7, .v (vP 6)), (8, .v (vI ((q2.k : Nat) : Int)))], fun q2 => [.cells [.seq .shp r.msgs], .cells [.nil], .cells [.int .i64 0, .int .i64 0, .int .i64 0], .cells [.int .i64 0, .int .i64 0, .int .i64 0], .cells [.own 5], .tree q1.shapes, .cells [.int .i64 q2.x.id, .own 7], .lst .fld q2.x.fields], fun q2 => q2.k ≤ List.length x1.fields ∧ (q2.x).id = x1.id ∧ List.length (q2.x).fields = q2.k ∧ ∀ f ∈ (q2.x).fields, FldC (List.length r.msgs) f, fun q2 => List.length x1.fields - q2.k⟩
theorem compile_o (r : Raw) (hp1 : RawK (List.length (r).msgs) (r).msgs) : ∃ o : compile_o_O, compile_o_p r o := by
 have hN : bigN = 274877906944 := rfl
 have hpos := hp1.pos
 refine funs_ofw Tryz.func114 (by kernel_rfl) (by kernel_rfl) (w := let zi : Int → C := .int .i64; let z11 := ((List.length r.msgs : Nat) : Int); let z12 := compile_o_F0 r; (.seg [.call [] (.v (.agg [zi 0, zi 0, zi 0])) [], .br false, .tyT, .at 0, .keep [1, 2, 3, 4, 5, 6], .sel [0, 1, 2, 3, 5, 4]] (.loop z12 fun q1 => .br (.intro (fun (x1 : Shp) => r.msgs[q1.i]? = some x1) fun x1 => .seg [.el .shp x1, .at 0, .mk 6 1 .fld, .keep [1, 2, 3, 4, 5, 6, 7, 8], .sel [0, 1, 2, 3, 4, 5, 6, 7]] (.loop (compile_o_F1 r q1 x1) fun q2 => .seg [.el .shp x1] (.br (.seg [.el .shp x1] (.intro (fun (x2 : Fld) => x1.fields[q2.k]? = some x2) fun x2 => let z1 := ((rank (r).msgs x2.msg : Nat) : Int); .seg [.el .fld x2] (.br (.seg [.call [] (.v (vI z1)) []] (.intro (put_o_p q2.x.fields (⟨x2.number, x2.kind, x2.rep, x2.packed, z1⟩ : Fld)) fun o1 => .seg [.call [] (.v (vO 0)) [.lst .fld o1.o], .as 47 (.v (vI (((q2.k : Nat) : Int) + 1))), .at 0, .keep [1, 2, 3, 4, 5, 6, 7, 8], .sel [0, 1, 2, 3, 4, 5, 6, 10]] (.next))) (.intro (put_o_p q2.x.fields (⟨x2.number, x2.kind, x2.rep, x2.packed, (-1)⟩ : Fld)) fun o1 => .seg [.call [] (.v (vO 0)) [.lst .fld o1.o], .as 47 (.v (vI (((q2.k : Nat) : Int) + 1))), .at 0, .keep [1, 2, 3, 4, 5, 6, 7, 8], .sel [0, 1, 2, 3, 4, 5, 6, 10]] (.next))))) (.intro (fun (x2 : Shp) => q1.shapes[rank (r).msgs q2.x.id]? = some x2) fun x2 => .seg [.ord [(0, true), (1, true), (2, true), (3, true), (4, true), (6, true), (5, false), (7, true), (8, false)] [], .call [] (.v (vI ((rank (r).msgs q2.x.id : Nat) : Int))) [], .el .shp x2, .as 29 (.v (vI (((q1.i : Nat) : Int) + 1))), .at 0, .keep [1, 2, 3, 4, 5, 6], .sel [0, 1, 2, 3, 4, 5]] (.next))))) (.seg [.ord (os 4 [2, 3]) [1]] (.leaf (⟨q1.shapes⟩ : compile_o_O) [5]))), (Fun Tryz.prog 155 [.agg [.seq .shp r.msgs]] [] (.v (.agg [zi 0, zi 0, zi 0])) []) ∧ ((!decide (0 = 0)) = false) ∧ (z11 ≤ 9223372036854775807) ∧ (((32 : Nat) : Int) * z11 ≤ 281474976710656) ∧ (z11 ≤ z11) ∧ ((0 : Int) ≤ z11) ∧ z12.Has [(1, .v (vP 0)), (2, .v (vP 1)), (3, .v (vP 2)), (4, .v (vP 3)), (5, .v (vP 4)), (6, .v (vI 0))] [.cells [.seq .shp r.msgs], .cells [.nil], .cells [zi 0, zi 0, zi 0], .cells [zi 0, zi 0, zi 0], .cells [.own 5], .tree (List.replicate (List.length r.msgs) (⟨0, ([] : List Fld)⟩ : Shp))] ∧ ∀ q1, z12.inv q1 → (let z10 := ((q1.i : Nat) : Int); ((decide (z10 < z11)) = true → (∃ (x1 : Shp), r.msgs[q1.i]? = some x1) ∧ ∀ (x1 : Shp), (r.msgs[q1.i]? = some x1) → (let z7 := compile_o_F1 r q1 x1; let z8 := r.msgs[q1.i]? = some x1; let z9 := ((List.length x1.fields : Nat) : Int); z8 ∧ ((0 : Int) ≤ z10) ∧ z7.Has [(1, .v (vP 0)), (2, .v (vP 1)), (3, .v (vP 2)), (4, .v (vP 3)), (5, .v (vP 4)), (6, .v (vI z10)), (7, .v (vP 6)), (8, .v (vI 0))] [.cells [.seq .shp r.msgs], .cells [.nil], .cells [zi 0, zi 0, zi 0], .cells [zi 0, zi 0, zi 0], .cells [.own 5], .tree q1.shapes, .cells [zi x1.id, .own 7], .lst .fld ([] : List Fld)] ∧ ∀ q2, z7.inv q2 → (let z5 := ((q2.k : Nat) : Int); let z6 := ((rank (r).msgs q2.x.id : Nat) : Int); z8 ∧ ((0 : Int) ≤ z10) ∧ ((decide (z5 < z9)) = true → z8 ∧ ((0 : Int) ≤ z10) ∧ (∃ (x2 : Fld), x1.fields[q2.k]? = some x2) ∧ ∀ (x2 : Fld), (x1.fields[q2.k]? = some x2) → (let z3 := (⟨x2.number, x2.kind, x2.rep, x2.packed, (-1)⟩ : Fld); let z4 := ((rank (r).msgs x2.msg : Nat) : Int); let z2 := (⟨x2.number, x2.kind, x2.rep, x2.packed, z4⟩ : Fld); (x1.fields[q2.k]? = some x2) ∧ ((0 : Int) ≤ z5) ∧ ((decide (x2.kind = 8)) = true → (Fun Tryz.prog 156 [.agg [.seq .shp r.msgs], vI x2.msg] [] (.v (vI z4)) []) ∧ In (put_o_p q2.x.fields z2) fun o1 => ((put_o_f q2.x.fields z2 o1) ∧ ((.v (vI (IntKind.i64.wrap (z5 + 1))) : S) = .v (vI (z5 + 1))) ∧ z7.Nxt q2 [(1, .v (vP 0)), (2, .v (vP 1)), (3, .v (vP 2)), (4, .v (vP 3)), (5, .v (vP 4)), (6, .v (vI z10)), (7, .v (vP 6)), (8, .v (vI (z5 + 1)))] [.cells [.seq .shp r.msgs], .cells [.nil], .cells [zi 0, zi 0, zi 0], .cells [zi 0, zi 0, zi 0], .cells [.own 5], .tree q1.shapes, .cells [zi q2.x.id, .own 7], .lst .fld o1.o])) ∧ ((decide (x2.kind = 8)) = false → In (put_o_p q2.x.fields z3) fun o1 => ((put_o_f q2.x.fields z3 o1) ∧ ((.v (vI (IntKind.i64.wrap (z5 + 1))) : S) = .v (vI (z5 + 1))) ∧ z7.Nxt q2 [(1, .v (vP 0)), (2, .v (vP 1)), (3, .v (vP 2)), (4, .v (vP 3)), (5, .v (vP 4)), (6, .v (vI z10)), (7, .v (vP 6)), (8, .v (vI (z5 + 1)))] [.cells [.seq .shp r.msgs], .cells [.nil], .cells [zi 0, zi 0, zi 0], .cells [zi 0, zi 0, zi 0], .cells [.own 5], .tree q1.shapes, .cells [zi q2.x.id, .own 7], .lst .fld o1.o])))) ∧ ((decide (z5 < z9)) = false → (∃ (x2 : Shp), q1.shapes[rank (r).msgs q2.x.id]? = some x2) ∧ ∀ (x2 : Shp), (q1.shapes[rank (r).msgs q2.x.id]? = some x2) → ((Fun Tryz.prog 156 [.agg [.seq .shp r.msgs], vI q2.x.id] [] (.v (vI z6)) []) ∧ (z6 < ((List.length q1.shapes : Nat) : Int)) ∧ ((0 : Int) ≤ z6) ∧ (q1.shapes[rank (r).msgs q2.x.id]? = some x2) ∧ ((.v (vI (IntKind.i64.wrap (z10 + 1))) : S) = .v (vI (z10 + 1))) ∧ z12.Nxt q1 [(1, .v (vP 0)), (2, .v (vP 1)), (3, .v (vP 2)), (4, .v (vP 3)), (5, .v (vP 4)), (6, .v (vI (z10 + 1)))] [.cells [.seq .shp r.msgs], .cells [.nil], .cells [zi 0, zi 0, zi 0], .cells [zi 0, zi 0, zi 0], .cells [.own 5], .tree (List.set q1.shapes (rank (r).msgs q2.x.id) (⟨q2.x.id, q2.x.fields⟩ : Shp))]))))) ∧ ((decide (z10 < z11)) = false → ((SchG q1.shapes)) ∧ (.tup [.agg [.own 0], .agg [zi 0, zi 0, zi 0]] : S) = .tup [.agg [.own 0], .agg [zi 0, zi 0, zi 0]] ∧ ([.tree q1.shapes] : List Blk) = [.tree q1.shapes])))) (by kernel_rfl) ?_
 refine ⟨(first_s r (by omega)), (by decide), (by omega), (by omega), (by omega), (by omega), has_of (j := (⟨List.replicate (List.length r.msgs) (⟨0, ([] : List Fld)⟩ : Shp), 0⟩ : compile_o_V0)) (by first | rfl | simp) rfl (by dsimp only [compile_o_F0]; exact ⟨by omega, by simp, fun e he => rep_good he⟩), fun (q1 : compile_o_V0) hq_q1 => ?_⟩
 have hi_q1 : q1.i ≤ List.length r.msgs ∧ List.length q1.shapes = List.length r.msgs ∧ ∀ e ∈ q1.shapes, ShpG (List.length r.msgs) e.fields := hq_q1
 obtain ⟨v1, v2, v3⟩ := hi_q1
 refine dsp (fun h1 p1 => ?_) fun h1 p1 => ?_
 refine ⟨(ax_get (l := r.msgs) (i := q1.i) (by omega)), fun x1 hx1 => ?_⟩
 have hfg := hp1.flds _ (List.mem_of_getElem? hx1)
 have hfl := hfg.len
 have hmi : x1.id ∈ idsOf r.msgs := List.mem_map.2 ⟨_, List.mem_of_getElem? hx1, rfl⟩
 have hrl := rank_lt hmi
 refine ⟨hx1, (by omega), has_of (j := (⟨(⟨x1.id, ([] : List Fld)⟩ : Shp), 0⟩ : compile_o_V1)) (by first | rfl | simp) (by first | rfl | simp) (by dsimp only [compile_o_F1]; exact ⟨by omega, rfl, rfl, fun f hf => by cases hf⟩), fun (q2 : compile_o_V1) hq_q2 => ?_⟩
 have hi_q2 : q2.k ≤ List.length x1.fields ∧ (q2.x).id = x1.id ∧ List.length (q2.x).fields = q2.k ∧ ∀ f ∈ (q2.x).fields, FldC (List.length r.msgs) f := hq_q2
 obtain ⟨w1, w2, w3, w4⟩ := hi_q2
 refine ⟨hx1, (by omega), dsp (fun h2 p2 => ?_) fun h2 p2 => ?_⟩
 refine ⟨hx1, (by omega), (ax_get (l := x1.fields) (i := q2.k) (by omega)), fun x2 hx2 => ?_⟩
 have hg := hfg.all _ (List.mem_of_getElem? hx2)
 have hgk := hg.kd
 refine ⟨hx2, (by omega), dsp (fun h3 p3 => ?_) fun h3 p3 => ?_⟩
 have hir := rank_lt (hg.ref (by omega))
 refine ⟨(rank_s r _ (by omega)), (put_o q2.x.fields (⟨x2.number, x2.kind, x2.rep, x2.packed, ((rank (r).msgs x2.msg : Nat) : Int)⟩ : Fld) (by omega)), fun o1 ho_o1 => ?_⟩
 obtain ⟨⟨hp_o1_0, hp_o1_1⟩, hf_o1⟩ := ho_o1
 exact ⟨hf_o1, (as_i64 (by omega) (by omega)), nxt_of (j := (⟨(⟨q2.x.id, o1.o⟩ : Shp), q2.k + 1⟩ : compile_o_V1)) (by first | rfl | simp) (by first | rfl | simp) (by dsimp only [compile_o_F1]; exact ⟨by omega, w2, by omega, fun f hf => by
           rcases hp_o1_1 f hf with rfl | hf
           ·exact ⟨by dsimp only; omega, by dsimp only; omega, fun h8 => by dsimp only at h8 ⊢; omega⟩
           ·exact w4 f hf⟩) (by dsimp only [compile_o_F1]; omega)⟩
 refine ⟨(put_o q2.x.fields (⟨x2.number, x2.kind, x2.rep, x2.packed, (-1)⟩ : Fld) (by omega)), fun o1 ho_o1 => ?_⟩
 obtain ⟨⟨hp_o1_0, hp_o1_1⟩, hf_o1⟩ := ho_o1
 exact ⟨hf_o1, (as_i64 (by omega) (by omega)), nxt_of (j := (⟨(⟨q2.x.id, o1.o⟩ : Shp), q2.k + 1⟩ : compile_o_V1)) (by first | rfl | simp) (by first | rfl | simp) (by dsimp only [compile_o_F1]; exact ⟨by omega, w2, by omega, fun f hf => by
           rcases hp_o1_1 f hf with rfl | hf
           ·exact ⟨by dsimp only; omega, by dsimp only; omega, fun h8 => by dsimp only at h8 ⊢; omega⟩
           ·exact w4 f hf⟩) (by dsimp only [compile_o_F1]; omega)⟩
 have hxg : ShpG (List.length r.msgs) q2.x.fields := ⟨by omega, w4⟩
 have hrx : rank r.msgs q2.x.id < List.length r.msgs := by rw [w2]; exact hrl
 refine ⟨(ax_get (l := q1.shapes) (i := rank (r).msgs q2.x.id) (by omega)), fun x2 hx2 => ?_⟩
 exact ⟨(rank_s r _ (by omega)), (by omega), (by omega), hx2, (as_i64 (by omega) (by omega)), nxt_of (j := (⟨List.set q1.shapes (rank (r).msgs q2.x.id) (⟨q2.x.id, q2.x.fields⟩ : Shp), q1.i + 1⟩ : compile_o_V0)) (by first | rfl | simp) rfl (by dsimp only [compile_o_F0]; exact ⟨by omega, by rw [List.length_set]; exact v2, fun e he => set_good v3 hxg he⟩) (by dsimp only [compile_o_F0]; omega)⟩
 have hsg : SchG q1.shapes := ⟨by omega, fun e he => by rw [v2]; exact v3 e he⟩
 exact ⟨(hsg), rfl, rfl⟩
end Go.Proofs.YtaflinakodideaaGreat.Ax
