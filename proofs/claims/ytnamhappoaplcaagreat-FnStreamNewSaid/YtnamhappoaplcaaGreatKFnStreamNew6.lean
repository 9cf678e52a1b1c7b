/- Schemas. Events. Decoders: what is valid. Decoders: what is valid, more. Decoders: what is valid, whole. Decoders: what is valid, at last. Decoders: what is valid: both sides. Copies. -/
import Derived.Test.YtnamhappoaplcaaGreatKFnStreamNew5
import Derived.Test.YtnamhappoaplcaaGreatKFnStreamNew1
set_option linter.unusedSimpArgs false
set_option linter.unusedVariables false
namespace Go.Proofs.YtnamhappoaplcaaGreat.Ax
open Go.RowKit
theorem fldOk_i (f : Fld) (before : Int) (n : Int) (hp1 : (0 : Int) ≤ n ∧ n ≤ 1000) : Fun Tryz.prog 59 [.agg (cFld f), vI before, vI n] [] (.v (vB (decide (before < (f).number) && fldOk f n))) [] := by
 have hN : bigN = 274877906944 := rfl
 refine fun_ofw Tryz.func59 (by kernel_rfl) (by kernel_rfl) (w := let z1 := vB (decide (before < (f).number) && fldOk f n); let z2 := vB (within f.msg 0 (n - 1)); let z4 := ([] : List Blk); let z5 := (.v (vB false) : S); let z6 := (.v (vI (IntKind.i64.wrap (n - 1))) : S) = .v (vI (n - 1)); let z7 := numberOk f.number; let z8 := numeric f.kind; let z9 := kindOk f.kind; let z10 := decide (f.kind = 8); let z3 := z10 = false → (.v (vB (decide (f.msg = (-1)))) : S) = .v z1 ∧ z4 = []; (.seg [.call [] (.v (vB z7)) []] (.br (.leaf () []) (.br (.leaf () []) (.seg [.call [] (.v (vB z9)) []] (.br (.leaf () []) (.br (.br (.leaf () []) (.seg [.call [] (.v (vB z8)) []] (.br (.leaf () []) (.br (.seg [.as 45 (.v (vI (n - 1))), .call [] (.v z2) []] (.leaf () [])) (.leaf () []))))) (.br (.seg [.as 45 (.v (vI (n - 1))), .call [] (.v z2) []] (.leaf () [])) (.leaf () []))))))), (Fun Tryz.prog 83 [vI f.number] [] (.v (vB z7)) []) ∧ ((!z7) = true → z5 = .v z1 ∧ z4 = []) ∧ ((!z7) = false → ((decide (f.number ≤ before)) = true → z5 = .v z1 ∧ z4 = []) ∧ ((decide (f.number ≤ before)) = false → (Fun Tryz.prog 84 [vI f.kind] [] (.v (vB z9)) []) ∧ ((!z9) = true → z5 = .v z1 ∧ z4 = []) ∧ ((!z9) = false → (f.packed = true → ((!f.rep) = true → z5 = .v z1 ∧ z4 = []) ∧ ((!f.rep) = false → (Fun Tryz.prog 85 [vI f.kind] [] (.v (vB z8)) []) ∧ ((!z8) = true → z5 = .v z1 ∧ z4 = []) ∧ ((!z8) = false → (z10 = true → z6 ∧ (Fun Tryz.prog 35 [vI f.msg, vI 0, vI (n - 1)] [] (.v z2) []) ∧ (.v z2 : S) = .v z1 ∧ z4 = []) ∧ z3))) ∧ (f.packed = false → (z10 = true → z6 ∧ (Fun Tryz.prog 35 [vI f.msg, vI 0, vI (n - 1)] [] (.v z2) []) ∧ (.v z2 : S) = .v z1 ∧ z4 = []) ∧ z3)))))) (by kernel_rfl) ?_
 refine ⟨(numberOk_i _), fun h1 => have q1 := bnot_t h1; ?_, fun h1 => have q1 := bnot_f h1; ?_⟩
 refine ⟨(sB ?_), rfl⟩
 rotate_left
 refine dsp (fun h2 p2 => ?_) fun h2 p2 => ?_
 refine ⟨(sB ?_), rfl⟩
 rotate_left
 refine ⟨(kindOk_i _), fun h3 => have q3 := bnot_t h3; have p3 := within_f q3; ?_, fun h3 => have q3 := bnot_f h3; have p3 := within_t q3; ?_⟩
 refine ⟨(sB ?_), rfl⟩
 rotate_left
 refine ⟨fun h4 => ?_, fun h4 => ?_⟩
 refine ⟨fun h5 => have q5 := bnot_t h5; ?_, fun h5 => have q5 := bnot_f h5; ?_⟩
 refine ⟨(sB ?_), rfl⟩
 rotate_left
 refine ⟨(numeric_i _), fun h6 => have q6 := bnot_t h6; have p6 := within_f q6; ?_, fun h6 => have q6 := bnot_f h6; have p6 := within_t q6; ?_⟩
 refine ⟨(sB ?_), rfl⟩
 rotate_left
 refine dsp (fun h7 p7 => ?_) fun h7 p7 => ?_
 refine ⟨(as_i64 (by omega) (by omega)), (within_i _ _ _), (sB ?_), rfl⟩
 rotate_left
 refine ⟨(sB ?_), rfl⟩
 rotate_left
 refine dsp (fun h5 p5 => ?_) fun h5 p5 => ?_
 refine ⟨(as_i64 (by omega) (by omega)), (within_i _ _ _), (sB ?_), rfl⟩
 rotate_left
 refine ⟨(sB ?_), rfl⟩
 rotate_left
 all_goals first | (simp [fldOk, *]; done) | (simp_all [fldOk]; done) | (simp_all [fldOk]; omega) | (rw [Bool.eq_iff_iff]; simp_all [fldOk]; omega)
theorem fldOk_s (s : List Shp) (f : Fld) (hp1 : List.length s ≤ 1000) : Fun Tryz.prog 82 [.agg [.seq .shp s], .agg (cFld f)] [] (.v (vB (fldOk f ((List.length s : Nat) : Int)))) [] := by
 have hN : bigN = 274877906944 := rfl
 refine fun_ofw Tryz.func82 (by kernel_rfl) (by kernel_rfl) (w := let z1 := ((List.length s : Nat) : Int); let z2 := vB (within f.msg 0 (z1 - 1)); let z4 := vB (fldOk f z1); let z5 := ([] : List Blk); let z6 := (.v (vI (IntKind.i64.wrap (z1 - 1))) : S) = .v (vI (z1 - 1)); let z7 := numberOk f.number; let z8 := (.v (vB false) : S); let z9 := numeric f.kind; let z10 := kindOk f.kind; let z11 := decide (f.kind = 8); let z3 := z11 = false → (.v (vB (decide (f.msg = (-1)))) : S) = .v z4 ∧ z5 = []; (.seg [.call [] (.v (vB z7)) []] (.br (.leaf () []) (.seg [.call [] (.v (vB z10)) []] (.br (.leaf () []) (.br (.br (.leaf () []) (.seg [.call [] (.v (vB z9)) []] (.br (.leaf () []) (.br (.seg [.as 38 (.v (vI (z1 - 1))), .call [] (.v z2) []] (.leaf () [])) (.leaf () []))))) (.br (.seg [.as 38 (.v (vI (z1 - 1))), .call [] (.v z2) []] (.leaf () [])) (.leaf () [])))))), (Fun Tryz.prog 101 [vI f.number] [] (.v (vB z7)) []) ∧ ((!z7) = true → z8 = .v z4 ∧ z5 = []) ∧ ((!z7) = false → (Fun Tryz.prog 102 [vI f.kind] [] (.v (vB z10)) []) ∧ ((!z10) = true → z8 = .v z4 ∧ z5 = []) ∧ ((!z10) = false → (f.packed = true → ((!f.rep) = true → z8 = .v z4 ∧ z5 = []) ∧ ((!f.rep) = false → (Fun Tryz.prog 92 [vI f.kind] [] (.v (vB z9)) []) ∧ ((!z9) = true → z8 = .v z4 ∧ z5 = []) ∧ ((!z9) = false → (z11 = true → z6 ∧ (Fun Tryz.prog 57 [vI f.msg, vI 0, vI (z1 - 1)] [] (.v z2) []) ∧ (.v z2 : S) = .v z4 ∧ z5 = []) ∧ z3))) ∧ (f.packed = false → (z11 = true → z6 ∧ (Fun Tryz.prog 57 [vI f.msg, vI 0, vI (z1 - 1)] [] (.v z2) []) ∧ (.v z2 : S) = .v z4 ∧ z5 = []) ∧ z3))))) (by kernel_rfl) ?_
 refine ⟨(numberOk_s _), fun h1 => have q1 := bnot_t h1; ?_, fun h1 => have q1 := bnot_f h1; ?_⟩
 refine ⟨(sB ?_), rfl⟩
 rotate_left
 refine ⟨(kindOk_s _), fun h2 => have q2 := bnot_t h2; have p2 := within_f q2; ?_, fun h2 => have q2 := bnot_f h2; have p2 := within_t q2; ?_⟩
 refine ⟨(sB ?_), rfl⟩
 rotate_left
 refine ⟨fun h3 => ?_, fun h3 => ?_⟩
 refine ⟨fun h4 => have q4 := bnot_t h4; ?_, fun h4 => have q4 := bnot_f h4; ?_⟩
 refine ⟨(sB ?_), rfl⟩
 rotate_left
 refine ⟨(numeric_s _), fun h5 => have q5 := bnot_t h5; have p5 := within_f q5; ?_, fun h5 => have q5 := bnot_f h5; have p5 := within_t q5; ?_⟩
 refine ⟨(sB ?_), rfl⟩
 rotate_left
 refine dsp (fun h6 p6 => ?_) fun h6 p6 => ?_
 refine ⟨(as_i64 (by omega) (by omega)), (within_s _ _ _), (sB ?_), rfl⟩
 rotate_left
 refine ⟨(sB ?_), rfl⟩
 rotate_left
 refine dsp (fun h4 p4 => ?_) fun h4 p4 => ?_
 refine ⟨(as_i64 (by omega) (by omega)), (within_s _ _ _), (sB ?_), rfl⟩
 rotate_left
 refine ⟨(sB ?_), rfl⟩
 rotate_left
 all_goals first | (simp [fldOk, *]; done) | (simp_all [fldOk]; done) | (simp_all [fldOk]; omega) | (rw [Bool.eq_iff_iff]; simp_all [fldOk]; omega)
structure schemaOk_i_V0 where
 id : Int
 v : Nat
def schemaOk_i_F0 (s : List Shp) : Fam := ⟨schemaOk_i_V0, fun q1 => [(1, .v (vP 0)), (3, .v (vI q1.id)), (14, .v (.c (.seq .shp s))), (15, .v (vI ((List.length s : Nat) : Int))), (16, .v (vI ((q1.v : Nat) : Int)))], fun _ => [.cells [.seq .shp s]], fun q1 => q1.v ≤ List.length s ∧ shapesOk ((List.length s : Nat) : Int) q1.id (List.drop q1.v s) = shapesOk ((List.length s : Nat) : Int) 0 s, fun q1 => List.length s - q1.v⟩
structure schemaOk_i_V1 where
 number : Int
 v : Nat
def schemaOk_i_F1 (s : List Shp) (q1 : schemaOk_i_V0) (x1 : Shp) : Fam := ⟨schemaOk_i_V1, fun q2 => [(1, .v (vP 0)), (5, .v (vP 1)), (6, .v (vI q2.number)), (14, .v (.c (.seq .shp s))), (15, .v (vI ((List.length s : Nat) : Int))), (16, .v (vI ((q1.v : Nat) : Int))), (36, .v (.c (.seq .fld x1.fields))), (37, .v (vI ((List.length x1.fields : Nat) : Int))), (38, .v (vI ((q2.v : Nat) : Int)))], fun _ => [.cells [.seq .shp s], .cells (cShp x1)], fun q2 => q2.v ≤ List.length x1.fields ∧ fieldsOk ((List.length s : Nat) : Int) q2.number (List.drop q2.v x1.fields) = fieldsOk ((List.length s : Nat) : Int) 0 x1.fields, fun q2 => List.length x1.fields - q2.v⟩
theorem schemaOk_i (s : List Shp) : Fun Tryz.prog 36 [.agg [.seq .shp s]] [] (.v (vB (schemaOk s))) [] := by
 have hN : bigN = 274877906944 := rfl
 refine fun_ofw Tryz.func36 (by kernel_rfl) (by kernel_rfl) (w := let z7 := ((List.length s : Nat) : Int); let z8 := vB (schemaOk s); let z9 := (.v (vB false) : S); let z10 := ([] : List Blk); let z11 := schemaOk_i_F0 s; (.br (.leaf () []) (.seg [.at 0, .keep [1, 3, 14, 15, 16], .sel [0]] (.loop z11 fun q1 => .br (.intro (fun (x1 : Shp) => s[q1.v]? = some x1) fun x1 => .seg [.el .shp x1] (.br (.leaf () []) (.br (.leaf () []) (.br (.leaf () []) (.seg [.at 0, .keep [1, 5, 6, 14, 15, 16, 36, 37, 38], .sel [0, 1]] (.loop (schemaOk_i_F1 s q1 x1) fun q2 => .br (.intro (fun (x2 : Fld) => x1.fields[q2.v]? = some x2) fun x2 => .seg [.el .fld x2, .call [] (.v (vB (decide (q2.number < (x2).number) && fldOk x2 z7))) []] (.br (.leaf () []) (.seg [.as 51 (.v (vI (((q2.v : Nat) : Int) + 1))), .at 0, .keep [1, 5, 6, 14, 15, 16, 36, 37, 38], .sel [0, 1]] (.next)))) (.seg [.as 54 (.v (vI (((q1.v : Nat) : Int) + 1))), .at 0, .keep [1, 3, 14, 15, 16], .sel [0]] (.next)))))))) (.leaf () []))), ((decide (6 < z7)) = true → z9 = .v z8 ∧ z10 = []) ∧ ((decide (6 < z7)) = false → z11.Has [(1, .v (vP 0)), (3, .v (vI 0)), (14, .v (.c (.seq .shp s))), (15, .v (vI z7)), (16, .v (vI 0))] [.cells [.seq .shp s]] ∧ ∀ q1, z11.inv q1 → (let z6 := ((q1.v : Nat) : Int); ((decide (z6 < z7)) = true → (∃ (x1 : Shp), s[q1.v]? = some x1) ∧ ∀ (x1 : Shp), (s[q1.v]? = some x1) → (let z3 := ((List.length x1.fields : Nat) : Int); let z4 := schemaOk_i_F1 s q1 x1; let z5 : List Blk := [.cells [.seq .shp s], .cells (cShp x1)]; (s[q1.v]? = some x1) ∧ ((0 : Int) ≤ z6) ∧ ((decide (x1.id ≤ q1.id)) = true → z9 = .v z8 ∧ z10 = []) ∧ ((decide (x1.id ≤ q1.id)) = false → ((decide (99 < x1.id)) = true → z9 = .v z8 ∧ z10 = []) ∧ ((decide (99 < x1.id)) = false → ((decide (8 < z3)) = true → z9 = .v z8 ∧ z10 = []) ∧ ((decide (8 < z3)) = false → z4.Has [(1, .v (vP 0)), (5, .v (vP 1)), (6, .v (vI 0)), (14, .v (.c (.seq .shp s))), (15, .v (vI z7)), (16, .v (vI z6)), (36, .v (.c (.seq .fld x1.fields))), (37, .v (vI z3)), (38, .v (vI 0))] z5 ∧ ∀ q2, z4.inv q2 → (let z2 := ((q2.v : Nat) : Int); ((decide (z2 < z3)) = true → (∃ (x2 : Fld), x1.fields[q2.v]? = some x2) ∧ ∀ (x2 : Fld), (x1.fields[q2.v]? = some x2) → (let z1 := decide (q2.number < (x2).number) && fldOk x2 z7; (x1.fields[q2.v]? = some x2) ∧ ((0 : Int) ≤ z2) ∧ (Fun Tryz.prog 59 [.agg (cFld x2), vI q2.number, vI z7] [] (.v (vB z1)) []) ∧ ((!z1) = true → z9 = .v z8 ∧ z10 = []) ∧ ((!z1) = false → ((.v (vI (IntKind.i64.wrap (z2 + 1))) : S) = .v (vI (z2 + 1))) ∧ z4.Nxt q2 [(1, .v (vP 0)), (5, .v (vP 1)), (6, .v (vI x2.number)), (14, .v (.c (.seq .shp s))), (15, .v (vI z7)), (16, .v (vI z6)), (36, .v (.c (.seq .fld x1.fields))), (37, .v (vI z3)), (38, .v (vI (z2 + 1)))] z5))) ∧ ((decide (z2 < z3)) = false → ((.v (vI (IntKind.i64.wrap (z6 + 1))) : S) = .v (vI (z6 + 1))) ∧ z11.Nxt q1 [(1, .v (vP 0)), (3, .v (vI x1.id)), (14, .v (.c (.seq .shp s))), (15, .v (vI z7)), (16, .v (vI (z6 + 1)))] [.cells [.seq .shp s]]))))))) ∧ ((decide (z6 < z7)) = false → (.v (vB true) : S) = .v z8 ∧ z10 = []))))) (by kernel_rfl) ?_
 refine dsp (fun h1 p1 => ?_) fun h1 p1 => ?_
 refine ⟨(sB ?_), rfl⟩
 rotate_left
 refine ⟨has_of (j := (⟨0, 0⟩ : schemaOk_i_V0)) (by first | rfl | simp) rfl (by dsimp only [schemaOk_i_F0]; exact ⟨by omega, rfl⟩), fun (q1 : schemaOk_i_V0) hq_q1 => ?_⟩
 have hi_q1 : q1.v ≤ List.length s ∧ shapesOk ((List.length s : Nat) : Int) q1.id (List.drop q1.v s) = shapesOk ((List.length s : Nat) : Int) 0 s := hq_q1
 obtain ⟨v1, v2⟩ := hi_q1
 refine dsp (fun h2 p2 => ?_) fun h2 p2 => ?_
 refine ⟨(ax_get (l := s) (i := q1.v) (by omega)), fun x1 hx1 => ?_⟩
 rw [drop_el hx1, shapesOk] at v2
 refine ⟨hx1, (by omega), dsp (fun h3 p3 => ?_) fun h3 p3 => ?_⟩
 refine ⟨(sB ?_), rfl⟩
 rotate_left
 refine dsp (fun h4 p4 => ?_) fun h4 p4 => ?_
 refine ⟨(sB ?_), rfl⟩
 rotate_left
 refine dsp (fun h5 p5 => ?_) fun h5 p5 => ?_
 refine ⟨(sB ?_), rfl⟩
 rotate_left
 refine ⟨has_of (j := (⟨0, 0⟩ : schemaOk_i_V1)) (by first | rfl | simp) rfl (by dsimp only [schemaOk_i_F1]; exact ⟨by omega, rfl⟩), fun (q2 : schemaOk_i_V1) hq_q2 => ?_⟩
 have hi_q2 : q2.v ≤ List.length x1.fields ∧ fieldsOk ((List.length s : Nat) : Int) q2.number (List.drop q2.v x1.fields) = fieldsOk ((List.length s : Nat) : Int) 0 x1.fields := hq_q2
 obtain ⟨w1, w2⟩ := hi_q2
 refine dsp (fun h6 p6 => ?_) fun h6 p6 => ?_
 refine ⟨(ax_get (l := x1.fields) (i := q2.v) (by omega)), fun x2 hx2 => ?_⟩
 rw [drop_el hx2, fieldsOk] at w2
 refine ⟨hx2, (by omega), (fldOk_i x2 _ _ (by omega)), fun h7 => have q7 := bnot_t h7; have p7 := (andF dT Iff.rfl).1 q7; ?_, fun h7 => have q7 := bnot_f h7; have p7 := (andT dT Iff.rfl).1 q7; ?_⟩
 refine ⟨(sB ?_), rfl⟩
 rotate_left
 exact ⟨(as_i64 (by omega) (by omega)), nxt_of (j := (⟨x2.number, q2.v + 1⟩ : schemaOk_i_V1)) (by first | rfl | simp) rfl (by dsimp only [schemaOk_i_F1]; exact ⟨by omega, by grind [fieldsOk]⟩) (by dsimp only [schemaOk_i_F1]; omega)⟩
 rw [drop_end p6] at w2
 exact ⟨(as_i64 (by omega) (by omega)), nxt_of (j := (⟨x1.id, q1.v + 1⟩ : schemaOk_i_V0)) (by first | rfl | simp) rfl (by dsimp only [schemaOk_i_F0]; exact ⟨by omega, by grind [shapesOk, fieldsOk]⟩) (by dsimp only [schemaOk_i_F0]; omega)⟩
 rw [drop_end p2] at v2
 refine ⟨(sB ?_), rfl⟩
 rotate_left
 all_goals grind [schemaOk, shapesOk, fieldsOk]
structure schemaOk_s_V0 where
 i : Nat
 pv : Int
def schemaOk_s_F0 (s : List Shp) : Fam := ⟨schemaOk_s_V0, fun q1 => [(1, .v (vP 0)), (3, .v (vI ((q1.i : Nat) : Int)))], fun _ => [.cells [.seq .shp s]], fun q1 => q1.i ≤ List.length s ∧ (0 : Int) ≤ q1.pv ∧ (q1.i = 0 → q1.pv = 0) ∧ (∀ y, 0 < q1.i → s[Int.toNat (((q1.i : Nat) : Int) - 1)]? = some y → q1.pv = y.id) ∧ shapesOk ((List.length s : Nat) : Int) q1.pv (List.drop q1.i s) = shapesOk ((List.length s : Nat) : Int) 0 s, fun q1 => List.length s - q1.i⟩
structure schemaOk_s_V1 where
 k : Nat
 pv : Int
def schemaOk_s_F1 (s : List Shp) (q1 : schemaOk_s_V0) (x1 : Shp) : Fam := ⟨schemaOk_s_V1, fun q2 => [(1, .v (vP 0)), (3, .v (vI ((q1.i : Nat) : Int))), (4, .v (vP 1)), (5, .v (vI ((q2.k : Nat) : Int)))], fun _ => [.cells [.seq .shp s], .cells (cShp x1)], fun q2 => q2.k ≤ List.length x1.fields ∧ (0 : Int) ≤ q2.pv ∧ (q2.k = 0 → q2.pv = 0) ∧ (∀ y, 0 < q2.k → x1.fields[Int.toNat (((q2.k : Nat) : Int) - 1)]? = some y → q2.pv = y.number) ∧ fieldsOk ((List.length s : Nat) : Int) q2.pv (List.drop q2.k x1.fields) = fieldsOk ((List.length s : Nat) : Int) 0 x1.fields, fun q2 => List.length x1.fields - q2.k⟩
theorem schemaOk_s (s : List Shp) : Fun Tryz.prog 58 [.agg [.seq .shp s]] [] (.v (vB (schemaOk s))) [] := by
 have hN : bigN = 274877906944 := rfl
 refine fun_ofw Tryz.func58 (by kernel_rfl) (by kernel_rfl) (w := let z25 := ((List.length s : Nat) : Int); let z26 := (.v (vB false) : S); let z27 := vB (schemaOk s); let z28 := ([] : List Blk); let z29 := schemaOk_s_F0 s; let z30 := os 28 [6]; let z31 : List Blk := [.cells [.seq .shp s]]; (.br (.leaf () []) (.seg [.at 0, .keep [1, 3], .sel [0]] (.loop z29 fun q1 => let z23 := ((q1.i : Nat) : Int); .br (.intro (fun (x1 : Shp) => s[q1.i]? = some x1) fun x1 => let z17 := within x1.id 1 99; .seg [.el .shp x1] (.case (!z17) (.seg [.ord (os 26 [2]) [], .call [] (.v (vB z17)) [], .br true] (.leaf () [])) (.case (decide (0 < z23)) (.intro (fun (x2 : Shp) => s[Int.toNat (z23 - 1)]? = some x2) fun x2 => .case (decide (x1.id ≤ x2.id)) (.seg [.ord (os 26 [2]) [], .call [] (.v (vB z17)) [], .br false, .br true, .as 33 (.v (vI (z23 - 1))), .el .shp x2, .br true] (.leaf () [])) (.seg [.ord (os 26 [2]) [], .call [] (.v (vB z17)) [], .br false, .br true, .as 33 (.v (vI (z23 - 1))), .el .shp x2, .br false] (.br (.leaf () []) (.seg [.at 0, .keep [1, 3, 4, 5], .sel [0, 1]] (.loop (schemaOk_s_F1 s q1 x1) fun q2 => let z6 := ((q2.k : Nat) : Int); .br (.intro (fun (x3 : Fld) => x1.fields[q2.k]? = some x3) fun x3 => let z3 := fldOk x3 z25; .case (!z3) (.seg [.ord z30 [], .el .fld x3, .call [] (.v (vB z3)) [], .br true] (.leaf () [])) (.case (decide (0 < z6)) (.intro (fun (x4 : Fld) => x1.fields[Int.toNat (z6 - 1)]? = some x4) fun x4 => .seg [.ord z30 [], .el .fld x3, .call [] (.v (vB z3)) [], .br false, .br true, .as 70 (.v (vI (z6 - 1))), .el .fld x4, .el .fld x3] (.br (.leaf () []) (.seg [.as 54 (.v (vI (z6 + 1))), .at 0, .keep [1, 3, 4, 5], .sel [0, 1]] (.next)))) (.seg [.ord z30 [], .el .fld x3, .call [] (.v (vB z3)) [], .br false, .br false, .as 54 (.v (vI (z6 + 1))), .at 0, .keep [1, 3, 4, 5], .sel [0, 1]] (.next)))) (.seg [.as 16 (.v (vI (z23 + 1))), .at 0, .keep [1, 3], .sel [0]] (.next))))))) (.seg [.ord (os 26 [2]) [], .call [] (.v (vB z17)) [], .br false, .br false] (.br (.leaf () []) (.seg [.at 0, .keep [1, 3, 4, 5], .sel [0, 1]] (.loop (schemaOk_s_F1 s q1 x1) fun q2 => let z15 := ((q2.k : Nat) : Int); .br (.intro (fun (x2 : Fld) => x1.fields[q2.k]? = some x2) fun x2 => let z12 := fldOk x2 z25; .case (!z12) (.seg [.ord z30 [], .el .fld x2, .call [] (.v (vB z12)) [], .br true] (.leaf () [])) (.case (decide (0 < z15)) (.intro (fun (x3 : Fld) => x1.fields[Int.toNat (z15 - 1)]? = some x3) fun x3 => .seg [.ord z30 [], .el .fld x2, .call [] (.v (vB z12)) [], .br false, .br true, .as 70 (.v (vI (z15 - 1))), .el .fld x3, .el .fld x2] (.br (.leaf () []) (.seg [.as 54 (.v (vI (z15 + 1))), .at 0, .keep [1, 3, 4, 5], .sel [0, 1]] (.next)))) (.seg [.ord z30 [], .el .fld x2, .call [] (.v (vB z12)) [], .br false, .br false, .as 54 (.v (vI (z15 + 1))), .at 0, .keep [1, 3, 4, 5], .sel [0, 1]] (.next)))) (.seg [.as 16 (.v (vI (z23 + 1))), .at 0, .keep [1, 3], .sel [0]] (.next))))))))) (.leaf () []))), ((decide (6 < z25)) = true → z26 = .v z27 ∧ z28 = []) ∧ ((decide (6 < z25)) = false → z29.Has [(1, .v (vP 0)), (3, .v (vI 0))] z31 ∧ ∀ q1, z29.inv q1 → (let z24 := ((q1.i : Nat) : Int); ((decide (z24 < z25)) = true → (∃ (x1 : Shp), s[q1.i]? = some x1) ∧ ∀ (x1 : Shp), (s[q1.i]? = some x1) → (let z18 := ((List.length x1.fields : Nat) : Int); let z19 : List Blk := [.cells [.seq .shp s], .cells (cShp x1)]; let z20 := within x1.id 1 99; let z21 := schemaOk_s_F1 s q1 x1; let z22 : List V := [vI x1.id, vI 1, vI 99]; (s[q1.i]? = some x1) ∧ ((0 : Int) ≤ z24) ∧ ((!z20) = true → (Fun Tryz.prog 57 z22 [] (.v (vB z20)) []) ∧ ((!z20) = true) ∧ z26 = .v z27 ∧ z28 = []) ∧ ((!z20) = false → ((decide (0 < z24)) = true → (∃ (x2 : Shp), s[Int.toNat (z24 - 1)]? = some x2) ∧ ∀ (x2 : Shp), (s[Int.toNat (z24 - 1)]? = some x2) → (let z8 := s[Int.toNat (z24 - 1)]? = some x2; let z9 := decide (x1.id ≤ x2.id); (z9 = true → (Fun Tryz.prog 57 z22 [] (.v (vB z20)) []) ∧ ((!z20) = false) ∧ ((decide (0 < z24)) = true) ∧ ((.v (vI (IntKind.i64.wrap (z24 - 1))) : S) = .v (vI (z24 - 1))) ∧ ((.v (vI (IntKind.i64.wrap (z24 - 1))) : S) = .v (vI (z24 - 1))) ∧ z8 ∧ ((0 : Int) ≤ z24 - 1) ∧ z8 ∧ ((0 : Int) ≤ z24 - 1) ∧ (z9 = true) ∧ z26 = .v z27 ∧ z28 = []) ∧ (z9 = false → (Fun Tryz.prog 57 z22 [] (.v (vB z20)) []) ∧ ((!z20) = false) ∧ ((decide (0 < z24)) = true) ∧ ((.v (vI (IntKind.i64.wrap (z24 - 1))) : S) = .v (vI (z24 - 1))) ∧ ((.v (vI (IntKind.i64.wrap (z24 - 1))) : S) = .v (vI (z24 - 1))) ∧ z8 ∧ ((0 : Int) ≤ z24 - 1) ∧ z8 ∧ ((0 : Int) ≤ z24 - 1) ∧ (z9 = false) ∧ ((decide (8 < z18)) = true → z26 = .v z27 ∧ z28 = []) ∧ ((decide (8 < z18)) = false → z21.Has [(1, .v (vP 0)), (3, .v (vI z24)), (4, .v (vP 1)), (5, .v (vI 0))] z19 ∧ ∀ q2, z21.inv q2 → (let z7 := ((q2.k : Nat) : Int); ((decide (z7 < z18)) = true → (∃ (x3 : Fld), x1.fields[q2.k]? = some x3) ∧ ∀ (x3 : Fld), (x1.fields[q2.k]? = some x3) → (let z4 := fldOk x3 z25; let z5 := x1.fields[q2.k]? = some x3; ((!z4) = true → z5 ∧ ((0 : Int) ≤ z7) ∧ z5 ∧ ((0 : Int) ≤ z7) ∧ (Fun Tryz.prog 82 [.agg [.seq .shp s], .agg (cFld x3)] [] (.v (vB z4)) []) ∧ ((!z4) = true) ∧ z26 = .v z27 ∧ z28 = []) ∧ ((!z4) = false → ((decide (0 < z7)) = true → (∃ (x4 : Fld), x1.fields[Int.toNat (z7 - 1)]? = some x4) ∧ ∀ (x4 : Fld), (x1.fields[Int.toNat (z7 - 1)]? = some x4) → (let z1 := x1.fields[Int.toNat (z7 - 1)]? = some x4; let z2 := decide (x3.number ≤ x4.number); z5 ∧ ((0 : Int) ≤ z7) ∧ z5 ∧ ((0 : Int) ≤ z7) ∧ (Fun Tryz.prog 82 [.agg [.seq .shp s], .agg (cFld x3)] [] (.v (vB z4)) []) ∧ ((!z4) = false) ∧ ((decide (0 < z7)) = true) ∧ ((.v (vI (IntKind.i64.wrap (z7 - 1))) : S) = .v (vI (z7 - 1))) ∧ ((.v (vI (IntKind.i64.wrap (z7 - 1))) : S) = .v (vI (z7 - 1))) ∧ z1 ∧ ((0 : Int) ≤ z7 - 1) ∧ z1 ∧ ((0 : Int) ≤ z7 - 1) ∧ z5 ∧ ((0 : Int) ≤ z7) ∧ z5 ∧ ((0 : Int) ≤ z7) ∧ (z2 = true → z26 = .v z27 ∧ z28 = []) ∧ (z2 = false → ((.v (vI (IntKind.i64.wrap (z7 + 1))) : S) = .v (vI (z7 + 1))) ∧ z21.Nxt q2 [(1, .v (vP 0)), (3, .v (vI z24)), (4, .v (vP 1)), (5, .v (vI (z7 + 1)))] z19))) ∧ ((decide (0 < z7)) = false → z5 ∧ ((0 : Int) ≤ z7) ∧ z5 ∧ ((0 : Int) ≤ z7) ∧ (Fun Tryz.prog 82 [.agg [.seq .shp s], .agg (cFld x3)] [] (.v (vB z4)) []) ∧ ((!z4) = false) ∧ ((decide (0 < z7)) = false) ∧ ((.v (vI (IntKind.i64.wrap (z7 + 1))) : S) = .v (vI (z7 + 1))) ∧ z21.Nxt q2 [(1, .v (vP 0)), (3, .v (vI z24)), (4, .v (vP 1)), (5, .v (vI (z7 + 1)))] z19)))) ∧ ((decide (z7 < z18)) = false → ((.v (vI (IntKind.i64.wrap (z24 + 1))) : S) = .v (vI (z24 + 1))) ∧ z29.Nxt q1 [(1, .v (vP 0)), (3, .v (vI (z24 + 1)))] z31)))))) ∧ ((decide (0 < z24)) = false → (Fun Tryz.prog 57 z22 [] (.v (vB z20)) []) ∧ ((!z20) = false) ∧ ((decide (0 < z24)) = false) ∧ ((decide (8 < z18)) = true → z26 = .v z27 ∧ z28 = []) ∧ ((decide (8 < z18)) = false → z21.Has [(1, .v (vP 0)), (3, .v (vI z24)), (4, .v (vP 1)), (5, .v (vI 0))] z19 ∧ ∀ q2, z21.inv q2 → (let z16 := ((q2.k : Nat) : Int); ((decide (z16 < z18)) = true → (∃ (x2 : Fld), x1.fields[q2.k]? = some x2) ∧ ∀ (x2 : Fld), (x1.fields[q2.k]? = some x2) → (let z13 := fldOk x2 z25; let z14 := x1.fields[q2.k]? = some x2; ((!z13) = true → z14 ∧ ((0 : Int) ≤ z16) ∧ z14 ∧ ((0 : Int) ≤ z16) ∧ (Fun Tryz.prog 82 [.agg [.seq .shp s], .agg (cFld x2)] [] (.v (vB z13)) []) ∧ ((!z13) = true) ∧ z26 = .v z27 ∧ z28 = []) ∧ ((!z13) = false → ((decide (0 < z16)) = true → (∃ (x3 : Fld), x1.fields[Int.toNat (z16 - 1)]? = some x3) ∧ ∀ (x3 : Fld), (x1.fields[Int.toNat (z16 - 1)]? = some x3) → (let z10 := x1.fields[Int.toNat (z16 - 1)]? = some x3; let z11 := decide (x2.number ≤ x3.number); z14 ∧ ((0 : Int) ≤ z16) ∧ z14 ∧ ((0 : Int) ≤ z16) ∧ (Fun Tryz.prog 82 [.agg [.seq .shp s], .agg (cFld x2)] [] (.v (vB z13)) []) ∧ ((!z13) = false) ∧ ((decide (0 < z16)) = true) ∧ ((.v (vI (IntKind.i64.wrap (z16 - 1))) : S) = .v (vI (z16 - 1))) ∧ ((.v (vI (IntKind.i64.wrap (z16 - 1))) : S) = .v (vI (z16 - 1))) ∧ z10 ∧ ((0 : Int) ≤ z16 - 1) ∧ z10 ∧ ((0 : Int) ≤ z16 - 1) ∧ z14 ∧ ((0 : Int) ≤ z16) ∧ z14 ∧ ((0 : Int) ≤ z16) ∧ (z11 = true → z26 = .v z27 ∧ z28 = []) ∧ (z11 = false → ((.v (vI (IntKind.i64.wrap (z16 + 1))) : S) = .v (vI (z16 + 1))) ∧ z21.Nxt q2 [(1, .v (vP 0)), (3, .v (vI z24)), (4, .v (vP 1)), (5, .v (vI (z16 + 1)))] z19))) ∧ ((decide (0 < z16)) = false → z14 ∧ ((0 : Int) ≤ z16) ∧ z14 ∧ ((0 : Int) ≤ z16) ∧ (Fun Tryz.prog 82 [.agg [.seq .shp s], .agg (cFld x2)] [] (.v (vB z13)) []) ∧ ((!z13) = false) ∧ ((decide (0 < z16)) = false) ∧ ((.v (vI (IntKind.i64.wrap (z16 + 1))) : S) = .v (vI (z16 + 1))) ∧ z21.Nxt q2 [(1, .v (vP 0)), (3, .v (vI z24)), (4, .v (vP 1)), (5, .v (vI (z16 + 1)))] z19)))) ∧ ((decide (z16 < z18)) = false → ((.v (vI (IntKind.i64.wrap (z24 + 1))) : S) = .v (vI (z24 + 1))) ∧ z29.Nxt q1 [(1, .v (vP 0)), (3, .v (vI (z24 + 1)))] z31))))))) ∧ ((decide (z24 < z25)) = false → (.v (vB true) : S) = .v z27 ∧ z28 = []))))) (by kernel_rfl) ?_
 refine dsp (fun h1 p1 => ?_) fun h1 p1 => ?_
 exact ⟨(congrArg S.v (congrArg V.c (congrArg C.bool (by unfold schemaOk; grind)))), rfl⟩
 refine ⟨has_of (j := (⟨0, 0⟩ : schemaOk_s_V0)) (by first | rfl | simp) rfl (by dsimp only [schemaOk_s_F0]; exact ⟨by omega, by omega, by omega, by omega, rfl⟩), fun (q1 : schemaOk_s_V0) hq_q1 => ?_⟩
 have hi_q1 : q1.i ≤ List.length s ∧ (0 : Int) ≤ q1.pv ∧ (q1.i = 0 → q1.pv = 0) ∧ (∀ y, 0 < q1.i → s[Int.toNat (((q1.i : Nat) : Int) - 1)]? = some y → q1.pv = y.id) ∧ shapesOk ((List.length s : Nat) : Int) q1.pv (List.drop q1.i s) = shapesOk ((List.length s : Nat) : Int) 0 s := hq_q1
 obtain ⟨v1, v2, v3, v4, v5⟩ := hi_q1
 refine dsp (fun h2 p2 => ?_) fun h2 p2 => ?_
 refine ⟨(ax_get (l := s) (i := q1.i) (by omega)), fun x1 hx1 => ?_⟩
 rw [drop_el hx1, shapesOk] at v5
 refine ⟨hx1, (by omega), fun h3 => have q3 := bnot_t h3; have p3 := within_f q3; ?_, fun h3 => have q3 := bnot_f h3; have p3 := within_t q3; ?_⟩
 exact ⟨(within_s _ _ _), h3, (congrArg S.v (congrArg V.c (congrArg C.bool (by unfold schemaOk; grind)))), rfl⟩
 refine dsp (fun h4 p4 => ?_) fun h4 p4 => ?_
 refine ⟨(ax_get (l := s) (i := Int.toNat (((q1.i : Nat) : Int) - 1)) (by omega)), fun x2 hx2 => ?_⟩
 have hy := v4 _ (by omega) hx2
 refine dsp (fun h5 p5 => ?_) fun h5 p5 => ?_
 exact ⟨(within_s _ _ _), h3, h4, (as_i64 (by omega) (by omega)), (as_i64 (by omega) (by omega)), hx2, (by omega), hx2, (by omega), h5, (congrArg S.v (congrArg V.c (congrArg C.bool (by unfold schemaOk; grind)))), rfl⟩
 refine ⟨(within_s _ _ _), h3, h4, (as_i64 (by omega) (by omega)), (as_i64 (by omega) (by omega)), hx2, (by omega), hx2, (by omega), h5, dsp (fun h6 p6 => ?_) fun h6 p6 => ?_⟩
 exact ⟨(congrArg S.v (congrArg V.c (congrArg C.bool (by unfold schemaOk; grind)))), rfl⟩
 refine ⟨has_of (j := (⟨0, 0⟩ : schemaOk_s_V1)) (by first | rfl | simp) rfl (by dsimp only [schemaOk_s_F1]; exact ⟨by omega, by omega, by omega, by omega, rfl⟩), fun (q2 : schemaOk_s_V1) hq_q2 => ?_⟩
 have hi_q2 : q2.k ≤ List.length x1.fields ∧ (0 : Int) ≤ q2.pv ∧ (q2.k = 0 → q2.pv = 0) ∧ (∀ y, 0 < q2.k → x1.fields[Int.toNat (((q2.k : Nat) : Int) - 1)]? = some y → q2.pv = y.number) ∧ fieldsOk ((List.length s : Nat) : Int) q2.pv (List.drop q2.k x1.fields) = fieldsOk ((List.length s : Nat) : Int) 0 x1.fields := hq_q2
 obtain ⟨w1, w2, w3, w4, w5⟩ := hi_q2
 refine dsp (fun h7 p7 => ?_) fun h7 p7 => ?_
 refine ⟨(ax_get (l := x1.fields) (i := q2.k) (by omega)), fun x3 hx3 => ?_⟩
 rw [drop_el hx3, fieldsOk] at w5
 refine ⟨fun h8 => have q8 := bnot_t h8; ?_, fun h8 => have q8 := bnot_f h8; have p8 := fldOk_t q8; ?_⟩
 exact ⟨hx3, (by omega), hx3, (by omega), (fldOk_s s x3 (by omega)), h8, (congrArg S.v (congrArg V.c (congrArg C.bool (by unfold schemaOk; grind)))), rfl⟩
 refine dsp (fun h9 p9 => ?_) fun h9 p9 => ?_
 refine ⟨(ax_get (l := x1.fields) (i := Int.toNat (((q2.k : Nat) : Int) - 1)) (by omega)), fun x4 hx4 => ?_⟩
 have hz := w4 _ (by omega) hx4
 refine ⟨hx3, (by omega), hx3, (by omega), (fldOk_s s x3 (by omega)), h8, h9, (as_i64 (by omega) (by omega)), (as_i64 (by omega) (by omega)), hx4, (by omega), hx4, (by omega), hx3, (by omega), hx3, (by omega), dsp (fun h10 p10 => ?_) fun h10 p10 => ?_⟩
 exact ⟨(congrArg S.v (congrArg V.c (congrArg C.bool (by unfold schemaOk; grind)))), rfl⟩
 exact ⟨(as_i64 (by omega) (by omega)), nxt_of (j := (⟨q2.k + 1, x3.number⟩ : schemaOk_s_V1)) (by first | rfl | simp) rfl (by dsimp only [schemaOk_s_F1]; exact ⟨by omega, by grind, by omega, by intro y h1 h2; rw [show Int.toNat ((((q2.k + 1) : Nat) : Int) - 1) = q2.k by omega] at h2; grind, by rw [← w5, decide_eq_true (show q2.pv < x3.number by omega), bnot_f (by assumption : (!fldOk x3 _) = false)]; simp⟩) (by dsimp only [schemaOk_s_F1]; omega)⟩
 exact ⟨hx3, (by omega), hx3, (by omega), (fldOk_s s x3 (by omega)), h8, h9, (as_i64 (by omega) (by omega)), nxt_of (j := (⟨q2.k + 1, x3.number⟩ : schemaOk_s_V1)) (by first | rfl | simp) rfl (by dsimp only [schemaOk_s_F1]; exact ⟨by omega, by grind, by omega, by intro y h1 h2; rw [show Int.toNat ((((q2.k + 1) : Nat) : Int) - 1) = q2.k by omega] at h2; grind, by rw [← w5, decide_eq_true (show q2.pv < x3.number by omega), bnot_f (by assumption : (!fldOk x3 _) = false)]; simp⟩) (by dsimp only [schemaOk_s_F1]; omega)⟩
 rw [drop_end p7, fieldsOk] at w5
 exact ⟨(as_i64 (by omega) (by omega)), nxt_of (j := (⟨q1.i + 1, x1.id⟩ : schemaOk_s_V0)) (by first | rfl | simp) rfl (by dsimp only [schemaOk_s_F0]; exact ⟨by omega, by grind, by omega, by intro y h1 h2; rw [show Int.toNat ((((q1.i + 1) : Nat) : Int) - 1) = q1.i by omega] at h2; grind, by rw [← v5, decide_eq_true (show q1.pv < x1.id by omega), decide_eq_true (show x1.id ≤ 99 by omega), decide_eq_true (show (List.length x1.fields : Int) ≤ 8 by omega), ← w5]; simp⟩) (by dsimp only [schemaOk_s_F0]; omega)⟩
 refine ⟨(within_s _ _ _), h3, h4, dsp (fun h5 p5 => ?_) fun h5 p5 => ?_⟩
 exact ⟨(congrArg S.v (congrArg V.c (congrArg C.bool (by unfold schemaOk; grind)))), rfl⟩
 refine ⟨has_of (j := (⟨0, 0⟩ : schemaOk_s_V1)) (by first | rfl | simp) rfl (by dsimp only [schemaOk_s_F1]; exact ⟨by omega, by omega, by omega, by omega, rfl⟩), fun (q2 : schemaOk_s_V1) hq_q2 => ?_⟩
 have hi_q2 : q2.k ≤ List.length x1.fields ∧ (0 : Int) ≤ q2.pv ∧ (q2.k = 0 → q2.pv = 0) ∧ (∀ y, 0 < q2.k → x1.fields[Int.toNat (((q2.k : Nat) : Int) - 1)]? = some y → q2.pv = y.number) ∧ fieldsOk ((List.length s : Nat) : Int) q2.pv (List.drop q2.k x1.fields) = fieldsOk ((List.length s : Nat) : Int) 0 x1.fields := hq_q2
 obtain ⟨w1, w2, w3, w4, w5⟩ := hi_q2
 refine dsp (fun h6 p6 => ?_) fun h6 p6 => ?_
 refine ⟨(ax_get (l := x1.fields) (i := q2.k) (by omega)), fun x2 hx2 => ?_⟩
 rw [drop_el hx2, fieldsOk] at w5
 refine ⟨fun h7 => have q7 := bnot_t h7; ?_, fun h7 => have q7 := bnot_f h7; have p7 := fldOk_t q7; ?_⟩
 exact ⟨hx2, (by omega), hx2, (by omega), (fldOk_s s x2 (by omega)), h7, (congrArg S.v (congrArg V.c (congrArg C.bool (by unfold schemaOk; grind)))), rfl⟩
 refine dsp (fun h8 p8 => ?_) fun h8 p8 => ?_
 refine ⟨(ax_get (l := x1.fields) (i := Int.toNat (((q2.k : Nat) : Int) - 1)) (by omega)), fun x3 hx3 => ?_⟩
 have hz := w4 _ (by omega) hx3
 refine ⟨hx2, (by omega), hx2, (by omega), (fldOk_s s x2 (by omega)), h7, h8, (as_i64 (by omega) (by omega)), (as_i64 (by omega) (by omega)), hx3, (by omega), hx3, (by omega), hx2, (by omega), hx2, (by omega), dsp (fun h9 p9 => ?_) fun h9 p9 => ?_⟩
 exact ⟨(congrArg S.v (congrArg V.c (congrArg C.bool (by unfold schemaOk; grind)))), rfl⟩
 exact ⟨(as_i64 (by omega) (by omega)), nxt_of (j := (⟨q2.k + 1, x2.number⟩ : schemaOk_s_V1)) (by first | rfl | simp) rfl (by dsimp only [schemaOk_s_F1]; exact ⟨by omega, by grind, by omega, by intro y h1 h2; rw [show Int.toNat ((((q2.k + 1) : Nat) : Int) - 1) = q2.k by omega] at h2; grind, by rw [← w5, decide_eq_true (show q2.pv < x2.number by omega), bnot_f (by assumption : (!fldOk x2 _) = false)]; simp⟩) (by dsimp only [schemaOk_s_F1]; omega)⟩
 exact ⟨hx2, (by omega), hx2, (by omega), (fldOk_s s x2 (by omega)), h7, h8, (as_i64 (by omega) (by omega)), nxt_of (j := (⟨q2.k + 1, x2.number⟩ : schemaOk_s_V1)) (by first | rfl | simp) rfl (by dsimp only [schemaOk_s_F1]; exact ⟨by omega, by grind, by omega, by intro y h1 h2; rw [show Int.toNat ((((q2.k + 1) : Nat) : Int) - 1) = q2.k by omega] at h2; grind, by rw [← w5, decide_eq_true (show q2.pv < x2.number by omega), bnot_f (by assumption : (!fldOk x2 _) = false)]; simp⟩) (by dsimp only [schemaOk_s_F1]; omega)⟩
 rw [drop_end p6, fieldsOk] at w5
 exact ⟨(as_i64 (by omega) (by omega)), nxt_of (j := (⟨q1.i + 1, x1.id⟩ : schemaOk_s_V0)) (by first | rfl | simp) rfl (by dsimp only [schemaOk_s_F0]; exact ⟨by omega, by grind, by omega, by intro y h1 h2; rw [show Int.toNat ((((q1.i + 1) : Nat) : Int) - 1) = q1.i by omega] at h2; grind, by rw [← v5, decide_eq_true (show q1.pv < x1.id by omega), decide_eq_true (show x1.id ≤ 99 by omega), decide_eq_true (show (List.length x1.fields : Int) ≤ 8 by omega), ← w5]; simp⟩) (by dsimp only [schemaOk_s_F0]; omega)⟩
 rw [drop_end p2, shapesOk] at v5
 exact ⟨(congrArg S.v (congrArg V.c (congrArg C.bool (by unfold schemaOk; grind)))), rfl⟩
structure fieldAt_i_V0 where
 v : Nat
def fieldAt_i_F0 (n : Int) (x1 : Shp) : Fam := ⟨fieldAt_i_V0, fun q1 => [(2, .v (vI n)), (6, .v (vP 0)), (23, .v (.c (.seq .fld x1.fields))), (24, .v (vI ((List.length x1.fields : Nat) : Int))), (25, .v (vI ((q1.v : Nat) : Int)))], fun _ => [.cells [.int .i64 0, .int .i64 0, .bool false, .bool false, .int .i64 0]], fun q1 => q1.v ≤ List.length x1.fields ∧ fieldIn (List.drop q1.v x1.fields) n = fieldIn x1.fields n, fun q1 => List.length x1.fields - q1.v⟩
theorem fieldAt_i (s : List Shp) (sh : Int) (n : Int) (hp1 : List.length s ≤ 1000) (hp2 : ∀ x ∈ s, List.length x.fields ≤ 1000) : Fun Tryz.prog 64 [.agg [.seq .shp s], vI sh, vI n] [] (.tup [.agg (cFld ((fieldAt s sh n).getD fld0)), vB (fieldAt s sh n).isSome]) [] := by
 have hN : bigN = 274877906944 := rfl
 refine fun_ofw Tryz.func64 (by kernel_rfl) (by kernel_rfl) (w := let z4 : List C := [.int .i64 0, .int .i64 0, .bool false, .bool false, .int .i64 0]; let z5 := ((List.length s : Nat) : Int) - 1; let z6 := fieldAt s sh n; let z7 := within sh 0 z5; let z8 := cFld (z6.getD fld0); (.seg [.as 14 (.v (vI z5)), .call [] (.v (vB z7)) []] (.br (.leaf () []) (.intro (fun (x1 : Shp) => s[Int.toNat sh]? = some x1) fun x1 => .seg [.el .shp x1, .at 0, .keep [2, 6, 23, 24, 25], .sel [1]] (.loop (fieldAt_i_F0 n x1) fun q1 => .br (.intro (fun (x2 : Fld) => x1.fields[q1.v]? = some x2) fun x2 => .seg [.el .fld x2] (.br (.leaf () []) (.seg [.as 34 (.v (vI (((q1.v : Nat) : Int) + 1))), .at 0, .keep [2, 6, 23, 24, 25], .sel [0]] (.next)))) (.leaf () [])))), ((.v (vI (IntKind.i64.wrap z5)) : S) = .v (vI z5)) ∧ (Fun Tryz.prog 35 [vI sh, vI 0, vI z5] [] (.v (vB z7)) []) ∧ ((!z7) = true → (.tup [.agg z4, vB false] : S) = .tup [.agg z8, vB z6.isSome] ∧ ([] : List Blk) = []) ∧ ((!z7) = false → (∃ (x1 : Shp), s[Int.toNat sh]? = some x1) ∧ ∀ (x1 : Shp), (s[Int.toNat sh]? = some x1) → (let z2 := ((List.length x1.fields : Nat) : Int); let z3 := fieldAt_i_F0 n x1; (s[Int.toNat sh]? = some x1) ∧ ((0 : Int) ≤ sh) ∧ z3.Has [(2, .v (vI n)), (6, .v (vP 0)), (23, .v (.c (.seq .fld x1.fields))), (24, .v (vI z2)), (25, .v (vI 0))] [.cells z4] ∧ ∀ q1, z3.inv q1 → (let z1 := ((q1.v : Nat) : Int); ((decide (z1 < z2)) = true → (∃ (x2 : Fld), x1.fields[q1.v]? = some x2) ∧ ∀ (x2 : Fld), (x1.fields[q1.v]? = some x2) → ((x1.fields[q1.v]? = some x2) ∧ ((0 : Int) ≤ z1) ∧ ((decide (x2.number = n)) = true → (.tup [.agg (cFld x2), vB true] : S) = .tup [.agg z8, vB z6.isSome] ∧ ([] : List Blk) = []) ∧ ((decide (x2.number = n)) = false → ((.v (vI (IntKind.i64.wrap (z1 + 1))) : S) = .v (vI (z1 + 1))) ∧ z3.Nxt q1 [(2, .v (vI n)), (6, .v (vP 0)), (23, .v (.c (.seq .fld x1.fields))), (24, .v (vI z2)), (25, .v (vI (z1 + 1)))] [.cells z4]))) ∧ ((decide (z1 < z2)) = false → (.tup [.agg z4, vB false] : S) = .tup [.agg z8, vB z6.isSome] ∧ ([] : List Blk) = [])))))) (by kernel_rfl) ?_
 refine ⟨(as_i64 (by omega) (by omega)), (within_i _ _ _), fun h1 => have q1 := bnot_t h1; have p1 := within_f q1; ?_, fun h1 => have q1 := bnot_f h1; have p1 := within_t q1; ?_⟩
 refine have hm1 : (fieldAt s sh n).getD fld0 = (⟨0, 0, false, false, 0⟩ : Fld) := ?_; ?_
 rotate_left
 refine ⟨(congrArg S.tup (consE (congrArg V.agg (consE (congrArg (C.int .i64) ?_) (consE (congrArg (C.int .i64) ?_) (consE (congrArg C.bool ?_) (consE (congrArg C.bool ?_) (consE (congrArg (C.int .i64) ?_) rfl)))))) (consE (congrArg V.c (congrArg C.bool ?_)) rfl))), rfl⟩
 rotate_left 6
 have q1_ := q1
 refine ⟨(ax_get (l := s) (i := Int.toNat sh) (by omega)), fun x1 hx1 => ?_⟩
 have hfa := fieldAt_in (n := n) q1_ hx1
 have hfl := hp2 x1 (List.mem_of_getElem? hx1)
 refine ⟨hx1, (by omega), has_of (j := (⟨0⟩ : fieldAt_i_V0)) (by first | rfl | simp) rfl (by dsimp only [fieldAt_i_F0]; exact ⟨by omega, by simp⟩), fun (q1 : fieldAt_i_V0) hq_q1 => ?_⟩
 have hi_q1 : q1.v ≤ List.length x1.fields ∧ fieldIn (List.drop q1.v x1.fields) n = fieldIn x1.fields n := hq_q1
 obtain ⟨v1, v2⟩ := hi_q1
 refine dsp (fun h2 p2 => ?_) fun h2 p2 => ?_
 refine ⟨(ax_get (l := x1.fields) (i := q1.v) (by omega)), fun x2 hx2 => ?_⟩
 rw [drop_el hx2, fieldIn_cons] at v2
 refine ⟨hx2, (by omega), dsp (fun h3 p3 => ?_) fun h3 p3 => ?_⟩
 refine have hm1 : (fieldAt s sh n).getD fld0 = x2 := ?_; ?_
 rotate_left
 refine ⟨(congrArg S.tup (consE (congrArg V.agg (consE (congrArg (C.int .i64) ?_) (consE (congrArg (C.int .i64) ?_) (consE (congrArg C.bool ?_) (consE (congrArg C.bool ?_) (consE (congrArg (C.int .i64) ?_) rfl)))))) (consE (congrArg V.c (congrArg C.bool ?_)) rfl))), rfl⟩
 rotate_left 6
 exact ⟨(as_i64 (by omega) (by omega)), nxt_of (j := (⟨q1.v + 1⟩ : fieldAt_i_V0)) (by first | rfl | simp) rfl (by dsimp only [fieldAt_i_F0]; exact ⟨by omega, by grind⟩) (by dsimp only [fieldAt_i_F0]; omega)⟩
 rw [drop_end p2] at v2
 refine have hm1 : (fieldAt s sh n).getD fld0 = (⟨0, 0, false, false, 0⟩ : Fld) := ?_; ?_
 rotate_left
 refine ⟨(congrArg S.tup (consE (congrArg V.agg (consE (congrArg (C.int .i64) ?_) (consE (congrArg (C.int .i64) ?_) (consE (congrArg C.bool ?_) (consE (congrArg C.bool ?_) (consE (congrArg (C.int .i64) ?_) rfl)))))) (consE (congrArg V.c (congrArg C.bool ?_)) rfl))), rfl⟩
 rotate_left 6
 all_goals grind [fieldAt, fld0, fieldIn]
theorem planOk_i (p : Pln) : Fun Tryz.prog 20 [.agg (cPln p)] [] (.v (vB (planOk p))) [] := by
 have hN : bigN = 274877906944 := rfl
 refine fun_ofw Tryz.func20 (by kernel_rfl) (by kernel_rfl) (w := let z1 := ((List.length p.shapes : Nat) : Int) - 1; let z2 := within p.root 0 z1; let z3 := schemaOk p.shapes; let z4 := within p.deep 1 8; let z5 := vB (within p.most 0 2000); let z6 := vB (planOk p); let z7 := ([] : List Blk); let z8 := (.v (vB false) : S); (.seg [.call [] (.v (vB z3)) []] (.br (.seg [.as 13 (.v (vI z1)), .call [] (.v (vB z2)) []] (.br (.seg [.call [] (.v (vB z4)) []] (.br (.seg [.call [] (.v z5) []] (.leaf () [])) (.leaf () []))) (.leaf () []))) (.leaf () [])), (Fun Tryz.prog 36 [.agg [.seq .shp p.shapes]] [] (.v (vB z3)) []) ∧ (z3 = true → ((.v (vI (IntKind.i64.wrap z1)) : S) = .v (vI z1)) ∧ (Fun Tryz.prog 35 [vI p.root, vI 0, vI z1] [] (.v (vB z2)) []) ∧ (z2 = true → (Fun Tryz.prog 35 [vI p.deep, vI 1, vI 8] [] (.v (vB z4)) []) ∧ (z4 = true → (Fun Tryz.prog 35 [vI p.most, vI 0, vI 2000] [] (.v z5) []) ∧ (.v z5 : S) = .v z6 ∧ z7 = []) ∧ (z4 = false → z8 = .v z6 ∧ z7 = [])) ∧ (z2 = false → z8 = .v z6 ∧ z7 = [])) ∧ (z3 = false → z8 = .v z6 ∧ z7 = []))) (by kernel_rfl) ?_
 refine ⟨(schemaOk_i p.shapes), fun h1 => have p1 := schemaOk_t h1; ?_, fun h1 => ?_⟩
 refine ⟨(as_i64 (by omega) (by omega)), (within_i _ _ _), fun h2 => have p2 := within_t h2; ?_, fun h2 => have p2 := within_f h2; ?_⟩
 refine ⟨(within_i _ _ _), fun h3 => have p3 := within_t h3; ?_, fun h3 => have p3 := within_f h3; ?_⟩
 exact ⟨(within_i _ _ _), (congrArg S.v (congrArg V.c (congrArg C.bool (by grind [planOk])))), rfl⟩
 exact ⟨(congrArg S.v (congrArg V.c (congrArg C.bool (by grind [planOk])))), rfl⟩
 exact ⟨(congrArg S.v (congrArg V.c (congrArg C.bool (by grind [planOk])))), rfl⟩
 exact ⟨(congrArg S.v (congrArg V.c (congrArg C.bool (by grind [planOk])))), rfl⟩
theorem planOk_s (p : Pln) : Fun Tryz.prog 33 [.agg (cPln p)] [] (.v (vB (planOk p))) [] := by
 have hN : bigN = 274877906944 := rfl
 refine fun_ofw Tryz.func33 (by kernel_rfl) (by kernel_rfl) (w := let z1 := ((List.length p.shapes : Nat) : Int) - 1; let z2 := within p.root 0 z1; let z3 := schemaOk p.shapes; let z4 := within p.deep 1 8; let z5 := vB (within p.most 0 2000); let z6 := vB (planOk p); let z7 := ([] : List Blk); let z8 := (.v (vB false) : S); (.seg [.call [] (.v (vB z3)) []] (.br (.seg [.as 13 (.v (vI z1)), .call [] (.v (vB z2)) []] (.br (.seg [.call [] (.v (vB z4)) []] (.br (.seg [.call [] (.v z5) []] (.leaf () [])) (.leaf () []))) (.leaf () []))) (.leaf () [])), (Fun Tryz.prog 58 [.agg [.seq .shp p.shapes]] [] (.v (vB z3)) []) ∧ (z3 = true → ((.v (vI (IntKind.i64.wrap z1)) : S) = .v (vI z1)) ∧ (Fun Tryz.prog 57 [vI p.root, vI 0, vI z1] [] (.v (vB z2)) []) ∧ (z2 = true → (Fun Tryz.prog 57 [vI p.deep, vI 1, vI 8] [] (.v (vB z4)) []) ∧ (z4 = true → (Fun Tryz.prog 57 [vI p.most, vI 0, vI 2000] [] (.v z5) []) ∧ (.v z5 : S) = .v z6 ∧ z7 = []) ∧ (z4 = false → z8 = .v z6 ∧ z7 = [])) ∧ (z2 = false → z8 = .v z6 ∧ z7 = [])) ∧ (z3 = false → z8 = .v z6 ∧ z7 = []))) (by kernel_rfl) ?_
 refine ⟨(schemaOk_s p.shapes), fun h1 => have p1 := schemaOk_t h1; ?_, fun h1 => ?_⟩
 refine ⟨(as_i64 (by omega) (by omega)), (within_s _ _ _), fun h2 => have p2 := within_t h2; ?_, fun h2 => have p2 := within_f h2; ?_⟩
 refine ⟨(within_s _ _ _), fun h3 => have p3 := within_t h3; ?_, fun h3 => have p3 := within_f h3; ?_⟩
 exact ⟨(within_s _ _ _), (congrArg S.v (congrArg V.c (congrArg C.bool (by grind [planOk])))), rfl⟩
 exact ⟨(congrArg S.v (congrArg V.c (congrArg C.bool (by grind [planOk])))), rfl⟩
 exact ⟨(congrArg S.v (congrArg V.c (congrArg C.bool (by grind [planOk])))), rfl⟩
 exact ⟨(congrArg S.v (congrArg V.c (congrArg C.bool (by grind [planOk])))), rfl⟩
theorem hasField_i (k : Int) : Fun Tryz.prog 67 [vI k] [] (.v (vB (hasField k))) [] := by
 have hN : bigN = 274877906944 := rfl
 refine fun_ofw Tryz.func67 (by kernel_rfl) (by kernel_rfl) (w := (.br (.leaf () []) (.br (.leaf () []) (.leaf () [])), ((decide (k = 2)) = true → (.v (vB true) : S) = .v (vB (hasField k)) ∧ ([] : List Blk) = []) ∧ ((decide (k = 2)) = false → ((decide (k = 3)) = true → (.v (vB true) : S) = .v (vB (hasField k)) ∧ ([] : List Blk) = []) ∧ ((decide (k = 3)) = false → (.v (vB (decide (k = 6))) : S) = .v (vB (hasField k)) ∧ ([] : List Blk) = [])))) (by kernel_rfl) ?_
 refine dsp (fun h1 p1 => ?_) fun h1 p1 => ?_
 exact ⟨(congrArg S.v (congrArg V.c (congrArg C.bool (by grind [hasField])))), rfl⟩
 refine dsp (fun h2 p2 => ?_) fun h2 p2 => ?_
 exact ⟨(congrArg S.v (congrArg V.c (congrArg C.bool (by grind [hasField])))), rfl⟩
 exact ⟨(congrArg S.v (congrArg V.c (congrArg C.bool (by grind [hasField])))), rfl⟩
theorem topL_i (d : Dcd) (hp1 : List.length (d).stack ≤ bigN) : Fun Tryz.prog 44 [.agg (cDcd d)] [] (.v (vI (topL d))) [] := by
 have hN : bigN = 274877906944 := rfl
 refine fun_ofw Tryz.func44 (by kernel_rfl) (by kernel_rfl) (w := let z1 := ((List.length d.stack : Nat) : Int); (.br (.leaf () []) (.seg [.as 12 (.v (vI (z1 - 1)))] (.intro (fun (x1 : Lev) => d.stack[Int.toNat (z1 - 1)]? = some x1) fun x1 => .seg [.el .lev x1] (.leaf () []))), ((decide (z1 = 0)) = true → (.v (vI 0) : S) = .v (vI (topL d)) ∧ ([] : List Blk) = []) ∧ ((decide (z1 = 0)) = false → ((.v (vI (IntKind.i64.wrap (z1 - 1))) : S) = .v (vI (z1 - 1))) ∧ (∃ (x1 : Lev), d.stack[Int.toNat (z1 - 1)]? = some x1) ∧ ∀ (x1 : Lev), (d.stack[Int.toNat (z1 - 1)]? = some x1) → ((d.stack[Int.toNat (z1 - 1)]? = some x1) ∧ ((0 : Int) ≤ z1 - 1) ∧ (.v (vI x1.left) : S) = .v (vI (topL d)) ∧ ([] : List Blk) = [])))) (by kernel_rfl) ?_
 refine dsp (fun h1 p1 => ?_) fun h1 p1 => ?_
 refine ⟨(sI ?_), rfl⟩
 rotate_left
 refine ⟨(as_i64 (by omega) (by omega)), (ax_get (l := d.stack) (i := Int.toNat (((List.length d.stack : Nat) : Int) - 1)) (by omega)), fun x1 hx1 => ?_⟩
 have htop : topL d = x1.left := by unfold topL; rw [getD_of (by rw [← hx1]; congr 1; omega)]
 refine ⟨hx1, (by omega), (sI ?_), rfl⟩
 rotate_left
 all_goals first | (exact htop.symm) | ((unfold topL; rw [List.eq_nil_of_length_eq_zero (by omega : List.length d.stack = 0)]; rfl)) | (grind)
theorem isShape_i (p : Pln) (k : Int) (hp1 : List.length (p).shapes ≤ bigN) : Fun Tryz.prog 87 [.agg (cPln p), vI k] [] (.v (vB (within k 0 (((List.length (p).shapes : Nat) : Int) - 1)))) [] := by
 have hN : bigN = 274877906944 := rfl
 refine fun_ofw Tryz.func87 (by kernel_rfl) (by kernel_rfl) (w := let z1 := ((List.length p.shapes : Nat) : Int) - 1; let z2 := vB (within k 0 z1); (.seg [.as 10 (.v (vI z1)), .call [] (.v z2) []] (.leaf () []), ((.v (vI (IntKind.i64.wrap z1)) : S) = .v (vI z1)) ∧ (Fun Tryz.prog 35 [vI k, vI 0, vI z1] [] (.v z2) []) ∧ (.v z2 : S) = .v (vB (within k 0 (((List.length (p).shapes : Nat) : Int) - 1))) ∧ ([] : List Blk) = [])) (by kernel_rfl) ?_
 exact ⟨(as_i64 (by omega) (by omega)), (within_i _ _ _), (congrArg S.v (congrArg V.c (congrArg C.bool (by rfl)))), rfl⟩
theorem isLevel_i (p : Pln) (l : Lev) (hp1 : List.length (p).shapes ≤ bigN) : Fun Tryz.prog 63 [.agg (cPln p), .agg (cLev l)] [] (.v (vB (levOk ((List.length (p).shapes : Nat) : Int) l))) [] := by
 have hN : bigN = 274877906944 := rfl
 refine fun_ofw Tryz.func63 (by kernel_rfl) (by kernel_rfl) (w := let z1 := ((List.length (p).shapes : Nat) : Int); let z2 := within l.msg 0 (z1 - 1); let z3 := vB (within l.left 0 2000); (.seg [.call [] (.v (vB z2)) []] (.br (.seg [.call [] (.v z3) []] (.leaf () [])) (.leaf () [])), (Fun Tryz.prog 87 [.agg (cPln p), vI l.msg] [] (.v (vB z2)) []) ∧ (z2 = true → (Fun Tryz.prog 35 [vI l.left, vI 0, vI 2000] [] (.v z3) []) ∧ (.v z3 : S) = .v (vB (levOk z1 l)) ∧ ([] : List Blk) = []) ∧ (z2 = false → (.v (vB false) : S) = .v (vB (levOk z1 l)) ∧ ([] : List Blk) = []))) (by kernel_rfl) ?_
 refine ⟨(isShape_i p _ (by omega)), fun h1 => have p1 := within_t h1; ?_, fun h1 => have p1 := within_f h1; ?_⟩
 refine ⟨(within_i _ _ _), (sB ?_), rfl⟩
 rotate_left
 refine ⟨(sB ?_), rfl⟩
 rotate_left
 all_goals first | (simp [levOk, *]; done) | (simp_all [levOk]; done) | (grind [levOk])
theorem badLev_f (l : Lev) (d : Dcd) (hp1 : List.length (d).plan.shapes ≤ bigN) : Fun Tryz.prog 62 [.agg (cLev l), vP 0] [.cells (cDcd d)] (.v (vB (!levOk ((List.length (d).plan.shapes : Nat) : Int) l))) [.cells (cDcd d)] := by
 have hN : bigN = 274877906944 := rfl
 refine fun_ofw Tryz.func62 (by kernel_rfl) (by kernel_rfl) (w := let z1 := levOk ((List.length (d.plan).shapes : Nat) : Int) l; (.seg [.call [] (.v (vB z1)) []] (.leaf () [0]), (Fun Tryz.prog 63 [.agg (cPln d.plan), .agg (cLev l)] [] (.v (vB z1)) []) ∧ (.v (vB (!z1)) : S) = .v (vB (!levOk ((List.length (d).plan.shapes : Nat) : Int) l)) ∧ ([.cells (cDcd d)] : List Blk) = [.cells (cDcd d)])) (by kernel_rfl) ?_
 exact ⟨(isLevel_i d.plan l (by omega)), (congrArg S.v (congrArg V.c (congrArg C.bool (by rfl)))), rfl⟩
structure idxLev_V0 where
 v : Nat
def idxLev_F0 (s : List Lev) (d : Dcd) : Fam := ⟨idxLev_V0, fun q1 => [(0, .v (.c (.seq .lev s))), (1, .v (.c (.fn 62 [0]))), (7, .v (vI ((List.length s : Nat) : Int))), (8, .v (vI ((q1.v : Nat) : Int)))], fun _ => [.cells (cDcd d)], fun q1 => q1.v ≤ List.length s ∧ levN (List.length d.plan.shapes : Int) (List.drop q1.v s) + q1.v = levN (List.length d.plan.shapes : Int) s, fun q1 => List.length s - q1.v⟩
theorem idxLev (s : List Lev) (d : Dcd) (hp1 : List.length (d).plan.shapes ≤ bigN) (hp2 : List.length s ≤ bigN) : Fun Tryz.prog 86 [.c (.seq .lev s), .c (.fn 62 [0])] [.cells (cDcd d)] (.v (vI (badLev ((List.length (d).plan.shapes : Nat) : Int) s))) [.cells (cDcd d)] := by
 have hN : bigN = 274877906944 := rfl
 refine fun_ofw Tryz.func86 (by kernel_rfl) (by kernel_rfl) (w := let z3 := ((List.length (d).plan.shapes : Nat) : Int); let z4 : List Blk := [.cells (cDcd d)]; let z5 := ((List.length s : Nat) : Int); let z6 := idxLev_F0 s d; (.seg [.at 0, .keep [0, 1, 7, 8], .sel [0]] (.loop z6 fun q1 => .br (.intro (fun (x1 : Lev) => s[q1.v]? = some x1) fun x1 => .seg [.el .lev x1, .call [0] (.v (vB (!levOk z3 x1))) z4] (.br (.leaf () [0]) (.seg [.as 18 (.v (vI (((q1.v : Nat) : Int) + 1))), .at 0, .keep [0, 1, 7, 8], .sel [0]] (.next)))) (.leaf () [0])), z6.Has [(0, .v (.c (.seq .lev s))), (1, .v (.c (.fn 62 [0]))), (7, .v (vI z5)), (8, .v (vI 0))] z4 ∧ ∀ q1, z6.inv q1 → (let z2 := ((q1.v : Nat) : Int); ((decide (z2 < z5)) = true → (∃ (x1 : Lev), s[q1.v]? = some x1) ∧ ∀ (x1 : Lev), (s[q1.v]? = some x1) → (let z1 := !levOk z3 x1; (s[q1.v]? = some x1) ∧ ((0 : Int) ≤ z2) ∧ (Fun Tryz.prog 62 [.agg (cLev x1), vP 0] z4 (.v (vB z1)) z4) ∧ (z1 = true → (.v (vI z2) : S) = .v (vI (badLev z3 s)) ∧ (z4 : List Blk) = z4) ∧ (z1 = false → ((.v (vI (IntKind.i64.wrap (z2 + 1))) : S) = .v (vI (z2 + 1))) ∧ z6.Nxt q1 [(0, .v (.c (.seq .lev s))), (1, .v (.c (.fn 62 [0]))), (7, .v (vI z5)), (8, .v (vI (z2 + 1)))] z4))) ∧ ((decide (z2 < z5)) = false → (.v (vI (-1)) : S) = .v (vI (badLev z3 s)) ∧ (z4 : List Blk) = z4)))) (by kernel_rfl) ?_
 refine ⟨has_of (j := (⟨0⟩ : idxLev_V0)) (by first | rfl | simp) rfl (by dsimp only [idxLev_F0]; exact ⟨by omega, rfl⟩), fun (q1 : idxLev_V0) hq_q1 => ?_⟩
 have hi_q1 : q1.v ≤ List.length s ∧ levN (List.length d.plan.shapes : Int) (List.drop q1.v s) + q1.v = levN (List.length d.plan.shapes : Int) s := hq_q1
 obtain ⟨v1, v3⟩ := hi_q1
 refine dsp (fun h1 p1 => ?_) fun h1 p1 => ?_
 refine ⟨(ax_get (l := s) (i := q1.v) (by omega)), fun x1 hx1 => ?_⟩
 rw [drop_el hx1, levN_cons] at v3
 have hll := congrArg List.length (drop_el hx1)
 rw [List.length_drop, List.length_cons, List.length_drop] at hll
 refine ⟨hx1, (by omega), (badLev_f x1 d (by omega)), fun h2 => have q2 := bnot_t h2; ?_, fun h2 => have q2 := bnot_f h2; ?_⟩
 rw [if_neg (by simp [q2])] at v3
 have hbl : badLev (List.length d.plan.shapes : Int) s = q1.v := by unfold badLev; rw [if_neg (by omega)]; omega
 refine ⟨(sI ?_), rfl⟩
 rotate_left
 rw [if_pos q2] at v3
 exact ⟨(as_i64 (by omega) (by omega)), nxt_of (j := (⟨q1.v + 1⟩ : idxLev_V0)) (by first | rfl | simp) rfl (by dsimp only [idxLev_F0]; exact ⟨by omega, by omega⟩) (by dsimp only [idxLev_F0]; omega)⟩
 rw [List.drop_eq_nil_of_le (by omega)] at v3
 simp only [levN] at v3
 have hbl : badLev (List.length d.plan.shapes : Int) s = -1 := by unfold badLev; rw [if_pos (by omega)]
 refine ⟨(sI ?_), rfl⟩
 rotate_left
 all_goals first | (exact hbl.symm) | (grind)
theorem hasLev (s : List Lev) (d : Dcd) (hp1 : List.length (d).plan.shapes ≤ bigN) (hp2 : List.length s ≤ bigN) : Fun Tryz.prog 61 [.c (.seq .lev s), .c (.fn 62 [0])] [.cells (cDcd d)] (.v (vB (decide (0 ≤ badLev ((List.length (d).plan.shapes : Nat) : Int) s)))) [.cells (cDcd d)] := by
 have hN : bigN = 274877906944 := rfl
 refine fun_ofw Tryz.func61 (by kernel_rfl) (by kernel_rfl) (w := let z1 := ((List.length (d).plan.shapes : Nat) : Int); let z2 : List Blk := [.cells (cDcd d)]; (.seg [.call [0] (.v (vI (badLev z1 s))) z2] (.leaf () [0]), (Fun Tryz.prog 86 [.c (.seq .lev s), .c (.fn 62 [0])] z2 (.v (vI (badLev z1 s))) z2) ∧ (.v (vB (decide (0 ≤ badLev z1 s))) : S) = .v (vB (decide (0 ≤ badLev z1 s))) ∧ (z2 : List Blk) = z2)) (by kernel_rfl) ?_
 exact ⟨(idxLev _ d (by omega) (by omega)), rfl, rfl⟩
theorem levelsOk_i (d : Dcd) (hp1 : List.length (d).stack ≤ bigN) (hp2 : List.length (d).plan.shapes ≤ bigN) : Fun Tryz.prog 38 [.agg (cDcd d)] [] (.v (vB (levelsOk d))) [] := by
 have hN : bigN = 274877906944 := rfl
 refine fun_ofw Tryz.func38 (by kernel_rfl) (by kernel_rfl) (w := let z1 := decide (0 ≤ badLev ((List.length (d).plan.shapes : Nat) : Int) d.stack); let z2 := decide (((List.length d.stack : Nat) : Int) ≤ d.plan.deep); let z3 := planOk d.plan; (.seg [.call [] (.v (vB z3)) []] (.br (.br (.seg [.call [0] (.v (vB z1)) [.cells (cDcd d)]] (.leaf () [])) (.leaf () [])) (.leaf () [])), (Fun Tryz.prog 20 [.agg (cPln d.plan)] [] (.v (vB z3)) []) ∧ (z3 = true → (z2 = true → (Fun Tryz.prog 61 [.c (.seq .lev d.stack), .c (.fn 62 [0])] [.cells (cDcd d)] (.v (vB z1)) [.cells (cDcd d)]) ∧ (.v (vB (!z1)) : S) = .v (vB (levelsOk d)) ∧ ([] : List Blk) = []) ∧ (z2 = false → (.v (vB false) : S) = .v (vB (levelsOk d)) ∧ ([] : List Blk) = [])) ∧ (z3 = false → (.v (vB false) : S) = .v (vB (levelsOk d)) ∧ ([] : List Blk) = []))) (by kernel_rfl) ?_
 refine ⟨(planOk_i d.plan), fun h1 => have p1 := planOk_t h1; ?_, fun h1 => ?_⟩
 refine dsp (fun h2 p2 => ?_) fun h2 p2 => ?_
 refine ⟨(hasLev _ d (by omega) (by omega)), (sB ?_), rfl⟩
 rotate_left
 refine ⟨(sB ?_), rfl⟩
 rotate_left
 refine ⟨(sB ?_), rfl⟩
 rotate_left
 all_goals first | (simp_all [levelsOk]; done) | ((unfold levelsOk; rw [levN_all]; grind [badLev])) | (grind [levelsOk, badLev, levN_all])
theorem isEvent_i (k : Int) : Fun Tryz.prog 65 [vI k] [] (.v (vB (isEvent k))) [] := by
 have hN : bigN = 274877906944 := rfl
 refine fun_ofw Tryz.func65 (by kernel_rfl) (by kernel_rfl) (w := let z1 := vB (within k 1 10); (.seg [.call [] (.v z1) []] (.leaf () []), (Fun Tryz.prog 35 [vI k, vI 1, vI 10] [] (.v z1) []) ∧ (.v z1 : S) = .v (vB (isEvent k)) ∧ ([] : List Blk) = [])) (by kernel_rfl) ?_
 exact ⟨(within_i _ _ _), (congrArg S.v (congrArg V.c (congrArg C.bool (by rfl)))), rfl⟩
theorem bareEv_i (e : Ev) : Fun Tryz.prog 66 [.agg (cEv e)] [] (.v (.agg (cEv (bareEv e)))) [] := by
 have hN : bigN = 274877906944 := rfl
 refine fun_ofw Tryz.func66 (by kernel_rfl) (by kernel_rfl) (w := let zi : Int → C := .int .i64; let z1 : List C := [.int .u64 0, zi e.len, .str [], zi 0, zi 0]; let z2 := cEv (bareEv e); let z3 := ([] : List Blk); let z4 := (.v (.agg (zi e.kind :: zi e.field :: z1)) : S); let z5 := decide (e.kind = 3); let z6 := os 8 [5, 7]; (.br (.leaf () []) (.br (.seg [.ord z6 [2]] (.leaf () [])) (.br (.seg [.br true, .ord z6 [2]] (.leaf () [])) (.br (.seg [.ord z6 [2]] (.leaf () [])) (.br (.leaf () []) (.br (.leaf () []) (.br (.seg [.ord z6 [2]] (.leaf () [])) (.leaf () []))))))), ((decide (e.kind = 1)) = true → (.v (.agg (zi e.kind :: zi 0 :: z1)) : S) = .v (.agg z2) ∧ z3 = []) ∧ ((decide (e.kind = 1)) = false → ((decide (e.kind = 2)) = true → (.v (.agg [zi e.kind, zi e.field, .int .u64 e.bits, zi 0, .str [], zi 0, zi 0]) : S) = .v (.agg z2) ∧ z3 = []) ∧ ((decide (e.kind = 2)) = false → (z5 = true → (z5 = true) ∧ z4 = .v (.agg z2) ∧ z3 = []) ∧ (z5 = false → ((decide (e.kind = 6)) = true → z4 = .v (.agg z2) ∧ z3 = []) ∧ ((decide (e.kind = 6)) = false → ((decide (e.kind = 4)) = true → (.v (.agg [zi e.kind, zi 0, .int .u64 0, zi 0, .str e.text, zi 0, zi 0]) : S) = .v (.agg z2) ∧ z3 = []) ∧ ((decide (e.kind = 4)) = false → ((decide (e.kind = 9)) = true → (.v (.agg [zi e.kind, zi 0, .int .u64 0, zi 0, .str [], zi 0, zi e.at_]) : S) = .v (.agg z2) ∧ z3 = []) ∧ ((decide (e.kind = 9)) = false → ((decide (e.kind = 10)) = true → (.v (.agg [zi e.kind, zi 0, .int .u64 0, zi 0, .str [], zi e.code, zi e.at_]) : S) = .v (.agg z2) ∧ z3 = []) ∧ ((decide (e.kind = 10)) = false → (.v (.agg [zi e.kind, zi 0, .int .u64 0, zi 0, .str [], zi 0, zi 0]) : S) = .v (.agg z2) ∧ z3 = []))))))))) (by kernel_rfl) ?_
 refine dsp (fun h1 p1 => ?_) fun h1 p1 => ?_
 refine have hm1 : bareEv e = (⟨e.kind, 0, 0, e.len, [], 0, 0⟩ : Ev) := ?_; ?_
 rotate_left
 exact ⟨(by rw [hm1] <;> rfl), rfl⟩
 refine dsp (fun h2 p2 => ?_) fun h2 p2 => ?_
 refine have hm1 : bareEv e = (⟨e.kind, e.field, e.bits, 0, [], 0, 0⟩ : Ev) := ?_; ?_
 rotate_left
 exact ⟨(by rw [hm1] <;> rfl), rfl⟩
 refine dsp (fun h3 p3 => ?_) fun h3 p3 => ?_
 refine ⟨h3, ?_⟩
 refine have hm1 : bareEv e = (⟨e.kind, e.field, 0, e.len, [], 0, 0⟩ : Ev) := ?_; ?_
 rotate_left
 exact ⟨(by rw [hm1] <;> rfl), rfl⟩
 refine dsp (fun h4 p4 => ?_) fun h4 p4 => ?_
 refine have hm1 : bareEv e = (⟨e.kind, e.field, 0, e.len, [], 0, 0⟩ : Ev) := ?_; ?_
 rotate_left
 exact ⟨(by rw [hm1] <;> rfl), rfl⟩
 refine dsp (fun h5 p5 => ?_) fun h5 p5 => ?_
 refine have hm1 : bareEv e = (⟨e.kind, 0, 0, 0, e.text, 0, 0⟩ : Ev) := ?_; ?_
 rotate_left
 exact ⟨(by rw [hm1] <;> rfl), rfl⟩
 refine dsp (fun h6 p6 => ?_) fun h6 p6 => ?_
 refine have hm1 : bareEv e = (⟨e.kind, 0, 0, 0, [], 0, e.at_⟩ : Ev) := ?_; ?_
 rotate_left
 exact ⟨(by rw [hm1] <;> rfl), rfl⟩
 refine dsp (fun h7 p7 => ?_) fun h7 p7 => ?_
 refine have hm1 : bareEv e = (⟨e.kind, 0, 0, 0, [], e.code, e.at_⟩ : Ev) := ?_; ?_
 rotate_left
 exact ⟨(by rw [hm1] <;> rfl), rfl⟩
 refine have hm1 : bareEv e = (⟨e.kind, 0, 0, 0, [], 0, 0⟩ : Ev) := ?_; ?_
 rotate_left
 exact ⟨(by rw [hm1] <;> rfl), rfl⟩
 all_goals first | (simp_all [bareEv]; done) | (grind [bareEv])
theorem terminal_i (e : Ev) : Fun Tryz.prog 43 [.agg (cEv e)] [] (.v (vB (terminal e))) [] := by
 have hN : bigN = 274877906944 := rfl
 refine fun_ofw Tryz.func43 (by kernel_rfl) (by kernel_rfl) (w := (.br (.leaf () []) (.leaf () []), ((decide (e.kind = 9)) = true → (.v (vB true) : S) = .v (vB (terminal e)) ∧ ([] : List Blk) = []) ∧ ((decide (e.kind = 9)) = false → (.v (vB (decide (e.kind = 10))) : S) = .v (vB (terminal e)) ∧ ([] : List Blk) = []))) (by kernel_rfl) ?_
 refine dsp (fun h1 p1 => ?_) fun h1 p1 => ?_
 refine ⟨(sB ?_), rfl⟩
 rotate_left
 refine ⟨(sB ?_), rfl⟩
 rotate_left
 all_goals first | (simp_all [terminal]; done) | (grind [terminal])
theorem eventOk_i (e : Ev) : Fun Tryz.prog 42 [.agg (cEv e)] [] (.v (vB (eventOk e))) [] := by
 have hN : bigN = 274877906944 := rfl
 refine fun_ofw Tryz.func42 (by kernel_rfl) (by kernel_rfl) (w := let z2 := isEvent e.kind; let z3 := vB (eventOk e); let z4 := bareEv e; let z1 := !(decide (e.kind = z4.kind) && (decide (e.field = z4.field) && (decide (e.bits = z4.bits) && (decide (e.len = z4.len) && (decide (e.text = z4.text) && (decide (e.code = z4.code) && decide (e.at_ = z4.at_))))))); let z5 := ([] : List Blk); let z6 := decide (e.len < 0); let z7 := vB (within e.field 1 536870911); let z8 := (.v (vB false) : S); let z9 := hasField e.kind; let z10 := os 21 [2, 7]; (.case (!z2) (.seg [.ord z10 [], .call [] (.v (vB z2)) [], .br true] (.leaf () [])) (.case z1 (.seg [.ord z10 [], .call [] (.v (vB z2)) [], .br false, .call [] (.v (.agg (cEv z4))) [], .br true] (.leaf () [])) (.case z6 (.seg [.ord z10 [], .call [] (.v (vB z2)) [], .br false, .call [] (.v (.agg (cEv z4))) [], .br false, .br true] (.leaf () [])) (.seg [.ord z10 [], .call [] (.v (vB z2)) [], .br false, .call [] (.v (.agg (cEv z4))) [], .br false, .br false] (.br (.leaf () []) (.seg [.call [] (.v (vB z9)) []] (.br (.seg [.call [] (.v z7) []] (.leaf () [])) (.br (.leaf () []) (.br (.leaf () []) (.leaf () []))))))))), ((!z2) = true → (Fun Tryz.prog 65 [vI e.kind] [] (.v (vB z2)) []) ∧ ((!z2) = true) ∧ z8 = .v z3 ∧ z5 = []) ∧ ((!z2) = false → (z1 = true → (Fun Tryz.prog 65 [vI e.kind] [] (.v (vB z2)) []) ∧ ((!z2) = false) ∧ (Fun Tryz.prog 66 [.agg (cEv e)] [] (.v (.agg (cEv z4))) []) ∧ (z1 = true) ∧ z8 = .v z3 ∧ z5 = []) ∧ (z1 = false → (z6 = true → (Fun Tryz.prog 65 [vI e.kind] [] (.v (vB z2)) []) ∧ ((!z2) = false) ∧ (Fun Tryz.prog 66 [.agg (cEv e)] [] (.v (.agg (cEv z4))) []) ∧ (z1 = false) ∧ (z6 = true) ∧ z8 = .v z3 ∧ z5 = []) ∧ (z6 = false → (Fun Tryz.prog 65 [vI e.kind] [] (.v (vB z2)) []) ∧ ((!z2) = false) ∧ (Fun Tryz.prog 66 [.agg (cEv e)] [] (.v (.agg (cEv z4))) []) ∧ (z1 = false) ∧ (z6 = false) ∧ ((decide (e.at_ < 0)) = true → z8 = .v z3 ∧ z5 = []) ∧ ((decide (e.at_ < 0)) = false → (Fun Tryz.prog 67 [vI e.kind] [] (.v (vB z9)) []) ∧ (z9 = true → (Fun Tryz.prog 35 [vI e.field, vI 1, vI 536870911] [] (.v z7) []) ∧ (.v z7 : S) = .v z3 ∧ z5 = []) ∧ (z9 = false → ((decide (e.kind = 4)) = true → (.v (vB (!decide (e.text = []))) : S) = .v z3 ∧ z5 = []) ∧ ((decide (e.kind = 4)) = false → ((decide (e.kind = 10)) = true → (.v (vB (decide (1 ≤ e.code))) : S) = .v z3 ∧ z5 = []) ∧ ((decide (e.kind = 10)) = false → (.v (vB true) : S) = .v z3 ∧ z5 = []))))))))) (by kernel_rfl) ?_
 refine ⟨fun h1 => have q1 := bnot_t h1; ?_, fun h1 => have q1 := bnot_f h1; ?_⟩
 refine ⟨(isEvent_i _), h1, (sB ?_), rfl⟩
 rotate_left
 refine ⟨fun h2 => have q2 := bnot_t h2; have p2 := (andF dT (andF dT (andF dT (andF dT (andF dT (andF dT dF)))))).1 q2; ?_, fun h2 => have q2 := bnot_f h2; have p2 := (andT dT (andT dT (andT dT (andT dT (andT dT (andT dT dT)))))).1 q2; ?_⟩
 have hib : isBare e = false := by rw [isBare_eq rfl]; exact q2
 refine ⟨(isEvent_i _), h1, (bareEv_i e), h2, (sB ?_), rfl⟩
 rotate_left
 have hib : isBare e = true := by rw [isBare_eq rfl]; exact q2
 refine dsp (fun h3 p3 => ?_) fun h3 p3 => ?_
 refine ⟨(isEvent_i _), h1, (bareEv_i e), h2, h3, (sB ?_), rfl⟩
 rotate_left
 refine ⟨(isEvent_i _), h1, (bareEv_i e), h2, h3, dsp (fun h4 p4 => ?_) fun h4 p4 => ?_⟩
 refine ⟨(sB ?_), rfl⟩
 rotate_left
 refine ⟨(hasField_i _), fun h5 => ?_, fun h5 => ?_⟩
 refine ⟨(within_i _ _ _), (sB ?_), rfl⟩
 rotate_left
 refine dsp (fun h6 p6 => ?_) fun h6 p6 => ?_
 refine ⟨(sB ?_), rfl⟩
 rotate_left
 refine dsp (fun h7 p7 => ?_) fun h7 p7 => ?_
 refine ⟨(sB ?_), rfl⟩
 rotate_left
 refine ⟨(sB ?_), rfl⟩
 rotate_left
 all_goals first | ((simp only [eventOk, hib]; simp [isEvent, hasField, *]; done)) | (grind [eventOk, hasField, isEvent])
theorem scanOk_i (s : Scn) : Fun Tryz.prog 72 [.agg (cScn s)] [] (.v (vB (scanOk s))) [] := by
 have hN : bigN = 274877906944 := rfl
 refine fun_ofw Tryz.func72 (by kernel_rfl) (by kernel_rfl) (w := let z1 := 7 * s.have_; let z2 := within s.have_ 0 9; (.seg [.call [] (.v (vB z2)) []] (.br (.seg [.as 11 (.v (vI z1)), .as 12 (.v (.c (.int .u64 z1)))] (.leaf () [])) (.leaf () [])), (Fun Tryz.prog 35 [vI s.have_, vI 0, vI 9] [] (.v (vB z2)) []) ∧ (z2 = true → ((.v (vI (IntKind.i64.wrap z1)) : S) = .v (vI z1)) ∧ ((.v (.c (.int .u64 (IntKind.u64.wrap z1))) : S) = .v (.c (.int .u64 z1))) ∧ ((0 : Int) ≤ 7 * s.have_) ∧ (.v (vB (decide (Int.fdiv s.bits (2 ^ min (Int.toNat z1) 64) = 0))) : S) = .v (vB (scanOk s)) ∧ ([] : List Blk) = []) ∧ (z2 = false → (.v (vB false) : S) = .v (vB (scanOk s)) ∧ ([] : List Blk) = []))) (by kernel_rfl) ?_
 refine ⟨(within_i _ _ _), fun h1 => have p1 := within_t h1; ?_, fun h1 => have p1 := within_f h1; ?_⟩
 refine ⟨(as_i64 (by omega) (by omega)), (as_u64 (by omega) (by omega)), (by omega), (sB ?_), rfl⟩
 rotate_left
 refine ⟨(sB ?_), rfl⟩
 rotate_left
 all_goals first | (simp_all [scanOk]; done) | (grind [scanOk])
theorem widthD_i (d : Dcd) : Fun Tryz.prog 71 [.agg (cDcd d)] [] (.v (vI (widthD d))) [] := by
 have hN : bigN = 274877906944 := rfl
 refine fun_ofw Tryz.func71 (by kernel_rfl) (by kernel_rfl) (w := let z1 := wireOf d.field.kind; let z2 := vI (widthOf d.wire); (.br (.seg [.call [] (.v z2) []] (.leaf () [])) (.br (.seg [.call [] (.v (vI z1)) [], .call [] (.v (vI (widthOf z1))) []] (.leaf () [])) (.leaf () [])), ((decide (d.mode = 5)) = true → (Fun Tryz.prog 70 [vI d.wire] [] (.v z2) []) ∧ (.v z2 : S) = .v (vI (widthD d)) ∧ ([] : List Blk) = []) ∧ ((decide (d.mode = 5)) = false → ((decide (d.mode = 8)) = true → (Fun Tryz.prog 88 [vI d.field.kind] [] (.v (vI z1)) []) ∧ (Fun Tryz.prog 70 [vI z1] [] (.v (vI (widthOf z1))) []) ∧ (.v (vI (widthOf z1)) : S) = .v (vI (widthD d)) ∧ ([] : List Blk) = []) ∧ ((decide (d.mode = 8)) = false → (.v (vI 0) : S) = .v (vI (widthD d)) ∧ ([] : List Blk) = [])))) (by kernel_rfl) ?_
 refine dsp (fun h1 p1 => ?_) fun h1 p1 => ?_
 refine ⟨(widthOf_i _), (sI ?_), rfl⟩
 rotate_left
 refine dsp (fun h2 p2 => ?_) fun h2 p2 => ?_
 refine ⟨(wireOf_i _), (widthOf_i _), (sI ?_), rfl⟩
 rotate_left
 refine ⟨(sI ?_), rfl⟩
 rotate_left
 all_goals first | (simp_all [widthD]; done) | (grind [widthD])
structure known_i_V0 where
 v : Nat
def known_i_F0 (p : Pln) (f : Fld) : Fam := ⟨known_i_V0, fun q1 => [(2, .v (vP 0)), (3, .v (vP 1)), (11, .v (vI ((List.length p.shapes : Nat) : Int))), (12, .v (vI ((q1.v : Nat) : Int)))], fun _ => [.cells (cPln p), .cells (cFld f)], fun q1 => q1.v ≤ List.length p.shapes ∧ knownN p.shapes f q1.v = false, fun q1 => List.length p.shapes - q1.v⟩
theorem known_i (p : Pln) (f : Fld) (hp1 : List.length (p).shapes ≤ 1000) (hp2 : ∀ x ∈ (p).shapes, List.length x.fields ≤ 1000) : Fun Tryz.prog 41 [.agg (cPln p), .agg (cFld f)] [] (.v (vB (known (p).shapes f))) [] := by
 have hN : bigN = 274877906944 := rfl
 refine fun_ofw Tryz.func41 (by kernel_rfl) (by kernel_rfl) (w := let z4 := ((List.length p.shapes : Nat) : Int); let z5 : List Blk := [.cells (cPln p), .cells (cFld f)]; let z6 := known_i_F0 p f; (.seg [.at 0, .keep [2, 3, 11, 12], .sel [0, 1]] (.loop z6 fun q1 => let z1 := ((q1.v : Nat) : Int); .br (.seg [.call [] (.tup [.agg (cFld ((fieldAt p.shapes z1 f.number).getD fld0)), vB (fieldAt p.shapes z1 f.number).isSome]) []] (.br (.br (.leaf () []) (.seg [.as 30 (.v (vI (z1 + 1))), .at 0, .keep [2, 3, 11, 12], .sel [0, 1]] (.next))) (.seg [.as 30 (.v (vI (z1 + 1))), .at 0, .keep [2, 3, 11, 12], .sel [0, 1]] (.next)))) (.leaf () [])), z6.Has [(2, .v (vP 0)), (3, .v (vP 1)), (11, .v (vI z4)), (12, .v (vI 0))] z5 ∧ ∀ q1, z6.inv q1 → (let z3 := ((q1.v : Nat) : Int); let z2 := fieldAt p.shapes z3 f.number; ((decide (z3 < z4)) = true → (Fun Tryz.prog 64 [.agg [.seq .shp p.shapes], vI z3, vI f.number] [] (.tup [.agg (cFld (z2.getD fld0)), vB z2.isSome]) []) ∧ (z2.isSome = true → ((decide ((z2.getD fld0).number = f.number) && (decide ((z2.getD fld0).kind = f.kind) && (decide ((z2.getD fld0).rep = f.rep) && (decide ((z2.getD fld0).packed = f.packed) && decide ((z2.getD fld0).msg = f.msg))))) = true → (.v (vB true) : S) = .v (vB (known (p).shapes f)) ∧ ([] : List Blk) = []) ∧ ((decide ((z2.getD fld0).number = f.number) && (decide ((z2.getD fld0).kind = f.kind) && (decide ((z2.getD fld0).rep = f.rep) && (decide ((z2.getD fld0).packed = f.packed) && decide ((z2.getD fld0).msg = f.msg))))) = false → ((.v (vI (IntKind.i64.wrap (z3 + 1))) : S) = .v (vI (z3 + 1))) ∧ z6.Nxt q1 [(2, .v (vP 0)), (3, .v (vP 1)), (11, .v (vI z4)), (12, .v (vI (z3 + 1)))] z5)) ∧ (z2.isSome = false → ((.v (vI (IntKind.i64.wrap (z3 + 1))) : S) = .v (vI (z3 + 1))) ∧ z6.Nxt q1 [(2, .v (vP 0)), (3, .v (vP 1)), (11, .v (vI z4)), (12, .v (vI (z3 + 1)))] z5)) ∧ ((decide (z3 < z4)) = false → (.v (vB false) : S) = .v (vB (known (p).shapes f)) ∧ ([] : List Blk) = [])))) (by kernel_rfl) ?_
 refine ⟨has_of (j := (⟨0⟩ : known_i_V0)) (by first | rfl | simp) rfl (by dsimp only [known_i_F0]; exact ⟨by omega, rfl⟩), fun (q1 : known_i_V0) hq_q1 => ?_⟩
 have hi_q1 : q1.v ≤ List.length p.shapes ∧ knownN p.shapes f q1.v = false := hq_q1
 obtain ⟨v1, v2⟩ := hi_q1
 refine dsp (fun h1 p1 => ?_) fun h1 p1 => ?_
 refine ⟨(fieldAt_i p.shapes _ _ (by omega) (by omega)), fun h2 => ?_, fun h2 => ?_⟩
 obtain ⟨o, ho⟩ := Option.isSome_iff_exists.1 h2
 have hg : (fieldAt p.shapes (q1.v : Int) f.number).getD fld0 = o := by rw [ho]; rfl
 refine ⟨fun h3 => have p3 := (andT dT (andT dT (andT dT (andT dT dT)))).1 h3; ?_, fun h3 => have p3 := (andF dT (andF dT (andF dT (andF dT dF)))).1 h3; ?_⟩
 rw [hg] at p3
 have hkk := known_of (by omega) (show (fieldAt p.shapes (q1.v : Int) f.number) = some f by rw [ho, fld_eq p3])
 refine ⟨(sB ?_), rfl⟩
 rotate_left
 rw [hg] at p3
 have hkn : knownN p.shapes f (q1.v + 1) = false := knownN_next v2 (by rw [ho]; intro e; exact fld_ne p3 (Option.some.inj e))
 exact ⟨(as_i64 (by omega) (by omega)), nxt_of (j := (⟨q1.v + 1⟩ : known_i_V0)) (by first | rfl | simp) rfl (by dsimp only [known_i_F0]; exact ⟨by omega, hkn⟩) (by dsimp only [known_i_F0]; omega)⟩
 have hkn : knownN p.shapes f (q1.v + 1) = false := knownN_next v2 (by intro e; rw [e] at h2; simp at h2)
 exact ⟨(as_i64 (by omega) (by omega)), nxt_of (j := (⟨q1.v + 1⟩ : known_i_V0)) (by first | rfl | simp) rfl (by dsimp only [known_i_F0]; exact ⟨by omega, hkn⟩) (by dsimp only [known_i_F0]; omega)⟩
 have hkk := known_no v2 (by omega)
 refine ⟨(sB ?_), rfl⟩
 rotate_left
 all_goals first | (exact hkk.symm) | (grind)
theorem scn_zero {s : Scn} : s = scn0 ↔ s.bits = 0 ∧ s.have_ = 0 := ⟨fun h => by subst h; exact ⟨rfl, rfl⟩, fun h => by cases s; simp_all [scn0]⟩
theorem fld_zeroI {f : Fld} : f = fld0 ↔ f.number = 0 ∧ f.kind = 0 ∧ f.rep = false ∧ f.packed = false ∧ f.msg = 0 := ⟨fun h => by subst h; exact ⟨rfl, rfl, rfl, rfl, rfl⟩, fld_zero⟩
theorem ev_zero {e : Ev} : e = ev0 ↔ e.kind = 0 ∧ e.field = 0 ∧ e.bits = 0 ∧ e.len = 0 ∧ e.text = [] ∧ e.code = 0 ∧ e.at_ = 0 := ⟨fun h => by subst h; exact ⟨rfl, rfl, rfl, rfl, rfl, rfl, rfl⟩, fun h => ev_eq h⟩
theorem widthD_b (d : Dcd) : 0 ≤ widthD d ∧ widthD d ≤ 8 := by
 unfold widthD
 have h1 := widthOf_b d.wire
 have h2 := widthOf_b (wireOf d.field.kind)
 split
 ·exact h1
 ·split
  ·exact h2
  ·omega
theorem scanD_i (d : Dcd) (hp1 : List.length (d).stack ≤ bigN) : Fun Tryz.prog 46 [.agg (cDcd d)] [] (.v (vB (scanD d))) [] := by
 have hN : bigN = 274877906944 := rfl
 have hwd := widthD_b d
 refine fun_ofw Tryz.func46 (by kernel_rfl) (by kernel_rfl) (w := let z3 := 8 * d.scan.have_; let z2 := decide (Int.fdiv d.scan.bits (2 ^ min (Int.toNat z3) 64) = 0); let z4 := (.v (vB (decide (d.scan.bits = 0) && decide (d.scan.have_ = 0))) : S); let z6 := ([] : List Blk); let z7 := vB (scanD d); let z9 := (.v (.c (.int .u64 (IntKind.u64.wrap z3))) : S) = .v (.c (.int .u64 z3)); let z10 := widthD d - 1; let z1 := within d.scan.have_ 0 z10; let z11 := z2 = false → (.v (vB false) : S) = .v z7 ∧ z6 = []; let z12 := z1 = false → (.v (vB false) : S) = .v z7 ∧ z6 = []; let z13 := (.v (vI (IntKind.i64.wrap z3)) : S) = .v (vI z3); let z15 := widthD d; let z5 := z15 - d.scan.have_; let z8 := (.v (vI (IntKind.i64.wrap (z15 - 1))) : S) = .v (vI z10); let z14 := (.v (vI (IntKind.i64.wrap z5)) : S) = .v (vI z5); let z16 := vB (scanOk d.scan); (.seg [.call [] (.v (vI z15)) []] (.br (.seg [.call [] (.v (vI (topL d))) []] (.br (.seg [.as 21 (.v (vI z10)), .call [] (.v (vB z1)) []] (.br (.seg [.as 30 (.v (vI z3)), .as 31 (.v (.c (.int .u64 z3)))] (.br (.seg [.as 40 (.v (vI z5))] (.leaf () [])) (.leaf () []))) (.leaf () []))) (.seg [.as 21 (.v (vI z10)), .call [] (.v (vB z1)) []] (.br (.seg [.as 30 (.v (vI z3)), .as 31 (.v (.c (.int .u64 z3)))] (.br (.seg [.as 40 (.v (vI z5))] (.leaf () [])) (.leaf () []))) (.leaf () []))))) (.br (.leaf () []) (.br (.leaf () []) (.br (.leaf () []) (.seg [.call [] (.v z16) []] (.leaf () [])))))), (Fun Tryz.prog 71 [.agg (cDcd d)] [] (.v (vI z15)) []) ∧ ((decide (0 < widthD d)) = true → (Fun Tryz.prog 44 [.agg (cDcd d)] [] (.v (vI (topL d))) []) ∧ ((decide (d.mode = 8)) = true → z8 ∧ (Fun Tryz.prog 35 [vI d.scan.have_, vI 0, vI z10] [] (.v (vB z1)) []) ∧ (z1 = true → z13 ∧ z9 ∧ ((0 : Int) ≤ 8 * d.scan.have_) ∧ (z2 = true → z14 ∧ (.v (vB (decide (z15 - d.scan.have_ ≤ d.want))) : S) = .v z7 ∧ z6 = []) ∧ z11) ∧ z12) ∧ ((decide (d.mode = 8)) = false → z8 ∧ (Fun Tryz.prog 35 [vI d.scan.have_, vI 0, vI z10] [] (.v (vB z1)) []) ∧ (z1 = true → z13 ∧ z9 ∧ ((0 : Int) ≤ 8 * d.scan.have_) ∧ (z2 = true → z14 ∧ (.v (vB (decide (z15 - d.scan.have_ ≤ topL d))) : S) = .v z7 ∧ z6 = []) ∧ z11) ∧ z12)) ∧ ((decide (0 < widthD d)) = false → ((decide (d.mode = 6)) = true → z4 = .v z7 ∧ z6 = []) ∧ ((decide (d.mode = 6)) = false → ((decide (d.mode = 7)) = true → z4 = .v z7 ∧ z6 = []) ∧ ((decide (d.mode = 7)) = false → ((decide (d.mode = 9)) = true → z4 = .v z7 ∧ z6 = []) ∧ ((decide (d.mode = 9)) = false → (Fun Tryz.prog 72 [.agg (cScn d.scan)] [] (.v z16) []) ∧ (.v z16 : S) = .v z7 ∧ z6 = [])))))) (by kernel_rfl) ?_
 refine ⟨(widthD_i d), dsp (fun h1 p1 => ?_) fun h1 p1 => ?_⟩
 refine ⟨(topL_i d (by omega)), dsp (fun h2 p2 => ?_) fun h2 p2 => ?_⟩
 refine ⟨(as_i64 (by omega) (by omega)), (within_i _ _ _), fun h3 => have p3 := within_t h3; ?_, fun h3 => have p3 := within_f h3; ?_⟩
 refine ⟨(as_i64 (by omega) (by omega)), (as_u64 (by omega) (by omega)), (by omega), dsp (fun h4 p4 => ?_) fun h4 p4 => ?_⟩
 refine ⟨(as_i64 (by omega) (by omega)), (sB ?_), rfl⟩
 rotate_left
 refine ⟨(sB ?_), rfl⟩
 rotate_left
 refine ⟨(sB ?_), rfl⟩
 rotate_left
 refine ⟨(as_i64 (by omega) (by omega)), (within_i _ _ _), fun h3 => have p3 := within_t h3; ?_, fun h3 => have p3 := within_f h3; ?_⟩
 refine ⟨(as_i64 (by omega) (by omega)), (as_u64 (by omega) (by omega)), (by omega), dsp (fun h4 p4 => ?_) fun h4 p4 => ?_⟩
 refine ⟨(as_i64 (by omega) (by omega)), (sB ?_), rfl⟩
 rotate_left
 refine ⟨(sB ?_), rfl⟩
 rotate_left
 refine ⟨(sB ?_), rfl⟩
 rotate_left
 refine dsp (fun h2 p2 => ?_) fun h2 p2 => ?_
 refine ⟨(sB ?_), rfl⟩
 rotate_left
 refine dsp (fun h3 p3 => ?_) fun h3 p3 => ?_
 refine ⟨(sB ?_), rfl⟩
 rotate_left
 refine dsp (fun h4 p4 => ?_) fun h4 p4 => ?_
 refine ⟨(sB ?_), rfl⟩
 rotate_left
 refine ⟨(scanOk_i d.scan), (sB ?_), rfl⟩
 rotate_left
 all_goals first | (simp_all [scanD, roomD, scn_zero]; done) | (grind [scanD, roomD, scn_zero])
theorem modeD_i (d : Dcd) (hp1 : List.length (d).stack ≤ bigN) : Fun Tryz.prog 45 [.agg (cDcd d)] [] (.v (vB (wantD d && kindD d))) [] := by
 have hN : bigN = 274877906944 := rfl
 have hww : widthOf d.wire = 0 ∨ 0 ≤ d.wire := by unfold widthOf; split <;> (try split) <;> omega
 refine fun_ofw Tryz.func45 (by kernel_rfl) (by kernel_rfl) (w := let z1 := !(!(decide (d.field.number = 0) && (decide (d.field.kind = 0) && (decide (d.field.rep = false) && (decide (d.field.packed = false) && decide (d.field.msg = 0)))))); let z2 := vB (wantD d && kindD d); let z3 := vB (allowed d.field d.wire); let z4 := ([] : List Blk); let z5 := within d.want 1 (topL d); let z7 := (.v (vB false) : S); let z8 := decide (d.mode = 6); let z9 := decide (d.mode = 8); let z10 := vB (runs d.field); let z11 := decide (0 < widthOf d.wire); let z12 := cFld d.field; let z13 := (!z5) = true → z7 = .v z2 ∧ z4 = []; let z15 := vI (widthOf d.wire); let z16 := decide (d.mode = 3); let z17 := decide (d.wire = 0); let z18 := decide (d.mode = 4); let z19 := decide (d.wire = 2); let z20 := vI (topL d); let z21 : List V := [vI d.want, vI 1, vI (topL d)]; let z22 := (.v z3 : S); let z23 := decide (d.mode = 7); let z24 := decide (d.mode = 5); let z25 := z17 = false → z7 = .v z2 ∧ z4 = []; let z26 := z19 = false → z7 = .v z2 ∧ z4 = []; let z27 := z11 = false → z7 = .v z2 ∧ z4 = []; let z28 := (.v (vB true) : S); let z6 := z1 = true → z28 = .v z2 ∧ z4 = []; let z14 := z24 = false → z28 = .v z2 ∧ z4 = []; (.br (.seg [.br true, .ord (os 6 [3, 4]) [], .call [] (.v z20) [], .call [] (.v (vB z5)) []] (.br (.leaf () []) (.seg [.br true] (.br (.leaf () []) (.leaf () []))))) (.br (.seg [.br true, .ord (os 6 [3, 4]) [], .call [] (.v z20) [], .call [] (.v (vB z5)) []] (.br (.leaf () []) (.seg [.br false] (.br (.seg [.call [] (.v z10) []] (.leaf () [])) (.br (.br (.br (.leaf () []) (.seg [.call [] (.v z3) []] (.leaf () []))) (.leaf () [])) (.br (.br (.br (.leaf () []) (.seg [.call [] (.v z3) []] (.leaf () []))) (.leaf () [])) (.br (.seg [.call [] (.v z15) []] (.br (.br (.leaf () []) (.seg [.call [] (.v z3) []] (.leaf () []))) (.leaf () []))) (.leaf () [])))))))) (.br (.seg [.ord (os 6 [3, 4]) [], .call [] (.v z20) [], .call [] (.v (vB z5)) []] (.br (.leaf () []) (.seg [.br false, .br true, .call [] (.v z10) []] (.leaf () [])))) (.br (.leaf () []) (.seg [.br false, .br false] (.br (.br (.br (.leaf () []) (.seg [.call [] (.v z3) []] (.leaf () []))) (.leaf () [])) (.br (.br (.br (.leaf () []) (.seg [.call [] (.v z3) []] (.leaf () []))) (.leaf () [])) (.br (.seg [.call [] (.v z15) []] (.br (.br (.leaf () []) (.seg [.call [] (.v z3) []] (.leaf () []))) (.leaf () []))) (.leaf () [])))))))), (z8 = true → (z8 = true) ∧ (Fun Tryz.prog 44 [.agg (cDcd d)] [] (.v z20) []) ∧ (Fun Tryz.prog 35 z21 [] (.v (vB z5)) []) ∧ z13 ∧ ((!z5) = false → (z8 = true) ∧ ((decide (d.field.kind = 6)) = true → z28 = .v z2 ∧ z4 = []) ∧ ((decide (d.field.kind = 6)) = false → (.v (vB (decide (d.field.kind = 7))) : S) = .v z2 ∧ z4 = []))) ∧ (z8 = false → (z23 = true → (z23 = true) ∧ (Fun Tryz.prog 44 [.agg (cDcd d)] [] (.v z20) []) ∧ (Fun Tryz.prog 35 z21 [] (.v (vB z5)) []) ∧ z13 ∧ ((!z5) = false → (z8 = false) ∧ (z9 = true → (Fun Tryz.prog 68 [.agg z12] [] (.v z10) []) ∧ (.v z10 : S) = .v z2 ∧ z4 = []) ∧ (z9 = false → (z16 = true → (z17 = true → z6 ∧ (z1 = false → (Fun Tryz.prog 69 [.agg z12, vI d.wire] [] (.v z3) []) ∧ z22 = .v z2 ∧ z4 = [])) ∧ z25) ∧ (z16 = false → (z18 = true → (z19 = true → z6 ∧ (z1 = false → (Fun Tryz.prog 69 [.agg z12, vI d.wire] [] (.v z3) []) ∧ z22 = .v z2 ∧ z4 = [])) ∧ z26) ∧ (z18 = false → (z24 = true → (Fun Tryz.prog 70 [vI d.wire] [] (.v z15) []) ∧ (z11 = true → z6 ∧ (z1 = false → (Fun Tryz.prog 69 [.agg z12, vI d.wire] [] (.v z3) []) ∧ z22 = .v z2 ∧ z4 = [])) ∧ z27) ∧ z14))))) ∧ (z23 = false → (z9 = true → (Fun Tryz.prog 44 [.agg (cDcd d)] [] (.v z20) []) ∧ (Fun Tryz.prog 35 z21 [] (.v (vB z5)) []) ∧ z13 ∧ ((!z5) = false → (z8 = false) ∧ (z9 = true) ∧ (Fun Tryz.prog 68 [.agg z12] [] (.v z10) []) ∧ (.v z10 : S) = .v z2 ∧ z4 = [])) ∧ (z9 = false → ((!decide (d.want = 0)) = true → z7 = .v z2 ∧ z4 = []) ∧ ((!decide (d.want = 0)) = false → (z8 = false) ∧ (z9 = false) ∧ (z16 = true → (z17 = true → z6 ∧ (z1 = false → (Fun Tryz.prog 69 [.agg z12, vI d.wire] [] (.v z3) []) ∧ z22 = .v z2 ∧ z4 = [])) ∧ z25) ∧ (z16 = false → (z18 = true → (z19 = true → z6 ∧ (z1 = false → (Fun Tryz.prog 69 [.agg z12, vI d.wire] [] (.v z3) []) ∧ z22 = .v z2 ∧ z4 = [])) ∧ z26) ∧ (z18 = false → (z24 = true → (Fun Tryz.prog 70 [vI d.wire] [] (.v z15) []) ∧ (z11 = true → z6 ∧ (z1 = false → (Fun Tryz.prog 69 [.agg z12, vI d.wire] [] (.v z3) []) ∧ z22 = .v z2 ∧ z4 = [])) ∧ z27) ∧ z14)))))))) (by kernel_rfl) ?_
 refine dsp (fun h1 p1 => ?_) fun h1 p1 => ?_
 refine ⟨h1, (topL_i d (by omega)), (within_i _ _ _), fun h2 => have q2 := bnot_t h2; have p2 := within_f q2; ?_, fun h2 => have q2 := bnot_f h2; have p2 := within_t q2; ?_⟩
 refine ⟨(sB ?_), rfl⟩
 rotate_left
 refine ⟨h1, dsp (fun h3 p3 => ?_) fun h3 p3 => ?_⟩
 refine ⟨(sB ?_), rfl⟩
 rotate_left
 refine ⟨(sB ?_), rfl⟩
 rotate_left
 refine dsp (fun h2 p2 => ?_) fun h2 p2 => ?_
 refine ⟨h2, (topL_i d (by omega)), (within_i _ _ _), fun h3 => have q3 := bnot_t h3; have p3 := within_f q3; ?_, fun h3 => have q3 := bnot_f h3; have p3 := within_t q3; ?_⟩
 refine ⟨(sB ?_), rfl⟩
 rotate_left
 refine ⟨h1, dsp (fun h4 p4 => ?_) fun h4 p4 => ?_⟩
 refine ⟨(runs_i d.field), (sB ?_), rfl⟩
 rotate_left
 refine dsp (fun h5 p5 => ?_) fun h5 p5 => ?_
 refine dsp (fun h6 p6 => ?_) fun h6 p6 => ?_
 refine ⟨fun h7 => have q7 := bnot_t h7; have q7' := bnot_f q7; have p7 := (andT dT (andT dT (andT dT (andT dT dT)))).1 q7'; ?_, fun h7 => have q7 := bnot_f h7; have q7' := bnot_t q7; have p7 := (andF dT (andF dT (andF dT (andF dT dF)))).1 q7'; ?_⟩
 refine ⟨(sB ?_), rfl⟩
 rotate_left
 refine ⟨(allowed_i d.field _ (by omega)), (sB ?_), rfl⟩
 rotate_left
 refine ⟨(sB ?_), rfl⟩
 rotate_left
 refine dsp (fun h6 p6 => ?_) fun h6 p6 => ?_
 refine dsp (fun h7 p7 => ?_) fun h7 p7 => ?_
 refine ⟨fun h8 => have q8 := bnot_t h8; have q8' := bnot_f q8; have p8 := (andT dT (andT dT (andT dT (andT dT dT)))).1 q8'; ?_, fun h8 => have q8 := bnot_f h8; have q8' := bnot_t q8; have p8 := (andF dT (andF dT (andF dT (andF dT dF)))).1 q8'; ?_⟩
 refine ⟨(sB ?_), rfl⟩
 rotate_left
 refine ⟨(allowed_i d.field _ (by omega)), (sB ?_), rfl⟩
 rotate_left
 refine ⟨(sB ?_), rfl⟩
 rotate_left
 refine dsp (fun h7 p7 => ?_) fun h7 p7 => ?_
 refine ⟨(widthOf_i _), dsp (fun h8 p8 => ?_) fun h8 p8 => ?_⟩
 refine ⟨fun h9 => have q9 := bnot_t h9; have q9' := bnot_f q9; have p9 := (andT dT (andT dT (andT dT (andT dT dT)))).1 q9'; ?_, fun h9 => have q9 := bnot_f h9; have q9' := bnot_t q9; have p9 := (andF dT (andF dT (andF dT (andF dT dF)))).1 q9'; ?_⟩
 refine ⟨(sB ?_), rfl⟩
 rotate_left
 refine ⟨(allowed_i d.field _ (by omega)), (sB ?_), rfl⟩
 rotate_left
 refine ⟨(sB ?_), rfl⟩
 rotate_left
 refine ⟨(sB ?_), rfl⟩
 rotate_left
 refine dsp (fun h3 p3 => ?_) fun h3 p3 => ?_
 refine ⟨(topL_i d (by omega)), (within_i _ _ _), fun h4 => have q4 := bnot_t h4; have p4 := within_f q4; ?_, fun h4 => have q4 := bnot_f h4; have p4 := within_t q4; ?_⟩
 refine ⟨(sB ?_), rfl⟩
 rotate_left
 refine ⟨h1, h3, (runs_i d.field), (sB ?_), rfl⟩
 rotate_left
 refine ⟨fun h4 => have q4 := bnot_t h4; have p4 := of_decide_eq_false q4; ?_, fun h4 => have q4 := bnot_f h4; have p4 := of_decide_eq_true q4; ?_⟩
 refine ⟨(sB ?_), rfl⟩
 rotate_left
 refine ⟨h1, h3, dsp (fun h5 p5 => ?_) fun h5 p5 => ?_⟩
 refine dsp (fun h6 p6 => ?_) fun h6 p6 => ?_
 refine ⟨fun h7 => have q7 := bnot_t h7; have q7' := bnot_f q7; have p7 := (andT dT (andT dT (andT dT (andT dT dT)))).1 q7'; ?_, fun h7 => have q7 := bnot_f h7; have q7' := bnot_t q7; have p7 := (andF dT (andF dT (andF dT (andF dT dF)))).1 q7'; ?_⟩
 refine ⟨(sB ?_), rfl⟩
 rotate_left
 refine ⟨(allowed_i d.field _ (by omega)), (sB ?_), rfl⟩
 rotate_left
 refine ⟨(sB ?_), rfl⟩
 rotate_left
 refine dsp (fun h6 p6 => ?_) fun h6 p6 => ?_
 refine dsp (fun h7 p7 => ?_) fun h7 p7 => ?_
 refine ⟨fun h8 => have q8 := bnot_t h8; have q8' := bnot_f q8; have p8 := (andT dT (andT dT (andT dT (andT dT dT)))).1 q8'; ?_, fun h8 => have q8 := bnot_f h8; have q8' := bnot_t q8; have p8 := (andF dT (andF dT (andF dT (andF dT dF)))).1 q8'; ?_⟩
 refine ⟨(sB ?_), rfl⟩
 rotate_left
 refine ⟨(allowed_i d.field _ (by omega)), (sB ?_), rfl⟩
 rotate_left
 refine ⟨(sB ?_), rfl⟩
 rotate_left
 refine dsp (fun h7 p7 => ?_) fun h7 p7 => ?_
 refine ⟨(widthOf_i _), dsp (fun h8 p8 => ?_) fun h8 p8 => ?_⟩
 refine ⟨fun h9 => have q9 := bnot_t h9; have q9' := bnot_f q9; have p9 := (andT dT (andT dT (andT dT (andT dT dT)))).1 q9'; ?_, fun h9 => have q9 := bnot_f h9; have q9' := bnot_t q9; have p9 := (andF dT (andF dT (andF dT (andF dT dF)))).1 q9'; ?_⟩
 refine ⟨(sB ?_), rfl⟩
 rotate_left
 refine ⟨(allowed_i d.field _ (by omega)), (sB ?_), rfl⟩
 rotate_left
 refine ⟨(sB ?_), rfl⟩
 rotate_left
 refine ⟨(sB ?_), rfl⟩
 rotate_left
 all_goals first | (simp_all [wantD, kindD, fitD, fld_zeroI, isBytes]; done) | (grind [wantD, kindD, fitD, fld_zeroI, isBytes])
theorem wireOk_t {w : Int} (h : wireOk w = true) : 0 ≤ w ∧ w ≤ 5 := by simp [wireOk] at h; omega
theorem levelsOk_t {d : Dcd} (h : levelsOk d = true) : planOk d.plan = true := by simp only [levelsOk, Bool.and_eq_true] at h; exact h.1.1
theorem decOk_i (d : Dcd) (hp1 : List.length (d).stack ≤ bigN) (hp2 : List.length (d).plan.shapes ≤ bigN) : Fun Tryz.prog 22 [.agg (cDcd d)] [] (.v (vB (decOk d))) [] := by
 have hN : bigN = 274877906944 := rfl
 refine fun_ofw Tryz.func22 (by kernel_rfl) (by kernel_rfl) (w := let z2 := wantD d && kindD d; let z3 := !(decide (d.end_.kind = 0) && (decide (d.end_.field = 0) && (decide (d.end_.bits = 0) && (decide (d.end_.len = 0) && (decide (d.end_.text = []) && (decide (d.end_.code = 0) && decide (d.end_.at_ = 0))))))); let z4 := vB (scanD d); let z6 := ([] : List Blk); let z7 := vB (decOk d); let z8 := !decide (d.mode = 1); let z10 := !decide (d.mode = 9); let z11 := decide (0 < ((List.length d.stack : Nat) : Int)); let z12 := (.v (vB false) : S); let z1 := z2 = false → z12 = .v z7 ∧ z6 = []; let z5 := z11 = true → z12 = .v z7 ∧ z6 = []; let z13 := decide (d.mode = 1); let z14 := (.v z4 : S); let z15 := !(decide (d.field.number = 0) && (decide (d.field.kind = 0) && (decide (d.field.rep = false) && (decide (d.field.packed = false) && decide (d.field.msg = 0))))); let z16 := vI (topL d); let z17 := decide (topL d < 1); let z9 := z17 = true → z12 = .v z7 ∧ z6 = []; let z18 := terminal d.end_; let z19 := z3 = true → z12 = .v z7 ∧ z6 = []; let z20 := eventOk d.end_; let z21 := known (d.plan).shapes d.field; let z22 := within d.at_ 0 1000000000; let z23 := z10 = false; let z24 := within d.start 0 d.at_; let z25 := z10 = true; let z26 := decide (d.mode = 9); let z27 := within d.mode 1 9; let z28 := wireOk d.wire; let z29 := (!z20) = true → z12 = .v z7 ∧ z6 = []; let z30 := (!z18) = true → z12 = .v z7 ∧ z6 = []; let z31 := utfOk d.utf; (.seg [.call [] (.v (vB (levelsOk d))) []] (.br (.leaf () []) (.seg [.call [] (.v (vB z27)) []] (.br (.leaf () []) (.seg [.call [] (.v (vB z22)) []] (.br (.leaf () []) (.seg [.call [] (.v (vB z24)) []] (.br (.leaf () []) (.seg [.call [] (.v (vB z31)) []] (.br (.leaf () []) (.seg [.call [] (.v (vB z28)) []] (.br (.leaf () []) (.br (.seg [.call [] (.v (vB z21)) []] (.br (.leaf () []) (.br (.seg [.call [] (.v (vB z20)) []] (.br (.leaf () []) (.seg [.call [] (.v (vB z18)) []] (.br (.leaf () []) (.br (.br (.leaf () []) (.br (.br (.leaf () []) (.br (.seg [.br true, .call [] (.v z16) []] (.br (.leaf () []) (.seg [.call [] (.v (vB z2)) []] (.br (.seg [.call [] (.v z4) []] (.leaf () [])) (.leaf () []))))) (.seg [.call [] (.v (vB z2)) []] (.br (.seg [.call [] (.v z4) []] (.leaf () [])) (.leaf () []))))) (.br (.seg [.br true, .call [] (.v z16) []] (.br (.leaf () []) (.seg [.call [] (.v (vB z2)) []] (.br (.seg [.call [] (.v z4) []] (.leaf () [])) (.leaf () []))))) (.seg [.call [] (.v (vB z2)) []] (.br (.seg [.call [] (.v z4) []] (.leaf () [])) (.leaf () [])))))) (.br (.br (.leaf () []) (.br (.seg [.br false, .call [] (.v (vB z2)) []] (.br (.seg [.call [] (.v z4) []] (.leaf () [])) (.leaf () []))) (.seg [.call [] (.v (vB z2)) []] (.br (.seg [.call [] (.v z4) []] (.leaf () [])) (.leaf () []))))) (.br (.seg [.br false, .call [] (.v (vB z2)) []] (.br (.seg [.call [] (.v z4) []] (.leaf () [])) (.leaf () []))) (.seg [.call [] (.v (vB z2)) []] (.br (.seg [.call [] (.v z4) []] (.leaf () [])) (.leaf () [])))))))))) (.br (.br (.leaf () []) (.br (.br (.leaf () []) (.br (.seg [.br true, .call [] (.v z16) []] (.br (.leaf () []) (.seg [.call [] (.v (vB z2)) []] (.br (.seg [.call [] (.v z4) []] (.leaf () [])) (.leaf () []))))) (.seg [.call [] (.v (vB z2)) []] (.br (.seg [.call [] (.v z4) []] (.leaf () [])) (.leaf () []))))) (.br (.seg [.br true, .call [] (.v z16) []] (.br (.leaf () []) (.seg [.call [] (.v (vB z2)) []] (.br (.seg [.call [] (.v z4) []] (.leaf () [])) (.leaf () []))))) (.seg [.call [] (.v (vB z2)) []] (.br (.seg [.call [] (.v z4) []] (.leaf () [])) (.leaf () [])))))) (.br (.br (.leaf () []) (.br (.seg [.br false, .call [] (.v (vB z2)) []] (.br (.seg [.call [] (.v z4) []] (.leaf () [])) (.leaf () []))) (.seg [.call [] (.v (vB z2)) []] (.br (.seg [.call [] (.v z4) []] (.leaf () [])) (.leaf () []))))) (.br (.seg [.br false, .call [] (.v (vB z2)) []] (.br (.seg [.call [] (.v z4) []] (.leaf () [])) (.leaf () []))) (.seg [.call [] (.v (vB z2)) []] (.br (.seg [.call [] (.v z4) []] (.leaf () [])) (.leaf () []))))))))) (.br (.seg [.call [] (.v (vB z20)) []] (.br (.leaf () []) (.seg [.call [] (.v (vB z18)) []] (.br (.leaf () []) (.br (.br (.leaf () []) (.br (.br (.leaf () []) (.br (.seg [.br true, .call [] (.v z16) []] (.br (.leaf () []) (.seg [.call [] (.v (vB z2)) []] (.br (.seg [.call [] (.v z4) []] (.leaf () [])) (.leaf () []))))) (.seg [.call [] (.v (vB z2)) []] (.br (.seg [.call [] (.v z4) []] (.leaf () [])) (.leaf () []))))) (.br (.seg [.br true, .call [] (.v z16) []] (.br (.leaf () []) (.seg [.call [] (.v (vB z2)) []] (.br (.seg [.call [] (.v z4) []] (.leaf () [])) (.leaf () []))))) (.seg [.call [] (.v (vB z2)) []] (.br (.seg [.call [] (.v z4) []] (.leaf () [])) (.leaf () [])))))) (.br (.br (.leaf () []) (.br (.seg [.br false, .call [] (.v (vB z2)) []] (.br (.seg [.call [] (.v z4) []] (.leaf () [])) (.leaf () []))) (.seg [.call [] (.v (vB z2)) []] (.br (.seg [.call [] (.v z4) []] (.leaf () [])) (.leaf () []))))) (.br (.seg [.br false, .call [] (.v (vB z2)) []] (.br (.seg [.call [] (.v z4) []] (.leaf () [])) (.leaf () []))) (.seg [.call [] (.v (vB z2)) []] (.br (.seg [.call [] (.v z4) []] (.leaf () [])) (.leaf () [])))))))))) (.br (.br (.leaf () []) (.br (.br (.leaf () []) (.br (.seg [.br true, .call [] (.v z16) []] (.br (.leaf () []) (.seg [.call [] (.v (vB z2)) []] (.br (.seg [.call [] (.v z4) []] (.leaf () [])) (.leaf () []))))) (.seg [.call [] (.v (vB z2)) []] (.br (.seg [.call [] (.v z4) []] (.leaf () [])) (.leaf () []))))) (.br (.seg [.br true, .call [] (.v z16) []] (.br (.leaf () []) (.seg [.call [] (.v (vB z2)) []] (.br (.seg [.call [] (.v z4) []] (.leaf () [])) (.leaf () []))))) (.seg [.call [] (.v (vB z2)) []] (.br (.seg [.call [] (.v z4) []] (.leaf () [])) (.leaf () [])))))) (.br (.br (.leaf () []) (.br (.seg [.br false, .call [] (.v (vB z2)) []] (.br (.seg [.call [] (.v z4) []] (.leaf () [])) (.leaf () []))) (.seg [.call [] (.v (vB z2)) []] (.br (.seg [.call [] (.v z4) []] (.leaf () [])) (.leaf () []))))) (.br (.seg [.br false, .call [] (.v (vB z2)) []] (.br (.seg [.call [] (.v z4) []] (.leaf () [])) (.leaf () []))) (.seg [.call [] (.v (vB z2)) []] (.br (.seg [.call [] (.v z4) []] (.leaf () [])) (.leaf () []))))))))))))))))))), (Fun Tryz.prog 38 [.agg (cDcd d)] [] (.v (vB (levelsOk d))) []) ∧ ((!(levelsOk d)) = true → z12 = .v z7 ∧ z6 = []) ∧ ((!(levelsOk d)) = false → (Fun Tryz.prog 35 [vI d.mode, vI 1, vI 9] [] (.v (vB z27)) []) ∧ ((!z27) = true → z12 = .v z7 ∧ z6 = []) ∧ ((!z27) = false → (Fun Tryz.prog 35 [vI d.at_, vI 0, vI 1000000000] [] (.v (vB z22)) []) ∧ ((!z22) = true → z12 = .v z7 ∧ z6 = []) ∧ ((!z22) = false → (Fun Tryz.prog 35 [vI d.start, vI 0, vI d.at_] [] (.v (vB z24)) []) ∧ ((!z24) = true → z12 = .v z7 ∧ z6 = []) ∧ ((!z24) = false → (Fun Tryz.prog 39 [.agg (cUtf d.utf)] [] (.v (vB z31)) []) ∧ ((!z31) = true → z12 = .v z7 ∧ z6 = []) ∧ ((!z31) = false → (Fun Tryz.prog 40 [vI d.wire] [] (.v (vB z28)) []) ∧ ((!z28) = true → z12 = .v z7 ∧ z6 = []) ∧ ((!z28) = false → (z15 = true → (Fun Tryz.prog 41 [.agg (cPln d.plan), .agg (cFld d.field)] [] (.v (vB z21)) []) ∧ ((!z21) = true → z12 = .v z7 ∧ z6 = []) ∧ ((!z21) = false → (z26 = true → (Fun Tryz.prog 42 [.agg (cEv d.end_)] [] (.v (vB z20)) []) ∧ z29 ∧ ((!z20) = false → (Fun Tryz.prog 43 [.agg (cEv d.end_)] [] (.v (vB z18)) []) ∧ z30 ∧ ((!z18) = false → (z10 = true → z19 ∧ (z3 = false → (z13 = true → z5 ∧ (z11 = false → (z8 = true → z25 ∧ (Fun Tryz.prog 44 [.agg (cDcd d)] [] (.v z16) []) ∧ z9 ∧ (z17 = false → (Fun Tryz.prog 45 [.agg (cDcd d)] [] (.v (vB z2)) []) ∧ (z2 = true → (Fun Tryz.prog 46 [.agg (cDcd d)] [] (.v z4) []) ∧ z14 = .v z7 ∧ z6 = []) ∧ z1)) ∧ (z8 = false → (Fun Tryz.prog 45 [.agg (cDcd d)] [] (.v (vB z2)) []) ∧ (z2 = true → (Fun Tryz.prog 46 [.agg (cDcd d)] [] (.v z4) []) ∧ z14 = .v z7 ∧ z6 = []) ∧ z1))) ∧ (z13 = false → (z8 = true → z25 ∧ (Fun Tryz.prog 44 [.agg (cDcd d)] [] (.v z16) []) ∧ z9 ∧ (z17 = false → (Fun Tryz.prog 45 [.agg (cDcd d)] [] (.v (vB z2)) []) ∧ (z2 = true → (Fun Tryz.prog 46 [.agg (cDcd d)] [] (.v z4) []) ∧ z14 = .v z7 ∧ z6 = []) ∧ z1)) ∧ (z8 = false → (Fun Tryz.prog 45 [.agg (cDcd d)] [] (.v (vB z2)) []) ∧ (z2 = true → (Fun Tryz.prog 46 [.agg (cDcd d)] [] (.v z4) []) ∧ z14 = .v z7 ∧ z6 = []) ∧ z1)))) ∧ (z10 = false → (z13 = true → z5 ∧ (z11 = false → (z8 = true → z23 ∧ (Fun Tryz.prog 45 [.agg (cDcd d)] [] (.v (vB z2)) []) ∧ (z2 = true → (Fun Tryz.prog 46 [.agg (cDcd d)] [] (.v z4) []) ∧ z14 = .v z7 ∧ z6 = []) ∧ z1) ∧ (z8 = false → (Fun Tryz.prog 45 [.agg (cDcd d)] [] (.v (vB z2)) []) ∧ (z2 = true → (Fun Tryz.prog 46 [.agg (cDcd d)] [] (.v z4) []) ∧ z14 = .v z7 ∧ z6 = []) ∧ z1))) ∧ (z13 = false → (z8 = true → z23 ∧ (Fun Tryz.prog 45 [.agg (cDcd d)] [] (.v (vB z2)) []) ∧ (z2 = true → (Fun Tryz.prog 46 [.agg (cDcd d)] [] (.v z4) []) ∧ z14 = .v z7 ∧ z6 = []) ∧ z1) ∧ (z8 = false → (Fun Tryz.prog 45 [.agg (cDcd d)] [] (.v (vB z2)) []) ∧ (z2 = true → (Fun Tryz.prog 46 [.agg (cDcd d)] [] (.v z4) []) ∧ z14 = .v z7 ∧ z6 = []) ∧ z1)))))) ∧ (z26 = false → (z10 = true → z19 ∧ (z3 = false → (z13 = true → z5 ∧ (z11 = false → (z8 = true → z25 ∧ (Fun Tryz.prog 44 [.agg (cDcd d)] [] (.v z16) []) ∧ z9 ∧ (z17 = false → (Fun Tryz.prog 45 [.agg (cDcd d)] [] (.v (vB z2)) []) ∧ (z2 = true → (Fun Tryz.prog 46 [.agg (cDcd d)] [] (.v z4) []) ∧ z14 = .v z7 ∧ z6 = []) ∧ z1)) ∧ (z8 = false → (Fun Tryz.prog 45 [.agg (cDcd d)] [] (.v (vB z2)) []) ∧ (z2 = true → (Fun Tryz.prog 46 [.agg (cDcd d)] [] (.v z4) []) ∧ z14 = .v z7 ∧ z6 = []) ∧ z1))) ∧ (z13 = false → (z8 = true → z25 ∧ (Fun Tryz.prog 44 [.agg (cDcd d)] [] (.v z16) []) ∧ z9 ∧ (z17 = false → (Fun Tryz.prog 45 [.agg (cDcd d)] [] (.v (vB z2)) []) ∧ (z2 = true → (Fun Tryz.prog 46 [.agg (cDcd d)] [] (.v z4) []) ∧ z14 = .v z7 ∧ z6 = []) ∧ z1)) ∧ (z8 = false → (Fun Tryz.prog 45 [.agg (cDcd d)] [] (.v (vB z2)) []) ∧ (z2 = true → (Fun Tryz.prog 46 [.agg (cDcd d)] [] (.v z4) []) ∧ z14 = .v z7 ∧ z6 = []) ∧ z1)))) ∧ (z10 = false → (z13 = true → z5 ∧ (z11 = false → (z8 = true → z23 ∧ (Fun Tryz.prog 45 [.agg (cDcd d)] [] (.v (vB z2)) []) ∧ (z2 = true → (Fun Tryz.prog 46 [.agg (cDcd d)] [] (.v z4) []) ∧ z14 = .v z7 ∧ z6 = []) ∧ z1) ∧ (z8 = false → (Fun Tryz.prog 45 [.agg (cDcd d)] [] (.v (vB z2)) []) ∧ (z2 = true → (Fun Tryz.prog 46 [.agg (cDcd d)] [] (.v z4) []) ∧ z14 = .v z7 ∧ z6 = []) ∧ z1))) ∧ (z13 = false → (z8 = true → z23 ∧ (Fun Tryz.prog 45 [.agg (cDcd d)] [] (.v (vB z2)) []) ∧ (z2 = true → (Fun Tryz.prog 46 [.agg (cDcd d)] [] (.v z4) []) ∧ z14 = .v z7 ∧ z6 = []) ∧ z1) ∧ (z8 = false → (Fun Tryz.prog 45 [.agg (cDcd d)] [] (.v (vB z2)) []) ∧ (z2 = true → (Fun Tryz.prog 46 [.agg (cDcd d)] [] (.v z4) []) ∧ z14 = .v z7 ∧ z6 = []) ∧ z1)))))) ∧ (z15 = false → (z26 = true → (Fun Tryz.prog 42 [.agg (cEv d.end_)] [] (.v (vB z20)) []) ∧ z29 ∧ ((!z20) = false → (Fun Tryz.prog 43 [.agg (cEv d.end_)] [] (.v (vB z18)) []) ∧ z30 ∧ ((!z18) = false → (z10 = true → z19 ∧ (z3 = false → (z13 = true → z5 ∧ (z11 = false → (z8 = true → z25 ∧ (Fun Tryz.prog 44 [.agg (cDcd d)] [] (.v z16) []) ∧ z9 ∧ (z17 = false → (Fun Tryz.prog 45 [.agg (cDcd d)] [] (.v (vB z2)) []) ∧ (z2 = true → (Fun Tryz.prog 46 [.agg (cDcd d)] [] (.v z4) []) ∧ z14 = .v z7 ∧ z6 = []) ∧ z1)) ∧ (z8 = false → (Fun Tryz.prog 45 [.agg (cDcd d)] [] (.v (vB z2)) []) ∧ (z2 = true → (Fun Tryz.prog 46 [.agg (cDcd d)] [] (.v z4) []) ∧ z14 = .v z7 ∧ z6 = []) ∧ z1))) ∧ (z13 = false → (z8 = true → z25 ∧ (Fun Tryz.prog 44 [.agg (cDcd d)] [] (.v z16) []) ∧ z9 ∧ (z17 = false → (Fun Tryz.prog 45 [.agg (cDcd d)] [] (.v (vB z2)) []) ∧ (z2 = true → (Fun Tryz.prog 46 [.agg (cDcd d)] [] (.v z4) []) ∧ z14 = .v z7 ∧ z6 = []) ∧ z1)) ∧ (z8 = false → (Fun Tryz.prog 45 [.agg (cDcd d)] [] (.v (vB z2)) []) ∧ (z2 = true → (Fun Tryz.prog 46 [.agg (cDcd d)] [] (.v z4) []) ∧ z14 = .v z7 ∧ z6 = []) ∧ z1)))) ∧ (z10 = false → (z13 = true → z5 ∧ (z11 = false → (z8 = true → z23 ∧ (Fun Tryz.prog 45 [.agg (cDcd d)] [] (.v (vB z2)) []) ∧ (z2 = true → (Fun Tryz.prog 46 [.agg (cDcd d)] [] (.v z4) []) ∧ z14 = .v z7 ∧ z6 = []) ∧ z1) ∧ (z8 = false → (Fun Tryz.prog 45 [.agg (cDcd d)] [] (.v (vB z2)) []) ∧ (z2 = true → (Fun Tryz.prog 46 [.agg (cDcd d)] [] (.v z4) []) ∧ z14 = .v z7 ∧ z6 = []) ∧ z1))) ∧ (z13 = false → (z8 = true → z23 ∧ (Fun Tryz.prog 45 [.agg (cDcd d)] [] (.v (vB z2)) []) ∧ (z2 = true → (Fun Tryz.prog 46 [.agg (cDcd d)] [] (.v z4) []) ∧ z14 = .v z7 ∧ z6 = []) ∧ z1) ∧ (z8 = false → (Fun Tryz.prog 45 [.agg (cDcd d)] [] (.v (vB z2)) []) ∧ (z2 = true → (Fun Tryz.prog 46 [.agg (cDcd d)] [] (.v z4) []) ∧ z14 = .v z7 ∧ z6 = []) ∧ z1)))))) ∧ (z26 = false → (z10 = true → z19 ∧ (z3 = false → (z13 = true → z5 ∧ (z11 = false → (z8 = true → z25 ∧ (Fun Tryz.prog 44 [.agg (cDcd d)] [] (.v z16) []) ∧ z9 ∧ (z17 = false → (Fun Tryz.prog 45 [.agg (cDcd d)] [] (.v (vB z2)) []) ∧ (z2 = true → (Fun Tryz.prog 46 [.agg (cDcd d)] [] (.v z4) []) ∧ z14 = .v z7 ∧ z6 = []) ∧ z1)) ∧ (z8 = false → (Fun Tryz.prog 45 [.agg (cDcd d)] [] (.v (vB z2)) []) ∧ (z2 = true → (Fun Tryz.prog 46 [.agg (cDcd d)] [] (.v z4) []) ∧ z14 = .v z7 ∧ z6 = []) ∧ z1))) ∧ (z13 = false → (z8 = true → z25 ∧ (Fun Tryz.prog 44 [.agg (cDcd d)] [] (.v z16) []) ∧ z9 ∧ (z17 = false → (Fun Tryz.prog 45 [.agg (cDcd d)] [] (.v (vB z2)) []) ∧ (z2 = true → (Fun Tryz.prog 46 [.agg (cDcd d)] [] (.v z4) []) ∧ z14 = .v z7 ∧ z6 = []) ∧ z1)) ∧ (z8 = false → (Fun Tryz.prog 45 [.agg (cDcd d)] [] (.v (vB z2)) []) ∧ (z2 = true → (Fun Tryz.prog 46 [.agg (cDcd d)] [] (.v z4) []) ∧ z14 = .v z7 ∧ z6 = []) ∧ z1)))) ∧ (z10 = false → (z13 = true → z5 ∧ (z11 = false → (z8 = true → z23 ∧ (Fun Tryz.prog 45 [.agg (cDcd d)] [] (.v (vB z2)) []) ∧ (z2 = true → (Fun Tryz.prog 46 [.agg (cDcd d)] [] (.v z4) []) ∧ z14 = .v z7 ∧ z6 = []) ∧ z1) ∧ (z8 = false → (Fun Tryz.prog 45 [.agg (cDcd d)] [] (.v (vB z2)) []) ∧ (z2 = true → (Fun Tryz.prog 46 [.agg (cDcd d)] [] (.v z4) []) ∧ z14 = .v z7 ∧ z6 = []) ∧ z1))) ∧ (z13 = false → (z8 = true → z23 ∧ (Fun Tryz.prog 45 [.agg (cDcd d)] [] (.v (vB z2)) []) ∧ (z2 = true → (Fun Tryz.prog 46 [.agg (cDcd d)] [] (.v z4) []) ∧ z14 = .v z7 ∧ z6 = []) ∧ z1) ∧ (z8 = false → (Fun Tryz.prog 45 [.agg (cDcd d)] [] (.v (vB z2)) []) ∧ (z2 = true → (Fun Tryz.prog 46 [.agg (cDcd d)] [] (.v z4) []) ∧ z14 = .v z7 ∧ z6 = []) ∧ z1))))))))))))) (by kernel_rfl) ?_
 refine ⟨(levelsOk_i d (by omega) (by omega)), fun h1 => have q1 := bnot_t h1; ?_, fun h1 => have q1 := bnot_f h1; ?_⟩
 refine ⟨(sB ?_), rfl⟩
 rotate_left
 have hpt := planOk_t (levelsOk_t q1)
 refine ⟨(within_i _ _ _), fun h2 => have q2 := bnot_t h2; have p2 := within_f q2; ?_, fun h2 => have q2 := bnot_f h2; have p2 := within_t q2; ?_⟩
 refine ⟨(sB ?_), rfl⟩
 rotate_left
 refine ⟨(within_i _ _ _), fun h3 => have q3 := bnot_t h3; have p3 := within_f q3; ?_, fun h3 => have q3 := bnot_f h3; have p3 := within_t q3; ?_⟩
 refine ⟨(sB ?_), rfl⟩
 rotate_left
 refine ⟨(within_i _ _ _), fun h4 => have q4 := bnot_t h4; have p4 := within_f q4; ?_, fun h4 => have q4 := bnot_f h4; have p4 := within_t q4; ?_⟩
 refine ⟨(sB ?_), rfl⟩
 rotate_left
 refine ⟨(utfOk_i d.utf), fun h5 => have q5 := bnot_t h5; ?_, fun h5 => have q5 := bnot_f h5; have p5 := utfOk_want q5; ?_⟩
 refine ⟨(sB ?_), rfl⟩
 rotate_left
 refine ⟨(wireOk_i _), fun h6 => have q6 := bnot_t h6; ?_, fun h6 => have q6 := bnot_f h6; ?_⟩
 refine ⟨(sB ?_), rfl⟩
 rotate_left
 have hwk := wireOk_t (w := d.wire) q6
 refine ⟨fun h7 => have q7 := bnot_t h7; have p7 := (andF dT (andF dT (andF dT (andF dT dF)))).1 q7; ?_, fun h7 => have q7 := bnot_f h7; have p7 := (andT dT (andT dT (andT dT (andT dT dT)))).1 q7; ?_⟩
 refine ⟨(known_i d.plan d.field (by omega) (schemaOk_fields hpt.2.1)), fun h8 => have q8 := bnot_t h8; ?_, fun h8 => have q8 := bnot_f h8; ?_⟩
 refine ⟨(sB ?_), rfl⟩
 rotate_left
 refine dsp (fun h9 p9 => ?_) fun h9 p9 => ?_
 refine ⟨(eventOk_i d.end_), fun h10 => have q10 := bnot_t h10; ?_, fun h10 => have q10 := bnot_f h10; ?_⟩
 refine ⟨(sB ?_), rfl⟩
 rotate_left
 refine ⟨(terminal_i d.end_), fun h11 => have q11 := bnot_t h11; ?_, fun h11 => have q11 := bnot_f h11; ?_⟩
 refine ⟨(sB ?_), rfl⟩
 rotate_left
 refine ⟨fun h12 => have q12 := bnot_t h12; have p12 := of_decide_eq_false q12; ?_, fun h12 => have q12 := bnot_f h12; have p12 := of_decide_eq_true q12; ?_⟩
 refine ⟨fun h13 => have q13 := bnot_t h13; have p13 := (andF dT (andF dT (andF dT (andF dT (andF dT (andF dT dF)))))).1 q13; ?_, fun h13 => have q13 := bnot_f h13; have p13 := (andT dT (andT dT (andT dT (andT dT (andT dT (andT dT dT)))))).1 q13; ?_⟩
 refine ⟨(sB ?_), rfl⟩
 rotate_left
 refine dsp (fun h14 p14 => ?_) fun h14 p14 => ?_
 refine dsp (fun h15 p15 => ?_) fun h15 p15 => ?_
 refine ⟨(sB ?_), rfl⟩
 rotate_left
 refine ⟨fun h16 => have q16 := bnot_t h16; have p16 := of_decide_eq_false q16; ?_, fun h16 => have q16 := bnot_f h16; have p16 := of_decide_eq_true q16; ?_⟩
 refine ⟨h12, (topL_i d (by omega)), dsp (fun h17 p17 => ?_) fun h17 p17 => ?_⟩
 refine ⟨(sB ?_), rfl⟩
 rotate_left
 refine ⟨(modeD_i d (by omega)), fun h18 => ?_, fun h18 => ?_⟩
 refine ⟨(scanD_i d (by omega)), (sB ?_), rfl⟩
 rotate_left
 refine ⟨(sB ?_), rfl⟩
 rotate_left
 refine ⟨(modeD_i d (by omega)), fun h17 => ?_, fun h17 => ?_⟩
 refine ⟨(scanD_i d (by omega)), (sB ?_), rfl⟩
 rotate_left
 refine ⟨(sB ?_), rfl⟩
 rotate_left
 refine ⟨fun h15 => have q15 := bnot_t h15; have p15 := of_decide_eq_false q15; ?_, fun h15 => have q15 := bnot_f h15; have p15 := of_decide_eq_true q15; ?_⟩
 refine ⟨h12, (topL_i d (by omega)), dsp (fun h16 p16 => ?_) fun h16 p16 => ?_⟩
 refine ⟨(sB ?_), rfl⟩
 rotate_left
 refine ⟨(modeD_i d (by omega)), fun h17 => ?_, fun h17 => ?_⟩
 refine ⟨(scanD_i d (by omega)), (sB ?_), rfl⟩
 rotate_left
 refine ⟨(sB ?_), rfl⟩
 rotate_left
 refine ⟨(modeD_i d (by omega)), fun h16 => ?_, fun h16 => ?_⟩
 refine ⟨(scanD_i d (by omega)), (sB ?_), rfl⟩
 rotate_left
 refine ⟨(sB ?_), rfl⟩
 rotate_left
 refine dsp (fun h13 p13 => ?_) fun h13 p13 => ?_
 refine dsp (fun h14 p14 => ?_) fun h14 p14 => ?_
 refine ⟨(sB ?_), rfl⟩
 rotate_left
 refine ⟨fun h15 => have q15 := bnot_t h15; have p15 := of_decide_eq_false q15; ?_, fun h15 => have q15 := bnot_f h15; have p15 := of_decide_eq_true q15; ?_⟩
 refine ⟨h12, (modeD_i d (by omega)), fun h16 => ?_, fun h16 => ?_⟩
 refine ⟨(scanD_i d (by omega)), (sB ?_), rfl⟩
 rotate_left
 refine ⟨(sB ?_), rfl⟩
 rotate_left
 refine ⟨(modeD_i d (by omega)), fun h16 => ?_, fun h16 => ?_⟩
 refine ⟨(scanD_i d (by omega)), (sB ?_), rfl⟩
 rotate_left
 refine ⟨(sB ?_), rfl⟩
 rotate_left
 refine ⟨fun h14 => have q14 := bnot_t h14; have p14 := of_decide_eq_false q14; ?_, fun h14 => have q14 := bnot_f h14; have p14 := of_decide_eq_true q14; ?_⟩
 refine ⟨h12, (modeD_i d (by omega)), fun h15 => ?_, fun h15 => ?_⟩
 refine ⟨(scanD_i d (by omega)), (sB ?_), rfl⟩
 rotate_left
 refine ⟨(sB ?_), rfl⟩
 rotate_left
 refine ⟨(modeD_i d (by omega)), fun h15 => ?_, fun h15 => ?_⟩
 refine ⟨(scanD_i d (by omega)), (sB ?_), rfl⟩
 rotate_left
 refine ⟨(sB ?_), rfl⟩
 rotate_left
 refine ⟨fun h10 => have q10 := bnot_t h10; have p10 := of_decide_eq_false q10; ?_, fun h10 => have q10 := bnot_f h10; have p10 := of_decide_eq_true q10; ?_⟩
 refine ⟨fun h11 => have q11 := bnot_t h11; have p11 := (andF dT (andF dT (andF dT (andF dT (andF dT (andF dT dF)))))).1 q11; ?_, fun h11 => have q11 := bnot_f h11; have p11 := (andT dT (andT dT (andT dT (andT dT (andT dT (andT dT dT)))))).1 q11; ?_⟩
 refine ⟨(sB ?_), rfl⟩
 rotate_left
 refine dsp (fun h12 p12 => ?_) fun h12 p12 => ?_
 refine dsp (fun h13 p13 => ?_) fun h13 p13 => ?_
 refine ⟨(sB ?_), rfl⟩
 rotate_left
 refine ⟨fun h14 => have q14 := bnot_t h14; have p14 := of_decide_eq_false q14; ?_, fun h14 => have q14 := bnot_f h14; have p14 := of_decide_eq_true q14; ?_⟩
 refine ⟨h10, (topL_i d (by omega)), dsp (fun h15 p15 => ?_) fun h15 p15 => ?_⟩
 refine ⟨(sB ?_), rfl⟩
 rotate_left
 refine ⟨(modeD_i d (by omega)), fun h16 => ?_, fun h16 => ?_⟩
 refine ⟨(scanD_i d (by omega)), (sB ?_), rfl⟩
 rotate_left
 refine ⟨(sB ?_), rfl⟩
 rotate_left
 refine ⟨(modeD_i d (by omega)), fun h15 => ?_, fun h15 => ?_⟩
 refine ⟨(scanD_i d (by omega)), (sB ?_), rfl⟩
 rotate_left
 refine ⟨(sB ?_), rfl⟩
 rotate_left
 refine ⟨fun h13 => have q13 := bnot_t h13; have p13 := of_decide_eq_false q13; ?_, fun h13 => have q13 := bnot_f h13; have p13 := of_decide_eq_true q13; ?_⟩
 refine ⟨h10, (topL_i d (by omega)), dsp (fun h14 p14 => ?_) fun h14 p14 => ?_⟩
 refine ⟨(sB ?_), rfl⟩
 rotate_left
 refine ⟨(modeD_i d (by omega)), fun h15 => ?_, fun h15 => ?_⟩
 refine ⟨(scanD_i d (by omega)), (sB ?_), rfl⟩
 rotate_left
 refine ⟨(sB ?_), rfl⟩
 rotate_left
 refine ⟨(modeD_i d (by omega)), fun h14 => ?_, fun h14 => ?_⟩
 refine ⟨(scanD_i d (by omega)), (sB ?_), rfl⟩
 rotate_left
 refine ⟨(sB ?_), rfl⟩
 rotate_left
 refine dsp (fun h11 p11 => ?_) fun h11 p11 => ?_
 refine dsp (fun h12 p12 => ?_) fun h12 p12 => ?_
 refine ⟨(sB ?_), rfl⟩
 rotate_left
 refine ⟨fun h13 => have q13 := bnot_t h13; have p13 := of_decide_eq_false q13; ?_, fun h13 => have q13 := bnot_f h13; have p13 := of_decide_eq_true q13; ?_⟩
 refine ⟨h10, (modeD_i d (by omega)), fun h14 => ?_, fun h14 => ?_⟩
 refine ⟨(scanD_i d (by omega)), (sB ?_), rfl⟩
 rotate_left
 refine ⟨(sB ?_), rfl⟩
 rotate_left
 refine ⟨(modeD_i d (by omega)), fun h14 => ?_, fun h14 => ?_⟩
 refine ⟨(scanD_i d (by omega)), (sB ?_), rfl⟩
 rotate_left
 refine ⟨(sB ?_), rfl⟩
 rotate_left
 refine ⟨fun h12 => have q12 := bnot_t h12; have p12 := of_decide_eq_false q12; ?_, fun h12 => have q12 := bnot_f h12; have p12 := of_decide_eq_true q12; ?_⟩
 refine ⟨h10, (modeD_i d (by omega)), fun h13 => ?_, fun h13 => ?_⟩
 refine ⟨(scanD_i d (by omega)), (sB ?_), rfl⟩
 rotate_left
 refine ⟨(sB ?_), rfl⟩
 rotate_left
 refine ⟨(modeD_i d (by omega)), fun h13 => ?_, fun h13 => ?_⟩
 refine ⟨(scanD_i d (by omega)), (sB ?_), rfl⟩
 rotate_left
 refine ⟨(sB ?_), rfl⟩
 rotate_left
 refine dsp (fun h8 p8 => ?_) fun h8 p8 => ?_
 refine ⟨(eventOk_i d.end_), fun h9 => have q9 := bnot_t h9; ?_, fun h9 => have q9 := bnot_f h9; ?_⟩
 refine ⟨(sB ?_), rfl⟩
 rotate_left
 refine ⟨(terminal_i d.end_), fun h10 => have q10 := bnot_t h10; ?_, fun h10 => have q10 := bnot_f h10; ?_⟩
 refine ⟨(sB ?_), rfl⟩
 rotate_left
 refine ⟨fun h11 => have q11 := bnot_t h11; have p11 := of_decide_eq_false q11; ?_, fun h11 => have q11 := bnot_f h11; have p11 := of_decide_eq_true q11; ?_⟩
 refine ⟨fun h12 => have q12 := bnot_t h12; have p12 := (andF dT (andF dT (andF dT (andF dT (andF dT (andF dT dF)))))).1 q12; ?_, fun h12 => have q12 := bnot_f h12; have p12 := (andT dT (andT dT (andT dT (andT dT (andT dT (andT dT dT)))))).1 q12; ?_⟩
 refine ⟨(sB ?_), rfl⟩
 rotate_left
 refine dsp (fun h13 p13 => ?_) fun h13 p13 => ?_
 refine dsp (fun h14 p14 => ?_) fun h14 p14 => ?_
 refine ⟨(sB ?_), rfl⟩
 rotate_left
 refine ⟨fun h15 => have q15 := bnot_t h15; have p15 := of_decide_eq_false q15; ?_, fun h15 => have q15 := bnot_f h15; have p15 := of_decide_eq_true q15; ?_⟩
 refine ⟨h11, (topL_i d (by omega)), dsp (fun h16 p16 => ?_) fun h16 p16 => ?_⟩
 refine ⟨(sB ?_), rfl⟩
 rotate_left
 refine ⟨(modeD_i d (by omega)), fun h17 => ?_, fun h17 => ?_⟩
 refine ⟨(scanD_i d (by omega)), (sB ?_), rfl⟩
 rotate_left
 refine ⟨(sB ?_), rfl⟩
 rotate_left
 refine ⟨(modeD_i d (by omega)), fun h16 => ?_, fun h16 => ?_⟩
 refine ⟨(scanD_i d (by omega)), (sB ?_), rfl⟩
 rotate_left
 refine ⟨(sB ?_), rfl⟩
 rotate_left
 refine ⟨fun h14 => have q14 := bnot_t h14; have p14 := of_decide_eq_false q14; ?_, fun h14 => have q14 := bnot_f h14; have p14 := of_decide_eq_true q14; ?_⟩
 refine ⟨h11, (topL_i d (by omega)), dsp (fun h15 p15 => ?_) fun h15 p15 => ?_⟩
 refine ⟨(sB ?_), rfl⟩
 rotate_left
 refine ⟨(modeD_i d (by omega)), fun h16 => ?_, fun h16 => ?_⟩
 refine ⟨(scanD_i d (by omega)), (sB ?_), rfl⟩
 rotate_left
 refine ⟨(sB ?_), rfl⟩
 rotate_left
 refine ⟨(modeD_i d (by omega)), fun h15 => ?_, fun h15 => ?_⟩
 refine ⟨(scanD_i d (by omega)), (sB ?_), rfl⟩
 rotate_left
 refine ⟨(sB ?_), rfl⟩
 rotate_left
 refine dsp (fun h12 p12 => ?_) fun h12 p12 => ?_
 refine dsp (fun h13 p13 => ?_) fun h13 p13 => ?_
 refine ⟨(sB ?_), rfl⟩
 rotate_left
 refine ⟨fun h14 => have q14 := bnot_t h14; have p14 := of_decide_eq_false q14; ?_, fun h14 => have q14 := bnot_f h14; have p14 := of_decide_eq_true q14; ?_⟩
 refine ⟨h11, (modeD_i d (by omega)), fun h15 => ?_, fun h15 => ?_⟩
 refine ⟨(scanD_i d (by omega)), (sB ?_), rfl⟩
 rotate_left
 refine ⟨(sB ?_), rfl⟩
 rotate_left
 refine ⟨(modeD_i d (by omega)), fun h15 => ?_, fun h15 => ?_⟩
 refine ⟨(scanD_i d (by omega)), (sB ?_), rfl⟩
 rotate_left
 refine ⟨(sB ?_), rfl⟩
 rotate_left
 refine ⟨fun h13 => have q13 := bnot_t h13; have p13 := of_decide_eq_false q13; ?_, fun h13 => have q13 := bnot_f h13; have p13 := of_decide_eq_true q13; ?_⟩
 refine ⟨h11, (modeD_i d (by omega)), fun h14 => ?_, fun h14 => ?_⟩
 refine ⟨(scanD_i d (by omega)), (sB ?_), rfl⟩
 rotate_left
 refine ⟨(sB ?_), rfl⟩
 rotate_left
 refine ⟨(modeD_i d (by omega)), fun h14 => ?_, fun h14 => ?_⟩
 refine ⟨(scanD_i d (by omega)), (sB ?_), rfl⟩
 rotate_left
 refine ⟨(sB ?_), rfl⟩
 rotate_left
 refine ⟨fun h9 => have q9 := bnot_t h9; have p9 := of_decide_eq_false q9; ?_, fun h9 => have q9 := bnot_f h9; have p9 := of_decide_eq_true q9; ?_⟩
 refine ⟨fun h10 => have q10 := bnot_t h10; have p10 := (andF dT (andF dT (andF dT (andF dT (andF dT (andF dT dF)))))).1 q10; ?_, fun h10 => have q10 := bnot_f h10; have p10 := (andT dT (andT dT (andT dT (andT dT (andT dT (andT dT dT)))))).1 q10; ?_⟩
 refine ⟨(sB ?_), rfl⟩
 rotate_left
 refine dsp (fun h11 p11 => ?_) fun h11 p11 => ?_
 refine dsp (fun h12 p12 => ?_) fun h12 p12 => ?_
 refine ⟨(sB ?_), rfl⟩
 rotate_left
 refine ⟨fun h13 => have q13 := bnot_t h13; have p13 := of_decide_eq_false q13; ?_, fun h13 => have q13 := bnot_f h13; have p13 := of_decide_eq_true q13; ?_⟩
 refine ⟨h9, (topL_i d (by omega)), dsp (fun h14 p14 => ?_) fun h14 p14 => ?_⟩
 refine ⟨(sB ?_), rfl⟩
 rotate_left
 refine ⟨(modeD_i d (by omega)), fun h15 => ?_, fun h15 => ?_⟩
 refine ⟨(scanD_i d (by omega)), (sB ?_), rfl⟩
 rotate_left
 refine ⟨(sB ?_), rfl⟩
 rotate_left
 refine ⟨(modeD_i d (by omega)), fun h14 => ?_, fun h14 => ?_⟩
 refine ⟨(scanD_i d (by omega)), (sB ?_), rfl⟩
 rotate_left
 refine ⟨(sB ?_), rfl⟩
 rotate_left
 refine ⟨fun h12 => have q12 := bnot_t h12; have p12 := of_decide_eq_false q12; ?_, fun h12 => have q12 := bnot_f h12; have p12 := of_decide_eq_true q12; ?_⟩
 refine ⟨h9, (topL_i d (by omega)), dsp (fun h13 p13 => ?_) fun h13 p13 => ?_⟩
 refine ⟨(sB ?_), rfl⟩
 rotate_left
 refine ⟨(modeD_i d (by omega)), fun h14 => ?_, fun h14 => ?_⟩
 refine ⟨(scanD_i d (by omega)), (sB ?_), rfl⟩
 rotate_left
 refine ⟨(sB ?_), rfl⟩
 rotate_left
 refine ⟨(modeD_i d (by omega)), fun h13 => ?_, fun h13 => ?_⟩
 refine ⟨(scanD_i d (by omega)), (sB ?_), rfl⟩
 rotate_left
 refine ⟨(sB ?_), rfl⟩
 rotate_left
 refine dsp (fun h10 p10 => ?_) fun h10 p10 => ?_
 refine dsp (fun h11 p11 => ?_) fun h11 p11 => ?_
 refine ⟨(sB ?_), rfl⟩
 rotate_left
 refine ⟨fun h12 => have q12 := bnot_t h12; have p12 := of_decide_eq_false q12; ?_, fun h12 => have q12 := bnot_f h12; have p12 := of_decide_eq_true q12; ?_⟩
 refine ⟨h9, (modeD_i d (by omega)), fun h13 => ?_, fun h13 => ?_⟩
 refine ⟨(scanD_i d (by omega)), (sB ?_), rfl⟩
 rotate_left
 refine ⟨(sB ?_), rfl⟩
 rotate_left
 refine ⟨(modeD_i d (by omega)), fun h13 => ?_, fun h13 => ?_⟩
 refine ⟨(scanD_i d (by omega)), (sB ?_), rfl⟩
 rotate_left
 refine ⟨(sB ?_), rfl⟩
 rotate_left
 refine ⟨fun h11 => have q11 := bnot_t h11; have p11 := of_decide_eq_false q11; ?_, fun h11 => have q11 := bnot_f h11; have p11 := of_decide_eq_true q11; ?_⟩
 refine ⟨h9, (modeD_i d (by omega)), fun h12 => ?_, fun h12 => ?_⟩
 refine ⟨(scanD_i d (by omega)), (sB ?_), rfl⟩
 rotate_left
 refine ⟨(sB ?_), rfl⟩
 rotate_left
 refine ⟨(modeD_i d (by omega)), fun h12 => ?_, fun h12 => ?_⟩
 refine ⟨(scanD_i d (by omega)), (sB ?_), rfl⟩
 rotate_left
 refine ⟨(sB ?_), rfl⟩
 rotate_left
 all_goals first | (simp_all [decOk, endD, stackD, fld_zeroI, ev_zero]; done) | (grind [decOk, endD, stackD, fld_zeroI, ev_zero])
theorem cloneFld (l : List Fld) (hp1 : List.length l ≤ bigN) : Fun Tryz.prog 60 [.c (.seq .fld l)] [] (.v (vO 0)) [.lst .fld l] := by
 refine ⟨callable_of Tryz.func60 (by kernel_rfl) (by kernel_rfl), ?_⟩
 have key : Sm Tryz.prog 8 0 (regAt Tryz.f60 1) [(2, .v (.c .nil)), (0, .v (.c (.seq .fld l)))] [] .ret [(2, .v (.c (.own 0)))] [.lst .fld l] := by
  refine Sm.nilTest' (s := 0) (t3 := 3) (t4 := 4) (t := .fld) (l := l) rfl rfl rfl rfl rfl rfl rfl Tryz.underlying98 (by kernel_rfl) rfl rfl rfl fun p hp => ?_
  cases p with
  | true =>
   have hl := hp rfl
   subst hl
   exact .inr ⟨by decide, piece_sound (ds := [.br true, .at 0, .mkS 2 .fld, .keep [2], .sel [0]]) (ob := [true = true]) (by kernel_rfl) ⟨rfl, trivial⟩⟩
  | false =>
   exact .inl ⟨[(0, .v (.c (.seq .fld l)))], [], piece_sound (ds := [.br false, .at 0, .keep [0], .sel []]) (ob := [false = false]) (by kernel_rfl) ⟨rfl, trivial⟩,
    (piece_sound (tm' := [(2, .v (.c (.own 0)))]) (H' := [.lst .fld ([] ++ l)]) (ds := [.ty .fld, .ty .fld, .at 0, .keep [2], .sel [1]]) (ob := [List.length ([] : List Fld) + List.length l ≤ bigN]) (by kernel_rfl) ⟨by simpa using hp1, trivial⟩).to (by rfl) (by rfl)⟩
 exact walk_sound Tryz.func60 (res := .v (.c (.own 0))) (L' := [.lst .fld l]) (ds := [.jump 1 .ret [(2, .v (.c (.own 0)))] [.lst .fld l]]) (σ := [0]) (ob := [Sm Tryz.prog 8 0 (regAt Tryz.f60 1) [(2, .v (.c .nil)), (0, .v (.c (.seq .fld l)))] [] .ret [(2, .v (.c (.own 0)))] [.lst .fld l]]) (by kernel_rfl) ⟨key, trivial⟩
structure copySch_i_V0 where
 sh : List Shp
 v : Nat
def copySch_i_F0 (s : List Shp) : Fam := ⟨copySch_i_V0, fun q1 => [(2, .v (vP 0)), (3, .v (vP 1)), (8, .v (.c (.seq .shp s))), (9, .v (vI ((List.length s : Nat) : Int))), (10, .v (vI ((q1.v : Nat) : Int)))], fun q1 => [.cells [.nil], .cells [.own 2], .tree q1.sh], fun q1 => q1.v ≤ List.length s ∧ q1.sh = List.take q1.v s, fun q1 => List.length s - q1.v⟩
theorem copySch_i (s : List Shp) (hp1 : List.length s ≤ 1048576) (hp2 : ∀ e ∈ s, List.length e.fields ≤ 1048576) : Fun Tryz.prog 37 [.agg [.seq .shp s]] [] (.v (.agg [.own 0])) [.tree s] := by
 have hN : bigN = 274877906944 := rfl
 refine fun_ofw Tryz.func37 (by kernel_rfl) (by kernel_rfl) (w := let z2 := ((List.length s : Nat) : Int); let z3 := copySch_i_F0 s; (.seg [.at 0, .mkT 2 0, .keep [2, 3, 8, 9, 10], .sel [1, 2, 3]] (.loop z3 fun q1 => .br (.intro (fun (x1 : Shp) => s[q1.v]? = some x1) fun x1 => .seg [.el .shp x1, .ord (os 12 [6, 8, 9, 11]) [2], .call [] (.v (vO 0)) [.lst .fld x1.fields], .tyT, .tyT, .as 25 (.v (vI (((q1.v : Nat) : Int) + 1))), .at 0, .keep [2, 3, 8, 9, 10], .sel [0, 1, 6]] (.next)) (.leaf () [2])), z3.Has [(2, .v (vP 0)), (3, .v (vP 1)), (8, .v (.c (.seq .shp s))), (9, .v (vI z2)), (10, .v (vI 0))] [.cells [.nil], .cells [.own 2], .tree ([] : List Shp)] ∧ ∀ q1, z3.inv q1 → (let z1 := ((q1.v : Nat) : Int); ((decide (z1 < z2)) = true → (∃ (x1 : Shp), s[q1.v]? = some x1) ∧ ∀ (x1 : Shp), (s[q1.v]? = some x1) → ((s[q1.v]? = some x1) ∧ ((0 : Int) ≤ z1) ∧ (Fun Tryz.prog 60 [.c (.seq .fld x1.fields)] [] (.v (vO 0)) [.lst .fld x1.fields]) ∧ (List.length q1.sh + List.length [(⟨x1.id, x1.fields⟩ : Shp)] ≤ bigN) ∧ ((.v (vI (IntKind.i64.wrap (z1 + 1))) : S) = .v (vI (z1 + 1))) ∧ z3.Nxt q1 [(2, .v (vP 0)), (3, .v (vP 1)), (8, .v (.c (.seq .shp s))), (9, .v (vI z2)), (10, .v (vI (z1 + 1)))] [.cells [.nil], .cells [.own 2], .tree (q1.sh ++ [(⟨x1.id, x1.fields⟩ : Shp)])])) ∧ ((decide (z1 < z2)) = false → (.v (.agg [.own 0]) : S) = .v (.agg [.own 0]) ∧ ([.tree q1.sh] : List Blk) = [.tree s])))) (by kernel_rfl) ?_
 refine ⟨has_of (j := (⟨([] : List Shp), 0⟩ : copySch_i_V0)) (by first | rfl | simp) rfl (by dsimp only [copySch_i_F0]; exact ⟨by omega, by simp⟩), fun (q1 : copySch_i_V0) hq_q1 => ?_⟩
 have hi_q1 : q1.v ≤ List.length s ∧ q1.sh = List.take q1.v s := hq_q1
 obtain ⟨v1, v2⟩ := hi_q1
 have hsl := congrArg List.length v2
 rw [List.length_take] at hsl
 refine dsp (fun h1 p1 => ?_) fun h1 p1 => ?_
 refine ⟨(ax_get (l := s) (i := q1.v) (by omega)), fun x1 hx1 => ?_⟩
 have hfx := hp2 x1 (List.mem_of_getElem? hx1)
 exact ⟨hx1, (by omega), (cloneFld x1.fields (by omega)), (by simp only [List.length_cons, List.length_nil]; omega), (as_i64 (by omega) (by omega)), nxt_of (j := (⟨q1.sh ++ [(⟨x1.id, x1.fields⟩ : Shp)], q1.v + 1⟩ : copySch_i_V0)) (by first | rfl | simp) rfl (by dsimp only [copySch_i_F0]; exact ⟨by omega, by rw [v2, List.take_succ_eq_append_getElem (by omega)]; simp [(List.getElem?_eq_some_iff.1 hx1).2]⟩) (by dsimp only [copySch_i_F0]; omega)⟩
 refine ⟨rfl, (consE (congrArg Blk.tree ?_) rfl)⟩
 rotate_left
 all_goals first | (rfl) | ((rw [v2, List.take_of_length_le (by omega)]; done))
theorem copyPln_i (p : Pln) (hp1 : List.length (p).shapes ≤ 1048576) (hp2 : ∀ e ∈ (p).shapes, List.length e.fields ≤ 1048576) : Fun Tryz.prog 21 [.agg (cPln p)] [] (.v (.agg (oPln0 0 p))) [.tree p.shapes] := by
 have hN : bigN = 274877906944 := rfl
 refine fun_ofw Tryz.func21 (by kernel_rfl) (by kernel_rfl) (w := (.seg [.call [] (.v (.agg [.own 0])) [.tree p.shapes]] (.leaf () [2]), (Fun Tryz.prog 37 [.agg [.seq .shp p.shapes]] [] (.v (.agg [.own 0])) [.tree p.shapes]) ∧ (.v (.agg (oPln0 0 p)) : S) = .v (.agg (oPln0 0 p)) ∧ ([.tree p.shapes] : List Blk) = [.tree p.shapes])) (by kernel_rfl) ?_
 exact ⟨(copySch_i p.shapes (by omega) (hp2)), rfl, rfl⟩
theorem decNew_i (p : Pln) (hp1 : List.length (p).shapes ≤ bigN) : Fun Tryz.prog 9 [.agg (cPln p)] [] (.tup [.agg (oDcd0_5 0 1 (decNew p)), vB (planOk p)]) [.tree (decNew p).plan.shapes, .lst .lev (decNew p).stack] := by
 have hN : bigN = 274877906944 := rfl
 refine fun_ofw Tryz.func9 (by kernel_rfl) (by kernel_rfl) (w := let zi : Int → C := .int .i64; let z1 : List C := [.own 1, .int .u64 0, zi 0, zi 0, zi 0, zi 0, zi 0, .bool false, .bool false, zi 0, zi 0, zi 0, zi 0, zi 0, zi 0, zi 0, zi 0, .int .u64 0, zi 0, .str [], zi 0, zi 0]; let z2 := planOk p; let z3 := decNew p; (.seg [.call [] (.v (vB z2)) []] (.br (.seg [.at 0, .mkT 1 0, .mk 1 5 .lev] (.leaf () [2, 3])) (.seg [.call [] (.v (.agg (oPln0 0 p))) [.tree p.shapes], .at 0, .mk 1 5 .lev] (.leaf () [2, 3]))), (Fun Tryz.prog 20 [.agg (cPln p)] [] (.v (vB z2)) []) ∧ ((!z2) = true → (.tup [.agg (.own 0 :: zi 0 :: zi 0 :: zi 0 :: zi 0 :: z1), vB false] : S) = .tup [.agg (oDcd0_5 0 1 z3), vB z2] ∧ ([.tree ([] : List Shp), .lst .lev ([] : List Lev)] : List Blk) = [.tree z3.plan.shapes, .lst .lev z3.stack]) ∧ ((!z2) = false → (Fun Tryz.prog 21 [.agg (cPln p)] [] (.v (.agg (oPln0 0 p))) [.tree p.shapes]) ∧ (.tup [.agg (.own 0 :: zi p.root :: zi p.deep :: zi p.most :: zi 1 :: z1), vB true] : S) = .tup [.agg (oDcd0_5 0 1 z3), vB z2] ∧ ([.tree p.shapes, .lst .lev ([] : List Lev)] : List Blk) = [.tree z3.plan.shapes, .lst .lev z3.stack]))) (by kernel_rfl) ?_
 refine ⟨(planOk_i p), fun h1 => have q1 := bnot_t h1; ?_, fun h1 => have q1 := bnot_f h1; have p1 := planOk_t q1; ?_⟩
 refine have hm1 : decNew p = (⟨(⟨([] : List Shp), 0, 0, 0⟩ : Pln), 0, ([] : List Lev), (⟨0, 0⟩ : Scn), 0, 0, (⟨0, 0, false, false, 0⟩ : Fld), 0, 0, (⟨0, 0, 0⟩ : Utf), (⟨0, 0, 0, 0, [], 0, 0⟩ : Ev)⟩ : Dcd) := ?_; ?_
 rotate_left
 refine ⟨(congrArg S.tup (consE (congrArg V.agg (consE rfl (consE (congrArg (C.int .i64) ?_) (consE (congrArg (C.int .i64) ?_) (consE (congrArg (C.int .i64) ?_) (consE (congrArg (C.int .i64) ?_) (consE rfl (consE (congrArg (C.int .u64) ?_) (consE (congrArg (C.int .i64) ?_) (consE (congrArg (C.int .i64) ?_) (consE (congrArg (C.int .i64) ?_) (consE (congrArg (C.int .i64) ?_) (consE (congrArg (C.int .i64) ?_) (consE (congrArg C.bool ?_) (consE (congrArg C.bool ?_) (consE (congrArg (C.int .i64) ?_) (consE (congrArg (C.int .i64) ?_) (consE (congrArg (C.int .i64) ?_) (consE (congrArg (C.int .i64) ?_) (consE (congrArg (C.int .i64) ?_) (consE (congrArg (C.int .i64) ?_) (consE (congrArg (C.int .i64) ?_) (consE (congrArg (C.int .i64) ?_) (consE (congrArg (C.int .u64) ?_) (consE (congrArg (C.int .i64) ?_) (consE (congrArg C.str ?_) (consE (congrArg (C.int .i64) ?_) (consE (congrArg (C.int .i64) ?_) rfl)))))))))))))))))))))))))))) (consE (congrArg V.c (congrArg C.bool ?_)) rfl))), (by rw [hm1] <;> rfl)⟩
 rotate_left 26
 have hpt := planOk_t q1
 refine ⟨(copyPln_i p (by omega) (schemaOk_fields20 hpt.2.1)), ?_⟩
 refine have hm1 : decNew p = (⟨p, 1, ([] : List Lev), (⟨0, 0⟩ : Scn), 0, 0, (⟨0, 0, false, false, 0⟩ : Fld), 0, 0, (⟨0, 0, 0⟩ : Utf), (⟨0, 0, 0, 0, [], 0, 0⟩ : Ev)⟩ : Dcd) := ?_; ?_
 rotate_left
 refine ⟨(congrArg S.tup (consE (congrArg V.agg (consE rfl (consE (congrArg (C.int .i64) ?_) (consE (congrArg (C.int .i64) ?_) (consE (congrArg (C.int .i64) ?_) (consE (congrArg (C.int .i64) ?_) (consE rfl (consE (congrArg (C.int .u64) ?_) (consE (congrArg (C.int .i64) ?_) (consE (congrArg (C.int .i64) ?_) (consE (congrArg (C.int .i64) ?_) (consE (congrArg (C.int .i64) ?_) (consE (congrArg (C.int .i64) ?_) (consE (congrArg C.bool ?_) (consE (congrArg C.bool ?_) (consE (congrArg (C.int .i64) ?_) (consE (congrArg (C.int .i64) ?_) (consE (congrArg (C.int .i64) ?_) (consE (congrArg (C.int .i64) ?_) (consE (congrArg (C.int .i64) ?_) (consE (congrArg (C.int .i64) ?_) (consE (congrArg (C.int .i64) ?_) (consE (congrArg (C.int .i64) ?_) (consE (congrArg (C.int .u64) ?_) (consE (congrArg (C.int .i64) ?_) (consE (congrArg C.str ?_) (consE (congrArg (C.int .i64) ?_) (consE (congrArg (C.int .i64) ?_) rfl)))))))))))))))))))))))))))) (consE (congrArg V.c (congrArg C.bool ?_)) rfl))), (by rw [hm1] <;> rfl)⟩
 rotate_left 26
 all_goals first | (simp_all [decNew, utf0]; done) | (grind [decNew, utf0])
structure copySch_s_V0 where
 sh : List Shp
 i : Nat
def copySch_s_F0 (s : List Shp) : Fam := ⟨copySch_s_V0, fun q1 => [(1, .v (vP 0)), (2, .v (vP 1)), (3, .v (vP 2)), (4, .v (vI ((q1.i : Nat) : Int)))], fun q1 => [.cells [.seq .shp s], .cells [.nil], .cells [.own 3], .tree q1.sh], fun q1 => q1.i ≤ List.length s ∧ q1.sh = List.take q1.i s, fun q1 => List.length s - q1.i⟩
theorem copySch_s (s : List Shp) (hp1 : List.length s ≤ 1048576) (hp2 : ∀ e ∈ s, List.length e.fields ≤ 1048576) : Fun Tryz.prog 34 [.agg [.seq .shp s]] [] (.v (.agg [.own 0])) [.tree s] := by
 have hN : bigN = 274877906944 := rfl
 refine fun_ofw Tryz.func34 (by kernel_rfl) (by kernel_rfl) (w := let z4 := copySch_s_F0 s; (.seg [.at 0, .mkT 2 0, .keep [1, 2, 3, 4], .sel [0, 1, 2, 3]] (.loop z4 fun q1 => .br (.intro (fun (x1 : Shp) => s[q1.i]? = some x1) fun x1 => .seg [.ord [(0, true), (1, true), (2, true), (3, true), (4, true), (5, true), (6, true), (7, true), (9, true), (10, true), (11, true), (12, true), (13, true), (14, true), (8, false), (15, false), (16, true), (17, false), (18, false), (19, true), (20, false)] [3], .el .shp x1, .el .shp x1, .ty .fld, .ty .fld, .tyT, .tyT, .as 12 (.v (vI (((q1.i : Nat) : Int) + 1))), .at 0, .keep [1, 2, 3, 4], .sel [0, 1, 2, 7]] (.next)) (.leaf () [3])), z4.Has [(1, .v (vP 0)), (2, .v (vP 1)), (3, .v (vP 2)), (4, .v (vI 0))] [.cells [.seq .shp s], .cells [.nil], .cells [.own 3], .tree ([] : List Shp)] ∧ ∀ q1, z4.inv q1 → (let z3 := ((q1.i : Nat) : Int); ((decide (z3 < ((List.length s : Nat) : Int))) = true → (∃ (x1 : Shp), s[q1.i]? = some x1) ∧ ∀ (x1 : Shp), (s[q1.i]? = some x1) → (let z1 := s[q1.i]? = some x1; let z2 := (⟨x1.id, ([] : List Fld) ++ x1.fields⟩ : Shp); z1 ∧ ((0 : Int) ≤ z3) ∧ z1 ∧ ((0 : Int) ≤ z3) ∧ z1 ∧ ((0 : Int) ≤ z3) ∧ z1 ∧ ((0 : Int) ≤ z3) ∧ (List.length ([] : List Fld) + List.length x1.fields ≤ bigN) ∧ (List.length q1.sh + List.length [z2] ≤ bigN) ∧ ((.v (vI (IntKind.i64.wrap (z3 + 1))) : S) = .v (vI (z3 + 1))) ∧ z4.Nxt q1 [(1, .v (vP 0)), (2, .v (vP 1)), (3, .v (vP 2)), (4, .v (vI (z3 + 1)))] [.cells [.seq .shp s], .cells [.nil], .cells [.own 3], .tree (q1.sh ++ [z2])])) ∧ ((decide (z3 < ((List.length s : Nat) : Int))) = false → (.v (.agg [.own 0]) : S) = .v (.agg [.own 0]) ∧ ([.tree q1.sh] : List Blk) = [.tree s])))) (by kernel_rfl) ?_
 refine ⟨has_of (j := (⟨([] : List Shp), 0⟩ : copySch_s_V0)) (by first | rfl | simp) rfl (by dsimp only [copySch_s_F0]; exact ⟨by omega, by simp⟩), fun (q1 : copySch_s_V0) hq_q1 => ?_⟩
 have hi_q1 : q1.i ≤ List.length s ∧ q1.sh = List.take q1.i s := hq_q1
 obtain ⟨v1, v2⟩ := hi_q1
 have hsl := congrArg List.length v2
 rw [List.length_take] at hsl
 refine dsp (fun h1 p1 => ?_) fun h1 p1 => ?_
 refine ⟨(ax_get (l := s) (i := q1.i) (by omega)), fun x1 hx1 => ?_⟩
 have hfx := hp2 x1 (List.mem_of_getElem? hx1)
 exact ⟨hx1, (by omega), hx1, (by omega), hx1, (by omega), hx1, (by omega), (by simp only [List.length_cons, List.length_nil]; omega), (by simp only [List.length_append, List.length_cons, List.length_nil]; omega), (as_i64 (by omega) (by omega)), nxt_of (j := (⟨q1.sh ++ [(⟨x1.id, ([] : List Fld) ++ x1.fields⟩ : Shp)], q1.i + 1⟩ : copySch_s_V0)) (by first | rfl | simp) rfl (by dsimp only [copySch_s_F0]; exact ⟨by omega, by rw [v2, List.take_succ_eq_append_getElem (by omega)]; simp [(List.getElem?_eq_some_iff.1 hx1).2]⟩) (by dsimp only [copySch_s_F0]; omega)⟩
 refine ⟨rfl, (consE (congrArg Blk.tree ?_) rfl)⟩
 rotate_left
 all_goals first | (rfl) | ((rw [v2, List.take_of_length_le (by omega)]; done))
theorem decNew_s (p : Pln) (hp1 : List.length (p).shapes ≤ bigN) : Fun Tryz.prog 17 [.agg (cPln p)] [] (.tup [.agg (oDcd0_5 0 1 (decNew p)), vB (planOk p)]) [.tree (decNew p).plan.shapes, .lst .lev (decNew p).stack] := by
 have hN : bigN = 274877906944 := rfl
 refine fun_ofw Tryz.func17 (by kernel_rfl) (by kernel_rfl) (w := let zi : Int → C := .int .i64; let z1 : List C := [.own 1, .int .u64 0, zi 0, zi 0, zi 0, zi 0, zi 0, .bool false, .bool false, zi 0, zi 0, zi 0, zi 0, zi 0, zi 0, zi 0, zi 0, .int .u64 0, zi 0, .str [], zi 0, zi 0]; let z2 := planOk p; let z3 := decNew p; (.seg [.call [] (.v (vB z2)) []] (.br (.seg [.at 0, .mkT 1 0, .mk 1 5 .lev] (.leaf () [2, 3])) (.seg [.call [] (.v (.agg [.own 0])) [.tree p.shapes], .at 0, .mk 1 5 .lev] (.leaf () [2, 3]))), (Fun Tryz.prog 33 [.agg (cPln p)] [] (.v (vB z2)) []) ∧ ((!z2) = true → (.tup [.agg (.own 0 :: zi 0 :: zi 0 :: zi 0 :: zi 0 :: z1), vB false] : S) = .tup [.agg (oDcd0_5 0 1 z3), vB z2] ∧ ([.tree ([] : List Shp), .lst .lev ([] : List Lev)] : List Blk) = [.tree z3.plan.shapes, .lst .lev z3.stack]) ∧ ((!z2) = false → (Fun Tryz.prog 34 [.agg [.seq .shp p.shapes]] [] (.v (.agg [.own 0])) [.tree p.shapes]) ∧ (.tup [.agg (.own 0 :: zi p.root :: zi p.deep :: zi p.most :: zi 1 :: z1), vB true] : S) = .tup [.agg (oDcd0_5 0 1 z3), vB z2] ∧ ([.tree p.shapes, .lst .lev ([] : List Lev)] : List Blk) = [.tree z3.plan.shapes, .lst .lev z3.stack]))) (by kernel_rfl) ?_
 refine ⟨(planOk_s p), fun h1 => have q1 := bnot_t h1; ?_, fun h1 => have q1 := bnot_f h1; have p1 := planOk_t q1; ?_⟩
 refine have hm1 : decNew p = (⟨(⟨([] : List Shp), 0, 0, 0⟩ : Pln), 0, ([] : List Lev), (⟨0, 0⟩ : Scn), 0, 0, (⟨0, 0, false, false, 0⟩ : Fld), 0, 0, (⟨0, 0, 0⟩ : Utf), (⟨0, 0, 0, 0, [], 0, 0⟩ : Ev)⟩ : Dcd) := ?_; ?_
 rotate_left
 refine ⟨(congrArg S.tup (consE (congrArg V.agg (consE rfl (consE (congrArg (C.int .i64) ?_) (consE (congrArg (C.int .i64) ?_) (consE (congrArg (C.int .i64) ?_) (consE (congrArg (C.int .i64) ?_) (consE rfl (consE (congrArg (C.int .u64) ?_) (consE (congrArg (C.int .i64) ?_) (consE (congrArg (C.int .i64) ?_) (consE (congrArg (C.int .i64) ?_) (consE (congrArg (C.int .i64) ?_) (consE (congrArg (C.int .i64) ?_) (consE (congrArg C.bool ?_) (consE (congrArg C.bool ?_) (consE (congrArg (C.int .i64) ?_) (consE (congrArg (C.int .i64) ?_) (consE (congrArg (C.int .i64) ?_) (consE (congrArg (C.int .i64) ?_) (consE (congrArg (C.int .i64) ?_) (consE (congrArg (C.int .i64) ?_) (consE (congrArg (C.int .i64) ?_) (consE (congrArg (C.int .i64) ?_) (consE (congrArg (C.int .u64) ?_) (consE (congrArg (C.int .i64) ?_) (consE (congrArg C.str ?_) (consE (congrArg (C.int .i64) ?_) (consE (congrArg (C.int .i64) ?_) rfl)))))))))))))))))))))))))))) (consE (congrArg V.c (congrArg C.bool ?_)) rfl))), (by rw [hm1] <;> rfl)⟩
 rotate_left 26
 have hpt := planOk_t q1
 refine ⟨(copySch_s p.shapes (by omega) (schemaOk_fields20 hpt.2.1)), ?_⟩
 refine have hm1 : decNew p = (⟨p, 1, ([] : List Lev), (⟨0, 0⟩ : Scn), 0, 0, (⟨0, 0, false, false, 0⟩ : Fld), 0, 0, (⟨0, 0, 0⟩ : Utf), (⟨0, 0, 0, 0, [], 0, 0⟩ : Ev)⟩ : Dcd) := ?_; ?_
 rotate_left
 refine ⟨(congrArg S.tup (consE (congrArg V.agg (consE rfl (consE (congrArg (C.int .i64) ?_) (consE (congrArg (C.int .i64) ?_) (consE (congrArg (C.int .i64) ?_) (consE (congrArg (C.int .i64) ?_) (consE rfl (consE (congrArg (C.int .u64) ?_) (consE (congrArg (C.int .i64) ?_) (consE (congrArg (C.int .i64) ?_) (consE (congrArg (C.int .i64) ?_) (consE (congrArg (C.int .i64) ?_) (consE (congrArg (C.int .i64) ?_) (consE (congrArg C.bool ?_) (consE (congrArg C.bool ?_) (consE (congrArg (C.int .i64) ?_) (consE (congrArg (C.int .i64) ?_) (consE (congrArg (C.int .i64) ?_) (consE (congrArg (C.int .i64) ?_) (consE (congrArg (C.int .i64) ?_) (consE (congrArg (C.int .i64) ?_) (consE (congrArg (C.int .i64) ?_) (consE (congrArg (C.int .i64) ?_) (consE (congrArg (C.int .u64) ?_) (consE (congrArg (C.int .i64) ?_) (consE (congrArg C.str ?_) (consE (congrArg (C.int .i64) ?_) (consE (congrArg (C.int .i64) ?_) rfl)))))))))))))))))))))))))))) (consE (congrArg V.c (congrArg C.bool ?_)) rfl))), (by rw [hm1] <;> rfl)⟩
 rotate_left 26
 all_goals first | (simp_all [decNew, utf0]; done) | (grind [decNew, utf0])
end Go.Proofs.YtnamhappoaplcaaGreat.Ax
