/- Schemas. -/
import Derived.Test.YtecljjcmjongfaaND
namespace Go.Proofs.Ytecljjcmjongfaa.Ax
open Go.RowKit
set_option linter.unusedSimpArgs false
set_option linter.unusedVariables false
theorem fldOk_i (f : Fld) (before : Int) (n : Int) (hp1 : (0 : Int) ≤ n ∧ n ≤ 1000) : Fun Try.prog 118 [.agg (cFld f), vI before, vI n] [] (.v (vB (decide (before < (f).number) && fldOk f n))) [] := by
  have hN : bigN = 274877906944 := rfl
  refine fun_ofw Try.func118 (by kernel_rfl) (by kernel_rfl) (w := let z1 := vB (decide (before < (f).number) && fldOk f n); let z2 := vB (within f.msg 0 (n - 1)); let z4 := ([] : List Blk); let z5 := (.v (vB false) : S); let z6 := (.v (vI (IntKind.i64.wrap (n - 1))) : S) = .v (vI (n - 1)); let z7 := numberOk f.number; let z8 := numeric f.kind; let z9 := kindOk f.kind; let z10 := decide (f.kind = 8); let z3 := z10 = false → (.v (vB (decide (f.msg = (-1)))) : S) = .v z1 ∧ z4 = []; (.seg [.call [] (.v (vB z7)) []] (.br (.leaf () []) (.br (.leaf () []) (.seg [.call [] (.v (vB z9)) []] (.br (.leaf () []) (.br (.br (.leaf () []) (.seg [.call [] (.v (vB z8)) []] (.br (.leaf () []) (.br (.seg [.as 45 (.v (vI (n - 1))), .call [] (.v z2) []] (.leaf () [])) (.leaf () []))))) (.br (.seg [.as 45 (.v (vI (n - 1))), .call [] (.v z2) []] (.leaf () [])) (.leaf () []))))))), (Fun Try.prog 157 [vI f.number] [] (.v (vB z7)) []) ∧ ((!z7) = true → z5 = .v z1 ∧ z4 = []) ∧ ((!z7) = false → ((decide (f.number ≤ before)) = true → z5 = .v z1 ∧ z4 = []) ∧ ((decide (f.number ≤ before)) = false → (Fun Try.prog 158 [vI f.kind] [] (.v (vB z9)) []) ∧ ((!z9) = true → z5 = .v z1 ∧ z4 = []) ∧ ((!z9) = false → (f.packed = true → ((!f.rep) = true → z5 = .v z1 ∧ z4 = []) ∧ ((!f.rep) = false → (Fun Try.prog 133 [vI f.kind] [] (.v (vB z8)) []) ∧ ((!z8) = true → z5 = .v z1 ∧ z4 = []) ∧ ((!z8) = false → (z10 = true → z6 ∧ (Fun Try.prog 49 [vI f.msg, vI 0, vI (n - 1)] [] (.v z2) []) ∧ (.v z2 : S) = .v z1 ∧ z4 = []) ∧ z3))) ∧ (f.packed = false → (z10 = true → z6 ∧ (Fun Try.prog 49 [vI f.msg, vI 0, vI (n - 1)] [] (.v z2) []) ∧ (.v z2 : S) = .v z1 ∧ z4 = []) ∧ z3)))))) (by kernel_rfl) ?_
  refine ⟨(numberOk_i _), fun h1 => have q1 := bnot_t h1; ?_, fun h1 => have q1 := bnot_f h1; ?_⟩
  refine ⟨(sB ?_), rfl⟩
  rotate_left
  refine ⟨fun h2 => have p2 := of_decide_eq_true h2; ?_, fun h2 => have p2 := of_decide_eq_false h2; ?_⟩
  refine ⟨(sB ?_), rfl⟩
  rotate_left
  refine ⟨(kindOk_i _), fun h3 => have q3 := bnot_t h3; have p3 := within_f q3; ?_, fun h3 => have q3 := bnot_f h3; have p3 := within_t q3; ?_⟩
  refine ⟨(sB ?_), rfl⟩
  rotate_left
  refine ⟨fun h4 => ?_, fun h4 => ?_⟩
  refine ⟨fun h5 => have q5 := bnot_t h5; ?_, fun h5 => have q5 := bnot_f h5; ?_⟩
  refine ⟨(sB ?_), rfl⟩
  rotate_left
  refine ⟨(numeric_i _), fun h6 => have q6 := bnot_t h6; have p6 := within_f q6; ?_, fun h6 => have q6 := bnot_f h6; have p6 := within_t q6; ?_⟩
  refine ⟨(sB ?_), rfl⟩
  rotate_left
  refine ⟨fun h7 => have p7 := of_decide_eq_true h7; ?_, fun h7 => have p7 := of_decide_eq_false h7; ?_⟩
  refine ⟨(as_i64 (by omega) (by omega)), (within_i _ _ _), (sB ?_), rfl⟩
  rotate_left
  refine ⟨(sB ?_), rfl⟩
  rotate_left
  refine ⟨fun h5 => have p5 := of_decide_eq_true h5; ?_, fun h5 => have p5 := of_decide_eq_false h5; ?_⟩
  refine ⟨(as_i64 (by omega) (by omega)), (within_i _ _ _), (sB ?_), rfl⟩
  rotate_left
  refine ⟨(sB ?_), rfl⟩
  rotate_left
  all_goals first | (simp [fldOk, *]; done) | (simp_all [fldOk]; done) | (simp_all [fldOk]; omega) | (rw [Bool.eq_iff_iff]; simp_all [fldOk]; omega)
theorem fldOk_s (s : List Shp) (f : Fld) (hp1 : s.length ≤ 1000) : Fun Try.prog 116 [.agg [.seq .shp s], .agg (cFld f)] [] (.v (vB (fldOk f (s.length : Int)))) [] := by
  have hN : bigN = 274877906944 := rfl
  refine fun_ofw Try.func116 (by kernel_rfl) (by kernel_rfl) (w := let z1 := (s.length : Int); let z2 := vB (within f.msg 0 (z1 - 1)); let z4 := vB (fldOk f z1); let z5 := ([] : List Blk); let z6 := (.v (vI (IntKind.i64.wrap (z1 - 1))) : S) = .v (vI (z1 - 1)); let z7 := numberOk f.number; let z8 := (.v (vB false) : S); let z9 := numeric f.kind; let z10 := kindOk f.kind; let z11 := decide (f.kind = 8); let z3 := z11 = false → (.v (vB (decide (f.msg = (-1)))) : S) = .v z4 ∧ z5 = []; (.seg [.call [] (.v (vB z7)) []] (.br (.leaf () []) (.seg [.call [] (.v (vB z10)) []] (.br (.leaf () []) (.br (.br (.leaf () []) (.seg [.call [] (.v (vB z9)) []] (.br (.leaf () []) (.br (.seg [.as 38 (.v (vI (z1 - 1))), .call [] (.v z2) []] (.leaf () [])) (.leaf () []))))) (.br (.seg [.as 38 (.v (vI (z1 - 1))), .call [] (.v z2) []] (.leaf () [])) (.leaf () [])))))), (Fun Try.prog 154 [vI f.number] [] (.v (vB z7)) []) ∧ ((!z7) = true → z8 = .v z4 ∧ z5 = []) ∧ ((!z7) = false → (Fun Try.prog 123 [vI f.kind] [] (.v (vB z10)) []) ∧ ((!z10) = true → z8 = .v z4 ∧ z5 = []) ∧ ((!z10) = false → (f.packed = true → ((!f.rep) = true → z8 = .v z4 ∧ z5 = []) ∧ ((!f.rep) = false → (Fun Try.prog 155 [vI f.kind] [] (.v (vB z9)) []) ∧ ((!z9) = true → z8 = .v z4 ∧ z5 = []) ∧ ((!z9) = false → (z11 = true → z6 ∧ (Fun Try.prog 47 [vI f.msg, vI 0, vI (z1 - 1)] [] (.v z2) []) ∧ (.v z2 : S) = .v z4 ∧ z5 = []) ∧ z3))) ∧ (f.packed = false → (z11 = true → z6 ∧ (Fun Try.prog 47 [vI f.msg, vI 0, vI (z1 - 1)] [] (.v z2) []) ∧ (.v z2 : S) = .v z4 ∧ z5 = []) ∧ z3))))) (by kernel_rfl) ?_
  refine ⟨(numberOk_s _), fun h1 => have q1 := bnot_t h1; ?_, fun h1 => have q1 := bnot_f h1; ?_⟩
  refine ⟨(sB ?_), rfl⟩
  rotate_left
  refine ⟨(kindOk_s _), fun h2 => have q2 := bnot_t h2; have p2 := within_f q2; ?_, fun h2 => have q2 := bnot_f h2; have p2 := within_t q2; ?_⟩
  refine ⟨(sB ?_), rfl⟩
  rotate_left
  refine ⟨fun h3 => ?_, fun h3 => ?_⟩
  refine ⟨fun h4 => have q4 := bnot_t h4; ?_, fun h4 => have q4 := bnot_f h4; ?_⟩
  refine ⟨(sB ?_), rfl⟩
  rotate_left
  refine ⟨(numeric_s _), fun h5 => have q5 := bnot_t h5; have p5 := within_f q5; ?_, fun h5 => have q5 := bnot_f h5; have p5 := within_t q5; ?_⟩
  refine ⟨(sB ?_), rfl⟩
  rotate_left
  refine ⟨fun h6 => have p6 := of_decide_eq_true h6; ?_, fun h6 => have p6 := of_decide_eq_false h6; ?_⟩
  refine ⟨(as_i64 (by omega) (by omega)), (within_s _ _ _), (sB ?_), rfl⟩
  rotate_left
  refine ⟨(sB ?_), rfl⟩
  rotate_left
  refine ⟨fun h4 => have p4 := of_decide_eq_true h4; ?_, fun h4 => have p4 := of_decide_eq_false h4; ?_⟩
  refine ⟨(as_i64 (by omega) (by omega)), (within_s _ _ _), (sB ?_), rfl⟩
  rotate_left
  refine ⟨(sB ?_), rfl⟩
  rotate_left
  all_goals first | (simp [fldOk, *]; done) | (simp_all [fldOk]; done) | (simp_all [fldOk]; omega) | (rw [Bool.eq_iff_iff]; simp_all [fldOk]; omega)
structure schemaOk_i_V0 where
  id : Int
  v : Nat
def schemaOk_i_F0 (s : List Shp) : Fam := ⟨schemaOk_i_V0, fun q1 => [(1, .v (vP 0)), (3, .v (vI q1.id)), (14, .v (.c (.seq .shp s))), (15, .v (vI (s.length : Int))), (16, .v (vI (q1.v : Int)))], fun _ => [.cells [.seq .shp s]], fun q1 => q1.v ≤ s.length ∧ shapesOk (s.length : Int) q1.id (List.drop q1.v s) = shapesOk (s.length : Int) 0 s, fun q1 => s.length - q1.v⟩

structure schemaOk_i_V1 where
  number : Int
  v : Nat
def schemaOk_i_F1 (s : List Shp) (q1 : schemaOk_i_V0) (x1 : Shp) : Fam := ⟨schemaOk_i_V1, fun q2 => [(1, .v (vP 0)), (5, .v (vP 1)), (6, .v (vI q2.number)), (14, .v (.c (.seq .shp s))), (15, .v (vI (s.length : Int))), (16, .v (vI (q1.v : Int))), (36, .v (.c (.seq .fld x1.fields))), (37, .v (vI (x1.fields.length : Int))), (38, .v (vI (q2.v : Int)))], fun _ => [.cells [.seq .shp s], .cells (cShp x1)], fun q2 => q2.v ≤ x1.fields.length ∧ fieldsOk (s.length : Int) q2.number (List.drop q2.v x1.fields) = fieldsOk (s.length : Int) 0 x1.fields, fun q2 => x1.fields.length - q2.v⟩

theorem schemaOk_i (s : List Shp) : Fun Try.prog 74 [.agg [.seq .shp s]] [] (.v (vB (schemaOk s))) [] := by
  have hN : bigN = 274877906944 := rfl
  refine fun_ofw Try.func74 (by kernel_rfl) (by kernel_rfl) (w := let z7 := (s.length : Int); let z8 := vB (schemaOk s); let z9 := (.v (vB false) : S); let z10 := ([] : List Blk); let z11 := schemaOk_i_F0 s; (.br (.leaf () []) (.seg [.at 0, .keep [1, 3, 14, 15, 16], .sel [0]] (.loop z11 fun q1 => .br (.intro (fun (x1 : Shp) => s[q1.v]? = some x1) fun x1 => .seg [.el .shp x1] (.br (.leaf () []) (.br (.leaf () []) (.br (.leaf () []) (.seg [.at 0, .keep [1, 5, 6, 14, 15, 16, 36, 37, 38], .sel [0, 1]] (.loop (schemaOk_i_F1 s q1 x1) fun q2 => .br (.intro (fun (x2 : Fld) => x1.fields[q2.v]? = some x2) fun x2 => .seg [.el .fld x2, .call [] (.v (vB (decide (q2.number < (x2).number) && fldOk x2 z7))) []] (.br (.leaf () []) (.seg [.as 51 (.v (vI ((q2.v : Int) + 1))), .at 0, .keep [1, 5, 6, 14, 15, 16, 36, 37, 38], .sel [0, 1]] (.next)))) (.seg [.as 54 (.v (vI ((q1.v : Int) + 1))), .at 0, .keep [1, 3, 14, 15, 16], .sel [0]] (.next)))))))) (.leaf () []))), ((decide (6 < z7)) = true → z9 = .v z8 ∧ z10 = []) ∧ ((decide (6 < z7)) = false → z11.Has [(1, .v (vP 0)), (3, .v (vI 0)), (14, .v (.c (.seq .shp s))), (15, .v (vI z7)), (16, .v (vI 0))] [.cells [.seq .shp s]] ∧ ∀ q1, z11.inv q1 → (let z6 := (q1.v : Int); ((decide (z6 < z7)) = true → (∃ (x1 : Shp), s[q1.v]? = some x1) ∧ ∀ (x1 : Shp), (s[q1.v]? = some x1) → (let z3 := (x1.fields.length : Int); let z4 := schemaOk_i_F1 s q1 x1; let z5 : List Blk := [.cells [.seq .shp s], .cells (cShp x1)]; (s[q1.v]? = some x1) ∧ ((0 : Int) ≤ z6) ∧ ((decide (x1.id ≤ q1.id)) = true → z9 = .v z8 ∧ z10 = []) ∧ ((decide (x1.id ≤ q1.id)) = false → ((decide (99 < x1.id)) = true → z9 = .v z8 ∧ z10 = []) ∧ ((decide (99 < x1.id)) = false → ((decide (8 < z3)) = true → z9 = .v z8 ∧ z10 = []) ∧ ((decide (8 < z3)) = false → z4.Has [(1, .v (vP 0)), (5, .v (vP 1)), (6, .v (vI 0)), (14, .v (.c (.seq .shp s))), (15, .v (vI z7)), (16, .v (vI z6)), (36, .v (.c (.seq .fld x1.fields))), (37, .v (vI z3)), (38, .v (vI 0))] z5 ∧ ∀ q2, z4.inv q2 → (let z2 := (q2.v : Int); ((decide (z2 < z3)) = true → (∃ (x2 : Fld), x1.fields[q2.v]? = some x2) ∧ ∀ (x2 : Fld), (x1.fields[q2.v]? = some x2) → (let z1 := decide (q2.number < (x2).number) && fldOk x2 z7; (x1.fields[q2.v]? = some x2) ∧ ((0 : Int) ≤ z2) ∧ (Fun Try.prog 118 [.agg (cFld x2), vI q2.number, vI z7] [] (.v (vB z1)) []) ∧ ((!z1) = true → z9 = .v z8 ∧ z10 = []) ∧ ((!z1) = false → ((.v (vI (IntKind.i64.wrap (z2 + 1))) : S) = .v (vI (z2 + 1))) ∧ z4.Nxt q2 [(1, .v (vP 0)), (5, .v (vP 1)), (6, .v (vI x2.number)), (14, .v (.c (.seq .shp s))), (15, .v (vI z7)), (16, .v (vI z6)), (36, .v (.c (.seq .fld x1.fields))), (37, .v (vI z3)), (38, .v (vI (z2 + 1)))] z5))) ∧ ((decide (z2 < z3)) = false → ((.v (vI (IntKind.i64.wrap (z6 + 1))) : S) = .v (vI (z6 + 1))) ∧ z11.Nxt q1 [(1, .v (vP 0)), (3, .v (vI x1.id)), (14, .v (.c (.seq .shp s))), (15, .v (vI z7)), (16, .v (vI (z6 + 1)))] [.cells [.seq .shp s]]))))))) ∧ ((decide (z6 < z7)) = false → (.v (vB true) : S) = .v z8 ∧ z10 = []))))) (by kernel_rfl) ?_
  refine ⟨fun h1 => have p1 := of_decide_eq_true h1; ?_, fun h1 => have p1 := of_decide_eq_false h1; ?_⟩
  refine ⟨(sB ?_), rfl⟩
  rotate_left
  refine ⟨has_of (j := (⟨0, 0⟩ : schemaOk_i_V0)) (by first | rfl | simp) rfl (by dsimp only [schemaOk_i_F0]; exact ⟨by omega, rfl⟩), fun (q1 : schemaOk_i_V0) hq_q1 => ?_⟩
  have hi_q1 : q1.v ≤ s.length ∧ shapesOk (s.length : Int) q1.id (List.drop q1.v s) = shapesOk (s.length : Int) 0 s := hq_q1
  obtain ⟨v1, v2⟩ := hi_q1
  refine ⟨fun h2 => have p2 := of_decide_eq_true h2; ?_, fun h2 => have p2 := of_decide_eq_false h2; ?_⟩
  refine ⟨(ax_get (l := s) (i := q1.v) (by omega)), fun x1 hx1 => ?_⟩
  rw [drop_el hx1, shapesOk] at v2
  refine ⟨hx1, (by omega), fun h3 => have p3 := of_decide_eq_true h3; ?_, fun h3 => have p3 := of_decide_eq_false h3; ?_⟩
  refine ⟨(sB ?_), rfl⟩
  rotate_left
  refine ⟨fun h4 => have p4 := of_decide_eq_true h4; ?_, fun h4 => have p4 := of_decide_eq_false h4; ?_⟩
  refine ⟨(sB ?_), rfl⟩
  rotate_left
  refine ⟨fun h5 => have p5 := of_decide_eq_true h5; ?_, fun h5 => have p5 := of_decide_eq_false h5; ?_⟩
  refine ⟨(sB ?_), rfl⟩
  rotate_left
  refine ⟨has_of (j := (⟨0, 0⟩ : schemaOk_i_V1)) (by first | rfl | simp) rfl (by dsimp only [schemaOk_i_F1]; exact ⟨by omega, rfl⟩), fun (q2 : schemaOk_i_V1) hq_q2 => ?_⟩
  have hi_q2 : q2.v ≤ x1.fields.length ∧ fieldsOk (s.length : Int) q2.number (List.drop q2.v x1.fields) = fieldsOk (s.length : Int) 0 x1.fields := hq_q2
  obtain ⟨w1, w2⟩ := hi_q2
  refine ⟨fun h6 => have p6 := of_decide_eq_true h6; ?_, fun h6 => have p6 := of_decide_eq_false h6; ?_⟩
  refine ⟨(ax_get (l := x1.fields) (i := q2.v) (by omega)), fun x2 hx2 => ?_⟩
  rw [drop_el hx2, fieldsOk] at w2
  refine ⟨hx2, (by omega), (fldOk_i x2 _ _ (by omega)), fun h7 => have q7 := bnot_t h7; have p7 := (andF dT Iff.rfl).1 q7; ?_, fun h7 => have q7 := bnot_f h7; have p7 := (andT dT Iff.rfl).1 q7; ?_⟩
  refine ⟨(sB ?_), rfl⟩
  rotate_left
  exact ⟨(as_i64 (by omega) (by omega)), nxt_of (j := (⟨x2.number, q2.v + 1⟩ : schemaOk_i_V1)) (by first | rfl | simp) rfl (by dsimp only [schemaOk_i_F1]; exact ⟨by omega, by grind [fieldsOk]⟩) (by dsimp only [schemaOk_i_F1]; omega)⟩
  rw [drop_end p6] at w2
  exact ⟨(as_i64 (by omega) (by omega)), nxt_of (j := (⟨x1.id, q1.v + 1⟩ : schemaOk_i_V0)) (by first | rfl | simp) rfl (by dsimp only [schemaOk_i_F0]; exact ⟨by omega, by grind [shapesOk, fieldsOk]⟩) (by dsimp only [schemaOk_i_F0]; omega)⟩
  rw [drop_end p2] at v2
  refine ⟨(sB ?_), rfl⟩
  rotate_left
  all_goals grind [schemaOk, shapesOk, fieldsOk]
structure schemaOk_s_V0 where
  i : Nat
  pv : Int
def schemaOk_s_F0 (s : List Shp) : Fam := ⟨schemaOk_s_V0, fun q1 => [(1, .v (vP 0)), (3, .v (vI (q1.i : Int)))], fun _ => [.cells [.seq .shp s]], fun q1 => q1.i ≤ s.length ∧ (0 : Int) ≤ q1.pv ∧ (q1.i = 0 → q1.pv = 0) ∧ (∀ y, 0 < q1.i → s[Int.toNat ((q1.i : Int) - 1)]? = some y → q1.pv = y.id) ∧ shapesOk (s.length : Int) q1.pv (List.drop q1.i s) = shapesOk (s.length : Int) 0 s, fun q1 => s.length - q1.i⟩

structure schemaOk_s_V1 where
  k : Nat
  pv : Int
def schemaOk_s_F1 (s : List Shp) (q1 : schemaOk_s_V0) (x1 : Shp) : Fam := ⟨schemaOk_s_V1, fun q2 => [(1, .v (vP 0)), (3, .v (vI (q1.i : Int))), (4, .v (vP 1)), (5, .v (vI (q2.k : Int)))], fun _ => [.cells [.seq .shp s], .cells (cShp x1)], fun q2 => q2.k ≤ x1.fields.length ∧ (0 : Int) ≤ q2.pv ∧ (q2.k = 0 → q2.pv = 0) ∧ (∀ y, 0 < q2.k → x1.fields[Int.toNat ((q2.k : Int) - 1)]? = some y → q2.pv = y.number) ∧ fieldsOk (s.length : Int) q2.pv (List.drop q2.k x1.fields) = fieldsOk (s.length : Int) 0 x1.fields, fun q2 => x1.fields.length - q2.k⟩

theorem schemaOk_s (s : List Shp) : Fun Try.prog 70 [.agg [.seq .shp s]] [] (.v (vB (schemaOk s))) [] := by
  have hN : bigN = 274877906944 := rfl
  refine fun_ofw Try.func70 (by kernel_rfl) (by kernel_rfl) (w := let z25 := (s.length : Int); let z26 := (.v (vB false) : S); let z27 := vB (schemaOk s); let z28 := ([] : List Blk); let z29 := schemaOk_s_F0 s; let z30 := os 28 [6]; let z31 : List Blk := [.cells [.seq .shp s]]; (.br (.leaf () []) (.seg [.at 0, .keep [1, 3], .sel [0]] (.loop z29 fun q1 => let z23 := (q1.i : Int); .br (.intro (fun (x1 : Shp) => s[q1.i]? = some x1) fun x1 => let z17 := within x1.id 1 99; .seg [.el .shp x1] (.case (!z17) (.seg [.ord (os 26 [2]) [], .call [] (.v (vB z17)) [], .br true] (.leaf () [])) (.case (decide (0 < z23)) (.intro (fun (x2 : Shp) => s[Int.toNat (z23 - 1)]? = some x2) fun x2 => .case (decide (x1.id ≤ x2.id)) (.seg [.ord (os 26 [2]) [], .call [] (.v (vB z17)) [], .br false, .br true, .as 33 (.v (vI (z23 - 1))), .el .shp x2, .br true] (.leaf () [])) (.seg [.ord (os 26 [2]) [], .call [] (.v (vB z17)) [], .br false, .br true, .as 33 (.v (vI (z23 - 1))), .el .shp x2, .br false] (.br (.leaf () []) (.seg [.at 0, .keep [1, 3, 4, 5], .sel [0, 1]] (.loop (schemaOk_s_F1 s q1 x1) fun q2 => let z6 := (q2.k : Int); .br (.intro (fun (x3 : Fld) => x1.fields[q2.k]? = some x3) fun x3 => let z3 := fldOk x3 z25; .case (!z3) (.seg [.ord z30 [], .el .fld x3, .call [] (.v (vB z3)) [], .br true] (.leaf () [])) (.case (decide (0 < z6)) (.intro (fun (x4 : Fld) => x1.fields[Int.toNat (z6 - 1)]? = some x4) fun x4 => .seg [.ord z30 [], .el .fld x3, .call [] (.v (vB z3)) [], .br false, .br true, .as 70 (.v (vI (z6 - 1))), .el .fld x4, .el .fld x3] (.br (.leaf () []) (.seg [.as 54 (.v (vI (z6 + 1))), .at 0, .keep [1, 3, 4, 5], .sel [0, 1]] (.next)))) (.seg [.ord z30 [], .el .fld x3, .call [] (.v (vB z3)) [], .br false, .br false, .as 54 (.v (vI (z6 + 1))), .at 0, .keep [1, 3, 4, 5], .sel [0, 1]] (.next)))) (.seg [.as 16 (.v (vI (z23 + 1))), .at 0, .keep [1, 3], .sel [0]] (.next))))))) (.seg [.ord (os 26 [2]) [], .call [] (.v (vB z17)) [], .br false, .br false] (.br (.leaf () []) (.seg [.at 0, .keep [1, 3, 4, 5], .sel [0, 1]] (.loop (schemaOk_s_F1 s q1 x1) fun q2 => let z15 := (q2.k : Int); .br (.intro (fun (x2 : Fld) => x1.fields[q2.k]? = some x2) fun x2 => let z12 := fldOk x2 z25; .case (!z12) (.seg [.ord z30 [], .el .fld x2, .call [] (.v (vB z12)) [], .br true] (.leaf () [])) (.case (decide (0 < z15)) (.intro (fun (x3 : Fld) => x1.fields[Int.toNat (z15 - 1)]? = some x3) fun x3 => .seg [.ord z30 [], .el .fld x2, .call [] (.v (vB z12)) [], .br false, .br true, .as 70 (.v (vI (z15 - 1))), .el .fld x3, .el .fld x2] (.br (.leaf () []) (.seg [.as 54 (.v (vI (z15 + 1))), .at 0, .keep [1, 3, 4, 5], .sel [0, 1]] (.next)))) (.seg [.ord z30 [], .el .fld x2, .call [] (.v (vB z12)) [], .br false, .br false, .as 54 (.v (vI (z15 + 1))), .at 0, .keep [1, 3, 4, 5], .sel [0, 1]] (.next)))) (.seg [.as 16 (.v (vI (z23 + 1))), .at 0, .keep [1, 3], .sel [0]] (.next))))))))) (.leaf () []))), ((decide (6 < z25)) = true → z26 = .v z27 ∧ z28 = []) ∧ ((decide (6 < z25)) = false → z29.Has [(1, .v (vP 0)), (3, .v (vI 0))] z31 ∧ ∀ q1, z29.inv q1 → (let z24 := (q1.i : Int); ((decide (z24 < z25)) = true → (∃ (x1 : Shp), s[q1.i]? = some x1) ∧ ∀ (x1 : Shp), (s[q1.i]? = some x1) → (let z18 := (x1.fields.length : Int); let z19 : List Blk := [.cells [.seq .shp s], .cells (cShp x1)]; let z20 := within x1.id 1 99; let z21 := schemaOk_s_F1 s q1 x1; let z22 : List V := [vI x1.id, vI 1, vI 99]; (s[q1.i]? = some x1) ∧ ((0 : Int) ≤ z24) ∧ ((!z20) = true → (Fun Try.prog 47 z22 [] (.v (vB z20)) []) ∧ ((!z20) = true) ∧ z26 = .v z27 ∧ z28 = []) ∧ ((!z20) = false → ((decide (0 < z24)) = true → (∃ (x2 : Shp), s[Int.toNat (z24 - 1)]? = some x2) ∧ ∀ (x2 : Shp), (s[Int.toNat (z24 - 1)]? = some x2) → (let z8 := s[Int.toNat (z24 - 1)]? = some x2; let z9 := decide (x1.id ≤ x2.id); (z9 = true → (Fun Try.prog 47 z22 [] (.v (vB z20)) []) ∧ ((!z20) = false) ∧ ((decide (0 < z24)) = true) ∧ ((.v (vI (IntKind.i64.wrap (z24 - 1))) : S) = .v (vI (z24 - 1))) ∧ ((.v (vI (IntKind.i64.wrap (z24 - 1))) : S) = .v (vI (z24 - 1))) ∧ z8 ∧ ((0 : Int) ≤ z24 - 1) ∧ z8 ∧ ((0 : Int) ≤ z24 - 1) ∧ (z9 = true) ∧ z26 = .v z27 ∧ z28 = []) ∧ (z9 = false → (Fun Try.prog 47 z22 [] (.v (vB z20)) []) ∧ ((!z20) = false) ∧ ((decide (0 < z24)) = true) ∧ ((.v (vI (IntKind.i64.wrap (z24 - 1))) : S) = .v (vI (z24 - 1))) ∧ ((.v (vI (IntKind.i64.wrap (z24 - 1))) : S) = .v (vI (z24 - 1))) ∧ z8 ∧ ((0 : Int) ≤ z24 - 1) ∧ z8 ∧ ((0 : Int) ≤ z24 - 1) ∧ (z9 = false) ∧ ((decide (8 < z18)) = true → z26 = .v z27 ∧ z28 = []) ∧ ((decide (8 < z18)) = false → z21.Has [(1, .v (vP 0)), (3, .v (vI z24)), (4, .v (vP 1)), (5, .v (vI 0))] z19 ∧ ∀ q2, z21.inv q2 → (let z7 := (q2.k : Int); ((decide (z7 < z18)) = true → (∃ (x3 : Fld), x1.fields[q2.k]? = some x3) ∧ ∀ (x3 : Fld), (x1.fields[q2.k]? = some x3) → (let z4 := fldOk x3 z25; let z5 := x1.fields[q2.k]? = some x3; ((!z4) = true → z5 ∧ ((0 : Int) ≤ z7) ∧ z5 ∧ ((0 : Int) ≤ z7) ∧ (Fun Try.prog 116 [.agg [.seq .shp s], .agg (cFld x3)] [] (.v (vB z4)) []) ∧ ((!z4) = true) ∧ z26 = .v z27 ∧ z28 = []) ∧ ((!z4) = false → ((decide (0 < z7)) = true → (∃ (x4 : Fld), x1.fields[Int.toNat (z7 - 1)]? = some x4) ∧ ∀ (x4 : Fld), (x1.fields[Int.toNat (z7 - 1)]? = some x4) → (let z1 := x1.fields[Int.toNat (z7 - 1)]? = some x4; let z2 := decide (x3.number ≤ x4.number); z5 ∧ ((0 : Int) ≤ z7) ∧ z5 ∧ ((0 : Int) ≤ z7) ∧ (Fun Try.prog 116 [.agg [.seq .shp s], .agg (cFld x3)] [] (.v (vB z4)) []) ∧ ((!z4) = false) ∧ ((decide (0 < z7)) = true) ∧ ((.v (vI (IntKind.i64.wrap (z7 - 1))) : S) = .v (vI (z7 - 1))) ∧ ((.v (vI (IntKind.i64.wrap (z7 - 1))) : S) = .v (vI (z7 - 1))) ∧ z1 ∧ ((0 : Int) ≤ z7 - 1) ∧ z1 ∧ ((0 : Int) ≤ z7 - 1) ∧ z5 ∧ ((0 : Int) ≤ z7) ∧ z5 ∧ ((0 : Int) ≤ z7) ∧ (z2 = true → z26 = .v z27 ∧ z28 = []) ∧ (z2 = false → ((.v (vI (IntKind.i64.wrap (z7 + 1))) : S) = .v (vI (z7 + 1))) ∧ z21.Nxt q2 [(1, .v (vP 0)), (3, .v (vI z24)), (4, .v (vP 1)), (5, .v (vI (z7 + 1)))] z19))) ∧ ((decide (0 < z7)) = false → z5 ∧ ((0 : Int) ≤ z7) ∧ z5 ∧ ((0 : Int) ≤ z7) ∧ (Fun Try.prog 116 [.agg [.seq .shp s], .agg (cFld x3)] [] (.v (vB z4)) []) ∧ ((!z4) = false) ∧ ((decide (0 < z7)) = false) ∧ ((.v (vI (IntKind.i64.wrap (z7 + 1))) : S) = .v (vI (z7 + 1))) ∧ z21.Nxt q2 [(1, .v (vP 0)), (3, .v (vI z24)), (4, .v (vP 1)), (5, .v (vI (z7 + 1)))] z19)))) ∧ ((decide (z7 < z18)) = false → ((.v (vI (IntKind.i64.wrap (z24 + 1))) : S) = .v (vI (z24 + 1))) ∧ z29.Nxt q1 [(1, .v (vP 0)), (3, .v (vI (z24 + 1)))] z31)))))) ∧ ((decide (0 < z24)) = false → (Fun Try.prog 47 z22 [] (.v (vB z20)) []) ∧ ((!z20) = false) ∧ ((decide (0 < z24)) = false) ∧ ((decide (8 < z18)) = true → z26 = .v z27 ∧ z28 = []) ∧ ((decide (8 < z18)) = false → z21.Has [(1, .v (vP 0)), (3, .v (vI z24)), (4, .v (vP 1)), (5, .v (vI 0))] z19 ∧ ∀ q2, z21.inv q2 → (let z16 := (q2.k : Int); ((decide (z16 < z18)) = true → (∃ (x2 : Fld), x1.fields[q2.k]? = some x2) ∧ ∀ (x2 : Fld), (x1.fields[q2.k]? = some x2) → (let z13 := fldOk x2 z25; let z14 := x1.fields[q2.k]? = some x2; ((!z13) = true → z14 ∧ ((0 : Int) ≤ z16) ∧ z14 ∧ ((0 : Int) ≤ z16) ∧ (Fun Try.prog 116 [.agg [.seq .shp s], .agg (cFld x2)] [] (.v (vB z13)) []) ∧ ((!z13) = true) ∧ z26 = .v z27 ∧ z28 = []) ∧ ((!z13) = false → ((decide (0 < z16)) = true → (∃ (x3 : Fld), x1.fields[Int.toNat (z16 - 1)]? = some x3) ∧ ∀ (x3 : Fld), (x1.fields[Int.toNat (z16 - 1)]? = some x3) → (let z10 := x1.fields[Int.toNat (z16 - 1)]? = some x3; let z11 := decide (x2.number ≤ x3.number); z14 ∧ ((0 : Int) ≤ z16) ∧ z14 ∧ ((0 : Int) ≤ z16) ∧ (Fun Try.prog 116 [.agg [.seq .shp s], .agg (cFld x2)] [] (.v (vB z13)) []) ∧ ((!z13) = false) ∧ ((decide (0 < z16)) = true) ∧ ((.v (vI (IntKind.i64.wrap (z16 - 1))) : S) = .v (vI (z16 - 1))) ∧ ((.v (vI (IntKind.i64.wrap (z16 - 1))) : S) = .v (vI (z16 - 1))) ∧ z10 ∧ ((0 : Int) ≤ z16 - 1) ∧ z10 ∧ ((0 : Int) ≤ z16 - 1) ∧ z14 ∧ ((0 : Int) ≤ z16) ∧ z14 ∧ ((0 : Int) ≤ z16) ∧ (z11 = true → z26 = .v z27 ∧ z28 = []) ∧ (z11 = false → ((.v (vI (IntKind.i64.wrap (z16 + 1))) : S) = .v (vI (z16 + 1))) ∧ z21.Nxt q2 [(1, .v (vP 0)), (3, .v (vI z24)), (4, .v (vP 1)), (5, .v (vI (z16 + 1)))] z19))) ∧ ((decide (0 < z16)) = false → z14 ∧ ((0 : Int) ≤ z16) ∧ z14 ∧ ((0 : Int) ≤ z16) ∧ (Fun Try.prog 116 [.agg [.seq .shp s], .agg (cFld x2)] [] (.v (vB z13)) []) ∧ ((!z13) = false) ∧ ((decide (0 < z16)) = false) ∧ ((.v (vI (IntKind.i64.wrap (z16 + 1))) : S) = .v (vI (z16 + 1))) ∧ z21.Nxt q2 [(1, .v (vP 0)), (3, .v (vI z24)), (4, .v (vP 1)), (5, .v (vI (z16 + 1)))] z19)))) ∧ ((decide (z16 < z18)) = false → ((.v (vI (IntKind.i64.wrap (z24 + 1))) : S) = .v (vI (z24 + 1))) ∧ z29.Nxt q1 [(1, .v (vP 0)), (3, .v (vI (z24 + 1)))] z31))))))) ∧ ((decide (z24 < z25)) = false → (.v (vB true) : S) = .v z27 ∧ z28 = []))))) (by kernel_rfl) ?_
  refine ⟨fun h1 => have p1 := of_decide_eq_true h1; ?_, fun h1 => have p1 := of_decide_eq_false h1; ?_⟩
  exact ⟨(congrArg S.v (congrArg V.c (congrArg C.bool (by unfold schemaOk; grind)))), rfl⟩
  refine ⟨has_of (j := (⟨0, 0⟩ : schemaOk_s_V0)) (by first | rfl | simp) rfl (by dsimp only [schemaOk_s_F0]; exact ⟨by omega, by omega, by omega, by omega, rfl⟩), fun (q1 : schemaOk_s_V0) hq_q1 => ?_⟩
  have hi_q1 : q1.i ≤ s.length ∧ (0 : Int) ≤ q1.pv ∧ (q1.i = 0 → q1.pv = 0) ∧ (∀ y, 0 < q1.i → s[Int.toNat ((q1.i : Int) - 1)]? = some y → q1.pv = y.id) ∧ shapesOk (s.length : Int) q1.pv (List.drop q1.i s) = shapesOk (s.length : Int) 0 s := hq_q1
  obtain ⟨v1, v2, v3, v4, v5⟩ := hi_q1
  refine ⟨fun h2 => have p2 := of_decide_eq_true h2; ?_, fun h2 => have p2 := of_decide_eq_false h2; ?_⟩
  refine ⟨(ax_get (l := s) (i := q1.i) (by omega)), fun x1 hx1 => ?_⟩
  rw [drop_el hx1, shapesOk] at v5
  refine ⟨hx1, (by omega), fun h3 => have q3 := bnot_t h3; have p3 := within_f q3; ?_, fun h3 => have q3 := bnot_f h3; have p3 := within_t q3; ?_⟩
  exact ⟨(within_s _ _ _), h3, (congrArg S.v (congrArg V.c (congrArg C.bool (by unfold schemaOk; grind)))), rfl⟩
  refine ⟨fun h4 => have p4 := of_decide_eq_true h4; ?_, fun h4 => have p4 := of_decide_eq_false h4; ?_⟩
  refine ⟨(ax_get (l := s) (i := Int.toNat ((q1.i : Int) - 1)) (by omega)), fun x2 hx2 => ?_⟩
  have hy := v4 _ (by omega) hx2
  refine ⟨fun h5 => have p5 := of_decide_eq_true h5; ?_, fun h5 => have p5 := of_decide_eq_false h5; ?_⟩
  exact ⟨(within_s _ _ _), h3, h4, (as_i64 (by omega) (by omega)), (as_i64 (by omega) (by omega)), hx2, (by omega), hx2, (by omega), h5, (congrArg S.v (congrArg V.c (congrArg C.bool (by unfold schemaOk; grind)))), rfl⟩
  refine ⟨(within_s _ _ _), h3, h4, (as_i64 (by omega) (by omega)), (as_i64 (by omega) (by omega)), hx2, (by omega), hx2, (by omega), h5, fun h6 => have p6 := of_decide_eq_true h6; ?_, fun h6 => have p6 := of_decide_eq_false h6; ?_⟩
  exact ⟨(congrArg S.v (congrArg V.c (congrArg C.bool (by unfold schemaOk; grind)))), rfl⟩
  refine ⟨has_of (j := (⟨0, 0⟩ : schemaOk_s_V1)) (by first | rfl | simp) rfl (by dsimp only [schemaOk_s_F1]; exact ⟨by omega, by omega, by omega, by omega, rfl⟩), fun (q2 : schemaOk_s_V1) hq_q2 => ?_⟩
  have hi_q2 : q2.k ≤ x1.fields.length ∧ (0 : Int) ≤ q2.pv ∧ (q2.k = 0 → q2.pv = 0) ∧ (∀ y, 0 < q2.k → x1.fields[Int.toNat ((q2.k : Int) - 1)]? = some y → q2.pv = y.number) ∧ fieldsOk (s.length : Int) q2.pv (List.drop q2.k x1.fields) = fieldsOk (s.length : Int) 0 x1.fields := hq_q2
  obtain ⟨w1, w2, w3, w4, w5⟩ := hi_q2
  refine ⟨fun h7 => have p7 := of_decide_eq_true h7; ?_, fun h7 => have p7 := of_decide_eq_false h7; ?_⟩
  refine ⟨(ax_get (l := x1.fields) (i := q2.k) (by omega)), fun x3 hx3 => ?_⟩
  rw [drop_el hx3, fieldsOk] at w5
  refine ⟨fun h8 => have q8 := bnot_t h8; ?_, fun h8 => have q8 := bnot_f h8; have p8 := fldOk_t q8; ?_⟩
  exact ⟨hx3, (by omega), hx3, (by omega), (fldOk_s s x3 (by omega)), h8, (congrArg S.v (congrArg V.c (congrArg C.bool (by unfold schemaOk; grind)))), rfl⟩
  refine ⟨fun h9 => have p9 := of_decide_eq_true h9; ?_, fun h9 => have p9 := of_decide_eq_false h9; ?_⟩
  refine ⟨(ax_get (l := x1.fields) (i := Int.toNat ((q2.k : Int) - 1)) (by omega)), fun x4 hx4 => ?_⟩
  have hz := w4 _ (by omega) hx4
  refine ⟨hx3, (by omega), hx3, (by omega), (fldOk_s s x3 (by omega)), h8, h9, (as_i64 (by omega) (by omega)), (as_i64 (by omega) (by omega)), hx4, (by omega), hx4, (by omega), hx3, (by omega), hx3, (by omega), fun h10 => have p10 := of_decide_eq_true h10; ?_, fun h10 => have p10 := of_decide_eq_false h10; ?_⟩
  exact ⟨(congrArg S.v (congrArg V.c (congrArg C.bool (by unfold schemaOk; grind)))), rfl⟩
  exact ⟨(as_i64 (by omega) (by omega)), nxt_of (j := (⟨q2.k + 1, x3.number⟩ : schemaOk_s_V1)) (by first | rfl | simp) rfl (by dsimp only [schemaOk_s_F1]; exact ⟨by omega, by grind, by omega, by intro y h1 h2; rw [show Int.toNat ((((q2.k + 1) : Nat) : Int) - 1) = q2.k by omega] at h2; grind, by rw [← w5, decide_eq_true (show q2.pv < x3.number by omega), bnot_f (by assumption : (!fldOk x3 _) = false)]; simp⟩) (by dsimp only [schemaOk_s_F1]; omega)⟩
  exact ⟨hx3, (by omega), hx3, (by omega), (fldOk_s s x3 (by omega)), h8, h9, (as_i64 (by omega) (by omega)), nxt_of (j := (⟨q2.k + 1, x3.number⟩ : schemaOk_s_V1)) (by first | rfl | simp) rfl (by dsimp only [schemaOk_s_F1]; exact ⟨by omega, by grind, by omega, by intro y h1 h2; rw [show Int.toNat ((((q2.k + 1) : Nat) : Int) - 1) = q2.k by omega] at h2; grind, by rw [← w5, decide_eq_true (show q2.pv < x3.number by omega), bnot_f (by assumption : (!fldOk x3 _) = false)]; simp⟩) (by dsimp only [schemaOk_s_F1]; omega)⟩
  rw [drop_end p7, fieldsOk] at w5
  exact ⟨(as_i64 (by omega) (by omega)), nxt_of (j := (⟨q1.i + 1, x1.id⟩ : schemaOk_s_V0)) (by first | rfl | simp) rfl (by dsimp only [schemaOk_s_F0]; exact ⟨by omega, by grind, by omega, by intro y h1 h2; rw [show Int.toNat ((((q1.i + 1) : Nat) : Int) - 1) = q1.i by omega] at h2; grind, by rw [← v5, decide_eq_true (show q1.pv < x1.id by omega), decide_eq_true (show x1.id ≤ 99 by omega), decide_eq_true (show (x1.fields.length : Int) ≤ 8 by omega), ← w5]; simp⟩) (by dsimp only [schemaOk_s_F0]; omega)⟩
  refine ⟨(within_s _ _ _), h3, h4, fun h5 => have p5 := of_decide_eq_true h5; ?_, fun h5 => have p5 := of_decide_eq_false h5; ?_⟩
  exact ⟨(congrArg S.v (congrArg V.c (congrArg C.bool (by unfold schemaOk; grind)))), rfl⟩
  refine ⟨has_of (j := (⟨0, 0⟩ : schemaOk_s_V1)) (by first | rfl | simp) rfl (by dsimp only [schemaOk_s_F1]; exact ⟨by omega, by omega, by omega, by omega, rfl⟩), fun (q2 : schemaOk_s_V1) hq_q2 => ?_⟩
  have hi_q2 : q2.k ≤ x1.fields.length ∧ (0 : Int) ≤ q2.pv ∧ (q2.k = 0 → q2.pv = 0) ∧ (∀ y, 0 < q2.k → x1.fields[Int.toNat ((q2.k : Int) - 1)]? = some y → q2.pv = y.number) ∧ fieldsOk (s.length : Int) q2.pv (List.drop q2.k x1.fields) = fieldsOk (s.length : Int) 0 x1.fields := hq_q2
  obtain ⟨w1, w2, w3, w4, w5⟩ := hi_q2
  refine ⟨fun h6 => have p6 := of_decide_eq_true h6; ?_, fun h6 => have p6 := of_decide_eq_false h6; ?_⟩
  refine ⟨(ax_get (l := x1.fields) (i := q2.k) (by omega)), fun x2 hx2 => ?_⟩
  rw [drop_el hx2, fieldsOk] at w5
  refine ⟨fun h7 => have q7 := bnot_t h7; ?_, fun h7 => have q7 := bnot_f h7; have p7 := fldOk_t q7; ?_⟩
  exact ⟨hx2, (by omega), hx2, (by omega), (fldOk_s s x2 (by omega)), h7, (congrArg S.v (congrArg V.c (congrArg C.bool (by unfold schemaOk; grind)))), rfl⟩
  refine ⟨fun h8 => have p8 := of_decide_eq_true h8; ?_, fun h8 => have p8 := of_decide_eq_false h8; ?_⟩
  refine ⟨(ax_get (l := x1.fields) (i := Int.toNat ((q2.k : Int) - 1)) (by omega)), fun x3 hx3 => ?_⟩
  have hz := w4 _ (by omega) hx3
  refine ⟨hx2, (by omega), hx2, (by omega), (fldOk_s s x2 (by omega)), h7, h8, (as_i64 (by omega) (by omega)), (as_i64 (by omega) (by omega)), hx3, (by omega), hx3, (by omega), hx2, (by omega), hx2, (by omega), fun h9 => have p9 := of_decide_eq_true h9; ?_, fun h9 => have p9 := of_decide_eq_false h9; ?_⟩
  exact ⟨(congrArg S.v (congrArg V.c (congrArg C.bool (by unfold schemaOk; grind)))), rfl⟩
  exact ⟨(as_i64 (by omega) (by omega)), nxt_of (j := (⟨q2.k + 1, x2.number⟩ : schemaOk_s_V1)) (by first | rfl | simp) rfl (by dsimp only [schemaOk_s_F1]; exact ⟨by omega, by grind, by omega, by intro y h1 h2; rw [show Int.toNat ((((q2.k + 1) : Nat) : Int) - 1) = q2.k by omega] at h2; grind, by rw [← w5, decide_eq_true (show q2.pv < x2.number by omega), bnot_f (by assumption : (!fldOk x2 _) = false)]; simp⟩) (by dsimp only [schemaOk_s_F1]; omega)⟩
  exact ⟨hx2, (by omega), hx2, (by omega), (fldOk_s s x2 (by omega)), h7, h8, (as_i64 (by omega) (by omega)), nxt_of (j := (⟨q2.k + 1, x2.number⟩ : schemaOk_s_V1)) (by first | rfl | simp) rfl (by dsimp only [schemaOk_s_F1]; exact ⟨by omega, by grind, by omega, by intro y h1 h2; rw [show Int.toNat ((((q2.k + 1) : Nat) : Int) - 1) = q2.k by omega] at h2; grind, by rw [← w5, decide_eq_true (show q2.pv < x2.number by omega), bnot_f (by assumption : (!fldOk x2 _) = false)]; simp⟩) (by dsimp only [schemaOk_s_F1]; omega)⟩
  rw [drop_end p6, fieldsOk] at w5
  exact ⟨(as_i64 (by omega) (by omega)), nxt_of (j := (⟨q1.i + 1, x1.id⟩ : schemaOk_s_V0)) (by first | rfl | simp) rfl (by dsimp only [schemaOk_s_F0]; exact ⟨by omega, by grind, by omega, by intro y h1 h2; rw [show Int.toNat ((((q1.i + 1) : Nat) : Int) - 1) = q1.i by omega] at h2; grind, by rw [← v5, decide_eq_true (show q1.pv < x1.id by omega), decide_eq_true (show x1.id ≤ 99 by omega), decide_eq_true (show (x1.fields.length : Int) ≤ 8 by omega), ← w5]; simp⟩) (by dsimp only [schemaOk_s_F0]; omega)⟩
  rw [drop_end p2, shapesOk] at v5
  exact ⟨(congrArg S.v (congrArg V.c (congrArg C.bool (by unfold schemaOk; grind)))), rfl⟩
structure fieldAt_i_V0 where
  v : Nat
def fieldAt_i_F0 (n : Int) (x1 : Shp) : Fam := ⟨fieldAt_i_V0, fun q1 => [(2, .v (vI n)), (6, .v (vP 0)), (23, .v (.c (.seq .fld x1.fields))), (24, .v (vI (x1.fields.length : Int))), (25, .v (vI (q1.v : Int)))], fun _ => [.cells [.int .i64 0, .int .i64 0, .bool false, .bool false, .int .i64 0]], fun q1 => q1.v ≤ x1.fields.length ∧ fieldIn (List.drop q1.v x1.fields) n = fieldIn x1.fields n, fun q1 => x1.fields.length - q1.v⟩

theorem fieldAt_i (s : List Shp) (sh : Int) (n : Int) (hp1 : s.length ≤ 1000) (hp2 : ∀ x ∈ s, x.fields.length ≤ 1000) : Fun Try.prog 87 [.agg [.seq .shp s], vI sh, vI n] [] (.tup [.agg (cFld ((fieldAt s sh n).getD fld0)), vB (fieldAt s sh n).isSome]) [] := by
  have hN : bigN = 274877906944 := rfl
  refine fun_ofw Try.func87 (by kernel_rfl) (by kernel_rfl) (w := let z4 := (s.length : Int) - 1; let z5 := (.tup [.agg [.int .i64 0, .int .i64 0, .bool false, .bool false, .int .i64 0], vB false] : S); let z6 := fieldAt s sh n; let z7 : List Blk := [.cells [.int .i64 0, .int .i64 0, .bool false, .bool false, .int .i64 0]]; let z8 := within sh 0 z4; let z9 := cFld (z6.getD fld0); (.seg [.as 14 (.v (vI z4)), .call [] (.v (vB z8)) []] (.br (.leaf () []) (.intro (fun (x1 : Shp) => s[sh.toNat]? = some x1) fun x1 => .seg [.el .shp x1, .at 0, .keep [2, 6, 23, 24, 25], .sel [1]] (.loop (fieldAt_i_F0 n x1) fun q1 => .br (.intro (fun (x2 : Fld) => x1.fields[q1.v]? = some x2) fun x2 => .seg [.el .fld x2] (.br (.leaf () []) (.seg [.as 34 (.v (vI ((q1.v : Int) + 1))), .at 0, .keep [2, 6, 23, 24, 25], .sel [0]] (.next)))) (.leaf () [])))), ((.v (vI (IntKind.i64.wrap z4)) : S) = .v (vI z4)) ∧ (Fun Try.prog 49 [vI sh, vI 0, vI z4] [] (.v (vB z8)) []) ∧ ((!z8) = true → z5 = .tup [.agg z9, vB z6.isSome] ∧ ([] : List Blk) = []) ∧ ((!z8) = false → (∃ (x1 : Shp), s[sh.toNat]? = some x1) ∧ ∀ (x1 : Shp), (s[sh.toNat]? = some x1) → (let z2 := (x1.fields.length : Int); let z3 := fieldAt_i_F0 n x1; (s[sh.toNat]? = some x1) ∧ ((0 : Int) ≤ sh) ∧ z3.Has [(2, .v (vI n)), (6, .v (vP 0)), (23, .v (.c (.seq .fld x1.fields))), (24, .v (vI z2)), (25, .v (vI 0))] z7 ∧ ∀ q1, z3.inv q1 → (let z1 := (q1.v : Int); ((decide (z1 < z2)) = true → (∃ (x2 : Fld), x1.fields[q1.v]? = some x2) ∧ ∀ (x2 : Fld), (x1.fields[q1.v]? = some x2) → ((x1.fields[q1.v]? = some x2) ∧ ((0 : Int) ≤ z1) ∧ ((decide (x2.number = n)) = true → (.tup [.agg (cFld x2), vB true] : S) = .tup [.agg z9, vB z6.isSome] ∧ ([] : List Blk) = []) ∧ ((decide (x2.number = n)) = false → ((.v (vI (IntKind.i64.wrap (z1 + 1))) : S) = .v (vI (z1 + 1))) ∧ z3.Nxt q1 [(2, .v (vI n)), (6, .v (vP 0)), (23, .v (.c (.seq .fld x1.fields))), (24, .v (vI z2)), (25, .v (vI (z1 + 1)))] z7))) ∧ ((decide (z1 < z2)) = false → z5 = .tup [.agg z9, vB z6.isSome] ∧ ([] : List Blk) = [])))))) (by kernel_rfl) ?_
  refine ⟨(as_i64 (by omega) (by omega)), (within_i _ _ _), fun h1 => have q1 := bnot_t h1; have p1 := within_f q1; ?_, fun h1 => have q1 := bnot_f h1; have p1 := within_t q1; ?_⟩
  refine have hm1 : (fieldAt s sh n).getD fld0 = (⟨0, 0, false, false, 0⟩ : Fld) := ?_; ?_
  rotate_left
  refine ⟨(congrArg S.tup (consE (congrArg V.agg (consE (congrArg (C.int .i64) ?_) (consE (congrArg (C.int .i64) ?_) (consE (congrArg C.bool ?_) (consE (congrArg C.bool ?_) (consE (congrArg (C.int .i64) ?_) rfl)))))) (consE (congrArg V.c (congrArg C.bool ?_)) rfl))), rfl⟩
  rotate_left 6
  have q1_ := q1
  refine ⟨(ax_get (l := s) (i := sh.toNat) (by omega)), fun x1 hx1 => ?_⟩
  have hfa := fieldAt_in (n := n) q1_ hx1
  have hfl := hp2 x1 (List.mem_of_getElem? hx1)
  refine ⟨hx1, (by omega), has_of (j := (⟨0⟩ : fieldAt_i_V0)) (by first | rfl | simp) rfl (by dsimp only [fieldAt_i_F0]; exact ⟨by omega, by simp⟩), fun (q1 : fieldAt_i_V0) hq_q1 => ?_⟩
  have hi_q1 : q1.v ≤ x1.fields.length ∧ fieldIn (List.drop q1.v x1.fields) n = fieldIn x1.fields n := hq_q1
  obtain ⟨v1, v2⟩ := hi_q1
  refine ⟨fun h2 => have p2 := of_decide_eq_true h2; ?_, fun h2 => have p2 := of_decide_eq_false h2; ?_⟩
  refine ⟨(ax_get (l := x1.fields) (i := q1.v) (by omega)), fun x2 hx2 => ?_⟩
  rw [drop_el hx2, fieldIn_cons] at v2
  refine ⟨hx2, (by omega), fun h3 => have p3 := of_decide_eq_true h3; ?_, fun h3 => have p3 := of_decide_eq_false h3; ?_⟩
  refine have hm1 : (fieldAt s sh n).getD fld0 = x2 := ?_; ?_
  rotate_left
  refine ⟨(congrArg S.tup (consE (congrArg V.agg (consE (congrArg (C.int .i64) ?_) (consE (congrArg (C.int .i64) ?_) (consE (congrArg C.bool ?_) (consE (congrArg C.bool ?_) (consE (congrArg (C.int .i64) ?_) rfl)))))) (consE (congrArg V.c (congrArg C.bool ?_)) rfl))), rfl⟩
  rotate_left 6
  exact ⟨(as_i64 (by omega) (by omega)), nxt_of (j := (⟨q1.v + 1⟩ : fieldAt_i_V0)) (by first | rfl | simp) rfl (by dsimp only [fieldAt_i_F0]; exact ⟨by omega, by grind⟩) (by dsimp only [fieldAt_i_F0]; omega)⟩
  rw [drop_end p2] at v2
  refine have hm1 : (fieldAt s sh n).getD fld0 = (⟨0, 0, false, false, 0⟩ : Fld) := ?_; ?_
  rotate_left
  refine ⟨(congrArg S.tup (consE (congrArg V.agg (consE (congrArg (C.int .i64) ?_) (consE (congrArg (C.int .i64) ?_) (consE (congrArg C.bool ?_) (consE (congrArg C.bool ?_) (consE (congrArg (C.int .i64) ?_) rfl)))))) (consE (congrArg V.c (congrArg C.bool ?_)) rfl))), rfl⟩
  rotate_left 6
  all_goals grind [fieldAt, fld0, fieldIn]
structure fieldAt_s_V0 where
  i : Nat
def fieldAt_s_F0 (n : Int) (x1 : Shp) : Fam := ⟨fieldAt_s_V0, fun q1 => [(2, .v (vI n)), (6, .v (vP 0)), (8, .v (.c (.seq .fld x1.fields))), (9, .v (vI (q1.i : Int)))], fun _ => [.cells [.int .i64 0, .int .i64 0, .bool false, .bool false, .int .i64 0]], fun q1 => q1.i ≤ x1.fields.length ∧ fieldIn (List.drop q1.i x1.fields) n = fieldIn x1.fields n, fun q1 => x1.fields.length - q1.i⟩

theorem fieldAt_s (s : List Shp) (sh : Int) (n : Int) (hp1 : s.length ≤ 1000) (hp2 : ∀ x ∈ s, x.fields.length ≤ 1000) : Fun Try.prog 81 [.agg [.seq .shp s], vI sh, vI n] [] (.tup [.agg (cFld ((fieldAt s sh n).getD fld0)), vB (fieldAt s sh n).isSome]) [] := by
  have hN : bigN = 274877906944 := rfl
  refine fun_ofw Try.func81 (by kernel_rfl) (by kernel_rfl) (w := let z4 := (s.length : Int) - 1; let z5 := (.tup [.agg [.int .i64 0, .int .i64 0, .bool false, .bool false, .int .i64 0], vB false] : S); let z6 := fieldAt s sh n; let z7 : List Blk := [.cells [.int .i64 0, .int .i64 0, .bool false, .bool false, .int .i64 0]]; let z8 := within sh 0 z4; let z9 := cFld (z6.getD fld0); (.seg [.as 14 (.v (vI z4)), .call [] (.v (vB z8)) []] (.br (.leaf () []) (.intro (fun (x1 : Shp) => s[sh.toNat]? = some x1) fun x1 => .seg [.el .shp x1, .at 0, .keep [2, 6, 8, 9], .sel [1]] (.loop (fieldAt_s_F0 n x1) fun q1 => .br (.intro (fun (x2 : Fld) => x1.fields[q1.i]? = some x2) fun x2 => .seg [.el .fld x2] (.br (.seg [.el .fld x2] (.leaf () [])) (.seg [.as 29 (.v (vI ((q1.i : Int) + 1))), .at 0, .keep [2, 6, 8, 9], .sel [0]] (.next)))) (.leaf () [])))), ((.v (vI (IntKind.i64.wrap z4)) : S) = .v (vI z4)) ∧ (Fun Try.prog 47 [vI sh, vI 0, vI z4] [] (.v (vB z8)) []) ∧ ((!z8) = true → z5 = .tup [.agg z9, vB z6.isSome] ∧ ([] : List Blk) = []) ∧ ((!z8) = false → (∃ (x1 : Shp), s[sh.toNat]? = some x1) ∧ ∀ (x1 : Shp), (s[sh.toNat]? = some x1) → (let z2 := (x1.fields.length : Int); let z3 := fieldAt_s_F0 n x1; (s[sh.toNat]? = some x1) ∧ ((0 : Int) ≤ sh) ∧ z3.Has [(2, .v (vI n)), (6, .v (vP 0)), (8, .v (.c (.seq .fld x1.fields))), (9, .v (vI 0))] z7 ∧ ∀ q1, z3.inv q1 → (let z1 := (q1.i : Int); ((decide (z1 < z2)) = true → (∃ (x2 : Fld), x1.fields[q1.i]? = some x2) ∧ ∀ (x2 : Fld), (x1.fields[q1.i]? = some x2) → ((x1.fields[q1.i]? = some x2) ∧ ((0 : Int) ≤ z1) ∧ ((decide (x2.number = n)) = true → (x1.fields[q1.i]? = some x2) ∧ ((0 : Int) ≤ z1) ∧ (.tup [.agg (cFld x2), vB true] : S) = .tup [.agg z9, vB z6.isSome] ∧ ([] : List Blk) = []) ∧ ((decide (x2.number = n)) = false → ((.v (vI (IntKind.i64.wrap (z1 + 1))) : S) = .v (vI (z1 + 1))) ∧ z3.Nxt q1 [(2, .v (vI n)), (6, .v (vP 0)), (8, .v (.c (.seq .fld x1.fields))), (9, .v (vI (z1 + 1)))] z7))) ∧ ((decide (z1 < z2)) = false → z5 = .tup [.agg z9, vB z6.isSome] ∧ ([] : List Blk) = [])))))) (by kernel_rfl) ?_
  refine ⟨(as_i64 (by omega) (by omega)), (within_s _ _ _), fun h1 => have q1 := bnot_t h1; have p1 := within_f q1; ?_, fun h1 => have q1 := bnot_f h1; have p1 := within_t q1; ?_⟩
  refine have hm1 : (fieldAt s sh n).getD fld0 = (⟨0, 0, false, false, 0⟩ : Fld) := ?_; ?_
  rotate_left
  refine ⟨(congrArg S.tup (consE (congrArg V.agg (consE (congrArg (C.int .i64) ?_) (consE (congrArg (C.int .i64) ?_) (consE (congrArg C.bool ?_) (consE (congrArg C.bool ?_) (consE (congrArg (C.int .i64) ?_) rfl)))))) (consE (congrArg V.c (congrArg C.bool ?_)) rfl))), rfl⟩
  rotate_left 6
  have q1_ := q1
  refine ⟨(ax_get (l := s) (i := sh.toNat) (by omega)), fun x1 hx1 => ?_⟩
  have hfa := fieldAt_in (n := n) q1_ hx1
  have hfl := hp2 x1 (List.mem_of_getElem? hx1)
  refine ⟨hx1, (by omega), has_of (j := (⟨0⟩ : fieldAt_s_V0)) (by first | rfl | simp) rfl (by dsimp only [fieldAt_s_F0]; exact ⟨by omega, by simp⟩), fun (q1 : fieldAt_s_V0) hq_q1 => ?_⟩
  have hi_q1 : q1.i ≤ x1.fields.length ∧ fieldIn (List.drop q1.i x1.fields) n = fieldIn x1.fields n := hq_q1
  obtain ⟨v1, v2⟩ := hi_q1
  refine ⟨fun h2 => have p2 := of_decide_eq_true h2; ?_, fun h2 => have p2 := of_decide_eq_false h2; ?_⟩
  refine ⟨(ax_get (l := x1.fields) (i := q1.i) (by omega)), fun x2 hx2 => ?_⟩
  rw [drop_el hx2, fieldIn_cons] at v2
  refine ⟨hx2, (by omega), fun h3 => have p3 := of_decide_eq_true h3; ?_, fun h3 => have p3 := of_decide_eq_false h3; ?_⟩
  refine ⟨hx2, (by omega), ?_⟩
  refine have hm1 : (fieldAt s sh n).getD fld0 = x2 := ?_; ?_
  rotate_left
  refine ⟨(congrArg S.tup (consE (congrArg V.agg (consE (congrArg (C.int .i64) ?_) (consE (congrArg (C.int .i64) ?_) (consE (congrArg C.bool ?_) (consE (congrArg C.bool ?_) (consE (congrArg (C.int .i64) ?_) rfl)))))) (consE (congrArg V.c (congrArg C.bool ?_)) rfl))), rfl⟩
  rotate_left 6
  exact ⟨(as_i64 (by omega) (by omega)), nxt_of (j := (⟨q1.i + 1⟩ : fieldAt_s_V0)) (by first | rfl | simp) rfl (by dsimp only [fieldAt_s_F0]; exact ⟨by omega, by grind⟩) (by dsimp only [fieldAt_s_F0]; omega)⟩
  rw [drop_end p2] at v2
  refine have hm1 : (fieldAt s sh n).getD fld0 = (⟨0, 0, false, false, 0⟩ : Fld) := ?_; ?_
  rotate_left
  refine ⟨(congrArg S.tup (consE (congrArg V.agg (consE (congrArg (C.int .i64) ?_) (consE (congrArg (C.int .i64) ?_) (consE (congrArg C.bool ?_) (consE (congrArg C.bool ?_) (consE (congrArg (C.int .i64) ?_) rfl)))))) (consE (congrArg V.c (congrArg C.bool ?_)) rfl))), rfl⟩
  rotate_left 6
  all_goals grind [fieldAt, fld0, fieldIn]
theorem planOk_i (p : Pln) : Fun Try.prog 42 [.agg (cPln p)] [] (.v (vB (planOk p))) [] := by
  have hN : bigN = 274877906944 := rfl
  refine fun_ofw Try.func42 (by kernel_rfl) (by kernel_rfl) (w := let z1 := (p.shapes.length : Int) - 1; let z2 := within p.root 0 z1; let z3 := schemaOk p.shapes; let z4 := within p.deep 1 8; let z5 := vB (within p.most 0 2000); let z6 := vB (planOk p); let z7 := ([] : List Blk); let z8 := (.v (vB false) : S); (.seg [.call [] (.v (vB z3)) []] (.br (.seg [.as 13 (.v (vI z1)), .call [] (.v (vB z2)) []] (.br (.seg [.call [] (.v (vB z4)) []] (.br (.seg [.call [] (.v z5) []] (.leaf () [])) (.leaf () []))) (.leaf () []))) (.leaf () [])), (Fun Try.prog 74 [.agg [.seq .shp p.shapes]] [] (.v (vB z3)) []) ∧ (z3 = true → ((.v (vI (IntKind.i64.wrap z1)) : S) = .v (vI z1)) ∧ (Fun Try.prog 49 [vI p.root, vI 0, vI z1] [] (.v (vB z2)) []) ∧ (z2 = true → (Fun Try.prog 49 [vI p.deep, vI 1, vI 8] [] (.v (vB z4)) []) ∧ (z4 = true → (Fun Try.prog 49 [vI p.most, vI 0, vI 2000] [] (.v z5) []) ∧ (.v z5 : S) = .v z6 ∧ z7 = []) ∧ (z4 = false → z8 = .v z6 ∧ z7 = [])) ∧ (z2 = false → z8 = .v z6 ∧ z7 = [])) ∧ (z3 = false → z8 = .v z6 ∧ z7 = []))) (by kernel_rfl) ?_
  refine ⟨(schemaOk_i p.shapes), fun h1 => have p1 := schemaOk_t h1; ?_, fun h1 => ?_⟩
  refine ⟨(as_i64 (by omega) (by omega)), (within_i _ _ _), fun h2 => have p2 := within_t h2; ?_, fun h2 => have p2 := within_f h2; ?_⟩
  refine ⟨(within_i _ _ _), fun h3 => have p3 := within_t h3; ?_, fun h3 => have p3 := within_f h3; ?_⟩
  exact ⟨(within_i _ _ _), (congrArg S.v (congrArg V.c (congrArg C.bool (by grind [planOk])))), rfl⟩
  exact ⟨(congrArg S.v (congrArg V.c (congrArg C.bool (by grind [planOk])))), rfl⟩
  exact ⟨(congrArg S.v (congrArg V.c (congrArg C.bool (by grind [planOk])))), rfl⟩
  exact ⟨(congrArg S.v (congrArg V.c (congrArg C.bool (by grind [planOk])))), rfl⟩
theorem planOk_s (p : Pln) : Fun Try.prog 39 [.agg (cPln p)] [] (.v (vB (planOk p))) [] := by
  have hN : bigN = 274877906944 := rfl
  refine fun_ofw Try.func39 (by kernel_rfl) (by kernel_rfl) (w := let z1 := (p.shapes.length : Int) - 1; let z2 := within p.root 0 z1; let z3 := schemaOk p.shapes; let z4 := within p.deep 1 8; let z5 := vB (within p.most 0 2000); let z6 := vB (planOk p); let z7 := ([] : List Blk); let z8 := (.v (vB false) : S); (.seg [.call [] (.v (vB z3)) []] (.br (.seg [.as 13 (.v (vI z1)), .call [] (.v (vB z2)) []] (.br (.seg [.call [] (.v (vB z4)) []] (.br (.seg [.call [] (.v z5) []] (.leaf () [])) (.leaf () []))) (.leaf () []))) (.leaf () [])), (Fun Try.prog 70 [.agg [.seq .shp p.shapes]] [] (.v (vB z3)) []) ∧ (z3 = true → ((.v (vI (IntKind.i64.wrap z1)) : S) = .v (vI z1)) ∧ (Fun Try.prog 47 [vI p.root, vI 0, vI z1] [] (.v (vB z2)) []) ∧ (z2 = true → (Fun Try.prog 47 [vI p.deep, vI 1, vI 8] [] (.v (vB z4)) []) ∧ (z4 = true → (Fun Try.prog 47 [vI p.most, vI 0, vI 2000] [] (.v z5) []) ∧ (.v z5 : S) = .v z6 ∧ z7 = []) ∧ (z4 = false → z8 = .v z6 ∧ z7 = [])) ∧ (z2 = false → z8 = .v z6 ∧ z7 = [])) ∧ (z3 = false → z8 = .v z6 ∧ z7 = []))) (by kernel_rfl) ?_
  refine ⟨(schemaOk_s p.shapes), fun h1 => have p1 := schemaOk_t h1; ?_, fun h1 => ?_⟩
  refine ⟨(as_i64 (by omega) (by omega)), (within_s _ _ _), fun h2 => have p2 := within_t h2; ?_, fun h2 => have p2 := within_f h2; ?_⟩
  refine ⟨(within_s _ _ _), fun h3 => have p3 := within_t h3; ?_, fun h3 => have p3 := within_f h3; ?_⟩
  exact ⟨(within_s _ _ _), (congrArg S.v (congrArg V.c (congrArg C.bool (by grind [planOk])))), rfl⟩
  exact ⟨(congrArg S.v (congrArg V.c (congrArg C.bool (by grind [planOk])))), rfl⟩
  exact ⟨(congrArg S.v (congrArg V.c (congrArg C.bool (by grind [planOk])))), rfl⟩
  exact ⟨(congrArg S.v (congrArg V.c (congrArg C.bool (by grind [planOk])))), rfl⟩
end Go.Proofs.Ytecljjcmjongfaa.Ax
