/- Schemas. -/
import Derived.Test.YthmhekbmhpljcaaND
namespace Go.Proofs.Ythmhekbmhpljcaa.Ax
open Go.RowKit
set_option linter.unusedSimpArgs false
set_option linter.unusedVariables false
theorem fldOk_i (f : Fld) (before : Int) (n : Int) (hp1 : (0 : Int) ≤ n ∧ n ≤ 1000) : Fun Try.prog 85 [.agg (cFld f), vI before, vI n] [] (.v (vB (decide (before < (f).number) && fldOk f n))) [] := by
  have hN : bigN = 274877906944 := rfl
  refine fun_of Try.func85 (by kernel_rfl) (by kernel_rfl) (d := .seg [.call [] (.v (vB (numberOk f.number))) []] (.br (.leaf () []) (.br (.leaf () []) (.seg [.call [] (.v (vB (kindOk f.kind))) []] (.br (.leaf () []) (.br (.br (.leaf () []) (.seg [.call [] (.v (vB (numeric f.kind))) []] (.br (.leaf () []) (.br (.seg [.as 45 (.v (vI (n - 1))), .call [] (.v (vB (within f.msg 0 (n - 1)))) []] (.leaf () [])) (.leaf () []))))) (.br (.seg [.as 45 (.v (vI (n - 1))), .call [] (.v (vB (within f.msg 0 (n - 1)))) []] (.leaf () [])) (.leaf () []))))))))
    (vc := (Fun Try.prog 110 [vI f.number] [] (.v (vB (numberOk f.number))) []) ∧ ((!(numberOk f.number)) = true → (.v (vB false) : S) = .v (vB (decide (before < (f).number) && fldOk f n)) ∧ ([] : List Blk) = []) ∧ ((!(numberOk f.number)) = false → ((decide (f.number ≤ before)) = true → (.v (vB false) : S) = .v (vB (decide (before < (f).number) && fldOk f n)) ∧ ([] : List Blk) = []) ∧ ((decide (f.number ≤ before)) = false → (Fun Try.prog 111 [vI f.kind] [] (.v (vB (kindOk f.kind))) []) ∧ ((!(kindOk f.kind)) = true → (.v (vB false) : S) = .v (vB (decide (before < (f).number) && fldOk f n)) ∧ ([] : List Blk) = []) ∧ ((!(kindOk f.kind)) = false → (f.packed = true → ((!f.rep) = true → (.v (vB false) : S) = .v (vB (decide (before < (f).number) && fldOk f n)) ∧ ([] : List Blk) = []) ∧ ((!f.rep) = false → (Fun Try.prog 88 [vI f.kind] [] (.v (vB (numeric f.kind))) []) ∧ ((!(numeric f.kind)) = true → (.v (vB false) : S) = .v (vB (decide (before < (f).number) && fldOk f n)) ∧ ([] : List Blk) = []) ∧ ((!(numeric f.kind)) = false → ((decide (f.kind = 8)) = true → ((.v (vI (IntKind.i64.wrap (n - 1))) : S) = .v (vI (n - 1))) ∧ (Fun Try.prog 60 [vI f.msg, vI 0, vI (n - 1)] [] (.v (vB (within f.msg 0 (n - 1)))) []) ∧ (.v (vB (within f.msg 0 (n - 1))) : S) = .v (vB (decide (before < (f).number) && fldOk f n)) ∧ ([] : List Blk) = []) ∧ ((decide (f.kind = 8)) = false → (.v (vB (decide (f.msg = (-1)))) : S) = .v (vB (decide (before < (f).number) && fldOk f n)) ∧ ([] : List Blk) = [])))) ∧ (f.packed = false → ((decide (f.kind = 8)) = true → ((.v (vI (IntKind.i64.wrap (n - 1))) : S) = .v (vI (n - 1))) ∧ (Fun Try.prog 60 [vI f.msg, vI 0, vI (n - 1)] [] (.v (vB (within f.msg 0 (n - 1)))) []) ∧ (.v (vB (within f.msg 0 (n - 1))) : S) = .v (vB (decide (before < (f).number) && fldOk f n)) ∧ ([] : List Blk) = []) ∧ ((decide (f.kind = 8)) = false → (.v (vB (decide (f.msg = (-1)))) : S) = .v (vB (decide (before < (f).number) && fldOk f n)) ∧ ([] : List Blk) = [])))))) (by kernel_rfl) ?_
  refine ⟨(numberOk_i _), fun h1 => ?_, fun h1 => ?_⟩
  · have q1 := bnot_t h1
    exact ⟨(congrArg S.v (congrArg V.c (congrArg C.bool (by first | (simp [fldOk, *]; done) | (simp_all [fldOk]; done) | (simp_all [fldOk]; omega) | (rw [Bool.eq_iff_iff]; simp_all [fldOk]; omega))))), rfl⟩
  · have q1 := bnot_f h1
    refine ⟨fun h2 => ?_, fun h2 => ?_⟩
    · have p2 := of_decide_eq_true h2
      exact ⟨(congrArg S.v (congrArg V.c (congrArg C.bool (by first | (simp [fldOk, *]; done) | (simp_all [fldOk]; done) | (simp_all [fldOk]; omega) | (rw [Bool.eq_iff_iff]; simp_all [fldOk]; omega))))), rfl⟩
    · have p2 := of_decide_eq_false h2
      refine ⟨(kindOk_i _), fun h3 => ?_, fun h3 => ?_⟩
      · have q3 := bnot_t h3
        have p3 := within_f q3
        exact ⟨(congrArg S.v (congrArg V.c (congrArg C.bool (by first | (simp [fldOk, *]; done) | (simp_all [fldOk]; done) | (simp_all [fldOk]; omega) | (rw [Bool.eq_iff_iff]; simp_all [fldOk]; omega))))), rfl⟩
      · have q3 := bnot_f h3
        have p3 := within_t q3
        refine ⟨fun h4 => ?_, fun h4 => ?_⟩
        · refine ⟨fun h5 => ?_, fun h5 => ?_⟩
          · have q5 := bnot_t h5
            exact ⟨(congrArg S.v (congrArg V.c (congrArg C.bool (by first | (simp [fldOk, *]; done) | (simp_all [fldOk]; done) | (simp_all [fldOk]; omega) | (rw [Bool.eq_iff_iff]; simp_all [fldOk]; omega))))), rfl⟩
          · have q5 := bnot_f h5
            refine ⟨(numeric_i _), fun h6 => ?_, fun h6 => ?_⟩
            · have q6 := bnot_t h6
              have p6 := within_f q6
              exact ⟨(congrArg S.v (congrArg V.c (congrArg C.bool (by first | (simp [fldOk, *]; done) | (simp_all [fldOk]; done) | (simp_all [fldOk]; omega) | (rw [Bool.eq_iff_iff]; simp_all [fldOk]; omega))))), rfl⟩
            · have q6 := bnot_f h6
              have p6 := within_t q6
              refine ⟨fun h7 => ?_, fun h7 => ?_⟩
              · have p7 := of_decide_eq_true h7
                exact ⟨(as_i64 (by omega) (by omega)), (within_i _ _ _), (congrArg S.v (congrArg V.c (congrArg C.bool (by first | (simp [fldOk, *]; done) | (simp_all [fldOk]; done) | (simp_all [fldOk]; omega) | (rw [Bool.eq_iff_iff]; simp_all [fldOk]; omega))))), rfl⟩
              · have p7 := of_decide_eq_false h7
                exact ⟨(congrArg S.v (congrArg V.c (congrArg C.bool (by first | (simp [fldOk, *]; done) | (simp_all [fldOk]; done) | (simp_all [fldOk]; omega) | (rw [Bool.eq_iff_iff]; simp_all [fldOk]; omega))))), rfl⟩
        · refine ⟨fun h5 => ?_, fun h5 => ?_⟩
          · have p5 := of_decide_eq_true h5
            exact ⟨(as_i64 (by omega) (by omega)), (within_i _ _ _), (congrArg S.v (congrArg V.c (congrArg C.bool (by first | (simp [fldOk, *]; done) | (simp_all [fldOk]; done) | (simp_all [fldOk]; omega) | (rw [Bool.eq_iff_iff]; simp_all [fldOk]; omega))))), rfl⟩
          · have p5 := of_decide_eq_false h5
            exact ⟨(congrArg S.v (congrArg V.c (congrArg C.bool (by first | (simp [fldOk, *]; done) | (simp_all [fldOk]; done) | (simp_all [fldOk]; omega) | (rw [Bool.eq_iff_iff]; simp_all [fldOk]; omega))))), rfl⟩
theorem fldOk_s (s : List Shp) (f : Fld) (hp1 : s.length ≤ 1000) : Fun Try.prog 80 [.agg [.seq .shp s], .agg (cFld f)] [] (.v (vB (fldOk f (s.length : Int)))) [] := by
  have hN : bigN = 274877906944 := rfl
  refine fun_of Try.func80 (by kernel_rfl) (by kernel_rfl) (d := .seg [.call [] (.v (vB (numberOk f.number))) []] (.br (.leaf () []) (.seg [.call [] (.v (vB (kindOk f.kind))) []] (.br (.leaf () []) (.br (.br (.leaf () []) (.seg [.call [] (.v (vB (numeric f.kind))) []] (.br (.leaf () []) (.br (.seg [.as 38 (.v (vI ((s.length : Int) - 1))), .call [] (.v (vB (within f.msg 0 ((s.length : Int) - 1)))) []] (.leaf () [])) (.leaf () []))))) (.br (.seg [.as 38 (.v (vI ((s.length : Int) - 1))), .call [] (.v (vB (within f.msg 0 ((s.length : Int) - 1)))) []] (.leaf () [])) (.leaf () [])))))))
    (vc := (Fun Try.prog 107 [vI f.number] [] (.v (vB (numberOk f.number))) []) ∧ ((!(numberOk f.number)) = true → (.v (vB false) : S) = .v (vB (fldOk f (s.length : Int))) ∧ ([] : List Blk) = []) ∧ ((!(numberOk f.number)) = false → (Fun Try.prog 99 [vI f.kind] [] (.v (vB (kindOk f.kind))) []) ∧ ((!(kindOk f.kind)) = true → (.v (vB false) : S) = .v (vB (fldOk f (s.length : Int))) ∧ ([] : List Blk) = []) ∧ ((!(kindOk f.kind)) = false → (f.packed = true → ((!f.rep) = true → (.v (vB false) : S) = .v (vB (fldOk f (s.length : Int))) ∧ ([] : List Blk) = []) ∧ ((!f.rep) = false → (Fun Try.prog 82 [vI f.kind] [] (.v (vB (numeric f.kind))) []) ∧ ((!(numeric f.kind)) = true → (.v (vB false) : S) = .v (vB (fldOk f (s.length : Int))) ∧ ([] : List Blk) = []) ∧ ((!(numeric f.kind)) = false → ((decide (f.kind = 8)) = true → ((.v (vI (IntKind.i64.wrap ((s.length : Int) - 1))) : S) = .v (vI ((s.length : Int) - 1))) ∧ (Fun Try.prog 55 [vI f.msg, vI 0, vI ((s.length : Int) - 1)] [] (.v (vB (within f.msg 0 ((s.length : Int) - 1)))) []) ∧ (.v (vB (within f.msg 0 ((s.length : Int) - 1))) : S) = .v (vB (fldOk f (s.length : Int))) ∧ ([] : List Blk) = []) ∧ ((decide (f.kind = 8)) = false → (.v (vB (decide (f.msg = (-1)))) : S) = .v (vB (fldOk f (s.length : Int))) ∧ ([] : List Blk) = [])))) ∧ (f.packed = false → ((decide (f.kind = 8)) = true → ((.v (vI (IntKind.i64.wrap ((s.length : Int) - 1))) : S) = .v (vI ((s.length : Int) - 1))) ∧ (Fun Try.prog 55 [vI f.msg, vI 0, vI ((s.length : Int) - 1)] [] (.v (vB (within f.msg 0 ((s.length : Int) - 1)))) []) ∧ (.v (vB (within f.msg 0 ((s.length : Int) - 1))) : S) = .v (vB (fldOk f (s.length : Int))) ∧ ([] : List Blk) = []) ∧ ((decide (f.kind = 8)) = false → (.v (vB (decide (f.msg = (-1)))) : S) = .v (vB (fldOk f (s.length : Int))) ∧ ([] : List Blk) = []))))) (by kernel_rfl) ?_
  refine ⟨(numberOk_s _), fun h1 => ?_, fun h1 => ?_⟩
  · have q1 := bnot_t h1
    exact ⟨(congrArg S.v (congrArg V.c (congrArg C.bool (by first | (simp [fldOk, *]; done) | (simp_all [fldOk]; done) | (simp_all [fldOk]; omega) | (rw [Bool.eq_iff_iff]; simp_all [fldOk]; omega))))), rfl⟩
  · have q1 := bnot_f h1
    refine ⟨(kindOk_s _), fun h2 => ?_, fun h2 => ?_⟩
    · have q2 := bnot_t h2
      have p2 := within_f q2
      exact ⟨(congrArg S.v (congrArg V.c (congrArg C.bool (by first | (simp [fldOk, *]; done) | (simp_all [fldOk]; done) | (simp_all [fldOk]; omega) | (rw [Bool.eq_iff_iff]; simp_all [fldOk]; omega))))), rfl⟩
    · have q2 := bnot_f h2
      have p2 := within_t q2
      refine ⟨fun h3 => ?_, fun h3 => ?_⟩
      · refine ⟨fun h4 => ?_, fun h4 => ?_⟩
        · have q4 := bnot_t h4
          exact ⟨(congrArg S.v (congrArg V.c (congrArg C.bool (by first | (simp [fldOk, *]; done) | (simp_all [fldOk]; done) | (simp_all [fldOk]; omega) | (rw [Bool.eq_iff_iff]; simp_all [fldOk]; omega))))), rfl⟩
        · have q4 := bnot_f h4
          refine ⟨(numeric_s _), fun h5 => ?_, fun h5 => ?_⟩
          · have q5 := bnot_t h5
            have p5 := within_f q5
            exact ⟨(congrArg S.v (congrArg V.c (congrArg C.bool (by first | (simp [fldOk, *]; done) | (simp_all [fldOk]; done) | (simp_all [fldOk]; omega) | (rw [Bool.eq_iff_iff]; simp_all [fldOk]; omega))))), rfl⟩
          · have q5 := bnot_f h5
            have p5 := within_t q5
            refine ⟨fun h6 => ?_, fun h6 => ?_⟩
            · have p6 := of_decide_eq_true h6
              exact ⟨(as_i64 (by omega) (by omega)), (within_s _ _ _), (congrArg S.v (congrArg V.c (congrArg C.bool (by first | (simp [fldOk, *]; done) | (simp_all [fldOk]; done) | (simp_all [fldOk]; omega) | (rw [Bool.eq_iff_iff]; simp_all [fldOk]; omega))))), rfl⟩
            · have p6 := of_decide_eq_false h6
              exact ⟨(congrArg S.v (congrArg V.c (congrArg C.bool (by first | (simp [fldOk, *]; done) | (simp_all [fldOk]; done) | (simp_all [fldOk]; omega) | (rw [Bool.eq_iff_iff]; simp_all [fldOk]; omega))))), rfl⟩
      · refine ⟨fun h4 => ?_, fun h4 => ?_⟩
        · have p4 := of_decide_eq_true h4
          exact ⟨(as_i64 (by omega) (by omega)), (within_s _ _ _), (congrArg S.v (congrArg V.c (congrArg C.bool (by first | (simp [fldOk, *]; done) | (simp_all [fldOk]; done) | (simp_all [fldOk]; omega) | (rw [Bool.eq_iff_iff]; simp_all [fldOk]; omega))))), rfl⟩
        · have p4 := of_decide_eq_false h4
          exact ⟨(congrArg S.v (congrArg V.c (congrArg C.bool (by first | (simp [fldOk, *]; done) | (simp_all [fldOk]; done) | (simp_all [fldOk]; omega) | (rw [Bool.eq_iff_iff]; simp_all [fldOk]; omega))))), rfl⟩
structure schemaOk_i_V0 where
  id : Int
  v : Nat
def schemaOk_i_F0 (s : List Shp) : Fam := ⟨schemaOk_i_V0, fun q1 => [(1, .v (vP 0)), (3, .v (vI q1.id)), (14, .v (.c (.seq .shp s))), (15, .v (vI (s.length : Int))), (16, .v (vI (q1.v : Int)))], fun q1 => [.cells [.seq .shp s]], fun q1 => q1.v ≤ s.length ∧ shapesOk (s.length : Int) q1.id (List.drop q1.v s) = shapesOk (s.length : Int) 0 s, fun q1 => s.length - q1.v⟩

structure schemaOk_i_V1 where
  number : Int
  v : Nat
def schemaOk_i_F1 (s : List Shp) (q1 : schemaOk_i_V0) (x1 : Shp) : Fam := ⟨schemaOk_i_V1, fun q2 => [(1, .v (vP 0)), (5, .v (vP 1)), (6, .v (vI q2.number)), (14, .v (.c (.seq .shp s))), (15, .v (vI (s.length : Int))), (16, .v (vI (q1.v : Int))), (36, .v (.c (.seq .fld x1.fields))), (37, .v (vI (x1.fields.length : Int))), (38, .v (vI (q2.v : Int)))], fun q2 => [.cells [.seq .shp s], .cells (cShp x1)], fun q2 => q2.v ≤ x1.fields.length ∧ fieldsOk (s.length : Int) q2.number (List.drop q2.v x1.fields) = fieldsOk (s.length : Int) 0 x1.fields, fun q2 => x1.fields.length - q2.v⟩

theorem schemaOk_i (s : List Shp) : Fun Try.prog 59 [.agg [.seq .shp s]] [] (.v (vB (schemaOk s))) [] := by
  have hN : bigN = 274877906944 := rfl
  refine fun_of Try.func59 (by kernel_rfl) (by kernel_rfl) (d := .br (.leaf () []) (.seg [.at 0, .keep [1, 3, 14, 15, 16], .sel [0]] (.loop (schemaOk_i_F0 s) fun q1 => .br (.intro (fun (x1 : Shp) => s[q1.v]? = some x1) fun x1 => .seg [.el .shp x1] (.br (.leaf () []) (.br (.leaf () []) (.br (.leaf () []) (.seg [.at 0, .keep [1, 5, 6, 14, 15, 16, 36, 37, 38], .sel [0, 1]] (.loop (schemaOk_i_F1 s q1 x1) fun q2 => .br (.intro (fun (x2 : Fld) => x1.fields[q2.v]? = some x2) fun x2 => .seg [.el .fld x2, .call [] (.v (vB (decide (q2.number < (x2).number) && fldOk x2 (s.length : Int)))) []] (.br (.leaf () []) (.seg [.as 51 (.v (vI ((q2.v : Int) + 1))), .at 0, .keep [1, 5, 6, 14, 15, 16, 36, 37, 38], .sel [0, 1]] (.next)))) (.seg [.as 54 (.v (vI ((q1.v : Int) + 1))), .at 0, .keep [1, 3, 14, 15, 16], .sel [0]] (.next)))))))) (.leaf () []))))
    (vc := ((decide (6 < (s.length : Int))) = true → (.v (vB false) : S) = .v (vB (schemaOk s)) ∧ ([] : List Blk) = []) ∧ ((decide (6 < (s.length : Int))) = false → (schemaOk_i_F0 s).Has [(1, .v (vP 0)), (3, .v (vI 0)), (14, .v (.c (.seq .shp s))), (15, .v (vI (s.length : Int))), (16, .v (vI 0))] [.cells [.seq .shp s]] ∧ ∀ q1, (schemaOk_i_F0 s).inv q1 → (((decide ((q1.v : Int) < (s.length : Int))) = true → (∃ (x1 : Shp), s[q1.v]? = some x1) ∧ ∀ (x1 : Shp), (s[q1.v]? = some x1) → ((s[q1.v]? = some x1) ∧ ((0 : Int) ≤ (q1.v : Int)) ∧ ((decide (x1.id ≤ q1.id)) = true → (.v (vB false) : S) = .v (vB (schemaOk s)) ∧ ([] : List Blk) = []) ∧ ((decide (x1.id ≤ q1.id)) = false → ((decide (99 < x1.id)) = true → (.v (vB false) : S) = .v (vB (schemaOk s)) ∧ ([] : List Blk) = []) ∧ ((decide (99 < x1.id)) = false → ((decide (8 < (x1.fields.length : Int))) = true → (.v (vB false) : S) = .v (vB (schemaOk s)) ∧ ([] : List Blk) = []) ∧ ((decide (8 < (x1.fields.length : Int))) = false → (schemaOk_i_F1 s q1 x1).Has [(1, .v (vP 0)), (5, .v (vP 1)), (6, .v (vI 0)), (14, .v (.c (.seq .shp s))), (15, .v (vI (s.length : Int))), (16, .v (vI (q1.v : Int))), (36, .v (.c (.seq .fld x1.fields))), (37, .v (vI (x1.fields.length : Int))), (38, .v (vI 0))] [.cells [.seq .shp s], .cells (cShp x1)] ∧ ∀ q2, (schemaOk_i_F1 s q1 x1).inv q2 → (((decide ((q2.v : Int) < (x1.fields.length : Int))) = true → (∃ (x2 : Fld), x1.fields[q2.v]? = some x2) ∧ ∀ (x2 : Fld), (x1.fields[q2.v]? = some x2) → ((x1.fields[q2.v]? = some x2) ∧ ((0 : Int) ≤ (q2.v : Int)) ∧ (Fun Try.prog 85 [.agg (cFld x2), vI q2.number, vI (s.length : Int)] [] (.v (vB (decide (q2.number < (x2).number) && fldOk x2 (s.length : Int)))) []) ∧ ((!(decide (q2.number < (x2).number) && fldOk x2 (s.length : Int))) = true → (.v (vB false) : S) = .v (vB (schemaOk s)) ∧ ([] : List Blk) = []) ∧ ((!(decide (q2.number < (x2).number) && fldOk x2 (s.length : Int))) = false → ((.v (vI (IntKind.i64.wrap ((q2.v : Int) + 1))) : S) = .v (vI ((q2.v : Int) + 1))) ∧ (schemaOk_i_F1 s q1 x1).Nxt q2 [(1, .v (vP 0)), (5, .v (vP 1)), (6, .v (vI x2.number)), (14, .v (.c (.seq .shp s))), (15, .v (vI (s.length : Int))), (16, .v (vI (q1.v : Int))), (36, .v (.c (.seq .fld x1.fields))), (37, .v (vI (x1.fields.length : Int))), (38, .v (vI ((q2.v : Int) + 1)))] [.cells [.seq .shp s], .cells (cShp x1)]))) ∧ ((decide ((q2.v : Int) < (x1.fields.length : Int))) = false → ((.v (vI (IntKind.i64.wrap ((q1.v : Int) + 1))) : S) = .v (vI ((q1.v : Int) + 1))) ∧ (schemaOk_i_F0 s).Nxt q1 [(1, .v (vP 0)), (3, .v (vI x1.id)), (14, .v (.c (.seq .shp s))), (15, .v (vI (s.length : Int))), (16, .v (vI ((q1.v : Int) + 1)))] [.cells [.seq .shp s]]))))))) ∧ ((decide ((q1.v : Int) < (s.length : Int))) = false → (.v (vB true) : S) = .v (vB (schemaOk s)) ∧ ([] : List Blk) = [])))) (by kernel_rfl) ?_
  refine ⟨fun h1 => ?_, fun h1 => ?_⟩
  · have p1 := of_decide_eq_true h1
    exact ⟨(congrArg S.v (congrArg V.c (congrArg C.bool (by grind [schemaOk, shapesOk, fieldsOk])))), rfl⟩
  · have p1 := of_decide_eq_false h1
    refine ⟨⟨⟨0, 0⟩, (show 0 ≤ s.length ∧ shapesOk (s.length : Int) 0 (List.drop 0 s) = shapesOk (s.length : Int) 0 s from ⟨by omega, rfl⟩), (by first | rfl | simp), (by first | rfl | simp)⟩, fun (q1 : schemaOk_i_V0) hq_q1 => ?_⟩
    have hi_q1 : q1.v ≤ s.length ∧ shapesOk (s.length : Int) q1.id (List.drop q1.v s) = shapesOk (s.length : Int) 0 s := hq_q1
    obtain ⟨v1, v2⟩ := hi_q1
    refine ⟨fun h2 => ?_, fun h2 => ?_⟩
    · have p2 := of_decide_eq_true h2
      refine ⟨(ax_get (l := s) (i := q1.v) (by omega)), fun x1 hx1 => ?_⟩
      rw [drop_el hx1, shapesOk] at v2
      refine ⟨hx1, (by omega), fun h3 => ?_, fun h3 => ?_⟩
      · have p3 := of_decide_eq_true h3
        exact ⟨(congrArg S.v (congrArg V.c (congrArg C.bool (by grind [schemaOk, shapesOk, fieldsOk])))), rfl⟩
      · have p3 := of_decide_eq_false h3
        refine ⟨fun h4 => ?_, fun h4 => ?_⟩
        · have p4 := of_decide_eq_true h4
          exact ⟨(congrArg S.v (congrArg V.c (congrArg C.bool (by grind [schemaOk, shapesOk, fieldsOk])))), rfl⟩
        · have p4 := of_decide_eq_false h4
          refine ⟨fun h5 => ?_, fun h5 => ?_⟩
          · have p5 := of_decide_eq_true h5
            exact ⟨(congrArg S.v (congrArg V.c (congrArg C.bool (by grind [schemaOk, shapesOk, fieldsOk])))), rfl⟩
          · have p5 := of_decide_eq_false h5
            refine ⟨⟨⟨0, 0⟩, (show 0 ≤ x1.fields.length ∧ fieldsOk (s.length : Int) 0 (List.drop 0 x1.fields) = fieldsOk (s.length : Int) 0 x1.fields from ⟨by omega, rfl⟩), (by first | rfl | simp), (by first | rfl | simp)⟩, fun (q2 : schemaOk_i_V1) hq_q2 => ?_⟩
            have hi_q2 : q2.v ≤ x1.fields.length ∧ fieldsOk (s.length : Int) q2.number (List.drop q2.v x1.fields) = fieldsOk (s.length : Int) 0 x1.fields := hq_q2
            obtain ⟨w1, w2⟩ := hi_q2
            refine ⟨fun h6 => ?_, fun h6 => ?_⟩
            · have p6 := of_decide_eq_true h6
              refine ⟨(ax_get (l := x1.fields) (i := q2.v) (by omega)), fun x2 hx2 => ?_⟩
              rw [drop_el hx2, fieldsOk] at w2
              refine ⟨hx2, (by omega), (fldOk_i x2 _ _ (by omega)), fun h7 => ?_, fun h7 => ?_⟩
              · have q7 := bnot_t h7
                have p7 := q7
                simp only [Bool.and_eq_true, Bool.or_eq_true, Bool.and_eq_false_imp, Bool.or_eq_false_iff, decide_eq_true_eq, decide_eq_false_iff_not] at p7
                exact ⟨(congrArg S.v (congrArg V.c (congrArg C.bool (by grind [schemaOk, shapesOk, fieldsOk])))), rfl⟩
              · have q7 := bnot_f h7
                have p7 := q7
                simp only [Bool.and_eq_true, Bool.or_eq_true, Bool.and_eq_false_imp, Bool.or_eq_false_iff, decide_eq_true_eq, decide_eq_false_iff_not] at p7
                exact ⟨(as_i64 (by omega) (by omega)), ⟨⟨x2.number, q2.v + 1⟩, ⟨(show (q2.v + 1) ≤ x1.fields.length ∧ fieldsOk (s.length : Int) x2.number (List.drop (q2.v + 1) x1.fields) = fieldsOk (s.length : Int) 0 x1.fields from ⟨by omega, by grind [fieldsOk]⟩), (show x1.fields.length - (q2.v + 1) < x1.fields.length - q2.v from by omega)⟩, (by first | rfl | simp), (by first | rfl | simp)⟩⟩
            · have p6 := of_decide_eq_false h6
              rw [drop_end p6] at w2
              exact ⟨(as_i64 (by omega) (by omega)), ⟨⟨x1.id, q1.v + 1⟩, ⟨(show (q1.v + 1) ≤ s.length ∧ shapesOk (s.length : Int) x1.id (List.drop (q1.v + 1) s) = shapesOk (s.length : Int) 0 s from ⟨by omega, by grind [shapesOk, fieldsOk]⟩), (show s.length - (q1.v + 1) < s.length - q1.v from by omega)⟩, (by first | rfl | simp), (by first | rfl | simp)⟩⟩
    · have p2 := of_decide_eq_false h2
      rw [drop_end p2] at v2
      exact ⟨(congrArg S.v (congrArg V.c (congrArg C.bool (by grind [schemaOk, shapesOk, fieldsOk])))), rfl⟩
structure schemaOk_s_V0 where
  i : Nat
  pv : Int
def schemaOk_s_F0 (s : List Shp) : Fam := ⟨schemaOk_s_V0, fun q1 => [(1, .v (vP 0)), (3, .v (vI (q1.i : Int)))], fun q1 => [.cells [.seq .shp s]], fun q1 => q1.i ≤ s.length ∧ (0 : Int) ≤ q1.pv ∧ (q1.i = 0 → q1.pv = 0) ∧ (∀ y, 0 < q1.i → s[Int.toNat ((q1.i : Int) - 1)]? = some y → q1.pv = y.id) ∧ shapesOk (s.length : Int) q1.pv (List.drop q1.i s) = shapesOk (s.length : Int) 0 s, fun q1 => s.length - q1.i⟩

structure schemaOk_s_V1 where
  k : Nat
  pv : Int
def schemaOk_s_F1 (s : List Shp) (q1 : schemaOk_s_V0) (x1 : Shp) : Fam := ⟨schemaOk_s_V1, fun q2 => [(1, .v (vP 0)), (3, .v (vI (q1.i : Int))), (4, .v (vP 1)), (5, .v (vI (q2.k : Int)))], fun q2 => [.cells [.seq .shp s], .cells (cShp x1)], fun q2 => q2.k ≤ x1.fields.length ∧ (0 : Int) ≤ q2.pv ∧ (q2.k = 0 → q2.pv = 0) ∧ (∀ y, 0 < q2.k → x1.fields[Int.toNat ((q2.k : Int) - 1)]? = some y → q2.pv = y.number) ∧ fieldsOk (s.length : Int) q2.pv (List.drop q2.k x1.fields) = fieldsOk (s.length : Int) 0 x1.fields, fun q2 => x1.fields.length - q2.k⟩

theorem schemaOk_s (s : List Shp) : Fun Try.prog 54 [.agg [.seq .shp s]] [] (.v (vB (schemaOk s))) [] := by
  have hN : bigN = 274877906944 := rfl
  refine fun_of Try.func54 (by kernel_rfl) (by kernel_rfl) (d := .br (.leaf () []) (.seg [.at 0, .keep [1, 3], .sel [0]] (.loop (schemaOk_s_F0 s) fun q1 => .br (.intro (fun (x1 : Shp) => s[q1.i]? = some x1) fun x1 => .seg [.el .shp x1] (.case (!(within x1.id 1 99)) (.seg [.ord (os 26 [2]) [], .call [] (.v (vB (within x1.id 1 99))) [], .br true] (.leaf () [])) (.case (decide (0 < (q1.i : Int))) (.intro (fun (x2 : Shp) => s[Int.toNat ((q1.i : Int) - 1)]? = some x2) fun x2 => .case (decide (x1.id ≤ x2.id)) (.seg [.ord (os 26 [2]) [], .call [] (.v (vB (within x1.id 1 99))) [], .br false, .br true, .as 33 (.v (vI ((q1.i : Int) - 1))), .el .shp x2, .br true] (.leaf () [])) (.seg [.ord (os 26 [2]) [], .call [] (.v (vB (within x1.id 1 99))) [], .br false, .br true, .as 33 (.v (vI ((q1.i : Int) - 1))), .el .shp x2, .br false] (.br (.leaf () []) (.seg [.at 0, .keep [1, 3, 4, 5], .sel [0, 1]] (.loop (schemaOk_s_F1 s q1 x1) fun q2 => .br (.intro (fun (x3 : Fld) => x1.fields[q2.k]? = some x3) fun x3 => .case (!(fldOk x3 (s.length : Int))) (.seg [.ord (os 28 [6]) [], .el .fld x3, .call [] (.v (vB (fldOk x3 (s.length : Int)))) [], .br true] (.leaf () [])) (.case (decide (0 < (q2.k : Int))) (.intro (fun (x4 : Fld) => x1.fields[Int.toNat ((q2.k : Int) - 1)]? = some x4) fun x4 => .seg [.ord (os 28 [6]) [], .el .fld x3, .call [] (.v (vB (fldOk x3 (s.length : Int)))) [], .br false, .br true, .as 70 (.v (vI ((q2.k : Int) - 1))), .el .fld x4, .el .fld x3] (.br (.leaf () []) (.seg [.as 54 (.v (vI ((q2.k : Int) + 1))), .at 0, .keep [1, 3, 4, 5], .sel [0, 1]] (.next)))) (.seg [.ord (os 28 [6]) [], .el .fld x3, .call [] (.v (vB (fldOk x3 (s.length : Int)))) [], .br false, .br false, .as 54 (.v (vI ((q2.k : Int) + 1))), .at 0, .keep [1, 3, 4, 5], .sel [0, 1]] (.next)))) (.seg [.as 16 (.v (vI ((q1.i : Int) + 1))), .at 0, .keep [1, 3], .sel [0]] (.next))))))) (.seg [.ord (os 26 [2]) [], .call [] (.v (vB (within x1.id 1 99))) [], .br false, .br false] (.br (.leaf () []) (.seg [.at 0, .keep [1, 3, 4, 5], .sel [0, 1]] (.loop (schemaOk_s_F1 s q1 x1) fun q2 => .br (.intro (fun (x2 : Fld) => x1.fields[q2.k]? = some x2) fun x2 => .case (!(fldOk x2 (s.length : Int))) (.seg [.ord (os 28 [6]) [], .el .fld x2, .call [] (.v (vB (fldOk x2 (s.length : Int)))) [], .br true] (.leaf () [])) (.case (decide (0 < (q2.k : Int))) (.intro (fun (x3 : Fld) => x1.fields[Int.toNat ((q2.k : Int) - 1)]? = some x3) fun x3 => .seg [.ord (os 28 [6]) [], .el .fld x2, .call [] (.v (vB (fldOk x2 (s.length : Int)))) [], .br false, .br true, .as 70 (.v (vI ((q2.k : Int) - 1))), .el .fld x3, .el .fld x2] (.br (.leaf () []) (.seg [.as 54 (.v (vI ((q2.k : Int) + 1))), .at 0, .keep [1, 3, 4, 5], .sel [0, 1]] (.next)))) (.seg [.ord (os 28 [6]) [], .el .fld x2, .call [] (.v (vB (fldOk x2 (s.length : Int)))) [], .br false, .br false, .as 54 (.v (vI ((q2.k : Int) + 1))), .at 0, .keep [1, 3, 4, 5], .sel [0, 1]] (.next)))) (.seg [.as 16 (.v (vI ((q1.i : Int) + 1))), .at 0, .keep [1, 3], .sel [0]] (.next))))))))) (.leaf () []))))
    (vc := ((decide (6 < (s.length : Int))) = true → (.v (vB false) : S) = .v (vB (schemaOk s)) ∧ ([] : List Blk) = []) ∧ ((decide (6 < (s.length : Int))) = false → (schemaOk_s_F0 s).Has [(1, .v (vP 0)), (3, .v (vI 0))] [.cells [.seq .shp s]] ∧ ∀ q1, (schemaOk_s_F0 s).inv q1 → (((decide ((q1.i : Int) < (s.length : Int))) = true → (∃ (x1 : Shp), s[q1.i]? = some x1) ∧ ∀ (x1 : Shp), (s[q1.i]? = some x1) → ((s[q1.i]? = some x1) ∧ ((0 : Int) ≤ (q1.i : Int)) ∧ ((!(within x1.id 1 99)) = true → (Fun Try.prog 55 [vI x1.id, vI 1, vI 99] [] (.v (vB (within x1.id 1 99))) []) ∧ ((!(within x1.id 1 99)) = true) ∧ (.v (vB false) : S) = .v (vB (schemaOk s)) ∧ ([] : List Blk) = []) ∧ ((!(within x1.id 1 99)) = false → ((decide (0 < (q1.i : Int))) = true → (∃ (x2 : Shp), s[Int.toNat ((q1.i : Int) - 1)]? = some x2) ∧ ∀ (x2 : Shp), (s[Int.toNat ((q1.i : Int) - 1)]? = some x2) → (((decide (x1.id ≤ x2.id)) = true → (Fun Try.prog 55 [vI x1.id, vI 1, vI 99] [] (.v (vB (within x1.id 1 99))) []) ∧ ((!(within x1.id 1 99)) = false) ∧ ((decide (0 < (q1.i : Int))) = true) ∧ ((.v (vI (IntKind.i64.wrap ((q1.i : Int) - 1))) : S) = .v (vI ((q1.i : Int) - 1))) ∧ ((.v (vI (IntKind.i64.wrap ((q1.i : Int) - 1))) : S) = .v (vI ((q1.i : Int) - 1))) ∧ (s[Int.toNat ((q1.i : Int) - 1)]? = some x2) ∧ ((0 : Int) ≤ (q1.i : Int) - 1) ∧ (s[Int.toNat ((q1.i : Int) - 1)]? = some x2) ∧ ((0 : Int) ≤ (q1.i : Int) - 1) ∧ ((decide (x1.id ≤ x2.id)) = true) ∧ (.v (vB false) : S) = .v (vB (schemaOk s)) ∧ ([] : List Blk) = []) ∧ ((decide (x1.id ≤ x2.id)) = false → (Fun Try.prog 55 [vI x1.id, vI 1, vI 99] [] (.v (vB (within x1.id 1 99))) []) ∧ ((!(within x1.id 1 99)) = false) ∧ ((decide (0 < (q1.i : Int))) = true) ∧ ((.v (vI (IntKind.i64.wrap ((q1.i : Int) - 1))) : S) = .v (vI ((q1.i : Int) - 1))) ∧ ((.v (vI (IntKind.i64.wrap ((q1.i : Int) - 1))) : S) = .v (vI ((q1.i : Int) - 1))) ∧ (s[Int.toNat ((q1.i : Int) - 1)]? = some x2) ∧ ((0 : Int) ≤ (q1.i : Int) - 1) ∧ (s[Int.toNat ((q1.i : Int) - 1)]? = some x2) ∧ ((0 : Int) ≤ (q1.i : Int) - 1) ∧ ((decide (x1.id ≤ x2.id)) = false) ∧ ((decide (8 < (x1.fields.length : Int))) = true → (.v (vB false) : S) = .v (vB (schemaOk s)) ∧ ([] : List Blk) = []) ∧ ((decide (8 < (x1.fields.length : Int))) = false → (schemaOk_s_F1 s q1 x1).Has [(1, .v (vP 0)), (3, .v (vI (q1.i : Int))), (4, .v (vP 1)), (5, .v (vI 0))] [.cells [.seq .shp s], .cells (cShp x1)] ∧ ∀ q2, (schemaOk_s_F1 s q1 x1).inv q2 → (((decide ((q2.k : Int) < (x1.fields.length : Int))) = true → (∃ (x3 : Fld), x1.fields[q2.k]? = some x3) ∧ ∀ (x3 : Fld), (x1.fields[q2.k]? = some x3) → (((!(fldOk x3 (s.length : Int))) = true → (x1.fields[q2.k]? = some x3) ∧ ((0 : Int) ≤ (q2.k : Int)) ∧ (x1.fields[q2.k]? = some x3) ∧ ((0 : Int) ≤ (q2.k : Int)) ∧ (Fun Try.prog 80 [.agg [.seq .shp s], .agg (cFld x3)] [] (.v (vB (fldOk x3 (s.length : Int)))) []) ∧ ((!(fldOk x3 (s.length : Int))) = true) ∧ (.v (vB false) : S) = .v (vB (schemaOk s)) ∧ ([] : List Blk) = []) ∧ ((!(fldOk x3 (s.length : Int))) = false → ((decide (0 < (q2.k : Int))) = true → (∃ (x4 : Fld), x1.fields[Int.toNat ((q2.k : Int) - 1)]? = some x4) ∧ ∀ (x4 : Fld), (x1.fields[Int.toNat ((q2.k : Int) - 1)]? = some x4) → ((x1.fields[q2.k]? = some x3) ∧ ((0 : Int) ≤ (q2.k : Int)) ∧ (x1.fields[q2.k]? = some x3) ∧ ((0 : Int) ≤ (q2.k : Int)) ∧ (Fun Try.prog 80 [.agg [.seq .shp s], .agg (cFld x3)] [] (.v (vB (fldOk x3 (s.length : Int)))) []) ∧ ((!(fldOk x3 (s.length : Int))) = false) ∧ ((decide (0 < (q2.k : Int))) = true) ∧ ((.v (vI (IntKind.i64.wrap ((q2.k : Int) - 1))) : S) = .v (vI ((q2.k : Int) - 1))) ∧ ((.v (vI (IntKind.i64.wrap ((q2.k : Int) - 1))) : S) = .v (vI ((q2.k : Int) - 1))) ∧ (x1.fields[Int.toNat ((q2.k : Int) - 1)]? = some x4) ∧ ((0 : Int) ≤ (q2.k : Int) - 1) ∧ (x1.fields[Int.toNat ((q2.k : Int) - 1)]? = some x4) ∧ ((0 : Int) ≤ (q2.k : Int) - 1) ∧ (x1.fields[q2.k]? = some x3) ∧ ((0 : Int) ≤ (q2.k : Int)) ∧ (x1.fields[q2.k]? = some x3) ∧ ((0 : Int) ≤ (q2.k : Int)) ∧ ((decide (x3.number ≤ x4.number)) = true → (.v (vB false) : S) = .v (vB (schemaOk s)) ∧ ([] : List Blk) = []) ∧ ((decide (x3.number ≤ x4.number)) = false → ((.v (vI (IntKind.i64.wrap ((q2.k : Int) + 1))) : S) = .v (vI ((q2.k : Int) + 1))) ∧ (schemaOk_s_F1 s q1 x1).Nxt q2 [(1, .v (vP 0)), (3, .v (vI (q1.i : Int))), (4, .v (vP 1)), (5, .v (vI ((q2.k : Int) + 1)))] [.cells [.seq .shp s], .cells (cShp x1)]))) ∧ ((decide (0 < (q2.k : Int))) = false → (x1.fields[q2.k]? = some x3) ∧ ((0 : Int) ≤ (q2.k : Int)) ∧ (x1.fields[q2.k]? = some x3) ∧ ((0 : Int) ≤ (q2.k : Int)) ∧ (Fun Try.prog 80 [.agg [.seq .shp s], .agg (cFld x3)] [] (.v (vB (fldOk x3 (s.length : Int)))) []) ∧ ((!(fldOk x3 (s.length : Int))) = false) ∧ ((decide (0 < (q2.k : Int))) = false) ∧ ((.v (vI (IntKind.i64.wrap ((q2.k : Int) + 1))) : S) = .v (vI ((q2.k : Int) + 1))) ∧ (schemaOk_s_F1 s q1 x1).Nxt q2 [(1, .v (vP 0)), (3, .v (vI (q1.i : Int))), (4, .v (vP 1)), (5, .v (vI ((q2.k : Int) + 1)))] [.cells [.seq .shp s], .cells (cShp x1)])))) ∧ ((decide ((q2.k : Int) < (x1.fields.length : Int))) = false → ((.v (vI (IntKind.i64.wrap ((q1.i : Int) + 1))) : S) = .v (vI ((q1.i : Int) + 1))) ∧ (schemaOk_s_F0 s).Nxt q1 [(1, .v (vP 0)), (3, .v (vI ((q1.i : Int) + 1)))] [.cells [.seq .shp s]])))))) ∧ ((decide (0 < (q1.i : Int))) = false → (Fun Try.prog 55 [vI x1.id, vI 1, vI 99] [] (.v (vB (within x1.id 1 99))) []) ∧ ((!(within x1.id 1 99)) = false) ∧ ((decide (0 < (q1.i : Int))) = false) ∧ ((decide (8 < (x1.fields.length : Int))) = true → (.v (vB false) : S) = .v (vB (schemaOk s)) ∧ ([] : List Blk) = []) ∧ ((decide (8 < (x1.fields.length : Int))) = false → (schemaOk_s_F1 s q1 x1).Has [(1, .v (vP 0)), (3, .v (vI (q1.i : Int))), (4, .v (vP 1)), (5, .v (vI 0))] [.cells [.seq .shp s], .cells (cShp x1)] ∧ ∀ q2, (schemaOk_s_F1 s q1 x1).inv q2 → (((decide ((q2.k : Int) < (x1.fields.length : Int))) = true → (∃ (x2 : Fld), x1.fields[q2.k]? = some x2) ∧ ∀ (x2 : Fld), (x1.fields[q2.k]? = some x2) → (((!(fldOk x2 (s.length : Int))) = true → (x1.fields[q2.k]? = some x2) ∧ ((0 : Int) ≤ (q2.k : Int)) ∧ (x1.fields[q2.k]? = some x2) ∧ ((0 : Int) ≤ (q2.k : Int)) ∧ (Fun Try.prog 80 [.agg [.seq .shp s], .agg (cFld x2)] [] (.v (vB (fldOk x2 (s.length : Int)))) []) ∧ ((!(fldOk x2 (s.length : Int))) = true) ∧ (.v (vB false) : S) = .v (vB (schemaOk s)) ∧ ([] : List Blk) = []) ∧ ((!(fldOk x2 (s.length : Int))) = false → ((decide (0 < (q2.k : Int))) = true → (∃ (x3 : Fld), x1.fields[Int.toNat ((q2.k : Int) - 1)]? = some x3) ∧ ∀ (x3 : Fld), (x1.fields[Int.toNat ((q2.k : Int) - 1)]? = some x3) → ((x1.fields[q2.k]? = some x2) ∧ ((0 : Int) ≤ (q2.k : Int)) ∧ (x1.fields[q2.k]? = some x2) ∧ ((0 : Int) ≤ (q2.k : Int)) ∧ (Fun Try.prog 80 [.agg [.seq .shp s], .agg (cFld x2)] [] (.v (vB (fldOk x2 (s.length : Int)))) []) ∧ ((!(fldOk x2 (s.length : Int))) = false) ∧ ((decide (0 < (q2.k : Int))) = true) ∧ ((.v (vI (IntKind.i64.wrap ((q2.k : Int) - 1))) : S) = .v (vI ((q2.k : Int) - 1))) ∧ ((.v (vI (IntKind.i64.wrap ((q2.k : Int) - 1))) : S) = .v (vI ((q2.k : Int) - 1))) ∧ (x1.fields[Int.toNat ((q2.k : Int) - 1)]? = some x3) ∧ ((0 : Int) ≤ (q2.k : Int) - 1) ∧ (x1.fields[Int.toNat ((q2.k : Int) - 1)]? = some x3) ∧ ((0 : Int) ≤ (q2.k : Int) - 1) ∧ (x1.fields[q2.k]? = some x2) ∧ ((0 : Int) ≤ (q2.k : Int)) ∧ (x1.fields[q2.k]? = some x2) ∧ ((0 : Int) ≤ (q2.k : Int)) ∧ ((decide (x2.number ≤ x3.number)) = true → (.v (vB false) : S) = .v (vB (schemaOk s)) ∧ ([] : List Blk) = []) ∧ ((decide (x2.number ≤ x3.number)) = false → ((.v (vI (IntKind.i64.wrap ((q2.k : Int) + 1))) : S) = .v (vI ((q2.k : Int) + 1))) ∧ (schemaOk_s_F1 s q1 x1).Nxt q2 [(1, .v (vP 0)), (3, .v (vI (q1.i : Int))), (4, .v (vP 1)), (5, .v (vI ((q2.k : Int) + 1)))] [.cells [.seq .shp s], .cells (cShp x1)]))) ∧ ((decide (0 < (q2.k : Int))) = false → (x1.fields[q2.k]? = some x2) ∧ ((0 : Int) ≤ (q2.k : Int)) ∧ (x1.fields[q2.k]? = some x2) ∧ ((0 : Int) ≤ (q2.k : Int)) ∧ (Fun Try.prog 80 [.agg [.seq .shp s], .agg (cFld x2)] [] (.v (vB (fldOk x2 (s.length : Int)))) []) ∧ ((!(fldOk x2 (s.length : Int))) = false) ∧ ((decide (0 < (q2.k : Int))) = false) ∧ ((.v (vI (IntKind.i64.wrap ((q2.k : Int) + 1))) : S) = .v (vI ((q2.k : Int) + 1))) ∧ (schemaOk_s_F1 s q1 x1).Nxt q2 [(1, .v (vP 0)), (3, .v (vI (q1.i : Int))), (4, .v (vP 1)), (5, .v (vI ((q2.k : Int) + 1)))] [.cells [.seq .shp s], .cells (cShp x1)])))) ∧ ((decide ((q2.k : Int) < (x1.fields.length : Int))) = false → ((.v (vI (IntKind.i64.wrap ((q1.i : Int) + 1))) : S) = .v (vI ((q1.i : Int) + 1))) ∧ (schemaOk_s_F0 s).Nxt q1 [(1, .v (vP 0)), (3, .v (vI ((q1.i : Int) + 1)))] [.cells [.seq .shp s]]))))))) ∧ ((decide ((q1.i : Int) < (s.length : Int))) = false → (.v (vB true) : S) = .v (vB (schemaOk s)) ∧ ([] : List Blk) = [])))) (by kernel_rfl) ?_
  refine ⟨fun h1 => ?_, fun h1 => ?_⟩
  · have p1 := of_decide_eq_true h1
    exact ⟨(congrArg S.v (congrArg V.c (congrArg C.bool (by unfold schemaOk; grind)))), rfl⟩
  · have p1 := of_decide_eq_false h1
    refine ⟨⟨⟨0, 0⟩, (show 0 ≤ s.length ∧ (0 : Int) ≤ 0 ∧ (0 = 0 → 0 = 0) ∧ (∀ y, 0 < 0 → s[Int.toNat (((0 : Nat) : Int) - 1)]? = some y → 0 = y.id) ∧ shapesOk (s.length : Int) 0 (List.drop 0 s) = shapesOk (s.length : Int) 0 s from ⟨by omega, by omega, by omega, by omega, rfl⟩), (by first | rfl | simp), (by first | rfl | simp)⟩, fun (q1 : schemaOk_s_V0) hq_q1 => ?_⟩
    have hi_q1 : q1.i ≤ s.length ∧ (0 : Int) ≤ q1.pv ∧ (q1.i = 0 → q1.pv = 0) ∧ (∀ y, 0 < q1.i → s[Int.toNat ((q1.i : Int) - 1)]? = some y → q1.pv = y.id) ∧ shapesOk (s.length : Int) q1.pv (List.drop q1.i s) = shapesOk (s.length : Int) 0 s := hq_q1
    obtain ⟨v1, v2, v3, v4, v5⟩ := hi_q1
    refine ⟨fun h2 => ?_, fun h2 => ?_⟩
    · have p2 := of_decide_eq_true h2
      refine ⟨(ax_get (l := s) (i := q1.i) (by omega)), fun x1 hx1 => ?_⟩
      rw [drop_el hx1, shapesOk] at v5
      refine ⟨hx1, (by omega), fun h3 => ?_, fun h3 => ?_⟩
      · have q3 := bnot_t h3
        have p3 := within_f q3
        exact ⟨(within_s _ _ _), h3, (congrArg S.v (congrArg V.c (congrArg C.bool (by unfold schemaOk; grind)))), rfl⟩
      · have q3 := bnot_f h3
        have p3 := within_t q3
        refine ⟨fun h4 => ?_, fun h4 => ?_⟩
        · have p4 := of_decide_eq_true h4
          refine ⟨(ax_get (l := s) (i := Int.toNat ((q1.i : Int) - 1)) (by omega)), fun x2 hx2 => ?_⟩
          have hy := v4 _ (by omega) hx2
          refine ⟨fun h5 => ?_, fun h5 => ?_⟩
          · have p5 := of_decide_eq_true h5
            exact ⟨(within_s _ _ _), h3, h4, (as_i64 (by omega) (by omega)), (as_i64 (by omega) (by omega)), hx2, (by omega), hx2, (by omega), h5, (congrArg S.v (congrArg V.c (congrArg C.bool (by unfold schemaOk; grind)))), rfl⟩
          · have p5 := of_decide_eq_false h5
            refine ⟨(within_s _ _ _), h3, h4, (as_i64 (by omega) (by omega)), (as_i64 (by omega) (by omega)), hx2, (by omega), hx2, (by omega), h5, fun h6 => ?_, fun h6 => ?_⟩
            · have p6 := of_decide_eq_true h6
              exact ⟨(congrArg S.v (congrArg V.c (congrArg C.bool (by unfold schemaOk; grind)))), rfl⟩
            · have p6 := of_decide_eq_false h6
              refine ⟨⟨⟨0, 0⟩, (show 0 ≤ x1.fields.length ∧ (0 : Int) ≤ 0 ∧ (0 = 0 → 0 = 0) ∧ (∀ y, 0 < 0 → x1.fields[Int.toNat (((0 : Nat) : Int) - 1)]? = some y → 0 = y.number) ∧ fieldsOk (s.length : Int) 0 (List.drop 0 x1.fields) = fieldsOk (s.length : Int) 0 x1.fields from ⟨by omega, by omega, by omega, by omega, rfl⟩), (by first | rfl | simp), (by first | rfl | simp)⟩, fun (q2 : schemaOk_s_V1) hq_q2 => ?_⟩
              have hi_q2 : q2.k ≤ x1.fields.length ∧ (0 : Int) ≤ q2.pv ∧ (q2.k = 0 → q2.pv = 0) ∧ (∀ y, 0 < q2.k → x1.fields[Int.toNat ((q2.k : Int) - 1)]? = some y → q2.pv = y.number) ∧ fieldsOk (s.length : Int) q2.pv (List.drop q2.k x1.fields) = fieldsOk (s.length : Int) 0 x1.fields := hq_q2
              obtain ⟨w1, w2, w3, w4, w5⟩ := hi_q2
              refine ⟨fun h7 => ?_, fun h7 => ?_⟩
              · have p7 := of_decide_eq_true h7
                refine ⟨(ax_get (l := x1.fields) (i := q2.k) (by omega)), fun x3 hx3 => ?_⟩
                rw [drop_el hx3, fieldsOk] at w5
                refine ⟨fun h8 => ?_, fun h8 => ?_⟩
                · have q8 := bnot_t h8
                  exact ⟨hx3, (by omega), hx3, (by omega), (fldOk_s s x3 (by omega)), h8, (congrArg S.v (congrArg V.c (congrArg C.bool (by unfold schemaOk; grind)))), rfl⟩
                · have q8 := bnot_f h8
                  have p8 := fldOk_t q8
                  refine ⟨fun h9 => ?_, fun h9 => ?_⟩
                  · have p9 := of_decide_eq_true h9
                    refine ⟨(ax_get (l := x1.fields) (i := Int.toNat ((q2.k : Int) - 1)) (by omega)), fun x4 hx4 => ?_⟩
                    have hz := w4 _ (by omega) hx4
                    refine ⟨hx3, (by omega), hx3, (by omega), (fldOk_s s x3 (by omega)), h8, h9, (as_i64 (by omega) (by omega)), (as_i64 (by omega) (by omega)), hx4, (by omega), hx4, (by omega), hx3, (by omega), hx3, (by omega), fun h10 => ?_, fun h10 => ?_⟩
                    · have p10 := of_decide_eq_true h10
                      exact ⟨(congrArg S.v (congrArg V.c (congrArg C.bool (by unfold schemaOk; grind)))), rfl⟩
                    · have p10 := of_decide_eq_false h10
                      exact ⟨(as_i64 (by omega) (by omega)), ⟨⟨q2.k + 1, x3.number⟩, ⟨(show (q2.k + 1) ≤ x1.fields.length ∧ (0 : Int) ≤ x3.number ∧ ((q2.k + 1) = 0 → x3.number = 0) ∧ (∀ y, 0 < (q2.k + 1) → x1.fields[Int.toNat ((((q2.k + 1) : Nat) : Int) - 1)]? = some y → x3.number = y.number) ∧ fieldsOk (s.length : Int) x3.number (List.drop (q2.k + 1) x1.fields) = fieldsOk (s.length : Int) 0 x1.fields from ⟨by omega, by grind, by omega, by intro y h1 h2; rw [show Int.toNat ((((q2.k + 1) : Nat) : Int) - 1) = q2.k by omega] at h2; grind, by rw [← w5, decide_eq_true (show q2.pv < x3.number by omega), bnot_f (by assumption : (!fldOk x3 _) = false)]; simp⟩), (show x1.fields.length - (q2.k + 1) < x1.fields.length - q2.k from by omega)⟩, (by first | rfl | simp), (by first | rfl | simp)⟩⟩
                  · have p9 := of_decide_eq_false h9
                    exact ⟨hx3, (by omega), hx3, (by omega), (fldOk_s s x3 (by omega)), h8, h9, (as_i64 (by omega) (by omega)), ⟨⟨q2.k + 1, x3.number⟩, ⟨(show (q2.k + 1) ≤ x1.fields.length ∧ (0 : Int) ≤ x3.number ∧ ((q2.k + 1) = 0 → x3.number = 0) ∧ (∀ y, 0 < (q2.k + 1) → x1.fields[Int.toNat ((((q2.k + 1) : Nat) : Int) - 1)]? = some y → x3.number = y.number) ∧ fieldsOk (s.length : Int) x3.number (List.drop (q2.k + 1) x1.fields) = fieldsOk (s.length : Int) 0 x1.fields from ⟨by omega, by grind, by omega, by intro y h1 h2; rw [show Int.toNat ((((q2.k + 1) : Nat) : Int) - 1) = q2.k by omega] at h2; grind, by rw [← w5, decide_eq_true (show q2.pv < x3.number by omega), bnot_f (by assumption : (!fldOk x3 _) = false)]; simp⟩), (show x1.fields.length - (q2.k + 1) < x1.fields.length - q2.k from by omega)⟩, (by first | rfl | simp), (by first | rfl | simp)⟩⟩
              · have p7 := of_decide_eq_false h7
                rw [drop_end p7, fieldsOk] at w5
                exact ⟨(as_i64 (by omega) (by omega)), ⟨⟨q1.i + 1, x1.id⟩, ⟨(show (q1.i + 1) ≤ s.length ∧ (0 : Int) ≤ x1.id ∧ ((q1.i + 1) = 0 → x1.id = 0) ∧ (∀ y, 0 < (q1.i + 1) → s[Int.toNat ((((q1.i + 1) : Nat) : Int) - 1)]? = some y → x1.id = y.id) ∧ shapesOk (s.length : Int) x1.id (List.drop (q1.i + 1) s) = shapesOk (s.length : Int) 0 s from ⟨by omega, by grind, by omega, by intro y h1 h2; rw [show Int.toNat ((((q1.i + 1) : Nat) : Int) - 1) = q1.i by omega] at h2; grind, by rw [← v5, decide_eq_true (show q1.pv < x1.id by omega), decide_eq_true (show x1.id ≤ 99 by omega), decide_eq_true (show (x1.fields.length : Int) ≤ 8 by omega), ← w5]; simp⟩), (show s.length - (q1.i + 1) < s.length - q1.i from by omega)⟩, (by first | rfl | simp), (by first | rfl | simp)⟩⟩
        · have p4 := of_decide_eq_false h4
          refine ⟨(within_s _ _ _), h3, h4, fun h5 => ?_, fun h5 => ?_⟩
          · have p5 := of_decide_eq_true h5
            exact ⟨(congrArg S.v (congrArg V.c (congrArg C.bool (by unfold schemaOk; grind)))), rfl⟩
          · have p5 := of_decide_eq_false h5
            refine ⟨⟨⟨0, 0⟩, (show 0 ≤ x1.fields.length ∧ (0 : Int) ≤ 0 ∧ (0 = 0 → 0 = 0) ∧ (∀ y, 0 < 0 → x1.fields[Int.toNat (((0 : Nat) : Int) - 1)]? = some y → 0 = y.number) ∧ fieldsOk (s.length : Int) 0 (List.drop 0 x1.fields) = fieldsOk (s.length : Int) 0 x1.fields from ⟨by omega, by omega, by omega, by omega, rfl⟩), (by first | rfl | simp), (by first | rfl | simp)⟩, fun (q2 : schemaOk_s_V1) hq_q2 => ?_⟩
            have hi_q2 : q2.k ≤ x1.fields.length ∧ (0 : Int) ≤ q2.pv ∧ (q2.k = 0 → q2.pv = 0) ∧ (∀ y, 0 < q2.k → x1.fields[Int.toNat ((q2.k : Int) - 1)]? = some y → q2.pv = y.number) ∧ fieldsOk (s.length : Int) q2.pv (List.drop q2.k x1.fields) = fieldsOk (s.length : Int) 0 x1.fields := hq_q2
            obtain ⟨w1, w2, w3, w4, w5⟩ := hi_q2
            refine ⟨fun h6 => ?_, fun h6 => ?_⟩
            · have p6 := of_decide_eq_true h6
              refine ⟨(ax_get (l := x1.fields) (i := q2.k) (by omega)), fun x2 hx2 => ?_⟩
              rw [drop_el hx2, fieldsOk] at w5
              refine ⟨fun h7 => ?_, fun h7 => ?_⟩
              · have q7 := bnot_t h7
                exact ⟨hx2, (by omega), hx2, (by omega), (fldOk_s s x2 (by omega)), h7, (congrArg S.v (congrArg V.c (congrArg C.bool (by unfold schemaOk; grind)))), rfl⟩
              · have q7 := bnot_f h7
                have p7 := fldOk_t q7
                refine ⟨fun h8 => ?_, fun h8 => ?_⟩
                · have p8 := of_decide_eq_true h8
                  refine ⟨(ax_get (l := x1.fields) (i := Int.toNat ((q2.k : Int) - 1)) (by omega)), fun x3 hx3 => ?_⟩
                  have hz := w4 _ (by omega) hx3
                  refine ⟨hx2, (by omega), hx2, (by omega), (fldOk_s s x2 (by omega)), h7, h8, (as_i64 (by omega) (by omega)), (as_i64 (by omega) (by omega)), hx3, (by omega), hx3, (by omega), hx2, (by omega), hx2, (by omega), fun h9 => ?_, fun h9 => ?_⟩
                  · have p9 := of_decide_eq_true h9
                    exact ⟨(congrArg S.v (congrArg V.c (congrArg C.bool (by unfold schemaOk; grind)))), rfl⟩
                  · have p9 := of_decide_eq_false h9
                    exact ⟨(as_i64 (by omega) (by omega)), ⟨⟨q2.k + 1, x2.number⟩, ⟨(show (q2.k + 1) ≤ x1.fields.length ∧ (0 : Int) ≤ x2.number ∧ ((q2.k + 1) = 0 → x2.number = 0) ∧ (∀ y, 0 < (q2.k + 1) → x1.fields[Int.toNat ((((q2.k + 1) : Nat) : Int) - 1)]? = some y → x2.number = y.number) ∧ fieldsOk (s.length : Int) x2.number (List.drop (q2.k + 1) x1.fields) = fieldsOk (s.length : Int) 0 x1.fields from ⟨by omega, by grind, by omega, by intro y h1 h2; rw [show Int.toNat ((((q2.k + 1) : Nat) : Int) - 1) = q2.k by omega] at h2; grind, by rw [← w5, decide_eq_true (show q2.pv < x2.number by omega), bnot_f (by assumption : (!fldOk x2 _) = false)]; simp⟩), (show x1.fields.length - (q2.k + 1) < x1.fields.length - q2.k from by omega)⟩, (by first | rfl | simp), (by first | rfl | simp)⟩⟩
                · have p8 := of_decide_eq_false h8
                  exact ⟨hx2, (by omega), hx2, (by omega), (fldOk_s s x2 (by omega)), h7, h8, (as_i64 (by omega) (by omega)), ⟨⟨q2.k + 1, x2.number⟩, ⟨(show (q2.k + 1) ≤ x1.fields.length ∧ (0 : Int) ≤ x2.number ∧ ((q2.k + 1) = 0 → x2.number = 0) ∧ (∀ y, 0 < (q2.k + 1) → x1.fields[Int.toNat ((((q2.k + 1) : Nat) : Int) - 1)]? = some y → x2.number = y.number) ∧ fieldsOk (s.length : Int) x2.number (List.drop (q2.k + 1) x1.fields) = fieldsOk (s.length : Int) 0 x1.fields from ⟨by omega, by grind, by omega, by intro y h1 h2; rw [show Int.toNat ((((q2.k + 1) : Nat) : Int) - 1) = q2.k by omega] at h2; grind, by rw [← w5, decide_eq_true (show q2.pv < x2.number by omega), bnot_f (by assumption : (!fldOk x2 _) = false)]; simp⟩), (show x1.fields.length - (q2.k + 1) < x1.fields.length - q2.k from by omega)⟩, (by first | rfl | simp), (by first | rfl | simp)⟩⟩
            · have p6 := of_decide_eq_false h6
              rw [drop_end p6, fieldsOk] at w5
              exact ⟨(as_i64 (by omega) (by omega)), ⟨⟨q1.i + 1, x1.id⟩, ⟨(show (q1.i + 1) ≤ s.length ∧ (0 : Int) ≤ x1.id ∧ ((q1.i + 1) = 0 → x1.id = 0) ∧ (∀ y, 0 < (q1.i + 1) → s[Int.toNat ((((q1.i + 1) : Nat) : Int) - 1)]? = some y → x1.id = y.id) ∧ shapesOk (s.length : Int) x1.id (List.drop (q1.i + 1) s) = shapesOk (s.length : Int) 0 s from ⟨by omega, by grind, by omega, by intro y h1 h2; rw [show Int.toNat ((((q1.i + 1) : Nat) : Int) - 1) = q1.i by omega] at h2; grind, by rw [← v5, decide_eq_true (show q1.pv < x1.id by omega), decide_eq_true (show x1.id ≤ 99 by omega), decide_eq_true (show (x1.fields.length : Int) ≤ 8 by omega), ← w5]; simp⟩), (show s.length - (q1.i + 1) < s.length - q1.i from by omega)⟩, (by first | rfl | simp), (by first | rfl | simp)⟩⟩
    · have p2 := of_decide_eq_false h2
      rw [drop_end p2, shapesOk] at v5
      exact ⟨(congrArg S.v (congrArg V.c (congrArg C.bool (by unfold schemaOk; grind)))), rfl⟩
structure fieldAt_i_V0 where
  v : Nat
def fieldAt_i_F0 (n : Int) (x1 : Shp) : Fam := ⟨fieldAt_i_V0, fun q1 => [(2, .v (vI n)), (6, .v (vP 0)), (23, .v (.c (.seq .fld x1.fields))), (24, .v (vI (x1.fields.length : Int))), (25, .v (vI (q1.v : Int)))], fun _ => [.cells [.int .i64 0, .int .i64 0, .bool false, .bool false, .int .i64 0]], fun q1 => q1.v ≤ x1.fields.length ∧ fieldIn (List.drop q1.v x1.fields) n = fieldIn x1.fields n, fun q1 => x1.fields.length - q1.v⟩

theorem fieldAt_i (s : List Shp) (sh : Int) (n : Int) (hp1 : s.length ≤ 1000) (hp2 : ∀ x ∈ s, x.fields.length ≤ 1000) : Fun Try.prog 87 [.agg [.seq .shp s], vI sh, vI n] [] (.tup [.agg (cFld ((fieldAt s sh n).getD fld0)), vB (fieldAt s sh n).isSome]) [] := by
  have hN : bigN = 274877906944 := rfl
  refine fun_of Try.func87 (by kernel_rfl) (by kernel_rfl) (d := .seg [.as 14 (.v (vI ((s.length : Int) - 1))), .call [] (.v (vB (within sh 0 ((s.length : Int) - 1)))) []] (.br (.leaf () []) (.intro (fun (x1 : Shp) => s[sh.toNat]? = some x1) fun x1 => .seg [.el .shp x1, .at 0, .keep [2, 6, 23, 24, 25], .sel [1]] (.loop (fieldAt_i_F0 n x1) fun q1 => .br (.intro (fun (x2 : Fld) => x1.fields[q1.v]? = some x2) fun x2 => .seg [.el .fld x2] (.br (.leaf () []) (.seg [.as 34 (.v (vI ((q1.v : Int) + 1))), .at 0, .keep [2, 6, 23, 24, 25], .sel [0]] (.next)))) (.leaf () [])))))
    (vc := ((.v (vI (IntKind.i64.wrap ((s.length : Int) - 1))) : S) = .v (vI ((s.length : Int) - 1))) ∧ (Fun Try.prog 60 [vI sh, vI 0, vI ((s.length : Int) - 1)] [] (.v (vB (within sh 0 ((s.length : Int) - 1)))) []) ∧ ((!(within sh 0 ((s.length : Int) - 1))) = true → (.tup [.agg [.int .i64 0, .int .i64 0, .bool false, .bool false, .int .i64 0], vB false] : S) = .tup [.agg (cFld ((fieldAt s sh n).getD fld0)), vB (fieldAt s sh n).isSome] ∧ ([] : List Blk) = []) ∧ ((!(within sh 0 ((s.length : Int) - 1))) = false → (∃ (x1 : Shp), s[sh.toNat]? = some x1) ∧ ∀ (x1 : Shp), (s[sh.toNat]? = some x1) → ((s[sh.toNat]? = some x1) ∧ ((0 : Int) ≤ sh) ∧ (fieldAt_i_F0 n x1).Has [(2, .v (vI n)), (6, .v (vP 0)), (23, .v (.c (.seq .fld x1.fields))), (24, .v (vI (x1.fields.length : Int))), (25, .v (vI 0))] [.cells [.int .i64 0, .int .i64 0, .bool false, .bool false, .int .i64 0]] ∧ ∀ q1, (fieldAt_i_F0 n x1).inv q1 → (((decide ((q1.v : Int) < (x1.fields.length : Int))) = true → (∃ (x2 : Fld), x1.fields[q1.v]? = some x2) ∧ ∀ (x2 : Fld), (x1.fields[q1.v]? = some x2) → ((x1.fields[q1.v]? = some x2) ∧ ((0 : Int) ≤ (q1.v : Int)) ∧ ((decide (x2.number = n)) = true → (.tup [.agg (cFld x2), vB true] : S) = .tup [.agg (cFld ((fieldAt s sh n).getD fld0)), vB (fieldAt s sh n).isSome] ∧ ([] : List Blk) = []) ∧ ((decide (x2.number = n)) = false → ((.v (vI (IntKind.i64.wrap ((q1.v : Int) + 1))) : S) = .v (vI ((q1.v : Int) + 1))) ∧ (fieldAt_i_F0 n x1).Nxt q1 [(2, .v (vI n)), (6, .v (vP 0)), (23, .v (.c (.seq .fld x1.fields))), (24, .v (vI (x1.fields.length : Int))), (25, .v (vI ((q1.v : Int) + 1)))] [.cells [.int .i64 0, .int .i64 0, .bool false, .bool false, .int .i64 0]]))) ∧ ((decide ((q1.v : Int) < (x1.fields.length : Int))) = false → (.tup [.agg [.int .i64 0, .int .i64 0, .bool false, .bool false, .int .i64 0], vB false] : S) = .tup [.agg (cFld ((fieldAt s sh n).getD fld0)), vB (fieldAt s sh n).isSome] ∧ ([] : List Blk) = []))))) (by kernel_rfl) ?_
  refine ⟨(as_i64 (by omega) (by omega)), (within_i _ _ _), fun h1 => ?_, fun h1 => ?_⟩
  · have q1 := bnot_t h1
    have p1 := within_f q1
    have hm1 : (fieldAt s sh n).getD fld0 = (⟨0, 0, false, false, 0⟩ : Fld) := by grind [fieldAt, fld0, fieldIn]
    exact ⟨(congrArg S.tup (consE (congrArg V.agg (consE (congrArg (C.int .i64) (by grind [fieldAt, fld0, fieldIn])) (consE (congrArg (C.int .i64) (by grind [fieldAt, fld0, fieldIn])) (consE (congrArg C.bool (by grind [fieldAt, fld0, fieldIn])) (consE (congrArg C.bool (by grind [fieldAt, fld0, fieldIn])) (consE (congrArg (C.int .i64) (by grind [fieldAt, fld0, fieldIn])) rfl)))))) (consE (congrArg V.c (congrArg C.bool (by grind [fieldAt, fld0, fieldIn]))) rfl))), rfl⟩
  · have q1 := bnot_f h1
    have p1 := within_t q1
    have q1_ := q1
    refine ⟨(ax_get (l := s) (i := sh.toNat) (by omega)), fun x1 hx1 => ?_⟩
    have hfa := fieldAt_in (n := n) q1_ hx1
    have hfl := hp2 x1 (List.mem_of_getElem? hx1)
    refine ⟨hx1, (by omega), ⟨⟨0⟩, (show 0 ≤ x1.fields.length ∧ fieldIn (List.drop 0 x1.fields) n = fieldIn x1.fields n from ⟨by omega, by simp⟩), (by first | rfl | simp), (by first | rfl | simp)⟩, fun (q1 : fieldAt_i_V0) hq_q1 => ?_⟩
    have hi_q1 : q1.v ≤ x1.fields.length ∧ fieldIn (List.drop q1.v x1.fields) n = fieldIn x1.fields n := hq_q1
    obtain ⟨v1, v2⟩ := hi_q1
    refine ⟨fun h2 => ?_, fun h2 => ?_⟩
    · have p2 := of_decide_eq_true h2
      refine ⟨(ax_get (l := x1.fields) (i := q1.v) (by omega)), fun x2 hx2 => ?_⟩
      rw [drop_el hx2, fieldIn_cons] at v2
      refine ⟨hx2, (by omega), fun h3 => ?_, fun h3 => ?_⟩
      · have p3 := of_decide_eq_true h3
        have hm1 : (fieldAt s sh n).getD fld0 = x2 := by grind [fieldAt, fld0, fieldIn]
        exact ⟨(congrArg S.tup (consE (congrArg V.agg (consE (congrArg (C.int .i64) (by grind [fieldAt, fld0, fieldIn])) (consE (congrArg (C.int .i64) (by grind [fieldAt, fld0, fieldIn])) (consE (congrArg C.bool (by grind [fieldAt, fld0, fieldIn])) (consE (congrArg C.bool (by grind [fieldAt, fld0, fieldIn])) (consE (congrArg (C.int .i64) (by grind [fieldAt, fld0, fieldIn])) rfl)))))) (consE (congrArg V.c (congrArg C.bool (by grind [fieldAt, fld0, fieldIn]))) rfl))), rfl⟩
      · have p3 := of_decide_eq_false h3
        exact ⟨(as_i64 (by omega) (by omega)), ⟨⟨q1.v + 1⟩, ⟨(show (q1.v + 1) ≤ x1.fields.length ∧ fieldIn (List.drop (q1.v + 1) x1.fields) n = fieldIn x1.fields n from ⟨by omega, by grind⟩), (show x1.fields.length - (q1.v + 1) < x1.fields.length - q1.v from by omega)⟩, (by first | rfl | simp), (by first | rfl | simp)⟩⟩
    · have p2 := of_decide_eq_false h2
      rw [drop_end p2] at v2
      have hm1 : (fieldAt s sh n).getD fld0 = (⟨0, 0, false, false, 0⟩ : Fld) := by grind [fieldAt, fld0, fieldIn]
      exact ⟨(congrArg S.tup (consE (congrArg V.agg (consE (congrArg (C.int .i64) (by grind [fieldAt, fld0, fieldIn])) (consE (congrArg (C.int .i64) (by grind [fieldAt, fld0, fieldIn])) (consE (congrArg C.bool (by grind [fieldAt, fld0, fieldIn])) (consE (congrArg C.bool (by grind [fieldAt, fld0, fieldIn])) (consE (congrArg (C.int .i64) (by grind [fieldAt, fld0, fieldIn])) rfl)))))) (consE (congrArg V.c (congrArg C.bool (by grind [fieldAt, fld0, fieldIn]))) rfl))), rfl⟩
structure fieldAt_s_V0 where
  i : Nat
def fieldAt_s_F0 (n : Int) (x1 : Shp) : Fam := ⟨fieldAt_s_V0, fun q1 => [(2, .v (vI n)), (6, .v (vP 0)), (8, .v (.c (.seq .fld x1.fields))), (9, .v (vI (q1.i : Int)))], fun _ => [.cells [.int .i64 0, .int .i64 0, .bool false, .bool false, .int .i64 0]], fun q1 => q1.i ≤ x1.fields.length ∧ fieldIn (List.drop q1.i x1.fields) n = fieldIn x1.fields n, fun q1 => x1.fields.length - q1.i⟩

theorem fieldAt_s (s : List Shp) (sh : Int) (n : Int) (hp1 : s.length ≤ 1000) (hp2 : ∀ x ∈ s, x.fields.length ≤ 1000) : Fun Try.prog 67 [.agg [.seq .shp s], vI sh, vI n] [] (.tup [.agg (cFld ((fieldAt s sh n).getD fld0)), vB (fieldAt s sh n).isSome]) [] := by
  have hN : bigN = 274877906944 := rfl
  refine fun_of Try.func67 (by kernel_rfl) (by kernel_rfl) (d := .seg [.as 14 (.v (vI ((s.length : Int) - 1))), .call [] (.v (vB (within sh 0 ((s.length : Int) - 1)))) []] (.br (.leaf () []) (.intro (fun (x1 : Shp) => s[sh.toNat]? = some x1) fun x1 => .seg [.el .shp x1, .at 0, .keep [2, 6, 8, 9], .sel [1]] (.loop (fieldAt_s_F0 n x1) fun q1 => .br (.intro (fun (x2 : Fld) => x1.fields[q1.i]? = some x2) fun x2 => .seg [.el .fld x2] (.br (.seg [.el .fld x2] (.leaf () [])) (.seg [.as 29 (.v (vI ((q1.i : Int) + 1))), .at 0, .keep [2, 6, 8, 9], .sel [0]] (.next)))) (.leaf () [])))))
    (vc := ((.v (vI (IntKind.i64.wrap ((s.length : Int) - 1))) : S) = .v (vI ((s.length : Int) - 1))) ∧ (Fun Try.prog 55 [vI sh, vI 0, vI ((s.length : Int) - 1)] [] (.v (vB (within sh 0 ((s.length : Int) - 1)))) []) ∧ ((!(within sh 0 ((s.length : Int) - 1))) = true → (.tup [.agg [.int .i64 0, .int .i64 0, .bool false, .bool false, .int .i64 0], vB false] : S) = .tup [.agg (cFld ((fieldAt s sh n).getD fld0)), vB (fieldAt s sh n).isSome] ∧ ([] : List Blk) = []) ∧ ((!(within sh 0 ((s.length : Int) - 1))) = false → (∃ (x1 : Shp), s[sh.toNat]? = some x1) ∧ ∀ (x1 : Shp), (s[sh.toNat]? = some x1) → ((s[sh.toNat]? = some x1) ∧ ((0 : Int) ≤ sh) ∧ (fieldAt_s_F0 n x1).Has [(2, .v (vI n)), (6, .v (vP 0)), (8, .v (.c (.seq .fld x1.fields))), (9, .v (vI 0))] [.cells [.int .i64 0, .int .i64 0, .bool false, .bool false, .int .i64 0]] ∧ ∀ q1, (fieldAt_s_F0 n x1).inv q1 → (((decide ((q1.i : Int) < (x1.fields.length : Int))) = true → (∃ (x2 : Fld), x1.fields[q1.i]? = some x2) ∧ ∀ (x2 : Fld), (x1.fields[q1.i]? = some x2) → ((x1.fields[q1.i]? = some x2) ∧ ((0 : Int) ≤ (q1.i : Int)) ∧ ((decide (x2.number = n)) = true → (x1.fields[q1.i]? = some x2) ∧ ((0 : Int) ≤ (q1.i : Int)) ∧ (.tup [.agg (cFld x2), vB true] : S) = .tup [.agg (cFld ((fieldAt s sh n).getD fld0)), vB (fieldAt s sh n).isSome] ∧ ([] : List Blk) = []) ∧ ((decide (x2.number = n)) = false → ((.v (vI (IntKind.i64.wrap ((q1.i : Int) + 1))) : S) = .v (vI ((q1.i : Int) + 1))) ∧ (fieldAt_s_F0 n x1).Nxt q1 [(2, .v (vI n)), (6, .v (vP 0)), (8, .v (.c (.seq .fld x1.fields))), (9, .v (vI ((q1.i : Int) + 1)))] [.cells [.int .i64 0, .int .i64 0, .bool false, .bool false, .int .i64 0]]))) ∧ ((decide ((q1.i : Int) < (x1.fields.length : Int))) = false → (.tup [.agg [.int .i64 0, .int .i64 0, .bool false, .bool false, .int .i64 0], vB false] : S) = .tup [.agg (cFld ((fieldAt s sh n).getD fld0)), vB (fieldAt s sh n).isSome] ∧ ([] : List Blk) = []))))) (by kernel_rfl) ?_
  refine ⟨(as_i64 (by omega) (by omega)), (within_s _ _ _), fun h1 => ?_, fun h1 => ?_⟩
  · have q1 := bnot_t h1
    have p1 := within_f q1
    have hm1 : (fieldAt s sh n).getD fld0 = (⟨0, 0, false, false, 0⟩ : Fld) := by grind [fieldAt, fld0, fieldIn]
    exact ⟨(congrArg S.tup (consE (congrArg V.agg (consE (congrArg (C.int .i64) (by grind [fieldAt, fld0, fieldIn])) (consE (congrArg (C.int .i64) (by grind [fieldAt, fld0, fieldIn])) (consE (congrArg C.bool (by grind [fieldAt, fld0, fieldIn])) (consE (congrArg C.bool (by grind [fieldAt, fld0, fieldIn])) (consE (congrArg (C.int .i64) (by grind [fieldAt, fld0, fieldIn])) rfl)))))) (consE (congrArg V.c (congrArg C.bool (by grind [fieldAt, fld0, fieldIn]))) rfl))), rfl⟩
  · have q1 := bnot_f h1
    have p1 := within_t q1
    have q1_ := q1
    refine ⟨(ax_get (l := s) (i := sh.toNat) (by omega)), fun x1 hx1 => ?_⟩
    have hfa := fieldAt_in (n := n) q1_ hx1
    have hfl := hp2 x1 (List.mem_of_getElem? hx1)
    refine ⟨hx1, (by omega), ⟨⟨0⟩, (show 0 ≤ x1.fields.length ∧ fieldIn (List.drop 0 x1.fields) n = fieldIn x1.fields n from ⟨by omega, by simp⟩), (by first | rfl | simp), (by first | rfl | simp)⟩, fun (q1 : fieldAt_s_V0) hq_q1 => ?_⟩
    have hi_q1 : q1.i ≤ x1.fields.length ∧ fieldIn (List.drop q1.i x1.fields) n = fieldIn x1.fields n := hq_q1
    obtain ⟨v1, v2⟩ := hi_q1
    refine ⟨fun h2 => ?_, fun h2 => ?_⟩
    · have p2 := of_decide_eq_true h2
      refine ⟨(ax_get (l := x1.fields) (i := q1.i) (by omega)), fun x2 hx2 => ?_⟩
      rw [drop_el hx2, fieldIn_cons] at v2
      refine ⟨hx2, (by omega), fun h3 => ?_, fun h3 => ?_⟩
      · have p3 := of_decide_eq_true h3
        refine ⟨hx2, (by omega), ?_⟩
        have hm1 : (fieldAt s sh n).getD fld0 = x2 := by grind [fieldAt, fld0, fieldIn]
        exact ⟨(congrArg S.tup (consE (congrArg V.agg (consE (congrArg (C.int .i64) (by grind [fieldAt, fld0, fieldIn])) (consE (congrArg (C.int .i64) (by grind [fieldAt, fld0, fieldIn])) (consE (congrArg C.bool (by grind [fieldAt, fld0, fieldIn])) (consE (congrArg C.bool (by grind [fieldAt, fld0, fieldIn])) (consE (congrArg (C.int .i64) (by grind [fieldAt, fld0, fieldIn])) rfl)))))) (consE (congrArg V.c (congrArg C.bool (by grind [fieldAt, fld0, fieldIn]))) rfl))), rfl⟩
      · have p3 := of_decide_eq_false h3
        exact ⟨(as_i64 (by omega) (by omega)), ⟨⟨q1.i + 1⟩, ⟨(show (q1.i + 1) ≤ x1.fields.length ∧ fieldIn (List.drop (q1.i + 1) x1.fields) n = fieldIn x1.fields n from ⟨by omega, by grind⟩), (show x1.fields.length - (q1.i + 1) < x1.fields.length - q1.i from by omega)⟩, (by first | rfl | simp), (by first | rfl | simp)⟩⟩
    · have p2 := of_decide_eq_false h2
      rw [drop_end p2] at v2
      have hm1 : (fieldAt s sh n).getD fld0 = (⟨0, 0, false, false, 0⟩ : Fld) := by grind [fieldAt, fld0, fieldIn]
      exact ⟨(congrArg S.tup (consE (congrArg V.agg (consE (congrArg (C.int .i64) (by grind [fieldAt, fld0, fieldIn])) (consE (congrArg (C.int .i64) (by grind [fieldAt, fld0, fieldIn])) (consE (congrArg C.bool (by grind [fieldAt, fld0, fieldIn])) (consE (congrArg C.bool (by grind [fieldAt, fld0, fieldIn])) (consE (congrArg (C.int .i64) (by grind [fieldAt, fld0, fieldIn])) rfl)))))) (consE (congrArg V.c (congrArg C.bool (by grind [fieldAt, fld0, fieldIn]))) rfl))), rfl⟩
theorem planOk_i (p : Pln) : Fun Try.prog 36 [.agg (cPln p)] [] (.v (vB (planOk p))) [] := by
  have hN : bigN = 274877906944 := rfl
  refine fun_of Try.func36 (by kernel_rfl) (by kernel_rfl) (d := .seg [.call [] (.v (vB (schemaOk p.shapes))) []] (.br (.seg [.as 13 (.v (vI ((p.shapes.length : Int) - 1))), .call [] (.v (vB (within p.root 0 ((p.shapes.length : Int) - 1)))) []] (.br (.seg [.call [] (.v (vB (within p.deep 1 8))) []] (.br (.seg [.call [] (.v (vB (within p.most 0 2000))) []] (.leaf () [])) (.leaf () []))) (.leaf () []))) (.leaf () [])))
    (vc := (Fun Try.prog 59 [.agg [.seq .shp p.shapes]] [] (.v (vB (schemaOk p.shapes))) []) ∧ ((schemaOk p.shapes) = true → ((.v (vI (IntKind.i64.wrap ((p.shapes.length : Int) - 1))) : S) = .v (vI ((p.shapes.length : Int) - 1))) ∧ (Fun Try.prog 60 [vI p.root, vI 0, vI ((p.shapes.length : Int) - 1)] [] (.v (vB (within p.root 0 ((p.shapes.length : Int) - 1)))) []) ∧ ((within p.root 0 ((p.shapes.length : Int) - 1)) = true → (Fun Try.prog 60 [vI p.deep, vI 1, vI 8] [] (.v (vB (within p.deep 1 8))) []) ∧ ((within p.deep 1 8) = true → (Fun Try.prog 60 [vI p.most, vI 0, vI 2000] [] (.v (vB (within p.most 0 2000))) []) ∧ (.v (vB (within p.most 0 2000)) : S) = .v (vB (planOk p)) ∧ ([] : List Blk) = []) ∧ ((within p.deep 1 8) = false → (.v (vB false) : S) = .v (vB (planOk p)) ∧ ([] : List Blk) = [])) ∧ ((within p.root 0 ((p.shapes.length : Int) - 1)) = false → (.v (vB false) : S) = .v (vB (planOk p)) ∧ ([] : List Blk) = [])) ∧ ((schemaOk p.shapes) = false → (.v (vB false) : S) = .v (vB (planOk p)) ∧ ([] : List Blk) = [])) (by kernel_rfl) ?_
  refine ⟨(schemaOk_i p.shapes), fun h1 => ?_, fun h1 => ?_⟩
  · have p1 := schemaOk_t h1
    refine ⟨(as_i64 (by omega) (by omega)), (within_i _ _ _), fun h2 => ?_, fun h2 => ?_⟩
    · have p2 := within_t h2
      refine ⟨(within_i _ _ _), fun h3 => ?_, fun h3 => ?_⟩
      · have p3 := within_t h3
        exact ⟨(within_i _ _ _), (congrArg S.v (congrArg V.c (congrArg C.bool (by grind [planOk])))), rfl⟩
      · have p3 := within_f h3
        exact ⟨(congrArg S.v (congrArg V.c (congrArg C.bool (by grind [planOk])))), rfl⟩
    · have p2 := within_f h2
      exact ⟨(congrArg S.v (congrArg V.c (congrArg C.bool (by grind [planOk])))), rfl⟩
  · exact ⟨(congrArg S.v (congrArg V.c (congrArg C.bool (by grind [planOk])))), rfl⟩
theorem planOk_s (p : Pln) : Fun Try.prog 32 [.agg (cPln p)] [] (.v (vB (planOk p))) [] := by
  have hN : bigN = 274877906944 := rfl
  refine fun_of Try.func32 (by kernel_rfl) (by kernel_rfl) (d := .seg [.call [] (.v (vB (schemaOk p.shapes))) []] (.br (.seg [.as 13 (.v (vI ((p.shapes.length : Int) - 1))), .call [] (.v (vB (within p.root 0 ((p.shapes.length : Int) - 1)))) []] (.br (.seg [.call [] (.v (vB (within p.deep 1 8))) []] (.br (.seg [.call [] (.v (vB (within p.most 0 2000))) []] (.leaf () [])) (.leaf () []))) (.leaf () []))) (.leaf () [])))
    (vc := (Fun Try.prog 54 [.agg [.seq .shp p.shapes]] [] (.v (vB (schemaOk p.shapes))) []) ∧ ((schemaOk p.shapes) = true → ((.v (vI (IntKind.i64.wrap ((p.shapes.length : Int) - 1))) : S) = .v (vI ((p.shapes.length : Int) - 1))) ∧ (Fun Try.prog 55 [vI p.root, vI 0, vI ((p.shapes.length : Int) - 1)] [] (.v (vB (within p.root 0 ((p.shapes.length : Int) - 1)))) []) ∧ ((within p.root 0 ((p.shapes.length : Int) - 1)) = true → (Fun Try.prog 55 [vI p.deep, vI 1, vI 8] [] (.v (vB (within p.deep 1 8))) []) ∧ ((within p.deep 1 8) = true → (Fun Try.prog 55 [vI p.most, vI 0, vI 2000] [] (.v (vB (within p.most 0 2000))) []) ∧ (.v (vB (within p.most 0 2000)) : S) = .v (vB (planOk p)) ∧ ([] : List Blk) = []) ∧ ((within p.deep 1 8) = false → (.v (vB false) : S) = .v (vB (planOk p)) ∧ ([] : List Blk) = [])) ∧ ((within p.root 0 ((p.shapes.length : Int) - 1)) = false → (.v (vB false) : S) = .v (vB (planOk p)) ∧ ([] : List Blk) = [])) ∧ ((schemaOk p.shapes) = false → (.v (vB false) : S) = .v (vB (planOk p)) ∧ ([] : List Blk) = [])) (by kernel_rfl) ?_
  refine ⟨(schemaOk_s p.shapes), fun h1 => ?_, fun h1 => ?_⟩
  · have p1 := schemaOk_t h1
    refine ⟨(as_i64 (by omega) (by omega)), (within_s _ _ _), fun h2 => ?_, fun h2 => ?_⟩
    · have p2 := within_t h2
      refine ⟨(within_s _ _ _), fun h3 => ?_, fun h3 => ?_⟩
      · have p3 := within_t h3
        exact ⟨(within_s _ _ _), (congrArg S.v (congrArg V.c (congrArg C.bool (by grind [planOk])))), rfl⟩
      · have p3 := within_f h3
        exact ⟨(congrArg S.v (congrArg V.c (congrArg C.bool (by grind [planOk])))), rfl⟩
    · have p2 := within_f h2
      exact ⟨(congrArg S.v (congrArg V.c (congrArg C.bool (by grind [planOk])))), rfl⟩
  · exact ⟨(congrArg S.v (congrArg V.c (congrArg C.bool (by grind [planOk])))), rfl⟩
end Go.Proofs.Ythmhekbmhpljcaa.Ax
