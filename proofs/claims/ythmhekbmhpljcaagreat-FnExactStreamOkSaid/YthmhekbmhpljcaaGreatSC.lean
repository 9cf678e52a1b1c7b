/- Decoders: what is valid, whole. -/
import Derived.Test.YthmhekbmhpljcaaGreatSB
namespace Go.Proofs.YthmhekbmhpljcaaGreat.Ax
open Go.RowKit
set_option linter.unusedSimpArgs false
set_option linter.unusedVariables false
structure known_i_V0 where
  v : Nat
def known_i_F0 (p : Pln) (f : Fld) : Fam := ⟨known_i_V0, fun q1 => [(2, .v (vP 0)), (3, .v (vP 1)), (11, .v (vI (p.shapes.length : Int))), (12, .v (vI (q1.v : Int)))], fun _ => [.cells (cPln p), .cells (cFld f)], fun q1 => q1.v ≤ p.shapes.length ∧ knownN p.shapes f q1.v = false, fun q1 => p.shapes.length - q1.v⟩

theorem known_i (p : Pln) (f : Fld) (hp1 : List.length (p).shapes ≤ 1000) (hp2 : ∀ x ∈ (p).shapes, x.fields.length ≤ 1000) : Fun Tryz.prog 80 [.agg (cPln p), .agg (cFld f)] [] (.v (vB (known (p).shapes f))) [] := by
  have hN : bigN = 274877906944 := rfl
  refine fun_ofw Tryz.func80 (by kernel_rfl) (by kernel_rfl) (w := let z4 := (p.shapes.length : Int); let z5 : List Blk := [.cells (cPln p), .cells (cFld f)]; let z6 := known_i_F0 p f; (.seg [.at 0, .keep [2, 3, 11, 12], .sel [0, 1]] (.loop z6 fun q1 => let z1 := (q1.v : Int); .br (.seg [.call [] (.tup [.agg (cFld ((fieldAt p.shapes z1 f.number).getD fld0)), vB (fieldAt p.shapes z1 f.number).isSome]) []] (.br (.br (.leaf () []) (.seg [.as 30 (.v (vI (z1 + 1))), .at 0, .keep [2, 3, 11, 12], .sel [0, 1]] (.next))) (.seg [.as 30 (.v (vI (z1 + 1))), .at 0, .keep [2, 3, 11, 12], .sel [0, 1]] (.next)))) (.leaf () [])), z6.Has [(2, .v (vP 0)), (3, .v (vP 1)), (11, .v (vI z4)), (12, .v (vI 0))] z5 ∧ ∀ q1, z6.inv q1 → (let z3 := (q1.v : Int); let z2 := fieldAt p.shapes z3 f.number; ((decide (z3 < z4)) = true → (Fun Tryz.prog 126 [.agg [.seq .shp p.shapes], vI z3, vI f.number] [] (.tup [.agg (cFld (z2.getD fld0)), vB z2.isSome]) []) ∧ (z2.isSome = true → ((decide ((z2.getD fld0).number = f.number) && (decide ((z2.getD fld0).kind = f.kind) && (decide ((z2.getD fld0).rep = f.rep) && (decide ((z2.getD fld0).packed = f.packed) && decide ((z2.getD fld0).msg = f.msg))))) = true → (.v (vB true) : S) = .v (vB (known (p).shapes f)) ∧ ([] : List Blk) = []) ∧ ((decide ((z2.getD fld0).number = f.number) && (decide ((z2.getD fld0).kind = f.kind) && (decide ((z2.getD fld0).rep = f.rep) && (decide ((z2.getD fld0).packed = f.packed) && decide ((z2.getD fld0).msg = f.msg))))) = false → ((.v (vI (IntKind.i64.wrap (z3 + 1))) : S) = .v (vI (z3 + 1))) ∧ z6.Nxt q1 [(2, .v (vP 0)), (3, .v (vP 1)), (11, .v (vI z4)), (12, .v (vI (z3 + 1)))] z5)) ∧ (z2.isSome = false → ((.v (vI (IntKind.i64.wrap (z3 + 1))) : S) = .v (vI (z3 + 1))) ∧ z6.Nxt q1 [(2, .v (vP 0)), (3, .v (vP 1)), (11, .v (vI z4)), (12, .v (vI (z3 + 1)))] z5)) ∧ ((decide (z3 < z4)) = false → (.v (vB false) : S) = .v (vB (known (p).shapes f)) ∧ ([] : List Blk) = [])))) (by kernel_rfl) ?_
  refine ⟨has_of (j := (⟨0⟩ : known_i_V0)) (by first | rfl | simp) rfl (by dsimp only [known_i_F0]; exact ⟨by omega, rfl⟩), fun (q1 : known_i_V0) hq_q1 => ?_⟩
  have hi_q1 : q1.v ≤ p.shapes.length ∧ knownN p.shapes f q1.v = false := hq_q1
  obtain ⟨v1, v2⟩ := hi_q1
  refine ⟨fun h1 => have p1 := of_decide_eq_true h1; ?_, fun h1 => have p1 := of_decide_eq_false h1; ?_⟩
  refine ⟨(fieldAt_i p.shapes _ _ (by omega) (by omega)), fun h2 => ?_, fun h2 => ?_⟩
  obtain ⟨o, ho⟩ := Option.isSome_iff_exists.1 h2
  have hg : (fieldAt p.shapes (q1.v : Int) f.number).getD fld0 = o := by rw [ho]; rfl
  refine ⟨fun h3 => have p3 := (andT dT (andT dT (andT dT (andT dT dT)))).1 h3; ?_, fun h3 => have p3 := (andF dT (andF dT (andF dT (andF dT dF)))).1 h3; ?_⟩
  rw [hg] at p3
  have hkk := known_of (by omega) (show (fieldAt p.shapes (q1.v : Int) f.number) = some f by rw [ho, fld_eq p3])
  refine ⟨(sB ?_), rfl⟩
  rotate_left
  rw [hg] at p3
  have hkn : knownN p.shapes f (q1.v + 1) = false := knownN_next v2 (by rw [ho]; intro e; exact fld_ne p3 (Option.some.inj e))
  exact ⟨(as_i64 (by omega) (by omega)), nxt_of (j := (⟨q1.v + 1⟩ : known_i_V0)) (by first | rfl | simp) rfl (by dsimp only [known_i_F0]; exact ⟨by omega, hkn⟩) (by dsimp only [known_i_F0]; omega)⟩
  have hkn : knownN p.shapes f (q1.v + 1) = false := knownN_next v2 (by intro e; rw [e] at h2; simp at h2)
  exact ⟨(as_i64 (by omega) (by omega)), nxt_of (j := (⟨q1.v + 1⟩ : known_i_V0)) (by first | rfl | simp) rfl (by dsimp only [known_i_F0]; exact ⟨by omega, hkn⟩) (by dsimp only [known_i_F0]; omega)⟩
  have hkk := known_no v2 (by omega)
  refine ⟨(sB ?_), rfl⟩
  rotate_left
  all_goals first | (exact hkk.symm) | (grind)
structure fieldOkD_s_V0 where
  i : Nat
def fieldOkD_s_F0 (d : Dcd) : Fam := ⟨fieldOkD_s_V0, fun q1 => [(1, .v (vP 0)), (3, .v (vI (q1.i : Int)))], fun _ => [.cells (cDcd d)], fun q1 => q1.i ≤ d.plan.shapes.length ∧ knownN d.plan.shapes d.field q1.i = false, fun q1 => d.plan.shapes.length - q1.i⟩

theorem fieldOkD_s (d : Dcd) (hp1 : List.length (d).plan.shapes ≤ 1000) (hp2 : ∀ x ∈ (d).plan.shapes, x.fields.length ≤ 1000) : Fun Tryz.prog 62 [.agg (cDcd d)] [] (.v (vB (decide ((d).field = fld0) || known (d).plan.shapes (d).field))) [] := by
  have hN : bigN = 274877906944 := rfl
  refine fun_ofw Tryz.func62 (by kernel_rfl) (by kernel_rfl) (w := let z5 := decide (d.field.number = 0) && (decide (d.field.kind = 0) && (decide (d.field.rep = false) && (decide (d.field.packed = false) && decide (d.field.msg = 0)))); let z6 := vB (decide ((d).field = fld0) || known (d).plan.shapes (d).field); let z7 := fieldOkD_s_F0 d; let z8 := (d.plan.shapes.length : Int); (.br (.leaf () []) (.seg [.at 0, .keep [1, 3], .sel [0]] (.loop z7 fun q1 => let z2 := (q1.i : Int); let z1 := fieldAt d.plan.shapes z2 d.field.number; .br (.seg [.call [] (.tup [.agg (cFld (z1.getD fld0)), vB z1.isSome]) []] (.br (.br (.leaf () []) (.seg [.as 18 (.v (vI (z2 + 1))), .at 0, .keep [1, 3], .sel [0]] (.next))) (.seg [.as 18 (.v (vI (z2 + 1))), .at 0, .keep [1, 3], .sel [0]] (.next)))) (.leaf () []))), (z5 = true → (.v (vB true) : S) = .v z6 ∧ ([] : List Blk) = []) ∧ (z5 = false → z7.Has [(1, .v (vP 0)), (3, .v (vI 0))] [.cells (cDcd d)] ∧ ∀ q1, z7.inv q1 → (let z4 := (q1.i : Int); let z3 := fieldAt d.plan.shapes z4 d.field.number; ((decide (z4 < z8)) = true → (Fun Tryz.prog 116 [.agg [.seq .shp d.plan.shapes], vI z4, vI d.field.number] [] (.tup [.agg (cFld (z3.getD fld0)), vB z3.isSome]) []) ∧ (z3.isSome = true → ((decide ((z3.getD fld0).number = d.field.number) && (decide ((z3.getD fld0).kind = d.field.kind) && (decide ((z3.getD fld0).rep = d.field.rep) && (decide ((z3.getD fld0).packed = d.field.packed) && decide ((z3.getD fld0).msg = d.field.msg))))) = true → (.v (vB true) : S) = .v z6 ∧ ([] : List Blk) = []) ∧ ((decide ((z3.getD fld0).number = d.field.number) && (decide ((z3.getD fld0).kind = d.field.kind) && (decide ((z3.getD fld0).rep = d.field.rep) && (decide ((z3.getD fld0).packed = d.field.packed) && decide ((z3.getD fld0).msg = d.field.msg))))) = false → ((.v (vI (IntKind.i64.wrap (z4 + 1))) : S) = .v (vI (z4 + 1))) ∧ z7.Nxt q1 [(1, .v (vP 0)), (3, .v (vI (z4 + 1)))] [.cells (cDcd d)])) ∧ (z3.isSome = false → ((.v (vI (IntKind.i64.wrap (z4 + 1))) : S) = .v (vI (z4 + 1))) ∧ z7.Nxt q1 [(1, .v (vP 0)), (3, .v (vI (z4 + 1)))] [.cells (cDcd d)])) ∧ ((decide (z4 < z8)) = false → (.v (vB false) : S) = .v z6 ∧ ([] : List Blk) = []))))) (by kernel_rfl) ?_
  refine ⟨fun h1 => have p1 := (andT dT (andT dT (andT dT (andT dT dT)))).1 h1; ?_, fun h1 => have p1 := (andF dT (andF dT (andF dT (andF dT dF)))).1 h1; ?_⟩
  refine ⟨(sB ?_), rfl⟩
  rotate_left
  refine ⟨has_of (j := (⟨0⟩ : fieldOkD_s_V0)) (by first | rfl | simp) rfl (by dsimp only [fieldOkD_s_F0]; exact ⟨by omega, rfl⟩), fun (q1 : fieldOkD_s_V0) hq_q1 => ?_⟩
  have hi_q1 : q1.i ≤ d.plan.shapes.length ∧ knownN d.plan.shapes d.field q1.i = false := hq_q1
  obtain ⟨v1, v2⟩ := hi_q1
  refine ⟨fun h2 => have p2 := of_decide_eq_true h2; ?_, fun h2 => have p2 := of_decide_eq_false h2; ?_⟩
  refine ⟨(fieldAt_s d.plan.shapes _ _ (by omega) (by omega)), fun h3 => ?_, fun h3 => ?_⟩
  obtain ⟨o, ho⟩ := Option.isSome_iff_exists.1 h3
  have hg : (fieldAt d.plan.shapes (q1.i : Int) d.field.number).getD fld0 = o := by rw [ho]; rfl
  refine ⟨fun h4 => have p4 := (andT dT (andT dT (andT dT (andT dT dT)))).1 h4; ?_, fun h4 => have p4 := (andF dT (andF dT (andF dT (andF dT dF)))).1 h4; ?_⟩
  rw [hg] at p4
  have hkk := known_of (by omega) (show (fieldAt d.plan.shapes (q1.i : Int) d.field.number) = some d.field by rw [ho, fld_eq p4])
  refine ⟨(sB ?_), rfl⟩
  rotate_left
  rw [hg] at p4
  have hkn : knownN d.plan.shapes d.field (q1.i + 1) = false := knownN_next v2 (by rw [ho]; intro e; exact fld_ne p4 (Option.some.inj e))
  exact ⟨(as_i64 (by omega) (by omega)), nxt_of (j := (⟨q1.i + 1⟩ : fieldOkD_s_V0)) (by first | rfl | simp) rfl (by dsimp only [fieldOkD_s_F0]; exact ⟨by omega, hkn⟩) (by dsimp only [fieldOkD_s_F0]; omega)⟩
  have hkn : knownN d.plan.shapes d.field (q1.i + 1) = false := knownN_next v2 (by intro e; rw [e] at h3; simp at h3)
  exact ⟨(as_i64 (by omega) (by omega)), nxt_of (j := (⟨q1.i + 1⟩ : fieldOkD_s_V0)) (by first | rfl | simp) rfl (by dsimp only [fieldOkD_s_F0]; exact ⟨by omega, hkn⟩) (by dsimp only [fieldOkD_s_F0]; omega)⟩
  have hkk := known_no v2 (by omega)
  refine ⟨(sB ?_), rfl⟩
  rotate_left
  all_goals first | (simp [hkk]; done) | ((rw [hkk]; simp_all [fld0]; done)) | ((have hz := fld_zero p1; simp [hz]; done)) | (grind [fld0])
end Go.Proofs.YthmhekbmhpljcaaGreat.Ax
