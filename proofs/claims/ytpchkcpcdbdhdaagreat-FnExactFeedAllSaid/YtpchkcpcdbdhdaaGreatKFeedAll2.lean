/- What the exact laws do with plans and events: copies of their own. What the exact laws write into memory. Models: the machine. Decoders: what is valid. Decoders: what is valid, more. Decoders: what is valid, whole. Decoders: what is valid, at last. -/
import Derived.Test.YtpchkcpcdbdhdaaGreatKFeedAll1
set_option linter.unusedSimpArgs false
set_option linter.unusedVariables false
namespace Go.Proofs.YtpchkcpcdbdhdaaGreat.Ax
open Go.RowKit
theorem toField_ok (a : Fld) : Fun Tryz.prog 67 [.agg (cFld a)] [] (.v (.agg (cFld a))) [] := by
 have hN : bigN = 274877906944 := rfl
 refine fun_ofw Tryz.func67 (by kernel_rfl) (by kernel_rfl) (w := (.leaf () [], (.v (.agg (cFld a)) : S) = .v (.agg (cFld a)) ∧ ([] : List Blk) = [])) (by kernel_rfl) ?_
 exact ⟨rfl, rfl⟩
structure toFieldS_ok_V0 where
 out : List Fld
 i : Nat
def toFieldS_ok_F0 (l : List Fld) : Fam := ⟨toFieldS_ok_V0, fun q1 => [(0, .v (.c (.seq .fld l))), (3, .v (vO 0)), (4, .v (vI (q1.i : Int)))], fun q1 => [.lst .fld q1.out], fun q1 => q1.i ≤ l.length ∧ q1.out.length = l.length ∧ List.take q1.i q1.out = List.take q1.i l, fun q1 => l.length - q1.i⟩
theorem toFieldS_ok (l : List Fld) (hp1 : l.length ≤ 1048576) : Fun Tryz.prog 196 [.c (.seq .fld l)] [] (.v (vO 0)) [.lst .fld l] := by
 have hN : bigN = 274877906944 := rfl
 refine fun_ofw Tryz.func196 (by kernel_rfl) (by kernel_rfl) (w := let z2 := (l.length : Int); let z3 := toFieldS_ok_F0 l; (.seg [.ty .fld, .at 0, .keep [0, 3, 4], .sel [0]] (.loop z3 fun q1 => .br (.intro (fun (x1 : Fld) => l[q1.i]? = some x1) fun x1 => .seg [.el .fld x1, .call [] (.v (.agg (cFld x1))) []] (.intro (fun (x2 : Fld) => q1.out[q1.i]? = some x2) fun x2 => .seg [.el .fld x2, .as 13 (.v (vI ((q1.i : Int) + 1))), .at 0, .keep [0, 3, 4], .sel [0]] (.next))) (.leaf () [0])), (z2 ≤ 9223372036854775807) ∧ (((32 : Nat) : Int) * z2 ≤ 281474976710656) ∧ (z2 ≤ z2) ∧ ((0 : Int) ≤ z2) ∧ z3.Has [(0, .v (.c (.seq .fld l))), (3, .v (vO 0)), (4, .v (vI 0))] [.lst .fld (List.replicate (l.length) (⟨0, 0, false, false, 0⟩ : Fld))] ∧ ∀ q1, z3.inv q1 → (let z1 := (q1.i : Int); ((decide (z1 < z2)) = true → (∃ (x1 : Fld), l[q1.i]? = some x1) ∧ ∀ (x1 : Fld), (l[q1.i]? = some x1) → ((l[q1.i]? = some x1) ∧ ((0 : Int) ≤ z1) ∧ (Fun Tryz.prog 67 [.agg (cFld x1)] [] (.v (.agg (cFld x1))) []) ∧ (∃ (x2 : Fld), q1.out[q1.i]? = some x2) ∧ ∀ (x2 : Fld), (q1.out[q1.i]? = some x2) → ((z1 < (q1.out.length : Int)) ∧ ((0 : Int) ≤ z1) ∧ (q1.out[q1.i]? = some x2) ∧ ((.v (vI (IntKind.i64.wrap (z1 + 1))) : S) = .v (vI (z1 + 1))) ∧ z3.Nxt q1 [(0, .v (.c (.seq .fld l))), (3, .v (vO 0)), (4, .v (vI (z1 + 1)))] [.lst .fld (List.set q1.out q1.i x1)]))) ∧ ((decide (z1 < z2)) = false → (.v (vO 0) : S) = .v (vO 0) ∧ ([.lst .fld q1.out] : List Blk) = [.lst .fld l])))) (by kernel_rfl) ?_
 refine ⟨(by omega), (by omega), (by omega), (by omega), has_of (j := (⟨List.replicate (l.length) (⟨0, 0, false, false, 0⟩ : Fld), 0⟩ : toFieldS_ok_V0)) (by first | rfl | simp) rfl (by dsimp only [toFieldS_ok_F0]; exact ⟨by omega, by simp, by simp⟩), fun (q1 : toFieldS_ok_V0) hq_q1 => ?_⟩
 have hi_q1 : q1.i ≤ l.length ∧ q1.out.length = l.length ∧ List.take q1.i q1.out = List.take q1.i l := hq_q1
 obtain ⟨v1, v2, v3⟩ := hi_q1
 refine dsp (fun h1 p1 => ?_) fun h1 p1 => ?_
 refine ⟨(ax_get (l := l) (i := q1.i) (by omega)), fun x1 hx1 => ?_⟩
 refine ⟨hx1, (by omega), (toField_ok x1), (ax_get (l := q1.out) (i := q1.i) (by omega)), fun x2 hx2 => ?_⟩
 exact ⟨(by omega), (by omega), hx2, (as_i64 (by omega) (by omega)), nxt_of (j := (⟨List.set q1.out q1.i x1, q1.i + 1⟩ : toFieldS_ok_V0)) (by first | rfl | simp) rfl (by dsimp only [toFieldS_ok_F0]; exact ⟨by omega, by simp [v2], fill_set v3 v2 hx1⟩) (by dsimp only [toFieldS_ok_F0]; omega)⟩
 refine ⟨rfl, (consE (congrArg (Blk.lst .fld) ?_) rfl)⟩
 rotate_left
 all_goals exact fill_done v3 v2 (by omega)
theorem toShape_ok (a : Shp) (hp1 : List.length (a).fields ≤ 1048576) : Fun Tryz.prog 164 [.agg (cShp a)] [] (.v (.agg [.int .i64 a.id, .own 0])) [.lst .fld a.fields] := by
 have hN : bigN = 274877906944 := rfl
 refine fun_ofw Tryz.func164 (by kernel_rfl) (by kernel_rfl) (w := let z1 : List Blk := [.lst .fld a.fields]; (.seg [.call [] (.v (vO 0)) z1] (.leaf () [3]), (Fun Tryz.prog 196 [.c (.seq .fld a.fields)] [] (.v (vO 0)) z1) ∧ (.v (.agg [.int .i64 a.id, .own 0]) : S) = .v (.agg [.int .i64 a.id, .own 0]) ∧ (z1 : List Blk) = z1)) (by kernel_rfl) ?_
 exact ⟨(toFieldS_ok _ (by omega)), rfl, rfl⟩
structure toShapeS_ok_V0 where
 out : List Shp
 i : Nat
def toShapeS_ok_F0 (l : List Shp) : Fam := ⟨toShapeS_ok_V0, fun q1 => [(0, .v (.c (.seq .shp l))), (3, .v (vO 0)), (4, .v (vI (q1.i : Int)))], fun q1 => [.tree q1.out], fun q1 => q1.i ≤ l.length ∧ q1.out.length = l.length ∧ List.take q1.i q1.out = List.take q1.i l, fun q1 => l.length - q1.i⟩
theorem toShapeS_ok (l : List Shp) (hp1 : l.length ≤ 1048576) (hp2 : ∀ e ∈ l, e.fields.length ≤ 1048576) : Fun Tryz.prog 113 [.c (.seq .shp l)] [] (.v (vO 0)) [.tree l] := by
 have hN : bigN = 274877906944 := rfl
 refine fun_ofw Tryz.func113 (by kernel_rfl) (by kernel_rfl) (w := let z2 := (l.length : Int); let z3 := toShapeS_ok_F0 l; (.seg [.tyT, .at 0, .keep [0, 3, 4], .sel [0]] (.loop z3 fun q1 => .br (.intro (fun (x1 : Shp) => l[q1.i]? = some x1) fun x1 => .seg [.el .shp x1, .call [] (.v (.agg [.int .i64 x1.id, .own 0])) [.lst .fld x1.fields]] (.intro (fun (x2 : Shp) => q1.out[q1.i]? = some x2) fun x2 => .seg [.el .shp x2, .as 13 (.v (vI ((q1.i : Int) + 1))), .at 0, .keep [0, 3, 4], .sel [0]] (.next))) (.leaf () [0])), (z2 ≤ 9223372036854775807) ∧ (((32 : Nat) : Int) * z2 ≤ 281474976710656) ∧ (z2 ≤ z2) ∧ ((0 : Int) ≤ z2) ∧ z3.Has [(0, .v (.c (.seq .shp l))), (3, .v (vO 0)), (4, .v (vI 0))] [.tree (List.replicate (l.length) (⟨0, ([] : List Fld)⟩ : Shp))] ∧ ∀ q1, z3.inv q1 → (let z1 := (q1.i : Int); ((decide (z1 < z2)) = true → (∃ (x1 : Shp), l[q1.i]? = some x1) ∧ ∀ (x1 : Shp), (l[q1.i]? = some x1) → ((l[q1.i]? = some x1) ∧ ((0 : Int) ≤ z1) ∧ (Fun Tryz.prog 164 [.agg (cShp x1)] [] (.v (.agg [.int .i64 x1.id, .own 0])) [.lst .fld x1.fields]) ∧ (∃ (x2 : Shp), q1.out[q1.i]? = some x2) ∧ ∀ (x2 : Shp), (q1.out[q1.i]? = some x2) → ((z1 < (q1.out.length : Int)) ∧ ((0 : Int) ≤ z1) ∧ (q1.out[q1.i]? = some x2) ∧ ((.v (vI (IntKind.i64.wrap (z1 + 1))) : S) = .v (vI (z1 + 1))) ∧ z3.Nxt q1 [(0, .v (.c (.seq .shp l))), (3, .v (vO 0)), (4, .v (vI (z1 + 1)))] [.tree (List.set q1.out q1.i (⟨x1.id, x1.fields⟩ : Shp))]))) ∧ ((decide (z1 < z2)) = false → (.v (vO 0) : S) = .v (vO 0) ∧ ([.tree q1.out] : List Blk) = [.tree l])))) (by kernel_rfl) ?_
 refine ⟨(by omega), (by omega), (by omega), (by omega), has_of (j := (⟨List.replicate (l.length) (⟨0, ([] : List Fld)⟩ : Shp), 0⟩ : toShapeS_ok_V0)) (by first | rfl | simp) rfl (by dsimp only [toShapeS_ok_F0]; exact ⟨by omega, by simp, by simp⟩), fun (q1 : toShapeS_ok_V0) hq_q1 => ?_⟩
 have hi_q1 : q1.i ≤ l.length ∧ q1.out.length = l.length ∧ List.take q1.i q1.out = List.take q1.i l := hq_q1
 obtain ⟨v1, v2, v3⟩ := hi_q1
 refine dsp (fun h1 p1 => ?_) fun h1 p1 => ?_
 refine ⟨(ax_get (l := l) (i := q1.i) (by omega)), fun x1 hx1 => ?_⟩
 have hfx := hp2 x1 (List.mem_of_getElem? hx1)
 refine ⟨hx1, (by omega), (toShape_ok x1 (by omega)), (ax_get (l := q1.out) (i := q1.i) (by omega)), fun x2 hx2 => ?_⟩
 exact ⟨(by omega), (by omega), hx2, (as_i64 (by omega) (by omega)), nxt_of (j := (⟨List.set q1.out q1.i (⟨x1.id, x1.fields⟩ : Shp), q1.i + 1⟩ : toShapeS_ok_V0)) (by first | rfl | simp) rfl (by dsimp only [toShapeS_ok_F0]; exact ⟨by omega, by simp [v2], fill_set v3 v2 hx1⟩) (by dsimp only [toShapeS_ok_F0]; omega)⟩
 refine ⟨rfl, (consE (congrArg Blk.tree ?_) rfl)⟩
 rotate_left
 all_goals exact fill_done v3 v2 (by omega)
theorem toSchema_ok (l : List Shp) (hp1 : l.length ≤ 1048576) (hp2 : ∀ e ∈ l, e.fields.length ≤ 1048576) : Fun Tryz.prog 54 [.agg [.seq .shp l]] [] (.v (.agg [.own 0])) [.tree l] := by
 have hN : bigN = 274877906944 := rfl
 refine fun_ofw Tryz.func54 (by kernel_rfl) (by kernel_rfl) (w := (.seg [.call [] (.v (vO 0)) [.tree l]] (.leaf () [3]), (Fun Tryz.prog 113 [.c (.seq .shp l)] [] (.v (vO 0)) [.tree l]) ∧ (.v (.agg [.own 0]) : S) = .v (.agg [.own 0]) ∧ ([.tree l] : List Blk) = [.tree l])) (by kernel_rfl) ?_
 exact ⟨(toShapeS_ok _ (by omega) (hp2)), rfl, rfl⟩
theorem toPlan_ok (a : Pln) (hp1 : List.length (a).shapes ≤ 1048576) (hp2 : ∀ e ∈ (a).shapes, e.fields.length ≤ 1048576) : Fun Tryz.prog 12 [.agg (cPln a)] [] (.v (.agg (oPln0 0 a))) [.tree a.shapes] := by
 have hN : bigN = 274877906944 := rfl
 refine fun_ofw Tryz.func12 (by kernel_rfl) (by kernel_rfl) (w := (.seg [.call [] (.v (.agg [.own 0])) [.tree a.shapes]] (.leaf () [3]), (Fun Tryz.prog 54 [.agg [.seq .shp a.shapes]] [] (.v (.agg [.own 0])) [.tree a.shapes]) ∧ (.v (.agg (oPln0 0 a)) : S) = .v (.agg (oPln0 0 a)) ∧ ([.tree a.shapes] : List Blk) = [.tree a.shapes])) (by kernel_rfl) ?_
 exact ⟨(toSchema_ok a.shapes (by omega) (hp2)), rfl, rfl⟩
theorem toEvent_ok (a : Ev) : Fun Tryz.prog 69 [.agg (cEv a)] [] (.v (.agg (cEv a))) [] := by
 have hN : bigN = 274877906944 := rfl
 refine fun_ofw Tryz.func69 (by kernel_rfl) (by kernel_rfl) (w := (.leaf () [], (.v (.agg (cEv a)) : S) = .v (.agg (cEv a)) ∧ ([] : List Blk) = [])) (by kernel_rfl) ?_
 exact ⟨rfl, rfl⟩
structure toEventS_ok_V0 where
 out : List Ev
 i : Nat
theorem eqField_ok (a : Fld) : Fun Tryz.prog 74 [.agg (cFld a), .agg (cFld a)] [] (.v (vB true)) [] := by
 have hN : bigN = 274877906944 := rfl
 refine fun_ofw Tryz.func74 (by kernel_rfl) (by kernel_rfl) (w := (.seg [.br false, .br false, .br false, .br false, .br false] (.leaf () []), ((!decide (a.number = a.number)) = false) ∧ ((!decide (a.kind = a.kind)) = false) ∧ ((!decide (a.rep = a.rep)) = false) ∧ ((!decide (a.packed = a.packed)) = false) ∧ ((!decide (a.msg = a.msg)) = false) ∧ (.v (vB true) : S) = .v (vB true) ∧ ([] : List Blk) = [])) (by kernel_rfl) ?_
 exact ⟨(by simp), (by simp), (by simp), (by simp), (by simp), rfl, rfl⟩
structure eqFieldS_ok_V0 where
 i : Nat
def eqFieldS_ok_F0 (l : List Fld) : Fam := ⟨eqFieldS_ok_V0, fun q1 => [(0, .v (.c (.seq .fld l))), (1, .v (.c (.seq .fld l))), (5, .v (vI (q1.i : Int)))], fun _ => [], fun q1 => q1.i ≤ l.length, fun q1 => l.length - q1.i⟩
theorem eqFieldS_ok (l : List Fld) (hp1 : l.length ≤ bigN) : Fun Tryz.prog 203 [.c (.seq .fld l), .c (.seq .fld l)] [] (.v (vB true)) [] := by
 have hN : bigN = 274877906944 := rfl
 refine fun_ofw Tryz.func203 (by kernel_rfl) (by kernel_rfl) (w := let z3 := (l.length : Int); let z4 := eqFieldS_ok_F0 l; (.seg [.br false, .at 0, .keep [0, 1, 5], .sel []] (.loop z4 fun q1 => .br (.intro (fun (x1 : Fld) => l[q1.i]? = some x1) fun x1 => .seg [.ord (os 10 [8]) [], .el .fld x1, .el .fld x1, .call [] (.v (vB true)) [], .br false, .as 16 (.v (vI ((q1.i : Int) + 1))), .at 0, .keep [0, 1, 5], .sel []] (.next)) (.leaf () [])), ((!decide (z3 = z3)) = false) ∧ z4.Has [(0, .v (.c (.seq .fld l))), (1, .v (.c (.seq .fld l))), (5, .v (vI 0))] [] ∧ ∀ q1, z4.inv q1 → (let z2 := (q1.i : Int); ((decide (z2 < z3)) = true → (∃ (x1 : Fld), l[q1.i]? = some x1) ∧ ∀ (x1 : Fld), (l[q1.i]? = some x1) → (let z1 := l[q1.i]? = some x1; z1 ∧ ((0 : Int) ≤ z2) ∧ z1 ∧ ((0 : Int) ≤ z2) ∧ z1 ∧ ((0 : Int) ≤ z2) ∧ z1 ∧ ((0 : Int) ≤ z2) ∧ (Fun Tryz.prog 74 [.agg (cFld x1), .agg (cFld x1)] [] (.v (vB true)) []) ∧ ((!true) = false) ∧ ((.v (vI (IntKind.i64.wrap (z2 + 1))) : S) = .v (vI (z2 + 1))) ∧ z4.Nxt q1 [(0, .v (.c (.seq .fld l))), (1, .v (.c (.seq .fld l))), (5, .v (vI (z2 + 1)))] [])) ∧ ((decide (z2 < z3)) = false → (.v (vB true) : S) = .v (vB true) ∧ ([] : List Blk) = [])))) (by kernel_rfl) ?_
 refine ⟨(by simp), has_of (j := (⟨0⟩ : eqFieldS_ok_V0)) (by first | rfl | simp) rfl (by dsimp only [eqFieldS_ok_F0]; omega), fun (q1 : eqFieldS_ok_V0) hq_q1 => ?_⟩
 have hi_q1 : q1.i ≤ l.length := hq_q1
 refine dsp (fun h1 p1 => ?_) fun h1 p1 => ?_
 refine ⟨(ax_get (l := l) (i := q1.i) (by omega)), fun x1 hx1 => ?_⟩
 exact ⟨hx1, (by omega), hx1, (by omega), hx1, (by omega), hx1, (by omega), (eqField_ok x1), (by decide), (as_i64 (by omega) (by omega)), nxt_of (j := (⟨q1.i + 1⟩ : eqFieldS_ok_V0)) (by first | rfl | simp) rfl (by dsimp only [eqFieldS_ok_F0]; omega) (by dsimp only [eqFieldS_ok_F0]; omega)⟩
 exact ⟨rfl, rfl⟩
theorem eqShape_ok (a : Shp) (hp1 : List.length (a).fields ≤ bigN) : Fun Tryz.prog 168 [.agg (cShp a), .agg (cShp a)] [] (.v (vB true)) [] := by
 have hN : bigN = 274877906944 := rfl
 refine fun_ofw Tryz.func168 (by kernel_rfl) (by kernel_rfl) (w := (.seg [.br false, .call [] (.v (vB true)) [], .br false] (.leaf () []), ((!decide (a.id = a.id)) = false) ∧ (Fun Tryz.prog 203 [.c (.seq .fld a.fields), .c (.seq .fld a.fields)] [] (.v (vB true)) []) ∧ ((!true) = false) ∧ (.v (vB true) : S) = .v (vB true) ∧ ([] : List Blk) = [])) (by kernel_rfl) ?_
 exact ⟨(by simp), (eqFieldS_ok _ (by omega)), (by decide), rfl, rfl⟩
structure eqShapeS_ok_V0 where
 i : Nat
def eqShapeS_ok_F0 (l : List Shp) : Fam := ⟨eqShapeS_ok_V0, fun q1 => [(0, .v (.c (.seq .shp l))), (1, .v (.c (.seq .shp l))), (5, .v (vI (q1.i : Int)))], fun _ => [], fun q1 => q1.i ≤ l.length, fun q1 => l.length - q1.i⟩
theorem eqShapeS_ok (l : List Shp) (hp1 : l.length ≤ bigN) (hp2 : ∀ e ∈ l, e.fields.length ≤ bigN) : Fun Tryz.prog 117 [.c (.seq .shp l), .c (.seq .shp l)] [] (.v (vB true)) [] := by
 have hN : bigN = 274877906944 := rfl
 refine fun_ofw Tryz.func117 (by kernel_rfl) (by kernel_rfl) (w := let z3 := (l.length : Int); let z4 := eqShapeS_ok_F0 l; (.seg [.br false, .at 0, .keep [0, 1, 5], .sel []] (.loop z4 fun q1 => .br (.intro (fun (x1 : Shp) => l[q1.i]? = some x1) fun x1 => .seg [.ord (os 10 [8]) [], .el .shp x1, .el .shp x1, .call [] (.v (vB true)) [], .br false, .as 16 (.v (vI ((q1.i : Int) + 1))), .at 0, .keep [0, 1, 5], .sel []] (.next)) (.leaf () [])), ((!decide (z3 = z3)) = false) ∧ z4.Has [(0, .v (.c (.seq .shp l))), (1, .v (.c (.seq .shp l))), (5, .v (vI 0))] [] ∧ ∀ q1, z4.inv q1 → (let z2 := (q1.i : Int); ((decide (z2 < z3)) = true → (∃ (x1 : Shp), l[q1.i]? = some x1) ∧ ∀ (x1 : Shp), (l[q1.i]? = some x1) → (let z1 := l[q1.i]? = some x1; z1 ∧ ((0 : Int) ≤ z2) ∧ z1 ∧ ((0 : Int) ≤ z2) ∧ z1 ∧ ((0 : Int) ≤ z2) ∧ z1 ∧ ((0 : Int) ≤ z2) ∧ (Fun Tryz.prog 168 [.agg (cShp x1), .agg (cShp x1)] [] (.v (vB true)) []) ∧ ((!true) = false) ∧ ((.v (vI (IntKind.i64.wrap (z2 + 1))) : S) = .v (vI (z2 + 1))) ∧ z4.Nxt q1 [(0, .v (.c (.seq .shp l))), (1, .v (.c (.seq .shp l))), (5, .v (vI (z2 + 1)))] [])) ∧ ((decide (z2 < z3)) = false → (.v (vB true) : S) = .v (vB true) ∧ ([] : List Blk) = [])))) (by kernel_rfl) ?_
 refine ⟨(by simp), has_of (j := (⟨0⟩ : eqShapeS_ok_V0)) (by first | rfl | simp) rfl (by dsimp only [eqShapeS_ok_F0]; omega), fun (q1 : eqShapeS_ok_V0) hq_q1 => ?_⟩
 have hi_q1 : q1.i ≤ l.length := hq_q1
 refine dsp (fun h1 p1 => ?_) fun h1 p1 => ?_
 refine ⟨(ax_get (l := l) (i := q1.i) (by omega)), fun x1 hx1 => ?_⟩
 have hfx := hp2 x1 (List.mem_of_getElem? hx1)
 exact ⟨hx1, (by omega), hx1, (by omega), hx1, (by omega), hx1, (by omega), (eqShape_ok x1 (by omega)), (by decide), (as_i64 (by omega) (by omega)), nxt_of (j := (⟨q1.i + 1⟩ : eqShapeS_ok_V0)) (by first | rfl | simp) rfl (by dsimp only [eqShapeS_ok_F0]; omega) (by dsimp only [eqShapeS_ok_F0]; omega)⟩
 exact ⟨rfl, rfl⟩
theorem eqSchema_ok (l : List Shp) (hp1 : l.length ≤ bigN) (hp2 : ∀ e ∈ l, e.fields.length ≤ bigN) : Fun Tryz.prog 57 [.agg [.seq .shp l], .agg [.seq .shp l]] [] (.v (vB true)) [] := by
 have hN : bigN = 274877906944 := rfl
 refine fun_ofw Tryz.func57 (by kernel_rfl) (by kernel_rfl) (w := (.seg [.call [] (.v (vB true)) [], .br false] (.leaf () []), (Fun Tryz.prog 117 [.c (.seq .shp l), .c (.seq .shp l)] [] (.v (vB true)) []) ∧ ((!true) = false) ∧ (.v (vB true) : S) = .v (vB true) ∧ ([] : List Blk) = [])) (by kernel_rfl) ?_
 exact ⟨(eqShapeS_ok _ (by omega) (hp2)), (by decide), rfl, rfl⟩
theorem eqPlan_ok (a : Pln) (hp1 : List.length (a).shapes ≤ bigN) (hp2 : ∀ e ∈ (a).shapes, e.fields.length ≤ bigN) : Fun Tryz.prog 14 [.agg (cPln a), .agg (cPln a)] [] (.v (vB true)) [] := by
 have hN : bigN = 274877906944 := rfl
 refine fun_ofw Tryz.func14 (by kernel_rfl) (by kernel_rfl) (w := (.seg [.call [] (.v (vB true)) [], .br false, .br false, .br false, .br false] (.leaf () []), (Fun Tryz.prog 57 [.agg [.seq .shp a.shapes], .agg [.seq .shp a.shapes]] [] (.v (vB true)) []) ∧ ((!true) = false) ∧ ((!decide (a.root = a.root)) = false) ∧ ((!decide (a.deep = a.deep)) = false) ∧ ((!decide (a.most = a.most)) = false) ∧ (.v (vB true) : S) = .v (vB true) ∧ ([] : List Blk) = [])) (by kernel_rfl) ?_
 exact ⟨(eqSchema_ok a.shapes (by omega) (hp2)), (by decide), (by simp), (by simp), (by simp), rfl, rfl⟩
theorem eqEvent_ok (a : Ev) : Fun Tryz.prog 46 [.agg (cEv a), .agg (cEv a)] [] (.v (vB true)) [] := by
 have hN : bigN = 274877906944 := rfl
 refine fun_ofw Tryz.func46 (by kernel_rfl) (by kernel_rfl) (w := (.seg [.br false, .br false, .br false, .br false, .br false, .br false, .br false] (.leaf () []), ((!decide (a.kind = a.kind)) = false) ∧ ((!decide (a.field = a.field)) = false) ∧ ((!decide (a.bits = a.bits)) = false) ∧ ((!decide (a.len = a.len)) = false) ∧ ((!decide (a.text = a.text)) = false) ∧ ((!decide (a.code = a.code)) = false) ∧ ((!decide (a.at_ = a.at_)) = false) ∧ (.v (vB true) : S) = .v (vB true) ∧ ([] : List Blk) = [])) (by kernel_rfl) ?_
 exact ⟨(by simp), (by simp), (by simp), (by simp), (by simp), (by simp), (by simp), rfl, rfl⟩
structure eqEventS_ok_V0 where
 i : Nat
def eqEventS_ok_F0 (l : List Ev) : Fam := ⟨eqEventS_ok_V0, fun q1 => [(0, .v (.c (.seq .ev l))), (1, .v (.c (.seq .ev l))), (5, .v (vI (q1.i : Int)))], fun _ => [], fun q1 => q1.i ≤ l.length, fun q1 => l.length - q1.i⟩
theorem eqEventS_ok (l : List Ev) (hp1 : l.length ≤ bigN) : Fun Tryz.prog 24 [.c (.seq .ev l), .c (.seq .ev l)] [] (.v (vB true)) [] := by
 have hN : bigN = 274877906944 := rfl
 refine fun_ofw Tryz.func24 (by kernel_rfl) (by kernel_rfl) (w := let z3 := (l.length : Int); let z4 := eqEventS_ok_F0 l; (.seg [.br false, .at 0, .keep [0, 1, 5], .sel []] (.loop z4 fun q1 => .br (.intro (fun (x1 : Ev) => l[q1.i]? = some x1) fun x1 => .seg [.ord (os 10 [8]) [], .el .ev x1, .el .ev x1, .call [] (.v (vB true)) [], .br false, .as 16 (.v (vI ((q1.i : Int) + 1))), .at 0, .keep [0, 1, 5], .sel []] (.next)) (.leaf () [])), ((!decide (z3 = z3)) = false) ∧ z4.Has [(0, .v (.c (.seq .ev l))), (1, .v (.c (.seq .ev l))), (5, .v (vI 0))] [] ∧ ∀ q1, z4.inv q1 → (let z2 := (q1.i : Int); ((decide (z2 < z3)) = true → (∃ (x1 : Ev), l[q1.i]? = some x1) ∧ ∀ (x1 : Ev), (l[q1.i]? = some x1) → (let z1 := l[q1.i]? = some x1; z1 ∧ ((0 : Int) ≤ z2) ∧ z1 ∧ ((0 : Int) ≤ z2) ∧ z1 ∧ ((0 : Int) ≤ z2) ∧ z1 ∧ ((0 : Int) ≤ z2) ∧ (Fun Tryz.prog 46 [.agg (cEv x1), .agg (cEv x1)] [] (.v (vB true)) []) ∧ ((!true) = false) ∧ ((.v (vI (IntKind.i64.wrap (z2 + 1))) : S) = .v (vI (z2 + 1))) ∧ z4.Nxt q1 [(0, .v (.c (.seq .ev l))), (1, .v (.c (.seq .ev l))), (5, .v (vI (z2 + 1)))] [])) ∧ ((decide (z2 < z3)) = false → (.v (vB true) : S) = .v (vB true) ∧ ([] : List Blk) = [])))) (by kernel_rfl) ?_
 refine ⟨(by simp), has_of (j := (⟨0⟩ : eqEventS_ok_V0)) (by first | rfl | simp) rfl (by dsimp only [eqEventS_ok_F0]; omega), fun (q1 : eqEventS_ok_V0) hq_q1 => ?_⟩
 have hi_q1 : q1.i ≤ l.length := hq_q1
 refine dsp (fun h1 p1 => ?_) fun h1 p1 => ?_
 refine ⟨(ax_get (l := l) (i := q1.i) (by omega)), fun x1 hx1 => ?_⟩
 exact ⟨hx1, (by omega), hx1, (by omega), hx1, (by omega), hx1, (by omega), (eqEvent_ok x1), (by decide), (as_i64 (by omega) (by omega)), nxt_of (j := (⟨q1.i + 1⟩ : eqEventS_ok_V0)) (by first | rfl | simp) rfl (by dsimp only [eqEventS_ok_F0]; omega) (by dsimp only [eqEventS_ok_F0]; omega)⟩
 exact ⟨rfl, rfl⟩
def digs (k : Nat) (o : List UInt8) : List UInt8 := if h : k = 0 then o else digs (k / 10) (List.map toByte [IntKind.u8.wrap (IntKind.i64.wrap (48 + Int.tmod (k : Int) 10))] ++ o)
termination_by k
decreasing_by omega
theorem digs_zero {o : List UInt8} : digs 0 o = o := by rw [digs]; simp
theorem digs_step {k : Nat} {o : List UInt8} (h : 0 < k) : digs k o = digs (k / 10) (List.map toByte [IntKind.u8.wrap (IntKind.i64.wrap (48 + Int.tmod (k : Int) 10))] ++ o) := by
 rw [digs, dif_neg (by omega)]
theorem digs_len {k : Nat} {o : List UInt8} : (digs k o).length ≤ o.length + k := by
 induction k using Nat.strongRecOn generalizing o with
 | _ k ih =>
  by_cases h : k = 0
  ·subst h; rw [digs_zero]; omega
  ·rw [digs_step (by omega)]
   have := ih (k / 10) (by omega) (o := List.map toByte [IntKind.u8.wrap (IntKind.i64.wrap (48 + Int.tmod (k : Int) 10))] ++ o)
   simp at this ⊢
   omega
theorem as_tdiv {k : Nat} (h : k ≤ 4503599627370496) : (.v (.c (.int .i64 (IntKind.i64.wrap (Int.tdiv (k : Int) 10)))) : S) = .v (.c (.int .i64 ((k / 10 : Nat) : Int))) := by
 rw [show Int.tdiv (k : Int) 10 = ((k / 10 : Nat) : Int) from rfl, wrap_id (by omega) (by omega)]
def mtext (k : Int) : List UInt8 := if k ≤ 0 then [109, 48] else [109] ++ digs k.toNat []
theorem markText_l (r : List UInt8) (k : Nat) (o : List UInt8) (hinv : digs k o = r ∧ o.length + k ≤ 4503599627370496) : Sm Tryz.prog 20 0 (.loop (loopAt Tryz.f77 0)) [(0, .v (vI (k : Int))), (3, .v (vT o))] [] (.ext 0) [(3, .v (vT r))] [] := by
 refine Sm.loop (ι := Nat × List UInt8) (fun (q_ : Nat × List UInt8) => match q_ with | (k, o) => [(0, .v (vI (k : Int))), (3, .v (vT o))]) (fun (q_ : Nat × List UInt8) => match q_ with | (k, o) => []) (fun (q_ : Nat × List UInt8) => match q_ with | (k, o) => digs k o = r ∧ o.length + k ≤ 4503599627370496) (fun (q_ : Nat × List UInt8) => match q_ with | (k, o) => k) (by decide) ?_ (k, o) hinv
 clear hinv
 clear o k
 rintro ⟨k, o⟩ hinv
 dsimp only at hinv ⊢
 have hN : bigN = 274877906944 := rfl
 obtain ⟨hv1, hv2⟩ := hinv
 cases h1 : (decide (0 < (k : Int))) with
 | true =>
  have p1 := of_decide_eq_true h1
  exact .inl ⟨(k / 10, (List.map toByte [IntKind.u8.wrap (IntKind.i64.wrap (48 + (Int.tmod (k : Int) 10)))]) ++ o), (by dsimp only; exact ⟨by rw [← hv1, digs_step (k := k) (by omega)], by simp; omega⟩), (by omega), (piece_sound (e := .nrm) (tm' := [(0, .v (vI ((k / 10 : Nat) : Int))), (3, .v (vT ((List.map toByte [IntKind.u8.wrap (IntKind.i64.wrap (48 + (Int.tmod (k : Int) 10)))]) ++ o)))]) (H' := []) (ds := [.br true, .ty .u8, .as 17 (.v (vI ((k / 10 : Nat) : Int))), .at 0, .keep [0, 3], .sel []]) (ob := [(.v (vI (IntKind.i64.wrap (Int.tdiv (k : Int) 10))) : S) = .v (vI ((k / 10 : Nat) : Int)), (10 : Int) ≠ 0, ((List.length (List.map toByte [IntKind.u8.wrap (IntKind.i64.wrap (48 + (Int.tmod (k : Int) 10)))]) + o.length : Nat) : Int) ≤ i64max, (10 : Int) ≠ 0, (decide (0 < (k : Int))) = true]) (by kernel_rfl) ⟨as_tdiv (by omega), by decide, by simp [i64max]; omega, by decide, h1, trivial⟩).to (by rfl) (by rfl)⟩
 | false =>
  have p1 := of_decide_eq_false h1
  exact .inr ((piece_sound (e := (.ext 0)) (tm' := [(3, .v (vT o))]) (H' := []) (ds := [.br false, .at 0, .keep [3], .sel []]) (ob := [(decide (0 < (k : Int))) = false]) (by kernel_rfl) ⟨h1, trivial⟩).to (by first | rfl | (rw [← hv1, show k = 0 by omega, digs_zero])) (by first | rfl | (rw [← hv1, show k = 0 by omega, digs_zero])))
theorem markText_ok (k : Int) (hp1 : k ≤ 2251799813685248) : Fun Tryz.prog 77 [vI k] [] (.v (vT (mtext k))) [] := by
 have hN : bigN = 274877906944 := rfl
 refine ⟨callable_of Tryz.func77 (by kernel_rfl) (by kernel_rfl), ?_⟩
 cases h1 : (decide (k ≤ 0)) with
 | true =>
  have p1 := of_decide_eq_true h1
  exact (walk_sound Tryz.func77 (res := .v (vT [109, 48])) (L' := []) (ds := [.br true]) (σ := []) (ob := [(decide (k ≤ 0)) = true]) (by kernel_rfl) ⟨h1, trivial⟩).to (by simp [mtext, *]) (by rfl)
 | false =>
  have p1 := of_decide_eq_false h1
  exact (walk_sound Tryz.func77 (res := .v (vT ([109] ++ (digs (k.toNat) [])))) (L' := []) (ds := [.br false, .at 0, .keep [0, 3], .sel [], .loop (.ext 0) [(3, .v (vT (digs (k.toNat) [])))] []]) (σ := []) (ob := [((List.length [109] + List.length (digs (k.toNat) []) : Nat) : Int) ≤ i64max, Sm Tryz.prog 20 0 (.loop (loopAt Tryz.f77 0)) [(0, .v (vI k)), (3, .v (vT []))] [] (.ext 0) [(3, .v (vT (digs (k.toNat) [])))] [], (decide (k ≤ 0)) = false]) (by kernel_rfl) ⟨by have := @digs_len (k.toNat) []; simp at this ⊢; simp only [i64max]; omega, Sm.fr (markText_l (digs (k.toNat) []) (k.toNat) [] (⟨by rfl, by simp; omega⟩)) (by simp [vI, vO, vB, vT]; omega) (by rfl), h1, trivial⟩).to (by simp [mtext, *]) (by rfl)
def mkEv (k : Int) : Ev := ⟨k, k + 1, k + 2, k + 3, mtext (k + 4), k + 5, k + 6⟩
def mkFld (k : Int) : Fld := ⟨k, k + 1, decide ((k + 2) % 3 = 0), decide ((k + 3) % 3 = 0), k + 4⟩
def shF : List Shp → Nat
 | [] => 0
 | x :: r => x.fields.length + shF r
theorem shF_app : ∀ (l m : List Shp), shF (l ++ m) = shF l + shF m
 | [], m => by simp [shF]
 | x :: r, m => by rw [List.cons_append, shF, shF, shF_app r m]; omega
def markSh : Int → List Shp → List Shp
 | _, [] => []
 | k, x :: r => ⟨k, markL mkFld 5 (k + 1) x.fields.length⟩ :: markSh (k + 1 + 5 * (x.fields.length : Int)) r
theorem markSh_len : ∀ (k : Int) (l : List Shp), (markSh k l).length = l.length
 | _, [] => rfl
 | k, x :: r => by simp [markSh, markSh_len]
theorem markSh_snoc : ∀ (k : Int) (l : List Shp) (x : Shp), markSh k (l ++ [x]) = markSh k l ++ [⟨k + (l.length : Int) + 5 * (shF l : Int), markL mkFld 5 (k + (l.length : Int) + 5 * (shF l : Int) + 1) x.fields.length⟩]
 | k, [], x => by simp [markSh, shF]
 | k, y :: r, x => by
  rw [List.cons_append, markSh, markSh_snoc, markSh, List.cons_append]
  have e : k + 1 + 5 * (y.fields.length : Int) + (r.length : Int) + 5 * (shF r : Int) = k + ((y :: r).length : Int) + 5 * (shF (y :: r) : Int) := by
   simp only [List.length_cons, shF]; omega
  rw [e]
theorem take_el {α : Type} {l : List α} {i : Nat} {x : α} (h : l[i]? = some x) : l.take (i + 1) = l.take i ++ [x] := by
 rw [List.take_add_one, h]; rfl
theorem drop_at {α : Type} {l : List α} {i : Nat} {x : α} (h : l[i]? = some x) : l.drop i = x :: l.drop (i + 1) := by
 obtain ⟨hi, rfl⟩ := List.getElem?_eq_some_iff.1 h
 exact List.drop_eq_getElem_cons hi
theorem markSh_at {a : List Shp} {k : Int} {i : Nat} (h : i ≤ a.length) : (markSh k (a.take i) ++ a.drop i)[i]? = a[i]? := by
 rw [List.getElem?_append_right (by rw [markSh_len, List.length_take]; omega), markSh_len, List.length_take, List.getElem?_drop]
 congr 1; omega
theorem shF_at {a : List Shp} {i : Nat} {x : Shp} (h : a[i]? = some x) : shF (a.take (i + 1)) = shF (a.take i) + x.fields.length ∧ shF (a.take (i + 1)) ≤ shF a := by
 have e : shF (a.take (i + 1)) = shF (a.take i) + x.fields.length := by rw [take_el h, shF_app]; simp [shF]
 refine ⟨e, ?_⟩
 have := congrArg shF (List.take_append_drop (i + 1) a)
 rw [shF_app] at this
 omega
theorem markSh_step {a q : List Shp} {x : Shp} {y : Shp} {k K : Int} {i : Nat} (hx : a[i]? = some x) (hq : q = markSh k (a.take i) ++ a.drop i) (hK : K = k + (i : Int) + 5 * (shF (a.take i) : Int)) :
  (q.set i y).set i ⟨K, markL mkFld 5 (K + 1) x.fields.length⟩ = markSh k (a.take (i + 1)) ++ a.drop (i + 1) := by
 have hi := lt_of_get hx
 have hl : (a.take i).length = i := by rw [List.length_take]; omega
 subst hq
 rw [take_el hx, markSh_snoc, hl, drop_at hx, List.set_set, List.append_assoc, List.set_append_right _ _ (by rw [markSh_len, hl]; exact Nat.le_refl _), markSh_len, hl, Nat.sub_self, ← hK]
 rfl
theorem shF_b : ∀ {l : List Shp} {left : Int}, 0 ≤ left → 0 ≤ szShL left l → (shF l : Int) ≤ left
 | [], left, h, h2 => by simpa [shF] using h
 | e :: r, left, h, h2 => by
  unfold szShL at h2
  split at h2
  ·omega
  ·have := shF_b (l := r) (left := left - (e.fields.length : Int)) (by omega) h2
   simp only [shF]; omega
theorem shF_S {l : List Shp} {left : Int} (h : 0 ≤ left) (h2 : 0 ≤ szShS left l) : (shF l : Int) ≤ left := by
 unfold szShS at h2
 split at h2
 ·omega
 ·have := shF_b (l := l) (left := left - (l.length : Int)) (by omega) h2; omega
theorem markEventS_ok_l (n : Nat) (k : Int) (hp1 : (0 : Int) ≤ k ∧ k ≤ 1125899906842624) (hp2 : n ≤ bigN) (i : Nat) (m : List Ev) (hinv : i ≤ n ∧ m.length = n ∧ List.take i m = List.take i (markL mkEv 7 k n)) : Sm Tryz.prog 64 1 (.loop (loopAt Tryz.f28 0)) [(0, .v (vO 0)), (1, .v (vI (k + 7 * (i : Int)))), (5, .v (vI (i : Int)))] [.lst .ev m] (.ext 0) [(1, .v (vI (k + 7 * (n : Int))))] [.lst .ev (markL mkEv 7 k n)] := by
 refine Sm.loop (ι := Nat × List Ev) (fun (q_ : Nat × List Ev) => match q_ with | (i, m) => [(0, .v (vO 0)), (1, .v (vI (k + 7 * (i : Int)))), (5, .v (vI (i : Int)))]) (fun (q_ : Nat × List Ev) => match q_ with | (i, m) => [.lst .ev m]) (fun (q_ : Nat × List Ev) => match q_ with | (i, m) => i ≤ n ∧ m.length = n ∧ List.take i m = List.take i (markL mkEv 7 k n)) (fun (q_ : Nat × List Ev) => match q_ with | (i, m) => n - i) (by decide) ?_ (i, m) hinv
 clear hinv
 clear m i
 rintro ⟨i, m⟩ hinv
 dsimp only at hinv ⊢
 have hN : bigN = 274877906944 := rfl
 obtain ⟨hv1, hv2, hv3⟩ := hinv
 cases h1 : (decide ((i : Int) < (m.length : Int))) with
 | true =>
  have p1 := of_decide_eq_true h1
  obtain ⟨x1, hx1⟩ := ax_get (l := m) (i := i) (by omega)
  exact .inl ⟨(i + 1, List.set m i (⟨k + 7 * (i : Int), k + 7 * (i : Int) + 1, k + 7 * (i : Int) + 2, k + 7 * (i : Int) + 3, mtext (k + 7 * (i : Int) + 4), k + 7 * (i : Int) + 5, k + 7 * (i : Int) + 6⟩ : Ev)), (by dsimp only; exact ⟨by omega, by simp [hv2], fill_set hv3 (by rw [hv2, markL_len]) (markL_get (by omega))⟩), (by omega), (piece_sound (e := .nrm) (tm' := [(0, .v (vO 0)), (1, .v (vI (k + 7 * (i : Int) + 7))), (5, .v (vI ((i : Int) + 1)))]) (H' := [.lst .ev (List.set m i (⟨k + 7 * (i : Int), k + 7 * (i : Int) + 1, k + 7 * (i : Int) + 2, k + 7 * (i : Int) + 3, mtext (k + 7 * (i : Int) + 4), k + 7 * (i : Int) + 5, k + 7 * (i : Int) + 6⟩ : Ev))]) (ds := [.br true, .el .ev x1, .as 18 (.v (vI (k + 7 * (i : Int) + 1))), .el .ev (⟨k + 7 * (i : Int), x1.field, x1.bits, x1.len, x1.text, x1.code, x1.at_⟩ : Ev), .asB 0 (.lst .ev (List.set m i (⟨k + 7 * (i : Int), k + 7 * (i : Int) + 1, x1.bits, x1.len, x1.text, x1.code, x1.at_⟩ : Ev))), .as 25 (.v (vI (k + 7 * (i : Int) + 2))), .as 29 (.v (.c (.int .u64 (k + 7 * (i : Int) + 2)))), .el .ev (⟨k + 7 * (i : Int), k + 7 * (i : Int) + 1, x1.bits, x1.len, x1.text, x1.code, x1.at_⟩ : Ev), .asB 0 (.lst .ev (List.set m i (⟨k + 7 * (i : Int), k + 7 * (i : Int) + 1, k + 7 * (i : Int) + 2, x1.len, x1.text, x1.code, x1.at_⟩ : Ev))), .as 33 (.v (vI (k + 7 * (i : Int) + 3))), .el .ev (⟨k + 7 * (i : Int), k + 7 * (i : Int) + 1, k + 7 * (i : Int) + 2, x1.len, x1.text, x1.code, x1.at_⟩ : Ev), .asB 0 (.lst .ev (List.set m i (⟨k + 7 * (i : Int), k + 7 * (i : Int) + 1, k + 7 * (i : Int) + 2, k + 7 * (i : Int) + 3, x1.text, x1.code, x1.at_⟩ : Ev))), .as 40 (.v (vI (k + 7 * (i : Int) + 4))), .call [] (.v (vT (mtext (k + 7 * (i : Int) + 4)))) [], .el .ev (⟨k + 7 * (i : Int), k + 7 * (i : Int) + 1, k + 7 * (i : Int) + 2, k + 7 * (i : Int) + 3, x1.text, x1.code, x1.at_⟩ : Ev), .asB 0 (.lst .ev (List.set m i (⟨k + 7 * (i : Int), k + 7 * (i : Int) + 1, k + 7 * (i : Int) + 2, k + 7 * (i : Int) + 3, mtext (k + 7 * (i : Int) + 4), x1.code, x1.at_⟩ : Ev))), .as 48 (.v (vI (k + 7 * (i : Int) + 5))), .el .ev (⟨k + 7 * (i : Int), k + 7 * (i : Int) + 1, k + 7 * (i : Int) + 2, k + 7 * (i : Int) + 3, mtext (k + 7 * (i : Int) + 4), x1.code, x1.at_⟩ : Ev), .asB 0 (.lst .ev (List.set m i (⟨k + 7 * (i : Int), k + 7 * (i : Int) + 1, k + 7 * (i : Int) + 2, k + 7 * (i : Int) + 3, mtext (k + 7 * (i : Int) + 4), k + 7 * (i : Int) + 5, x1.at_⟩ : Ev))), .as 55 (.v (vI (k + 7 * (i : Int) + 6))), .el .ev (⟨k + 7 * (i : Int), k + 7 * (i : Int) + 1, k + 7 * (i : Int) + 2, k + 7 * (i : Int) + 3, mtext (k + 7 * (i : Int) + 4), k + 7 * (i : Int) + 5, x1.at_⟩ : Ev), .asB 0 (.lst .ev (List.set m i (⟨k + 7 * (i : Int), k + 7 * (i : Int) + 1, k + 7 * (i : Int) + 2, k + 7 * (i : Int) + 3, mtext (k + 7 * (i : Int) + 4), k + 7 * (i : Int) + 5, k + 7 * (i : Int) + 6⟩ : Ev))), .as 62 (.v (vI (k + 7 * (i : Int) + 7))), .as 11 (.v (vI ((i : Int) + 1))), .at 0, .keep [0, 1, 5], .sel [0]]) (ob := [(.v (vI (IntKind.i64.wrap ((i : Int) + 1))) : S) = .v (vI ((i : Int) + 1)), (.v (vI (IntKind.i64.wrap ((k + 7 * (i : Int) + 6) + 1))) : S) = .v (vI (k + 7 * (i : Int) + 7)), some (.lst .ev (List.set (List.set m i (⟨k + 7 * (i : Int), k + 7 * (i : Int) + 1, k + 7 * (i : Int) + 2, k + 7 * (i : Int) + 3, mtext (k + 7 * (i : Int) + 4), k + 7 * (i : Int) + 5, x1.at_⟩ : Ev)) i (⟨k + 7 * (i : Int), k + 7 * (i : Int) + 1, k + 7 * (i : Int) + 2, k + 7 * (i : Int) + 3, mtext (k + 7 * (i : Int) + 4), k + 7 * (i : Int) + 5, k + 7 * (i : Int) + 6⟩ : Ev)) : Blk) = some (.lst .ev (List.set m i (⟨k + 7 * (i : Int), k + 7 * (i : Int) + 1, k + 7 * (i : Int) + 2, k + 7 * (i : Int) + 3, mtext (k + 7 * (i : Int) + 4), k + 7 * (i : Int) + 5, k + 7 * (i : Int) + 6⟩ : Ev))), (List.set m i (⟨k + 7 * (i : Int), k + 7 * (i : Int) + 1, k + 7 * (i : Int) + 2, k + 7 * (i : Int) + 3, mtext (k + 7 * (i : Int) + 4), k + 7 * (i : Int) + 5, x1.at_⟩ : Ev))[i]? = some (⟨k + 7 * (i : Int), k + 7 * (i : Int) + 1, k + 7 * (i : Int) + 2, k + 7 * (i : Int) + 3, mtext (k + 7 * (i : Int) + 4), k + 7 * (i : Int) + 5, x1.at_⟩ : Ev), (0 : Int) ≤ (i : Int), (i : Int) < ((List.length (List.set m i (⟨k + 7 * (i : Int), k + 7 * (i : Int) + 1, k + 7 * (i : Int) + 2, k + 7 * (i : Int) + 3, mtext (k + 7 * (i : Int) + 4), k + 7 * (i : Int) + 5, x1.at_⟩ : Ev)) : Nat) : Int), (.v (vI (IntKind.i64.wrap ((k + 7 * (i : Int) + 5) + 1))) : S) = .v (vI (k + 7 * (i : Int) + 6)), some (.lst .ev (List.set (List.set m i (⟨k + 7 * (i : Int), k + 7 * (i : Int) + 1, k + 7 * (i : Int) + 2, k + 7 * (i : Int) + 3, mtext (k + 7 * (i : Int) + 4), x1.code, x1.at_⟩ : Ev)) i (⟨k + 7 * (i : Int), k + 7 * (i : Int) + 1, k + 7 * (i : Int) + 2, k + 7 * (i : Int) + 3, mtext (k + 7 * (i : Int) + 4), k + 7 * (i : Int) + 5, x1.at_⟩ : Ev)) : Blk) = some (.lst .ev (List.set m i (⟨k + 7 * (i : Int), k + 7 * (i : Int) + 1, k + 7 * (i : Int) + 2, k + 7 * (i : Int) + 3, mtext (k + 7 * (i : Int) + 4), k + 7 * (i : Int) + 5, x1.at_⟩ : Ev))), (List.set m i (⟨k + 7 * (i : Int), k + 7 * (i : Int) + 1, k + 7 * (i : Int) + 2, k + 7 * (i : Int) + 3, mtext (k + 7 * (i : Int) + 4), x1.code, x1.at_⟩ : Ev))[i]? = some (⟨k + 7 * (i : Int), k + 7 * (i : Int) + 1, k + 7 * (i : Int) + 2, k + 7 * (i : Int) + 3, mtext (k + 7 * (i : Int) + 4), x1.code, x1.at_⟩ : Ev), (0 : Int) ≤ (i : Int), (i : Int) < ((List.length (List.set m i (⟨k + 7 * (i : Int), k + 7 * (i : Int) + 1, k + 7 * (i : Int) + 2, k + 7 * (i : Int) + 3, mtext (k + 7 * (i : Int) + 4), x1.code, x1.at_⟩ : Ev)) : Nat) : Int), (.v (vI (IntKind.i64.wrap ((k + 7 * (i : Int) + 4) + 1))) : S) = .v (vI (k + 7 * (i : Int) + 5)), some (.lst .ev (List.set (List.set m i (⟨k + 7 * (i : Int), k + 7 * (i : Int) + 1, k + 7 * (i : Int) + 2, k + 7 * (i : Int) + 3, x1.text, x1.code, x1.at_⟩ : Ev)) i (⟨k + 7 * (i : Int), k + 7 * (i : Int) + 1, k + 7 * (i : Int) + 2, k + 7 * (i : Int) + 3, mtext (k + 7 * (i : Int) + 4), x1.code, x1.at_⟩ : Ev)) : Blk) = some (.lst .ev (List.set m i (⟨k + 7 * (i : Int), k + 7 * (i : Int) + 1, k + 7 * (i : Int) + 2, k + 7 * (i : Int) + 3, mtext (k + 7 * (i : Int) + 4), x1.code, x1.at_⟩ : Ev))), (List.set m i (⟨k + 7 * (i : Int), k + 7 * (i : Int) + 1, k + 7 * (i : Int) + 2, k + 7 * (i : Int) + 3, x1.text, x1.code, x1.at_⟩ : Ev))[i]? = some (⟨k + 7 * (i : Int), k + 7 * (i : Int) + 1, k + 7 * (i : Int) + 2, k + 7 * (i : Int) + 3, x1.text, x1.code, x1.at_⟩ : Ev), (0 : Int) ≤ (i : Int), (i : Int) < ((List.length (List.set m i (⟨k + 7 * (i : Int), k + 7 * (i : Int) + 1, k + 7 * (i : Int) + 2, k + 7 * (i : Int) + 3, x1.text, x1.code, x1.at_⟩ : Ev)) : Nat) : Int), Fun Tryz.prog 77 [vI (k + 7 * (i : Int) + 4)] [] (.v (vT (mtext (k + 7 * (i : Int) + 4)))) [], (.v (vI (IntKind.i64.wrap ((k + 7 * (i : Int) + 3) + 1))) : S) = .v (vI (k + 7 * (i : Int) + 4)), some (.lst .ev (List.set (List.set m i (⟨k + 7 * (i : Int), k + 7 * (i : Int) + 1, k + 7 * (i : Int) + 2, x1.len, x1.text, x1.code, x1.at_⟩ : Ev)) i (⟨k + 7 * (i : Int), k + 7 * (i : Int) + 1, k + 7 * (i : Int) + 2, k + 7 * (i : Int) + 3, x1.text, x1.code, x1.at_⟩ : Ev)) : Blk) = some (.lst .ev (List.set m i (⟨k + 7 * (i : Int), k + 7 * (i : Int) + 1, k + 7 * (i : Int) + 2, k + 7 * (i : Int) + 3, x1.text, x1.code, x1.at_⟩ : Ev))), (List.set m i (⟨k + 7 * (i : Int), k + 7 * (i : Int) + 1, k + 7 * (i : Int) + 2, x1.len, x1.text, x1.code, x1.at_⟩ : Ev))[i]? = some (⟨k + 7 * (i : Int), k + 7 * (i : Int) + 1, k + 7 * (i : Int) + 2, x1.len, x1.text, x1.code, x1.at_⟩ : Ev), (0 : Int) ≤ (i : Int), (i : Int) < ((List.length (List.set m i (⟨k + 7 * (i : Int), k + 7 * (i : Int) + 1, k + 7 * (i : Int) + 2, x1.len, x1.text, x1.code, x1.at_⟩ : Ev)) : Nat) : Int), (.v (vI (IntKind.i64.wrap ((k + 7 * (i : Int) + 2) + 1))) : S) = .v (vI (k + 7 * (i : Int) + 3)), some (.lst .ev (List.set (List.set m i (⟨k + 7 * (i : Int), k + 7 * (i : Int) + 1, x1.bits, x1.len, x1.text, x1.code, x1.at_⟩ : Ev)) i (⟨k + 7 * (i : Int), k + 7 * (i : Int) + 1, k + 7 * (i : Int) + 2, x1.len, x1.text, x1.code, x1.at_⟩ : Ev)) : Blk) = some (.lst .ev (List.set m i (⟨k + 7 * (i : Int), k + 7 * (i : Int) + 1, k + 7 * (i : Int) + 2, x1.len, x1.text, x1.code, x1.at_⟩ : Ev))), (List.set m i (⟨k + 7 * (i : Int), k + 7 * (i : Int) + 1, x1.bits, x1.len, x1.text, x1.code, x1.at_⟩ : Ev))[i]? = some (⟨k + 7 * (i : Int), k + 7 * (i : Int) + 1, x1.bits, x1.len, x1.text, x1.code, x1.at_⟩ : Ev), (0 : Int) ≤ (i : Int), (i : Int) < ((List.length (List.set m i (⟨k + 7 * (i : Int), k + 7 * (i : Int) + 1, x1.bits, x1.len, x1.text, x1.code, x1.at_⟩ : Ev)) : Nat) : Int), (.v (.c (.int .u64 (IntKind.u64.wrap (k + 7 * (i : Int) + 2)))) : S) = .v (.c (.int .u64 (k + 7 * (i : Int) + 2))), (.v (vI (IntKind.i64.wrap ((k + 7 * (i : Int) + 1) + 1))) : S) = .v (vI (k + 7 * (i : Int) + 2)), some (.lst .ev (List.set (List.set m i (⟨k + 7 * (i : Int), x1.field, x1.bits, x1.len, x1.text, x1.code, x1.at_⟩ : Ev)) i (⟨k + 7 * (i : Int), k + 7 * (i : Int) + 1, x1.bits, x1.len, x1.text, x1.code, x1.at_⟩ : Ev)) : Blk) = some (.lst .ev (List.set m i (⟨k + 7 * (i : Int), k + 7 * (i : Int) + 1, x1.bits, x1.len, x1.text, x1.code, x1.at_⟩ : Ev))), (List.set m i (⟨k + 7 * (i : Int), x1.field, x1.bits, x1.len, x1.text, x1.code, x1.at_⟩ : Ev))[i]? = some (⟨k + 7 * (i : Int), x1.field, x1.bits, x1.len, x1.text, x1.code, x1.at_⟩ : Ev), (0 : Int) ≤ (i : Int), (i : Int) < ((List.length (List.set m i (⟨k + 7 * (i : Int), x1.field, x1.bits, x1.len, x1.text, x1.code, x1.at_⟩ : Ev)) : Nat) : Int), (.v (vI (IntKind.i64.wrap ((k + 7 * (i : Int)) + 1))) : S) = .v (vI (k + 7 * (i : Int) + 1)), m[i]? = some x1, (0 : Int) ≤ (i : Int), (i : Int) < (m.length : Int), (decide ((i : Int) < (m.length : Int))) = true]) (by kernel_rfl) ⟨as_i64 (by omega) (by omega), as_i64e (by omega) (by omega) (by omega), asB_set, ax_setget (by omega), by omega, by simp only [List.length_set]; omega, as_i64e (by omega) (by omega) (by omega), asB_set, ax_setget (by omega), by omega, by simp only [List.length_set]; omega, as_i64e (by omega) (by omega) (by omega), asB_set, ax_setget (by omega), by omega, by simp only [List.length_set]; omega, markText_ok (k + 7 * (i : Int) + 4) (by omega), as_i64e (by omega) (by omega) (by omega), asB_set, ax_setget (by omega), by omega, by simp only [List.length_set]; omega, as_i64e (by omega) (by omega) (by omega), asB_set, ax_setget (by omega), by omega, by simp only [List.length_set]; omega, as_u64 (by omega) (by omega), as_i64e (by omega) (by omega) (by omega), asB_set, ax_setget (by omega), by omega, by simp only [List.length_set]; omega, as_i64 (by omega) (by omega), hx1, by omega, by omega, h1, trivial⟩).to (by simp [vI, vO, vB, vT] <;> omega) (by simp [vI, vO, vB, vT] <;> omega)⟩
 | false =>
  have p1 := of_decide_eq_false h1
  exact .inr ((piece_sound (e := (.ext 0)) (tm' := [(1, .v (vI (k + 7 * (i : Int))))]) (H' := [.lst .ev m]) (ds := [.br false, .at 0, .keep [1], .sel [0]]) (ob := [(decide ((i : Int) < (m.length : Int))) = false]) (by kernel_rfl) ⟨h1, trivial⟩).to (by first | rfl | (rw [fill_done hv3 (by rw [hv2, markL_len]) (by rw [markL_len]; omega)]) | (rw [show i = n by omega])) (by first | rfl | (rw [fill_done hv3 (by rw [hv2, markL_len]) (by rw [markL_len]; omega)]) | (rw [show i = n by omega])))
theorem markEventS_ok (m : List Ev) (k : Int) (hp1 : (0 : Int) ≤ k ∧ k ≤ 1125899906842624) (hp2 : m.length ≤ bigN) : Fun Tryz.prog 28 [vO 0, vI k] [.lst .ev m] (.v (vI (k + 7 * (m.length : Int)))) [.lst .ev (markL mkEv 7 k (m.length))] := by
 have hN : bigN = 274877906944 := rfl
 refine ⟨callable_of Tryz.func28 (by kernel_rfl) (by kernel_rfl), ?_⟩
 exact (walk_sound Tryz.func28 (res := .v (vI (k + 7 * (m.length : Int)))) (L' := [.lst .ev (markL mkEv 7 k (m.length))]) (ds := [.at 0, .keep [0, 1, 5], .sel [0], .loop (.ext 0) [(1, .v (vI (k + 7 * (m.length : Int))))] [.lst .ev (markL mkEv 7 k (m.length))]]) (σ := [0]) (ob := [Sm Tryz.prog 64 1 (.loop (loopAt Tryz.f28 0)) [(0, .v (vO 0)), (1, .v (vI k)), (5, .v (vI 0))] [.lst .ev m] (.ext 0) [(1, .v (vI (k + 7 * (m.length : Int))))] [.lst .ev (markL mkEv 7 k (m.length))]]) (by kernel_rfl) ⟨Sm.fr (markEventS_ok_l (m.length) k hp1 hp2 0 m (⟨by simp, by simp, by simp⟩)) (by simp) (by rfl), trivial⟩).to (by simp) (by simp)
theorem heldEventS_ok_l (n : Nat) (k : Int) (hp1 : (0 : Int) ≤ k ∧ k ≤ 1125899906842624) (hp2 : n ≤ bigN) (i : Nat) (hinv : i ≤ n) : Sm Tryz.prog 78 0 (.loop (loopAt Tryz.f30 0)) [(0, .v (.c (.seq .ev (markL mkEv 7 k n)))), (1, .v (vI (k + 7 * (i : Int)))), (5, .v (vI (i : Int)))] [] (.ext 0) [(1, .v (vI (k + 7 * (n : Int))))] [] := by
 refine Sm.loop (ι := Nat) (fun (i : Nat) => [(0, .v (.c (.seq .ev (markL mkEv 7 k n)))), (1, .v (vI (k + 7 * (i : Int)))), (5, .v (vI (i : Int)))]) (fun (i : Nat) => []) (fun (i : Nat) => i ≤ n) (fun (i : Nat) => n - i) (by decide) ?_ i hinv
 clear hinv
 clear i
 rintro i hinv
 have hN : bigN = 274877906944 := rfl
 have hML : List.length (markL mkEv 7 k n) = n := markL_len
 cases h1 : (decide ((i : Int) < ((List.length (markL mkEv 7 k n) : Nat) : Int))) with
 | true =>
  have p1 := of_decide_eq_true h1
  exact .inl ⟨(i + 1), (by omega), (by omega), (piece_sound (e := .nrm) (tm' := [(0, .v (.c (.seq .ev (markL mkEv 7 k n)))), (1, .v (vI (k + 7 * (i : Int) + 7))), (5, .v (vI ((i : Int) + 1)))]) (H' := []) (ds := [.br true, .el .ev (⟨k + 7 * (i : Int), k + 7 * (i : Int) + 1, k + 7 * (i : Int) + 2, k + 7 * (i : Int) + 3, mtext (k + 7 * (i : Int) + 4), k + 7 * (i : Int) + 5, k + 7 * (i : Int) + 6⟩ : Ev), .br false, .as 20 (.v (vI (k + 7 * (i : Int) + 1))), .el .ev (⟨k + 7 * (i : Int), k + 7 * (i : Int) + 1, k + 7 * (i : Int) + 2, k + 7 * (i : Int) + 3, mtext (k + 7 * (i : Int) + 4), k + 7 * (i : Int) + 5, k + 7 * (i : Int) + 6⟩ : Ev), .br false, .as 29 (.v (vI (k + 7 * (i : Int) + 2))), .el .ev (⟨k + 7 * (i : Int), k + 7 * (i : Int) + 1, k + 7 * (i : Int) + 2, k + 7 * (i : Int) + 3, mtext (k + 7 * (i : Int) + 4), k + 7 * (i : Int) + 5, k + 7 * (i : Int) + 6⟩ : Ev), .as 36 (.v (.c (.int .u64 (k + 7 * (i : Int) + 2)))), .br false, .as 39 (.v (vI (k + 7 * (i : Int) + 3))), .el .ev (⟨k + 7 * (i : Int), k + 7 * (i : Int) + 1, k + 7 * (i : Int) + 2, k + 7 * (i : Int) + 3, mtext (k + 7 * (i : Int) + 4), k + 7 * (i : Int) + 5, k + 7 * (i : Int) + 6⟩ : Ev), .br false, .as 48 (.v (vI (k + 7 * (i : Int) + 4))), .ord [(0, true), (1, true), (2, true), (3, true), (4, true), (5, true), (6, false), (7, true)] [], .el .ev (⟨k + 7 * (i : Int), k + 7 * (i : Int) + 1, k + 7 * (i : Int) + 2, k + 7 * (i : Int) + 3, mtext (k + 7 * (i : Int) + 4), k + 7 * (i : Int) + 5, k + 7 * (i : Int) + 6⟩ : Ev), .call [] (.v (vT (mtext (k + 7 * (i : Int) + 4)))) [], .br false, .as 58 (.v (vI (k + 7 * (i : Int) + 5))), .el .ev (⟨k + 7 * (i : Int), k + 7 * (i : Int) + 1, k + 7 * (i : Int) + 2, k + 7 * (i : Int) + 3, mtext (k + 7 * (i : Int) + 4), k + 7 * (i : Int) + 5, k + 7 * (i : Int) + 6⟩ : Ev), .br false, .as 67 (.v (vI (k + 7 * (i : Int) + 6))), .el .ev (⟨k + 7 * (i : Int), k + 7 * (i : Int) + 1, k + 7 * (i : Int) + 2, k + 7 * (i : Int) + 3, mtext (k + 7 * (i : Int) + 4), k + 7 * (i : Int) + 5, k + 7 * (i : Int) + 6⟩ : Ev), .br false, .as 76 (.v (vI (k + 7 * (i : Int) + 7))), .as 11 (.v (vI ((i : Int) + 1))), .at 0, .keep [0, 1, 5], .sel []]) (ob := [(.v (vI (IntKind.i64.wrap ((i : Int) + 1))) : S) = .v (vI ((i : Int) + 1)), (.v (vI (IntKind.i64.wrap ((k + 7 * (i : Int) + 6) + 1))) : S) = .v (vI (k + 7 * (i : Int) + 7)), (!decide (k + 7 * (i : Int) + 6 = k + 7 * (i : Int) + 6)) = false, (0 : Int) ≤ (i : Int), (markL mkEv 7 k n)[i]? = some (⟨k + 7 * (i : Int), k + 7 * (i : Int) + 1, k + 7 * (i : Int) + 2, k + 7 * (i : Int) + 3, mtext (k + 7 * (i : Int) + 4), k + 7 * (i : Int) + 5, k + 7 * (i : Int) + 6⟩ : Ev), (.v (vI (IntKind.i64.wrap ((k + 7 * (i : Int) + 5) + 1))) : S) = .v (vI (k + 7 * (i : Int) + 6)), (!decide (k + 7 * (i : Int) + 5 = k + 7 * (i : Int) + 5)) = false, (0 : Int) ≤ (i : Int), (markL mkEv 7 k n)[i]? = some (⟨k + 7 * (i : Int), k + 7 * (i : Int) + 1, k + 7 * (i : Int) + 2, k + 7 * (i : Int) + 3, mtext (k + 7 * (i : Int) + 4), k + 7 * (i : Int) + 5, k + 7 * (i : Int) + 6⟩ : Ev), (.v (vI (IntKind.i64.wrap ((k + 7 * (i : Int) + 4) + 1))) : S) = .v (vI (k + 7 * (i : Int) + 5)), (!decide (mtext (k + 7 * (i : Int) + 4) = mtext (k + 7 * (i : Int) + 4))) = false, Fun Tryz.prog 77 [vI (k + 7 * (i : Int) + 4)] [] (.v (vT (mtext (k + 7 * (i : Int) + 4)))) [], (0 : Int) ≤ (i : Int), (markL mkEv 7 k n)[i]? = some (⟨k + 7 * (i : Int), k + 7 * (i : Int) + 1, k + 7 * (i : Int) + 2, k + 7 * (i : Int) + 3, mtext (k + 7 * (i : Int) + 4), k + 7 * (i : Int) + 5, k + 7 * (i : Int) + 6⟩ : Ev), (0 : Int) ≤ (i : Int), (markL mkEv 7 k n)[i]? = some (⟨k + 7 * (i : Int), k + 7 * (i : Int) + 1, k + 7 * (i : Int) + 2, k + 7 * (i : Int) + 3, mtext (k + 7 * (i : Int) + 4), k + 7 * (i : Int) + 5, k + 7 * (i : Int) + 6⟩ : Ev), (.v (vI (IntKind.i64.wrap ((k + 7 * (i : Int) + 3) + 1))) : S) = .v (vI (k + 7 * (i : Int) + 4)), (!decide (k + 7 * (i : Int) + 3 = k + 7 * (i : Int) + 3)) = false, (0 : Int) ≤ (i : Int), (markL mkEv 7 k n)[i]? = some (⟨k + 7 * (i : Int), k + 7 * (i : Int) + 1, k + 7 * (i : Int) + 2, k + 7 * (i : Int) + 3, mtext (k + 7 * (i : Int) + 4), k + 7 * (i : Int) + 5, k + 7 * (i : Int) + 6⟩ : Ev), (.v (vI (IntKind.i64.wrap ((k + 7 * (i : Int) + 2) + 1))) : S) = .v (vI (k + 7 * (i : Int) + 3)), (!decide (k + 7 * (i : Int) + 2 = k + 7 * (i : Int) + 2)) = false, (.v (.c (.int .u64 (IntKind.u64.wrap (k + 7 * (i : Int) + 2)))) : S) = .v (.c (.int .u64 (k + 7 * (i : Int) + 2))), (0 : Int) ≤ (i : Int), (markL mkEv 7 k n)[i]? = some (⟨k + 7 * (i : Int), k + 7 * (i : Int) + 1, k + 7 * (i : Int) + 2, k + 7 * (i : Int) + 3, mtext (k + 7 * (i : Int) + 4), k + 7 * (i : Int) + 5, k + 7 * (i : Int) + 6⟩ : Ev), (.v (vI (IntKind.i64.wrap ((k + 7 * (i : Int) + 1) + 1))) : S) = .v (vI (k + 7 * (i : Int) + 2)), (!decide (k + 7 * (i : Int) + 1 = k + 7 * (i : Int) + 1)) = false, (0 : Int) ≤ (i : Int), (markL mkEv 7 k n)[i]? = some (⟨k + 7 * (i : Int), k + 7 * (i : Int) + 1, k + 7 * (i : Int) + 2, k + 7 * (i : Int) + 3, mtext (k + 7 * (i : Int) + 4), k + 7 * (i : Int) + 5, k + 7 * (i : Int) + 6⟩ : Ev), (.v (vI (IntKind.i64.wrap ((k + 7 * (i : Int)) + 1))) : S) = .v (vI (k + 7 * (i : Int) + 1)), (!decide (k + 7 * (i : Int) = k + 7 * (i : Int))) = false, (0 : Int) ≤ (i : Int), (markL mkEv 7 k n)[i]? = some (⟨k + 7 * (i : Int), k + 7 * (i : Int) + 1, k + 7 * (i : Int) + 2, k + 7 * (i : Int) + 3, mtext (k + 7 * (i : Int) + 4), k + 7 * (i : Int) + 5, k + 7 * (i : Int) + 6⟩ : Ev), (decide ((i : Int) < ((List.length (markL mkEv 7 k n) : Nat) : Int))) = true]) (by kernel_rfl) ⟨as_i64 (by omega) (by omega), as_i64e (by omega) (by omega) (by omega), by simp, by omega, markL_get (by omega), as_i64e (by omega) (by omega) (by omega), by simp, by omega, markL_get (by omega), as_i64e (by omega) (by omega) (by omega), by simp, markText_ok (k + 7 * (i : Int) + 4) (by omega), by omega, markL_get (by omega), by omega, markL_get (by omega), as_i64e (by omega) (by omega) (by omega), by simp, by omega, markL_get (by omega), as_i64e (by omega) (by omega) (by omega), by simp, as_u64 (by omega) (by omega), by omega, markL_get (by omega), as_i64e (by omega) (by omega) (by omega), by simp, by omega, markL_get (by omega), as_i64 (by omega) (by omega), by simp, by omega, markL_get (by omega), h1, trivial⟩).to (by simp [vI, vO, vB, vT] <;> omega) (by simp [vI, vO, vB, vT] <;> omega)⟩
 | false =>
  have p1 := of_decide_eq_false h1
  exact .inr ((piece_sound (e := (.ext 0)) (tm' := [(1, .v (vI (k + 7 * (i : Int))))]) (H' := []) (ds := [.br false, .at 0, .keep [1], .sel []]) (ob := [(decide ((i : Int) < ((List.length (markL mkEv 7 k n) : Nat) : Int))) = false]) (by kernel_rfl) ⟨h1, trivial⟩).to (by first | rfl | (rw [show i = n by omega])) (by first | rfl | (rw [show i = n by omega])))
theorem heldEventS_ok (n : Nat) (k : Int) (hp1 : (0 : Int) ≤ k ∧ k ≤ 1125899906842624) (hp2 : n ≤ bigN) : Fun Tryz.prog 30 [.c (.seq .ev (markL mkEv 7 k n)), vI k] [] (.v (vI (k + 7 * (n : Int)))) [] := by
 have hN : bigN = 274877906944 := rfl
 refine ⟨callable_of Tryz.func30 (by kernel_rfl) (by kernel_rfl), ?_⟩
 exact (walk_sound Tryz.func30 (res := .v (vI (k + 7 * (n : Int)))) (L' := []) (ds := [.at 0, .keep [0, 1, 5], .sel [], .loop (.ext 0) [(1, .v (vI (k + 7 * (n : Int))))] []]) (σ := []) (ob := [Sm Tryz.prog 78 0 (.loop (loopAt Tryz.f30 0)) [(0, .v (.c (.seq .ev (markL mkEv 7 k n)))), (1, .v (vI k)), (5, .v (vI 0))] [] (.ext 0) [(1, .v (vI (k + 7 * (n : Int))))] []]) (by kernel_rfl) ⟨Sm.fr (heldEventS_ok_l n k hp1 hp2 0 (by omega)) (by simp) (by rfl), trivial⟩).to (by simp) (by rfl)
structure markFieldS_ok_V0 where
 a : List Fld
 k : Int
 i : Nat
def markFieldS_ok_F0 (a : List Fld) (k : Int) : Fam := ⟨markFieldS_ok_V0, fun q1 => [(0, .v (vO 0)), (1, .v (vI q1.k)), (5, .v (vI (q1.i : Int)))], fun q1 => [.lst .fld q1.a], fun q1 => q1.i ≤ a.length ∧ q1.a.length = a.length ∧ List.take q1.i q1.a = List.take q1.i (markL mkFld 5 k (a.length)) ∧ q1.k = k + 5 * (q1.i : Int), fun q1 => a.length - q1.i⟩
theorem markFieldS_ok (a : List Fld) (k : Int) (hp1 : (0 : Int) ≤ k ∧ k ≤ 1125899906842624) (hp2 : a.length ≤ bigN) : Fun Tryz.prog 172 [vO 0, vI k] [.lst .fld a] (.v (vI (k + 5 * (a.length : Int)))) [.lst .fld (markL mkFld 5 k (a.length))] := by
 have hN : bigN = 274877906944 := rfl
 refine fun_ofw Tryz.func172 (by kernel_rfl) (by kernel_rfl) (w := let z14 := markFieldS_ok_F0 a k; (.seg [.at 0, .keep [0, 1, 5], .sel [0]] (.loop z14 fun q1 => let z8 := (q1.k + 2) % 3 = 0; .br (.intro (fun (x1 : Fld) => q1.a[q1.i]? = some x1) fun x1 => let z1 := (⟨q1.k, q1.k + 1, decide z8, decide ((q1.k + 3) % 3 = 0), x1.msg⟩ : Fld); let z2 := (⟨q1.k, q1.k + 1, decide z8, x1.packed, x1.msg⟩ : Fld); let z3 := (⟨q1.k, q1.k + 1, x1.rep, x1.packed, x1.msg⟩ : Fld); .seg [.el .fld x1, .as 18 (.v (vI (q1.k + 1))), .el .fld (⟨q1.k, x1.kind, x1.rep, x1.packed, x1.msg⟩ : Fld), .asB 0 (.lst .fld (List.set q1.a q1.i z3)), .as 25 (.v (vI (q1.k + 2))), .as 29 (.v (vI ((q1.k + 2) % 3))), .el .fld z3, .asB 0 (.lst .fld (List.set q1.a q1.i z2)), .as 34 (.v (vI (q1.k + 3))), .as 38 (.v (vI ((q1.k + 3) % 3))), .el .fld z2, .asB 0 (.lst .fld (List.set q1.a q1.i z1)), .as 43 (.v (vI (q1.k + 4))), .el .fld z1, .asB 0 (.lst .fld (List.set q1.a q1.i (⟨q1.k, q1.k + 1, decide z8, decide ((q1.k + 3) % 3 = 0), q1.k + 4⟩ : Fld))), .as 50 (.v (vI (q1.k + 5))), .as 11 (.v (vI ((q1.i : Int) + 1))), .at 0, .keep [0, 1, 5], .sel [0]] (.next)) (.leaf () [0])), z14.Has [(0, .v (vO 0)), (1, .v (vI k)), (5, .v (vI 0))] [.lst .fld a] ∧ ∀ q1, z14.inv q1 → (let z9 := (q1.i : Int); let z11 := z9 < (q1.a.length : Int); let z12 := q1.k + 2; let z13 := q1.k + 3; let z10 := (⟨q1.k, q1.k + 1, decide (z12 % 3 = 0), decide (z13 % 3 = 0), q1.k + 4⟩ : Fld); ((decide z11) = true → (∃ (x1 : Fld), q1.a[q1.i]? = some x1) ∧ ∀ (x1 : Fld), (q1.a[q1.i]? = some x1) → (let z4 := (⟨q1.k, q1.k + 1, decide (z12 % 3 = 0), decide (z13 % 3 = 0), x1.msg⟩ : Fld); let z5 := (⟨q1.k, q1.k + 1, decide (z12 % 3 = 0), x1.packed, x1.msg⟩ : Fld); let z6 := (⟨q1.k, q1.k + 1, x1.rep, x1.packed, x1.msg⟩ : Fld); let z7 := (⟨q1.k, x1.kind, x1.rep, x1.packed, x1.msg⟩ : Fld); z11 ∧ ((0 : Int) ≤ z9) ∧ (q1.a[q1.i]? = some x1) ∧ ((.v (vI (IntKind.i64.wrap (q1.k + 1))) : S) = .v (vI (q1.k + 1))) ∧ (z9 < ((List.length (List.set q1.a q1.i z7) : Nat) : Int)) ∧ ((0 : Int) ≤ z9) ∧ ((List.set q1.a q1.i z7)[q1.i]? = some z7) ∧ (some (.lst .fld (List.set (List.set q1.a q1.i z7) q1.i z6) : Blk) = some (.lst .fld (List.set q1.a q1.i z6))) ∧ ((.v (vI (IntKind.i64.wrap ((q1.k + 1) + 1))) : S) = .v (vI z12)) ∧ ((3 : Int) ≠ 0) ∧ ((.v (vI (Int.tmod z12 3)) : S) = .v (vI (z12 % 3))) ∧ (z9 < ((List.length (List.set q1.a q1.i z6) : Nat) : Int)) ∧ ((0 : Int) ≤ z9) ∧ ((List.set q1.a q1.i z6)[q1.i]? = some z6) ∧ (some (.lst .fld (List.set (List.set q1.a q1.i z6) q1.i z5) : Blk) = some (.lst .fld (List.set q1.a q1.i z5))) ∧ ((.v (vI (IntKind.i64.wrap (z12 + 1))) : S) = .v (vI z13)) ∧ ((3 : Int) ≠ 0) ∧ ((.v (vI (Int.tmod z13 3)) : S) = .v (vI (z13 % 3))) ∧ (z9 < ((List.length (List.set q1.a q1.i z5) : Nat) : Int)) ∧ ((0 : Int) ≤ z9) ∧ ((List.set q1.a q1.i z5)[q1.i]? = some z5) ∧ (some (.lst .fld (List.set (List.set q1.a q1.i z5) q1.i z4) : Blk) = some (.lst .fld (List.set q1.a q1.i z4))) ∧ ((.v (vI (IntKind.i64.wrap (z13 + 1))) : S) = .v (vI (q1.k + 4))) ∧ (z9 < ((List.length (List.set q1.a q1.i z4) : Nat) : Int)) ∧ ((0 : Int) ≤ z9) ∧ ((List.set q1.a q1.i z4)[q1.i]? = some z4) ∧ (some (.lst .fld (List.set (List.set q1.a q1.i z4) q1.i z10) : Blk) = some (.lst .fld (List.set q1.a q1.i z10))) ∧ ((.v (vI (IntKind.i64.wrap ((q1.k + 4) + 1))) : S) = .v (vI (q1.k + 5))) ∧ ((.v (vI (IntKind.i64.wrap (z9 + 1))) : S) = .v (vI (z9 + 1))) ∧ z14.Nxt q1 [(0, .v (vO 0)), (1, .v (vI (q1.k + 5))), (5, .v (vI (z9 + 1)))] [.lst .fld (List.set q1.a q1.i z10)])) ∧ ((decide z11) = false → (.v (vI q1.k) : S) = .v (vI (k + 5 * (a.length : Int))) ∧ ([.lst .fld q1.a] : List Blk) = [.lst .fld (markL mkFld 5 k (a.length))])))) (by kernel_rfl) ?_
 refine ⟨has_of (j := (⟨a, k, 0⟩ : markFieldS_ok_V0)) (by first | rfl | simp) rfl (by dsimp only [markFieldS_ok_F0]; exact ⟨by omega, rfl, by simp, by omega⟩), fun (q1 : markFieldS_ok_V0) hq_q1 => ?_⟩
 have hi_q1 : q1.i ≤ a.length ∧ q1.a.length = a.length ∧ List.take q1.i q1.a = List.take q1.i (markL mkFld 5 k (a.length)) ∧ q1.k = k + 5 * (q1.i : Int) := hq_q1
 obtain ⟨v1, v2, v3, v4⟩ := hi_q1
 refine dsp (fun h1 p1 => ?_) fun h1 p1 => ?_
 refine ⟨(ax_get (l := q1.a) (i := q1.i) (by omega)), fun x1 hx1 => ?_⟩
 exact ⟨(by omega), (by omega), hx1, (as_i64 (by omega) (by omega)), (by simp only [List.length_set]; omega), (by omega), (ax_setget (by omega)), asB_set, (as_i64e (by omega) (by omega) (by omega)), (by decide), (as_tmod (by omega)), (by simp only [List.length_set]; omega), (by omega), (ax_setget (by omega)), asB_set, (as_i64e (by omega) (by omega) (by omega)), (by decide), (as_tmod (by omega)), (by simp only [List.length_set]; omega), (by omega), (ax_setget (by omega)), asB_set, (as_i64e (by omega) (by omega) (by omega)), (by simp only [List.length_set]; omega), (by omega), (ax_setget (by omega)), asB_set, (as_i64e (by omega) (by omega) (by omega)), (as_i64 (by omega) (by omega)), nxt_of (j := (⟨List.set q1.a q1.i (⟨q1.k, q1.k + 1, decide ((q1.k + 2) % 3 = 0), decide ((q1.k + 3) % 3 = 0), q1.k + 4⟩ : Fld), q1.k + 5, q1.i + 1⟩ : markFieldS_ok_V0)) (by first | rfl | simp) rfl (by dsimp only [markFieldS_ok_F0]; exact ⟨by omega, by simp [v2], by rw [v4]; exact fill_set v3 (by rw [v2, markL_len]) (markL_get (by omega)), by omega⟩) (by dsimp only [markFieldS_ok_F0]; omega)⟩
 refine ⟨(sI ?_), (consE (congrArg (Blk.lst .fld) ?_) rfl)⟩
 rotate_left 2
 all_goals first | (exact fill_done v3 (by rw [v2, markL_len]) (by rw [markL_len]; omega)) | (omega)
structure markShapeS_ok_V0 where
 a : List Shp
 k : Int
 i : Nat
def markShapeS_ok_F0 (a : List Shp) (k : Int) : Fam := ⟨markShapeS_ok_V0, fun q1 => [(0, .v (vO 0)), (1, .v (vI q1.k)), (5, .v (vI (q1.i : Int)))], fun q1 => [.tree q1.a], fun q1 => q1.i ≤ a.length ∧ q1.k = k + (q1.i : Int) + 5 * ((shF (List.take q1.i a) : Nat) : Int) ∧ q1.a = markSh k (List.take q1.i a) ++ List.drop q1.i a, fun q1 => a.length - q1.i⟩
theorem markShapeS_ok (a : List Shp) (k : Int) (hp1 : (0 : Int) ≤ k ∧ k ≤ 1099511627776) (hp2 : a.length ≤ 1048576) (hp3 : shF a ≤ 1048576) : Fun Tryz.prog 130 [vO 0, vI k] [.tree a] (.v (vI (k + (a.length : Int) + 5 * ((shF a : Nat) : Int)))) [.tree (markSh k a)] := by
 have hN : bigN = 274877906944 := rfl
 refine fun_ofw Tryz.func130 (by kernel_rfl) (by kernel_rfl) (w := let z6 := markShapeS_ok_F0 a k; (.seg [.at 0, .keep [0, 1, 5], .sel [0]] (.loop z6 fun q1 => .br (.intro (fun (x1 : Shp) => q1.a[q1.i]? = some x1) fun x1 => .seg [.el .shp x1, .as 18 (.v (vI (q1.k + 1))), .focus, .el .shp (⟨q1.k, x1.fields⟩ : Shp), .call [1] (.v (vI ((q1.k + 1) + 5 * (x1.fields.length : Int)))) [.lst .fld (markL mkFld 5 (q1.k + 1) (x1.fields.length))], .as 11 (.v (vI ((q1.i : Int) + 1))), .at 0, .keep [0, 1, 5], .sel [0]] (.next)) (.leaf () [0])), z6.Has [(0, .v (vO 0)), (1, .v (vI k)), (5, .v (vI 0))] [.tree a] ∧ ∀ q1, z6.inv q1 → (let z3 := (q1.i : Int); let z4 := z3 < (q1.a.length : Int); let z5 := q1.k + 1; ((decide z4) = true → (∃ (x1 : Shp), q1.a[q1.i]? = some x1) ∧ ∀ (x1 : Shp), (q1.a[q1.i]? = some x1) → (let z1 := List.set q1.a q1.i (⟨q1.k, x1.fields⟩ : Shp); let z2 := vI (z5 + 5 * (x1.fields.length : Int)); z4 ∧ ((0 : Int) ≤ z3) ∧ (q1.a[q1.i]? = some x1) ∧ ((.v (vI (IntKind.i64.wrap z5)) : S) = .v (vI z5)) ∧ (z3 < (z1.length : Int)) ∧ ((0 : Int) ≤ z3) ∧ (z1[q1.i]? = some (⟨q1.k, x1.fields⟩ : Shp)) ∧ (Fun Tryz.prog 172 [vO 0, vI z5] [.lst .fld x1.fields] (.v z2) [.lst .fld (markL mkFld 5 z5 (x1.fields.length))]) ∧ ((.v (vI (IntKind.i64.wrap (z3 + 1))) : S) = .v (vI (z3 + 1))) ∧ z6.Nxt q1 [(0, .v (vO 0)), (1, .v z2), (5, .v (vI (z3 + 1)))] [.tree (List.set z1 q1.i (⟨q1.k, markL mkFld 5 z5 (x1.fields.length)⟩ : Shp))])) ∧ ((decide z4) = false → (.v (vI q1.k) : S) = .v (vI (k + (a.length : Int) + 5 * ((shF a : Nat) : Int))) ∧ ([.tree q1.a] : List Blk) = [.tree (markSh k a)])))) (by kernel_rfl) ?_
 refine ⟨has_of (j := (⟨a, k, 0⟩ : markShapeS_ok_V0)) (by first | rfl | simp) rfl (by dsimp only [markShapeS_ok_F0]; exact ⟨by omega, by simp [shF], by simp [markSh]⟩), fun (q1 : markShapeS_ok_V0) hq_q1 => ?_⟩
 have hi_q1 : q1.i ≤ a.length ∧ q1.k = k + (q1.i : Int) + 5 * ((shF (List.take q1.i a) : Nat) : Int) ∧ q1.a = markSh k (List.take q1.i a) ++ List.drop q1.i a := hq_q1
 obtain ⟨v1, v2, v3⟩ := hi_q1
 have hla : q1.a.length = a.length := by rw [v3, List.length_append, markSh_len, List.length_take, List.length_drop]; omega
 refine dsp (fun h1 p1 => ?_) fun h1 p1 => ?_
 refine ⟨(ax_get (l := q1.a) (i := q1.i) (by omega)), fun x1 hx1 => ?_⟩
 refine ⟨(by omega), (by omega), ?_⟩
 have hxa : a[q1.i]? = some x1 := by rw [← markSh_at v1, ← v3]; exact hx1
 have hsf := shF_at hxa
 exact ⟨hx1, (as_i64 (by omega) (by omega)), (by simp only [List.length_set]; omega), (by omega), (ax_setget (by omega)), (markFieldS_ok _ _ (by omega) (by omega)), (as_i64 (by omega) (by omega)), nxt_of (j := (⟨List.set (List.set q1.a q1.i (⟨q1.k, x1.fields⟩ : Shp)) q1.i (⟨q1.k, markL mkFld 5 (q1.k + 1) (x1.fields.length)⟩ : Shp), (q1.k + 1) + 5 * (x1.fields.length : Int), q1.i + 1⟩ : markShapeS_ok_V0)) (by first | rfl | simp) rfl (by dsimp only [markShapeS_ok_F0]; exact ⟨by omega, by omega, markSh_step hxa v3 v2⟩) (by dsimp only [markShapeS_ok_F0]; omega)⟩
 refine ⟨(sI ?_), (consE (congrArg Blk.tree ?_) rfl)⟩
 rotate_left 2
 all_goals first | ((rw [v3, List.take_of_length_le (by omega), List.drop_of_length_le (by omega), List.append_nil]; done)) | ((rw [v2, List.take_of_length_le (by omega)]; omega)) | (omega)
theorem markSchema_ok (a : List Shp) (k : Int) (hp1 : (0 : Int) ≤ k ∧ k ≤ 1099511627776) (hp2 : a.length ≤ 1048576) (hp3 : shF a ≤ 1048576) : Fun Tryz.prog 85 [.agg [.own 0], vI k] [.tree a] (.v (vI (k + (a.length : Int) + 5 * ((shF a : Nat) : Int)))) [.tree (markSh k a)] := by
 have hN : bigN = 274877906944 := rfl
 refine fun_ofw Tryz.func85 (by kernel_rfl) (by kernel_rfl) (w := let z1 := vI (k + (a.length : Int) + 5 * ((shF a : Nat) : Int)); (.seg [.call [0] (.v z1) [.tree (markSh k a)]] (.leaf () [0]), (Fun Tryz.prog 130 [vO 0, vI k] [.tree a] (.v z1) [.tree (markSh k a)]) ∧ (.v z1 : S) = .v z1 ∧ ([.tree (markSh k a)] : List Blk) = [.tree (markSh k a)])) (by kernel_rfl) ?_
 exact ⟨(markShapeS_ok _ _ (by omega) (by omega) (by omega)), rfl, rfl⟩
theorem markPlan_ok (a : Pln) (k : Int) (hp1 : (0 : Int) ≤ k ∧ k ≤ 1099511627776) (hp2 : List.length (a).shapes ≤ 1048576) (hp3 : shF (a).shapes ≤ 1048576) : Fun Tryz.prog 36 [.agg (oPln0 0 a), vI k] [.tree a.shapes] (.v (vI (k + ((List.length (a).shapes : Nat) : Int) + 5 * ((shF (a).shapes : Nat) : Int)))) [.tree (markSh k (a).shapes)] := by
 have hN : bigN = 274877906944 := rfl
 refine fun_ofw Tryz.func36 (by kernel_rfl) (by kernel_rfl) (w := let z1 := vI (k + (a.shapes.length : Int) + 5 * ((shF a.shapes : Nat) : Int)); let z2 := markSh k a.shapes; (.seg [.call [0] (.v z1) [.tree z2]] (.leaf () [0]), (Fun Tryz.prog 85 [.agg [.own 0], vI k] [.tree a.shapes] (.v z1) [.tree z2]) ∧ (.v z1 : S) = .v (vI (k + ((List.length (a).shapes : Nat) : Int) + 5 * ((shF (a).shapes : Nat) : Int))) ∧ ([.tree z2] : List Blk) = [.tree (markSh k (a).shapes)])) (by kernel_rfl) ?_
 exact ⟨(markSchema_ok a.shapes _ (by omega) (by omega) (by omega)), (congrArg S.v (congrArg V.c (congrArg (C.int .i64) (by rfl)))), (consE (congrArg Blk.tree (by rfl)) rfl)⟩
def lev0 : Lev := ⟨0, 0⟩
def topL (d : Dcd) : Int := (d.stack.getD (d.stack.length - 1) lev0).left
def levOk (n : Int) (l : Lev) : Bool := within l.msg 0 (n - 1) && within l.left 0 2000
def levelsOk (d : Dcd) : Bool := planOk d.plan && decide ((d.stack.length : Int) ≤ d.plan.deep) && d.stack.all (levOk (d.plan.shapes.length : Int))
def levN (n : Int) : List Lev → Nat
 | [] => 0
 | l :: r => if levOk n l then levN n r + 1 else 0
theorem levN_cons {n : Int} {l : Lev} {r : List Lev} : levN n (l :: r) = if levOk n l then levN n r + 1 else 0 := rfl
theorem levN_all (n : Int) : ∀ l : List Lev, l.all (levOk n) = decide (levN n l = l.length)
 | [] => rfl
 | l :: r => by
  rw [List.all_cons, levN_all n r, levN_cons]
  cases h : levOk n l with
  | true => rw [if_pos rfl]; simp
  | false => rw [if_neg (by simp)]; simp
def badLev (n : Int) (l : List Lev) : Int := if levN n l = l.length then -1 else (levN n l : Int)
def scanOk (s : Scn) : Bool := within s.have_ 0 9 && decide (Int.fdiv s.bits (2 ^ min (Int.toNat (7 * s.have_)) 64) = 0)
def widthD (d : Dcd) : Int := if d.mode = 5 then widthOf d.wire else if d.mode = 8 then widthOf (wireOf d.field.kind) else 0
def roomD (d : Dcd) : Int := if d.mode = 8 then d.want else topL d
def scanD (d : Dcd) : Bool := if 0 < widthD d then within d.scan.have_ 0 (widthD d - 1) && decide (Int.fdiv d.scan.bits (2 ^ min (Int.toNat (8 * d.scan.have_)) 64) = 0) && decide (widthD d - d.scan.have_ ≤ roomD d)
 else if d.mode = 6 ∨ d.mode = 7 ∨ d.mode = 9 then decide (d.scan = scn0) else scanOk d.scan
def wantD (d : Dcd) : Bool := if d.mode = 6 ∨ d.mode = 7 ∨ d.mode = 8 then within d.want 1 (topL d) else decide (d.want = 0)
def fitD (d : Dcd) : Bool := decide (d.field = fld0) || allowed d.field d.wire
def kindD (d : Dcd) : Bool := if d.mode = 6 then isBytes d.field.kind else if d.mode = 8 then runs d.field else if d.mode = 3 then decide (d.wire = 0) && fitD d else if d.mode = 4 then decide (d.wire = 2) && fitD d else if d.mode = 5 then decide (0 < widthOf d.wire) && fitD d else true
def knownN (l : List Shp) (f : Fld) : Nat → Bool
 | 0 => false
 | k + 1 => knownN l f k || decide (fieldAt l (k : Int) f.number = some f)
def known (l : List Shp) (f : Fld) : Bool := knownN l f l.length
def isEvent (k : Int) : Bool := within k 1 10
def bareEv (e : Ev) : Ev := ⟨e.kind, if e.kind = 2 ∨ e.kind = 3 ∨ e.kind = 6 then e.field else 0, if e.kind = 2 then e.bits else 0, if e.kind = 1 ∨ e.kind = 3 ∨ e.kind = 6 then e.len else 0, if e.kind = 4 then e.text else [], if e.kind = 10 then e.code else 0, if e.kind = 9 ∨ e.kind = 10 then e.at_ else 0⟩
def isBare (e : Ev) : Bool := decide (e = bareEv e)
def eventOk (e : Ev) : Bool := isEvent e.kind && isBare e && decide (0 ≤ e.len) && decide (0 ≤ e.at_) && (if hasField e.kind then within e.field 1 536870911 else if e.kind = 4 then !decide (e.text = []) else if e.kind = 10 then decide (1 ≤ e.code) else true)
def terminal (e : Ev) : Bool := decide (e.kind = 9) || decide (e.kind = 10)
def endD (d : Dcd) : Bool := if d.mode = 9 then eventOk d.end_ && terminal d.end_ else decide (d.end_ = ev0)
def stackD (d : Dcd) : Bool := if d.mode = 1 then decide (d.stack = []) else if d.mode = 9 then true else decide (1 ≤ topL d)
def decOk (d : Dcd) : Bool := levelsOk d && within d.mode 1 9 && within d.at_ 0 1000000000 && within d.start 0 d.at_ && utfOk d.utf && wireOk d.wire && (decide (d.field = fld0) || known d.plan.shapes d.field) && endD d && stackD d && wantD d && kindD d && scanD d
theorem fld_eq {o f : Fld} (h : o.number = f.number ∧ o.kind = f.kind ∧ o.rep = f.rep ∧ o.packed = f.packed ∧ o.msg = f.msg) : o = f := by
 cases o; cases f; simp_all
theorem fld_ne {o f : Fld} (h : o.number = f.number → o.kind = f.kind → o.rep = f.rep → o.packed = f.packed → ¬ o.msg = f.msg) : o ≠ f := fun e => by subst e; exact h rfl rfl rfl rfl rfl
theorem knownN_mono {l : List Shp} {f : Fld} : ∀ {k m : Nat}, k ≤ m → knownN l f k = true → knownN l f m = true
 | k, 0, h, hk => by rw [show k = 0 by omega] at hk; exact hk
 | k, m + 1, h, hk => by
  by_cases e : k = m + 1
  ·rw [← e]; exact hk
  ·rw [knownN, knownN_mono (m := m) (by omega) hk]; rfl
theorem known_of {l : List Shp} {f : Fld} {k : Nat} (h : k < l.length) (hf : fieldAt l (k : Int) f.number = some f) : known l f = true := by
 have : knownN l f (k + 1) = true := by rw [knownN, hf]; simp
 exact knownN_mono (show k + 1 ≤ l.length by omega) this
theorem knownN_next {l : List Shp} {f : Fld} {k : Nat} (h : knownN l f k = false) (hf : fieldAt l (k : Int) f.number ≠ some f) : knownN l f (k + 1) = false := by
 rw [knownN, h]; simp [hf]
theorem known_no {l : List Shp} {f : Fld} {k : Nat} (h : knownN l f k = false) (hk : l.length = k) : known l f = false := by unfold known; rw [hk]; exact h
theorem fld_zero {f : Fld} (h : f.number = 0 ∧ f.kind = 0 ∧ f.rep = false ∧ f.packed = false ∧ f.msg = 0) : f = fld0 := fld_eq h
def stackS (d : Dcd) : Bool := d.stack.all (levOk (d.plan.shapes.length : Int)) && (if d.mode = 1 then decide ((d.stack.length : Int) = 0) else if d.mode = 9 then decide ((d.stack.length : Int) ≤ d.plan.deep) else within (d.stack.length : Int) 1 d.plan.deep && decide (1 ≤ topL d))
def fixS (d : Dcd) : Bool := within d.scan.have_ 0 (widthD d - 1) && decide (Int.fdiv d.scan.bits (2 ^ min (Int.toNat (8 * d.scan.have_)) 64) = 0) && decide (widthD d - d.scan.have_ ≤ roomD d)
def scanS (d : Dcd) : Bool := if d.mode = 6 ∨ d.mode = 7 ∨ d.mode = 9 then decide (d.scan = scn0) else if d.mode = 5 then fixS d else if d.mode = 8 then (if widthD d = 0 then scanOk d.scan else fixS d) else scanOk d.scan
def wiresS (d : Dcd) : Bool := (decide (d.mode = 3) && !decide (d.wire = 0)) || (decide (d.mode = 4) && !decide (d.wire = 2)) || (decide (d.mode = 5) && decide (widthOf d.wire = 0))
def decOkS (d : Dcd) : Bool := planOk d.plan && within d.mode 1 9 && within d.at_ 0 1000000000 && within d.start 0 d.at_ && utfOk d.utf && wireOk d.wire && (decide (d.field = fld0) || known d.plan.shapes d.field) && stackS d && endD d && wantD d && !wiresS d && !(within d.mode 3 5 && !decide (d.field = fld0) && !allowed d.field d.wire) && (!decide (d.mode = 6) || isBytes d.field.kind) && (!decide (d.mode = 8) || runs d.field) && scanS d
theorem topL_nil {d : Dcd} (h : d.stack = []) : topL d = 0 := by unfold topL; rw [h]; rfl
theorem widthOf_cases (w : Int) : widthOf w = 0 ∨ widthOf w = 4 ∨ widthOf w = 8 := by unfold widthOf; split <;> (try split) <;> omega
theorem decOkS_eq (d : Dcd) : decOkS d = decOk d := by
 have hw := widthOf_cases d.wire
 have hw2 := widthOf_cases (wireOf d.field.kind)
 by_cases hm : within d.mode 1 9 = true
 ·have hm := within_t hm
  have hp : planOk d.plan = true → 1 ≤ d.plan.deep := fun h => (planOk_t h).2.2.2.2.1
  have ht := @topL_nil d
  obtain ⟨⟨sh, ro, de, mo⟩, m, st, sc, sa, a, f, w, wa, u, e⟩ := d
  simp only at hm hw hw2 hp ht
  have hs : (decide (st = []) : Bool) = decide ((st.length : Int) = 0) := by cases st <;> simp <;> omega
  have hl : ∀ x : Lev, (([] : List Lev).length : Int) = 0 := fun _ => rfl
  rcases (show m = 1 ∨ m = 2 ∨ m = 3 ∨ m = 4 ∨ m = 5 ∨ m = 6 ∨ m = 7 ∨ m = 8 ∨ m = 9 by omega) with rfl | rfl | rfl | rfl | rfl | rfl | rfl | rfl | rfl <;>
   rw [Bool.eq_iff_iff] <;> simp [decOkS, decOk, levelsOk, stackS, stackD, wiresS, scanS, fixS, scanD, kindD, fitD, wantD, roomD, widthD, hs, within] <;> grind
 ·have hm : within d.mode 1 9 = false := by simpa using hm
  simp [decOkS, decOk, hm]
theorem ev_eq {e f : Ev} (h : e.kind = f.kind ∧ e.field = f.field ∧ e.bits = f.bits ∧ e.len = f.len ∧ e.text = f.text ∧ e.code = f.code ∧ e.at_ = f.at_) : e = f := by cases e; cases f; simp_all
theorem isBare_t {e : Ev} (h : e.kind = (bareEv e).kind ∧ e.field = (bareEv e).field ∧ e.bits = (bareEv e).bits ∧ e.len = (bareEv e).len ∧ e.text = (bareEv e).text ∧ e.code = (bareEv e).code ∧ e.at_ = (bareEv e).at_) : isBare e = true := decide_eq_true (ev_eq h)
theorem isBare_eq {e f : Ev} (h : bareEv e = f) : isBare e = (decide (e.kind = f.kind) && (decide (e.field = f.field) && (decide (e.bits = f.bits) && (decide (e.len = f.len) && (decide (e.text = f.text) && (decide (e.code = f.code) && decide (e.at_ = f.at_))))))) := by
 subst h
 rw [Bool.eq_iff_iff]
 simp only [Bool.and_eq_true, decide_eq_true_eq]
 constructor
 ·intro h
  have h : e = bareEv e := of_decide_eq_true h
  exact ⟨congrArg Ev.kind h, congrArg Ev.field h, congrArg Ev.bits h, congrArg Ev.len h, congrArg Ev.text h, congrArg Ev.code h, congrArg Ev.at_ h⟩
 ·exact fun h => isBare_t h
theorem topL_i (d : Dcd) (hp1 : List.length (d).stack ≤ bigN) : Fun Tryz.prog 179 [.agg (cDcd d)] [] (.v (vI (topL d))) [] := by
 have hN : bigN = 274877906944 := rfl
 refine fun_ofw Tryz.func179 (by kernel_rfl) (by kernel_rfl) (w := let z1 := (d.stack.length : Int); (.br (.leaf () []) (.seg [.as 12 (.v (vI (z1 - 1)))] (.intro (fun (x1 : Lev) => d.stack[Int.toNat (z1 - 1)]? = some x1) fun x1 => .seg [.el .lev x1] (.leaf () []))), ((decide (z1 = 0)) = true → (.v (vI 0) : S) = .v (vI (topL d)) ∧ ([] : List Blk) = []) ∧ ((decide (z1 = 0)) = false → ((.v (vI (IntKind.i64.wrap (z1 - 1))) : S) = .v (vI (z1 - 1))) ∧ (∃ (x1 : Lev), d.stack[Int.toNat (z1 - 1)]? = some x1) ∧ ∀ (x1 : Lev), (d.stack[Int.toNat (z1 - 1)]? = some x1) → ((d.stack[Int.toNat (z1 - 1)]? = some x1) ∧ ((0 : Int) ≤ z1 - 1) ∧ (.v (vI x1.left) : S) = .v (vI (topL d)) ∧ ([] : List Blk) = [])))) (by kernel_rfl) ?_
 refine dsp (fun h1 p1 => ?_) fun h1 p1 => ?_
 refine ⟨(sI ?_), rfl⟩
 rotate_left
 refine ⟨(as_i64 (by omega) (by omega)), (ax_get (l := d.stack) (i := Int.toNat ((d.stack.length : Int) - 1)) (by omega)), fun x1 hx1 => ?_⟩
 have htop : topL d = x1.left := by unfold topL; rw [getD_of (by rw [← hx1]; congr 1; omega)]
 refine ⟨hx1, (by omega), (sI ?_), rfl⟩
 rotate_left
 all_goals first | (exact htop.symm) | ((unfold topL; rw [List.eq_nil_of_length_eq_zero (by omega : d.stack.length = 0)]; rfl)) | (grind)
theorem topL_s (d : Dcd) (hp1 : List.length (d).stack ≤ bigN) : Fun Tryz.prog 149 [.agg (cDcd d)] [] (.v (vI (topL d))) [] := by
 have hN : bigN = 274877906944 := rfl
 refine fun_ofw Tryz.func149 (by kernel_rfl) (by kernel_rfl) (w := let z1 := (d.stack.length : Int); (.br (.leaf () []) (.seg [.as 12 (.v (vI (z1 - 1)))] (.intro (fun (x1 : Lev) => d.stack[Int.toNat (z1 - 1)]? = some x1) fun x1 => .seg [.el .lev x1] (.leaf () []))), ((decide (z1 = 0)) = true → (.v (vI 0) : S) = .v (vI (topL d)) ∧ ([] : List Blk) = []) ∧ ((decide (z1 = 0)) = false → ((.v (vI (IntKind.i64.wrap (z1 - 1))) : S) = .v (vI (z1 - 1))) ∧ (∃ (x1 : Lev), d.stack[Int.toNat (z1 - 1)]? = some x1) ∧ ∀ (x1 : Lev), (d.stack[Int.toNat (z1 - 1)]? = some x1) → ((d.stack[Int.toNat (z1 - 1)]? = some x1) ∧ ((0 : Int) ≤ z1 - 1) ∧ (.v (vI x1.left) : S) = .v (vI (topL d)) ∧ ([] : List Blk) = [])))) (by kernel_rfl) ?_
 refine dsp (fun h1 p1 => ?_) fun h1 p1 => ?_
 refine ⟨(sI ?_), rfl⟩
 rotate_left
 refine ⟨(as_i64 (by omega) (by omega)), (ax_get (l := d.stack) (i := Int.toNat ((d.stack.length : Int) - 1)) (by omega)), fun x1 hx1 => ?_⟩
 have htop : topL d = x1.left := by unfold topL; rw [getD_of (by rw [← hx1]; congr 1; omega)]
 refine ⟨hx1, (by omega), (sI ?_), rfl⟩
 rotate_left
 all_goals first | (exact htop.symm) | ((unfold topL; rw [List.eq_nil_of_length_eq_zero (by omega : d.stack.length = 0)]; rfl)) | (grind)
theorem isShape_i (p : Pln) (k : Int) (hp1 : List.length (p).shapes ≤ bigN) : Fun Tryz.prog 233 [.agg (cPln p), vI k] [] (.v (vB (within k 0 (((List.length (p).shapes : Nat) : Int) - 1)))) [] := by
 have hN : bigN = 274877906944 := rfl
 refine fun_ofw Tryz.func233 (by kernel_rfl) (by kernel_rfl) (w := let z1 := (p.shapes.length : Int) - 1; let z2 := vB (within k 0 z1); (.seg [.as 10 (.v (vI z1)), .call [] (.v z2) []] (.leaf () []), ((.v (vI (IntKind.i64.wrap z1)) : S) = .v (vI z1)) ∧ (Fun Tryz.prog 173 [vI k, vI 0, vI z1] [] (.v z2) []) ∧ (.v z2 : S) = .v (vB (within k 0 (((List.length (p).shapes : Nat) : Int) - 1))) ∧ ([] : List Blk) = [])) (by kernel_rfl) ?_
 exact ⟨(as_i64 (by omega) (by omega)), (within_i _ _ _), (congrArg S.v (congrArg V.c (congrArg C.bool (by rfl)))), rfl⟩
theorem isLevel_i (p : Pln) (l : Lev) (hp1 : List.length (p).shapes ≤ bigN) : Fun Tryz.prog 208 [.agg (cPln p), .agg (cLev l)] [] (.v (vB (levOk ((List.length (p).shapes : Nat) : Int) l))) [] := by
 have hN : bigN = 274877906944 := rfl
 refine fun_ofw Tryz.func208 (by kernel_rfl) (by kernel_rfl) (w := let z1 := ((List.length (p).shapes : Nat) : Int); let z2 := within l.msg 0 (z1 - 1); let z3 := vB (within l.left 0 2000); (.seg [.call [] (.v (vB z2)) []] (.br (.seg [.call [] (.v z3) []] (.leaf () [])) (.leaf () [])), (Fun Tryz.prog 233 [.agg (cPln p), vI l.msg] [] (.v (vB z2)) []) ∧ (z2 = true → (Fun Tryz.prog 173 [vI l.left, vI 0, vI 2000] [] (.v z3) []) ∧ (.v z3 : S) = .v (vB (levOk z1 l)) ∧ ([] : List Blk) = []) ∧ (z2 = false → (.v (vB false) : S) = .v (vB (levOk z1 l)) ∧ ([] : List Blk) = []))) (by kernel_rfl) ?_
 refine ⟨(isShape_i p _ (by omega)), fun h1 => have p1 := within_t h1; ?_, fun h1 => have p1 := within_f h1; ?_⟩
 refine ⟨(within_i _ _ _), (sB ?_), rfl⟩
 rotate_left
 refine ⟨(sB ?_), rfl⟩
 rotate_left
 all_goals first | (simp [levOk, *]; done) | (simp_all [levOk]; done) | (grind [levOk])
theorem badLev_f (l : Lev) (d : Dcd) (hp1 : List.length (d).plan.shapes ≤ bigN) : Fun Tryz.prog 207 [.agg (cLev l), vP 0] [.cells (cDcd d)] (.v (vB (!levOk ((List.length (d).plan.shapes : Nat) : Int) l))) [.cells (cDcd d)] := by
 have hN : bigN = 274877906944 := rfl
 refine fun_ofw Tryz.func207 (by kernel_rfl) (by kernel_rfl) (w := let z1 := levOk ((List.length (d.plan).shapes : Nat) : Int) l; (.seg [.call [] (.v (vB z1)) []] (.leaf () [0]), (Fun Tryz.prog 208 [.agg (cPln d.plan), .agg (cLev l)] [] (.v (vB z1)) []) ∧ (.v (vB (!z1)) : S) = .v (vB (!levOk ((List.length (d).plan.shapes : Nat) : Int) l)) ∧ ([.cells (cDcd d)] : List Blk) = [.cells (cDcd d)])) (by kernel_rfl) ?_
 exact ⟨(isLevel_i d.plan l (by omega)), (congrArg S.v (congrArg V.c (congrArg C.bool (by rfl)))), rfl⟩
structure idxLev_V0 where
 v : Nat
def idxLev_F0 (s : List Lev) (d : Dcd) : Fam := ⟨idxLev_V0, fun q1 => [(0, .v (.c (.seq .lev s))), (1, .v (.c (.fn 207 [0]))), (7, .v (vI (s.length : Int))), (8, .v (vI (q1.v : Int)))], fun _ => [.cells (cDcd d)], fun q1 => q1.v ≤ s.length ∧ levN (d.plan.shapes.length : Int) (List.drop q1.v s) + q1.v = levN (d.plan.shapes.length : Int) s, fun q1 => s.length - q1.v⟩
theorem idxLev (s : List Lev) (d : Dcd) (hp1 : List.length (d).plan.shapes ≤ bigN) (hp2 : s.length ≤ bigN) : Fun Tryz.prog 232 [.c (.seq .lev s), .c (.fn 207 [0])] [.cells (cDcd d)] (.v (vI (badLev ((List.length (d).plan.shapes : Nat) : Int) s))) [.cells (cDcd d)] := by
 have hN : bigN = 274877906944 := rfl
 refine fun_ofw Tryz.func232 (by kernel_rfl) (by kernel_rfl) (w := let z3 := ((List.length (d).plan.shapes : Nat) : Int); let z4 : List Blk := [.cells (cDcd d)]; let z5 := (s.length : Int); let z6 := idxLev_F0 s d; (.seg [.at 0, .keep [0, 1, 7, 8], .sel [0]] (.loop z6 fun q1 => .br (.intro (fun (x1 : Lev) => s[q1.v]? = some x1) fun x1 => .seg [.el .lev x1, .call [0] (.v (vB (!levOk z3 x1))) z4] (.br (.leaf () [0]) (.seg [.as 18 (.v (vI ((q1.v : Int) + 1))), .at 0, .keep [0, 1, 7, 8], .sel [0]] (.next)))) (.leaf () [0])), z6.Has [(0, .v (.c (.seq .lev s))), (1, .v (.c (.fn 207 [0]))), (7, .v (vI z5)), (8, .v (vI 0))] z4 ∧ ∀ q1, z6.inv q1 → (let z2 := (q1.v : Int); ((decide (z2 < z5)) = true → (∃ (x1 : Lev), s[q1.v]? = some x1) ∧ ∀ (x1 : Lev), (s[q1.v]? = some x1) → (let z1 := !levOk z3 x1; (s[q1.v]? = some x1) ∧ ((0 : Int) ≤ z2) ∧ (Fun Tryz.prog 207 [.agg (cLev x1), vP 0] z4 (.v (vB z1)) z4) ∧ (z1 = true → (.v (vI z2) : S) = .v (vI (badLev z3 s)) ∧ (z4 : List Blk) = z4) ∧ (z1 = false → ((.v (vI (IntKind.i64.wrap (z2 + 1))) : S) = .v (vI (z2 + 1))) ∧ z6.Nxt q1 [(0, .v (.c (.seq .lev s))), (1, .v (.c (.fn 207 [0]))), (7, .v (vI z5)), (8, .v (vI (z2 + 1)))] z4))) ∧ ((decide (z2 < z5)) = false → (.v (vI (-1)) : S) = .v (vI (badLev z3 s)) ∧ (z4 : List Blk) = z4)))) (by kernel_rfl) ?_
 refine ⟨has_of (j := (⟨0⟩ : idxLev_V0)) (by first | rfl | simp) rfl (by dsimp only [idxLev_F0]; exact ⟨by omega, rfl⟩), fun (q1 : idxLev_V0) hq_q1 => ?_⟩
 have hi_q1 : q1.v ≤ s.length ∧ levN (d.plan.shapes.length : Int) (List.drop q1.v s) + q1.v = levN (d.plan.shapes.length : Int) s := hq_q1
 obtain ⟨v1, v3⟩ := hi_q1
 refine dsp (fun h1 p1 => ?_) fun h1 p1 => ?_
 refine ⟨(ax_get (l := s) (i := q1.v) (by omega)), fun x1 hx1 => ?_⟩
 rw [drop_el hx1, levN_cons] at v3
 have hll := congrArg List.length (drop_el hx1)
 rw [List.length_drop, List.length_cons, List.length_drop] at hll
 refine ⟨hx1, (by omega), (badLev_f x1 d (by omega)), fun h2 => have q2 := bnot_t h2; ?_, fun h2 => have q2 := bnot_f h2; ?_⟩
 rw [if_neg (by simp [q2])] at v3
 have hbl : badLev (d.plan.shapes.length : Int) s = q1.v := by unfold badLev; rw [if_neg (by omega)]; omega
 refine ⟨(sI ?_), rfl⟩
 rotate_left
 rw [if_pos q2] at v3
 exact ⟨(as_i64 (by omega) (by omega)), nxt_of (j := (⟨q1.v + 1⟩ : idxLev_V0)) (by first | rfl | simp) rfl (by dsimp only [idxLev_F0]; exact ⟨by omega, by omega⟩) (by dsimp only [idxLev_F0]; omega)⟩
 rw [List.drop_eq_nil_of_le (by omega)] at v3
 simp only [levN] at v3
 have hbl : badLev (d.plan.shapes.length : Int) s = -1 := by unfold badLev; rw [if_pos (by omega)]
 refine ⟨(sI ?_), rfl⟩
 rotate_left
 all_goals first | (exact hbl.symm) | (grind)
theorem hasLev (s : List Lev) (d : Dcd) (hp1 : List.length (d).plan.shapes ≤ bigN) (hp2 : s.length ≤ bigN) : Fun Tryz.prog 206 [.c (.seq .lev s), .c (.fn 207 [0])] [.cells (cDcd d)] (.v (vB (decide (0 ≤ badLev ((List.length (d).plan.shapes : Nat) : Int) s)))) [.cells (cDcd d)] := by
 have hN : bigN = 274877906944 := rfl
 refine fun_ofw Tryz.func206 (by kernel_rfl) (by kernel_rfl) (w := let z1 := ((List.length (d).plan.shapes : Nat) : Int); let z2 : List Blk := [.cells (cDcd d)]; (.seg [.call [0] (.v (vI (badLev z1 s))) z2] (.leaf () [0]), (Fun Tryz.prog 232 [.c (.seq .lev s), .c (.fn 207 [0])] z2 (.v (vI (badLev z1 s))) z2) ∧ (.v (vB (decide (0 ≤ badLev z1 s))) : S) = .v (vB (decide (0 ≤ badLev z1 s))) ∧ (z2 : List Blk) = z2)) (by kernel_rfl) ?_
 exact ⟨(idxLev _ d (by omega) (by omega)), rfl, rfl⟩
theorem levelsOk_i (d : Dcd) (hp1 : List.length (d).stack ≤ bigN) (hp2 : List.length (d).plan.shapes ≤ bigN) : Fun Tryz.prog 174 [.agg (cDcd d)] [] (.v (vB (levelsOk d))) [] := by
 have hN : bigN = 274877906944 := rfl
 refine fun_ofw Tryz.func174 (by kernel_rfl) (by kernel_rfl) (w := let z1 := decide (0 ≤ badLev ((List.length (d).plan.shapes : Nat) : Int) d.stack); let z2 := decide ((d.stack.length : Int) ≤ d.plan.deep); let z3 := planOk d.plan; (.seg [.call [] (.v (vB z3)) []] (.br (.br (.seg [.call [0] (.v (vB z1)) [.cells (cDcd d)]] (.leaf () [])) (.leaf () [])) (.leaf () [])), (Fun Tryz.prog 165 [.agg (cPln d.plan)] [] (.v (vB z3)) []) ∧ (z3 = true → (z2 = true → (Fun Tryz.prog 206 [.c (.seq .lev d.stack), .c (.fn 207 [0])] [.cells (cDcd d)] (.v (vB z1)) [.cells (cDcd d)]) ∧ (.v (vB (!z1)) : S) = .v (vB (levelsOk d)) ∧ ([] : List Blk) = []) ∧ (z2 = false → (.v (vB false) : S) = .v (vB (levelsOk d)) ∧ ([] : List Blk) = [])) ∧ (z3 = false → (.v (vB false) : S) = .v (vB (levelsOk d)) ∧ ([] : List Blk) = []))) (by kernel_rfl) ?_
 refine ⟨(planOk_i d.plan), fun h1 => have p1 := planOk_t h1; ?_, fun h1 => ?_⟩
 refine dsp (fun h2 p2 => ?_) fun h2 p2 => ?_
 refine ⟨(hasLev _ d (by omega) (by omega)), (sB ?_), rfl⟩
 rotate_left
 refine ⟨(sB ?_), rfl⟩
 rotate_left
 refine ⟨(sB ?_), rfl⟩
 rotate_left
 all_goals first | (simp_all [levelsOk]; done) | ((unfold levelsOk; rw [levN_all]; grind [badLev])) | (grind [levelsOk, badLev, levN_all])
theorem isEvent_i (k : Int) : Fun Tryz.prog 210 [vI k] [] (.v (vB (isEvent k))) [] := by
 have hN : bigN = 274877906944 := rfl
 refine fun_ofw Tryz.func210 (by kernel_rfl) (by kernel_rfl) (w := let z1 := vB (within k 1 10); (.seg [.call [] (.v z1) []] (.leaf () []), (Fun Tryz.prog 173 [vI k, vI 1, vI 10] [] (.v z1) []) ∧ (.v z1 : S) = .v (vB (isEvent k)) ∧ ([] : List Blk) = [])) (by kernel_rfl) ?_
 exact ⟨(within_i _ _ _), (congrArg S.v (congrArg V.c (congrArg C.bool (by rfl)))), rfl⟩
theorem bareEv_i (e : Ev) : Fun Tryz.prog 211 [.agg (cEv e)] [] (.v (.agg (cEv (bareEv e)))) [] := by
 have hN : bigN = 274877906944 := rfl
 refine fun_ofw Tryz.func211 (by kernel_rfl) (by kernel_rfl) (w := let zi : Int → C := .int .i64; let z1 : List C := [.int .u64 0, zi e.len, .str [], zi 0, zi 0]; let z2 := cEv (bareEv e); let z3 := ([] : List Blk); let z4 := (.v (.agg (zi e.kind :: zi e.field :: z1)) : S); let z5 := decide (e.kind = 3); let z6 := os 8 [5, 7]; (.br (.leaf () []) (.br (.seg [.ord z6 [2]] (.leaf () [])) (.br (.seg [.br true, .ord z6 [2]] (.leaf () [])) (.br (.seg [.ord z6 [2]] (.leaf () [])) (.br (.leaf () []) (.br (.leaf () []) (.br (.seg [.ord z6 [2]] (.leaf () [])) (.leaf () []))))))), ((decide (e.kind = 1)) = true → (.v (.agg (zi e.kind :: zi 0 :: z1)) : S) = .v (.agg z2) ∧ z3 = []) ∧ ((decide (e.kind = 1)) = false → ((decide (e.kind = 2)) = true → (.v (.agg [zi e.kind, zi e.field, .int .u64 e.bits, zi 0, .str [], zi 0, zi 0]) : S) = .v (.agg z2) ∧ z3 = []) ∧ ((decide (e.kind = 2)) = false → (z5 = true → (z5 = true) ∧ z4 = .v (.agg z2) ∧ z3 = []) ∧ (z5 = false → ((decide (e.kind = 6)) = true → z4 = .v (.agg z2) ∧ z3 = []) ∧ ((decide (e.kind = 6)) = false → ((decide (e.kind = 4)) = true → (.v (.agg [zi e.kind, zi 0, .int .u64 0, zi 0, .str e.text, zi 0, zi 0]) : S) = .v (.agg z2) ∧ z3 = []) ∧ ((decide (e.kind = 4)) = false → ((decide (e.kind = 9)) = true → (.v (.agg [zi e.kind, zi 0, .int .u64 0, zi 0, .str [], zi 0, zi e.at_]) : S) = .v (.agg z2) ∧ z3 = []) ∧ ((decide (e.kind = 9)) = false → ((decide (e.kind = 10)) = true → (.v (.agg [zi e.kind, zi 0, .int .u64 0, zi 0, .str [], zi e.code, zi e.at_]) : S) = .v (.agg z2) ∧ z3 = []) ∧ ((decide (e.kind = 10)) = false → (.v (.agg [zi e.kind, zi 0, .int .u64 0, zi 0, .str [], zi 0, zi 0]) : S) = .v (.agg z2) ∧ z3 = []))))))))) (by kernel_rfl) ?_
 refine dsp (fun h1 p1 => ?_) fun h1 p1 => ?_
 refine have hm1 : bareEv e = (⟨e.kind, 0, 0, e.len, [], 0, 0⟩ : Ev) := ?_; ?_
 rotate_left
 refine ⟨(congrArg S.v (congrArg V.agg (consE (congrArg (C.int .i64) ?_) (consE (congrArg (C.int .i64) ?_) (consE (congrArg (C.int .u64) ?_) (consE (congrArg (C.int .i64) ?_) (consE (congrArg C.str ?_) (consE (congrArg (C.int .i64) ?_) (consE (congrArg (C.int .i64) ?_) rfl))))))))), rfl⟩
 rotate_left 7
 refine dsp (fun h2 p2 => ?_) fun h2 p2 => ?_
 refine have hm1 : bareEv e = (⟨e.kind, e.field, e.bits, 0, [], 0, 0⟩ : Ev) := ?_; ?_
 rotate_left
 refine ⟨(congrArg S.v (congrArg V.agg (consE (congrArg (C.int .i64) ?_) (consE (congrArg (C.int .i64) ?_) (consE (congrArg (C.int .u64) ?_) (consE (congrArg (C.int .i64) ?_) (consE (congrArg C.str ?_) (consE (congrArg (C.int .i64) ?_) (consE (congrArg (C.int .i64) ?_) rfl))))))))), rfl⟩
 rotate_left 7
 refine dsp (fun h3 p3 => ?_) fun h3 p3 => ?_
 refine ⟨h3, ?_⟩
 refine have hm1 : bareEv e = (⟨e.kind, e.field, 0, e.len, [], 0, 0⟩ : Ev) := ?_; ?_
 rotate_left
 refine ⟨(congrArg S.v (congrArg V.agg (consE (congrArg (C.int .i64) ?_) (consE (congrArg (C.int .i64) ?_) (consE (congrArg (C.int .u64) ?_) (consE (congrArg (C.int .i64) ?_) (consE (congrArg C.str ?_) (consE (congrArg (C.int .i64) ?_) (consE (congrArg (C.int .i64) ?_) rfl))))))))), rfl⟩
 rotate_left 7
 refine dsp (fun h4 p4 => ?_) fun h4 p4 => ?_
 refine have hm1 : bareEv e = (⟨e.kind, e.field, 0, e.len, [], 0, 0⟩ : Ev) := ?_; ?_
 rotate_left
 refine ⟨(congrArg S.v (congrArg V.agg (consE (congrArg (C.int .i64) ?_) (consE (congrArg (C.int .i64) ?_) (consE (congrArg (C.int .u64) ?_) (consE (congrArg (C.int .i64) ?_) (consE (congrArg C.str ?_) (consE (congrArg (C.int .i64) ?_) (consE (congrArg (C.int .i64) ?_) rfl))))))))), rfl⟩
 rotate_left 7
 refine dsp (fun h5 p5 => ?_) fun h5 p5 => ?_
 refine have hm1 : bareEv e = (⟨e.kind, 0, 0, 0, e.text, 0, 0⟩ : Ev) := ?_; ?_
 rotate_left
 refine ⟨(congrArg S.v (congrArg V.agg (consE (congrArg (C.int .i64) ?_) (consE (congrArg (C.int .i64) ?_) (consE (congrArg (C.int .u64) ?_) (consE (congrArg (C.int .i64) ?_) (consE (congrArg C.str ?_) (consE (congrArg (C.int .i64) ?_) (consE (congrArg (C.int .i64) ?_) rfl))))))))), rfl⟩
 rotate_left 7
 refine dsp (fun h6 p6 => ?_) fun h6 p6 => ?_
 refine have hm1 : bareEv e = (⟨e.kind, 0, 0, 0, [], 0, e.at_⟩ : Ev) := ?_; ?_
 rotate_left
 refine ⟨(congrArg S.v (congrArg V.agg (consE (congrArg (C.int .i64) ?_) (consE (congrArg (C.int .i64) ?_) (consE (congrArg (C.int .u64) ?_) (consE (congrArg (C.int .i64) ?_) (consE (congrArg C.str ?_) (consE (congrArg (C.int .i64) ?_) (consE (congrArg (C.int .i64) ?_) rfl))))))))), rfl⟩
 rotate_left 7
 refine dsp (fun h7 p7 => ?_) fun h7 p7 => ?_
 refine have hm1 : bareEv e = (⟨e.kind, 0, 0, 0, [], e.code, e.at_⟩ : Ev) := ?_; ?_
 rotate_left
 refine ⟨(congrArg S.v (congrArg V.agg (consE (congrArg (C.int .i64) ?_) (consE (congrArg (C.int .i64) ?_) (consE (congrArg (C.int .u64) ?_) (consE (congrArg (C.int .i64) ?_) (consE (congrArg C.str ?_) (consE (congrArg (C.int .i64) ?_) (consE (congrArg (C.int .i64) ?_) rfl))))))))), rfl⟩
 rotate_left 7
 refine have hm1 : bareEv e = (⟨e.kind, 0, 0, 0, [], 0, 0⟩ : Ev) := ?_; ?_
 rotate_left
 refine ⟨(congrArg S.v (congrArg V.agg (consE (congrArg (C.int .i64) ?_) (consE (congrArg (C.int .i64) ?_) (consE (congrArg (C.int .u64) ?_) (consE (congrArg (C.int .i64) ?_) (consE (congrArg C.str ?_) (consE (congrArg (C.int .i64) ?_) (consE (congrArg (C.int .i64) ?_) rfl))))))))), rfl⟩
 rotate_left 7
 all_goals first | (simp_all [bareEv]; done) | (grind [bareEv])
theorem terminal_i (e : Ev) : Fun Tryz.prog 129 [.agg (cEv e)] [] (.v (vB (terminal e))) [] := by
 have hN : bigN = 274877906944 := rfl
 refine fun_ofw Tryz.func129 (by kernel_rfl) (by kernel_rfl) (w := (.br (.leaf () []) (.leaf () []), ((decide (e.kind = 9)) = true → (.v (vB true) : S) = .v (vB (terminal e)) ∧ ([] : List Blk) = []) ∧ ((decide (e.kind = 9)) = false → (.v (vB (decide (e.kind = 10))) : S) = .v (vB (terminal e)) ∧ ([] : List Blk) = []))) (by kernel_rfl) ?_
 refine dsp (fun h1 p1 => ?_) fun h1 p1 => ?_
 refine ⟨(sB ?_), rfl⟩
 rotate_left
 refine ⟨(sB ?_), rfl⟩
 rotate_left
 all_goals first | (simp_all [terminal]; done) | (grind [terminal])
theorem terminal_s (e : Ev) : Fun Tryz.prog 132 [.agg (cEv e)] [] (.v (vB (terminal e))) [] := by
 have hN : bigN = 274877906944 := rfl
 refine fun_ofw Tryz.func132 (by kernel_rfl) (by kernel_rfl) (w := (.br (.leaf () []) (.leaf () []), ((decide (e.kind = 9)) = true → (.v (vB true) : S) = .v (vB (terminal e)) ∧ ([] : List Blk) = []) ∧ ((decide (e.kind = 9)) = false → (.v (vB (decide (e.kind = 10))) : S) = .v (vB (terminal e)) ∧ ([] : List Blk) = []))) (by kernel_rfl) ?_
 refine dsp (fun h1 p1 => ?_) fun h1 p1 => ?_
 refine ⟨(sB ?_), rfl⟩
 rotate_left
 refine ⟨(sB ?_), rfl⟩
 rotate_left
 all_goals first | (simp_all [terminal]; done) | (grind [terminal])
theorem eventOk_i (e : Ev) : Fun Tryz.prog 178 [.agg (cEv e)] [] (.v (vB (eventOk e))) [] := by
 have hN : bigN = 274877906944 := rfl
 refine fun_ofw Tryz.func178 (by kernel_rfl) (by kernel_rfl) (w := let z2 := isEvent e.kind; let z3 := vB (eventOk e); let z4 := bareEv e; let z1 := !(decide (e.kind = z4.kind) && (decide (e.field = z4.field) && (decide (e.bits = z4.bits) && (decide (e.len = z4.len) && (decide (e.text = z4.text) && (decide (e.code = z4.code) && decide (e.at_ = z4.at_))))))); let z5 := ([] : List Blk); let z6 := decide (e.len < 0); let z7 := vB (within e.field 1 536870911); let z8 := (.v (vB false) : S); let z9 := hasField e.kind; let z10 := os 21 [2, 7]; (.case (!z2) (.seg [.ord z10 [], .call [] (.v (vB z2)) [], .br true] (.leaf () [])) (.case z1 (.seg [.ord z10 [], .call [] (.v (vB z2)) [], .br false, .call [] (.v (.agg (cEv z4))) [], .br true] (.leaf () [])) (.case z6 (.seg [.ord z10 [], .call [] (.v (vB z2)) [], .br false, .call [] (.v (.agg (cEv z4))) [], .br false, .br true] (.leaf () [])) (.seg [.ord z10 [], .call [] (.v (vB z2)) [], .br false, .call [] (.v (.agg (cEv z4))) [], .br false, .br false] (.br (.leaf () []) (.seg [.call [] (.v (vB z9)) []] (.br (.seg [.call [] (.v z7) []] (.leaf () [])) (.br (.leaf () []) (.br (.leaf () []) (.leaf () []))))))))), ((!z2) = true → (Fun Tryz.prog 210 [vI e.kind] [] (.v (vB z2)) []) ∧ ((!z2) = true) ∧ z8 = .v z3 ∧ z5 = []) ∧ ((!z2) = false → (z1 = true → (Fun Tryz.prog 210 [vI e.kind] [] (.v (vB z2)) []) ∧ ((!z2) = false) ∧ (Fun Tryz.prog 211 [.agg (cEv e)] [] (.v (.agg (cEv z4))) []) ∧ (z1 = true) ∧ z8 = .v z3 ∧ z5 = []) ∧ (z1 = false → (z6 = true → (Fun Tryz.prog 210 [vI e.kind] [] (.v (vB z2)) []) ∧ ((!z2) = false) ∧ (Fun Tryz.prog 211 [.agg (cEv e)] [] (.v (.agg (cEv z4))) []) ∧ (z1 = false) ∧ (z6 = true) ∧ z8 = .v z3 ∧ z5 = []) ∧ (z6 = false → (Fun Tryz.prog 210 [vI e.kind] [] (.v (vB z2)) []) ∧ ((!z2) = false) ∧ (Fun Tryz.prog 211 [.agg (cEv e)] [] (.v (.agg (cEv z4))) []) ∧ (z1 = false) ∧ (z6 = false) ∧ ((decide (e.at_ < 0)) = true → z8 = .v z3 ∧ z5 = []) ∧ ((decide (e.at_ < 0)) = false → (Fun Tryz.prog 212 [vI e.kind] [] (.v (vB z9)) []) ∧ (z9 = true → (Fun Tryz.prog 173 [vI e.field, vI 1, vI 536870911] [] (.v z7) []) ∧ (.v z7 : S) = .v z3 ∧ z5 = []) ∧ (z9 = false → ((decide (e.kind = 4)) = true → (.v (vB (!decide (e.text = []))) : S) = .v z3 ∧ z5 = []) ∧ ((decide (e.kind = 4)) = false → ((decide (e.kind = 10)) = true → (.v (vB (decide (1 ≤ e.code))) : S) = .v z3 ∧ z5 = []) ∧ ((decide (e.kind = 10)) = false → (.v (vB true) : S) = .v z3 ∧ z5 = []))))))))) (by kernel_rfl) ?_
 refine ⟨fun h1 => have q1 := bnot_t h1; ?_, fun h1 => have q1 := bnot_f h1; ?_⟩
 refine ⟨(isEvent_i _), h1, (sB ?_), rfl⟩
 rotate_left
 refine ⟨fun h2 => have q2 := bnot_t h2; have p2 := (andF dT (andF dT (andF dT (andF dT (andF dT (andF dT dF)))))).1 q2; ?_, fun h2 => have q2 := bnot_f h2; have p2 := (andT dT (andT dT (andT dT (andT dT (andT dT (andT dT dT)))))).1 q2; ?_⟩
 have hib : isBare e = false := by rw [isBare_eq rfl]; exact q2
 refine ⟨(isEvent_i _), h1, (bareEv_i e), h2, (sB ?_), rfl⟩
 rotate_left
 have hib : isBare e = true := by rw [isBare_eq rfl]; exact q2
 refine dsp (fun h3 p3 => ?_) fun h3 p3 => ?_
 refine ⟨(isEvent_i _), h1, (bareEv_i e), h2, h3, (sB ?_), rfl⟩
 rotate_left
 refine ⟨(isEvent_i _), h1, (bareEv_i e), h2, h3, dsp (fun h4 p4 => ?_) fun h4 p4 => ?_⟩
 refine ⟨(sB ?_), rfl⟩
 rotate_left
 refine ⟨(hasField_i _), fun h5 => ?_, fun h5 => ?_⟩
 refine ⟨(within_i _ _ _), (sB ?_), rfl⟩
 rotate_left
 refine dsp (fun h6 p6 => ?_) fun h6 p6 => ?_
 refine ⟨(sB ?_), rfl⟩
 rotate_left
 refine dsp (fun h7 p7 => ?_) fun h7 p7 => ?_
 refine ⟨(sB ?_), rfl⟩
 rotate_left
 refine ⟨(sB ?_), rfl⟩
 rotate_left
 all_goals first | ((simp only [eventOk, hib]; simp [isEvent, hasField, *]; done)) | (grind [eventOk, hasField, isEvent])
structure eventOk_s_J0_V where
 want : Ev
def eventOk_s_J0_F (e : Ev) : Fam := ⟨eventOk_s_J0_V, fun j0 => [(1, .v (vP 0)), (3, .v (vP 1))], fun j0 => [.cells (cEv e), .cells (cEv j0.want)], fun j0 => j0.want = bareEv e, fun _ => 0⟩
theorem eventOk_s (e : Ev) : Fun Tryz.prog 148 [.agg (cEv e)] [] (.v (vB (eventOk e))) [] := by
 have hN : bigN = 274877906944 := rfl
 refine fun_ofw Tryz.func148 (by kernel_rfl) (by kernel_rfl) (w := let zi : Int → C := .int .i64; let z2 : List C := [.int .u64 0, zi e.len, .str [], zi 0, zi 0]; let z3 := vB (within e.field 1 536870911); let z4 := eventOk_s_J0_F e; let z5 := vB (eventOk e); let z6 := ([] : List Blk); let z7 := decide (e.kind = 3); let z8 := decide (e.kind = 2); let z9 : List Blk := [.cells (cEv e), .cells (zi e.kind :: zi e.field :: z2)]; let z10 := decide (e.kind = 10); let z11 := decide (e.kind = 6); let z12 := decide (e.kind = 4); let z13 : List V := [vI e.field, vI 1, vI 536870911]; let z14 := within e.kind 1 10; let z15 := (.v (vB false) : S); (.join 0 z4 (.br (.seg [.at 0, .keep [1, 3], .sel [0, 1]] (.next)) (.br (.seg [.at 0, .keep [1, 3], .sel [0, 1]] (.next)) (.br (.seg [.br true, .at 0, .keep [1, 3], .sel [0, 1]] (.next)) (.br (.seg [.at 0, .keep [1, 3], .sel [0, 1]] (.next)) (.br (.seg [.at 0, .keep [1, 3], .sel [0, 1]] (.next)) (.br (.seg [.at 0, .keep [1, 3], .sel [0, 1]] (.next)) (.br (.seg [.at 0, .keep [1, 3], .sel [0, 1]] (.next)) (.seg [.at 0, .keep [1, 3], .sel [0, 1]] (.next))))))))) fun j0 => .br (.leaf () []) (.seg [.call [] (.v (vB z14)) []] (.br (.leaf () []) (.br (.leaf () []) (.br (.leaf () []) (.br (.seg [.br true, .call [] (.v z3) []] (.leaf () [])) (.br (.seg [.br true, .call [] (.v z3) []] (.leaf () [])) (.br (.seg [.call [] (.v z3) []] (.leaf () [])) (.br (.leaf () []) (.br (.leaf () []) (.leaf () [])))))))))), (((decide (e.kind = 1)) = true → z4.Has [(1, .v (vP 0)), (3, .v (vP 1))] [.cells (cEv e), .cells (zi e.kind :: zi 0 :: z2)]) ∧ ((decide (e.kind = 1)) = false → (z8 = true → z4.Has [(1, .v (vP 0)), (3, .v (vP 1))] [.cells (cEv e), .cells [zi e.kind, zi e.field, .int .u64 e.bits, zi 0, .str [], zi 0, zi 0]]) ∧ (z8 = false → (z7 = true → (z7 = true) ∧ z4.Has [(1, .v (vP 0)), (3, .v (vP 1))] z9) ∧ (z7 = false → (z11 = true → z4.Has [(1, .v (vP 0)), (3, .v (vP 1))] z9) ∧ (z11 = false → (z12 = true → z4.Has [(1, .v (vP 0)), (3, .v (vP 1))] [.cells (cEv e), .cells [zi e.kind, zi 0, .int .u64 0, zi 0, .str e.text, zi 0, zi 0]]) ∧ (z12 = false → ((decide (e.kind = 9)) = true → z4.Has [(1, .v (vP 0)), (3, .v (vP 1))] [.cells (cEv e), .cells [zi e.kind, zi 0, .int .u64 0, zi 0, .str [], zi 0, zi e.at_]]) ∧ ((decide (e.kind = 9)) = false → (z10 = true → z4.Has [(1, .v (vP 0)), (3, .v (vP 1))] [.cells (cEv e), .cells [zi e.kind, zi 0, .int .u64 0, zi 0, .str [], zi e.code, zi e.at_]]) ∧ (z10 = false → z4.Has [(1, .v (vP 0)), (3, .v (vP 1))] [.cells (cEv e), .cells [zi e.kind, zi 0, .int .u64 0, zi 0, .str [], zi 0, zi 0]])))))))) ∧ ∀ j0, z4.inv j0 → (let z1 := !(decide (e.kind = j0.want.kind) && (decide (e.field = j0.want.field) && (decide (e.bits = j0.want.bits) && (decide (e.len = j0.want.len) && (decide (e.text = j0.want.text) && (decide (e.code = j0.want.code) && decide (e.at_ = j0.want.at_))))))); (z1 = true → z15 = .v z5 ∧ z6 = []) ∧ (z1 = false → (Fun Tryz.prog 105 [vI e.kind, vI 1, vI 10] [] (.v (vB z14)) []) ∧ ((!z14) = true → z15 = .v z5 ∧ z6 = []) ∧ ((!z14) = false → ((decide (e.len < 0)) = true → z15 = .v z5 ∧ z6 = []) ∧ ((decide (e.len < 0)) = false → ((decide (e.at_ < 0)) = true → z15 = .v z5 ∧ z6 = []) ∧ ((decide (e.at_ < 0)) = false → (z8 = true → (z8 = true) ∧ (Fun Tryz.prog 105 z13 [] (.v z3) []) ∧ (.v z3 : S) = .v z5 ∧ z6 = []) ∧ (z8 = false → (z7 = true → (z7 = true) ∧ (Fun Tryz.prog 105 z13 [] (.v z3) []) ∧ (.v z3 : S) = .v z5 ∧ z6 = []) ∧ (z7 = false → (z11 = true → (Fun Tryz.prog 105 z13 [] (.v z3) []) ∧ (.v z3 : S) = .v z5 ∧ z6 = []) ∧ (z11 = false → (z12 = true → (.v (vB (!decide (e.text = []))) : S) = .v z5 ∧ z6 = []) ∧ (z12 = false → (z10 = true → (.v (vB (decide (1 ≤ e.code))) : S) = .v z5 ∧ z6 = []) ∧ (z10 = false → (.v (vB true) : S) = .v z5 ∧ z6 = [])))))))))))) (by kernel_rfl) ?_
 refine ⟨?_, fun (j0 : eventOk_s_J0_V) hq_j0 => ?_⟩
 refine dsp (fun h2 p2 => ?_) fun h2 p2 => ?_
 exact has_of (j := (⟨(⟨e.kind, 0, 0, e.len, [], 0, 0⟩ : Ev)⟩ : eventOk_s_J0_V)) rfl (by first | rfl | simp) (by dsimp only [eventOk_s_J0_F]; first | ((simp_all [bareEv]; done)) | (grind [bareEv]))
 refine dsp (fun h3 p3 => ?_) fun h3 p3 => ?_
 exact has_of (j := (⟨(⟨e.kind, e.field, e.bits, 0, [], 0, 0⟩ : Ev)⟩ : eventOk_s_J0_V)) rfl (by first | rfl | simp) (by dsimp only [eventOk_s_J0_F]; first | ((simp_all [bareEv]; done)) | (grind [bareEv]))
 refine dsp (fun h4 p4 => ?_) fun h4 p4 => ?_
 exact ⟨h4, has_of (j := (⟨(⟨e.kind, e.field, 0, e.len, [], 0, 0⟩ : Ev)⟩ : eventOk_s_J0_V)) rfl (by first | rfl | simp) (by dsimp only [eventOk_s_J0_F]; first | ((simp_all [bareEv]; done)) | (grind [bareEv]))⟩
 refine dsp (fun h5 p5 => ?_) fun h5 p5 => ?_
 exact has_of (j := (⟨(⟨e.kind, e.field, 0, e.len, [], 0, 0⟩ : Ev)⟩ : eventOk_s_J0_V)) rfl (by first | rfl | simp) (by dsimp only [eventOk_s_J0_F]; first | ((simp_all [bareEv]; done)) | (grind [bareEv]))
 refine dsp (fun h6 p6 => ?_) fun h6 p6 => ?_
 exact has_of (j := (⟨(⟨e.kind, 0, 0, 0, e.text, 0, 0⟩ : Ev)⟩ : eventOk_s_J0_V)) rfl (by first | rfl | simp) (by dsimp only [eventOk_s_J0_F]; first | ((simp_all [bareEv]; done)) | (grind [bareEv]))
 refine dsp (fun h7 p7 => ?_) fun h7 p7 => ?_
 exact has_of (j := (⟨(⟨e.kind, 0, 0, 0, [], 0, e.at_⟩ : Ev)⟩ : eventOk_s_J0_V)) rfl (by first | rfl | simp) (by dsimp only [eventOk_s_J0_F]; first | ((simp_all [bareEv]; done)) | (grind [bareEv]))
 refine dsp (fun h8 p8 => ?_) fun h8 p8 => ?_
 exact has_of (j := (⟨(⟨e.kind, 0, 0, 0, [], e.code, e.at_⟩ : Ev)⟩ : eventOk_s_J0_V)) rfl (by first | rfl | simp) (by dsimp only [eventOk_s_J0_F]; first | ((simp_all [bareEv]; done)) | (grind [bareEv]))
 exact has_of (j := (⟨(⟨e.kind, 0, 0, 0, [], 0, 0⟩ : Ev)⟩ : eventOk_s_J0_V)) rfl (by first | rfl | simp) (by dsimp only [eventOk_s_J0_F]; first | ((simp_all [bareEv]; done)) | (grind [bareEv]))
 have hi_j0 : j0.want = bareEv e := hq_j0
 refine ⟨fun h2 => have q2 := bnot_t h2; have p2 := (andF dT (andF dT (andF dT (andF dT (andF dT (andF dT dF)))))).1 q2; ?_, fun h2 => have q2 := bnot_f h2; have p2 := (andT dT (andT dT (andT dT (andT dT (andT dT (andT dT dT)))))).1 q2; ?_⟩
 have hib : isBare e = false := by rw [isBare_eq hi_j0.symm]; exact q2
 refine ⟨(sB ?_), rfl⟩
 rotate_left
 have hib : isBare e = true := by rw [isBare_eq hi_j0.symm]; exact q2
 refine ⟨(within_s _ _ _), fun h3 => have q3 := bnot_t h3; have p3 := within_f q3; ?_, fun h3 => have q3 := bnot_f h3; have p3 := within_t q3; ?_⟩
 refine ⟨(sB ?_), rfl⟩
 rotate_left
 refine dsp (fun h4 p4 => ?_) fun h4 p4 => ?_
 refine ⟨(sB ?_), rfl⟩
 rotate_left
 refine dsp (fun h5 p5 => ?_) fun h5 p5 => ?_
 refine ⟨(sB ?_), rfl⟩
 rotate_left
 refine dsp (fun h6 p6 => ?_) fun h6 p6 => ?_
 refine ⟨h6, (within_s _ _ _), (sB ?_), rfl⟩
 rotate_left
 refine dsp (fun h7 p7 => ?_) fun h7 p7 => ?_
 refine ⟨h7, (within_s _ _ _), (sB ?_), rfl⟩
 rotate_left
 refine dsp (fun h8 p8 => ?_) fun h8 p8 => ?_
 refine ⟨(within_s _ _ _), (sB ?_), rfl⟩
 rotate_left
 refine dsp (fun h9 p9 => ?_) fun h9 p9 => ?_
 refine ⟨(sB ?_), rfl⟩
 rotate_left
 refine dsp (fun h10 p10 => ?_) fun h10 p10 => ?_
 refine ⟨(sB ?_), rfl⟩
 rotate_left
 refine ⟨(sB ?_), rfl⟩
 rotate_left
 all_goals first | ((simp only [eventOk, hib]; simp [isEvent, hasField, *]; done)) | (grind [eventOk, hasField, isEvent])
theorem scanOk_i (s : Scn) : Fun Tryz.prog 216 [.agg (cScn s)] [] (.v (vB (scanOk s))) [] := by
 have hN : bigN = 274877906944 := rfl
 refine fun_ofw Tryz.func216 (by kernel_rfl) (by kernel_rfl) (w := let z1 := 7 * s.have_; let z2 := within s.have_ 0 9; (.seg [.call [] (.v (vB z2)) []] (.br (.seg [.as 11 (.v (vI z1)), .as 12 (.v (.c (.int .u64 z1)))] (.leaf () [])) (.leaf () [])), (Fun Tryz.prog 173 [vI s.have_, vI 0, vI 9] [] (.v (vB z2)) []) ∧ (z2 = true → ((.v (vI (IntKind.i64.wrap z1)) : S) = .v (vI z1)) ∧ ((.v (.c (.int .u64 (IntKind.u64.wrap z1))) : S) = .v (.c (.int .u64 z1))) ∧ ((0 : Int) ≤ 7 * s.have_) ∧ (.v (vB (decide (Int.fdiv s.bits (2 ^ min (z1.toNat) 64) = 0))) : S) = .v (vB (scanOk s)) ∧ ([] : List Blk) = []) ∧ (z2 = false → (.v (vB false) : S) = .v (vB (scanOk s)) ∧ ([] : List Blk) = []))) (by kernel_rfl) ?_
 refine ⟨(within_i _ _ _), fun h1 => have p1 := within_t h1; ?_, fun h1 => have p1 := within_f h1; ?_⟩
 refine ⟨(as_i64 (by omega) (by omega)), (as_u64 (by omega) (by omega)), (by omega), (sB ?_), rfl⟩
 rotate_left
 refine ⟨(sB ?_), rfl⟩
 rotate_left
 all_goals first | (simp_all [scanOk]; done) | (grind [scanOk])
theorem scanOk_s (s : Scn) : Fun Tryz.prog 193 [.agg (cScn s)] [] (.v (vB (scanOk s))) [] := by
 have hN : bigN = 274877906944 := rfl
 refine fun_ofw Tryz.func193 (by kernel_rfl) (by kernel_rfl) (w := let z1 := 7 * s.have_; let z2 := within s.have_ 0 9; (.seg [.call [] (.v (vB z2)) []] (.br (.seg [.as 11 (.v (vI z1)), .as 12 (.v (.c (.int .u64 z1)))] (.leaf () [])) (.leaf () [])), (Fun Tryz.prog 105 [vI s.have_, vI 0, vI 9] [] (.v (vB z2)) []) ∧ (z2 = true → ((.v (vI (IntKind.i64.wrap z1)) : S) = .v (vI z1)) ∧ ((.v (.c (.int .u64 (IntKind.u64.wrap z1))) : S) = .v (.c (.int .u64 z1))) ∧ ((0 : Int) ≤ 7 * s.have_) ∧ (.v (vB (decide (Int.fdiv s.bits (2 ^ min (z1.toNat) 64) = 0))) : S) = .v (vB (scanOk s)) ∧ ([] : List Blk) = []) ∧ (z2 = false → (.v (vB false) : S) = .v (vB (scanOk s)) ∧ ([] : List Blk) = []))) (by kernel_rfl) ?_
 refine ⟨(within_s _ _ _), fun h1 => have p1 := within_t h1; ?_, fun h1 => have p1 := within_f h1; ?_⟩
 refine ⟨(as_i64 (by omega) (by omega)), (as_u64 (by omega) (by omega)), (by omega), (sB ?_), rfl⟩
 rotate_left
 refine ⟨(sB ?_), rfl⟩
 rotate_left
 all_goals first | (simp_all [scanOk]; done) | (grind [scanOk])
theorem widthD_i (d : Dcd) : Fun Tryz.prog 200 [.agg (cDcd d)] [] (.v (vI (widthD d))) [] := by
 have hN : bigN = 274877906944 := rfl
 refine fun_ofw Tryz.func200 (by kernel_rfl) (by kernel_rfl) (w := let z1 := wireOf d.field.kind; let z2 := vI (widthOf d.wire); (.br (.seg [.call [] (.v z2) []] (.leaf () [])) (.br (.seg [.call [] (.v (vI z1)) [], .call [] (.v (vI (widthOf z1))) []] (.leaf () [])) (.leaf () [])), ((decide (d.mode = 5)) = true → (Fun Tryz.prog 215 [vI d.wire] [] (.v z2) []) ∧ (.v z2 : S) = .v (vI (widthD d)) ∧ ([] : List Blk) = []) ∧ ((decide (d.mode = 5)) = false → ((decide (d.mode = 8)) = true → (Fun Tryz.prog 225 [vI d.field.kind] [] (.v (vI z1)) []) ∧ (Fun Tryz.prog 215 [vI z1] [] (.v (vI (widthOf z1))) []) ∧ (.v (vI (widthOf z1)) : S) = .v (vI (widthD d)) ∧ ([] : List Blk) = []) ∧ ((decide (d.mode = 8)) = false → (.v (vI 0) : S) = .v (vI (widthD d)) ∧ ([] : List Blk) = [])))) (by kernel_rfl) ?_
 refine dsp (fun h1 p1 => ?_) fun h1 p1 => ?_
 refine ⟨(widthOf_i _), (sI ?_), rfl⟩
 rotate_left
 refine dsp (fun h2 p2 => ?_) fun h2 p2 => ?_
 refine ⟨(wireOf_i _), (widthOf_i _), (sI ?_), rfl⟩
 rotate_left
 refine ⟨(sI ?_), rfl⟩
 rotate_left
 all_goals first | (simp_all [widthD]; done) | (grind [widthD])
theorem widthD_s (d : Dcd) : Fun Tryz.prog 106 [.agg (cDcd d)] [] (.v (vI (widthD d))) [] := by
 have hN : bigN = 274877906944 := rfl
 refine fun_ofw Tryz.func106 (by kernel_rfl) (by kernel_rfl) (w := let z1 := wireOf d.field.kind; let z2 := vI (widthOf d.wire); (.br (.seg [.call [] (.v z2) []] (.leaf () [])) (.br (.seg [.call [] (.v (vI z1)) [], .call [] (.v (vI (widthOf z1))) []] (.leaf () [])) (.leaf () [])), ((decide (d.mode = 5)) = true → (Fun Tryz.prog 150 [vI d.wire] [] (.v z2) []) ∧ (.v z2 : S) = .v (vI (widthD d)) ∧ ([] : List Blk) = []) ∧ ((decide (d.mode = 5)) = false → ((decide (d.mode = 8)) = true → (Fun Tryz.prog 154 [vI d.field.kind] [] (.v (vI z1)) []) ∧ (Fun Tryz.prog 150 [vI z1] [] (.v (vI (widthOf z1))) []) ∧ (.v (vI (widthOf z1)) : S) = .v (vI (widthD d)) ∧ ([] : List Blk) = []) ∧ ((decide (d.mode = 8)) = false → (.v (vI 0) : S) = .v (vI (widthD d)) ∧ ([] : List Blk) = [])))) (by kernel_rfl) ?_
 refine dsp (fun h1 p1 => ?_) fun h1 p1 => ?_
 refine ⟨(widthOf_s _), (sI ?_), rfl⟩
 rotate_left
 refine dsp (fun h2 p2 => ?_) fun h2 p2 => ?_
 refine ⟨(wireOf_s _), (widthOf_s _), (sI ?_), rfl⟩
 rotate_left
 refine ⟨(sI ?_), rfl⟩
 rotate_left
 all_goals first | (simp_all [widthD]; done) | (grind [widthD])
structure known_i_V0 where
 v : Nat
def known_i_F0 (p : Pln) (f : Fld) : Fam := ⟨known_i_V0, fun q1 => [(2, .v (vP 0)), (3, .v (vP 1)), (11, .v (vI (p.shapes.length : Int))), (12, .v (vI (q1.v : Int)))], fun _ => [.cells (cPln p), .cells (cFld f)], fun q1 => q1.v ≤ p.shapes.length ∧ knownN p.shapes f q1.v = false, fun q1 => p.shapes.length - q1.v⟩
theorem known_i (p : Pln) (f : Fld) (hp1 : List.length (p).shapes ≤ 1000) (hp2 : ∀ x ∈ (p).shapes, x.fields.length ≤ 1000) : Fun Tryz.prog 177 [.agg (cPln p), .agg (cFld f)] [] (.v (vB (known (p).shapes f))) [] := by
 have hN : bigN = 274877906944 := rfl
 refine fun_ofw Tryz.func177 (by kernel_rfl) (by kernel_rfl) (w := let z4 := (p.shapes.length : Int); let z5 : List Blk := [.cells (cPln p), .cells (cFld f)]; let z6 := known_i_F0 p f; (.seg [.at 0, .keep [2, 3, 11, 12], .sel [0, 1]] (.loop z6 fun q1 => let z1 := (q1.v : Int); .br (.seg [.call [] (.tup [.agg (cFld ((fieldAt p.shapes z1 f.number).getD fld0)), vB (fieldAt p.shapes z1 f.number).isSome]) []] (.br (.br (.leaf () []) (.seg [.as 30 (.v (vI (z1 + 1))), .at 0, .keep [2, 3, 11, 12], .sel [0, 1]] (.next))) (.seg [.as 30 (.v (vI (z1 + 1))), .at 0, .keep [2, 3, 11, 12], .sel [0, 1]] (.next)))) (.leaf () [])), z6.Has [(2, .v (vP 0)), (3, .v (vP 1)), (11, .v (vI z4)), (12, .v (vI 0))] z5 ∧ ∀ q1, z6.inv q1 → (let z3 := (q1.v : Int); let z2 := fieldAt p.shapes z3 f.number; ((decide (z3 < z4)) = true → (Fun Tryz.prog 209 [.agg [.seq .shp p.shapes], vI z3, vI f.number] [] (.tup [.agg (cFld (z2.getD fld0)), vB z2.isSome]) []) ∧ (z2.isSome = true → ((decide ((z2.getD fld0).number = f.number) && (decide ((z2.getD fld0).kind = f.kind) && (decide ((z2.getD fld0).rep = f.rep) && (decide ((z2.getD fld0).packed = f.packed) && decide ((z2.getD fld0).msg = f.msg))))) = true → (.v (vB true) : S) = .v (vB (known (p).shapes f)) ∧ ([] : List Blk) = []) ∧ ((decide ((z2.getD fld0).number = f.number) && (decide ((z2.getD fld0).kind = f.kind) && (decide ((z2.getD fld0).rep = f.rep) && (decide ((z2.getD fld0).packed = f.packed) && decide ((z2.getD fld0).msg = f.msg))))) = false → ((.v (vI (IntKind.i64.wrap (z3 + 1))) : S) = .v (vI (z3 + 1))) ∧ z6.Nxt q1 [(2, .v (vP 0)), (3, .v (vP 1)), (11, .v (vI z4)), (12, .v (vI (z3 + 1)))] z5)) ∧ (z2.isSome = false → ((.v (vI (IntKind.i64.wrap (z3 + 1))) : S) = .v (vI (z3 + 1))) ∧ z6.Nxt q1 [(2, .v (vP 0)), (3, .v (vP 1)), (11, .v (vI z4)), (12, .v (vI (z3 + 1)))] z5)) ∧ ((decide (z3 < z4)) = false → (.v (vB false) : S) = .v (vB (known (p).shapes f)) ∧ ([] : List Blk) = [])))) (by kernel_rfl) ?_
 refine ⟨has_of (j := (⟨0⟩ : known_i_V0)) (by first | rfl | simp) rfl (by dsimp only [known_i_F0]; exact ⟨by omega, rfl⟩), fun (q1 : known_i_V0) hq_q1 => ?_⟩
 have hi_q1 : q1.v ≤ p.shapes.length ∧ knownN p.shapes f q1.v = false := hq_q1
 obtain ⟨v1, v2⟩ := hi_q1
 refine dsp (fun h1 p1 => ?_) fun h1 p1 => ?_
 refine ⟨(fieldAt_i p.shapes _ _ (by omega) (by omega)), fun h2 => ?_, fun h2 => ?_⟩
 obtain ⟨o, ho⟩ := Option.isSome_iff_exists.1 h2
 have hg : (fieldAt p.shapes (q1.v : Int) f.number).getD fld0 = o := by rw [ho]; rfl
 refine ⟨fun h3 => have p3 := (andT dT (andT dT (andT dT (andT dT dT)))).1 h3; ?_, fun h3 => have p3 := (andF dT (andF dT (andF dT (andF dT dF)))).1 h3; ?_⟩
 rw [hg] at p3
 have hkk := known_of (by omega) (show (fieldAt p.shapes (q1.v : Int) f.number) = some f by rw [ho, fld_eq p3])
 refine ⟨(sB ?_), rfl⟩
 rotate_left
 rw [hg] at p3
 have hkn : knownN p.shapes f (q1.v + 1) = false := knownN_next v2 (by rw [ho]; intro e; exact fld_ne p3 (Option.some.inj e))
 exact ⟨(as_i64 (by omega) (by omega)), nxt_of (j := (⟨q1.v + 1⟩ : known_i_V0)) (by first | rfl | simp) rfl (by dsimp only [known_i_F0]; exact ⟨by omega, hkn⟩) (by dsimp only [known_i_F0]; omega)⟩
 have hkn : knownN p.shapes f (q1.v + 1) = false := knownN_next v2 (by intro e; rw [e] at h2; simp at h2)
 exact ⟨(as_i64 (by omega) (by omega)), nxt_of (j := (⟨q1.v + 1⟩ : known_i_V0)) (by first | rfl | simp) rfl (by dsimp only [known_i_F0]; exact ⟨by omega, hkn⟩) (by dsimp only [known_i_F0]; omega)⟩
 have hkk := known_no v2 (by omega)
 refine ⟨(sB ?_), rfl⟩
 rotate_left
 all_goals first | (exact hkk.symm) | (grind)
structure fieldOkD_s_V0 where
 i : Nat
def fieldOkD_s_F0 (d : Dcd) : Fam := ⟨fieldOkD_s_V0, fun q1 => [(1, .v (vP 0)), (3, .v (vI (q1.i : Int)))], fun _ => [.cells (cDcd d)], fun q1 => q1.i ≤ d.plan.shapes.length ∧ knownN d.plan.shapes d.field q1.i = false, fun q1 => d.plan.shapes.length - q1.i⟩
theorem fieldOkD_s (d : Dcd) (hp1 : List.length (d).plan.shapes ≤ 1000) (hp2 : ∀ x ∈ (d).plan.shapes, x.fields.length ≤ 1000) : Fun Tryz.prog 146 [.agg (cDcd d)] [] (.v (vB (decide ((d).field = fld0) || known (d).plan.shapes (d).field))) [] := by
 have hN : bigN = 274877906944 := rfl
 refine fun_ofw Tryz.func146 (by kernel_rfl) (by kernel_rfl) (w := let z5 := decide (d.field.number = 0) && (decide (d.field.kind = 0) && (decide (d.field.rep = false) && (decide (d.field.packed = false) && decide (d.field.msg = 0)))); let z6 := vB (decide ((d).field = fld0) || known (d).plan.shapes (d).field); let z7 := fieldOkD_s_F0 d; let z8 := (d.plan.shapes.length : Int); (.br (.leaf () []) (.seg [.at 0, .keep [1, 3], .sel [0]] (.loop z7 fun q1 => let z2 := (q1.i : Int); let z1 := fieldAt d.plan.shapes z2 d.field.number; .br (.seg [.call [] (.tup [.agg (cFld (z1.getD fld0)), vB z1.isSome]) []] (.br (.br (.leaf () []) (.seg [.as 18 (.v (vI (z2 + 1))), .at 0, .keep [1, 3], .sel [0]] (.next))) (.seg [.as 18 (.v (vI (z2 + 1))), .at 0, .keep [1, 3], .sel [0]] (.next)))) (.leaf () []))), (z5 = true → (.v (vB true) : S) = .v z6 ∧ ([] : List Blk) = []) ∧ (z5 = false → z7.Has [(1, .v (vP 0)), (3, .v (vI 0))] [.cells (cDcd d)] ∧ ∀ q1, z7.inv q1 → (let z4 := (q1.i : Int); let z3 := fieldAt d.plan.shapes z4 d.field.number; ((decide (z4 < z8)) = true → (Fun Tryz.prog 190 [.agg [.seq .shp d.plan.shapes], vI z4, vI d.field.number] [] (.tup [.agg (cFld (z3.getD fld0)), vB z3.isSome]) []) ∧ (z3.isSome = true → ((decide ((z3.getD fld0).number = d.field.number) && (decide ((z3.getD fld0).kind = d.field.kind) && (decide ((z3.getD fld0).rep = d.field.rep) && (decide ((z3.getD fld0).packed = d.field.packed) && decide ((z3.getD fld0).msg = d.field.msg))))) = true → (.v (vB true) : S) = .v z6 ∧ ([] : List Blk) = []) ∧ ((decide ((z3.getD fld0).number = d.field.number) && (decide ((z3.getD fld0).kind = d.field.kind) && (decide ((z3.getD fld0).rep = d.field.rep) && (decide ((z3.getD fld0).packed = d.field.packed) && decide ((z3.getD fld0).msg = d.field.msg))))) = false → ((.v (vI (IntKind.i64.wrap (z4 + 1))) : S) = .v (vI (z4 + 1))) ∧ z7.Nxt q1 [(1, .v (vP 0)), (3, .v (vI (z4 + 1)))] [.cells (cDcd d)])) ∧ (z3.isSome = false → ((.v (vI (IntKind.i64.wrap (z4 + 1))) : S) = .v (vI (z4 + 1))) ∧ z7.Nxt q1 [(1, .v (vP 0)), (3, .v (vI (z4 + 1)))] [.cells (cDcd d)])) ∧ ((decide (z4 < z8)) = false → (.v (vB false) : S) = .v z6 ∧ ([] : List Blk) = []))))) (by kernel_rfl) ?_
 refine ⟨fun h1 => have p1 := (andT dT (andT dT (andT dT (andT dT dT)))).1 h1; ?_, fun h1 => have p1 := (andF dT (andF dT (andF dT (andF dT dF)))).1 h1; ?_⟩
 refine ⟨(sB ?_), rfl⟩
 rotate_left
 refine ⟨has_of (j := (⟨0⟩ : fieldOkD_s_V0)) (by first | rfl | simp) rfl (by dsimp only [fieldOkD_s_F0]; exact ⟨by omega, rfl⟩), fun (q1 : fieldOkD_s_V0) hq_q1 => ?_⟩
 have hi_q1 : q1.i ≤ d.plan.shapes.length ∧ knownN d.plan.shapes d.field q1.i = false := hq_q1
 obtain ⟨v1, v2⟩ := hi_q1
 refine dsp (fun h2 p2 => ?_) fun h2 p2 => ?_
 refine ⟨(fieldAt_s d.plan.shapes _ _ (by omega) (by omega)), fun h3 => ?_, fun h3 => ?_⟩
 obtain ⟨o, ho⟩ := Option.isSome_iff_exists.1 h3
 have hg : (fieldAt d.plan.shapes (q1.i : Int) d.field.number).getD fld0 = o := by rw [ho]; rfl
 refine ⟨fun h4 => have p4 := (andT dT (andT dT (andT dT (andT dT dT)))).1 h4; ?_, fun h4 => have p4 := (andF dT (andF dT (andF dT (andF dT dF)))).1 h4; ?_⟩
 rw [hg] at p4
 have hkk := known_of (by omega) (show (fieldAt d.plan.shapes (q1.i : Int) d.field.number) = some d.field by rw [ho, fld_eq p4])
 refine ⟨(sB ?_), rfl⟩
 rotate_left
 rw [hg] at p4
 have hkn : knownN d.plan.shapes d.field (q1.i + 1) = false := knownN_next v2 (by rw [ho]; intro e; exact fld_ne p4 (Option.some.inj e))
 exact ⟨(as_i64 (by omega) (by omega)), nxt_of (j := (⟨q1.i + 1⟩ : fieldOkD_s_V0)) (by first | rfl | simp) rfl (by dsimp only [fieldOkD_s_F0]; exact ⟨by omega, hkn⟩) (by dsimp only [fieldOkD_s_F0]; omega)⟩
 have hkn : knownN d.plan.shapes d.field (q1.i + 1) = false := knownN_next v2 (by intro e; rw [e] at h3; simp at h3)
 exact ⟨(as_i64 (by omega) (by omega)), nxt_of (j := (⟨q1.i + 1⟩ : fieldOkD_s_V0)) (by first | rfl | simp) rfl (by dsimp only [fieldOkD_s_F0]; exact ⟨by omega, hkn⟩) (by dsimp only [fieldOkD_s_F0]; omega)⟩
 have hkk := known_no v2 (by omega)
 refine ⟨(sB ?_), rfl⟩
 rotate_left
 all_goals first | (simp [hkk]; done) | ((rw [hkk]; simp_all [fld0]; done)) | ((have hz := fld_zero p1; simp [hz]; done)) | (grind [fld0])
theorem scn_zero {s : Scn} : s = scn0 ↔ s.bits = 0 ∧ s.have_ = 0 := ⟨fun h => by subst h; exact ⟨rfl, rfl⟩, fun h => by cases s; simp_all [scn0]⟩
theorem fld_zeroI {f : Fld} : f = fld0 ↔ f.number = 0 ∧ f.kind = 0 ∧ f.rep = false ∧ f.packed = false ∧ f.msg = 0 := ⟨fun h => by subst h; exact ⟨rfl, rfl, rfl, rfl, rfl⟩, fld_zero⟩
theorem ev_zero {e : Ev} : e = ev0 ↔ e.kind = 0 ∧ e.field = 0 ∧ e.bits = 0 ∧ e.len = 0 ∧ e.text = [] ∧ e.code = 0 ∧ e.at_ = 0 := ⟨fun h => by subst h; exact ⟨rfl, rfl, rfl, rfl, rfl, rfl, rfl⟩, fun h => ev_eq h⟩
theorem widthD_b (d : Dcd) : 0 ≤ widthD d ∧ widthD d ≤ 8 := by
 unfold widthD
 have h1 := widthOf_b d.wire
 have h2 := widthOf_b (wireOf d.field.kind)
 split
 ·exact h1
 ·split
  ·exact h2
  ·omega
structure stackS_s_V0 where
 i : Nat
def stackS_s_F0 (d : Dcd) : Fam := ⟨stackS_s_V0, fun q1 => [(1, .v (vP 0)), (3, .v (vI (d.stack.length : Int))), (4, .v (vI (q1.i : Int)))], fun _ => [.cells (cDcd d)], fun q1 => q1.i ≤ d.stack.length ∧ levN (d.plan.shapes.length : Int) (List.drop q1.i d.stack) + q1.i = levN (d.plan.shapes.length : Int) d.stack, fun q1 => d.stack.length - q1.i⟩
theorem stackS_s (d : Dcd) (hp1 : List.length (d).stack ≤ bigN) (hp2 : List.length (d).plan.shapes ≤ 1000) : Fun Tryz.prog 147 [.agg (cDcd d)] [] (.v (vB (stackS d))) [] := by
 have hN : bigN = 274877906944 := rfl
 refine fun_ofw Tryz.func147 (by kernel_rfl) (by kernel_rfl) (w := let z7 := (d.plan.shapes.length : Int) - 1; let z8 := (d.stack.length : Int); let z9 := (.v (vI (IntKind.i64.wrap z7)) : S) = .v (vI z7); let z10 := within z8 1 d.plan.deep; let z11 := vB (stackS d); let z12 := ([] : List Blk); let z13 := stackS_s_F0 d; let z14 := (.v (vB false) : S); (.seg [.at 0, .keep [1, 3, 4], .sel [0]] (.loop z13 fun q1 => .br (.intro (fun (x1 : Lev) => d.stack[q1.i]? = some x1) fun x1 => let z1 := within x1.msg 0 z7; .case (!z1) (.seg [.ord (os 24 [12, 21]) [], .el .lev x1, .as 24 (.v (vI z7)), .call [] (.v (vB z1)) [], .br true] (.leaf () [])) (.seg [.ord (os 24 [12, 21]) [], .el .lev x1, .as 24 (.v (vI z7)), .call [] (.v (vB z1)) [], .br false, .el .lev x1, .call [] (.v (vB (within x1.left 0 2000))) []] (.br (.leaf () []) (.seg [.as 12 (.v (vI ((q1.i : Int) + 1))), .at 0, .keep [1, 3, 4], .sel [0]] (.next))))) (.br (.leaf () []) (.br (.leaf () []) (.seg [.call [] (.v (vB z10)) []] (.br (.seg [.call [] (.v (vI (topL d))) []] (.leaf () [])) (.leaf () [])))))), z13.Has [(1, .v (vP 0)), (3, .v (vI z8)), (4, .v (vI 0))] [.cells (cDcd d)] ∧ ∀ q1, z13.inv q1 → (let z6 := (q1.i : Int); ((decide (z6 < z8)) = true → (∃ (x1 : Lev), d.stack[q1.i]? = some x1) ∧ ∀ (x1 : Lev), (d.stack[q1.i]? = some x1) → (let z2 := within x1.msg 0 z7; let z3 := d.stack[q1.i]? = some x1; let z4 : List V := [vI x1.msg, vI 0, vI z7]; let z5 := within x1.left 0 2000; ((!z2) = true → z3 ∧ ((0 : Int) ≤ z6) ∧ z3 ∧ ((0 : Int) ≤ z6) ∧ z9 ∧ z9 ∧ (Fun Tryz.prog 105 z4 [] (.v (vB z2)) []) ∧ ((!z2) = true) ∧ z14 = .v z11 ∧ z12 = []) ∧ ((!z2) = false → z3 ∧ ((0 : Int) ≤ z6) ∧ z3 ∧ ((0 : Int) ≤ z6) ∧ z9 ∧ z9 ∧ (Fun Tryz.prog 105 z4 [] (.v (vB z2)) []) ∧ ((!z2) = false) ∧ z3 ∧ ((0 : Int) ≤ z6) ∧ z3 ∧ ((0 : Int) ≤ z6) ∧ (Fun Tryz.prog 105 [vI x1.left, vI 0, vI 2000] [] (.v (vB z5)) []) ∧ ((!z5) = true → z14 = .v z11 ∧ z12 = []) ∧ ((!z5) = false → ((.v (vI (IntKind.i64.wrap (z6 + 1))) : S) = .v (vI (z6 + 1))) ∧ z13.Nxt q1 [(1, .v (vP 0)), (3, .v (vI z8)), (4, .v (vI (z6 + 1)))] [.cells (cDcd d)])))) ∧ ((decide (z6 < z8)) = false → ((decide (d.mode = 1)) = true → (.v (vB (decide (z8 = 0))) : S) = .v z11 ∧ z12 = []) ∧ ((decide (d.mode = 1)) = false → ((decide (d.mode = 9)) = true → (.v (vB (decide (z8 ≤ d.plan.deep))) : S) = .v z11 ∧ z12 = []) ∧ ((decide (d.mode = 9)) = false → (Fun Tryz.prog 105 [vI z8, vI 1, vI d.plan.deep] [] (.v (vB z10)) []) ∧ (z10 = true → (Fun Tryz.prog 149 [.agg (cDcd d)] [] (.v (vI (topL d))) []) ∧ (.v (vB (decide (1 ≤ topL d))) : S) = .v z11 ∧ z12 = []) ∧ (z10 = false → z14 = .v z11 ∧ z12 = []))))))) (by kernel_rfl) ?_
 refine ⟨has_of (j := (⟨0⟩ : stackS_s_V0)) (by first | rfl | simp) rfl (by dsimp only [stackS_s_F0]; exact ⟨by omega, rfl⟩), fun (q1 : stackS_s_V0) hq_q1 => ?_⟩
 have hi_q1 : q1.i ≤ d.stack.length ∧ levN (d.plan.shapes.length : Int) (List.drop q1.i d.stack) + q1.i = levN (d.plan.shapes.length : Int) d.stack := hq_q1
 obtain ⟨v1, v2⟩ := hi_q1
 refine dsp (fun h1 p1 => ?_) fun h1 p1 => ?_
 refine ⟨(ax_get (l := d.stack) (i := q1.i) (by omega)), fun x1 hx1 => ?_⟩
 rw [drop_el hx1, levN_cons] at v2
 refine ⟨fun h2 => have q2 := bnot_t h2; have p2 := within_f q2; ?_, fun h2 => have q2 := bnot_f h2; have p2 := within_t q2; ?_⟩
 refine ⟨hx1, (by omega), hx1, (by omega), (as_i64 (by omega) (by omega)), (as_i64 (by omega) (by omega)), (within_s _ _ _), h2, (sB ?_), rfl⟩
 rotate_left
 refine ⟨hx1, (by omega), hx1, (by omega), (as_i64 (by omega) (by omega)), (as_i64 (by omega) (by omega)), (within_s _ _ _), h2, hx1, (by omega), hx1, (by omega), (within_s _ _ _), fun h3 => have q3 := bnot_t h3; have p3 := within_f q3; ?_, fun h3 => have q3 := bnot_f h3; have p3 := within_t q3; ?_⟩
 refine ⟨(sB ?_), rfl⟩
 rotate_left
 exact ⟨(as_i64 (by omega) (by omega)), nxt_of (j := (⟨q1.i + 1⟩ : stackS_s_V0)) (by first | rfl | simp) rfl (by dsimp only [stackS_s_F0]; exact ⟨by omega, by simp_all [levOk]; omega⟩) (by dsimp only [stackS_s_F0]; omega)⟩
 have hal : List.all d.stack (levOk (d.plan.shapes.length : Int)) = true := by rw [levN_all]; rw [List.drop_eq_nil_of_le (by omega)] at v2; simp only [levN] at v2; exact decide_eq_true (by omega)
 refine dsp (fun h2 p2 => ?_) fun h2 p2 => ?_
 refine ⟨(sB ?_), rfl⟩
 rotate_left
 refine dsp (fun h3 p3 => ?_) fun h3 p3 => ?_
 refine ⟨(sB ?_), rfl⟩
 rotate_left
 refine ⟨(within_s _ _ _), fun h4 => have p4 := within_t h4; ?_, fun h4 => have p4 := within_f h4; ?_⟩
 refine ⟨(topL_s d (by omega)), (sB ?_), rfl⟩
 rotate_left
 refine ⟨(sB ?_), rfl⟩
 rotate_left
 all_goals first | (simp_all [stackS]; done) | ((have hal : List.all d.stack (levOk (d.plan.shapes.length : Int)) = false := (by rw [levN_all]; rw [if_neg (by simp_all [levOk])] at v2; exact decide_eq_false (by have := congrArg List.length (drop_el hx1); simp only [List.length_drop, List.length_cons] at this; omega)); simp [stackS, hal]; done)) | (grind [stackS])
theorem scanS_s (d : Dcd) (hp1 : List.length (d).stack ≤ bigN) : Fun Tryz.prog 153 [.agg (cDcd d)] [] (.v (vB (scanS d))) [] := by
 have hN : bigN = 274877906944 := rfl
 have hwd := widthD_b d
 refine fun_ofw Tryz.func153 (by kernel_rfl) (by kernel_rfl) (w := let z3 := 8 * d.scan.have_; let z4 := decide (Int.fdiv d.scan.bits (2 ^ min (z3.toNat) 64) = 0); let z8 := vB (scanOk d.scan); let z9 := (.v (vB (decide (d.scan.bits = 0) && decide (d.scan.have_ = 0))) : S); let z10 := decide (d.mode = 8); let z11 := ([] : List Blk); let z12 := vB (scanS d); let z13 := widthD d - 1; let z2 := within d.scan.have_ 0 z13; let z5 := z2 = false → (.v (vB false) : S) = .v z12 ∧ z11 = []; let z14 := (.v (.c (.int .u64 (IntKind.u64.wrap z3))) : S) = .v (.c (.int .u64 z3)); let z15 := decide (widthD d = 0); let z16 := z4 = false → (.v (vB false) : S) = .v z12 ∧ z11 = []; let z17 := vI (topL d); let z18 : List V := [vI d.scan.have_, vI 0, vI z13]; let z19 := (.v (vI (IntKind.i64.wrap z3)) : S) = .v (vI z3); let z21 := decide (d.mode = 6); let z22 := decide (d.mode = 7); let z23 := decide (d.mode = 5); let z24 := widthD d; let z6 := (.v (vI (IntKind.i64.wrap (z24 - 1))) : S) = .v (vI z13); let z7 := z24 - d.scan.have_; let z20 := (.v (vI (IntKind.i64.wrap z7)) : S) = .v (vI z7); let z1 := z2 = true → z19 ∧ z14 ∧ ((0 : Int) ≤ 8 * d.scan.have_) ∧ (z4 = true → z20 ∧ (.v (vB (decide (z24 - d.scan.have_ ≤ d.want))) : S) = .v z12 ∧ z11 = []) ∧ z16; (.seg [.call [] (.v (vI z24)) []] (.br (.seg [.br true] (.leaf () [])) (.br (.seg [.br true] (.leaf () [])) (.br (.leaf () []) (.br (.seg [.br true] (.br (.br (.seg [.call [] (.v z8) []] (.leaf () [])) (.seg [.call [] (.v z17) [], .br true, .as 41 (.v (vI z13)), .call [] (.v (vB z2)) []] (.br (.seg [.as 50 (.v (vI z3)), .as 51 (.v (.c (.int .u64 z3)))] (.br (.seg [.as 60 (.v (vI z7))] (.leaf () [])) (.leaf () []))) (.leaf () [])))) (.seg [.call [] (.v z17) [], .br false, .as 41 (.v (vI z13)), .call [] (.v (vB z2)) []] (.br (.seg [.as 50 (.v (vI z3)), .as 51 (.v (.c (.int .u64 z3)))] (.br (.seg [.as 60 (.v (vI z7))] (.leaf () [])) (.leaf () []))) (.leaf () []))))) (.br (.seg [.br true] (.br (.seg [.call [] (.v z8) []] (.leaf () [])) (.seg [.call [] (.v z17) [], .br true, .as 41 (.v (vI z13)), .call [] (.v (vB z2)) []] (.br (.seg [.as 50 (.v (vI z3)), .as 51 (.v (.c (.int .u64 z3)))] (.br (.seg [.as 60 (.v (vI z7))] (.leaf () [])) (.leaf () []))) (.leaf () []))))) (.seg [.call [] (.v z8) []] (.leaf () []))))))), (Fun Tryz.prog 106 [.agg (cDcd d)] [] (.v (vI z24)) []) ∧ (z21 = true → (z21 = true) ∧ z9 = .v z12 ∧ z11 = []) ∧ (z21 = false → (z22 = true → (z22 = true) ∧ z9 = .v z12 ∧ z11 = []) ∧ (z22 = false → ((decide (d.mode = 9)) = true → z9 = .v z12 ∧ z11 = []) ∧ ((decide (d.mode = 9)) = false → (z23 = true → (z23 = true) ∧ (z10 = true → (z15 = true → (Fun Tryz.prog 193 [.agg (cScn d.scan)] [] (.v z8) []) ∧ (.v z8 : S) = .v z12 ∧ z11 = []) ∧ (z15 = false → (Fun Tryz.prog 149 [.agg (cDcd d)] [] (.v z17) []) ∧ (z10 = true) ∧ z6 ∧ (Fun Tryz.prog 105 z18 [] (.v (vB z2)) []) ∧ z1 ∧ z5)) ∧ (z10 = false → (Fun Tryz.prog 149 [.agg (cDcd d)] [] (.v z17) []) ∧ (z10 = false) ∧ z6 ∧ (Fun Tryz.prog 105 z18 [] (.v (vB z2)) []) ∧ (z2 = true → z19 ∧ z14 ∧ ((0 : Int) ≤ 8 * d.scan.have_) ∧ (z4 = true → z20 ∧ (.v (vB (decide (z24 - d.scan.have_ ≤ topL d))) : S) = .v z12 ∧ z11 = []) ∧ z16) ∧ z5)) ∧ (z23 = false → (z10 = true → (z10 = true) ∧ (z15 = true → (Fun Tryz.prog 193 [.agg (cScn d.scan)] [] (.v z8) []) ∧ (.v z8 : S) = .v z12 ∧ z11 = []) ∧ (z15 = false → (Fun Tryz.prog 149 [.agg (cDcd d)] [] (.v z17) []) ∧ (z10 = true) ∧ z6 ∧ (Fun Tryz.prog 105 z18 [] (.v (vB z2)) []) ∧ z1 ∧ z5)) ∧ (z10 = false → (Fun Tryz.prog 193 [.agg (cScn d.scan)] [] (.v z8) []) ∧ (.v z8 : S) = .v z12 ∧ z11 = []))))))) (by kernel_rfl) ?_
 refine ⟨(widthD_s d), dsp (fun h1 p1 => ?_) fun h1 p1 => ?_⟩
 refine ⟨h1, (sB ?_), rfl⟩
 rotate_left
 refine dsp (fun h2 p2 => ?_) fun h2 p2 => ?_
 refine ⟨h2, (sB ?_), rfl⟩
 rotate_left
 refine dsp (fun h3 p3 => ?_) fun h3 p3 => ?_
 refine ⟨(sB ?_), rfl⟩
 rotate_left
 refine dsp (fun h4 p4 => ?_) fun h4 p4 => ?_
 refine ⟨h4, dsp (fun h5 p5 => ?_) fun h5 p5 => ?_⟩
 refine dsp (fun h6 p6 => ?_) fun h6 p6 => ?_
 refine ⟨(scanOk_s d.scan), (sB ?_), rfl⟩
 rotate_left
 refine ⟨(topL_s d (by omega)), h5, (as_i64 (by omega) (by omega)), (within_s _ _ _), fun h7 => have p7 := within_t h7; ?_, fun h7 => have p7 := within_f h7; ?_⟩
 refine ⟨(as_i64 (by omega) (by omega)), (as_u64 (by omega) (by omega)), (by omega), dsp (fun h8 p8 => ?_) fun h8 p8 => ?_⟩
 refine ⟨(as_i64 (by omega) (by omega)), (sB ?_), rfl⟩
 rotate_left
 refine ⟨(sB ?_), rfl⟩
 rotate_left
 refine ⟨(sB ?_), rfl⟩
 rotate_left
 refine ⟨(topL_s d (by omega)), h5, (as_i64 (by omega) (by omega)), (within_s _ _ _), fun h6 => have p6 := within_t h6; ?_, fun h6 => have p6 := within_f h6; ?_⟩
 refine ⟨(as_i64 (by omega) (by omega)), (as_u64 (by omega) (by omega)), (by omega), dsp (fun h7 p7 => ?_) fun h7 p7 => ?_⟩
 refine ⟨(as_i64 (by omega) (by omega)), (sB ?_), rfl⟩
 rotate_left
 refine ⟨(sB ?_), rfl⟩
 rotate_left
 refine ⟨(sB ?_), rfl⟩
 rotate_left
 refine dsp (fun h5 p5 => ?_) fun h5 p5 => ?_
 refine ⟨h5, dsp (fun h6 p6 => ?_) fun h6 p6 => ?_⟩
 refine ⟨(scanOk_s d.scan), (sB ?_), rfl⟩
 rotate_left
 refine ⟨(topL_s d (by omega)), h5, (as_i64 (by omega) (by omega)), (within_s _ _ _), fun h7 => have p7 := within_t h7; ?_, fun h7 => have p7 := within_f h7; ?_⟩
 refine ⟨(as_i64 (by omega) (by omega)), (as_u64 (by omega) (by omega)), (by omega), dsp (fun h8 p8 => ?_) fun h8 p8 => ?_⟩
 refine ⟨(as_i64 (by omega) (by omega)), (sB ?_), rfl⟩
 rotate_left
 refine ⟨(sB ?_), rfl⟩
 rotate_left
 refine ⟨(sB ?_), rfl⟩
 rotate_left
 refine ⟨(scanOk_s d.scan), (sB ?_), rfl⟩
 rotate_left
 all_goals first | (simp_all [scanS, fixS, roomD, scn_zero]; done) | (grind [scanS, fixS, roomD, scn_zero])
theorem scanD_i (d : Dcd) (hp1 : List.length (d).stack ≤ bigN) : Fun Tryz.prog 181 [.agg (cDcd d)] [] (.v (vB (scanD d))) [] := by
 have hN : bigN = 274877906944 := rfl
 have hwd := widthD_b d
 refine fun_ofw Tryz.func181 (by kernel_rfl) (by kernel_rfl) (w := let z3 := 8 * d.scan.have_; let z2 := decide (Int.fdiv d.scan.bits (2 ^ min (z3.toNat) 64) = 0); let z4 := (.v (vB (decide (d.scan.bits = 0) && decide (d.scan.have_ = 0))) : S); let z6 := ([] : List Blk); let z7 := vB (scanD d); let z9 := (.v (.c (.int .u64 (IntKind.u64.wrap z3))) : S) = .v (.c (.int .u64 z3)); let z10 := widthD d - 1; let z1 := within d.scan.have_ 0 z10; let z11 := z2 = false → (.v (vB false) : S) = .v z7 ∧ z6 = []; let z12 := z1 = false → (.v (vB false) : S) = .v z7 ∧ z6 = []; let z13 := (.v (vI (IntKind.i64.wrap z3)) : S) = .v (vI z3); let z15 := widthD d; let z5 := z15 - d.scan.have_; let z8 := (.v (vI (IntKind.i64.wrap (z15 - 1))) : S) = .v (vI z10); let z14 := (.v (vI (IntKind.i64.wrap z5)) : S) = .v (vI z5); let z16 := vB (scanOk d.scan); (.seg [.call [] (.v (vI z15)) []] (.br (.seg [.call [] (.v (vI (topL d))) []] (.br (.seg [.as 21 (.v (vI z10)), .call [] (.v (vB z1)) []] (.br (.seg [.as 30 (.v (vI z3)), .as 31 (.v (.c (.int .u64 z3)))] (.br (.seg [.as 40 (.v (vI z5))] (.leaf () [])) (.leaf () []))) (.leaf () []))) (.seg [.as 21 (.v (vI z10)), .call [] (.v (vB z1)) []] (.br (.seg [.as 30 (.v (vI z3)), .as 31 (.v (.c (.int .u64 z3)))] (.br (.seg [.as 40 (.v (vI z5))] (.leaf () [])) (.leaf () []))) (.leaf () []))))) (.br (.leaf () []) (.br (.leaf () []) (.br (.leaf () []) (.seg [.call [] (.v z16) []] (.leaf () [])))))), (Fun Tryz.prog 200 [.agg (cDcd d)] [] (.v (vI z15)) []) ∧ ((decide (0 < widthD d)) = true → (Fun Tryz.prog 179 [.agg (cDcd d)] [] (.v (vI (topL d))) []) ∧ ((decide (d.mode = 8)) = true → z8 ∧ (Fun Tryz.prog 173 [vI d.scan.have_, vI 0, vI z10] [] (.v (vB z1)) []) ∧ (z1 = true → z13 ∧ z9 ∧ ((0 : Int) ≤ 8 * d.scan.have_) ∧ (z2 = true → z14 ∧ (.v (vB (decide (z15 - d.scan.have_ ≤ d.want))) : S) = .v z7 ∧ z6 = []) ∧ z11) ∧ z12) ∧ ((decide (d.mode = 8)) = false → z8 ∧ (Fun Tryz.prog 173 [vI d.scan.have_, vI 0, vI z10] [] (.v (vB z1)) []) ∧ (z1 = true → z13 ∧ z9 ∧ ((0 : Int) ≤ 8 * d.scan.have_) ∧ (z2 = true → z14 ∧ (.v (vB (decide (z15 - d.scan.have_ ≤ topL d))) : S) = .v z7 ∧ z6 = []) ∧ z11) ∧ z12)) ∧ ((decide (0 < widthD d)) = false → ((decide (d.mode = 6)) = true → z4 = .v z7 ∧ z6 = []) ∧ ((decide (d.mode = 6)) = false → ((decide (d.mode = 7)) = true → z4 = .v z7 ∧ z6 = []) ∧ ((decide (d.mode = 7)) = false → ((decide (d.mode = 9)) = true → z4 = .v z7 ∧ z6 = []) ∧ ((decide (d.mode = 9)) = false → (Fun Tryz.prog 216 [.agg (cScn d.scan)] [] (.v z16) []) ∧ (.v z16 : S) = .v z7 ∧ z6 = [])))))) (by kernel_rfl) ?_
 refine ⟨(widthD_i d), dsp (fun h1 p1 => ?_) fun h1 p1 => ?_⟩
 refine ⟨(topL_i d (by omega)), dsp (fun h2 p2 => ?_) fun h2 p2 => ?_⟩
 refine ⟨(as_i64 (by omega) (by omega)), (within_i _ _ _), fun h3 => have p3 := within_t h3; ?_, fun h3 => have p3 := within_f h3; ?_⟩
 refine ⟨(as_i64 (by omega) (by omega)), (as_u64 (by omega) (by omega)), (by omega), dsp (fun h4 p4 => ?_) fun h4 p4 => ?_⟩
 refine ⟨(as_i64 (by omega) (by omega)), (sB ?_), rfl⟩
 rotate_left
 refine ⟨(sB ?_), rfl⟩
 rotate_left
 refine ⟨(sB ?_), rfl⟩
 rotate_left
 refine ⟨(as_i64 (by omega) (by omega)), (within_i _ _ _), fun h3 => have p3 := within_t h3; ?_, fun h3 => have p3 := within_f h3; ?_⟩
 refine ⟨(as_i64 (by omega) (by omega)), (as_u64 (by omega) (by omega)), (by omega), dsp (fun h4 p4 => ?_) fun h4 p4 => ?_⟩
 refine ⟨(as_i64 (by omega) (by omega)), (sB ?_), rfl⟩
 rotate_left
 refine ⟨(sB ?_), rfl⟩
 rotate_left
 refine ⟨(sB ?_), rfl⟩
 rotate_left
 refine dsp (fun h2 p2 => ?_) fun h2 p2 => ?_
 refine ⟨(sB ?_), rfl⟩
 rotate_left
 refine dsp (fun h3 p3 => ?_) fun h3 p3 => ?_
 refine ⟨(sB ?_), rfl⟩
 rotate_left
 refine dsp (fun h4 p4 => ?_) fun h4 p4 => ?_
 refine ⟨(sB ?_), rfl⟩
 rotate_left
 refine ⟨(scanOk_i d.scan), (sB ?_), rfl⟩
 rotate_left
 all_goals first | (simp_all [scanD, roomD, scn_zero]; done) | (grind [scanD, roomD, scn_zero])
theorem modeD_i (d : Dcd) (hp1 : List.length (d).stack ≤ bigN) : Fun Tryz.prog 180 [.agg (cDcd d)] [] (.v (vB (wantD d && kindD d))) [] := by
 have hN : bigN = 274877906944 := rfl
 have hww : widthOf d.wire = 0 ∨ 0 ≤ d.wire := by unfold widthOf; split <;> (try split) <;> omega
 refine fun_ofw Tryz.func180 (by kernel_rfl) (by kernel_rfl) (w := let z1 := !(!(decide (d.field.number = 0) && (decide (d.field.kind = 0) && (decide (d.field.rep = false) && (decide (d.field.packed = false) && decide (d.field.msg = 0)))))); let z2 := vB (wantD d && kindD d); let z3 := vB (allowed d.field d.wire); let z4 := ([] : List Blk); let z5 := within d.want 1 (topL d); let z7 := (.v (vB false) : S); let z8 := decide (d.mode = 6); let z9 := decide (d.mode = 8); let z10 := vB (runs d.field); let z11 := decide (0 < widthOf d.wire); let z12 := cFld d.field; let z13 := (!z5) = true → z7 = .v z2 ∧ z4 = []; let z15 := vI (widthOf d.wire); let z16 := decide (d.mode = 3); let z17 := decide (d.wire = 0); let z18 := decide (d.mode = 4); let z19 := decide (d.wire = 2); let z20 := vI (topL d); let z21 : List V := [vI d.want, vI 1, vI (topL d)]; let z22 := (.v z3 : S); let z23 := decide (d.mode = 7); let z24 := decide (d.mode = 5); let z25 := z17 = false → z7 = .v z2 ∧ z4 = []; let z26 := z19 = false → z7 = .v z2 ∧ z4 = []; let z27 := z11 = false → z7 = .v z2 ∧ z4 = []; let z28 := (.v (vB true) : S); let z6 := z1 = true → z28 = .v z2 ∧ z4 = []; let z14 := z24 = false → z28 = .v z2 ∧ z4 = []; (.br (.seg [.br true, .ord (os 6 [3, 4]) [], .call [] (.v z20) [], .call [] (.v (vB z5)) []] (.br (.leaf () []) (.seg [.br true] (.br (.leaf () []) (.leaf () []))))) (.br (.seg [.br true, .ord (os 6 [3, 4]) [], .call [] (.v z20) [], .call [] (.v (vB z5)) []] (.br (.leaf () []) (.seg [.br false] (.br (.seg [.call [] (.v z10) []] (.leaf () [])) (.br (.br (.br (.leaf () []) (.seg [.call [] (.v z3) []] (.leaf () []))) (.leaf () [])) (.br (.br (.br (.leaf () []) (.seg [.call [] (.v z3) []] (.leaf () []))) (.leaf () [])) (.br (.seg [.call [] (.v z15) []] (.br (.br (.leaf () []) (.seg [.call [] (.v z3) []] (.leaf () []))) (.leaf () []))) (.leaf () [])))))))) (.br (.seg [.ord (os 6 [3, 4]) [], .call [] (.v z20) [], .call [] (.v (vB z5)) []] (.br (.leaf () []) (.seg [.br false, .br true, .call [] (.v z10) []] (.leaf () [])))) (.br (.leaf () []) (.seg [.br false, .br false] (.br (.br (.br (.leaf () []) (.seg [.call [] (.v z3) []] (.leaf () []))) (.leaf () [])) (.br (.br (.br (.leaf () []) (.seg [.call [] (.v z3) []] (.leaf () []))) (.leaf () [])) (.br (.seg [.call [] (.v z15) []] (.br (.br (.leaf () []) (.seg [.call [] (.v z3) []] (.leaf () []))) (.leaf () []))) (.leaf () [])))))))), (z8 = true → (z8 = true) ∧ (Fun Tryz.prog 179 [.agg (cDcd d)] [] (.v z20) []) ∧ (Fun Tryz.prog 173 z21 [] (.v (vB z5)) []) ∧ z13 ∧ ((!z5) = false → (z8 = true) ∧ ((decide (d.field.kind = 6)) = true → z28 = .v z2 ∧ z4 = []) ∧ ((decide (d.field.kind = 6)) = false → (.v (vB (decide (d.field.kind = 7))) : S) = .v z2 ∧ z4 = []))) ∧ (z8 = false → (z23 = true → (z23 = true) ∧ (Fun Tryz.prog 179 [.agg (cDcd d)] [] (.v z20) []) ∧ (Fun Tryz.prog 173 z21 [] (.v (vB z5)) []) ∧ z13 ∧ ((!z5) = false → (z8 = false) ∧ (z9 = true → (Fun Tryz.prog 213 [.agg z12] [] (.v z10) []) ∧ (.v z10 : S) = .v z2 ∧ z4 = []) ∧ (z9 = false → (z16 = true → (z17 = true → z6 ∧ (z1 = false → (Fun Tryz.prog 214 [.agg z12, vI d.wire] [] (.v z3) []) ∧ z22 = .v z2 ∧ z4 = [])) ∧ z25) ∧ (z16 = false → (z18 = true → (z19 = true → z6 ∧ (z1 = false → (Fun Tryz.prog 214 [.agg z12, vI d.wire] [] (.v z3) []) ∧ z22 = .v z2 ∧ z4 = [])) ∧ z26) ∧ (z18 = false → (z24 = true → (Fun Tryz.prog 215 [vI d.wire] [] (.v z15) []) ∧ (z11 = true → z6 ∧ (z1 = false → (Fun Tryz.prog 214 [.agg z12, vI d.wire] [] (.v z3) []) ∧ z22 = .v z2 ∧ z4 = [])) ∧ z27) ∧ z14))))) ∧ (z23 = false → (z9 = true → (Fun Tryz.prog 179 [.agg (cDcd d)] [] (.v z20) []) ∧ (Fun Tryz.prog 173 z21 [] (.v (vB z5)) []) ∧ z13 ∧ ((!z5) = false → (z8 = false) ∧ (z9 = true) ∧ (Fun Tryz.prog 213 [.agg z12] [] (.v z10) []) ∧ (.v z10 : S) = .v z2 ∧ z4 = [])) ∧ (z9 = false → ((!decide (d.want = 0)) = true → z7 = .v z2 ∧ z4 = []) ∧ ((!decide (d.want = 0)) = false → (z8 = false) ∧ (z9 = false) ∧ (z16 = true → (z17 = true → z6 ∧ (z1 = false → (Fun Tryz.prog 214 [.agg z12, vI d.wire] [] (.v z3) []) ∧ z22 = .v z2 ∧ z4 = [])) ∧ z25) ∧ (z16 = false → (z18 = true → (z19 = true → z6 ∧ (z1 = false → (Fun Tryz.prog 214 [.agg z12, vI d.wire] [] (.v z3) []) ∧ z22 = .v z2 ∧ z4 = [])) ∧ z26) ∧ (z18 = false → (z24 = true → (Fun Tryz.prog 215 [vI d.wire] [] (.v z15) []) ∧ (z11 = true → z6 ∧ (z1 = false → (Fun Tryz.prog 214 [.agg z12, vI d.wire] [] (.v z3) []) ∧ z22 = .v z2 ∧ z4 = [])) ∧ z27) ∧ z14)))))))) (by kernel_rfl) ?_
 refine dsp (fun h1 p1 => ?_) fun h1 p1 => ?_
 refine ⟨h1, (topL_i d (by omega)), (within_i _ _ _), fun h2 => have q2 := bnot_t h2; have p2 := within_f q2; ?_, fun h2 => have q2 := bnot_f h2; have p2 := within_t q2; ?_⟩
 refine ⟨(sB ?_), rfl⟩
 rotate_left
 refine ⟨h1, dsp (fun h3 p3 => ?_) fun h3 p3 => ?_⟩
 refine ⟨(sB ?_), rfl⟩
 rotate_left
 refine ⟨(sB ?_), rfl⟩
 rotate_left
 refine dsp (fun h2 p2 => ?_) fun h2 p2 => ?_
 refine ⟨h2, (topL_i d (by omega)), (within_i _ _ _), fun h3 => have q3 := bnot_t h3; have p3 := within_f q3; ?_, fun h3 => have q3 := bnot_f h3; have p3 := within_t q3; ?_⟩
 refine ⟨(sB ?_), rfl⟩
 rotate_left
 refine ⟨h1, dsp (fun h4 p4 => ?_) fun h4 p4 => ?_⟩
 refine ⟨(runs_i d.field), (sB ?_), rfl⟩
 rotate_left
 refine dsp (fun h5 p5 => ?_) fun h5 p5 => ?_
 refine dsp (fun h6 p6 => ?_) fun h6 p6 => ?_
 refine ⟨fun h7 => have q7 := bnot_t h7; have q7' := bnot_f q7; have p7 := (andT dT (andT dT (andT dT (andT dT dT)))).1 q7'; ?_, fun h7 => have q7 := bnot_f h7; have q7' := bnot_t q7; have p7 := (andF dT (andF dT (andF dT (andF dT dF)))).1 q7'; ?_⟩
 refine ⟨(sB ?_), rfl⟩
 rotate_left
 refine ⟨(allowed_i d.field _ (by omega)), (sB ?_), rfl⟩
 rotate_left
 refine ⟨(sB ?_), rfl⟩
 rotate_left
 refine dsp (fun h6 p6 => ?_) fun h6 p6 => ?_
 refine dsp (fun h7 p7 => ?_) fun h7 p7 => ?_
 refine ⟨fun h8 => have q8 := bnot_t h8; have q8' := bnot_f q8; have p8 := (andT dT (andT dT (andT dT (andT dT dT)))).1 q8'; ?_, fun h8 => have q8 := bnot_f h8; have q8' := bnot_t q8; have p8 := (andF dT (andF dT (andF dT (andF dT dF)))).1 q8'; ?_⟩
 refine ⟨(sB ?_), rfl⟩
 rotate_left
 refine ⟨(allowed_i d.field _ (by omega)), (sB ?_), rfl⟩
 rotate_left
 refine ⟨(sB ?_), rfl⟩
 rotate_left
 refine dsp (fun h7 p7 => ?_) fun h7 p7 => ?_
 refine ⟨(widthOf_i _), dsp (fun h8 p8 => ?_) fun h8 p8 => ?_⟩
 refine ⟨fun h9 => have q9 := bnot_t h9; have q9' := bnot_f q9; have p9 := (andT dT (andT dT (andT dT (andT dT dT)))).1 q9'; ?_, fun h9 => have q9 := bnot_f h9; have q9' := bnot_t q9; have p9 := (andF dT (andF dT (andF dT (andF dT dF)))).1 q9'; ?_⟩
 refine ⟨(sB ?_), rfl⟩
 rotate_left
 refine ⟨(allowed_i d.field _ (by omega)), (sB ?_), rfl⟩
 rotate_left
 refine ⟨(sB ?_), rfl⟩
 rotate_left
 refine ⟨(sB ?_), rfl⟩
 rotate_left
 refine dsp (fun h3 p3 => ?_) fun h3 p3 => ?_
 refine ⟨(topL_i d (by omega)), (within_i _ _ _), fun h4 => have q4 := bnot_t h4; have p4 := within_f q4; ?_, fun h4 => have q4 := bnot_f h4; have p4 := within_t q4; ?_⟩
 refine ⟨(sB ?_), rfl⟩
 rotate_left
 refine ⟨h1, h3, (runs_i d.field), (sB ?_), rfl⟩
 rotate_left
 refine ⟨fun h4 => have q4 := bnot_t h4; have p4 := of_decide_eq_false q4; ?_, fun h4 => have q4 := bnot_f h4; have p4 := of_decide_eq_true q4; ?_⟩
 refine ⟨(sB ?_), rfl⟩
 rotate_left
 refine ⟨h1, h3, dsp (fun h5 p5 => ?_) fun h5 p5 => ?_⟩
 refine dsp (fun h6 p6 => ?_) fun h6 p6 => ?_
 refine ⟨fun h7 => have q7 := bnot_t h7; have q7' := bnot_f q7; have p7 := (andT dT (andT dT (andT dT (andT dT dT)))).1 q7'; ?_, fun h7 => have q7 := bnot_f h7; have q7' := bnot_t q7; have p7 := (andF dT (andF dT (andF dT (andF dT dF)))).1 q7'; ?_⟩
 refine ⟨(sB ?_), rfl⟩
 rotate_left
 refine ⟨(allowed_i d.field _ (by omega)), (sB ?_), rfl⟩
 rotate_left
 refine ⟨(sB ?_), rfl⟩
 rotate_left
 refine dsp (fun h6 p6 => ?_) fun h6 p6 => ?_
 refine dsp (fun h7 p7 => ?_) fun h7 p7 => ?_
 refine ⟨fun h8 => have q8 := bnot_t h8; have q8' := bnot_f q8; have p8 := (andT dT (andT dT (andT dT (andT dT dT)))).1 q8'; ?_, fun h8 => have q8 := bnot_f h8; have q8' := bnot_t q8; have p8 := (andF dT (andF dT (andF dT (andF dT dF)))).1 q8'; ?_⟩
 refine ⟨(sB ?_), rfl⟩
 rotate_left
 refine ⟨(allowed_i d.field _ (by omega)), (sB ?_), rfl⟩
 rotate_left
 refine ⟨(sB ?_), rfl⟩
 rotate_left
 refine dsp (fun h7 p7 => ?_) fun h7 p7 => ?_
 refine ⟨(widthOf_i _), dsp (fun h8 p8 => ?_) fun h8 p8 => ?_⟩
 refine ⟨fun h9 => have q9 := bnot_t h9; have q9' := bnot_f q9; have p9 := (andT dT (andT dT (andT dT (andT dT dT)))).1 q9'; ?_, fun h9 => have q9 := bnot_f h9; have q9' := bnot_t q9; have p9 := (andF dT (andF dT (andF dT (andF dT dF)))).1 q9'; ?_⟩
 refine ⟨(sB ?_), rfl⟩
 rotate_left
 refine ⟨(allowed_i d.field _ (by omega)), (sB ?_), rfl⟩
 rotate_left
 refine ⟨(sB ?_), rfl⟩
 rotate_left
 refine ⟨(sB ?_), rfl⟩
 rotate_left
 all_goals first | (simp_all [wantD, kindD, fitD, fld_zeroI, isBytes]; done) | (grind [wantD, kindD, fitD, fld_zeroI, isBytes])
end Go.Proofs.YtpchkcpcdbdhdaaGreat.Ax
