/- What the exact laws do with plans and events: copies of their own. -/
import Derived.Test.YtecljjcmjongfaaNI
namespace Go.Proofs.Ytecljjcmjongfaa.Ax
open Go.RowKit
set_option linter.unusedSimpArgs false
set_option linter.unusedVariables false
theorem toField_ok (a : Fld) : Fun Try.prog 176 [.agg (cFld a)] [] (.v (.agg (cFld a))) [] := by
  have hN : bigN = 274877906944 := rfl
  refine fun_ofw Try.func176 (by kernel_rfl) (by kernel_rfl) (w := (.leaf () [], (.v (.agg (cFld a)) : S) = .v (.agg (cFld a)) ∧ ([] : List Blk) = [])) (by kernel_rfl) ?_
  exact ⟨rfl, rfl⟩
structure toFieldS_ok_V0 where
  out : List Fld
  i : Nat
def toFieldS_ok_F0 (l : List Fld) : Fam := ⟨toFieldS_ok_V0, fun q1 => [(0, .v (.c (.seq .fld l))), (3, .v (vO 0)), (4, .v (vI (q1.i : Int)))], fun q1 => [.lst .fld q1.out], fun q1 => q1.i ≤ l.length ∧ q1.out.length = l.length ∧ List.take q1.i q1.out = List.take q1.i l, fun q1 => l.length - q1.i⟩

theorem toFieldS_ok (l : List Fld) (hp1 : l.length ≤ 1048576) : Fun Try.prog 156 [.c (.seq .fld l)] [] (.v (vO 0)) [.lst .fld l] := by
  have hN : bigN = 274877906944 := rfl
  refine fun_ofw Try.func156 (by kernel_rfl) (by kernel_rfl) (w := let z2 := (l.length : Int); let z3 := toFieldS_ok_F0 l; (.seg [.ty .fld, .at 0, .keep [0, 3, 4], .sel [0]] (.loop z3 fun q1 => .br (.intro (fun (x1 : Fld) => l[q1.i]? = some x1) fun x1 => .seg [.el .fld x1, .call [] (.v (.agg (cFld x1))) []] (.intro (fun (x2 : Fld) => q1.out[q1.i]? = some x2) fun x2 => .seg [.el .fld x2, .as 13 (.v (vI ((q1.i : Int) + 1))), .at 0, .keep [0, 3, 4], .sel [0]] (.next))) (.leaf () [0])), (z2 ≤ 9223372036854775807) ∧ (((32 : Nat) : Int) * z2 ≤ 281474976710656) ∧ (z2 ≤ z2) ∧ ((0 : Int) ≤ z2) ∧ z3.Has [(0, .v (.c (.seq .fld l))), (3, .v (vO 0)), (4, .v (vI 0))] [.lst .fld (List.replicate (l.length) (⟨0, 0, false, false, 0⟩ : Fld))] ∧ ∀ q1, z3.inv q1 → (let z1 := (q1.i : Int); ((decide (z1 < z2)) = true → (∃ (x1 : Fld), l[q1.i]? = some x1) ∧ ∀ (x1 : Fld), (l[q1.i]? = some x1) → ((l[q1.i]? = some x1) ∧ ((0 : Int) ≤ z1) ∧ (Fun Try.prog 176 [.agg (cFld x1)] [] (.v (.agg (cFld x1))) []) ∧ (∃ (x2 : Fld), q1.out[q1.i]? = some x2) ∧ ∀ (x2 : Fld), (q1.out[q1.i]? = some x2) → ((z1 < (q1.out.length : Int)) ∧ ((0 : Int) ≤ z1) ∧ (q1.out[q1.i]? = some x2) ∧ ((.v (vI (IntKind.i64.wrap (z1 + 1))) : S) = .v (vI (z1 + 1))) ∧ z3.Nxt q1 [(0, .v (.c (.seq .fld l))), (3, .v (vO 0)), (4, .v (vI (z1 + 1)))] [.lst .fld (List.set q1.out q1.i x1)]))) ∧ ((decide (z1 < z2)) = false → (.v (vO 0) : S) = .v (vO 0) ∧ ([.lst .fld q1.out] : List Blk) = [.lst .fld l])))) (by kernel_rfl) ?_
  refine ⟨(by omega), (by omega), (by omega), (by omega), has_of (j := (⟨List.replicate (l.length) (⟨0, 0, false, false, 0⟩ : Fld), 0⟩ : toFieldS_ok_V0)) (by first | rfl | simp) rfl (by dsimp only [toFieldS_ok_F0]; exact ⟨by omega, by simp, by simp⟩), fun (q1 : toFieldS_ok_V0) hq_q1 => ?_⟩
  have hi_q1 : q1.i ≤ l.length ∧ q1.out.length = l.length ∧ List.take q1.i q1.out = List.take q1.i l := hq_q1
  obtain ⟨v1, v2, v3⟩ := hi_q1
  refine ⟨fun h1 => have p1 := of_decide_eq_true h1; ?_, fun h1 => have p1 := of_decide_eq_false h1; ?_⟩
  refine ⟨(ax_get (l := l) (i := q1.i) (by omega)), fun x1 hx1 => ?_⟩
  refine ⟨hx1, (by omega), (toField_ok x1), (ax_get (l := q1.out) (i := q1.i) (by omega)), fun x2 hx2 => ?_⟩
  exact ⟨(by omega), (by omega), hx2, (as_i64 (by omega) (by omega)), nxt_of (j := (⟨List.set q1.out q1.i x1, q1.i + 1⟩ : toFieldS_ok_V0)) (by first | rfl | simp) rfl (by dsimp only [toFieldS_ok_F0]; exact ⟨by omega, by simp [v2], fill_set v3 v2 hx1⟩) (by dsimp only [toFieldS_ok_F0]; omega)⟩
  refine ⟨rfl, (consE (congrArg (Blk.lst .fld) ?_) rfl)⟩
  rotate_left
  all_goals exact fill_done v3 v2 (by omega)
theorem toShape_ok (a : Shp) (hp1 : List.length (a).fields ≤ 1048576) : Fun Try.prog 117 [.agg (cShp a)] [] (.v (.agg [.int .i64 a.id, .own 0])) [.lst .fld a.fields] := by
  have hN : bigN = 274877906944 := rfl
  refine fun_ofw Try.func117 (by kernel_rfl) (by kernel_rfl) (w := let z1 : List Blk := [.lst .fld a.fields]; (.seg [.call [] (.v (vO 0)) z1] (.leaf () [3]), (Fun Try.prog 156 [.c (.seq .fld a.fields)] [] (.v (vO 0)) z1) ∧ (.v (.agg [.int .i64 a.id, .own 0]) : S) = .v (.agg [.int .i64 a.id, .own 0]) ∧ (z1 : List Blk) = z1)) (by kernel_rfl) ?_
  exact ⟨(toFieldS_ok _ (by omega)), rfl, rfl⟩
structure toShapeS_ok_V0 where
  out : List Shp
  i : Nat
def toShapeS_ok_F0 (l : List Shp) : Fam := ⟨toShapeS_ok_V0, fun q1 => [(0, .v (.c (.seq .shp l))), (3, .v (vO 0)), (4, .v (vI (q1.i : Int)))], fun q1 => [.tree q1.out], fun q1 => q1.i ≤ l.length ∧ q1.out.length = l.length ∧ List.take q1.i q1.out = List.take q1.i l, fun q1 => l.length - q1.i⟩

theorem toShapeS_ok (l : List Shp) (hp1 : l.length ≤ 1048576) (hp2 : ∀ e ∈ l, e.fields.length ≤ 1048576) : Fun Try.prog 73 [.c (.seq .shp l)] [] (.v (vO 0)) [.tree l] := by
  have hN : bigN = 274877906944 := rfl
  refine fun_ofw Try.func73 (by kernel_rfl) (by kernel_rfl) (w := let z2 := (l.length : Int); let z3 := toShapeS_ok_F0 l; (.seg [.tyT, .at 0, .keep [0, 3, 4], .sel [0]] (.loop z3 fun q1 => .br (.intro (fun (x1 : Shp) => l[q1.i]? = some x1) fun x1 => .seg [.el .shp x1, .call [] (.v (.agg [.int .i64 x1.id, .own 0])) [.lst .fld x1.fields]] (.intro (fun (x2 : Shp) => q1.out[q1.i]? = some x2) fun x2 => .seg [.el .shp x2, .as 13 (.v (vI ((q1.i : Int) + 1))), .at 0, .keep [0, 3, 4], .sel [0]] (.next))) (.leaf () [0])), (z2 ≤ 9223372036854775807) ∧ (((32 : Nat) : Int) * z2 ≤ 281474976710656) ∧ (z2 ≤ z2) ∧ ((0 : Int) ≤ z2) ∧ z3.Has [(0, .v (.c (.seq .shp l))), (3, .v (vO 0)), (4, .v (vI 0))] [.tree (List.replicate (l.length) (⟨0, ([] : List Fld)⟩ : Shp))] ∧ ∀ q1, z3.inv q1 → (let z1 := (q1.i : Int); ((decide (z1 < z2)) = true → (∃ (x1 : Shp), l[q1.i]? = some x1) ∧ ∀ (x1 : Shp), (l[q1.i]? = some x1) → ((l[q1.i]? = some x1) ∧ ((0 : Int) ≤ z1) ∧ (Fun Try.prog 117 [.agg (cShp x1)] [] (.v (.agg [.int .i64 x1.id, .own 0])) [.lst .fld x1.fields]) ∧ (∃ (x2 : Shp), q1.out[q1.i]? = some x2) ∧ ∀ (x2 : Shp), (q1.out[q1.i]? = some x2) → ((z1 < (q1.out.length : Int)) ∧ ((0 : Int) ≤ z1) ∧ (q1.out[q1.i]? = some x2) ∧ ((.v (vI (IntKind.i64.wrap (z1 + 1))) : S) = .v (vI (z1 + 1))) ∧ z3.Nxt q1 [(0, .v (.c (.seq .shp l))), (3, .v (vO 0)), (4, .v (vI (z1 + 1)))] [.tree (List.set q1.out q1.i (⟨x1.id, x1.fields⟩ : Shp))]))) ∧ ((decide (z1 < z2)) = false → (.v (vO 0) : S) = .v (vO 0) ∧ ([.tree q1.out] : List Blk) = [.tree l])))) (by kernel_rfl) ?_
  refine ⟨(by omega), (by omega), (by omega), (by omega), has_of (j := (⟨List.replicate (l.length) (⟨0, ([] : List Fld)⟩ : Shp), 0⟩ : toShapeS_ok_V0)) (by first | rfl | simp) rfl (by dsimp only [toShapeS_ok_F0]; exact ⟨by omega, by simp, by simp⟩), fun (q1 : toShapeS_ok_V0) hq_q1 => ?_⟩
  have hi_q1 : q1.i ≤ l.length ∧ q1.out.length = l.length ∧ List.take q1.i q1.out = List.take q1.i l := hq_q1
  obtain ⟨v1, v2, v3⟩ := hi_q1
  refine ⟨fun h1 => have p1 := of_decide_eq_true h1; ?_, fun h1 => have p1 := of_decide_eq_false h1; ?_⟩
  refine ⟨(ax_get (l := l) (i := q1.i) (by omega)), fun x1 hx1 => ?_⟩
  have hfx := hp2 x1 (List.mem_of_getElem? hx1)
  refine ⟨hx1, (by omega), (toShape_ok x1 (by omega)), (ax_get (l := q1.out) (i := q1.i) (by omega)), fun x2 hx2 => ?_⟩
  exact ⟨(by omega), (by omega), hx2, (as_i64 (by omega) (by omega)), nxt_of (j := (⟨List.set q1.out q1.i (⟨x1.id, x1.fields⟩ : Shp), q1.i + 1⟩ : toShapeS_ok_V0)) (by first | rfl | simp) rfl (by dsimp only [toShapeS_ok_F0]; exact ⟨by omega, by simp [v2], fill_set v3 v2 hx1⟩) (by dsimp only [toShapeS_ok_F0]; omega)⟩
  refine ⟨rfl, (consE (congrArg Blk.tree ?_) rfl)⟩
  rotate_left
  all_goals exact fill_done v3 v2 (by omega)
theorem toSchema_ok (l : List Shp) (hp1 : l.length ≤ 1048576) (hp2 : ∀ e ∈ l, e.fields.length ≤ 1048576) : Fun Try.prog 41 [.agg [.seq .shp l]] [] (.v (.agg [.own 0])) [.tree l] := by
  have hN : bigN = 274877906944 := rfl
  refine fun_ofw Try.func41 (by kernel_rfl) (by kernel_rfl) (w := (.seg [.call [] (.v (vO 0)) [.tree l]] (.leaf () [3]), (Fun Try.prog 73 [.c (.seq .shp l)] [] (.v (vO 0)) [.tree l]) ∧ (.v (.agg [.own 0]) : S) = .v (.agg [.own 0]) ∧ ([.tree l] : List Blk) = [.tree l])) (by kernel_rfl) ?_
  exact ⟨(toShapeS_ok _ (by omega) (hp2)), rfl, rfl⟩
theorem toPlan_ok (a : Pln) (hp1 : List.length (a).shapes ≤ 1048576) (hp2 : ∀ e ∈ (a).shapes, e.fields.length ≤ 1048576) : Fun Try.prog 10 [.agg (cPln a)] [] (.v (.agg (oPln0 0 a))) [.tree a.shapes] := by
  have hN : bigN = 274877906944 := rfl
  refine fun_ofw Try.func10 (by kernel_rfl) (by kernel_rfl) (w := (.seg [.call [] (.v (.agg [.own 0])) [.tree a.shapes]] (.leaf () [3]), (Fun Try.prog 41 [.agg [.seq .shp a.shapes]] [] (.v (.agg [.own 0])) [.tree a.shapes]) ∧ (.v (.agg (oPln0 0 a)) : S) = .v (.agg (oPln0 0 a)) ∧ ([.tree a.shapes] : List Blk) = [.tree a.shapes])) (by kernel_rfl) ?_
  exact ⟨(toSchema_ok a.shapes (by omega) (hp2)), rfl, rfl⟩
theorem toEvent_ok (a : Ev) : Fun Try.prog 55 [.agg (cEv a)] [] (.v (.agg (cEv a))) [] := by
  have hN : bigN = 274877906944 := rfl
  refine fun_ofw Try.func55 (by kernel_rfl) (by kernel_rfl) (w := (.leaf () [], (.v (.agg (cEv a)) : S) = .v (.agg (cEv a)) ∧ ([] : List Blk) = [])) (by kernel_rfl) ?_
  exact ⟨rfl, rfl⟩
structure toEventS_ok_V0 where
  out : List Ev
  i : Nat
def toEventS_ok_F0 (l : List Ev) : Fam := ⟨toEventS_ok_V0, fun q1 => [(0, .v (.c (.seq .ev l))), (3, .v (vO 0)), (4, .v (vI (q1.i : Int)))], fun q1 => [.lst .ev q1.out], fun q1 => q1.i ≤ l.length ∧ q1.out.length = l.length ∧ List.take q1.i q1.out = List.take q1.i l, fun q1 => l.length - q1.i⟩

theorem toEventS_ok (l : List Ev) (hp1 : l.length ≤ 1048576) : Fun Try.prog 27 [.c (.seq .ev l)] [] (.v (vO 0)) [.lst .ev l] := by
  have hN : bigN = 274877906944 := rfl
  refine fun_ofw Try.func27 (by kernel_rfl) (by kernel_rfl) (w := let z2 := (l.length : Int); let z3 := toEventS_ok_F0 l; (.seg [.ty .ev, .at 0, .keep [0, 3, 4], .sel [0]] (.loop z3 fun q1 => .br (.intro (fun (x1 : Ev) => l[q1.i]? = some x1) fun x1 => .seg [.el .ev x1, .call [] (.v (.agg (cEv x1))) []] (.intro (fun (x2 : Ev) => q1.out[q1.i]? = some x2) fun x2 => .seg [.el .ev x2, .as 13 (.v (vI ((q1.i : Int) + 1))), .at 0, .keep [0, 3, 4], .sel [0]] (.next))) (.leaf () [0])), (z2 ≤ 9223372036854775807) ∧ (((64 : Nat) : Int) * z2 ≤ 281474976710656) ∧ (z2 ≤ z2) ∧ ((0 : Int) ≤ z2) ∧ z3.Has [(0, .v (.c (.seq .ev l))), (3, .v (vO 0)), (4, .v (vI 0))] [.lst .ev (List.replicate (l.length) (⟨0, 0, 0, 0, [], 0, 0⟩ : Ev))] ∧ ∀ q1, z3.inv q1 → (let z1 := (q1.i : Int); ((decide (z1 < z2)) = true → (∃ (x1 : Ev), l[q1.i]? = some x1) ∧ ∀ (x1 : Ev), (l[q1.i]? = some x1) → ((l[q1.i]? = some x1) ∧ ((0 : Int) ≤ z1) ∧ (Fun Try.prog 55 [.agg (cEv x1)] [] (.v (.agg (cEv x1))) []) ∧ (∃ (x2 : Ev), q1.out[q1.i]? = some x2) ∧ ∀ (x2 : Ev), (q1.out[q1.i]? = some x2) → ((z1 < (q1.out.length : Int)) ∧ ((0 : Int) ≤ z1) ∧ (q1.out[q1.i]? = some x2) ∧ ((.v (vI (IntKind.i64.wrap (z1 + 1))) : S) = .v (vI (z1 + 1))) ∧ z3.Nxt q1 [(0, .v (.c (.seq .ev l))), (3, .v (vO 0)), (4, .v (vI (z1 + 1)))] [.lst .ev (List.set q1.out q1.i x1)]))) ∧ ((decide (z1 < z2)) = false → (.v (vO 0) : S) = .v (vO 0) ∧ ([.lst .ev q1.out] : List Blk) = [.lst .ev l])))) (by kernel_rfl) ?_
  refine ⟨(by omega), (by omega), (by omega), (by omega), has_of (j := (⟨List.replicate (l.length) (⟨0, 0, 0, 0, [], 0, 0⟩ : Ev), 0⟩ : toEventS_ok_V0)) (by first | rfl | simp) rfl (by dsimp only [toEventS_ok_F0]; exact ⟨by omega, by simp, by simp⟩), fun (q1 : toEventS_ok_V0) hq_q1 => ?_⟩
  have hi_q1 : q1.i ≤ l.length ∧ q1.out.length = l.length ∧ List.take q1.i q1.out = List.take q1.i l := hq_q1
  obtain ⟨v1, v2, v3⟩ := hi_q1
  refine ⟨fun h1 => have p1 := of_decide_eq_true h1; ?_, fun h1 => have p1 := of_decide_eq_false h1; ?_⟩
  refine ⟨(ax_get (l := l) (i := q1.i) (by omega)), fun x1 hx1 => ?_⟩
  refine ⟨hx1, (by omega), (toEvent_ok x1), (ax_get (l := q1.out) (i := q1.i) (by omega)), fun x2 hx2 => ?_⟩
  exact ⟨(by omega), (by omega), hx2, (as_i64 (by omega) (by omega)), nxt_of (j := (⟨List.set q1.out q1.i x1, q1.i + 1⟩ : toEventS_ok_V0)) (by first | rfl | simp) rfl (by dsimp only [toEventS_ok_F0]; exact ⟨by omega, by simp [v2], fill_set v3 v2 hx1⟩) (by dsimp only [toEventS_ok_F0]; omega)⟩
  refine ⟨rfl, (consE (congrArg (Blk.lst .ev) ?_) rfl)⟩
  rotate_left
  all_goals exact fill_done v3 v2 (by omega)
theorem eqField_ok (a : Fld) : Fun Try.prog 109 [.agg (cFld a), .agg (cFld a)] [] (.v (vB true)) [] := by
  have hN : bigN = 274877906944 := rfl
  refine fun_ofw Try.func109 (by kernel_rfl) (by kernel_rfl) (w := (.seg [.br false, .br false, .br false, .br false, .br false] (.leaf () []), ((!decide (a.number = a.number)) = false) ∧ ((!decide (a.kind = a.kind)) = false) ∧ ((!decide (a.rep = a.rep)) = false) ∧ ((!decide (a.packed = a.packed)) = false) ∧ ((!decide (a.msg = a.msg)) = false) ∧ (.v (vB true) : S) = .v (vB true) ∧ ([] : List Blk) = [])) (by kernel_rfl) ?_
  exact ⟨(by simp), (by simp), (by simp), (by simp), (by simp), rfl, rfl⟩
structure eqFieldS_ok_V0 where
  i : Nat
def eqFieldS_ok_F0 (l : List Fld) : Fam := ⟨eqFieldS_ok_V0, fun q1 => [(0, .v (.c (.seq .fld l))), (1, .v (.c (.seq .fld l))), (5, .v (vI (q1.i : Int)))], fun _ => [], fun q1 => q1.i ≤ l.length, fun q1 => l.length - q1.i⟩

theorem eqFieldS_ok (l : List Fld) (hp1 : l.length ≤ bigN) : Fun Try.prog 159 [.c (.seq .fld l), .c (.seq .fld l)] [] (.v (vB true)) [] := by
  have hN : bigN = 274877906944 := rfl
  refine fun_ofw Try.func159 (by kernel_rfl) (by kernel_rfl) (w := let z3 := (l.length : Int); let z4 := eqFieldS_ok_F0 l; (.seg [.br false, .at 0, .keep [0, 1, 5], .sel []] (.loop z4 fun q1 => .br (.intro (fun (x1 : Fld) => l[q1.i]? = some x1) fun x1 => .seg [.ord (os 10 [8]) [], .el .fld x1, .el .fld x1, .call [] (.v (vB true)) [], .br false, .as 16 (.v (vI ((q1.i : Int) + 1))), .at 0, .keep [0, 1, 5], .sel []] (.next)) (.leaf () [])), ((!decide (z3 = z3)) = false) ∧ z4.Has [(0, .v (.c (.seq .fld l))), (1, .v (.c (.seq .fld l))), (5, .v (vI 0))] [] ∧ ∀ q1, z4.inv q1 → (let z2 := (q1.i : Int); ((decide (z2 < z3)) = true → (∃ (x1 : Fld), l[q1.i]? = some x1) ∧ ∀ (x1 : Fld), (l[q1.i]? = some x1) → (let z1 := l[q1.i]? = some x1; z1 ∧ ((0 : Int) ≤ z2) ∧ z1 ∧ ((0 : Int) ≤ z2) ∧ z1 ∧ ((0 : Int) ≤ z2) ∧ z1 ∧ ((0 : Int) ≤ z2) ∧ (Fun Try.prog 109 [.agg (cFld x1), .agg (cFld x1)] [] (.v (vB true)) []) ∧ ((!true) = false) ∧ ((.v (vI (IntKind.i64.wrap (z2 + 1))) : S) = .v (vI (z2 + 1))) ∧ z4.Nxt q1 [(0, .v (.c (.seq .fld l))), (1, .v (.c (.seq .fld l))), (5, .v (vI (z2 + 1)))] [])) ∧ ((decide (z2 < z3)) = false → (.v (vB true) : S) = .v (vB true) ∧ ([] : List Blk) = [])))) (by kernel_rfl) ?_
  refine ⟨(by simp), has_of (j := (⟨0⟩ : eqFieldS_ok_V0)) (by first | rfl | simp) rfl (by dsimp only [eqFieldS_ok_F0]; omega), fun (q1 : eqFieldS_ok_V0) hq_q1 => ?_⟩
  have hi_q1 : q1.i ≤ l.length := hq_q1
  refine ⟨fun h1 => have p1 := of_decide_eq_true h1; ?_, fun h1 => have p1 := of_decide_eq_false h1; ?_⟩
  refine ⟨(ax_get (l := l) (i := q1.i) (by omega)), fun x1 hx1 => ?_⟩
  exact ⟨hx1, (by omega), hx1, (by omega), hx1, (by omega), hx1, (by omega), (eqField_ok x1), (by decide), (as_i64 (by omega) (by omega)), nxt_of (j := (⟨q1.i + 1⟩ : eqFieldS_ok_V0)) (by first | rfl | simp) rfl (by dsimp only [eqFieldS_ok_F0]; omega) (by dsimp only [eqFieldS_ok_F0]; omega)⟩
  exact ⟨rfl, rfl⟩
theorem eqShape_ok (a : Shp) (hp1 : List.length (a).fields ≤ bigN) : Fun Try.prog 121 [.agg (cShp a), .agg (cShp a)] [] (.v (vB true)) [] := by
  have hN : bigN = 274877906944 := rfl
  refine fun_ofw Try.func121 (by kernel_rfl) (by kernel_rfl) (w := (.seg [.br false, .call [] (.v (vB true)) [], .br false] (.leaf () []), ((!decide (a.id = a.id)) = false) ∧ (Fun Try.prog 159 [.c (.seq .fld a.fields), .c (.seq .fld a.fields)] [] (.v (vB true)) []) ∧ ((!true) = false) ∧ (.v (vB true) : S) = .v (vB true) ∧ ([] : List Blk) = [])) (by kernel_rfl) ?_
  exact ⟨(by simp), (eqFieldS_ok _ (by omega)), (by decide), rfl, rfl⟩
structure eqShapeS_ok_V0 where
  i : Nat
def eqShapeS_ok_F0 (l : List Shp) : Fam := ⟨eqShapeS_ok_V0, fun q1 => [(0, .v (.c (.seq .shp l))), (1, .v (.c (.seq .shp l))), (5, .v (vI (q1.i : Int)))], fun _ => [], fun q1 => q1.i ≤ l.length, fun q1 => l.length - q1.i⟩

theorem eqShapeS_ok (l : List Shp) (hp1 : l.length ≤ bigN) (hp2 : ∀ e ∈ l, e.fields.length ≤ bigN) : Fun Try.prog 77 [.c (.seq .shp l), .c (.seq .shp l)] [] (.v (vB true)) [] := by
  have hN : bigN = 274877906944 := rfl
  refine fun_ofw Try.func77 (by kernel_rfl) (by kernel_rfl) (w := let z3 := (l.length : Int); let z4 := eqShapeS_ok_F0 l; (.seg [.br false, .at 0, .keep [0, 1, 5], .sel []] (.loop z4 fun q1 => .br (.intro (fun (x1 : Shp) => l[q1.i]? = some x1) fun x1 => .seg [.ord (os 10 [8]) [], .el .shp x1, .el .shp x1, .call [] (.v (vB true)) [], .br false, .as 16 (.v (vI ((q1.i : Int) + 1))), .at 0, .keep [0, 1, 5], .sel []] (.next)) (.leaf () [])), ((!decide (z3 = z3)) = false) ∧ z4.Has [(0, .v (.c (.seq .shp l))), (1, .v (.c (.seq .shp l))), (5, .v (vI 0))] [] ∧ ∀ q1, z4.inv q1 → (let z2 := (q1.i : Int); ((decide (z2 < z3)) = true → (∃ (x1 : Shp), l[q1.i]? = some x1) ∧ ∀ (x1 : Shp), (l[q1.i]? = some x1) → (let z1 := l[q1.i]? = some x1; z1 ∧ ((0 : Int) ≤ z2) ∧ z1 ∧ ((0 : Int) ≤ z2) ∧ z1 ∧ ((0 : Int) ≤ z2) ∧ z1 ∧ ((0 : Int) ≤ z2) ∧ (Fun Try.prog 121 [.agg (cShp x1), .agg (cShp x1)] [] (.v (vB true)) []) ∧ ((!true) = false) ∧ ((.v (vI (IntKind.i64.wrap (z2 + 1))) : S) = .v (vI (z2 + 1))) ∧ z4.Nxt q1 [(0, .v (.c (.seq .shp l))), (1, .v (.c (.seq .shp l))), (5, .v (vI (z2 + 1)))] [])) ∧ ((decide (z2 < z3)) = false → (.v (vB true) : S) = .v (vB true) ∧ ([] : List Blk) = [])))) (by kernel_rfl) ?_
  refine ⟨(by simp), has_of (j := (⟨0⟩ : eqShapeS_ok_V0)) (by first | rfl | simp) rfl (by dsimp only [eqShapeS_ok_F0]; omega), fun (q1 : eqShapeS_ok_V0) hq_q1 => ?_⟩
  have hi_q1 : q1.i ≤ l.length := hq_q1
  refine ⟨fun h1 => have p1 := of_decide_eq_true h1; ?_, fun h1 => have p1 := of_decide_eq_false h1; ?_⟩
  refine ⟨(ax_get (l := l) (i := q1.i) (by omega)), fun x1 hx1 => ?_⟩
  have hfx := hp2 x1 (List.mem_of_getElem? hx1)
  exact ⟨hx1, (by omega), hx1, (by omega), hx1, (by omega), hx1, (by omega), (eqShape_ok x1 (by omega)), (by decide), (as_i64 (by omega) (by omega)), nxt_of (j := (⟨q1.i + 1⟩ : eqShapeS_ok_V0)) (by first | rfl | simp) rfl (by dsimp only [eqShapeS_ok_F0]; omega) (by dsimp only [eqShapeS_ok_F0]; omega)⟩
  exact ⟨rfl, rfl⟩
theorem eqSchema_ok (l : List Shp) (hp1 : l.length ≤ bigN) (hp2 : ∀ e ∈ l, e.fields.length ≤ bigN) : Fun Try.prog 44 [.agg [.seq .shp l], .agg [.seq .shp l]] [] (.v (vB true)) [] := by
  have hN : bigN = 274877906944 := rfl
  refine fun_ofw Try.func44 (by kernel_rfl) (by kernel_rfl) (w := (.seg [.call [] (.v (vB true)) [], .br false] (.leaf () []), (Fun Try.prog 77 [.c (.seq .shp l), .c (.seq .shp l)] [] (.v (vB true)) []) ∧ ((!true) = false) ∧ (.v (vB true) : S) = .v (vB true) ∧ ([] : List Blk) = [])) (by kernel_rfl) ?_
  exact ⟨(eqShapeS_ok _ (by omega) (hp2)), (by decide), rfl, rfl⟩
theorem eqPlan_ok (a : Pln) (hp1 : List.length (a).shapes ≤ bigN) (hp2 : ∀ e ∈ (a).shapes, e.fields.length ≤ bigN) : Fun Try.prog 13 [.agg (cPln a), .agg (cPln a)] [] (.v (vB true)) [] := by
  have hN : bigN = 274877906944 := rfl
  refine fun_ofw Try.func13 (by kernel_rfl) (by kernel_rfl) (w := (.seg [.call [] (.v (vB true)) [], .br false, .br false, .br false, .br false] (.leaf () []), (Fun Try.prog 44 [.agg [.seq .shp a.shapes], .agg [.seq .shp a.shapes]] [] (.v (vB true)) []) ∧ ((!true) = false) ∧ ((!decide (a.root = a.root)) = false) ∧ ((!decide (a.deep = a.deep)) = false) ∧ ((!decide (a.most = a.most)) = false) ∧ (.v (vB true) : S) = .v (vB true) ∧ ([] : List Blk) = [])) (by kernel_rfl) ?_
  exact ⟨(eqSchema_ok a.shapes (by omega) (hp2)), (by decide), (by simp), (by simp), (by simp), rfl, rfl⟩
theorem eqEvent_ok (a : Ev) : Fun Try.prog 24 [.agg (cEv a), .agg (cEv a)] [] (.v (vB true)) [] := by
  have hN : bigN = 274877906944 := rfl
  refine fun_ofw Try.func24 (by kernel_rfl) (by kernel_rfl) (w := (.seg [.br false, .br false, .br false, .br false, .br false, .br false, .br false] (.leaf () []), ((!decide (a.kind = a.kind)) = false) ∧ ((!decide (a.field = a.field)) = false) ∧ ((!decide (a.bits = a.bits)) = false) ∧ ((!decide (a.len = a.len)) = false) ∧ ((!decide (a.text = a.text)) = false) ∧ ((!decide (a.code = a.code)) = false) ∧ ((!decide (a.at_ = a.at_)) = false) ∧ (.v (vB true) : S) = .v (vB true) ∧ ([] : List Blk) = [])) (by kernel_rfl) ?_
  exact ⟨(by simp), (by simp), (by simp), (by simp), (by simp), (by simp), (by simp), rfl, rfl⟩
structure eqEventS_ok_V0 where
  i : Nat
def eqEventS_ok_F0 (l : List Ev) : Fam := ⟨eqEventS_ok_V0, fun q1 => [(0, .v (.c (.seq .ev l))), (1, .v (.c (.seq .ev l))), (5, .v (vI (q1.i : Int)))], fun _ => [], fun q1 => q1.i ≤ l.length, fun q1 => l.length - q1.i⟩

theorem eqEventS_ok (l : List Ev) (hp1 : l.length ≤ bigN) : Fun Try.prog 12 [.c (.seq .ev l), .c (.seq .ev l)] [] (.v (vB true)) [] := by
  have hN : bigN = 274877906944 := rfl
  refine fun_ofw Try.func12 (by kernel_rfl) (by kernel_rfl) (w := let z3 := (l.length : Int); let z4 := eqEventS_ok_F0 l; (.seg [.br false, .at 0, .keep [0, 1, 5], .sel []] (.loop z4 fun q1 => .br (.intro (fun (x1 : Ev) => l[q1.i]? = some x1) fun x1 => .seg [.ord (os 10 [8]) [], .el .ev x1, .el .ev x1, .call [] (.v (vB true)) [], .br false, .as 16 (.v (vI ((q1.i : Int) + 1))), .at 0, .keep [0, 1, 5], .sel []] (.next)) (.leaf () [])), ((!decide (z3 = z3)) = false) ∧ z4.Has [(0, .v (.c (.seq .ev l))), (1, .v (.c (.seq .ev l))), (5, .v (vI 0))] [] ∧ ∀ q1, z4.inv q1 → (let z2 := (q1.i : Int); ((decide (z2 < z3)) = true → (∃ (x1 : Ev), l[q1.i]? = some x1) ∧ ∀ (x1 : Ev), (l[q1.i]? = some x1) → (let z1 := l[q1.i]? = some x1; z1 ∧ ((0 : Int) ≤ z2) ∧ z1 ∧ ((0 : Int) ≤ z2) ∧ z1 ∧ ((0 : Int) ≤ z2) ∧ z1 ∧ ((0 : Int) ≤ z2) ∧ (Fun Try.prog 24 [.agg (cEv x1), .agg (cEv x1)] [] (.v (vB true)) []) ∧ ((!true) = false) ∧ ((.v (vI (IntKind.i64.wrap (z2 + 1))) : S) = .v (vI (z2 + 1))) ∧ z4.Nxt q1 [(0, .v (.c (.seq .ev l))), (1, .v (.c (.seq .ev l))), (5, .v (vI (z2 + 1)))] [])) ∧ ((decide (z2 < z3)) = false → (.v (vB true) : S) = .v (vB true) ∧ ([] : List Blk) = [])))) (by kernel_rfl) ?_
  refine ⟨(by simp), has_of (j := (⟨0⟩ : eqEventS_ok_V0)) (by first | rfl | simp) rfl (by dsimp only [eqEventS_ok_F0]; omega), fun (q1 : eqEventS_ok_V0) hq_q1 => ?_⟩
  have hi_q1 : q1.i ≤ l.length := hq_q1
  refine ⟨fun h1 => have p1 := of_decide_eq_true h1; ?_, fun h1 => have p1 := of_decide_eq_false h1; ?_⟩
  refine ⟨(ax_get (l := l) (i := q1.i) (by omega)), fun x1 hx1 => ?_⟩
  exact ⟨hx1, (by omega), hx1, (by omega), hx1, (by omega), hx1, (by omega), (eqEvent_ok x1), (by decide), (as_i64 (by omega) (by omega)), nxt_of (j := (⟨q1.i + 1⟩ : eqEventS_ok_V0)) (by first | rfl | simp) rfl (by dsimp only [eqEventS_ok_F0]; omega) (by dsimp only [eqEventS_ok_F0]; omega)⟩
  exact ⟨rfl, rfl⟩
structure eqIntS_ok_V0 where
  i : Nat
def eqIntS_ok_F0 (l : List Int) : Fam := ⟨eqIntS_ok_V0, fun q1 => [(0, .v (.c (.seq .int l))), (1, .v (.c (.seq .int l))), (5, .v (vI (q1.i : Int)))], fun _ => [], fun q1 => q1.i ≤ l.length, fun q1 => l.length - q1.i⟩

theorem eqIntS_ok (l : List Int) (hp1 : l.length ≤ bigN) : Fun Try.prog 19 [.c (.seq .int l), .c (.seq .int l)] [] (.v (vB true)) [] := by
  have hN : bigN = 274877906944 := rfl
  refine fun_ofw Try.func19 (by kernel_rfl) (by kernel_rfl) (w := let z3 := (l.length : Int); let z4 := eqIntS_ok_F0 l; (.seg [.br false, .at 0, .keep [0, 1, 5], .sel []] (.loop z4 fun q1 => .br (.intro (fun (x1 : Int) => l[q1.i]? = some x1) fun x1 => .seg [.ord (os 9 []) [], .el .int x1, .el .int x1, .br false, .as 16 (.v (vI ((q1.i : Int) + 1))), .at 0, .keep [0, 1, 5], .sel []] (.next)) (.leaf () [])), ((!decide (z3 = z3)) = false) ∧ z4.Has [(0, .v (.c (.seq .int l))), (1, .v (.c (.seq .int l))), (5, .v (vI 0))] [] ∧ ∀ q1, z4.inv q1 → (let z2 := (q1.i : Int); ((decide (z2 < z3)) = true → (∃ (x1 : Int), l[q1.i]? = some x1) ∧ ∀ (x1 : Int), (l[q1.i]? = some x1) → (let z1 := l[q1.i]? = some x1; z1 ∧ ((0 : Int) ≤ z2) ∧ z1 ∧ ((0 : Int) ≤ z2) ∧ z1 ∧ ((0 : Int) ≤ z2) ∧ z1 ∧ ((0 : Int) ≤ z2) ∧ ((!decide (x1 = x1)) = false) ∧ ((.v (vI (IntKind.i64.wrap (z2 + 1))) : S) = .v (vI (z2 + 1))) ∧ z4.Nxt q1 [(0, .v (.c (.seq .int l))), (1, .v (.c (.seq .int l))), (5, .v (vI (z2 + 1)))] [])) ∧ ((decide (z2 < z3)) = false → (.v (vB true) : S) = .v (vB true) ∧ ([] : List Blk) = [])))) (by kernel_rfl) ?_
  refine ⟨(by simp), has_of (j := (⟨0⟩ : eqIntS_ok_V0)) (by first | rfl | simp) rfl (by dsimp only [eqIntS_ok_F0]; omega), fun (q1 : eqIntS_ok_V0) hq_q1 => ?_⟩
  have hi_q1 : q1.i ≤ l.length := hq_q1
  refine ⟨fun h1 => have p1 := of_decide_eq_true h1; ?_, fun h1 => have p1 := of_decide_eq_false h1; ?_⟩
  refine ⟨(ax_get (l := l) (i := q1.i) (by omega)), fun x1 hx1 => ?_⟩
  exact ⟨hx1, (by omega), hx1, (by omega), hx1, (by omega), hx1, (by omega), (by simp), (as_i64 (by omega) (by omega)), nxt_of (j := (⟨q1.i + 1⟩ : eqIntS_ok_V0)) (by first | rfl | simp) rfl (by dsimp only [eqIntS_ok_F0]; omega) (by dsimp only [eqIntS_ok_F0]; omega)⟩
  exact ⟨rfl, rfl⟩
end Go.Proofs.Ytecljjcmjongfaa.Ax
