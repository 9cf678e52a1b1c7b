/- What the exact laws do with schemas, plans and events. -/
import Derived.Test.YtecljjcmjongfaaNH
namespace Go.Proofs.Ytecljjcmjongfaa.Ax
open Go.RowKit
set_option linter.unusedSimpArgs false
set_option linter.unusedVariables false

def szEvL : Int → List Ev → Int
  | left, [] => left
  | left, e :: r => if left - (e.text.length : Int) < 0 then -1 else szEvL (left - (e.text.length : Int)) r
def szEvS (left : Int) (l : List Ev) : Int := if left - (l.length : Int) < 0 then -1 else szEvL (left - (l.length : Int)) l
def szShL : Int → List Shp → Int
  | left, [] => left
  | left, x :: r => if left - (x.fields.length : Int) < 0 then -1 else szShL (left - (x.fields.length : Int)) r
def szShS (left : Int) (l : List Shp) : Int := if left - (l.length : Int) < 0 then -1 else szShL (left - (l.length : Int)) l
theorem szEvL_b : ∀ {l : List Ev} {left : Int}, 0 ≤ left → left ≤ 1048576 → -1 ≤ szEvL left l ∧ szEvL left l ≤ left ∧ (0 ≤ szEvL left l → ∀ e ∈ l, (e.text.length : Int) ≤ 1048576)
  | [], left, h, h2 => by simp [szEvL]; omega
  | e :: r, left, h, h2 => by
    unfold szEvL
    split
    · omega
    · have := szEvL_b (l := r) (left := left - (e.text.length : Int)) (by omega) (by omega)
      refine ⟨this.1, by omega, fun h3 x hx => ?_⟩
      rcases List.mem_cons.1 hx with rfl | hx
      · omega
      · exact this.2.2 h3 x hx
theorem szEvS_b {l : List Ev} {left : Int} (h : 0 ≤ left) (h2 : left ≤ 1048576) : -1 ≤ szEvS left l ∧ szEvS left l ≤ left ∧ (0 ≤ szEvS left l → l.length ≤ 1048576 ∧ ∀ e ∈ l, (e.text.length : Int) ≤ 1048576) := by
  unfold szEvS
  split
  · omega
  · have := szEvL_b (l := l) (left := left - (l.length : Int)) (by omega) (by omega)
    exact ⟨this.1, by omega, fun h3 => ⟨by omega, this.2.2 h3⟩⟩
theorem szShL_b : ∀ {l : List Shp} {left : Int}, 0 ≤ left → left ≤ 1048576 → -1 ≤ szShL left l ∧ szShL left l ≤ left ∧ (0 ≤ szShL left l → ∀ e ∈ l, e.fields.length ≤ 1048576)
  | [], left, h, h2 => by simp [szShL]; omega
  | e :: r, left, h, h2 => by
    unfold szShL
    split
    · omega
    · have := szShL_b (l := r) (left := left - (e.fields.length : Int)) (by omega) (by omega)
      refine ⟨this.1, by omega, fun h3 x hx => ?_⟩
      rcases List.mem_cons.1 hx with rfl | hx
      · omega
      · exact this.2.2 h3 x hx
theorem szShS_b {l : List Shp} {left : Int} (h : 0 ≤ left) (h2 : left ≤ 1048576) : -1 ≤ szShS left l ∧ szShS left l ≤ left ∧ (0 ≤ szShS left l → l.length ≤ 1048576 ∧ ∀ e ∈ l, e.fields.length ≤ 1048576) := by
  unfold szShS
  split
  · omega
  · have := szShL_b (l := l) (left := left - (l.length : Int)) (by omega) (by omega)
    exact ⟨this.1, by omega, fun h3 => ⟨by omega, this.2.2 h3⟩⟩
theorem szEvL_cons {left : Int} {e : Ev} {r : List Ev} : szEvL left (e :: r) = if left - (e.text.length : Int) < 0 then -1 else szEvL (left - (e.text.length : Int)) r := rfl
theorem szShL_cons {left : Int} {e : Shp} {r : List Shp} : szShL left (e :: r) = if left - (e.fields.length : Int) < 0 then -1 else szShL (left - (e.fields.length : Int)) r := rfl
theorem szEvent_ok (a : Ev) (left : Int) (hp1 : (0 : Int) ≤ left ∧ left ≤ 1048576) (hp2 : ((List.length (a).text : Nat) : Int) ≤ 9223372036854775807) : Fun Try.prog 51 [.agg (cEv a), vI left] [] (.v (vI (if left - ((List.length (a).text : Nat) : Int) < 0 then -1 else left - ((List.length (a).text : Nat) : Int)))) [] := by
  have hN : bigN = 274877906944 := rfl
  refine fun_ofw Try.func51 (by kernel_rfl) (by kernel_rfl) (w := let z1 := (a.text.length : Int); let z3 := ((List.length (a).text : Nat) : Int); let z2 := vI (if left - z3 < 0 then -1 else left - z3); (.seg [.as 9 (.v (vI (left - z1)))] (.br (.leaf () []) (.leaf () [])), ((.v (vI (IntKind.i64.wrap (left - z1))) : S) = .v (vI (left - z1))) ∧ ((decide (left - z1 < 0)) = true → (.v (vI (-1)) : S) = .v z2 ∧ ([] : List Blk) = []) ∧ ((decide (left - z1 < 0)) = false → (.v (vI (left - z1)) : S) = .v z2 ∧ ([] : List Blk) = []))) (by kernel_rfl) ?_
  refine ⟨(as_i64 (by omega) (by omega)), fun h1 => have p1 := of_decide_eq_true h1; ?_, fun h1 => have p1 := of_decide_eq_false h1; ?_⟩
  exact ⟨(congrArg S.v (congrArg V.c (congrArg (C.int .i64) (by grind)))), rfl⟩
  exact ⟨(congrArg S.v (congrArg V.c (congrArg (C.int .i64) (by grind)))), rfl⟩
structure szEventS_ok_V0 where
  left : Int
  i : Nat
def szEventS_ok_F0 (l : List Ev) (left : Int) : Fam := ⟨szEventS_ok_V0, fun q1 => [(0, .v (.c (.seq .ev l))), (1, .v (vI q1.left)), (5, .v (vI (q1.i : Int)))], fun _ => [], fun q1 => q1.i ≤ l.length ∧ (0 : Int) ≤ q1.left ∧ q1.left ≤ 1048576 ∧ szEvL q1.left (List.drop q1.i l) = szEvS left l, fun q1 => l.length - q1.i⟩

theorem szEventS_ok (l : List Ev) (left : Int) (hp1 : (0 : Int) ≤ left ∧ left ≤ 1048576) (hp2 : (l.length : Int) ≤ 9223372036854775807) (hp3 : ∀ e ∈ l, (e.text.length : Int) ≤ 9223372036854775807) : Fun Try.prog 25 [.c (.seq .ev l), vI left] [] (.v (vI (szEvS left l))) [] := by
  have hN : bigN = 274877906944 := rfl
  refine fun_ofw Try.func25 (by kernel_rfl) (by kernel_rfl) (w := let z5 := (l.length : Int); let z6 := szEventS_ok_F0 l left; let z7 := vI (szEvS left l); (.seg [.as 9 (.v (vI (left - z5)))] (.br (.leaf () []) (.seg [.at 0, .keep [0, 1, 5], .sel []] (.loop z6 fun q1 => .br (.intro (fun (x1 : Ev) => l[q1.i]? = some x1) fun x1 => let z1 := ((List.length (x1).text : Nat) : Int); .seg [.el .ev x1, .call [] (.v (vI (if q1.left - z1 < 0 then -1 else q1.left - z1))) []] (.br (.leaf () []) (.seg [.as 17 (.v (vI ((q1.i : Int) + 1))), .at 0, .keep [0, 1, 5], .sel []] (.next)))) (.leaf () [])))), ((.v (vI (IntKind.i64.wrap (left - z5))) : S) = .v (vI (left - z5))) ∧ ((decide (left - z5 < 0)) = true → (.v (vI (-1)) : S) = .v z7 ∧ ([] : List Blk) = []) ∧ ((decide (left - z5 < 0)) = false → z6.Has [(0, .v (.c (.seq .ev l))), (1, .v (vI (left - z5))), (5, .v (vI 0))] [] ∧ ∀ q1, z6.inv q1 → (let z4 := (q1.i : Int); ((decide (z4 < z5)) = true → (∃ (x1 : Ev), l[q1.i]? = some x1) ∧ ∀ (x1 : Ev), (l[q1.i]? = some x1) → (let z3 := ((List.length (x1).text : Nat) : Int); let z2 := if q1.left - z3 < 0 then -1 else q1.left - z3; (l[q1.i]? = some x1) ∧ ((0 : Int) ≤ z4) ∧ (Fun Try.prog 51 [.agg (cEv x1), vI q1.left] [] (.v (vI z2)) []) ∧ ((decide (z2 < 0)) = true → (.v (vI (-1)) : S) = .v z7 ∧ ([] : List Blk) = []) ∧ ((decide (z2 < 0)) = false → ((.v (vI (IntKind.i64.wrap (z4 + 1))) : S) = .v (vI (z4 + 1))) ∧ z6.Nxt q1 [(0, .v (.c (.seq .ev l))), (1, .v (vI z2)), (5, .v (vI (z4 + 1)))] []))) ∧ ((decide (z4 < z5)) = false → (.v (vI q1.left) : S) = .v z7 ∧ ([] : List Blk) = []))))) (by kernel_rfl) ?_
  refine ⟨(as_i64 (by omega) (by omega)), fun h1 => have p1 := of_decide_eq_true h1; ?_, fun h1 => have p1 := of_decide_eq_false h1; ?_⟩
  refine ⟨(sI ?_), rfl⟩
  rotate_left
  refine ⟨has_of (j := (⟨left - (l.length : Int), 0⟩ : szEventS_ok_V0)) (by first | rfl | simp) rfl (by dsimp only [szEventS_ok_F0]; exact ⟨by omega, by omega, by omega, by rw [szEvS, if_neg (by omega)]; rfl⟩), fun (q1 : szEventS_ok_V0) hq_q1 => ?_⟩
  have hi_q1 : q1.i ≤ l.length ∧ (0 : Int) ≤ q1.left ∧ q1.left ≤ 1048576 ∧ szEvL q1.left (List.drop q1.i l) = szEvS left l := hq_q1
  obtain ⟨v1, v2, v3, v4⟩ := hi_q1
  refine ⟨fun h2 => have p2 := of_decide_eq_true h2; ?_, fun h2 => have p2 := of_decide_eq_false h2; ?_⟩
  refine ⟨(ax_get (l := l) (i := q1.i) (by omega)), fun x1 hx1 => ?_⟩
  rw [drop_el hx1, szEvL_cons] at v4
  have hz := hp3 x1 (List.mem_of_getElem? hx1)
  refine ⟨hx1, (by omega), (szEvent_ok x1 _ (by omega) (by omega)), fun h3 => have p3 := of_decide_eq_true h3; ?_, fun h3 => have p3 := of_decide_eq_false h3; ?_⟩
  refine ⟨(sI ?_), rfl⟩
  rotate_left
  exact ⟨(as_i64 (by omega) (by omega)), nxt_of (j := (⟨(if q1.left - ((List.length (x1).text : Nat) : Int) < 0 then -1 else q1.left - ((List.length (x1).text : Nat) : Int)), q1.i + 1⟩ : szEventS_ok_V0)) (by first | rfl | simp) rfl (by dsimp only [szEventS_ok_F0]; exact ⟨by omega, by grind, by grind, by grind⟩) (by dsimp only [szEventS_ok_F0]; omega)⟩
  rw [drop_end p2] at v4
  refine ⟨(sI ?_), rfl⟩
  rotate_left
  all_goals first | (grind [szEvS, szEvL])
theorem szFieldS_ok (l : List Fld) (left : Int) (hp1 : (0 : Int) ≤ left ∧ left ≤ 1048576) (hp2 : (l.length : Int) ≤ 9223372036854775807) : Fun Try.prog 153 [.c (.seq .fld l), vI left] [] (.v (vI (szN left (l.length : Int)))) [] := by
  have hN : bigN = 274877906944 := rfl
  refine fun_ofw Try.func153 (by kernel_rfl) (by kernel_rfl) (w := let z1 := (l.length : Int); (.seg [.as 8 (.v (vI (left - z1)))] (.br (.leaf () []) (.leaf () [])), ((.v (vI (IntKind.i64.wrap (left - z1))) : S) = .v (vI (left - z1))) ∧ ((decide (left - z1 < 0)) = true → (.v (vI (-1)) : S) = .v (vI (szN left z1)) ∧ ([] : List Blk) = []) ∧ ((decide (left - z1 < 0)) = false → (.v (vI (left - z1)) : S) = .v (vI (szN left z1)) ∧ ([] : List Blk) = []))) (by kernel_rfl) ?_
  refine ⟨(as_i64 (by omega) (by omega)), fun h1 => have p1 := of_decide_eq_true h1; ?_, fun h1 => have p1 := of_decide_eq_false h1; ?_⟩
  refine ⟨(sI ?_), rfl⟩
  rotate_left
  refine ⟨(sI ?_), rfl⟩
  rotate_left
  all_goals first | (simp [szN, *]; done) | (grind [szN])
theorem szShape_ok (a : Shp) (left : Int) (hp1 : (0 : Int) ≤ left ∧ left ≤ 1048576) (hp2 : ((List.length (a).fields : Nat) : Int) ≤ 9223372036854775807) : Fun Try.prog 115 [.agg (cShp a), vI left] [] (.v (vI (if left - ((List.length (a).fields : Nat) : Int) < 0 then -1 else left - ((List.length (a).fields : Nat) : Int)))) [] := by
  have hN : bigN = 274877906944 := rfl
  refine fun_ofw Try.func115 (by kernel_rfl) (by kernel_rfl) (w := let z1 := (a.fields.length : Int); let z3 := ((List.length (a).fields : Nat) : Int); let z2 := vI (if left - z3 < 0 then -1 else left - z3); let z4 := vI (szN left z1); (.seg [.call [] (.v z4) []] (.br (.leaf () []) (.leaf () [])), (Fun Try.prog 153 [.c (.seq .fld a.fields), vI left] [] (.v z4) []) ∧ ((decide (szN left z1 < 0)) = true → (.v (vI (-1)) : S) = .v z2 ∧ ([] : List Blk) = []) ∧ ((decide (szN left z1 < 0)) = false → (.v z4 : S) = .v z2 ∧ ([] : List Blk) = []))) (by kernel_rfl) ?_
  refine ⟨(szFieldS_ok _ _ (by omega) (by omega)), fun h1 => have p1 := of_decide_eq_true h1; ?_, fun h1 => have p1 := of_decide_eq_false h1; ?_⟩
  exact ⟨(congrArg S.v (congrArg V.c (congrArg (C.int .i64) (by grind [szN])))), rfl⟩
  exact ⟨(congrArg S.v (congrArg V.c (congrArg (C.int .i64) (by grind [szN])))), rfl⟩
structure szShapeS_ok_V0 where
  left : Int
  i : Nat
def szShapeS_ok_F0 (l : List Shp) (left : Int) : Fam := ⟨szShapeS_ok_V0, fun q1 => [(0, .v (.c (.seq .shp l))), (1, .v (vI q1.left)), (5, .v (vI (q1.i : Int)))], fun _ => [], fun q1 => q1.i ≤ l.length ∧ (0 : Int) ≤ q1.left ∧ q1.left ≤ 1048576 ∧ szShL q1.left (List.drop q1.i l) = szShS left l, fun q1 => l.length - q1.i⟩

theorem szShapeS_ok (l : List Shp) (left : Int) (hp1 : (0 : Int) ≤ left ∧ left ≤ 1048576) (hp2 : (l.length : Int) ≤ 9223372036854775807) (hp3 : ∀ e ∈ l, (e.fields.length : Int) ≤ 9223372036854775807) : Fun Try.prog 69 [.c (.seq .shp l), vI left] [] (.v (vI (szShS left l))) [] := by
  have hN : bigN = 274877906944 := rfl
  refine fun_ofw Try.func69 (by kernel_rfl) (by kernel_rfl) (w := let z5 := (l.length : Int); let z6 := szShapeS_ok_F0 l left; let z7 := vI (szShS left l); (.seg [.as 9 (.v (vI (left - z5)))] (.br (.leaf () []) (.seg [.at 0, .keep [0, 1, 5], .sel []] (.loop z6 fun q1 => .br (.intro (fun (x1 : Shp) => l[q1.i]? = some x1) fun x1 => let z1 := ((List.length (x1).fields : Nat) : Int); .seg [.el .shp x1, .call [] (.v (vI (if q1.left - z1 < 0 then -1 else q1.left - z1))) []] (.br (.leaf () []) (.seg [.as 17 (.v (vI ((q1.i : Int) + 1))), .at 0, .keep [0, 1, 5], .sel []] (.next)))) (.leaf () [])))), ((.v (vI (IntKind.i64.wrap (left - z5))) : S) = .v (vI (left - z5))) ∧ ((decide (left - z5 < 0)) = true → (.v (vI (-1)) : S) = .v z7 ∧ ([] : List Blk) = []) ∧ ((decide (left - z5 < 0)) = false → z6.Has [(0, .v (.c (.seq .shp l))), (1, .v (vI (left - z5))), (5, .v (vI 0))] [] ∧ ∀ q1, z6.inv q1 → (let z4 := (q1.i : Int); ((decide (z4 < z5)) = true → (∃ (x1 : Shp), l[q1.i]? = some x1) ∧ ∀ (x1 : Shp), (l[q1.i]? = some x1) → (let z3 := ((List.length (x1).fields : Nat) : Int); let z2 := if q1.left - z3 < 0 then -1 else q1.left - z3; (l[q1.i]? = some x1) ∧ ((0 : Int) ≤ z4) ∧ (Fun Try.prog 115 [.agg (cShp x1), vI q1.left] [] (.v (vI z2)) []) ∧ ((decide (z2 < 0)) = true → (.v (vI (-1)) : S) = .v z7 ∧ ([] : List Blk) = []) ∧ ((decide (z2 < 0)) = false → ((.v (vI (IntKind.i64.wrap (z4 + 1))) : S) = .v (vI (z4 + 1))) ∧ z6.Nxt q1 [(0, .v (.c (.seq .shp l))), (1, .v (vI z2)), (5, .v (vI (z4 + 1)))] []))) ∧ ((decide (z4 < z5)) = false → (.v (vI q1.left) : S) = .v z7 ∧ ([] : List Blk) = []))))) (by kernel_rfl) ?_
  refine ⟨(as_i64 (by omega) (by omega)), fun h1 => have p1 := of_decide_eq_true h1; ?_, fun h1 => have p1 := of_decide_eq_false h1; ?_⟩
  refine ⟨(sI ?_), rfl⟩
  rotate_left
  refine ⟨has_of (j := (⟨left - (l.length : Int), 0⟩ : szShapeS_ok_V0)) (by first | rfl | simp) rfl (by dsimp only [szShapeS_ok_F0]; exact ⟨by omega, by omega, by omega, by rw [szShS, if_neg (by omega)]; rfl⟩), fun (q1 : szShapeS_ok_V0) hq_q1 => ?_⟩
  have hi_q1 : q1.i ≤ l.length ∧ (0 : Int) ≤ q1.left ∧ q1.left ≤ 1048576 ∧ szShL q1.left (List.drop q1.i l) = szShS left l := hq_q1
  obtain ⟨v1, v2, v3, v4⟩ := hi_q1
  refine ⟨fun h2 => have p2 := of_decide_eq_true h2; ?_, fun h2 => have p2 := of_decide_eq_false h2; ?_⟩
  refine ⟨(ax_get (l := l) (i := q1.i) (by omega)), fun x1 hx1 => ?_⟩
  rw [drop_el hx1, szShL_cons] at v4
  have hz := hp3 x1 (List.mem_of_getElem? hx1)
  refine ⟨hx1, (by omega), (szShape_ok x1 _ (by omega) (by omega)), fun h3 => have p3 := of_decide_eq_true h3; ?_, fun h3 => have p3 := of_decide_eq_false h3; ?_⟩
  refine ⟨(sI ?_), rfl⟩
  rotate_left
  exact ⟨(as_i64 (by omega) (by omega)), nxt_of (j := (⟨(if q1.left - ((List.length (x1).fields : Nat) : Int) < 0 then -1 else q1.left - ((List.length (x1).fields : Nat) : Int)), q1.i + 1⟩ : szShapeS_ok_V0)) (by first | rfl | simp) rfl (by dsimp only [szShapeS_ok_F0]; exact ⟨by omega, by grind, by grind, by grind⟩) (by dsimp only [szShapeS_ok_F0]; omega)⟩
  rw [drop_end p2] at v4
  refine ⟨(sI ?_), rfl⟩
  rotate_left
  all_goals first | (grind [szShS, szShL])
theorem szSchema_ok (l : List Shp) (left : Int) (hp1 : (0 : Int) ≤ left ∧ left ≤ 1048576) (hp2 : (l.length : Int) ≤ 9223372036854775807) (hp3 : ∀ e ∈ l, (e.fields.length : Int) ≤ 9223372036854775807) : Fun Try.prog 38 [.agg [.seq .shp l], vI left] [] (.v (vI (szShS left l))) [] := by
  have hN : bigN = 274877906944 := rfl
  refine fun_ofw Try.func38 (by kernel_rfl) (by kernel_rfl) (w := let z1 := vI (szShS left l); (.seg [.call [] (.v z1) []] (.br (.leaf () []) (.leaf () [])), (Fun Try.prog 69 [.c (.seq .shp l), vI left] [] (.v z1) []) ∧ ((decide (szShS left l < 0)) = true → (.v (vI (-1)) : S) = .v z1 ∧ ([] : List Blk) = []) ∧ ((decide (szShS left l < 0)) = false → (.v z1 : S) = .v z1 ∧ ([] : List Blk) = []))) (by kernel_rfl) ?_
  refine ⟨(szShapeS_ok _ _ (by omega) (by omega) (hp3)), fun h1 => have p1 := of_decide_eq_true h1; ?_, fun h1 => have p1 := of_decide_eq_false h1; ?_⟩
  refine ⟨(sI ?_), rfl⟩
  rotate_left
  exact ⟨rfl, rfl⟩
  all_goals have := szShS_b (l := l) (left := left) (by omega) (by omega); omega
theorem szPlan_ok (a : Pln) (left : Int) (hp1 : (0 : Int) ≤ left ∧ left ≤ 1048576) (hp2 : ((List.length (a).shapes : Nat) : Int) ≤ 9223372036854775807) (hp3 : ∀ e ∈ (a).shapes, (e.fields.length : Int) ≤ 9223372036854775807) : Fun Try.prog 8 [.agg (cPln a), vI left] [] (.v (vI (szShS left (a).shapes))) [] := by
  have hN : bigN = 274877906944 := rfl
  refine fun_ofw Try.func8 (by kernel_rfl) (by kernel_rfl) (w := let z1 := vI (szShS left a.shapes); let z2 := decide (szShS left a.shapes < 0); (.seg [.call [] (.v z1) []] (.br (.leaf () []) (.leaf () [])), (Fun Try.prog 38 [.agg [.seq .shp a.shapes], vI left] [] (.v z1) []) ∧ (z2 = true → (.v (vI (-1)) : S) = .v (vI (szShS left (a).shapes)) ∧ ([] : List Blk) = []) ∧ (z2 = false → (.v z1 : S) = .v (vI (szShS left (a).shapes)) ∧ ([] : List Blk) = []))) (by kernel_rfl) ?_
  refine ⟨(szSchema_ok a.shapes _ (by omega) (by omega) (hp3)), fun h1 => have p1 := of_decide_eq_true h1; ?_, fun h1 => have p1 := of_decide_eq_false h1; ?_⟩
  refine ⟨(sI ?_), rfl⟩
  rotate_left
  refine ⟨(sI ?_), rfl⟩
  rotate_left
  all_goals have := szShS_b (l := a.shapes) (left := left) (by omega) (by omega); omega
end Go.Proofs.Ytecljjcmjongfaa.Ax
