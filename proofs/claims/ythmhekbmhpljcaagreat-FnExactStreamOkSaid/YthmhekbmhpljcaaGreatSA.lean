/- Decoders: what is valid. -/
import Derived.Test.YthmhekbmhpljcaaGreatM5
import Derived.Test.YthmhekbmhpljcaaGreatNF
namespace Go.Proofs.YthmhekbmhpljcaaGreat.Ax
open Go.RowKit
set_option linter.unusedSimpArgs false
set_option linter.unusedVariables false
theorem topL_i (d : Dcd) (hp1 : List.length (d).stack ≤ bigN) : Fun Tryz.prog 83 [.agg (cDcd d)] [] (.v (vI (topL d))) [] := by
  have hN : bigN = 274877906944 := rfl
  refine fun_ofw Tryz.func83 (by kernel_rfl) (by kernel_rfl) (w := let z1 := (d.stack.length : Int); (.br (.leaf () []) (.seg [.as 12 (.v (vI (z1 - 1)))] (.intro (fun (x1 : Lev) => d.stack[Int.toNat (z1 - 1)]? = some x1) fun x1 => .seg [.el .lev x1] (.leaf () []))), ((decide (z1 = 0)) = true → (.v (vI 0) : S) = .v (vI (topL d)) ∧ ([] : List Blk) = []) ∧ ((decide (z1 = 0)) = false → ((.v (vI (IntKind.i64.wrap (z1 - 1))) : S) = .v (vI (z1 - 1))) ∧ (∃ (x1 : Lev), d.stack[Int.toNat (z1 - 1)]? = some x1) ∧ ∀ (x1 : Lev), (d.stack[Int.toNat (z1 - 1)]? = some x1) → ((d.stack[Int.toNat (z1 - 1)]? = some x1) ∧ ((0 : Int) ≤ z1 - 1) ∧ (.v (vI x1.left) : S) = .v (vI (topL d)) ∧ ([] : List Blk) = [])))) (by kernel_rfl) ?_
  refine ⟨fun h1 => have p1 := of_decide_eq_true h1; ?_, fun h1 => have p1 := of_decide_eq_false h1; ?_⟩
  refine ⟨(sI ?_), rfl⟩
  rotate_left
  refine ⟨(as_i64 (by omega) (by omega)), (ax_get (l := d.stack) (i := Int.toNat ((d.stack.length : Int) - 1)) (by omega)), fun x1 hx1 => ?_⟩
  have htop : topL d = x1.left := by unfold topL; rw [getD_of (by rw [← hx1]; congr 1; omega)]
  refine ⟨hx1, (by omega), (sI ?_), rfl⟩
  rotate_left
  all_goals first | (exact htop.symm) | ((unfold topL; rw [List.eq_nil_of_length_eq_zero (by omega : d.stack.length = 0)]; rfl)) | (grind)
theorem topL_s (d : Dcd) (hp1 : List.length (d).stack ≤ bigN) : Fun Tryz.prog 66 [.agg (cDcd d)] [] (.v (vI (topL d))) [] := by
  have hN : bigN = 274877906944 := rfl
  refine fun_ofw Tryz.func66 (by kernel_rfl) (by kernel_rfl) (w := let z1 := (d.stack.length : Int); (.br (.leaf () []) (.seg [.as 12 (.v (vI (z1 - 1)))] (.intro (fun (x1 : Lev) => d.stack[Int.toNat (z1 - 1)]? = some x1) fun x1 => .seg [.el .lev x1] (.leaf () []))), ((decide (z1 = 0)) = true → (.v (vI 0) : S) = .v (vI (topL d)) ∧ ([] : List Blk) = []) ∧ ((decide (z1 = 0)) = false → ((.v (vI (IntKind.i64.wrap (z1 - 1))) : S) = .v (vI (z1 - 1))) ∧ (∃ (x1 : Lev), d.stack[Int.toNat (z1 - 1)]? = some x1) ∧ ∀ (x1 : Lev), (d.stack[Int.toNat (z1 - 1)]? = some x1) → ((d.stack[Int.toNat (z1 - 1)]? = some x1) ∧ ((0 : Int) ≤ z1 - 1) ∧ (.v (vI x1.left) : S) = .v (vI (topL d)) ∧ ([] : List Blk) = [])))) (by kernel_rfl) ?_
  refine ⟨fun h1 => have p1 := of_decide_eq_true h1; ?_, fun h1 => have p1 := of_decide_eq_false h1; ?_⟩
  refine ⟨(sI ?_), rfl⟩
  rotate_left
  refine ⟨(as_i64 (by omega) (by omega)), (ax_get (l := d.stack) (i := Int.toNat ((d.stack.length : Int) - 1)) (by omega)), fun x1 hx1 => ?_⟩
  have htop : topL d = x1.left := by unfold topL; rw [getD_of (by rw [← hx1]; congr 1; omega)]
  refine ⟨hx1, (by omega), (sI ?_), rfl⟩
  rotate_left
  all_goals first | (exact htop.symm) | ((unfold topL; rw [List.eq_nil_of_length_eq_zero (by omega : d.stack.length = 0)]; rfl)) | (grind)
theorem isShape_i (p : Pln) (k : Int) (hp1 : List.length (p).shapes ≤ bigN) : Fun Tryz.prog 167 [.agg (cPln p), vI k] [] (.v (vB (within k 0 (((List.length (p).shapes : Nat) : Int) - 1)))) [] := by
  have hN : bigN = 274877906944 := rfl
  refine fun_ofw Tryz.func167 (by kernel_rfl) (by kernel_rfl) (w := let z1 := (p.shapes.length : Int) - 1; let z2 := vB (within k 0 z1); (.seg [.as 10 (.v (vI z1)), .call [] (.v z2) []] (.leaf () []), ((.v (vI (IntKind.i64.wrap z1)) : S) = .v (vI z1)) ∧ (Fun Tryz.prog 76 [vI k, vI 0, vI z1] [] (.v z2) []) ∧ (.v z2 : S) = .v (vB (within k 0 (((List.length (p).shapes : Nat) : Int) - 1))) ∧ ([] : List Blk) = [])) (by kernel_rfl) ?_
  exact ⟨(as_i64 (by omega) (by omega)), (within_i _ _ _), (congrArg S.v (congrArg V.c (congrArg C.bool (by rfl)))), rfl⟩
theorem isLevel_i (p : Pln) (l : Lev) (hp1 : List.length (p).shapes ≤ bigN) : Fun Tryz.prog 125 [.agg (cPln p), .agg (cLev l)] [] (.v (vB (levOk ((List.length (p).shapes : Nat) : Int) l))) [] := by
  have hN : bigN = 274877906944 := rfl
  refine fun_ofw Tryz.func125 (by kernel_rfl) (by kernel_rfl) (w := let z1 := ((List.length (p).shapes : Nat) : Int); let z2 := within l.msg 0 (z1 - 1); let z3 := vB (within l.left 0 2000); (.seg [.call [] (.v (vB z2)) []] (.br (.seg [.call [] (.v z3) []] (.leaf () [])) (.leaf () [])), (Fun Tryz.prog 167 [.agg (cPln p), vI l.msg] [] (.v (vB z2)) []) ∧ (z2 = true → (Fun Tryz.prog 76 [vI l.left, vI 0, vI 2000] [] (.v z3) []) ∧ (.v z3 : S) = .v (vB (levOk z1 l)) ∧ ([] : List Blk) = []) ∧ (z2 = false → (.v (vB false) : S) = .v (vB (levOk z1 l)) ∧ ([] : List Blk) = []))) (by kernel_rfl) ?_
  refine ⟨(isShape_i p _ (by omega)), fun h1 => have p1 := within_t h1; ?_, fun h1 => have p1 := within_f h1; ?_⟩
  refine ⟨(within_i _ _ _), (sB ?_), rfl⟩
  rotate_left
  refine ⟨(sB ?_), rfl⟩
  rotate_left
  all_goals first | (simp [levOk, *]; done) | (simp_all [levOk]; done) | (grind [levOk])
theorem badLev_f (l : Lev) (d : Dcd) (hp1 : List.length (d).plan.shapes ≤ bigN) : Fun Tryz.prog 124 [.agg (cLev l), vP 0] [.cells (cDcd d)] (.v (vB (!levOk ((List.length (d).plan.shapes : Nat) : Int) l))) [.cells (cDcd d)] := by
  have hN : bigN = 274877906944 := rfl
  refine fun_ofw Tryz.func124 (by kernel_rfl) (by kernel_rfl) (w := let z1 := levOk ((List.length (d.plan).shapes : Nat) : Int) l; (.seg [.call [] (.v (vB z1)) []] (.leaf () [0]), (Fun Tryz.prog 125 [.agg (cPln d.plan), .agg (cLev l)] [] (.v (vB z1)) []) ∧ (.v (vB (!z1)) : S) = .v (vB (!levOk ((List.length (d).plan.shapes : Nat) : Int) l)) ∧ ([.cells (cDcd d)] : List Blk) = [.cells (cDcd d)])) (by kernel_rfl) ?_
  exact ⟨(isLevel_i d.plan l (by omega)), (congrArg S.v (congrArg V.c (congrArg C.bool (by rfl)))), rfl⟩
structure idxLev_V0 where
  v : Nat
def idxLev_F0 (s : List Lev) (d : Dcd) : Fam := ⟨idxLev_V0, fun q1 => [(0, .v (.c (.seq .lev s))), (1, .v (.c (.fn 124 [0]))), (7, .v (vI (s.length : Int))), (8, .v (vI (q1.v : Int)))], fun _ => [.cells (cDcd d)], fun q1 => q1.v ≤ s.length ∧ levN (d.plan.shapes.length : Int) (List.drop q1.v s) + q1.v = levN (d.plan.shapes.length : Int) s, fun q1 => s.length - q1.v⟩

theorem idxLev (s : List Lev) (d : Dcd) (hp1 : List.length (d).plan.shapes ≤ bigN) (hp2 : s.length ≤ bigN) : Fun Tryz.prog 166 [.c (.seq .lev s), .c (.fn 124 [0])] [.cells (cDcd d)] (.v (vI (badLev ((List.length (d).plan.shapes : Nat) : Int) s))) [.cells (cDcd d)] := by
  have hN : bigN = 274877906944 := rfl
  refine fun_ofw Tryz.func166 (by kernel_rfl) (by kernel_rfl) (w := let z3 := ((List.length (d).plan.shapes : Nat) : Int); let z4 : List Blk := [.cells (cDcd d)]; let z5 := (s.length : Int); let z6 := idxLev_F0 s d; (.seg [.at 0, .keep [0, 1, 7, 8], .sel [0]] (.loop z6 fun q1 => .br (.intro (fun (x1 : Lev) => s[q1.v]? = some x1) fun x1 => .seg [.el .lev x1, .call [0] (.v (vB (!levOk z3 x1))) z4] (.br (.leaf () [0]) (.seg [.as 18 (.v (vI ((q1.v : Int) + 1))), .at 0, .keep [0, 1, 7, 8], .sel [0]] (.next)))) (.leaf () [0])), z6.Has [(0, .v (.c (.seq .lev s))), (1, .v (.c (.fn 124 [0]))), (7, .v (vI z5)), (8, .v (vI 0))] z4 ∧ ∀ q1, z6.inv q1 → (let z2 := (q1.v : Int); ((decide (z2 < z5)) = true → (∃ (x1 : Lev), s[q1.v]? = some x1) ∧ ∀ (x1 : Lev), (s[q1.v]? = some x1) → (let z1 := !levOk z3 x1; (s[q1.v]? = some x1) ∧ ((0 : Int) ≤ z2) ∧ (Fun Tryz.prog 124 [.agg (cLev x1), vP 0] z4 (.v (vB z1)) z4) ∧ (z1 = true → (.v (vI z2) : S) = .v (vI (badLev z3 s)) ∧ (z4 : List Blk) = z4) ∧ (z1 = false → ((.v (vI (IntKind.i64.wrap (z2 + 1))) : S) = .v (vI (z2 + 1))) ∧ z6.Nxt q1 [(0, .v (.c (.seq .lev s))), (1, .v (.c (.fn 124 [0]))), (7, .v (vI z5)), (8, .v (vI (z2 + 1)))] z4))) ∧ ((decide (z2 < z5)) = false → (.v (vI (-1)) : S) = .v (vI (badLev z3 s)) ∧ (z4 : List Blk) = z4)))) (by kernel_rfl) ?_
  refine ⟨has_of (j := (⟨0⟩ : idxLev_V0)) (by first | rfl | simp) rfl (by dsimp only [idxLev_F0]; exact ⟨by omega, rfl⟩), fun (q1 : idxLev_V0) hq_q1 => ?_⟩
  have hi_q1 : q1.v ≤ s.length ∧ levN (d.plan.shapes.length : Int) (List.drop q1.v s) + q1.v = levN (d.plan.shapes.length : Int) s := hq_q1
  obtain ⟨v1, v3⟩ := hi_q1
  refine ⟨fun h1 => have p1 := of_decide_eq_true h1; ?_, fun h1 => have p1 := of_decide_eq_false h1; ?_⟩
  refine ⟨(ax_get (l := s) (i := q1.v) (by omega)), fun x1 hx1 => ?_⟩
  rw [drop_el hx1, levN_cons] at v3
  have hll := congrArg List.length (drop_el hx1)
  rw [List.length_drop, List.length_cons, List.length_drop] at hll
  refine ⟨hx1, (by omega), (badLev_f x1 d (by omega)), fun h2 => have q2 := bnot_t h2; ?_, fun h2 => have q2 := bnot_f h2; ?_⟩
  rw [if_neg (by simp [q2])] at v3
  have hbl : badLev (d.plan.shapes.length : Int) s = q1.v := by unfold badLev; rw [if_neg (by omega)]; omega
  refine ⟨(sI ?_), rfl⟩
  rotate_left
  rw [if_pos q2] at v3
  exact ⟨(as_i64 (by omega) (by omega)), nxt_of (j := (⟨q1.v + 1⟩ : idxLev_V0)) (by first | rfl | simp) rfl (by dsimp only [idxLev_F0]; exact ⟨by omega, by omega⟩) (by dsimp only [idxLev_F0]; omega)⟩
  rw [List.drop_eq_nil_of_le (by omega)] at v3
  simp only [levN] at v3
  have hbl : badLev (d.plan.shapes.length : Int) s = -1 := by unfold badLev; rw [if_pos (by omega)]
  refine ⟨(sI ?_), rfl⟩
  rotate_left
  all_goals first | (exact hbl.symm) | (grind)
theorem hasLev (s : List Lev) (d : Dcd) (hp1 : List.length (d).plan.shapes ≤ bigN) (hp2 : s.length ≤ bigN) : Fun Tryz.prog 123 [.c (.seq .lev s), .c (.fn 124 [0])] [.cells (cDcd d)] (.v (vB (decide (0 ≤ badLev ((List.length (d).plan.shapes : Nat) : Int) s)))) [.cells (cDcd d)] := by
  have hN : bigN = 274877906944 := rfl
  refine fun_ofw Tryz.func123 (by kernel_rfl) (by kernel_rfl) (w := let z1 := ((List.length (d).plan.shapes : Nat) : Int); let z2 : List Blk := [.cells (cDcd d)]; (.seg [.call [0] (.v (vI (badLev z1 s))) z2] (.leaf () [0]), (Fun Tryz.prog 166 [.c (.seq .lev s), .c (.fn 124 [0])] z2 (.v (vI (badLev z1 s))) z2) ∧ (.v (vB (decide (0 ≤ badLev z1 s))) : S) = .v (vB (decide (0 ≤ badLev z1 s))) ∧ (z2 : List Blk) = z2)) (by kernel_rfl) ?_
  exact ⟨(idxLev _ d (by omega) (by omega)), rfl, rfl⟩
theorem levelsOk_i (d : Dcd) (hp1 : List.length (d).stack ≤ bigN) (hp2 : List.length (d).plan.shapes ≤ bigN) : Fun Tryz.prog 77 [.agg (cDcd d)] [] (.v (vB (levelsOk d))) [] := by
  have hN : bigN = 274877906944 := rfl
  refine fun_ofw Tryz.func77 (by kernel_rfl) (by kernel_rfl) (w := let z1 := decide (0 ≤ badLev ((List.length (d).plan.shapes : Nat) : Int) d.stack); let z2 := decide ((d.stack.length : Int) ≤ d.plan.deep); let z3 := planOk d.plan; (.seg [.call [] (.v (vB z3)) []] (.br (.br (.seg [.call [0] (.v (vB z1)) [.cells (cDcd d)]] (.leaf () [])) (.leaf () [])) (.leaf () [])), (Fun Tryz.prog 97 [.agg (cPln d.plan)] [] (.v (vB z3)) []) ∧ (z3 = true → (z2 = true → (Fun Tryz.prog 123 [.c (.seq .lev d.stack), .c (.fn 124 [0])] [.cells (cDcd d)] (.v (vB z1)) [.cells (cDcd d)]) ∧ (.v (vB (!z1)) : S) = .v (vB (levelsOk d)) ∧ ([] : List Blk) = []) ∧ (z2 = false → (.v (vB false) : S) = .v (vB (levelsOk d)) ∧ ([] : List Blk) = [])) ∧ (z3 = false → (.v (vB false) : S) = .v (vB (levelsOk d)) ∧ ([] : List Blk) = []))) (by kernel_rfl) ?_
  refine ⟨(planOk_i d.plan), fun h1 => have p1 := planOk_t h1; ?_, fun h1 => ?_⟩
  refine ⟨fun h2 => have p2 := of_decide_eq_true h2; ?_, fun h2 => have p2 := of_decide_eq_false h2; ?_⟩
  refine ⟨(hasLev _ d (by omega) (by omega)), (sB ?_), rfl⟩
  rotate_left
  refine ⟨(sB ?_), rfl⟩
  rotate_left
  refine ⟨(sB ?_), rfl⟩
  rotate_left
  all_goals first | (simp_all [levelsOk]; done) | ((unfold levelsOk; rw [levN_all]; grind [badLev])) | (grind [levelsOk, badLev, levN_all])
end Go.Proofs.YthmhekbmhpljcaaGreat.Ax
