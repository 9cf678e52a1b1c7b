/- Events. -/
import Derived.Test.YthmhekbmhpljcaaGreatNE
namespace Go.Proofs.YthmhekbmhpljcaaGreat.Ax
open Go.RowKit
set_option linter.unusedSimpArgs false
set_option linter.unusedVariables false
theorem hasField_i (k : Int) : Fun Tryz.prog 129 [vI k] [] (.v (vB (hasField k))) [] := by
  have hN : bigN = 274877906944 := rfl
  refine fun_ofw Tryz.func129 (by kernel_rfl) (by kernel_rfl) (w := (.br (.leaf () []) (.br (.leaf () []) (.leaf () [])), ((decide (k = 2)) = true → (.v (vB true) : S) = .v (vB (hasField k)) ∧ ([] : List Blk) = []) ∧ ((decide (k = 2)) = false → ((decide (k = 3)) = true → (.v (vB true) : S) = .v (vB (hasField k)) ∧ ([] : List Blk) = []) ∧ ((decide (k = 3)) = false → (.v (vB (decide (k = 6))) : S) = .v (vB (hasField k)) ∧ ([] : List Blk) = [])))) (by kernel_rfl) ?_
  refine ⟨fun h1 => have p1 := of_decide_eq_true h1; ?_, fun h1 => have p1 := of_decide_eq_false h1; ?_⟩
  exact ⟨(congrArg S.v (congrArg V.c (congrArg C.bool (by grind [hasField])))), rfl⟩
  refine ⟨fun h2 => have p2 := of_decide_eq_true h2; ?_, fun h2 => have p2 := of_decide_eq_false h2; ?_⟩
  exact ⟨(congrArg S.v (congrArg V.c (congrArg C.bool (by grind [hasField])))), rfl⟩
  exact ⟨(congrArg S.v (congrArg V.c (congrArg C.bool (by grind [hasField])))), rfl⟩
structure frameStop_i_V0 where
  i : Int
def frameStop_i_F0 (l : List Ev) (a : Int) : Fam := ⟨frameStop_i_V0, fun q1 => [(0, .v (.c (.seq .ev l))), (5, .v (vI q1.i))], fun _ => [], fun q1 => (0 : Int) ≤ q1.i ∧ (0 : Int) ≤ a ∧ frameStopN (List.drop (q1.i.toNat) l) (q1.i.toNat) = frameStop l a, fun q1 => l.length - q1.i.toNat⟩

theorem frameStop_i (l : List Ev) (a : Int) (hp1 : l.length ≤ bigN) : Fun Tryz.prog 144 [.c (.seq .ev l), vI a] [] (.v (vI (frameStop l a))) [] := by
  have hN : bigN = 274877906944 := rfl
  refine fun_ofw Tryz.func144 (by kernel_rfl) (by kernel_rfl) (w := let z2 := frameStop_i_F0 l a; let z3 := vI (frameStop l a); (.br (.leaf () []) (.seg [.at 0, .keep [0, 5], .sel []] (.loop z2 fun q1 => .br (.intro (fun (x1 : Ev) => l[q1.i.toNat]? = some x1) fun x1 => .seg [.el .ev x1] (.br (.leaf () []) (.seg [.as 14 (.v (vI (q1.i + 1))), .at 0, .keep [0, 5], .sel []] (.next)))) (.leaf () []))), ((decide (a < 0)) = true → (.v (vI (-1)) : S) = .v z3 ∧ ([] : List Blk) = []) ∧ ((decide (a < 0)) = false → z2.Has [(0, .v (.c (.seq .ev l))), (5, .v (vI a))] [] ∧ ∀ q1, z2.inv q1 → (let z1 := decide (q1.i < (l.length : Int)); (z1 = true → (∃ (x1 : Ev), l[q1.i.toNat]? = some x1) ∧ ∀ (x1 : Ev), (l[q1.i.toNat]? = some x1) → ((l[q1.i.toNat]? = some x1) ∧ ((0 : Int) ≤ q1.i) ∧ ((decide (x1.kind = 8)) = true → (.v (vI q1.i) : S) = .v z3 ∧ ([] : List Blk) = []) ∧ ((decide (x1.kind = 8)) = false → ((.v (vI (IntKind.i64.wrap (q1.i + 1))) : S) = .v (vI (q1.i + 1))) ∧ z2.Nxt q1 [(0, .v (.c (.seq .ev l))), (5, .v (vI (q1.i + 1)))] []))) ∧ (z1 = false → (.v (vI (-1)) : S) = .v z3 ∧ ([] : List Blk) = []))))) (by kernel_rfl) ?_
  refine ⟨fun h1 => have p1 := of_decide_eq_true h1; ?_, fun h1 => have p1 := of_decide_eq_false h1; ?_⟩
  refine ⟨(sI ?_), rfl⟩
  rotate_left
  refine ⟨has_of (j := (⟨a⟩ : frameStop_i_V0)) rfl rfl (by dsimp only [frameStop_i_F0]; exact ⟨by omega, by omega, by grind [frameStop]⟩), fun (q1 : frameStop_i_V0) hq_q1 => ?_⟩
  have hi_q1 : (0 : Int) ≤ q1.i ∧ (0 : Int) ≤ a ∧ frameStopN (List.drop (q1.i.toNat) l) (q1.i.toNat) = frameStop l a := hq_q1
  obtain ⟨v1, v2, v3⟩ := hi_q1
  refine ⟨fun h2 => have p2 := of_decide_eq_true h2; ?_, fun h2 => have p2 := of_decide_eq_false h2; ?_⟩
  refine ⟨(ax_get (l := l) (i := q1.i.toNat) (by omega)), fun x1 hx1 => ?_⟩
  rw [drop_el hx1, frameStopN] at v3
  refine ⟨hx1, (by omega), fun h3 => have p3 := of_decide_eq_true h3; ?_, fun h3 => have p3 := of_decide_eq_false h3; ?_⟩
  refine ⟨(sI ?_), rfl⟩
  rotate_left
  exact ⟨(as_i64 (by omega) (by omega)), nxt_of (j := (⟨q1.i + 1⟩ : frameStop_i_V0)) rfl rfl (by dsimp only [frameStop_i_F0]; exact ⟨by omega, by omega, by rw [show Int.toNat (q1.i + 1) = q1.i.toNat + 1 by omega]; grind⟩) (by dsimp only [frameStop_i_F0]; omega)⟩
  rw [List.drop_eq_nil_of_le (by omega), frameStopN] at v3
  refine ⟨(sI ?_), rfl⟩
  rotate_left
  all_goals grind [frameStop, frameStopN]
structure frameStop_s_V0 where
  i : Int
def frameStop_s_F0 (l : List Ev) (a : Int) : Fam := ⟨frameStop_s_V0, fun q1 => [(0, .v (.c (.seq .ev l))), (1, .v (vI a)), (5, .v (vI q1.i))], fun _ => [], fun q1 => (0 : Int) ≤ q1.i ∧ (0 ≤ a → frameStopN (List.drop (q1.i.toNat) l) (q1.i.toNat) = frameStop l a), fun q1 => l.length - q1.i.toNat⟩

theorem frameStop_s (l : List Ev) (a : Int) (hp1 : l.length ≤ bigN) : Fun Tryz.prog 138 [.c (.seq .ev l), vI a] [] (.v (vI (frameStop l a))) [] := by
  have hN : bigN = 274877906944 := rfl
  refine fun_ofw Tryz.func138 (by kernel_rfl) (by kernel_rfl) (w := let z2 := frameStop_s_F0 l a; let z3 := vI (frameStop l a); (.seg [.call [] (.v (vI (max 0 a))) [], .at 0, .keep [0, 1, 5], .sel []] (.loop z2 fun q1 => .br (.br (.intro (fun (x1 : Ev) => l[q1.i.toNat]? = some x1) fun x1 => .seg [.el .ev x1] (.br (.leaf () []) (.seg [.as 17 (.v (vI (q1.i + 1))), .at 0, .keep [0, 1, 5], .sel []] (.next)))) (.leaf () [])) (.leaf () [])), (Fun Tryz.prog 50 [vI 0, vI a] [] (.v (vI (max 0 a))) []) ∧ z2.Has [(0, .v (.c (.seq .ev l))), (1, .v (vI a)), (5, .v (vI (max 0 a)))] [] ∧ ∀ q1, z2.inv q1 → (let z1 := decide (q1.i < (l.length : Int)); (z1 = true → ((decide (0 ≤ a)) = true → (∃ (x1 : Ev), l[q1.i.toNat]? = some x1) ∧ ∀ (x1 : Ev), (l[q1.i.toNat]? = some x1) → ((l[q1.i.toNat]? = some x1) ∧ ((0 : Int) ≤ q1.i) ∧ ((decide (x1.kind = 8)) = true → (.v (vI q1.i) : S) = .v z3 ∧ ([] : List Blk) = []) ∧ ((decide (x1.kind = 8)) = false → ((.v (vI (IntKind.i64.wrap (q1.i + 1))) : S) = .v (vI (q1.i + 1))) ∧ z2.Nxt q1 [(0, .v (.c (.seq .ev l))), (1, .v (vI a)), (5, .v (vI (q1.i + 1)))] []))) ∧ ((decide (0 ≤ a)) = false → (.v (vI (-1)) : S) = .v z3 ∧ ([] : List Blk) = [])) ∧ (z1 = false → (.v (vI (-1)) : S) = .v z3 ∧ ([] : List Blk) = [])))) (by kernel_rfl) ?_
  refine ⟨(l1max _ _), has_of (j := (⟨max 0 a⟩ : frameStop_s_V0)) rfl rfl (by dsimp only [frameStop_s_F0]; exact ⟨by omega, by grind [frameStop]⟩), fun (q1 : frameStop_s_V0) hq_q1 => ?_⟩
  have hi_q1 : (0 : Int) ≤ q1.i ∧ (0 ≤ a → frameStopN (List.drop (q1.i.toNat) l) (q1.i.toNat) = frameStop l a) := hq_q1
  obtain ⟨v1, v3⟩ := hi_q1
  refine ⟨fun h1 => have p1 := of_decide_eq_true h1; ?_, fun h1 => have p1 := of_decide_eq_false h1; ?_⟩
  refine ⟨fun h2 => have p2 := of_decide_eq_true h2; ?_, fun h2 => have p2 := of_decide_eq_false h2; ?_⟩
  refine ⟨(ax_get (l := l) (i := q1.i.toNat) (by omega)), fun x1 hx1 => ?_⟩
  have v3 := v3 (by omega)
  rw [drop_el hx1, frameStopN] at v3
  refine ⟨hx1, (by omega), fun h3 => have p3 := of_decide_eq_true h3; ?_, fun h3 => have p3 := of_decide_eq_false h3; ?_⟩
  refine ⟨(sI ?_), rfl⟩
  rotate_left
  exact ⟨(as_i64 (by omega) (by omega)), nxt_of (j := (⟨q1.i + 1⟩ : frameStop_s_V0)) rfl rfl (by dsimp only [frameStop_s_F0]; exact ⟨by omega, by rw [show Int.toNat (q1.i + 1) = q1.i.toNat + 1 by omega]; grind⟩) (by dsimp only [frameStop_s_F0]; omega)⟩
  refine ⟨(sI ?_), rfl⟩
  rotate_left
  rw [List.drop_eq_nil_of_le (by omega)] at v3
  refine ⟨(sI ?_), rfl⟩
  rotate_left
  all_goals grind [frameStop, frameStopN]
end Go.Proofs.YthmhekbmhpljcaaGreat.Ax
