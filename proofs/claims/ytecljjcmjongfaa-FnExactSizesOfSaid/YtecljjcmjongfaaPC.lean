/- Sizes: the reference. -/
import Derived.Test.YtecljjcmjongfaaM4
import Derived.Test.YtecljjcmjongfaaNF
namespace Go.Proofs.Ytecljjcmjongfaa.Ax
open Go.RowKit
set_option linter.unusedSimpArgs false
set_option linter.unusedVariables false
structure up_s_V0 where
  n : Int
  i : Int
def up_s_F0 (l : List Ev) (a : Int) : Fam := ⟨up_s_V0, fun q1 => [(0, .v (.c (.seq .ev l))), (5, .v (vI q1.n)), (6, .v (vI q1.i))], fun _ => [], fun q1 => a ≤ q1.i ∧ q1.i ≤ (l.length : Int) ∧ q1.i + ((upL 0 q1.n (List.drop (q1.i.toNat) l) : Nat) : Int) = a + ((upL 0 0 (List.drop (a.toNat) l) : Nat) : Int) ∧ a - q1.i ≤ q1.n ∧ q1.n ≤ q1.i - a, fun q1 => l.length - q1.i.toNat⟩

theorem up_s (l : List Ev) (a : Int) (hp1 : l.length ≤ bigN) (hp2 : (0 : Int) ≤ a ∧ a ≤ (l.length : Int)) : Fun Try.prog 95 [.c (.seq .ev l), vI a] [] (.v (vI (a + ((upL 0 0 (List.drop (a.toNat) l) : Nat) : Int)))) [] := by
  have hN : bigN = 274877906944 := rfl
  refine fun_ofw Try.func95 (by kernel_rfl) (by kernel_rfl) (w := let z14 := vI (a + ((upL 0 0 (List.drop (a.toNat) l) : Nat) : Int)); let z15 := up_s_F0 l a; let z16 := ([] : List Blk); (.seg [.at 0, .keep [0, 5, 6], .sel []] (.loop z15 fun q1 => let z3 := vI (q1.i + 1); .br (.intro (fun (x1 : Ev) => l[q1.i.toNat]? = some x1) fun x1 => .seg [.el .ev x1] (.br (.seg [.br true, .as 23 (.v (vI (q1.n + 1)))] (.br (.leaf () []) (.seg [.as 13 (.v z3), .at 0, .keep [0, 5, 6], .sel []] (.next)))) (.br (.seg [.as 23 (.v (vI (q1.n + 1)))] (.br (.leaf () []) (.seg [.as 13 (.v z3), .at 0, .keep [0, 5, 6], .sel []] (.next)))) (.br (.seg [.br true, .as 28 (.v (vI (q1.n - 1)))] (.br (.leaf () []) (.seg [.as 13 (.v z3), .at 0, .keep [0, 5, 6], .sel []] (.next)))) (.br (.seg [.as 28 (.v (vI (q1.n - 1)))] (.br (.leaf () []) (.seg [.as 13 (.v z3), .at 0, .keep [0, 5, 6], .sel []] (.next)))) (.br (.leaf () []) (.seg [.as 13 (.v z3), .at 0, .keep [0, 5, 6], .sel []] (.next)))))))) (.leaf () [])), z15.Has [(0, .v (.c (.seq .ev l))), (5, .v (vI 0)), (6, .v (vI a))] [] ∧ ∀ q1, z15.inv q1 → (let z9 := (.v (vI (IntKind.i64.wrap (q1.n + 1))) : S) = .v (vI (q1.n + 1)); let z10 := (.v (vI (IntKind.i64.wrap (q1.n - 1))) : S) = .v (vI (q1.n - 1)); let z11 := decide (q1.i < (l.length : Int)); let z12 := vI (q1.i + 1); let z4 := (.v (vI (IntKind.i64.wrap (q1.i + 1))) : S) = .v z12; let z7 := (decide (q1.n + 1 = 0)) = false → z4 ∧ z15.Nxt q1 [(0, .v (.c (.seq .ev l))), (5, .v (vI (q1.n + 1))), (6, .v z12)] []; let z8 := (decide (q1.n - 1 = 0)) = false → z4 ∧ z15.Nxt q1 [(0, .v (.c (.seq .ev l))), (5, .v (vI (q1.n - 1))), (6, .v z12)] []; let z13 := (.v (vI q1.i) : S); let z5 := (decide (q1.n + 1 = 0)) = true → z13 = .v z14 ∧ z16 = []; let z6 := (decide (q1.n - 1 = 0)) = true → z13 = .v z14 ∧ z16 = []; (z11 = true → (∃ (x1 : Ev), l[q1.i.toNat]? = some x1) ∧ ∀ (x1 : Ev), (l[q1.i.toNat]? = some x1) → (let z1 := decide (x1.kind = 6); let z2 := decide (x1.kind = 7); (l[q1.i.toNat]? = some x1) ∧ ((0 : Int) ≤ q1.i) ∧ (z1 = true → (z1 = true) ∧ z9 ∧ z5 ∧ z7) ∧ (z1 = false → ((decide (x1.kind = 3)) = true → z9 ∧ z5 ∧ z7) ∧ ((decide (x1.kind = 3)) = false → (z2 = true → (z2 = true) ∧ z10 ∧ z6 ∧ z8) ∧ (z2 = false → ((decide (x1.kind = 5)) = true → z10 ∧ z6 ∧ z8) ∧ ((decide (x1.kind = 5)) = false → ((decide (q1.n = 0)) = true → z13 = .v z14 ∧ z16 = []) ∧ ((decide (q1.n = 0)) = false → z4 ∧ z15.Nxt q1 [(0, .v (.c (.seq .ev l))), (5, .v (vI q1.n)), (6, .v z12)] []))))))) ∧ (z11 = false → (.v (vI (l.length : Int)) : S) = .v z14 ∧ z16 = [])))) (by kernel_rfl) ?_
  refine ⟨has_of (j := (⟨0, a⟩ : up_s_V0)) rfl rfl (by dsimp only [up_s_F0]; exact ⟨by omega, by omega, rfl, by omega, by omega⟩), fun (q1 : up_s_V0) hq_q1 => ?_⟩
  have hi_q1 : a ≤ q1.i ∧ q1.i ≤ (l.length : Int) ∧ q1.i + ((upL 0 q1.n (List.drop (q1.i.toNat) l) : Nat) : Int) = a + ((upL 0 0 (List.drop (a.toNat) l) : Nat) : Int) ∧ a - q1.i ≤ q1.n ∧ q1.n ≤ q1.i - a := hq_q1
  obtain ⟨v1, v2, v3, v4, v5⟩ := hi_q1
  refine ⟨fun h1 => have p1 := of_decide_eq_true h1; ?_, fun h1 => have p1 := of_decide_eq_false h1; ?_⟩
  refine ⟨(ax_get (l := l) (i := q1.i.toNat) (by omega)), fun x1 hx1 => ?_⟩
  rw [drop_el hx1, upL_cons] at v3
  have ei : Int.toNat (q1.i + 1) = q1.i.toNat + 1 := by omega
  refine ⟨hx1, (by omega), fun h2 => have p2 := of_decide_eq_true h2; ?_, fun h2 => have p2 := of_decide_eq_false h2; ?_⟩
  refine ⟨h2, (as_i64 (by omega) (by omega)), fun h3 => have p3 := of_decide_eq_true h3; ?_, fun h3 => have p3 := of_decide_eq_false h3; ?_⟩
  exact ⟨(congrArg S.v (congrArg V.c (congrArg (C.int .i64) (by grind [dl, upL])))), rfl⟩
  exact ⟨(as_i64 (by omega) (by omega)), nxt_of (j := (⟨q1.n + 1, q1.i + 1⟩ : up_s_V0)) rfl rfl (by dsimp only [up_s_F0]; exact ⟨by omega, by omega, by grind [dl], by omega, by omega⟩) (by dsimp only [up_s_F0]; omega)⟩
  refine ⟨fun h3 => have p3 := of_decide_eq_true h3; ?_, fun h3 => have p3 := of_decide_eq_false h3; ?_⟩
  refine ⟨(as_i64 (by omega) (by omega)), fun h4 => have p4 := of_decide_eq_true h4; ?_, fun h4 => have p4 := of_decide_eq_false h4; ?_⟩
  exact ⟨(congrArg S.v (congrArg V.c (congrArg (C.int .i64) (by grind [dl, upL])))), rfl⟩
  exact ⟨(as_i64 (by omega) (by omega)), nxt_of (j := (⟨q1.n + 1, q1.i + 1⟩ : up_s_V0)) rfl rfl (by dsimp only [up_s_F0]; exact ⟨by omega, by omega, by grind [dl], by omega, by omega⟩) (by dsimp only [up_s_F0]; omega)⟩
  refine ⟨fun h4 => have p4 := of_decide_eq_true h4; ?_, fun h4 => have p4 := of_decide_eq_false h4; ?_⟩
  refine ⟨h4, (as_i64 (by omega) (by omega)), fun h5 => have p5 := of_decide_eq_true h5; ?_, fun h5 => have p5 := of_decide_eq_false h5; ?_⟩
  exact ⟨(congrArg S.v (congrArg V.c (congrArg (C.int .i64) (by grind [dl, upL])))), rfl⟩
  exact ⟨(as_i64 (by omega) (by omega)), nxt_of (j := (⟨q1.n - 1, q1.i + 1⟩ : up_s_V0)) rfl rfl (by dsimp only [up_s_F0]; exact ⟨by omega, by omega, by grind [dl], by omega, by omega⟩) (by dsimp only [up_s_F0]; omega)⟩
  refine ⟨fun h5 => have p5 := of_decide_eq_true h5; ?_, fun h5 => have p5 := of_decide_eq_false h5; ?_⟩
  refine ⟨(as_i64 (by omega) (by omega)), fun h6 => have p6 := of_decide_eq_true h6; ?_, fun h6 => have p6 := of_decide_eq_false h6; ?_⟩
  exact ⟨(congrArg S.v (congrArg V.c (congrArg (C.int .i64) (by grind [dl, upL])))), rfl⟩
  exact ⟨(as_i64 (by omega) (by omega)), nxt_of (j := (⟨q1.n - 1, q1.i + 1⟩ : up_s_V0)) rfl rfl (by dsimp only [up_s_F0]; exact ⟨by omega, by omega, by grind [dl], by omega, by omega⟩) (by dsimp only [up_s_F0]; omega)⟩
  refine ⟨fun h6 => have p6 := of_decide_eq_true h6; ?_, fun h6 => have p6 := of_decide_eq_false h6; ?_⟩
  exact ⟨(congrArg S.v (congrArg V.c (congrArg (C.int .i64) (by grind [dl, upL])))), rfl⟩
  exact ⟨(as_i64 (by omega) (by omega)), nxt_of (j := (⟨q1.n, q1.i + 1⟩ : up_s_V0)) rfl rfl (by dsimp only [up_s_F0]; exact ⟨by omega, by omega, by grind [dl], by omega, by omega⟩) (by dsimp only [up_s_F0]; omega)⟩
  rw [List.drop_eq_nil_of_le (by omega)] at v3
  exact ⟨(congrArg S.v (congrArg V.c (congrArg (C.int .i64) (by grind [dl, upL])))), rfl⟩
structure l22Text_s_V0 where
  out : List Int
  i : Nat
def l22Text_s_F0 (l : List Ev) : Fam := ⟨l22Text_s_V0, fun q1 => [(0, .v (.c (.seq .ev l))), (3, .v (vO 0)), (4, .v (vI (q1.i : Int)))], fun q1 => [.lst .u8 q1.out], fun q1 => q1.i ≤ l.length ∧ List.map toByte q1.out ++ textM (List.drop q1.i l) = textM l, fun q1 => l.length - q1.i⟩

theorem l22Text_s (l : List Ev) (hp1 : l.length ≤ bigN) (hp2 : List.length (textM l) ≤ bigN) : Fun Try.prog 98 [.c (.seq .ev l)] [] (.v (vT (textM l))) [] := by
  have hN : bigN = 274877906944 := rfl
  refine fun_ofw Try.func98 (by kernel_rfl) (by kernel_rfl) (w := let z3 := l22Text_s_F0 l; (.seg [.ty .u8, .at 0, .keep [0, 3, 4], .sel [0]] (.loop z3 fun q1 => .br (.intro (fun (x1 : Ev) => l[q1.i]? = some x1) fun x1 => .seg [.el .ev x1, .ty .u8, .as 11 (.v (vI ((q1.i : Int) + 1))), .at 0, .keep [0, 3, 4], .sel [1]] (.next)) (.leaf () [])), z3.Has [(0, .v (.c (.seq .ev l))), (3, .v (vO 0)), (4, .v (vI 0))] [.lst .u8 ([] : List Int)] ∧ ∀ q1, z3.inv q1 → (let z2 := (q1.i : Int); ((decide (z2 < (l.length : Int))) = true → (∃ (x1 : Ev), l[q1.i]? = some x1) ∧ ∀ (x1 : Ev), (l[q1.i]? = some x1) → (let z1 := List.map (fun b => (UInt8.toNat b : Int)) x1.text; (l[q1.i]? = some x1) ∧ ((0 : Int) ≤ z2) ∧ (q1.out.length + z1.length ≤ bigN) ∧ ((.v (vI (IntKind.i64.wrap (z2 + 1))) : S) = .v (vI (z2 + 1))) ∧ z3.Nxt q1 [(0, .v (.c (.seq .ev l))), (3, .v (vO 0)), (4, .v (vI (z2 + 1)))] [.lst .u8 (q1.out ++ z1)])) ∧ ((decide (z2 < (l.length : Int))) = false → (.v (vT (List.map toByte q1.out)) : S) = .v (vT (textM l)) ∧ ([] : List Blk) = [])))) (by kernel_rfl) ?_
  refine ⟨has_of (j := (⟨([] : List Int), 0⟩ : l22Text_s_V0)) (by first | rfl | simp) rfl (by dsimp only [l22Text_s_F0]; exact ⟨by omega, rfl⟩), fun (q1 : l22Text_s_V0) hq_q1 => ?_⟩
  have hi_q1 : q1.i ≤ l.length ∧ List.map toByte q1.out ++ textM (List.drop q1.i l) = textM l := hq_q1
  obtain ⟨v1, v2⟩ := hi_q1
  have vl := congrArg List.length v2
  simp only [List.length_append, List.length_map] at vl
  refine ⟨fun h1 => have p1 := of_decide_eq_true h1; ?_, fun h1 => have p1 := of_decide_eq_false h1; ?_⟩
  refine ⟨(ax_get (l := l) (i := q1.i) (by omega)), fun x1 hx1 => ?_⟩
  rw [drop_el hx1, textM_cons] at v2 vl
  simp only [List.length_append] at vl
  exact ⟨hx1, (by omega), (by simp only [List.length_map]; omega), (as_i64 (by omega) (by omega)), nxt_of (j := (⟨q1.out ++ (List.map (fun b => (UInt8.toNat b : Int)) x1.text), q1.i + 1⟩ : l22Text_s_V0)) (by first | rfl | simp) rfl (by dsimp only [l22Text_s_F0]; exact ⟨by omega, by simp only [List.map_append, toByte_of, List.append_assoc]; exact v2⟩) (by dsimp only [l22Text_s_F0]; omega)⟩
  rw [drop_end p1] at v2
  refine ⟨(congrArg S.v (congrArg V.c (congrArg C.str ?_))), rfl⟩
  rotate_left
  all_goals first | (simpa [textM] using v2)
theorem l22Tag_s (n : Int) (w : Int) : Fun Try.prog 141 [vI n, vI w] [] (.v (vT (tagP n w))) [] := by
  have hN : bigN = 274877906944 := rfl
  have htb := tagOf_b n w
  refine fun_ofw Try.func141 (by kernel_rfl) (by kernel_rfl) (w := let z1 := vT (putVar (tagOf n w)); (.seg [.call [] (.v (.c (.int .u64 (tagOf n w)))) [], .call [] (.v z1) []] (.leaf () []), (Fun Try.prog 168 [vI n, vI w] [] (.v (.c (.int .u64 (tagOf n w)))) []) ∧ (Fun Try.prog 167 [.c (.int .u64 (tagOf n w))] [] (.v z1) []) ∧ (.v z1 : S) = .v (vT (tagP n w)) ∧ ([] : List Blk) = [])) (by kernel_rfl) ?_
  exact ⟨(tagOf_s _ _), (putVar_s _ (by omega)), (congrArg S.v (congrArg V.c (congrArg C.str (by rfl)))), rfl⟩
theorem l22Value_s (f : Fld) (u : Int) (hp1 : (0 : Int) ≤ u ∧ u ≤ 18446744073709551615) : Fun Try.prog 140 [.agg (cFld f), .c (.int .u64 u)] [] (.v (vT (putNum f u))) [] := by
  have hN : bigN = 274877906944 := rfl
  refine fun_ofw Try.func140 (by kernel_rfl) (by kernel_rfl) (w := let z1 := wireOf f.kind; let z2 := vT (putFix u (widthOf z1)); (.seg [.call [] (.v (vI z1)) [], .call [] (.v (vI (widthOf z1))) []] (.br (.seg [.call [] (.v z2) []] (.leaf () [])) (.seg [.call [] (.v (vT (putVar u))) []] (.leaf () []))), (Fun Try.prog 124 [vI f.kind] [] (.v (vI z1)) []) ∧ (Fun Try.prog 129 [vI z1] [] (.v (vI (widthOf z1))) []) ∧ ((decide (0 < widthOf z1)) = true → (Fun Try.prog 166 [.c (.int .u64 u), vI (widthOf z1)] [] (.v z2) []) ∧ (.v z2 : S) = .v (vT (putNum f u)) ∧ ([] : List Blk) = []) ∧ ((decide (0 < widthOf z1)) = false → (Fun Try.prog 167 [.c (.int .u64 u)] [] (.v (vT (putVar u))) []) ∧ (.v (vT (putVar u)) : S) = .v (vT (putNum f u)) ∧ ([] : List Blk) = []))) (by kernel_rfl) ?_
  refine ⟨(wireOf_s _), (widthOf_s _), fun h1 => have p1 := of_decide_eq_true h1; ?_, fun h1 => have p1 := of_decide_eq_false h1; ?_⟩
  refine ⟨(putFix_s _ _ (by omega)), (congrArg S.v (congrArg V.c (congrArg C.str ?_))), rfl⟩
  rotate_left
  refine ⟨(putVar_s _ (by omega)), (congrArg S.v (congrArg V.c (congrArg C.str ?_))), rfl⟩
  rotate_left
  all_goals first | (simp_all [putNum]; done) | (grind [putNum])
structure l22Run_s_V0 where
  n : Int
def l22Run_s_F0 (f : Fld) (l : List Ev) (a : Int) : Fam := ⟨l22Run_s_V0, fun q1 => [(1, .v (.c (.seq .ev l))), (2, .v (vI a)), (3, .v (vP 0)), (7, .v (vI q1.n))], fun _ => [.cells (cFld f)], fun q1 => 1 ≤ q1.n ∧ a + q1.n ≤ (l.length : Int) ∧ q1.n + (((if f.packed then runL f (List.drop (Int.toNat (a + q1.n)) l) else 0) : Nat) : Int) = ((numsN f (List.drop (a.toNat) l) : Nat) : Int), fun q1 => l.length - q1.n.toNat⟩

theorem l22Run_s (f : Fld) (l : List Ev) (a : Int) (hp1 : l.length ≤ bigN) (hp2 : (0 : Int) ≤ a ∧ a < (l.length : Int)) : Fun Try.prog 96 [.agg (cFld f), .c (.seq .ev l), vI a] [] (.v (vI ((numsN f (List.drop (a.toNat) l) : Nat) : Int))) [] := by
  have hN : bigN = 274877906944 := rfl
  refine fun_ofw Try.func96 (by kernel_rfl) (by kernel_rfl) (w := let z8 := vI ((numsN f (List.drop (a.toNat) l) : Nat) : Int); let z9 := l22Run_s_F0 f l a; let z10 := ([] : List Blk); (.seg [.at 0, .keep [1, 2, 3, 7], .sel [0]] (.loop z9 fun q1 => let z3 := vI (a + q1.n); .case f.packed (.case (decide (a + q1.n < (l.length : Int))) (.intro (fun (x1 : Ev) => l[Int.toNat (a + q1.n)]? = some x1) fun x1 => .case (decide (x1.kind = 2)) (.seg [.ord (os 32 []) [], .br true, .as 13 (.v z3), .br true, .as 22 (.v z3), .el .ev x1, .br true, .as 32 (.v z3), .el .ev x1] (.br (.seg [.as 41 (.v (vI (q1.n + 1))), .at 0, .keep [1, 2, 3, 7], .sel [0]] (.next)) (.leaf () []))) (.seg [.ord (os 32 []) [], .br true, .as 13 (.v z3), .br true, .as 22 (.v z3), .el .ev x1, .br false] (.leaf () []))) (.seg [.ord (os 32 []) [], .br true, .as 13 (.v z3), .br false] (.leaf () []))) (.seg [.ord (os 32 []) [], .br false] (.leaf () []))), z9.Has [(1, .v (.c (.seq .ev l))), (2, .v (vI a)), (3, .v (vP 0)), (7, .v (vI 1))] [.cells (cFld f)] ∧ ∀ q1, z9.inv q1 → (let z4 := (.v (vI (IntKind.i64.wrap (a + q1.n))) : S) = .v (vI (a + q1.n)); let z5 := decide (a + q1.n < (l.length : Int)); let z6 := (0 : Int) ≤ a + q1.n; let z7 := (.v (vI q1.n) : S); (f.packed = true → (z5 = true → (∃ (x1 : Ev), l[Int.toNat (a + q1.n)]? = some x1) ∧ ∀ (x1 : Ev), (l[Int.toNat (a + q1.n)]? = some x1) → (let z1 := l[Int.toNat (a + q1.n)]? = some x1; let z2 := decide (x1.kind = 2); (z2 = true → (f.packed = true) ∧ z4 ∧ z4 ∧ (z5 = true) ∧ z4 ∧ z4 ∧ z1 ∧ z6 ∧ z1 ∧ z6 ∧ (z2 = true) ∧ z4 ∧ z4 ∧ z1 ∧ z6 ∧ z1 ∧ z6 ∧ ((decide (x1.field = f.number)) = true → ((.v (vI (IntKind.i64.wrap (q1.n + 1))) : S) = .v (vI (q1.n + 1))) ∧ z9.Nxt q1 [(1, .v (.c (.seq .ev l))), (2, .v (vI a)), (3, .v (vP 0)), (7, .v (vI (q1.n + 1)))] [.cells (cFld f)]) ∧ ((decide (x1.field = f.number)) = false → z7 = .v z8 ∧ z10 = [])) ∧ (z2 = false → (f.packed = true) ∧ z4 ∧ z4 ∧ (z5 = true) ∧ z4 ∧ z4 ∧ z1 ∧ z6 ∧ z1 ∧ z6 ∧ (z2 = false) ∧ z7 = .v z8 ∧ z10 = []))) ∧ (z5 = false → (f.packed = true) ∧ z4 ∧ z4 ∧ (z5 = false) ∧ z7 = .v z8 ∧ z10 = [])) ∧ (f.packed = false → (f.packed = false) ∧ z7 = .v z8 ∧ z10 = [])))) (by kernel_rfl) ?_
  refine ⟨has_of (j := (⟨1⟩ : l22Run_s_V0)) rfl rfl (by dsimp only [l22Run_s_F0]; exact ⟨by omega, by omega, by unfold numsN; rw [List.drop_drop, show Int.toNat (a + 1) = a.toNat + 1 by omega]; omega⟩), fun (q1 : l22Run_s_V0) hq_q1 => ?_⟩
  have hi_q1 : 1 ≤ q1.n ∧ a + q1.n ≤ (l.length : Int) ∧ q1.n + (((if f.packed then runL f (List.drop (Int.toNat (a + q1.n)) l) else 0) : Nat) : Int) = ((numsN f (List.drop (a.toNat) l) : Nat) : Int) := hq_q1
  obtain ⟨v1, v2, v3⟩ := hi_q1
  refine ⟨fun h1 => ?_, fun h1 => ?_⟩
  refine ⟨fun h2 => have p2 := of_decide_eq_true h2; ?_, fun h2 => have p2 := of_decide_eq_false h2; ?_⟩
  refine ⟨(ax_get (l := l) (i := Int.toNat (a + q1.n)) (by omega)), fun x1 hx1 => ?_⟩
  rw [drop_el hx1, runL_cons] at v3
  have ei : Int.toNat (a + (q1.n + 1)) = Int.toNat (a + q1.n) + 1 := by omega
  refine ⟨fun h3 => have p3 := of_decide_eq_true h3; ?_, fun h3 => have p3 := of_decide_eq_false h3; ?_⟩
  refine ⟨h1, (as_i64 (by omega) (by omega)), (as_i64 (by omega) (by omega)), h2, (as_i64 (by omega) (by omega)), (as_i64 (by omega) (by omega)), hx1, (by omega), hx1, (by omega), h3, (as_i64 (by omega) (by omega)), (as_i64 (by omega) (by omega)), hx1, (by omega), hx1, (by omega), fun h4 => have p4 := of_decide_eq_true h4; ?_, fun h4 => have p4 := of_decide_eq_false h4; ?_⟩
  exact ⟨(as_i64 (by omega) (by omega)), nxt_of (j := (⟨q1.n + 1⟩ : l22Run_s_V0)) rfl rfl (by dsimp only [l22Run_s_F0]; exact ⟨by omega, by omega, by grind [isRun]⟩) (by dsimp only [l22Run_s_F0]; omega)⟩
  refine ⟨(sI ?_), rfl⟩
  rotate_left
  refine ⟨h1, (as_i64 (by omega) (by omega)), (as_i64 (by omega) (by omega)), h2, (as_i64 (by omega) (by omega)), (as_i64 (by omega) (by omega)), hx1, (by omega), hx1, (by omega), h3, (sI ?_), rfl⟩
  rotate_left
  rw [List.drop_eq_nil_of_le (by omega)] at v3
  refine ⟨h1, (as_i64 (by omega) (by omega)), (as_i64 (by omega) (by omega)), h2, (sI ?_), rfl⟩
  rotate_left
  refine ⟨h1, (sI ?_), rfl⟩
  rotate_left
  all_goals first | (grind [isRun, runL])
structure l22Values_s_V0 where
  out : List Int
  i : Nat
def l22Values_s_F0 (f : Fld) (l : List Ev) : Fam := ⟨l22Values_s_V0, fun q1 => [(1, .v (.c (.seq .ev l))), (2, .v (vP 0)), (5, .v (vO 1)), (6, .v (vI (q1.i : Int)))], fun q1 => [.cells (cFld f), .lst .u8 q1.out], fun q1 => q1.i ≤ l.length ∧ List.map toByte q1.out ++ valsM f (List.drop q1.i l) = valsM f l, fun q1 => l.length - q1.i⟩

theorem l22Values_s (f : Fld) (l : List Ev) (hp1 : l.length ≤ bigN) (hp2 : ∀ e ∈ l, EvB e) (hp3 : List.length (valsM f l) ≤ bigN) : Fun Try.prog 97 [.agg (cFld f), .c (.seq .ev l)] [] (.v (vT (valsM f l))) [] := by
  have hN : bigN = 274877906944 := rfl
  refine fun_ofw Try.func97 (by kernel_rfl) (by kernel_rfl) (w := let z3 := l22Values_s_F0 f l; (.seg [.ty .u8, .at 0, .keep [1, 2, 5, 6], .sel [0, 1]] (.loop z3 fun q1 => .br (.intro (fun (x1 : Ev) => l[q1.i]? = some x1) fun x1 => .seg [.tree (fr (.one 7 (.one 8 (.first 9 (.done)))) 0 7) 8 [], .el .ev x1, .call [] (.v (vT (putNum f x1.bits))) [], .ty .u8, .as 13 (.v (vI ((q1.i : Int) + 1))), .at 0, .keep [1, 2, 5, 6], .sel [0, 2]] (.next)) (.leaf () [])), z3.Has [(1, .v (.c (.seq .ev l))), (2, .v (vP 0)), (5, .v (vO 1)), (6, .v (vI 0))] [.cells (cFld f), .lst .u8 ([] : List Int)] ∧ ∀ q1, z3.inv q1 → (let z2 := (q1.i : Int); ((decide (z2 < (l.length : Int))) = true → (∃ (x1 : Ev), l[q1.i]? = some x1) ∧ ∀ (x1 : Ev), (l[q1.i]? = some x1) → (let z1 := List.map (fun b => (UInt8.toNat b : Int)) (putNum f x1.bits); (l[q1.i]? = some x1) ∧ ((0 : Int) ≤ z2) ∧ (l[q1.i]? = some x1) ∧ ((0 : Int) ≤ z2) ∧ (Fun Try.prog 140 [.agg (cFld f), .c (.int .u64 x1.bits)] [] (.v (vT (putNum f x1.bits))) []) ∧ (q1.out.length + z1.length ≤ bigN) ∧ ((.v (vI (IntKind.i64.wrap (z2 + 1))) : S) = .v (vI (z2 + 1))) ∧ z3.Nxt q1 [(1, .v (.c (.seq .ev l))), (2, .v (vP 0)), (5, .v (vO 1)), (6, .v (vI (z2 + 1)))] [.cells (cFld f), .lst .u8 (q1.out ++ z1)])) ∧ ((decide (z2 < (l.length : Int))) = false → (.v (vT (List.map toByte q1.out)) : S) = .v (vT (valsM f l)) ∧ ([] : List Blk) = [])))) (by kernel_rfl) ?_
  refine ⟨has_of (j := (⟨([] : List Int), 0⟩ : l22Values_s_V0)) (by first | rfl | simp) rfl (by dsimp only [l22Values_s_F0]; exact ⟨by omega, rfl⟩), fun (q1 : l22Values_s_V0) hq_q1 => ?_⟩
  have hi_q1 : q1.i ≤ l.length ∧ List.map toByte q1.out ++ valsM f (List.drop q1.i l) = valsM f l := hq_q1
  obtain ⟨v1, v2⟩ := hi_q1
  have vl := congrArg List.length v2
  simp only [List.length_append, List.length_map] at vl
  refine ⟨fun h1 => have p1 := of_decide_eq_true h1; ?_, fun h1 => have p1 := of_decide_eq_false h1; ?_⟩
  refine ⟨(ax_get (l := l) (i := q1.i) (by omega)), fun x1 hx1 => ?_⟩
  have hbu := (hp2 x1 (List.mem_of_getElem? hx1)).2
  rw [drop_el hx1, valsM_cons] at v2 vl
  simp only [List.length_append] at vl
  exact ⟨hx1, (by omega), hx1, (by omega), (l22Value_s f _ (by omega)), (by simp only [List.length_map]; omega), (as_i64 (by omega) (by omega)), nxt_of (j := (⟨q1.out ++ (List.map (fun b => (UInt8.toNat b : Int)) (putNum f x1.bits)), q1.i + 1⟩ : l22Values_s_V0)) (by first | rfl | simp) rfl (by dsimp only [l22Values_s_F0]; exact ⟨by omega, by simp only [List.map_append, toByte_of, List.append_assoc]; exact v2⟩) (by dsimp only [l22Values_s_F0]; omega)⟩
  rw [drop_end p1] at v2
  refine ⟨(congrArg S.v (congrArg V.c (congrArg C.str ?_))), rfl⟩
  rotate_left
  all_goals first | (simpa [valsM] using v2)
end Go.Proofs.Ytecljjcmjongfaa.Ax
