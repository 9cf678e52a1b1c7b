/- Lists of frames. Models: merged events. Models: normalized events. Merged events. Normalized events. The law Normal. -/
import Derived.Test.YtecljjcmjongfaaGreatKS3
import Derived.Test.YtecljjcmjongfaaGreatKS1
import Derived.Test.YtecljjcmjongfaaGreatKS4
import Derived.Test.YtecljjcmjongfaaGreatKS5
set_option linter.unusedSimpArgs false
set_option linter.unusedVariables false
namespace Go.Proofs.YtecljjcmjongfaaGreat.Ax
open Go.RowKit
structure div_i_V0 where
  list : List Ev
  out : List (List Ev)
def div_i_F0 (l : List Ev) : Fam := ⟨div_i_V0, fun q1 => [(0, .v (.c (.seq .ev q1.list))), (3, .v (vO 0))], fun q1 => [.lst .evs q1.out], fun q1 => q1.out ++ divM q1.list = divM l ∧ q1.out.length + q1.list.length ≤ l.length, fun q1 => q1.list.length⟩
theorem div_i (l : List Ev) (hp1 : l.length ≤ 1048576) : Fun Tryz.prog 53 [.c (.seq .ev l)] [] (.v (vO 0)) [.lst .evs (divM l)] := by
  have hN : bigN = 274877906944 := rfl
  refine fun_ofw Tryz.func53 (by kernel_rfl) (by kernel_rfl) (w := let z7 := fr (fr (.one 4 (.one 5 (.first 9 (.first 10 (.done))))) 6 3) 0 4; let z8 := div_i_F0 l; (.seg [.ty .evs, .at 0, .keep [0, 3], .sel [0]] (.loop z8 fun q1 => .br (.seg [.call [] (.v (vI (frameStop q1.list 0))) [], .as 11 (.v (vI (frameStop q1.list 0 + 1)))] (.br (.seg [.tree z7 5 [], .ty .evs, .ty .evs, .at 0, .keep [0, 3], .sel [2]] (.next)) (.seg [.tree z7 5 [], .ty .evs, .ty .evs, .at 0, .keep [0, 3], .sel [2]] (.next)))) (.leaf () [0])), z8.Has [(0, .v (.c (.seq .ev l))), (3, .v (vO 0))] [.lst .evs ([] : List (List Ev))] ∧ ∀ q1, z8.inv q1 → (let z1 := (q1.list.length : Int); let z2 := (0 : Int) ≤ frameStop q1.list 0 + 1; let z3 := frameStop q1.list 0 + 1 ≤ z1; let z4 := Int.toNat (frameStop q1.list 0 + 1); let z5 := q1.list.length; let z6 := decide (frameStop q1.list 0 + 1 = 0); ((decide (0 < z1)) = true → (Fun Tryz.prog 108 [.c (.seq .ev q1.list), vI 0] [] (.v (vI (frameStop q1.list 0))) []) ∧ ((.v (vI (IntKind.i64.wrap ((frameStop q1.list 0) + 1))) : S) = .v (vI (frameStop q1.list 0 + 1))) ∧ (z6 = true → (z1 ≤ z1) ∧ ((0 : Int) ≤ z1) ∧ (z1 ≤ z1) ∧ ((0 : Int) ≤ z1) ∧ (z1 ≤ z1) ∧ ((0 : Int) ≤ z1) ∧ (z1 ≤ z1) ∧ ((0 : Int) ≤ z1) ∧ (q1.out.length + List.length [List.take z5 q1.list] ≤ bigN) ∧ z8.Nxt q1 [(0, .v (.c (.seq .ev (List.drop z5 q1.list)))), (3, .v (vO 0))] [.lst .evs (q1.out ++ [List.take z5 q1.list])]) ∧ (z6 = false → z3 ∧ z2 ∧ z3 ∧ z2 ∧ z3 ∧ z2 ∧ z3 ∧ z2 ∧ (q1.out.length + List.length [List.take z4 q1.list] ≤ bigN) ∧ z8.Nxt q1 [(0, .v (.c (.seq .ev (List.drop z4 q1.list)))), (3, .v (vO 0))] [.lst .evs (q1.out ++ [List.take z4 q1.list])])) ∧ ((decide (0 < z1)) = false → (.v (vO 0) : S) = .v (vO 0) ∧ ([.lst .evs q1.out] : List Blk) = [.lst .evs (divM l)])))) (by kernel_rfl) ?_
  refine ⟨has_of (j := (⟨l, ([] : List (List Ev))⟩ : div_i_V0)) rfl rfl (by dsimp only [div_i_F0]; exact ⟨rfl, by simp⟩), fun (q1 : div_i_V0) hq_q1 => ?_⟩
  have hi_q1 : q1.out ++ divM q1.list = divM l ∧ q1.out.length + q1.list.length ≤ l.length := hq_q1
  obtain ⟨v1, v2⟩ := hi_q1
  have hsb := frameStop_b q1.list 0
  refine dsp (fun h1 p1 => ?_) fun h1 p1 => ?_
  refine ⟨(frameStop_i _ _ (by omega)), (as_i64 (by omega) (by omega)), dsp (fun h2 p2 => ?_) fun h2 p2 => ?_⟩
  have hcb := cutN_b (l := q1.list) (by omega)
  have hcut := cutN_0 p2
  rw [hcut] at hcb
  exact ⟨(by omega), (by omega), (by omega), (by omega), (by omega), (by omega), (by omega), (by omega), (by simp only [List.length_take, List.length_cons, List.length_nil]; omega), nxt_of (j := (⟨List.drop (q1.list.length) q1.list, q1.out ++ [List.take (q1.list.length) q1.list]⟩ : div_i_V0)) rfl rfl (by dsimp only [div_i_F0]; exact ⟨by rw [← v1, divM_next (l := q1.list) (by omega)]; simp [hcut], by simp only [List.length_append, List.length_cons, List.length_nil, List.length_drop]; omega⟩) (by dsimp only [div_i_F0]; simp only [List.length_drop]; omega)⟩
  have hcb := cutN_b (l := q1.list) (by omega)
  have hcut := cutN_1 p2
  rw [hcut] at hcb
  exact ⟨(by omega), (by omega), (by omega), (by omega), (by omega), (by omega), (by omega), (by omega), (by simp only [List.length_take, List.length_cons, List.length_nil]; omega), nxt_of (j := (⟨List.drop (Int.toNat (frameStop q1.list 0 + 1)) q1.list, q1.out ++ [List.take (Int.toNat (frameStop q1.list 0 + 1)) q1.list]⟩ : div_i_V0)) rfl rfl (by dsimp only [div_i_F0]; exact ⟨by rw [← v1, divM_next (l := q1.list) (by omega)]; simp [hcut], by simp only [List.length_append, List.length_cons, List.length_nil, List.length_drop]; omega⟩) (by dsimp only [div_i_F0]; simp only [List.length_drop]; omega)⟩
  have hnil : q1.list = [] := List.eq_nil_of_length_eq_zero (by omega)
  refine ⟨rfl, (consE (congrArg (Blk.lst .evs) ?_) rfl)⟩
  rotate_left
  all_goals (rw [← v1, hnil, divM_nil]; simp)
structure div_s_V0 where
  list : List Ev
  out : List (List Ev)
def div_s_F0 (l : List Ev) : Fam := ⟨div_s_V0, fun q1 => [(0, .v (.c (.seq .ev q1.list))), (3, .v (vO 0))], fun q1 => [.lst .evs q1.out], fun q1 => q1.out ++ divM q1.list = divM l ∧ q1.out.length + q1.list.length ≤ l.length, fun q1 => q1.list.length⟩
theorem div_s (l : List Ev) (hp1 : l.length ≤ 1048576) : Fun Tryz.prog 48 [.c (.seq .ev l)] [] (.v (vO 0)) [.lst .evs (divM l)] := by
  have hN : bigN = 274877906944 := rfl
  refine fun_ofw Tryz.func48 (by kernel_rfl) (by kernel_rfl) (w := let z6 := div_s_F0 l; (.seg [.ty .evs, .at 0, .keep [0, 3], .sel [0]] (.loop z6 fun q1 => .br (.seg [.call [] (.v (vI (frameStop q1.list 0))) [], .as 11 (.v (vI (frameStop q1.list 0 + 1)))] (.br (.seg [.ty .evs, .ty .evs, .at 0, .keep [0, 3], .sel [2]] (.next)) (.seg [.ty .evs, .ty .evs, .at 0, .keep [0, 3], .sel [2]] (.next)))) (.leaf () [0])), z6.Has [(0, .v (.c (.seq .ev l))), (3, .v (vO 0))] [.lst .evs ([] : List (List Ev))] ∧ ∀ q1, z6.inv q1 → (let z1 := (q1.list.length : Int); let z2 := Int.toNat (frameStop q1.list 0 + 1); let z3 := q1.list.length; let z4 := decide (frameStop q1.list 0 + 1 = 0); let z5 := (0 : Int) ≤ frameStop q1.list 0 + 1; ((decide (0 < z1)) = true → (Fun Tryz.prog 103 [.c (.seq .ev q1.list), vI 0] [] (.v (vI (frameStop q1.list 0))) []) ∧ ((.v (vI (IntKind.i64.wrap ((frameStop q1.list 0) + 1))) : S) = .v (vI (frameStop q1.list 0 + 1))) ∧ (z4 = true → (z1 ≤ z1) ∧ ((0 : Int) ≤ z1) ∧ (q1.out.length + List.length [List.take z3 q1.list] ≤ bigN) ∧ (z1 ≤ z1) ∧ ((0 : Int) ≤ z1) ∧ z6.Nxt q1 [(0, .v (.c (.seq .ev (List.drop z3 q1.list)))), (3, .v (vO 0))] [.lst .evs (q1.out ++ [List.take z3 q1.list])]) ∧ (z4 = false → (frameStop q1.list 0 + 1 ≤ z1) ∧ z5 ∧ (q1.out.length + List.length [List.take z2 q1.list] ≤ bigN) ∧ (frameStop q1.list 0 + 1 ≤ z1) ∧ z5 ∧ z6.Nxt q1 [(0, .v (.c (.seq .ev (List.drop z2 q1.list)))), (3, .v (vO 0))] [.lst .evs (q1.out ++ [List.take z2 q1.list])])) ∧ ((decide (0 < z1)) = false → (.v (vO 0) : S) = .v (vO 0) ∧ ([.lst .evs q1.out] : List Blk) = [.lst .evs (divM l)])))) (by kernel_rfl) ?_
  refine ⟨has_of (j := (⟨l, ([] : List (List Ev))⟩ : div_s_V0)) rfl rfl (by dsimp only [div_s_F0]; exact ⟨rfl, by simp⟩), fun (q1 : div_s_V0) hq_q1 => ?_⟩
  have hi_q1 : q1.out ++ divM q1.list = divM l ∧ q1.out.length + q1.list.length ≤ l.length := hq_q1
  obtain ⟨v1, v2⟩ := hi_q1
  have hsb := frameStop_b q1.list 0
  refine dsp (fun h1 p1 => ?_) fun h1 p1 => ?_
  refine ⟨(frameStop_s _ _ (by omega)), (as_i64 (by omega) (by omega)), dsp (fun h2 p2 => ?_) fun h2 p2 => ?_⟩
  have hcb := cutN_b (l := q1.list) (by omega)
  have hcut := cutN_0 p2
  rw [hcut] at hcb
  exact ⟨(by omega), (by omega), (by simp only [List.length_take, List.length_cons, List.length_nil]; omega), (by omega), (by omega), nxt_of (j := (⟨List.drop (q1.list.length) q1.list, q1.out ++ [List.take (q1.list.length) q1.list]⟩ : div_s_V0)) rfl rfl (by dsimp only [div_s_F0]; exact ⟨by rw [← v1, divM_next (l := q1.list) (by omega)]; simp [hcut], by simp only [List.length_append, List.length_cons, List.length_nil, List.length_drop]; omega⟩) (by dsimp only [div_s_F0]; simp only [List.length_drop]; omega)⟩
  have hcb := cutN_b (l := q1.list) (by omega)
  have hcut := cutN_1 p2
  rw [hcut] at hcb
  exact ⟨(by omega), (by omega), (by simp only [List.length_take, List.length_cons, List.length_nil]; omega), (by omega), (by omega), nxt_of (j := (⟨List.drop (Int.toNat (frameStop q1.list 0 + 1)) q1.list, q1.out ++ [List.take (Int.toNat (frameStop q1.list 0 + 1)) q1.list]⟩ : div_s_V0)) rfl rfl (by dsimp only [div_s_F0]; exact ⟨by rw [← v1, divM_next (l := q1.list) (by omega)]; simp [hcut], by simp only [List.length_append, List.length_cons, List.length_nil, List.length_drop]; omega⟩) (by dsimp only [div_s_F0]; simp only [List.length_drop]; omega)⟩
  have hnil : q1.list = [] := List.eq_nil_of_length_eq_zero (by omega)
  refine ⟨rfl, (consE (congrArg (Blk.lst .evs) ?_) rfl)⟩
  rotate_left
  all_goals (rw [← v1, hnil, divM_nil]; simp)
structure formed_i_V0 where
  first : Int
  v : Nat
def formed_i_F0 (p : Pln) (l : List Ev) : Fam := ⟨formed_i_V0, fun q1 => [(2, .v (vP 0)), (6, .v (vI q1.first)), (15, .v (vO 1)), (16, .v (vI ((List.length (divM l) : Nat) : Int))), (17, .v (vI (q1.v : Int)))], fun _ => [.cells (cPln p), .lst .evs (divM l)], fun q1 => q1.v ≤ List.length (divM l) ∧ (0 : Int) ≤ q1.first ∧ q1.first ≤ 1048576 * (q1.v : Int) ∧ formL p (List.drop q1.v (divM l)) q1.first = formL p (divM l) 0, fun q1 => List.length (divM l) - q1.v⟩
theorem formed_i (p : Pln) (l : List Ev) (hp1 : EvsB l) : Fun Tryz.prog 52 [.agg (cPln p), .c (.seq .ev l)] [] (.tup [vI (formed p l).1, vI (formed p l).2]) [] := by
  have hN : bigN = 274877906944 := rfl
  have hvl := hp1.1
  have hdv := divM_b (l := l) _ (Nat.le_refl _)
  have hd1 := hdv.1
  refine fun_ofw Tryz.func52 (by kernel_rfl) (by kernel_rfl) (w := let z5 := ((List.length (divM l) : Nat) : Int); let z6 : List V := [vI (formed p l).1, vI (formed p l).2]; let z7 := formed_i_F0 p l; (.seg [.call [] (.v (vB (planOk p))) []] (.br (.leaf () []) (.seg [.call [] (.v (vO 0)) [.lst .evs (divM l)], .at 0, .keep [2, 6, 15, 16, 17], .sel [0, 1]] (.loop z7 fun q1 => .br (.intro (fun (x1 : List Ev) => (divM l)[q1.v]? = some x1) fun x1 => .seg [.el .evs x1, .call [] (.tup [vI (frErr p x1).1, vI (frErr p x1).2]) []] (.br (.seg [.as 32 (.v (vI (q1.first + (frErr p x1).2)))] (.leaf () [])) (.seg [.as 36 (.v (vI (q1.first + (x1.length : Int)))), .as 37 (.v (vI ((q1.v : Int) + 1))), .at 0, .keep [2, 6, 15, 16, 17], .sel [0, 1]] (.next)))) (.leaf () [])))), (Fun Tryz.prog 106 [.agg (cPln p)] [] (.v (vB (planOk p))) []) ∧ ((!(planOk p)) = true → (.tup [vI 1, vI 0] : S) = .tup z6 ∧ ([] : List Blk) = []) ∧ ((!(planOk p)) = false → (Fun Tryz.prog 53 [.c (.seq .ev l)] [] (.v (vO 0)) [.lst .evs (divM l)]) ∧ z7.Has [(2, .v (vP 0)), (6, .v (vI 0)), (15, .v (vO 1)), (16, .v (vI z5)), (17, .v (vI 0))] [.cells (cPln p), .lst .evs (divM l)] ∧ ∀ q1, z7.inv q1 → (let z4 := (q1.v : Int); let z3 := z4 < z5; ((decide z3) = true → (∃ (x1 : List Ev), (divM l)[q1.v]? = some x1) ∧ ∀ (x1 : List Ev), ((divM l)[q1.v]? = some x1) → (let z1 := q1.first + (x1.length : Int); let z2 := frErr p x1; z3 ∧ ((0 : Int) ≤ z4) ∧ ((divM l)[q1.v]? = some x1) ∧ (Fun Tryz.prog 107 [.agg (cPln p), .c (.seq .ev x1)] [] (.tup [vI z2.1, vI z2.2]) []) ∧ ((!decide (z2.1 = 0)) = true → ((.v (vI (IntKind.i64.wrap (q1.first + z2.2))) : S) = .v (vI (q1.first + z2.2))) ∧ (.tup [vI z2.1, vI (q1.first + z2.2)] : S) = .tup z6 ∧ ([] : List Blk) = []) ∧ ((!decide (z2.1 = 0)) = false → ((.v (vI (IntKind.i64.wrap z1)) : S) = .v (vI z1)) ∧ ((.v (vI (IntKind.i64.wrap (z4 + 1))) : S) = .v (vI (z4 + 1))) ∧ z7.Nxt q1 [(2, .v (vP 0)), (6, .v (vI z1)), (15, .v (vO 1)), (16, .v (vI z5)), (17, .v (vI (z4 + 1)))] [.cells (cPln p), .lst .evs (divM l)]))) ∧ ((decide z3) = false → (.tup [vI 0, vI 0] : S) = .tup z6 ∧ ([] : List Blk) = []))))) (by kernel_rfl) ?_
  refine ⟨(planOk_i p), fun h1 => have q1 := bnot_t h1; ?_, fun h1 => have q1 := bnot_f h1; have p1 := planOk_t q1; ?_⟩
  refine ⟨(congrArg S.tup (consE (congrArg V.c (congrArg (C.int .i64) ?_)) (consE (congrArg V.c (congrArg (C.int .i64) ?_)) rfl))), rfl⟩
  rotate_left 2
  refine ⟨(div_i _ (by omega)), has_of (j := (⟨0, 0⟩ : formed_i_V0)) (by first | rfl | simp) rfl (by dsimp only [formed_i_F0]; exact ⟨by omega, by omega, by omega, rfl⟩), fun (q1 : formed_i_V0) hq_q1 => ?_⟩
  have hi_q1 : q1.v ≤ List.length (divM l) ∧ (0 : Int) ≤ q1.first ∧ q1.first ≤ 1048576 * (q1.v : Int) ∧ formL p (List.drop q1.v (divM l)) q1.first = formL p (divM l) 0 := hq_q1
  obtain ⟨v1, v2, v3, v4⟩ := hi_q1
  refine dsp (fun h2 p2 => ?_) fun h2 p2 => ?_
  refine ⟨(ax_get (l := divM l) (i := q1.v) (by omega)), fun x1 hx1 => ?_⟩
  refine ⟨(by omega), (by omega), ?_⟩
  have hfB : frB p x1 = if (frErr p x1).1 = 0 then frameOf (bodyOf p x1) else [] := rfl
  have hfP : frP p x1 = if (frErr p x1).1 = 0 then 0 else (frErr p x1).2 := rfl
  have heb := hdv.2 hp1 _ (List.mem_of_getElem? hx1)
  have hel := heb.1
  have hfb := frErr_b p x1
  have hfc := frameCode_b p x1
  have hbl := bodyOf_len (p := p) heb
  rw [drop_el hx1, formL_cons] at v4
  refine ⟨hx1, (frErr_i p _ ((hdv.2 hp1 _ (List.mem_of_getElem? hx1)))), fun h3 => have q3 := bnot_t h3; have p3 := of_decide_eq_false q3; ?_, fun h3 => have q3 := bnot_f h3; have p3 := of_decide_eq_true q3; ?_⟩
  refine ⟨(as_i64 (by omega) (by omega)), (congrArg S.tup (consE (congrArg V.c (congrArg (C.int .i64) ?_)) (consE (congrArg V.c (congrArg (C.int .i64) ?_)) rfl))), rfl⟩
  rotate_left 2
  exact ⟨(as_i64 (by omega) (by omega)), (as_i64 (by omega) (by omega)), nxt_of (j := (⟨q1.first + (x1.length : Int), q1.v + 1⟩ : formed_i_V0)) (by first | rfl | simp) rfl (by dsimp only [formed_i_F0]; exact ⟨by omega, by omega, by omega, by rw [← v4]; simp_all⟩) (by dsimp only [formed_i_F0]; omega)⟩
  rw [drop_end p2] at v4
  refine ⟨(congrArg S.tup (consE (congrArg V.c (congrArg (C.int .i64) ?_)) (consE (congrArg V.c (congrArg (C.int .i64) ?_)) rfl))), rfl⟩
  rotate_left 2
  all_goals first | ((unfold formed; simp_all; done)) | ((unfold formed; rw [if_pos (by simp_all), ← v4]; simp_all [formL]; done)) | (grind [formed, formL])
structure formed_s_V0 where
  at_ : Int
  i : Nat
def formed_s_F0 (p : Pln) (l : List Ev) : Fam := ⟨formed_s_V0, fun q1 => [(2, .v (vP 0)), (6, .v (vO 1)), (7, .v (vI q1.at_)), (8, .v (vI (q1.i : Int)))], fun _ => [.cells (cPln p), .lst .evs (divM l)], fun q1 => q1.i ≤ List.length (divM l) ∧ (0 : Int) ≤ q1.at_ ∧ q1.at_ ≤ 1048576 * (q1.i : Int) ∧ formL p (List.drop q1.i (divM l)) q1.at_ = formL p (divM l) 0, fun q1 => List.length (divM l) - q1.i⟩
theorem formed_s (p : Pln) (l : List Ev) (hp1 : EvsB l) : Fun Tryz.prog 47 [.agg (cPln p), .c (.seq .ev l)] [] (.tup [vI (formed p l).1, vI (formed p l).2]) [] := by
  have hN : bigN = 274877906944 := rfl
  have hvl := hp1.1
  have hdv := divM_b (l := l) _ (Nat.le_refl _)
  have hd1 := hdv.1
  refine fun_ofw Tryz.func47 (by kernel_rfl) (by kernel_rfl) (w := let z7 : List V := [vI (formed p l).1, vI (formed p l).2]; let z8 := formed_s_F0 p l; let z9 := ([] : List Blk); (.seg [.call [] (.v (vB (planOk p))) []] (.br (.leaf () []) (.seg [.call [] (.v (vO 0)) [.lst .evs (divM l)], .at 0, .keep [2, 6, 7, 8], .sel [0, 1]] (.loop z8 fun q1 => .br (.intro (fun (x1 : List Ev) => (divM l)[q1.i]? = some x1) fun x1 => .seg [.ord (os 11 [5]) [], .el .evs x1, .call [] (.tup [vI (frameCode p x1).1, vI (frameCode p x1).2]) []] (.br (.seg [.as 36 (.v (vI (q1.at_ + (frameCode p x1).2)))] (.leaf () [])) (.seg [.ord [(0, true), (1, true), (2, true), (3, true), (4, true), (6, true), (7, true), (5, false), (8, true)] [], .el .evs x1, .call [] (.v (vI ((List.length (bodyOf p x1) : Nat) : Int))) []] (.br (.leaf () []) (.seg [.el .evs x1, .as 53 (.v (vI (q1.at_ + (x1.length : Int)))), .as 21 (.v (vI ((q1.i : Int) + 1))), .at 0, .keep [2, 6, 7, 8], .sel [0, 1]] (.next)))))) (.leaf () [])))), (Fun Tryz.prog 100 [.agg (cPln p)] [] (.v (vB (planOk p))) []) ∧ ((!(planOk p)) = true → (.tup [vI 1, vI 0] : S) = .tup z7 ∧ z9 = []) ∧ ((!(planOk p)) = false → (Fun Tryz.prog 48 [.c (.seq .ev l)] [] (.v (vO 0)) [.lst .evs (divM l)]) ∧ z8.Has [(2, .v (vP 0)), (6, .v (vO 1)), (7, .v (vI 0)), (8, .v (vI 0))] [.cells (cPln p), .lst .evs (divM l)] ∧ ∀ q1, z8.inv q1 → (let z6 := (q1.i : Int); let z5 := z6 < ((List.length (divM l) : Nat) : Int); ((decide z5) = true → (∃ (x1 : List Ev), (divM l)[q1.i]? = some x1) ∧ ∀ (x1 : List Ev), ((divM l)[q1.i]? = some x1) → (let z1 := (divM l)[q1.i]? = some x1; let z2 := frameCode p x1; let z3 := ((List.length (bodyOf p x1) : Nat) : Int); let z4 := q1.at_ + (x1.length : Int); z5 ∧ ((0 : Int) ≤ z6) ∧ z5 ∧ ((0 : Int) ≤ z6) ∧ z1 ∧ z1 ∧ (Fun Tryz.prog 101 [.agg (cPln p), .c (.seq .ev x1)] [] (.tup [vI z2.1, vI z2.2]) []) ∧ ((!decide (z2.1 = 0)) = true → ((.v (vI (IntKind.i64.wrap (q1.at_ + z2.2))) : S) = .v (vI (q1.at_ + z2.2))) ∧ (.tup [vI z2.1, vI (q1.at_ + z2.2)] : S) = .tup z7 ∧ z9 = []) ∧ ((!decide (z2.1 = 0)) = false → z5 ∧ ((0 : Int) ≤ z6) ∧ z5 ∧ ((0 : Int) ≤ z6) ∧ z1 ∧ z1 ∧ (Fun Tryz.prog 102 [.agg (cPln p), .c (.seq .ev x1)] [] (.v (vI z3)) []) ∧ ((decide (p.most < z3)) = true → (.tup [vI 8, vI q1.at_] : S) = .tup z7 ∧ z9 = []) ∧ ((decide (p.most < z3)) = false → z5 ∧ ((0 : Int) ≤ z6) ∧ z1 ∧ ((.v (vI (IntKind.i64.wrap z4)) : S) = .v (vI z4)) ∧ ((.v (vI (IntKind.i64.wrap (z6 + 1))) : S) = .v (vI (z6 + 1))) ∧ z8.Nxt q1 [(2, .v (vP 0)), (6, .v (vO 1)), (7, .v (vI z4)), (8, .v (vI (z6 + 1)))] [.cells (cPln p), .lst .evs (divM l)])))) ∧ ((decide z5) = false → (.tup [vI 0, vI 0] : S) = .tup z7 ∧ z9 = []))))) (by kernel_rfl) ?_
  refine ⟨(planOk_s p), fun h1 => have q1 := bnot_t h1; ?_, fun h1 => have q1 := bnot_f h1; have p1 := planOk_t q1; ?_⟩
  refine ⟨(congrArg S.tup (consE (congrArg V.c (congrArg (C.int .i64) ?_)) (consE (congrArg V.c (congrArg (C.int .i64) ?_)) rfl))), rfl⟩
  rotate_left 2
  refine ⟨(div_s _ (by omega)), has_of (j := (⟨0, 0⟩ : formed_s_V0)) (by first | rfl | simp) rfl (by dsimp only [formed_s_F0]; exact ⟨by omega, by omega, by omega, rfl⟩), fun (q1 : formed_s_V0) hq_q1 => ?_⟩
  have hi_q1 : q1.i ≤ List.length (divM l) ∧ (0 : Int) ≤ q1.at_ ∧ q1.at_ ≤ 1048576 * (q1.i : Int) ∧ formL p (List.drop q1.i (divM l)) q1.at_ = formL p (divM l) 0 := hq_q1
  obtain ⟨v1, v2, v3, v4⟩ := hi_q1
  refine dsp (fun h2 p2 => ?_) fun h2 p2 => ?_
  refine ⟨(ax_get (l := divM l) (i := q1.i) (by omega)), fun x1 hx1 => ?_⟩
  have hfB : frB p x1 = if (frErr p x1).1 = 0 then frameOf (bodyOf p x1) else [] := rfl
  have hfP : frP p x1 = if (frErr p x1).1 = 0 then 0 else (frErr p x1).2 := rfl
  have heb := hdv.2 hp1 _ (List.mem_of_getElem? hx1)
  have hel := heb.1
  have hfb := frErr_b p x1
  have hfc := frameCode_b p x1
  have hbl := bodyOf_len (p := p) heb
  rw [drop_el hx1, formL_cons] at v4
  refine ⟨(by omega), (by omega), (by omega), (by omega), hx1, hx1, (frameCode_s p _ (by omega) (heb.2.2)), fun h3 => have q3 := bnot_t h3; have p3 := of_decide_eq_false q3; ?_, fun h3 => have q3 := bnot_f h3; have p3 := of_decide_eq_true q3; ?_⟩
  have hfe : frErr p x1 = frameCode p x1 := by unfold frErr; rw [if_neg (by omega)]
  rw [hfe, if_pos p3] at v4
  refine ⟨(as_i64 (by omega) (by omega)), (congrArg S.tup (consE (congrArg V.c (congrArg (C.int .i64) ?_)) (consE (congrArg V.c (congrArg (C.int .i64) ?_)) rfl))), rfl⟩
  rotate_left 2
  have hk := p3
  refine ⟨(by omega), (by omega), (by omega), (by omega), hx1, hx1, (frameSize_s p _ ((hdv.2 hp1 _ (List.mem_of_getElem? hx1)))), dsp (fun h4 p4 => ?_) fun h4 p4 => ?_⟩
  have hfe : frErr p x1 = (8, 0) := by unfold frErr; rw [if_pos ⟨hk, by omega⟩]
  rw [hfe] at v4
  refine ⟨(congrArg S.tup (consE (congrArg V.c (congrArg (C.int .i64) ?_)) (consE (congrArg V.c (congrArg (C.int .i64) ?_)) rfl))), rfl⟩
  rotate_left 2
  have hfe : frErr p x1 = frameCode p x1 := by unfold frErr; rw [if_neg (by omega)]
  rw [hfe, if_neg (by omega)] at v4
  exact ⟨(by omega), (by omega), hx1, (as_i64 (by omega) (by omega)), (as_i64 (by omega) (by omega)), nxt_of (j := (⟨q1.at_ + (x1.length : Int), q1.i + 1⟩ : formed_s_V0)) (by first | rfl | simp) rfl (by dsimp only [formed_s_F0]; exact ⟨by omega, by omega, by omega, v4⟩) (by dsimp only [formed_s_F0]; omega)⟩
  rw [drop_end p2] at v4
  refine ⟨(congrArg S.tup (consE (congrArg V.c (congrArg (C.int .i64) ?_)) (consE (congrArg V.c (congrArg (C.int .i64) ?_)) rfl))), rfl⟩
  rotate_left 2
  all_goals first | ((unfold formed; simp_all; done)) | ((unfold formed; rw [if_pos (by simp_all), ← v4]; simp_all [formL, frErr]; done)) | (grind [formed, formL, frErr])
theorem map_toByte_toNat (s : List UInt8) : List.map toByte (List.map (fun b => (UInt8.toNat b : Int)) s) = s := by
  rw [List.map_map]
  conv => rhs; rw [← List.map_id s]
  apply List.map_congr_left
  intro b _
  simp [toByte]
def lastE (l : List Ev) : Ev := l.getD (l.length - 1) ev0
def withT (e : Ev) (t : List UInt8) : Ev := ⟨e.kind, e.field, e.bits, e.len, t, e.code, e.at_⟩
def tx : List Ev → Nat
  | [] => 0
  | e :: r => e.text.length + tx r
def mergeE (o : List Ev) (e : Ev) : List Ev :=
  if e.kind = 4 ∧ e.text = [] then o
  else if e.kind = 4 ∧ 0 < o.length ∧ (lastE o).kind = 4 then o.set (o.length - 1) (withT (lastE o) ((lastE o).text ++ e.text))
  else o ++ [e]
def mergeG (o l : List Ev) : List Ev := l.foldl mergeE o
def merged (l : List Ev) : List Ev := mergeG [] l
theorem mergeG_nil (o : List Ev) : mergeG o [] = o := rfl
theorem mergeG_cons (o : List Ev) (e : Ev) (r : List Ev) : mergeG o (e :: r) = mergeG (mergeE o e) r := List.foldl_cons ..
theorem tx_append : ∀ (a b : List Ev), tx (a ++ b) = tx a + tx b
  | [], b => by simp [tx]
  | e :: r, b => by rw [List.cons_append, tx, tx, tx_append r b]; omega
theorem tx_mem : ∀ {l : List Ev} {i : Nat} {x : Ev}, l[i]? = some x → x.text.length ≤ tx l
  | [], i, x, h => by simp at h
  | y :: r, 0, x, h => by simp at h; subst h; rw [tx]; omega
  | y :: r, i + 1, x, h => by
    have := tx_mem (l := r) (i := i) (x := x) (by simpa using h)
    rw [tx]; omega
theorem tx_set : ∀ {l : List Ev} {i : Nat} {x : Ev} (t : List UInt8), l[i]? = some x → tx (l.set i (withT x (x.text ++ t))) = tx l + t.length
  | [], i, x, t, h => by simp at h
  | y :: r, 0, x, t, h => by simp at h; subst h; simp only [List.set_cons_zero, tx, withT, List.length_append]; omega
  | y :: r, i + 1, x, t, h => by
    have := tx_set (l := r) (i := i) (x := x) t (by simpa using h)
    simp only [List.set_cons_succ, tx, this]; omega
theorem lastE_el {l : List Ev} {x : Ev} (h : l[l.length - 1]? = some x) : lastE l = x := by unfold lastE; exact getD_of h
theorem lastE_snoc (o : List Ev) (e : Ev) : lastE (o ++ [e]) = e := lastE_el (by simp)
theorem mergeE_skip {o : List Ev} {e : Ev} (h : e.kind = 4) (ht : e.text = []) : mergeE o e = o := by unfold mergeE; rw [if_pos ⟨h, ht⟩]
theorem mergeE_other {o : List Ev} {e : Ev} (h : e.kind ≠ 4) : mergeE o e = o ++ [e] := by unfold mergeE; rw [if_neg (fun x => h x.1), if_neg (fun x => h x.1)]
theorem mergeE_new {o : List Ev} {e : Ev} (ht : e.text ≠ []) (hs : ¬ (0 < o.length ∧ (lastE o).kind = 4)) : mergeE o e = o ++ [e] := by unfold mergeE; rw [if_neg (fun x => ht x.2), if_neg (fun x => hs x.2)]
theorem mergeE_more {o : List Ev} {e x : Ev} (hk : e.kind = 4) (ht : e.text ≠ []) (h0 : 0 < o.length) (hx : o[o.length - 1]? = some x) (hx4 : x.kind = 4) : mergeE o e = o.set (o.length - 1) (withT x (x.text ++ e.text)) := by
  unfold mergeE
  rw [if_neg (fun y => ht y.2), if_pos ⟨hk, h0, by rw [lastE_el hx]; exact hx4⟩, lastE_el hx]
theorem mergeE_snoc {o : List Ev} {e f : Ev} {t : List UInt8} (hk : e.kind = 4) (ht : e.text ≠ []) (hf : f.kind = 4) : mergeE (o ++ [withT f t]) e = o ++ [withT f (t ++ e.text)] := by
  rw [mergeE_more (x := withT f t) hk ht (by simp) (by simp) hf]
  have e1 : (o ++ [withT f t]).length - 1 = o.length := by simp
  rw [e1, List.set_append_right _ _ (Nat.le_refl _)]
  simp [withT]
def sep (o r : List Ev) : Prop := ∀ x q, r = x :: q → x.kind = 4 → ¬ (0 < o.length ∧ (lastE o).kind = 4)
theorem sep_el {o l : List Ev} {i : Nat} {x : Ev} (h : sep o (l.drop i)) (hx : l[i]? = some x) (hk : x.kind = 4) : ¬ (0 < o.length ∧ (lastE o).kind = 4) := h x _ (drop_el hx) hk
theorem sep_other {o r : List Ev} {e : Ev} (h : e.kind ≠ 4) : sep (o ++ [e]) r := fun _ _ _ _ x => h (by rw [lastE_snoc] at x; exact x.2)
theorem sep_nil {r : List Ev} : sep [] r := fun _ _ _ _ x => absurd x.1 (Nat.lt_irrefl 0)
theorem sep_next {o l : List Ev} {i : Nat} (h : l.length ≤ i ∨ ∃ x, l[i]? = some x ∧ x.kind ≠ 4) : sep o (l.drop i) := by
  intro x q hx hk
  exfalso
  rcases h with h | ⟨y, hy, hn⟩
  · rw [List.drop_eq_nil_of_le h] at hx; cases hx
  · rw [drop_el hy] at hx
    cases hx
    exact hn hk
theorem mergeE_part {o : List Ev} {f e : Ev} {t : List UInt8} (hf : f.kind = 4) (hk : e.kind = 4) : mergeE (o ++ [withT f t]) e = o ++ [withT f (t ++ e.text)] := by
  by_cases ht : e.text = []
  · rw [mergeE_skip hk ht, ht, List.append_nil]
  · exact mergeE_snoc hk ht hf
def mgInv (o : List Ev) (f : Ev) (t : List UInt8) (fd : Bool) (r m : List Ev) : Prop := (fd = true → f.kind = 4 ∧ mergeG (o ++ [withT f t]) r = m) ∧ (fd = false → t = [] ∧ mergeG o r = m)
theorem mg_start {o r m : List Ev} {e : Ev} (hk : e.kind = 4) (hs : ¬ (0 < o.length ∧ (lastE o).kind = 4)) (h : mergeG (mergeE o e) r = m) : mgInv o e e.text (!decide (e.text = [])) r m := by
  by_cases ht : e.text = []
  · rw [mergeE_skip hk ht] at h; exact ⟨fun x => by simp [ht] at x, fun _ => ⟨ht, h⟩⟩
  · rw [mergeE_new ht hs] at h; exact ⟨fun _ => ⟨hk, h⟩, fun x => by simp [ht] at x⟩
theorem mg_A {o r m : List Ev} {f x : Ev} {t : List UInt8} {fd : Bool} (h : mgInv o f t fd (x :: r) m) (hk : x.kind = 4) (hf : fd = true) : mgInv o f (t ++ x.text) fd r m := by
  have h1 := h.1 hf
  refine ⟨fun _ => ⟨h1.1, ?_⟩, fun y => by rw [hf] at y; cases y⟩
  rw [mergeG_cons, mergeE_part h1.1 hk] at h1
  exact h1.2
theorem mg_B {o r m : List Ev} {f x : Ev} {t : List UInt8} {fd : Bool} (h : mgInv o f t fd (x :: r) m) (hk : x.kind = 4) (ht : x.text ≠ []) (hf : fd = false) (hs : ¬ (0 < o.length ∧ (lastE o).kind = 4)) : mgInv o x (t ++ x.text) true r m := by
  have h1 := h.2 hf
  refine ⟨fun _ => ⟨hk, ?_⟩, fun y => by cases y⟩
  rw [mergeG_cons, mergeE_new ht hs] at h1
  rw [h1.1]
  exact h1.2
theorem mg_C {o r m : List Ev} {f x : Ev} {t : List UInt8} {fd : Bool} (h : mgInv o f t fd (x :: r) m) (hk : x.kind = 4) (ht : x.text = []) (hf : fd = false) : mgInv o f (t ++ x.text) fd r m := by
  have h1 := h.2 hf
  refine ⟨fun y => (by rw [hf] at y; cases y), fun _ => ⟨by rw [h1.1, ht]; rfl, ?_⟩⟩
  rw [mergeG_cons, mergeE_skip hk ht] at h1
  exact h1.2
theorem tx_drop : ∀ (l : List Ev) (i : Nat), tx (l.drop i) ≤ tx l
  | [], i => by simp [tx]
  | e :: r, 0 => Nat.le_refl _
  | e :: r, i + 1 => by have := tx_drop r i; rw [List.drop_succ_cons, tx]; omega
theorem mergeE_len (o : List Ev) (e : Ev) : (mergeE o e).length ≤ o.length + 1 := by
  unfold mergeE
  split
  · omega
  · split <;> simp
theorem mergeG_len : ∀ (l o : List Ev), (mergeG o l).length ≤ o.length + l.length
  | [], o => Nat.le_refl _
  | e :: r, o => by
    have h1 := mergeE_len o e
    have h2 := mergeG_len r (mergeE o e)
    rw [mergeG_cons, List.length_cons]; omega
theorem merged_len (l : List Ev) : (merged l).length ≤ l.length := by have := mergeG_len l []; simpa [merged] using this
theorem bd_kinds {p : Pln} {sh : Int} {b : List Ev} (h : Bd p sh b) : ∀ x ∈ b, 2 ≤ x.kind ∧ x.kind ≤ 7 := by
  induction h with
  | nil => intro x hx; cases hx
  | num hk _ _ ih => intro x hx; rcases List.mem_cons.1 hx with rfl | hx; omega; exact ih x hx
  | text hk _ hp hs _ ih =>
    intro x hx
    rcases List.mem_cons.1 hx with rfl | hx
    · omega
    · rcases List.mem_append.1 hx with hx | hx
      · have := hp x hx; omega
      · rcases List.mem_cons.1 hx with rfl | hx
        · omega
        · exact ih x hx
  | down hk _ _ hu _ ih1 ih2 =>
    intro x hx
    rcases List.mem_cons.1 hx with rfl | hx
    · omega
    · rcases List.mem_append.1 hx with hx | hx
      · exact ih1 x hx
      · rcases List.mem_cons.1 hx with rfl | hx
        · omega
        · exact ih2 x hx
theorem frame_head {p : Pln} {e : Ev} {r : List Ev} (h : (frameCode p (e :: r)).1 = 0) : e.kind = 1 := by
  unfold frameCode at h
  simp only at h
  split at h
  · rename_i hp; exact hp.2
  · exact absurd h (by simp)
theorem frame_kinds {p : Pln} {l : List Ev} (h : (frameCode p l).1 = 0) : ∀ x ∈ l, 1 ≤ x.kind ∧ x.kind ≤ 8 := by
  obtain ⟨-, e, b, u, hl, hb, hu⟩ := frame_bd h
  intro x hx
  rw [hl] at h hx
  have he := frame_head h
  rcases List.mem_cons.1 hx with rfl | hx
  · omega
  · rcases List.mem_append.1 hx with hx | hx
    · have := bd_kinds hb x hx; omega
    · simp at hx; subst hx; omega
theorem sizesOf_full {p : Pln} {l : List Ev} (h : (frameCode p l).1 = 0) : (sizesOf p l).length = l.length := by
  obtain ⟨hp, e, b, u, hl, hb, hu⟩ := frame_bd h
  have hc : List.drop 1 (List.take (Int.toNat ((l.length : Int) - 1)) l) = b := by
    rw [frame_cut, hl]; simp
  rw [sizesOf_ok h, hc, List.length_cons, List.length_append, sT_len _ (Nat.le_refl _) hb, hl]
  simp
def nrmE (e : Ev) (z : Int) : Ev := ⟨e.kind, if e.kind = 2 ∨ e.kind = 3 ∨ e.kind = 6 then e.field else 0, if e.kind = 2 then e.bits else 0, if e.kind = 1 ∨ e.kind = 3 ∨ e.kind = 6 then z else 0, if e.kind = 4 then e.text else [], 0, 0⟩
def nrmA (z : List Int) : Nat → List Ev → List Ev
  | _, [] => []
  | i, e :: r => nrmE e (z.getD i 0) :: nrmA z (i + 1) r
def nrmF (p : Pln) (f : List Ev) : List Ev := nrmA (sizesOf p f) 0 f
def nrmI (p : Pln) : List (List Ev) → List Ev
  | [] => []
  | f :: r => nrmF p f ++ nrmI p r
def nrmS (p : Pln) : List (List Ev) → List Ev
  | [] => []
  | f :: r => merged (nrmF p f) ++ nrmS p r
def normalL (p : Pln) (l : List Ev) : List Ev := if (formed p l).1 = 0 then nrmS p (divM l) else []
theorem nrmA_len (z : List Int) : ∀ (i : Nat) (l : List Ev), (nrmA z i l).length = l.length
  | _, [] => rfl
  | i, e :: r => by rw [nrmA, List.length_cons, nrmA_len z (i + 1) r, List.length_cons]
theorem nrmE_text (e : Ev) (z : Int) : (nrmE e z).text.length ≤ e.text.length := by unfold nrmE; simp only; split <;> simp
theorem nrmA_tx (z : List Int) : ∀ (i : Nat) (l : List Ev), tx (nrmA z i l) ≤ tx l
  | _, [] => Nat.le_refl _
  | i, e :: r => by
    have h1 := nrmE_text e (z.getD i 0)
    have h2 := nrmA_tx z (i + 1) r
    rw [nrmA, tx, tx]; omega
theorem mergeG_app (o a b : List Ev) : mergeG o (a ++ b) = mergeG (mergeG o a) b := List.foldl_append ..
theorem lastE_app {a b : List Ev} (h : 0 < b.length) : lastE (a ++ b) = lastE b := by
  unfold lastE
  rw [List.getD_eq_getElem?_getD, List.getD_eq_getElem?_getD, List.length_append, List.getElem?_append_right (by omega)]
  congr 2
  omega
theorem mergeE_pre {a o : List Ev} (e : Ev) (h : 0 < o.length) : mergeE (a ++ o) e = a ++ mergeE o e := by
  unfold mergeE
  rw [lastE_app h]
  by_cases h1 : e.kind = 4 ∧ e.text = []
  · rw [if_pos h1, if_pos h1]
  · rw [if_neg h1, if_neg h1]
    by_cases h2 : e.kind = 4 ∧ (lastE o).kind = 4
    · rw [if_pos ⟨h2.1, by rw [List.length_append]; omega, h2.2⟩, if_pos ⟨h2.1, h, h2.2⟩, List.length_append, List.set_append_right _ _ (by omega), show a.length + o.length - 1 - a.length = o.length - 1 by omega]
    · rw [if_neg (fun x => h2 ⟨x.1, x.2.2⟩), if_neg (fun x => h2 ⟨x.1, x.2.2⟩), List.append_assoc]
theorem mergeE_pos {o : List Ev} (e : Ev) (h : 0 < o.length) : 0 < (mergeE o e).length := by
  unfold mergeE
  split
  · exact h
  · split <;> simp <;> omega
theorem mergeG_pre {a : List Ev} : ∀ (l o : List Ev), 0 < o.length → mergeG (a ++ o) l = a ++ mergeG o l
  | [], o, _ => rfl
  | e :: r, o, h => by rw [mergeG_cons, mergeG_cons, mergeE_pre e h, mergeG_pre r _ (mergeE_pos e h)]
theorem mergeG_other {o : List Ev} {e : Ev} {r : List Ev} (h : e.kind ≠ 4) : mergeG o (e :: r) = o ++ merged (e :: r) := by
  unfold merged
  rw [mergeG_cons, mergeG_cons, mergeE_other h, mergeE_other h, mergeG_pre _ _ (by simp)]
  rfl
theorem nrm_same {p : Pln} : ∀ {fs : List (List Ev)} (o : List Ev), (∀ f ∈ fs, (frameCode p f).1 = 0) → mergeG o (nrmI p fs) = o ++ nrmS p fs
  | [], o, _ => by simp [nrmI, nrmS, mergeG]
  | f :: r, o, h => by
    have hf := h f (List.mem_cons_self ..)
    cases f with
    | nil => exact absurd hf (by simp [frameCode])
    | cons e t =>
      have he := frame_head hf
      have hc : nrmF p (e :: t) = nrmE e ((sizesOf p (e :: t)).getD 0 0) :: nrmA (sizesOf p (e :: t)) 1 t := rfl
      rw [nrmI, nrmS, mergeG_app, hc, mergeG_other (show (nrmE e ((sizesOf p (e :: t)).getD 0 0)).kind ≠ 4 by show e.kind ≠ 4; omega), nrm_same _ (fun f hf => h f (List.mem_cons_of_mem _ hf)), List.append_assoc]
theorem formL_ok {p : Pln} : ∀ {fs : List (List Ev)} {a : Int}, (formL p fs a).1 = 0 → ∀ f ∈ fs, (frameCode p f).1 = 0
  | [], _, _, f, hf => by cases hf
  | g :: r, a, h, f, hf => by
    rw [formL] at h
    split at h
    · rename_i h1; exact absurd h h1
    · rename_i h1
      have h1 : (frErr p g).1 = 0 := by simpa using h1
      rcases List.mem_cons.1 hf with rfl | hf
      · unfold frErr at h1
        split at h1
        · exact absurd h1 (by simp)
        · exact h1
      · exact formL_ok h f hf
theorem formed_ok {p : Pln} {l : List Ev} (h : (formed p l).1 = 0) : ∀ f ∈ divM l, (frameCode p f).1 = 0 := by
  unfold formed at h
  split at h
  · exact formL_ok h
  · exact absurd h (by simp)
theorem divM_flat : ∀ (k : Nat) {l : List Ev}, l.length ≤ k → (divM l).flatten = l := by
  intro k
  induction k with
  | zero =>
    intro l hl
    have : l = [] := List.eq_nil_of_length_eq_zero (by omega)
    subst this; rw [divM_nil]; rfl
  | succ k ih =>
    intro l hl
    by_cases h : 1 ≤ l.length
    · have hc := cutN_b (l := l) h
      rw [divM_next h, List.flatten_cons, ih (by rw [List.length_drop]; omega), List.take_append_drop]
    · have : l = [] := List.eq_nil_of_length_eq_zero (by omega)
      subst this; rw [divM_nil]; rfl
theorem nrmI_b {p : Pln} : ∀ (fs : List (List Ev)), (nrmI p fs).length = fs.flatten.length ∧ tx (nrmI p fs) ≤ tx fs.flatten
  | [] => ⟨rfl, Nat.le_refl _⟩
  | f :: r => by
    have h := nrmI_b (p := p) r
    have h2 := nrmA_tx (sizesOf p f) 0 f
    have h3 := nrmA_len (sizesOf p f) 0 f
    rw [nrmI, List.flatten_cons, List.length_append, List.length_append, tx_append, tx_append]
    unfold nrmF
    omega
theorem nrmS_len {p : Pln} : ∀ (fs : List (List Ev)), (nrmS p fs).length ≤ fs.flatten.length
  | [] => Nat.le_refl _
  | f :: r => by
    have h := nrmS_len (p := p) r
    have h2 := merged_len (nrmF p f)
    have h3 := nrmA_len (sizesOf p f) 0 f
    rw [nrmS, List.flatten_cons, List.length_append, List.length_append]
    unfold nrmF at h2 ⊢
    omega
theorem tx_txtN : ∀ l : List Ev, tx l = txtN l
  | [] => rfl
  | e :: r => by rw [tx, txtN, tx_txtN r]
theorem normal_b {p : Pln} {l : List Ev} : (nrmI p (divM l)).length = l.length ∧ tx (nrmI p (divM l)) ≤ txtN l ∧ (nrmS p (divM l)).length ≤ l.length := by
  have h1 := nrmI_b (p := p) (divM l)
  have h2 := nrmS_len (p := p) (divM l)
  rw [divM_flat _ (Nat.le_refl _)] at h1 h2
  rw [tx_txtN l] at h1
  exact ⟨h1.1, h1.2, h2⟩
theorem normalL_len (p : Pln) (l : List Ev) : (normalL p l).length ≤ l.length := by
  unfold normalL
  split
  · exact normal_b.2.2
  · simp
theorem normal_eq {p : Pln} {l : List Ev} (h : (formed p l).1 = 0) : merged (nrmI p (divM l)) = normalL p l := by
  unfold normalL merged
  rw [if_pos h, nrm_same [] (formed_ok h), List.nil_append]
structure merged_s_V0 where
  out : List Ev
  i : Nat
def merged_s_F0 (l : List Ev) : Fam := ⟨merged_s_V0, fun q1 => [(0, .v (.c (.seq .ev l))), (3, .v (vO 0)), (4, .v (vI ((q1.i : Nat) : Int)))], fun q1 => [.lst .ev q1.out], fun q1 => q1.i ≤ List.length l ∧ mergeG q1.out (List.drop q1.i l) = merged l ∧ List.length q1.out ≤ q1.i ∧ tx q1.out + tx (List.drop q1.i l) ≤ tx l, fun q1 => List.length l - q1.i⟩
theorem merged_s (l : List Ev) (hp1 : List.length l ≤ 100000000) (hp2 : tx l ≤ 100000000) : Fun Tryz.prog 98 [.c (.seq .ev l)] [] (.v (vO 0)) [.lst .ev (merged l)] := by
  have hN : bigN = 274877906944 := rfl
  have hI : i64max = 9223372036854775807 := rfl
  refine fun_ofw Tryz.func98 (by kernel_rfl) (by kernel_rfl) (w := let z11 := merged_s_F0 l; (.seg [.ty .ev, .at 0, .keep [0, 3, 4], .sel [0]] (.loop z11 fun q1 => let z6 := vI (((q1.i : Nat) : Int) + 1); let z7 := ((List.length q1.out : Nat) : Int) - 1; .br (.intro (fun (x1 : Ev) => l[q1.i]? = some x1) fun x1 => .seg [.el .ev x1] (.br (.br (.seg [.as 13 (.v z6), .at 0, .keep [0, 3, 4], .sel [0]] (.next)) (.seg [.br true] (.br (.seg [.as 38 (.v (vI z7))] (.intro (fun (x2 : Ev) => q1.out[Int.toNat z7]? = some x2) fun x2 => .seg [.el .ev x2] (.br (.seg [.ord (os 15 [14]) [], .as 46 (.v (vI z7)), .as 49 (.v (vI z7)), .el .ev x2, .el .ev x2, .as 13 (.v z6), .at 0, .keep [0, 3, 4], .sel [0]] (.next)) (.seg [.ty .ev, .ty .ev, .as 13 (.v z6), .at 0, .keep [0, 3, 4], .sel [3]] (.next))))) (.seg [.ty .ev, .ty .ev, .as 13 (.v z6), .at 0, .keep [0, 3, 4], .sel [3]] (.next))))) (.seg [.br false, .ty .ev, .ty .ev, .as 13 (.v z6), .at 0, .keep [0, 3, 4], .sel [3]] (.next)))) (.leaf () [0])), z11.Has [(0, .v (.c (.seq .ev l))), (3, .v (vO 0)), (4, .v (vI 0))] [.lst .ev ([] : List Ev)] ∧ ∀ q1, z11.inv q1 → (let z8 := ((List.length q1.out : Nat) : Int); let z10 := ((q1.i : Nat) : Int); let z9 := (.v (vI (IntKind.i64.wrap (z10 + 1))) : S) = .v (vI (z10 + 1)); ((decide (z10 < ((List.length l : Nat) : Int))) = true → (∃ (x1 : Ev), l[q1.i]? = some x1) ∧ ∀ (x1 : Ev), (l[q1.i]? = some x1) → (let z3 := List.length q1.out + List.length [x1] ≤ bigN; let z4 := decide (x1.kind = 4); let z5 : List Blk := [.lst .ev (q1.out ++ [x1])]; (l[q1.i]? = some x1) ∧ ((0 : Int) ≤ z10) ∧ (z4 = true → ((decide (x1.text = [])) = true → z9 ∧ z11.Nxt q1 [(0, .v (.c (.seq .ev l))), (3, .v (vO 0)), (4, .v (vI (z10 + 1)))] [.lst .ev q1.out]) ∧ ((decide (x1.text = [])) = false → (z4 = true) ∧ ((decide (0 < z8)) = true → ((.v (vI (IntKind.i64.wrap (z8 - 1))) : S) = .v (vI (z8 - 1))) ∧ (∃ (x2 : Ev), q1.out[Int.toNat (z8 - 1)]? = some x2) ∧ ∀ (x2 : Ev), (q1.out[Int.toNat (z8 - 1)]? = some x2) → (let z1 := q1.out[Int.toNat (z8 - 1)]? = some x2; let z2 := ((List.length x2.text + List.length x1.text : Nat) : Int) ≤ i64max; (z8 - 1 < z8) ∧ ((0 : Int) ≤ z8 - 1) ∧ z1 ∧ ((decide (x2.kind = 4)) = true → ((.v (vI (IntKind.i64.wrap (z8 - 1))) : S) = .v (vI (z8 - 1))) ∧ ((.v (vI (IntKind.i64.wrap (z8 - 1))) : S) = .v (vI (z8 - 1))) ∧ ((.v (vI (IntKind.i64.wrap (z8 - 1))) : S) = .v (vI (z8 - 1))) ∧ ((.v (vI (IntKind.i64.wrap (z8 - 1))) : S) = .v (vI (z8 - 1))) ∧ (z8 - 1 < z8) ∧ ((0 : Int) ≤ z8 - 1) ∧ (z8 - 1 < z8) ∧ ((0 : Int) ≤ z8 - 1) ∧ z1 ∧ z1 ∧ z2 ∧ z2 ∧ (z8 - 1 < z8) ∧ ((0 : Int) ≤ z8 - 1) ∧ (z8 - 1 < z8) ∧ ((0 : Int) ≤ z8 - 1) ∧ z1 ∧ z9 ∧ z11.Nxt q1 [(0, .v (.c (.seq .ev l))), (3, .v (vO 0)), (4, .v (vI (z10 + 1)))] [.lst .ev (List.set q1.out (Int.toNat (z8 - 1)) (⟨x2.kind, x2.field, x2.bits, x2.len, x2.text ++ x1.text, x2.code, x2.at_⟩ : Ev))]) ∧ ((decide (x2.kind = 4)) = false → z3 ∧ z9 ∧ z11.Nxt q1 [(0, .v (.c (.seq .ev l))), (3, .v (vO 0)), (4, .v (vI (z10 + 1)))] z5))) ∧ ((decide (0 < z8)) = false → z3 ∧ z9 ∧ z11.Nxt q1 [(0, .v (.c (.seq .ev l))), (3, .v (vO 0)), (4, .v (vI (z10 + 1)))] z5))) ∧ (z4 = false → (z4 = false) ∧ z3 ∧ z9 ∧ z11.Nxt q1 [(0, .v (.c (.seq .ev l))), (3, .v (vO 0)), (4, .v (vI (z10 + 1)))] z5))) ∧ ((decide (z10 < ((List.length l : Nat) : Int))) = false → (.v (vO 0) : S) = .v (vO 0) ∧ ([.lst .ev q1.out] : List Blk) = [.lst .ev (merged l)])))) (by kernel_rfl) ?_
  refine ⟨has_of (j := (⟨([] : List Ev), 0⟩ : merged_s_V0)) (by first | rfl | simp) rfl (by dsimp only [merged_s_F0]; exact ⟨by omega, rfl, by simp, by simp [tx]⟩), fun (q1 : merged_s_V0) hq_q1 => ?_⟩
  have hi_q1 : q1.i ≤ List.length l ∧ mergeG q1.out (List.drop q1.i l) = merged l ∧ List.length q1.out ≤ q1.i ∧ tx q1.out + tx (List.drop q1.i l) ≤ tx l := hq_q1
  obtain ⟨v1, v2, v3, v4⟩ := hi_q1
  refine dsp (fun h1 p1 => ?_) fun h1 p1 => ?_
  refine ⟨(ax_get (l := l) (i := q1.i) (by omega)), fun x1 hx1 => ?_⟩
  rw [drop_el hx1, mergeG_cons] at v2
  rw [drop_el hx1, tx] at v4
  refine ⟨hx1, (by omega), dsp (fun h2 p2 => ?_) fun h2 p2 => ?_⟩
  refine dsp (fun h3 p3 => ?_) fun h3 p3 => ?_
  exact ⟨(as_i64 (by omega) (by omega)), nxt_of (j := (⟨q1.out, q1.i + 1⟩ : merged_s_V0)) (by first | rfl | simp) rfl (by dsimp only [merged_s_F0]; exact (by first | (exact ⟨by omega, by rw [mergeE_skip (by assumption) (by assumption)] at v2; exact v2, by omega, by omega⟩) | (exact ⟨by omega, by rw [hmm] at v2; rw [hix]; exact v2, by rw [List.length_set]; omega, by rw [hix]; exact Nat.le_trans (Nat.add_le_add_right (Nat.le_of_eq hms) _) (by omega)⟩) | (exact ⟨by omega, by rw [mergeE_new (by assumption) hse] at v2; exact v2, by simp; omega, by rw [tx_append]; simp [tx]; omega⟩) | (exact ⟨by omega, by rw [mergeE_other (by assumption)] at v2; exact v2, by simp; omega, by rw [tx_append]; simp [tx]; omega⟩))) (by dsimp only [merged_s_F0]; omega)⟩
  refine ⟨h2, dsp (fun h4 p4 => ?_) fun h4 p4 => ?_⟩
  refine ⟨(as_i64 (by omega) (by omega)), (ax_get (l := q1.out) (i := Int.toNat (((List.length q1.out : Nat) : Int) - 1)) (by omega)), fun x2 hx2 => ?_⟩
  refine ⟨(by omega), (by omega), ?_⟩
  have hle := tx_mem hx2
  have hix : Int.toNat ((q1.out.length : Int) - 1) = q1.out.length - 1 := by omega
  have hxe := hix ▸ hx2
  refine ⟨hx2, dsp (fun h5 p5 => ?_) fun h5 p5 => ?_⟩
  have hmm := mergeE_more (o := q1.out) (e := x1) (x := x2) (by assumption) (by assumption) (by omega) hxe (by assumption)
  have hms := tx_set x1.text hxe
  exact ⟨(as_i64 (by omega) (by omega)), (as_i64 (by omega) (by omega)), (as_i64 (by omega) (by omega)), (as_i64 (by omega) (by omega)), (by omega), (by omega), (by omega), (by omega), hx2, hx2, (by omega), (by omega), (by omega), (by omega), (by omega), (by omega), hx2, (as_i64 (by omega) (by omega)), nxt_of (j := (⟨List.set q1.out (Int.toNat (((List.length q1.out : Nat) : Int) - 1)) (⟨x2.kind, x2.field, x2.bits, x2.len, x2.text ++ x1.text, x2.code, x2.at_⟩ : Ev), q1.i + 1⟩ : merged_s_V0)) (by first | rfl | simp) rfl (by dsimp only [merged_s_F0]; exact (by first | (exact ⟨by omega, by rw [mergeE_skip (by assumption) (by assumption)] at v2; exact v2, by omega, by omega⟩) | (exact ⟨by omega, by rw [hmm] at v2; rw [hix]; exact v2, by rw [List.length_set]; omega, by rw [hix]; exact Nat.le_trans (Nat.add_le_add_right (Nat.le_of_eq hms) _) (by omega)⟩) | (exact ⟨by omega, by rw [mergeE_new (by assumption) hse] at v2; exact v2, by simp; omega, by rw [tx_append]; simp [tx]; omega⟩) | (exact ⟨by omega, by rw [mergeE_other (by assumption)] at v2; exact v2, by simp; omega, by rw [tx_append]; simp [tx]; omega⟩))) (by dsimp only [merged_s_F0]; omega)⟩
  have hse : ¬ (0 < q1.out.length ∧ (lastE q1.out).kind = 4) := fun h => by rw [lastE_el hxe] at h; exact absurd h.2 (by assumption)
  exact ⟨(by simp only [List.length_cons, List.length_nil]; omega), (as_i64 (by omega) (by omega)), nxt_of (j := (⟨q1.out ++ [x1], q1.i + 1⟩ : merged_s_V0)) (by first | rfl | simp) rfl (by dsimp only [merged_s_F0]; exact (by first | (exact ⟨by omega, by rw [mergeE_skip (by assumption) (by assumption)] at v2; exact v2, by omega, by omega⟩) | (exact ⟨by omega, by rw [hmm] at v2; rw [hix]; exact v2, by rw [List.length_set]; omega, by rw [hix]; exact Nat.le_trans (Nat.add_le_add_right (Nat.le_of_eq hms) _) (by omega)⟩) | (exact ⟨by omega, by rw [mergeE_new (by assumption) hse] at v2; exact v2, by simp; omega, by rw [tx_append]; simp [tx]; omega⟩) | (exact ⟨by omega, by rw [mergeE_other (by assumption)] at v2; exact v2, by simp; omega, by rw [tx_append]; simp [tx]; omega⟩))) (by dsimp only [merged_s_F0]; omega)⟩
  have hse : ¬ (0 < q1.out.length ∧ (lastE q1.out).kind = 4) := fun h => by omega
  exact ⟨(by simp only [List.length_cons, List.length_nil]; omega), (as_i64 (by omega) (by omega)), nxt_of (j := (⟨q1.out ++ [x1], q1.i + 1⟩ : merged_s_V0)) (by first | rfl | simp) rfl (by dsimp only [merged_s_F0]; exact (by first | (exact ⟨by omega, by rw [mergeE_skip (by assumption) (by assumption)] at v2; exact v2, by omega, by omega⟩) | (exact ⟨by omega, by rw [hmm] at v2; rw [hix]; exact v2, by rw [List.length_set]; omega, by rw [hix]; exact Nat.le_trans (Nat.add_le_add_right (Nat.le_of_eq hms) _) (by omega)⟩) | (exact ⟨by omega, by rw [mergeE_new (by assumption) hse] at v2; exact v2, by simp; omega, by rw [tx_append]; simp [tx]; omega⟩) | (exact ⟨by omega, by rw [mergeE_other (by assumption)] at v2; exact v2, by simp; omega, by rw [tx_append]; simp [tx]; omega⟩))) (by dsimp only [merged_s_F0]; omega)⟩
  exact ⟨h2, (by simp only [List.length_cons, List.length_nil]; omega), (as_i64 (by omega) (by omega)), nxt_of (j := (⟨q1.out ++ [x1], q1.i + 1⟩ : merged_s_V0)) (by first | rfl | simp) rfl (by dsimp only [merged_s_F0]; exact (by first | (exact ⟨by omega, by rw [mergeE_skip (by assumption) (by assumption)] at v2; exact v2, by omega, by omega⟩) | (exact ⟨by omega, by rw [hmm] at v2; rw [hix]; exact v2, by rw [List.length_set]; omega, by rw [hix]; exact Nat.le_trans (Nat.add_le_add_right (Nat.le_of_eq hms) _) (by omega)⟩) | (exact ⟨by omega, by rw [mergeE_new (by assumption) hse] at v2; exact v2, by simp; omega, by rw [tx_append]; simp [tx]; omega⟩) | (exact ⟨by omega, by rw [mergeE_other (by assumption)] at v2; exact v2, by simp; omega, by rw [tx_append]; simp [tx]; omega⟩))) (by dsimp only [merged_s_F0]; omega)⟩
  rw [List.drop_eq_nil_of_le (by omega), mergeG_nil] at v2
  refine ⟨rfl, (consE (congrArg (Blk.lst .ev) ?_) rfl)⟩
  rotate_left
  all_goals first | (exact v2) | ((rw [← v2]; done))
structure merged_i_V0 where
  out : List Ev
  i : Nat
def merged_i_F0 (l : List Ev) : Fam := ⟨merged_i_V0, fun q1 => [(0, .v (.c (.seq .ev l))), (3, .v (vO 0)), (4, .v (vI ((q1.i : Nat) : Int)))], fun q1 => [.lst .ev q1.out], fun q1 => q1.i ≤ List.length l ∧ mergeG q1.out (List.drop q1.i l) = merged l ∧ List.length q1.out ≤ q1.i ∧ sep q1.out (List.drop q1.i l), fun q1 => List.length l - q1.i⟩
structure merged_i_V1 where
  i : Nat
  texts : List Int
  first : Ev
  found : Bool
def merged_i_F1 (l : List Ev) (q1 : merged_i_V0) : Fam := ⟨merged_i_V1, fun q2 => [(0, .v (.c (.seq .ev l))), (3, .v (vO 0)), (4, .v (vI ((q2.i : Nat) : Int))), (6, .v (vO 1)), (7, .v (vP 2)), (8, .v (vB q2.found))], fun q2 => [.lst .ev q1.out, .lst .u8 q2.texts, .cells (cEv q2.first)], fun q2 => q2.i ≤ List.length l ∧ q1.i < q2.i ∧ mgInv q1.out q2.first (List.map toByte q2.texts) q2.found (List.drop q2.i l) (merged l) ∧ List.length q2.texts + tx (List.drop q2.i l) ≤ tx l, fun q2 => List.length l - q2.i⟩
theorem merged_i (l : List Ev) (hp1 : List.length l ≤ 100000000) (hp2 : tx l ≤ 100000000) : Fun Tryz.prog 56 [.c (.seq .ev l)] [] (.v (vO 0)) [.lst .ev (merged l)] := by
  have hN : bigN = 274877906944 := rfl
  refine fun_ofw Tryz.func56 (by kernel_rfl) (by kernel_rfl) (w := let z10 := ((List.length l : Nat) : Int); let z11 := merged_i_F0 l; (.seg [.ty .ev, .at 0, .keep [0, 3, 4], .sel [0]] (.loop z11 fun q1 => .br (.intro (fun (x1 : Ev) => l[q1.i]? = some x1) fun x1 => .seg [.el .ev x1, .as 19 (.v (vI (((q1.i : Nat) : Int) + 1)))] (.br (.seg [.ty .ev, .ty .ev, .at 0, .keep [0, 3, 4], .sel [3]] (.next)) (.seg [.ord (os 7 [4, 5]) [], .at 0, .keep [0, 3, 4, 6, 7, 8], .sel [0, 2, 3]] (.loop (merged_i_F1 l q1) fun q2 => let z3 := vI (((q2.i : Nat) : Int) + 1); .br (.intro (fun (x2 : Ev) => l[q2.i]? = some x2) fun x2 => .seg [.el .ev x2] (.br (.br (.seg [.el .ev x2] (.br (.seg [.el .ev x2, .el .ev x2, .ty .u8, .as 68 (.v z3), .at 0, .keep [0, 3, 4, 6, 7, 8], .sel [0, 3, 2]] (.next)) (.seg [.el .ev x2, .ty .u8, .as 68 (.v z3), .at 0, .keep [0, 3, 4, 6, 7, 8], .sel [0, 3, 2]] (.next)))) (.seg [.el .ev x2, .ty .u8, .as 68 (.v z3), .at 0, .keep [0, 3, 4, 6, 7, 8], .sel [0, 3, 2]] (.next))) (.br (.seg [.ty .ev, .ty .ev, .at 0, .keep [0, 3, 4], .sel [4]] (.next)) (.seg [.at 0, .keep [0, 3, 4], .sel [0]] (.next))))) (.br (.seg [.ty .ev, .ty .ev, .at 0, .keep [0, 3, 4], .sel [4]] (.next)) (.seg [.at 0, .keep [0, 3, 4], .sel [0]] (.next))))))) (.leaf () [0])), z11.Has [(0, .v (.c (.seq .ev l))), (3, .v (vO 0)), (4, .v (vI 0))] [.lst .ev ([] : List Ev)] ∧ ∀ q1, z11.inv q1 → (let z8 := ((q1.i : Nat) : Int); let z9 := merged_i_F1 l q1; ((decide (z8 < z10)) = true → (∃ (x1 : Ev), l[q1.i]? = some x1) ∧ ∀ (x1 : Ev), (l[q1.i]? = some x1) → ((l[q1.i]? = some x1) ∧ ((0 : Int) ≤ z8) ∧ ((.v (vI (IntKind.i64.wrap (z8 + 1))) : S) = .v (vI (z8 + 1))) ∧ ((!decide (x1.kind = 4)) = true → (List.length q1.out + List.length [x1] ≤ bigN) ∧ z11.Nxt q1 [(0, .v (.c (.seq .ev l))), (3, .v (vO 0)), (4, .v (vI (z8 + 1)))] [.lst .ev (q1.out ++ [x1])]) ∧ ((!decide (x1.kind = 4)) = false → (List.length x1.text ≤ bigN) ∧ z9.Has [(0, .v (.c (.seq .ev l))), (3, .v (vO 0)), (4, .v (vI (z8 + 1))), (6, .v (vO 1)), (7, .v (vP 2)), (8, .v (vB (!decide (x1.text = []))))] [.lst .ev q1.out, .lst .u8 (List.map (fun b => (UInt8.toNat b : Int)) x1.text), .cells (cEv x1)] ∧ ∀ q2, z9.inv q2 → (let z5 := ((q2.i : Nat) : Int); let z6 := q2.found = false → z11.Nxt q1 [(0, .v (.c (.seq .ev l))), (3, .v (vO 0)), (4, .v (vI z5))] [.lst .ev q1.out]; let z7 := (⟨q2.first.kind, q2.first.field, q2.first.bits, q2.first.len, List.map toByte q2.texts, q2.first.code, q2.first.at_⟩ : Ev); let z4 := q2.found = true → (List.length q1.out + List.length [z7] ≤ bigN) ∧ z11.Nxt q1 [(0, .v (.c (.seq .ev l))), (3, .v (vO 0)), (4, .v (vI z5))] [.lst .ev (q1.out ++ [z7])]; ((decide (z5 < z10)) = true → (∃ (x2 : Ev), l[q2.i]? = some x2) ∧ ∀ (x2 : Ev), (l[q2.i]? = some x2) → (let z1 := List.map (fun b => (UInt8.toNat b : Int)) x2.text; let z2 := l[q2.i]? = some x2; z2 ∧ ((0 : Int) ≤ z5) ∧ ((decide (x2.kind = 4)) = true → ((!q2.found) = true → z2 ∧ ((0 : Int) ≤ z5) ∧ ((!decide (x2.text = [])) = true → z2 ∧ ((0 : Int) ≤ z5) ∧ z2 ∧ ((0 : Int) ≤ z5) ∧ (List.length q2.texts + List.length z1 ≤ bigN) ∧ ((.v (vI (IntKind.i64.wrap (z5 + 1))) : S) = .v (vI (z5 + 1))) ∧ z9.Nxt q2 [(0, .v (.c (.seq .ev l))), (3, .v (vO 0)), (4, .v (vI (z5 + 1))), (6, .v (vO 1)), (7, .v (vP 2)), (8, .v (vB true))] [.lst .ev q1.out, .lst .u8 (q2.texts ++ z1), .cells (cEv x2)]) ∧ ((!decide (x2.text = [])) = false → z2 ∧ ((0 : Int) ≤ z5) ∧ (List.length q2.texts + List.length z1 ≤ bigN) ∧ ((.v (vI (IntKind.i64.wrap (z5 + 1))) : S) = .v (vI (z5 + 1))) ∧ z9.Nxt q2 [(0, .v (.c (.seq .ev l))), (3, .v (vO 0)), (4, .v (vI (z5 + 1))), (6, .v (vO 1)), (7, .v (vP 2)), (8, .v (vB q2.found))] [.lst .ev q1.out, .lst .u8 (q2.texts ++ z1), .cells (cEv q2.first)])) ∧ ((!q2.found) = false → z2 ∧ ((0 : Int) ≤ z5) ∧ (List.length q2.texts + List.length z1 ≤ bigN) ∧ ((.v (vI (IntKind.i64.wrap (z5 + 1))) : S) = .v (vI (z5 + 1))) ∧ z9.Nxt q2 [(0, .v (.c (.seq .ev l))), (3, .v (vO 0)), (4, .v (vI (z5 + 1))), (6, .v (vO 1)), (7, .v (vP 2)), (8, .v (vB q2.found))] [.lst .ev q1.out, .lst .u8 (q2.texts ++ z1), .cells (cEv q2.first)])) ∧ ((decide (x2.kind = 4)) = false → z4 ∧ z6))) ∧ ((decide (z5 < z10)) = false → z4 ∧ z6))))) ∧ ((decide (z8 < z10)) = false → (.v (vO 0) : S) = .v (vO 0) ∧ ([.lst .ev q1.out] : List Blk) = [.lst .ev (merged l)])))) (by kernel_rfl) ?_
  refine ⟨has_of (j := (⟨([] : List Ev), 0⟩ : merged_i_V0)) (by first | rfl | simp) rfl (by dsimp only [merged_i_F0]; exact ⟨by omega, rfl, by simp, sep_nil⟩), fun (q1 : merged_i_V0) hq_q1 => ?_⟩
  have hi_q1 : q1.i ≤ List.length l ∧ mergeG q1.out (List.drop q1.i l) = merged l ∧ List.length q1.out ≤ q1.i ∧ sep q1.out (List.drop q1.i l) := hq_q1
  obtain ⟨v1, v2, v3, v4⟩ := hi_q1
  refine dsp (fun h1 p1 => ?_) fun h1 p1 => ?_
  refine ⟨(ax_get (l := l) (i := q1.i) (by omega)), fun x1 hx1 => ?_⟩
  rw [drop_el hx1, mergeG_cons] at v2
  have hdx := drop_el hx1
  have htl : tx (List.drop q1.i l) = x1.text.length + tx (List.drop (q1.i + 1) l) := by rw [hdx, tx]
  have htl2 := tx_drop l q1.i
  have hse := fun hk => sep_el v4 hx1 hk
  refine ⟨hx1, (by omega), (as_i64 (by omega) (by omega)), fun h2 => have q2 := bnot_t h2; have p2 := of_decide_eq_false q2; ?_, fun h2 => have q2 := bnot_f h2; have p2 := of_decide_eq_true q2; ?_⟩
  exact ⟨(by simp only [List.length_cons, List.length_nil]; omega), nxt_of (j := (⟨q1.out ++ [x1], q1.i + 1⟩ : merged_i_V0)) (by first | rfl | simp) rfl (by dsimp only [merged_i_F0]; exact (by first | (exact ⟨by omega, by rw [mergeE_other (by assumption)] at v2; exact v2, by simp; omega, sep_other (by assumption)⟩) | (exact ⟨by omega, (w3.1 (by assumption)).2, by simp; omega, hsp _⟩) | (exact ⟨by omega, (w3.2 (by simpa using by assumption)).2, by omega, hsp _⟩))) (by dsimp only [merged_i_F0]; omega)⟩
  have hse := hse (by assumption)
  refine ⟨(by omega), has_of (j := (⟨q1.i + 1, List.map (fun b => (UInt8.toNat b : Int)) x1.text, x1, !decide (x1.text = [])⟩ : merged_i_V1)) (by first | rfl | simp) rfl (by dsimp only [merged_i_F1]; exact (by first | (exact ⟨by omega, by omega, by rw [map_toByte_toNat]; exact mg_start (by assumption) hse v2, by simp; omega⟩))), fun (q2 : merged_i_V1) hq_q2 => ?_⟩
  have hi_q2 : q2.i ≤ List.length l ∧ q1.i < q2.i ∧ mgInv q1.out q2.first (List.map toByte q2.texts) q2.found (List.drop q2.i l) (merged l) ∧ List.length q2.texts + tx (List.drop q2.i l) ≤ tx l := hq_q2
  obtain ⟨w1, w2, w3, w4⟩ := hi_q2
  refine dsp (fun h3 p3 => ?_) fun h3 p3 => ?_
  refine ⟨(ax_get (l := l) (i := q2.i) (by omega)), fun x2 hx2 => ?_⟩
  have hdr := drop_el hx2
  have htx : tx (List.drop q2.i l) = x2.text.length + tx (List.drop (q2.i + 1) l) := by rw [hdr, tx]
  refine ⟨hx2, (by omega), dsp (fun h4 p4 => ?_) fun h4 p4 => ?_⟩
  refine ⟨fun h5 => have q5 := bnot_t h5; ?_, fun h5 => have q5 := bnot_f h5; ?_⟩
  refine ⟨hx2, (by omega), fun h6 => have q6 := bnot_t h6; have p6 := of_decide_eq_false q6; ?_, fun h6 => have q6 := bnot_f h6; have p6 := of_decide_eq_true q6; ?_⟩
  exact ⟨hx2, (by omega), hx2, (by omega), (by simp only [List.length_map]; omega), (as_i64 (by omega) (by omega)), nxt_of (j := (⟨q2.i + 1, q2.texts ++ (List.map (fun b => (UInt8.toNat b : Int)) x2.text), x2, true⟩ : merged_i_V1)) (by first | rfl | simp) rfl (by dsimp only [merged_i_F1]; exact (by first | (exact ⟨by omega, by omega, by rw [List.map_append, map_toByte_toNat]; exact mg_A (hdr ▸ w3) (by assumption) (by simpa using by assumption), by simp; omega⟩) | (exact ⟨by omega, by omega, by rw [List.map_append, map_toByte_toNat]; exact mg_B (hdr ▸ w3) (by assumption) (by assumption) (by simpa using by assumption) hse, by simp; omega⟩) | (exact ⟨by omega, by omega, by rw [List.map_append, map_toByte_toNat]; exact mg_C (hdr ▸ w3) (by assumption) (by assumption) (by simpa using by assumption), by simp; omega⟩))) (by dsimp only [merged_i_F1]; omega)⟩
  exact ⟨hx2, (by omega), (by simp only [List.length_map]; omega), (as_i64 (by omega) (by omega)), nxt_of (j := (⟨q2.i + 1, q2.texts ++ (List.map (fun b => (UInt8.toNat b : Int)) x2.text), q2.first, q2.found⟩ : merged_i_V1)) (by first | rfl | simp) rfl (by dsimp only [merged_i_F1]; exact (by first | (exact ⟨by omega, by omega, by rw [List.map_append, map_toByte_toNat]; exact mg_A (hdr ▸ w3) (by assumption) (by simpa using by assumption), by simp; omega⟩) | (exact ⟨by omega, by omega, by rw [List.map_append, map_toByte_toNat]; exact mg_B (hdr ▸ w3) (by assumption) (by assumption) (by simpa using by assumption) hse, by simp; omega⟩) | (exact ⟨by omega, by omega, by rw [List.map_append, map_toByte_toNat]; exact mg_C (hdr ▸ w3) (by assumption) (by assumption) (by simpa using by assumption), by simp; omega⟩))) (by dsimp only [merged_i_F1]; omega)⟩
  exact ⟨hx2, (by omega), (by simp only [List.length_map]; omega), (as_i64 (by omega) (by omega)), nxt_of (j := (⟨q2.i + 1, q2.texts ++ (List.map (fun b => (UInt8.toNat b : Int)) x2.text), q2.first, q2.found⟩ : merged_i_V1)) (by first | rfl | simp) rfl (by dsimp only [merged_i_F1]; exact (by first | (exact ⟨by omega, by omega, by rw [List.map_append, map_toByte_toNat]; exact mg_A (hdr ▸ w3) (by assumption) (by simpa using by assumption), by simp; omega⟩) | (exact ⟨by omega, by omega, by rw [List.map_append, map_toByte_toNat]; exact mg_B (hdr ▸ w3) (by assumption) (by assumption) (by simpa using by assumption) hse, by simp; omega⟩) | (exact ⟨by omega, by omega, by rw [List.map_append, map_toByte_toNat]; exact mg_C (hdr ▸ w3) (by assumption) (by assumption) (by simpa using by assumption), by simp; omega⟩))) (by dsimp only [merged_i_F1]; omega)⟩
  have hsp : ∀ o, sep o (List.drop q2.i l) := fun o => sep_next (.inr ⟨x2, by assumption, by assumption⟩)
  refine ⟨fun h5 => ?_, fun h5 => ?_⟩
  exact ⟨(by simp only [List.length_map, List.length_cons, List.length_nil]; omega), nxt_of (j := (⟨q1.out ++ [(⟨q2.first.kind, q2.first.field, q2.first.bits, q2.first.len, List.map toByte q2.texts, q2.first.code, q2.first.at_⟩ : Ev)], q2.i⟩ : merged_i_V0)) rfl rfl (by dsimp only [merged_i_F0]; exact (by first | (exact ⟨by omega, by rw [mergeE_other (by assumption)] at v2; exact v2, by simp; omega, sep_other (by assumption)⟩) | (exact ⟨by omega, (w3.1 (by assumption)).2, by simp; omega, hsp _⟩) | (exact ⟨by omega, (w3.2 (by simpa using by assumption)).2, by omega, hsp _⟩))) (by dsimp only [merged_i_F0]; omega)⟩
  exact nxt_of (j := (⟨q1.out, q2.i⟩ : merged_i_V0)) rfl rfl (by dsimp only [merged_i_F0]; exact (by first | (exact ⟨by omega, by rw [mergeE_other (by assumption)] at v2; exact v2, by simp; omega, sep_other (by assumption)⟩) | (exact ⟨by omega, (w3.1 (by assumption)).2, by simp; omega, hsp _⟩) | (exact ⟨by omega, (w3.2 (by simpa using by assumption)).2, by omega, hsp _⟩))) (by dsimp only [merged_i_F0]; omega)
  have hsp : ∀ o, sep o (List.drop q2.i l) := fun o => sep_next (.inl (by omega))
  refine ⟨fun h4 => ?_, fun h4 => ?_⟩
  exact ⟨(by simp only [List.length_map, List.length_cons, List.length_nil]; omega), nxt_of (j := (⟨q1.out ++ [(⟨q2.first.kind, q2.first.field, q2.first.bits, q2.first.len, List.map toByte q2.texts, q2.first.code, q2.first.at_⟩ : Ev)], q2.i⟩ : merged_i_V0)) rfl rfl (by dsimp only [merged_i_F0]; exact (by first | (exact ⟨by omega, by rw [mergeE_other (by assumption)] at v2; exact v2, by simp; omega, sep_other (by assumption)⟩) | (exact ⟨by omega, (w3.1 (by assumption)).2, by simp; omega, hsp _⟩) | (exact ⟨by omega, (w3.2 (by simpa using by assumption)).2, by omega, hsp _⟩))) (by dsimp only [merged_i_F0]; omega)⟩
  exact nxt_of (j := (⟨q1.out, q2.i⟩ : merged_i_V0)) rfl rfl (by dsimp only [merged_i_F0]; exact (by first | (exact ⟨by omega, by rw [mergeE_other (by assumption)] at v2; exact v2, by simp; omega, sep_other (by assumption)⟩) | (exact ⟨by omega, (w3.1 (by assumption)).2, by simp; omega, hsp _⟩) | (exact ⟨by omega, (w3.2 (by simpa using by assumption)).2, by omega, hsp _⟩))) (by dsimp only [merged_i_F0]; omega)
  rw [List.drop_eq_nil_of_le (by omega), mergeG_nil] at v2
  refine ⟨rfl, (consE (congrArg (Blk.lst .ev) ?_) rfl)⟩
  rotate_left
  all_goals first | (exact v2) | ((rw [← v2]; done))
structure nrmF_s_V0 where
  out : List Ev
  i : Nat
def nrmF_s_F0 (p : Pln) (l : List Ev) : Fam := ⟨nrmF_s_V0, fun q1 => [(1, .v (.c (.seq .ev l))), (5, .v (vO 0)), (6, .v (vO 1)), (7, .v (vI ((q1.i : Nat) : Int)))], fun q1 => [.lst .ev q1.out, .lst .int (sizesOf p l)], fun q1 => q1.i ≤ List.length l ∧ q1.out ++ nrmA (sizesOf p l) q1.i (List.drop q1.i l) = nrmF p l ∧ List.length q1.out ≤ q1.i, fun q1 => List.length l - q1.i⟩
theorem nrmF_s (p : Pln) (l : List Ev) (hp1 : EvsB l) (hp2 : (frameCode p l).1 = 0) : Fun Tryz.prog 49 [.agg (cPln p), .c (.seq .ev l)] [] (.v (vO 0)) [.lst .ev (merged (nrmF p l))] := by
  have hN : bigN = 274877906944 := rfl
  have hvl := hp1.1
  have hsz := sizesOf_full hp2
  have htx := nrmA_tx (sizesOf p l) 0 l
  have htt := tx_txtN l
  have htn := hp1.2.1
  have hnl := nrmA_len (sizesOf p l) 0 l
  have hnf : nrmF p l = nrmA (sizesOf p l) 0 l := rfl
  rw [← hnf] at htx hnl
  refine fun_ofw Tryz.func49 (by kernel_rfl) (by kernel_rfl) (w := let z12 := sizesOf p l; let z13 := nrmF_s_F0 p l; let z14 := ((List.length z12 : Nat) : Int); (.seg [.ty .ev, .call [] (.v (vO 0)) [.lst .int z12], .at 0, .keep [1, 5, 6, 7], .sel [1, 2]] (.loop z13 fun q1 => let z9 := vI (((q1.i : Nat) : Int) + 1); .br (.intro (fun (x1 : Ev) => l[q1.i]? = some x1) fun x1 => .seg [.el .ev x1] (.br (.seg [.el .ev x1, .el .ev x1, .ty .ev, .ty .ev, .as 18 (.v z9), .at 0, .keep [1, 5, 6, 7], .sel [4, 1]] (.next)) (.br (.seg [.br true, .el .ev x1] (.intro (fun (x2 : Int) => z12[q1.i]? = some x2) fun x2 => .seg [.el .int x2, .ty .ev, .ty .ev, .as 18 (.v z9), .at 0, .keep [1, 5, 6, 7], .sel [4, 1]] (.next))) (.br (.seg [.el .ev x1] (.intro (fun (x2 : Int) => z12[q1.i]? = some x2) fun x2 => .seg [.el .int x2, .ty .ev, .ty .ev, .as 18 (.v z9), .at 0, .keep [1, 5, 6, 7], .sel [4, 1]] (.next))) (.br (.intro (fun (x2 : Int) => z12[q1.i]? = some x2) fun x2 => .seg [.el .int x2, .ty .ev, .ty .ev, .as 18 (.v z9), .at 0, .keep [1, 5, 6, 7], .sel [4, 1]] (.next)) (.br (.seg [.el .ev x1, .ty .ev, .ty .ev, .as 18 (.v z9), .at 0, .keep [1, 5, 6, 7], .sel [4, 1]] (.next)) (.seg [.ty .ev, .ty .ev, .as 18 (.v z9), .at 0, .keep [1, 5, 6, 7], .sel [4, 1]] (.next)))))))) (.seg [.call [] (.v (vO 0)) [.lst .ev (merged q1.out)]] (.leaf () [2]))), (Fun Tryz.prog 104 [.agg (cPln p), .c (.seq .ev l)] [] (.v (vO 0)) [.lst .int z12]) ∧ z13.Has [(1, .v (.c (.seq .ev l))), (5, .v (vO 0)), (6, .v (vO 1)), (7, .v (vI 0))] [.lst .ev ([] : List Ev), .lst .int z12] ∧ ∀ q1, z13.inv q1 → (let z10 := ((q1.i : Nat) : Int); let z11 := ∃ (x2 : Int), z12[q1.i]? = some x2; ((decide (z10 < ((List.length l : Nat) : Int))) = true → (∃ (x1 : Ev), l[q1.i]? = some x1) ∧ ∀ (x1 : Ev), (l[q1.i]? = some x1) → (let z4 := l[q1.i]? = some x1; let z5 := (⟨x1.kind, x1.field, x1.bits, 0, [], 0, 0⟩ : Ev); let z6 := decide (x1.kind = 3); let z7 := (⟨x1.kind, 0, 0, 0, x1.text, 0, 0⟩ : Ev); let z8 := (⟨x1.kind, 0, 0, 0, [], 0, 0⟩ : Ev); z4 ∧ ((0 : Int) ≤ z10) ∧ ((decide (x1.kind = 2)) = true → z4 ∧ ((0 : Int) ≤ z10) ∧ z4 ∧ ((0 : Int) ≤ z10) ∧ (List.length q1.out + List.length [z5] ≤ bigN) ∧ ((.v (vI (IntKind.i64.wrap (z10 + 1))) : S) = .v (vI (z10 + 1))) ∧ z13.Nxt q1 [(1, .v (.c (.seq .ev l))), (5, .v (vO 0)), (6, .v (vO 1)), (7, .v (vI (z10 + 1)))] [.lst .ev (q1.out ++ [z5]), .lst .int z12]) ∧ ((decide (x1.kind = 2)) = false → (z6 = true → (z6 = true) ∧ z4 ∧ ((0 : Int) ≤ z10) ∧ z11 ∧ ∀ (x2 : Int), (z12[q1.i]? = some x2) → (let z1 := (⟨x1.kind, x1.field, 0, x2, [], 0, 0⟩ : Ev); (z10 < z14) ∧ ((0 : Int) ≤ z10) ∧ (z12[q1.i]? = some x2) ∧ (List.length q1.out + List.length [z1] ≤ bigN) ∧ ((.v (vI (IntKind.i64.wrap (z10 + 1))) : S) = .v (vI (z10 + 1))) ∧ z13.Nxt q1 [(1, .v (.c (.seq .ev l))), (5, .v (vO 0)), (6, .v (vO 1)), (7, .v (vI (z10 + 1)))] [.lst .ev (q1.out ++ [z1]), .lst .int z12])) ∧ (z6 = false → ((decide (x1.kind = 6)) = true → z4 ∧ ((0 : Int) ≤ z10) ∧ z11 ∧ ∀ (x2 : Int), (z12[q1.i]? = some x2) → (let z2 := (⟨x1.kind, x1.field, 0, x2, [], 0, 0⟩ : Ev); (z10 < z14) ∧ ((0 : Int) ≤ z10) ∧ (z12[q1.i]? = some x2) ∧ (List.length q1.out + List.length [z2] ≤ bigN) ∧ ((.v (vI (IntKind.i64.wrap (z10 + 1))) : S) = .v (vI (z10 + 1))) ∧ z13.Nxt q1 [(1, .v (.c (.seq .ev l))), (5, .v (vO 0)), (6, .v (vO 1)), (7, .v (vI (z10 + 1)))] [.lst .ev (q1.out ++ [z2]), .lst .int z12])) ∧ ((decide (x1.kind = 6)) = false → ((decide (x1.kind = 1)) = true → z11 ∧ ∀ (x2 : Int), (z12[q1.i]? = some x2) → (let z3 := (⟨x1.kind, 0, 0, x2, [], 0, 0⟩ : Ev); (z10 < z14) ∧ ((0 : Int) ≤ z10) ∧ (z12[q1.i]? = some x2) ∧ (List.length q1.out + List.length [z3] ≤ bigN) ∧ ((.v (vI (IntKind.i64.wrap (z10 + 1))) : S) = .v (vI (z10 + 1))) ∧ z13.Nxt q1 [(1, .v (.c (.seq .ev l))), (5, .v (vO 0)), (6, .v (vO 1)), (7, .v (vI (z10 + 1)))] [.lst .ev (q1.out ++ [z3]), .lst .int z12])) ∧ ((decide (x1.kind = 1)) = false → ((decide (x1.kind = 4)) = true → z4 ∧ ((0 : Int) ≤ z10) ∧ (List.length q1.out + List.length [z7] ≤ bigN) ∧ ((.v (vI (IntKind.i64.wrap (z10 + 1))) : S) = .v (vI (z10 + 1))) ∧ z13.Nxt q1 [(1, .v (.c (.seq .ev l))), (5, .v (vO 0)), (6, .v (vO 1)), (7, .v (vI (z10 + 1)))] [.lst .ev (q1.out ++ [z7]), .lst .int z12]) ∧ ((decide (x1.kind = 4)) = false → (List.length q1.out + List.length [z8] ≤ bigN) ∧ ((.v (vI (IntKind.i64.wrap (z10 + 1))) : S) = .v (vI (z10 + 1))) ∧ z13.Nxt q1 [(1, .v (.c (.seq .ev l))), (5, .v (vO 0)), (6, .v (vO 1)), (7, .v (vI (z10 + 1)))] [.lst .ev (q1.out ++ [z8]), .lst .int z12]))))))) ∧ ((decide (z10 < ((List.length l : Nat) : Int))) = false → (Fun Tryz.prog 98 [.c (.seq .ev q1.out)] [] (.v (vO 0)) [.lst .ev (merged q1.out)]) ∧ (.v (vO 0) : S) = .v (vO 0) ∧ ([.lst .ev (merged q1.out)] : List Blk) = [.lst .ev (merged (nrmF p l))])))) (by kernel_rfl) ?_
  refine ⟨(sizesOf_s p _ (hp1)), has_of (j := (⟨([] : List Ev), 0⟩ : nrmF_s_V0)) (by first | rfl | simp) rfl (by dsimp only [nrmF_s_F0]; exact ⟨by omega, rfl, by simp⟩), fun (q1 : nrmF_s_V0) hq_q1 => ?_⟩
  have hi_q1 : q1.i ≤ List.length l ∧ q1.out ++ nrmA (sizesOf p l) q1.i (List.drop q1.i l) = nrmF p l ∧ List.length q1.out ≤ q1.i := hq_q1
  obtain ⟨v1, v2, v3⟩ := hi_q1
  refine dsp (fun h1 p1 => ?_) fun h1 p1 => ?_
  refine ⟨(ax_get (l := l) (i := q1.i) (by omega)), fun x1 hx1 => ?_⟩
  rw [drop_el hx1, nrmA] at v2
  refine ⟨hx1, (by omega), dsp (fun h2 p2 => ?_) fun h2 p2 => ?_⟩
  exact ⟨hx1, (by omega), hx1, (by omega), (by simp only [List.length_cons, List.length_nil]; omega), (as_i64 (by omega) (by omega)), nxt_of (j := (⟨q1.out ++ [(⟨x1.kind, x1.field, x1.bits, 0, [], 0, 0⟩ : Ev)], q1.i + 1⟩ : nrmF_s_V0)) (by first | rfl | simp) rfl (by dsimp only [nrmF_s_F0]; refine ⟨by omega, ?_, by simp; omega⟩; rw [← v2, List.append_assoc]; congr 1; simp only [List.singleton_append, List.cons_append, List.nil_append]; congr 1; first | ((simp [nrmE, *]; done)) | (simp_all [nrmE]; done) | (grind [nrmE])) (by dsimp only [nrmF_s_F0]; omega)⟩
  refine dsp (fun h3 p3 => ?_) fun h3 p3 => ?_
  refine ⟨h3, hx1, (by omega), (ax_get (l := sizesOf p l) (i := q1.i) (by omega)), fun x2 hx2 => ?_⟩
  refine ⟨(by omega), (by omega), ?_⟩
  have hgz := getD_of (d := 0) hx2
  exact ⟨hx2, (by simp only [List.length_cons, List.length_nil]; omega), (as_i64 (by omega) (by omega)), nxt_of (j := (⟨q1.out ++ [(⟨x1.kind, x1.field, 0, x2, [], 0, 0⟩ : Ev)], q1.i + 1⟩ : nrmF_s_V0)) (by first | rfl | simp) rfl (by dsimp only [nrmF_s_F0]; refine ⟨by omega, ?_, by simp; omega⟩; rw [← v2, List.append_assoc]; congr 1; simp only [List.singleton_append, List.cons_append, List.nil_append]; congr 1; first | ((simp [nrmE, *]; done)) | (simp_all [nrmE]; done) | (grind [nrmE])) (by dsimp only [nrmF_s_F0]; omega)⟩
  refine dsp (fun h4 p4 => ?_) fun h4 p4 => ?_
  refine ⟨hx1, (by omega), (ax_get (l := sizesOf p l) (i := q1.i) (by omega)), fun x2 hx2 => ?_⟩
  refine ⟨(by omega), (by omega), ?_⟩
  have hgz := getD_of (d := 0) hx2
  exact ⟨hx2, (by simp only [List.length_cons, List.length_nil]; omega), (as_i64 (by omega) (by omega)), nxt_of (j := (⟨q1.out ++ [(⟨x1.kind, x1.field, 0, x2, [], 0, 0⟩ : Ev)], q1.i + 1⟩ : nrmF_s_V0)) (by first | rfl | simp) rfl (by dsimp only [nrmF_s_F0]; refine ⟨by omega, ?_, by simp; omega⟩; rw [← v2, List.append_assoc]; congr 1; simp only [List.singleton_append, List.cons_append, List.nil_append]; congr 1; first | ((simp [nrmE, *]; done)) | (simp_all [nrmE]; done) | (grind [nrmE])) (by dsimp only [nrmF_s_F0]; omega)⟩
  refine dsp (fun h5 p5 => ?_) fun h5 p5 => ?_
  refine ⟨(ax_get (l := sizesOf p l) (i := q1.i) (by omega)), fun x2 hx2 => ?_⟩
  refine ⟨(by omega), (by omega), ?_⟩
  have hgz := getD_of (d := 0) hx2
  exact ⟨hx2, (by simp only [List.length_cons, List.length_nil]; omega), (as_i64 (by omega) (by omega)), nxt_of (j := (⟨q1.out ++ [(⟨x1.kind, 0, 0, x2, [], 0, 0⟩ : Ev)], q1.i + 1⟩ : nrmF_s_V0)) (by first | rfl | simp) rfl (by dsimp only [nrmF_s_F0]; refine ⟨by omega, ?_, by simp; omega⟩; rw [← v2, List.append_assoc]; congr 1; simp only [List.singleton_append, List.cons_append, List.nil_append]; congr 1; first | ((simp [nrmE, *]; done)) | (simp_all [nrmE]; done) | (grind [nrmE])) (by dsimp only [nrmF_s_F0]; omega)⟩
  refine dsp (fun h6 p6 => ?_) fun h6 p6 => ?_
  exact ⟨hx1, (by omega), (by simp only [List.length_cons, List.length_nil]; omega), (as_i64 (by omega) (by omega)), nxt_of (j := (⟨q1.out ++ [(⟨x1.kind, 0, 0, 0, x1.text, 0, 0⟩ : Ev)], q1.i + 1⟩ : nrmF_s_V0)) (by first | rfl | simp) rfl (by dsimp only [nrmF_s_F0]; refine ⟨by omega, ?_, by simp; omega⟩; rw [← v2, List.append_assoc]; congr 1; simp only [List.singleton_append, List.cons_append, List.nil_append]; congr 1; first | ((simp [nrmE, *]; done)) | (simp_all [nrmE]; done) | (grind [nrmE])) (by dsimp only [nrmF_s_F0]; omega)⟩
  exact ⟨(by simp only [List.length_cons, List.length_nil]; omega), (as_i64 (by omega) (by omega)), nxt_of (j := (⟨q1.out ++ [(⟨x1.kind, 0, 0, 0, [], 0, 0⟩ : Ev)], q1.i + 1⟩ : nrmF_s_V0)) (by first | rfl | simp) rfl (by dsimp only [nrmF_s_F0]; refine ⟨by omega, ?_, by simp; omega⟩; rw [← v2, List.append_assoc]; congr 1; simp only [List.singleton_append, List.cons_append, List.nil_append]; congr 1; first | ((simp [nrmE, *]; done)) | (simp_all [nrmE]; done) | (grind [nrmE])) (by dsimp only [nrmF_s_F0]; omega)⟩
  rw [List.drop_eq_nil_of_le (by omega), nrmA, List.append_nil] at v2
  refine ⟨(merged_s _ (by omega) (by rw [v2]; omega)), rfl, (consE (congrArg (Blk.lst .ev) ?_) rfl)⟩
  rotate_left
  all_goals first | ((rw [v2]; done)) | ((rw [← v2]; done)) | (grind)
structure normal_s_V0 where
  out : List Ev
  i : Nat
def normal_s_F0 (p : Pln) (l : List Ev) : Fam := ⟨normal_s_V0, fun q1 => [(2, .v (vP 0)), (5, .v (vO 1)), (8, .v (vO 2)), (9, .v (vI ((q1.i : Nat) : Int)))], fun q1 => [.cells (cPln p), .lst .ev q1.out, .lst .evs (divM l)], fun q1 => q1.i ≤ List.length (divM l) ∧ q1.out ++ nrmS p (List.drop q1.i (divM l)) = nrmS p (divM l), fun q1 => List.length (divM l) - q1.i⟩
theorem normal_s (p : Pln) (l : List Ev) (hp1 : EvsB l) : Fun Tryz.prog 12 [.agg (cPln p), .c (.seq .ev l)] [] (.v (vO 0)) [.lst .ev (normalL p l)] := by
  have hN : bigN = 274877906944 := rfl
  have hvl := hp1.1
  have hdv := divM_b (l := l) _ (Nat.le_refl _)
  have hd1 := hdv.1
  have hnb := normal_b (p := p) (l := l)
  have htn := hp1.2.1
  refine fun_ofw Tryz.func12 (by kernel_rfl) (by kernel_rfl) (w := let z4 := formed p l; let z5 := normal_s_F0 p l; (.seg [.ty .ev, .call [] (.tup [vI z4.1, vI z4.2]) []] (.br (.leaf () [1]) (.seg [.call [] (.v (vO 0)) [.lst .evs (divM l)], .at 0, .keep [2, 5, 8, 9], .sel [0, 1, 2]] (.loop z5 fun q1 => .br (.intro (fun (x1 : List Ev) => (divM l)[q1.i]? = some x1) fun x1 => .seg [.tree (fr (.one 6 (.one 7 (.first 8 (.done)))) 0 6) 7 [], .el .evs x1, .call [] (.v (vO 0)) [.lst .ev (merged (nrmF p x1))], .ty .ev, .as 27 (.v (vI (((q1.i : Nat) : Int) + 1))), .at 0, .keep [2, 5, 8, 9], .sel [0, 4, 2]] (.next)) (.leaf () [1])))), (Fun Tryz.prog 47 [.agg (cPln p), .c (.seq .ev l)] [] (.tup [vI z4.1, vI z4.2]) []) ∧ ((!decide (z4.1 = 0)) = true → (.v (vO 0) : S) = .v (vO 0) ∧ ([.lst .ev ([] : List Ev)] : List Blk) = [.lst .ev (normalL p l)]) ∧ ((!decide (z4.1 = 0)) = false → (Fun Tryz.prog 48 [.c (.seq .ev l)] [] (.v (vO 0)) [.lst .evs (divM l)]) ∧ z5.Has [(2, .v (vP 0)), (5, .v (vO 1)), (8, .v (vO 2)), (9, .v (vI 0))] [.cells (cPln p), .lst .ev ([] : List Ev), .lst .evs (divM l)] ∧ ∀ q1, z5.inv q1 → (let z3 := ((q1.i : Nat) : Int); let z2 := z3 < ((List.length (divM l) : Nat) : Int); ((decide z2) = true → (∃ (x1 : List Ev), (divM l)[q1.i]? = some x1) ∧ ∀ (x1 : List Ev), ((divM l)[q1.i]? = some x1) → (let z1 := merged (nrmF p x1); z2 ∧ ((0 : Int) ≤ z3) ∧ z2 ∧ ((0 : Int) ≤ z3) ∧ ((divM l)[q1.i]? = some x1) ∧ ((divM l)[q1.i]? = some x1) ∧ (Fun Tryz.prog 49 [.agg (cPln p), .c (.seq .ev x1)] [] (.v (vO 0)) [.lst .ev z1]) ∧ (List.length q1.out + List.length z1 ≤ bigN) ∧ ((.v (vI (IntKind.i64.wrap (z3 + 1))) : S) = .v (vI (z3 + 1))) ∧ z5.Nxt q1 [(2, .v (vP 0)), (5, .v (vO 1)), (8, .v (vO 2)), (9, .v (vI (z3 + 1)))] [.cells (cPln p), .lst .ev (q1.out ++ z1), .lst .evs (divM l)])) ∧ ((decide z2) = false → (.v (vO 0) : S) = .v (vO 0) ∧ ([.lst .ev q1.out] : List Blk) = [.lst .ev (normalL p l)]))))) (by kernel_rfl) ?_
  refine ⟨(formed_s p _ (hp1)), fun h1 => have q1 := bnot_t h1; have p1 := of_decide_eq_false q1; ?_, fun h1 => have q1 := bnot_f h1; have p1 := of_decide_eq_true q1; ?_⟩
  have hn0 : normalL p l = [] := by unfold normalL; rw [if_neg (by omega)]
  refine ⟨rfl, (consE (congrArg (Blk.lst .ev) ?_) rfl)⟩
  rotate_left
  have hf0 : (formed p l).1 = 0 := by omega
  have hfo := formed_ok hf0
  have hnm : normalL p l = nrmS p (divM l) := by unfold normalL; rw [if_pos hf0]
  have hne := normal_eq hf0
  refine ⟨(div_s _ (by omega)), has_of (j := (⟨([] : List Ev), 0⟩ : normal_s_V0)) (by first | rfl | simp) rfl (by dsimp only [normal_s_F0]; exact ⟨by omega, rfl⟩), fun (q1 : normal_s_V0) hq_q1 => ?_⟩
  have hi_q1 : q1.i ≤ List.length (divM l) ∧ q1.out ++ nrmS p (List.drop q1.i (divM l)) = nrmS p (divM l) := hq_q1
  obtain ⟨v1, v2⟩ := hi_q1
  have hol := congrArg List.length v2
  rw [List.length_append] at hol
  refine dsp (fun h2 p2 => ?_) fun h2 p2 => ?_
  refine ⟨(ax_get (l := divM l) (i := q1.i) (by omega)), fun x1 hx1 => ?_⟩
  rw [drop_el hx1, nrmS] at v2 hol
  rw [List.length_append] at hol
  have heb := hdv.2 hp1 _ (List.mem_of_getElem? hx1)
  have hel := heb.1
  exact ⟨(by omega), (by omega), (by omega), (by omega), hx1, hx1, (nrmF_s p _ ((hdv.2 hp1 _ (List.mem_of_getElem? hx1))) (hfo _ (List.mem_of_getElem? hx1))), (by omega), (as_i64 (by omega) (by omega)), nxt_of (j := (⟨q1.out ++ (merged (nrmF p x1)), q1.i + 1⟩ : normal_s_V0)) (by first | rfl | simp) rfl (by dsimp only [normal_s_F0]; exact ⟨by omega, by rw [← v2, List.append_assoc]⟩) (by dsimp only [normal_s_F0]; omega)⟩
  rw [List.drop_eq_nil_of_le (by omega), nrmS, List.append_nil] at v2
  refine ⟨rfl, (consE (congrArg (Blk.lst .ev) ?_) rfl)⟩
  rotate_left
  all_goals first | ((rw [hn0]; done)) | ((rw [hnm, v2]; done)) | ((rw [hnm, ← v2]; done)) | (grind)
structure normal_i_V0 where
  out : List Ev
  v : Nat
def normal_i_F0 (p : Pln) (l : List Ev) : Fam := ⟨normal_i_V0, fun q1 => [(2, .v (vP 0)), (5, .v (vO 1)), (24, .v (vO 2)), (25, .v (vI ((List.length (divM l) : Nat) : Int))), (26, .v (vI ((q1.v : Nat) : Int)))], fun q1 => [.cells (cPln p), .lst .ev q1.out, .lst .evs (divM l)], fun q1 => q1.v ≤ List.length (divM l) ∧ q1.out ++ nrmI p (List.drop q1.v (divM l)) = nrmI p (divM l), fun q1 => List.length (divM l) - q1.v⟩
structure normal_i_V1 where
  out : List Ev
  v : Nat
def normal_i_F1 (p : Pln) (l : List Ev) (q1 : normal_i_V0) (x1 : List Ev) : Fam := ⟨normal_i_V1, fun q2 => [(2, .v (vP 0)), (5, .v (vO 1)), (10, .v (vO 2)), (24, .v (vO 3)), (25, .v (vI ((List.length (divM l) : Nat) : Int))), (26, .v (vI ((q1.v : Nat) : Int))), (33, .v (.c (.seq .ev x1))), (34, .v (vI ((List.length x1 : Nat) : Int))), (35, .v (vI ((q2.v : Nat) : Int)))], fun q2 => [.cells (cPln p), .lst .ev q2.out, .lst .int (sizesOf p x1), .lst .evs (divM l)], fun q2 => q2.v ≤ List.length x1 ∧ q2.out ++ (nrmA (sizesOf p x1) q2.v (List.drop q2.v x1) ++ nrmI p (List.drop (q1.v + 1) (divM l))) = nrmI p (divM l), fun q2 => List.length x1 - q2.v⟩
theorem normal_i (p : Pln) (l : List Ev) (hp1 : EvsB l) : Fun Tryz.prog 15 [.agg (cPln p), .c (.seq .ev l)] [] (.v (vO 0)) [.lst .ev (normalL p l)] := by
  have hN : bigN = 274877906944 := rfl
  have hvl := hp1.1
  have hdv := divM_b (l := l) _ (Nat.le_refl _)
  have hd1 := hdv.1
  have hnb := normal_b (p := p) (l := l)
  have htn := hp1.2.1
  refine fun_ofw Tryz.func15 (by kernel_rfl) (by kernel_rfl) (w := let z13 := ((List.length (divM l) : Nat) : Int); let z14 := formed p l; let z15 := normal_i_F0 p l; (.seg [.ty .ev, .call [] (.tup [vI z14.1, vI z14.2]) []] (.br (.leaf () [1]) (.seg [.call [] (.v (vO 0)) [.lst .evs (divM l)], .at 0, .keep [2, 5, 24, 25, 26], .sel [0, 1, 2]] (.loop z15 fun q1 => .br (.intro (fun (x1 : List Ev) => (divM l)[q1.v]? = some x1) fun x1 => let z8 := sizesOf p x1; .seg [.el .evs x1, .call [] (.v (vO 0)) [.lst .int z8], .at 0, .keep [2, 5, 10, 24, 25, 26, 33, 34, 35], .sel [0, 1, 3, 2]] (.loop (normal_i_F1 p l q1 x1) fun q2 => let z5 := vI (((q2.v : Nat) : Int) + 1); .br (.intro (fun (x2 : Ev) => x1[q2.v]? = some x2) fun x2 => .seg [.el .ev x2, .call [] (.v (.agg (cEv (bareEv x2)))) []] (.br (.intro (fun (x3 : Int) => z8[q2.v]? = some x3) fun x3 => .seg [.el .int x3, .ty .ev, .ty .ev, .as 64 (.v z5), .at 0, .keep [2, 5, 10, 24, 25, 26, 33, 34, 35], .sel [0, 6, 2, 3]] (.next)) (.br (.intro (fun (x3 : Int) => z8[q2.v]? = some x3) fun x3 => .seg [.el .int x3, .ty .ev, .ty .ev, .as 64 (.v z5), .at 0, .keep [2, 5, 10, 24, 25, 26, 33, 34, 35], .sel [0, 6, 2, 3]] (.next)) (.br (.intro (fun (x3 : Int) => z8[q2.v]? = some x3) fun x3 => .seg [.el .int x3, .ty .ev, .ty .ev, .as 64 (.v z5), .at 0, .keep [2, 5, 10, 24, 25, 26, 33, 34, 35], .sel [0, 6, 2, 3]] (.next)) (.seg [.ty .ev, .ty .ev, .as 64 (.v z5), .at 0, .keep [2, 5, 10, 24, 25, 26, 33, 34, 35], .sel [0, 6, 2, 3]] (.next)))))) (.seg [.as 65 (.v (vI (((q1.v : Nat) : Int) + 1))), .at 0, .keep [2, 5, 24, 25, 26], .sel [0, 1, 3]] (.next)))) (.seg [.call [] (.v (vO 0)) [.lst .ev (merged q1.out)]] (.leaf () [3]))))), (Fun Tryz.prog 52 [.agg (cPln p), .c (.seq .ev l)] [] (.tup [vI z14.1, vI z14.2]) []) ∧ ((!decide (z14.1 = 0)) = true → (.v (vO 0) : S) = .v (vO 0) ∧ ([.lst .ev ([] : List Ev)] : List Blk) = [.lst .ev (normalL p l)]) ∧ ((!decide (z14.1 = 0)) = false → (Fun Tryz.prog 53 [.c (.seq .ev l)] [] (.v (vO 0)) [.lst .evs (divM l)]) ∧ z15.Has [(2, .v (vP 0)), (5, .v (vO 1)), (24, .v (vO 2)), (25, .v (vI z13)), (26, .v (vI 0))] [.cells (cPln p), .lst .ev ([] : List Ev), .lst .evs (divM l)] ∧ ∀ q1, z15.inv q1 → (let z12 := ((q1.v : Nat) : Int); ((decide (z12 < z13)) = true → (∃ (x1 : List Ev), (divM l)[q1.v]? = some x1) ∧ ∀ (x1 : List Ev), ((divM l)[q1.v]? = some x1) → (let z9 := sizesOf p x1; let z10 := ((List.length x1 : Nat) : Int); let z11 := normal_i_F1 p l q1 x1; (z12 < z13) ∧ ((0 : Int) ≤ z12) ∧ ((divM l)[q1.v]? = some x1) ∧ (Fun Tryz.prog 54 [.agg (cPln p), .c (.seq .ev x1)] [] (.v (vO 0)) [.lst .int z9]) ∧ z11.Has [(2, .v (vP 0)), (5, .v (vO 1)), (10, .v (vO 2)), (24, .v (vO 3)), (25, .v (vI z13)), (26, .v (vI z12)), (33, .v (.c (.seq .ev x1))), (34, .v (vI z10)), (35, .v (vI 0))] [.cells (cPln p), .lst .ev q1.out, .lst .int z9, .lst .evs (divM l)] ∧ ∀ q2, z11.inv q2 → (let z6 := ((q2.v : Nat) : Int); let z7 := ∃ (x3 : Int), z9[q2.v]? = some x3; ((decide (z6 < z10)) = true → (∃ (x2 : Ev), x1[q2.v]? = some x2) ∧ ∀ (x2 : Ev), (x1[q2.v]? = some x2) → (let z4 := bareEv x2; (x1[q2.v]? = some x2) ∧ ((0 : Int) ≤ z6) ∧ (Fun Tryz.prog 55 [.agg (cEv x2)] [] (.v (.agg (cEv z4))) []) ∧ ((decide (z4.kind = 1)) = true → z7 ∧ ∀ (x3 : Int), (z9[q2.v]? = some x3) → (let z1 := (⟨z4.kind, z4.field, z4.bits, x3, z4.text, z4.code, z4.at_⟩ : Ev); (z6 < ((List.length z9 : Nat) : Int)) ∧ ((0 : Int) ≤ z6) ∧ (z9[q2.v]? = some x3) ∧ (List.length q2.out + List.length [z1] ≤ bigN) ∧ ((.v (vI (IntKind.i64.wrap (z6 + 1))) : S) = .v (vI (z6 + 1))) ∧ z11.Nxt q2 [(2, .v (vP 0)), (5, .v (vO 1)), (10, .v (vO 2)), (24, .v (vO 3)), (25, .v (vI z13)), (26, .v (vI z12)), (33, .v (.c (.seq .ev x1))), (34, .v (vI z10)), (35, .v (vI (z6 + 1)))] [.cells (cPln p), .lst .ev (q2.out ++ [z1]), .lst .int z9, .lst .evs (divM l)])) ∧ ((decide (z4.kind = 1)) = false → ((decide (z4.kind = 3)) = true → z7 ∧ ∀ (x3 : Int), (z9[q2.v]? = some x3) → (let z2 := (⟨z4.kind, z4.field, z4.bits, x3, z4.text, z4.code, z4.at_⟩ : Ev); (z6 < ((List.length z9 : Nat) : Int)) ∧ ((0 : Int) ≤ z6) ∧ (z9[q2.v]? = some x3) ∧ (List.length q2.out + List.length [z2] ≤ bigN) ∧ ((.v (vI (IntKind.i64.wrap (z6 + 1))) : S) = .v (vI (z6 + 1))) ∧ z11.Nxt q2 [(2, .v (vP 0)), (5, .v (vO 1)), (10, .v (vO 2)), (24, .v (vO 3)), (25, .v (vI z13)), (26, .v (vI z12)), (33, .v (.c (.seq .ev x1))), (34, .v (vI z10)), (35, .v (vI (z6 + 1)))] [.cells (cPln p), .lst .ev (q2.out ++ [z2]), .lst .int z9, .lst .evs (divM l)])) ∧ ((decide (z4.kind = 3)) = false → ((decide (z4.kind = 6)) = true → z7 ∧ ∀ (x3 : Int), (z9[q2.v]? = some x3) → (let z3 := (⟨z4.kind, z4.field, z4.bits, x3, z4.text, z4.code, z4.at_⟩ : Ev); (z6 < ((List.length z9 : Nat) : Int)) ∧ ((0 : Int) ≤ z6) ∧ (z9[q2.v]? = some x3) ∧ (List.length q2.out + List.length [z3] ≤ bigN) ∧ ((.v (vI (IntKind.i64.wrap (z6 + 1))) : S) = .v (vI (z6 + 1))) ∧ z11.Nxt q2 [(2, .v (vP 0)), (5, .v (vO 1)), (10, .v (vO 2)), (24, .v (vO 3)), (25, .v (vI z13)), (26, .v (vI z12)), (33, .v (.c (.seq .ev x1))), (34, .v (vI z10)), (35, .v (vI (z6 + 1)))] [.cells (cPln p), .lst .ev (q2.out ++ [z3]), .lst .int z9, .lst .evs (divM l)])) ∧ ((decide (z4.kind = 6)) = false → (List.length q2.out + List.length [z4] ≤ bigN) ∧ ((.v (vI (IntKind.i64.wrap (z6 + 1))) : S) = .v (vI (z6 + 1))) ∧ z11.Nxt q2 [(2, .v (vP 0)), (5, .v (vO 1)), (10, .v (vO 2)), (24, .v (vO 3)), (25, .v (vI z13)), (26, .v (vI z12)), (33, .v (.c (.seq .ev x1))), (34, .v (vI z10)), (35, .v (vI (z6 + 1)))] [.cells (cPln p), .lst .ev (q2.out ++ [z4]), .lst .int z9, .lst .evs (divM l)]))))) ∧ ((decide (z6 < z10)) = false → ((.v (vI (IntKind.i64.wrap (z12 + 1))) : S) = .v (vI (z12 + 1))) ∧ z15.Nxt q1 [(2, .v (vP 0)), (5, .v (vO 1)), (24, .v (vO 2)), (25, .v (vI z13)), (26, .v (vI (z12 + 1)))] [.cells (cPln p), .lst .ev q2.out, .lst .evs (divM l)])))) ∧ ((decide (z12 < z13)) = false → (Fun Tryz.prog 56 [.c (.seq .ev q1.out)] [] (.v (vO 0)) [.lst .ev (merged q1.out)]) ∧ (.v (vO 0) : S) = .v (vO 0) ∧ ([.lst .ev (merged q1.out)] : List Blk) = [.lst .ev (normalL p l)]))))) (by kernel_rfl) ?_
  refine ⟨(formed_i p _ (hp1)), fun h1 => have q1 := bnot_t h1; have p1 := of_decide_eq_false q1; ?_, fun h1 => have q1 := bnot_f h1; have p1 := of_decide_eq_true q1; ?_⟩
  have hn0 : normalL p l = [] := by unfold normalL; rw [if_neg (by omega)]
  refine ⟨rfl, (consE (congrArg (Blk.lst .ev) ?_) rfl)⟩
  rotate_left
  have hf0 : (formed p l).1 = 0 := by omega
  have hfo := formed_ok hf0
  have hnm : normalL p l = nrmS p (divM l) := by unfold normalL; rw [if_pos hf0]
  have hne := normal_eq hf0
  refine ⟨(div_i _ (by omega)), has_of (j := (⟨([] : List Ev), 0⟩ : normal_i_V0)) (by first | rfl | simp) rfl (by dsimp only [normal_i_F0]; exact ⟨by omega, rfl⟩), fun (q1 : normal_i_V0) hq_q1 => ?_⟩
  have hi_q1 : q1.v ≤ List.length (divM l) ∧ q1.out ++ nrmI p (List.drop q1.v (divM l)) = nrmI p (divM l) := hq_q1
  obtain ⟨v1, v2⟩ := hi_q1
  have hol := congrArg List.length v2
  rw [List.length_append] at hol
  refine dsp (fun h2 p2 => ?_) fun h2 p2 => ?_
  refine ⟨(ax_get (l := divM l) (i := q1.v) (by omega)), fun x1 hx1 => ?_⟩
  refine ⟨(by omega), (by omega), ?_⟩
  rw [drop_el hx1, nrmI] at v2
  have heb := hdv.2 hp1 _ (List.mem_of_getElem? hx1)
  have hel := heb.1
  have hfc := hfo _ (List.mem_of_getElem? hx1)
  have hsz := sizesOf_full hfc
  have hfk := frame_kinds hfc
  refine ⟨hx1, (sizesOf_i p _ ((hdv.2 hp1 _ (List.mem_of_getElem? hx1)))), has_of (j := (⟨q1.out, 0⟩ : normal_i_V1)) (by first | rfl | simp) rfl (by dsimp only [normal_i_F1]; exact ⟨by omega, v2⟩), fun (q2 : normal_i_V1) hq_q2 => ?_⟩
  have hi_q2 : q2.v ≤ List.length x1 ∧ q2.out ++ (nrmA (sizesOf p x1) q2.v (List.drop q2.v x1) ++ nrmI p (List.drop (q1.v + 1) (divM l))) = nrmI p (divM l) := hq_q2
  obtain ⟨w1, w2⟩ := hi_q2
  have how := congrArg List.length w2
  rw [List.length_append] at how
  refine dsp (fun h3 p3 => ?_) fun h3 p3 => ?_
  refine ⟨(ax_get (l := x1) (i := q2.v) (by omega)), fun x2 hx2 => ?_⟩
  rw [drop_el hx2, nrmA, List.cons_append] at w2 how
  rw [List.length_cons] at how
  have hke := hfk _ (List.mem_of_getElem? hx2)
  refine ⟨hx2, (by omega), (bareEv_i x2), dsp (fun h4 p4 => ?_) fun h4 p4 => ?_⟩
  refine ⟨(ax_get (l := sizesOf p x1) (i := q2.v) (by omega)), fun x3 hx3 => ?_⟩
  refine ⟨(by omega), (by omega), ?_⟩
  have hgz := getD_of (d := 0) hx3
  exact ⟨hx3, (by simp only [List.length_cons, List.length_nil]; omega), (as_i64 (by omega) (by omega)), nxt_of (j := (⟨q2.out ++ [(⟨(bareEv x2).kind, (bareEv x2).field, (bareEv x2).bits, x3, (bareEv x2).text, (bareEv x2).code, (bareEv x2).at_⟩ : Ev)], q2.v + 1⟩ : normal_i_V1)) (by first | rfl | simp) rfl (by dsimp only [normal_i_F1]; refine ⟨by omega, ?_⟩; rw [← w2, List.append_assoc]; congr 1; simp only [List.singleton_append, List.cons_append, List.nil_append]; congr 1; first | ((simp [nrmE, bareEv, *]; done)) | (simp_all [nrmE, bareEv]; done) | (grind [nrmE, bareEv])) (by dsimp only [normal_i_F1]; omega)⟩
  refine dsp (fun h5 p5 => ?_) fun h5 p5 => ?_
  refine ⟨(ax_get (l := sizesOf p x1) (i := q2.v) (by omega)), fun x3 hx3 => ?_⟩
  refine ⟨(by omega), (by omega), ?_⟩
  have hgz := getD_of (d := 0) hx3
  exact ⟨hx3, (by simp only [List.length_cons, List.length_nil]; omega), (as_i64 (by omega) (by omega)), nxt_of (j := (⟨q2.out ++ [(⟨(bareEv x2).kind, (bareEv x2).field, (bareEv x2).bits, x3, (bareEv x2).text, (bareEv x2).code, (bareEv x2).at_⟩ : Ev)], q2.v + 1⟩ : normal_i_V1)) (by first | rfl | simp) rfl (by dsimp only [normal_i_F1]; refine ⟨by omega, ?_⟩; rw [← w2, List.append_assoc]; congr 1; simp only [List.singleton_append, List.cons_append, List.nil_append]; congr 1; first | ((simp [nrmE, bareEv, *]; done)) | (simp_all [nrmE, bareEv]; done) | (grind [nrmE, bareEv])) (by dsimp only [normal_i_F1]; omega)⟩
  refine dsp (fun h6 p6 => ?_) fun h6 p6 => ?_
  refine ⟨(ax_get (l := sizesOf p x1) (i := q2.v) (by omega)), fun x3 hx3 => ?_⟩
  refine ⟨(by omega), (by omega), ?_⟩
  have hgz := getD_of (d := 0) hx3
  exact ⟨hx3, (by simp only [List.length_cons, List.length_nil]; omega), (as_i64 (by omega) (by omega)), nxt_of (j := (⟨q2.out ++ [(⟨(bareEv x2).kind, (bareEv x2).field, (bareEv x2).bits, x3, (bareEv x2).text, (bareEv x2).code, (bareEv x2).at_⟩ : Ev)], q2.v + 1⟩ : normal_i_V1)) (by first | rfl | simp) rfl (by dsimp only [normal_i_F1]; refine ⟨by omega, ?_⟩; rw [← w2, List.append_assoc]; congr 1; simp only [List.singleton_append, List.cons_append, List.nil_append]; congr 1; first | ((simp [nrmE, bareEv, *]; done)) | (simp_all [nrmE, bareEv]; done) | (grind [nrmE, bareEv])) (by dsimp only [normal_i_F1]; omega)⟩
  exact ⟨(by simp only [List.length_cons, List.length_nil]; omega), (as_i64 (by omega) (by omega)), nxt_of (j := (⟨q2.out ++ [(bareEv x2)], q2.v + 1⟩ : normal_i_V1)) (by first | rfl | simp) rfl (by dsimp only [normal_i_F1]; refine ⟨by omega, ?_⟩; rw [← w2, List.append_assoc]; congr 1; simp only [List.singleton_append, List.cons_append, List.nil_append]; congr 1; first | ((simp [nrmE, bareEv, *]; done)) | (simp_all [nrmE, bareEv]; done) | (grind [nrmE, bareEv])) (by dsimp only [normal_i_F1]; omega)⟩
  rw [List.drop_eq_nil_of_le (by omega), nrmA, List.nil_append] at w2
  exact ⟨(as_i64 (by omega) (by omega)), nxt_of (j := (⟨q2.out, q1.v + 1⟩ : normal_i_V0)) (by first | rfl | simp) rfl (by dsimp only [normal_i_F0]; exact ⟨by omega, w2⟩) (by dsimp only [normal_i_F0]; omega)⟩
  rw [List.drop_eq_nil_of_le (by omega), nrmI, List.append_nil] at v2
  refine ⟨(merged_i _ (by rw [v2]; omega) (by rw [v2]; omega)), rfl, (consE (congrArg (Blk.lst .ev) ?_) rfl)⟩
  rotate_left
  all_goals first | ((rw [hn0]; done)) | ((rw [← hne, v2]; done)) | (grind)
theorem szEvL_txt : ∀ {l : List Ev} {left : Int}, 0 ≤ left → left ≤ 1048576 → 0 ≤ szEvL left l → (txtN l : Int) ≤ left
  | [], left, h, _, _ => by simp [txtN]; exact h
  | e :: r, left, h, h2, h3 => by
    rw [szEvL_cons] at h3
    split at h3
    · omega
    · have := szEvL_txt (l := r) (left := left - (e.text.length : Int)) (by omega) (by omega) h3
      rw [txtN]; omega
theorem szEvS_txt {l : List Ev} {left : Int} (h : 0 ≤ left) (h2 : left ≤ 1048576) (h3 : 0 ≤ szEvS left l) : (txtN l : Int) ≤ 1048576 := by
  unfold szEvS at h3
  split at h3
  · omega
  · have := szEvL_txt (l := l) (left := left - (l.length : Int)) (by omega) (by omega) h3; omega
theorem law_Normal (p : Pln) (l : List Ev) (hp1 : ((List.length (p).shapes : Nat) : Int) ≤ 9223372036854775807) (hp2 : ∀ e ∈ (p).shapes, (e.fields.length : Int) ≤ 9223372036854775807) (hp3 : (l.length : Int) ≤ 9223372036854775807) (hp4 : ∀ e ∈ l, (e.text.length : Int) ≤ 9223372036854775807) (hp5 : ∀ e ∈ l, (0 : Int) ≤ e.bits ∧ e.bits ≤ 18446744073709551615) : Fun Tryz.prog 3 [.agg (cPln p), .c (.seq .ev l)] [] (.v (vB true)) [] := by
  have hN : bigN = 274877906944 := rfl
  refine fun_ofw Tryz.func3 (by kernel_rfl) (by kernel_rfl) (w := let z1 := 1 + ((List.length (p).shapes : Nat) : Int) + 5 * ((shF (p).shapes : Nat) : Int); let z2 := normalL p l; let z3 := (((z2.length) : Nat) : Int); let z4 := szShS 1048576 (p).shapes; let z5 := markL mkEv 7 1 (z2.length); let z6 := (z2.length : Int); let z7 := oPln0 0 p; let z8 : List Blk := [.lst .ev l]; let z9 := (!true) = false; let z10 : List Blk := [.lst .ev z2]; let z11 := (l.length : Int); let z12 := vI (1 + 7 * z3); let z13 := (!decide (1 + 7 * z3 = 1 + 7 * z6)) = false; let z14 := decide (szShS 1048576 (p).shapes < 0); let z15 : List Blk := [.lst .ev (markL mkEv 7 z1 (l.length))]; let z16 := (decide (1 + 7 * z3 < 0)) = false; let z17 := (.v (vB true) : S); (.seg [.call [] (.v (vI z4)) []] (.br (.leaf () []) (.seg [.call [] (.v (vI (szEvS z4 l))) []] (.br (.leaf () []) (.seg [.call [] (.v (.agg z7)) [.tree p.shapes], .call [] (.v (vO 0)) z8, .call [] (.v (vO 0)) z10, .call [] (.v (.agg z7)) [.tree p.shapes], .call [] (.v (vO 0)) z8, .call [] (.v (vO 0)) z10, .call [] (.v (vB true)) [], .br false, .ord (os 5 [2, 3]) [], .call [] (.v (.agg z7)) [.tree p.shapes], .call [] (.v (vB true)) [], .br false, .call [] (.v (vO 0)) z8, .call [] (.v (vB true)) [], .br false, .call [4] (.v (vI z1)) [.tree (markSh 1 (p).shapes)], .call [6] (.v (vI (z1 + 7 * z11))) z15, .br false, .call [] (.v (vB true)) [], .br false, .call [7] (.v (vI (1 + 7 * z6))) [.lst .ev z5], .call [] (.v z12) [], .br false, .br false, .call [] (.v (.agg z7)) [.tree p.shapes], .call [] (.v (vO 0)) z8, .call [] (.v (vO 0)) z10, .call [] (.v (vB true)) [], .br false, .call [] (.v z12) [], .br false, .br false] (.leaf () []))))), (Fun Tryz.prog 10 [.agg (cPln p), vI 1048576] [] (.v (vI z4)) []) ∧ (z14 = true → z17 = .v (vB true) ∧ ([] : List Blk) = []) ∧ (z14 = false → (Fun Tryz.prog 11 [.c (.seq .ev l), vI z4] [] (.v (vI (szEvS z4 l))) []) ∧ ((decide (szEvS z4 l < 0)) = true → z17 = .v (vB true) ∧ ([] : List Blk) = []) ∧ ((decide (szEvS z4 l < 0)) = false → (Fun Tryz.prog 13 [.agg (cPln p)] [] (.v (.agg z7)) [.tree p.shapes]) ∧ (Fun Tryz.prog 14 [.c (.seq .ev l)] [] (.v (vO 0)) z8) ∧ (Fun Tryz.prog 12 [.agg (cPln p), .c (.seq .ev l)] [] (.v (vO 0)) z10) ∧ (Fun Tryz.prog 13 [.agg (cPln p)] [] (.v (.agg z7)) [.tree p.shapes]) ∧ (Fun Tryz.prog 14 [.c (.seq .ev l)] [] (.v (vO 0)) z8) ∧ (Fun Tryz.prog 15 [.agg (cPln p), .c (.seq .ev l)] [] (.v (vO 0)) z10) ∧ (Fun Tryz.prog 16 [.c (.seq .ev z2), .c (.seq .ev z2)] [] (.v (vB true)) []) ∧ z9 ∧ (Fun Tryz.prog 13 [.agg (cPln p)] [] (.v (.agg z7)) [.tree p.shapes]) ∧ (Fun Tryz.prog 17 [.agg (cPln p), .agg (cPln p)] [] (.v (vB true)) []) ∧ z9 ∧ (Fun Tryz.prog 14 [.c (.seq .ev l)] [] (.v (vO 0)) z8) ∧ (Fun Tryz.prog 16 [.c (.seq .ev l), .c (.seq .ev l)] [] (.v (vB true)) []) ∧ z9 ∧ (Fun Tryz.prog 18 [.agg z7, vI 1] [.tree p.shapes] (.v (vI z1)) [.tree (markSh 1 (p).shapes)]) ∧ (Fun Tryz.prog 19 [vO 0, vI z1] z8 (.v (vI (z1 + 7 * z11))) z15) ∧ ((decide (z1 + 7 * z11 < 0)) = false) ∧ (Fun Tryz.prog 16 [.c (.seq .ev z2), .c (.seq .ev z2)] [] (.v (vB true)) []) ∧ z9 ∧ (Fun Tryz.prog 19 [vO 0, vI 1] z10 (.v (vI (1 + 7 * z6))) [.lst .ev z5]) ∧ (Fun Tryz.prog 20 [.c (.seq .ev z5), vI 1] [] (.v z12) []) ∧ z16 ∧ z13 ∧ (Fun Tryz.prog 13 [.agg (cPln p)] [] (.v (.agg z7)) [.tree p.shapes]) ∧ (Fun Tryz.prog 14 [.c (.seq .ev l)] [] (.v (vO 0)) z8) ∧ (Fun Tryz.prog 15 [.agg (cPln p), .c (.seq .ev l)] [] (.v (vO 0)) z10) ∧ (Fun Tryz.prog 16 [.c (.seq .ev z2), .c (.seq .ev z2)] [] (.v (vB true)) []) ∧ z9 ∧ (Fun Tryz.prog 20 [.c (.seq .ev z5), vI 1] [] (.v z12) []) ∧ z16 ∧ z13 ∧ z17 = .v (vB true) ∧ ([] : List Blk) = [])))) (by kernel_rfl) ?_
  refine ⟨(szPlan_ok p _ (by omega) (by omega) (hp2)), dsp (fun h1 p1 => ?_) fun h1 p1 => ?_⟩
  have zb := szShS_b (l := p.shapes) (left := 1048576) (by decide) (by decide)
  exact ⟨rfl, rfl⟩
  have zb := szShS_b (l := p.shapes) (left := 1048576) (by decide) (by decide)
  have zp := zb.2.2 (by omega)
  have zf : ∀ e ∈ p.shapes, e.fields.length ≤ bigN := fun e he => by have := zp.2 e he; omega
  have zs := shF_S (l := p.shapes) (left := 1048576) (by decide) (by omega)
  refine ⟨(szEventS_ok _ _ (by omega) (by omega) (hp4)), dsp (fun h2 p2 => ?_) fun h2 p2 => ?_⟩
  have ze := szEvS_b (l := l) (left := szShS 1048576 p.shapes) (by omega) (by omega)
  exact ⟨rfl, rfl⟩
  have ze := szEvS_b (l := l) (left := szShS 1048576 p.shapes) (by omega) (by omega)
  have zl := ze.2.2 (by omega)
  have zt := szEvS_txt (l := l) (left := szShS 1048576 p.shapes) (by omega) (by omega) (by omega)
  have zE : EvsB l := ⟨zl.1, by omega, fun e he => ⟨by have := zl.2 e he; omega, hp5 e he⟩⟩
  have zz := normalL_len p l
  exact ⟨(toPlan_ok p (by omega) (zp.2)), (toEventS_ok _ (by omega)), (normal_s p _ (zE)), (toPlan_ok p (by omega) (zp.2)), (toEventS_ok _ (by omega)), (normal_i p _ (zE)), (eqEventS_ok _ (by omega)), (by decide), (toPlan_ok p (by omega) (zp.2)), (eqPlan_ok p (by omega) (zf)), (by decide), (toEventS_ok _ (by omega)), (eqEventS_ok _ (by omega)), (by decide), (markPlan_ok p _ (by omega) (by omega) (by omega)), (markEventS_ok l (1 + ((List.length (p).shapes : Nat) : Int) + 5 * ((shF (p).shapes : Nat) : Int)) (by omega) (by omega)), (decide_eq_false (by omega)), (eqEventS_ok _ (by omega)), (by decide), (markEventS_ok (normalL p l) 1 (by omega) (by omega)), (heldEventS_ok (List.length (normalL p l)) 1 (by omega) (by omega)), (decide_eq_false (by omega)), (by simp), (toPlan_ok p (by omega) (zp.2)), (toEventS_ok _ (by omega)), (normal_i p _ (zE)), (eqEventS_ok _ (by omega)), (by decide), (heldEventS_ok (List.length (normalL p l)) 1 (by omega) (by omega)), (decide_eq_false (by omega)), (by simp), rfl, rfl⟩
end Go.Proofs.YtecljjcmjongfaaGreat.Ax
