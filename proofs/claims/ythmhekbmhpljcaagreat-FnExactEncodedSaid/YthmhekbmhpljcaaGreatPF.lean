/- Lists of frames. -/
import Derived.Test.YthmhekbmhpljcaaGreatPE
namespace Go.Proofs.YthmhekbmhpljcaaGreat.Ax
open Go.RowKit
set_option linter.unusedSimpArgs false
set_option linter.unusedVariables false
structure div_i_V0 where
  list : List Ev
  out : List (List Ev)
def div_i_F0 (l : List Ev) : Fam := ⟨div_i_V0, fun q1 => [(0, .v (.c (.seq .ev q1.list))), (3, .v (vO 0))], fun q1 => [.lst .evs q1.out], fun q1 => q1.out ++ divM q1.list = divM l ∧ q1.out.length + q1.list.length ≤ l.length, fun q1 => q1.list.length⟩

theorem div_i (l : List Ev) (hp1 : l.length ≤ 1048576) : Fun Tryz.prog 98 [.c (.seq .ev l)] [] (.v (vO 0)) [.lst .evs (divM l)] := by
  have hN : bigN = 274877906944 := rfl
  refine fun_ofw Tryz.func98 (by kernel_rfl) (by kernel_rfl) (w := let z7 := fr (fr (.one 4 (.one 5 (.first 9 (.first 10 (.done))))) 6 3) 0 4; let z8 := div_i_F0 l; (.seg [.ty .evs, .at 0, .keep [0, 3], .sel [0]] (.loop z8 fun q1 => .br (.seg [.call [] (.v (vI (frameStop q1.list 0))) [], .as 11 (.v (vI (frameStop q1.list 0 + 1)))] (.br (.seg [.tree z7 5 [], .ty .evs, .ty .evs, .at 0, .keep [0, 3], .sel [2]] (.next)) (.seg [.tree z7 5 [], .ty .evs, .ty .evs, .at 0, .keep [0, 3], .sel [2]] (.next)))) (.leaf () [0])), z8.Has [(0, .v (.c (.seq .ev l))), (3, .v (vO 0))] [.lst .evs ([] : List (List Ev))] ∧ ∀ q1, z8.inv q1 → (let z1 := (q1.list.length : Int); let z2 := (0 : Int) ≤ frameStop q1.list 0 + 1; let z3 := frameStop q1.list 0 + 1 ≤ z1; let z4 := Int.toNat (frameStop q1.list 0 + 1); let z5 := q1.list.length; let z6 := decide (frameStop q1.list 0 + 1 = 0); ((decide (0 < z1)) = true → (Fun Tryz.prog 144 [.c (.seq .ev q1.list), vI 0] [] (.v (vI (frameStop q1.list 0))) []) ∧ ((.v (vI (IntKind.i64.wrap ((frameStop q1.list 0) + 1))) : S) = .v (vI (frameStop q1.list 0 + 1))) ∧ (z6 = true → (z1 ≤ z1) ∧ ((0 : Int) ≤ z1) ∧ (z1 ≤ z1) ∧ ((0 : Int) ≤ z1) ∧ (z1 ≤ z1) ∧ ((0 : Int) ≤ z1) ∧ (z1 ≤ z1) ∧ ((0 : Int) ≤ z1) ∧ (q1.out.length + List.length [List.take z5 q1.list] ≤ bigN) ∧ z8.Nxt q1 [(0, .v (.c (.seq .ev (List.drop z5 q1.list)))), (3, .v (vO 0))] [.lst .evs (q1.out ++ [List.take z5 q1.list])]) ∧ (z6 = false → z3 ∧ z2 ∧ z3 ∧ z2 ∧ z3 ∧ z2 ∧ z3 ∧ z2 ∧ (q1.out.length + List.length [List.take z4 q1.list] ≤ bigN) ∧ z8.Nxt q1 [(0, .v (.c (.seq .ev (List.drop z4 q1.list)))), (3, .v (vO 0))] [.lst .evs (q1.out ++ [List.take z4 q1.list])])) ∧ ((decide (0 < z1)) = false → (.v (vO 0) : S) = .v (vO 0) ∧ ([.lst .evs q1.out] : List Blk) = [.lst .evs (divM l)])))) (by kernel_rfl) ?_
  refine ⟨has_of (j := (⟨l, ([] : List (List Ev))⟩ : div_i_V0)) rfl rfl (by dsimp only [div_i_F0]; exact ⟨rfl, by simp⟩), fun (q1 : div_i_V0) hq_q1 => ?_⟩
  have hi_q1 : q1.out ++ divM q1.list = divM l ∧ q1.out.length + q1.list.length ≤ l.length := hq_q1
  obtain ⟨v1, v2⟩ := hi_q1
  have hsb := frameStop_b q1.list 0
  refine ⟨fun h1 => have p1 := of_decide_eq_true h1; ?_, fun h1 => have p1 := of_decide_eq_false h1; ?_⟩
  refine ⟨(frameStop_i _ _ (by omega)), (as_i64 (by omega) (by omega)), fun h2 => have p2 := of_decide_eq_true h2; ?_, fun h2 => have p2 := of_decide_eq_false h2; ?_⟩
  have hcb := cutN_b (l := q1.list) (by omega)
  have hcut := cutN_0 p2
  rw [hcut] at hcb
  exact ⟨(by omega), (by omega), (by omega), (by omega), (by omega), (by omega), (by omega), (by omega), (by simp only [List.length_take, List.length_cons, List.length_nil]; omega), nxt_of (j := (⟨List.drop (q1.list.length) q1.list, q1.out ++ [List.take (q1.list.length) q1.list]⟩ : div_i_V0)) rfl rfl (by dsimp only [div_i_F0]; exact ⟨by rw [← v1, divM_next (l := q1.list) (by omega)]; simp [hcut], by simp only [List.length_append, List.length_cons, List.length_nil, List.length_drop]; omega⟩) (by dsimp only [div_i_F0]; simp only [List.length_drop]; omega)⟩
  have hcb := cutN_b (l := q1.list) (by omega)
  have hcut := cutN_1 p2
  rw [hcut] at hcb
  exact ⟨(by omega), (by omega), (by omega), (by omega), (by omega), (by omega), (by omega), (by omega), (by simp only [List.length_take, List.length_cons, List.length_nil]; omega), nxt_of (j := (⟨List.drop (Int.toNat (frameStop q1.list 0 + 1)) q1.list, q1.out ++ [List.take (Int.toNat (frameStop q1.list 0 + 1)) q1.list]⟩ : div_i_V0)) rfl rfl (by dsimp only [div_i_F0]; exact ⟨by rw [← v1, divM_next (l := q1.list) (by omega)]; simp [hcut], by simp only [List.length_append, List.length_cons, List.length_nil, List.length_drop]; omega⟩) (by dsimp only [div_i_F0]; simp only [List.length_drop]; omega)⟩
  have hnil : q1.list = [] := List.eq_nil_of_length_eq_zero (by omega)
  refine ⟨rfl, (consE (congrArg (Blk.lst .evs) ?_) rfl)⟩
  rotate_left
  all_goals (rw [← v1, hnil, divM_nil]; simp)
structure div_s_V0 where
  list : List Ev
  out : List (List Ev)
def div_s_F0 (l : List Ev) : Fam := ⟨div_s_V0, fun q1 => [(0, .v (.c (.seq .ev q1.list))), (3, .v (vO 0))], fun q1 => [.lst .evs q1.out], fun q1 => q1.out ++ divM q1.list = divM l ∧ q1.out.length + q1.list.length ≤ l.length, fun q1 => q1.list.length⟩

theorem div_s (l : List Ev) (hp1 : l.length ≤ 1048576) : Fun Tryz.prog 92 [.c (.seq .ev l)] [] (.v (vO 0)) [.lst .evs (divM l)] := by
  have hN : bigN = 274877906944 := rfl
  refine fun_ofw Tryz.func92 (by kernel_rfl) (by kernel_rfl) (w := let z6 := div_s_F0 l; (.seg [.ty .evs, .at 0, .keep [0, 3], .sel [0]] (.loop z6 fun q1 => .br (.seg [.call [] (.v (vI (frameStop q1.list 0))) [], .as 11 (.v (vI (frameStop q1.list 0 + 1)))] (.br (.seg [.ty .evs, .ty .evs, .at 0, .keep [0, 3], .sel [2]] (.next)) (.seg [.ty .evs, .ty .evs, .at 0, .keep [0, 3], .sel [2]] (.next)))) (.leaf () [0])), z6.Has [(0, .v (.c (.seq .ev l))), (3, .v (vO 0))] [.lst .evs ([] : List (List Ev))] ∧ ∀ q1, z6.inv q1 → (let z1 := (q1.list.length : Int); let z2 := Int.toNat (frameStop q1.list 0 + 1); let z3 := q1.list.length; let z4 := decide (frameStop q1.list 0 + 1 = 0); let z5 := (0 : Int) ≤ frameStop q1.list 0 + 1; ((decide (0 < z1)) = true → (Fun Tryz.prog 138 [.c (.seq .ev q1.list), vI 0] [] (.v (vI (frameStop q1.list 0))) []) ∧ ((.v (vI (IntKind.i64.wrap ((frameStop q1.list 0) + 1))) : S) = .v (vI (frameStop q1.list 0 + 1))) ∧ (z4 = true → (z1 ≤ z1) ∧ ((0 : Int) ≤ z1) ∧ (q1.out.length + List.length [List.take z3 q1.list] ≤ bigN) ∧ (z1 ≤ z1) ∧ ((0 : Int) ≤ z1) ∧ z6.Nxt q1 [(0, .v (.c (.seq .ev (List.drop z3 q1.list)))), (3, .v (vO 0))] [.lst .evs (q1.out ++ [List.take z3 q1.list])]) ∧ (z4 = false → (frameStop q1.list 0 + 1 ≤ z1) ∧ z5 ∧ (q1.out.length + List.length [List.take z2 q1.list] ≤ bigN) ∧ (frameStop q1.list 0 + 1 ≤ z1) ∧ z5 ∧ z6.Nxt q1 [(0, .v (.c (.seq .ev (List.drop z2 q1.list)))), (3, .v (vO 0))] [.lst .evs (q1.out ++ [List.take z2 q1.list])])) ∧ ((decide (0 < z1)) = false → (.v (vO 0) : S) = .v (vO 0) ∧ ([.lst .evs q1.out] : List Blk) = [.lst .evs (divM l)])))) (by kernel_rfl) ?_
  refine ⟨has_of (j := (⟨l, ([] : List (List Ev))⟩ : div_s_V0)) rfl rfl (by dsimp only [div_s_F0]; exact ⟨rfl, by simp⟩), fun (q1 : div_s_V0) hq_q1 => ?_⟩
  have hi_q1 : q1.out ++ divM q1.list = divM l ∧ q1.out.length + q1.list.length ≤ l.length := hq_q1
  obtain ⟨v1, v2⟩ := hi_q1
  have hsb := frameStop_b q1.list 0
  refine ⟨fun h1 => have p1 := of_decide_eq_true h1; ?_, fun h1 => have p1 := of_decide_eq_false h1; ?_⟩
  refine ⟨(frameStop_s _ _ (by omega)), (as_i64 (by omega) (by omega)), fun h2 => have p2 := of_decide_eq_true h2; ?_, fun h2 => have p2 := of_decide_eq_false h2; ?_⟩
  have hcb := cutN_b (l := q1.list) (by omega)
  have hcut := cutN_0 p2
  rw [hcut] at hcb
  exact ⟨(by omega), (by omega), (by simp only [List.length_take, List.length_cons, List.length_nil]; omega), (by omega), (by omega), nxt_of (j := (⟨List.drop (q1.list.length) q1.list, q1.out ++ [List.take (q1.list.length) q1.list]⟩ : div_s_V0)) rfl rfl (by dsimp only [div_s_F0]; exact ⟨by rw [← v1, divM_next (l := q1.list) (by omega)]; simp [hcut], by simp only [List.length_append, List.length_cons, List.length_nil, List.length_drop]; omega⟩) (by dsimp only [div_s_F0]; simp only [List.length_drop]; omega)⟩
  have hcb := cutN_b (l := q1.list) (by omega)
  have hcut := cutN_1 p2
  rw [hcut] at hcb
  exact ⟨(by omega), (by omega), (by simp only [List.length_take, List.length_cons, List.length_nil]; omega), (by omega), (by omega), nxt_of (j := (⟨List.drop (Int.toNat (frameStop q1.list 0 + 1)) q1.list, q1.out ++ [List.take (Int.toNat (frameStop q1.list 0 + 1)) q1.list]⟩ : div_s_V0)) rfl rfl (by dsimp only [div_s_F0]; exact ⟨by rw [← v1, divM_next (l := q1.list) (by omega)]; simp [hcut], by simp only [List.length_append, List.length_cons, List.length_nil, List.length_drop]; omega⟩) (by dsimp only [div_s_F0]; simp only [List.length_drop]; omega)⟩
  have hnil : q1.list = [] := List.eq_nil_of_length_eq_zero (by omega)
  refine ⟨rfl, (consE (congrArg (Blk.lst .evs) ?_) rfl)⟩
  rotate_left
  all_goals (rw [← v1, hnil, divM_nil]; simp)
structure formed_i_V0 where
  first : Int
  v : Nat
def formed_i_F0 (p : Pln) (l : List Ev) : Fam := ⟨formed_i_V0, fun q1 => [(2, .v (vP 0)), (6, .v (vI q1.first)), (15, .v (vO 1)), (16, .v (vI ((List.length (divM l) : Nat) : Int))), (17, .v (vI (q1.v : Int)))], fun _ => [.cells (cPln p), .lst .evs (divM l)], fun q1 => q1.v ≤ List.length (divM l) ∧ (0 : Int) ≤ q1.first ∧ q1.first ≤ 1048576 * (q1.v : Int) ∧ formL p (List.drop q1.v (divM l)) q1.first = formL p (divM l) 0, fun q1 => List.length (divM l) - q1.v⟩

theorem formed_i (p : Pln) (l : List Ev) (hp1 : EvsB l) : Fun Tryz.prog 43 [.agg (cPln p), .c (.seq .ev l)] [] (.tup [vI (formed p l).1, vI (formed p l).2]) [] := by
  have hN : bigN = 274877906944 := rfl
  have hvl := hp1.1
  have hdv := divM_b (l := l) _ (Nat.le_refl _)
  have hd1 := hdv.1
  refine fun_ofw Tryz.func43 (by kernel_rfl) (by kernel_rfl) (w := let z5 := ((List.length (divM l) : Nat) : Int); let z6 : List V := [vI (formed p l).1, vI (formed p l).2]; let z7 := formed_i_F0 p l; (.seg [.call [] (.v (vB (planOk p))) []] (.br (.leaf () []) (.seg [.call [] (.v (vO 0)) [.lst .evs (divM l)], .at 0, .keep [2, 6, 15, 16, 17], .sel [0, 1]] (.loop z7 fun q1 => .br (.intro (fun (x1 : List Ev) => (divM l)[q1.v]? = some x1) fun x1 => .seg [.el .evs x1, .call [] (.tup [vI (frErr p x1).1, vI (frErr p x1).2]) []] (.br (.seg [.as 32 (.v (vI (q1.first + (frErr p x1).2)))] (.leaf () [])) (.seg [.as 36 (.v (vI (q1.first + (x1.length : Int)))), .as 37 (.v (vI ((q1.v : Int) + 1))), .at 0, .keep [2, 6, 15, 16, 17], .sel [0, 1]] (.next)))) (.leaf () [])))), (Fun Tryz.prog 97 [.agg (cPln p)] [] (.v (vB (planOk p))) []) ∧ ((!(planOk p)) = true → (.tup [vI 1, vI 0] : S) = .tup z6 ∧ ([] : List Blk) = []) ∧ ((!(planOk p)) = false → (Fun Tryz.prog 98 [.c (.seq .ev l)] [] (.v (vO 0)) [.lst .evs (divM l)]) ∧ z7.Has [(2, .v (vP 0)), (6, .v (vI 0)), (15, .v (vO 1)), (16, .v (vI z5)), (17, .v (vI 0))] [.cells (cPln p), .lst .evs (divM l)] ∧ ∀ q1, z7.inv q1 → (let z4 := (q1.v : Int); let z3 := z4 < z5; ((decide z3) = true → (∃ (x1 : List Ev), (divM l)[q1.v]? = some x1) ∧ ∀ (x1 : List Ev), ((divM l)[q1.v]? = some x1) → (let z1 := q1.first + (x1.length : Int); let z2 := frErr p x1; z3 ∧ ((0 : Int) ≤ z4) ∧ ((divM l)[q1.v]? = some x1) ∧ (Fun Tryz.prog 99 [.agg (cPln p), .c (.seq .ev x1)] [] (.tup [vI z2.1, vI z2.2]) []) ∧ ((!decide (z2.1 = 0)) = true → ((.v (vI (IntKind.i64.wrap (q1.first + z2.2))) : S) = .v (vI (q1.first + z2.2))) ∧ (.tup [vI z2.1, vI (q1.first + z2.2)] : S) = .tup z6 ∧ ([] : List Blk) = []) ∧ ((!decide (z2.1 = 0)) = false → ((.v (vI (IntKind.i64.wrap z1)) : S) = .v (vI z1)) ∧ ((.v (vI (IntKind.i64.wrap (z4 + 1))) : S) = .v (vI (z4 + 1))) ∧ z7.Nxt q1 [(2, .v (vP 0)), (6, .v (vI z1)), (15, .v (vO 1)), (16, .v (vI z5)), (17, .v (vI (z4 + 1)))] [.cells (cPln p), .lst .evs (divM l)]))) ∧ ((decide z3) = false → (.tup [vI 0, vI 0] : S) = .tup z6 ∧ ([] : List Blk) = []))))) (by kernel_rfl) ?_
  refine ⟨(planOk_i p), fun h1 => have q1 := bnot_t h1; ?_, fun h1 => have q1 := bnot_f h1; have p1 := planOk_t q1; ?_⟩
  refine ⟨(congrArg S.tup (consE (congrArg V.c (congrArg (C.int .i64) ?_)) (consE (congrArg V.c (congrArg (C.int .i64) ?_)) rfl))), rfl⟩
  rotate_left 2
  refine ⟨(div_i _ (by omega)), has_of (j := (⟨0, 0⟩ : formed_i_V0)) (by first | rfl | simp) rfl (by dsimp only [formed_i_F0]; exact ⟨by omega, by omega, by omega, rfl⟩), fun (q1 : formed_i_V0) hq_q1 => ?_⟩
  have hi_q1 : q1.v ≤ List.length (divM l) ∧ (0 : Int) ≤ q1.first ∧ q1.first ≤ 1048576 * (q1.v : Int) ∧ formL p (List.drop q1.v (divM l)) q1.first = formL p (divM l) 0 := hq_q1
  obtain ⟨v1, v2, v3, v4⟩ := hi_q1
  refine ⟨fun h2 => have p2 := of_decide_eq_true h2; ?_, fun h2 => have p2 := of_decide_eq_false h2; ?_⟩
  refine ⟨(ax_get (l := divM l) (i := q1.v) (by omega)), fun x1 hx1 => ?_⟩
  refine ⟨(by omega), (by omega), ?_⟩
  have hfB : frB p x1 = if (frErr p x1).1 = 0 then frameOf (bodyOf p x1) else [] := rfl
  have hfP : frP p x1 = if (frErr p x1).1 = 0 then 0 else (frErr p x1).2 := rfl
  have heb := hdv.2 hp1 _ (List.mem_of_getElem? hx1)
  have hel := heb.1
  have hfb := frErr_b p x1
  have hfc := frameCode_b p x1
  have hbl := bodyOf_len (p := p) heb
  rw [drop_el hx1, formL_cons] at v4
  refine ⟨hx1, (frErr_i p _ ((hdv.2 hp1 _ (List.mem_of_getElem? hx1)))), fun h3 => have q3 := bnot_t h3; have p3 := of_decide_eq_false q3; ?_, fun h3 => have q3 := bnot_f h3; have p3 := of_decide_eq_true q3; ?_⟩
  refine ⟨(as_i64 (by omega) (by omega)), (congrArg S.tup (consE (congrArg V.c (congrArg (C.int .i64) ?_)) (consE (congrArg V.c (congrArg (C.int .i64) ?_)) rfl))), rfl⟩
  rotate_left 2
  exact ⟨(as_i64 (by omega) (by omega)), (as_i64 (by omega) (by omega)), nxt_of (j := (⟨q1.first + (x1.length : Int), q1.v + 1⟩ : formed_i_V0)) (by first | rfl | simp) rfl (by dsimp only [formed_i_F0]; exact ⟨by omega, by omega, by omega, by rw [← v4]; simp_all⟩) (by dsimp only [formed_i_F0]; omega)⟩
  rw [drop_end p2] at v4
  refine ⟨(congrArg S.tup (consE (congrArg V.c (congrArg (C.int .i64) ?_)) (consE (congrArg V.c (congrArg (C.int .i64) ?_)) rfl))), rfl⟩
  rotate_left 2
  all_goals first | ((unfold formed; simp_all; done)) | ((unfold formed; rw [if_pos (by simp_all), ← v4]; simp_all [formL]; done)) | (grind [formed, formL])
structure enc_i_V0 where
  out : List (List UInt8)
  v : Nat
def enc_i_F0 (p : Pln) (l : List Ev) : Fam := ⟨enc_i_V0, fun q1 => [(2, .v (vP 0)), (5, .v (vO 1)), (13, .v (vO 2)), (14, .v (vI ((List.length (divM l) : Nat) : Int))), (15, .v (vI (q1.v : Int)))], fun q1 => [.cells (cPln p), .lst .str q1.out, .lst .evs (divM l)], fun q1 => q1.v ≤ List.length (divM l) ∧ q1.out.length ≤ q1.v ∧ q1.out ++ goodL p (List.drop q1.v (divM l)) = goodL p (divM l), fun q1 => List.length (divM l) - q1.v⟩

theorem enc_i (p : Pln) (l : List Ev) (hp1 : EvsB l) : Fun Tryz.prog 45 [.agg (cPln p), .c (.seq .ev l)] [] (.v (vO 0)) [.lst .str (goodL p (divM l))] := by
  have hN : bigN = 274877906944 := rfl
  have hvl := hp1.1
  have hdv := divM_b (l := l) _ (Nat.le_refl _)
  have hd1 := hdv.1
  refine fun_ofw Tryz.func45 (by kernel_rfl) (by kernel_rfl) (w := let z3 := ((List.length (divM l) : Nat) : Int); let z4 := enc_i_F0 p l; (.seg [.ty .str, .call [] (.v (vO 0)) [.lst .evs (divM l)], .at 0, .keep [2, 5, 13, 14, 15], .sel [0, 1, 2]] (.loop z4 fun q1 => .br (.intro (fun (x1 : List Ev) => (divM l)[q1.v]? = some x1) fun x1 => .seg [.el .evs x1, .call [] (.tup [vT (frB p x1), vI (frErr p x1).1, vI (frP p x1)]) []] (.br (.leaf () [1]) (.seg [.ty .str, .ty .str, .as 32 (.v (vI ((q1.v : Int) + 1))), .at 0, .keep [2, 5, 13, 14, 15], .sel [0, 4, 2]] (.next)))) (.leaf () [1])), (Fun Tryz.prog 98 [.c (.seq .ev l)] [] (.v (vO 0)) [.lst .evs (divM l)]) ∧ z4.Has [(2, .v (vP 0)), (5, .v (vO 1)), (13, .v (vO 2)), (14, .v (vI z3)), (15, .v (vI 0))] [.cells (cPln p), .lst .str ([] : List (List UInt8)), .lst .evs (divM l)] ∧ ∀ q1, z4.inv q1 → (let z2 := (q1.v : Int); let z1 := z2 < z3; ((decide z1) = true → (∃ (x1 : List Ev), (divM l)[q1.v]? = some x1) ∧ ∀ (x1 : List Ev), ((divM l)[q1.v]? = some x1) → (z1 ∧ ((0 : Int) ≤ z2) ∧ ((divM l)[q1.v]? = some x1) ∧ (Fun Tryz.prog 101 [.agg (cPln p), .c (.seq .ev x1)] [] (.tup [vT (frB p x1), vI (frErr p x1).1, vI (frP p x1)]) []) ∧ ((!decide ((frErr p x1).1 = 0)) = true → (.v (vO 0) : S) = .v (vO 0) ∧ ([.lst .str q1.out] : List Blk) = [.lst .str (goodL p (divM l))]) ∧ ((!decide ((frErr p x1).1 = 0)) = false → (q1.out.length + List.length [frB p x1] ≤ bigN) ∧ ((.v (vI (IntKind.i64.wrap (z2 + 1))) : S) = .v (vI (z2 + 1))) ∧ z4.Nxt q1 [(2, .v (vP 0)), (5, .v (vO 1)), (13, .v (vO 2)), (14, .v (vI z3)), (15, .v (vI (z2 + 1)))] [.cells (cPln p), .lst .str (q1.out ++ [frB p x1]), .lst .evs (divM l)]))) ∧ ((decide z1) = false → (.v (vO 0) : S) = .v (vO 0) ∧ ([.lst .str q1.out] : List Blk) = [.lst .str (goodL p (divM l))])))) (by kernel_rfl) ?_
  refine ⟨(div_i _ (by omega)), has_of (j := (⟨([] : List (List UInt8)), 0⟩ : enc_i_V0)) (by first | rfl | simp) rfl (by dsimp only [enc_i_F0]; exact ⟨by omega, by simp, rfl⟩), fun (q1 : enc_i_V0) hq_q1 => ?_⟩
  have hi_q1 : q1.v ≤ List.length (divM l) ∧ q1.out.length ≤ q1.v ∧ q1.out ++ goodL p (List.drop q1.v (divM l)) = goodL p (divM l) := hq_q1
  obtain ⟨v1, v2, v3⟩ := hi_q1
  refine ⟨fun h1 => have p1 := of_decide_eq_true h1; ?_, fun h1 => have p1 := of_decide_eq_false h1; ?_⟩
  refine ⟨(ax_get (l := divM l) (i := q1.v) (by omega)), fun x1 hx1 => ?_⟩
  refine ⟨(by omega), (by omega), ?_⟩
  have hfB : frB p x1 = if (frErr p x1).1 = 0 then frameOf (bodyOf p x1) else [] := rfl
  have hfP : frP p x1 = if (frErr p x1).1 = 0 then 0 else (frErr p x1).2 := rfl
  have heb := hdv.2 hp1 _ (List.mem_of_getElem? hx1)
  have hel := heb.1
  have hfb := frErr_b p x1
  have hfc := frameCode_b p x1
  have hbl := bodyOf_len (p := p) heb
  rw [drop_el hx1, goodL_cons] at v3
  refine ⟨hx1, (frBytes_i p _ ((hdv.2 hp1 _ (List.mem_of_getElem? hx1)))), fun h2 => have q2 := bnot_t h2; have p2 := of_decide_eq_false q2; ?_, fun h2 => have q2 := bnot_f h2; have p2 := of_decide_eq_true q2; ?_⟩
  refine ⟨rfl, (consE (congrArg (Blk.lst .str) ?_) rfl)⟩
  rotate_left
  exact ⟨(by simp only [List.length_cons, List.length_nil]; omega), (as_i64 (by omega) (by omega)), nxt_of (j := (⟨q1.out ++ [frB p x1], q1.v + 1⟩ : enc_i_V0)) (by first | rfl | simp) rfl (by dsimp only [enc_i_F0]; exact ⟨by omega, by simp only [List.length_append, List.length_cons, List.length_nil]; omega, by rw [← v3]; simp_all⟩) (by dsimp only [enc_i_F0]; omega)⟩
  rw [drop_end p1] at v3
  refine ⟨rfl, (consE (congrArg (Blk.lst .str) ?_) rfl)⟩
  rotate_left
  all_goals first | ((rw [← v3]; simp_all [goodL]; done)) | (grind [goodL])
structure formed_s_V0 where
  at_ : Int
  i : Nat
def formed_s_F0 (p : Pln) (l : List Ev) : Fam := ⟨formed_s_V0, fun q1 => [(2, .v (vP 0)), (6, .v (vO 1)), (7, .v (vI q1.at_)), (8, .v (vI (q1.i : Int)))], fun _ => [.cells (cPln p), .lst .evs (divM l)], fun q1 => q1.i ≤ List.length (divM l) ∧ (0 : Int) ≤ q1.at_ ∧ q1.at_ ≤ 1048576 * (q1.i : Int) ∧ formL p (List.drop q1.i (divM l)) q1.at_ = formL p (divM l) 0, fun q1 => List.length (divM l) - q1.i⟩

theorem formed_s (p : Pln) (l : List Ev) (hp1 : EvsB l) : Fun Tryz.prog 40 [.agg (cPln p), .c (.seq .ev l)] [] (.tup [vI (formed p l).1, vI (formed p l).2]) [] := by
  have hN : bigN = 274877906944 := rfl
  have hvl := hp1.1
  have hdv := divM_b (l := l) _ (Nat.le_refl _)
  have hd1 := hdv.1
  refine fun_ofw Tryz.func40 (by kernel_rfl) (by kernel_rfl) (w := let z7 : List V := [vI (formed p l).1, vI (formed p l).2]; let z8 := formed_s_F0 p l; let z9 := ([] : List Blk); (.seg [.call [] (.v (vB (planOk p))) []] (.br (.leaf () []) (.seg [.call [] (.v (vO 0)) [.lst .evs (divM l)], .at 0, .keep [2, 6, 7, 8], .sel [0, 1]] (.loop z8 fun q1 => .br (.intro (fun (x1 : List Ev) => (divM l)[q1.i]? = some x1) fun x1 => .seg [.ord (os 11 [5]) [], .el .evs x1, .call [] (.tup [vI (frameCode p x1).1, vI (frameCode p x1).2]) []] (.br (.seg [.as 36 (.v (vI (q1.at_ + (frameCode p x1).2)))] (.leaf () [])) (.seg [.ord [(0, true), (1, true), (2, true), (3, true), (4, true), (6, true), (7, true), (5, false), (8, true)] [], .el .evs x1, .call [] (.v (vI ((List.length (bodyOf p x1) : Nat) : Int))) []] (.br (.leaf () []) (.seg [.el .evs x1, .as 53 (.v (vI (q1.at_ + (x1.length : Int)))), .as 21 (.v (vI ((q1.i : Int) + 1))), .at 0, .keep [2, 6, 7, 8], .sel [0, 1]] (.next)))))) (.leaf () [])))), (Fun Tryz.prog 59 [.agg (cPln p)] [] (.v (vB (planOk p))) []) ∧ ((!(planOk p)) = true → (.tup [vI 1, vI 0] : S) = .tup z7 ∧ z9 = []) ∧ ((!(planOk p)) = false → (Fun Tryz.prog 92 [.c (.seq .ev l)] [] (.v (vO 0)) [.lst .evs (divM l)]) ∧ z8.Has [(2, .v (vP 0)), (6, .v (vO 1)), (7, .v (vI 0)), (8, .v (vI 0))] [.cells (cPln p), .lst .evs (divM l)] ∧ ∀ q1, z8.inv q1 → (let z6 := (q1.i : Int); let z5 := z6 < ((List.length (divM l) : Nat) : Int); ((decide z5) = true → (∃ (x1 : List Ev), (divM l)[q1.i]? = some x1) ∧ ∀ (x1 : List Ev), ((divM l)[q1.i]? = some x1) → (let z1 := (divM l)[q1.i]? = some x1; let z2 := frameCode p x1; let z3 := ((List.length (bodyOf p x1) : Nat) : Int); let z4 := q1.at_ + (x1.length : Int); z5 ∧ ((0 : Int) ≤ z6) ∧ z5 ∧ ((0 : Int) ≤ z6) ∧ z1 ∧ z1 ∧ (Fun Tryz.prog 94 [.agg (cPln p), .c (.seq .ev x1)] [] (.tup [vI z2.1, vI z2.2]) []) ∧ ((!decide (z2.1 = 0)) = true → ((.v (vI (IntKind.i64.wrap (q1.at_ + z2.2))) : S) = .v (vI (q1.at_ + z2.2))) ∧ (.tup [vI z2.1, vI (q1.at_ + z2.2)] : S) = .tup z7 ∧ z9 = []) ∧ ((!decide (z2.1 = 0)) = false → z5 ∧ ((0 : Int) ≤ z6) ∧ z5 ∧ ((0 : Int) ≤ z6) ∧ z1 ∧ z1 ∧ (Fun Tryz.prog 95 [.agg (cPln p), .c (.seq .ev x1)] [] (.v (vI z3)) []) ∧ ((decide (p.most < z3)) = true → (.tup [vI 8, vI q1.at_] : S) = .tup z7 ∧ z9 = []) ∧ ((decide (p.most < z3)) = false → z5 ∧ ((0 : Int) ≤ z6) ∧ z1 ∧ ((.v (vI (IntKind.i64.wrap z4)) : S) = .v (vI z4)) ∧ ((.v (vI (IntKind.i64.wrap (z6 + 1))) : S) = .v (vI (z6 + 1))) ∧ z8.Nxt q1 [(2, .v (vP 0)), (6, .v (vO 1)), (7, .v (vI z4)), (8, .v (vI (z6 + 1)))] [.cells (cPln p), .lst .evs (divM l)])))) ∧ ((decide z5) = false → (.tup [vI 0, vI 0] : S) = .tup z7 ∧ z9 = []))))) (by kernel_rfl) ?_
  refine ⟨(planOk_s p), fun h1 => have q1 := bnot_t h1; ?_, fun h1 => have q1 := bnot_f h1; have p1 := planOk_t q1; ?_⟩
  refine ⟨(congrArg S.tup (consE (congrArg V.c (congrArg (C.int .i64) ?_)) (consE (congrArg V.c (congrArg (C.int .i64) ?_)) rfl))), rfl⟩
  rotate_left 2
  refine ⟨(div_s _ (by omega)), has_of (j := (⟨0, 0⟩ : formed_s_V0)) (by first | rfl | simp) rfl (by dsimp only [formed_s_F0]; exact ⟨by omega, by omega, by omega, rfl⟩), fun (q1 : formed_s_V0) hq_q1 => ?_⟩
  have hi_q1 : q1.i ≤ List.length (divM l) ∧ (0 : Int) ≤ q1.at_ ∧ q1.at_ ≤ 1048576 * (q1.i : Int) ∧ formL p (List.drop q1.i (divM l)) q1.at_ = formL p (divM l) 0 := hq_q1
  obtain ⟨v1, v2, v3, v4⟩ := hi_q1
  refine ⟨fun h2 => have p2 := of_decide_eq_true h2; ?_, fun h2 => have p2 := of_decide_eq_false h2; ?_⟩
  refine ⟨(ax_get (l := divM l) (i := q1.i) (by omega)), fun x1 hx1 => ?_⟩
  have hfB : frB p x1 = if (frErr p x1).1 = 0 then frameOf (bodyOf p x1) else [] := rfl
  have hfP : frP p x1 = if (frErr p x1).1 = 0 then 0 else (frErr p x1).2 := rfl
  have heb := hdv.2 hp1 _ (List.mem_of_getElem? hx1)
  have hel := heb.1
  have hfb := frErr_b p x1
  have hfc := frameCode_b p x1
  have hbl := bodyOf_len (p := p) heb
  rw [drop_el hx1, formL_cons] at v4
  refine ⟨(by omega), (by omega), (by omega), (by omega), hx1, hx1, (frameCode_s p _ (by omega) (heb.2.2)), fun h3 => have q3 := bnot_t h3; have p3 := of_decide_eq_false q3; ?_, fun h3 => have q3 := bnot_f h3; have p3 := of_decide_eq_true q3; ?_⟩
  have hfe : frErr p x1 = frameCode p x1 := by unfold frErr; rw [if_neg (by omega)]
  rw [hfe, if_pos p3] at v4
  refine ⟨(as_i64 (by omega) (by omega)), (congrArg S.tup (consE (congrArg V.c (congrArg (C.int .i64) ?_)) (consE (congrArg V.c (congrArg (C.int .i64) ?_)) rfl))), rfl⟩
  rotate_left 2
  have hk := p3
  refine ⟨(by omega), (by omega), (by omega), (by omega), hx1, hx1, (frameSize_s p _ ((hdv.2 hp1 _ (List.mem_of_getElem? hx1)))), fun h4 => have p4 := of_decide_eq_true h4; ?_, fun h4 => have p4 := of_decide_eq_false h4; ?_⟩
  have hfe : frErr p x1 = (8, 0) := by unfold frErr; rw [if_pos ⟨hk, by omega⟩]
  rw [hfe] at v4
  refine ⟨(congrArg S.tup (consE (congrArg V.c (congrArg (C.int .i64) ?_)) (consE (congrArg V.c (congrArg (C.int .i64) ?_)) rfl))), rfl⟩
  rotate_left 2
  have hfe : frErr p x1 = frameCode p x1 := by unfold frErr; rw [if_neg (by omega)]
  rw [hfe, if_neg (by omega)] at v4
  exact ⟨(by omega), (by omega), hx1, (as_i64 (by omega) (by omega)), (as_i64 (by omega) (by omega)), nxt_of (j := (⟨q1.at_ + (x1.length : Int), q1.i + 1⟩ : formed_s_V0)) (by first | rfl | simp) rfl (by dsimp only [formed_s_F0]; exact ⟨by omega, by omega, by omega, v4⟩) (by dsimp only [formed_s_F0]; omega)⟩
  rw [drop_end p2] at v4
  refine ⟨(congrArg S.tup (consE (congrArg V.c (congrArg (C.int .i64) ?_)) (consE (congrArg V.c (congrArg (C.int .i64) ?_)) rfl))), rfl⟩
  rotate_left 2
  all_goals first | ((unfold formed; simp_all; done)) | ((unfold formed; rw [if_pos (by simp_all), ← v4]; simp_all [formL, frErr]; done)) | (grind [formed, formL, frErr])
structure write_s_V0 where
  out : List Int
  i : Nat
def write_s_F0 (p : Pln) (l : List Ev) : Fam := ⟨write_s_V0, fun q1 => [(2, .v (vP 0)), (6, .v (vO 1)), (7, .v (vO 2)), (8, .v (vI (q1.i : Int)))], fun q1 => [.cells (cPln p), .lst .u8 q1.out, .lst .evs (divM l)], fun q1 => q1.i ≤ List.length (divM l) ∧ q1.out.length ≤ 2010 * q1.i ∧ List.map toByte q1.out ++ (goodL p (List.drop q1.i (divM l))).flatten = (goodL p (divM l)).flatten ∧ q1.i + List.length (goodL p (List.drop q1.i (divM l))) = List.length (goodL p (divM l)), fun q1 => List.length (divM l) - q1.i⟩

theorem write_s (p : Pln) (l : List Ev) (hp1 : EvsB l) : Fun Tryz.prog 39 [.agg (cPln p), .c (.seq .ev l)] [] (.tup [vT (goodL p (divM l)).flatten, vI ((List.length (goodL p (divM l)) : Nat) : Int)]) [] := by
  have hN : bigN = 274877906944 := rfl
  have hvl := hp1.1
  have hdv := divM_b (l := l) _ (Nat.le_refl _)
  have hd1 := hdv.1
  refine fun_ofw Tryz.func39 (by kernel_rfl) (by kernel_rfl) (w := let z4 : List V := [vT (goodL p (divM l)).flatten, vI ((List.length (goodL p (divM l)) : Nat) : Int)]; let z5 := write_s_F0 p l; let z6 := ((List.length (divM l) : Nat) : Int); (.seg [.ty .u8, .call [] (.v (vO 0)) [.lst .evs (divM l)], .at 0, .keep [2, 6, 7, 8], .sel [0, 1, 2]] (.loop z5 fun q1 => .br (.intro (fun (x1 : List Ev) => (divM l)[q1.i]? = some x1) fun x1 => .seg [.ord (os 13 [5]) [], .el .evs x1, .call [] (.tup [vT (frB p x1), vI (frErr p x1).1, vI (frP p x1)]) []] (.br (.leaf () []) (.seg [.ty .u8, .as 20 (.v (vI ((q1.i : Int) + 1))), .at 0, .keep [2, 6, 7, 8], .sel [0, 3, 2]] (.next)))) (.leaf () [])), (Fun Tryz.prog 92 [.c (.seq .ev l)] [] (.v (vO 0)) [.lst .evs (divM l)]) ∧ z5.Has [(2, .v (vP 0)), (6, .v (vO 1)), (7, .v (vO 2)), (8, .v (vI 0))] [.cells (cPln p), .lst .u8 ([] : List Int), .lst .evs (divM l)] ∧ ∀ q1, z5.inv q1 → (let z3 := (q1.i : Int); let z2 := z3 < z6; ((decide z2) = true → (∃ (x1 : List Ev), (divM l)[q1.i]? = some x1) ∧ ∀ (x1 : List Ev), ((divM l)[q1.i]? = some x1) → (let z1 := List.map (fun b => (UInt8.toNat b : Int)) (frB p x1); z2 ∧ ((0 : Int) ≤ z3) ∧ z2 ∧ ((0 : Int) ≤ z3) ∧ ((divM l)[q1.i]? = some x1) ∧ ((divM l)[q1.i]? = some x1) ∧ (Fun Tryz.prog 93 [.agg (cPln p), .c (.seq .ev x1)] [] (.tup [vT (frB p x1), vI (frErr p x1).1, vI (frP p x1)]) []) ∧ ((!decide ((frErr p x1).1 = 0)) = true → (.tup [vT (List.map toByte q1.out), vI z3] : S) = .tup z4 ∧ ([] : List Blk) = []) ∧ ((!decide ((frErr p x1).1 = 0)) = false → (q1.out.length + z1.length ≤ bigN) ∧ ((.v (vI (IntKind.i64.wrap (z3 + 1))) : S) = .v (vI (z3 + 1))) ∧ z5.Nxt q1 [(2, .v (vP 0)), (6, .v (vO 1)), (7, .v (vO 2)), (8, .v (vI (z3 + 1)))] [.cells (cPln p), .lst .u8 (q1.out ++ z1), .lst .evs (divM l)]))) ∧ ((decide z2) = false → (.tup [vT (List.map toByte q1.out), vI z6] : S) = .tup z4 ∧ ([] : List Blk) = [])))) (by kernel_rfl) ?_
  refine ⟨(div_s _ (by omega)), has_of (j := (⟨([] : List Int), 0⟩ : write_s_V0)) (by first | rfl | simp) rfl (by dsimp only [write_s_F0]; exact ⟨by omega, by simp, rfl, by simp⟩), fun (q1 : write_s_V0) hq_q1 => ?_⟩
  have hi_q1 : q1.i ≤ List.length (divM l) ∧ q1.out.length ≤ 2010 * q1.i ∧ List.map toByte q1.out ++ (goodL p (List.drop q1.i (divM l))).flatten = (goodL p (divM l)).flatten ∧ q1.i + List.length (goodL p (List.drop q1.i (divM l))) = List.length (goodL p (divM l)) := hq_q1
  obtain ⟨v1, v2, v3, v4⟩ := hi_q1
  refine ⟨fun h1 => have p1 := of_decide_eq_true h1; ?_, fun h1 => have p1 := of_decide_eq_false h1; ?_⟩
  refine ⟨(ax_get (l := divM l) (i := q1.i) (by omega)), fun x1 hx1 => ?_⟩
  have hfB : frB p x1 = if (frErr p x1).1 = 0 then frameOf (bodyOf p x1) else [] := rfl
  have hfP : frP p x1 = if (frErr p x1).1 = 0 then 0 else (frErr p x1).2 := rfl
  have heb := hdv.2 hp1 _ (List.mem_of_getElem? hx1)
  have hel := heb.1
  have hfb := frErr_b p x1
  have hfc := frameCode_b p x1
  have hbl := bodyOf_len (p := p) heb
  rw [drop_el hx1, goodL_cons] at v3 v4
  refine ⟨(by omega), (by omega), (by omega), (by omega), hx1, hx1, (frBytes_s p _ ((hdv.2 hp1 _ (List.mem_of_getElem? hx1)))), fun h2 => have q2 := bnot_t h2; have p2 := of_decide_eq_false q2; ?_, fun h2 => have q2 := bnot_f h2; have p2 := of_decide_eq_true q2; ?_⟩
  rw [if_pos p2] at v3 v4
  simp only [List.length_nil, List.flatten_nil, List.append_nil] at v3 v4
  refine ⟨(congrArg S.tup (consE (congrArg V.c (congrArg C.str ?_)) (consE (congrArg V.c (congrArg (C.int .i64) ?_)) rfl))), rfl⟩
  rotate_left 2
  have hse : frB p x1 = frameOf (bodyOf p x1) := if_pos p2
  have hsl := congrArg List.length hse
  rw [if_neg (by simpa using p2)] at v3 v4
  have hgl := good_len p2
  simp only [List.length_cons, List.flatten_cons] at v3 v4
  exact ⟨(by simp only [List.length_map]; omega), (as_i64 (by omega) (by omega)), nxt_of (j := (⟨q1.out ++ (List.map (fun b => (UInt8.toNat b : Int)) (frB p x1)), q1.i + 1⟩ : write_s_V0)) (by first | rfl | simp) rfl (by dsimp only [write_s_F0]; exact ⟨by omega, by simp only [List.length_append, List.length_map]; omega, by rw [← v3, hse]; simp only [List.map_append, toByte_of, List.append_assoc], by omega⟩) (by dsimp only [write_s_F0]; omega)⟩
  rw [drop_end p1] at v3 v4
  simp only [goodL, List.length_nil, List.flatten_nil, List.append_nil] at v3 v4
  refine ⟨(congrArg S.tup (consE (congrArg V.c (congrArg C.str ?_)) (consE (congrArg V.c (congrArg (C.int .i64) ?_)) rfl))), rfl⟩
  rotate_left 2
  all_goals first | ((rw [← v3]; done)) | (omega) | (simp_all) | (grind [goodL])
end Go.Proofs.YthmhekbmhpljcaaGreat.Ax
