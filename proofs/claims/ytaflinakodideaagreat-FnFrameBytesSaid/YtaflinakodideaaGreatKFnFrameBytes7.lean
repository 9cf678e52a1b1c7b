/- Lists of frames. strings.Join's contract, from the shelf's words into this walk's. strings.Join in this program (written by the kit's tool lay-plain). Encodings. What is too long to draw from. The law FnFrameBytes. Opening what the laws are handed. -/
import Derived.Test.YtaflinakodideaaGreatKFnFrameBytes6
import Derived.Test.YtaflinakodideaaGreatKFnFrameBytes1
import Derived.Lib.Join
import Derived.Shelf.Strings.OnBuilder
import Derived.Test.YtaflinakodideaaGreatProg
import Derived.Test.YtaflinakodideaaGreatKFnFrameBytes5
import Derived.Test.YtaflinakodideaaGreatKB4
set_option linter.unusedSimpArgs false
set_option linter.unusedVariables false
namespace Go.Proofs.YtaflinakodideaaGreat.Ax
open Go.RowKit
structure div_i_V0 where
 list : List Ev
 out : List (List Ev)
def div_i_F0 (l : List Ev) : Fam := ⟨div_i_V0, fun q1 => [(0, .v (.c (.seq .ev q1.list))), (3, .v (vO 0))], fun q1 => [.lst .evs q1.out], fun q1 => q1.out ++ divM q1.list = divM l ∧ q1.out.length + q1.list.length ≤ l.length, fun q1 => q1.list.length⟩
theorem div_i (l : List Ev) (hp1 : l.length ≤ 1048576) : Fun Tryz.prog 62 [.c (.seq .ev l)] [] (.v (vO 0)) [.lst .evs (divM l)] := by
 have hN : bigN = 274877906944 := rfl
 refine fun_ofw Tryz.func62 (by kernel_rfl) (by kernel_rfl) (w := let z7 := fr (fr (.one 4 (.one 5 (.first 9 (.first 10 (.done))))) 6 3) 0 4; let z8 := div_i_F0 l; (.seg [.ty .evs, .at 0, .keep [0, 3], .sel [0]] (.loop z8 fun q1 => .br (.seg [.call [] (.v (vI (frameStop q1.list 0))) [], .as 11 (.v (vI (frameStop q1.list 0 + 1)))] (.br (.seg [.tree z7 5 [], .ty .evs, .ty .evs, .at 0, .keep [0, 3], .sel [2]] (.next)) (.seg [.tree z7 5 [], .ty .evs, .ty .evs, .at 0, .keep [0, 3], .sel [2]] (.next)))) (.leaf () [0])), z8.Has [(0, .v (.c (.seq .ev l))), (3, .v (vO 0))] [.lst .evs ([] : List (List Ev))] ∧ ∀ q1, z8.inv q1 → (let z1 := (q1.list.length : Int); let z2 := (0 : Int) ≤ frameStop q1.list 0 + 1; let z3 := frameStop q1.list 0 + 1 ≤ z1; let z4 := Int.toNat (frameStop q1.list 0 + 1); let z5 := q1.list.length; let z6 := decide (frameStop q1.list 0 + 1 = 0); ((decide (0 < z1)) = true → (Fun Tryz.prog 106 [.c (.seq .ev q1.list), vI 0] [] (.v (vI (frameStop q1.list 0))) []) ∧ ((.v (vI (IntKind.i64.wrap ((frameStop q1.list 0) + 1))) : S) = .v (vI (frameStop q1.list 0 + 1))) ∧ (z6 = true → (z1 ≤ z1) ∧ ((0 : Int) ≤ z1) ∧ (z1 ≤ z1) ∧ ((0 : Int) ≤ z1) ∧ (z1 ≤ z1) ∧ ((0 : Int) ≤ z1) ∧ (z1 ≤ z1) ∧ ((0 : Int) ≤ z1) ∧ (q1.out.length + List.length [List.take z5 q1.list] ≤ bigN) ∧ z8.Nxt q1 [(0, .v (.c (.seq .ev (List.drop z5 q1.list)))), (3, .v (vO 0))] [.lst .evs (q1.out ++ [List.take z5 q1.list])]) ∧ (z6 = false → z3 ∧ z2 ∧ z3 ∧ z2 ∧ z3 ∧ z2 ∧ z3 ∧ z2 ∧ (q1.out.length + List.length [List.take z4 q1.list] ≤ bigN) ∧ z8.Nxt q1 [(0, .v (.c (.seq .ev (List.drop z4 q1.list)))), (3, .v (vO 0))] [.lst .evs (q1.out ++ [List.take z4 q1.list])])) ∧ ((decide (0 < z1)) = false → (.v (vO 0) : S) = .v (vO 0) ∧ ([.lst .evs q1.out] : List Blk) = [.lst .evs (divM l)])))) (by kernel_rfl) ?_
 refine ⟨has_of (j := (⟨l, ([] : List (List Ev))⟩ : div_i_V0)) rfl rfl (by dsimp only [div_i_F0]; exact ⟨rfl, by simp⟩), fun (q1 : div_i_V0) hq_q1 => ?_⟩
 have hi_q1 : q1.out ++ divM q1.list = divM l ∧ q1.out.length + q1.list.length ≤ l.length := hq_q1
 obtain ⟨v1, v2⟩ := hi_q1
 have hsb := frameStop_b q1.list 0
 refine dsp (fun h1 p1 => ?_) fun h1 p1 => ?_
 refine ⟨(frameStop_i _ _ (by omega)), (as_i64 (by omega) (by omega)), dsp (fun h2 p2 => ?_) fun h2 p2 => ?_⟩
 have hcb := cutN_b (l := q1.list) (by omega)
 have hcut := cutN_0 p2
 rw [hcut] at hcb
 exact ⟨(by omega), (by omega), (by omega), (by omega), (by omega), (by omega), (by omega), (by omega), (by simp only [List.length_take, List.length_cons, List.length_nil]; omega), nxt_of (j := (⟨List.drop (q1.list.length) q1.list, q1.out ++ [List.take (q1.list.length) q1.list]⟩ : div_i_V0)) rfl rfl (by dsimp only [div_i_F0]; exact ⟨by rw [← v1, divM_next (l := q1.list) (by omega)]; simp [hcut], by simp only [List.length_append, List.length_cons, List.length_nil, List.length_drop]; omega⟩) (by dsimp only [div_i_F0]; simp only [List.length_drop]; omega)⟩
 have hcb := cutN_b (l := q1.list) (by omega)
 have hcut := cutN_1 p2
 rw [hcut] at hcb
 exact ⟨(by omega), (by omega), (by omega), (by omega), (by omega), (by omega), (by omega), (by omega), (by simp only [List.length_take, List.length_cons, List.length_nil]; omega), nxt_of (j := (⟨List.drop (Int.toNat (frameStop q1.list 0 + 1)) q1.list, q1.out ++ [List.take (Int.toNat (frameStop q1.list 0 + 1)) q1.list]⟩ : div_i_V0)) rfl rfl (by dsimp only [div_i_F0]; exact ⟨by rw [← v1, divM_next (l := q1.list) (by omega)]; simp [hcut], by simp only [List.length_append, List.length_cons, List.length_nil, List.length_drop]; omega⟩) (by dsimp only [div_i_F0]; simp only [List.length_drop]; omega)⟩
 have hnil : q1.list = [] := List.eq_nil_of_length_eq_zero (by omega)
 refine ⟨rfl, (consE (congrArg (Blk.lst .evs) ?_) rfl)⟩
 rotate_left
 all_goals (rw [← v1, hnil, divM_nil]; simp)
structure formed_i_V0 where
 first : Int
 v : Nat
def formed_i_F0 (p : Pln) (l : List Ev) : Fam := ⟨formed_i_V0, fun q1 => [(2, .v (vP 0)), (6, .v (vI q1.first)), (15, .v (vO 1)), (16, .v (vI ((List.length (divM l) : Nat) : Int))), (17, .v (vI (q1.v : Int)))], fun _ => [.cells (cPln p), .lst .evs (divM l)], fun q1 => q1.v ≤ List.length (divM l) ∧ (0 : Int) ≤ q1.first ∧ q1.first ≤ 1048576 * (q1.v : Int) ∧ formL p (List.drop q1.v (divM l)) q1.first = formL p (divM l) 0, fun q1 => List.length (divM l) - q1.v⟩
theorem formed_i (p : Pln) (l : List Ev) (hp1 : EvsB l) : Fun Tryz.prog 30 [.agg (cPln p), .c (.seq .ev l)] [] (.tup [vI (formed p l).1, vI (formed p l).2]) [] := by
 have hN : bigN = 274877906944 := rfl
 have hvl := hp1.1
 have hdv := divM_b (l := l) _ (Nat.le_refl _)
 have hd1 := hdv.1
 refine fun_ofw Tryz.func30 (by kernel_rfl) (by kernel_rfl) (w := let z5 := ((List.length (divM l) : Nat) : Int); let z6 : List V := [vI (formed p l).1, vI (formed p l).2]; let z7 := formed_i_F0 p l; (.seg [.call [] (.v (vB (planOk p))) []] (.br (.leaf () []) (.seg [.call [] (.v (vO 0)) [.lst .evs (divM l)], .at 0, .keep [2, 6, 15, 16, 17], .sel [0, 1]] (.loop z7 fun q1 => .br (.intro (fun (x1 : List Ev) => (divM l)[q1.v]? = some x1) fun x1 => .seg [.el .evs x1, .call [] (.tup [vI (frErr p x1).1, vI (frErr p x1).2]) []] (.br (.seg [.as 32 (.v (vI (q1.first + (frErr p x1).2)))] (.leaf () [])) (.seg [.as 36 (.v (vI (q1.first + (x1.length : Int)))), .as 37 (.v (vI ((q1.v : Int) + 1))), .at 0, .keep [2, 6, 15, 16, 17], .sel [0, 1]] (.next)))) (.leaf () [])))), (Fun Tryz.prog 23 [.agg (cPln p)] [] (.v (vB (planOk p))) []) ∧ ((!(planOk p)) = true → (.tup [vI 1, vI 0] : S) = .tup z6 ∧ ([] : List Blk) = []) ∧ ((!(planOk p)) = false → (Fun Tryz.prog 62 [.c (.seq .ev l)] [] (.v (vO 0)) [.lst .evs (divM l)]) ∧ z7.Has [(2, .v (vP 0)), (6, .v (vI 0)), (15, .v (vO 1)), (16, .v (vI z5)), (17, .v (vI 0))] [.cells (cPln p), .lst .evs (divM l)] ∧ ∀ q1, z7.inv q1 → (let z4 := (q1.v : Int); let z3 := z4 < z5; ((decide z3) = true → (∃ (x1 : List Ev), (divM l)[q1.v]? = some x1) ∧ ∀ (x1 : List Ev), ((divM l)[q1.v]? = some x1) → (let z1 := q1.first + (x1.length : Int); let z2 := frErr p x1; z3 ∧ ((0 : Int) ≤ z4) ∧ ((divM l)[q1.v]? = some x1) ∧ (Fun Tryz.prog 26 [.agg (cPln p), .c (.seq .ev x1)] [] (.tup [vI z2.1, vI z2.2]) []) ∧ ((!decide (z2.1 = 0)) = true → ((.v (vI (IntKind.i64.wrap (q1.first + z2.2))) : S) = .v (vI (q1.first + z2.2))) ∧ (.tup [vI z2.1, vI (q1.first + z2.2)] : S) = .tup z6 ∧ ([] : List Blk) = []) ∧ ((!decide (z2.1 = 0)) = false → ((.v (vI (IntKind.i64.wrap z1)) : S) = .v (vI z1)) ∧ ((.v (vI (IntKind.i64.wrap (z4 + 1))) : S) = .v (vI (z4 + 1))) ∧ z7.Nxt q1 [(2, .v (vP 0)), (6, .v (vI z1)), (15, .v (vO 1)), (16, .v (vI z5)), (17, .v (vI (z4 + 1)))] [.cells (cPln p), .lst .evs (divM l)]))) ∧ ((decide z3) = false → (.tup [vI 0, vI 0] : S) = .tup z6 ∧ ([] : List Blk) = []))))) (by kernel_rfl) ?_
 refine ⟨(planOk_i p), fun h1 => have q1 := bnot_t h1; ?_, fun h1 => have q1 := bnot_f h1; have p1 := planOk_t q1; ?_⟩
 refine ⟨(congrArg S.tup (consE (congrArg V.c (congrArg (C.int .i64) ?_)) (consE (congrArg V.c (congrArg (C.int .i64) ?_)) rfl))), rfl⟩
 rotate_left 2
 refine ⟨(div_i _ (by omega)), has_of (j := (⟨0, 0⟩ : formed_i_V0)) (by first | rfl | simp) rfl (by dsimp only [formed_i_F0]; exact ⟨by omega, by omega, by omega, rfl⟩), fun (q1 : formed_i_V0) hq_q1 => ?_⟩
 have hi_q1 : q1.v ≤ List.length (divM l) ∧ (0 : Int) ≤ q1.first ∧ q1.first ≤ 1048576 * (q1.v : Int) ∧ formL p (List.drop q1.v (divM l)) q1.first = formL p (divM l) 0 := hq_q1
 obtain ⟨v1, v2, v3, v4⟩ := hi_q1
 refine dsp (fun h2 p2 => ?_) fun h2 p2 => ?_
 refine ⟨(ax_get (l := divM l) (i := q1.v) (by omega)), fun x1 hx1 => ?_⟩
 refine ⟨(by omega), (by omega), ?_⟩
 have hfB : frB p x1 = if (frErr p x1).1 = 0 then frameOf (bodyOf p x1) else [] := rfl
 have hfP : frP p x1 = if (frErr p x1).1 = 0 then 0 else (frErr p x1).2 := rfl
 have heb := hdv.2 hp1 _ (List.mem_of_getElem? hx1)
 have hel := heb.1
 have hfb := frErr_b p x1
 have hfc := frameCode_b p x1
 have hbl := bodyOf_len (p := p) heb
 rw [drop_el hx1, formL_cons] at v4
 refine ⟨hx1, (frErr_i p _ ((hdv.2 hp1 _ (List.mem_of_getElem? hx1)))), fun h3 => have q3 := bnot_t h3; have p3 := of_decide_eq_false q3; ?_, fun h3 => have q3 := bnot_f h3; have p3 := of_decide_eq_true q3; ?_⟩
 refine ⟨(as_i64 (by omega) (by omega)), (congrArg S.tup (consE (congrArg V.c (congrArg (C.int .i64) ?_)) (consE (congrArg V.c (congrArg (C.int .i64) ?_)) rfl))), rfl⟩
 rotate_left 2
 exact ⟨(as_i64 (by omega) (by omega)), (as_i64 (by omega) (by omega)), nxt_of (j := (⟨q1.first + (x1.length : Int), q1.v + 1⟩ : formed_i_V0)) (by first | rfl | simp) rfl (by dsimp only [formed_i_F0]; exact ⟨by omega, by omega, by omega, by rw [← v4]; simp_all⟩) (by dsimp only [formed_i_F0]; omega)⟩
 rw [drop_end p2] at v4
 refine ⟨(congrArg S.tup (consE (congrArg V.c (congrArg (C.int .i64) ?_)) (consE (congrArg V.c (congrArg (C.int .i64) ?_)) rfl))), rfl⟩
 rotate_left 2
 all_goals first | ((unfold formed; simp_all; done)) | ((unfold formed; rw [if_pos (by simp_all), ← v4]; simp_all [formL]; done)) | (grind [formed, formL])
structure enc_i_V0 where
 out : List (List UInt8)
 v : Nat
def enc_i_F0 (p : Pln) (l : List Ev) : Fam := ⟨enc_i_V0, fun q1 => [(2, .v (vP 0)), (5, .v (vO 1)), (13, .v (vO 2)), (14, .v (vI ((List.length (divM l) : Nat) : Int))), (15, .v (vI (q1.v : Int)))], fun q1 => [.cells (cPln p), .lst .str q1.out, .lst .evs (divM l)], fun q1 => q1.v ≤ List.length (divM l) ∧ q1.out.length ≤ q1.v ∧ q1.out ++ goodL p (List.drop q1.v (divM l)) = goodL p (divM l), fun q1 => List.length (divM l) - q1.v⟩
theorem enc_i (p : Pln) (l : List Ev) (hp1 : EvsB l) : Fun Tryz.prog 32 [.agg (cPln p), .c (.seq .ev l)] [] (.v (vO 0)) [.lst .str (goodL p (divM l))] := by
 have hN : bigN = 274877906944 := rfl
 have hvl := hp1.1
 have hdv := divM_b (l := l) _ (Nat.le_refl _)
 have hd1 := hdv.1
 refine fun_ofw Tryz.func32 (by kernel_rfl) (by kernel_rfl) (w := let z3 := ((List.length (divM l) : Nat) : Int); let z4 := enc_i_F0 p l; (.seg [.ty .str, .call [] (.v (vO 0)) [.lst .evs (divM l)], .at 0, .keep [2, 5, 13, 14, 15], .sel [0, 1, 2]] (.loop z4 fun q1 => .br (.intro (fun (x1 : List Ev) => (divM l)[q1.v]? = some x1) fun x1 => .seg [.el .evs x1, .call [] (.tup [vT (frB p x1), vI (frErr p x1).1, vI (frP p x1)]) []] (.br (.leaf () [1]) (.seg [.ty .str, .ty .str, .as 32 (.v (vI ((q1.v : Int) + 1))), .at 0, .keep [2, 5, 13, 14, 15], .sel [0, 4, 2]] (.next)))) (.leaf () [1])), (Fun Tryz.prog 62 [.c (.seq .ev l)] [] (.v (vO 0)) [.lst .evs (divM l)]) ∧ z4.Has [(2, .v (vP 0)), (5, .v (vO 1)), (13, .v (vO 2)), (14, .v (vI z3)), (15, .v (vI 0))] [.cells (cPln p), .lst .str ([] : List (List UInt8)), .lst .evs (divM l)] ∧ ∀ q1, z4.inv q1 → (let z2 := (q1.v : Int); let z1 := z2 < z3; ((decide z1) = true → (∃ (x1 : List Ev), (divM l)[q1.v]? = some x1) ∧ ∀ (x1 : List Ev), ((divM l)[q1.v]? = some x1) → (z1 ∧ ((0 : Int) ≤ z2) ∧ ((divM l)[q1.v]? = some x1) ∧ (Fun Tryz.prog 10 [.agg (cPln p), .c (.seq .ev x1)] [] (.tup [vT (frB p x1), vI (frErr p x1).1, vI (frP p x1)]) []) ∧ ((!decide ((frErr p x1).1 = 0)) = true → (.v (vO 0) : S) = .v (vO 0) ∧ ([.lst .str q1.out] : List Blk) = [.lst .str (goodL p (divM l))]) ∧ ((!decide ((frErr p x1).1 = 0)) = false → (q1.out.length + List.length [frB p x1] ≤ bigN) ∧ ((.v (vI (IntKind.i64.wrap (z2 + 1))) : S) = .v (vI (z2 + 1))) ∧ z4.Nxt q1 [(2, .v (vP 0)), (5, .v (vO 1)), (13, .v (vO 2)), (14, .v (vI z3)), (15, .v (vI (z2 + 1)))] [.cells (cPln p), .lst .str (q1.out ++ [frB p x1]), .lst .evs (divM l)]))) ∧ ((decide z1) = false → (.v (vO 0) : S) = .v (vO 0) ∧ ([.lst .str q1.out] : List Blk) = [.lst .str (goodL p (divM l))])))) (by kernel_rfl) ?_
 refine ⟨(div_i _ (by omega)), has_of (j := (⟨([] : List (List UInt8)), 0⟩ : enc_i_V0)) (by first | rfl | simp) rfl (by dsimp only [enc_i_F0]; exact ⟨by omega, by simp, rfl⟩), fun (q1 : enc_i_V0) hq_q1 => ?_⟩
 have hi_q1 : q1.v ≤ List.length (divM l) ∧ q1.out.length ≤ q1.v ∧ q1.out ++ goodL p (List.drop q1.v (divM l)) = goodL p (divM l) := hq_q1
 obtain ⟨v1, v2, v3⟩ := hi_q1
 refine dsp (fun h1 p1 => ?_) fun h1 p1 => ?_
 refine ⟨(ax_get (l := divM l) (i := q1.v) (by omega)), fun x1 hx1 => ?_⟩
 refine ⟨(by omega), (by omega), ?_⟩
 have hfB : frB p x1 = if (frErr p x1).1 = 0 then frameOf (bodyOf p x1) else [] := rfl
 have hfP : frP p x1 = if (frErr p x1).1 = 0 then 0 else (frErr p x1).2 := rfl
 have heb := hdv.2 hp1 _ (List.mem_of_getElem? hx1)
 have hel := heb.1
 have hfb := frErr_b p x1
 have hfc := frameCode_b p x1
 have hbl := bodyOf_len (p := p) heb
 rw [drop_el hx1, goodL_cons] at v3
 refine ⟨hx1, (frBytes_i p _ ((hdv.2 hp1 _ (List.mem_of_getElem? hx1)))), fun h2 => have q2 := bnot_t h2; have p2 := of_decide_eq_false q2; ?_, fun h2 => have q2 := bnot_f h2; have p2 := of_decide_eq_true q2; ?_⟩
 refine ⟨rfl, (consE (congrArg (Blk.lst .str) ?_) rfl)⟩
 rotate_left
 exact ⟨(by simp only [List.length_cons, List.length_nil]; omega), (as_i64 (by omega) (by omega)), nxt_of (j := (⟨q1.out ++ [frB p x1], q1.v + 1⟩ : enc_i_V0)) (by first | rfl | simp) rfl (by dsimp only [enc_i_F0]; exact ⟨by omega, by simp only [List.length_append, List.length_cons, List.length_nil]; omega, by rw [← v3]; simp_all⟩) (by dsimp only [enc_i_F0]; omega)⟩
 rw [drop_end p1] at v3
 refine ⟨rfl, (consE (congrArg (Blk.lst .str) ?_) rfl)⟩
 rotate_left
 all_goals first | ((rw [← v3]; simp_all [goodL]; done)) | (grind [goodL])
theorem join_flat : ∀ l : List (List UInt8), Lib.join l [] = l.flatten
 | [] => rfl
 | x :: r => by rw [Lib.join_cons, List.flatten_cons]; unfold Lib.joinTail; simp
theorem goes_below {π : Nat → Pl} {R : Nat → Prop} {w w' : World} (h : Below w.heap.size w w') : Goes [] π R w [] π R w' :=
 ⟨h.os, h.tape, h.output, h.size, fun b hb _ => h.block b hb, fun b hb => .inl hb, fun j hj => absurd hj (Nat.not_lt_zero _), fun j x hx => by simp at hx, fun b hb => hb, fun b hb => .inl hb⟩
theorem hok_nil {π : Nat → Pl} {R : Nat → Prop} {w w' : World} (h : HOK [] π R w) (hs : w.heap.size ≤ w'.heap.size) : HOK [] π R w' :=
 ⟨fun j x hx => by simp at hx, fun i j x y b hx => by simp at hx, fun j x b hx => by simp at hx, fun b hb => ⟨Nat.lt_of_lt_of_le (h.R b hb).1 hs, (h.R b hb).2⟩⟩
theorem join_contract {P : Program} {f : FuncId}
  (hj : ∀ (bk o c : Nat) (xs : List ByteArray) (sep : ByteArray) (w : World), (∀ (j : Nat) x, xs[j]? = some x → w.cell? ⟨bk, o + j, none⟩ = some (.string x)) → bk < w.heap.size → xs.length ≤ 140737488355328 → xs.length ≤ c → (Lib.join (xs.map (·.data.toList)) sep.data.toList).length ≤ 140737488355328 →
   Calls P f #[.slice (some ⟨bk, o, none⟩) xs.length c, .string sep] w fun e w' => e = .returned (.string ⟨(Lib.join (xs.map (·.data.toList)) sep.data.toList).toArray⟩) ∧ Below w.heap.size w w')
  (hn : ∀ (a : Option Addr) (c : Nat) (sep : ByteArray) (w : World), Calls P f #[.slice a 0 c, .string sep] w fun e w' => e = .returned (.string ⟨#[]⟩) ∧ w' = w)
  {l : List (List UInt8)} {sep : List UInt8} (h1 : l.length ≤ 140737488355328) (h2 : (Lib.join l sep).length ≤ 140737488355328) : Contract P f [.c (.seq .str l), vT sep] [] (.v (vT (Lib.join l sep))) [] := by
 intro π R w vs ok hv
 cases hv with
 | cons hv1 hv =>
  cases hv with
  | cons hv2 hv =>
   cases hv
   obtain ⟨a, cap, rfl, hc, hm, hl⟩ := hv1
   have hv2 : _ = Value.string ⟨sep.toArray⟩ := hv2
   subst hv2
   by_cases hz : l = []
   ·subst hz
    refine (hn a cap ⟨sep.toArray⟩ w).mono fun e w' hh => ?_
    obtain ⟨rfl, rfl⟩ := hh
    exact ⟨_, π, R, rfl, ok, Goes.refl _ _ _ _, rfl⟩
   ·obtain ⟨b, off, rfl, hR, hx⟩ := hl hz
    have hb := ok.R b hR
    have hcell : ∀ (j : Nat) x, (l.map fun s => (⟨s.toArray⟩ : ByteArray))[j]? = some x → w.cell? ⟨b, off + j, none⟩ = some (.string x) := by
     intro j x hjx
     rw [List.getElem?_map] at hjx
     cases hlj : l[j]? with
     | none => rw [hlj] at hjx; cases hjx
     | some s =>
      rw [hlj] at hjx
      simp at hjx
      subst hjx
      obtain ⟨u, hu1, hu2⟩ := hx j s hlj 0 (.str s) rfl
      have hu2 : u = Value.string ⟨s.toArray⟩ := hu2
      subst hu2
      have : off + j * (T.str).k + 0 = off + j := by show off + j * 1 + 0 = off + j; omega
      rw [← this]; exact hu1
    have hmap : (l.map fun s => (⟨s.toArray⟩ : ByteArray)).map (·.data.toList) = l := by
     rw [List.map_map]
     conv => rhs; rw [← List.map_id l]
     apply List.map_congr_left
     intro s _; simp
    have hlen : (l.map fun s => (⟨s.toArray⟩ : ByteArray)).length = l.length := by simp
    have := hj b off cap (l.map fun s => ⟨s.toArray⟩) ⟨sep.toArray⟩ w hcell hb.1 (by rw [hlen]; exact h1) (by rw [hlen]; exact hc) (by rw [hmap]; exact h2)
    rw [hlen, hmap] at this
    refine this.mono fun e w' hh => ?_
    obtain ⟨rfl, hw⟩ := hh
    refine ⟨_, π, R, rfl, hok_nil ok hw.size, goes_below hw, ?_⟩
    rfl
end Go.Proofs.YtaflinakodideaaGreat.Ax
namespace Go.Proofs
open Go.Shelf
def Tryz.lays156_ren : Go.Shelf.Ren := ⟨fun | 156 => 63 | 165 => 107 | 166 => 108 | 169 => 109 | 240 => 152 | 241 => 153 | 276 => 168 | 277 => 169 | n => n, fun | 31 => 52 | 9 => 9 | 3 => 3 | 4 => 4 | 0 => 0 | 20 => 20 | 72 => 147 | 76 => 151 | 70 => 145 | 37 => 22 | 75 => 150 | 127 => 177 | 164 => 192 | 5 => 5 | 80 => 153 | n => n, fun | n => n⟩
theorem Tryz.lays156 : Go.Proofs.Lays.n156 Tryz.prog Tryz.lays156_ren := {
 mixed := by kernel_rfl
 f156 := Tryz.func63.trans (congrArg some (by kernel_rfl))
 f165 := Tryz.func107.trans (congrArg some (by kernel_rfl))
 f166 := Tryz.func108.trans (congrArg some (by kernel_rfl))
 f169 := Tryz.func109.trans (congrArg some (by kernel_rfl))
 f240 := Tryz.func152.trans (congrArg some (by kernel_rfl))
 f241 := Tryz.func153.trans (congrArg some (by kernel_rfl))
 f276 := Tryz.func168.trans (congrArg some (by kernel_rfl))
 f277 := Tryz.func169.trans (congrArg some (by kernel_rfl))
 t0 := Tryz.underlying0
 a0 := Tryz.isAgg0
 z0 := Tryz.sizeOf0
 v0 := Tryz.zeroValue0
 t3 := Tryz.underlying3
 a3 := Tryz.isAgg3
 z3 := Tryz.sizeOf3
 v3 := Tryz.zeroValue3
 t4 := Tryz.underlying4
 a4 := Tryz.isAgg4
 z4 := Tryz.sizeOf4
 v4 := Tryz.zeroValue4
 t9 := Tryz.underlying9
 a9 := Tryz.isAgg9
 z9 := Tryz.sizeOf9
 v9 := Tryz.zeroValue9
 t20 := Tryz.underlying20
 a20 := Tryz.isAgg20
 z20 := Tryz.sizeOf20
 v20 := Tryz.zeroValue20
 t31 := Tryz.underlying52
 a31 := Tryz.isAgg52
 z31 := Tryz.sizeOf52
 v31 := Tryz.zeroValue52
 t37 := Tryz.underlying22
 a37 := Tryz.isAgg22
 z37 := Tryz.sizeOf22
 v37 := Tryz.zeroValue22
 t70 := Tryz.underlying145
 a70 := Tryz.isAgg145
 z70 := Tryz.sizeOf145
 v70 := Tryz.zeroValue145
 t72 := Tryz.underlying147
 a72 := Tryz.isAgg147
 z72 := Tryz.sizeOf147
 v72 := Tryz.zeroValue147
 t75 := Tryz.underlying150
 a75 := Tryz.isAgg150
 z75 := Tryz.sizeOf150
 v75 := Tryz.zeroValue150
 t76 := Tryz.underlying151
 a76 := Tryz.isAgg151
 z76 := Tryz.sizeOf151
 v76 := Tryz.zeroValue151
 t127 := Tryz.underlying177
 a127 := Tryz.isAgg177
 z127 := Tryz.sizeOf177
 v127 := Tryz.zeroValue177
 t164 := Tryz.underlying192
 a164 := Tryz.isAgg192
 z164 := Tryz.sizeOf192
 v164 := Tryz.zeroValue192 }
theorem Tryz.Builder_Extra_156 : Builder.Extra Tryz.prog Tryz.lays156_ren := {
 sizeBuilder := by kernel_rfl
 liesBuilder := by kernel_rfl
 t5 := Tryz.underlying5
 a5 := Tryz.isAgg5
 z5 := Tryz.sizeOf5
 v5 := Tryz.zeroValue5
 infoByte := by kernel_rfl
 cellsByte := by kernel_rfl
 sizeByte := by kernel_rfl
 neB5 := by decide }
open Go.RowKit in
theorem Tryz.strings_Join_none (a : Option Addr) (c : Nat) (sep : ByteArray) (w : World) :
  Calls Tryz.prog 63 #[.slice a 0 c, .string sep] w fun e w' => e = .returned (.string ⟨#[]⟩) ∧ w' = w := Any.strings_Join_none Tryz.lays156 Tryz.Builder_Extra_156 a c sep w
open Go.RowKit in
theorem Tryz.strings_Join (bk o c : Nat) (xs : List ByteArray) (sep : ByteArray) (w : World) (hcells : ∀ (j : Nat) x, xs[j]? = some x → w.cell? ⟨bk, o + j, none⟩ = some (.string x)) (hbk : bk < w.heap.size) (hN : xs.length ≤ 140737488355328) (hcap : xs.length ≤ c) (hlen : (Lib.join (xs.map (·.data.toList)) sep.data.toList).length ≤ 140737488355328) :
  Calls Tryz.prog 63 #[.slice (some ⟨bk, o, none⟩) xs.length c, .string sep] w fun e w' => e = .returned (.string ⟨(Lib.join (xs.map (·.data.toList)) sep.data.toList).toArray⟩) ∧ Below w.heap.size w w' := Any.strings_Join Tryz.lays156 Tryz.Builder_Extra_156 bk o c xs sep w hcells hbk hN hcap hlen
end Go.Proofs
namespace Go.Proofs.YtaflinakodideaaGreat.Ax
open Go.RowKit
theorem join_f (l : List (List UInt8)) (sep : List UInt8) (hp1 : List.length l ≤ 140737488355328) (hp2 : List.length (Lib.join l sep) ≤ 140737488355328) : Fun Tryz.prog 63 [.c (.seq .str l), vT sep] [] (.v (vT (Lib.join l sep))) [] := ⟨callable_of Tryz.func63 (by kernel_rfl) (by kernel_rfl), join_contract Tryz.strings_Join Tryz.strings_Join_none hp1 hp2⟩
theorem good_flat {p : Pln} : ∀ l : List (List Ev), (goodL p l).flatten.length ≤ 2010 * l.length
 | [] => Nat.le_refl _
 | f :: r => by
  rw [goodL_cons]
  have := good_flat (p := p) r
  split
  ·simp
  ·rename_i h
   have := good_len (p := p) (l := f) (by simpa using h)
   rw [List.flatten_cons, List.length_append, List.length_cons]; omega
theorem joined_i (l : List (List UInt8)) (hp1 : List.length l ≤ 140737488355328) (hp2 : List.length (List.flatten l) ≤ 140737488355328) : Fun Tryz.prog 31 [.c (.seq .str l)] [] (.v (vT (List.flatten l))) [] := by
 have hN : bigN = 274877906944 := rfl
 refine fun_ofw Tryz.func31 (by kernel_rfl) (by kernel_rfl) (w := let z1 := vT (Lib.join l []); (.seg [.call [] (.v z1) []] (.leaf () []), (Fun Tryz.prog 63 [.c (.seq .str l), vT []] [] (.v z1) []) ∧ (.v z1 : S) = .v (vT (List.flatten l)) ∧ ([] : List Blk) = [])) (by kernel_rfl) ?_
 exact ⟨(join_f _ _ (by omega) (by rw [join_flat]; omega)), (congrArg S.v (congrArg V.c (congrArg C.str (by rw [join_flat])))), rfl⟩
theorem encode_i (p : Pln) (l : List Ev) (hp1 : EvsB l) : Fun Tryz.prog 12 [.agg (cPln p), .c (.seq .ev l)] [] (.tup [vT (List.flatten (goodL p (divM l))), vI (formed p l).1, vI (formed p l).2]) [] := by
 have hN : bigN = 274877906944 := rfl
 have hvl := hp1.1
 have hdv := divM_b (l := l) _ (Nat.le_refl _)
 have hd1 := hdv.1
 have hgl := goodL_len p (divM l)
 have hgf := good_flat (p := p) (divM l)
 refine fun_ofw Tryz.func12 (by kernel_rfl) (by kernel_rfl) (w := let z1 := goodL p (divM l); let z2 := formed p l; let z3 := List.flatten z1; (.seg [.call [] (.tup [vI z2.1, vI z2.2]) [], .call [] (.v (vO 0)) [.lst .str z1], .call [] (.v (vT z3)) []] (.leaf () []), (Fun Tryz.prog 30 [.agg (cPln p), .c (.seq .ev l)] [] (.tup [vI z2.1, vI z2.2]) []) ∧ (Fun Tryz.prog 32 [.agg (cPln p), .c (.seq .ev l)] [] (.v (vO 0)) [.lst .str z1]) ∧ (Fun Tryz.prog 31 [.c (.seq .str z1)] [] (.v (vT z3)) []) ∧ (.tup [vT z3, vI z2.1, vI z2.2] : S) = .tup [vT z3, vI z2.1, vI z2.2] ∧ ([] : List Blk) = [])) (by kernel_rfl) ?_
 exact ⟨(formed_i p _ (by omega)), (enc_i p _ (by omega)), (joined_i _ (by omega) (by omega)), rfl, rfl⟩
theorem big_ok (l : List Int) (hp1 : ((List.length l : Nat) : Int) ≤ 9223372036854775807) : Fun Tryz.prog 8 [.c (.seq .u8 l)] [] (.v (vB (decide (1048576 < ((List.length l : Nat) : Int))))) [] := by
 have hN : bigN = 274877906944 := rfl
 refine fun_ofw Tryz.func8 (by kernel_rfl) (by kernel_rfl) (w := let z1 := vB (decide (1048576 < ((List.length l : Nat) : Int))); (.leaf () [], (.v z1 : S) = .v z1 ∧ ([] : List Blk) = [])) (by kernel_rfl) ?_
 exact ⟨rfl, rfl⟩
theorem stopN_at : ∀ (b : List Ev) (u : Ev) (i : Nat), (∀ x ∈ b, x.kind ≠ 8) → u.kind = 8 → frameStopN (b ++ [u]) i = ((i + b.length : Nat) : Int)
 | [], u, i, _, hu => by simp [frameStopN, hu]
 | x :: r, u, i, h, hu => by
  rw [List.cons_append, frameStopN, if_neg (h x (List.mem_cons_self ..)), stopN_at r u (i + 1) (fun y hy => h y (List.mem_cons_of_mem _ hy)) hu, List.length_cons, show i + 1 + r.length = i + (r.length + 1) by omega]
theorem bd_kinds {p : Pln} {sh : Int} {b : List Ev} (h : Bd p sh b) : ∀ x ∈ b, x.kind ≠ 8 := by
 induction h with
 | nil => intro x hx; cases hx
 | num hk _ _ ih =>
  intro x hx
  rcases List.mem_cons.1 hx with rfl | hx
  ·omega
  ·exact ih x hx
 | text hk _ hp hs _ ih =>
  intro x hx
  rcases List.mem_cons.1 hx with rfl | hx
  ·omega
  ·rcases List.mem_append.1 hx with hx | hx
   ·have := hp x hx; omega
   ·rcases List.mem_cons.1 hx with rfl | hx
    ·omega
    ·exact ih x hx
 | down hk _ _ hu _ ih1 ih2 =>
  intro x hx
  rcases List.mem_cons.1 hx with rfl | hx
  ·omega
  ·rcases List.mem_append.1 hx with hx | hx
   ·exact ih1 x hx
   ·rcases List.mem_cons.1 hx with rfl | hx
    ·omega
    ·exact ih2 x hx
theorem frErr_zero {p : Pln} {l : List Ev} (h : (frErr p l).1 = 0) : (frameCode p l).1 = 0 := by
 unfold frErr at h
 split at h
 ·cases h
 ·exact h
theorem divM_one {p : Pln} {l : List Ev} (h : (frameCode p l).1 = 0) : divM l = [l] := by
 obtain ⟨hp, e, b, u, hl, hb, hu⟩ := frame_bd h
 have he : e.kind = 1 := by
  rw [hl] at h
  unfold frameCode at h
  dsimp only at h
  split at h
  ·rename_i hc; exact hc.2
  ·cases h
 have hs : frameStop l 0 = ((b.length + 1 : Nat) : Int) := by
  unfold frameStop
  rw [if_neg (by omega)]
  show frameStopN l 0 = _
  rw [hl, frameStopN, if_neg (by omega), stopN_at b u 1 (bd_kinds hb) hu, Nat.add_comm]
 have hll : l.length = b.length + 2 := by rw [hl]; simp
 have hc : cutN l = l.length := by rw [cutN_1 (by omega), hs]; omega
 rw [divM_next (by omega), hc, List.take_length, List.drop_length, divM_nil]
theorem encode_one {p : Pln} {l : List Ev} (h : (frErr p l).1 = 0) : (formed p l).1 = 0 ∧ List.flatten (goodL p (divM l)) = frameOf (bodyOf p l) ∧ frB p l = frameOf (bodyOf p l) := by
 have hf := frErr_zero h
 have hd := divM_one hf
 have hp := (frame_bd hf).1
 refine ⟨?_, ?_, ?_⟩
 ·unfold formed
  rw [if_pos hp, hd, formL, if_neg (by omega)]; rfl
 ·rw [hd, goodL_cons, if_neg (by omega)]
  simp [goodL]
 ·unfold frB; rw [if_pos h]
theorem frB_bad {p : Pln} {l : List Ev} (h : ¬ (frErr p l).1 = 0) : frB p l = [] := by unfold frB; rw [if_neg h]
theorem law_FrameBytes (code : List Int) (hp1 : ((List.length code : Nat) : Int) ≤ 9223372036854775807) : Fun Tryz.prog 3 [.c (.seq .u8 code)] [] (.v (vB true)) [] := by
 have hN : bigN = 274877906944 := rfl
 refine fun_ofw Tryz.func3 (by kernel_rfl) (by kernel_rfl) (w := let z7 := decide (1048576 < ((List.length code : Nat) : Int)); let z8 := ([] : List Blk); (.seg [.call [] (.v (vB z7)) []] (.br (.leaf () []) (.intro (drawFrameBytes_o_p code) fun o1 => let z1 : List V := [vT (frB o1.p o1.l), vI (frErr o1.p o1.l).1, vI (frP o1.p o1.l)]; .seg [.call [] (.tup [.agg (cPln o1.p), vO 0]) [.lst .ev o1.l], .call [] (.tup z1) [], .call [] (.tup z1) [], .br false, .br false, .br false] (.br (.leaf () []) (.seg [.call [] (.tup [vT (List.flatten (goodL o1.p (divM o1.l))), vI (formed o1.p o1.l).1, vI (formed o1.p o1.l).2]) []] (.br (.br (.seg [.call [] (.v (vT (bodyOf o1.p o1.l))) [], .call [] (.v (vT (frameOf (bodyOf o1.p o1.l)))) []] (.leaf () [])) (.leaf () [])) (.leaf () [])))))), (Fun Tryz.prog 8 [.c (.seq .u8 code)] [] (.v (vB z7)) []) ∧ (z7 = true → (.v (vB true) : S) = .v (vB true) ∧ z8 = []) ∧ (z7 = false → In (drawFrameBytes_o_p code) fun o1 => (let z2 := List.flatten (goodL o1.p (divM o1.l)); let z3 := frErr o1.p o1.l; let z4 := formed o1.p o1.l; let z5 := bodyOf o1.p o1.l; let z6 : List V := [vT (frB o1.p o1.l), vI z3.1, vI (frP o1.p o1.l)]; (drawFrameBytes_o_f code o1) ∧ (Fun Tryz.prog 10 [.agg (cPln o1.p), .c (.seq .ev o1.l)] [] (.tup z6) []) ∧ (Fun Tryz.prog 11 [.agg (cPln o1.p), .c (.seq .ev o1.l)] [] (.tup z6) []) ∧ ((!decide (frB o1.p o1.l = frB o1.p o1.l)) = false) ∧ ((!decide (z3.1 = z3.1)) = false) ∧ ((!decide (frP o1.p o1.l = frP o1.p o1.l)) = false) ∧ ((!decide (z3.1 = 0)) = true → (.v (vB (decide (frB o1.p o1.l = []))) : S) = .v (vB true) ∧ z8 = []) ∧ ((!decide (z3.1 = 0)) = false → (Fun Tryz.prog 12 [.agg (cPln o1.p), .c (.seq .ev o1.l)] [] (.tup [vT z2, vI z4.1, vI z4.2]) []) ∧ ((decide (z4.1 = 0)) = true → ((decide (z2 = frB o1.p o1.l)) = true → (Fun Tryz.prog 14 [.agg (cPln o1.p), .c (.seq .ev o1.l)] [] (.v (vT z5)) []) ∧ (Fun Tryz.prog 13 [vT z5] [] (.v (vT (frameOf z5))) []) ∧ (.v (vB (decide (frB o1.p o1.l = frameOf z5))) : S) = .v (vB true) ∧ z8 = []) ∧ ((decide (z2 = frB o1.p o1.l)) = false → (.v (vB false) : S) = .v (vB true) ∧ z8 = [])) ∧ ((decide (z4.1 = 0)) = false → (.v (vB false) : S) = .v (vB true) ∧ z8 = [])))))) (by kernel_rfl) ?_
 refine ⟨(big_ok _ (by omega)), dsp (fun h1 p1 => ?_) fun h1 p1 => ?_⟩
 exact ⟨rfl, rfl⟩
 refine ⟨(drawFrameBytes_o code (by omega)), fun o1 ho_o1 => ?_⟩
 obtain ⟨⟨hp_o1_0, hp_o1_1, hp_o1_2, hp_o1_3⟩, hf_o1⟩ := ho_o1
 refine ⟨hf_o1, (frBytes_i o1.p _ (⟨by omega, by omega, hp_o1_3⟩)), (frBytes_s o1.p _ (⟨by omega, by omega, hp_o1_3⟩)), (by simp), (by simp), (by simp), fun h2 => have q2 := bnot_t h2; have p2 := of_decide_eq_false q2; ?_, fun h2 => have q2 := bnot_f h2; have p2 := of_decide_eq_true q2; ?_⟩
 have hfb := frB_bad p2
 refine ⟨(sB ?_), rfl⟩
 rotate_left
 have heo := encode_one p2
 refine ⟨(encode_i o1.p _ (⟨by omega, by omega, hp_o1_3⟩)), dsp (fun h3 p3 => ?_) fun h3 p3 => ?_⟩
 refine dsp (fun h4 p4 => ?_) fun h4 p4 => ?_
 refine ⟨(bodyOf_i o1.p _ (⟨by omega, by omega, hp_o1_3⟩)), (frameOf_i _ (by have := bodyOf_len (p := o1.p) (l := o1.l) ⟨by omega, by omega, hp_o1_3⟩; omega)), (sB ?_), rfl⟩
 rotate_left
 refine ⟨(sB ?_), rfl⟩
 rotate_left
 refine ⟨(sB ?_), rfl⟩
 rotate_left
 all_goals first | (rfl) | ((simp [hfb]; done)) | ((simp [heo.1, heo.2.1, heo.2.2]; done)) | ((exfalso; exact absurd heo.1 (by assumption))) | ((exfalso; simp_all; done)) | (grind)
end Go.Proofs.YtaflinakodideaaGreat.Ax
namespace Go.Proofs.YtaflinakodideaaGreat.Ax
open Go.ChangeShapes Go.WideShapes Go.ChangeAt Go.RowKit
theorem cof_uint8 : Tryz.prog.cellsOf 5 = 1 := by kernel_rfl
theorem e_u8 {H : Type} {tok : TypeId × Value → H} {w : World} {sp : Nat → Bool} {held : Bool} (fuel : Nat) (cs : List Value) (x : DataW H × List MemPlace) (hl : cs.length = 1) (h : DataW.trod tok Tryz.prog w 0 sp held fuel 5 cs = some x) : ∃ y : Int, All2 Rep0 (enc .u8 y) cs ∧ (0 ≤ y ∧ y ≤ 255) := by
 obtain ⟨i, rfl, _, hw⟩ := DataW.trod_int Tryz.underlying5 h
 exact ⟨i, .cons rfl .nil, bounds_u8 hw⟩
end Go.Proofs.YtaflinakodideaaGreat.Ax
