/- Drawn plans. Drawn numbers. Drawn texts. -/
import Derived.Test.YtaflinakodideaaGreatKFnMsgDeep4
set_option linter.unusedSimpArgs false
set_option linter.unusedVariables false
namespace Go.Proofs.YtaflinakodideaaGreat.Ax
open Go.RowKit
structure l8Right_o_O where
 l : List Shp
 c1 : Cur
def l8Right_o_f (c : Cur) (o : l8Right_o_O) : Prop := Fun Tryz.prog 67 [vP 0] [.cells (cCur c)] (.v (.agg [.own 1])) [.cells (cCur o.c1), .tree o.l]
def l8Right_o_p (c : Cur) (o : l8Right_o_O) : Prop := ((SchG o.l) ∧ (1 ≤ List.length o.l) ∧ (List.length o.l ≤ 3) ∧ (CurOk o.c1)) ∧ l8Right_o_f c o
theorem l8Right_o (c : Cur) (hp1 : CurOk c) : ∃ o : l8Right_o_O, l8Right_o_p c o := by
 have hN : bigN = 274877906944 := rfl
 refine funs_ofw Tryz.func67 (by kernel_rfl) (by kernel_rfl) (w := (.intro (l6Right_o_p c) fun o1 => .seg [.call [0] (.v (.agg [.own 1])) [.cells (cCur o1.c1), .tree o1.r.msgs]] (.intro (compile_o_p o1.r) fun o2 => .seg [.call [] (.tup [.agg [.own 0], .agg [.int .i64 0, .int .i64 0, .int .i64 0]]) [.tree o2.l]] (.leaf (⟨o2.l, o1.c1⟩ : l8Right_o_O) [0, 3])), In (l6Right_o_p c) fun o1 => ((l6Right_o_f c o1) ∧ In (compile_o_p o1.r) fun o2 => ((compile_o_f o1.r o2) ∧ ((SchG o2.l) ∧ (1 ≤ List.length o2.l) ∧ (List.length o2.l ≤ 3) ∧ (CurOk o1.c1)) ∧ (.v (.agg [.own 1]) : S) = .v (.agg [.own 1]) ∧ ([.cells (cCur o1.c1), .tree o2.l] : List Blk) = [.cells (cCur o1.c1), .tree o2.l])))) (by kernel_rfl) ?_
 refine ⟨(l6Right_o c (by first | assumption | (exact ⟨by dsimp only; first | omega | (have := hp1.1; omega), hp1.2⟩))), fun o1 ho_o1 => ?_⟩
 obtain ⟨⟨hp_o1_0, hp_o1_1⟩, hf_o1⟩ := ho_o1
 refine ⟨hf_o1, (compile_o o1.r (by omega)), fun o2 ho_o2 => ?_⟩
 obtain ⟨hp_o2, hf_o2⟩ := ho_o2
 exact ⟨hf_o2, ⟨(by omega), (hp_o2.1.1), (hp_o2.1.2), (by first | assumption | (exact ⟨by dsimp only; first | omega | (have := hp1.1; omega), hp1.2⟩))⟩, rfl, rfl⟩
structure l1PickInt_w_O where
 x : Int
 c1 : Cur
def l1PickInt_w_f (c : Cur) (l : List Int) (o : l1PickInt_w_O) : Prop := Fun Tryz.prog 41 [vP 0, vO 1] [.cells (cCur c), .lst .int l] (.v (vI o.x)) [.cells (cCur o.c1), .lst .int l]
def l1PickInt_w_p (c : Cur) (l : List Int) (o : l1PickInt_w_O) : Prop := ((o.x ∈ l) ∧ (CurOk o.c1)) ∧ l1PickInt_w_f c l o
theorem l1PickInt_w (c : Cur) (l : List Int) (hp1 : CurOk c) (hp2 : 1 ≤ List.length l) (hp3 : List.length l ≤ 1000) : ∃ o : l1PickInt_w_O, l1PickInt_w_p c l o := by
 have hN : bigN = 274877906944 := rfl
 refine funs_ofw Tryz.func41 (by kernel_rfl) (by kernel_rfl) (w := let z1 := ((List.length l : Nat) : Int); (.intro (l1Below_o_p c z1) fun o1 => .seg [.call [0] (.v (vI o1.x)) [.cells (cCur o1.c1)]] (.intro (fun (x1 : Int) => l[Int.toNat o1.x]? = some x1) fun x1 => .seg [.el .int x1] (.leaf (⟨x1, o1.c1⟩ : l1PickInt_w_O) [0, 1])), In (l1Below_o_p c z1) fun o1 => ((l1Below_o_f c z1 o1) ∧ (∃ (x1 : Int), l[Int.toNat o1.x]? = some x1) ∧ ∀ (x1 : Int), (l[Int.toNat o1.x]? = some x1) → ((o1.x < z1) ∧ ((0 : Int) ≤ o1.x) ∧ (l[Int.toNat o1.x]? = some x1) ∧ ((x1 ∈ l) ∧ (CurOk o1.c1)) ∧ (.v (vI x1) : S) = .v (vI x1) ∧ ([.cells (cCur o1.c1), .lst .int l] : List Blk) = [.cells (cCur o1.c1), .lst .int l])))) (by kernel_rfl) ?_
 refine ⟨(l1Below_o c ((List.length l : Nat) : Int) (by first | assumption | (exact ⟨by dsimp only; first | omega | (have := hp1.1; omega), hp1.2⟩))), fun o1 ho_o1 => ?_⟩
 obtain ⟨⟨hp_o1_0, hp_o1_1, hp_o1_2, hp_o1_3⟩, hf_o1⟩ := ho_o1
 refine ⟨hf_o1, (ax_get (l := l) (i := Int.toNat o1.x) (by omega)), fun x1 hx1 => ?_⟩
 exact ⟨(by omega), (by omega), hx1, ⟨(List.mem_of_getElem? hx1), (by first | assumption | (exact ⟨by dsimp only; first | omega | (have := hp1.1; omega), hp1.2⟩))⟩, rfl, rfl⟩
structure l12Plan_o_O where
 p : Pln
 c1 : Cur
def l12Plan_o_f (c : Cur) (o : l12Plan_o_O) : Prop := Fun Tryz.prog 36 [vP 0] [.cells (cCur c)] (.v (.agg (cPln o.p))) [.cells (cCur o.c1)]
def l12Plan_o_p (c : Cur) (o : l12Plan_o_O) : Prop := ((PlnG o.p) ∧ (CurOk o.c1)) ∧ l12Plan_o_f c o
theorem l12Plan_o (c : Cur) (hp1 : CurOk c) : ∃ o : l12Plan_o_O, l12Plan_o_p c o := by
 have hN : bigN = 274877906944 := rfl
 refine funs_ofw Tryz.func36 (by kernel_rfl) (by kernel_rfl) (w := let zi : Int → C := .int .i64; let z8 := ([(2, .v (vP 1))] : List (Nat × S)) = [(2, .v (vP 1))]; (.intro (l8Right_o_p c) fun o1 => .seg [.call [0] (.v (.agg [.own 1])) [.cells (cCur o1.c1), .tree o1.l]] (.intro (l1Below_o_p o1.c1 ((List.length o1.l : Nat) : Int)) fun o2 => .intro (l1Below_o_p o2.c1 4) fun o3 => .intro (l1PickInt_w_p o3.c1 [60, 60, 2000, 200, 5, 0]) fun o4 => let z1 : List Blk := [.cells (cCur o4.c1), .lst .int [60, 60, 2000, 200, 5, 0]]; .seg [.tree (fr (.first 6 (.first 9 (.two 5 (.two 7 (.first 8 (.one 10 (.one 11 (.first 12 (.one 13 (.done)))))) 10 (.one 7 (.first 8 (.one 11 (.first 12 (.one 13 (.done))))))) 10 (.one 5 (.one 7 (.first 8 (.one 11 (.first 12 (.one 13 (.done)))))))))) 0 5) 13 [0], .call [0] (.v (vI o2.x)) [.cells (cCur o2.c1)], .call [0] (.v (vI o3.x)) [.cells (cCur o3.c1)], .as 14 (.v (vI (1 + o3.x))), .ty .int, .call [0, 4] (.v (vI o4.x)) z1, .at 0, .keep [2], .sel [0, 1, 2], .ty .int, .call [0] (.v (vI o3.x)) [.cells (cCur o3.c1)], .as 14 (.v (vI (1 + o3.x))), .call [0, 4] (.v (vI o4.x)) z1, .at 0, .keep [2], .sel [0, 1, 2], .ty .int, .call [0] (.v (vI o2.x)) [.cells (cCur o2.c1)], .call [0] (.v (vI o3.x)) [.cells (cCur o3.c1)], .as 14 (.v (vI (1 + o3.x))), .call [0, 4] (.v (vI o4.x)) z1, .at 0, .keep [2], .sel [0, 1, 2], .at 0, .pub 1 0] (.leaf (⟨(⟨o1.l, o2.x, 1 + o3.x, o4.x⟩ : Pln), o4.c1⟩ : l12Plan_o_O) [0])), In (l8Right_o_p c) fun o1 => (let z7 := ((List.length o1.l : Nat) : Int); (l8Right_o_f c o1) ∧ In (l1Below_o_p o1.c1 z7) fun o2 => (let z6 := l1Below_o_f o1.c1 z7 o2; In (l1Below_o_p o2.c1 4) fun o3 => (let z4 := (.v (vI (IntKind.i64.wrap (1 + o3.x))) : S) = .v (vI (1 + o3.x)); let z5 := l1Below_o_f o2.c1 4 o3; In (l1PickInt_w_p o3.c1 [60, 60, 2000, 200, 5, 0]) fun o4 => (let z2 : List Blk := [.cells (cCur o4.c1), .cells [.own 2, zi o2.x, zi (1 + o3.x), zi o4.x], .tree o1.l]; let z3 := l1PickInt_w_f o3.c1 [60, 60, 2000, 200, 5, 0] o4; z6 ∧ z5 ∧ z4 ∧ z3 ∧ z5 ∧ z4 ∧ z3 ∧ ((z2 : List Blk) = z2) ∧ z8 ∧ z6 ∧ z5 ∧ z4 ∧ z3 ∧ ((z2 : List Blk) = z2) ∧ z8 ∧ ((PlnG (⟨o1.l, o2.x, 1 + o3.x, o4.x⟩ : Pln)) ∧ (CurOk o4.c1)) ∧ (.v (.agg [.seq .shp o1.l, zi o2.x, zi (1 + o3.x), zi o4.x]) : S) = .v (.agg [.seq .shp o1.l, zi o2.x, zi (1 + o3.x), zi o4.x]) ∧ ([.cells (cCur o4.c1)] : List Blk) = [.cells (cCur o4.c1)])))))) (by kernel_rfl) ?_
 refine ⟨(l8Right_o c (by first | assumption | (exact ⟨by dsimp only; first | omega | (have := hp1.1; omega), hp1.2⟩))), fun o1 ho_o1 => ?_⟩
 obtain ⟨⟨hp_o1_0, hp_o1_1, hp_o1_2, hp_o1_3⟩, hf_o1⟩ := ho_o1
 refine ⟨hf_o1, (l1Below_o o1.c1 ((List.length o1.l : Nat) : Int) (by first | assumption | (exact ⟨by dsimp only; first | omega | (have := hp1.1; omega), hp1.2⟩))), fun o2 ho_o2 => ?_⟩
 obtain ⟨⟨hp_o2_0, hp_o2_1, hp_o2_2, hp_o2_3⟩, hf_o2⟩ := ho_o2
 refine ⟨(l1Below_o o2.c1 4 (by first | assumption | (exact ⟨by dsimp only; first | omega | (have := hp1.1; omega), hp1.2⟩))), fun o3 ho_o3 => ?_⟩
 obtain ⟨⟨hp_o3_0, hp_o3_1, hp_o3_2, hp_o3_3⟩, hf_o3⟩ := ho_o3
 refine ⟨(l1PickInt_w o3.c1 [60, 60, 2000, 200, 5, 0] (by first | assumption | (exact ⟨by dsimp only; first | omega | (have := hp1.1; omega), hp1.2⟩)) (by simp only [List.length_cons, List.length_nil]; omega) (by simp only [List.length_cons, List.length_nil]; omega)), fun o4 ho_o4 => ?_⟩
 obtain ⟨⟨hp_o4_0, hp_o4_1⟩, hf_o4⟩ := ho_o4
 exact ⟨hf_o2, hf_o3, (as_i64 (by omega) (by omega)), hf_o4, hf_o3, (as_i64 (by omega) (by omega)), hf_o4, rfl, rfl, hf_o2, hf_o3, (as_i64 (by omega) (by omega)), hf_o4, rfl, rfl, ⟨(⟨by assumption, by dsimp only; have := hp_o1_0.1; omega, by dsimp only; omega, by have hpk := hp_o4_0; simp at hpk; dsimp only; omega⟩), (by first | assumption | (exact ⟨by dsimp only; first | omega | (have := hp1.1; omega), hp1.2⟩))⟩, rfl, rfl⟩
theorem wrap_u64b (x : Int) : 0 ≤ IntKind.u64.wrap x ∧ IntKind.u64.wrap x ≤ 18446744073709551615 := by
 rw [IntKind.wrap_u64]; omega
theorem getl_u64 {l : List Int} (hl : (l.all fun x => decide (0 ≤ x) && decide (x ≤ 18446744073709551615)) = true) {i : Nat} {x : Int} (h : l[i]? = some x) : 0 ≤ x ∧ x ≤ 18446744073709551615 := by
 have := List.all_eq_true.1 hl x (List.mem_of_getElem? h)
 simpa using this
theorem putVar_bd {u : Int} (h : 0 ≤ u ∧ u ≤ 18446744073709551615) : 1 ≤ (putVar u).length ∧ (putVar u).length ≤ 10 := by
 have := varLen_b (u := u) (by omega)
 unfold varLen at this
 omega
theorem varLen_s (u : Int) (hp1 : (0 : Int) ≤ u ∧ u ≤ 18446744073709551615) : Fun Tryz.prog 24 [.c (.int .u64 u)] [] (.v (vI (varLen u))) [] := by
 have hN : bigN = 274877906944 := rfl
 have hpl := putVar_bd hp1
 refine fun_ofw Tryz.func24 (by kernel_rfl) (by kernel_rfl) (w := (.seg [.call [] (.v (vT (putVar u))) []] (.leaf () []), (Fun Tryz.prog 54 [.c (.int .u64 u)] [] (.v (vT (putVar u))) []) ∧ (.v (vI ((List.length (putVar u) : Nat) : Int)) : S) = .v (vI (varLen u)) ∧ ([] : List Blk) = [])) (by kernel_rfl) ?_
 exact ⟨(putVar_s _ (by omega)), (congrArg S.v (congrArg V.c (congrArg (C.int .i64) (by rfl)))), rfl⟩
structure padVar_o_O where
 t : List UInt8
def padVar_o_f (u : Int) (n : Int) (o : padVar_o_O) : Prop := Fun Tryz.prog 159 [.c (.int .u64 u), vI n] [] (.v (vT o.t)) []
def padVar_o_p (u : Int) (n : Int) (o : padVar_o_O) : Prop := ((List.length (o.t : List UInt8) ≤ 10)) ∧ padVar_o_f u n o
structure padVar_o_V0 where
 out : List Int
def padVar_o_F0 (n : Int) : Fam := ⟨padVar_o_V0, fun q1 => [(1, .v (vI n)), (5, .v (vO 0))], fun q1 => [.lst .u8 q1.out], fun q1 => 1 ≤ List.length q1.out ∧ List.length q1.out ≤ 10, fun q1 => 10 - List.length q1.out⟩
theorem padVar_o (u : Int) (n : Int) (hp1 : (0 : Int) ≤ u ∧ u ≤ 18446744073709551615) : ∃ o : padVar_o_O, padVar_o_p u n o := by
 have hN : bigN = 274877906944 := rfl
 have hpl := putVar_bd hp1
 refine funs_ofw Tryz.func159 (by kernel_rfl) (by kernel_rfl) (w := let z7 := List.map (fun b => (UInt8.toNat b : Int)) (putVar u); let z6 := ((List.length z7 : Nat) : Int); let z8 := within n z6 10; let z9 := padVar_o_F0 n; (.seg [.call [] (.v (vT (putVar u))) [], .call [] (.v (vB z8)) []] (.br (.leaf (⟨[]⟩ : padVar_o_O) []) (.seg [.at 0, .keep [1, 5], .sel [0]] (.loop z9 fun q1 => let z3 := ((List.length q1.out : Nat) : Int) - 1; .br (.seg [.as 21 (.v (vI z3)), .as 25 (.v (vI z3))] (.intro (fun (x1 : Int) => q1.out[Int.toNat z3]? = some x1) fun x1 => .seg [.el .u8 x1, .el .u8 x1, .ty .u8, .ty .u8, .at 0, .keep [1, 5], .sel [2]] (.next))) (.leaf (⟨List.map toByte q1.out⟩ : padVar_o_O) [])))), (Fun Tryz.prog 54 [.c (.int .u64 u)] [] (.v (vT (putVar u))) []) ∧ (List.length (putVar u) ≤ bigN) ∧ (Fun Tryz.prog 45 [vI n, vI z6, vI 10] [] (.v (vB z8)) []) ∧ ((!z8) = true → ((List.length ([] : List UInt8) ≤ 10)) ∧ (.v (vT []) : S) = .v (vT []) ∧ ([] : List Blk) = []) ∧ ((!z8) = false → z9.Has [(1, .v (vI n)), (5, .v (vO 0))] [.lst .u8 z7] ∧ ∀ q1, z9.inv q1 → (let z4 := ((List.length q1.out : Nat) : Int); let z5 := List.map toByte q1.out; ((decide (z4 < n)) = true → ((.v (vI (IntKind.i64.wrap (z4 - 1))) : S) = .v (vI (z4 - 1))) ∧ ((.v (vI (IntKind.i64.wrap (z4 - 1))) : S) = .v (vI (z4 - 1))) ∧ (∃ (x1 : Int), q1.out[Int.toNat (z4 - 1)]? = some x1) ∧ ∀ (x1 : Int), (q1.out[Int.toNat (z4 - 1)]? = some x1) → (let z1 := List.set q1.out (Int.toNat (z4 - 1)) (IntKind.u8.wrap (x1 + 128)); let z2 := q1.out[Int.toNat (z4 - 1)]? = some x1; (z4 - 1 < z4) ∧ ((0 : Int) ≤ z4 - 1) ∧ z2 ∧ (z4 - 1 < z4) ∧ ((0 : Int) ≤ z4 - 1) ∧ z2 ∧ (List.length z1 + List.length [0] ≤ bigN) ∧ z9.Nxt q1 [(1, .v (vI n)), (5, .v (vO 0))] [.lst .u8 (z1 ++ [0])])) ∧ ((decide (z4 < n)) = false → ((List.length (z5 : List UInt8) ≤ 10)) ∧ (.v (vT z5) : S) = .v (vT z5) ∧ ([] : List Blk) = []))))) (by kernel_rfl) ?_
 refine ⟨(putVar_s _ (by omega)), (by omega), (within_s _ _ _), fun h1 => have q1 := bnot_t h1; have p1 := within_f q1; ?_, fun h1 => have q1 := bnot_f h1; have p1 := within_t q1; ?_⟩
 exact ⟨(by simp only [List.length_cons, List.length_nil]; omega), rfl, rfl⟩
 refine ⟨has_of (j := (⟨List.map (fun b => (UInt8.toNat b : Int)) (putVar u)⟩ : padVar_o_V0)) rfl rfl (by dsimp only [padVar_o_F0]; exact ⟨by simp; omega, by simp; omega⟩), fun (q1 : padVar_o_V0) hq_q1 => ?_⟩
 have hi_q1 : 1 ≤ List.length q1.out ∧ List.length q1.out ≤ 10 := hq_q1
 obtain ⟨v1, v2⟩ := hi_q1
 refine dsp (fun h2 p2 => ?_) fun h2 p2 => ?_
 refine ⟨(as_i64 (by omega) (by omega)), (as_i64 (by omega) (by omega)), (ax_get (l := q1.out) (i := Int.toNat (((List.length q1.out : Nat) : Int) - 1)) (by omega)), fun x1 hx1 => ?_⟩
 exact ⟨(by omega), (by omega), hx1, (by omega), (by omega), hx1, (by simp only [List.length_set, List.length_cons, List.length_nil]; omega), nxt_of (j := (⟨(List.set q1.out (Int.toNat (((List.length q1.out : Nat) : Int) - 1)) (IntKind.u8.wrap (x1 + 128))) ++ [0]⟩ : padVar_o_V0)) rfl rfl (by dsimp only [padVar_o_F0]; exact ⟨by simp, by simp; omega⟩) (by dsimp only [padVar_o_F0]; simp; omega)⟩
 exact ⟨(by simp only [List.length_map]; omega), rfl, rfl⟩
structure l1Wide_o_O where
 x : Int
 c1 : Cur
def l1Wide_o_f (c : Cur) (o : l1Wide_o_O) : Prop := Fun Tryz.prog 118 [vP 0] [.cells (cCur c)] (.v (.c (.int .u64 o.x))) [.cells (cCur o.c1)]
def l1Wide_o_p (c : Cur) (o : l1Wide_o_O) : Prop := (((0 : Int) ≤ o.x ∧ o.x ≤ 18446744073709551615) ∧ (CurOk o.c1)) ∧ l1Wide_o_f c o
structure l1Wide_o_V0 where
 c : Cur
 u : Int
 i : Nat
def l1Wide_o_F0  : Fam := ⟨l1Wide_o_V0, fun q1 => [(0, .v (vP 0)), (3, .v (.c (.int .u64 q1.u))), (4, .v (vI ((q1.i : Nat) : Int)))], fun q1 => [.cells (cCur q1.c)], fun q1 => CurOk q1.c ∧ q1.i ≤ 8 ∧ ((0 : Int) ≤ q1.u ∧ q1.u ≤ 18446744073709551615), fun q1 => 8 - q1.i⟩
theorem l1Wide_o (c : Cur) (hp1 : CurOk c) : ∃ o : l1Wide_o_O, l1Wide_o_p c o := by
 have hN : bigN = 274877906944 := rfl
 refine funs_ofw Tryz.func118 (by kernel_rfl) (by kernel_rfl) (w := let z2 := l1Wide_o_F0; (.intro (l1Below_o_p c 4) fun o1 => .seg [.call [0] (.v (vI o1.x)) [.cells (cCur o1.c1)]] (.br (.seg [.ty .u64] (.intro (l1Below_o_p o1.c1 12) fun o2 => .seg [.call [0] (.v (vI o2.x)) [.cells (cCur o2.c1)]] (.intro (fun (x1 : Int) => [0, 1, 127, 128, 16383, 16384, 2147483647, 4294967295, 4294967296, 9223372036854775807, 9223372036854775808, 18446744073709551615][Int.toNat o2.x]? = some x1) fun x1 => .seg [.el .u64 x1] (.leaf (⟨x1, o2.c1⟩ : l1Wide_o_O) [0])))) (.br (.seg [.at 0, .keep [0, 3, 4], .sel [0]] (.loop z2 fun q1 => .br (.intro (l1Byte_o_p q1.c) fun o2 => .seg [.call [0] (.v (vI o2.x)) [.cells (cCur o2.c1)], .as 24 (.v (.c (.int .u64 o2.x))), .as 19 (.v (vI (((q1.i : Nat) : Int) + 1))), .at 0, .keep [0, 3, 4], .sel [0]] (.next)) (.leaf (⟨q1.u, q1.c⟩ : l1Wide_o_O) [0]))) (.intro (l1Below_o_p o1.c1 300) fun o2 => .seg [.call [0] (.v (vI o2.x)) [.cells (cCur o2.c1)], .as 29 (.v (.c (.int .u64 o2.x)))] (.leaf (⟨o2.x, o2.c1⟩ : l1Wide_o_O) [0])))), In (l1Below_o_p c 4) fun o1 => ((l1Below_o_f c 4 o1) ∧ ((decide (o1.x = 0)) = true → In (l1Below_o_p o1.c1 12) fun o2 => ((l1Below_o_f o1.c1 12 o2) ∧ (∃ (x1 : Int), [0, 1, 127, 128, 16383, 16384, 2147483647, 4294967295, 4294967296, 9223372036854775807, 9223372036854775808, 18446744073709551615][Int.toNat o2.x]? = some x1) ∧ ∀ (x1 : Int), ([0, 1, 127, 128, 16383, 16384, 2147483647, 4294967295, 4294967296, 9223372036854775807, 9223372036854775808, 18446744073709551615][Int.toNat o2.x]? = some x1) → ((o2.x < ((List.length [0, 1, 127, 128, 16383, 16384, 2147483647, 4294967295, 4294967296, 9223372036854775807, 9223372036854775808, 18446744073709551615] : Nat) : Int)) ∧ ((0 : Int) ≤ o2.x) ∧ ([0, 1, 127, 128, 16383, 16384, 2147483647, 4294967295, 4294967296, 9223372036854775807, 9223372036854775808, 18446744073709551615][Int.toNat o2.x]? = some x1) ∧ (((0 : Int) ≤ x1 ∧ x1 ≤ 18446744073709551615) ∧ (CurOk o2.c1)) ∧ (.v (.c (.int .u64 x1)) : S) = .v (.c (.int .u64 x1)) ∧ ([.cells (cCur o2.c1)] : List Blk) = [.cells (cCur o2.c1)]))) ∧ ((decide (o1.x = 0)) = false → ((decide (o1.x = 1)) = true → z2.Has [(0, .v (vP 0)), (3, .v (.c (.int .u64 0))), (4, .v (vI 0))] [.cells (cCur o1.c1)] ∧ ∀ q1, z2.inv q1 → (let z1 := ((q1.i : Nat) : Int); ((decide (z1 < 8)) = true → In (l1Byte_o_p q1.c) fun o2 => ((l1Byte_o_f q1.c o2) ∧ ((.v (.c (.int .u64 (IntKind.u64.wrap (o2.x)))) : S) = .v (.c (.int .u64 o2.x))) ∧ ((.v (vI (IntKind.i64.wrap (z1 + 1))) : S) = .v (vI (z1 + 1))) ∧ z2.Nxt q1 [(0, .v (vP 0)), (3, .v (.c (.int .u64 (IntKind.u64.wrap ((IntKind.u64.wrap (256 * q1.u)) + o2.x))))), (4, .v (vI (z1 + 1)))] [.cells (cCur o2.c1)])) ∧ ((decide (z1 < 8)) = false → (((0 : Int) ≤ q1.u ∧ q1.u ≤ 18446744073709551615) ∧ (CurOk q1.c)) ∧ (.v (.c (.int .u64 q1.u)) : S) = .v (.c (.int .u64 q1.u)) ∧ ([.cells (cCur q1.c)] : List Blk) = [.cells (cCur q1.c)]))) ∧ ((decide (o1.x = 1)) = false → In (l1Below_o_p o1.c1 300) fun o2 => ((l1Below_o_f o1.c1 300 o2) ∧ ((.v (.c (.int .u64 (IntKind.u64.wrap (o2.x)))) : S) = .v (.c (.int .u64 o2.x))) ∧ (((0 : Int) ≤ o2.x ∧ o2.x ≤ 18446744073709551615) ∧ (CurOk o2.c1)) ∧ (.v (.c (.int .u64 o2.x)) : S) = .v (.c (.int .u64 o2.x)) ∧ ([.cells (cCur o2.c1)] : List Blk) = [.cells (cCur o2.c1)])))))) (by kernel_rfl) ?_
 refine ⟨(l1Below_o c 4 (by first | assumption | (exact ⟨by dsimp only; first | omega | (have := hp1.1; omega), hp1.2⟩))), fun o1 ho_o1 => ?_⟩
 obtain ⟨⟨hp_o1_0, hp_o1_1, hp_o1_2, hp_o1_3⟩, hf_o1⟩ := ho_o1
 refine ⟨hf_o1, dsp (fun h1 p1 => ?_) fun h1 p1 => ?_⟩
 refine ⟨(l1Below_o o1.c1 12 (by first | assumption | (exact ⟨by dsimp only; first | omega | (have := hp1.1; omega), hp1.2⟩))), fun o2 ho_o2 => ?_⟩
 obtain ⟨⟨hp_o2_0, hp_o2_1, hp_o2_2, hp_o2_3⟩, hf_o2⟩ := ho_o2
 refine ⟨hf_o2, (ax_get (l := [0, 1, 127, 128, 16383, 16384, 2147483647, 4294967295, 4294967296, 9223372036854775807, 9223372036854775808, 18446744073709551615]) (i := Int.toNat o2.x) (by simp only [List.length_cons, List.length_nil]; omega)), fun x1 hx1 => ?_⟩
 refine ⟨(by simp only [List.length_cons, List.length_nil]; omega), (by omega), ?_⟩
 have hwx := getl_u64 (by decide) hx1
 exact ⟨hx1, ⟨(by omega), (by first | assumption | (exact ⟨by dsimp only; first | omega | (have := hp1.1; omega), hp1.2⟩))⟩, rfl, rfl⟩
 refine dsp (fun h2 p2 => ?_) fun h2 p2 => ?_
 refine ⟨has_of (j := (⟨o1.c1, 0, 0⟩ : l1Wide_o_V0)) (by first | rfl | simp) rfl (by dsimp only [l1Wide_o_F0]; exact ⟨by assumption, by omega, by omega⟩), fun (q1 : l1Wide_o_V0) hq_q1 => ?_⟩
 have hi_q1 : CurOk q1.c ∧ q1.i ≤ 8 ∧ ((0 : Int) ≤ q1.u ∧ q1.u ≤ 18446744073709551615) := hq_q1
 obtain ⟨v1, v2, v3⟩ := hi_q1
 refine dsp (fun h3 p3 => ?_) fun h3 p3 => ?_
 refine ⟨(l1Byte_o q1.c (by first | assumption | (exact ⟨by dsimp only; first | omega | (have := hp1.1; omega), hp1.2⟩))), fun o2 ho_o2 => ?_⟩
 obtain ⟨⟨hp_o2_0, hp_o2_1⟩, hf_o2⟩ := ho_o2
 exact ⟨hf_o2, (as_u64 (by omega) (by omega)), (as_i64 (by omega) (by omega)), nxt_of (j := (⟨o2.c1, IntKind.u64.wrap ((IntKind.u64.wrap (256 * q1.u)) + o2.x), q1.i + 1⟩ : l1Wide_o_V0)) (by first | rfl | simp) rfl (by dsimp only [l1Wide_o_F0]; exact ⟨by assumption, by omega, wrap_u64b _⟩) (by dsimp only [l1Wide_o_F0]; omega)⟩
 exact ⟨⟨(by omega), (by first | assumption | (exact ⟨by dsimp only; first | omega | (have := hp1.1; omega), hp1.2⟩))⟩, rfl, rfl⟩
 refine ⟨(l1Below_o o1.c1 300 (by first | assumption | (exact ⟨by dsimp only; first | omega | (have := hp1.1; omega), hp1.2⟩))), fun o2 ho_o2 => ?_⟩
 obtain ⟨⟨hp_o2_0, hp_o2_1, hp_o2_2, hp_o2_3⟩, hf_o2⟩ := ho_o2
 exact ⟨hf_o2, (as_u64 (by omega) (by omega)), ⟨(by omega), (by first | assumption | (exact ⟨by dsimp only; first | omega | (have := hp1.1; omega), hp1.2⟩))⟩, rfl, rfl⟩
structure l2Var_o_O where
 t : List UInt8
 c1 : Cur
def l2Var_o_f (c : Cur) (u : Int) (o : l2Var_o_O) : Prop := Fun Tryz.prog 116 [vP 0, .c (.int .u64 u)] [.cells (cCur c)] (.v (vT o.t)) [.cells (cCur o.c1)]
def l2Var_o_p (c : Cur) (u : Int) (o : l2Var_o_O) : Prop := ((List.length (o.t : List UInt8) ≤ 10) ∧ (CurOk o.c1)) ∧ l2Var_o_f c u o
theorem l2Var_o (c : Cur) (u : Int) (hp1 : CurOk c) (hp2 : (0 : Int) ≤ u ∧ u ≤ 18446744073709551615) : ∃ o : l2Var_o_O, l2Var_o_p c u o := by
 have hN : bigN = 274877906944 := rfl
 have hpl := putVar_bd hp2
 have hvl : varLen u = (((putVar u).length : Nat) : Int) := rfl
 refine funs_ofw Tryz.func116 (by kernel_rfl) (by kernel_rfl) (w := let z3 := vT (putVar u); let z4 := List.length ((putVar u) : List UInt8) ≤ 10; (.intro (l1Once_o_p c 4) fun o1 => .seg [.call [0] (.v (vB o1.p)) [.cells (cCur o1.c1)]] (.br (.seg [.call [] (.v (vI (varLen u))) []] (.intro (l1Below_o_p o1.c1 3) fun o2 => .seg [.call [0] (.v (vI o2.x)) [.cells (cCur o2.c1)], .as 13 (.v (vI ((varLen u) + o2.x)))] (.intro (padVar_o_p u ((varLen u) + o2.x)) fun o3 => .seg [.call [] (.v (vT o3.t)) []] (.br (.leaf (⟨o3.t, o2.c1⟩ : l2Var_o_O) [0]) (.seg [.call [] (.v z3) []] (.leaf (⟨putVar u, o2.c1⟩ : l2Var_o_O) [0])))))) (.seg [.call [] (.v z3) []] (.leaf (⟨putVar u, o1.c1⟩ : l2Var_o_O) [0]))), In (l1Once_o_p c 4) fun o1 => ((l1Once_o_f c 4 o1) ∧ (o1.p = true → (Fun Tryz.prog 24 [.c (.int .u64 u)] [] (.v (vI (varLen u))) []) ∧ In (l1Below_o_p o1.c1 3) fun o2 => (let z1 := (varLen u) + o2.x; let z2 : List Blk := [.cells (cCur o2.c1)]; (l1Below_o_f o1.c1 3 o2) ∧ ((.v (vI (IntKind.i64.wrap z1)) : S) = .v (vI z1)) ∧ In (padVar_o_p u z1) fun o3 => ((padVar_o_f u z1 o3) ∧ ((!decide (o3.t = [])) = true → ((List.length (o3.t : List UInt8) ≤ 10) ∧ (CurOk o2.c1)) ∧ (.v (vT o3.t) : S) = .v (vT o3.t) ∧ (z2 : List Blk) = z2) ∧ ((!decide (o3.t = [])) = false → (Fun Tryz.prog 54 [.c (.int .u64 u)] [] (.v z3) []) ∧ (z4 ∧ (CurOk o2.c1)) ∧ (.v z3 : S) = .v z3 ∧ (z2 : List Blk) = z2)))) ∧ (o1.p = false → (Fun Tryz.prog 54 [.c (.int .u64 u)] [] (.v z3) []) ∧ (z4 ∧ (CurOk o1.c1)) ∧ (.v z3 : S) = .v z3 ∧ ([.cells (cCur o1.c1)] : List Blk) = [.cells (cCur o1.c1)])))) (by kernel_rfl) ?_
 refine ⟨(l1Once_o c 4 (by first | assumption | (exact ⟨by dsimp only; first | omega | (have := hp1.1; omega), hp1.2⟩))), fun o1 ho_o1 => ?_⟩
 obtain ⟨hp_o1, hf_o1⟩ := ho_o1
 refine ⟨hf_o1, fun h1 => ?_, fun h1 => ?_⟩
 refine ⟨(varLen_s _ (by omega)), (l1Below_o o1.c1 3 (by first | assumption | (exact ⟨by dsimp only; first | omega | (have := hp1.1; omega), hp1.2⟩))), fun o2 ho_o2 => ?_⟩
 obtain ⟨⟨hp_o2_0, hp_o2_1, hp_o2_2, hp_o2_3⟩, hf_o2⟩ := ho_o2
 refine ⟨hf_o2, (as_i64 (by omega) (by omega)), (padVar_o u ((varLen u) + o2.x) (by omega)), fun o3 ho_o3 => ?_⟩
 obtain ⟨hp_o3, hf_o3⟩ := ho_o3
 refine ⟨hf_o3, fun h2 => have q2 := bnot_t h2; have p2 := of_decide_eq_false q2; ?_, fun h2 => have q2 := bnot_f h2; have p2 := of_decide_eq_true q2; ?_⟩
 exact ⟨⟨(by omega), (by first | assumption | (exact ⟨by dsimp only; first | omega | (have := hp1.1; omega), hp1.2⟩))⟩, rfl, rfl⟩
 exact ⟨(putVar_s _ (by omega)), ⟨(by omega), (by first | assumption | (exact ⟨by dsimp only; first | omega | (have := hp1.1; omega), hp1.2⟩))⟩, rfl, rfl⟩
 exact ⟨(putVar_s _ (by omega)), ⟨(by omega), (by first | assumption | (exact ⟨by dsimp only; first | omega | (have := hp1.1; omega), hp1.2⟩))⟩, rfl, rfl⟩
structure l4Number_o_O where
 x : Int
 c1 : Cur
def l4Number_o_f (c : Cur) (o : l4Number_o_O) : Prop := Fun Tryz.prog 125 [vP 0] [.cells (cCur c)] (.v (vI o.x)) [.cells (cCur o.c1)]
def l4Number_o_p (c : Cur) (o : l4Number_o_O) : Prop := ((CurOk o.c1)) ∧ l4Number_o_f c o
theorem l4Number_o (c : Cur) (hp1 : CurOk c) : ∃ o : l4Number_o_O, l4Number_o_p c o := by
 have hN : bigN = 274877906944 := rfl
 refine funs_ofw Tryz.func125 (by kernel_rfl) (by kernel_rfl) (w := (.intro (l1Once_o_p c 4) fun o1 => .seg [.call [0] (.v (vB o1.p)) [.cells (cCur o1.c1)]] (.br (.seg [.ty .int, .pubS 6] (.intro (l1PickInt_o_p o1.c1 [0, 1, (-1), 18999, 19000, 19999, 20000, 536870911, 536870912, 9223372036854775807]) fun o2 => .seg [.call [0] (.v (vI o2.x)) [.cells (cCur o2.c1)]] (.leaf (⟨o2.x, o2.c1⟩ : l4Number_o_O) [0]))) (.intro (l1Below_o_p o1.c1 20) fun o2 => .seg [.call [0] (.v (vI o2.x)) [.cells (cCur o2.c1)], .as 10 (.v (vI (1 + o2.x)))] (.leaf (⟨1 + o2.x, o2.c1⟩ : l4Number_o_O) [0]))), In (l1Once_o_p c 4) fun o1 => ((l1Once_o_f c 4 o1) ∧ (o1.p = true → In (l1PickInt_o_p o1.c1 [0, 1, (-1), 18999, 19000, 19999, 20000, 536870911, 536870912, 9223372036854775807]) fun o2 => ((l1PickInt_o_f o1.c1 [0, 1, (-1), 18999, 19000, 19999, 20000, 536870911, 536870912, 9223372036854775807] o2) ∧ ((CurOk o2.c1)) ∧ (.v (vI o2.x) : S) = .v (vI o2.x) ∧ ([.cells (cCur o2.c1)] : List Blk) = [.cells (cCur o2.c1)])) ∧ (o1.p = false → In (l1Below_o_p o1.c1 20) fun o2 => ((l1Below_o_f o1.c1 20 o2) ∧ ((.v (vI (IntKind.i64.wrap (1 + o2.x))) : S) = .v (vI (1 + o2.x))) ∧ ((CurOk o2.c1)) ∧ (.v (vI (1 + o2.x)) : S) = .v (vI (1 + o2.x)) ∧ ([.cells (cCur o2.c1)] : List Blk) = [.cells (cCur o2.c1)]))))) (by kernel_rfl) ?_
 refine ⟨(l1Once_o c 4 (by first | assumption | (exact ⟨by dsimp only; first | omega | (have := hp1.1; omega), hp1.2⟩))), fun o1 ho_o1 => ?_⟩
 obtain ⟨hp_o1, hf_o1⟩ := ho_o1
 refine ⟨hf_o1, fun h1 => ?_, fun h1 => ?_⟩
 refine ⟨(l1PickInt_o o1.c1 [0, 1, (-1), 18999, 19000, 19999, 20000, 536870911, 536870912, 9223372036854775807] (by first | assumption | (exact ⟨by dsimp only; first | omega | (have := hp1.1; omega), hp1.2⟩)) (by simp only [List.length_cons, List.length_nil]; omega) (by simp only [List.length_cons, List.length_nil]; omega)), fun o2 ho_o2 => ?_⟩
 obtain ⟨⟨hp_o2_0, hp_o2_1⟩, hf_o2⟩ := ho_o2
 exact ⟨hf_o2, (by first | assumption | (exact ⟨by dsimp only; first | omega | (have := hp1.1; omega), hp1.2⟩)), rfl, rfl⟩
 refine ⟨(l1Below_o o1.c1 20 (by first | assumption | (exact ⟨by dsimp only; first | omega | (have := hp1.1; omega), hp1.2⟩))), fun o2 ho_o2 => ?_⟩
 obtain ⟨⟨hp_o2_0, hp_o2_1, hp_o2_2, hp_o2_3⟩, hf_o2⟩ := ho_o2
 exact ⟨hf_o2, (as_i64 (by omega) (by omega)), (by first | assumption | (exact ⟨by dsimp only; first | omega | (have := hp1.1; omega), hp1.2⟩)), rfl, rfl⟩
theorem pick_len {t : List UInt8} {l : List (List UInt8)} {n : Nat} (h : t ∈ l) (hl : (l.all fun x => decide (x.length ≤ n)) = true) : t.length ≤ n := by
 have := List.all_eq_true.1 hl t h
 simpa using this
structure l1Pick_o_O where
 t : List UInt8
 c1 : Cur
def l1Pick_o_f (c : Cur) (l : List (List UInt8)) (o : l1Pick_o_O) : Prop := Fun Tryz.prog 146 [vP 0, .c (.seq .str l)] [.cells (cCur c)] (.v (vT o.t)) [.cells (cCur o.c1)]
def l1Pick_o_p (c : Cur) (l : List (List UInt8)) (o : l1Pick_o_O) : Prop := ((o.t ∈ l) ∧ (CurOk o.c1)) ∧ l1Pick_o_f c l o
theorem l1Pick_o (c : Cur) (l : List (List UInt8)) (hp1 : CurOk c) (hp2 : 1 ≤ List.length l) (hp3 : List.length l ≤ 1000) : ∃ o : l1Pick_o_O, l1Pick_o_p c l o := by
 have hN : bigN = 274877906944 := rfl
 refine funs_ofw Tryz.func146 (by kernel_rfl) (by kernel_rfl) (w := let z1 := ((List.length l : Nat) : Int); (.intro (l1Below_o_p c z1) fun o1 => .seg [.call [0] (.v (vI o1.x)) [.cells (cCur o1.c1)]] (.intro (fun (x1 : List UInt8) => l[Int.toNat o1.x]? = some x1) fun x1 => .seg [.el .str x1] (.leaf (⟨x1, o1.c1⟩ : l1Pick_o_O) [0])), In (l1Below_o_p c z1) fun o1 => ((l1Below_o_f c z1 o1) ∧ (∃ (x1 : List UInt8), l[Int.toNat o1.x]? = some x1) ∧ ∀ (x1 : List UInt8), (l[Int.toNat o1.x]? = some x1) → ((l[Int.toNat o1.x]? = some x1) ∧ ((0 : Int) ≤ o1.x) ∧ ((x1 ∈ l) ∧ (CurOk o1.c1)) ∧ (.v (vT x1) : S) = .v (vT x1) ∧ ([.cells (cCur o1.c1)] : List Blk) = [.cells (cCur o1.c1)])))) (by kernel_rfl) ?_
 refine ⟨(l1Below_o c ((List.length l : Nat) : Int) (by first | assumption | (exact ⟨by dsimp only; first | omega | (have := hp1.1; omega), hp1.2⟩))), fun o1 ho_o1 => ?_⟩
 obtain ⟨⟨hp_o1_0, hp_o1_1, hp_o1_2, hp_o1_3⟩, hf_o1⟩ := ho_o1
 refine ⟨hf_o1, (ax_get (l := l) (i := Int.toNat o1.x) (by omega)), fun x1 hx1 => ?_⟩
 exact ⟨hx1, (by omega), ⟨(List.mem_of_getElem? hx1), (by first | assumption | (exact ⟨by dsimp only; first | omega | (have := hp1.1; omega), hp1.2⟩))⟩, rfl, rfl⟩
structure l1Spoil_o_O where
 t : List UInt8
 c1 : Cur
def l1Spoil_o_f (c : Cur) (s : List UInt8) (o : l1Spoil_o_O) : Prop := Fun Tryz.prog 71 [vP 0, vT s] [.cells (cCur c)] (.v (vT o.t)) [.cells (cCur o.c1)]
def l1Spoil_o_p (c : Cur) (s : List UInt8) (o : l1Spoil_o_O) : Prop := ((List.length (o.t : List UInt8) ≤ List.length s + 2) ∧ (CurOk o.c1)) ∧ l1Spoil_o_f c s o
theorem l1Spoil_o (c : Cur) (s : List UInt8) (hp1 : CurOk c) (hp2 : List.length s ≤ 1000000) : ∃ o : l1Spoil_o_O, l1Spoil_o_p c s o := by
 have hN : bigN = 274877906944 := rfl
 have hml : List.length (List.map (fun b => (UInt8.toNat b : Int)) s) = List.length s := by simp
 refine funs_ofw Tryz.func71 (by kernel_rfl) (by kernel_rfl) (w := let z6 := List.map (fun b => (UInt8.toNat b : Int)) s; let z7 := ((List.length z6 : Nat) : Int); (.br (.intro (l1Bytes_o_p c 2) fun o1 => .seg [.call [0] (.v (vO 1)) [.cells (cCur o1.c1), .lst .u8 o1.l]] (.leaf (⟨List.map toByte o1.l, o1.c1⟩ : l1Spoil_o_O) [0])) (.intro (l1Below_o_p c z7) fun o1 => .seg [.call [0] (.v (vI o1.x)) [.cells (cCur o1.c1)]] (.intro (fun (x1 : Int) => z6[Int.toNat o1.x]? = some x1) fun x1 => .intro (l1Below_o_p o1.c1 255) fun o2 => .seg [.ord (os 13 [7, 12]) [0], .el .u8 x1, .call [0] (.v (vI o2.x)) [.cells (cCur o2.c1)], .as 26 (.v (vI (1 + o2.x))), .as 27 (.v (.c (.int .u8 (1 + o2.x)))), .el .u8 x1] (.leaf (⟨List.map toByte (List.set z6 (Int.toNat o1.x) (IntKind.u8.wrap (((BitVec.ofInt 8 x1 ^^^ BitVec.ofInt 8 (1 + o2.x)).toNat : Nat)))), o2.c1⟩ : l1Spoil_o_O) [0]))), ((decide (s = [])) = true → In (l1Bytes_o_p c 2) fun o1 => (let z1 := List.map toByte o1.l; (l1Bytes_o_f c 2 o1) ∧ ((List.length (z1 : List UInt8) ≤ List.length s + 2) ∧ (CurOk o1.c1)) ∧ (.v (vT z1) : S) = .v (vT z1) ∧ ([.cells (cCur o1.c1)] : List Blk) = [.cells (cCur o1.c1)])) ∧ ((decide (s = [])) = false → In (l1Below_o_p c z7) fun o1 => (let z4 := o1.x < z7; let z5 := (0 : Int) ≤ o1.x; (List.length s ≤ bigN) ∧ (l1Below_o_f c z7 o1) ∧ (∃ (x1 : Int), z6[Int.toNat o1.x]? = some x1) ∧ ∀ (x1 : Int), (z6[Int.toNat o1.x]? = some x1) → (let z3 := z6[Int.toNat o1.x]? = some x1; In (l1Below_o_p o1.c1 255) fun o2 => (let z2 := List.map toByte (List.set z6 (Int.toNat o1.x) (IntKind.u8.wrap (((BitVec.ofInt 8 x1 ^^^ BitVec.ofInt 8 (1 + o2.x)).toNat : Nat)))); z4 ∧ z5 ∧ z4 ∧ z5 ∧ z3 ∧ z3 ∧ (l1Below_o_f o1.c1 255 o2) ∧ ((.v (vI (IntKind.i64.wrap (1 + o2.x))) : S) = .v (vI (1 + o2.x))) ∧ ((.v (.c (.int .u8 (IntKind.u8.wrap (1 + o2.x)))) : S) = .v (.c (.int .u8 (1 + o2.x)))) ∧ z4 ∧ z5 ∧ z4 ∧ z5 ∧ z3 ∧ ((List.length (z2 : List UInt8) ≤ List.length s + 2) ∧ (CurOk o2.c1)) ∧ (.v (vT z2) : S) = .v (vT z2) ∧ ([.cells (cCur o2.c1)] : List Blk) = [.cells (cCur o2.c1)])))))) (by kernel_rfl) ?_
 refine dsp (fun h1 p1 => ?_) fun h1 p1 => ?_
 refine ⟨(l1Bytes_o c 2 (by first | assumption | (exact ⟨by dsimp only; first | omega | (have := hp1.1; omega), hp1.2⟩)) (by omega)), fun o1 ho_o1 => ?_⟩
 obtain ⟨⟨hp_o1_0, hp_o1_1⟩, hf_o1⟩ := ho_o1
 exact ⟨hf_o1, ⟨(by simp only [List.length_map]; omega), (by first | assumption | (exact ⟨by dsimp only; first | omega | (have := hp1.1; omega), hp1.2⟩))⟩, rfl, rfl⟩
 have hne : 1 ≤ List.length s := List.length_pos_iff.2 (by simpa using p1)
 refine ⟨(l1Below_o c ((List.length (List.map (fun b => (UInt8.toNat b : Int)) s) : Nat) : Int) (by first | assumption | (exact ⟨by dsimp only; first | omega | (have := hp1.1; omega), hp1.2⟩))), fun o1 ho_o1 => ?_⟩
 refine ⟨(by omega), ?_⟩
 obtain ⟨⟨hp_o1_0, hp_o1_1, hp_o1_2, hp_o1_3⟩, hf_o1⟩ := ho_o1
 refine ⟨hf_o1, (ax_get (l := List.map (fun b => (UInt8.toNat b : Int)) s) (i := Int.toNat o1.x) (by simp only [List.length_map]; omega)), fun x1 hx1 => ?_⟩
 refine ⟨(l1Below_o o1.c1 255 (by first | assumption | (exact ⟨by dsimp only; first | omega | (have := hp1.1; omega), hp1.2⟩))), fun o2 ho_o2 => ?_⟩
 obtain ⟨⟨hp_o2_0, hp_o2_1, hp_o2_2, hp_o2_3⟩, hf_o2⟩ := ho_o2
 exact ⟨(by simp only [List.length_map]; omega), (by omega), (by simp only [List.length_map]; omega), (by omega), hx1, hx1, hf_o2, (as_i64 (by omega) (by omega)), (as_u8 (by omega) (by omega)), (by simp only [List.length_map]; omega), (by omega), (by simp only [List.length_map]; omega), (by omega), hx1, ⟨(by simp only [List.length_set, List.length_map]; omega), (by first | assumption | (exact ⟨by dsimp only; first | omega | (have := hp1.1; omega), hp1.2⟩))⟩, rfl, rfl⟩
structure runeText_o_O where
 t : List UInt8
def runeText_o_f (n : Int) (o : runeText_o_O) : Prop := Fun Tryz.prog 160 [vI n] [] (.v (vT o.t)) []
def runeText_o_p (n : Int) (o : runeText_o_O) : Prop := ((List.length (o.t : List UInt8) ≤ 4)) ∧ runeText_o_f n o
theorem runeText_o (n : Int) : ∃ o : runeText_o_O, runeText_o_p n o := by
 have hN : bigN = 274877906944 := rfl
 have t64 : 0 ≤ n → Int.tdiv n 64 = n / 64 := fun h => Int.tdiv_eq_ediv_of_nonneg h
 have t4096 : 0 ≤ n → Int.tdiv n 4096 = n / 4096 := fun h => Int.tdiv_eq_ediv_of_nonneg h
 have t262144 : 0 ≤ n → Int.tdiv n 262144 = n / 262144 := fun h => Int.tdiv_eq_ediv_of_nonneg h
 refine funs_ofw Tryz.func160 (by kernel_rfl) (by kernel_rfl) (w := let z2 := Int.tdiv n 4096; let z3 := Int.tmod n 64; let z4 := Int.tdiv n 64; let z1 := Int.tmod z4 64; let z5 := Int.tdiv n 262144; let z7 := List.map toByte [240 + z5, 128 + (Int.tmod z2 64), 128 + z1, 128 + z3]; let z9 := 128 + (Int.tmod z2 64); let z10 := (64 : Int) ≠ 0; let z11 := (.v (vI (IntKind.i64.wrap z4)) : S) = .v (vI z4); let z12 := List.map toByte [224 + z2, 128 + z1, 128 + z3]; let z14 := List.map toByte [192 + z4, 128 + z3]; let z15 := 128 + z3; let z6 := (.v (.c (.int .u8 (IntKind.u8.wrap z15))) : S) = .v (.c (.int .u8 z15)); let z8 := (.v (vI (IntKind.i64.wrap z15)) : S) = .v (vI z15); let z16 := 128 + z1; let z13 := (.v (.c (.int .u8 (IntKind.u8.wrap z16))) : S) = .v (.c (.int .u8 z16)); let z17 := ([] : List Blk); let z18 := within n 55296 57343; let z19 := within n 0 1114111; let z20 := (.v (vI (IntKind.i64.wrap z16)) : S) = .v (vI z16); let z21 := (.v (vI (IntKind.i64.wrap z2)) : S) = .v (vI z2); let z22 := List.map toByte [n]; let z23 := 192 + z4; let z24 := 224 + z2; let z25 := 240 + z5; let z26 := (List.length ([] : List UInt8) ≤ 4); (.seg [.call [] (.v (vB z19)) []] (.br (.leaf (⟨[]⟩ : runeText_o_O) []) (.seg [.call [] (.v (vB z18)) []] (.br (.leaf (⟨[]⟩ : runeText_o_O) []) (.br (.seg [.as 15 (.v (.c (.int .u8 n))), .ty .u8] (.leaf (⟨List.map toByte [n]⟩ : runeText_o_O) [])) (.br (.seg [.as 22 (.v (vI z4)), .as 23 (.v (vI z23)), .as 24 (.v (.c (.int .u8 z23))), .as 27 (.v (vI z15)), .as 28 (.v (.c (.int .u8 z15))), .ty .u8] (.leaf (⟨List.map toByte [192 + z4, 128 + z3]⟩ : runeText_o_O) [])) (.br (.seg [.as 35 (.v (vI z2)), .as 36 (.v (vI z24)), .as 37 (.v (.c (.int .u8 z24))), .as 39 (.v (vI z4)), .as 41 (.v (vI z16)), .as 42 (.v (.c (.int .u8 z16))), .as 45 (.v (vI z15)), .as 46 (.v (.c (.int .u8 z15))), .ty .u8] (.leaf (⟨List.map toByte [224 + z2, 128 + z1, 128 + z3]⟩ : runeText_o_O) [])) (.seg [.as 50 (.v (vI z5)), .as 51 (.v (vI z25)), .as 52 (.v (.c (.int .u8 z25))), .as 54 (.v (vI z2)), .as 56 (.v (vI z9)), .as 57 (.v (.c (.int .u8 z9))), .as 59 (.v (vI z4)), .as 61 (.v (vI z16)), .as 62 (.v (.c (.int .u8 z16))), .as 65 (.v (vI z15)), .as 66 (.v (.c (.int .u8 z15))), .ty .u8] (.leaf (⟨List.map toByte [240 + z5, 128 + (Int.tmod z2 64), 128 + z1, 128 + z3]⟩ : runeText_o_O) [])))))))), (Fun Tryz.prog 45 [vI n, vI 0, vI 1114111] [] (.v (vB z19)) []) ∧ ((!z19) = true → z26 ∧ (.v (vT []) : S) = .v (vT []) ∧ z17 = []) ∧ ((!z19) = false → (Fun Tryz.prog 45 [vI n, vI 55296, vI 57343] [] (.v (vB z18)) []) ∧ (z18 = true → z26 ∧ (.v (vT []) : S) = .v (vT []) ∧ z17 = []) ∧ (z18 = false → ((decide (n < 128)) = true → ((.v (.c (.int .u8 (IntKind.u8.wrap (n)))) : S) = .v (.c (.int .u8 n))) ∧ ((List.length (z22 : List UInt8) ≤ 4)) ∧ (.v (vT z22) : S) = .v (vT z22) ∧ z17 = []) ∧ ((decide (n < 128)) = false → ((decide (n < 2048)) = true → z10 ∧ z11 ∧ ((.v (vI (IntKind.i64.wrap z23)) : S) = .v (vI z23)) ∧ ((.v (.c (.int .u8 (IntKind.u8.wrap z23))) : S) = .v (.c (.int .u8 z23))) ∧ z10 ∧ z8 ∧ z6 ∧ ((List.length (z14 : List UInt8) ≤ 4)) ∧ (.v (vT z14) : S) = .v (vT z14) ∧ z17 = []) ∧ ((decide (n < 2048)) = false → ((decide (n < 65536)) = true → ((4096 : Int) ≠ 0) ∧ z21 ∧ ((.v (vI (IntKind.i64.wrap z24)) : S) = .v (vI z24)) ∧ ((.v (.c (.int .u8 (IntKind.u8.wrap z24))) : S) = .v (.c (.int .u8 z24))) ∧ z10 ∧ z11 ∧ z10 ∧ z20 ∧ z13 ∧ z10 ∧ z8 ∧ z6 ∧ ((List.length (z12 : List UInt8) ≤ 4)) ∧ (.v (vT z12) : S) = .v (vT z12) ∧ z17 = []) ∧ ((decide (n < 65536)) = false → ((262144 : Int) ≠ 0) ∧ ((.v (vI (IntKind.i64.wrap z5)) : S) = .v (vI z5)) ∧ ((.v (vI (IntKind.i64.wrap z25)) : S) = .v (vI z25)) ∧ ((.v (.c (.int .u8 (IntKind.u8.wrap z25))) : S) = .v (.c (.int .u8 z25))) ∧ ((4096 : Int) ≠ 0) ∧ z21 ∧ z10 ∧ ((.v (vI (IntKind.i64.wrap z9)) : S) = .v (vI z9)) ∧ ((.v (.c (.int .u8 (IntKind.u8.wrap z9))) : S) = .v (.c (.int .u8 z9))) ∧ z10 ∧ z11 ∧ z10 ∧ z20 ∧ z13 ∧ z10 ∧ z8 ∧ z6 ∧ ((List.length (z7 : List UInt8) ≤ 4)) ∧ (.v (vT z7) : S) = .v (vT z7) ∧ z17 = []))))))) (by kernel_rfl) ?_
 refine ⟨(within_s _ _ _), fun h1 => have q1 := bnot_t h1; have p1 := within_f q1; ?_, fun h1 => have q1 := bnot_f h1; have p1 := within_t q1; ?_⟩
 exact ⟨(by simp), rfl, rfl⟩
 refine ⟨(within_s _ _ _), fun h2 => have p2 := within_t h2; ?_, fun h2 => have p2 := within_f h2; ?_⟩
 exact ⟨(by simp), rfl, rfl⟩
 refine dsp (fun h3 p3 => ?_) fun h3 p3 => ?_
 exact ⟨(as_u8 (by omega) (by omega)), (by simp), rfl, rfl⟩
 refine dsp (fun h4 p4 => ?_) fun h4 p4 => ?_
 exact ⟨(by decide), (as_i64 (by omega) (by omega)), (as_i64 (by omega) (by omega)), (as_u8 (by omega) (by omega)), (by decide), (as_i64 (by have := tmod_b n 64; omega) (by have := tmod_b n 64; omega)), (as_u8 (by have := tmod_b n 64; omega) (by have := tmod_b n 64; omega)), (by simp), rfl, rfl⟩
 refine dsp (fun h5 p5 => ?_) fun h5 p5 => ?_
 exact ⟨(by decide), (as_i64 (by omega) (by omega)), (as_i64 (by omega) (by omega)), (as_u8 (by omega) (by omega)), (by decide), (as_i64 (by omega) (by omega)), (by decide), (as_i64 (by have := tmod_b (Int.tdiv n 64) 64; omega) (by have := tmod_b (Int.tdiv n 64) 64; omega)), (as_u8 (by have := tmod_b (Int.tdiv n 64) 64; omega) (by have := tmod_b (Int.tdiv n 64) 64; omega)), (by decide), (as_i64 (by have := tmod_b n 64; omega) (by have := tmod_b n 64; omega)), (as_u8 (by have := tmod_b n 64; omega) (by have := tmod_b n 64; omega)), (by simp), rfl, rfl⟩
 exact ⟨(by decide), (as_i64 (by omega) (by omega)), (as_i64 (by omega) (by omega)), (as_u8 (by omega) (by omega)), (by decide), (as_i64 (by omega) (by omega)), (by decide), (as_i64 (by have := tmod_b (Int.tdiv n 4096) 64; omega) (by have := tmod_b (Int.tdiv n 4096) 64; omega)), (as_u8 (by have := tmod_b (Int.tdiv n 4096) 64; omega) (by have := tmod_b (Int.tdiv n 4096) 64; omega)), (by decide), (as_i64 (by omega) (by omega)), (by decide), (as_i64 (by have := tmod_b (Int.tdiv n 64) 64; omega) (by have := tmod_b (Int.tdiv n 64) 64; omega)), (as_u8 (by have := tmod_b (Int.tdiv n 64) 64; omega) (by have := tmod_b (Int.tdiv n 64) 64; omega)), (by decide), (as_i64 (by have := tmod_b n 64; omega) (by have := tmod_b n 64; omega)), (as_u8 (by have := tmod_b n 64; omega) (by have := tmod_b n 64; omega)), (by simp), rfl, rfl⟩
structure l5Rune_o_O where
 x : Int
 c1 : Cur
def l5Rune_o_f (c : Cur) (o : l5Rune_o_O) : Prop := Fun Tryz.prog 161 [vP 0] [.cells (cCur c)] (.v (vI o.x)) [.cells (cCur o.c1)]
def l5Rune_o_p (c : Cur) (o : l5Rune_o_O) : Prop := ((CurOk o.c1)) ∧ l5Rune_o_f c o
theorem l5Rune_o (c : Cur) (hp1 : CurOk c) : ∃ o : l5Rune_o_O, l5Rune_o_p c o := by
 have hN : bigN = 274877906944 := rfl
 refine funs_ofw Tryz.func161 (by kernel_rfl) (by kernel_rfl) (w := (.intro (l1Below_o_p c 1114112) fun o1 => .seg [.call [0] (.v (vI o1.x)) [.cells (cCur o1.c1)], .ty .int, .pubS 6] (.intro (l1PickInt_o_p o1.c1 [0, 65, 127, 128, 2047, 2048, 4095, 55295, 57344, 65535, 65536, 1114111, o1.x]) fun o2 => .seg [.call [0] (.v (vI o2.x)) [.cells (cCur o2.c1)]] (.leaf (⟨o2.x, o2.c1⟩ : l5Rune_o_O) [0])), In (l1Below_o_p c 1114112) fun o1 => ((l1Below_o_f c 1114112 o1) ∧ In (l1PickInt_o_p o1.c1 [0, 65, 127, 128, 2047, 2048, 4095, 55295, 57344, 65535, 65536, 1114111, o1.x]) fun o2 => ((l1PickInt_o_f o1.c1 [0, 65, 127, 128, 2047, 2048, 4095, 55295, 57344, 65535, 65536, 1114111, o1.x] o2) ∧ ((CurOk o2.c1)) ∧ (.v (vI o2.x) : S) = .v (vI o2.x) ∧ ([.cells (cCur o2.c1)] : List Blk) = [.cells (cCur o2.c1)])))) (by kernel_rfl) ?_
 refine ⟨(l1Below_o c 1114112 (by first | assumption | (exact ⟨by dsimp only; first | omega | (have := hp1.1; omega), hp1.2⟩))), fun o1 ho_o1 => ?_⟩
 obtain ⟨⟨hp_o1_0, hp_o1_1, hp_o1_2, hp_o1_3⟩, hf_o1⟩ := ho_o1
 refine ⟨hf_o1, (l1PickInt_o o1.c1 [0, 65, 127, 128, 2047, 2048, 4095, 55295, 57344, 65535, 65536, 1114111, o1.x] (by first | assumption | (exact ⟨by dsimp only; first | omega | (have := hp1.1; omega), hp1.2⟩)) (by simp only [List.length_cons, List.length_nil]; omega) (by simp only [List.length_cons, List.length_nil]; omega)), fun o2 ho_o2 => ?_⟩
 obtain ⟨⟨hp_o2_0, hp_o2_1⟩, hf_o2⟩ := ho_o2
 exact ⟨hf_o2, (by first | assumption | (exact ⟨by dsimp only; first | omega | (have := hp1.1; omega), hp1.2⟩)), rfl, rfl⟩
structure l5Text_o_O where
 t : List UInt8
 c1 : Cur
def l5Text_o_f (c : Cur) (n : Int) (o : l5Text_o_O) : Prop := Fun Tryz.prog 120 [vP 0, vI n] [.cells (cCur c)] (.v (vT o.t)) [.cells (cCur o.c1)]
def l5Text_o_p (c : Cur) (n : Int) (o : l5Text_o_O) : Prop := ((List.length (o.t : List UInt8) ≤ 4 * Int.toNat n) ∧ (CurOk o.c1)) ∧ l5Text_o_f c n o
structure l5Text_o_V0 where
 c : Cur
 s : List UInt8
 i : Nat
def l5Text_o_F0 (n : Int) : Fam := ⟨l5Text_o_V0, fun q1 => [(0, .v (vP 0)), (1, .v (vI n)), (5, .v (vT q1.s)), (6, .v (vI ((q1.i : Nat) : Int)))], fun q1 => [.cells (cCur q1.c)], fun q1 => CurOk q1.c ∧ (q1.i = 0 ∨ ((q1.i : Nat) : Int) ≤ n) ∧ List.length q1.s ≤ 4 * q1.i, fun q1 => Int.toNat n - q1.i⟩
theorem l5Text_o (c : Cur) (n : Int) (hp1 : CurOk c) (hp2 : n ≤ 1000) : ∃ o : l5Text_o_O, l5Text_o_p c n o := by
 have hN : bigN = 274877906944 := rfl
 refine funs_ofw Tryz.func120 (by kernel_rfl) (by kernel_rfl) (w := let z2 := l5Text_o_F0 n; (.seg [.at 0, .keep [0, 1, 5, 6], .sel [0]] (.loop z2 fun q1 => .br (.intro (l5Rune_o_p q1.c) fun o1 => .seg [.call [0] (.v (vI o1.x)) [.cells (cCur o1.c1)]] (.intro (runeText_o_p o1.x) fun o2 => .seg [.call [] (.v (vT o2.t)) [], .as 11 (.v (vI (((q1.i : Nat) : Int) + 1))), .at 0, .keep [0, 1, 5, 6], .sel [0]] (.next))) (.leaf (⟨q1.s, q1.c⟩ : l5Text_o_O) [0])), z2.Has [(0, .v (vP 0)), (1, .v (vI n)), (5, .v (vT [])), (6, .v (vI 0))] [.cells (cCur c)] ∧ ∀ q1, z2.inv q1 → (let z1 := ((q1.i : Nat) : Int); ((decide (z1 < n)) = true → In (l5Rune_o_p q1.c) fun o1 => ((l5Rune_o_f q1.c o1) ∧ In (runeText_o_p o1.x) fun o2 => ((runeText_o_f o1.x o2) ∧ (((List.length q1.s + List.length o2.t : Nat) : Int) ≤ i64max) ∧ ((.v (vI (IntKind.i64.wrap (z1 + 1))) : S) = .v (vI (z1 + 1))) ∧ z2.Nxt q1 [(0, .v (vP 0)), (1, .v (vI n)), (5, .v (vT (q1.s ++ o2.t))), (6, .v (vI (z1 + 1)))] [.cells (cCur o1.c1)]))) ∧ ((decide (z1 < n)) = false → ((List.length (q1.s : List UInt8) ≤ 4 * Int.toNat n) ∧ (CurOk q1.c)) ∧ (.v (vT q1.s) : S) = .v (vT q1.s) ∧ ([.cells (cCur q1.c)] : List Blk) = [.cells (cCur q1.c)])))) (by kernel_rfl) ?_
 refine ⟨has_of (j := (⟨c, [], 0⟩ : l5Text_o_V0)) (by first | rfl | simp) rfl (by dsimp only [l5Text_o_F0]; exact ⟨by assumption, .inl rfl, by simp⟩), fun (q1 : l5Text_o_V0) hq_q1 => ?_⟩
 have hi_q1 : CurOk q1.c ∧ (q1.i = 0 ∨ ((q1.i : Nat) : Int) ≤ n) ∧ List.length q1.s ≤ 4 * q1.i := hq_q1
 obtain ⟨v1, v2, v3⟩ := hi_q1
 refine dsp (fun h1 p1 => ?_) fun h1 p1 => ?_
 refine ⟨(l5Rune_o q1.c (by first | assumption | (exact ⟨by dsimp only; first | omega | (have := hp1.1; omega), hp1.2⟩))), fun o1 ho_o1 => ?_⟩
 obtain ⟨hp_o1, hf_o1⟩ := ho_o1
 refine ⟨hf_o1, (runeText_o o1.x), fun o2 ho_o2 => ?_⟩
 obtain ⟨hp_o2, hf_o2⟩ := ho_o2
 exact ⟨hf_o2, (by simp only [i64max]; omega), (as_i64 (by omega) (by omega)), nxt_of (j := (⟨o1.c1, q1.s ++ o2.t, q1.i + 1⟩ : l5Text_o_V0)) (by first | rfl | simp) rfl (by dsimp only [l5Text_o_F0]; exact ⟨by assumption, by omega, by simp; omega⟩) (by dsimp only [l5Text_o_F0]; omega)⟩
 exact ⟨⟨(by omega), (by first | assumption | (exact ⟨by dsimp only; first | omega | (have := hp1.1; omega), hp1.2⟩))⟩, rfl, rfl⟩
structure l5Bent_o_O where
 t : List UInt8
 c1 : Cur
def l5Bent_o_f (c : Cur) (o : l5Bent_o_O) : Prop := Fun Tryz.prog 121 [vP 0] [.cells (cCur c)] (.v (vT o.t)) [.cells (cCur o.c1)]
def l5Bent_o_p (c : Cur) (o : l5Bent_o_O) : Prop := ((List.length (o.t : List UInt8) ≤ 16) ∧ (CurOk o.c1)) ∧ l5Bent_o_f c o
theorem l5Bent_o (c : Cur) (hp1 : CurOk c) : ∃ o : l5Bent_o_O, l5Bent_o_p c o := by
 have hN : bigN = 274877906944 := rfl
 refine funs_ofw Tryz.func121 (by kernel_rfl) (by kernel_rfl) (w := (.intro (l1Below_o_p c 4) fun o1 => .seg [.call [0] (.v (vI o1.x)) [.cells (cCur o1.c1)]] (.intro (l5Text_o_p o1.c1 o1.x) fun o2 => let z2 := ((List.length o2.t : Nat) : Int) + 1; .seg [.call [0] (.v (vT o2.t)) [.cells (cCur o2.c1)]] (.intro (l1Below_o_p o2.c1 4) fun o3 => .seg [.call [0] (.v (vI o3.x)) [.cells (cCur o3.c1)]] (.br (.intro (l1Spoil_o_p o3.c1 o2.t) fun o4 => .seg [.call [0] (.v (vT o4.t)) [.cells (cCur o4.c1)]] (.leaf (⟨o4.t, o4.c1⟩ : l5Bent_o_O) [0])) (.br (.seg [.as 21 (.v (vI z2))] (.intro (l1Below_o_p o3.c1 z2) fun o4 => .seg [.call [0] (.v (vI o4.x)) [.cells (cCur o4.c1)]] (.leaf (⟨List.take (Int.toNat o4.x) o2.t, o4.c1⟩ : l5Bent_o_O) [0]))) (.br (.seg [.ty .str, .pubS 28] (.intro (l1Pick_o_p o3.c1 [[128], [192, 128], [224, 159, 191], [237, 160, 128], [240, 143, 191, 191], [244, 144, 128, 128], [245], [255], [226, 130], [193, 191]]) fun o4 => .seg [.call [0] (.v (vT o4.t)) [.cells (cCur o4.c1)]] (.leaf (⟨o2.t ++ o4.t, o4.c1⟩ : l5Bent_o_O) [0]))) (.leaf (⟨o2.t, o3.c1⟩ : l5Bent_o_O) [0])))))), In (l1Below_o_p c 4) fun o1 => ((l1Below_o_f c 4 o1) ∧ In (l5Text_o_p o1.c1 o1.x) fun o2 => (let z3 := ((List.length o2.t : Nat) : Int); (l5Text_o_f o1.c1 o1.x o2) ∧ In (l1Below_o_p o2.c1 4) fun o3 => ((l1Below_o_f o2.c1 4 o3) ∧ ((decide (o3.x = 0)) = true → In (l1Spoil_o_p o3.c1 o2.t) fun o4 => ((l1Spoil_o_f o3.c1 o2.t o4) ∧ ((List.length (o4.t : List UInt8) ≤ 16) ∧ (CurOk o4.c1)) ∧ (.v (vT o4.t) : S) = .v (vT o4.t) ∧ ([.cells (cCur o4.c1)] : List Blk) = [.cells (cCur o4.c1)])) ∧ ((decide (o3.x = 0)) = false → ((decide (o3.x = 1)) = true → ((.v (vI (IntKind.i64.wrap (z3 + 1))) : S) = .v (vI (z3 + 1))) ∧ In (l1Below_o_p o3.c1 (z3 + 1)) fun o4 => (let z1 := List.take (Int.toNat o4.x) o2.t; (l1Below_o_f o3.c1 (z3 + 1) o4) ∧ (o4.x ≤ z3) ∧ ((0 : Int) ≤ o4.x) ∧ ((List.length (z1 : List UInt8) ≤ 16) ∧ (CurOk o4.c1)) ∧ (.v (vT z1) : S) = .v (vT z1) ∧ ([.cells (cCur o4.c1)] : List Blk) = [.cells (cCur o4.c1)])) ∧ ((decide (o3.x = 1)) = false → ((decide (o3.x = 2)) = true → In (l1Pick_o_p o3.c1 [[128], [192, 128], [224, 159, 191], [237, 160, 128], [240, 143, 191, 191], [244, 144, 128, 128], [245], [255], [226, 130], [193, 191]]) fun o4 => ((l1Pick_o_f o3.c1 [[128], [192, 128], [224, 159, 191], [237, 160, 128], [240, 143, 191, 191], [244, 144, 128, 128], [245], [255], [226, 130], [193, 191]] o4) ∧ (((List.length o2.t + List.length o4.t : Nat) : Int) ≤ i64max) ∧ ((List.length ((o2.t ++ o4.t) : List UInt8) ≤ 16) ∧ (CurOk o4.c1)) ∧ (.v (vT (o2.t ++ o4.t)) : S) = .v (vT (o2.t ++ o4.t)) ∧ ([.cells (cCur o4.c1)] : List Blk) = [.cells (cCur o4.c1)])) ∧ ((decide (o3.x = 2)) = false → ((List.length (o2.t : List UInt8) ≤ 16) ∧ (CurOk o3.c1)) ∧ (.v (vT o2.t) : S) = .v (vT o2.t) ∧ ([.cells (cCur o3.c1)] : List Blk) = [.cells (cCur o3.c1)])))))))) (by kernel_rfl) ?_
 refine ⟨(l1Below_o c 4 (by first | assumption | (exact ⟨by dsimp only; first | omega | (have := hp1.1; omega), hp1.2⟩))), fun o1 ho_o1 => ?_⟩
 obtain ⟨⟨hp_o1_0, hp_o1_1, hp_o1_2, hp_o1_3⟩, hf_o1⟩ := ho_o1
 refine ⟨hf_o1, (l5Text_o o1.c1 o1.x (by first | assumption | (exact ⟨by dsimp only; first | omega | (have := hp1.1; omega), hp1.2⟩)) (by omega)), fun o2 ho_o2 => ?_⟩
 obtain ⟨⟨hp_o2_0, hp_o2_1⟩, hf_o2⟩ := ho_o2
 refine ⟨hf_o2, (l1Below_o o2.c1 4 (by first | assumption | (exact ⟨by dsimp only; first | omega | (have := hp1.1; omega), hp1.2⟩))), fun o3 ho_o3 => ?_⟩
 obtain ⟨⟨hp_o3_0, hp_o3_1, hp_o3_2, hp_o3_3⟩, hf_o3⟩ := ho_o3
 refine ⟨hf_o3, dsp (fun h1 p1 => ?_) fun h1 p1 => ?_⟩
 refine ⟨(l1Spoil_o o3.c1 o2.t (by first | assumption | (exact ⟨by dsimp only; first | omega | (have := hp1.1; omega), hp1.2⟩)) (by omega)), fun o4 ho_o4 => ?_⟩
 obtain ⟨⟨hp_o4_0, hp_o4_1⟩, hf_o4⟩ := ho_o4
 exact ⟨hf_o4, ⟨(by omega), (by first | assumption | (exact ⟨by dsimp only; first | omega | (have := hp1.1; omega), hp1.2⟩))⟩, rfl, rfl⟩
 refine dsp (fun h2 p2 => ?_) fun h2 p2 => ?_
 refine ⟨(as_i64 (by omega) (by omega)), (l1Below_o o3.c1 (((List.length o2.t : Nat) : Int) + 1) (by first | assumption | (exact ⟨by dsimp only; first | omega | (have := hp1.1; omega), hp1.2⟩))), fun o4 ho_o4 => ?_⟩
 obtain ⟨⟨hp_o4_0, hp_o4_1, hp_o4_2, hp_o4_3⟩, hf_o4⟩ := ho_o4
 exact ⟨hf_o4, (by omega), (by omega), ⟨(by simp only [List.length_take]; omega), (by first | assumption | (exact ⟨by dsimp only; first | omega | (have := hp1.1; omega), hp1.2⟩))⟩, rfl, rfl⟩
 refine dsp (fun h3 p3 => ?_) fun h3 p3 => ?_
 refine ⟨(l1Pick_o o3.c1 [[128], [192, 128], [224, 159, 191], [237, 160, 128], [240, 143, 191, 191], [244, 144, 128, 128], [245], [255], [226, 130], [193, 191]] (by first | assumption | (exact ⟨by dsimp only; first | omega | (have := hp1.1; omega), hp1.2⟩)) (by simp only [List.length_cons, List.length_nil]; omega) (by simp only [List.length_cons, List.length_nil]; omega)), fun o4 ho_o4 => ?_⟩
 obtain ⟨⟨hp_o4_0, hp_o4_1⟩, hf_o4⟩ := ho_o4
 exact ⟨hf_o4, (by have := pick_len (n := 4) hp_o4_0 (by decide); simp only [i64max]; omega), ⟨(by have := pick_len (n := 4) hp_o4_0 (by decide); simp; omega), (by first | assumption | (exact ⟨by dsimp only; first | omega | (have := hp1.1; omega), hp1.2⟩))⟩, rfl, rfl⟩
 exact ⟨⟨(by omega), (by first | assumption | (exact ⟨by dsimp only; first | omega | (have := hp1.1; omega), hp1.2⟩))⟩, rfl, rfl⟩
end Go.Proofs.YtaflinakodideaaGreat.Ax
