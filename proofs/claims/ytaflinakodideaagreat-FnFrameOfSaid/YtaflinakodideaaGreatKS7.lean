/- Bent descriptions and plans. Drawn inputs. Models: one reading beside another. Opening what the laws are handed. -/
import Derived.Test.YtaflinakodideaaGreatKS5
import Derived.Test.YtaflinakodideaaGreatKS6
import Derived.Test.YtaflinakodideaaGreatKS3
import Derived.Test.YtaflinakodideaaGreatKS1
import Derived.Test.YtaflinakodideaaGreatKB4
set_option linter.unusedSimpArgs false
set_option linter.unusedVariables false
namespace Go.Proofs.YtaflinakodideaaGreat.Ax
open Go.RowKit
def SchB (l : List Shp) : Prop := l.length ≤ 7 ∧ ∀ e ∈ l, e.fields.length ≤ 6
theorem SchG.b {l : List Shp} (h : SchG l) : SchB l := ⟨by have := h.1; omega, fun e he => by have := (h.2 e he).1; omega⟩
theorem SchB.set {l : List Shp} {i : Nat} {x : Shp} (h : SchB l) (hx : x.fields.length ≤ 6) : SchB (l.set i x) := by
 refine ⟨by rw [List.length_set]; exact h.1, fun e he => ?_⟩
 rcases List.mem_or_eq_of_mem_set he with he | rfl
 ·exact h.2 e he
 ·exact hx
theorem SchB.app {l : List Shp} {k : Int} (h : SchB l) (hl : l.length ≤ 6) : SchB (l ++ [⟨k, []⟩]) := by
 refine ⟨by simp; omega, fun e he => ?_⟩
 rcases List.mem_append.1 he with he | he
 ·exact h.2 e he
 ·simp at he; rw [he]; simp
structure l8Bent_o_O where
 l : List Shp
 c1 : Cur
def l8Bent_o_f (c : Cur) (o : l8Bent_o_O) : Prop := Fun Tryz.prog 72 [vP 0] [.cells (cCur c)] (.v (.agg [.seq .shp o.l])) [.cells (cCur o.c1)]
def l8Bent_o_p (c : Cur) (o : l8Bent_o_O) : Prop := ((SchB o.l) ∧ (CurOk o.c1)) ∧ l8Bent_o_f c o
structure l8Bent_o_V0 where
 c : Cur
 shapes : List Shp
def l8Bent_o_F0  : Fam := ⟨l8Bent_o_V0, fun q1 => [(0, .v (vP 0)), (2, .v (vP 1)), (3, .v (vP 2))], fun q1 => [.cells (cCur q1.c), .cells [.nil], .cells [.own 3], .tree q1.shapes], fun q1 => CurOk q1.c ∧ SchB q1.shapes, fun q1 => 8 - List.length q1.shapes⟩
theorem l8Bent_o (c : Cur) (hp1 : CurOk c) : ∃ o : l8Bent_o_O, l8Bent_o_p c o := by
 have hN : bigN = 274877906944 := rfl
 refine funs_ofw Tryz.func72 (by kernel_rfl) (by kernel_rfl) (w := let z37 := ([(2, .v (vP 1)), (3, .v (vP 2))] : List (Nat × S)) = [(2, .v (vP 1)), (3, .v (vP 2))]; let z38 := l8Bent_o_F0; (.intro (l8Right_o_p c) fun o1 => .seg [.call [0] (.v (.agg [.own 1])) [.cells (cCur o1.c1), .tree o1.l]] (.intro (l1Below_o_p o1.c1 ((List.length o1.l : Nat) : Int)) fun o2 => let z29 := Int.toNat o2.x; .seg [.call [0] (.v (vI o2.x)) [.cells (cCur o2.c1)]] (.intro (l1Below_o_p o2.c1 10) fun o3 => .seg [.call [0] (.v (vI o3.x)) [.cells (cCur o3.c1)]] (.br (.intro (l1PickInt_w_p o3.c1 [0, 5, 100, (-1)]) fun o4 => .intro (fun (x1 : Shp) => o1.l[Int.toNat o2.x]? = some x1) fun x1 => .seg [.ord (os 9 [4, 5, 8]) [0], .ty .int, .call [0, 4] (.v (vI o4.x)) [.cells (cCur o4.c1), .lst .int [0, 5, 100, (-1)]], .el .shp x1, .at 0, .pub 1 0] (.leaf (⟨List.set o1.l z29 (⟨o4.x, x1.fields⟩ : Shp), o4.c1⟩ : l8Bent_o_O) [0])) (.br (.intro (fun (x1 : Shp) => o1.l[Int.toNat o2.x]? = some x1) fun x1 => .take 7 2 z29 x1 (.intro (l4Number_o_p o3.c1) fun o4 => .intro (l1Below_o_p o4.c1 10) fun o5 => .intro (l1Below_o_p o5.c1 4) fun o6 => let z2 : List Blk := [.cells (cCur o6.c1)]; let z3 := vI (o6.x - 1); .seg [.tree (fr (.first 9 (.first 11 (.first 13 (.two 8 (.one 10 (.one 12 (.one 14 (.first 15 (.first 16 (.one 17 (.one 18 (.first 19 (.first 20 (.one 21 (.done))))))))))) 10 (.two 8 (.one 12 (.one 14 (.first 15 (.first 16 (.one 17 (.one 18 (.first 19 (.first 20 (.one 21 (.done)))))))))) 12 (.two 8 (.one 14 (.first 15 (.first 16 (.one 17 (.one 18 (.first 19 (.first 20 (.one 21 (.done))))))))) 14 (.first 15 (.first 16 (.two 8 (.one 17 (.one 18 (.first 19 (.first 20 (.one 21 (.done)))))) 17 (.one 8 (.one 18 (.first 19 (.first 20 (.one 21 (.done))))))))))))))) 0 8) 21 [0, 4], .call [0] (.v (vI o4.x)) [.cells (cCur o4.c1)], .call [0] (.v (vI o5.x)) [.cells (cCur o5.c1)], .call [0] (.v (vI o6.x)) z2, .as 41 (.v z3), .ty .fld, .ty .fld, .el .shp x1, .at 0, .keep [2, 3], .sel [0, 1, 3, 2], .call [0] (.v (vI o4.x)) [.cells (cCur o4.c1)], .call [0] (.v (vI o5.x)) [.cells (cCur o5.c1)], .call [0] (.v (vI o6.x)) z2, .as 41 (.v z3), .ty .fld, .ty .fld, .el .shp x1, .at 0, .keep [2, 3], .sel [0, 1, 3, 2], .call [0] (.v (vI o5.x)) [.cells (cCur o5.c1)], .call [0] (.v (vI o6.x)) z2, .as 41 (.v z3), .ty .fld, .ty .fld, .el .shp x1, .at 0, .keep [2, 3], .sel [0, 1, 3, 2], .call [0] (.v (vI o6.x)) z2, .as 41 (.v z3), .ty .fld, .ty .fld, .el .shp x1, .at 0, .keep [2, 3], .sel [0, 1, 3, 2], .ty .fld, .ty .fld, .el .shp x1, .at 0, .keep [2, 3], .sel [0, 1, 3, 2], .at 0, .pub 1 0] (.leaf (⟨List.set o1.l z29 (⟨x1.id, x1.fields ++ [(⟨o4.x, o5.x, false, false, o6.x - 1⟩ : Fld)]⟩ : Shp), o6.c1⟩ : l8Bent_o_O) [0]))) (.br (.intro (fun (x1 : Shp) => o1.l[Int.toNat o2.x]? = some x1) fun x1 => .take 9 2 z29 x1 (.br (.intro (l1Below_o_p o3.c1 5) fun o4 => .intro (fun (x2 : Fld) => x1.fields[0]? = some x2) fun x2 => .seg [.ord (os 12 [7, 11]) [0], .call [0] (.v (vI o4.x)) [.cells (cCur o4.c1)], .as 65 (.v (vI (o4.x - 1))), .el .fld x2] (.give 17 2 x1 (.seg [.at 0, .pub 1 0] (.leaf (⟨List.set o1.l z29 (⟨x1.id, List.set x1.fields 0 (⟨x2.number, x2.kind, x2.rep, x2.packed, o4.x - 1⟩ : Fld)⟩ : Shp), o4.c1⟩ : l8Bent_o_O) [0])))) (.give 17 2 x1 (.seg [.at 0, .pub 1 0] (.leaf (⟨List.set o1.l z29 (⟨x1.id, x1.fields⟩ : Shp), o3.c1⟩ : l8Bent_o_O) [0]))))) (.br (.intro (fun (x1 : Shp) => o1.l[Int.toNat o2.x]? = some x1) fun x1 => .take 12 2 z29 x1 (.br (.intro (fun (x2 : Fld) => x1.fields[0]? = some x2) fun x2 => .seg [.el .fld x2] (.give 17 2 x1 (.seg [.at 0, .pub 1 0] (.leaf (⟨List.set o1.l z29 (⟨x1.id, List.set x1.fields 0 (⟨x2.number, x2.kind, x2.rep, true, x2.msg⟩ : Fld)⟩ : Shp), o3.c1⟩ : l8Bent_o_O) [0])))) (.give 17 2 x1 (.seg [.at 0, .pub 1 0] (.leaf (⟨List.set o1.l z29 (⟨x1.id, x1.fields⟩ : Shp), o3.c1⟩ : l8Bent_o_O) [0]))))) (.br (.seg [.at 0, .keep [0, 2, 3], .sel [0, 1, 3, 2]] (.loop z38 fun q1 => .intro (l1Below_o_p q1.c 2) fun o4 => .seg [.ord (os 7 [4]) [0], .call [0] (.v (vI o4.x)) [.cells (cCur o4.c1)], .as 93 (.v (vI (6 + o4.x)))] (.br (.seg [.as 100 (.v (vI (91 + ((List.length q1.shapes : Nat) : Int)))), .tyT, .tyT, .at 0, .keep [0, 2, 3], .sel [0, 1, 2, 5]] (.next)) (.seg [.at 0, .pub 1 0] (.leaf (⟨q1.shapes, o4.c1⟩ : l8Bent_o_O) [0]))))) (.seg [.at 0, .pub 1 0] (.leaf (⟨o1.l, o3.c1⟩ : l8Bent_o_O) [0]))))))))), In (l8Right_o_p c) fun o1 => (let z36 := ((List.length o1.l : Nat) : Int); (l8Right_o_f c o1) ∧ In (l1Below_o_p o1.c1 z36) fun o2 => (let z30 := o2.x < z36; let z32 := (0 : Int) ≤ o2.x; let z33 := ∃ (x1 : Shp), o1.l[Int.toNat o2.x]? = some x1; let z34 := Int.toNat o2.x; let z31 := z34 = z34; let z35 := o1.l[Int.toNat o2.x]?; (l1Below_o_f o1.c1 z36 o2) ∧ In (l1Below_o_p o2.c1 10) fun o3 => (let z27 : List Blk := [.cells (cCur o3.c1)]; let z28 := CurOk o3.c1; (l1Below_o_f o2.c1 10 o3) ∧ ((decide (o3.x = 0)) = true → In (l1PickInt_w_p o3.c1 [0, 5, 100, (-1)]) fun o4 => (z33 ∧ ∀ (x1 : Shp), (o1.l[Int.toNat o2.x]? = some x1) → (let z1 := List.set o1.l z34 (⟨o4.x, x1.fields⟩ : Shp); (l1PickInt_w_f o3.c1 [0, 5, 100, (-1)] o4) ∧ z30 ∧ z32 ∧ z30 ∧ z32 ∧ (o1.l[Int.toNat o2.x]? = some x1) ∧ ((SchB z1) ∧ (CurOk o4.c1)) ∧ (.v (.agg [.seq .shp z1]) : S) = .v (.agg [.seq .shp z1]) ∧ ([.cells (cCur o4.c1)] : List Blk) = [.cells (cCur o4.c1)]))) ∧ ((decide (o3.x = 0)) = false → ((decide (o3.x = 1)) = true → z33 ∧ ∀ (x1 : Shp), (o1.l[Int.toNat o2.x]? = some x1) → (let z11 := z35.map (fun (x : Shp) => x.fields.length) = some (List.length x1.fields); let z12 := o1.l[Int.toNat o2.x]? = some x1; z12 ∧ In (l4Number_o_p o3.c1) fun o4 => (In (l1Below_o_p o4.c1 10) fun o5 => (let z10 := l1Below_o_f o4.c1 10 o5; In (l1Below_o_p o5.c1 4) fun o6 => (let z7 := (.v (vI (IntKind.i64.wrap (o6.x - 1))) : S) = .v (vI (o6.x - 1)); let z8 := l1Below_o_f o5.c1 4 o6; let z9 := (⟨o4.x, o5.x, false, false, o6.x - 1⟩ : Fld); let z5 := List.length x1.fields + List.length [z9] ≤ bigN; let z6 := List.set o1.l z34 (⟨x1.id, x1.fields ++ [z9]⟩ : Shp); let z4 : List Blk := [.cells (cCur o6.c1), .cells [.nil], .cells [.own 3], .tree z6]; z30 ∧ z32 ∧ z30 ∧ z32 ∧ z31 ∧ z11 ∧ (l4Number_o_f o3.c1 o4) ∧ z10 ∧ z8 ∧ z7 ∧ z5 ∧ z30 ∧ z32 ∧ z30 ∧ z32 ∧ z31 ∧ z12 ∧ (l4Number_o_f o3.c1 o4) ∧ z31 ∧ z11 ∧ z10 ∧ z8 ∧ z7 ∧ z5 ∧ z30 ∧ z32 ∧ z30 ∧ z32 ∧ z31 ∧ z12 ∧ z10 ∧ z31 ∧ z11 ∧ z8 ∧ z7 ∧ z5 ∧ z30 ∧ z32 ∧ z30 ∧ z32 ∧ z31 ∧ z12 ∧ z8 ∧ z7 ∧ z31 ∧ z11 ∧ z5 ∧ z30 ∧ z32 ∧ z30 ∧ z32 ∧ z31 ∧ z12 ∧ z31 ∧ z11 ∧ z5 ∧ z30 ∧ z32 ∧ z30 ∧ z32 ∧ z31 ∧ z12 ∧ ((z4 : List Blk) = z4) ∧ z37 ∧ ((z4 : List Blk) = z4) ∧ z37 ∧ ((z4 : List Blk) = z4) ∧ z37 ∧ ((z4 : List Blk) = z4) ∧ z37 ∧ ((SchB z6) ∧ (CurOk o6.c1)) ∧ (.v (.agg [.seq .shp z6]) : S) = .v (.agg [.seq .shp z6]) ∧ ([.cells (cCur o6.c1)] : List Blk) = [.cells (cCur o6.c1)]))))) ∧ ((decide (o3.x = 1)) = false → ((decide (o3.x = 2)) = true → z33 ∧ ∀ (x1 : Shp), (o1.l[Int.toNat o2.x]? = some x1) → (let z15 := z35.map (fun (x : Shp) => x.fields.length) = some (List.length x1.fields); let z16 := 0 < ((List.length x1.fields : Nat) : Int); let z17 := List.set o1.l z34 (⟨x1.id, x1.fields⟩ : Shp); let z18 := o1.l[Int.toNat o2.x]? = some x1; z18 ∧ z30 ∧ z32 ∧ z31 ∧ z15 ∧ ((decide z16) = true → In (l1Below_o_p o3.c1 5) fun o4 => ((∃ (x2 : Fld), x1.fields[0]? = some x2) ∧ ∀ (x2 : Fld), (x1.fields[0]? = some x2) → (let z14 := (⟨x2.number, x2.kind, x2.rep, x2.packed, o4.x - 1⟩ : Fld); let z13 := List.set o1.l z34 (⟨x1.id, List.set x1.fields 0 z14⟩ : Shp); z30 ∧ z32 ∧ z30 ∧ z32 ∧ z31 ∧ z15 ∧ z31 ∧ z15 ∧ (l1Below_o_f o3.c1 5 o4) ∧ ((.v (vI (IntKind.i64.wrap (o4.x - 1))) : S) = .v (vI (o4.x - 1))) ∧ z16 ∧ ((0 : Int) ≤ 0) ∧ z16 ∧ ((0 : Int) ≤ 0) ∧ (x1.fields[0]? = some x2) ∧ (List.length (List.set x1.fields 0 z14) = List.length x1.fields) ∧ z18 ∧ ((SchB z13) ∧ (CurOk o4.c1)) ∧ (.v (.agg [.seq .shp z13]) : S) = .v (.agg [.seq .shp z13]) ∧ ([.cells (cCur o4.c1)] : List Blk) = [.cells (cCur o4.c1)]))) ∧ ((decide z16) = false → (List.length x1.fields = List.length x1.fields) ∧ z18 ∧ ((SchB z17) ∧ z28) ∧ (.v (.agg [.seq .shp z17]) : S) = .v (.agg [.seq .shp z17]) ∧ (z27 : List Blk) = z27))) ∧ ((decide (o3.x = 2)) = false → ((decide (o3.x = 3)) = true → z33 ∧ ∀ (x1 : Shp), (o1.l[Int.toNat o2.x]? = some x1) → (let z21 := List.set o1.l z34 (⟨x1.id, x1.fields⟩ : Shp); let z22 := z35.map (fun (x : Shp) => x.fields.length) = some (List.length x1.fields); let z23 := 0 < ((List.length x1.fields : Nat) : Int); let z24 := o1.l[Int.toNat o2.x]? = some x1; z24 ∧ z30 ∧ z32 ∧ z31 ∧ z22 ∧ ((decide z23) = true → (∃ (x2 : Fld), x1.fields[0]? = some x2) ∧ ∀ (x2 : Fld), (x1.fields[0]? = some x2) → (let z20 := (⟨x2.number, x2.kind, x2.rep, true, x2.msg⟩ : Fld); let z19 := List.set o1.l z34 (⟨x1.id, List.set x1.fields 0 z20⟩ : Shp); z30 ∧ z32 ∧ z31 ∧ z22 ∧ z23 ∧ ((0 : Int) ≤ 0) ∧ (x1.fields[0]? = some x2) ∧ (List.length (List.set x1.fields 0 z20) = List.length x1.fields) ∧ z24 ∧ ((SchB z19) ∧ z28) ∧ (.v (.agg [.seq .shp z19]) : S) = .v (.agg [.seq .shp z19]) ∧ (z27 : List Blk) = z27)) ∧ ((decide z23) = false → (List.length x1.fields = List.length x1.fields) ∧ z24 ∧ ((SchB z21) ∧ z28) ∧ (.v (.agg [.seq .shp z21]) : S) = .v (.agg [.seq .shp z21]) ∧ (z27 : List Blk) = z27))) ∧ ((decide (o3.x = 3)) = false → ((decide (o3.x = 4)) = true → z38.Has [(0, .v (vP 0)), (2, .v (vP 1)), (3, .v (vP 2))] [.cells (cCur o3.c1), .cells [.nil], .cells [.own 3], .tree o1.l] ∧ ∀ q1, z38.inv q1 → (let z26 := ((List.length q1.shapes : Nat) : Int); In (l1Below_o_p q1.c 2) fun o4 => (let z25 := decide (z26 < 6 + o4.x); (l1Below_o_f q1.c 2 o4) ∧ ((.v (vI (IntKind.i64.wrap (6 + o4.x))) : S) = .v (vI (6 + o4.x))) ∧ (z25 = true → ((.v (vI (IntKind.i64.wrap (91 + z26))) : S) = .v (vI (91 + z26))) ∧ (List.length q1.shapes + List.length [(⟨91 + z26, ([] : List Fld)⟩ : Shp)] ≤ bigN) ∧ z38.Nxt q1 [(0, .v (vP 0)), (2, .v (vP 1)), (3, .v (vP 2))] [.cells (cCur o4.c1), .cells [.nil], .cells [.own 3], .tree (q1.shapes ++ [(⟨91 + z26, ([] : List Fld)⟩ : Shp)])]) ∧ (z25 = false → ((SchB q1.shapes) ∧ (CurOk o4.c1)) ∧ (.v (.agg [.seq .shp q1.shapes]) : S) = .v (.agg [.seq .shp q1.shapes]) ∧ ([.cells (cCur o4.c1)] : List Blk) = [.cells (cCur o4.c1)])))) ∧ ((decide (o3.x = 4)) = false → ((SchB o1.l) ∧ z28) ∧ (.v (.agg [.seq .shp o1.l]) : S) = .v (.agg [.seq .shp o1.l]) ∧ (z27 : List Blk) = z27)))))))))) (by kernel_rfl) ?_
 refine ⟨(l8Right_o c (by first | assumption | (exact ⟨by dsimp only; first | omega | (have := hp1.1; omega), hp1.2⟩))), fun o1 ho_o1 => ?_⟩
 obtain ⟨⟨hp_o1_0, hp_o1_1, hp_o1_2, hp_o1_3⟩, hf_o1⟩ := ho_o1
 refine ⟨hf_o1, (l1Below_o o1.c1 ((List.length o1.l : Nat) : Int) (by first | assumption | (exact ⟨by dsimp only; first | omega | (have := hp1.1; omega), hp1.2⟩))), fun o2 ho_o2 => ?_⟩
 obtain ⟨⟨hp_o2_0, hp_o2_1, hp_o2_2, hp_o2_3⟩, hf_o2⟩ := ho_o2
 refine ⟨hf_o2, (l1Below_o o2.c1 10 (by first | assumption | (exact ⟨by dsimp only; first | omega | (have := hp1.1; omega), hp1.2⟩))), fun o3 ho_o3 => ?_⟩
 obtain ⟨⟨hp_o3_0, hp_o3_1, hp_o3_2, hp_o3_3⟩, hf_o3⟩ := ho_o3
 refine ⟨hf_o3, dsp (fun h1 p1 => ?_) fun h1 p1 => ?_⟩
 refine ⟨(l1PickInt_w o3.c1 [0, 5, 100, (-1)] (by first | assumption | (exact ⟨by dsimp only; first | omega | (have := hp1.1; omega), hp1.2⟩)) (by simp only [List.length_cons, List.length_nil]; omega) (by simp only [List.length_cons, List.length_nil]; omega)), fun o4 ho_o4 => ?_⟩
 obtain ⟨⟨hp_o4_0, hp_o4_1⟩, hf_o4⟩ := ho_o4
 refine ⟨(ax_get (l := o1.l) (i := Int.toNat o2.x) (by omega)), fun x1 hx1 => ?_⟩
 have hxl := (hp_o1_0.2 _ (List.mem_of_getElem? hx1)).1
 exact ⟨hf_o4, (by omega), (by omega), (by omega), (by omega), hx1, ⟨(by first | exact SchG.b hp_o1_0 | exact v2 | exact SchB.set (SchG.b hp_o1_0) (by simp; omega)), (by first | assumption | (exact ⟨by dsimp only; first | omega | (have := hp1.1; omega), hp1.2⟩))⟩, rfl, rfl⟩
 refine dsp (fun h2 p2 => ?_) fun h2 p2 => ?_
 refine ⟨(ax_get (l := o1.l) (i := Int.toNat o2.x) (by omega)), fun x1 hx1 => ?_⟩
 have hxl := (hp_o1_0.2 _ (List.mem_of_getElem? hx1)).1
 refine ⟨hx1, (l4Number_o o3.c1 (by first | assumption | (exact ⟨by dsimp only; first | omega | (have := hp1.1; omega), hp1.2⟩))), fun o4 ho_o4 => ?_⟩
 obtain ⟨hp_o4, hf_o4⟩ := ho_o4
 refine ⟨(l1Below_o o4.c1 10 (by first | assumption | (exact ⟨by dsimp only; first | omega | (have := hp1.1; omega), hp1.2⟩))), fun o5 ho_o5 => ?_⟩
 obtain ⟨⟨hp_o5_0, hp_o5_1, hp_o5_2, hp_o5_3⟩, hf_o5⟩ := ho_o5
 refine ⟨(l1Below_o o5.c1 4 (by first | assumption | (exact ⟨by dsimp only; first | omega | (have := hp1.1; omega), hp1.2⟩))), fun o6 ho_o6 => ?_⟩
 obtain ⟨⟨hp_o6_0, hp_o6_1, hp_o6_2, hp_o6_3⟩, hf_o6⟩ := ho_o6
 exact ⟨(by omega), (by omega), (by omega), (by omega), rfl, (by rw [hx1]; rfl), hf_o4, hf_o5, hf_o6, (as_i64 (by omega) (by omega)), (by simp only [List.length_cons, List.length_nil]; omega), (by omega), (by omega), (by omega), (by omega), rfl, hx1, hf_o4, rfl, (by rw [hx1]; rfl), hf_o5, hf_o6, (as_i64 (by omega) (by omega)), (by simp only [List.length_cons, List.length_nil]; omega), (by omega), (by omega), (by omega), (by omega), rfl, hx1, hf_o5, rfl, (by rw [hx1]; rfl), hf_o6, (as_i64 (by omega) (by omega)), (by simp only [List.length_cons, List.length_nil]; omega), (by omega), (by omega), (by omega), (by omega), rfl, hx1, hf_o6, (as_i64 (by omega) (by omega)), rfl, (by rw [hx1]; rfl), (by simp only [List.length_cons, List.length_nil]; omega), (by omega), (by omega), (by omega), (by omega), rfl, hx1, rfl, (by rw [hx1]; rfl), (by simp only [List.length_cons, List.length_nil]; omega), (by omega), (by omega), (by omega), (by omega), rfl, hx1, rfl, rfl, rfl, rfl, rfl, rfl, rfl, rfl, ⟨(by first | exact SchG.b hp_o1_0 | exact v2 | exact SchB.set (SchG.b hp_o1_0) (by simp; omega)), (by first | assumption | (exact ⟨by dsimp only; first | omega | (have := hp1.1; omega), hp1.2⟩))⟩, rfl, rfl⟩
 refine dsp (fun h3 p3 => ?_) fun h3 p3 => ?_
 refine ⟨(ax_get (l := o1.l) (i := Int.toNat o2.x) (by omega)), fun x1 hx1 => ?_⟩
 have hxl := (hp_o1_0.2 _ (List.mem_of_getElem? hx1)).1
 refine ⟨hx1, (by omega), (by omega), rfl, (by rw [hx1]; rfl), dsp (fun h4 p4 => ?_) fun h4 p4 => ?_⟩
 refine ⟨(l1Below_o o3.c1 5 (by first | assumption | (exact ⟨by dsimp only; first | omega | (have := hp1.1; omega), hp1.2⟩))), fun o4 ho_o4 => ?_⟩
 obtain ⟨⟨hp_o4_0, hp_o4_1, hp_o4_2, hp_o4_3⟩, hf_o4⟩ := ho_o4
 refine ⟨(ax_get (l := x1.fields) (i := 0) (by omega)), fun x2 hx2 => ?_⟩
 refine ⟨(by omega), (by omega), (by omega), (by omega), rfl, (by rw [hx1]; rfl), rfl, (by rw [hx1]; rfl), hf_o4, (as_i64 (by omega) (by omega)), (by omega), (by decide), (by omega), (by decide), hx2, ?_⟩
 exact ⟨(by first | rfl | simp), hx1, ⟨(by first | exact SchG.b hp_o1_0 | exact v2 | exact SchB.set (SchG.b hp_o1_0) (by simp; omega)), (by first | assumption | (exact ⟨by dsimp only; first | omega | (have := hp1.1; omega), hp1.2⟩))⟩, rfl, rfl⟩
 exact ⟨(by first | rfl | simp), hx1, ⟨(by first | exact SchG.b hp_o1_0 | exact v2 | exact SchB.set (SchG.b hp_o1_0) (by simp; omega)), (by first | assumption | (exact ⟨by dsimp only; first | omega | (have := hp1.1; omega), hp1.2⟩))⟩, rfl, rfl⟩
 refine dsp (fun h4 p4 => ?_) fun h4 p4 => ?_
 refine ⟨(ax_get (l := o1.l) (i := Int.toNat o2.x) (by omega)), fun x1 hx1 => ?_⟩
 have hxl := (hp_o1_0.2 _ (List.mem_of_getElem? hx1)).1
 refine ⟨hx1, (by omega), (by omega), rfl, (by rw [hx1]; rfl), dsp (fun h5 p5 => ?_) fun h5 p5 => ?_⟩
 refine ⟨(ax_get (l := x1.fields) (i := 0) (by omega)), fun x2 hx2 => ?_⟩
 refine ⟨(by omega), (by omega), rfl, (by rw [hx1]; rfl), (by omega), (by decide), hx2, ?_⟩
 exact ⟨(by first | rfl | simp), hx1, ⟨(by first | exact SchG.b hp_o1_0 | exact v2 | exact SchB.set (SchG.b hp_o1_0) (by simp; omega)), (by first | assumption | (exact ⟨by dsimp only; first | omega | (have := hp1.1; omega), hp1.2⟩))⟩, rfl, rfl⟩
 exact ⟨(by first | rfl | simp), hx1, ⟨(by first | exact SchG.b hp_o1_0 | exact v2 | exact SchB.set (SchG.b hp_o1_0) (by simp; omega)), (by first | assumption | (exact ⟨by dsimp only; first | omega | (have := hp1.1; omega), hp1.2⟩))⟩, rfl, rfl⟩
 refine dsp (fun h5 p5 => ?_) fun h5 p5 => ?_
 refine ⟨has_of (j := (⟨o3.c1, o1.l⟩ : l8Bent_o_V0)) rfl rfl (by dsimp only [l8Bent_o_F0]; exact ⟨by assumption, SchG.b hp_o1_0⟩), fun (q1 : l8Bent_o_V0) hq_q1 => ?_⟩
 have hi_q1 : CurOk q1.c ∧ SchB q1.shapes := hq_q1
 obtain ⟨v1, v2⟩ := hi_q1
 have hs7 := v2.1
 refine ⟨(l1Below_o q1.c 2 (by first | assumption | (exact ⟨by dsimp only; first | omega | (have := hp1.1; omega), hp1.2⟩))), fun o4 ho_o4 => ?_⟩
 obtain ⟨⟨hp_o4_0, hp_o4_1, hp_o4_2, hp_o4_3⟩, hf_o4⟩ := ho_o4
 refine ⟨hf_o4, (as_i64 (by omega) (by omega)), dsp (fun h6 p6 => ?_) fun h6 p6 => ?_⟩
 exact ⟨(as_i64 (by omega) (by omega)), (by simp only [List.length_cons, List.length_nil]; omega), nxt_of (j := (⟨o4.c1, q1.shapes ++ [(⟨91 + ((List.length q1.shapes : Nat) : Int), ([] : List Fld)⟩ : Shp)]⟩ : l8Bent_o_V0)) rfl rfl (by dsimp only [l8Bent_o_F0]; exact ⟨by assumption, SchB.app v2 (by omega)⟩) (by dsimp only [l8Bent_o_F0]; simp; omega)⟩
 exact ⟨⟨(by first | exact SchG.b hp_o1_0 | exact v2 | exact SchB.set (SchG.b hp_o1_0) (by simp; omega)), (by first | assumption | (exact ⟨by dsimp only; first | omega | (have := hp1.1; omega), hp1.2⟩))⟩, rfl, rfl⟩
 exact ⟨⟨(by first | exact SchG.b hp_o1_0 | exact v2 | exact SchB.set (SchG.b hp_o1_0) (by simp; omega)), (by first | assumption | (exact ⟨by dsimp only; first | omega | (have := hp1.1; omega), hp1.2⟩))⟩, rfl, rfl⟩
structure l12Bent_o_O where
 p : Pln
 c1 : Cur
def l12Bent_o_f (c : Cur) (o : l12Bent_o_O) : Prop := Fun Tryz.prog 42 [vP 0] [.cells (cCur c)] (.v (.agg (cPln o.p))) [.cells (cCur o.c1)]
def l12Bent_o_p (c : Cur) (o : l12Bent_o_O) : Prop := ((PlnB o.p) ∧ (CurOk o.c1)) ∧ l12Bent_o_f c o
theorem l12Bent_o (c : Cur) (hp1 : CurOk c) : ∃ o : l12Bent_o_O, l12Bent_o_p c o := by
 have hN : bigN = 274877906944 := rfl
 refine funs_ofw Tryz.func42 (by kernel_rfl) (by kernel_rfl) (w := let zi : Int → C := .int .i64; (.intro (l12Plan_o_p c) fun o1 => .seg [.call [0] (.v (.agg (cPln o1.p))) [.cells (cCur o1.c1)]] (.intro (l1Below_o_p o1.c1 10) fun o2 => .seg [.call [0] (.v (vI o2.x)) [.cells (cCur o2.c1)]] (.br (.intro (l8Bent_o_p o2.c1) fun o3 => .seg [.call [0] (.v (.agg [.seq .shp o3.l])) [.cells (cCur o3.c1)]] (.leaf (⟨(⟨o3.l, o1.p.root, o1.p.deep, o1.p.most⟩ : Pln), o3.c1⟩ : l12Bent_o_O) [0])) (.br (.seg [.ty .int, .pubS 16] (.intro (l1PickInt_o_p o2.c1 [(-1), 0, 3, 9223372036854775807]) fun o3 => .seg [.call [0] (.v (vI o3.x)) [.cells (cCur o3.c1)]] (.leaf (⟨(⟨o1.p.shapes, o3.x, o1.p.deep, o1.p.most⟩ : Pln), o3.c1⟩ : l12Bent_o_O) [0]))) (.br (.seg [.ty .int, .pubS 22] (.intro (l1PickInt_o_p o2.c1 [0, 1, 8, 9, (-1)]) fun o3 => .seg [.call [0] (.v (vI o3.x)) [.cells (cCur o3.c1)]] (.leaf (⟨(⟨o1.p.shapes, o1.p.root, o3.x, o1.p.most⟩ : Pln), o3.c1⟩ : l12Bent_o_O) [0]))) (.br (.seg [.ty .int, .pubS 28] (.intro (l1PickInt_o_p o2.c1 [(-1), 0, 2000, 2001]) fun o3 => .seg [.call [0] (.v (vI o3.x)) [.cells (cCur o3.c1)]] (.leaf (⟨(⟨o1.p.shapes, o1.p.root, o1.p.deep, o3.x⟩ : Pln), o3.c1⟩ : l12Bent_o_O) [0]))) (.leaf (⟨o1.p, o2.c1⟩ : l12Bent_o_O) [0])))))), In (l12Plan_o_p c) fun o1 => ((l12Plan_o_f c o1) ∧ In (l1Below_o_p o1.c1 10) fun o2 => ((l1Below_o_f o1.c1 10 o2) ∧ ((decide (o2.x = 0)) = true → In (l8Bent_o_p o2.c1) fun o3 => ((l8Bent_o_f o2.c1 o3) ∧ ((PlnB (⟨o3.l, o1.p.root, o1.p.deep, o1.p.most⟩ : Pln)) ∧ (CurOk o3.c1)) ∧ (.v (.agg [.seq .shp o3.l, zi o1.p.root, zi o1.p.deep, zi o1.p.most]) : S) = .v (.agg [.seq .shp o3.l, zi o1.p.root, zi o1.p.deep, zi o1.p.most]) ∧ ([.cells (cCur o3.c1)] : List Blk) = [.cells (cCur o3.c1)])) ∧ ((decide (o2.x = 0)) = false → ((decide (o2.x = 1)) = true → In (l1PickInt_o_p o2.c1 [(-1), 0, 3, 9223372036854775807]) fun o3 => ((l1PickInt_o_f o2.c1 [(-1), 0, 3, 9223372036854775807] o3) ∧ ((PlnB (⟨o1.p.shapes, o3.x, o1.p.deep, o1.p.most⟩ : Pln)) ∧ (CurOk o3.c1)) ∧ (.v (.agg [.seq .shp o1.p.shapes, zi o3.x, zi o1.p.deep, zi o1.p.most]) : S) = .v (.agg [.seq .shp o1.p.shapes, zi o3.x, zi o1.p.deep, zi o1.p.most]) ∧ ([.cells (cCur o3.c1)] : List Blk) = [.cells (cCur o3.c1)])) ∧ ((decide (o2.x = 1)) = false → ((decide (o2.x = 2)) = true → In (l1PickInt_o_p o2.c1 [0, 1, 8, 9, (-1)]) fun o3 => ((l1PickInt_o_f o2.c1 [0, 1, 8, 9, (-1)] o3) ∧ ((PlnB (⟨o1.p.shapes, o1.p.root, o3.x, o1.p.most⟩ : Pln)) ∧ (CurOk o3.c1)) ∧ (.v (.agg [.seq .shp o1.p.shapes, zi o1.p.root, zi o3.x, zi o1.p.most]) : S) = .v (.agg [.seq .shp o1.p.shapes, zi o1.p.root, zi o3.x, zi o1.p.most]) ∧ ([.cells (cCur o3.c1)] : List Blk) = [.cells (cCur o3.c1)])) ∧ ((decide (o2.x = 2)) = false → ((decide (o2.x = 3)) = true → In (l1PickInt_o_p o2.c1 [(-1), 0, 2000, 2001]) fun o3 => ((l1PickInt_o_f o2.c1 [(-1), 0, 2000, 2001] o3) ∧ ((PlnB (⟨o1.p.shapes, o1.p.root, o1.p.deep, o3.x⟩ : Pln)) ∧ (CurOk o3.c1)) ∧ (.v (.agg [.seq .shp o1.p.shapes, zi o1.p.root, zi o1.p.deep, zi o3.x]) : S) = .v (.agg [.seq .shp o1.p.shapes, zi o1.p.root, zi o1.p.deep, zi o3.x]) ∧ ([.cells (cCur o3.c1)] : List Blk) = [.cells (cCur o3.c1)])) ∧ ((decide (o2.x = 3)) = false → ((PlnB o1.p) ∧ (CurOk o2.c1)) ∧ (.v (.agg (cPln o1.p)) : S) = .v (.agg (cPln o1.p)) ∧ ([.cells (cCur o2.c1)] : List Blk) = [.cells (cCur o2.c1)])))))))) (by kernel_rfl) ?_
 refine ⟨(l12Plan_o c (by first | assumption | (exact ⟨by dsimp only; first | omega | (have := hp1.1; omega), hp1.2⟩))), fun o1 ho_o1 => ?_⟩
 obtain ⟨⟨hp_o1_0, hp_o1_1⟩, hf_o1⟩ := ho_o1
 refine ⟨hf_o1, (l1Below_o o1.c1 10 (by first | assumption | (exact ⟨by dsimp only; first | omega | (have := hp1.1; omega), hp1.2⟩))), fun o2 ho_o2 => ?_⟩
 obtain ⟨⟨hp_o2_0, hp_o2_1, hp_o2_2, hp_o2_3⟩, hf_o2⟩ := ho_o2
 refine ⟨hf_o2, dsp (fun h1 p1 => ?_) fun h1 p1 => ?_⟩
 refine ⟨(l8Bent_o o2.c1 (by first | assumption | (exact ⟨by dsimp only; first | omega | (have := hp1.1; omega), hp1.2⟩))), fun o3 ho_o3 => ?_⟩
 obtain ⟨⟨hp_o3_0, hp_o3_1⟩, hf_o3⟩ := ho_o3
 exact ⟨hf_o3, ⟨(by first | exact hp_o1_0.b | assumption), (by first | assumption | (exact ⟨by dsimp only; first | omega | (have := hp1.1; omega), hp1.2⟩))⟩, rfl, rfl⟩
 refine dsp (fun h2 p2 => ?_) fun h2 p2 => ?_
 refine ⟨(l1PickInt_o o2.c1 [(-1), 0, 3, 9223372036854775807] (by first | assumption | (exact ⟨by dsimp only; first | omega | (have := hp1.1; omega), hp1.2⟩)) (by simp only [List.length_cons, List.length_nil]; omega) (by simp only [List.length_cons, List.length_nil]; omega)), fun o3 ho_o3 => ?_⟩
 obtain ⟨⟨hp_o3_0, hp_o3_1⟩, hf_o3⟩ := ho_o3
 exact ⟨hf_o3, ⟨(by first | exact hp_o1_0.b | assumption), (by first | assumption | (exact ⟨by dsimp only; first | omega | (have := hp1.1; omega), hp1.2⟩))⟩, rfl, rfl⟩
 refine dsp (fun h3 p3 => ?_) fun h3 p3 => ?_
 refine ⟨(l1PickInt_o o2.c1 [0, 1, 8, 9, (-1)] (by first | assumption | (exact ⟨by dsimp only; first | omega | (have := hp1.1; omega), hp1.2⟩)) (by simp only [List.length_cons, List.length_nil]; omega) (by simp only [List.length_cons, List.length_nil]; omega)), fun o3 ho_o3 => ?_⟩
 obtain ⟨⟨hp_o3_0, hp_o3_1⟩, hf_o3⟩ := ho_o3
 exact ⟨hf_o3, ⟨(by first | exact hp_o1_0.b | assumption), (by first | assumption | (exact ⟨by dsimp only; first | omega | (have := hp1.1; omega), hp1.2⟩))⟩, rfl, rfl⟩
 refine dsp (fun h4 p4 => ?_) fun h4 p4 => ?_
 refine ⟨(l1PickInt_o o2.c1 [(-1), 0, 2000, 2001] (by first | assumption | (exact ⟨by dsimp only; first | omega | (have := hp1.1; omega), hp1.2⟩)) (by simp only [List.length_cons, List.length_nil]; omega) (by simp only [List.length_cons, List.length_nil]; omega)), fun o3 ho_o3 => ?_⟩
 obtain ⟨⟨hp_o3_0, hp_o3_1⟩, hf_o3⟩ := ho_o3
 exact ⟨hf_o3, ⟨(by first | exact hp_o1_0.b | assumption), (by first | assumption | (exact ⟨by dsimp only; first | omega | (have := hp1.1; omega), hp1.2⟩))⟩, rfl, rfl⟩
 exact ⟨⟨(by first | exact hp_o1_0.b | assumption), (by first | assumption | (exact ⟨by dsimp only; first | omega | (have := hp1.1; omega), hp1.2⟩))⟩, rfl, rfl⟩
structure l12Turned_o_O where
 t : List UInt8
 c1 : Cur
def l12Turned_o_f (c : Cur) (s : List UInt8) (o : l12Turned_o_O) : Prop := Fun Tryz.prog 40 [vP 0, vT s] [.cells (cCur c)] (.v (vT o.t)) [.cells (cCur o.c1)]
def l12Turned_o_p (c : Cur) (s : List UInt8) (o : l12Turned_o_O) : Prop := ((List.length (o.t : List UInt8) ≤ List.length s + 2) ∧ (CurOk o.c1)) ∧ l12Turned_o_f c s o
theorem l12Turned_o (c : Cur) (s : List UInt8) (hp1 : CurOk c) (hp2 : List.length s ≤ 1000000) : ∃ o : l12Turned_o_O, l12Turned_o_p c s o := by
 have hN : bigN = 274877906944 := rfl
 refine funs_ofw Tryz.func40 (by kernel_rfl) (by kernel_rfl) (w := let z10 := ((List.length s : Nat) : Int); let z9 := z10 + 1; let z11 := (.v (vI (IntKind.i64.wrap z9)) : S) = .v (vI z9); (.intro (l1Below_o_p c 8) fun o1 => let z7 := l1Below_o_p o1.c1 z9; .seg [.call [0] (.v (vI o1.x)) [.cells (cCur o1.c1)]] (.br (.intro (l1Spoil_o_p o1.c1 s) fun o2 => .seg [.call [0] (.v (vT o2.t)) [.cells (cCur o2.c1)]] (.leaf (⟨o2.t, o2.c1⟩ : l12Turned_o_O) [0])) (.br (.seg [.as 19 (.v (vI z9))] (.intro z7 fun o2 => .seg [.call [0] (.v (vI o2.x)) [.cells (cCur o2.c1)]] (.leaf (⟨List.take (Int.toNat o2.x) s, o2.c1⟩ : l12Turned_o_O) [0]))) (.br (.seg [.as 27 (.v (vI z9))] (.intro z7 fun o2 => .seg [.call [0] (.v (vI o2.x)) [.cells (cCur o2.c1)]] (.intro (l1Bytes_o_p o2.c1 1) fun o3 => .seg [.ord [(0, true), (1, true), (2, true), (3, true), (7, true), (8, true), (9, true), (4, false), (5, false), (6, true), (10, true), (11, true)] [0], .call [0] (.v (vO 1)) [.cells (cCur o3.c1), .lst .u8 o3.l]] (.leaf (⟨((List.take (Int.toNat o2.x) s) ++ (List.map toByte o3.l)) ++ (List.drop (Int.toNat o2.x) s), o3.c1⟩ : l12Turned_o_O) [0])))) (.leaf (⟨s, o1.c1⟩ : l12Turned_o_O) [0])))), In (l1Below_o_p c 8) fun o1 => (let z8 := l1Below_o_p o1.c1 z9; (l1Below_o_f c 8 o1) ∧ ((decide (o1.x = 0)) = true → In (l1Spoil_o_p o1.c1 s) fun o2 => ((l1Spoil_o_f o1.c1 s o2) ∧ ((List.length (o2.t : List UInt8) ≤ List.length s + 2) ∧ (CurOk o2.c1)) ∧ (.v (vT o2.t) : S) = .v (vT o2.t) ∧ ([.cells (cCur o2.c1)] : List Blk) = [.cells (cCur o2.c1)])) ∧ ((decide (o1.x = 0)) = false → ((decide (o1.x = 1)) = true → z11 ∧ In z8 fun o2 => (let z1 := List.take (Int.toNat o2.x) s; (l1Below_o_f o1.c1 z9 o2) ∧ (o2.x ≤ z10) ∧ ((0 : Int) ≤ o2.x) ∧ ((List.length (z1 : List UInt8) ≤ List.length s + 2) ∧ (CurOk o2.c1)) ∧ (.v (vT z1) : S) = .v (vT z1) ∧ ([.cells (cCur o2.c1)] : List Blk) = [.cells (cCur o2.c1)])) ∧ ((decide (o1.x = 1)) = false → ((decide (o1.x = 2)) = true → z11 ∧ In z8 fun o2 => (let z4 := o2.x ≤ z10; let z5 := (0 : Int) ≤ o2.x; let z6 := Int.toNat o2.x; (l1Below_o_f o1.c1 z9 o2) ∧ In (l1Bytes_o_p o2.c1 1) fun o3 => (let z3 := (List.take z6 s) ++ (List.map toByte o3.l); let z2 := z3 ++ (List.drop z6 s); z4 ∧ z5 ∧ z4 ∧ z5 ∧ z4 ∧ z5 ∧ z4 ∧ z5 ∧ (l1Bytes_o_f o2.c1 1 o3) ∧ (((List.length (List.take z6 s) + List.length (List.map toByte o3.l) : Nat) : Int) ≤ i64max) ∧ (((List.length z3 + List.length (List.drop z6 s) : Nat) : Int) ≤ i64max) ∧ ((List.length (z2 : List UInt8) ≤ List.length s + 2) ∧ (CurOk o3.c1)) ∧ (.v (vT z2) : S) = .v (vT z2) ∧ ([.cells (cCur o3.c1)] : List Blk) = [.cells (cCur o3.c1)]))) ∧ ((decide (o1.x = 2)) = false → ((List.length (s : List UInt8) ≤ List.length s + 2) ∧ (CurOk o1.c1)) ∧ (.v (vT s) : S) = .v (vT s) ∧ ([.cells (cCur o1.c1)] : List Blk) = [.cells (cCur o1.c1)])))))) (by kernel_rfl) ?_
 refine ⟨(l1Below_o c 8 (by first | assumption | (exact ⟨by dsimp only; first | omega | (have := hp1.1; omega), hp1.2⟩))), fun o1 ho_o1 => ?_⟩
 obtain ⟨⟨hp_o1_0, hp_o1_1, hp_o1_2, hp_o1_3⟩, hf_o1⟩ := ho_o1
 refine ⟨hf_o1, dsp (fun h1 p1 => ?_) fun h1 p1 => ?_⟩
 refine ⟨(l1Spoil_o o1.c1 s (by first | assumption | (exact ⟨by dsimp only; first | omega | (have := hp1.1; omega), hp1.2⟩)) (by omega)), fun o2 ho_o2 => ?_⟩
 obtain ⟨⟨hp_o2_0, hp_o2_1⟩, hf_o2⟩ := ho_o2
 exact ⟨hf_o2, ⟨(by omega), (by first | assumption | (exact ⟨by dsimp only; first | omega | (have := hp1.1; omega), hp1.2⟩))⟩, rfl, rfl⟩
 refine dsp (fun h2 p2 => ?_) fun h2 p2 => ?_
 refine ⟨(as_i64 (by omega) (by omega)), (l1Below_o o1.c1 (((List.length s : Nat) : Int) + 1) (by first | assumption | (exact ⟨by dsimp only; first | omega | (have := hp1.1; omega), hp1.2⟩))), fun o2 ho_o2 => ?_⟩
 obtain ⟨⟨hp_o2_0, hp_o2_1, hp_o2_2, hp_o2_3⟩, hf_o2⟩ := ho_o2
 exact ⟨hf_o2, (by omega), (by omega), ⟨(by simp only [List.length_take]; omega), (by first | assumption | (exact ⟨by dsimp only; first | omega | (have := hp1.1; omega), hp1.2⟩))⟩, rfl, rfl⟩
 refine dsp (fun h3 p3 => ?_) fun h3 p3 => ?_
 refine ⟨(as_i64 (by omega) (by omega)), (l1Below_o o1.c1 (((List.length s : Nat) : Int) + 1) (by first | assumption | (exact ⟨by dsimp only; first | omega | (have := hp1.1; omega), hp1.2⟩))), fun o2 ho_o2 => ?_⟩
 obtain ⟨⟨hp_o2_0, hp_o2_1, hp_o2_2, hp_o2_3⟩, hf_o2⟩ := ho_o2
 refine ⟨hf_o2, (l1Bytes_o o2.c1 1 (by first | assumption | (exact ⟨by dsimp only; first | omega | (have := hp1.1; omega), hp1.2⟩)) (by omega)), fun o3 ho_o3 => ?_⟩
 obtain ⟨⟨hp_o3_0, hp_o3_1⟩, hf_o3⟩ := ho_o3
 exact ⟨(by omega), (by omega), (by omega), (by omega), (by omega), (by omega), (by omega), (by omega), hf_o3, (by simp only [List.length_append, List.length_map, List.length_nil, List.length_take, List.length_drop, i64max]; omega), (by simp only [List.length_append, List.length_map, List.length_nil, List.length_take, List.length_drop, i64max]; omega), ⟨(by simp only [List.length_append, List.length_take, List.length_drop, List.length_map]; omega), (by first | assumption | (exact ⟨by dsimp only; first | omega | (have := hp1.1; omega), hp1.2⟩))⟩, rfl, rfl⟩
 exact ⟨⟨(by omega), (by first | assumption | (exact ⟨by dsimp only; first | omega | (have := hp1.1; omega), hp1.2⟩))⟩, rfl, rfl⟩
structure l13Input_o_O where
 t : List UInt8
 c1 : Cur
def l13Input_o_f (c : Cur) (p : Pln) (o : l13Input_o_O) : Prop := Fun Tryz.prog 91 [vP 0, .agg (cPln p)] [.cells (cCur c)] (.v (vT o.t)) [.cells (cCur o.c1)]
def l13Input_o_p (c : Cur) (p : Pln) (o : l13Input_o_O) : Prop := ((List.length (o.t : List UInt8) ≤ 200000) ∧ (CurOk o.c1)) ∧ l13Input_o_f c p o
structure l13Input_o_V0 where
 c : Cur
 s : List UInt8
 i : Nat
def l13Input_o_F0 (p : Pln) (o1 : l1Below_o_O) : Fam := ⟨l13Input_o_V0, fun q1 => [(0, .v (vP 0)), (3, .v (vP 1)), (5, .v (vT q1.s)), (6, .v (vI o1.x)), (7, .v (vI ((q1.i : Nat) : Int)))], fun q1 => [.cells (cCur q1.c), .cells (cPln p)], fun q1 => CurOk q1.c ∧ q1.i ≤ 3 ∧ List.length q1.s ≤ 58010 * q1.i, fun q1 => 4 - q1.i⟩
theorem l13Input_o (c : Cur) (p : Pln) (hp1 : CurOk c) (hp2 : PlnG p) : ∃ o : l13Input_o_O, l13Input_o_p c p o := by
 have hN : bigN = 274877906944 := rfl
 have hpd := hp2.deep
 have hpr := hp2.root
 refine funs_ofw Tryz.func91 (by kernel_rfl) (by kernel_rfl) (w := (.intro (l1Below_o_p c 4) fun o1 => .seg [.call [0] (.v (vI o1.x)) [.cells (cCur o1.c1)], .at 0, .keep [0, 3, 5, 6, 7], .sel [0, 1]] (.loop (l13Input_o_F0 p o1) fun q1 => .br (.intro (l1Below_o_p q1.c 2) fun o2 => .intro (l12Bytes_o_p o2.c1 p p.root (p.deep - o2.x)) fun o3 => let z1 := ((List.length o3.t : Nat) : Int); .seg [.ord (os 11 [7, 9]) [0], .call [0] (.v (vI o2.x)) [.cells (cCur o2.c1)], .as 24 (.v (vI (p.deep - o2.x))), .call [0] (.v (vT o3.t)) [.cells (cCur o3.c1)], .as 30 (.v (.c (.int .u64 z1)))] (.intro (l2Var_o_p o3.c1 z1) fun o4 => .seg [.call [0] (.v (vT o4.t)) [.cells (cCur o4.c1)], .as 15 (.v (vI (((q1.i : Nat) : Int) + 1))), .at 0, .keep [0, 3, 5, 6, 7], .sel [0, 1]] (.next))) (.intro (l1Once_o_p q1.c 20) fun o2 => .seg [.call [0] (.v (vB o2.p)) [.cells (cCur o2.c1)]] (.br (.intro (l1Wide_o_p o2.c1) fun o3 => .seg [.call [0] (.v (.c (.int .u64 o3.x))) [.cells (cCur o3.c1)]] (.intro (l2Var_o_p o3.c1 o3.x) fun o4 => .seg [.call [0] (.v (vT o4.t)) [.cells (cCur o4.c1)]] (.intro (l12Turned_o_p o4.c1 (q1.s ++ o4.t)) fun o5 => .seg [.call [0] (.v (vT o5.t)) [.cells (cCur o5.c1)]] (.leaf (⟨o5.t, o5.c1⟩ : l13Input_o_O) [0])))) (.intro (l12Turned_o_p o2.c1 q1.s) fun o3 => .seg [.call [0] (.v (vT o3.t)) [.cells (cCur o3.c1)]] (.leaf (⟨o3.t, o3.c1⟩ : l13Input_o_O) [0]))))), In (l1Below_o_p c 4) fun o1 => (let z5 := l13Input_o_F0 p o1; (l1Below_o_f c 4 o1) ∧ z5.Has [(0, .v (vP 0)), (3, .v (vP 1)), (5, .v (vT [])), (6, .v (vI o1.x)), (7, .v (vI 0))] [.cells (cCur o1.c1), .cells (cPln p)] ∧ ∀ q1, z5.inv q1 → (let z4 := ((q1.i : Nat) : Int); ((decide (z4 < o1.x)) = true → In (l1Below_o_p q1.c 2) fun o2 => (let z3 := p.deep - o2.x; In (l12Bytes_o_p o2.c1 p p.root z3) fun o3 => (let z2 := ((List.length o3.t : Nat) : Int); (l1Below_o_f q1.c 2 o2) ∧ ((.v (vI (IntKind.i64.wrap z3)) : S) = .v (vI z3)) ∧ (l12Bytes_o_f o2.c1 p p.root z3 o3) ∧ ((.v (.c (.int .u64 (IntKind.u64.wrap (z2)))) : S) = .v (.c (.int .u64 z2))) ∧ In (l2Var_o_p o3.c1 z2) fun o4 => ((l2Var_o_f o3.c1 z2 o4) ∧ (((List.length q1.s + List.length o4.t : Nat) : Int) ≤ i64max) ∧ (((List.length (q1.s ++ o4.t) + List.length o3.t : Nat) : Int) ≤ i64max) ∧ ((.v (vI (IntKind.i64.wrap (z4 + 1))) : S) = .v (vI (z4 + 1))) ∧ z5.Nxt q1 [(0, .v (vP 0)), (3, .v (vP 1)), (5, .v (vT ((q1.s ++ o4.t) ++ o3.t))), (6, .v (vI o1.x)), (7, .v (vI (z4 + 1)))] [.cells (cCur o4.c1), .cells (cPln p)])))) ∧ ((decide (z4 < o1.x)) = false → In (l1Once_o_p q1.c 20) fun o2 => ((l1Once_o_f q1.c 20 o2) ∧ (o2.p = true → In (l1Wide_o_p o2.c1) fun o3 => ((l1Wide_o_f o2.c1 o3) ∧ In (l2Var_o_p o3.c1 o3.x) fun o4 => ((l2Var_o_f o3.c1 o3.x o4) ∧ In (l12Turned_o_p o4.c1 (q1.s ++ o4.t)) fun o5 => ((((List.length q1.s + List.length o4.t : Nat) : Int) ≤ i64max) ∧ (l12Turned_o_f o4.c1 (q1.s ++ o4.t) o5) ∧ ((List.length (o5.t : List UInt8) ≤ 200000) ∧ (CurOk o5.c1)) ∧ (.v (vT o5.t) : S) = .v (vT o5.t) ∧ ([.cells (cCur o5.c1)] : List Blk) = [.cells (cCur o5.c1)])))) ∧ (o2.p = false → In (l12Turned_o_p o2.c1 q1.s) fun o3 => ((l12Turned_o_f o2.c1 q1.s o3) ∧ ((List.length (o3.t : List UInt8) ≤ 200000) ∧ (CurOk o3.c1)) ∧ (.v (vT o3.t) : S) = .v (vT o3.t) ∧ ([.cells (cCur o3.c1)] : List Blk) = [.cells (cCur o3.c1)])))))))) (by kernel_rfl) ?_
 refine ⟨(l1Below_o c 4 (by first | assumption | (exact ⟨by dsimp only; first | omega | (have := hp1.1; omega), hp1.2⟩))), fun o1 ho_o1 => ?_⟩
 obtain ⟨⟨hp_o1_0, hp_o1_1, hp_o1_2, hp_o1_3⟩, hf_o1⟩ := ho_o1
 refine ⟨hf_o1, has_of (j := (⟨o1.c1, [], 0⟩ : l13Input_o_V0)) (by first | rfl | simp) rfl (by dsimp only [l13Input_o_F0]; exact ⟨by assumption, by omega, by simp⟩), fun (q1 : l13Input_o_V0) hq_q1 => ?_⟩
 have hi_q1 : CurOk q1.c ∧ q1.i ≤ 3 ∧ List.length q1.s ≤ 58010 * q1.i := hq_q1
 obtain ⟨v1, v2, v3⟩ := hi_q1
 refine dsp (fun h1 p1 => ?_) fun h1 p1 => ?_
 refine ⟨(l1Below_o q1.c 2 (by first | assumption | (exact ⟨by dsimp only; first | omega | (have := hp1.1; omega), hp1.2⟩))), fun o2 ho_o2 => ?_⟩
 obtain ⟨⟨hp_o2_0, hp_o2_1, hp_o2_2, hp_o2_3⟩, hf_o2⟩ := ho_o2
 refine ⟨(l12Bytes_o o2.c1 p p.root (p.deep - o2.x) (by first | assumption | (exact ⟨by dsimp only; first | omega | (have := hp1.1; omega), hp1.2⟩)) (by omega) (by omega) (by omega) (by omega)), fun o3 ho_o3 => ?_⟩
 obtain ⟨⟨hp_o3_0, hp_o3_1, hp_o3_2⟩, hf_o3⟩ := ho_o3
 refine ⟨hf_o2, (as_i64 (by omega) (by omega)), hf_o3, (as_u64 (by omega) (by omega)), (l2Var_o o3.c1 ((List.length o3.t : Nat) : Int) (by first | assumption | (exact ⟨by dsimp only; first | omega | (have := hp1.1; omega), hp1.2⟩)) (by omega)), fun o4 ho_o4 => ?_⟩
 obtain ⟨⟨hp_o4_0, hp_o4_1⟩, hf_o4⟩ := ho_o4
 exact ⟨hf_o4, (by (try have hmv := mostV_most (d := p.deep - o2.x) (by omega) (by omega)); simp only [List.length_append, i64max]; omega), (by (try have hmv := mostV_most (d := p.deep - o2.x) (by omega) (by omega)); simp only [List.length_append, i64max]; omega), (as_i64 (by omega) (by omega)), nxt_of (j := (⟨o4.c1, (q1.s ++ o4.t) ++ o3.t, q1.i + 1⟩ : l13Input_o_V0)) (by first | rfl | simp) rfl (by dsimp only [l13Input_o_F0]; exact ⟨by assumption, by omega, by have hmv := mostV_most (d := p.deep - o2.x) (by omega) (by omega); simp only [List.length_append]; omega⟩) (by dsimp only [l13Input_o_F0]; omega)⟩
 refine ⟨(l1Once_o q1.c 20 (by first | assumption | (exact ⟨by dsimp only; first | omega | (have := hp1.1; omega), hp1.2⟩))), fun o2 ho_o2 => ?_⟩
 obtain ⟨hp_o2, hf_o2⟩ := ho_o2
 refine ⟨hf_o2, fun h2 => ?_, fun h2 => ?_⟩
 refine ⟨(l1Wide_o o2.c1 (by first | assumption | (exact ⟨by dsimp only; first | omega | (have := hp1.1; omega), hp1.2⟩))), fun o3 ho_o3 => ?_⟩
 obtain ⟨⟨hp_o3_0, hp_o3_1⟩, hf_o3⟩ := ho_o3
 refine ⟨hf_o3, (l2Var_o o3.c1 o3.x (by first | assumption | (exact ⟨by dsimp only; first | omega | (have := hp1.1; omega), hp1.2⟩)) (by omega)), fun o4 ho_o4 => ?_⟩
 obtain ⟨⟨hp_o4_0, hp_o4_1⟩, hf_o4⟩ := ho_o4
 refine ⟨hf_o4, (l12Turned_o o4.c1 (q1.s ++ o4.t) (by first | assumption | (exact ⟨by dsimp only; first | omega | (have := hp1.1; omega), hp1.2⟩)) (by simp only [List.length_append]; omega)), fun o5 ho_o5 => ?_⟩
 refine ⟨(by (try have hmv := mostV_most (d := p.deep - o2.x) (by omega) (by omega)); simp only [List.length_append, i64max]; omega), ?_⟩
 obtain ⟨⟨hp_o5_0, hp_o5_1⟩, hf_o5⟩ := ho_o5
 exact ⟨hf_o5, ⟨(by (try simp only [List.length_append] at *); omega), (by first | assumption | (exact ⟨by dsimp only; first | omega | (have := hp1.1; omega), hp1.2⟩))⟩, rfl, rfl⟩
 refine ⟨(l12Turned_o o2.c1 q1.s (by first | assumption | (exact ⟨by dsimp only; first | omega | (have := hp1.1; omega), hp1.2⟩)) (by omega)), fun o3 ho_o3 => ?_⟩
 obtain ⟨⟨hp_o3_0, hp_o3_1⟩, hf_o3⟩ := ho_o3
 exact ⟨hf_o3, ⟨(by (try simp only [List.length_append] at *); omega), (by first | assumption | (exact ⟨by dsimp only; first | omega | (have := hp1.1; omega), hp1.2⟩))⟩, rfl, rfl⟩
structure l13Args_o_O where
 c1 : Cur
 p : Pln
 t : List UInt8
def l13Args_o_f (code : List Int) (o : l13Args_o_O) : Prop := Fun Tryz.prog 48 [.c (.seq .u8 code)] [] (.tup [vP 0, .agg (cPln o.p), vT o.t]) [.cells (cCur o.c1)]
def l13Args_o_p (code : List Int) (o : l13Args_o_O) : Prop := ((CurOk o.c1) ∧ (PlnB o.p) ∧ (List.length (o.t : List UInt8) ≤ 200000)) ∧ l13Args_o_f code o
theorem l13Args_o (code : List Int) (hp1 : List.length code ≤ 1048576) : ∃ o : l13Args_o_O, l13Args_o_p code o := by
 have hN : bigN = 274877906944 := rfl
 refine funs_ofw Tryz.func48 (by kernel_rfl) (by kernel_rfl) (w := let z2 := fr (.one 4 (.first 5 (.done))) 0 4; (.intro (l1New_o_p code) fun o1 => .seg [.call [] (.v (vP 0)) [.cells (cCur o1.c1)]] (.intro (l12Plan_o_p o1.c1) fun o2 => .seg [.call [1] (.v (.agg (cPln o2.p))) [.cells (cCur o2.c1)]] (.intro (l13Input_o_p o2.c1 o2.p) fun o3 => .seg [.call [1] (.v (vT o3.t)) [.cells (cCur o3.c1)]] (.intro (l1Once_o_p o3.c1 16) fun o4 => .seg [.call [1] (.v (vB o4.p)) [.cells (cCur o4.c1)]] (.br (.intro (l12Bent_o_p o4.c1) fun o5 => .seg [.call [1] (.v (.agg (cPln o5.p))) [.cells (cCur o5.c1)], .tree z2 4 []] (.leaf (⟨o5.c1, o5.p, o3.t⟩ : l13Args_o_O) [1])) (.seg [.tree z2 4 []] (.leaf (⟨o4.c1, o2.p, o3.t⟩ : l13Args_o_O) [1])))))), In (l1New_o_p code) fun o1 => ((l1New_o_f code o1) ∧ In (l12Plan_o_p o1.c1) fun o2 => ((l12Plan_o_f o1.c1 o2) ∧ In (l13Input_o_p o2.c1 o2.p) fun o3 => (let z1 := List.length (o3.t : List UInt8) ≤ 200000; (l13Input_o_f o2.c1 o2.p o3) ∧ In (l1Once_o_p o3.c1 16) fun o4 => ((l1Once_o_f o3.c1 16 o4) ∧ (o4.p = true → In (l12Bent_o_p o4.c1) fun o5 => ((l12Bent_o_f o4.c1 o5) ∧ ((CurOk o5.c1) ∧ (PlnB o5.p) ∧ z1) ∧ (.tup [vP 0, .agg (cPln o5.p), vT o3.t] : S) = .tup [vP 0, .agg (cPln o5.p), vT o3.t] ∧ ([.cells (cCur o5.c1)] : List Blk) = [.cells (cCur o5.c1)])) ∧ (o4.p = false → ((CurOk o4.c1) ∧ (PlnB o2.p) ∧ z1) ∧ (.tup [vP 0, .agg (cPln o2.p), vT o3.t] : S) = .tup [vP 0, .agg (cPln o2.p), vT o3.t] ∧ ([.cells (cCur o4.c1)] : List Blk) = [.cells (cCur o4.c1)]))))))) (by kernel_rfl) ?_
 refine ⟨(l1New_o code (by omega)), fun o1 ho_o1 => ?_⟩
 obtain ⟨hp_o1, hf_o1⟩ := ho_o1
 refine ⟨hf_o1, (l12Plan_o o1.c1 (by first | assumption | (exact ⟨by dsimp only; first | omega | (have := hp1.1; omega), hp1.2⟩))), fun o2 ho_o2 => ?_⟩
 obtain ⟨⟨hp_o2_0, hp_o2_1⟩, hf_o2⟩ := ho_o2
 refine ⟨hf_o2, (l13Input_o o2.c1 o2.p (by first | assumption | (exact ⟨by dsimp only; first | omega | (have := hp1.1; omega), hp1.2⟩)) (by omega)), fun o3 ho_o3 => ?_⟩
 obtain ⟨⟨hp_o3_0, hp_o3_1⟩, hf_o3⟩ := ho_o3
 refine ⟨hf_o3, (l1Once_o o3.c1 16 (by first | assumption | (exact ⟨by dsimp only; first | omega | (have := hp1.1; omega), hp1.2⟩))), fun o4 ho_o4 => ?_⟩
 obtain ⟨hp_o4, hf_o4⟩ := ho_o4
 refine ⟨hf_o4, fun h1 => ?_, fun h1 => ?_⟩
 refine ⟨(l12Bent_o o4.c1 (by first | assumption | (exact ⟨by dsimp only; first | omega | (have := hp1.1; omega), hp1.2⟩))), fun o5 ho_o5 => ?_⟩
 obtain ⟨⟨hp_o5_0, hp_o5_1⟩, hf_o5⟩ := ho_o5
 exact ⟨hf_o5, ⟨(by first | assumption | (exact ⟨by dsimp only; first | omega | (have := hp1.1; omega), hp1.2⟩)), (by first | assumption | exact hp_o2_0.b), (by omega)⟩, rfl, rfl⟩
 exact ⟨⟨(by first | assumption | (exact ⟨by dsimp only; first | omega | (have := hp1.1; omega), hp1.2⟩)), (by first | assumption | exact hp_o2_0.b), (by omega)⟩, rfl, rfl⟩
structure Win (s s' : List UInt8) (δ lo e : Int) : Prop where
 from_ : 0 ≤ lo ∧ 0 ≤ lo + δ
 same : ∀ i : Int, lo ≤ i → i < e → s'[(i + δ).toNat]? = s[i.toNat]?
 len : (s'.length : Int) = (s.length : Int) + δ ∨ (e ≤ (s.length : Int) ∧ e + δ ≤ (s'.length : Int))
theorem Win.mono {s s' : List UInt8} {δ lo e e' : Int} (w : Win s s' δ lo e) (h : e' ≤ e) : Win s s' δ lo e' :=
 ⟨w.from_, fun i h1 h2 => w.same i h1 (by omega), by have := w.len; omega⟩
theorem Win.byte {s s' : List UInt8} {δ lo e i : Int} (w : Win s s' δ lo e) (h1 : lo ≤ i) (h2 : i < e) : s'.getD (i + δ).toNat 0 = s.getD i.toNat 0 := by
 rw [List.getD_eq_getElem?_getD, List.getD_eq_getElem?_getD, w.same i h1 h2]
theorem Win.take {s s' : List UInt8} {δ lo e a n : Int} (w : Win s s' δ lo e) (h1 : lo ≤ a) (h2 : a + n ≤ e) : (s'.drop (a + δ).toNat).take n.toNat = (s.drop a.toNat).take n.toNat := by
 have h0 := w.from_
 apply List.ext_getElem?
 intro i
 rw [List.getElem?_take, List.getElem?_take]
 split
 ·rw [List.getElem?_drop, List.getElem?_drop]
  have := w.same (a + i) (by omega) (by omega)
  rw [show (a + (i : Int) + δ).toNat = (a + δ).toNat + i by omega, show (a + (i : Int)).toNat = a.toNat + i by omega] at this
  exact this
 ·rfl
theorem vwA_one (s : List UInt8) (a e : Int) (f : Nat) (k u : Int) : vwA s a e (f + 1) k u = if e ≤ a + k then (0, e, 9)
  else if (s.length : Int) ≤ a + k then (0, (s.length : Int), 10)
  else if k = 9 ∧ 1 < ((s.getD (a + k).toNat 0).toNat : Int) then (0, a + k, 1)
  else if ((s.getD (a + k).toNat 0).toNat : Int) < 128 then (u + ((s.getD (a + k).toNat 0).toNat : Int) % 128 * 2 ^ (7 * k).toNat, a + k + 1, 0)
  else vwA s a e f (k + 1) (u + ((s.getD (a + k).toNat 0).toNat : Int) % 128 * 2 ^ (7 * k).toNat) := rfl
theorem vwA_sim {s s' : List UInt8} {δ lo e a : Int} (w : Win s s' δ lo e) (ha : lo ≤ a) : ∀ (f : Nat) (k u : Int), 0 ≤ k → k + (f : Int) = 9 → vwA s' (a + δ) (e + δ) (f + 1) k u = ((vwA s a e (f + 1) k u).1, (vwA s a e (f + 1) k u).2.1 + δ, (vwA s a e (f + 1) k u).2.2) := by
 intro f
 induction f with
 | zero =>
  intro k u hk hf
  have hl := w.len
  rw [vwA_one s', vwA_one s]
  by_cases h1 : e ≤ a + k
  ·rw [if_pos (show e + δ ≤ a + δ + k by omega), if_pos h1]
  ·rw [if_neg (show ¬ e + δ ≤ a + δ + k by omega), if_neg h1]
   by_cases h2 : (s.length : Int) ≤ a + k
   ·rw [if_pos (show (s'.length : Int) ≤ a + δ + k by omega), if_pos h2]
    refine Prod.ext rfl (Prod.ext ?_ rfl); dsimp only; omega
   ·have hb := w.byte (i := a + k) (by omega) (by omega)
    rw [show a + k + δ = a + δ + k by omega] at hb
    rw [if_neg (show ¬ (s'.length : Int) ≤ a + δ + k by omega), if_neg h2, hb]
    split
    ·refine Prod.ext rfl (Prod.ext ?_ rfl); dsimp only; omega
    rename_i h3
    split
    ·refine Prod.ext rfl (Prod.ext ?_ rfl); dsimp only; omega
    ·exfalso; apply h3; omega
 | succ f ih =>
  intro k u hk hf
  have hl := w.len
  rw [vwA_one s', vwA_one s]
  by_cases h1 : e ≤ a + k
  ·rw [if_pos (show e + δ ≤ a + δ + k by omega), if_pos h1]
  ·rw [if_neg (show ¬ e + δ ≤ a + δ + k by omega), if_neg h1]
   by_cases h2 : (s.length : Int) ≤ a + k
   ·rw [if_pos (show (s'.length : Int) ≤ a + δ + k by omega), if_pos h2]
    refine Prod.ext rfl (Prod.ext ?_ rfl); dsimp only; omega
   ·have hb := w.byte (i := a + k) (by omega) (by omega)
    rw [show a + k + δ = a + δ + k by omega] at hb
    rw [if_neg (show ¬ (s'.length : Int) ≤ a + δ + k by omega), if_neg h2, hb]
    split
    ·refine Prod.ext rfl (Prod.ext ?_ rfl); dsimp only; omega
    split
    ·refine Prod.ext rfl (Prod.ext ?_ rfl); dsimp only; omega
    ·exact ih (k + 1) _ (by omega) (by omega)
theorem varWithin_sim {s s' : List UInt8} {δ lo e a : Int} (w : Win s s' δ lo e) (ha : lo ≤ a) (hl : a ≤ (s.length : Int)) (he : a ≤ e) : varWithin s' (a + δ) (e + δ) = ((varWithin s a e).1, (varWithin s a e).2.1 + δ, (varWithin s a e).2.2) := by
 have h0 := w.from_
 have h1 := w.len
 have e1 : within (a + δ) 0 (s'.length : Int) = true := by simp only [within, Bool.and_eq_true, decide_eq_true_eq]; omega
 have e2 : within a 0 (s.length : Int) = true := by simp only [within, Bool.and_eq_true, decide_eq_true_eq]; omega
 unfold varWithin
 rw [e1, e2]
 exact vwA_sim w ha 9 0 0 (by omega) (by omega)
def shE (δ : Int) (f : Ev) : Ev := if f.kind = 0 then f else ⟨f.kind, f.field, f.bits, f.len, f.text, f.code, f.at_ + δ⟩
theorem shE_kind (δ : Int) (f : Ev) : (shE δ f).kind = f.kind := by unfold shE; split <;> rfl
theorem shE_zero {δ : Int} {f : Ev} (h : f.kind = 0) : shE δ f = f := by unfold shE; rw [if_pos h]
def trM (q : Pln) (s' : List UInt8) (δ : Int) (r : Mr) : Mr := ⟨q, s', r.at_ + δ, r.out, shE δ r.fail⟩
theorem tr_fail (q : Pln) (s' : List UInt8) (δ : Int) (r : Mr) (c a : Int) : mrFail (trM q s' δ r) c (a + δ) = trM q s' δ (mrFail r c a) := rfl
theorem tr_tell (q : Pln) (s' : List UInt8) (δ : Int) (r : Mr) (e : Ev) : mrTell (trM q s' δ r) e = trM q s' δ (mrTell r e) := rfl
theorem tr_at (q : Pln) (s' : List UInt8) (δ : Int) (r : Mr) (a : Int) : mrAt (trM q s' δ r) (a + δ) = trM q s' δ (mrAt r a) := rfl
structure At (p : Pln) (s : List UInt8) (lo e : Int) (r : Mr) : Prop where
 txt : r.s = s
 plan : r.plan = p
 lo_ : lo ≤ r.at_
 len : r.at_ ≤ (s.length : Int)
 to : r.at_ ≤ e
 ok : r.fail.kind = 0
section
variable {p q : Pln} {s s' : List UInt8} {δ lo e : Int}
theorem At.hl {r : Mr} (h : At p s lo e r) : r.at_ ≤ (r.s.length : Int) := by rw [h.txt]; exact h.len
theorem sim_varOk {r : Mr} (w : Win s s' δ lo e) (h : At p s lo e r) : mrVarOk (trM q s' δ r) (e + δ) = mrVarOk r e := by
 unfold mrVarOk
 rw [show (trM q s' δ r).s = s' from rfl, show (trM q s' δ r).at_ = r.at_ + δ from rfl, varWithin_sim w h.lo_ h.len h.to, h.txt]
theorem sim_varU {r : Mr} (w : Win s s' δ lo e) (h : At p s lo e r) : mrVarU (trM q s' δ r) (e + δ) = mrVarU r e := by
 unfold mrVarU
 rw [sim_varOk w h, show (trM q s' δ r).s = s' from rfl, show (trM q s' δ r).at_ = r.at_ + δ from rfl, varWithin_sim w h.lo_ h.len h.to, h.txt]
theorem sim_var {r : Mr} (w : Win s s' δ lo e) (h : At p s lo e r) : mrVar (trM q s' δ r) (e + δ) = trM q s' δ (mrVar r e) := by
 unfold mrVar
 rw [sim_varOk w h, show (trM q s' δ r).s = s' from rfl, show (trM q s' δ r).at_ = r.at_ + δ from rfl, varWithin_sim w h.lo_ h.len h.to, h.txt]
 split
 ·exact tr_at ..
 ·exact tr_fail ..
theorem sim_fixOk {r : Mr} {n : Int} (w : Win s s' δ lo e) (h : At p s lo e r) : mrFixOk (trM q s' δ r) n (e + δ) = mrFixOk r n e := by
 have h0 := w.from_; have h1 := w.len; have h2 := h.lo_; have h3 := h.len
 unfold mrFixOk getFixOk
 rw [show (trM q s' δ r).s = s' from rfl, show (trM q s' δ r).at_ = r.at_ + δ from rfl, h.txt]
 by_cases hb : n ≤ e - r.at_
 ·have hw : within (r.at_ + δ) 0 ((s'.length : Int) - n) = within r.at_ 0 ((s.length : Int) - n) := by
   rw [Bool.eq_iff_iff]
   simp only [within, Bool.and_eq_true, decide_eq_true_eq]
   omega
  rw [decide_eq_true (show n ≤ e + δ - (r.at_ + δ) by omega), decide_eq_true hb, hw]
 ·rw [decide_eq_false (show ¬ n ≤ e + δ - (r.at_ + δ) by omega), decide_eq_false hb]; rfl
theorem sim_fixU {r : Mr} {n : Int} (w : Win s s' δ lo e) (h : At p s lo e r) : mrFixU (trM q s' δ r) n (e + δ) = mrFixU r n e := by
 unfold mrFixU
 rw [sim_fixOk w h]
 split
 ·rename_i hok
  have hok2 := hok
  rw [← sim_fixOk (q := q) (s' := s') w h] at hok2
  simp only [mrFixOk, Bool.and_eq_true, decide_eq_true_eq] at hok hok2
  unfold getFix
  rw [if_pos hok.2, if_pos hok2.2]
  rw [show (trM q s' δ r).s = s' from rfl, show (trM q s' δ r).at_ = r.at_ + δ from rfl, h.txt, w.take h.lo_ (by omega)]
 ·rfl
theorem sim_fix {r : Mr} {n : Int} (hn : n = 4 ∨ n = 8) (w : Win s s' δ lo e) (h : At p s lo e r) : mrFix (trM q s' δ r) n (e + δ) = trM q s' δ (mrFix r n e) := by
 have h0 := w.from_; have h1 := w.len; have h2 := h.lo_; have h3 := h.len
 unfold mrFix
 rw [show (trM q s' δ r).at_ = r.at_ + δ from rfl]
 by_cases h4 : e - r.at_ < n
 ·rw [if_pos (show e + δ - (r.at_ + δ) < n by omega), if_pos h4]; exact tr_fail ..
 ·rw [if_neg (show ¬ e + δ - (r.at_ + δ) < n by omega), if_neg h4]
  have hk : getFixOk (trM q s' δ r).s (r.at_ + δ) n = getFixOk r.s r.at_ n := by
   have := sim_fixOk (q := q) (n := n) (s' := s') w h
   unfold mrFixOk at this
   rw [show (trM q s' δ r).at_ = r.at_ + δ from rfl, decide_eq_true (show n ≤ e + δ - (r.at_ + δ) by omega), decide_eq_true (show n ≤ e - r.at_ by omega)] at this
   simpa using this
  rw [hk]
  split
  ·rw [show r.at_ + δ + n = r.at_ + n + δ by omega]; exact tr_at ..
  ·rename_i h5
   have h6 : (s'.length : Int) = (s.length : Int) + δ := by
    rcases h1 with h1 | h1
    ·exact h1
    ·exfalso; apply h5
     unfold getFixOk widthOk
     rw [h.txt]
     simp only [within, Bool.and_eq_true, Bool.or_eq_true, decide_eq_true_eq]
     omega
   rw [show ((trM q s' δ r).s.length : Int) = (r.s.length : Int) + δ by rw [h.txt]; exact h6]; exact tr_fail ..
theorem widthOf_48 {w : Int} (h : 0 < widthOf w) : widthOf w = 4 ∨ widthOf w = 8 := by unfold widthOf at *; split at h <;> (try split at h) <;> simp_all
theorem sim_valOk {r : Mr} {n : Int} (w : Win s s' δ lo e) (h : At p s lo e r) : mrValOk (trM q s' δ r) n (e + δ) = mrValOk r n e := by unfold mrValOk; rw [sim_fixOk w h, sim_varOk w h]
theorem sim_valU {r : Mr} {n : Int} (w : Win s s' δ lo e) (h : At p s lo e r) : mrValU (trM q s' δ r) n (e + δ) = mrValU r n e := by unfold mrValU; rw [sim_fixU w h, sim_varU w h]
theorem sim_val {r : Mr} {n : Int} (w : Win s s' δ lo e) (h : At p s lo e r) : mrVal (trM q s' δ r) n (e + δ) = trM q s' δ (mrVal r n e) := by
 unfold mrVal
 split
 ·rename_i hw; exact sim_fix (widthOf_48 hw) w h
 ·exact sim_var w h
theorem sim_num {r : Mr} {f : Fld} {n : Int} (w : Win s s' δ lo e) (h : At p s lo e r) : numStep (trM q s' δ r) f n (e + δ) = trM q s' δ (numStep r f n e) := by
 unfold numStep
 rw [sim_valOk w h, sim_valU w h, sim_val w h]
 split
 ·exact tr_tell ..
 ·rfl
theorem At.next {r r' : Mr} (h : At p s lo e r) (a : Adv1 r r') (ht : r'.fail.kind = 0 → r'.at_ ≤ e) (hk : r'.fail.kind = 0) : At p s lo e r' := by
 have h1 := a.1.at_ hk
 have h2 := h.lo_
 exact ⟨a.1.s.trans h.txt, a.1.plan.trans h.plan, by omega, by rw [h.txt] at h1; exact h1.2, ht hk, hk⟩
theorem loop_fuel {step : Mr → Mr} (hs : StepAdv step) {r : Mr} (hl : r.at_ ≤ (r.s.length : Int)) {k : Nat} (hk : mrMu r ≤ k) : loopM (mrGo e) step k r = loopM (mrGo e) step (mrMu r) r := by
 refine loopM_fuel (fun r => r.at_ ≤ (r.s.length : Int) ∨ r.fail.kind ≠ 0) mrMu (fun a hi hg => ?_) _ r k (mrMu r) (Nat.le_refl _) (.inl hl) hk (Nat.le_refl _)
 have hk' := mrGo_kind hg
 have hl : a.at_ ≤ (a.s.length : Int) := hi.resolve_right (fun h => h hk')
 refine ⟨?_, mrMu_dec hl hk' (hs a hl hk')⟩
 by_cases hk2 : (step a).fail.kind = 0
 ·left; rw [(hs a hl hk').1.s]; exact ((hs a hl hk').1.at_ hk2).2
 ·exact .inr hk2
def fine (K : Nat) (r : Mr) : Prop := K = 0 ∨ r.fail.kind = 0 ∨ r.fail.code ≠ 6
theorem fine_ok (K : Nat) (r : Mr) (h : r.fail.kind = 0) : fine K r := .inr (.inl h)
theorem sim_loop {G : Mr → Prop} (hG : ∀ r : Mr, r.fail.kind = 0 → G r) {step step' : Mr → Mr} (hs : StepAdv step) (ht : ∀ r : Mr, At p s lo e r → (step r).fail.kind = 0 → (step r).at_ ≤ e)
  (hq : ∀ r, At p s lo e r → r.at_ < e → G (step r) → step' (trM q s' δ r) = trM q s' δ (step r)) : ∀ (k : Nat) (r : Mr), At p s lo e r → G (loopM (mrGo e) step k r) → loopM (mrGo (e + δ)) step' k (trM q s' δ r) = trM q s' δ (loopM (mrGo e) step k r)
 | 0, _, _, _ => rfl
 | k + 1, r, h, hf => by
  have hg : mrGo (e + δ) (trM q s' δ r) = mrGo e r := by
   unfold mrGo
   rw [show (trM q s' δ r).at_ = r.at_ + δ from rfl, show (trM q s' δ r).fail = shE δ r.fail from rfl, shE_kind]
   congr 1
   rw [decide_eq_decide]; omega
  simp only [loopM] at hf ⊢
  rw [hg]
  split
  ·rename_i hgo
   rw [if_pos hgo] at hf
   have hlt : r.at_ < e := by simp [mrGo] at hgo; exact hgo.1
   have ha := hs r h.hl h.ok
   by_cases hk : (step r).fail.kind = 0
   ·rw [hq r h hlt (hG _ hk)]
    exact sim_loop hG hs ht hq k (step r) (h.next ha (ht r h) hk) hf
   ·have hst : mrGo e (step r) = false := by simp [mrGo, hk]
    rw [loopM_stop hst] at hf ⊢
    rw [hq r h hlt hf, loopM_stop]
    simp only [mrGo, Bool.and_eq_false_iff, decide_eq_false_iff_not]
    right
    rw [show (trM q s' δ (step r)).fail = shE δ (step r).fail from rfl, shE_kind]; exact hk
  ·rfl
theorem sim_run {G : Mr → Prop} (hG : ∀ r : Mr, r.fail.kind = 0 → G r) {step step' : Mr → Mr} (hs : StepAdv step) (hs' : StepAdv step') (ht : ∀ r : Mr, At p s lo e r → (step r).fail.kind = 0 → (step r).at_ ≤ e) (w : Win s s' δ lo e)
  (hq : ∀ r, At p s lo e r → r.at_ < e → G (step r) → step' (trM q s' δ r) = trM q s' δ (step r)) {r : Mr} (h : At p s lo e r) (hf : G (loopM (mrGo e) step (mrMu r) r)) :
  loopM (mrGo (e + δ)) step' (mrMu (trM q s' δ r)) (trM q s' δ r) = trM q s' δ (loopM (mrGo e) step (mrMu r) r) := by
 have h1 := w.len; have h2 := h.len; have h3 := h.to
 have e1 := loop_fuel (e := e) hs h.hl (Nat.le_max_left (mrMu r) (mrMu (trM q s' δ r)))
 have e2 := loop_fuel (e := e + δ) hs' (r := trM q s' δ r) (by show r.at_ + δ ≤ (s'.length : Int); omega) (Nat.le_max_right (mrMu r) (mrMu (trM q s' δ r)))
 rw [← e1] at hf ⊢
 rw [← e2]
 exact sim_loop hG hs ht hq _ r h hf
theorem sim_mrRun {r : Mr} {f : Fld} (w : Win s s' δ lo e) (h : At p s lo e r) : mrRun (trM q s' δ r) f (e + δ) = trM q s' δ (mrRun r f e) := by
 unfold mrRun
 exact sim_run (fine_ok 0) (numStep_loop f _ _) (numStep_loop f _ _) (fun r h hk => numStep_to h.ok h.hl hk) w (fun r h _ _ => sim_num w h) h (.inl rfl)
theorem sim_txt {r : Mr} {f : Fld} {n : Int} (w : Win s s' δ lo e) (h : At p s lo e r) (hn : 0 ≤ n) (he : r.at_ + n ≤ e) : txtStep (trM q s' δ r) f n = trM q s' δ (txtStep r f n) := by
 have h0 := w.from_; have h1 := w.len; have h2 := h.lo_; have h3 := h.len
 have hth : txtThere (trM q s' δ r) n = txtThere r n := by
  unfold txtThere
  rw [show (trM q s' δ r).s = s' from rfl, show (trM q s' δ r).at_ = r.at_ + δ from rfl, h.txt]; exact w.take h.lo_ he
 have hlen : ((txtThere r n).length : Int) < n → (s'.length : Int) = (s.length : Int) + δ := by
  intro hlt
  unfold txtThere at hlt
  rw [List.length_take, List.length_drop, h.txt] at hlt
  rcases h1 with h1 | h1
  ·exact h1
  ·omega
 have hbad : txtBad (trM q s' δ r) f n = txtBad r f n := by unfold txtBad; rw [hth]
 have hst : txtSt (trM q s' δ r) f n = txtSt r f n := by unfold txtSt; rw [hth]
 have hgood : txtGood (trM q s' δ r) f n = txtGood r f n := by unfold txtGood; rw [hth, hbad]
 have htold : txtTold (trM q s' δ r) f n = trM q s' δ (txtTold r f n) := by
  unfold txtTold; rw [hgood]; split <;> rfl
 unfold txtStep
 rw [hth, hbad, hst, htold, show (trM q s' δ r).at_ = r.at_ + δ from rfl, show (trM q s' δ r).s = s' from rfl]
 split
 ·rw [show r.at_ + δ + txtBad r f n = r.at_ + txtBad r f n + δ by omega]; exact tr_fail ..
 split
 ·rename_i hlt
  rw [hlen hlt, h.txt]; exact tr_fail ..
 split
 ·rw [show r.at_ + δ + n = r.at_ + n + δ by omega]; exact tr_fail ..
 ·rw [show r.at_ + δ + n = r.at_ + n + δ by omega, tr_at, tr_tell]
def SubSim (p q : Pln) (s s' : List UInt8) (δ lo e : Int) (K : Nat) (sub sub' : Mr → Fld → Int → Int → Mr) : Prop := ∀ (v : Mr) (f : Fld) (n st : Int), At p s lo e v → 0 ≤ n → v.at_ + n ≤ e → fine K (sub v f n st) → sub' (trM q s' δ v) f n (st + δ) = trM q s' δ (sub v f n st)
theorem At.var {r : Mr} (h : At p s lo e r) (hok : mrVarOk r e = true) : At p s lo e (mrVar r e) := by
 have hk : (mrVar r e).fail.kind = 0 := by rw [mrVarOk_kind h.ok] at hok; simpa using hok
 exact h.next (mrVar_adv h.hl).1 (fun hk => mrVar_to h.ok h.hl hk) hk
theorem sim_long {K : Nat} {sub sub' : Mr → Fld → Int → Int → Mr} (hsub : SubSim p q s s' δ lo e K sub sub') {r : Mr} {f : Fld} {known : Bool} (w : Win s s' δ lo e) (h : At p s lo e r) (hf : fine K (longStep sub r f known e)) : longStep sub' (trM q s' δ r) f known (e + δ) = trM q s' δ (longStep sub r f known e) := by
 have h1 := w.len
 have hu := mrVarU_b r e
 unfold longStep at hf ⊢
 rw [sim_varOk w h, sim_varU w h, sim_var w h]
 simp only [show ∀ x, (trM q s' δ x).at_ = x.at_ + δ from fun _ => rfl, show ∀ x, (trM q s' δ x).s = s' from fun _ => rfl]
 split
 ·rfl
 rename_i hok; rw [if_neg hok] at hf
 have hok : mrVarOk r e = true := by simpa using hok
 have hv := h.var hok
 have h2 := hv.len
 rw [show e + δ - ((mrVar r e).at_ + δ) = e - (mrVar r e).at_ by omega]
 split
 ·exact tr_fail ..
 rename_i hn; rw [if_neg hn] at hf
 split
 ·rename_i hkn; rw [if_pos hkn] at hf
  by_cases h5 : (r.s.length : Int) - (mrVar r e).at_ < mrVarU r e
  ·have h6 : (s'.length : Int) = (s.length : Int) + δ := by
    rw [h.txt] at h5
    rcases h1 with h1 | h1
    ·exact h1
    ·omega
   rw [if_pos h5, if_pos (show (s'.length : Int) - ((mrVar r e).at_ + δ) < mrVarU r e by rw [h.txt] at h5; omega), h6, h.txt]; exact tr_fail ..
  ·rw [if_neg h5, if_neg (show ¬ (s'.length : Int) - ((mrVar r e).at_ + δ) < mrVarU r e by rw [h.txt] at h5; omega), show (mrVar r e).at_ + δ + mrVarU r e = (mrVar r e).at_ + mrVarU r e + δ by omega]; exact tr_at ..
 rename_i hkn; rw [if_neg hkn] at hf
 split
 ·rename_i h8; rw [if_pos h8] at hf
  exact hsub _ _ _ _ hv hu.1 (by omega) hf
 rename_i h8; rw [if_neg h8] at hf
 split
 ·rw [show (mrVar r e).at_ + δ + mrVarU r e = (mrVar r e).at_ + mrVarU r e + δ by omega]
  exact sim_mrRun (w.mono (by omega)) ⟨hv.txt, hv.plan, hv.lo_, hv.len, by omega, hv.ok⟩
 ·exact sim_txt w hv hu.1 (by omega)
theorem sim_msg (hqs : p.shapes = q.shapes) {K : Nat} {sub sub' : Mr → Fld → Int → Int → Mr} (hsub : SubSim p q s s' δ lo e K sub sub') {shape : Int} {r : Mr} (w : Win s s' δ lo e) (h : At p s lo e r) (hf : fine K (msgStep sub shape e r)) : msgStep sub' shape (e + δ) (trM q s' δ r) = trM q s' δ (msgStep sub shape e r) := by
 unfold msgStep at hf ⊢
 rw [sim_varOk w h, sim_varU w h, sim_var w h]
 simp only [show ∀ x, (trM q s' δ x).at_ = x.at_ + δ from fun _ => rfl, show ∀ x, (trM q s' δ x).plan = q from fun _ => rfl]
 rw [h.plan] at hf ⊢
 rw [← hqs]
 split
 ·rfl
 rename_i hok; rw [if_neg hok] at hf
 have hok : mrVarOk r e = true := by simpa using hok
 have hv := h.var hok
 split
 ·exact tr_fail ..
 rename_i hn; rw [if_neg hn] at hf
 split
 ·exact tr_fail ..
 rename_i hn; rw [if_neg hn] at hf
 split
 ·exact tr_fail ..
 rename_i hn; rw [if_neg hn] at hf
 split
 ·rename_i hn; rw [if_pos hn] at hf
  exact sim_long hsub w hv hf
 ·exact sim_num w hv
theorem sim_sub (hqs : p.shapes = q.shapes) (K : Nat) : ∀ (D : Nat) (e : Int), Win s s' δ lo e → SubSim p q s s' δ lo e K (subN D) (subN (D + K))
 | 0, e, w => fun v f n st h hn he hf => by
  rcases hf with rfl | hf | hf
  ·exact tr_fail ..
  ·exact (mrFail_kind _ _ _ hf).elim
  ·exact (hf rfl).elim
 | D + 1, e, w => fun v f n st h hn he hf => by
  have hD : D + 1 + K = (D + K) + 1 := by omega
  rw [hD]
  have w2 : Win s s' δ lo (v.at_ + n) := w.mono he
  have ht : At p s lo (v.at_ + n) (mrTell v (downEv f n)) := ⟨h.txt, h.plan, h.lo_, h.len, by show v.at_ ≤ _; omega, h.ok⟩
  have key : fine K (msgN D f.msg (v.at_ + n) (mrTell v (downEv f n))) → msgN (D + K) f.msg (v.at_ + n + δ) (trM q s' δ (mrTell v (downEv f n))) = trM q s' δ (msgN D f.msg (v.at_ + n) (mrTell v (downEv f n))) := by
   intro hf2
   rw [msgN_eq] at hf2 ⊢
   rw [msgN_eq]
   exact sim_run (fine_ok K) (msgN_loop _ _ _) (msgN_loop _ _ _) (fun r h hk => msgStep_to (subN_to D) h.ok h.hl hk) w2 (fun r h _ hf => sim_msg hqs (sim_sub hqs K D _ w2) w2 h hf) ht hf2
  simp only [subN] at hf ⊢
  rw [show (trM q s' δ v).at_ = v.at_ + δ from rfl, tr_tell, show v.at_ + δ + n = v.at_ + n + δ by omega]
  by_cases hk : (msgN D f.msg (v.at_ + n) (mrTell v (downEv f n))).fail.kind = 0
  ·rw [key (.inr (.inl hk)), if_pos hk, if_pos (by rw [show (trM q s' δ (msgN D f.msg (v.at_ + n) (mrTell v (downEv f n)))).fail = shE δ (msgN D f.msg (v.at_ + n) (mrTell v (downEv f n))).fail from rfl, shE_kind]; exact hk)]
   exact tr_tell ..
  ·rw [if_neg hk] at hf ⊢
   rw [key hf, if_neg (by rw [show (trM q s' δ (msgN D f.msg (v.at_ + n) (mrTell v (downEv f n)))).fail = shE δ (msgN D f.msg (v.at_ + n) (mrTell v (downEv f n))).fail from rfl, shE_kind]; exact hk)]
theorem sim_msgN (hqs : p.shapes = q.shapes) (K D : Nat) (w : Win s s' δ lo e) {shape : Int} {r : Mr} (h : At p s lo e r) (hf : fine K (msgN D shape e r)) : msgN (D + K) shape (e + δ) (trM q s' δ r) = trM q s' δ (msgN D shape e r) := by
 rw [msgN_eq] at hf ⊢
 rw [msgN_eq]
 exact sim_run (fine_ok K) (msgN_loop _ _ _) (msgN_loop _ _ _) (fun r h hk => msgStep_to (subN_to D) h.ok h.hl hk) w (fun r h _ hf => sim_msg hqs (sim_sub hqs K D _ w) w h hf) h hf
theorem sim_frm {K : Nat} (hqs : p.shapes = q.shapes) (hqr : q.root = p.root) (hqd : q.deep = p.deep + (K : Int)) (hp1 : 1 ≤ p.deep) (hw : ∀ e, Win s s' δ lo e) (hl : (s.length : Int) < maxI ∧ (s.length : Int) < maxI + δ ∧ (s'.length : Int) < maxI ∧ (s'.length : Int) < maxI + δ) {r : Mr} (h : At p s lo (s.length : Int) r)
  (hgood : (frmStep r).fail.kind = 0 ∧ p.most ≤ q.most ∨ K = 0 ∧ q.most = p.most) : frmStep (trM q s' δ r) = trM q s' δ (frmStep r) := by
 have hm : At p s lo maxI r := ⟨h.txt, h.plan, h.lo_, h.len, by have := h.to; omega, h.ok⟩
 have hlo := (hw 0).from_
 have hlen := (hw ((s.length : Int) + 1)).len
 have h1 := h.lo_; have h2 := h.len
 have e1 : mrVarOk (trM q s' δ r) maxI = mrVarOk r maxI := by
  rw [← sim_varOk (hw maxI) hm]; unfold mrVarOk
  rw [show (trM q s' δ r).s = s' from rfl, varWithin_far hl.2.2.1 hl.2.2.2]
 have e2 : mrVarU (trM q s' δ r) maxI = mrVarU r maxI := by
  rw [← sim_varU (hw maxI) hm]; unfold mrVarU mrVarOk
  rw [show (trM q s' δ r).s = s' from rfl, varWithin_far hl.2.2.1 hl.2.2.2]
 have e3 : mrVar (trM q s' δ r) maxI = trM q s' δ (mrVar r maxI) := by
  rw [← sim_var (hw maxI) hm]; unfold mrVar mrVarOk
  rw [show (trM q s' δ r).s = s' from rfl, varWithin_far hl.2.2.1 hl.2.2.2]
 by_cases hok : mrVarOk r maxI = true
 ·have hv := hm.var hok
  have hu := mrVarU_b r maxI
  have ht : At p s lo ((mrVar r maxI).at_ + mrVarU r maxI) (mrTell (mrVar r maxI) (frameEv (mrVarU r maxI))) := ⟨hv.txt, hv.plan, hv.lo_, hv.len, by show (mrVar r maxI).at_ ≤ _; omega, hv.ok⟩
  have hD : (q.deep - 1).toNat = (p.deep - 1).toNat + K := by omega
  have key : fine K (frmMsg r) → frmMsg (trM q s' δ r) = trM q s' δ (frmMsg r) := by
   intro hf
   unfold frmMsg at hf ⊢
   rw [e2, e3, show (trM q s' δ r).plan = q from rfl, hqr, hD, show (trM q s' δ (mrVar r maxI)).at_ = (mrVar r maxI).at_ + δ from rfl, tr_tell, show (mrVar r maxI).at_ + δ + mrVarU r maxI = (mrVar r maxI).at_ + mrVarU r maxI + δ by omega, h.plan]
   rw [h.plan] at hf
   exact sim_msgN hqs K _ (hw _) ht hf
  have hne : ¬ mrVarOk r maxI = false := by simp [hok]
  unfold frmStep at hgood ⊢
  rw [e1, e2, e3, show (trM q s' δ r).plan = q from rfl, show (trM q s' δ r).at_ = r.at_ + δ from rfl, if_neg hne, if_neg hne, h.plan]
  rw [if_neg hne, h.plan] at hgood
  rcases hgood with ⟨hg, hmo⟩ | ⟨hK, hmo⟩
  ·by_cases hms : p.most < mrVarU r maxI
   ·rw [if_pos hms] at hg; exact (mrFail_kind _ _ _ hg).elim
   ·rw [if_neg hms] at hg
    by_cases hk : (frmMsg r).fail.kind = 0
    ·rw [if_neg (show ¬ q.most < mrVarU r maxI by omega), if_neg hms, key (.inr (.inl hk)), if_pos hk, if_pos (by rw [show (trM q s' δ (frmMsg r)).fail = shE δ (frmMsg r).fail from rfl, shE_kind]; exact hk)]; rfl
    ·rw [if_neg hk] at hg; exact (hk hg).elim
  ·rw [hmo, key (.inl hK), show (trM q s' δ (frmMsg r)).fail = shE δ (frmMsg r).fail from rfl, shE_kind]
   split
   ·exact tr_fail ..
   ·split <;> rfl
 ·have hok : mrVarOk r maxI = false := by simpa using hok
  unfold frmStep
  rw [e1, hok, e3]; rfl
theorem wh_r : ∀ (k : Nat) (w : Wh), (loopM whGo whStep k w).r = loopM (fun r => mrGo (r.s.length : Int) r) frmStep k w.r
 | 0, _ => rfl
 | k + 1, w => by
  simp only [loopM]
  rw [show whGo w = mrGo (w.r.s.length : Int) w.r from rfl]
  split
  ·rw [wh_r k]; rfl
  ·rfl
theorem loop_s : ∀ (k : Nat) (s : List UInt8) (r : Mr), r.s = s → r.at_ ≤ (s.length : Int) → loopM (fun r => mrGo (r.s.length : Int) r) frmStep k r = loopM (mrGo (s.length : Int)) frmStep k r
 | 0, _, _, _, _ => rfl
 | k + 1, s, r, h, ha => by
  subst h
  simp only [loopM]
  split
  ·rename_i hg
   have hf := frmStep_adv (r := r) ha (mrGo_kind hg)
   by_cases hk : (frmStep r).fail.kind = 0
   ·have e1 := loop_s k (frmStep r).s (frmStep r) rfl (by rw [hf.1.s]; exact (hf.1.at_ hk).2)
    rw [hf.1.s] at e1; exact e1
   ·rw [loopM_stop (by simp [mrGo, hk]), loopM_stop (by simp [mrGo, hk])]
  ·rfl
theorem whole_r (p : Pln) (s : List UInt8) : (whole p s).r = loopM (mrGo (s.length : Int)) frmStep (mrMu (mr0 p s 0)) (mr0 p s 0) := by
 unfold whole whRun
 rw [wh_r]
 exact loop_s _ s _ rfl (by show (0 : Int) ≤ _; omega)
theorem frm_loop : StepAdv frmStep := fun _ h h0 => frmStep_adv h h0
end
theorem win_self (s : List UInt8) {lo e : Int} (h : 0 ≤ lo) : Win s s 0 lo e := ⟨⟨h, by omega⟩, fun i _ _ => by rw [Int.add_zero], .inl (by omega)⟩
theorem tr_self {p q : Pln} {s : List UInt8} {a : Int} : trM q s 0 (mr0 p s a) = mr0 q s a := by
 unfold trM mr0; rw [Int.add_zero, shE_zero rfl]
theorem shE_self (f : Ev) : shE 0 f = f := by unfold shE; split; rfl; rw [Int.add_zero]
def FK (r : Mr) : Prop := r.fail.kind = 0 ∨ r.fail.kind = 10
theorem fk_var {r : Mr} {e : Int} (h : FK r) : FK (mrVar r e) := by unfold mrVar; split; exact h; exact .inr rfl
theorem fk_val {r : Mr} {w e : Int} (h : FK r) : FK (mrVal r w e) := by
 unfold mrVal mrFix; split
 ·split
  ·exact .inr rfl
  ·split
   ·exact h
   ·exact .inr rfl
 ·exact fk_var h
theorem fk_num {r : Mr} {f : Fld} {w e : Int} (h : FK r) : FK (numStep r f w e) := by unfold numStep; split; exact fk_val (w := w) (e := e) h; exact fk_val h
theorem fk_loop {go : Mr → Bool} {step : Mr → Mr} (hs : ∀ r, FK r → FK (step r)) : ∀ (k : Nat) (r : Mr), FK r → FK (loopM go step k r)
 | 0, _, h => h
 | k + 1, r, h => by
  unfold loopM; split
  ·exact fk_loop hs k _ (hs r h)
  ·exact h
theorem fk_told {r : Mr} {f : Fld} {n : Int} (h : FK r) : FK (txtTold r f n) := by unfold txtTold; split; exact h; exact h
theorem fk_txt {r : Mr} {f : Fld} {n : Int} (h : FK r) : FK (txtStep r f n) := by
 unfold txtStep; split
 ·exact .inr rfl
 split
 ·exact .inr rfl
 split
 ·exact .inr rfl
 ·exact fk_told (f := f) (n := n) h
theorem fk_long {sub : Mr → Fld → Int → Int → Mr} (hs : ∀ v f n st, FK v → FK (sub v f n st)) {r : Mr} {f : Fld} {known : Bool} {e : Int} (h : FK r) : FK (longStep sub r f known e) := by
 have hv := fk_var (e := e) h
 unfold longStep; split
 ·exact hv
 split
 ·exact .inr rfl
 split
 ·split
  ·exact .inr rfl
  ·exact hv
 split
 ·exact hs _ _ _ _ hv
 split
 ·exact fk_loop (fun r h => fk_num h) _ _ hv
 ·exact fk_txt hv
theorem fk_msg {sub : Mr → Fld → Int → Int → Mr} (hs : ∀ v f n st, FK v → FK (sub v f n st)) {sh e : Int} {r : Mr} (h : FK r) : FK (msgStep sub sh e r) := by
 have hv := fk_var (e := e) h
 unfold msgStep; split
 ·exact hv
 split
 ·exact .inr rfl
 split
 ·exact .inr rfl
 split
 ·exact .inr rfl
 split
 ·exact fk_long hs hv
 ·exact fk_num hv
theorem fk_sub : ∀ (D : Nat) (v : Mr) (f : Fld) (n st : Int), FK v → FK (subN D v f n st)
 | 0, _, _, _, _, _ => .inr rfl
 | D + 1, v, f, n, st, h => by
  have hm : FK (msgN D f.msg (v.at_ + n) (mrTell v (downEv f n))) := by rw [msgN_eq]; exact fk_loop (fun r h => fk_msg (fk_sub D) h) _ _ h
  simp only [subN]; split
  ·exact hm
  ·exact hm
theorem fk_msgN {D : Nat} {sh e : Int} {r : Mr} (h : FK r) : FK (msgN D sh e r) := by rw [msgN_eq]; exact fk_loop (fun r h => fk_msg (fk_sub D) h) _ _ h
theorem fk_frm {r : Mr} (h : FK r) : FK (frmStep r) := by
 have hv := fk_var (e := maxI) h
 unfold frmStep; split
 ·exact hv
 split
 ·exact .inr rfl
 have hm : FK (frmMsg r) := fk_msgN (r := mrTell (mrVar r maxI) (frameEv (mrVarU r maxI))) hv
 split
 ·exact hm
 ·exact hm
theorem fk_whole (p : Pln) (s : List UInt8) : FK (whole p s).r := by rw [whole_r]; exact fk_loop (fun r h => fk_frm h) _ _ (.inl rfl)
theorem whole_deep {p q : Pln} {s : List UInt8} {K : Nat} (hqs : p.shapes = q.shapes) (hqr : q.root = p.root) (hqd : q.deep = p.deep + (K : Int)) (hqm : p.most ≤ q.most) (hp1 : 1 ≤ p.deep) (hl : s.length ≤ 4000) (hk : (whole p s).r.fail.kind = 0) : (whole q s).r = trM q s 0 (whole p s).r := by
 rw [whole_r] at hk
 rw [whole_r, whole_r]
 have key := sim_run (p := p) (q := q) (s := s) (s' := s) (δ := 0) (lo := 0) (e := (s.length : Int)) (G := fun r => r.fail.kind = 0) (fun _ h => h) frm_loop frm_loop (fun r h hk => by
   have := (frmStep_adv h.hl h.ok).1.at_ hk
   rw [h.txt] at this; exact this.2) (win_self s (by omega)) (fun r h _ hg => sim_frm hqs hqr hqd hp1 (fun e => win_self s (by omega)) (by unfold maxI; omega) h (.inl ⟨hg, hqm⟩)) (r := mr0 p s 0) ⟨rfl, rfl, by show (0 : Int) ≤ 0; omega, by show (0 : Int) ≤ _; omega, by show (0 : Int) ≤ _; omega, rfl⟩ hk
 rw [tr_self, Int.add_zero] at key
 exact key
theorem wholeL_deep {p : Pln} {s : List UInt8} {i : Nat} {x : Ev} (hx : (wholeL p s)[i]? = some x) (hi : (i : Int) = ((wholeL p s).length : Int) - 1) (hk : x.kind = 9) : wholeL ⟨p.shapes, p.root, 8, 2000⟩ s = wholeL p s := by
 unfold wholeL at hx hi ⊢
 by_cases hc : planOk p = true ∧ s.length ≤ 4000
 ·rw [if_pos hc] at hx hi ⊢
  have hpt := planOk_t hc.1
  have hq : planOk ⟨p.shapes, p.root, 8, 2000⟩ = true := by
   have hp := hc.1
   unfold planOk at hp ⊢
   simp only [within, Bool.and_eq_true, decide_eq_true_eq] at hp ⊢
   exact ⟨⟨⟨hp.1.1.1, hp.1.1.2⟩, by omega⟩, by omega⟩
  rw [if_pos ⟨hq, hc.2⟩]
  have hf := fk_whole p s
  have h0 : (whole p s).r.fail.kind = 0 := by
   rcases hf with hf | hf
   ·exact hf
   ·exfalso
    unfold wholeEv at hx hi
    rw [List.length_append, List.length_singleton] at hi
    rw [List.getElem?_append_right (by omega), show i - (whole p s).r.out.length = 0 by omega, if_neg (by omega)] at hx
    simp at hx
    rw [← hx, hf] at hk
    omega
  have hw := whole_deep (p := p) (q := ⟨p.shapes, p.root, 8, 2000⟩) (s := s) (K := (8 - p.deep).toNat) rfl rfl (by show (8 : Int) = _; omega) (by show p.most ≤ 2000; omega) (by omega) hc.2 h0
  unfold wholeEv
  rw [hw, show (trM ⟨p.shapes, p.root, 8, 2000⟩ s 0 (whole p s).r).fail = shE 0 (whole p s).r.fail from rfl, shE_self]
  rfl
 ·exfalso
  rw [if_neg hc] at hx
  simp at hx
end Go.Proofs.YtaflinakodideaaGreat.Ax
namespace Go.Proofs.YtaflinakodideaaGreat.Ax
open Go.ChangeShapes Go.WideShapes Go.ChangeAt Go.RowKit
theorem cof_uint8 : Tryz.prog.cellsOf 5 = 1 := by kernel_rfl
theorem e_u8 {H : Type} {tok : TypeId × Value → H} {w : World} {sp : Nat → Bool} {held : Bool} (fuel : Nat) (cs : List Value) (x : DataW H × List MemPlace) (hl : cs.length = 1) (h : DataW.trod tok Tryz.prog w 0 sp held fuel 5 cs = some x) : ∃ y : Int, All2 Rep0 (enc .u8 y) cs ∧ (0 ≤ y ∧ y ≤ 255) := by
 obtain ⟨i, rfl, _, hw⟩ := DataW.trod_int Tryz.underlying5 h
 exact ⟨i, .cons rfl .nil, bounds_u8 hw⟩
end Go.Proofs.YtaflinakodideaaGreat.Ax
