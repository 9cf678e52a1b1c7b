/- Draws of the grammar's laws. Models: readings go on, are moved. The law FnMsgTwice. -/
import Derived.Test.YtaflinakodideaaGreatKS7
import Derived.Test.YtaflinakodideaaGreatKS4
set_option linter.unusedSimpArgs false
set_option linter.unusedVariables false
namespace Go.Proofs.YtaflinakodideaaGreat.Ax
open Go.RowKit
structure drawReadMsg_o_O where
 p : Pln
 sh : Int
 t : List UInt8
 a : Int
 e : Int
 d : Int
def drawReadMsg_o_f (code : List Int) (o : drawReadMsg_o_O) : Prop := Fun Tryz.prog 15 [.c (.seq .u8 code)] [] (.tup [.agg (cPln o.p), vI o.sh, vT o.t, vI o.a, vI o.e, vI o.d]) []
def drawReadMsg_o_p (code : List Int) (o : drawReadMsg_o_O) : Prop := ((PlnB o.p) ∧ (List.length (o.t : List UInt8) ≤ 60000) ∧ (o.e ≤ 9223372036854775807) ∧ (o.sh ≤ (9 : Int)) ∧ (o.d ≤ (9 : Int))) ∧ drawReadMsg_o_f code o
theorem drawReadMsg_o (code : List Int) (hp1 : List.length code ≤ 1048576) : ∃ o : drawReadMsg_o_O, drawReadMsg_o_p code o := by
 have hN : bigN = 274877906944 := rfl
 refine funs_ofw Tryz.func15 (by kernel_rfl) (by kernel_rfl) (w := let z17 := ([] : List Blk); let z18 := 1 ≤ (9 : Int); (.intro (l1New_o_p code) fun o1 => .seg [.call [] (.v (vP 0)) [.cells (cCur o1.c1)]] (.intro (l12Plan_o_p o1.c1) fun o2 => .seg [.call [1] (.v (.agg (cPln o2.p))) [.cells (cCur o2.c1)]] (.intro (l1Below_o_p o2.c1 ((List.length o2.p.shapes : Nat) : Int)) fun o3 => .seg [.call [1] (.v (vI o3.x)) [.cells (cCur o3.c1)]] (.intro (l1Below_o_p o3.c1 4) fun o4 => .intro (l12Bytes_o_p o4.c1 o2.p o3.x o4.x) fun o5 => let z12 := ((List.length o5.t : Nat) : Int); .seg [.ord (os 7 [4, 5]) [1], .call [1] (.v (vI o4.x)) [.cells (cCur o4.c1)], .call [1] (.v (vT o5.t)) [.cells (cCur o5.c1)]] (.intro (l1Below_o_p o5.c1 3) fun o6 => .seg [.call [1] (.v (vI o6.x)) [.cells (cCur o6.c1)]] (.intro (l1Bytes_o_p o6.c1 o6.x) fun o7 => let z8 := List.map toByte o7.l; let z7 := ((List.length z8 : Nat) : Int); .seg [.call [1] (.v (vO 1)) [.cells (cCur o7.c1), .lst .u8 o7.l]] (.intro (l12Turned_o_p o7.c1 o5.t) fun o8 => let z5 := z8 ++ o8.t; let z4 := ((List.length z5 : Nat) : Int); .seg [.call [1] (.v (vT o8.t)) [.cells (cCur o8.c1)], .as 47 (.v (vI (z7 + z12)))] (.intro (l1Below_o_p o8.c1 12) fun o9 => .seg [.call [1] (.v (vI o9.x)) [.cells (cCur o9.c1)]] (.br (.seg [.as 57 (.v (vI (z4 + 9))), .ty .int, .pubS 58] (.intro (l1PickInt_o_p o9.c1 [0, (-1), z4, z4 + 9, 9223372036854775807]) fun o10 => .seg [.call [1] (.v (vI o10.x)) [.cells (cCur o10.c1)]] (.leaf (⟨o2.p, o3.x, z8 ++ o8.t, z7, o10.x, 1⟩ : drawReadMsg_o_O) []))) (.br (.seg [.as 67 (.v (vI (z4 + 1))), .ty .int, .pubS 68] (.intro (l1PickInt_o_p o9.c1 [0, (-1), z4, z4 + 1]) fun o10 => .seg [.call [1] (.v (vI o10.x)) [.cells (cCur o10.c1)]] (.leaf (⟨o2.p, o3.x, z8 ++ o8.t, o10.x, z7 + z12, 1⟩ : drawReadMsg_o_O) []))) (.br (.intro (l1Below_o_p o9.c1 7) fun o10 => .seg [.call [1] (.v (vI o10.x)) [.cells (cCur o10.c1)], .as 74 (.v (vI (o10.x - 1)))] (.leaf (⟨o2.p, o3.x, z8 ++ o8.t, z7, z7 + z12, o10.x - 1⟩ : drawReadMsg_o_O) [])) (.br (.intro (l1Below_o_p o9.c1 6) fun o10 => .seg [.call [1] (.v (vI o10.x)) [.cells (cCur o10.c1)], .as 79 (.v (vI (o10.x - 1)))] (.leaf (⟨o2.p, o10.x - 1, z8 ++ o8.t, z7, z7 + z12, 1⟩ : drawReadMsg_o_O) [])) (.br (.intro (l12Bent_o_p o9.c1) fun o10 => .seg [.call [1] (.v (.agg (cPln o10.p))) [.cells (cCur o10.c1)]] (.leaf (⟨o10.p, o3.x, z8 ++ o8.t, z7, z7 + z12, 1⟩ : drawReadMsg_o_O) [])) (.br (.intro (l1Bytes_o_p o9.c1 4) fun o10 => .seg [.call [1] (.v (vO 1)) [.cells (cCur o10.c1), .lst .u8 o10.l]] (.leaf (⟨o2.p, o3.x, z5 ++ (List.map toByte o10.l), z7, z7 + z12, 1⟩ : drawReadMsg_o_O) [])) (.leaf (⟨o2.p, o3.x, z8 ++ o8.t, z7, z7 + z12, 1⟩ : drawReadMsg_o_O) [])))))))))))))), In (l1New_o_p code) fun o1 => ((l1New_o_f code o1) ∧ In (l12Plan_o_p o1.c1) fun o2 => (let z14 := cPln o2.p; let z15 := PlnB o2.p; let z16 := ((List.length o2.p.shapes : Nat) : Int); (l12Plan_o_f o1.c1 o2) ∧ In (l1Below_o_p o2.c1 z16) fun o3 => (let z13 := o3.x ≤ (9 : Int); (l1Below_o_f o2.c1 z16 o3) ∧ In (l1Below_o_p o3.c1 4) fun o4 => (In (l12Bytes_o_p o4.c1 o2.p o3.x o4.x) fun o5 => ((l1Below_o_f o3.c1 4 o4) ∧ (l12Bytes_o_f o4.c1 o2.p o3.x o4.x o5) ∧ In (l1Below_o_p o5.c1 3) fun o6 => ((l1Below_o_f o5.c1 3 o6) ∧ In (l1Bytes_o_p o6.c1 o6.x) fun o7 => (let z11 := List.map toByte o7.l; let z10 := ((List.length z11 : Nat) : Int); let z9 := z10 + ((List.length o5.t : Nat) : Int); (l1Bytes_o_f o6.c1 o6.x o7) ∧ In (l12Turned_o_p o7.c1 o5.t) fun o8 => (let z6 := z11 ++ o8.t; (l12Turned_o_f o7.c1 o5.t o8) ∧ (((List.length z11 + List.length o8.t : Nat) : Int) ≤ i64max) ∧ ((.v (vI (IntKind.i64.wrap z9)) : S) = .v (vI z9)) ∧ In (l1Below_o_p o8.c1 12) fun o9 => ((l1Below_o_f o8.c1 12 o9) ∧ ((decide (o9.x = 0)) = true → ((.v (vI (IntKind.i64.wrap (((List.length z6 : Nat) : Int) + 9))) : S) = .v (vI (((List.length z6 : Nat) : Int) + 9))) ∧ In (l1PickInt_o_p o9.c1 [0, (-1), ((List.length z6 : Nat) : Int), ((List.length z6 : Nat) : Int) + 9, 9223372036854775807]) fun o10 => ((l1PickInt_o_f o9.c1 [0, (-1), ((List.length z6 : Nat) : Int), ((List.length z6 : Nat) : Int) + 9, 9223372036854775807] o10) ∧ (z15 ∧ (List.length (z6 : List UInt8) ≤ 60000) ∧ (o10.x ≤ 9223372036854775807) ∧ z13 ∧ z18) ∧ (.tup [.agg z14, vI o3.x, vT z6, vI z10, vI o10.x, vI 1] : S) = .tup [.agg z14, vI o3.x, vT z6, vI z10, vI o10.x, vI 1] ∧ z17 = [])) ∧ ((decide (o9.x = 0)) = false → ((decide (o9.x = 1)) = true → ((.v (vI (IntKind.i64.wrap (((List.length z6 : Nat) : Int) + 1))) : S) = .v (vI (((List.length z6 : Nat) : Int) + 1))) ∧ In (l1PickInt_o_p o9.c1 [0, (-1), ((List.length z6 : Nat) : Int), ((List.length z6 : Nat) : Int) + 1]) fun o10 => ((l1PickInt_o_f o9.c1 [0, (-1), ((List.length z6 : Nat) : Int), ((List.length z6 : Nat) : Int) + 1] o10) ∧ (z15 ∧ (List.length (z6 : List UInt8) ≤ 60000) ∧ (z9 ≤ 9223372036854775807) ∧ z13 ∧ z18) ∧ (.tup [.agg z14, vI o3.x, vT z6, vI o10.x, vI z9, vI 1] : S) = .tup [.agg z14, vI o3.x, vT z6, vI o10.x, vI z9, vI 1] ∧ z17 = [])) ∧ ((decide (o9.x = 1)) = false → ((decide (o9.x = 2)) = true → In (l1Below_o_p o9.c1 7) fun o10 => (let z1 := o10.x - 1; (l1Below_o_f o9.c1 7 o10) ∧ ((.v (vI (IntKind.i64.wrap z1)) : S) = .v (vI z1)) ∧ (z15 ∧ (List.length (z6 : List UInt8) ≤ 60000) ∧ (z9 ≤ 9223372036854775807) ∧ z13 ∧ (z1 ≤ (9 : Int))) ∧ (.tup [.agg z14, vI o3.x, vT z6, vI z10, vI z9, vI z1] : S) = .tup [.agg z14, vI o3.x, vT z6, vI z10, vI z9, vI z1] ∧ z17 = [])) ∧ ((decide (o9.x = 2)) = false → ((decide (o9.x = 3)) = true → In (l1Below_o_p o9.c1 6) fun o10 => (let z2 := o10.x - 1; (l1Below_o_f o9.c1 6 o10) ∧ ((.v (vI (IntKind.i64.wrap z2)) : S) = .v (vI z2)) ∧ (z15 ∧ (List.length (z6 : List UInt8) ≤ 60000) ∧ (z9 ≤ 9223372036854775807) ∧ (z2 ≤ (9 : Int)) ∧ z18) ∧ (.tup [.agg z14, vI z2, vT z6, vI z10, vI z9, vI 1] : S) = .tup [.agg z14, vI z2, vT z6, vI z10, vI z9, vI 1] ∧ z17 = [])) ∧ ((decide (o9.x = 3)) = false → ((decide (o9.x = 4)) = true → In (l12Bent_o_p o9.c1) fun o10 => ((l12Bent_o_f o9.c1 o10) ∧ ((PlnB o10.p) ∧ (List.length (z6 : List UInt8) ≤ 60000) ∧ (z9 ≤ 9223372036854775807) ∧ z13 ∧ z18) ∧ (.tup [.agg (cPln o10.p), vI o3.x, vT z6, vI z10, vI z9, vI 1] : S) = .tup [.agg (cPln o10.p), vI o3.x, vT z6, vI z10, vI z9, vI 1] ∧ z17 = [])) ∧ ((decide (o9.x = 4)) = false → ((decide (o9.x = 5)) = true → In (l1Bytes_o_p o9.c1 4) fun o10 => (let z3 := z6 ++ (List.map toByte o10.l); (l1Bytes_o_f o9.c1 4 o10) ∧ (((List.length z6 + List.length (List.map toByte o10.l) : Nat) : Int) ≤ i64max) ∧ (z15 ∧ (List.length (z3 : List UInt8) ≤ 60000) ∧ (z9 ≤ 9223372036854775807) ∧ z13 ∧ z18) ∧ (.tup [.agg z14, vI o3.x, vT z3, vI z10, vI z9, vI 1] : S) = .tup [.agg z14, vI o3.x, vT z3, vI z10, vI z9, vI 1] ∧ z17 = [])) ∧ ((decide (o9.x = 5)) = false → (z15 ∧ (List.length (z6 : List UInt8) ≤ 60000) ∧ (z9 ≤ 9223372036854775807) ∧ z13 ∧ z18) ∧ (.tup [.agg z14, vI o3.x, vT z6, vI z10, vI z9, vI 1] : S) = .tup [.agg z14, vI o3.x, vT z6, vI z10, vI z9, vI 1] ∧ z17 = []))))))))))))))))) (by kernel_rfl) ?_
 refine ⟨(l1New_o code (by (try simp only [List.length_append, List.length_map, List.length_cons, List.length_nil, i64max]); omega)), fun o1 ho_o1 => ?_⟩
 obtain ⟨hp_o1, hf_o1⟩ := ho_o1
 refine ⟨hf_o1, (l12Plan_o o1.c1 (by first | assumption | (exact ⟨by dsimp only; first | omega | (have := hp1.1; omega), hp1.2⟩))), fun o2 ho_o2 => ?_⟩
 obtain ⟨⟨hp_o2_0, hp_o2_1⟩, hf_o2⟩ := ho_o2
 refine ⟨hf_o2, (l1Below_o o2.c1 ((List.length o2.p.shapes : Nat) : Int) (by first | assumption | (exact ⟨by dsimp only; first | omega | (have := hp1.1; omega), hp1.2⟩))), fun o3 ho_o3 => ?_⟩
 obtain ⟨⟨hp_o3_0, hp_o3_1, hp_o3_2, hp_o3_3⟩, hf_o3⟩ := ho_o3
 refine ⟨hf_o3, (l1Below_o o3.c1 4 (by first | assumption | (exact ⟨by dsimp only; first | omega | (have := hp1.1; omega), hp1.2⟩))), fun o4 ho_o4 => ?_⟩
 obtain ⟨⟨hp_o4_0, hp_o4_1, hp_o4_2, hp_o4_3⟩, hf_o4⟩ := ho_o4
 refine ⟨(l12Bytes_o o4.c1 o2.p o3.x o4.x (by first | assumption | (exact ⟨by dsimp only; first | omega | (have := hp1.1; omega), hp1.2⟩)) (hp_o2_0) (by omega) (by omega) (by have := hp_o2_0.sch.1; omega)), fun o5 ho_o5 => ?_⟩
 obtain ⟨⟨hp_o5_0, hp_o5_1, hp_o5_2⟩, hf_o5⟩ := ho_o5
 refine ⟨hf_o4, hf_o5, (l1Below_o o5.c1 3 (by first | assumption | (exact ⟨by dsimp only; first | omega | (have := hp1.1; omega), hp1.2⟩))), fun o6 ho_o6 => ?_⟩
 obtain ⟨⟨hp_o6_0, hp_o6_1, hp_o6_2, hp_o6_3⟩, hf_o6⟩ := ho_o6
 refine ⟨hf_o6, (l1Bytes_o o6.c1 o6.x (by first | assumption | (exact ⟨by dsimp only; first | omega | (have := hp1.1; omega), hp1.2⟩)) (by omega)), fun o7 ho_o7 => ?_⟩
 obtain ⟨⟨hp_o7_0, hp_o7_1⟩, hf_o7⟩ := ho_o7
 refine ⟨hf_o7, (l12Turned_o o7.c1 o5.t (by first | assumption | (exact ⟨by dsimp only; first | omega | (have := hp1.1; omega), hp1.2⟩)) (by (try simp only [List.length_append, List.length_map, List.length_cons, List.length_nil, i64max]); omega)), fun o8 ho_o8 => ?_⟩
 obtain ⟨⟨hp_o8_0, hp_o8_1⟩, hf_o8⟩ := ho_o8
 refine ⟨hf_o8, (by (try simp only [List.length_append, List.length_map, List.length_cons, List.length_nil, i64max]); omega), (as_i64 (by simp only [List.length_map]; omega) (by simp only [List.length_map]; omega)), (l1Below_o o8.c1 12 (by first | assumption | (exact ⟨by dsimp only; first | omega | (have := hp1.1; omega), hp1.2⟩))), fun o9 ho_o9 => ?_⟩
 obtain ⟨⟨hp_o9_0, hp_o9_1, hp_o9_2, hp_o9_3⟩, hf_o9⟩ := ho_o9
 refine ⟨hf_o9, dsp (fun h1 p1 => ?_) fun h1 p1 => ?_⟩
 refine ⟨(as_i64 (by simp only [List.length_append, List.length_map]; omega) (by simp only [List.length_append, List.length_map]; omega)), (l1PickInt_o o9.c1 [0, (-1), ((List.length ((List.map toByte o7.l) ++ o8.t) : Nat) : Int), ((List.length ((List.map toByte o7.l) ++ o8.t) : Nat) : Int) + 9, 9223372036854775807] (by first | assumption | (exact ⟨by dsimp only; first | omega | (have := hp1.1; omega), hp1.2⟩)) (by (try simp only [List.length_append, List.length_map, List.length_cons, List.length_nil, i64max]); omega) (by (try simp only [List.length_append, List.length_map, List.length_cons, List.length_nil, i64max]); omega)), fun o10 ho_o10 => ?_⟩
 obtain ⟨⟨hp_o10_0, hp_o10_1⟩, hf_o10⟩ := ho_o10
 exact ⟨hf_o10, ⟨(by first | assumption | exact PlnG.b (by assumption)), (by (try simp only [List.length_append, List.length_map, List.length_cons, List.length_nil, i64max]); omega), (by first | ((try simp only [List.length_map]); omega) | (have h := hp_o10_0; simp at h; omega)), (by have := hp_o2_0.sch.1; omega), (by have := hp_o2_0.sch.1; omega)⟩, rfl, rfl⟩
 refine dsp (fun h2 p2 => ?_) fun h2 p2 => ?_
 refine ⟨(as_i64 (by simp only [List.length_append, List.length_map]; omega) (by simp only [List.length_append, List.length_map]; omega)), (l1PickInt_o o9.c1 [0, (-1), ((List.length ((List.map toByte o7.l) ++ o8.t) : Nat) : Int), ((List.length ((List.map toByte o7.l) ++ o8.t) : Nat) : Int) + 1] (by first | assumption | (exact ⟨by dsimp only; first | omega | (have := hp1.1; omega), hp1.2⟩)) (by (try simp only [List.length_append, List.length_map, List.length_cons, List.length_nil, i64max]); omega) (by (try simp only [List.length_append, List.length_map, List.length_cons, List.length_nil, i64max]); omega)), fun o10 ho_o10 => ?_⟩
 obtain ⟨⟨hp_o10_0, hp_o10_1⟩, hf_o10⟩ := ho_o10
 exact ⟨hf_o10, ⟨(by first | assumption | exact PlnG.b (by assumption)), (by (try simp only [List.length_append, List.length_map, List.length_cons, List.length_nil, i64max]); omega), (by first | ((try simp only [List.length_map]); omega) | (have h := hp_o10_0; simp at h; omega)), (by have := hp_o2_0.sch.1; omega), (by have := hp_o2_0.sch.1; omega)⟩, rfl, rfl⟩
 refine dsp (fun h3 p3 => ?_) fun h3 p3 => ?_
 refine ⟨(l1Below_o o9.c1 7 (by first | assumption | (exact ⟨by dsimp only; first | omega | (have := hp1.1; omega), hp1.2⟩))), fun o10 ho_o10 => ?_⟩
 obtain ⟨⟨hp_o10_0, hp_o10_1, hp_o10_2, hp_o10_3⟩, hf_o10⟩ := ho_o10
 exact ⟨hf_o10, (as_i64 (by omega) (by omega)), ⟨(by first | assumption | exact PlnG.b (by assumption)), (by (try simp only [List.length_append, List.length_map, List.length_cons, List.length_nil, i64max]); omega), (by first | ((try simp only [List.length_map]); omega) | (have h := hp_o10_0; simp at h; omega)), (by have := hp_o2_0.sch.1; omega), (by have := hp_o2_0.sch.1; omega)⟩, rfl, rfl⟩
 refine dsp (fun h4 p4 => ?_) fun h4 p4 => ?_
 refine ⟨(l1Below_o o9.c1 6 (by first | assumption | (exact ⟨by dsimp only; first | omega | (have := hp1.1; omega), hp1.2⟩))), fun o10 ho_o10 => ?_⟩
 obtain ⟨⟨hp_o10_0, hp_o10_1, hp_o10_2, hp_o10_3⟩, hf_o10⟩ := ho_o10
 exact ⟨hf_o10, (as_i64 (by omega) (by omega)), ⟨(by first | assumption | exact PlnG.b (by assumption)), (by (try simp only [List.length_append, List.length_map, List.length_cons, List.length_nil, i64max]); omega), (by first | ((try simp only [List.length_map]); omega) | (have h := hp_o10_0; simp at h; omega)), (by have := hp_o2_0.sch.1; omega), (by have := hp_o2_0.sch.1; omega)⟩, rfl, rfl⟩
 refine dsp (fun h5 p5 => ?_) fun h5 p5 => ?_
 refine ⟨(l12Bent_o o9.c1 (by first | assumption | (exact ⟨by dsimp only; first | omega | (have := hp1.1; omega), hp1.2⟩))), fun o10 ho_o10 => ?_⟩
 obtain ⟨⟨hp_o10_0, hp_o10_1⟩, hf_o10⟩ := ho_o10
 exact ⟨hf_o10, ⟨(by first | assumption | exact PlnG.b (by assumption)), (by (try simp only [List.length_append, List.length_map, List.length_cons, List.length_nil, i64max]); omega), (by first | ((try simp only [List.length_map]); omega) | (have h := hp_o10_0; simp at h; omega)), (by have := hp_o2_0.sch.1; omega), (by have := hp_o2_0.sch.1; omega)⟩, rfl, rfl⟩
 refine dsp (fun h6 p6 => ?_) fun h6 p6 => ?_
 refine ⟨(l1Bytes_o o9.c1 4 (by first | assumption | (exact ⟨by dsimp only; first | omega | (have := hp1.1; omega), hp1.2⟩)) (by omega)), fun o10 ho_o10 => ?_⟩
 obtain ⟨⟨hp_o10_0, hp_o10_1⟩, hf_o10⟩ := ho_o10
 exact ⟨hf_o10, (by (try simp only [List.length_append, List.length_map, List.length_cons, List.length_nil, i64max]); omega), ⟨(by first | assumption | exact PlnG.b (by assumption)), (by (try simp only [List.length_append, List.length_map, List.length_cons, List.length_nil, i64max]); omega), (by first | ((try simp only [List.length_map]); omega) | (have h := hp_o10_0; simp at h; omega)), (by have := hp_o2_0.sch.1; omega), (by have := hp_o2_0.sch.1; omega)⟩, rfl, rfl⟩
 exact ⟨⟨(by first | assumption | exact PlnG.b (by assumption)), (by (try simp only [List.length_append, List.length_map, List.length_cons, List.length_nil, i64max]); omega), (by first | ((try simp only [List.length_map]); omega) | (have h := hp_o10_0; simp at h; omega)), (by have := hp_o2_0.sch.1; omega), (by have := hp_o2_0.sch.1; omega)⟩, rfl, rfl⟩
/-! ### Further on -/
theorem vwA_more {s : List UInt8} {a e e' : Int} (he : e ≤ e') : ∀ (f : Nat) (k u : Int), (vwA s a e f k u).2.2 = 0 → vwA s a e' f k u = vwA s a e f k u
 | 0, _, _, _ => rfl
 | f + 1, k, u, h => by
  rw [vwA_one] at h
  rw [vwA_one, vwA_one]
  by_cases h1 : e ≤ a + k
  ·rw [if_pos h1] at h; cases h
  rw [if_neg h1] at h
  rw [if_neg h1, if_neg (show ¬ e' ≤ a + k by omega)]
  by_cases h2 : (s.length : Int) ≤ a + k
  ·rw [if_pos h2] at h; cases h
  rw [if_neg h2] at h
  rw [if_neg h2, if_neg h2]
  split
  ·rfl
  rename_i h3; rw [if_neg h3] at h
  split
  ·rfl
  rename_i h4; rw [if_neg h4] at h
  exact vwA_more he f (k + 1) _ h
theorem varWithin_more {s : List UInt8} {a e e' : Int} (he : e ≤ e') (h : (varWithin s a e).2.2 = 0) : varWithin s a e' = varWithin s a e := by
 unfold varWithin at h ⊢
 split
 ·rename_i h1; rw [if_pos h1] at h; exact vwA_more he 10 0 0 h
 ·rfl
theorem more_var {r : Mr} {e e' : Int} (he : e ≤ e') (h : mrVarOk r e = true) : mrVarOk r e' = true ∧ mrVarU r e' = mrVarU r e ∧ mrVar r e' = mrVar r e := by
 have h1 : (varWithin r.s r.at_ e).2.2 = 0 := by simpa [mrVarOk] using h
 have h2 := varWithin_more he h1
 unfold mrVar mrVarU mrVarOk
 rw [h2]
 exact ⟨decide_eq_true h1, rfl, rfl⟩
theorem more_val {r : Mr} {w e e' : Int} (he : e ≤ e') (h : mrValOk r w e = true) : mrValOk r w e' = true ∧ mrValU r w e' = mrValU r w e ∧ mrVal r w e' = mrVal r w e := by
 unfold mrValOk mrValU mrVal at *
 split
 ·rename_i hw
  rw [if_pos hw] at h
  have h2 : mrFixOk r (widthOf w) e' = true := by
   simp only [mrFixOk, Bool.and_eq_true, decide_eq_true_eq] at h ⊢
   exact ⟨by omega, h.2⟩
  have h3 : widthOf w ≤ e - r.at_ ∧ getFixOk r.s r.at_ (widthOf w) = true := by simpa [mrFixOk] using h
  refine ⟨h2, by unfold mrFixU; rw [h, h2], ?_⟩
  unfold mrFix
  rw [if_neg (show ¬ e' - r.at_ < widthOf w by omega), if_neg (show ¬ e - r.at_ < widthOf w by omega)]
 ·rename_i hw
  rw [if_neg hw] at h
  exact more_var he h
theorem more_num {r : Mr} {f : Fld} {w e e' : Int} (he : e ≤ e') (h0 : r.fail.kind = 0) (h : (numStep r f w e).fail.kind = 0) : numStep r f w e' = numStep r f w e := by
 have hok : mrValOk r w e = true := by
  rw [mrValOk_kind h0]
  unfold numStep at h
  split at h <;> simpa [mrTell] using h
 obtain ⟨h1, h2, h3⟩ := more_val (w := w) he hok
 unfold numStep
 rw [h1, h2, h3, hok]
theorem more_long {sub : Mr → Fld → Int → Int → Mr} {r : Mr} {f : Fld} {known : Bool} {e e' : Int} (he : e ≤ e') (h0 : r.fail.kind = 0) (h : (longStep sub r f known e).fail.kind = 0) : longStep sub r f known e' = longStep sub r f known e := by
 have hok : mrVarOk r e = true := by
  cases hc : mrVarOk r e with
  | true => rfl
  | false =>
   unfold longStep at h
   rw [if_pos hc] at h
   rw [mrVarOk_kind h0, h] at hc
   cases hc
 obtain ⟨h1, h2, h3⟩ := more_var he hok
 have hne : ¬ mrVarOk r e = false := by simp [hok]
 have hne' : ¬ mrVarOk r e' = false := by simp [h1]
 unfold longStep at h ⊢
 rw [if_neg hne] at h
 rw [if_neg hne, if_neg hne', h2, h3]
 by_cases h4 : e - (mrVar r e).at_ < mrVarU r e
 ·rw [if_pos h4] at h; exact (mrFail_kind _ _ _ h).elim
 ·rw [if_neg h4, if_neg (by omega)]
theorem more_msg {sub : Mr → Fld → Int → Int → Mr} {r : Mr} {sh e e' : Int} (he : e ≤ e') (hl : r.at_ ≤ (r.s.length : Int)) (h0 : r.fail.kind = 0) (h : (msgStep sub sh e r).fail.kind = 0) : msgStep sub sh e' r = msgStep sub sh e r := by
 have hok : mrVarOk r e = true := by
  cases hc : mrVarOk r e with
  | true => rfl
  | false =>
   unfold msgStep at h
   rw [if_pos hc] at h
   rw [mrVarOk_kind h0, h] at hc
   cases hc
 have hv : (mrVar r e).fail.kind = 0 := by have := hok; rw [mrVarOk_kind h0] at this; simpa using this
 obtain ⟨h1, h2, h3⟩ := more_var he hok
 have hne : ¬ mrVarOk r e = false := by simp [hok]
 have hne' : ¬ mrVarOk r e' = false := by simp [h1]
 unfold msgStep at h ⊢
 rw [if_neg hne] at h
 rw [if_neg hne, if_neg hne', h2, h3]
 split
 ·rfl
 rename_i h4; rw [if_neg h4] at h
 split
 ·rfl
 rename_i h4; rw [if_neg h4] at h
 split
 ·rfl
 rename_i h4; rw [if_neg h4] at h
 split
 ·rename_i h4; rw [if_pos h4] at h
  exact more_long he hv h
 ·rename_i h4; rw [if_neg h4] at h
  exact more_num he hv h
theorem more_loop {step step' : Mr → Mr} (hs : StepAdv step) (hs' : StepAdv step') {e e' : Int} (he : e ≤ e') (hm : ∀ r : Mr, r.at_ ≤ (r.s.length : Int) → r.fail.kind = 0 → (step r).fail.kind = 0 → step' r = step r) : ∀ (n : Nat) (r : Mr), mrMu r ≤ n → r.at_ ≤ (r.s.length : Int) → r.fail.kind = 0 → (loopM (mrGo e) step (mrMu r) r).fail.kind = 0 →
  loopM (mrGo e') step' (mrMu r) r = loopM (mrGo e') step' (mrMu (loopM (mrGo e) step (mrMu r) r)) (loopM (mrGo e) step (mrMu r) r) := by
 intro n
 induction n with
 | zero =>
  intro r hn hl h0 hk
  have : mrGo e r = false := by simp only [mrMu, if_pos h0] at hn; omega
  rw [loopM_stop this]
 | succ n ih =>
  intro r hn hl h0 hk
  by_cases hg : r.at_ < e
  ·have hi := (LInv.refl (step := step) (e := e) hl).go hs hg h0
   have hi' := (LInv.refl (step := step') (e := e') hl).go hs' (by omega) h0
   have hk1 : (step r).fail.kind = 0 := by
    by_cases h1 : (step r).fail.kind = 0
    ·exact h1
    ·rw [← hi.1.run, loopM_stop (by simp [mrGo, h1])] at hk; exact hk
   have hst := hm r hl h0 hk1
   rw [hst] at hi'
   have ha := hi.1.at_ hk1
   rw [← hi'.1.run, ← hi.1.run]
   rw [← hi.1.run] at hk
   exact ih (step r) (by omega) ha.2 hk1 hk
  ·have : mrGo e r = false := by simp [mrGo]; omega
   rw [loopM_stop this]
theorem msgN_more {D : Nat} {sh e e' : Int} {r : Mr} (he : e ≤ e') (hl : r.at_ ≤ (r.s.length : Int)) (h0 : r.fail.kind = 0) (hk : (msgN D sh e r).fail.kind = 0) : msgN D sh e' r = msgN D sh e' (msgN D sh e r) := by
 rw [msgN_eq D sh e r] at hk ⊢
 rw [msgN_eq, msgN_eq]
 exact more_loop (msgN_loop _ _ _) (msgN_loop _ _ _) he (fun r hl h0 h => more_msg he hl h0 h) _ r (Nat.le_refl _) hl h0 hk
theorem msgN_moved {p : Pln} {s s' : List UInt8} {D : Nat} {sh a e δ : Int} (w : Win s s' δ a e) (hl : a ≤ (s.length : Int)) (he : a ≤ e) (o : List Ev) (hk : (msgN D sh e (mr0 p s a)).fail.kind = 0) :
  msgN D sh (e + δ) ⟨p, s', a + δ, o, ev0⟩ = ⟨p, s', e + δ, o ++ (msgN D sh e (mr0 p s a)).out, ev0⟩ := by
 have h0 := w.from_
 have key := sim_msgN (p := p) (q := p) rfl 0 D w (shape := sh) (r := mr0 p s a) ⟨rfl, rfl, Int.le_refl _, hl, he, rfl⟩ (.inl rfl)
 rw [Nat.add_zero] at key
 have hend := msgN_end (D := D) (shape := sh) (r := mr0 p s a) hl he rfl hk
 have hadv := (msgN_adv (D := D) (shape := sh) (e := e) (r := mr0 p s a) hl).fail hk
 have h1 : (⟨p, s', a + δ, o, ev0⟩ : Mr) = ahead o (trM p s' δ (mr0 p s a)) := by
  unfold ahead trM mr0; rw [shE_zero rfl, List.append_nil]
 rw [h1, ahead_msgN, key]
 unfold ahead trM
 dsimp only
 rw [hend, hadv]
 rfl
theorem body_at {s : List UInt8} {a e : Int} (ha : 0 ≤ a) (hae : a ≤ e) (he : e ≤ (s.length : Int)) : ((List.drop a.toNat (List.take e.toNat s)).length : Int) = e - a ∧ ∀ i : Int, a ≤ i → i < e → (List.drop a.toNat (List.take e.toNat s))[(i - a).toNat]? = s[i.toNat]? := by
 constructor
 ·rw [List.length_drop, List.length_take]; omega
 ·intro i h1 h2
  rw [List.getElem?_drop, List.getElem?_take, if_pos (by omega), show a.toNat + (i - a).toNat = i.toNat by omega]
theorem readMsg_twice {p : Pln} {sh a e d : Int} {s b : List UInt8} (ha : 0 ≤ a) (hae : a ≤ e) (he : e ≤ (s.length : Int)) (hk : (readMsg p sh s a e d).fail.kind = 0) (hb : b = List.drop a.toNat (List.take e.toNat s)) :
  (readMsg p sh (b ++ b) 0 ((b ++ b).length : Int) d).out = (readMsg p sh s a e d).out ++ (readMsg p sh s a e d).out ∧ (readMsg p sh (b ++ b) 0 ((b ++ b).length : Int) d).fail.kind = 0 := by
 obtain ⟨hl, hat⟩ := body_at ha hae he
 rw [← hb] at hl hat
 have hbl : ((b ++ b).length : Int) = 2 * (e - a) := by rw [List.length_append]; omega
 have ho : readOk p sh (b ++ b) 0 ((b ++ b).length : Int) d = readOk p sh s a e d := by
  unfold readOk
  have h1 : within 0 0 ((b ++ b).length : Int) = true := by simp only [within, Bool.and_eq_true, decide_eq_true_eq]; omega
  have h2 : within a 0 (s.length : Int) = true := by simp only [within, Bool.and_eq_true, decide_eq_true_eq]; omega
  rw [h1, h2, decide_eq_true hae, decide_eq_true (show (0 : Int) ≤ ((b ++ b).length : Int) by omega)]
 unfold readMsg at hk ⊢
 rw [ho]
 by_cases hr : readOk p sh s a e d = true
 ·rw [if_pos hr] at hk
  rw [if_pos hr, if_pos hr]
  have w1 : Win s (b ++ b) (-a) a e := ⟨⟨ha, by omega⟩, fun i h1 h2 => by rw [List.getElem?_append_left (by omega), show i + -a = i - a by omega]; exact hat i h1 h2, .inr ⟨he, by omega⟩⟩
  have w2 : Win s (b ++ b) (e - a - a) a e := ⟨⟨ha, by omega⟩, fun i h1 h2 => by rw [List.getElem?_append_right (by omega), show (i + (e - a - a)).toNat - b.length = (i - a).toNat by omega]; exact hat i h1 h2, .inr ⟨he, by omega⟩⟩
  have k1 := msgN_moved w1 (by omega) hae [] hk
  have k2 := msgN_moved w2 (by omega) hae (msgN (p.deep - d).toNat sh e (mr0 p s a)).out hk
  rw [show a + -a = 0 by omega, List.nil_append] at k1
  rw [show a + (e - a - a) = e + -a by omega, show e + (e - a - a) = ((b ++ b).length : Int) by omega] at k2
  have hm := msgN_more (D := (p.deep - d).toNat) (sh := sh) (e := e + -a) (e' := ((b ++ b).length : Int)) (r := mr0 p (b ++ b) 0) (by omega) (by show (0 : Int) ≤ _; omega) rfl (by rw [show mr0 p (b ++ b) 0 = ⟨p, b ++ b, 0, [], ev0⟩ from rfl, k1]; rfl)
  rw [hm, show mr0 p (b ++ b) 0 = ⟨p, b ++ b, 0, [], ev0⟩ from rfl, k1, k2]
  exact ⟨rfl, rfl⟩
 ·rw [if_neg hr, if_neg hr]
  exact ⟨rfl, rfl⟩
theorem law_MsgTwice (code : List Int) (hp1 : ((List.length code : Nat) : Int) ≤ 9223372036854775807) : Fun Tryz.prog 6 [.c (.seq .u8 code)] [] (.v (vB true)) [] := by
 have hN : bigN = 274877906944 := rfl
 refine fun_ofw Tryz.func6 (by kernel_rfl) (by kernel_rfl) (w := let z10 := decide (1048576 < ((List.length code : Nat) : Int)); let z11 := ([] : List Blk); let z12 := (.v (vB true) : S); let z13 := ([] : List Ev); (.seg [.call [] (.v (vB z10)) []] (.br (.leaf () []) (.intro (drawReadMsg_o_p code) fun o1 => let z1 := List.drop (Int.toNat o1.a) (List.take (Int.toNat o1.e) o1.t); let z2 := readMsg o1.p o1.sh o1.t o1.a o1.e o1.d; let z3 := readMsg o1.p o1.sh (z1 ++ z1) 0 ((List.length (z1 ++ z1) : Nat) : Int) o1.d; .seg [.call [] (.tup [.agg (cPln o1.p), vI o1.sh, vT o1.t, vI o1.a, vI o1.e, vI o1.d]) [], .call [] (.tup [vO 0, .agg (cEv z2.fail)]) [.lst .ev z2.out], .call [] (.tup [vO 0, .agg (cEv z2.fail)]) [.lst .ev z2.out]] (.br (.leaf () []) (.br (.leaf () []) (.br (.leaf () []) (.br (.leaf () []) (.br (.leaf () []) (.seg [.ord (os 10 []) [], .call [] (.tup [vO 0, .agg (cEv z3.fail)]) [.lst .ev z3.out]] (.br (.seg [.ty .ev, .ty .ev, .ty .ev, .call [] (.v (vB (decide (z3.out = ((z13 ++ z2.out) ++ z2.out))))) []] (.leaf () [])) (.leaf () [])))))))))), (Fun Tryz.prog 8 [.c (.seq .u8 code)] [] (.v (vB z10)) []) ∧ (z10 = true → z12 = .v (vB true) ∧ z11 = []) ∧ (z10 = false → In (drawReadMsg_o_p code) fun o1 => (let z4 := List.drop (Int.toNat o1.a) (List.take (Int.toNat o1.e) o1.t); let z5 := readMsg o1.p o1.sh o1.t o1.a o1.e o1.d; let z6 := readMsg o1.p o1.sh (z4 ++ z4) 0 ((List.length (z4 ++ z4) : Nat) : Int) o1.d; let z7 := ((List.length o1.t : Nat) : Int); let z8 := (0 : Int) ≤ o1.a; let z9 := o1.a ≤ o1.e; (drawReadMsg_o_f code o1) ∧ (Fun Tryz.prog 16 [.agg (cPln o1.p), vI o1.sh, vT o1.t, vI o1.a, vI o1.e, vI o1.d] [] (.tup [vO 0, .agg (cEv z5.fail)]) [.lst .ev z5.out]) ∧ (Fun Tryz.prog 17 [.agg (cPln o1.p), vI o1.sh, vT o1.t, vI o1.a, vI o1.e, vI o1.d] [] (.tup [vO 0, .agg (cEv z5.fail)]) [.lst .ev z5.out]) ∧ ((!(decide (z5.fail.kind = z5.fail.kind) && (decide (z5.fail.field = z5.fail.field) && (decide (z5.fail.bits = z5.fail.bits) && (decide (z5.fail.len = z5.fail.len) && (decide (z5.fail.text = z5.fail.text) && (decide (z5.fail.code = z5.fail.code) && decide (z5.fail.at_ = z5.fail.at_)))))))) = true → (.v (vB false) : S) = .v (vB true) ∧ z11 = []) ∧ ((!(decide (z5.fail.kind = z5.fail.kind) && (decide (z5.fail.field = z5.fail.field) && (decide (z5.fail.bits = z5.fail.bits) && (decide (z5.fail.len = z5.fail.len) && (decide (z5.fail.text = z5.fail.text) && (decide (z5.fail.code = z5.fail.code) && decide (z5.fail.at_ = z5.fail.at_)))))))) = false → ((!decide (z5.fail.kind = 0)) = true → z12 = .v (vB true) ∧ z11 = []) ∧ ((!decide (z5.fail.kind = 0)) = false → ((decide (o1.a < 0)) = true → z12 = .v (vB true) ∧ z11 = []) ∧ ((decide (o1.a < 0)) = false → ((decide (o1.e < o1.a)) = true → z12 = .v (vB true) ∧ z11 = []) ∧ ((decide (o1.e < o1.a)) = false → ((decide (z7 < o1.e)) = true → z12 = .v (vB true) ∧ z11 = []) ∧ ((decide (z7 < o1.e)) = false → (o1.e ≤ z7) ∧ z9 ∧ z8 ∧ (o1.e ≤ z7) ∧ z9 ∧ z8 ∧ (o1.e ≤ z7) ∧ z9 ∧ z8 ∧ (o1.e ≤ z7) ∧ z9 ∧ z8 ∧ (((List.length z4 + List.length z4 : Nat) : Int) ≤ i64max) ∧ (((List.length z4 + List.length z4 : Nat) : Int) ≤ i64max) ∧ (Fun Tryz.prog 16 [.agg (cPln o1.p), vI o1.sh, vT (z4 ++ z4), vI 0, vI ((List.length (z4 ++ z4) : Nat) : Int), vI o1.d] [] (.tup [vO 0, .agg (cEv z6.fail)]) [.lst .ev z6.out]) ∧ ((decide (z6.fail.kind = 0)) = true → (List.length z13 + List.length z5.out ≤ bigN) ∧ (List.length (z13 ++ z5.out) + List.length z5.out ≤ bigN) ∧ (Fun Tryz.prog 19 [.c (.seq .ev z6.out), .c (.seq .ev ((z13 ++ z5.out) ++ z5.out))] [] (.v (vB (decide (z6.out = ((z13 ++ z5.out) ++ z5.out))))) []) ∧ (.v (vB (decide (z6.out = ((z13 ++ z5.out) ++ z5.out)))) : S) = .v (vB true) ∧ z11 = []) ∧ ((decide (z6.fail.kind = 0)) = false → (.v (vB false) : S) = .v (vB true) ∧ z11 = [])))))))))) (by kernel_rfl) ?_
 refine ⟨(big_ok _ (by (try simp only [List.length_append, List.length_drop, List.length_take, i64max]); omega)), dsp (fun h1 p1 => ?_) fun h1 p1 => ?_⟩
 exact ⟨rfl, rfl⟩
 refine ⟨(drawReadMsg_o code (by (try simp only [List.length_append, List.length_drop, List.length_take, i64max]); omega)), fun o1 ho_o1 => ?_⟩
 obtain ⟨⟨hp_o1_0, hp_o1_1, hp_o1_2, hp_o1_3, hp_o1_4⟩, hf_o1⟩ := ho_o1
 refine ⟨hf_o1, (readMsg_i o1.p _ _ _ _ _ (by (try simp only [List.length_append, List.length_drop, List.length_take, i64max]); omega) (by omega)), (readMsg_s o1.p _ _ _ _ _ (by (try simp only [List.length_append, List.length_drop, List.length_take, i64max]); omega) (by omega)), fun h2 => have q2 := bnot_t h2; have p2 := (andF dT (andF dT (andF dT (andF dT (andF dT (andF dT dF)))))).1 q2; ?_, fun h2 => have q2 := bnot_f h2; have p2 := (andT dT (andT dT (andT dT (andT dT (andT dT (andT dT dT)))))).1 q2; ?_⟩
 refine ⟨(sB ?_), rfl⟩
 rotate_left
 refine ⟨fun h3 => have q3 := bnot_t h3; have p3 := of_decide_eq_false q3; ?_, fun h3 => have q3 := bnot_f h3; have p3 := of_decide_eq_true q3; ?_⟩
 exact ⟨rfl, rfl⟩
 refine dsp (fun h4 p4 => ?_) fun h4 p4 => ?_
 exact ⟨rfl, rfl⟩
 refine dsp (fun h5 p5 => ?_) fun h5 p5 => ?_
 exact ⟨rfl, rfl⟩
 refine dsp (fun h6 p6 => ?_) fun h6 p6 => ?_
 exact ⟨rfl, rfl⟩
 have htw := readMsg_twice (p := o1.p) (sh := o1.sh) (d := o1.d) (by omega) (by omega) (by omega) p3 rfl
 refine ⟨(by (try simp only [List.length_append, List.length_drop, List.length_take, i64max]); omega), (by omega), (by omega), (by (try simp only [List.length_append, List.length_drop, List.length_take, i64max]); omega), (by omega), (by omega), (by (try simp only [List.length_append, List.length_drop, List.length_take, i64max]); omega), (by omega), (by omega), (by (try simp only [List.length_append, List.length_drop, List.length_take, i64max]); omega), (by omega), (by omega), (by (try simp only [List.length_append, List.length_drop, List.length_take, i64max]); omega), (by (try simp only [List.length_append, List.length_drop, List.length_take, i64max]); omega), (readMsg_i o1.p _ _ _ _ _ (by (try simp only [List.length_append, List.length_drop, List.length_take, i64max]); omega) (by (try simp only [List.length_append, List.length_drop, List.length_take, i64max]); omega)), dsp (fun h7 p7 => ?_) fun h7 p7 => ?_⟩
 refine ⟨(by have hz := readMsg_len (p := o1.p) (shape := o1.sh) (s := o1.t) (a := o1.a) (e := o1.e) (d := o1.d) (by omega); (try simp only [List.length_append, List.length_nil]); omega), (by have hz := readMsg_len (p := o1.p) (shape := o1.sh) (s := o1.t) (a := o1.a) (e := o1.e) (d := o1.d) (by omega); (try simp only [List.length_append, List.length_nil]); omega), (sameEv_ok _ _ (Nat.le_trans (readMsg_len (by (try simp only [List.length_append, List.length_drop, List.length_take]); omega)) (by omega)) (by have hz := readMsg_len (p := o1.p) (shape := o1.sh) (s := o1.t) (a := o1.a) (e := o1.e) (d := o1.d) (by omega); (try simp only [List.length_append, List.length_nil]); omega)), (sB ?_), rfl⟩
 rotate_left
 refine ⟨(sB ?_), rfl⟩
 rotate_left
 all_goals first | (rfl) | ((simp [htw.1]; done)) | ((exfalso; simp [htw.2] at p7; done)) | ((exfalso; simp at p2; done)) | (grind)
end Go.Proofs.YtaflinakodideaaGreat.Ax
