/- Draws of the grammar's laws. Whole inputs. Models: readings go on, are moved. Models: a framed message. The law FnFrameOf. -/
import Derived.Test.YtaflinakodideaaGreatKS7
import Derived.Test.YtaflinakodideaaGreatKS4
set_option linter.unusedSimpArgs false
set_option linter.unusedVariables false
namespace Go.Proofs.YtaflinakodideaaGreat.Ax
open Go.RowKit
structure drawReadMsg_o_O where
 p : Pln
 sh : Int
 t : List UInt8
 a : Int
 e : Int
 d : Int
def drawReadMsg_o_f (code : List Int) (o : drawReadMsg_o_O) : Prop := Fun Tryz.prog 15 [.c (.seq .u8 code)] [] (.tup [.agg (cPln o.p), vI o.sh, vT o.t, vI o.a, vI o.e, vI o.d]) []
def drawReadMsg_o_p (code : List Int) (o : drawReadMsg_o_O) : Prop := ((PlnB o.p) ∧ (List.length (o.t : List UInt8) ≤ 60000) ∧ (o.e ≤ 9223372036854775807) ∧ (o.sh ≤ (9 : Int)) ∧ (o.d ≤ (9 : Int))) ∧ drawReadMsg_o_f code o
theorem drawReadMsg_o (code : List Int) (hp1 : List.length code ≤ 1048576) : ∃ o : drawReadMsg_o_O, drawReadMsg_o_p code o := by
 have hN : bigN = 274877906944 := rfl
 refine funs_ofw Tryz.func15 (by kernel_rfl) (by kernel_rfl) (w := let z17 := ([] : List Blk); let z18 := 1 ≤ (9 : Int); (.intro (l1New_o_p code) fun o1 => .seg [.call [] (.v (vP 0)) [.cells (cCur o1.c1)]] (.intro (l12Plan_o_p o1.c1) fun o2 => .seg [.call [1] (.v (.agg (cPln o2.p))) [.cells (cCur o2.c1)]] (.intro (l1Below_o_p o2.c1 ((List.length o2.p.shapes : Nat) : Int)) fun o3 => .seg [.call [1] (.v (vI o3.x)) [.cells (cCur o3.c1)]] (.intro (l1Below_o_p o3.c1 4) fun o4 => .intro (l12Bytes_o_p o4.c1 o2.p o3.x o4.x) fun o5 => let z12 := ((List.length o5.t : Nat) : Int); .seg [.ord (os 7 [4, 5]) [1], .call [1] (.v (vI o4.x)) [.cells (cCur o4.c1)], .call [1] (.v (vT o5.t)) [.cells (cCur o5.c1)]] (.intro (l1Below_o_p o5.c1 3) fun o6 => .seg [.call [1] (.v (vI o6.x)) [.cells (cCur o6.c1)]] (.intro (l1Bytes_o_p o6.c1 o6.x) fun o7 => let z8 := List.map toByte o7.l; let z7 := ((List.length z8 : Nat) : Int); .seg [.call [1] (.v (vO 1)) [.cells (cCur o7.c1), .lst .u8 o7.l]] (.intro (l12Turned_o_p o7.c1 o5.t) fun o8 => let z5 := z8 ++ o8.t; let z4 := ((List.length z5 : Nat) : Int); .seg [.call [1] (.v (vT o8.t)) [.cells (cCur o8.c1)], .as 47 (.v (vI (z7 + z12)))] (.intro (l1Below_o_p o8.c1 12) fun o9 => .seg [.call [1] (.v (vI o9.x)) [.cells (cCur o9.c1)]] (.br (.seg [.as 57 (.v (vI (z4 + 9))), .ty .int, .pubS 58] (.intro (l1PickInt_o_p o9.c1 [0, (-1), z4, z4 + 9, 9223372036854775807]) fun o10 => .seg [.call [1] (.v (vI o10.x)) [.cells (cCur o10.c1)]] (.leaf (⟨o2.p, o3.x, z8 ++ o8.t, z7, o10.x, 1⟩ : drawReadMsg_o_O) []))) (.br (.seg [.as 67 (.v (vI (z4 + 1))), .ty .int, .pubS 68] (.intro (l1PickInt_o_p o9.c1 [0, (-1), z4, z4 + 1]) fun o10 => .seg [.call [1] (.v (vI o10.x)) [.cells (cCur o10.c1)]] (.leaf (⟨o2.p, o3.x, z8 ++ o8.t, o10.x, z7 + z12, 1⟩ : drawReadMsg_o_O) []))) (.br (.intro (l1Below_o_p o9.c1 7) fun o10 => .seg [.call [1] (.v (vI o10.x)) [.cells (cCur o10.c1)], .as 74 (.v (vI (o10.x - 1)))] (.leaf (⟨o2.p, o3.x, z8 ++ o8.t, z7, z7 + z12, o10.x - 1⟩ : drawReadMsg_o_O) [])) (.br (.intro (l1Below_o_p o9.c1 6) fun o10 => .seg [.call [1] (.v (vI o10.x)) [.cells (cCur o10.c1)], .as 79 (.v (vI (o10.x - 1)))] (.leaf (⟨o2.p, o10.x - 1, z8 ++ o8.t, z7, z7 + z12, 1⟩ : drawReadMsg_o_O) [])) (.br (.intro (l12Bent_o_p o9.c1) fun o10 => .seg [.call [1] (.v (.agg (cPln o10.p))) [.cells (cCur o10.c1)]] (.leaf (⟨o10.p, o3.x, z8 ++ o8.t, z7, z7 + z12, 1⟩ : drawReadMsg_o_O) [])) (.br (.intro (l1Bytes_o_p o9.c1 4) fun o10 => .seg [.call [1] (.v (vO 1)) [.cells (cCur o10.c1), .lst .u8 o10.l]] (.leaf (⟨o2.p, o3.x, z5 ++ (List.map toByte o10.l), z7, z7 + z12, 1⟩ : drawReadMsg_o_O) [])) (.leaf (⟨o2.p, o3.x, z8 ++ o8.t, z7, z7 + z12, 1⟩ : drawReadMsg_o_O) [])))))))))))))), In (l1New_o_p code) fun o1 => ((l1New_o_f code o1) ∧ In (l12Plan_o_p o1.c1) fun o2 => (let z14 := cPln o2.p; let z15 := PlnB o2.p; let z16 := ((List.length o2.p.shapes : Nat) : Int); (l12Plan_o_f o1.c1 o2) ∧ In (l1Below_o_p o2.c1 z16) fun o3 => (let z13 := o3.x ≤ (9 : Int); (l1Below_o_f o2.c1 z16 o3) ∧ In (l1Below_o_p o3.c1 4) fun o4 => (In (l12Bytes_o_p o4.c1 o2.p o3.x o4.x) fun o5 => ((l1Below_o_f o3.c1 4 o4) ∧ (l12Bytes_o_f o4.c1 o2.p o3.x o4.x o5) ∧ In (l1Below_o_p o5.c1 3) fun o6 => ((l1Below_o_f o5.c1 3 o6) ∧ In (l1Bytes_o_p o6.c1 o6.x) fun o7 => (let z11 := List.map toByte o7.l; let z10 := ((List.length z11 : Nat) : Int); let z9 := z10 + ((List.length o5.t : Nat) : Int); (l1Bytes_o_f o6.c1 o6.x o7) ∧ In (l12Turned_o_p o7.c1 o5.t) fun o8 => (let z6 := z11 ++ o8.t; (l12Turned_o_f o7.c1 o5.t o8) ∧ (((List.length z11 + List.length o8.t : Nat) : Int) ≤ i64max) ∧ ((.v (vI (IntKind.i64.wrap z9)) : S) = .v (vI z9)) ∧ In (l1Below_o_p o8.c1 12) fun o9 => ((l1Below_o_f o8.c1 12 o9) ∧ ((decide (o9.x = 0)) = true → ((.v (vI (IntKind.i64.wrap (((List.length z6 : Nat) : Int) + 9))) : S) = .v (vI (((List.length z6 : Nat) : Int) + 9))) ∧ In (l1PickInt_o_p o9.c1 [0, (-1), ((List.length z6 : Nat) : Int), ((List.length z6 : Nat) : Int) + 9, 9223372036854775807]) fun o10 => ((l1PickInt_o_f o9.c1 [0, (-1), ((List.length z6 : Nat) : Int), ((List.length z6 : Nat) : Int) + 9, 9223372036854775807] o10) ∧ (z15 ∧ (List.length (z6 : List UInt8) ≤ 60000) ∧ (o10.x ≤ 9223372036854775807) ∧ z13 ∧ z18) ∧ (.tup [.agg z14, vI o3.x, vT z6, vI z10, vI o10.x, vI 1] : S) = .tup [.agg z14, vI o3.x, vT z6, vI z10, vI o10.x, vI 1] ∧ z17 = [])) ∧ ((decide (o9.x = 0)) = false → ((decide (o9.x = 1)) = true → ((.v (vI (IntKind.i64.wrap (((List.length z6 : Nat) : Int) + 1))) : S) = .v (vI (((List.length z6 : Nat) : Int) + 1))) ∧ In (l1PickInt_o_p o9.c1 [0, (-1), ((List.length z6 : Nat) : Int), ((List.length z6 : Nat) : Int) + 1]) fun o10 => ((l1PickInt_o_f o9.c1 [0, (-1), ((List.length z6 : Nat) : Int), ((List.length z6 : Nat) : Int) + 1] o10) ∧ (z15 ∧ (List.length (z6 : List UInt8) ≤ 60000) ∧ (z9 ≤ 9223372036854775807) ∧ z13 ∧ z18) ∧ (.tup [.agg z14, vI o3.x, vT z6, vI o10.x, vI z9, vI 1] : S) = .tup [.agg z14, vI o3.x, vT z6, vI o10.x, vI z9, vI 1] ∧ z17 = [])) ∧ ((decide (o9.x = 1)) = false → ((decide (o9.x = 2)) = true → In (l1Below_o_p o9.c1 7) fun o10 => (let z1 := o10.x - 1; (l1Below_o_f o9.c1 7 o10) ∧ ((.v (vI (IntKind.i64.wrap z1)) : S) = .v (vI z1)) ∧ (z15 ∧ (List.length (z6 : List UInt8) ≤ 60000) ∧ (z9 ≤ 9223372036854775807) ∧ z13 ∧ (z1 ≤ (9 : Int))) ∧ (.tup [.agg z14, vI o3.x, vT z6, vI z10, vI z9, vI z1] : S) = .tup [.agg z14, vI o3.x, vT z6, vI z10, vI z9, vI z1] ∧ z17 = [])) ∧ ((decide (o9.x = 2)) = false → ((decide (o9.x = 3)) = true → In (l1Below_o_p o9.c1 6) fun o10 => (let z2 := o10.x - 1; (l1Below_o_f o9.c1 6 o10) ∧ ((.v (vI (IntKind.i64.wrap z2)) : S) = .v (vI z2)) ∧ (z15 ∧ (List.length (z6 : List UInt8) ≤ 60000) ∧ (z9 ≤ 9223372036854775807) ∧ (z2 ≤ (9 : Int)) ∧ z18) ∧ (.tup [.agg z14, vI z2, vT z6, vI z10, vI z9, vI 1] : S) = .tup [.agg z14, vI z2, vT z6, vI z10, vI z9, vI 1] ∧ z17 = [])) ∧ ((decide (o9.x = 3)) = false → ((decide (o9.x = 4)) = true → In (l12Bent_o_p o9.c1) fun o10 => ((l12Bent_o_f o9.c1 o10) ∧ ((PlnB o10.p) ∧ (List.length (z6 : List UInt8) ≤ 60000) ∧ (z9 ≤ 9223372036854775807) ∧ z13 ∧ z18) ∧ (.tup [.agg (cPln o10.p), vI o3.x, vT z6, vI z10, vI z9, vI 1] : S) = .tup [.agg (cPln o10.p), vI o3.x, vT z6, vI z10, vI z9, vI 1] ∧ z17 = [])) ∧ ((decide (o9.x = 4)) = false → ((decide (o9.x = 5)) = true → In (l1Bytes_o_p o9.c1 4) fun o10 => (let z3 := z6 ++ (List.map toByte o10.l); (l1Bytes_o_f o9.c1 4 o10) ∧ (((List.length z6 + List.length (List.map toByte o10.l) : Nat) : Int) ≤ i64max) ∧ (z15 ∧ (List.length (z3 : List UInt8) ≤ 60000) ∧ (z9 ≤ 9223372036854775807) ∧ z13 ∧ z18) ∧ (.tup [.agg z14, vI o3.x, vT z3, vI z10, vI z9, vI 1] : S) = .tup [.agg z14, vI o3.x, vT z3, vI z10, vI z9, vI 1] ∧ z17 = [])) ∧ ((decide (o9.x = 5)) = false → (z15 ∧ (List.length (z6 : List UInt8) ≤ 60000) ∧ (z9 ≤ 9223372036854775807) ∧ z13 ∧ z18) ∧ (.tup [.agg z14, vI o3.x, vT z6, vI z10, vI z9, vI 1] : S) = .tup [.agg z14, vI o3.x, vT z6, vI z10, vI z9, vI 1] ∧ z17 = []))))))))))))))))) (by kernel_rfl) ?_
 refine ⟨(l1New_o code (by (try simp only [List.length_append, List.length_map, List.length_cons, List.length_nil, i64max]); omega)), fun o1 ho_o1 => ?_⟩
 obtain ⟨hp_o1, hf_o1⟩ := ho_o1
 refine ⟨hf_o1, (l12Plan_o o1.c1 (by first | assumption | (exact ⟨by dsimp only; first | omega | (have := hp1.1; omega), hp1.2⟩))), fun o2 ho_o2 => ?_⟩
 obtain ⟨⟨hp_o2_0, hp_o2_1⟩, hf_o2⟩ := ho_o2
 refine ⟨hf_o2, (l1Below_o o2.c1 ((List.length o2.p.shapes : Nat) : Int) (by first | assumption | (exact ⟨by dsimp only; first | omega | (have := hp1.1; omega), hp1.2⟩))), fun o3 ho_o3 => ?_⟩
 obtain ⟨⟨hp_o3_0, hp_o3_1, hp_o3_2, hp_o3_3⟩, hf_o3⟩ := ho_o3
 refine ⟨hf_o3, (l1Below_o o3.c1 4 (by first | assumption | (exact ⟨by dsimp only; first | omega | (have := hp1.1; omega), hp1.2⟩))), fun o4 ho_o4 => ?_⟩
 obtain ⟨⟨hp_o4_0, hp_o4_1, hp_o4_2, hp_o4_3⟩, hf_o4⟩ := ho_o4
 refine ⟨(l12Bytes_o o4.c1 o2.p o3.x o4.x (by first | assumption | (exact ⟨by dsimp only; first | omega | (have := hp1.1; omega), hp1.2⟩)) (hp_o2_0) (by omega) (by omega) (by have := hp_o2_0.sch.1; omega)), fun o5 ho_o5 => ?_⟩
 obtain ⟨⟨hp_o5_0, hp_o5_1, hp_o5_2⟩, hf_o5⟩ := ho_o5
 refine ⟨hf_o4, hf_o5, (l1Below_o o5.c1 3 (by first | assumption | (exact ⟨by dsimp only; first | omega | (have := hp1.1; omega), hp1.2⟩))), fun o6 ho_o6 => ?_⟩
 obtain ⟨⟨hp_o6_0, hp_o6_1, hp_o6_2, hp_o6_3⟩, hf_o6⟩ := ho_o6
 refine ⟨hf_o6, (l1Bytes_o o6.c1 o6.x (by first | assumption | (exact ⟨by dsimp only; first | omega | (have := hp1.1; omega), hp1.2⟩)) (by omega)), fun o7 ho_o7 => ?_⟩
 obtain ⟨⟨hp_o7_0, hp_o7_1⟩, hf_o7⟩ := ho_o7
 refine ⟨hf_o7, (l12Turned_o o7.c1 o5.t (by first | assumption | (exact ⟨by dsimp only; first | omega | (have := hp1.1; omega), hp1.2⟩)) (by (try simp only [List.length_append, List.length_map, List.length_cons, List.length_nil, i64max]); omega)), fun o8 ho_o8 => ?_⟩
 obtain ⟨⟨hp_o8_0, hp_o8_1⟩, hf_o8⟩ := ho_o8
 refine ⟨hf_o8, (by (try simp only [List.length_append, List.length_map, List.length_cons, List.length_nil, i64max]); omega), (as_i64 (by simp only [List.length_map]; omega) (by simp only [List.length_map]; omega)), (l1Below_o o8.c1 12 (by first | assumption | (exact ⟨by dsimp only; first | omega | (have := hp1.1; omega), hp1.2⟩))), fun o9 ho_o9 => ?_⟩
 obtain ⟨⟨hp_o9_0, hp_o9_1, hp_o9_2, hp_o9_3⟩, hf_o9⟩ := ho_o9
 refine ⟨hf_o9, dsp (fun h1 p1 => ?_) fun h1 p1 => ?_⟩
 refine ⟨(as_i64 (by simp only [List.length_append, List.length_map]; omega) (by simp only [List.length_append, List.length_map]; omega)), (l1PickInt_o o9.c1 [0, (-1), ((List.length ((List.map toByte o7.l) ++ o8.t) : Nat) : Int), ((List.length ((List.map toByte o7.l) ++ o8.t) : Nat) : Int) + 9, 9223372036854775807] (by first | assumption | (exact ⟨by dsimp only; first | omega | (have := hp1.1; omega), hp1.2⟩)) (by (try simp only [List.length_append, List.length_map, List.length_cons, List.length_nil, i64max]); omega) (by (try simp only [List.length_append, List.length_map, List.length_cons, List.length_nil, i64max]); omega)), fun o10 ho_o10 => ?_⟩
 obtain ⟨⟨hp_o10_0, hp_o10_1⟩, hf_o10⟩ := ho_o10
 exact ⟨hf_o10, ⟨(by first | assumption | exact PlnG.b (by assumption)), (by (try simp only [List.length_append, List.length_map, List.length_cons, List.length_nil, i64max]); omega), (by first | ((try simp only [List.length_map]); omega) | (have h := hp_o10_0; simp at h; omega)), (by have := hp_o2_0.sch.1; omega), (by have := hp_o2_0.sch.1; omega)⟩, rfl, rfl⟩
 refine dsp (fun h2 p2 => ?_) fun h2 p2 => ?_
 refine ⟨(as_i64 (by simp only [List.length_append, List.length_map]; omega) (by simp only [List.length_append, List.length_map]; omega)), (l1PickInt_o o9.c1 [0, (-1), ((List.length ((List.map toByte o7.l) ++ o8.t) : Nat) : Int), ((List.length ((List.map toByte o7.l) ++ o8.t) : Nat) : Int) + 1] (by first | assumption | (exact ⟨by dsimp only; first | omega | (have := hp1.1; omega), hp1.2⟩)) (by (try simp only [List.length_append, List.length_map, List.length_cons, List.length_nil, i64max]); omega) (by (try simp only [List.length_append, List.length_map, List.length_cons, List.length_nil, i64max]); omega)), fun o10 ho_o10 => ?_⟩
 obtain ⟨⟨hp_o10_0, hp_o10_1⟩, hf_o10⟩ := ho_o10
 exact ⟨hf_o10, ⟨(by first | assumption | exact PlnG.b (by assumption)), (by (try simp only [List.length_append, List.length_map, List.length_cons, List.length_nil, i64max]); omega), (by first | ((try simp only [List.length_map]); omega) | (have h := hp_o10_0; simp at h; omega)), (by have := hp_o2_0.sch.1; omega), (by have := hp_o2_0.sch.1; omega)⟩, rfl, rfl⟩
 refine dsp (fun h3 p3 => ?_) fun h3 p3 => ?_
 refine ⟨(l1Below_o o9.c1 7 (by first | assumption | (exact ⟨by dsimp only; first | omega | (have := hp1.1; omega), hp1.2⟩))), fun o10 ho_o10 => ?_⟩
 obtain ⟨⟨hp_o10_0, hp_o10_1, hp_o10_2, hp_o10_3⟩, hf_o10⟩ := ho_o10
 exact ⟨hf_o10, (as_i64 (by omega) (by omega)), ⟨(by first | assumption | exact PlnG.b (by assumption)), (by (try simp only [List.length_append, List.length_map, List.length_cons, List.length_nil, i64max]); omega), (by first | ((try simp only [List.length_map]); omega) | (have h := hp_o10_0; simp at h; omega)), (by have := hp_o2_0.sch.1; omega), (by have := hp_o2_0.sch.1; omega)⟩, rfl, rfl⟩
 refine dsp (fun h4 p4 => ?_) fun h4 p4 => ?_
 refine ⟨(l1Below_o o9.c1 6 (by first | assumption | (exact ⟨by dsimp only; first | omega | (have := hp1.1; omega), hp1.2⟩))), fun o10 ho_o10 => ?_⟩
 obtain ⟨⟨hp_o10_0, hp_o10_1, hp_o10_2, hp_o10_3⟩, hf_o10⟩ := ho_o10
 exact ⟨hf_o10, (as_i64 (by omega) (by omega)), ⟨(by first | assumption | exact PlnG.b (by assumption)), (by (try simp only [List.length_append, List.length_map, List.length_cons, List.length_nil, i64max]); omega), (by first | ((try simp only [List.length_map]); omega) | (have h := hp_o10_0; simp at h; omega)), (by have := hp_o2_0.sch.1; omega), (by have := hp_o2_0.sch.1; omega)⟩, rfl, rfl⟩
 refine dsp (fun h5 p5 => ?_) fun h5 p5 => ?_
 refine ⟨(l12Bent_o o9.c1 (by first | assumption | (exact ⟨by dsimp only; first | omega | (have := hp1.1; omega), hp1.2⟩))), fun o10 ho_o10 => ?_⟩
 obtain ⟨⟨hp_o10_0, hp_o10_1⟩, hf_o10⟩ := ho_o10
 exact ⟨hf_o10, ⟨(by first | assumption | exact PlnG.b (by assumption)), (by (try simp only [List.length_append, List.length_map, List.length_cons, List.length_nil, i64max]); omega), (by first | ((try simp only [List.length_map]); omega) | (have h := hp_o10_0; simp at h; omega)), (by have := hp_o2_0.sch.1; omega), (by have := hp_o2_0.sch.1; omega)⟩, rfl, rfl⟩
 refine dsp (fun h6 p6 => ?_) fun h6 p6 => ?_
 refine ⟨(l1Bytes_o o9.c1 4 (by first | assumption | (exact ⟨by dsimp only; first | omega | (have := hp1.1; omega), hp1.2⟩)) (by omega)), fun o10 ho_o10 => ?_⟩
 obtain ⟨⟨hp_o10_0, hp_o10_1⟩, hf_o10⟩ := ho_o10
 exact ⟨hf_o10, (by (try simp only [List.length_append, List.length_map, List.length_cons, List.length_nil, i64max]); omega), ⟨(by first | assumption | exact PlnG.b (by assumption)), (by (try simp only [List.length_append, List.length_map, List.length_cons, List.length_nil, i64max]); omega), (by first | ((try simp only [List.length_map]); omega) | (have h := hp_o10_0; simp at h; omega)), (by have := hp_o2_0.sch.1; omega), (by have := hp_o2_0.sch.1; omega)⟩, rfl, rfl⟩
 exact ⟨⟨(by first | assumption | exact PlnG.b (by assumption)), (by (try simp only [List.length_append, List.length_map, List.length_cons, List.length_nil, i64max]); omega), (by first | ((try simp only [List.length_map]); omega) | (have h := hp_o10_0; simp at h; omega)), (by have := hp_o2_0.sch.1; omega), (by have := hp_o2_0.sch.1; omega)⟩, rfl, rfl⟩
structure parsed_i_V0 where
 r : Mr
 ends : List Int
def parsed_i_F0 (p : Pln) (s : List UInt8) : Fam := ⟨parsed_i_V0, fun q1 => [(1, .v (vT s)), (2, .v (vP 0)), (6, .v (vP 1)), (7, .v (vO 3))], fun q1 => [.cells (cPln p), .cells (oMr6 2 q1.r), .lst .ev q1.r.out, .lst .int q1.ends], fun q1 => WInv (wh0 p s) ⟨q1.r, q1.ends⟩ ∧ (q1.r).fail.kind = 0, fun q1 => mrMu q1.r⟩
theorem parsed_i (p : Pln) (s : List UInt8) (hp1 : planOk p = true) (hp2 : s.length ≤ 4000) : Fun Tryz.prog 51 [.agg (cPln p), vT s] [] (.tup [vO 0, vO 1]) [.lst .ev (wholeEv p s), .lst .int (whole p s).ends] := by
 have hN : bigN = 274877906944 := rfl
 have hpt := planOk_t hp1
 refine fun_ofw Tryz.func51 (by kernel_rfl) (by kernel_rfl) (w := let zi : Int → C := .int .i64; let z15 := ([(1, .v (vT s)), (2, .v (vP 0)), (6, .v (vP 1)), (7, .v (vO 3))] : List (Nat × S)) = [(1, .v (vT s)), (2, .v (vP 0)), (6, .v (vP 1)), (7, .v (vO 3))]; let z16 : List Blk := [.lst .ev (wholeEv p s), .lst .int (whole p s).ends]; let z17 := fr (.first 10 (.one 8 (.one 9 (.first 11 (.first 12 (.done)))))) 0 8; let z18 := (⟨8, 0, 0, 0, [], 0, 0⟩ : Ev); let z20 := (⟨9, 0, 0, 0, [], 0, (s.length : Int)⟩ : Ev); let z21 := parsed_i_F0 p s; let z22 : List V := [vO 0, vO 1]; let z19 := (.tup z22 : S); (.seg [.ty .int, .at 0, .mk 1 6 .ev, .keep [1, 2, 6, 7], .sel [0, 1, 3, 2]] (.loop z21 fun q1 => let z2 := mrVar q1.r 9223372036854775807; let z1 := (⟨z2.plan, z2.s, z2.at_, z2.out ++ [(⟨1, 0, 0, mrVarU q1.r 9223372036854775807, [], 0, 0⟩ : Ev)], z2.fail⟩ : Mr); let z4 := mrVarU q1.r 9223372036854775807; let z3 := msgN (Int.toNat ((z1).plan.deep - 1)) p.root (z2.at_ + z4) z1; .br (.seg [.call [1, 2] (.tup [.c (.int .u64 z4), vB (mrVarOk q1.r 9223372036854775807)]) [.cells (oMr6 1 z2), .lst .ev z2.out]] (.br (.seg [.as 37 (.v (.c (.int .u64 p.most)))] (.br (.seg [.call [1, 2] (.v (vB false)) [.cells (oMr6 1 (mrFail z2 7 q1.r.at_)), .lst .ev (mrFail z2 7 q1.r.at_).out], .br false, .br true, .tree z17 9 [], .ty .ev, .ty .ev] (.leaf () [5, 3])) (.seg [.br true, .as 50 (.v (vI z4)), .ty .ev, .ty .ev, .tree (fr (.one 10 (.first 11 (.done))) 0 10) 10 [], .as 64 (.v (vI z4)), .as 65 (.v (vI (z2.at_ + z4))), .call [1, 5] (.v (vB (decide (z3.fail.kind = 0)))) [.cells (oMr6 2 z3), .dead, .lst .ev z3.out]] (.br (.seg [.tree z17 9 [], .ty .ev, .ty .ev] (.leaf () [8, 3])) (.seg [.tree (fr (fr (.two 6 (.two 7 (.one 13 (.one 14 (.first 15 (.first 16 (.one 17 (.first 18 (.done))))))) 13 (.one 7 (.one 14 (.first 15 (.first 16 (.one 17 (.first 18 (.done)))))))) 13 (.one 6 (.one 7 (.one 14 (.first 15 (.first 16 (.one 17 (.first 18 (.done))))))))) 8 5) 0 6) 17 [3, 6], .ty .ev, .ty .ev, .ty .int, .ty .int, .at 0, .keep [1, 2, 6, 7], .sel [0, 1, 8, 10], .ty .int, .ty .ev, .ty .int, .at 0, .keep [1, 2, 6, 7], .sel [0, 1, 9, 10], .ty .int, .ty .ev, .ty .ev, .ty .int, .at 0, .keep [1, 2, 6, 7], .sel [0, 1, 9, 10], .at 0, .keep [1, 2, 6, 7], .sel [0, 1, 2, 3]] (.next)))))) (.seg [.br false, .br true, .tree z17 9 [], .ty .ev, .ty .ev] (.leaf () [5, 3])))) (.seg [.ty .ev, .ty .ev] (.leaf () [5, 3]))), z21.Has [(1, .v (vT s)), (2, .v (vP 0)), (6, .v (vP 1)), (7, .v (vO 3))] [.cells (cPln p), .cells [.seq .shp p.shapes, zi p.root, zi p.deep, zi p.most, .str s, zi 0, .own 2, zi 0, zi 0, .int .u64 0, zi 0, .str [], zi 0, zi 0], .lst .ev ([] : List Ev), .lst .int [0]] ∧ ∀ q1, z21.inv q1 → (let z6 := mrVar q1.r 9223372036854775807; let z8 := mrVarU q1.r 9223372036854775807; let z9 := (⟨1, 0, 0, mrVarU q1.r 9223372036854775807, [], 0, 0⟩ : Ev); let z5 := msgN (Int.toNat (((⟨z6.plan, z6.s, z6.at_, z6.out ++ [z9], z6.fail⟩ : Mr)).plan.deep - 1)) p.root (z6.at_ + z8) (⟨z6.plan, z6.s, z6.at_, z6.out ++ [z9], z6.fail⟩ : Mr); let z7 : List Blk := [.cells (cPln p), .cells (oMr6 2 z5), .lst .ev (z5.out ++ [z18]), .lst .int (q1.ends ++ [z5.at_])]; let z10 := mrVarOk q1.r 9223372036854775807; let z11 := q1.ends.length + List.length [z5.at_] ≤ bigN; let z12 := mrFail z6 7 q1.r.at_; let z13 := decide (q1.r.at_ < (s.length : Int)); let z14 := decide (p.most < mrVarU q1.r 9223372036854775807); (z13 = true → (Fun Tryz.prog 73 [vP 0, vI 9223372036854775807] [.cells (oMr6 1 q1.r), .lst .ev q1.r.out] (.tup [.c (.int .u64 z8), vB z10]) [.cells (oMr6 1 z6), .lst .ev z6.out]) ∧ (z10 = true → ((.v (.c (.int .u64 (IntKind.u64.wrap (p.most)))) : S) = .v (.c (.int .u64 p.most))) ∧ (z14 = true → (Fun Tryz.prog 76 [vP 0, vI 7, vI q1.r.at_] [.cells (oMr6 1 z6), .lst .ev z6.out] (.v (vB false)) [.cells (oMr6 1 z12), .lst .ev z12.out]) ∧ (false = false) ∧ ((!false) = true) ∧ (z12.out.length + List.length [z12.fail] ≤ bigN) ∧ z19 = .tup z22 ∧ ([.lst .ev (z12.out ++ [z12.fail]), .lst .int q1.ends] : List Blk) = z16) ∧ (z14 = false → (z10 = true) ∧ ((.v (vI (IntKind.i64.wrap z8)) : S) = .v (vI z8)) ∧ (z6.out.length + List.length [z9] ≤ bigN) ∧ ((.v (vI (IntKind.i64.wrap z8)) : S) = .v (vI z8)) ∧ ((.v (vI (IntKind.i64.wrap z8)) : S) = .v (vI z8)) ∧ ((.v (vI (IntKind.i64.wrap (z6.at_ + z8))) : S) = .v (vI (z6.at_ + z8))) ∧ ((.v (vI (IntKind.i64.wrap (z6.at_ + z8))) : S) = .v (vI (z6.at_ + z8))) ∧ (Fun Tryz.prog 44 [vP 0, vI p.root, vI (z6.at_ + z8), vI 1] [.cells (oMr6 1 z6), .lst .ev (z6.out ++ [z9])] (.v (vB (decide (z5.fail.kind = 0)))) [.cells (oMr6 2 z5), .dead, .lst .ev z5.out]) ∧ ((!(decide (z5.fail.kind = 0))) = true → (z5.out.length + List.length [z5.fail] ≤ bigN) ∧ z19 = .tup z22 ∧ ([.lst .ev (z5.out ++ [z5.fail]), .lst .int q1.ends] : List Blk) = z16) ∧ ((!(decide (z5.fail.kind = 0))) = false → (z5.out.length + List.length [z18] ≤ bigN) ∧ z11 ∧ (z5.out.length + List.length [z18] ≤ bigN) ∧ z11 ∧ ((z7 : List Blk) = z7) ∧ z15 ∧ (z5.out.length + List.length [z18] ≤ bigN) ∧ z11 ∧ ((z7 : List Blk) = z7) ∧ z15 ∧ z21.Nxt q1 [(1, .v (vT s)), (2, .v (vP 0)), (6, .v (vP 1)), (7, .v (vO 3))] z7))) ∧ (z10 = false → (z10 = false) ∧ ((!z10) = true) ∧ (z6.out.length + List.length [z6.fail] ≤ bigN) ∧ z19 = .tup z22 ∧ ([.lst .ev (z6.out ++ [z6.fail]), .lst .int q1.ends] : List Blk) = z16)) ∧ (z13 = false → (q1.r.out.length + List.length [z20] ≤ bigN) ∧ z19 = .tup z22 ∧ ([.lst .ev (q1.r.out ++ [z20]), .lst .int q1.ends] : List Blk) = z16)))) (by kernel_rfl) ?_
 refine ⟨has_of (j := (⟨(⟨p, s, 0, ([] : List Ev), (⟨0, 0, 0, 0, [], 0, 0⟩ : Ev)⟩ : Mr), [0]⟩ : parsed_i_V0)) rfl (by first | rfl | simp) (by dsimp only [parsed_i_F0]; exact ⟨WInv.refl, rfl⟩), fun (q1 : parsed_i_V0) hq_q1 => ?_⟩
 have hi_q1 : WInv (wh0 p s) ⟨q1.r, q1.ends⟩ ∧ (q1.r).fail.kind = 0 := hq_q1
 have hfl := hi_q1.2
 have hrm := hi_q1.1.room hfl
 have hen := hi_q1.1.ends hfl
 dsimp only at hrm hen
 have hfe := frmStep_eq q1.r
 have hfm := frmMsg_eq q1.r
 have hqs := congrArg List.length hrm.1
 obtain ⟨hv, hv2, hv3⟩ := mrVar_adv (r := q1.r) (e := 9223372036854775807) (by omega)
 have hvk := mrVarOk_kind (r := q1.r) (e := 9223372036854775807) hfl
 have hu := mrVarU_b q1.r 9223372036854775807
 have hvs := congrArg List.length hv.1.s
 have hvo := congrArg List.length hv3
 have hvp := hv.1.plan
 have hpl := hvp.trans hrm.2.1
 refine dsp (fun h1 p1 => ?_) fun h1 p1 => ?_
 refine ⟨(variable_i q1.r _ (by omega)), fun h2 => ?_, fun h2 => ?_⟩
 have hok : mrVarOk q1.r 9223372036854775807 = true := h2
 have hk : (mrVar q1.r 9223372036854775807).fail.kind = 0 := by rw [hvk] at hok; simpa using hok
 have ha := hv.1.at_ hk
 have hb := hv.2 hk
 have hto := hv2 hok
 refine ⟨(as_u64 (by omega) (by omega)), dsp (fun h3 p3 => ?_) fun h3 p3 => ?_⟩
 refine ⟨(stop_i (mrVar q1.r 9223372036854775807) _ _), (by decide), (by decide), (by simp only [List.length_cons, List.length_nil, List.length_append, List.length_cons, List.length_nil, mrFail]; omega), rfl, (consE (congrArg (Blk.lst .ev) ?_) (consE (congrArg (Blk.lst .int) ?_) rfl))⟩
 rotate_left 2
 refine ⟨h2, (as_i64 (by omega) (by omega)), (by first | omega | (dsimp only; omega) | (simp only [List.length_append, List.length_cons, List.length_nil, mrTell]; omega)), (as_i64 (by omega) (by omega)), (as_i64 (by omega) (by omega)), (as_i64 (by omega) (by omega)), (as_i64 (by omega) (by omega)), (msg_i (⟨(mrVar q1.r 9223372036854775807).plan, (mrVar q1.r 9223372036854775807).s, (mrVar q1.r 9223372036854775807).at_, (mrVar q1.r 9223372036854775807).out ++ [(⟨1, 0, 0, mrVarU q1.r 9223372036854775807, [], 0, 0⟩ : Ev)], (mrVar q1.r 9223372036854775807).fail⟩ : Mr) _ _ _ (by first | omega | (dsimp only; omega) | (simp only [List.length_append, List.length_cons, List.length_nil, mrTell]; omega)) (by first | omega | (dsimp only; omega) | (simp only [List.length_append, List.length_cons, List.length_nil, mrTell]; omega)) (hk) (by first | omega | (dsimp only; omega) | (simp only [List.length_append, List.length_cons, List.length_nil, mrTell]; omega)) (by first | omega | (dsimp only; omega) | (simp only [List.length_append, List.length_cons, List.length_nil, mrTell]; omega)) (by omega) (by rw [hpl]; exact hp1) (by rw [hpl]; omega)), fun h4 => have q4 := bnot_t h4; have p4 := of_decide_eq_false q4; ?_, fun h4 => have q4 := bnot_f h4; have p4 := of_decide_eq_true q4; ?_⟩
 have hfx : frmMsg q1.r = (msgN (Int.toNat (((⟨(mrVar q1.r 9223372036854775807).plan, (mrVar q1.r 9223372036854775807).s, (mrVar q1.r 9223372036854775807).at_, (mrVar q1.r 9223372036854775807).out ++ [(⟨1, 0, 0, mrVarU q1.r 9223372036854775807, [], 0, 0⟩ : Ev)], (mrVar q1.r 9223372036854775807).fail⟩ : Mr)).plan.deep - 1)) p.root ((mrVar q1.r 9223372036854775807).at_ + (mrVarU q1.r 9223372036854775807)) (⟨(mrVar q1.r 9223372036854775807).plan, (mrVar q1.r 9223372036854775807).s, (mrVar q1.r 9223372036854775807).at_, (mrVar q1.r 9223372036854775807).out ++ [(⟨1, 0, 0, mrVarU q1.r 9223372036854775807, [], 0, 0⟩ : Ev)], (mrVar q1.r 9223372036854775807).fail⟩ : Mr)) := by rw [hfm]; simp only [frameEv, mrTell, hvp, hrm.2.1]
 have hfs : frmStep q1.r = frmMsg q1.r := by rw [hfe, if_neg (by simp [hok]), if_neg (by rw [hrm.2.1]; exact p3), if_neg (by rw [hfx]; exact p4)]
 have hwh : whole p s = ⟨(msgN (Int.toNat (((⟨(mrVar q1.r 9223372036854775807).plan, (mrVar q1.r 9223372036854775807).s, (mrVar q1.r 9223372036854775807).at_, (mrVar q1.r 9223372036854775807).out ++ [(⟨1, 0, 0, mrVarU q1.r 9223372036854775807, [], 0, 0⟩ : Ev)], (mrVar q1.r 9223372036854775807).fail⟩ : Mr)).plan.deep - 1)) p.root ((mrVar q1.r 9223372036854775807).at_ + (mrVarU q1.r 9223372036854775807)) (⟨(mrVar q1.r 9223372036854775807).plan, (mrVar q1.r 9223372036854775807).s, (mrVar q1.r 9223372036854775807).at_, (mrVar q1.r 9223372036854775807).out ++ [(⟨1, 0, 0, mrVarU q1.r 9223372036854775807, [], 0, 0⟩ : Ev)], (mrVar q1.r 9223372036854775807).fail⟩ : Mr)), q1.ends⟩ := hi_q1.1.leave (by show q1.r.at_ < _; omega) hfl (by unfold whStep; simp only [hfs, hfx]; rw [if_neg p4]) p4
 refine ⟨(msgN_room (by first | omega | (dsimp only; omega) | (simp only [List.length_append, List.length_cons, List.length_nil, mrTell]; omega)) (by first | omega | (dsimp only; omega) | (simp only [List.length_append, List.length_cons, List.length_nil, mrTell]; omega))), rfl, (consE (congrArg (Blk.lst .ev) ?_) (consE (congrArg (Blk.lst .int) ?_) rfl))⟩
 rotate_left 2
 have hfx : frmMsg q1.r = (msgN (Int.toNat (((⟨(mrVar q1.r 9223372036854775807).plan, (mrVar q1.r 9223372036854775807).s, (mrVar q1.r 9223372036854775807).at_, (mrVar q1.r 9223372036854775807).out ++ [(⟨1, 0, 0, mrVarU q1.r 9223372036854775807, [], 0, 0⟩ : Ev)], (mrVar q1.r 9223372036854775807).fail⟩ : Mr)).plan.deep - 1)) p.root ((mrVar q1.r 9223372036854775807).at_ + (mrVarU q1.r 9223372036854775807)) (⟨(mrVar q1.r 9223372036854775807).plan, (mrVar q1.r 9223372036854775807).s, (mrVar q1.r 9223372036854775807).at_, (mrVar q1.r 9223372036854775807).out ++ [(⟨1, 0, 0, mrVarU q1.r 9223372036854775807, [], 0, 0⟩ : Ev)], (mrVar q1.r 9223372036854775807).fail⟩ : Mr)) := by rw [hfm]; simp only [frameEv, mrTell, hvp, hrm.2.1]
 have hfs : frmStep q1.r = mrTell (frmMsg q1.r) frameEndEv := by rw [hfe, if_neg (by simp [hok]), if_neg (by rw [hrm.2.1]; exact p3), if_pos (by rw [hfx]; exact p4)]
 have hst : whStep ⟨q1.r, q1.ends⟩ = ⟨mrTell (msgN (Int.toNat (((⟨(mrVar q1.r 9223372036854775807).plan, (mrVar q1.r 9223372036854775807).s, (mrVar q1.r 9223372036854775807).at_, (mrVar q1.r 9223372036854775807).out ++ [(⟨1, 0, 0, mrVarU q1.r 9223372036854775807, [], 0, 0⟩ : Ev)], (mrVar q1.r 9223372036854775807).fail⟩ : Mr)).plan.deep - 1)) p.root ((mrVar q1.r 9223372036854775807).at_ + (mrVarU q1.r 9223372036854775807)) (⟨(mrVar q1.r 9223372036854775807).plan, (mrVar q1.r 9223372036854775807).s, (mrVar q1.r 9223372036854775807).at_, (mrVar q1.r 9223372036854775807).out ++ [(⟨1, 0, 0, mrVarU q1.r 9223372036854775807, [], 0, 0⟩ : Ev)], (mrVar q1.r 9223372036854775807).fail⟩ : Mr)) frameEndEv, q1.ends ++ [(msgN (Int.toNat (((⟨(mrVar q1.r 9223372036854775807).plan, (mrVar q1.r 9223372036854775807).s, (mrVar q1.r 9223372036854775807).at_, (mrVar q1.r 9223372036854775807).out ++ [(⟨1, 0, 0, mrVarU q1.r 9223372036854775807, [], 0, 0⟩ : Ev)], (mrVar q1.r 9223372036854775807).fail⟩ : Mr)).plan.deep - 1)) p.root ((mrVar q1.r 9223372036854775807).at_ + (mrVarU q1.r 9223372036854775807)) (⟨(mrVar q1.r 9223372036854775807).plan, (mrVar q1.r 9223372036854775807).s, (mrVar q1.r 9223372036854775807).at_, (mrVar q1.r 9223372036854775807).out ++ [(⟨1, 0, 0, mrVarU q1.r 9223372036854775807, [], 0, 0⟩ : Ev)], (mrVar q1.r 9223372036854775807).fail⟩ : Mr)).at_]⟩ := by unfold whStep; simp only [hfs, hfx]; rw [if_pos (show (mrTell (msgN (Int.toNat (((⟨(mrVar q1.r 9223372036854775807).plan, (mrVar q1.r 9223372036854775807).s, (mrVar q1.r 9223372036854775807).at_, (mrVar q1.r 9223372036854775807).out ++ [(⟨1, 0, 0, mrVarU q1.r 9223372036854775807, [], 0, 0⟩ : Ev)], (mrVar q1.r 9223372036854775807).fail⟩ : Mr)).plan.deep - 1)) p.root ((mrVar q1.r 9223372036854775807).at_ + (mrVarU q1.r 9223372036854775807)) (⟨(mrVar q1.r 9223372036854775807).plan, (mrVar q1.r 9223372036854775807).s, (mrVar q1.r 9223372036854775807).at_, (mrVar q1.r 9223372036854775807).out ++ [(⟨1, 0, 0, mrVarU q1.r 9223372036854775807, [], 0, 0⟩ : Ev)], (mrVar q1.r 9223372036854775807).fail⟩ : Mr)) frameEndEv).fail.kind = 0 from p4)]; try rfl
 exact ⟨(msgN_room (by first | omega | (dsimp only; omega) | (simp only [List.length_append, List.length_cons, List.length_nil, mrTell]; omega)) (by first | omega | (dsimp only; omega) | (simp only [List.length_append, List.length_cons, List.length_nil, mrTell]; omega))), (by simp only [List.length_cons, List.length_nil]; omega), (msgN_room (by first | omega | (dsimp only; omega) | (simp only [List.length_append, List.length_cons, List.length_nil, mrTell]; omega)) (by first | omega | (dsimp only; omega) | (simp only [List.length_append, List.length_cons, List.length_nil, mrTell]; omega))), (by simp only [List.length_cons, List.length_nil]; omega), rfl, rfl, (msgN_room (by first | omega | (dsimp only; omega) | (simp only [List.length_append, List.length_cons, List.length_nil, mrTell]; omega)) (by first | omega | (dsimp only; omega) | (simp only [List.length_append, List.length_cons, List.length_nil, mrTell]; omega))), (by simp only [List.length_cons, List.length_nil]; omega), rfl, rfl, nxt_of (j := (⟨(⟨(msgN (Int.toNat (((⟨(mrVar q1.r 9223372036854775807).plan, (mrVar q1.r 9223372036854775807).s, (mrVar q1.r 9223372036854775807).at_, (mrVar q1.r 9223372036854775807).out ++ [(⟨1, 0, 0, mrVarU q1.r 9223372036854775807, [], 0, 0⟩ : Ev)], (mrVar q1.r 9223372036854775807).fail⟩ : Mr)).plan.deep - 1)) p.root ((mrVar q1.r 9223372036854775807).at_ + (mrVarU q1.r 9223372036854775807)) (⟨(mrVar q1.r 9223372036854775807).plan, (mrVar q1.r 9223372036854775807).s, (mrVar q1.r 9223372036854775807).at_, (mrVar q1.r 9223372036854775807).out ++ [(⟨1, 0, 0, mrVarU q1.r 9223372036854775807, [], 0, 0⟩ : Ev)], (mrVar q1.r 9223372036854775807).fail⟩ : Mr)).plan, (msgN (Int.toNat (((⟨(mrVar q1.r 9223372036854775807).plan, (mrVar q1.r 9223372036854775807).s, (mrVar q1.r 9223372036854775807).at_, (mrVar q1.r 9223372036854775807).out ++ [(⟨1, 0, 0, mrVarU q1.r 9223372036854775807, [], 0, 0⟩ : Ev)], (mrVar q1.r 9223372036854775807).fail⟩ : Mr)).plan.deep - 1)) p.root ((mrVar q1.r 9223372036854775807).at_ + (mrVarU q1.r 9223372036854775807)) (⟨(mrVar q1.r 9223372036854775807).plan, (mrVar q1.r 9223372036854775807).s, (mrVar q1.r 9223372036854775807).at_, (mrVar q1.r 9223372036854775807).out ++ [(⟨1, 0, 0, mrVarU q1.r 9223372036854775807, [], 0, 0⟩ : Ev)], (mrVar q1.r 9223372036854775807).fail⟩ : Mr)).s, (msgN (Int.toNat (((⟨(mrVar q1.r 9223372036854775807).plan, (mrVar q1.r 9223372036854775807).s, (mrVar q1.r 9223372036854775807).at_, (mrVar q1.r 9223372036854775807).out ++ [(⟨1, 0, 0, mrVarU q1.r 9223372036854775807, [], 0, 0⟩ : Ev)], (mrVar q1.r 9223372036854775807).fail⟩ : Mr)).plan.deep - 1)) p.root ((mrVar q1.r 9223372036854775807).at_ + (mrVarU q1.r 9223372036854775807)) (⟨(mrVar q1.r 9223372036854775807).plan, (mrVar q1.r 9223372036854775807).s, (mrVar q1.r 9223372036854775807).at_, (mrVar q1.r 9223372036854775807).out ++ [(⟨1, 0, 0, mrVarU q1.r 9223372036854775807, [], 0, 0⟩ : Ev)], (mrVar q1.r 9223372036854775807).fail⟩ : Mr)).at_, (msgN (Int.toNat (((⟨(mrVar q1.r 9223372036854775807).plan, (mrVar q1.r 9223372036854775807).s, (mrVar q1.r 9223372036854775807).at_, (mrVar q1.r 9223372036854775807).out ++ [(⟨1, 0, 0, mrVarU q1.r 9223372036854775807, [], 0, 0⟩ : Ev)], (mrVar q1.r 9223372036854775807).fail⟩ : Mr)).plan.deep - 1)) p.root ((mrVar q1.r 9223372036854775807).at_ + (mrVarU q1.r 9223372036854775807)) (⟨(mrVar q1.r 9223372036854775807).plan, (mrVar q1.r 9223372036854775807).s, (mrVar q1.r 9223372036854775807).at_, (mrVar q1.r 9223372036854775807).out ++ [(⟨1, 0, 0, mrVarU q1.r 9223372036854775807, [], 0, 0⟩ : Ev)], (mrVar q1.r 9223372036854775807).fail⟩ : Mr)).out ++ [(⟨8, 0, 0, 0, [], 0, 0⟩ : Ev)], (msgN (Int.toNat (((⟨(mrVar q1.r 9223372036854775807).plan, (mrVar q1.r 9223372036854775807).s, (mrVar q1.r 9223372036854775807).at_, (mrVar q1.r 9223372036854775807).out ++ [(⟨1, 0, 0, mrVarU q1.r 9223372036854775807, [], 0, 0⟩ : Ev)], (mrVar q1.r 9223372036854775807).fail⟩ : Mr)).plan.deep - 1)) p.root ((mrVar q1.r 9223372036854775807).at_ + (mrVarU q1.r 9223372036854775807)) (⟨(mrVar q1.r 9223372036854775807).plan, (mrVar q1.r 9223372036854775807).s, (mrVar q1.r 9223372036854775807).at_, (mrVar q1.r 9223372036854775807).out ++ [(⟨1, 0, 0, mrVarU q1.r 9223372036854775807, [], 0, 0⟩ : Ev)], (mrVar q1.r 9223372036854775807).fail⟩ : Mr)).fail⟩ : Mr), q1.ends ++ [(msgN (Int.toNat (((⟨(mrVar q1.r 9223372036854775807).plan, (mrVar q1.r 9223372036854775807).s, (mrVar q1.r 9223372036854775807).at_, (mrVar q1.r 9223372036854775807).out ++ [(⟨1, 0, 0, mrVarU q1.r 9223372036854775807, [], 0, 0⟩ : Ev)], (mrVar q1.r 9223372036854775807).fail⟩ : Mr)).plan.deep - 1)) p.root ((mrVar q1.r 9223372036854775807).at_ + (mrVarU q1.r 9223372036854775807)) (⟨(mrVar q1.r 9223372036854775807).plan, (mrVar q1.r 9223372036854775807).s, (mrVar q1.r 9223372036854775807).at_, (mrVar q1.r 9223372036854775807).out ++ [(⟨1, 0, 0, mrVarU q1.r 9223372036854775807, [], 0, 0⟩ : Ev)], (mrVar q1.r 9223372036854775807).fail⟩ : Mr)).at_]⟩ : parsed_i_V0)) rfl (by first | rfl | simp) (by dsimp only [parsed_i_F0]; exact ⟨(hi_q1.1.next (by show q1.r.at_ < _; omega) hfl hst).1, p4⟩) (by dsimp only [parsed_i_F0]; exact (hi_q1.1.next (by show q1.r.at_ < _; omega) hfl hst).2)⟩
 have hok : mrVarOk q1.r 9223372036854775807 = false := h2
 refine ⟨h2, (bnot_mkt h2), (by simp only [List.length_cons, List.length_nil]; omega), rfl, (consE (congrArg (Blk.lst .ev) ?_) (consE (congrArg (Blk.lst .int) ?_) rfl))⟩
 rotate_left 2
 refine ⟨(by first | omega | (dsimp only; omega) | (simp only [List.length_append, List.length_cons, List.length_nil, mrTell]; omega)), rfl, (consE (congrArg (Blk.lst .ev) ?_) (consE (congrArg (Blk.lst .int) ?_) rfl))⟩
 rotate_left 2
 all_goals first | ((rw [wholeEv, hwh]; exact congrArg (_ ++ [·]) (if_neg (by assumption)))) | ((rw [hwh]; done)) | ((rw [wholeEv, hi_q1.1.end_ (by show ¬ q1.r.at_ < _; omega)]; simp [hfl, doneEv]; done)) | ((rw [hi_q1.1.end_ (by show ¬ q1.r.at_ < _; omega)]; done)) | ((have hw := hi_q1.1.leave (by show q1.r.at_ < _; omega) hfl (rfl) (by show (frmStep q1.r).fail.kind ≠ 0; grind (ematch := 20) (gen := 20) [whStep, mrTell, mrFail, failEv, frameEv, frameEndEv]); rw [wholeEv, hw]; grind (ematch := 20) (gen := 20) [whStep, mrTell, mrFail, failEv, frameEv, frameEndEv])) | ((have hw := hi_q1.1.leave (by show q1.r.at_ < _; omega) hfl (rfl) (by show (frmStep q1.r).fail.kind ≠ 0; grind (ematch := 20) (gen := 20) [whStep, mrTell, mrFail, failEv, frameEv, frameEndEv]); rw [hw]; grind (ematch := 20) (gen := 20) [whStep, mrTell, mrFail, failEv, frameEv, frameEndEv]))
theorem whole_i (p : Pln) (s : List UInt8) (hp1 : s.length ≤ 1048576) : Fun Tryz.prog 21 [.agg (cPln p), vT s] [] (.v (.c (.seq .ev (wholeL p s)))) [] := by
 have hN : bigN = 274877906944 := rfl
 refine fun_ofw Tryz.func21 (by kernel_rfl) (by kernel_rfl) (w := let z1 := decide (4000 < (s.length : Int)); let z2 : List Blk := [.lst .ev (wholeEv p s), .lst .int (whole p s).ends]; let z3 := (.v (.c (.seq .ev ([] : List Ev))) : S); (.seg [.call [] (.v (vB (planOk p))) []] (.br (.seg [.at 0, .mkS 4 .ev, .pubS 4] (.leaf () [])) (.br (.seg [.at 0, .mkS 4 .ev, .pubS 4] (.leaf () [])) (.seg [.call [] (.tup [vO 0, vO 1]) z2, .at 0, .pubS 4] (.leaf () [])))), (Fun Tryz.prog 23 [.agg (cPln p)] [] (.v (vB (planOk p))) []) ∧ ((!(planOk p)) = true → z3 = .v (.c (.seq .ev (wholeL p s))) ∧ ([] : List Blk) = []) ∧ ((!(planOk p)) = false → (z1 = true → z3 = .v (.c (.seq .ev (wholeL p s))) ∧ ([] : List Blk) = []) ∧ (z1 = false → (Fun Tryz.prog 51 [.agg (cPln p), vT s] [] (.tup [vO 0, vO 1]) z2) ∧ (.v (.c (.seq .ev (wholeEv p s))) : S) = .v (.c (.seq .ev (wholeL p s))) ∧ ([] : List Blk) = [])))) (by kernel_rfl) ?_
 refine ⟨(planOk_i p), fun h1 => have q1 := bnot_t h1; ?_, fun h1 => have q1 := bnot_f h1; have p1 := planOk_t q1; ?_⟩
 refine ⟨(congrArg S.v (congrArg V.c (congrArg (C.seq .ev) ?_))), rfl⟩
 rotate_left
 refine dsp (fun h2 p2 => ?_) fun h2 p2 => ?_
 refine ⟨(congrArg S.v (congrArg V.c (congrArg (C.seq .ev) ?_))), rfl⟩
 rotate_left
 have hwl : wholeL p s = wholeEv p s := by unfold wholeL; rw [if_pos ⟨by simp_all, by omega⟩]
 refine ⟨(parsed_i p _ (by omega) (by omega)), (congrArg S.v (congrArg V.c (congrArg (C.seq .ev) ?_))), rfl⟩
 rotate_left
 all_goals first | (simp_all [wholeL]; done) | (grind [wholeL])
/-! ### Further on -/
theorem body_at {s : List UInt8} {a e : Int} (ha : 0 ≤ a) (hae : a ≤ e) (he : e ≤ (s.length : Int)) : ((List.drop a.toNat (List.take e.toNat s)).length : Int) = e - a ∧ ∀ i : Int, a ≤ i → i < e → (List.drop a.toNat (List.take e.toNat s))[(i - a).toNat]? = s[i.toNat]? := by
 constructor
 ·rw [List.length_drop, List.length_take]; omega
 ·intro i h1 h2
  rw [List.getElem?_drop, List.getElem?_take, if_pos (by omega), show a.toNat + (i - a).toNat = i.toNat by omega]
theorem byte_of {x : Int} (h : 0 ≤ x) (h2 : x ≤ 255) : ((UInt8.ofNat x.toNat).toNat : Int) = x := by
 rw [UInt8.toNat_ofNat']; omega
theorem var_framed {u e : Int} {b : List UInt8} (h0 : 0 ≤ u) (h : u ≤ 2000) (he : 10 ≤ e) : varWithin (putVar u ++ b) 0 e = (u, varLen u, 0) := by
 have hp := putVar_pos u
 have hw : within 0 0 ((putVar u ++ b).length : Int) = true := by simp only [within, Bool.and_eq_true, decide_eq_true_eq]; omega
 unfold varWithin
 rw [if_pos hw, vwA_one]
 by_cases hs : u ≤ 127
 ·have hv : varLen u = 1 := by unfold varLen; rw [putVar_small h0 hs]; rfl
  have hl : ((putVar u ++ b).length : Int) = 1 + (b.length : Int) := by rw [List.length_append]; unfold varLen at hv; omega
  have hg : (putVar u ++ b).getD ((0 : Int) + 0).toNat 0 = UInt8.ofNat u.toNat := by rw [putVar_small h0 hs]; rfl
  rw [hg, byte_of h0 (by omega), if_neg (by omega), if_neg (by omega), if_neg (by omega), if_pos (by omega), hv]
  rw [show (7 * (0 : Int)).toNat = 0 from rfl]
  refine Prod.ext ?_ (Prod.ext ?_ rfl)
  ·dsimp only; omega
  ·dsimp only; omega
 ·have hb := putVar_big h0 (by omega)
  have hb2 := putVar_small (u := u / 128) (by omega) (by omega)
  have hv : varLen u = 2 := by unfold varLen; rw [hb, hb2]; rfl
  have hl : ((putVar u ++ b).length : Int) = 2 + (b.length : Int) := by rw [List.length_append]; unfold varLen at hv; omega
  have hg : (putVar u ++ b).getD ((0 : Int) + 0).toNat 0 = UInt8.ofNat (u % 128 + 128).toNat := by rw [hb]; rfl
  have hg2 : (putVar u ++ b).getD ((0 : Int) + (0 + 1)).toNat 0 = UInt8.ofNat (u / 128).toNat := by rw [hb, hb2]; rfl
  rw [hg, byte_of (by omega) (by omega), if_neg (by omega), if_neg (by omega), if_neg (by omega), if_neg (by omega)]
  rw [vwA_one, hg2, byte_of (by omega) (by omega), if_neg (by omega), if_neg (by omega), if_neg (by omega), if_pos (by omega), hv]
  rw [show (7 * (0 : Int)).toNat = 0 from rfl, show (7 * ((0 : Int) + 1)).toNat = 7 from rfl]
  refine Prod.ext ?_ (Prod.ext ?_ rfl)
  ·dsimp only; omega
  ·dsimp only; omega
theorem frameOf_at {b : List UInt8} {i : Int} (h : 0 ≤ i) : (frameOf b)[(i + varLen (b.length : Int)).toNat]? = b[i.toNat]? := by
 unfold frameOf varLen
 rw [List.getElem?_append_right (by omega), show (i + ((putVar (b.length : Int)).length : Int)).toNat - (putVar (b.length : Int)).length = i.toNat by omega]
theorem whole_framed {p : Pln} {b : List UInt8} (hp : planOk p = true) (hm : (b.length : Int) ≤ p.most) :
  wholeL p (frameOf b) = frameEv (b.length : Int) :: ((readMsg p p.root b 0 (b.length : Int) 1).out ++ (if (readMsg p p.root b 0 (b.length : Int) 1).fail.kind = 0 then [frameEndEv, doneEv ((frameOf b).length : Int)] else [shE (varLen (b.length : Int)) (readMsg p p.root b 0 (b.length : Int) 1).fail]))
  ∧ ((frameOf b).length : Int) = varLen (b.length : Int) + (b.length : Int) := by
 have hpt := planOk_t hp
 have hvl := varLen_b (u := (b.length : Int)) (by omega)
 have hfl : ((frameOf b).length : Int) = varLen (b.length : Int) + (b.length : Int) := by unfold frameOf varLen; rw [List.length_append]; omega
 refine ⟨?_, hfl⟩
 have hv : ∀ e : Int, 10 ≤ e → varWithin (frameOf b) 0 e = ((b.length : Int), varLen (b.length : Int), 0) := fun e he => var_framed (by omega) (by omega) he
 have hv8 := hv 8000 (by omega)
 have hvm := hv maxI (by unfold maxI; omega)
 -- the message within
 have hw : Win b (frameOf b) (varLen (b.length : Int)) 0 (b.length : Int) := ⟨⟨by omega, by omega⟩, fun i h1 _ => frameOf_at h1, .inl (by omega)⟩
 have ho1 : readOk p p.root b 0 (b.length : Int) 1 = true := by
  simp only [readOk, within, Bool.and_eq_true, decide_eq_true_eq]; exact ⟨⟨⟨⟨hp, by omega⟩, by omega⟩, by omega⟩, by omega⟩
 have ho2 : readOk p p.root (frameOf b) (varLen (b.length : Int)) (varLen (b.length : Int) + (b.length : Int)) 1 = true := by
  simp only [readOk, within, Bool.and_eq_true, decide_eq_true_eq]; exact ⟨⟨⟨⟨hp, by omega⟩, by omega⟩, by omega⟩, by omega⟩
 have hR : readMsg p p.root (frameOf b) (varLen (b.length : Int)) (varLen (b.length : Int) + (b.length : Int)) 1 = trM p (frameOf b) (varLen (b.length : Int)) (readMsg p p.root b 0 (b.length : Int) 1) := by
  unfold readMsg
  rw [if_pos ho1, if_pos ho2]
  have key := sim_msgN (p := p) (q := p) rfl 0 (p.deep - 1).toNat hw (shape := p.root) (r := mr0 p b 0) ⟨rfl, rfl, by show (0 : Int) ≤ 0; omega, by show (0 : Int) ≤ _; omega, by show (0 : Int) ≤ _; omega, rfl⟩ (.inl rfl)
  rw [Nat.add_zero, show (b.length : Int) + varLen (b.length : Int) = varLen (b.length : Int) + (b.length : Int) by omega] at key
  rw [← key]
  unfold trM mr0
  rw [shE_zero rfl]
  dsimp only
  rw [Int.zero_add]
 have hF : frmMsg (mr0 p (frameOf b) 0) = ahead [frameEv (b.length : Int)] (trM p (frameOf b) (varLen (b.length : Int)) (readMsg p p.root b 0 (b.length : Int) 1)) := by
  have h := frm_read (p := p) (s := frameOf b) (a := 0) (o := []) hp (by omega) (by rw [hv8])
  rw [hv8] at h
  dsimp only at h
  rw [hR] at h
  exact h
 have hk : (frmMsg (mr0 p (frameOf b) 0)).fail.kind = (readMsg p p.root b 0 (b.length : Int) 1).fail.kind := by rw [hF]; exact shE_kind _ _
 have hS : frmStep (mr0 p (frameOf b) 0) = if (readMsg p p.root b 0 (b.length : Int) 1).fail.kind = 0 then mrTell (frmMsg (mr0 p (frameOf b) 0)) frameEndEv else frmMsg (mr0 p (frameOf b) 0) := by
  have hok : mrVarOk (mr0 p (frameOf b) 0) maxI = true := by unfold mrVarOk; rw [show (mr0 p (frameOf b) 0).s = frameOf b from rfl, show (mr0 p (frameOf b) 0).at_ = 0 from rfl, hvm]; rfl
  have hu : mrVarU (mr0 p (frameOf b) 0) maxI = (b.length : Int) := by unfold mrVarU; rw [if_pos hok, show (mr0 p (frameOf b) 0).s = frameOf b from rfl, show (mr0 p (frameOf b) 0).at_ = 0 from rfl, hvm]
  unfold frmStep
  rw [if_neg (by rw [hok]; decide), hu, if_neg (by show ¬ p.most < _; omega), hk]
 have hL : (whole p (frameOf b)).r = loopM (mrGo ((frameOf b).length : Int)) frmStep (mrMu (frmStep (mr0 p (frameOf b) 0))) (frmStep (mr0 p (frameOf b) 0)) := by
  rw [whole_r]
  exact ((LInv.refl (step := frmStep) (e := ((frameOf b).length : Int)) (r := mr0 p (frameOf b) 0) (by show (0 : Int) ≤ _; omega)).go frm_loop (by show (0 : Int) < _; omega) rfl).1.run.symm
 unfold wholeL
 rw [if_pos ⟨hp, by omega⟩]
 unfold wholeEv
 by_cases h0 : (readMsg p p.root b 0 (b.length : Int) 1).fail.kind = 0
 ·rw [if_pos h0] at hS
  have hend : (readMsg p p.root b 0 (b.length : Int) 1).at_ = (b.length : Int) := by
   have hr : readMsg p p.root b 0 (b.length : Int) 1 = msgN (p.deep - 1).toNat p.root (b.length : Int) (mr0 p b 0) := by unfold readMsg; rw [if_pos ho1]
   rw [hr] at h0 ⊢
   exact msgN_end (by show (0 : Int) ≤ _; omega) (by show (0 : Int) ≤ _; omega) rfl h0
  have hat : (frmStep (mr0 p (frameOf b) 0)).at_ = ((frameOf b).length : Int) := by
   rw [hS, hF]
   show (readMsg p p.root b 0 (b.length : Int) 1).at_ + varLen (b.length : Int) = _
   omega
  rw [loopM_stop (by simp [mrGo, hat])] at hL
  rw [hL, hS, if_pos h0, if_pos (by show (frmMsg (mr0 p (frameOf b) 0)).fail.kind = 0; rw [hk]; exact h0), hF]
  simp [mrTell, ahead, trM]
 ·rw [if_neg h0] at hS
  rw [loopM_stop (by rw [hS]; simp [mrGo, hk, h0])] at hL
  rw [hL, hS, if_neg h0, if_neg (by rw [hk]; exact h0), hF]
  simp [ahead, trM]
/-! ### How far a failure may lie -/
def FB (M : Int) (r : Mr) : Prop := r.fail.kind ≠ 0 → 0 ≤ r.fail.at_ ∧ r.fail.at_ ≤ M
theorem FB.ok {M : Int} {r : Mr} (h : r.fail.kind = 0) : FB M r := fun h2 => (h2 h).elim
theorem FB.fail {M : Int} {r : Mr} {c a : Int} (h : 0 ≤ a ∧ a ≤ M) : FB M (mrFail r c a) := fun _ => h
theorem vwA_pos {s : List UInt8} {a e M : Int} (ha : 0 ≤ a) (he : 0 ≤ e) (hM : e ≤ M ∧ (s.length : Int) ≤ M) : ∀ (f : Nat) (k u : Int), 0 ≤ k → (vwA s a e f k u).2.2 ≠ 0 → 0 ≤ (vwA s a e f k u).2.1 ∧ (vwA s a e f k u).2.1 ≤ M
 | 0, _, _, _, _ => ⟨by show 0 ≤ (s.length : Int); omega, hM.2⟩
 | f + 1, k, u, hk, h => by
  rw [vwA_one] at h ⊢
  by_cases h1 : e ≤ a + k
  ·rw [if_pos h1]; exact ⟨he, hM.1⟩
  rw [if_neg h1] at h ⊢
  split
  ·exact ⟨by dsimp only; omega, hM.2⟩
  rename_i h2; rw [if_neg h2] at h
  split
  ·dsimp only; omega
  rename_i h3; rw [if_neg h3] at h
  split
  ·rename_i h4; rw [if_pos h4] at h; exact (h rfl).elim
  rename_i h4; rw [if_neg h4] at h
  exact vwA_pos ha he hM f (k + 1) _ (by omega) h
section
variable {p : Pln} {s : List UInt8} {e M : Int}
theorem fb_var {r : Mr} (h : At p s 0 e r) (hM : e ≤ M ∧ (s.length : Int) ≤ M) : FB M (mrVar r e) := by
 have h1 := h.lo_; have h2 := h.len; have h3 := h.to
 unfold mrVar; split
 ·exact FB.ok h.ok
 ·rename_i hn
  refine FB.fail ?_
  have hc : (varWithin r.s r.at_ e).2.2 ≠ 0 := by simpa [mrVarOk] using hn
  rw [h.txt] at hc ⊢
  have hw : within r.at_ 0 (s.length : Int) = true := by simp only [within, Bool.and_eq_true, decide_eq_true_eq]; omega
  unfold varWithin at hc ⊢
  rw [if_pos hw] at hc ⊢
  exact vwA_pos h1 (by omega) hM 10 0 0 (by omega) hc
theorem fb_num {r : Mr} {f : Fld} {w : Int} (h : At p s 0 e r) (hM : e ≤ M ∧ (s.length : Int) ≤ M) : FB M (numStep r f w e) := by
 have h1 := h.lo_; have h2 := h.len; have h3 := h.to
 have hv : FB M (mrVal r w e) := by
  unfold mrVal mrFix; split
  ·split
   ·exact FB.fail ⟨h1, by omega⟩
   ·split
    ·exact FB.ok h.ok
    ·exact FB.fail (by rw [h.txt]; omega)
  ·exact fb_var h hM
 unfold numStep; split
 ·exact hv
 ·exact hv
theorem fb_loop {step : Mr → Mr} (hs : StepAdv step) (ht : ∀ r : Mr, At p s 0 e r → (step r).fail.kind = 0 → (step r).at_ ≤ e) (hq : ∀ r, At p s 0 e r → r.at_ < e → FB M (step r)) : ∀ (k : Nat) (r : Mr), At p s 0 e r → FB M (loopM (mrGo e) step k r)
 | 0, _, h => FB.ok h.ok
 | k + 1, r, h => by
  unfold loopM; split
  ·rename_i hg
   have hlt : r.at_ < e := by simp [mrGo] at hg; exact hg.1
   by_cases hk : (step r).fail.kind = 0
   ·exact fb_loop hs ht hq k _ (h.next (hs r h.hl h.ok) (ht r h) hk)
   ·rw [loopM_stop (by simp [mrGo, hk])]; exact hq r h hlt
  ·exact FB.ok h.ok
theorem fb_run {r : Mr} {f : Fld} (h : At p s 0 e r) (hM : e ≤ M ∧ (s.length : Int) ≤ M) : FB M (mrRun r f e) :=
 fb_loop (numStep_loop f _ _) (fun r h hk => numStep_to h.ok h.hl hk) (fun r h _ => fb_num h hM) _ r h
theorem fb_txt {r : Mr} {f : Fld} {n : Int} (h : At p s 0 e r) (hn : 0 ≤ n) (he : r.at_ + n ≤ e) (hM : e ≤ M ∧ (s.length : Int) ≤ M) : FB M (txtStep r f n) := by
 have h1 := h.lo_; have h2 := h.len
 have hth := txtThere_len (r := r) hn h1 (by rw [h.txt]; exact h2)
 have hto := (txtTold_adv (f := f) (n := n) h.hl).2.2
 unfold txtStep; split
 ·rename_i hb
  refine FB.fail ?_
  have : txtBad r f n < ((txtThere r n).length : Int) := by
   unfold txtBad at hb ⊢
   split
   ·rename_i h6; rw [if_pos h6] at hb; exact (utfBad_b _ _).2 hb
   ·rename_i h6; rw [if_neg h6] at hb; omega
  omega
 split
 ·exact FB.fail (by rw [h.txt]; omega)
 split
 ·exact FB.fail (by omega)
 ·refine FB.ok ?_
  show (txtTold r f n).fail.kind = 0
  rw [hto]; exact h.ok
theorem fb_long {sub : Mr → Fld → Int → Int → Mr} (hsub : ∀ v f n st, At p s 0 e v → 0 ≤ n → v.at_ + n ≤ e → 0 ≤ st → st ≤ M → FB M (sub v f n st)) {r : Mr} {f : Fld} {known : Bool} (h : At p s 0 e r) (hM : e ≤ M ∧ (s.length : Int) ≤ M) : FB M (longStep sub r f known e) := by
 have h1 := h.lo_; have h2 := h.to
 have hu := mrVarU_b r e
 unfold longStep; split
 ·exact fb_var h hM
 rename_i hok
 have hok : mrVarOk r e = true := by simpa using hok
 have hv := h.var hok
 split
 ·exact FB.fail (by omega)
 split
 ·split
  ·exact FB.fail (by rw [h.txt]; omega)
  ·exact FB.ok hv.ok
 split
 ·exact hsub _ _ _ _ hv hu.1 (by omega) h1 (by omega)
 split
 ·exact fb_run ⟨hv.txt, hv.plan, hv.lo_, hv.len, by omega, hv.ok⟩ (by omega)
 ·exact fb_txt hv hu.1 (by omega) hM
theorem fb_msg {sub : Mr → Fld → Int → Int → Mr} (hsub : ∀ v f n st, At p s 0 e v → 0 ≤ n → v.at_ + n ≤ e → 0 ≤ st → st ≤ M → FB M (sub v f n st)) {sh : Int} {r : Mr} (h : At p s 0 e r) (hM : e ≤ M ∧ (s.length : Int) ≤ M) : FB M (msgStep sub sh e r) := by
 have h1 := h.lo_; have h2 := h.to
 unfold msgStep; split
 ·exact fb_var h hM
 rename_i hok
 have hok : mrVarOk r e = true := by simpa using hok
 have hv := h.var hok
 split
 ·exact FB.fail (by omega)
 split
 ·exact FB.fail (by omega)
 split
 ·exact FB.fail (by omega)
 split
 ·exact fb_long hsub hv hM
 ·exact fb_num hv hM
end
theorem fb_sub {p : Pln} {s : List UInt8} {M : Int} (hs : (s.length : Int) ≤ M) : ∀ (D : Nat) (e : Int), e ≤ M → ∀ (v : Mr) (f : Fld) (n st : Int), At p s 0 e v → 0 ≤ n → v.at_ + n ≤ e → 0 ≤ st → st ≤ M → FB M (subN D v f n st)
 | 0, _, _, _, _, _, _, _, _, _, h1, h2 => FB.fail ⟨h1, h2⟩
 | D + 1, e, he, v, f, n, st, h, hn, hne, h1, h2 => by
  have ht : At p s 0 (v.at_ + n) (mrTell v (downEv f n)) := ⟨h.txt, h.plan, h.lo_, h.len, by show v.at_ ≤ _; omega, h.ok⟩
  have hm : FB M (msgN D f.msg (v.at_ + n) (mrTell v (downEv f n))) := by
   rw [msgN_eq]
   exact fb_loop (msgN_loop _ _ _) (fun r h hk => msgStep_to (subN_to D) h.ok h.hl hk) (fun r h _ => fb_msg (fb_sub hs D _ (by omega)) h ⟨by omega, hs⟩) _ _ ht
  simp only [subN]; split
  ·rename_i hk; exact FB.ok hk
  ·exact hm
theorem fb_readMsg {p : Pln} {sh a e d M : Int} {s : List UInt8} (hM : e ≤ M ∧ (s.length : Int) ≤ M) : FB M (readMsg p sh s a e d) := by
 unfold readMsg; split
 ·rename_i h
  simp only [readOk, within, Bool.and_eq_true, decide_eq_true_eq] at h
  rw [msgN_eq]
  exact fb_loop (msgN_loop _ _ _) (fun r h hk => msgStep_to (subN_to _) h.ok h.hl hk) (fun r h _ => fb_msg (fb_sub hM.2 _ _ hM.1) h hM) _ _ ⟨rfl, rfl, by show 0 ≤ a; omega, by show a ≤ _; omega, by show a ≤ e; omega, rfl⟩
 ·exact FB.ok rfl
/-! ### The law's words -/
theorem framed_first {L o : List Ev} {f x : Ev} (h : L = f :: o) (hx : L[0]? = some x) : x = f := by subst h; simpa using hx.symm
theorem framed_bad {L o A : List Ev} {f g : Ev} {k : Int} (h : L = f :: (o ++ if k = 0 then A else [g])) (h0 : ¬ k = 0) : L[Int.toNat ((L.length : Int) - 1)]? = some g ∧ List.drop 1 (List.take (Int.toNat ((L.length : Int) - 1)) L) = o := by
 rw [if_neg h0] at h
 subst h
 rw [show Int.toNat (((f :: (o ++ [g])).length : Int) - 1) = o.length + 1 by simp only [List.length_cons, List.length_append, List.length_nil]; omega]
 refine ⟨by simp, ?_⟩
 rw [List.take_succ_cons, List.drop_succ_cons, List.drop_zero, List.take_left]
theorem framed_good {L o B : List Ev} {f a b : Ev} {k : Int} (h : L = f :: (o ++ if k = 0 then [a, b] else B)) (h0 : k = 0) : L.length = o.length + 3 ∧ List.drop 1 (List.take (Int.toNat ((L.length : Int) - 2)) L) = o := by
 rw [if_pos h0] at h
 subst h
 rw [show Int.toNat (((f :: (o ++ [a, b])).length : Int) - 2) = o.length + 1 by simp only [List.length_cons, List.length_append, List.length_nil]; omega]
 refine ⟨by simp, ?_⟩
 rw [List.take_succ_cons, List.drop_succ_cons, List.drop_zero, List.take_left]
theorem framed_len {L o A B : List Ev} {f : Ev} {k : Int} (h : L = f :: (o ++ if k = 0 then A else B)) (hA : 1 ≤ A.length) (hB : 1 ≤ B.length) : 2 ≤ L.length := by
 subst h
 rw [List.length_cons, List.length_append]
 split <;> omega
theorem law_FrameOf (code : List Int) (hp1 : ((List.length code : Nat) : Int) ≤ 9223372036854775807) : Fun Tryz.prog 7 [.c (.seq .u8 code)] [] (.v (vB true)) [] := by
 have hN : bigN = 274877906944 := rfl
 refine fun_ofw Tryz.func7 (by kernel_rfl) (by kernel_rfl) (w := let z21 := ([] : List Blk); let z22 := decide (1048576 < ((List.length code : Nat) : Int)); let z23 := (.v (vB false) : S); (.seg [.call [] (.v (vB z22)) []] (.br (.leaf () []) (.intro (drawReadMsg_o_p code) fun o1 => let z4 := List.drop (Int.toNat o1.a) (List.take (Int.toNat o1.e) o1.t); let z5 := readMsg o1.p o1.p.root z4 0 ((List.length z4 : Nat) : Int) 1; let z7 := vB (planOk o1.p); let z8 := wholeL o1.p (frameOf z4); let z6 := ((List.length z8 : Nat) : Int); let z9 := decide (o1.sh ≤ 9); .seg [.call [] (.tup [.agg (cPln o1.p), vI o1.sh, vT o1.t, vI o1.a, vI o1.e, vI o1.d]) [], .call [] (.v z7) []] (.br (.case z9 (.seg [.ord [(0, true), (2, true), (1, false), (3, false), (4, true), (5, true), (6, true), (7, true), (8, true), (9, true), (10, true), (11, true), (12, true), (13, true)] [], .call [] (.v z7) [], .call [] (.v z7) [], .br true, .br true] (.leaf () [])) (.seg [.ord [(0, true), (2, true), (1, false), (3, false), (4, true), (5, true), (6, true), (7, true), (8, true), (9, true), (10, true), (11, true), (12, true), (13, true)] [], .call [] (.v z7) [], .call [] (.v z7) [], .br true, .br false] (.leaf () []))) (.br (.case z9 (.seg [.ord [(0, true), (2, true), (1, false), (3, false), (4, true), (5, true), (6, true), (7, true), (8, true), (9, true), (10, true), (11, true), (12, true), (13, true)] [], .call [] (.v z7) [], .call [] (.v z7) [], .br true, .br true] (.leaf () [])) (.seg [.ord [(0, true), (2, true), (1, false), (3, false), (4, true), (5, true), (6, true), (7, true), (8, true), (9, true), (10, true), (11, true), (12, true), (13, true)] [], .call [] (.v z7) [], .call [] (.v z7) [], .br true, .br false] (.leaf () []))) (.br (.case z9 (.seg [.ord [(0, true), (2, true), (1, false), (3, false), (4, true), (5, true), (6, true), (7, true), (8, true), (9, true), (10, true), (11, true), (12, true), (13, true)] [], .call [] (.v z7) [], .call [] (.v z7) [], .br true, .br true] (.leaf () [])) (.seg [.ord [(0, true), (2, true), (1, false), (3, false), (4, true), (5, true), (6, true), (7, true), (8, true), (9, true), (10, true), (11, true), (12, true), (13, true)] [], .call [] (.v z7) [], .call [] (.v z7) [], .br true, .br false] (.leaf () []))) (.br (.case z9 (.seg [.ord [(0, true), (2, true), (1, false), (3, false), (4, true), (5, true), (6, true), (7, true), (8, true), (9, true), (10, true), (11, true), (12, true), (13, true)] [], .call [] (.v z7) [], .call [] (.v z7) [], .br true, .br true] (.leaf () [])) (.seg [.ord [(0, true), (2, true), (1, false), (3, false), (4, true), (5, true), (6, true), (7, true), (8, true), (9, true), (10, true), (11, true), (12, true), (13, true)] [], .call [] (.v z7) [], .call [] (.v z7) [], .br true, .br false] (.leaf () []))) (.seg [.as 47 (.v (vI (o1.e - o1.a)))] (.br (.case z9 (.seg [.ord [(0, true), (2, true), (1, false), (3, false), (4, true), (5, true), (6, true), (7, true), (8, true), (9, true), (10, true), (11, true), (12, true), (13, true)] [], .call [] (.v z7) [], .call [] (.v z7) [], .br true, .br true] (.leaf () [])) (.seg [.ord [(0, true), (2, true), (1, false), (3, false), (4, true), (5, true), (6, true), (7, true), (8, true), (9, true), (10, true), (11, true), (12, true), (13, true)] [], .call [] (.v z7) [], .call [] (.v z7) [], .br true, .br false] (.leaf () []))) (.seg [.call [] (.v (vT (frameOf z4))) [], .call [] (.tup [vO 0, .agg (cEv z5.fail)]) [.lst .ev z5.out], .as 83 (.v (.c (.int .u64 ((List.length z4 : Nat) : Int)))), .call [] (.v (vI (varLen ((List.length z4 : Nat) : Int)))) [], .call [] (.v (.c (.seq .ev z8))) [], .as 93 (.v (vI ((varLen ((List.length z4 : Nat) : Int)) + ((List.length z4 : Nat) : Int))))] (.br (.leaf () []) (.br (.leaf () []) (.intro (fun (x1 : Ev) => z8[0]? = some x1) fun x1 => .seg [.el .ev x1] (.br (.leaf () []) (.br (.seg [.as 115 (.v (vI (z5.fail.at_ + (varLen ((List.length z4 : Nat) : Int)))))] (.intro (fun (x2 : Ev) => z8[Int.toNat (z6 - 1)]? = some x2) fun x2 => .case (decide (x2.kind = z5.fail.kind) && (decide (x2.field = z5.fail.field) && (decide (x2.bits = z5.fail.bits) && (decide (x2.len = z5.fail.len) && (decide (x2.text = z5.fail.text) && (decide (x2.code = z5.fail.code) && decide (x2.at_ = z5.fail.at_ + (varLen ((List.length z4 : Nat) : Int))))))))) (.seg [.at 16, .pubS 11, .ord (os 18 [15]) [], .as 120 (.v (vI (z6 - 1))), .el .ev x2, .br true, .as 129 (.v (vI (z6 - 1))), .call [] (.v (vB (decide ((List.drop 1 (List.take (Int.toNat (z6 - 1)) z8)) = z5.out)))) []] (.leaf () [])) (.seg [.at 16, .pubS 11, .ord (os 18 [15]) [], .as 120 (.v (vI (z6 - 1))), .el .ev x2, .br false] (.leaf () [])))) (.seg [.as 138 (.v (vI (((List.length z5.out : Nat) : Int) + 3)))] (.br (.seg [.as 144 (.v (vI (z6 - 2))), .call [] (.v (vB (decide ((List.drop 1 (List.take (Int.toNat (z6 - 2)) z8)) = z5.out)))) []] (.leaf () [])) (.leaf () []))))))))))))))))), (Fun Tryz.prog 8 [.c (.seq .u8 code)] [] (.v (vB z22)) []) ∧ (z22 = true → (.v (vB true) : S) = .v (vB true) ∧ z21 = []) ∧ (z22 = false → In (drawReadMsg_o_p code) fun o1 => (let z10 := List.drop (Int.toNat o1.a) (List.take (Int.toNat o1.e) o1.t); let z12 := readMsg o1.p o1.p.root z10 0 ((List.length z10 : Nat) : Int) 1; let z13 := (decide (planOk o1.p = planOk o1.p)) = true; let z14 := decide (o1.sh ≤ 9); let z15 := wholeL o1.p (frameOf z10); let z11 := ((List.length z15 : Nat) : Int); let z16 := vB (planOk o1.p); let z17 := cPln o1.p; let z18 := (.v (vB (decide (o1.d ≤ 9))) : S); let z19 := ((List.length o1.t : Nat) : Int); let z20 := decide (o1.p.most < o1.e - o1.a); (drawReadMsg_o_f code o1) ∧ (Fun Tryz.prog 18 [.agg z17] [] (.v z16) []) ∧ ((!(planOk o1.p)) = true → (z14 = true → (Fun Tryz.prog 18 [.agg z17] [] (.v z16) []) ∧ (Fun Tryz.prog 23 [.agg z17] [] (.v z16) []) ∧ z13 ∧ (z14 = true) ∧ z18 = .v (vB true) ∧ z21 = []) ∧ (z14 = false → (Fun Tryz.prog 18 [.agg z17] [] (.v z16) []) ∧ (Fun Tryz.prog 23 [.agg z17] [] (.v z16) []) ∧ z13 ∧ (z14 = false) ∧ z23 = .v (vB true) ∧ z21 = [])) ∧ ((!(planOk o1.p)) = false → ((decide (o1.a < 0)) = true → (z14 = true → (Fun Tryz.prog 18 [.agg z17] [] (.v z16) []) ∧ (Fun Tryz.prog 23 [.agg z17] [] (.v z16) []) ∧ z13 ∧ (z14 = true) ∧ z18 = .v (vB true) ∧ z21 = []) ∧ (z14 = false → (Fun Tryz.prog 18 [.agg z17] [] (.v z16) []) ∧ (Fun Tryz.prog 23 [.agg z17] [] (.v z16) []) ∧ z13 ∧ (z14 = false) ∧ z23 = .v (vB true) ∧ z21 = [])) ∧ ((decide (o1.a < 0)) = false → ((decide (o1.e < o1.a)) = true → (z14 = true → (Fun Tryz.prog 18 [.agg z17] [] (.v z16) []) ∧ (Fun Tryz.prog 23 [.agg z17] [] (.v z16) []) ∧ z13 ∧ (z14 = true) ∧ z18 = .v (vB true) ∧ z21 = []) ∧ (z14 = false → (Fun Tryz.prog 18 [.agg z17] [] (.v z16) []) ∧ (Fun Tryz.prog 23 [.agg z17] [] (.v z16) []) ∧ z13 ∧ (z14 = false) ∧ z23 = .v (vB true) ∧ z21 = [])) ∧ ((decide (o1.e < o1.a)) = false → ((decide (z19 < o1.e)) = true → (z14 = true → (Fun Tryz.prog 18 [.agg z17] [] (.v z16) []) ∧ (Fun Tryz.prog 23 [.agg z17] [] (.v z16) []) ∧ z13 ∧ (z14 = true) ∧ z18 = .v (vB true) ∧ z21 = []) ∧ (z14 = false → (Fun Tryz.prog 18 [.agg z17] [] (.v z16) []) ∧ (Fun Tryz.prog 23 [.agg z17] [] (.v z16) []) ∧ z13 ∧ (z14 = false) ∧ z23 = .v (vB true) ∧ z21 = [])) ∧ ((decide (z19 < o1.e)) = false → ((.v (vI (IntKind.i64.wrap (o1.e - o1.a))) : S) = .v (vI (o1.e - o1.a))) ∧ (z20 = true → (z14 = true → (Fun Tryz.prog 18 [.agg z17] [] (.v z16) []) ∧ (Fun Tryz.prog 23 [.agg z17] [] (.v z16) []) ∧ z13 ∧ (z14 = true) ∧ z18 = .v (vB true) ∧ z21 = []) ∧ (z14 = false → (Fun Tryz.prog 18 [.agg z17] [] (.v z16) []) ∧ (Fun Tryz.prog 23 [.agg z17] [] (.v z16) []) ∧ z13 ∧ (z14 = false) ∧ z23 = .v (vB true) ∧ z21 = [])) ∧ (z20 = false → (o1.e ≤ z19) ∧ (o1.a ≤ o1.e) ∧ ((0 : Int) ≤ o1.a) ∧ (Fun Tryz.prog 13 [vT z10] [] (.v (vT (frameOf z10))) []) ∧ (Fun Tryz.prog 17 [.agg z17, vI o1.p.root, vT z10, vI 0, vI ((List.length z10 : Nat) : Int), vI 1] [] (.tup [vO 0, .agg (cEv z12.fail)]) [.lst .ev z12.out]) ∧ ((.v (.c (.int .u64 (IntKind.u64.wrap (((List.length z10 : Nat) : Int))))) : S) = .v (.c (.int .u64 ((List.length z10 : Nat) : Int)))) ∧ (Fun Tryz.prog 24 [.c (.int .u64 ((List.length z10 : Nat) : Int))] [] (.v (vI (varLen ((List.length z10 : Nat) : Int)))) []) ∧ (Fun Tryz.prog 21 [.agg z17, vT (frameOf z10)] [] (.v (.c (.seq .ev z15))) []) ∧ ((.v (vI (IntKind.i64.wrap ((varLen ((List.length z10 : Nat) : Int)) + ((List.length z10 : Nat) : Int)))) : S) = .v (vI ((varLen ((List.length z10 : Nat) : Int)) + ((List.length z10 : Nat) : Int)))) ∧ ((!decide (((List.length (frameOf z10) : Nat) : Int) = (varLen ((List.length z10 : Nat) : Int)) + ((List.length z10 : Nat) : Int))) = true → z23 = .v (vB true) ∧ z21 = []) ∧ ((!decide (((List.length (frameOf z10) : Nat) : Int) = (varLen ((List.length z10 : Nat) : Int)) + ((List.length z10 : Nat) : Int))) = false → ((decide (z11 < 2)) = true → z23 = .v (vB true) ∧ z21 = []) ∧ ((decide (z11 < 2)) = false → (∃ (x1 : Ev), z15[0]? = some x1) ∧ ∀ (x1 : Ev), (z15[0]? = some x1) → (let z3 := !(decide (x1.kind = 1) && (decide (x1.field = 0) && (decide (x1.bits = 0) && (decide (x1.len = ((List.length z10 : Nat) : Int)) && (decide (x1.text = []) && (decide (x1.code = 0) && decide (x1.at_ = 0))))))); (z15[0]? = some x1) ∧ ((0 : Int) ≤ 0) ∧ (z3 = true → z23 = .v (vB true) ∧ z21 = []) ∧ (z3 = false → ((!decide (z12.fail.kind = 0)) = true → ((.v (vI (IntKind.i64.wrap (z12.fail.at_ + (varLen ((List.length z10 : Nat) : Int))))) : S) = .v (vI (z12.fail.at_ + (varLen ((List.length z10 : Nat) : Int))))) ∧ (∃ (x2 : Ev), z15[Int.toNat (z11 - 1)]? = some x2) ∧ ∀ (x2 : Ev), (z15[Int.toNat (z11 - 1)]? = some x2) → (let z1 := decide (x2.kind = z12.fail.kind) && (decide (x2.field = z12.fail.field) && (decide (x2.bits = z12.fail.bits) && (decide (x2.len = z12.fail.len) && (decide (x2.text = z12.fail.text) && (decide (x2.code = z12.fail.code) && decide (x2.at_ = z12.fail.at_ + (varLen ((List.length z10 : Nat) : Int)))))))); let z2 := z15[Int.toNat (z11 - 1)]? = some x2; (z1 = true → ((.v (vI (IntKind.i64.wrap (z11 - 1))) : S) = .v (vI (z11 - 1))) ∧ ((.v (vI (IntKind.i64.wrap (z11 - 1))) : S) = .v (vI (z11 - 1))) ∧ z2 ∧ ((0 : Int) ≤ z11 - 1) ∧ z2 ∧ ((0 : Int) ≤ z11 - 1) ∧ (z1 = true) ∧ ((.v (vI (IntKind.i64.wrap (z11 - 1))) : S) = .v (vI (z11 - 1))) ∧ ((.v (vI (IntKind.i64.wrap (z11 - 1))) : S) = .v (vI (z11 - 1))) ∧ (z11 - 1 ≤ z11) ∧ ((1 : Int) ≤ z11 - 1) ∧ ((0 : Int) ≤ 1) ∧ (z11 - 1 ≤ z11) ∧ ((1 : Int) ≤ z11 - 1) ∧ ((0 : Int) ≤ 1) ∧ (Fun Tryz.prog 19 [.c (.seq .ev (List.drop 1 (List.take (Int.toNat (z11 - 1)) z15))), .c (.seq .ev z12.out)] [] (.v (vB (decide ((List.drop 1 (List.take (Int.toNat (z11 - 1)) z15)) = z12.out)))) []) ∧ (.v (vB (decide ((List.drop 1 (List.take (Int.toNat (z11 - 1)) z15)) = z12.out))) : S) = .v (vB true) ∧ z21 = []) ∧ (z1 = false → ((.v (vI (IntKind.i64.wrap (z11 - 1))) : S) = .v (vI (z11 - 1))) ∧ ((.v (vI (IntKind.i64.wrap (z11 - 1))) : S) = .v (vI (z11 - 1))) ∧ z2 ∧ ((0 : Int) ≤ z11 - 1) ∧ z2 ∧ ((0 : Int) ≤ z11 - 1) ∧ (z1 = false) ∧ z23 = .v (vB true) ∧ z21 = []))) ∧ ((!decide (z12.fail.kind = 0)) = false → ((.v (vI (IntKind.i64.wrap (((List.length z12.out : Nat) : Int) + 3))) : S) = .v (vI (((List.length z12.out : Nat) : Int) + 3))) ∧ ((decide (z11 = ((List.length z12.out : Nat) : Int) + 3)) = true → ((.v (vI (IntKind.i64.wrap (z11 - 2))) : S) = .v (vI (z11 - 2))) ∧ (z11 - 2 ≤ z11) ∧ ((1 : Int) ≤ z11 - 2) ∧ ((0 : Int) ≤ 1) ∧ (Fun Tryz.prog 19 [.c (.seq .ev (List.drop 1 (List.take (Int.toNat (z11 - 2)) z15))), .c (.seq .ev z12.out)] [] (.v (vB (decide ((List.drop 1 (List.take (Int.toNat (z11 - 2)) z15)) = z12.out)))) []) ∧ (.v (vB (decide ((List.drop 1 (List.take (Int.toNat (z11 - 2)) z15)) = z12.out))) : S) = .v (vB true) ∧ z21 = []) ∧ ((decide (z11 = ((List.length z12.out : Nat) : Int) + 3)) = false → z23 = .v (vB true) ∧ z21 = []))))))))))))))) (by kernel_rfl) ?_
 refine ⟨(big_ok _ (by first | omega | (simp only [List.length_take, List.length_drop]; omega))), dsp (fun h1 p1 => ?_) fun h1 p1 => ?_⟩
 exact ⟨rfl, rfl⟩
 refine ⟨(drawReadMsg_o code (by first | omega | (simp only [List.length_take, List.length_drop]; omega))), fun o1 ho_o1 => ?_⟩
 obtain ⟨⟨hp_o1_0, hp_o1_1, hp_o1_2, hp_o1_3, hp_o1_4⟩, hf_o1⟩ := ho_o1
 refine ⟨hf_o1, (planOk_s o1.p), fun h2 => have q2 := bnot_t h2; ?_, fun h2 => have q2 := bnot_f h2; have p2 := planOk_t q2; ?_⟩
 refine dsp (fun h3 p3 => ?_) fun h3 p3 => ?_
 refine ⟨(planOk_s o1.p), (planOk_i o1.p), (by simp), h3, (sB ?_), rfl⟩
 rotate_left
 refine ⟨(planOk_s o1.p), (planOk_i o1.p), (by simp), h3, (sB ?_), rfl⟩
 rotate_left
 refine dsp (fun h3 p3 => ?_) fun h3 p3 => ?_
 refine dsp (fun h4 p4 => ?_) fun h4 p4 => ?_
 refine ⟨(planOk_s o1.p), (planOk_i o1.p), (by simp), h4, (sB ?_), rfl⟩
 rotate_left
 refine ⟨(planOk_s o1.p), (planOk_i o1.p), (by simp), h4, (sB ?_), rfl⟩
 rotate_left
 refine dsp (fun h4 p4 => ?_) fun h4 p4 => ?_
 refine dsp (fun h5 p5 => ?_) fun h5 p5 => ?_
 refine ⟨(planOk_s o1.p), (planOk_i o1.p), (by simp), h5, (sB ?_), rfl⟩
 rotate_left
 refine ⟨(planOk_s o1.p), (planOk_i o1.p), (by simp), h5, (sB ?_), rfl⟩
 rotate_left
 refine dsp (fun h5 p5 => ?_) fun h5 p5 => ?_
 refine dsp (fun h6 p6 => ?_) fun h6 p6 => ?_
 refine ⟨(planOk_s o1.p), (planOk_i o1.p), (by simp), h6, (sB ?_), rfl⟩
 rotate_left
 refine ⟨(planOk_s o1.p), (planOk_i o1.p), (by simp), h6, (sB ?_), rfl⟩
 rotate_left
 refine ⟨(as_i64 (by omega) (by omega)), dsp (fun h6 p6 => ?_) fun h6 p6 => ?_⟩
 refine dsp (fun h7 p7 => ?_) fun h7 p7 => ?_
 refine ⟨(planOk_s o1.p), (planOk_i o1.p), (by simp), h7, (sB ?_), rfl⟩
 rotate_left
 refine ⟨(planOk_s o1.p), (planOk_i o1.p), (by simp), h7, (sB ?_), rfl⟩
 rotate_left
 have hbl := (body_at (s := o1.t) (a := o1.a) (e := o1.e) (by omega) (by omega) (by omega)).1
 have hwf := whole_framed (p := o1.p) (b := (List.drop (Int.toNat o1.a) (List.take (Int.toNat o1.e) o1.t))) q2 (by omega)
 have hvl := varLen_b (u := ((List.length (List.drop (Int.toNat o1.a) (List.take (Int.toNat o1.e) o1.t)) : Nat) : Int)) (by omega)
 have hwl := framed_len hwf.1 (by simp) (by simp)
 have hwm := @wholeL_len o1.p (frameOf (List.drop (Int.toNat o1.a) (List.take (Int.toNat o1.e) o1.t)))
 have hpt := planOk_t q2
 have hfb := fb_readMsg (p := o1.p) (sh := o1.p.root) (a := 0) (e := ((List.length (List.drop (Int.toNat o1.a) (List.take (Int.toNat o1.e) o1.t)) : Nat) : Int)) (d := 1) (M := 2000) (s := (List.drop (Int.toNat o1.a) (List.take (Int.toNat o1.e) o1.t))) (by omega)
 refine ⟨(by first | omega | (simp only [List.length_take, List.length_drop]; omega)), (by first | omega | (simp only [List.length_take, List.length_drop]; omega)), (by first | omega | (simp only [List.length_take, List.length_drop]; omega)), (frameOf_i _ (by first | omega | (simp only [List.length_take, List.length_drop]; omega))), (readMsg_s o1.p _ _ _ _ _ (by first | omega | (simp only [List.length_take, List.length_drop]; omega)) (by first | omega | (simp only [List.length_take, List.length_drop]; omega))), (as_u64 (by first | (simp only [List.length_take, List.length_drop]; omega) | omega) (by first | (simp only [List.length_take, List.length_drop]; omega) | omega)), (varLen_s _ (by omega)), (whole_i o1.p _ (by first | omega | (simp only [List.length_take, List.length_drop]; omega))), (as_i64 (by first | (simp only [List.length_take, List.length_drop]; omega) | omega) (by first | (simp only [List.length_take, List.length_drop]; omega) | omega)), fun h7 => have q7 := bnot_t h7; have p7 := of_decide_eq_false q7; ?_, fun h7 => have q7 := bnot_f h7; have p7 := of_decide_eq_true q7; ?_⟩
 refine ⟨(sB ?_), rfl⟩
 rotate_left
 refine dsp (fun h8 p8 => ?_) fun h8 p8 => ?_
 refine ⟨(sB ?_), rfl⟩
 rotate_left
 refine ⟨(ax_get (l := wholeL o1.p (frameOf (List.drop (Int.toNat o1.a) (List.take (Int.toNat o1.e) o1.t)))) (i := 0) (by first | omega | (simp only [List.length_take, List.length_drop]; omega))), fun x1 hx1 => ?_⟩
 have e1 := framed_first hwf.1 hx1
 refine ⟨hx1, (by decide), fun h9 => have q9 := bnot_t h9; have p9 := (andF dT (andF dT (andF dT (andF dT (andF dT (andF dT dF)))))).1 q9; ?_, fun h9 => have q9 := bnot_f h9; have p9 := (andT dT (andT dT (andT dT (andT dT (andT dT (andT dT dT)))))).1 q9; ?_⟩
 refine ⟨(sB ?_), rfl⟩
 rotate_left
 refine ⟨fun h10 => have q10 := bnot_t h10; have p10 := of_decide_eq_false q10; ?_, fun h10 => have q10 := bnot_f h10; have p10 := of_decide_eq_true q10; ?_⟩
 have hfc := hfb p10
 refine ⟨(as_i64 (by first | (simp only [List.length_take, List.length_drop]; omega) | omega) (by first | (simp only [List.length_take, List.length_drop]; omega) | omega)), (ax_get (l := wholeL o1.p (frameOf (List.drop (Int.toNat o1.a) (List.take (Int.toNat o1.e) o1.t)))) (i := Int.toNat (((List.length (wholeL o1.p (frameOf (List.drop (Int.toNat o1.a) (List.take (Int.toNat o1.e) o1.t)))) : Nat) : Int) - 1)) (by first | omega | (simp only [List.length_take, List.length_drop]; omega))), fun x2 hx2 => ?_⟩
 have hbd := framed_bad hwf.1 p10
 have e2 := Option.some.inj (hx2.symm.trans hbd.1)
 refine ⟨fun h11 => have p11 := (andT dT (andT dT (andT dT (andT dT (andT dT (andT dT dT)))))).1 h11; ?_, fun h11 => have p11 := (andF dT (andF dT (andF dT (andF dT (andF dT (andF dT dF)))))).1 h11; ?_⟩
 refine ⟨(as_i64 (by first | (simp only [List.length_take, List.length_drop]; omega) | omega) (by first | (simp only [List.length_take, List.length_drop]; omega) | omega)), (as_i64 (by first | (simp only [List.length_take, List.length_drop]; omega) | omega) (by first | (simp only [List.length_take, List.length_drop]; omega) | omega)), hx2, (by first | omega | (simp only [List.length_take, List.length_drop]; omega)), hx2, (by first | omega | (simp only [List.length_take, List.length_drop]; omega)), h11, (as_i64 (by first | (simp only [List.length_take, List.length_drop]; omega) | omega) (by first | (simp only [List.length_take, List.length_drop]; omega) | omega)), (as_i64 (by first | (simp only [List.length_take, List.length_drop]; omega) | omega) (by first | (simp only [List.length_take, List.length_drop]; omega) | omega)), (by first | omega | (simp only [List.length_take, List.length_drop]; omega)), (by first | omega | (simp only [List.length_take, List.length_drop]; omega)), (by decide), (by first | omega | (simp only [List.length_take, List.length_drop]; omega)), (by first | omega | (simp only [List.length_take, List.length_drop]; omega)), (by decide), (sameEv_ok _ _ (by have := @wholeL_len o1.p (frameOf (List.drop (Int.toNat o1.a) (List.take (Int.toNat o1.e) o1.t))); (try simp only [List.length_drop, List.length_take]); omega) (Nat.le_trans (readMsg_len (by omega)) (by omega))), (sB ?_), rfl⟩
 rotate_left
 refine ⟨(as_i64 (by first | (simp only [List.length_take, List.length_drop]; omega) | omega) (by first | (simp only [List.length_take, List.length_drop]; omega) | omega)), (as_i64 (by first | (simp only [List.length_take, List.length_drop]; omega) | omega) (by first | (simp only [List.length_take, List.length_drop]; omega) | omega)), hx2, (by first | omega | (simp only [List.length_take, List.length_drop]; omega)), hx2, (by first | omega | (simp only [List.length_take, List.length_drop]; omega)), h11, (sB ?_), rfl⟩
 rotate_left
 have hgd := framed_good hwf.1 p10
 refine ⟨(as_i64 (by first | (simp only [List.length_take, List.length_drop]; omega) | omega) (by first | (simp only [List.length_take, List.length_drop]; omega) | omega)), dsp (fun h11 p11 => ?_) fun h11 p11 => ?_⟩
 refine ⟨(as_i64 (by first | (simp only [List.length_take, List.length_drop]; omega) | omega) (by first | (simp only [List.length_take, List.length_drop]; omega) | omega)), (by first | omega | (simp only [List.length_take, List.length_drop]; omega)), (by first | omega | (simp only [List.length_take, List.length_drop]; omega)), (by decide), (sameEv_ok _ _ (by have := @wholeL_len o1.p (frameOf (List.drop (Int.toNat o1.a) (List.take (Int.toNat o1.e) o1.t))); (try simp only [List.length_drop, List.length_take]); omega) (Nat.le_trans (readMsg_len (by omega)) (by omega))), (sB ?_), rfl⟩
 rotate_left
 refine ⟨(sB ?_), rfl⟩
 rotate_left
 all_goals first | (rfl) | ((exfalso; omega)) | ((simp [hbd.2]; done)) | ((simp [hgd.2]; done)) | ((exfalso; rw [e1] at p9; simp [frameEv] at p9; done)) | ((exfalso; rw [e2] at p11; unfold shE at p11; rw [if_neg p10] at p11; exact p11 rfl rfl rfl rfl rfl rfl rfl)) | ((simp; omega)) | (grind)
end Go.Proofs.YtaflinakodideaaGreat.Ax
