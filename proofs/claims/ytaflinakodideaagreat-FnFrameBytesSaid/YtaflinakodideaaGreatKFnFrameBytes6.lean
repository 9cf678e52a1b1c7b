/- Sizes: messages. Sizes: the reference. Sizes: the reference, messages. Events as frames: the steps. Events as frames. Sizes of frames. -/
import Derived.Test.YtaflinakodideaaGreatKFnFrameBytes5
import Derived.Test.YtaflinakodideaaGreatKFnFrameBytes4
import Derived.Test.YtaflinakodideaaGreatKFnFrameBytes2
set_option linter.unusedSimpArgs false
set_option linter.unusedVariables false
namespace Go.Proofs.YtaflinakodideaaGreat.Ax
open Go.RowKit
def MsgZ (K : Nat) : Prop := ∀ (z : Sz) (shape : Int) (hp1 : MB shape z) (hp2 : List.length (tl z) < K), Fun Tryz.prog 66 [vP 0, vI shape] [.cells (oSz6 1 z), .lst .int z.sizes] (.v (vT (mT (z).plan shape (tl z)))) [.cells (oSz6 1 (msgZ shape z)), .lst .int (msgZ shape z).sizes]
structure msgz1_V0 where
 z : Sz
 out : List Int
def msgz1_F0 (z : Sz) (shape : Int) : Fam := ⟨msgz1_V0, fun q1 => [(0, .v (vP 0)), (1, .v (vI shape)), (5, .v (vO 2))], fun q1 => [.cells (oSz6 1 q1.z), .lst .int q1.z.sizes, .lst .u8 q1.out], fun q1 => MInv shape z q1.z (List.map toByte q1.out), fun q1 => z.list.length - Int.toNat (q1.z).at_⟩
theorem msgz1 (K : Nat) (hM : MsgZ K) (z : Sz) (shape : Int) (hp1 : MB shape z) (hp2 : List.length (tl z) ≤ K) : Fun Tryz.prog 66 [vP 0, vI shape] [.cells (oSz6 1 z), .lst .int z.sizes] (.v (vT (mT (z).plan shape (tl z)))) [.cells (oSz6 1 (msgZ shape z)), .lst .int (msgZ shape z).sizes] := by
 have hN : bigN = 274877906944 := rfl
 have hvl := hp1.ev.1
 refine fun_ofw Tryz.func66 (by kernel_rfl) (by kernel_rfl) (w := let z16 := msgz1_F0 z shape; let z17 := vI shape; (.seg [.ty .u8, .at 0, .keep [0, 1, 5], .sel [0, 1, 2]] (.loop z16 fun q1 => let z8 := (⟨q1.z.plan, q1.z.list, q1.z.at_ + 1, q1.z.sizes⟩ : Sz); .intro (fun (x1 : Ev) => q1.z.list[q1.z.at_.toNat]? = some x1) fun x1 => let z2 := fieldAt q1.z.plan.shapes shape x1.field; let z1 := z2.getD fld0; .seg [.ord (os 12 [11]) [], .el .ev x1, .call [] (.v (vB (hasField x1.kind))) []] (.br (.seg [.ord (os 17 [14, 16]) [], .el .ev x1, .tree (fr (.two 8 (fr (.one 12 (.one 13 (.first 14 (.done)))) 9 3) 12 (.one 8 (fr (.one 13 (.first 14 (.done))) 9 3))) 0 8) 15 [], .call [] (.tup [.agg (cFld z1), vB z2.isSome]) [], .at 0, .keep [0, 1, 5, 6, 7, 8], .sel [0, 1, 2, 3, 4], .call [] (.tup [.agg (cFld z1), vB z2.isSome]) [], .at 0, .keep [0, 1, 5, 6, 7, 8], .sel [0, 1, 2, 3, 4]] (.br (.seg [.call [0, 1] (.v (vT (numsM z1 (tl q1.z)))) [.cells (oSz6 1 (numsZ q1.z z1)), .lst .int (numsZ q1.z z1).sizes], .ty .u8, .at 0, .keep [0, 1, 5], .sel [0, 1, 5]] (.next)) (.br (.seg [.call [0, 1] (.v (vT (txt q1.z))) [.cells (oSz6 1 (textZ q1.z)), .lst .int (textZ q1.z).sizes]] (.intro (fun (x2 : Int) => (textZ q1.z).sizes[q1.z.at_.toNat]? = some x2) fun x2 => .seg [.el .int x2, .call [] (.v (.c (.int .u64 (tagOf z1.number 2)))) [], .call [] (.v (vT (putVar (tagOf z1.number 2)))) [], .ty .u8, .call [] (.v (vT (frameOf (txt q1.z)))) [], .ty .u8, .at 0, .keep [0, 1, 5], .sel [0, 1, 6]] (.next))) (.seg [.as 67 (.v (vI (q1.z.at_ + 1))), .call [0, 1] (.v (vT (mT (z8).plan z1.msg (tl z8)))) [.cells (oSz6 1 (msgZ z1.msg z8)), .lst .int (msgZ z1.msg z8).sizes]] (.intro (fun (x2 : Int) => (msgZ z1.msg z8).sizes[q1.z.at_.toNat]? = some x2) fun x2 => .seg [.el .int x2, .call [] (.v (.c (.int .u64 (tagOf z1.number 2)))) [], .call [] (.v (vT (putVar (tagOf z1.number 2)))) [], .ty .u8, .call [] (.v (vT (frameOf (mT (z8).plan z1.msg (tl z8))))) [], .ty .u8, .at 0, .keep [0, 1, 5], .sel [0, 1, 6]] (.next)))))) (.seg [.as 96 (.v (vI (q1.z.at_ + 1)))] (.leaf () [0, 1])))), z16.Has [(0, .v (vP 0)), (1, .v z17), (5, .v (vO 2))] [.cells (oSz6 1 z), .lst .int z.sizes, .lst .u8 ([] : List Int)] ∧ ∀ q1, z16.inv q1 → (let z9 := (⟨q1.z.plan, q1.z.list, q1.z.at_ + 1, q1.z.sizes⟩ : Sz); let z10 : List Blk := [.cells [.seq .shp q1.z.plan.shapes, .int .i64 q1.z.plan.root, .int .i64 q1.z.plan.deep, .int .i64 q1.z.plan.most, .seq .ev q1.z.list, .int .i64 (q1.z.at_ + 1), .own 1], .lst .int q1.z.sizes]; let z11 := (0 : Int) ≤ q1.z.at_; let z12 := (.v (vI (IntKind.i64.wrap (q1.z.at_ + 1))) : S) = .v (vI (q1.z.at_ + 1)); let z13 := textZ q1.z; let z14 := List.map (fun b => (UInt8.toNat b : Int)) (frameOf (txt q1.z)); let z15 : List Blk := [.cells (oSz6 1 q1.z), .lst .int q1.z.sizes]; (∃ (x1 : Ev), q1.z.list[q1.z.at_.toNat]? = some x1) ∧ ∀ (x1 : Ev), (q1.z.list[q1.z.at_.toNat]? = some x1) → (let z4 := q1.z.list[q1.z.at_.toNat]? = some x1; let z6 := fieldAt q1.z.plan.shapes shape x1.field; let z3 := z6.getD fld0; let z5 : List Blk := [.cells (oSz6 1 q1.z), .lst .int q1.z.sizes, .lst .u8 q1.out, .cells (cEv x1), .cells (cFld z3)]; let z7 := hasField x1.kind; z4 ∧ z11 ∧ z4 ∧ z11 ∧ (Fun Tryz.prog 110 [vI x1.kind] [] (.v (vB z7)) []) ∧ (z7 = true → z4 ∧ z11 ∧ z4 ∧ z11 ∧ (Fun Tryz.prog 75 [.agg [.seq .shp q1.z.plan.shapes], vI shape, vI x1.field] [] (.tup [.agg (cFld z3), vB z6.isSome]) []) ∧ (Fun Tryz.prog 75 [.agg [.seq .shp q1.z.plan.shapes], vI shape, vI x1.field] [] (.tup [.agg (cFld z3), vB z6.isSome]) []) ∧ ((z5 : List Blk) = z5) ∧ (([(0, .v (vP 0)), (1, .v z17), (5, .v (vO 2)), (6, .v (vI q1.z.at_)), (7, .v (vP 3)), (8, .v (vP 4))] : List (Nat × S)) = [(0, .v (vP 0)), (1, .v z17), (5, .v (vO 2)), (6, .v (vI q1.z.at_)), (7, .v (vP 3)), (8, .v (vP 4))]) ∧ ((decide (x1.kind = 2)) = true → (Fun Tryz.prog 111 [vP 0, .agg (cFld z3)] z15 (.v (vT (numsM z3 (tl q1.z)))) [.cells (oSz6 1 (numsZ q1.z z3)), .lst .int (numsZ q1.z z3).sizes]) ∧ (q1.out.length + List.length (List.map (fun b => (UInt8.toNat b : Int)) (numsM z3 (tl q1.z))) ≤ bigN) ∧ z16.Nxt q1 [(0, .v (vP 0)), (1, .v z17), (5, .v (vO 2))] [.cells (oSz6 1 (numsZ q1.z z3)), .lst .int (numsZ q1.z z3).sizes, .lst .u8 (q1.out ++ (List.map (fun b => (UInt8.toNat b : Int)) (numsM z3 (tl q1.z))))]) ∧ ((decide (x1.kind = 2)) = false → ((decide (x1.kind = 3)) = true → (Fun Tryz.prog 112 [vP 0] z15 (.v (vT (txt q1.z))) [.cells (oSz6 1 z13), .lst .int z13.sizes]) ∧ (∃ (x2 : Int), z13.sizes[q1.z.at_.toNat]? = some x2) ∧ ∀ (x2 : Int), (z13.sizes[q1.z.at_.toNat]? = some x2) → ((q1.z.at_ < (z13.sizes.length : Int)) ∧ z11 ∧ (z13.sizes[q1.z.at_.toNat]? = some x2) ∧ (Fun Tryz.prog 113 [vI z3.number, vI 2] [] (.v (.c (.int .u64 (tagOf z3.number 2)))) []) ∧ (Fun Tryz.prog 33 [.c (.int .u64 (tagOf z3.number 2))] [] (.v (vT (putVar (tagOf z3.number 2)))) []) ∧ (q1.out.length + List.length (List.map (fun b => (UInt8.toNat b : Int)) (putVar (tagOf z3.number 2))) ≤ bigN) ∧ (Fun Tryz.prog 13 [vT (txt q1.z)] [] (.v (vT (frameOf (txt q1.z)))) []) ∧ (List.length (q1.out ++ (List.map (fun b => (UInt8.toNat b : Int)) (putVar (tagOf z3.number 2)))) + z14.length ≤ bigN) ∧ z16.Nxt q1 [(0, .v (vP 0)), (1, .v z17), (5, .v (vO 2))] [.cells (oSz6 1 z13), .lst .int (List.set z13.sizes (q1.z.at_.toNat) ((List.length (txt q1.z) : Nat) : Int)), .lst .u8 ((q1.out ++ (List.map (fun b => (UInt8.toNat b : Int)) (putVar (tagOf z3.number 2)))) ++ z14)])) ∧ ((decide (x1.kind = 3)) = false → z12 ∧ (Fun Tryz.prog 66 [vP 0, vI z3.msg] z10 (.v (vT (mT (z9).plan z3.msg (tl z9)))) [.cells (oSz6 1 (msgZ z3.msg z9)), .lst .int (msgZ z3.msg z9).sizes]) ∧ (∃ (x2 : Int), (msgZ z3.msg z9).sizes[q1.z.at_.toNat]? = some x2) ∧ ∀ (x2 : Int), ((msgZ z3.msg z9).sizes[q1.z.at_.toNat]? = some x2) → ((q1.z.at_ < ((List.length (msgZ z3.msg z9).sizes : Nat) : Int)) ∧ z11 ∧ ((msgZ z3.msg z9).sizes[q1.z.at_.toNat]? = some x2) ∧ (Fun Tryz.prog 113 [vI z3.number, vI 2] [] (.v (.c (.int .u64 (tagOf z3.number 2)))) []) ∧ (Fun Tryz.prog 33 [.c (.int .u64 (tagOf z3.number 2))] [] (.v (vT (putVar (tagOf z3.number 2)))) []) ∧ (q1.out.length + List.length (List.map (fun b => (UInt8.toNat b : Int)) (putVar (tagOf z3.number 2))) ≤ bigN) ∧ (Fun Tryz.prog 13 [vT (mT (z9).plan z3.msg (tl z9))] [] (.v (vT (frameOf (mT (z9).plan z3.msg (tl z9))))) []) ∧ (List.length (q1.out ++ (List.map (fun b => (UInt8.toNat b : Int)) (putVar (tagOf z3.number 2)))) + List.length (List.map (fun b => (UInt8.toNat b : Int)) (frameOf (mT (z9).plan z3.msg (tl z9)))) ≤ bigN) ∧ z16.Nxt q1 [(0, .v (vP 0)), (1, .v z17), (5, .v (vO 2))] [.cells (oSz6 1 (msgZ z3.msg z9)), .lst .int (List.set (msgZ z3.msg z9).sizes (q1.z.at_.toNat) ((List.length (mT (z9).plan z3.msg (tl z9)) : Nat) : Int)), .lst .u8 ((q1.out ++ (List.map (fun b => (UInt8.toNat b : Int)) (putVar (tagOf z3.number 2)))) ++ (List.map (fun b => (UInt8.toNat b : Int)) (frameOf (mT (z9).plan z3.msg (tl z9)))))])))) ∧ (z7 = false → z12 ∧ (.v (vT (List.map toByte q1.out)) : S) = .v (vT (mT (z).plan shape (tl z))) ∧ (z10 : List Blk) = [.cells (oSz6 1 (msgZ shape z)), .lst .int (msgZ shape z).sizes]))))) (by kernel_rfl) ?_
 refine ⟨has_of (j := (⟨z, ([] : List Int)⟩ : msgz1_V0)) rfl rfl (by dsimp only [msgz1_F0]; exact MInv.refl hp1), fun (q1 : msgz1_V0) hq_q1 => ?_⟩
 have hi_q1 : MInv shape z q1.z (List.map toByte q1.out) := hq_q1
 have hrm := hi_q1.room hp1
 have hso := hi_q1.small hp1
 have hzl := congrArg List.length hrm.2.2.2.2.1
 simp only [List.length_map] at hso
 have hpt := planOk_t hp1.pl
 refine ⟨(ax_get (l := q1.z.list) (i := q1.z.at_.toNat) (by omega)), fun x1 hx1 => ?_⟩
 refine ⟨hx1, (by omega), hx1, (by omega), (hasField_i _), fun h1 => ?_, fun h1 => ?_⟩
 have hkk := h1
 refine ⟨hx1, (by omega), hx1, (by omega), (fieldAt_i q1.z.plan.shapes _ _ (by rw [hrm.2.2.2.2.2.1]; omega) (by rw [hrm.2.2.2.2.2.1]; exact schemaOk_fields hpt.2.1)), (fieldAt_i q1.z.plan.shapes _ _ (by rw [hrm.2.2.2.2.2.1]; omega) (by rw [hrm.2.2.2.2.2.1]; exact schemaOk_fields hpt.2.1)), rfl, rfl, dsp (fun h2 p2 => ?_) fun h2 p2 => ?_⟩
 obtain ⟨f, hf, g1, g2, g3, g4, g5, g6⟩ := hi_q1.num hp1 hx1 p2
 have hff : ((fieldAt q1.z.plan.shapes shape x1.field).getD fld0) = f := by rw [hrm.2.2.2.2.2.1, hf]; rfl
 subst hff
 have hsm := (g6.small hp1).1
 simp only [List.length_append, List.length_map] at hsm
 have hna : (numsZ q1.z ((fieldAt q1.z.plan.shapes shape x1.field).getD fld0)).at_ = q1.z.at_ + ((numsN ((fieldAt q1.z.plan.shapes shape x1.field).getD fld0) (tl q1.z) : Nat) : Int) := rfl
 exact ⟨(nums_i q1.z ((fieldAt q1.z.plan.shapes shape x1.field).getD fld0) (by omega) (hrm.2.2.2.2.2.2) (by omega) (by assumption) (by assumption)), (by simp only [List.length_map]; omega), nxt_of (j := (⟨(numsZ q1.z ((fieldAt q1.z.plan.shapes shape x1.field).getD fld0)), q1.out ++ (List.map (fun b => (UInt8.toNat b : Int)) (numsM ((fieldAt q1.z.plan.shapes shape x1.field).getD fld0) (tl q1.z)))⟩ : msgz1_V0)) rfl rfl (by dsimp only [msgz1_F0]; first | (simp only [List.map_append, toByte_of]; assumption) | simpa only [List.map_append, toByte_of, List.append_assoc, tagP] using g3 | (simp only [List.map_append, toByte_of, List.append_assoc, tagP] at g5 ⊢; exact g5)) (by dsimp only [msgz1_F0]; omega)⟩
 refine dsp (fun h3 p3 => ?_) fun h3 p3 => ?_
 obtain ⟨f, hf, g1, g2, g3⟩ := hi_q1.text hp1 hx1 p3
 have hff : ((fieldAt q1.z.plan.shapes shape x1.field).getD fld0) = f := by rw [hrm.2.2.2.2.2.1, hf]; rfl
 subst hff
 have hsm := (g3.small hp1).1
 simp only [List.length_append, List.length_map] at hsm
 have hna : (textZ q1.z).at_ = q1.z.at_ + ((ptL (List.drop 1 (tl q1.z)) : Nat) : Int) + 2 := rfl
 have hns : List.length (textZ q1.z).sizes = q1.z.sizes.length := rfl
 have h64 : i64max = 9223372036854775807 := rfl
 have htl := txt_len (z := q1.z) hrm.2.2.2.2.2.2
 have htb := tagOf_b ((fieldAt q1.z.plan.shapes shape x1.field).getD fld0).number 2
 have htp := putVar_len (u := tagOf ((fieldAt q1.z.plan.shapes shape x1.field).getD fld0).number 2) (by omega)
 refine ⟨(text_z q1.z (by omega) (hrm.2.2.2.2.2.2) (by omega) (by assumption)), (ax_get (l := (textZ q1.z).sizes) (i := q1.z.at_.toNat) (by omega)), fun x2 hx2 => ?_⟩
 exact ⟨(by omega), (by omega), hx2, (tagOf_i _ _), (putVar_i _ (by omega)), (by simp only [List.length_map]; omega), (frameOf_i _ (by omega)), (by simp only [List.length_append, List.length_map]; omega), nxt_of (j := (⟨(⟨(textZ q1.z).plan, (textZ q1.z).list, (textZ q1.z).at_, List.set (textZ q1.z).sizes (q1.z.at_.toNat) ((List.length (txt q1.z) : Nat) : Int)⟩ : Sz), (q1.out ++ (List.map (fun b => (UInt8.toNat b : Int)) (putVar (tagOf ((fieldAt q1.z.plan.shapes shape x1.field).getD fld0).number 2)))) ++ (List.map (fun b => (UInt8.toNat b : Int)) (frameOf (txt q1.z)))⟩ : msgz1_V0)) rfl (by first | rfl | simp) (by dsimp only [msgz1_F0]; first | (simp only [List.map_append, toByte_of]; assumption) | simpa only [List.map_append, toByte_of, List.append_assoc, tagP] using g3 | (simp only [List.map_append, toByte_of, List.append_assoc, tagP] at g5 ⊢; exact g5)) (by dsimp only [msgz1_F0]; omega)⟩
 have hk6 : x1.kind = 6 := by simp only [hasField, Bool.or_eq_true, decide_eq_true_eq] at hkk; omega
 obtain ⟨f, hf, g1, g2, g3, g4, g5⟩ := hi_q1.down hp1 hx1 hk6
 have hff : ((fieldAt q1.z.plan.shapes shape x1.field).getD fld0) = f := by rw [hrm.2.2.2.2.2.1, hf]; rfl
 subst hff
 have hsm := (g5.small hp1).1
 simp only [List.length_append, List.length_map] at hsm
 have hll := tl_len q1.z
 have hlz := tl_len z
 have hlo := hi_q1.lo
 have hz0 := hp1.at_
 have h64 : i64max = 9223372036854775807 := rfl
 have hbl := bdT_mT_len g1.bd (g1.ev.drop _)
 have htb := tagOf_b ((fieldAt q1.z.plan.shapes shape x1.field).getD fld0).number 2
 have htp := putVar_len (u := tagOf ((fieldAt q1.z.plan.shapes shape x1.field).getD fld0).number 2) (by omega)
 have hna : (msgZ ((fieldAt q1.z.plan.shapes shape x1.field).getD fld0).msg ⟨q1.z.plan, q1.z.list, q1.z.at_ + 1, q1.z.sizes⟩).at_ = q1.z.at_ + 1 + ((upL (-1) 1 (tl ⟨q1.z.plan, q1.z.list, q1.z.at_ + 1, q1.z.sizes⟩) : Nat) : Int) + 1 := rfl
 refine ⟨(as_i64 (by omega) (by omega)), (hM (⟨q1.z.plan, q1.z.list, q1.z.at_ + 1, q1.z.sizes⟩ : Sz) _ (g1) (by omega)), (ax_get (l := (msgZ ((fieldAt q1.z.plan.shapes shape x1.field).getD fld0).msg (⟨q1.z.plan, q1.z.list, q1.z.at_ + 1, q1.z.sizes⟩ : Sz)).sizes) (i := q1.z.at_.toNat) (by omega)), fun x2 hx2 => ?_⟩
 exact ⟨(by omega), (by omega), hx2, (tagOf_i _ _), (putVar_i _ (by omega)), (by simp only [List.length_map]; omega), (frameOf_i _ (by omega)), (by simp only [List.length_append, List.length_map]; omega), nxt_of (j := (⟨(⟨(msgZ ((fieldAt q1.z.plan.shapes shape x1.field).getD fld0).msg (⟨q1.z.plan, q1.z.list, q1.z.at_ + 1, q1.z.sizes⟩ : Sz)).plan, (msgZ ((fieldAt q1.z.plan.shapes shape x1.field).getD fld0).msg (⟨q1.z.plan, q1.z.list, q1.z.at_ + 1, q1.z.sizes⟩ : Sz)).list, (msgZ ((fieldAt q1.z.plan.shapes shape x1.field).getD fld0).msg (⟨q1.z.plan, q1.z.list, q1.z.at_ + 1, q1.z.sizes⟩ : Sz)).at_, List.set (msgZ ((fieldAt q1.z.plan.shapes shape x1.field).getD fld0).msg (⟨q1.z.plan, q1.z.list, q1.z.at_ + 1, q1.z.sizes⟩ : Sz)).sizes (q1.z.at_.toNat) ((List.length (mT ((⟨q1.z.plan, q1.z.list, q1.z.at_ + 1, q1.z.sizes⟩ : Sz)).plan ((fieldAt q1.z.plan.shapes shape x1.field).getD fld0).msg (tl (⟨q1.z.plan, q1.z.list, q1.z.at_ + 1, q1.z.sizes⟩ : Sz))) : Nat) : Int)⟩ : Sz), (q1.out ++ (List.map (fun b => (UInt8.toNat b : Int)) (putVar (tagOf ((fieldAt q1.z.plan.shapes shape x1.field).getD fld0).number 2)))) ++ (List.map (fun b => (UInt8.toNat b : Int)) (frameOf (mT ((⟨q1.z.plan, q1.z.list, q1.z.at_ + 1, q1.z.sizes⟩ : Sz)).plan ((fieldAt q1.z.plan.shapes shape x1.field).getD fld0).msg (tl (⟨q1.z.plan, q1.z.list, q1.z.at_ + 1, q1.z.sizes⟩ : Sz)))))⟩ : msgz1_V0)) rfl (by first | rfl | simp) (by dsimp only [msgz1_F0]; first | (simp only [List.map_append, toByte_of]; assumption) | simpa only [List.map_append, toByte_of, List.append_assoc, tagP] using g3 | (simp only [List.map_append, toByte_of, List.append_assoc, tagP] at g5 ⊢; exact g5)) (by dsimp only [msgz1_F0]; omega)⟩
 have hst := hi_q1.end_ hp1 hx1 (by simp [h1])
 refine ⟨(as_i64 (by omega) (by omega)), ?_⟩
 refine have hm1 : msgZ shape z = (⟨q1.z.plan, q1.z.list, q1.z.at_ + 1, q1.z.sizes⟩ : Sz) := ?_; ?_
 rotate_left
 refine ⟨(congrArg S.v (congrArg V.c (congrArg C.str ?_))), (by rw [hm1] <;> rfl)⟩
 rotate_left
 all_goals first | (exact hst.1) | (exact hst.2) | (exact hst.2.symm) | (grind)
theorem msgZ_all : ∀ K, MsgZ K
 | 0 => fun z shape hp1 hp2 => absurd hp2 (Nat.not_lt_zero _)
 | K + 1 => fun z shape hp1 hp2 => msgz1 K (msgZ_all K) z shape hp1 (Nat.le_of_lt_succ hp2)
theorem msg_z (z : Sz) (shape : Int) (hp1 : MB shape z) : Fun Tryz.prog 66 [vP 0, vI shape] [.cells (oSz6 1 z), .lst .int z.sizes] (.v (vT (mT (z).plan shape (tl z)))) [.cells (oSz6 1 (msgZ shape z)), .lst .int (msgZ shape z).sizes] := msgZ_all _ z shape hp1 (Nat.lt_succ_self _)
structure up_s_V0 where
 n : Int
 i : Int
def up_s_F0 (l : List Ev) (a : Int) : Fam := ⟨up_s_V0, fun q1 => [(0, .v (.c (.seq .ev l))), (5, .v (vI q1.n)), (6, .v (vI q1.i))], fun _ => [], fun q1 => a ≤ q1.i ∧ q1.i ≤ (l.length : Int) ∧ q1.i + ((upL 0 q1.n (List.drop (q1.i.toNat) l) : Nat) : Int) = a + ((upL 0 0 (List.drop (a.toNat) l) : Nat) : Int) ∧ a - q1.i ≤ q1.n ∧ q1.n ≤ q1.i - a, fun q1 => l.length - q1.i.toNat⟩
theorem up_s (l : List Ev) (a : Int) (hp1 : l.length ≤ bigN) (hp2 : (0 : Int) ≤ a ∧ a ≤ (l.length : Int)) : Fun Tryz.prog 104 [.c (.seq .ev l), vI a] [] (.v (vI (a + ((upL 0 0 (List.drop (a.toNat) l) : Nat) : Int)))) [] := by
 have hN : bigN = 274877906944 := rfl
 refine fun_ofw Tryz.func104 (by kernel_rfl) (by kernel_rfl) (w := let z14 := vI (a + ((upL 0 0 (List.drop (a.toNat) l) : Nat) : Int)); let z15 := up_s_F0 l a; let z16 := ([] : List Blk); (.seg [.at 0, .keep [0, 5, 6], .sel []] (.loop z15 fun q1 => let z3 := vI (q1.i + 1); .br (.intro (fun (x1 : Ev) => l[q1.i.toNat]? = some x1) fun x1 => .seg [.el .ev x1] (.br (.seg [.br true, .as 23 (.v (vI (q1.n + 1)))] (.br (.leaf () []) (.seg [.as 13 (.v z3), .at 0, .keep [0, 5, 6], .sel []] (.next)))) (.br (.seg [.as 23 (.v (vI (q1.n + 1)))] (.br (.leaf () []) (.seg [.as 13 (.v z3), .at 0, .keep [0, 5, 6], .sel []] (.next)))) (.br (.seg [.br true, .as 28 (.v (vI (q1.n - 1)))] (.br (.leaf () []) (.seg [.as 13 (.v z3), .at 0, .keep [0, 5, 6], .sel []] (.next)))) (.br (.seg [.as 28 (.v (vI (q1.n - 1)))] (.br (.leaf () []) (.seg [.as 13 (.v z3), .at 0, .keep [0, 5, 6], .sel []] (.next)))) (.br (.leaf () []) (.seg [.as 13 (.v z3), .at 0, .keep [0, 5, 6], .sel []] (.next)))))))) (.leaf () [])), z15.Has [(0, .v (.c (.seq .ev l))), (5, .v (vI 0)), (6, .v (vI a))] [] ∧ ∀ q1, z15.inv q1 → (let z9 := (.v (vI (IntKind.i64.wrap (q1.n + 1))) : S) = .v (vI (q1.n + 1)); let z10 := (.v (vI (IntKind.i64.wrap (q1.n - 1))) : S) = .v (vI (q1.n - 1)); let z11 := decide (q1.i < (l.length : Int)); let z12 := vI (q1.i + 1); let z4 := (.v (vI (IntKind.i64.wrap (q1.i + 1))) : S) = .v z12; let z7 := (decide (q1.n + 1 = 0)) = false → z4 ∧ z15.Nxt q1 [(0, .v (.c (.seq .ev l))), (5, .v (vI (q1.n + 1))), (6, .v z12)] []; let z8 := (decide (q1.n - 1 = 0)) = false → z4 ∧ z15.Nxt q1 [(0, .v (.c (.seq .ev l))), (5, .v (vI (q1.n - 1))), (6, .v z12)] []; let z13 := (.v (vI q1.i) : S); let z5 := (decide (q1.n + 1 = 0)) = true → z13 = .v z14 ∧ z16 = []; let z6 := (decide (q1.n - 1 = 0)) = true → z13 = .v z14 ∧ z16 = []; (z11 = true → (∃ (x1 : Ev), l[q1.i.toNat]? = some x1) ∧ ∀ (x1 : Ev), (l[q1.i.toNat]? = some x1) → (let z1 := decide (x1.kind = 6); let z2 := decide (x1.kind = 7); (l[q1.i.toNat]? = some x1) ∧ ((0 : Int) ≤ q1.i) ∧ (z1 = true → (z1 = true) ∧ z9 ∧ z5 ∧ z7) ∧ (z1 = false → ((decide (x1.kind = 3)) = true → z9 ∧ z5 ∧ z7) ∧ ((decide (x1.kind = 3)) = false → (z2 = true → (z2 = true) ∧ z10 ∧ z6 ∧ z8) ∧ (z2 = false → ((decide (x1.kind = 5)) = true → z10 ∧ z6 ∧ z8) ∧ ((decide (x1.kind = 5)) = false → ((decide (q1.n = 0)) = true → z13 = .v z14 ∧ z16 = []) ∧ ((decide (q1.n = 0)) = false → z4 ∧ z15.Nxt q1 [(0, .v (.c (.seq .ev l))), (5, .v (vI q1.n)), (6, .v z12)] []))))))) ∧ (z11 = false → (.v (vI (l.length : Int)) : S) = .v z14 ∧ z16 = [])))) (by kernel_rfl) ?_
 refine ⟨has_of (j := (⟨0, a⟩ : up_s_V0)) rfl rfl (by dsimp only [up_s_F0]; exact ⟨by omega, by omega, rfl, by omega, by omega⟩), fun (q1 : up_s_V0) hq_q1 => ?_⟩
 have hi_q1 : a ≤ q1.i ∧ q1.i ≤ (l.length : Int) ∧ q1.i + ((upL 0 q1.n (List.drop (q1.i.toNat) l) : Nat) : Int) = a + ((upL 0 0 (List.drop (a.toNat) l) : Nat) : Int) ∧ a - q1.i ≤ q1.n ∧ q1.n ≤ q1.i - a := hq_q1
 obtain ⟨v1, v2, v3, v4, v5⟩ := hi_q1
 refine dsp (fun h1 p1 => ?_) fun h1 p1 => ?_
 refine ⟨(ax_get (l := l) (i := q1.i.toNat) (by omega)), fun x1 hx1 => ?_⟩
 rw [drop_el hx1, upL_cons] at v3
 have ei : Int.toNat (q1.i + 1) = q1.i.toNat + 1 := by omega
 refine ⟨hx1, (by omega), dsp (fun h2 p2 => ?_) fun h2 p2 => ?_⟩
 refine ⟨h2, (as_i64 (by omega) (by omega)), dsp (fun h3 p3 => ?_) fun h3 p3 => ?_⟩
 exact ⟨(congrArg S.v (congrArg V.c (congrArg (C.int .i64) (by grind [dl, upL])))), rfl⟩
 exact ⟨(as_i64 (by omega) (by omega)), nxt_of (j := (⟨q1.n + 1, q1.i + 1⟩ : up_s_V0)) rfl rfl (by dsimp only [up_s_F0]; exact ⟨by omega, by omega, by grind [dl], by omega, by omega⟩) (by dsimp only [up_s_F0]; omega)⟩
 refine dsp (fun h3 p3 => ?_) fun h3 p3 => ?_
 refine ⟨(as_i64 (by omega) (by omega)), dsp (fun h4 p4 => ?_) fun h4 p4 => ?_⟩
 exact ⟨(congrArg S.v (congrArg V.c (congrArg (C.int .i64) (by grind [dl, upL])))), rfl⟩
 exact ⟨(as_i64 (by omega) (by omega)), nxt_of (j := (⟨q1.n + 1, q1.i + 1⟩ : up_s_V0)) rfl rfl (by dsimp only [up_s_F0]; exact ⟨by omega, by omega, by grind [dl], by omega, by omega⟩) (by dsimp only [up_s_F0]; omega)⟩
 refine dsp (fun h4 p4 => ?_) fun h4 p4 => ?_
 refine ⟨h4, (as_i64 (by omega) (by omega)), dsp (fun h5 p5 => ?_) fun h5 p5 => ?_⟩
 exact ⟨(congrArg S.v (congrArg V.c (congrArg (C.int .i64) (by grind [dl, upL])))), rfl⟩
 exact ⟨(as_i64 (by omega) (by omega)), nxt_of (j := (⟨q1.n - 1, q1.i + 1⟩ : up_s_V0)) rfl rfl (by dsimp only [up_s_F0]; exact ⟨by omega, by omega, by grind [dl], by omega, by omega⟩) (by dsimp only [up_s_F0]; omega)⟩
 refine dsp (fun h5 p5 => ?_) fun h5 p5 => ?_
 refine ⟨(as_i64 (by omega) (by omega)), dsp (fun h6 p6 => ?_) fun h6 p6 => ?_⟩
 exact ⟨(congrArg S.v (congrArg V.c (congrArg (C.int .i64) (by grind [dl, upL])))), rfl⟩
 exact ⟨(as_i64 (by omega) (by omega)), nxt_of (j := (⟨q1.n - 1, q1.i + 1⟩ : up_s_V0)) rfl rfl (by dsimp only [up_s_F0]; exact ⟨by omega, by omega, by grind [dl], by omega, by omega⟩) (by dsimp only [up_s_F0]; omega)⟩
 refine dsp (fun h6 p6 => ?_) fun h6 p6 => ?_
 exact ⟨(congrArg S.v (congrArg V.c (congrArg (C.int .i64) (by grind [dl, upL])))), rfl⟩
 exact ⟨(as_i64 (by omega) (by omega)), nxt_of (j := (⟨q1.n, q1.i + 1⟩ : up_s_V0)) rfl rfl (by dsimp only [up_s_F0]; exact ⟨by omega, by omega, by grind [dl], by omega, by omega⟩) (by dsimp only [up_s_F0]; omega)⟩
 rw [List.drop_eq_nil_of_le (by omega)] at v3
 exact ⟨(congrArg S.v (congrArg V.c (congrArg (C.int .i64) (by grind [dl, upL])))), rfl⟩
structure l22Text_s_V0 where
 out : List Int
 i : Nat
def l22Text_s_F0 (l : List Ev) : Fam := ⟨l22Text_s_V0, fun q1 => [(0, .v (.c (.seq .ev l))), (3, .v (vO 0)), (4, .v (vI (q1.i : Int)))], fun q1 => [.lst .u8 q1.out], fun q1 => q1.i ≤ l.length ∧ List.map toByte q1.out ++ textM (List.drop q1.i l) = textM l, fun q1 => l.length - q1.i⟩
theorem l22Text_s (l : List Ev) (hp1 : l.length ≤ bigN) (hp2 : List.length (textM l) ≤ bigN) : Fun Tryz.prog 105 [.c (.seq .ev l)] [] (.v (vT (textM l))) [] := by
 have hN : bigN = 274877906944 := rfl
 refine fun_ofw Tryz.func105 (by kernel_rfl) (by kernel_rfl) (w := let z3 := l22Text_s_F0 l; (.seg [.ty .u8, .at 0, .keep [0, 3, 4], .sel [0]] (.loop z3 fun q1 => .br (.intro (fun (x1 : Ev) => l[q1.i]? = some x1) fun x1 => .seg [.el .ev x1, .ty .u8, .as 11 (.v (vI ((q1.i : Int) + 1))), .at 0, .keep [0, 3, 4], .sel [1]] (.next)) (.leaf () [])), z3.Has [(0, .v (.c (.seq .ev l))), (3, .v (vO 0)), (4, .v (vI 0))] [.lst .u8 ([] : List Int)] ∧ ∀ q1, z3.inv q1 → (let z2 := (q1.i : Int); ((decide (z2 < (l.length : Int))) = true → (∃ (x1 : Ev), l[q1.i]? = some x1) ∧ ∀ (x1 : Ev), (l[q1.i]? = some x1) → (let z1 := List.map (fun b => (UInt8.toNat b : Int)) x1.text; (l[q1.i]? = some x1) ∧ ((0 : Int) ≤ z2) ∧ (q1.out.length + z1.length ≤ bigN) ∧ ((.v (vI (IntKind.i64.wrap (z2 + 1))) : S) = .v (vI (z2 + 1))) ∧ z3.Nxt q1 [(0, .v (.c (.seq .ev l))), (3, .v (vO 0)), (4, .v (vI (z2 + 1)))] [.lst .u8 (q1.out ++ z1)])) ∧ ((decide (z2 < (l.length : Int))) = false → (.v (vT (List.map toByte q1.out)) : S) = .v (vT (textM l)) ∧ ([] : List Blk) = [])))) (by kernel_rfl) ?_
 refine ⟨has_of (j := (⟨([] : List Int), 0⟩ : l22Text_s_V0)) (by first | rfl | simp) rfl (by dsimp only [l22Text_s_F0]; exact ⟨by omega, rfl⟩), fun (q1 : l22Text_s_V0) hq_q1 => ?_⟩
 have hi_q1 : q1.i ≤ l.length ∧ List.map toByte q1.out ++ textM (List.drop q1.i l) = textM l := hq_q1
 obtain ⟨v1, v2⟩ := hi_q1
 have vl := congrArg List.length v2
 simp only [List.length_append, List.length_map] at vl
 refine dsp (fun h1 p1 => ?_) fun h1 p1 => ?_
 refine ⟨(ax_get (l := l) (i := q1.i) (by omega)), fun x1 hx1 => ?_⟩
 rw [drop_el hx1, textM_cons] at v2 vl
 simp only [List.length_append] at vl
 exact ⟨hx1, (by omega), (by simp only [List.length_map]; omega), (as_i64 (by omega) (by omega)), nxt_of (j := (⟨q1.out ++ (List.map (fun b => (UInt8.toNat b : Int)) x1.text), q1.i + 1⟩ : l22Text_s_V0)) (by first | rfl | simp) rfl (by dsimp only [l22Text_s_F0]; exact ⟨by omega, by simp only [List.map_append, toByte_of, List.append_assoc]; exact v2⟩) (by dsimp only [l22Text_s_F0]; omega)⟩
 rw [drop_end p1] at v2
 refine ⟨(congrArg S.v (congrArg V.c (congrArg C.str ?_))), rfl⟩
 rotate_left
 all_goals first | (simpa [textM] using v2)
theorem l22Tag_s (n : Int) (w : Int) : Fun Tryz.prog 102 [vI n, vI w] [] (.v (vT (tagP n w))) [] := by
 have hN : bigN = 274877906944 := rfl
 have htb := tagOf_b n w
 refine fun_ofw Tryz.func102 (by kernel_rfl) (by kernel_rfl) (w := let z1 := vT (putVar (tagOf n w)); (.seg [.call [] (.v (.c (.int .u64 (tagOf n w)))) [], .call [] (.v z1) []] (.leaf () []), (Fun Tryz.prog 117 [vI n, vI w] [] (.v (.c (.int .u64 (tagOf n w)))) []) ∧ (Fun Tryz.prog 54 [.c (.int .u64 (tagOf n w))] [] (.v z1) []) ∧ (.v z1 : S) = .v (vT (tagP n w)) ∧ ([] : List Blk) = [])) (by kernel_rfl) ?_
 exact ⟨(tagOf_s _ _), (putVar_s _ (by omega)), (congrArg S.v (congrArg V.c (congrArg C.str (by rfl)))), rfl⟩
theorem l22Value_s (f : Fld) (u : Int) (hp1 : (0 : Int) ≤ u ∧ u ≤ 18446744073709551615) : Fun Tryz.prog 151 [.agg (cFld f), .c (.int .u64 u)] [] (.v (vT (putNum f u))) [] := by
 have hN : bigN = 274877906944 := rfl
 refine fun_ofw Tryz.func151 (by kernel_rfl) (by kernel_rfl) (w := let z1 := wireOf f.kind; let z2 := vT (putFix u (widthOf z1)); (.seg [.call [] (.v (vI z1)) [], .call [] (.v (vI (widthOf z1))) []] (.br (.seg [.call [] (.v z2) []] (.leaf () [])) (.seg [.call [] (.v (vT (putVar u))) []] (.leaf () []))), (Fun Tryz.prog 103 [vI f.kind] [] (.v (vI z1)) []) ∧ (Fun Tryz.prog 119 [vI z1] [] (.v (vI (widthOf z1))) []) ∧ ((decide (0 < widthOf z1)) = true → (Fun Tryz.prog 167 [.c (.int .u64 u), vI (widthOf z1)] [] (.v z2) []) ∧ (.v z2 : S) = .v (vT (putNum f u)) ∧ ([] : List Blk) = []) ∧ ((decide (0 < widthOf z1)) = false → (Fun Tryz.prog 54 [.c (.int .u64 u)] [] (.v (vT (putVar u))) []) ∧ (.v (vT (putVar u)) : S) = .v (vT (putNum f u)) ∧ ([] : List Blk) = []))) (by kernel_rfl) ?_
 refine ⟨(wireOf_s _), (widthOf_s _), dsp (fun h1 p1 => ?_) fun h1 p1 => ?_⟩
 refine ⟨(putFix_s _ _ (by omega)), (congrArg S.v (congrArg V.c (congrArg C.str ?_))), rfl⟩
 rotate_left
 refine ⟨(putVar_s _ (by omega)), (congrArg S.v (congrArg V.c (congrArg C.str ?_))), rfl⟩
 rotate_left
 all_goals first | (simp_all [putNum]; done) | (grind [putNum])
structure l22Run_s_V0 where
 n : Int
def l22Run_s_F0 (f : Fld) (l : List Ev) (a : Int) : Fam := ⟨l22Run_s_V0, fun q1 => [(1, .v (.c (.seq .ev l))), (2, .v (vI a)), (3, .v (vP 0)), (7, .v (vI q1.n))], fun _ => [.cells (cFld f)], fun q1 => 1 ≤ q1.n ∧ a + q1.n ≤ (l.length : Int) ∧ q1.n + (((if f.packed then runL f (List.drop (Int.toNat (a + q1.n)) l) else 0) : Nat) : Int) = ((numsN f (List.drop (a.toNat) l) : Nat) : Int), fun q1 => l.length - q1.n.toNat⟩
theorem l22Run_s (f : Fld) (l : List Ev) (a : Int) (hp1 : l.length ≤ bigN) (hp2 : (0 : Int) ≤ a ∧ a < (l.length : Int)) : Fun Tryz.prog 100 [.agg (cFld f), .c (.seq .ev l), vI a] [] (.v (vI ((numsN f (List.drop (a.toNat) l) : Nat) : Int))) [] := by
 have hN : bigN = 274877906944 := rfl
 refine fun_ofw Tryz.func100 (by kernel_rfl) (by kernel_rfl) (w := let z8 := vI ((numsN f (List.drop (a.toNat) l) : Nat) : Int); let z9 := l22Run_s_F0 f l a; let z10 := ([] : List Blk); (.seg [.at 0, .keep [1, 2, 3, 7], .sel [0]] (.loop z9 fun q1 => let z3 := vI (a + q1.n); .case f.packed (.case (decide (a + q1.n < (l.length : Int))) (.intro (fun (x1 : Ev) => l[Int.toNat (a + q1.n)]? = some x1) fun x1 => .case (decide (x1.kind = 2)) (.seg [.ord (os 32 []) [], .br true, .as 13 (.v z3), .br true, .as 22 (.v z3), .el .ev x1, .br true, .as 32 (.v z3), .el .ev x1] (.br (.seg [.as 41 (.v (vI (q1.n + 1))), .at 0, .keep [1, 2, 3, 7], .sel [0]] (.next)) (.leaf () []))) (.seg [.ord (os 32 []) [], .br true, .as 13 (.v z3), .br true, .as 22 (.v z3), .el .ev x1, .br false] (.leaf () []))) (.seg [.ord (os 32 []) [], .br true, .as 13 (.v z3), .br false] (.leaf () []))) (.seg [.ord (os 32 []) [], .br false] (.leaf () []))), z9.Has [(1, .v (.c (.seq .ev l))), (2, .v (vI a)), (3, .v (vP 0)), (7, .v (vI 1))] [.cells (cFld f)] ∧ ∀ q1, z9.inv q1 → (let z4 := (.v (vI (IntKind.i64.wrap (a + q1.n))) : S) = .v (vI (a + q1.n)); let z5 := decide (a + q1.n < (l.length : Int)); let z6 := (0 : Int) ≤ a + q1.n; let z7 := (.v (vI q1.n) : S); (f.packed = true → (z5 = true → (∃ (x1 : Ev), l[Int.toNat (a + q1.n)]? = some x1) ∧ ∀ (x1 : Ev), (l[Int.toNat (a + q1.n)]? = some x1) → (let z1 := l[Int.toNat (a + q1.n)]? = some x1; let z2 := decide (x1.kind = 2); (z2 = true → (f.packed = true) ∧ z4 ∧ z4 ∧ (z5 = true) ∧ z4 ∧ z4 ∧ z1 ∧ z6 ∧ z1 ∧ z6 ∧ (z2 = true) ∧ z4 ∧ z4 ∧ z1 ∧ z6 ∧ z1 ∧ z6 ∧ ((decide (x1.field = f.number)) = true → ((.v (vI (IntKind.i64.wrap (q1.n + 1))) : S) = .v (vI (q1.n + 1))) ∧ z9.Nxt q1 [(1, .v (.c (.seq .ev l))), (2, .v (vI a)), (3, .v (vP 0)), (7, .v (vI (q1.n + 1)))] [.cells (cFld f)]) ∧ ((decide (x1.field = f.number)) = false → z7 = .v z8 ∧ z10 = [])) ∧ (z2 = false → (f.packed = true) ∧ z4 ∧ z4 ∧ (z5 = true) ∧ z4 ∧ z4 ∧ z1 ∧ z6 ∧ z1 ∧ z6 ∧ (z2 = false) ∧ z7 = .v z8 ∧ z10 = []))) ∧ (z5 = false → (f.packed = true) ∧ z4 ∧ z4 ∧ (z5 = false) ∧ z7 = .v z8 ∧ z10 = [])) ∧ (f.packed = false → (f.packed = false) ∧ z7 = .v z8 ∧ z10 = [])))) (by kernel_rfl) ?_
 refine ⟨has_of (j := (⟨1⟩ : l22Run_s_V0)) rfl rfl (by dsimp only [l22Run_s_F0]; exact ⟨by omega, by omega, by unfold numsN; rw [List.drop_drop, show Int.toNat (a + 1) = a.toNat + 1 by omega]; omega⟩), fun (q1 : l22Run_s_V0) hq_q1 => ?_⟩
 have hi_q1 : 1 ≤ q1.n ∧ a + q1.n ≤ (l.length : Int) ∧ q1.n + (((if f.packed then runL f (List.drop (Int.toNat (a + q1.n)) l) else 0) : Nat) : Int) = ((numsN f (List.drop (a.toNat) l) : Nat) : Int) := hq_q1
 obtain ⟨v1, v2, v3⟩ := hi_q1
 refine ⟨fun h1 => ?_, fun h1 => ?_⟩
 refine dsp (fun h2 p2 => ?_) fun h2 p2 => ?_
 refine ⟨(ax_get (l := l) (i := Int.toNat (a + q1.n)) (by omega)), fun x1 hx1 => ?_⟩
 rw [drop_el hx1, runL_cons] at v3
 have ei : Int.toNat (a + (q1.n + 1)) = Int.toNat (a + q1.n) + 1 := by omega
 refine dsp (fun h3 p3 => ?_) fun h3 p3 => ?_
 refine ⟨h1, (as_i64 (by omega) (by omega)), (as_i64 (by omega) (by omega)), h2, (as_i64 (by omega) (by omega)), (as_i64 (by omega) (by omega)), hx1, (by omega), hx1, (by omega), h3, (as_i64 (by omega) (by omega)), (as_i64 (by omega) (by omega)), hx1, (by omega), hx1, (by omega), dsp (fun h4 p4 => ?_) fun h4 p4 => ?_⟩
 exact ⟨(as_i64 (by omega) (by omega)), nxt_of (j := (⟨q1.n + 1⟩ : l22Run_s_V0)) rfl rfl (by dsimp only [l22Run_s_F0]; exact ⟨by omega, by omega, by grind [isRun]⟩) (by dsimp only [l22Run_s_F0]; omega)⟩
 refine ⟨(sI ?_), rfl⟩
 rotate_left
 refine ⟨h1, (as_i64 (by omega) (by omega)), (as_i64 (by omega) (by omega)), h2, (as_i64 (by omega) (by omega)), (as_i64 (by omega) (by omega)), hx1, (by omega), hx1, (by omega), h3, (sI ?_), rfl⟩
 rotate_left
 rw [List.drop_eq_nil_of_le (by omega)] at v3
 refine ⟨h1, (as_i64 (by omega) (by omega)), (as_i64 (by omega) (by omega)), h2, (sI ?_), rfl⟩
 rotate_left
 refine ⟨h1, (sI ?_), rfl⟩
 rotate_left
 all_goals first | (grind [isRun, runL])
structure l22Values_s_V0 where
 out : List Int
 i : Nat
def l22Values_s_F0 (f : Fld) (l : List Ev) : Fam := ⟨l22Values_s_V0, fun q1 => [(1, .v (.c (.seq .ev l))), (2, .v (vP 0)), (5, .v (vO 1)), (6, .v (vI (q1.i : Int)))], fun q1 => [.cells (cFld f), .lst .u8 q1.out], fun q1 => q1.i ≤ l.length ∧ List.map toByte q1.out ++ valsM f (List.drop q1.i l) = valsM f l, fun q1 => l.length - q1.i⟩
theorem l22Values_s (f : Fld) (l : List Ev) (hp1 : l.length ≤ bigN) (hp2 : ∀ e ∈ l, EvB e) (hp3 : List.length (valsM f l) ≤ bigN) : Fun Tryz.prog 101 [.agg (cFld f), .c (.seq .ev l)] [] (.v (vT (valsM f l))) [] := by
 have hN : bigN = 274877906944 := rfl
 refine fun_ofw Tryz.func101 (by kernel_rfl) (by kernel_rfl) (w := let z3 := l22Values_s_F0 f l; (.seg [.ty .u8, .at 0, .keep [1, 2, 5, 6], .sel [0, 1]] (.loop z3 fun q1 => .br (.intro (fun (x1 : Ev) => l[q1.i]? = some x1) fun x1 => .seg [.tree (fr (.one 7 (.one 8 (.first 9 (.done)))) 0 7) 8 [], .el .ev x1, .call [] (.v (vT (putNum f x1.bits))) [], .ty .u8, .as 13 (.v (vI ((q1.i : Int) + 1))), .at 0, .keep [1, 2, 5, 6], .sel [0, 2]] (.next)) (.leaf () [])), z3.Has [(1, .v (.c (.seq .ev l))), (2, .v (vP 0)), (5, .v (vO 1)), (6, .v (vI 0))] [.cells (cFld f), .lst .u8 ([] : List Int)] ∧ ∀ q1, z3.inv q1 → (let z2 := (q1.i : Int); ((decide (z2 < (l.length : Int))) = true → (∃ (x1 : Ev), l[q1.i]? = some x1) ∧ ∀ (x1 : Ev), (l[q1.i]? = some x1) → (let z1 := List.map (fun b => (UInt8.toNat b : Int)) (putNum f x1.bits); (l[q1.i]? = some x1) ∧ ((0 : Int) ≤ z2) ∧ (l[q1.i]? = some x1) ∧ ((0 : Int) ≤ z2) ∧ (Fun Tryz.prog 151 [.agg (cFld f), .c (.int .u64 x1.bits)] [] (.v (vT (putNum f x1.bits))) []) ∧ (q1.out.length + z1.length ≤ bigN) ∧ ((.v (vI (IntKind.i64.wrap (z2 + 1))) : S) = .v (vI (z2 + 1))) ∧ z3.Nxt q1 [(1, .v (.c (.seq .ev l))), (2, .v (vP 0)), (5, .v (vO 1)), (6, .v (vI (z2 + 1)))] [.cells (cFld f), .lst .u8 (q1.out ++ z1)])) ∧ ((decide (z2 < (l.length : Int))) = false → (.v (vT (List.map toByte q1.out)) : S) = .v (vT (valsM f l)) ∧ ([] : List Blk) = [])))) (by kernel_rfl) ?_
 refine ⟨has_of (j := (⟨([] : List Int), 0⟩ : l22Values_s_V0)) (by first | rfl | simp) rfl (by dsimp only [l22Values_s_F0]; exact ⟨by omega, rfl⟩), fun (q1 : l22Values_s_V0) hq_q1 => ?_⟩
 have hi_q1 : q1.i ≤ l.length ∧ List.map toByte q1.out ++ valsM f (List.drop q1.i l) = valsM f l := hq_q1
 obtain ⟨v1, v2⟩ := hi_q1
 have vl := congrArg List.length v2
 simp only [List.length_append, List.length_map] at vl
 refine dsp (fun h1 p1 => ?_) fun h1 p1 => ?_
 refine ⟨(ax_get (l := l) (i := q1.i) (by omega)), fun x1 hx1 => ?_⟩
 have hbu := (hp2 x1 (List.mem_of_getElem? hx1)).2
 rw [drop_el hx1, valsM_cons] at v2 vl
 simp only [List.length_append] at vl
 exact ⟨hx1, (by omega), hx1, (by omega), (l22Value_s f _ (by omega)), (by simp only [List.length_map]; omega), (as_i64 (by omega) (by omega)), nxt_of (j := (⟨q1.out ++ (List.map (fun b => (UInt8.toNat b : Int)) (putNum f x1.bits)), q1.i + 1⟩ : l22Values_s_V0)) (by first | rfl | simp) rfl (by dsimp only [l22Values_s_F0]; exact ⟨by omega, by simp only [List.map_append, toByte_of, List.append_assoc]; exact v2⟩) (by dsimp only [l22Values_s_F0]; omega)⟩
 rw [drop_end p1] at v2
 refine ⟨(congrArg S.v (congrArg V.c (congrArg C.str ?_))), rfl⟩
 rotate_left
 all_goals first | (simpa [valsM] using v2)
theorem numsM_p {f : Fld} {l : List Ev} (h : f.packed = true) : numsM f l = tagP f.number 2 ++ frameOf (valsM f (l.take (numsN f l))) := by unfold numsM; rw [if_pos h]
theorem numsM_u {f : Fld} {l : List Ev} (h : f.packed = false) : numsM f l = tagP f.number (wireOf f.kind) ++ valsM f (l.take (numsN f l)) := by unfold numsM; rw [if_neg (by simp [h])]
theorem frameOf_ge (b : List UInt8) : b.length ≤ (frameOf b).length := by unfold frameOf; rw [List.length_append]; omega
def BodyZ (K : Nat) : Prop := ∀ (p : Pln) (shape : Int) (l : List Ev) (hp1 : Bd p shape l) (hp2 : EvsB l) (hp3 : planOk p = true) (hp4 : l.length < K), Fun Tryz.prog 61 [.agg (cPln p), vI shape, .c (.seq .ev l)] [] (.v (vT (mT p shape l))) []
structure bodyz1_V0 where
 out : List Int
 i : Int
def bodyz1_F0 (p : Pln) (shape : Int) (l : List Ev) : Fam := ⟨bodyz1_V0, fun q1 => [(1, .v (vI shape)), (2, .v (.c (.seq .ev l))), (3, .v (vP 0)), (7, .v (vO 1)), (8, .v (vI q1.i))], fun q1 => [.cells (cPln p), .lst .u8 q1.out], fun q1 => SInv p shape l q1.i (List.map toByte q1.out), fun q1 => l.length - q1.i.toNat⟩
theorem bodyz1 (K : Nat) (hM : BodyZ K) (p : Pln) (shape : Int) (l : List Ev) (hp1 : Bd p shape l) (hp2 : EvsB l) (hp3 : planOk p = true) (hp4 : l.length ≤ K) : Fun Tryz.prog 61 [.agg (cPln p), vI shape, .c (.seq .ev l)] [] (.v (vT (mT p shape l))) [] := by
 have hN : bigN = 274877906944 := rfl
 have hvl := hp2.1
 have hpt := planOk_t hp3
 refine fun_ofw Tryz.func61 (by kernel_rfl) (by kernel_rfl) (w := let z20 := bodyz1_F0 p shape l; let z21 := (l.length : Int); (.seg [.ty .u8, .at 0, .keep [1, 2, 3, 7, 8], .sel [0, 1]] (.loop z20 fun q1 => let z6 := List.drop (q1.i.toNat) l; let z7 := q1.i + ((upL 0 0 z6 : Nat) : Int); let z5 := List.drop (Int.toNat (q1.i + 1)) (List.take (z7.toNat) l); let z8 := vI (q1.i + ((upL 0 0 z6 : Nat) : Int) + 1); .br (.intro (fun (x1 : Ev) => l[q1.i.toNat]? = some x1) fun x1 => let z2 := fieldAt p.shapes shape x1.field; let z1 := z2.getD fld0; .seg [.el .ev x1, .call [] (.tup [.agg (cFld z1), vB z2.isSome]) []] (.br (.seg [.call [] (.v (vI ((numsN z1 z6 : Nat) : Int))) [], .ord (os 9 [7]) [], .as 61 (.v (vI (q1.i + ((numsN z1 z6 : Nat) : Int)))), .call [] (.v (vT (valsM z1 (List.drop (q1.i.toNat) (List.take (Int.toNat (q1.i + ((numsN z1 z6 : Nat) : Int))) l))))) [], .as 66 (.v (vI (q1.i + ((numsN z1 z6 : Nat) : Int))))] (.br (.seg [.ord [(0, true), (1, true), (2, true), (3, true), (4, true), (8, true), (5, false), (6, false), (7, false), (9, false), (10, true)] [1], .call [] (.v (vI (wireOf z1.kind))) [], .call [] (.v (vT (tagP z1.number (wireOf z1.kind)))) [], .ty .u8, .ty .u8, .at 0, .keep [1, 2, 3, 7, 8], .sel [0, 5]] (.next)) (.seg [.call [] (.v (vT (tagP z1.number 2))) [], .ty .u8, .call [] (.v (vT (frameOf (valsM z1 (List.drop (q1.i.toNat) (List.take (Int.toNat (q1.i + ((numsN z1 z6 : Nat) : Int))) l)))))) [], .ty .u8, .at 0, .keep [1, 2, 3, 7, 8], .sel [0, 5]] (.next)))) (.br (.seg [.call [] (.v (vI z7)) [], .as 87 (.v (vI (q1.i + 1))), .call [] (.v (vT (textM z5))) [], .as 92 (.v z8), .call [] (.v (vT (tagP z1.number 2))) [], .ty .u8, .call [] (.v (vT (frameOf (textM z5)))) [], .ty .u8, .at 0, .keep [1, 2, 3, 7, 8], .sel [0, 5]] (.next)) (.seg [.call [] (.v (vI z7)) [], .ord (os 10 [8]) [], .as 44 (.v (vI (q1.i + 1))), .call [] (.v (vT (mT p z1.msg z5))) [], .as 49 (.v z8), .call [] (.v (vT (tagP z1.number 2))) [], .ty .u8, .call [] (.v (vT (frameOf (mT p z1.msg z5)))) [], .ty .u8, .at 0, .keep [1, 2, 3, 7, 8], .sel [0, 5]] (.next))))) (.leaf () [])), z20.Has [(1, .v (vI shape)), (2, .v (.c (.seq .ev l))), (3, .v (vP 0)), (7, .v (vO 1)), (8, .v (vI 0))] [.cells (cPln p), .lst .u8 ([] : List Int)] ∧ ∀ q1, z20.inv q1 → (let z13 := (.v (vI (IntKind.i64.wrap (q1.i + 1))) : S) = .v (vI (q1.i + 1)); let z15 := q1.i.toNat; let z10 := List.drop z15 l; let z11 := q1.i + ((upL 0 0 z10 : Nat) : Int); let z9 := List.drop (Int.toNat (q1.i + 1)) (List.take (z11.toNat) l); let z12 := q1.i + ((upL 0 0 z10 : Nat) : Int) ≤ z21; let z14 := vI (q1.i + ((upL 0 0 z10 : Nat) : Int) + 1); let z16 := q1.i + 1 ≤ q1.i + ((upL 0 0 z10 : Nat) : Int); let z17 := decide (q1.i < z21); let z18 := (0 : Int) ≤ q1.i + 1; let z19 := (0 : Int) ≤ q1.i; (z17 = true → (∃ (x1 : Ev), l[q1.i.toNat]? = some x1) ∧ ∀ (x1 : Ev), (l[q1.i.toNat]? = some x1) → (let z4 := fieldAt p.shapes shape x1.field; let z3 := z4.getD fld0; (l[q1.i.toNat]? = some x1) ∧ z19 ∧ (Fun Tryz.prog 84 [.agg [.seq .shp p.shapes], vI shape, vI x1.field] [] (.tup [.agg (cFld z3), vB z4.isSome]) []) ∧ ((decide (x1.kind = 2)) = true → (Fun Tryz.prog 100 [.agg (cFld z3), .c (.seq .ev l), vI q1.i] [] (.v (vI ((numsN z3 z10 : Nat) : Int))) []) ∧ ((.v (vI (IntKind.i64.wrap (q1.i + ((numsN z3 z10 : Nat) : Int)))) : S) = .v (vI (q1.i + ((numsN z3 z10 : Nat) : Int)))) ∧ ((.v (vI (IntKind.i64.wrap (q1.i + ((numsN z3 z10 : Nat) : Int)))) : S) = .v (vI (q1.i + ((numsN z3 z10 : Nat) : Int)))) ∧ (q1.i + ((numsN z3 z10 : Nat) : Int) ≤ z21) ∧ (q1.i ≤ q1.i + ((numsN z3 z10 : Nat) : Int)) ∧ z19 ∧ (q1.i + ((numsN z3 z10 : Nat) : Int) ≤ z21) ∧ (q1.i ≤ q1.i + ((numsN z3 z10 : Nat) : Int)) ∧ z19 ∧ (Fun Tryz.prog 101 [.agg (cFld z3), .c (.seq .ev (List.drop z15 (List.take (Int.toNat (q1.i + ((numsN z3 z10 : Nat) : Int))) l)))] [] (.v (vT (valsM z3 (List.drop z15 (List.take (Int.toNat (q1.i + ((numsN z3 z10 : Nat) : Int))) l))))) []) ∧ ((.v (vI (IntKind.i64.wrap (q1.i + ((numsN z3 z10 : Nat) : Int)))) : S) = .v (vI (q1.i + ((numsN z3 z10 : Nat) : Int)))) ∧ ((!z3.packed) = true → (Fun Tryz.prog 103 [vI z3.kind] [] (.v (vI (wireOf z3.kind))) []) ∧ (Fun Tryz.prog 102 [vI z3.number, vI (wireOf z3.kind)] [] (.v (vT (tagP z3.number (wireOf z3.kind)))) []) ∧ (q1.out.length + List.length (List.map (fun b => (UInt8.toNat b : Int)) (tagP z3.number (wireOf z3.kind))) ≤ bigN) ∧ (List.length (q1.out ++ (List.map (fun b => (UInt8.toNat b : Int)) (tagP z3.number (wireOf z3.kind)))) + List.length (List.map (fun b => (UInt8.toNat b : Int)) (valsM z3 (List.drop z15 (List.take (Int.toNat (q1.i + ((numsN z3 z10 : Nat) : Int))) l)))) ≤ bigN) ∧ z20.Nxt q1 [(1, .v (vI shape)), (2, .v (.c (.seq .ev l))), (3, .v (vP 0)), (7, .v (vO 1)), (8, .v (vI (q1.i + ((numsN z3 z10 : Nat) : Int))))] [.cells (cPln p), .lst .u8 ((q1.out ++ (List.map (fun b => (UInt8.toNat b : Int)) (tagP z3.number (wireOf z3.kind)))) ++ (List.map (fun b => (UInt8.toNat b : Int)) (valsM z3 (List.drop z15 (List.take (Int.toNat (q1.i + ((numsN z3 z10 : Nat) : Int))) l)))))]) ∧ ((!z3.packed) = false → (Fun Tryz.prog 102 [vI z3.number, vI 2] [] (.v (vT (tagP z3.number 2))) []) ∧ (q1.out.length + List.length (List.map (fun b => (UInt8.toNat b : Int)) (tagP z3.number 2)) ≤ bigN) ∧ (Fun Tryz.prog 29 [vT (valsM z3 (List.drop z15 (List.take (Int.toNat (q1.i + ((numsN z3 z10 : Nat) : Int))) l)))] [] (.v (vT (frameOf (valsM z3 (List.drop z15 (List.take (Int.toNat (q1.i + ((numsN z3 z10 : Nat) : Int))) l)))))) []) ∧ (List.length (q1.out ++ (List.map (fun b => (UInt8.toNat b : Int)) (tagP z3.number 2))) + List.length (List.map (fun b => (UInt8.toNat b : Int)) (frameOf (valsM z3 (List.drop z15 (List.take (Int.toNat (q1.i + ((numsN z3 z10 : Nat) : Int))) l))))) ≤ bigN) ∧ z20.Nxt q1 [(1, .v (vI shape)), (2, .v (.c (.seq .ev l))), (3, .v (vP 0)), (7, .v (vO 1)), (8, .v (vI (q1.i + ((numsN z3 z10 : Nat) : Int))))] [.cells (cPln p), .lst .u8 ((q1.out ++ (List.map (fun b => (UInt8.toNat b : Int)) (tagP z3.number 2))) ++ (List.map (fun b => (UInt8.toNat b : Int)) (frameOf (valsM z3 (List.drop z15 (List.take (Int.toNat (q1.i + ((numsN z3 z10 : Nat) : Int))) l))))))])) ∧ ((decide (x1.kind = 2)) = false → ((decide (x1.kind = 3)) = true → (Fun Tryz.prog 104 [.c (.seq .ev l), vI q1.i] [] (.v (vI z11)) []) ∧ z13 ∧ z12 ∧ z16 ∧ z18 ∧ (Fun Tryz.prog 105 [.c (.seq .ev z9)] [] (.v (vT (textM z9))) []) ∧ ((.v (vI (IntKind.i64.wrap (z11 + 1))) : S) = .v z14) ∧ (Fun Tryz.prog 102 [vI z3.number, vI 2] [] (.v (vT (tagP z3.number 2))) []) ∧ (q1.out.length + List.length (List.map (fun b => (UInt8.toNat b : Int)) (tagP z3.number 2)) ≤ bigN) ∧ (Fun Tryz.prog 29 [vT (textM z9)] [] (.v (vT (frameOf (textM z9)))) []) ∧ (List.length (q1.out ++ (List.map (fun b => (UInt8.toNat b : Int)) (tagP z3.number 2))) + List.length (List.map (fun b => (UInt8.toNat b : Int)) (frameOf (textM z9))) ≤ bigN) ∧ z20.Nxt q1 [(1, .v (vI shape)), (2, .v (.c (.seq .ev l))), (3, .v (vP 0)), (7, .v (vO 1)), (8, .v z14)] [.cells (cPln p), .lst .u8 ((q1.out ++ (List.map (fun b => (UInt8.toNat b : Int)) (tagP z3.number 2))) ++ (List.map (fun b => (UInt8.toNat b : Int)) (frameOf (textM z9))))]) ∧ ((decide (x1.kind = 3)) = false → (Fun Tryz.prog 104 [.c (.seq .ev l), vI q1.i] [] (.v (vI z11)) []) ∧ z13 ∧ z13 ∧ z12 ∧ z16 ∧ z18 ∧ z12 ∧ z16 ∧ z18 ∧ (Fun Tryz.prog 61 [.agg (cPln p), vI z3.msg, .c (.seq .ev z9)] [] (.v (vT (mT p z3.msg z9))) []) ∧ ((.v (vI (IntKind.i64.wrap (z11 + 1))) : S) = .v z14) ∧ (Fun Tryz.prog 102 [vI z3.number, vI 2] [] (.v (vT (tagP z3.number 2))) []) ∧ (q1.out.length + List.length (List.map (fun b => (UInt8.toNat b : Int)) (tagP z3.number 2)) ≤ bigN) ∧ (Fun Tryz.prog 29 [vT (mT p z3.msg z9)] [] (.v (vT (frameOf (mT p z3.msg z9)))) []) ∧ (List.length (q1.out ++ (List.map (fun b => (UInt8.toNat b : Int)) (tagP z3.number 2))) + List.length (List.map (fun b => (UInt8.toNat b : Int)) (frameOf (mT p z3.msg z9))) ≤ bigN) ∧ z20.Nxt q1 [(1, .v (vI shape)), (2, .v (.c (.seq .ev l))), (3, .v (vP 0)), (7, .v (vO 1)), (8, .v z14)] [.cells (cPln p), .lst .u8 ((q1.out ++ (List.map (fun b => (UInt8.toNat b : Int)) (tagP z3.number 2))) ++ (List.map (fun b => (UInt8.toNat b : Int)) (frameOf (mT p z3.msg z9))))])))) ∧ (z17 = false → (.v (vT (List.map toByte q1.out)) : S) = .v (vT (mT p shape l)) ∧ ([] : List Blk) = [])))) (by kernel_rfl) ?_
 refine ⟨has_of (j := (⟨([] : List Int), 0⟩ : bodyz1_V0)) rfl rfl (by dsimp only [bodyz1_F0]; exact SInv.refl hp1), fun (q1 : bodyz1_V0) hq_q1 => ?_⟩
 have hi_q1 : SInv p shape l q1.i (List.map toByte q1.out) := hq_q1
 have hlo := hi_q1.lo
 have hhi := hi_q1.hi
 have hso := hi_q1.small hp1 hp2
 simp only [List.length_map] at hso
 refine dsp (fun h1 p1 => ?_) fun h1 p1 => ?_
 refine ⟨(ax_get (l := l) (i := q1.i.toNat) (by omega)), fun x1 hx1 => ?_⟩
 refine ⟨hx1, (by omega), (fieldAt_s p.shapes _ _ (by omega) (schemaOk_fields hpt.2.1)), dsp (fun h2 p2 => ?_) fun h2 p2 => ?_⟩
 obtain ⟨f, hf, g1, g2, g3⟩ := hi_q1.num hx1 p2
 have hff : ((fieldAt p.shapes shape x1.field).getD fld0) = f := by rw [hf]; rfl
 subst hff
 have hsm := g3.small hp1 hp2
 have hev : EvsB (List.drop (q1.i.toNat) l) := hp2.drop _
 have hnv := numsM_len (f := ((fieldAt p.shapes shape x1.field).getD fld0)) (l := List.drop (q1.i.toNat) l) (by rw [List.length_drop]; omega) hev.1 hev.2.2
 have hcut : List.drop (q1.i.toNat) (List.take (Int.toNat (q1.i + ((numsN ((fieldAt p.shapes shape x1.field).getD fld0) (List.drop (q1.i.toNat) l) : Nat) : Int))) l) = List.take (numsN ((fieldAt p.shapes shape x1.field).getD fld0) (List.drop (q1.i.toNat) l)) (List.drop (q1.i.toNat) l) := by rw [take_sub]; congr 1; omega
 rw [← hcut] at hnv
 have hev2 := ((hp2.take (Int.toNat (q1.i + ((numsN ((fieldAt p.shapes shape x1.field).getD fld0) (List.drop (q1.i.toNat) l) : Nat) : Int)))).drop (q1.i.toNat))
 refine ⟨(l22Run_s ((fieldAt p.shapes shape x1.field).getD fld0) _ _ (by omega) (by omega)), (as_i64 (by omega) (by omega)), (as_i64 (by omega) (by omega)), (by first | (simp only [List.length_drop]; omega) | omega), (by omega), (by omega), (by first | (simp only [List.length_drop]; omega) | omega), (by omega), (by omega), (l22Values_s ((fieldAt p.shapes shape x1.field).getD fld0) _ (by first | (simp only [List.length_take, List.length_drop]; omega) | omega) (hev2.2.2) (by first | (simp only [List.length_take, List.length_drop]; omega) | omega)), (as_i64 (by omega) (by omega)), fun h3 => have q3 := bnot_t h3; ?_, fun h3 => have q3 := bnot_f h3; ?_⟩
 have hpk : ((fieldAt p.shapes shape x1.field).getD fld0).packed = false := q3
 have hnm := numsM_u (l := List.drop (q1.i.toNat) l) hpk
 rw [← hcut] at hnm
 rw [hnm] at g3 hsm
 simp only [List.length_append, List.length_map] at hsm
 exact ⟨(wireOf_s _), (l22Tag_s _ _), (by simp only [List.length_map]; omega), (by first | (simp only [List.length_append, List.length_take, List.length_drop, List.length_map]; omega) | omega), nxt_of (j := (⟨(q1.out ++ (List.map (fun b => (UInt8.toNat b : Int)) (tagP ((fieldAt p.shapes shape x1.field).getD fld0).number (wireOf ((fieldAt p.shapes shape x1.field).getD fld0).kind)))) ++ (List.map (fun b => (UInt8.toNat b : Int)) (valsM ((fieldAt p.shapes shape x1.field).getD fld0) (List.drop (q1.i.toNat) (List.take (Int.toNat (q1.i + ((numsN ((fieldAt p.shapes shape x1.field).getD fld0) (List.drop (q1.i.toNat) l) : Nat) : Int))) l)))), _⟩ : bodyz1_V0)) rfl rfl (by dsimp only [bodyz1_F0]; simp only [List.map_append, toByte_of]; first | assumption | simpa only [List.append_assoc] using g3 | simpa only [List.append_assoc] using g5) (by dsimp only [bodyz1_F0]; omega)⟩
 have hpk : ((fieldAt p.shapes shape x1.field).getD fld0).packed = true := q3
 have hnm := numsM_p (l := List.drop (q1.i.toNat) l) hpk
 rw [← hcut] at hnm
 rw [hnm] at g3 hsm
 simp only [List.length_append, List.length_map] at hsm
 exact ⟨(l22Tag_s _ _), (by simp only [List.length_map]; omega), (frameOf_s _ (by first | (simp only [List.length_take, List.length_drop]; omega) | omega)), (by first | (simp only [List.length_append, List.length_take, List.length_drop, List.length_map]; omega) | omega), nxt_of (j := (⟨(q1.out ++ (List.map (fun b => (UInt8.toNat b : Int)) (tagP ((fieldAt p.shapes shape x1.field).getD fld0).number 2))) ++ (List.map (fun b => (UInt8.toNat b : Int)) (frameOf (valsM ((fieldAt p.shapes shape x1.field).getD fld0) (List.drop (q1.i.toNat) (List.take (Int.toNat (q1.i + ((numsN ((fieldAt p.shapes shape x1.field).getD fld0) (List.drop (q1.i.toNat) l) : Nat) : Int))) l))))), _⟩ : bodyz1_V0)) rfl rfl (by dsimp only [bodyz1_F0]; simp only [List.map_append, toByte_of]; first | assumption | simpa only [List.append_assoc] using g3 | simpa only [List.append_assoc] using g5) (by dsimp only [bodyz1_F0]; omega)⟩
 refine dsp (fun h3 p3 => ?_) fun h3 p3 => ?_
 obtain ⟨f, hf, g1, g2, g3⟩ := hi_q1.text hx1 p3 rfl
 have hff : ((fieldAt p.shapes shape x1.field).getD fld0) = f := by rw [hf]; rfl
 subst hff
 have hsm := g3.small hp1 hp2
 simp only [List.length_append, List.length_map] at hsm
 have hge := frameOf_ge (textM (List.drop (Int.toNat (q1.i + 1)) (List.take (Int.toNat (q1.i + ((upL 0 0 (List.drop (q1.i.toNat) l) : Nat) : Int))) l)))
 exact ⟨(up_s _ _ (by omega) (by omega)), (as_i64 (by omega) (by omega)), (by first | (simp only [List.length_drop]; omega) | omega), (by omega), (by omega), (l22Text_s _ (by first | (simp only [List.length_take, List.length_drop]; omega) | omega) (by first | (simp only [List.length_take, List.length_drop]; omega) | omega)), (as_i64 (by omega) (by omega)), (l22Tag_s _ _), (by simp only [List.length_map]; omega), (frameOf_s _ (by first | (simp only [List.length_take, List.length_drop]; omega) | omega)), (by first | (simp only [List.length_append, List.length_take, List.length_drop, List.length_map]; omega) | omega), nxt_of (j := (⟨(q1.out ++ (List.map (fun b => (UInt8.toNat b : Int)) (tagP ((fieldAt p.shapes shape x1.field).getD fld0).number 2))) ++ (List.map (fun b => (UInt8.toNat b : Int)) (frameOf (textM (List.drop (Int.toNat (q1.i + 1)) (List.take (Int.toNat (q1.i + ((upL 0 0 (List.drop (q1.i.toNat) l) : Nat) : Int))) l))))), _⟩ : bodyz1_V0)) rfl rfl (by dsimp only [bodyz1_F0]; simp only [List.map_append, toByte_of]; first | assumption | simpa only [List.append_assoc] using g3 | simpa only [List.append_assoc] using g5) (by dsimp only [bodyz1_F0]; omega)⟩
 obtain ⟨f, hf, g1, g2, g3, g4, g5⟩ := hi_q1.down hx1 p2 p3 rfl
 have hff : ((fieldAt p.shapes shape x1.field).getD fld0) = f := by rw [hf]; rfl
 subst hff
 have hsm := g5.small hp1 hp2
 simp only [List.length_append, List.length_map] at hsm
 have hge := frameOf_ge (mT p ((fieldAt p.shapes shape x1.field).getD fld0).msg (List.drop (Int.toNat (q1.i + 1)) (List.take (Int.toNat (q1.i + ((upL 0 0 (List.drop (q1.i.toNat) l) : Nat) : Int))) l)))
 exact ⟨(up_s _ _ (by omega) (by omega)), (as_i64 (by omega) (by omega)), (as_i64 (by omega) (by omega)), (by first | (simp only [List.length_drop]; omega) | omega), (by omega), (by omega), (by first | (simp only [List.length_drop]; omega) | omega), (by omega), (by omega), (hM p _ _ (g3) ((hp2.take _).drop _) (hp3) (by first | (simp only [List.length_take, List.length_drop]; omega) | omega)), (as_i64 (by omega) (by omega)), (l22Tag_s _ _), (by simp only [List.length_map]; omega), (frameOf_s _ (by first | (simp only [List.length_take, List.length_drop]; omega) | omega)), (by first | (simp only [List.length_append, List.length_take, List.length_drop, List.length_map]; omega) | omega), nxt_of (j := (⟨(q1.out ++ (List.map (fun b => (UInt8.toNat b : Int)) (tagP ((fieldAt p.shapes shape x1.field).getD fld0).number 2))) ++ (List.map (fun b => (UInt8.toNat b : Int)) (frameOf (mT p ((fieldAt p.shapes shape x1.field).getD fld0).msg (List.drop (Int.toNat (q1.i + 1)) (List.take (Int.toNat (q1.i + ((upL 0 0 (List.drop (q1.i.toNat) l) : Nat) : Int))) l))))), _⟩ : bodyz1_V0)) rfl rfl (by dsimp only [bodyz1_F0]; simp only [List.map_append, toByte_of]; first | assumption | simpa only [List.append_assoc] using g3 | simpa only [List.append_assoc] using g5) (by dsimp only [bodyz1_F0]; omega)⟩
 have hst := hi_q1.end_ p1
 exact ⟨(congrArg S.v (congrArg V.c (congrArg C.str (by first | (exact hst))))), rfl⟩
theorem bodyZ_all : ∀ K, BodyZ K
 | 0 => fun p shape l hp1 hp2 hp3 hp4 => absurd hp4 (Nat.not_lt_zero _)
 | K + 1 => fun p shape l hp1 hp2 hp3 hp4 => bodyz1 K (bodyZ_all K) p shape l hp1 hp2 hp3 (Nat.le_of_lt_succ hp4)
theorem body_z (p : Pln) (shape : Int) (l : List Ev) (hp1 : Bd p shape l) (hp2 : EvsB l) (hp3 : planOk p = true) : Fun Tryz.prog 61 [.agg (cPln p), vI shape, .c (.seq .ev l)] [] (.v (vT (mT p shape l))) [] := bodyZ_all _ p shape l hp1 hp2 hp3 (Nat.lt_succ_self _)
structure value_i_J1000002_V where
 isBytes : Bool
def value_i_J1000002_F (f : Fmr) (e : Ev) (x1 : Int) : Fam := ⟨value_i_J1000002_V, fun j1000002 => [(0, .v (vP 0)), (3, .v (vP 2)), (5, .v (vP 3)), (6, .v (vB (fieldAt f.plan.shapes x1 e.field).isSome)), (7, .v (vB j1000002.isBytes))], fun _ => [.cells (oFmr4 1 f), .lst .int f.st.stack, .cells (cEv e), .cells (cFld ((fieldAt f.plan.shapes x1 e.field).getD fld0))], fun j1000002 => j1000002.isBytes = isBytes ((fieldAt f.plan.shapes x1 e.field).getD fld0).kind, fun _ => 0⟩
theorem value_i (f : Fmr) (e : Ev) (hp1 : 1 ≤ List.length (f).st.stack) (hp2 : List.length (f).st.stack ≤ 1000) (hp3 : schemaOk (f).plan.shapes = true) (hp4 : List.length (e).text ≤ bigN) (hp5 : (0 : Int) ≤ (e).bits ∧ (e).bits ≤ 18446744073709551615) : Fun Tryz.prog 148 [vP 0, .agg (cEv e)] [.cells (oFmr4 1 f), .lst .int f.st.stack] (.v (vI (valCode (f).plan (f).st e))) [.cells [.seq .shp (f).plan.shapes, .int .i64 (f).plan.root, .int .i64 (f).plan.deep, .int .i64 (f).plan.most, .own 2, .bool (valStep (f).plan (f).st e).inText, .bool (valStep (f).plan (f).st e).isText, .int .i64 (valStep (f).plan (f).st e).utf.want, .int .i64 (valStep (f).plan (f).st e).utf.low, .int .i64 (valStep (f).plan (f).st e).utf.high, .bool (valStep (f).plan (f).st e).ended], .dead, .lst .int (valStep (f).plan (f).st e).stack] := by
 have hN : bigN = 274877906944 := rfl
 have hs6 := schemaOk_t hp3
 refine fun_ofw Tryz.func148 (by kernel_rfl) (by kernel_rfl) (w := let zi : Int → C := .int .i64; let z12 : List C := [zi 0, zi 0, zi 0, .bool f.st.ended]; let z14 := (f.st.stack.length : Int); let z15 := ([.cells (oFmr4 2 f), .dead, .lst .int f.st.stack] : List Blk); let z16 := vI (valCode (f).plan (f).st e); let z17 := decide (e.kind = 6); let z19 := decide (e.kind = 3); let z20 := decide (e.kind = 2); let z21 := valStep (f).plan (f).st e; let z11 : List C := [.seq .shp (f).plan.shapes, zi (f).plan.root, zi (f).plan.deep, zi (f).plan.most, .own 2, .bool z21.inText, .bool z21.isText, zi z21.utf.want, zi z21.utf.low, zi z21.utf.high, .bool z21.ended]; let z13 : List Blk := [.cells z11, .dead, .lst .int z21.stack]; let z22 := decide (f.plan.deep ≤ z14); let z18 := z22 = true → (.v (vI 6) : S) = .v z16 ∧ z15 = z13; let z23 := (.v (vI 0) : S); let z24 := (.v (vI (IntKind.i64.wrap (z14 - 1))) : S) = .v (vI (z14 - 1)); let z25 := z17 = false; let z26 := os 17 []; let z27 := os 16 [9, 12, 15]; let z28 := z17 = true; let z29 := z19 = false; let z30 := z20 = false; (.intro (fun (x1 : Int) => f.st.stack[Int.toNat (z14 - 1)]? = some x1) fun x1 => let z4 := fieldAt f.plan.shapes x1 e.field; let z3 := z4.getD fld0; .seg [.tree (fr (.two 19 (fr (.one 23 (.one 24 (.first 25 (.done)))) 20 3) 23 (.one 19 (fr (.one 24 (.first 25 (.done))) 20 3))) 0 19) 26 [], .as 23 (.v (vI (z14 - 1))), .el .int x1, .call [] (.tup [.agg (cFld z3), vB z4.isSome]) [], .at 0, .keep [0, 3, 5, 6], .sel [0, 1, 2, 3], .call [] (.tup [.agg (cFld z3), vB z4.isSome]) [], .at 0, .keep [0, 3, 5, 6], .sel [0, 1, 2, 3]] (.join 1000002 (value_i_J1000002_F f e x1) (.br (.seg [.at 0, .keep [0, 3, 5, 6, 7], .sel [0, 1, 2, 3]] (.next)) (.seg [.at 0, .keep [0, 3, 5, 6, 7], .sel [0, 1, 2, 3]] (.next))) fun j1000002 => .br (.seg [.at 0, .cut 0 4] (.leaf () [0, 1, 4])) (.br (.seg [.call [] (.v (vB (numeric z3.kind))) []] (.br (.seg [.at 0, .cut 0 4] (.leaf () [0, 1, 4])) (.br (.br (.seg [.at 0, .cut 0 4] (.leaf () [0, 1, 4])) (.br (.br (.seg [.at 0, .cut 0 4] (.leaf () [0, 1, 4])) (.seg [.br true, .call [] (.v (vB (bitsFit z3.kind e.bits))) []] (.br (.seg [.at 0, .cut 0 4] (.leaf () [0, 1, 4])) (.seg [.ord z26 [], .br true] (.br (.seg [.at 0, .cut 0 4] (.leaf () [0, 1, 4])) (.seg [.br true, .ord z27 [0], .at 0, .cut 0 4] (.leaf () [0, 1, 4]))))))) (.seg [.br true, .call [] (.v (vB (bitsFit z3.kind e.bits))) []] (.br (.seg [.at 0, .cut 0 4] (.leaf () [0, 1, 4])) (.seg [.ord z26 [], .br false, .br true, .ord z27 [0], .at 0, .cut 0 4] (.leaf () [0, 1, 4])))))) (.br (.br (.seg [.at 0, .cut 0 4] (.leaf () [0, 1, 4])) (.seg [.br true, .call [] (.v (vB (bitsFit z3.kind e.bits))) []] (.br (.seg [.at 0, .cut 0 4] (.leaf () [0, 1, 4])) (.seg [.ord z26 [], .br true] (.br (.seg [.at 0, .cut 0 4] (.leaf () [0, 1, 4])) (.seg [.br false, .br true, .ord (os 12 [7, 8, 11]) [1], .ty .int, .ty .int] (.leaf () [0, 1, 5]))))))) (.seg [.br true, .call [] (.v (vB (bitsFit z3.kind e.bits))) []] (.br (.seg [.at 0, .cut 0 4] (.leaf () [0, 1, 4])) (.seg [.ord z26 [], .br false, .br false, .br false, .at 0, .cut 0 4] (.leaf () [0, 1, 4])))))))) (.br (.br (.seg [.at 0, .cut 0 4] (.leaf () [0, 1, 4])) (.br (.br (.seg [.at 0, .cut 0 4] (.leaf () [0, 1, 4])) (.seg [.br false, .ord z26 [], .br true] (.br (.seg [.at 0, .cut 0 4] (.leaf () [0, 1, 4])) (.seg [.br true, .ord z27 [0], .at 0, .cut 0 4] (.leaf () [0, 1, 4]))))) (.seg [.br false, .ord z26 [], .br false, .br true, .ord z27 [0], .at 0, .cut 0 4] (.leaf () [0, 1, 4])))) (.br (.br (.seg [.at 0, .cut 0 4] (.leaf () [0, 1, 4])) (.seg [.br false, .ord z26 [], .br true] (.br (.seg [.at 0, .cut 0 4] (.leaf () [0, 1, 4])) (.seg [.br false, .br true, .ord (os 12 [7, 8, 11]) [1], .ty .int, .ty .int] (.leaf () [0, 1, 5]))))) (.seg [.br false, .ord z26 [], .br false, .br false, .br false, .at 0, .cut 0 4] (.leaf () [0, 1, 4])))))), (∃ (x1 : Int), f.st.stack[Int.toNat (z14 - 1)]? = some x1) ∧ ∀ (x1 : Int), (f.st.stack[Int.toNat (z14 - 1)]? = some x1) → (let z8 := fieldAt f.plan.shapes x1 e.field; let z7 := z8.getD fld0; let z5 := (!(bitsFit z7.kind e.bits)) = true → (.v (vI 4) : S) = .v z16 ∧ z15 = z13; let z6 := (!decide (z7.kind = 8)) = true → (.v (vI 2) : S) = .v z16 ∧ z15 = z13; let z9 := f.st.stack[Int.toNat (z14 - 1)]? = some x1; let z10 := value_i_J1000002_F f e x1; z24 ∧ z24 ∧ (z14 - 1 < z14) ∧ ((0 : Int) ≤ z14 - 1) ∧ (z14 - 1 < z14) ∧ ((0 : Int) ≤ z14 - 1) ∧ z9 ∧ z9 ∧ (Fun Tryz.prog 75 [.agg [.seq .shp f.plan.shapes], vI x1, vI e.field] [] (.tup [.agg (cFld z7), vB z8.isSome]) []) ∧ (Fun Tryz.prog 75 [.agg [.seq .shp f.plan.shapes], vI x1, vI e.field] [] (.tup [.agg (cFld z7), vB z8.isSome]) []) ∧ (([.cells (oFmr4 1 f), .lst .int f.st.stack, .cells (cEv e), .cells (cFld z7)] : List Blk) = [.cells (oFmr4 1 f), .lst .int f.st.stack, .cells (cEv e), .cells (cFld z7)]) ∧ (([(0, .v (vP 0)), (3, .v (vP 2)), (5, .v (vP 3)), (6, .v (vB z8.isSome))] : List (Nat × S)) = [(0, .v (vP 0)), (3, .v (vP 2)), (5, .v (vP 3)), (6, .v (vB z8.isSome))]) ∧ (((decide (z7.kind = 6)) = true → z10.Has [(0, .v (vP 0)), (3, .v (vP 2)), (5, .v (vP 3)), (6, .v (vB z8.isSome)), (7, .v (vB true))] [.cells (oFmr4 1 f), .lst .int f.st.stack, .cells (cEv e), .cells (cFld z7)]) ∧ ((decide (z7.kind = 6)) = false → z10.Has [(0, .v (vP 0)), (3, .v (vP 2)), (5, .v (vP 3)), (6, .v (vB z8.isSome)), (7, .v (vB (decide (z7.kind = 7))))] [.cells (oFmr4 1 f), .lst .int f.st.stack, .cells (cEv e), .cells (cFld z7)])) ∧ ∀ j1000002, z10.inv j1000002 → (let z2 := !j1000002.isBytes; let z1 := z2 = true → (.v (vI 2) : S) = .v z16 ∧ z15 = z13; ((!z8.isSome) = true → (.v (vI 3) : S) = .v z16 ∧ z15 = z13) ∧ ((!z8.isSome) = false → (z20 = true → (Fun Tryz.prog 130 [vI z7.kind] [] (.v (vB (numeric z7.kind))) []) ∧ ((!(numeric z7.kind)) = true → (.v (vI 2) : S) = .v z16 ∧ z15 = z13) ∧ ((!(numeric z7.kind)) = false → (z19 = true → z1 ∧ (z2 = false → (z17 = true → z6 ∧ ((!decide (z7.kind = 8)) = false → (z20 = true) ∧ (Fun Tryz.prog 165 [vI z7.kind, .c (.int .u64 e.bits)] [] (.v (vB (bitsFit z7.kind e.bits))) []) ∧ z5 ∧ ((!(bitsFit z7.kind e.bits)) = false → z28 ∧ z18 ∧ (z22 = false → (z19 = true) ∧ z23 = .v z16 ∧ ([.cells (.seq .shp f.plan.shapes :: zi f.plan.root :: zi f.plan.deep :: zi f.plan.most :: .own 2 :: .bool true :: .bool (decide (z7.kind = 6)) :: z12), .dead, .lst .int f.st.stack] : List Blk) = z13)))) ∧ (z17 = false → (z20 = true) ∧ (Fun Tryz.prog 165 [vI z7.kind, .c (.int .u64 e.bits)] [] (.v (vB (bitsFit z7.kind e.bits))) []) ∧ z5 ∧ ((!(bitsFit z7.kind e.bits)) = false → z25 ∧ (z19 = true) ∧ z23 = .v z16 ∧ ([.cells (.seq .shp f.plan.shapes :: zi f.plan.root :: zi f.plan.deep :: zi f.plan.most :: .own 2 :: .bool true :: .bool (decide (z7.kind = 6)) :: z12), .dead, .lst .int f.st.stack] : List Blk) = z13)))) ∧ (z19 = false → (z17 = true → z6 ∧ ((!decide (z7.kind = 8)) = false → (z20 = true) ∧ (Fun Tryz.prog 165 [vI z7.kind, .c (.int .u64 e.bits)] [] (.v (vB (bitsFit z7.kind e.bits))) []) ∧ z5 ∧ ((!(bitsFit z7.kind e.bits)) = false → z28 ∧ z18 ∧ (z22 = false → z29 ∧ z28 ∧ (f.st.stack.length + List.length [z7.msg] ≤ bigN) ∧ z23 = .v z16 ∧ ([.cells (oFmr4 2 f), .dead, .lst .int (f.st.stack ++ [z7.msg])] : List Blk) = z13)))) ∧ (z17 = false → (z20 = true) ∧ (Fun Tryz.prog 165 [vI z7.kind, .c (.int .u64 e.bits)] [] (.v (vB (bitsFit z7.kind e.bits))) []) ∧ z5 ∧ ((!(bitsFit z7.kind e.bits)) = false → z25 ∧ z29 ∧ z25 ∧ z23 = .v z16 ∧ z15 = z13))))) ∧ (z20 = false → (z19 = true → z1 ∧ (z2 = false → (z17 = true → z6 ∧ ((!decide (z7.kind = 8)) = false → z30 ∧ z28 ∧ z18 ∧ (z22 = false → (z19 = true) ∧ z23 = .v z16 ∧ ([.cells (.seq .shp f.plan.shapes :: zi f.plan.root :: zi f.plan.deep :: zi f.plan.most :: .own 2 :: .bool true :: .bool (decide (z7.kind = 6)) :: z12), .dead, .lst .int f.st.stack] : List Blk) = z13))) ∧ (z17 = false → z30 ∧ z25 ∧ (z19 = true) ∧ z23 = .v z16 ∧ ([.cells (.seq .shp f.plan.shapes :: zi f.plan.root :: zi f.plan.deep :: zi f.plan.most :: .own 2 :: .bool true :: .bool (decide (z7.kind = 6)) :: z12), .dead, .lst .int f.st.stack] : List Blk) = z13))) ∧ (z19 = false → (z17 = true → z6 ∧ ((!decide (z7.kind = 8)) = false → z30 ∧ z28 ∧ z18 ∧ (z22 = false → z29 ∧ z28 ∧ (f.st.stack.length + List.length [z7.msg] ≤ bigN) ∧ z23 = .v z16 ∧ ([.cells (oFmr4 2 f), .dead, .lst .int (f.st.stack ++ [z7.msg])] : List Blk) = z13))) ∧ (z17 = false → z30 ∧ z25 ∧ z29 ∧ z25 ∧ z23 = .v z16 ∧ z15 = z13)))))))) (by kernel_rfl) ?_
 refine ⟨(ax_get (l := f.st.stack) (i := Int.toNat ((f.st.stack.length : Int) - 1)) (by omega)), fun x1 hx1 => ?_⟩
 have hlast : lastD f.st.stack = x1 := by unfold lastD; exact getD_of (by rw [← hx1]; congr 1; omega)
 have hown : faOwn f.plan f.st e = (fieldAt f.plan.shapes x1 e.field) := by unfold faOwn; rw [hlast]
 refine ⟨(as_i64 (by omega) (by omega)), (as_i64 (by omega) (by omega)), (by omega), (by omega), (by omega), (by omega), hx1, hx1, (fieldAt_i f.plan.shapes _ _ (by omega) (schemaOk_fields hp3)), (fieldAt_i f.plan.shapes _ _ (by omega) (schemaOk_fields hp3)), rfl, rfl, ?_, fun (j1000002 : value_i_J1000002_V) hq_j1000002 => ?_⟩
 refine dsp (fun h2 p2 => ?_) fun h2 p2 => ?_
 exact has_of (j := (⟨true⟩ : value_i_J1000002_V)) rfl rfl (by dsimp only [value_i_J1000002_F]; simp_all [isBytes])
 exact has_of (j := (⟨decide (((fieldAt f.plan.shapes x1 e.field).getD fld0).kind = 7)⟩ : value_i_J1000002_V)) rfl rfl (by dsimp only [value_i_J1000002_F]; simp_all [isBytes])
 have hi_j1000002 : j1000002.isBytes = isBytes ((fieldAt f.plan.shapes x1 e.field).getD fld0).kind := hq_j1000002
 refine ⟨fun h2 => have q2 := bnot_t h2; ?_, fun h2 => have q2 := bnot_f h2; ?_⟩
 have ho : (fieldAt f.plan.shapes x1 e.field) = none := by simpa using q2
 have hg : (fieldAt f.plan.shapes x1 e.field).getD fld0 = fld0 := by rw [ho]; rfl
 have hvc := valCode_none (hown.trans ho)
 have hvs := valStep_none (hown.trans ho)
 refine have hm1 : valStep (f).plan (f).st e = f.st := ?_; ?_
 rotate_left
 refine ⟨(sI ?_), (by rw [hm1] <;> rfl)⟩
 rotate_left
 obtain ⟨o, ho⟩ := Option.isSome_iff_exists.1 q2
 have hg : (fieldAt f.plan.shapes x1 e.field).getD fld0 = o := by rw [ho]; rfl
 have hvc := valCode_some (hown.trans ho)
 have hvs := valStep_some (hown.trans ho)
 have hB : isBytes o.kind = j1000002.isBytes := by rw [← hg]; exact hi_j1000002.symm
 refine dsp (fun h3 p3 => ?_) fun h3 p3 => ?_
 refine ⟨(numeric_i _), fun h4 => have q4 := bnot_t h4; have p4 := within_f q4; ?_, fun h4 => have q4 := bnot_f h4; have p4 := within_t q4; ?_⟩
 refine have hm1 : valStep (f).plan (f).st e = f.st := ?_; ?_
 rotate_left
 refine ⟨(sI ?_), (by rw [hm1] <;> rfl)⟩
 rotate_left
 refine dsp (fun h5 p5 => ?_) fun h5 p5 => ?_
 refine ⟨fun h6 => have q6 := bnot_t h6; ?_, fun h6 => have q6 := bnot_f h6; ?_⟩
 refine have hm1 : valStep (f).plan (f).st e = f.st := ?_; ?_
 rotate_left
 refine ⟨(sI ?_), (by rw [hm1] <;> rfl)⟩
 rotate_left
 refine dsp (fun h7 p7 => ?_) fun h7 p7 => ?_
 refine ⟨fun h8 => have q8 := bnot_t h8; have p8 := of_decide_eq_false q8; ?_, fun h8 => have q8 := bnot_f h8; have p8 := of_decide_eq_true q8; ?_⟩
 refine have hm1 : valStep (f).plan (f).st e = f.st := ?_; ?_
 rotate_left
 refine ⟨(sI ?_), (by rw [hm1] <;> rfl)⟩
 rotate_left
 refine ⟨h3, (bitsFit_i _ _ (by omega)), fun h9 => have q9 := bnot_t h9; ?_, fun h9 => have q9 := bnot_f h9; ?_⟩
 refine have hm1 : valStep (f).plan (f).st e = f.st := ?_; ?_
 rotate_left
 refine ⟨(sI ?_), (by rw [hm1] <;> rfl)⟩
 rotate_left
 refine ⟨h7, dsp (fun h10 p10 => ?_) fun h10 p10 => ?_⟩
 refine have hm1 : valStep (f).plan (f).st e = f.st := ?_; ?_
 rotate_left
 refine ⟨(sI ?_), (by rw [hm1] <;> rfl)⟩
 rotate_left
 refine ⟨h5, ?_⟩
 refine have hm1 : valStep (f).plan (f).st e = (⟨f.st.stack, true, decide (((fieldAt f.plan.shapes x1 e.field).getD fld0).kind = 6), utf0, f.st.ended⟩ : Fa) := ?_; ?_
 rotate_left
 refine ⟨(sI ?_), (by rw [hm1] <;> rfl)⟩
 rotate_left
 refine ⟨h3, (bitsFit_i _ _ (by omega)), fun h8 => have q8 := bnot_t h8; ?_, fun h8 => have q8 := bnot_f h8; ?_⟩
 refine have hm1 : valStep (f).plan (f).st e = f.st := ?_; ?_
 rotate_left
 refine ⟨(sI ?_), (by rw [hm1] <;> rfl)⟩
 rotate_left
 refine ⟨h7, h5, ?_⟩
 refine have hm1 : valStep (f).plan (f).st e = (⟨f.st.stack, true, decide (((fieldAt f.plan.shapes x1 e.field).getD fld0).kind = 6), utf0, f.st.ended⟩ : Fa) := ?_; ?_
 rotate_left
 refine ⟨(sI ?_), (by rw [hm1] <;> rfl)⟩
 rotate_left
 refine dsp (fun h6 p6 => ?_) fun h6 p6 => ?_
 refine ⟨fun h7 => have q7 := bnot_t h7; have p7 := of_decide_eq_false q7; ?_, fun h7 => have q7 := bnot_f h7; have p7 := of_decide_eq_true q7; ?_⟩
 refine have hm1 : valStep (f).plan (f).st e = f.st := ?_; ?_
 rotate_left
 refine ⟨(sI ?_), (by rw [hm1] <;> rfl)⟩
 rotate_left
 refine ⟨h3, (bitsFit_i _ _ (by omega)), fun h8 => have q8 := bnot_t h8; ?_, fun h8 => have q8 := bnot_f h8; ?_⟩
 refine have hm1 : valStep (f).plan (f).st e = f.st := ?_; ?_
 rotate_left
 refine ⟨(sI ?_), (by rw [hm1] <;> rfl)⟩
 rotate_left
 refine ⟨h6, dsp (fun h9 p9 => ?_) fun h9 p9 => ?_⟩
 refine have hm1 : valStep (f).plan (f).st e = f.st := ?_; ?_
 rotate_left
 refine ⟨(sI ?_), (by rw [hm1] <;> rfl)⟩
 rotate_left
 refine ⟨h5, h6, (by simp only [List.length_cons, List.length_nil]; omega), ?_⟩
 refine have hm1 : valStep (f).plan (f).st e = (⟨f.st.stack ++ [((fieldAt f.plan.shapes x1 e.field).getD fld0).msg], f.st.inText, f.st.isText, f.st.utf, f.st.ended⟩ : Fa) := ?_; ?_
 rotate_left
 refine ⟨(sI ?_), (by rw [hm1] <;> rfl)⟩
 rotate_left
 refine ⟨h3, (bitsFit_i _ _ (by omega)), fun h7 => have q7 := bnot_t h7; ?_, fun h7 => have q7 := bnot_f h7; ?_⟩
 refine have hm1 : valStep (f).plan (f).st e = f.st := ?_; ?_
 rotate_left
 refine ⟨(sI ?_), (by rw [hm1] <;> rfl)⟩
 rotate_left
 refine ⟨h6, h5, h6, ?_⟩
 refine have hm1 : valStep (f).plan (f).st e = f.st := ?_; ?_
 rotate_left
 refine ⟨(sI ?_), (by rw [hm1] <;> rfl)⟩
 rotate_left
 refine dsp (fun h4 p4 => ?_) fun h4 p4 => ?_
 refine ⟨fun h5 => have q5 := bnot_t h5; ?_, fun h5 => have q5 := bnot_f h5; ?_⟩
 refine have hm1 : valStep (f).plan (f).st e = f.st := ?_; ?_
 rotate_left
 refine ⟨(sI ?_), (by rw [hm1] <;> rfl)⟩
 rotate_left
 refine dsp (fun h6 p6 => ?_) fun h6 p6 => ?_
 refine ⟨fun h7 => have q7 := bnot_t h7; have p7 := of_decide_eq_false q7; ?_, fun h7 => have q7 := bnot_f h7; have p7 := of_decide_eq_true q7; ?_⟩
 refine have hm1 : valStep (f).plan (f).st e = f.st := ?_; ?_
 rotate_left
 refine ⟨(sI ?_), (by rw [hm1] <;> rfl)⟩
 rotate_left
 refine ⟨h3, h6, dsp (fun h8 p8 => ?_) fun h8 p8 => ?_⟩
 refine have hm1 : valStep (f).plan (f).st e = f.st := ?_; ?_
 rotate_left
 refine ⟨(sI ?_), (by rw [hm1] <;> rfl)⟩
 rotate_left
 refine ⟨h4, ?_⟩
 refine have hm1 : valStep (f).plan (f).st e = (⟨f.st.stack, true, decide (((fieldAt f.plan.shapes x1 e.field).getD fld0).kind = 6), utf0, f.st.ended⟩ : Fa) := ?_; ?_
 rotate_left
 refine ⟨(sI ?_), (by rw [hm1] <;> rfl)⟩
 rotate_left
 refine ⟨h3, h6, h4, ?_⟩
 refine have hm1 : valStep (f).plan (f).st e = (⟨f.st.stack, true, decide (((fieldAt f.plan.shapes x1 e.field).getD fld0).kind = 6), utf0, f.st.ended⟩ : Fa) := ?_; ?_
 rotate_left
 refine ⟨(sI ?_), (by rw [hm1] <;> rfl)⟩
 rotate_left
 refine dsp (fun h5 p5 => ?_) fun h5 p5 => ?_
 refine ⟨fun h6 => have q6 := bnot_t h6; have p6 := of_decide_eq_false q6; ?_, fun h6 => have q6 := bnot_f h6; have p6 := of_decide_eq_true q6; ?_⟩
 refine have hm1 : valStep (f).plan (f).st e = f.st := ?_; ?_
 rotate_left
 refine ⟨(sI ?_), (by rw [hm1] <;> rfl)⟩
 rotate_left
 refine ⟨h3, h5, dsp (fun h7 p7 => ?_) fun h7 p7 => ?_⟩
 refine have hm1 : valStep (f).plan (f).st e = f.st := ?_; ?_
 rotate_left
 refine ⟨(sI ?_), (by rw [hm1] <;> rfl)⟩
 rotate_left
 refine ⟨h4, h5, (by simp only [List.length_cons, List.length_nil]; omega), ?_⟩
 refine have hm1 : valStep (f).plan (f).st e = (⟨f.st.stack ++ [((fieldAt f.plan.shapes x1 e.field).getD fld0).msg], f.st.inText, f.st.isText, f.st.utf, f.st.ended⟩ : Fa) := ?_; ?_
 rotate_left
 refine ⟨(sI ?_), (by rw [hm1] <;> rfl)⟩
 rotate_left
 refine ⟨h3, h5, h4, h5, ?_⟩
 refine have hm1 : valStep (f).plan (f).st e = f.st := ?_; ?_
 rotate_left
 refine ⟨(sI ?_), (by rw [hm1] <;> rfl)⟩
 rotate_left
 all_goals first | (rw [hvs, hvc, hB]; simp_all [utf0]; done) | (rw [hvc, hB]; simp_all; done) | (rw [hvs, hvc]; simp_all [isBytes, utf0]; done) | (rw [hvc]; simp_all [isBytes, utf0]; done) | (rw [hvs]; done) | (rw [hvc]; done) | (grind (splits := 25) [isBytes, fld0])
theorem part_i (f : Fmr) (e : Ev) (hp1 : List.length (e).text ≤ bigN) : Fun Tryz.prog 147 [vP 0, .agg (cEv e)] [.cells (oFmr4 1 f), .lst .int f.st.stack] (.v (vI (partCode (f).st e))) [.cells [.seq .shp (f).plan.shapes, .int .i64 (f).plan.root, .int .i64 (f).plan.deep, .int .i64 (f).plan.most, .own 1, .bool (partStep (f).st e).inText, .bool (partStep (f).st e).isText, .int .i64 (partStep (f).st e).utf.want, .int .i64 (partStep (f).st e).utf.low, .int .i64 (partStep (f).st e).utf.high, .bool (partStep (f).st e).ended], .lst .int (partStep (f).st e).stack] := by
 have hN : bigN = 274877906944 := rfl
 refine fun_ofw Tryz.func147 (by kernel_rfl) (by kernel_rfl) (w := let zi : Int → C := .int .i64; let z2 : List C := [.seq .shp f.plan.shapes, zi f.plan.root, zi f.plan.deep, zi f.plan.most, .own 1, .bool false, .bool f.st.isText, zi f.st.utf.want, zi f.st.utf.low, zi f.st.utf.high, .bool f.st.ended]; let z4 := utfSt f.st.utf e.text; let z5 := ([.cells (oFmr4 1 f), .lst .int f.st.stack] : List Blk); let z6 := vI (partCode (f).st e); let z7 := utfBad f.st.utf e.text; let z8 := partStep (f).st e; let z1 : List C := [.seq .shp (f).plan.shapes, zi (f).plan.root, zi (f).plan.deep, zi (f).plan.most, .own 1, .bool z8.inText, .bool z8.isText, zi z8.utf.want, zi z8.utf.low, zi z8.utf.high, .bool z8.ended]; let z3 : List Blk := [.cells z1, .lst .int z8.stack]; let z9 := !(decide (f.st.utf.want = 0) && (decide (f.st.utf.low = 0) && decide (f.st.utf.high = 0))); let z10 : List Blk := [.cells (oFmr4 1 f), .lst .int f.st.stack, .cells (cUtf z4)]; let z11 := ([.cells z2, .lst .int f.st.stack] : List Blk); let z12 := (.v (vI 0) : S); let z13 := decide (0 ≤ utfBad f.st.utf e.text); (.br (.br (.seg [.tree (fr (.two 6 (fr (.one 10 (.one 11 (.first 12 (.done)))) 7 3) 10 (.one 6 (fr (.one 11 (.first 12 (.done))) 7 3))) 0 6) 13 [], .call [] (.tup [.agg (cUtf z4), vI z7]) [], .at 0, .keep [0, 5, 6], .sel [0, 1, 3], .call [] (.tup [.agg (cUtf z4), vI z7]) [], .at 0, .keep [0, 5, 6], .sel [0, 1, 3]] (.br (.leaf () [0, 1]) (.leaf () [0, 1]))) (.leaf () [0, 1])) (.br (.br (.br (.leaf () [0, 1]) (.leaf () [0, 1])) (.leaf () [0, 1])) (.leaf () [0, 1])), ((decide (e.kind = 4)) = true → (f.st.isText = true → (Fun Tryz.prog 162 [.agg (cUtf f.st.utf), vT e.text] [] (.tup [.agg (cUtf z4), vI z7]) []) ∧ (Fun Tryz.prog 162 [.agg (cUtf f.st.utf), vT e.text] [] (.tup [.agg (cUtf z4), vI z7]) []) ∧ ((z10 : List Blk) = z10) ∧ (([(0, .v (vP 0)), (5, .v (vP 2)), (6, .v (vI z7))] : List (Nat × S)) = [(0, .v (vP 0)), (5, .v (vP 2)), (6, .v (vI z7))]) ∧ (z13 = true → (.v (vI 5) : S) = .v z6 ∧ z5 = z3) ∧ (z13 = false → z12 = .v z6 ∧ ([.cells [.seq .shp f.plan.shapes, zi f.plan.root, zi f.plan.deep, zi f.plan.most, .own 1, .bool f.st.inText, .bool f.st.isText, zi z4.want, zi z4.low, zi z4.high, .bool f.st.ended], .lst .int f.st.stack] : List Blk) = z3)) ∧ (f.st.isText = false → z12 = .v z6 ∧ z5 = z3)) ∧ ((decide (e.kind = 4)) = false → ((decide (e.kind = 5)) = true → (f.st.isText = true → (z9 = true → (.v (vI 5) : S) = .v z6 ∧ z5 = z3) ∧ (z9 = false → z12 = .v z6 ∧ z11 = z3)) ∧ (f.st.isText = false → z12 = .v z6 ∧ z11 = z3)) ∧ ((decide (e.kind = 5)) = false → (.v (vI 2) : S) = .v z6 ∧ z5 = z3)))) (by kernel_rfl) ?_
 refine dsp (fun h1 p1 => ?_) fun h1 p1 => ?_
 refine ⟨fun h2 => ?_, fun h2 => ?_⟩
 refine ⟨(utfText_i f.st.utf _ (by omega)), (utfText_i f.st.utf _ (by omega)), rfl, rfl, dsp (fun h3 p3 => ?_) fun h3 p3 => ?_⟩
 refine have hm1 : partStep (f).st e = f.st := ?_; ?_
 rotate_left
 refine ⟨(sI ?_), (by rw [hm1] <;> rfl)⟩
 rotate_left
 refine have hm1 : partStep (f).st e = (⟨f.st.stack, f.st.inText, f.st.isText, (utfSt f.st.utf e.text), f.st.ended⟩ : Fa) := ?_; ?_
 rotate_left
 refine ⟨(sI ?_), (by rw [hm1] <;> rfl)⟩
 rotate_left
 refine have hm1 : partStep (f).st e = f.st := ?_; ?_
 rotate_left
 refine ⟨(sI ?_), (by rw [hm1] <;> rfl)⟩
 rotate_left
 refine dsp (fun h2 p2 => ?_) fun h2 p2 => ?_
 refine ⟨fun h3 => ?_, fun h3 => ?_⟩
 refine ⟨fun h4 => have q4 := bnot_t h4; have p4 := (andF dT (andF dT dF)).1 q4; ?_, fun h4 => have q4 := bnot_f h4; have p4 := (andT dT (andT dT dT)).1 q4; ?_⟩
 have hu : f.st.utf ≠ utf0 := utf_ne (by simpa using q4)
 refine have hm1 : partStep (f).st e = f.st := ?_; ?_
 rotate_left
 refine ⟨(sI ?_), (by rw [hm1] <;> rfl)⟩
 rotate_left
 have hu : f.st.utf = utf0 := utf_eq (by simpa using q4)
 refine have hm1 : partStep (f).st e = (⟨f.st.stack, false, f.st.isText, f.st.utf, f.st.ended⟩ : Fa) := ?_; ?_
 rotate_left
 refine ⟨(sI ?_), (by rw [hm1] <;> rfl)⟩
 rotate_left
 refine have hm1 : partStep (f).st e = (⟨f.st.stack, false, f.st.isText, f.st.utf, f.st.ended⟩ : Fa) := ?_; ?_
 rotate_left
 refine ⟨(sI ?_), (by rw [hm1] <;> rfl)⟩
 rotate_left
 refine have hm1 : partStep (f).st e = f.st := ?_; ?_
 rotate_left
 refine ⟨(sI ?_), (by rw [hm1] <;> rfl)⟩
 rotate_left
 all_goals first | (simp_all [partStep, partCode]; done) | (grind [partStep, partCode])
theorem next_i (f : Fmr) (e : Ev) (hp1 : 1 ≤ List.length (f).st.stack) (hp2 : List.length (f).st.stack ≤ 1000) (hp3 : schemaOk (f).plan.shapes = true) (hp4 : List.length (e).text ≤ bigN) (hp5 : (0 : Int) ≤ (e).bits ∧ (e).bits ≤ 18446744073709551615) : Fun Tryz.prog 97 [vP 0, .agg (cEv e)] [.cells (oFmr4 1 f), .lst .int f.st.stack] (.v (vI (faCode (f).plan (f).st e))) [.cells [.seq .shp (f).plan.shapes, .int .i64 (f).plan.root, .int .i64 (f).plan.deep, .int .i64 (f).plan.most, .own 2, .bool (faStep (f).plan (f).st e).inText, .bool (faStep (f).plan (f).st e).isText, .int .i64 (faStep (f).plan (f).st e).utf.want, .int .i64 (faStep (f).plan (f).st e).utf.low, .int .i64 (faStep (f).plan (f).st e).utf.high, .bool (faStep (f).plan (f).st e).ended], .dead, .lst .int (faStep (f).plan (f).st e).stack] := by
 have hN : bigN = 274877906944 := rfl
 refine fun_ofw Tryz.func97 (by kernel_rfl) (by kernel_rfl) (w := let zi : Int → C := .int .i64; let z4 : List C := [.seq .shp f.plan.shapes, zi f.plan.root, zi f.plan.deep, zi f.plan.most, .own 2, .bool f.st.inText, .bool f.st.isText, zi f.st.utf.want, zi f.st.utf.low, zi f.st.utf.high, .bool true]; let z5 := (f.st.stack.length : Int); let z8 := vI (faCode (f).plan (f).st e); let z9 := valStep (f).plan (f).st e; let z2 : List C := [.seq .shp (f).plan.shapes, zi (f).plan.root, zi (f).plan.deep, zi (f).plan.most, .own 2, .bool z9.inText, .bool z9.isText, zi z9.utf.want, zi z9.utf.low, zi z9.utf.high, .bool z9.ended]; let z10 := ([.cells (oFmr4 2 f), .dead, .lst .int f.st.stack] : List Blk); let z12 := faStep (f).plan (f).st e; let z1 : List C := [.seq .shp (f).plan.shapes, zi (f).plan.root, zi (f).plan.deep, zi (f).plan.most, .own 2, .bool z12.inText, .bool z12.isText, zi z12.utf.want, zi z12.utf.low, zi z12.utf.high, .bool z12.ended]; let z6 : List Blk := [.cells z1, .dead, .lst .int z12.stack]; let z7 := (decide (e.kind = 8)) = true → ((decide (z5 = 1)) = true → (.v (vI 0) : S) = .v z8 ∧ ([.cells z4, .dead, .lst .int f.st.stack] : List Blk) = z6) ∧ ((decide (z5 = 1)) = false → (.v (vI 2) : S) = .v z8 ∧ z10 = z6); let z13 := partStep (f).st e; let z3 : List C := [.bool z13.inText, .bool z13.isText, zi z13.utf.want, zi z13.utf.low, zi z13.utf.high, .bool z13.ended]; let z11 : List Blk := [.cells (.seq .shp (f).plan.shapes :: zi (f).plan.root :: zi (f).plan.deep :: zi (f).plan.most :: .own 1 :: z3), .lst .int z13.stack]; let z14 := (decide (e.kind = 8)) = false → (.v (vI 2) : S) = .v z8 ∧ z10 = z6; let z15 : List Blk := [.cells z2, .dead, .lst .int z9.stack]; let z16 := (.v (vI (IntKind.i64.wrap (z5 - 1))) : S) = .v (vI (z5 - 1)); let z17 := vI (valCode (f).plan (f).st e); let z18 := vI (partCode (f).st e); let z19 := hasField e.kind; let z20 : List Blk := [.cells (oFmr4 1 f), .lst .int f.st.stack]; (.br (.seg [.at 0, .cut 0 4] (.leaf () [0, 1, 3])) (.br (.seg [.call [0, 1] (.v z18) z11, .at 0, .cut 0 4] (.leaf () [0, 1, 3])) (.seg [.call [] (.v (vB z19)) []] (.br (.seg [.call [0, 1] (.v z17) z15] (.leaf () [0, 1, 3])) (.br (.br (.seg [.ord (os 15 [14]) [], .as 47 (.v (vI (z5 - 1))), .at 0, .cut 0 4] (.leaf () [0, 1, 3])) (.br (.br (.seg [.at 0, .cut 0 4] (.leaf () [0, 1, 3])) (.seg [.at 0, .cut 0 4] (.leaf () [0, 1, 3]))) (.seg [.at 0, .cut 0 4] (.leaf () [0, 1, 3])))) (.br (.br (.seg [.at 0, .cut 0 4] (.leaf () [0, 1, 3])) (.seg [.at 0, .cut 0 4] (.leaf () [0, 1, 3]))) (.seg [.at 0, .cut 0 4] (.leaf () [0, 1, 3]))))))), (f.st.ended = true → (.v (vI 2) : S) = .v z8 ∧ z10 = z6) ∧ (f.st.ended = false → (f.st.inText = true → (Fun Tryz.prog 147 [vP 0, .agg (cEv e)] z20 (.v z18) z11) ∧ (.v z18 : S) = .v z8 ∧ ([.cells (.seq .shp (f).plan.shapes :: zi (f).plan.root :: zi (f).plan.deep :: zi (f).plan.most :: .own 2 :: z3), .dead, .lst .int z13.stack] : List Blk) = z6) ∧ (f.st.inText = false → (Fun Tryz.prog 110 [vI e.kind] [] (.v (vB z19)) []) ∧ (z19 = true → (Fun Tryz.prog 148 [vP 0, .agg (cEv e)] z20 (.v z17) z15) ∧ (.v z17 : S) = .v z8 ∧ (z15 : List Blk) = z6) ∧ (z19 = false → ((decide (e.kind = 7)) = true → ((decide (1 < z5)) = true → z16 ∧ z16 ∧ (z5 - 1 ≤ z5) ∧ ((0 : Int) ≤ z5 - 1) ∧ (z5 - 1 ≤ z5) ∧ ((0 : Int) ≤ z5 - 1) ∧ (.v (vI 0) : S) = .v z8 ∧ ([.cells (oFmr4 2 f), .dead, .lst .int (List.take ((Int.toNat (z5 - 1)) - 0) f.st.stack)] : List Blk) = z6) ∧ ((decide (1 < z5)) = false → z7 ∧ z14)) ∧ ((decide (e.kind = 7)) = false → z7 ∧ z14)))))) (by kernel_rfl) ?_
 refine ⟨fun h1 => ?_, fun h1 => ?_⟩
 refine have hm1 : faStep (f).plan (f).st e = f.st := ?_; ?_
 rotate_left
 refine ⟨(sI ?_), (by rw [hm1] <;> rfl)⟩
 rotate_left
 refine ⟨fun h2 => ?_, fun h2 => ?_⟩
 refine ⟨(part_i f e (by omega)), ?_⟩
 refine have hm1 : faStep (f).plan (f).st e = (partStep (f).st e) := ?_; ?_
 rotate_left
 refine ⟨(sI ?_), (by rw [hm1] <;> rfl)⟩
 rotate_left
 refine ⟨(hasField_i _), fun h3 => ?_, fun h3 => ?_⟩
 refine ⟨(value_i f e (by omega) (by omega) (by omega) (by omega) (by omega)), ?_⟩
 refine have hm1 : faStep (f).plan (f).st e = (valStep (f).plan (f).st e) := ?_; ?_
 rotate_left
 refine ⟨(sI ?_), (by rw [hm1] <;> rfl)⟩
 rotate_left
 refine dsp (fun h4 p4 => ?_) fun h4 p4 => ?_
 refine dsp (fun h5 p5 => ?_) fun h5 p5 => ?_
 refine ⟨(as_i64 (by omega) (by omega)), (as_i64 (by omega) (by omega)), (by omega), (by omega), (by omega), (by omega), ?_⟩
 refine have hm1 : faStep (f).plan (f).st e = (⟨List.take ((Int.toNat ((f.st.stack.length : Int) - 1)) - 0) f.st.stack, f.st.inText, f.st.isText, f.st.utf, f.st.ended⟩ : Fa) := ?_; ?_
 rotate_left
 refine ⟨(sI ?_), (by rw [hm1] <;> rfl)⟩
 rotate_left
 refine dsp (fun h6 p6 => ?_) fun h6 p6 => ?_
 refine dsp (fun h7 p7 => ?_) fun h7 p7 => ?_
 refine have hm1 : faStep (f).plan (f).st e = (⟨f.st.stack, f.st.inText, f.st.isText, f.st.utf, true⟩ : Fa) := ?_; ?_
 rotate_left
 refine ⟨(sI ?_), (by rw [hm1] <;> rfl)⟩
 rotate_left
 refine have hm1 : faStep (f).plan (f).st e = f.st := ?_; ?_
 rotate_left
 refine ⟨(sI ?_), (by rw [hm1] <;> rfl)⟩
 rotate_left
 refine have hm1 : faStep (f).plan (f).st e = f.st := ?_; ?_
 rotate_left
 refine ⟨(sI ?_), (by rw [hm1] <;> rfl)⟩
 rotate_left
 refine dsp (fun h5 p5 => ?_) fun h5 p5 => ?_
 refine dsp (fun h6 p6 => ?_) fun h6 p6 => ?_
 refine have hm1 : faStep (f).plan (f).st e = (⟨f.st.stack, f.st.inText, f.st.isText, f.st.utf, true⟩ : Fa) := ?_; ?_
 rotate_left
 refine ⟨(sI ?_), (by rw [hm1] <;> rfl)⟩
 rotate_left
 refine have hm1 : faStep (f).plan (f).st e = f.st := ?_; ?_
 rotate_left
 refine ⟨(sI ?_), (by rw [hm1] <;> rfl)⟩
 rotate_left
 refine have hm1 : faStep (f).plan (f).st e = f.st := ?_; ?_
 rotate_left
 refine ⟨(sI ?_), (by rw [hm1] <;> rfl)⟩
 rotate_left
 all_goals first | (simp_all [faStep, faCode]; done) | (grind [faStep, faCode])
theorem payload_s (r : Fs) (e : Ev) (hp1 : List.length (e).text ≤ bigN) (hp2 : utfOk (r).utf = true) : Fun Tryz.prog 98 [vP 0, .agg (cEv e)] [.cells (oFs0 1 r), .lst .int r.stack] (.v (vI (partCode (absS r) e))) [.cells (oFs0 1 (fsPart r e)), .lst .int (fsPart r e).stack] := by
 have hN : bigN = 274877906944 := rfl
 refine fun_ofw Tryz.func98 (by kernel_rfl) (by kernel_rfl) (w := let zi : Int → C := .int .i64; let z1 : List C := [.own 1, zi r.field.number, zi r.field.kind, .bool r.field.rep, .bool r.field.packed, zi r.field.msg, .bool false, zi r.utf.want, zi r.utf.low, zi r.utf.high, .bool r.ended]; let z2 : List Blk := [.cells (oFs0 1 (fsPart r e)), .lst .int (fsPart r e).stack]; let z3 := decide (r.field.kind = 6); let z4 := ([.cells (oFs0 1 r), .lst .int r.stack] : List Blk); let z5 := vI (partCode (absS r) e); let z6 := utfSt r.utf e.text; let z7 := utfBad r.utf e.text; let z8 : List Blk := [.cells (oFs0 1 r), .lst .int r.stack, .cells (cUtf z6)]; let z9 := ([.cells z1, .lst .int r.stack] : List Blk); let z10 := (.v (vI 0) : S); let z11 := decide (0 ≤ utfBad r.utf e.text); (.br (.seg [.tree (fr (.two 6 (fr (.one 10 (.one 11 (.first 12 (.done)))) 7 3) 10 (.one 6 (fr (.one 11 (.first 12 (.done))) 7 3))) 0 6) 13 [], .call [] (.tup [.agg (cUtf z6), vI z7]) [], .at 0, .keep [0, 5, 6, 7], .sel [0, 1, 3], .call [] (.tup [.agg (cUtf z6), vI z7]) [], .at 0, .keep [0, 5, 6, 7], .sel [0, 1, 3]] (.br (.br (.leaf () [0, 1]) (.seg [.br true] (.leaf () [0, 1]))) (.seg [.br false] (.leaf () [0, 1])))) (.br (.br (.br (.leaf () [0, 1]) (.leaf () [0, 1])) (.leaf () [0, 1])) (.leaf () [0, 1])), ((decide (e.kind = 4)) = true → (Fun Tryz.prog 149 [.agg (cUtf r.utf), vT e.text] [] (.tup [.agg (cUtf z6), vI z7]) []) ∧ (Fun Tryz.prog 149 [.agg (cUtf r.utf), vT e.text] [] (.tup [.agg (cUtf z6), vI z7]) []) ∧ ((z8 : List Blk) = z8) ∧ (([(0, .v (vP 0)), (5, .v (vB z3)), (6, .v (vP 2)), (7, .v (vI z7))] : List (Nat × S)) = [(0, .v (vP 0)), (5, .v (vB z3)), (6, .v (vP 2)), (7, .v (vI z7))]) ∧ (z3 = true → (z11 = true → (.v (vI 5) : S) = .v z5 ∧ z4 = z2) ∧ (z11 = false → (z3 = true) ∧ z10 = .v z5 ∧ ([.cells [.own 1, zi r.field.number, zi r.field.kind, .bool r.field.rep, .bool r.field.packed, zi r.field.msg, .bool r.open_, zi z6.want, zi z6.low, zi z6.high, .bool r.ended], .lst .int r.stack] : List Blk) = z2)) ∧ (z3 = false → (z3 = false) ∧ z10 = .v z5 ∧ z4 = z2)) ∧ ((decide (e.kind = 4)) = false → ((decide (e.kind = 5)) = true → (z3 = true → ((decide (0 < r.utf.want)) = true → (.v (vI 5) : S) = .v z5 ∧ z4 = z2) ∧ ((decide (0 < r.utf.want)) = false → z10 = .v z5 ∧ z9 = z2)) ∧ (z3 = false → z10 = .v z5 ∧ z9 = z2)) ∧ ((decide (e.kind = 5)) = false → (.v (vI 2) : S) = .v z5 ∧ z4 = z2)))) (by kernel_rfl) ?_
 refine dsp (fun h1 p1 => ?_) fun h1 p1 => ?_
 refine ⟨(utfText_s r.utf _ (by omega)), (utfText_s r.utf _ (by omega)), rfl, rfl, dsp (fun h2 p2 => ?_) fun h2 p2 => ?_⟩
 refine dsp (fun h3 p3 => ?_) fun h3 p3 => ?_
 refine have hm1 : fsPart r e = r := ?_; ?_
 rotate_left
 refine ⟨(sI ?_), (by rw [hm1] <;> rfl)⟩
 rotate_left
 refine ⟨h2, ?_⟩
 refine have hm1 : fsPart r e = (⟨r.stack, r.field, r.open_, (utfSt r.utf e.text), r.ended⟩ : Fs) := ?_; ?_
 rotate_left
 refine ⟨(sI ?_), (by rw [hm1] <;> rfl)⟩
 rotate_left
 refine ⟨h2, ?_⟩
 refine have hm1 : fsPart r e = r := ?_; ?_
 rotate_left
 refine ⟨(sI ?_), (by rw [hm1] <;> rfl)⟩
 rotate_left
 refine dsp (fun h2 p2 => ?_) fun h2 p2 => ?_
 refine dsp (fun h3 p3 => ?_) fun h3 p3 => ?_
 refine dsp (fun h4 p4 => ?_) fun h4 p4 => ?_
 have hu : r.utf ≠ utf0 := fun e => by rw [e] at p4; exact absurd p4 (by decide)
 refine have hm1 : fsPart r e = r := ?_; ?_
 rotate_left
 refine ⟨(sI ?_), (by rw [hm1] <;> rfl)⟩
 rotate_left
 have hw := utfOk_want hp2
 have hu : r.utf = utf0 := utfOk_zero hp2 (by omega)
 refine have hm1 : fsPart r e = (⟨r.stack, r.field, false, r.utf, r.ended⟩ : Fs) := ?_; ?_
 rotate_left
 refine ⟨(sI ?_), (by rw [hm1] <;> rfl)⟩
 rotate_left
 refine have hm1 : fsPart r e = (⟨r.stack, r.field, false, r.utf, r.ended⟩ : Fs) := ?_; ?_
 rotate_left
 refine ⟨(sI ?_), (by rw [hm1] <;> rfl)⟩
 rotate_left
 refine have hm1 : fsPart r e = r := ?_; ?_
 rotate_left
 refine ⟨(sI ?_), (by rw [hm1] <;> rfl)⟩
 rotate_left
 all_goals first | (simp_all [fsPart, partStep, partCode, absS]; done) | (grind [fsPart, partStep, partCode, absS])
theorem field_s (p : Pln) (r : Fs) (e : Ev) (hp1 : 1 ≤ List.length (r).stack) (hp2 : List.length (r).stack ≤ 1000) (hp3 : schemaOk (p).shapes = true) (hp4 : List.length (e).text ≤ bigN) (hp5 : (0 : Int) ≤ (e).bits ∧ (e).bits ≤ 18446744073709551615) (hp6 : hasField (e).kind = true) : Fun Tryz.prog 99 [.agg (cPln p), vP 0, .agg (cEv e)] [.cells (oFs0 1 r), .lst .int r.stack] (.v (vI (valCode p (absS r) e))) [.cells (oFs0 2 (fsVal p r e)), .dead, .lst .int (fsVal p r e).stack] := by
 have hN : bigN = 274877906944 := rfl
 have hs6 := schemaOk_t hp3
 have hk := hp6
 simp only [hasField, Bool.or_eq_true, decide_eq_true_eq] at hk
 refine fun_ofw Tryz.func99 (by kernel_rfl) (by kernel_rfl) (w := let zi : Int → C := .int .i64; let z6 : List Blk := [.cells (oFs0 2 (fsVal p r e)), .dead, .lst .int (fsVal p r e).stack]; let z7 := ([.cells (oFs0 2 r), .dead, .lst .int r.stack] : List Blk); let z8 := (r.stack.length : Int); let z9 := vI (valCode p (absS r) e); let z11 := (.v (vI 0) : S); let z12 := (.v (vI (IntKind.i64.wrap (z8 - 1))) : S) = .v (vI (z8 - 1)); let z13 := decide (e.kind = 2); let z14 := decide (e.kind = 3); let z15 := (.v (vI 2) : S); let z16 := decide (p.deep ≤ z8); let z10 := z16 = true → (.v (vI 6) : S) = .v z9 ∧ z7 = z6; (.intro (fun (x1 : Int) => r.stack[Int.toNat (z8 - 1)]? = some x1) fun x1 => let z2 := fieldAt p.shapes x1 e.field; let z1 := z2.getD fld0; .seg [.tree (fr (.two 16 (fr (.one 20 (.one 21 (.first 22 (.done)))) 17 3) 20 (.one 16 (fr (.one 21 (.first 22 (.done))) 17 3))) 0 16) 23 [], .as 22 (.v (vI (z8 - 1))), .el .int x1, .call [] (.tup [.agg (cFld z1), vB z2.isSome]) [], .at 0, .keep [1, 3, 5, 7, 8], .sel [0, 1, 2, 3, 4], .call [] (.tup [.agg (cFld z1), vB z2.isSome]) [], .at 0, .keep [1, 3, 5, 7, 8], .sel [0, 1, 2, 3, 4]] (.br (.seg [.at 0, .cut 0 0] (.leaf () [0, 1, 5])) (.br (.br (.seg [.call [] (.v (vB (numeric z1.kind))) []] (.br (.seg [.at 0, .cut 0 0] (.leaf () [0, 1, 5])) (.seg [.call [] (.v (vB (bitsFit z1.kind e.bits))) []] (.br (.seg [.at 0, .cut 0 0] (.leaf () [0, 1, 5])) (.seg [.at 0, .cut 0 0] (.leaf () [0, 1, 5])))))) (.br (.seg [.at 0, .cut 0 0] (.leaf () [0, 1, 5])) (.br (.seg [.at 0, .cut 0 0] (.leaf () [0, 1, 5])) (.seg [.ord (os 8 []) []] (.br (.seg [.at 0, .cut 0 0] (.leaf () [0, 1, 5])) (.seg [.ord (os 12 [7, 8, 11]) [1], .ty .int, .ty .int] (.leaf () [0, 1, 6]))))))) (.br (.seg [.call [] (.v (vB (numeric z1.kind))) []] (.br (.seg [.at 0, .cut 0 0] (.leaf () [0, 1, 5])) (.seg [.call [] (.v (vB (bitsFit z1.kind e.bits))) []] (.br (.seg [.at 0, .cut 0 0] (.leaf () [0, 1, 5])) (.seg [.at 0, .cut 0 0] (.leaf () [0, 1, 5])))))) (.br (.br (.seg [.at 0, .cut 0 0] (.leaf () [0, 1, 5])) (.seg [.at 0, .cut 0 0] (.leaf () [0, 1, 5]))) (.br (.seg [.at 0, .cut 0 0] (.leaf () [0, 1, 5])) (.seg [.ord (os 8 []) []] (.br (.seg [.at 0, .cut 0 0] (.leaf () [0, 1, 5])) (.seg [.ord (os 12 [7, 8, 11]) [1], .ty .int, .ty .int] (.leaf () [0, 1, 6]))))))))), (∃ (x1 : Int), r.stack[Int.toNat (z8 - 1)]? = some x1) ∧ ∀ (x1 : Int), (r.stack[Int.toNat (z8 - 1)]? = some x1) → (let z4 := fieldAt p.shapes x1 e.field; let z3 := z4.getD fld0; let z5 := r.stack[Int.toNat (z8 - 1)]? = some x1; z12 ∧ z12 ∧ (z8 - 1 < z8) ∧ ((0 : Int) ≤ z8 - 1) ∧ (z8 - 1 < z8) ∧ ((0 : Int) ≤ z8 - 1) ∧ z5 ∧ z5 ∧ (Fun Tryz.prog 84 [.agg [.seq .shp p.shapes], vI x1, vI e.field] [] (.tup [.agg (cFld z3), vB z4.isSome]) []) ∧ (Fun Tryz.prog 84 [.agg [.seq .shp p.shapes], vI x1, vI e.field] [] (.tup [.agg (cFld z3), vB z4.isSome]) []) ∧ (([.cells (oFs0 1 r), .lst .int r.stack, .cells (cPln p), .cells (cEv e), .cells (cFld z3)] : List Blk) = [.cells (oFs0 1 r), .lst .int r.stack, .cells (cPln p), .cells (cEv e), .cells (cFld z3)]) ∧ (([(1, .v (vP 0)), (3, .v (vP 2)), (5, .v (vP 3)), (7, .v (vP 4)), (8, .v (vB z4.isSome))] : List (Nat × S)) = [(1, .v (vP 0)), (3, .v (vP 2)), (5, .v (vP 3)), (7, .v (vP 4)), (8, .v (vB z4.isSome))]) ∧ ((!z4.isSome) = true → (.v (vI 3) : S) = .v z9 ∧ z7 = z6) ∧ ((!z4.isSome) = false → ((decide (z3.kind = 6)) = true → (z13 = true → (Fun Tryz.prog 141 [vI z3.kind] [] (.v (vB (numeric z3.kind))) []) ∧ ((!(numeric z3.kind)) = true → z15 = .v z9 ∧ z7 = z6) ∧ ((!(numeric z3.kind)) = false → (Fun Tryz.prog 150 [vI z3.kind, .c (.int .u64 e.bits)] [] (.v (vB (bitsFit z3.kind e.bits))) []) ∧ ((!(bitsFit z3.kind e.bits)) = true → (.v (vI 4) : S) = .v z9 ∧ z7 = z6) ∧ ((!(bitsFit z3.kind e.bits)) = false → z11 = .v z9 ∧ z7 = z6))) ∧ (z13 = false → (z14 = true → z11 = .v z9 ∧ ([.cells [.own 2, zi z3.number, zi z3.kind, .bool z3.rep, .bool z3.packed, zi z3.msg, .bool true, zi 0, zi 0, zi 0, .bool r.ended], .dead, .lst .int r.stack] : List Blk) = z6) ∧ (z14 = false → ((!decide (z3.kind = 8)) = true → z15 = .v z9 ∧ z7 = z6) ∧ ((!decide (z3.kind = 8)) = false → z10 ∧ (z16 = false → (r.stack.length + List.length [z3.msg] ≤ bigN) ∧ z11 = .v z9 ∧ ([.cells (oFs0 2 r), .dead, .lst .int (r.stack ++ [z3.msg])] : List Blk) = z6))))) ∧ ((decide (z3.kind = 6)) = false → (z13 = true → (Fun Tryz.prog 141 [vI z3.kind] [] (.v (vB (numeric z3.kind))) []) ∧ ((!(numeric z3.kind)) = true → z15 = .v z9 ∧ z7 = z6) ∧ ((!(numeric z3.kind)) = false → (Fun Tryz.prog 150 [vI z3.kind, .c (.int .u64 e.bits)] [] (.v (vB (bitsFit z3.kind e.bits))) []) ∧ ((!(bitsFit z3.kind e.bits)) = true → (.v (vI 4) : S) = .v z9 ∧ z7 = z6) ∧ ((!(bitsFit z3.kind e.bits)) = false → z11 = .v z9 ∧ z7 = z6))) ∧ (z13 = false → (z14 = true → ((!(decide (z3.kind = 7))) = true → z15 = .v z9 ∧ z7 = z6) ∧ ((!(decide (z3.kind = 7))) = false → z11 = .v z9 ∧ ([.cells [.own 2, zi z3.number, zi z3.kind, .bool z3.rep, .bool z3.packed, zi z3.msg, .bool true, zi 0, zi 0, zi 0, .bool r.ended], .dead, .lst .int r.stack] : List Blk) = z6)) ∧ (z14 = false → ((!decide (z3.kind = 8)) = true → z15 = .v z9 ∧ z7 = z6) ∧ ((!decide (z3.kind = 8)) = false → z10 ∧ (z16 = false → (r.stack.length + List.length [z3.msg] ≤ bigN) ∧ z11 = .v z9 ∧ ([.cells (oFs0 2 r), .dead, .lst .int (r.stack ++ [z3.msg])] : List Blk) = z6))))))))) (by kernel_rfl) ?_
 refine ⟨(ax_get (l := r.stack) (i := Int.toNat ((r.stack.length : Int) - 1)) (by omega)), fun x1 hx1 => ?_⟩
 have hlast : lastD r.stack = x1 := by unfold lastD; exact getD_of (by rw [← hx1]; congr 1; omega)
 have hown : faOwn p (absS r) e = (fieldAt p.shapes x1 e.field) := by unfold faOwn; rw [show lastD (absS r).stack = x1 from hlast]
 refine ⟨(as_i64 (by omega) (by omega)), (as_i64 (by omega) (by omega)), (by omega), (by omega), (by omega), (by omega), hx1, hx1, (fieldAt_s p.shapes _ _ (by omega) (schemaOk_fields hp3)), (fieldAt_s p.shapes _ _ (by omega) (schemaOk_fields hp3)), rfl, rfl, fun h1 => have q1 := bnot_t h1; ?_, fun h1 => have q1 := bnot_f h1; ?_⟩
 have ho : (fieldAt p.shapes x1 e.field) = none := by simpa using q1
 have hg : (fieldAt p.shapes x1 e.field).getD fld0 = fld0 := by rw [ho]; rfl
 have hvc := valCode_none (hown.trans ho)
 have hvs := valStep_none (hown.trans ho)
 refine have hm1 : fsVal p r e = r := ?_; ?_
 rotate_left
 refine ⟨(sI ?_), (by rw [hm1] <;> rfl)⟩
 rotate_left
 obtain ⟨o, ho⟩ := Option.isSome_iff_exists.1 q1
 have hg : (fieldAt p.shapes x1 e.field).getD fld0 = o := by rw [ho]; rfl
 have hvc := valCode_some (hown.trans ho)
 have hvs := valStep_some (hown.trans ho)
 refine dsp (fun h2 p2 => ?_) fun h2 p2 => ?_
 refine dsp (fun h3 p3 => ?_) fun h3 p3 => ?_
 refine ⟨(numeric_s _), fun h4 => have q4 := bnot_t h4; have p4 := within_f q4; ?_, fun h4 => have q4 := bnot_f h4; have p4 := within_t q4; ?_⟩
 refine have hm1 : fsVal p r e = r := ?_; ?_
 rotate_left
 refine ⟨(sI ?_), (by rw [hm1] <;> rfl)⟩
 rotate_left
 refine ⟨(bitsFit_s _ _ (by omega)), fun h5 => have q5 := bnot_t h5; ?_, fun h5 => have q5 := bnot_f h5; ?_⟩
 refine have hm1 : fsVal p r e = r := ?_; ?_
 rotate_left
 refine ⟨(sI ?_), (by rw [hm1] <;> rfl)⟩
 rotate_left
 refine have hm1 : fsVal p r e = r := ?_; ?_
 rotate_left
 refine ⟨(sI ?_), (by rw [hm1] <;> rfl)⟩
 rotate_left
 refine dsp (fun h4 p4 => ?_) fun h4 p4 => ?_
 refine have hm1 : fsVal p r e = (⟨r.stack, ((fieldAt p.shapes x1 e.field).getD fld0), true, utf0, r.ended⟩ : Fs) := ?_; ?_
 rotate_left
 refine ⟨(sI ?_), (by rw [hm1] <;> rfl)⟩
 rotate_left
 refine ⟨fun h5 => have q5 := bnot_t h5; have p5 := of_decide_eq_false q5; ?_, fun h5 => have q5 := bnot_f h5; have p5 := of_decide_eq_true q5; ?_⟩
 refine have hm1 : fsVal p r e = r := ?_; ?_
 rotate_left
 refine ⟨(sI ?_), (by rw [hm1] <;> rfl)⟩
 rotate_left
 refine dsp (fun h6 p6 => ?_) fun h6 p6 => ?_
 refine have hm1 : fsVal p r e = r := ?_; ?_
 rotate_left
 refine ⟨(sI ?_), (by rw [hm1] <;> rfl)⟩
 rotate_left
 refine ⟨(by simp only [List.length_cons, List.length_nil]; omega), ?_⟩
 refine have hm1 : fsVal p r e = (⟨r.stack ++ [((fieldAt p.shapes x1 e.field).getD fld0).msg], r.field, r.open_, r.utf, r.ended⟩ : Fs) := ?_; ?_
 rotate_left
 refine ⟨(sI ?_), (by rw [hm1] <;> rfl)⟩
 rotate_left
 refine dsp (fun h3 p3 => ?_) fun h3 p3 => ?_
 refine ⟨(numeric_s _), fun h4 => have q4 := bnot_t h4; have p4 := within_f q4; ?_, fun h4 => have q4 := bnot_f h4; have p4 := within_t q4; ?_⟩
 refine have hm1 : fsVal p r e = r := ?_; ?_
 rotate_left
 refine ⟨(sI ?_), (by rw [hm1] <;> rfl)⟩
 rotate_left
 refine ⟨(bitsFit_s _ _ (by omega)), fun h5 => have q5 := bnot_t h5; ?_, fun h5 => have q5 := bnot_f h5; ?_⟩
 refine have hm1 : fsVal p r e = r := ?_; ?_
 rotate_left
 refine ⟨(sI ?_), (by rw [hm1] <;> rfl)⟩
 rotate_left
 refine have hm1 : fsVal p r e = r := ?_; ?_
 rotate_left
 refine ⟨(sI ?_), (by rw [hm1] <;> rfl)⟩
 rotate_left
 refine dsp (fun h4 p4 => ?_) fun h4 p4 => ?_
 refine ⟨fun h5 => have q5 := bnot_t h5; have p5 := of_decide_eq_false q5; ?_, fun h5 => have q5 := bnot_f h5; have p5 := of_decide_eq_true q5; ?_⟩
 refine have hm1 : fsVal p r e = r := ?_; ?_
 rotate_left
 refine ⟨(sI ?_), (by rw [hm1] <;> rfl)⟩
 rotate_left
 refine have hm1 : fsVal p r e = (⟨r.stack, ((fieldAt p.shapes x1 e.field).getD fld0), true, utf0, r.ended⟩ : Fs) := ?_; ?_
 rotate_left
 refine ⟨(sI ?_), (by rw [hm1] <;> rfl)⟩
 rotate_left
 refine ⟨fun h5 => have q5 := bnot_t h5; have p5 := of_decide_eq_false q5; ?_, fun h5 => have q5 := bnot_f h5; have p5 := of_decide_eq_true q5; ?_⟩
 refine have hm1 : fsVal p r e = r := ?_; ?_
 rotate_left
 refine ⟨(sI ?_), (by rw [hm1] <;> rfl)⟩
 rotate_left
 refine dsp (fun h6 p6 => ?_) fun h6 p6 => ?_
 refine have hm1 : fsVal p r e = r := ?_; ?_
 rotate_left
 refine ⟨(sI ?_), (by rw [hm1] <;> rfl)⟩
 rotate_left
 refine ⟨(by simp only [List.length_cons, List.length_nil]; omega), ?_⟩
 refine have hm1 : fsVal p r e = (⟨r.stack ++ [((fieldAt p.shapes x1 e.field).getD fld0).msg], r.field, r.open_, r.utf, r.ended⟩ : Fs) := ?_; ?_
 rotate_left
 refine ⟨(sI ?_), (by rw [hm1] <;> rfl)⟩
 rotate_left
 all_goals first | (rw [fsVal, hvs, hvc]; simp_all [isBytes, utf0, absS]; done) | (rw [hvc]; simp_all [isBytes, utf0, absS]; done) | (grind (splits := 25) [isBytes, fld0, absS, fsVal])
theorem event_s (p : Pln) (r : Fs) (e : Ev) (hp1 : 1 ≤ List.length (r).stack) (hp2 : List.length (r).stack ≤ 1000) (hp3 : schemaOk (p).shapes = true) (hp4 : List.length (e).text ≤ bigN) (hp5 : (0 : Int) ≤ (e).bits ∧ (e).bits ≤ 18446744073709551615) (hp6 : utfOk (r).utf = true) : Fun Tryz.prog 60 [.agg (cPln p), vP 0, .agg (cEv e)] [.cells (oFs0 1 r), .lst .int r.stack] (.v (vI (faCode p (absS r) e))) [.cells (oFs0 2 (fsStep p r e)), .dead, .lst .int (fsStep p r e).stack] := by
 have hN : bigN = 274877906944 := rfl
 refine fun_ofw Tryz.func60 (by kernel_rfl) (by kernel_rfl) (w := let z1 : List Blk := [.cells (oFs0 2 (fsStep p r e)), .dead, .lst .int (fsStep p r e).stack]; let z2 : List Blk := [.cells (oFs0 2 (fsVal p r e)), .dead, .lst .int (fsVal p r e).stack]; let z3 := (r.stack.length : Int); let z4 := vI (faCode p (absS r) e); let z5 := vI (valCode p (absS r) e); let z6 := ([.cells (oFs0 2 r), .dead, .lst .int r.stack] : List Blk); let z7 : List Blk := [.cells (oFs0 1 r), .lst .int r.stack]; let z8 : List Blk := [.cells (oFs0 1 (fsPart r e)), .lst .int (fsPart r e).stack]; let z9 := vI (partCode (absS r) e); let z10 := (.v (vI 2) : S); let z11 := decide (e.kind = 2); let z12 := decide (e.kind = 3); (.br (.seg [.at 0, .cut 0 0] (.leaf () [0, 1, 4])) (.br (.seg [.call [0, 1] (.v z9) z8, .at 0, .cut 0 0] (.leaf () [0, 1, 4])) (.br (.seg [.br true, .call [0, 1] (.v z5) z2] (.leaf () [0, 1, 4])) (.br (.seg [.br true, .call [0, 1] (.v z5) z2] (.leaf () [0, 1, 4])) (.br (.seg [.call [0, 1] (.v z5) z2] (.leaf () [0, 1, 4])) (.br (.br (.seg [.as 44 (.v (vI (z3 - 1))), .at 0, .cut 0 0] (.leaf () [0, 1, 4])) (.seg [.at 0, .cut 0 0] (.leaf () [0, 1, 4]))) (.br (.br (.seg [.at 0, .cut 0 0] (.leaf () [0, 1, 4])) (.seg [.at 0, .cut 0 0] (.leaf () [0, 1, 4]))) (.seg [.at 0, .cut 0 0] (.leaf () [0, 1, 4])))))))), (r.ended = true → z10 = .v z4 ∧ z6 = z1) ∧ (r.ended = false → (r.open_ = true → (Fun Tryz.prog 98 [vP 0, .agg (cEv e)] z7 (.v z9) z8) ∧ (.v z9 : S) = .v z4 ∧ ([.cells (oFs0 2 (fsPart r e)), .dead, .lst .int (fsPart r e).stack] : List Blk) = z1) ∧ (r.open_ = false → (z11 = true → (z11 = true) ∧ (Fun Tryz.prog 99 [.agg (cPln p), vP 0, .agg (cEv e)] z7 (.v z5) z2) ∧ (.v z5 : S) = .v z4 ∧ (z2 : List Blk) = z1) ∧ (z11 = false → (z12 = true → (z12 = true) ∧ (Fun Tryz.prog 99 [.agg (cPln p), vP 0, .agg (cEv e)] z7 (.v z5) z2) ∧ (.v z5 : S) = .v z4 ∧ (z2 : List Blk) = z1) ∧ (z12 = false → ((decide (e.kind = 6)) = true → (Fun Tryz.prog 99 [.agg (cPln p), vP 0, .agg (cEv e)] z7 (.v z5) z2) ∧ (.v z5 : S) = .v z4 ∧ (z2 : List Blk) = z1) ∧ ((decide (e.kind = 6)) = false → ((decide (e.kind = 7)) = true → ((decide (1 < z3)) = true → ((.v (vI (IntKind.i64.wrap (z3 - 1))) : S) = .v (vI (z3 - 1))) ∧ (z3 - 1 ≤ z3) ∧ ((0 : Int) ≤ z3 - 1) ∧ (.v (vI 0) : S) = .v z4 ∧ ([.cells (oFs0 2 r), .dead, .lst .int (List.take ((Int.toNat (z3 - 1)) - 0) r.stack)] : List Blk) = z1) ∧ ((decide (1 < z3)) = false → z10 = .v z4 ∧ z6 = z1)) ∧ ((decide (e.kind = 7)) = false → ((decide (e.kind = 8)) = true → ((decide (z3 = 1)) = true → (.v (vI 0) : S) = .v z4 ∧ ([.cells [.own 2, .int .i64 r.field.number, .int .i64 r.field.kind, .bool r.field.rep, .bool r.field.packed, .int .i64 r.field.msg, .bool r.open_, .int .i64 r.utf.want, .int .i64 r.utf.low, .int .i64 r.utf.high, .bool true], .dead, .lst .int r.stack] : List Blk) = z1) ∧ ((decide (z3 = 1)) = false → z10 = .v z4 ∧ z6 = z1)) ∧ ((decide (e.kind = 8)) = false → z10 = .v z4 ∧ z6 = z1))))))))) (by kernel_rfl) ?_
 refine ⟨fun h1 => ?_, fun h1 => ?_⟩
 refine have hm1 : fsStep p r e = r := ?_; ?_
 rotate_left
 refine ⟨(sI ?_), (by rw [hm1] <;> rfl)⟩
 rotate_left
 refine ⟨fun h2 => ?_, fun h2 => ?_⟩
 refine ⟨(payload_s r e (by omega) (by omega)), ?_⟩
 refine have hm1 : fsStep p r e = (fsPart r e) := ?_; ?_
 rotate_left
 refine ⟨(sI ?_), (by rw [hm1] <;> rfl)⟩
 rotate_left
 refine dsp (fun h3 p3 => ?_) fun h3 p3 => ?_
 refine ⟨h3, (field_s p r e (by omega) (by omega) (by omega) (by omega) (by omega) (by simp_all [hasField])), ?_⟩
 refine have hm1 : fsStep p r e = (fsVal p r e) := ?_; ?_
 rotate_left
 refine ⟨(sI ?_), (by rw [hm1] <;> rfl)⟩
 rotate_left
 refine dsp (fun h4 p4 => ?_) fun h4 p4 => ?_
 refine ⟨h4, (field_s p r e (by omega) (by omega) (by omega) (by omega) (by omega) (by simp_all [hasField])), ?_⟩
 refine have hm1 : fsStep p r e = (fsVal p r e) := ?_; ?_
 rotate_left
 refine ⟨(sI ?_), (by rw [hm1] <;> rfl)⟩
 rotate_left
 refine dsp (fun h5 p5 => ?_) fun h5 p5 => ?_
 refine ⟨(field_s p r e (by omega) (by omega) (by omega) (by omega) (by omega) (by simp_all [hasField])), ?_⟩
 refine have hm1 : fsStep p r e = (fsVal p r e) := ?_; ?_
 rotate_left
 refine ⟨(sI ?_), (by rw [hm1] <;> rfl)⟩
 rotate_left
 refine dsp (fun h6 p6 => ?_) fun h6 p6 => ?_
 refine dsp (fun h7 p7 => ?_) fun h7 p7 => ?_
 refine ⟨(as_i64 (by omega) (by omega)), (by omega), (by omega), ?_⟩
 refine have hm1 : fsStep p r e = (⟨List.take ((Int.toNat ((r.stack.length : Int) - 1)) - 0) r.stack, r.field, r.open_, r.utf, r.ended⟩ : Fs) := ?_; ?_
 rotate_left
 refine ⟨(sI ?_), (by rw [hm1] <;> rfl)⟩
 rotate_left
 refine have hm1 : fsStep p r e = r := ?_; ?_
 rotate_left
 refine ⟨(sI ?_), (by rw [hm1] <;> rfl)⟩
 rotate_left
 refine dsp (fun h7 p7 => ?_) fun h7 p7 => ?_
 refine dsp (fun h8 p8 => ?_) fun h8 p8 => ?_
 refine have hm1 : fsStep p r e = (⟨r.stack, r.field, r.open_, r.utf, true⟩ : Fs) := ?_; ?_
 rotate_left
 refine ⟨(sI ?_), (by rw [hm1] <;> rfl)⟩
 rotate_left
 refine have hm1 : fsStep p r e = r := ?_; ?_
 rotate_left
 refine ⟨(sI ?_), (by rw [hm1] <;> rfl)⟩
 rotate_left
 refine have hm1 : fsStep p r e = r := ?_; ?_
 rotate_left
 refine ⟨(sI ?_), (by rw [hm1] <;> rfl)⟩
 rotate_left
 all_goals first | (simp_all [fsStep, faCode, absS, hasField]; done) | (grind [fsStep, faCode, absS, hasField])
structure frameCode_i_V0 where
 f : Fmr
 v : Nat
def frameCode_i_F0 (p : Pln) (l : List Ev) : Fam := ⟨frameCode_i_V0, fun q1 => [(1, .v (.c (.seq .ev l))), (6, .v (vP 0)), (32, .v (.c (.seq .ev (List.drop 1 l)))), (33, .v (vI ((List.length (List.drop 1 l) : Nat) : Int))), (34, .v (vI (q1.v : Int)))], fun q1 => [.cells (oFmr4 1 q1.f), .lst .int q1.f.st.stack], fun q1 => q1.v + 1 ≤ l.length ∧ (q1.f).plan = p ∧ 1 ≤ List.length (q1.f).st.stack ∧ List.length (q1.f).st.stack ≤ 8 ∧ faRun p (q1.f).st (List.drop q1.v (List.drop 1 l)) ((q1.v : Int) + 1) = frameCode p l, fun q1 => l.length - q1.v⟩
theorem frameCode_i (p : Pln) (l : List Ev) (hp1 : l.length ≤ bigN) (hp2 : ∀ e ∈ l, EvB e) : Fun Tryz.prog 58 [.agg (cPln p), .c (.seq .ev l)] [] (.tup [vI (frameCode p l).1, vI (frameCode p l).2]) [] := by
 have hN : bigN = 274877906944 := rfl
 refine fun_ofw Tryz.func58 (by kernel_rfl) (by kernel_rfl) (w := let zi : Int → C := .int .i64; let z6 : List V := [vI (frameCode p l).1, vI (frameCode p l).2]; let z8 := (l.length : Int); let z9 := List.drop 1 l; let z7 := (z9.length : Int); let z10 := ([] : List Blk); let z11 := frameCode_i_F0 p l; let z12 := (.tup [vI 1, vI 0] : S); (.seg [.call [] (.v (vB (planOk p))) []] (.br (.leaf () []) (.br (.leaf () []) (.intro (fun (x1 : Ev) => l[0]? = some x1) fun x1 => .seg [.el .ev x1] (.br (.leaf () []) (.seg [.ty .int, .at 0, .keep [1, 6, 32, 33, 34], .sel [2, 1]] (.loop z11 fun q1 => .br (.intro (fun (x2 : Ev) => z9[q1.v]? = some x2) fun x2 => let z1 := faStep (q1.f).plan (q1.f).st x2; .seg [.el .ev x2, .call [0, 1] (.v (vI (faCode (q1.f).plan (q1.f).st x2))) [.cells [.seq .shp (q1.f).plan.shapes, zi (q1.f).plan.root, zi (q1.f).plan.deep, zi (q1.f).plan.most, .own 2, .bool z1.inText, .bool z1.isText, zi z1.utf.want, zi z1.utf.low, zi z1.utf.high, .bool z1.ended], .dead, .lst .int z1.stack]] (.br (.seg [.as 46 (.v (vI ((q1.v : Int) + 1)))] (.leaf () [])) (.seg [.as 47 (.v (vI ((q1.v : Int) + 1))), .at 0, .keep [1, 6, 32, 33, 34], .sel [0, 3]] (.next)))) (.br (.leaf () []) (.leaf () [])))))))), (Fun Tryz.prog 23 [.agg (cPln p)] [] (.v (vB (planOk p))) []) ∧ ((!(planOk p)) = true → z12 = .tup z6 ∧ z10 = []) ∧ ((!(planOk p)) = false → ((decide (z8 = 0)) = true → z12 = .tup z6 ∧ z10 = []) ∧ ((decide (z8 = 0)) = false → (∃ (x1 : Ev), l[0]? = some x1) ∧ ∀ (x1 : Ev), (l[0]? = some x1) → ((l[0]? = some x1) ∧ ((0 : Int) ≤ 0) ∧ ((!decide (x1.kind = 1)) = true → z12 = .tup z6 ∧ z10 = []) ∧ ((!decide (x1.kind = 1)) = false → (1 ≤ z8) ∧ ((0 : Int) ≤ 1) ∧ z11.Has [(1, .v (.c (.seq .ev l))), (6, .v (vP 0)), (32, .v (.c (.seq .ev z9))), (33, .v (vI z7)), (34, .v (vI 0))] [.cells [.seq .shp p.shapes, zi p.root, zi p.deep, zi p.most, .own 1, .bool false, .bool false, zi 0, zi 0, zi 0, .bool false], .lst .int [p.root]] ∧ ∀ q1, z11.inv q1 → (let z5 := (q1.v : Int); ((decide (z5 < z7)) = true → (∃ (x2 : Ev), z9[q1.v]? = some x2) ∧ ∀ (x2 : Ev), (z9[q1.v]? = some x2) → (let z2 := faStep (q1.f).plan (q1.f).st x2; let z3 := !decide (faCode (q1.f).plan (q1.f).st x2 = 0); let z4 := faCode (q1.f).plan (q1.f).st x2; (z9[q1.v]? = some x2) ∧ ((0 : Int) ≤ z5) ∧ (Fun Tryz.prog 97 [vP 0, .agg (cEv x2)] [.cells (oFmr4 1 q1.f), .lst .int q1.f.st.stack] (.v (vI z4)) [.cells [.seq .shp (q1.f).plan.shapes, zi (q1.f).plan.root, zi (q1.f).plan.deep, zi (q1.f).plan.most, .own 2, .bool z2.inText, .bool z2.isText, zi z2.utf.want, zi z2.utf.low, zi z2.utf.high, .bool z2.ended], .dead, .lst .int z2.stack]) ∧ (z3 = true → ((.v (vI (IntKind.i64.wrap (z5 + 1))) : S) = .v (vI (z5 + 1))) ∧ (.tup [vI z4, vI (z5 + 1)] : S) = .tup z6 ∧ z10 = []) ∧ (z3 = false → ((.v (vI (IntKind.i64.wrap (z5 + 1))) : S) = .v (vI (z5 + 1))) ∧ z11.Nxt q1 [(1, .v (.c (.seq .ev l))), (6, .v (vP 0)), (32, .v (.c (.seq .ev z9))), (33, .v (vI z7)), (34, .v (vI (z5 + 1)))] [.cells [.seq .shp (q1.f).plan.shapes, zi (q1.f).plan.root, zi (q1.f).plan.deep, zi (q1.f).plan.most, .own 1, .bool z2.inText, .bool z2.isText, zi z2.utf.want, zi z2.utf.low, zi z2.utf.high, .bool z2.ended], .lst .int z2.stack]))) ∧ ((decide (z5 < z7)) = false → ((!q1.f.st.ended) = true → (.tup [vI 7, vI z8] : S) = .tup z6 ∧ z10 = []) ∧ ((!q1.f.st.ended) = false → (.tup [vI 0, vI 0] : S) = .tup z6 ∧ z10 = []))))))))) (by kernel_rfl) ?_
 refine ⟨(planOk_i p), fun h1 => have q1 := bnot_t h1; ?_, fun h1 => have q1 := bnot_f h1; have p1 := planOk_t q1; ?_⟩
 refine ⟨(congrArg S.tup (consE (congrArg V.c (congrArg (C.int .i64) ?_)) (consE (congrArg V.c (congrArg (C.int .i64) ?_)) rfl))), rfl⟩
 rotate_left 2
 have hpl : planOk p = true := bnot_f h1
 have hpo := planOk_t hpl
 refine dsp (fun h2 p2 => ?_) fun h2 p2 => ?_
 refine ⟨(congrArg S.tup (consE (congrArg V.c (congrArg (C.int .i64) ?_)) (consE (congrArg V.c (congrArg (C.int .i64) ?_)) rfl))), rfl⟩
 rotate_left 2
 refine ⟨(ax_get (l := l) (i := 0) (by omega)), fun x1 hx1 => ?_⟩
 refine ⟨hx1, (by decide), fun h3 => have q3 := bnot_t h3; have p3 := of_decide_eq_false q3; ?_, fun h3 => have q3 := bnot_f h3; have p3 := of_decide_eq_true q3; ?_⟩
 refine ⟨(congrArg S.tup (consE (congrArg V.c (congrArg (C.int .i64) ?_)) (consE (congrArg V.c (congrArg (C.int .i64) ?_)) rfl))), rfl⟩
 rotate_left 2
 refine ⟨(by omega), (by decide), has_of (j := (⟨(⟨p, (⟨[p.root], false, false, utf0, false⟩ : Fa)⟩ : Fmr), 0⟩ : frameCode_i_V0)) (by first | rfl | simp) (by first | rfl | simp) (by dsimp only [frameCode_i_F0]; exact ⟨by omega, rfl, by simp, by simp, (frameCode_cons hx1 hpl (by omega)).symm⟩), fun (q1 : frameCode_i_V0) hq_q1 => ?_⟩
 have hi_q1 : q1.v + 1 ≤ l.length ∧ (q1.f).plan = p ∧ 1 ≤ List.length (q1.f).st.stack ∧ List.length (q1.f).st.stack ≤ 8 ∧ faRun p (q1.f).st (List.drop q1.v (List.drop 1 l)) ((q1.v : Int) + 1) = frameCode p l := hq_q1
 obtain ⟨v1, v2, v3, v4, v5⟩ := hi_q1
 refine dsp (fun h4 p4 => ?_) fun h4 p4 => ?_
 skip
 rw [List.length_drop] at p4
 refine ⟨(ax_get (l := List.drop 1 l) (i := q1.v) (by simp only [List.length_drop]; omega)), fun x2 hx2 => ?_⟩
 have he := hp2 x2 (List.mem_of_mem_drop (List.mem_of_getElem? hx2))
 have hst := faStep_stack (p := p) x2 v3 v4 (by omega)
 have hs : schemaOk q1.f.plan.shapes = true := by rw [v2]; exact hpo.2.1
 rw [drop_el hx2, faRun_cons] at v5
 refine ⟨hx2, (by omega), (next_i q1.f x2 (by omega) (by omega) (hs) (he.1) (he.2)), fun h5 => have q5 := bnot_t h5; have p5 := of_decide_eq_false q5; ?_, fun h5 => have q5 := bnot_f h5; have p5 := of_decide_eq_true q5; ?_⟩
 rw [v2] at p5
 rw [if_pos (by simpa using p5)] at v5
 refine ⟨(as_i64 (by omega) (by omega)), (congrArg S.tup (consE (congrArg V.c (congrArg (C.int .i64) ?_)) (consE (congrArg V.c (congrArg (C.int .i64) ?_)) rfl))), rfl⟩
 rotate_left 2
 rw [v2] at p5
 rw [if_neg (by simpa using p5)] at v5
 exact ⟨(as_i64 (by omega) (by omega)), nxt_of (j := (⟨(⟨(q1.f).plan, (faStep (q1.f).plan (q1.f).st x2)⟩ : Fmr), q1.v + 1⟩ : frameCode_i_V0)) (by first | rfl | simp) (by first | rfl | simp) (by dsimp only [frameCode_i_F0]; exact ⟨by simp only [List.length_drop] at *; omega, v2, by rw [v2]; exact hst.1, by rw [v2]; exact hst.2, by rw [v2, ← v5, show (((q1.v + 1 : Nat)) : Int) + 1 = (q1.v : Int) + 1 + 1 by omega]⟩) (by dsimp only [frameCode_i_F0]; omega)⟩
 rw [drop_end p4, faRun_nil] at v5
 rw [List.length_drop] at p4
 refine ⟨fun h5 => have q5 := bnot_t h5; ?_, fun h5 => have q5 := bnot_f h5; ?_⟩
 refine ⟨(congrArg S.tup (consE (congrArg V.c (congrArg (C.int .i64) ?_)) (consE (congrArg V.c (congrArg (C.int .i64) ?_)) rfl))), rfl⟩
 rotate_left 2
 refine ⟨(congrArg S.tup (consE (congrArg V.c (congrArg (C.int .i64) ?_)) (consE (congrArg V.c (congrArg (C.int .i64) ?_)) rfl))), rfl⟩
 rotate_left 2
 all_goals first | (rw [← v5]; done) | (rw [← v5, v2]; done) | (rw [← v5]; simp_all; done) | (rw [frameCode_plan (by simpa using h1)]; done) | (rw [frameCode_bad hx1 (by omega)]; done) | (rw [show l = [] from List.eq_nil_of_length_eq_zero (by omega)]; rfl) | (simp_all [List.length_drop]; omega) | (grind)
structure frameCode_s_V0 where
 r : Fs
 i : Nat
def frameCode_s_F0 (p : Pln) (l : List Ev) : Fam := ⟨frameCode_s_V0, fun q1 => [(1, .v (.c (.seq .ev l))), (2, .v (vP 0)), (6, .v (vP 1)), (7, .v (vI (q1.i : Int)))], fun q1 => [.cells (cPln p), .cells (oFs0 2 q1.r), .lst .int q1.r.stack], fun q1 => 1 ≤ q1.i ∧ q1.i ≤ l.length ∧ 1 ≤ List.length (q1.r).stack ∧ List.length (q1.r).stack ≤ 8 ∧ faRun p (absS q1.r) (List.drop q1.i l) (q1.i : Int) = frameCode p l ∧ utfOk (q1.r).utf = true, fun q1 => l.length - q1.i⟩
theorem frameCode_s (p : Pln) (l : List Ev) (hp1 : l.length ≤ bigN) (hp2 : ∀ e ∈ l, EvB e) : Fun Tryz.prog 27 [.agg (cPln p), .c (.seq .ev l)] [] (.tup [vI (frameCode p l).1, vI (frameCode p l).2]) [] := by
 have hN : bigN = 274877906944 := rfl
 refine fun_ofw Tryz.func27 (by kernel_rfl) (by kernel_rfl) (w := let z4 : List V := [vI (frameCode p l).1, vI (frameCode p l).2]; let z5 := (l.length : Int); let z6 := ([] : List Blk); let z7 := frameCode_s_F0 p l; let z8 := (.tup [vI 1, vI 0] : S); (.seg [.call [] (.v (vB (planOk p))) []] (.br (.leaf () []) (.br (.leaf () []) (.intro (fun (x1 : Ev) => l[0]? = some x1) fun x1 => .seg [.el .ev x1] (.br (.leaf () []) (.seg [.ty .int, .at 0, .keep [1, 2, 6, 7], .sel [0, 2, 1]] (.loop z7 fun q1 => .br (.intro (fun (x2 : Ev) => l[q1.i]? = some x2) fun x2 => .seg [.tree (fr (.one 6 (.first 7 (.done))) 0 6) 6 [], .el .ev x2, .call [1, 2] (.v (vI (faCode p (absS q1.r) x2))) [.cells (oFs0 2 (fsStep p q1.r x2)), .dead, .lst .int (fsStep p q1.r x2).stack]] (.br (.leaf () []) (.seg [.as 34 (.v (vI ((q1.i : Int) + 1))), .at 0, .keep [1, 2, 6, 7], .sel [0, 1, 3]] (.next)))) (.br (.leaf () []) (.leaf () [])))))))), (Fun Tryz.prog 18 [.agg (cPln p)] [] (.v (vB (planOk p))) []) ∧ ((!(planOk p)) = true → z8 = .tup z4 ∧ z6 = []) ∧ ((!(planOk p)) = false → ((decide (z5 = 0)) = true → z8 = .tup z4 ∧ z6 = []) ∧ ((decide (z5 = 0)) = false → (∃ (x1 : Ev), l[0]? = some x1) ∧ ∀ (x1 : Ev), (l[0]? = some x1) → ((l[0]? = some x1) ∧ ((0 : Int) ≤ 0) ∧ ((!decide (x1.kind = 1)) = true → z8 = .tup z4 ∧ z6 = []) ∧ ((!decide (x1.kind = 1)) = false → z7.Has [(1, .v (.c (.seq .ev l))), (2, .v (vP 0)), (6, .v (vP 1)), (7, .v (vI 1))] [.cells (cPln p), .cells [.own 2, .int .i64 0, .int .i64 0, .bool false, .bool false, .int .i64 0, .bool false, .int .i64 0, .int .i64 0, .int .i64 0, .bool false], .lst .int [p.root]] ∧ ∀ q1, z7.inv q1 → (let z3 := (q1.i : Int); ((decide (z3 < z5)) = true → (∃ (x2 : Ev), l[q1.i]? = some x2) ∧ ∀ (x2 : Ev), (l[q1.i]? = some x2) → (let z1 := fsStep p q1.r x2; let z2 := !decide (faCode p (absS q1.r) x2 = 0); (l[q1.i]? = some x2) ∧ ((0 : Int) ≤ z3) ∧ (l[q1.i]? = some x2) ∧ ((0 : Int) ≤ z3) ∧ (Fun Tryz.prog 60 [.agg (cPln p), vP 0, .agg (cEv x2)] [.cells (oFs0 1 q1.r), .lst .int q1.r.stack] (.v (vI (faCode p (absS q1.r) x2))) [.cells (oFs0 2 z1), .dead, .lst .int z1.stack]) ∧ (z2 = true → (.tup [vI (faCode p (absS q1.r) x2), vI z3] : S) = .tup z4 ∧ z6 = []) ∧ (z2 = false → ((.v (vI (IntKind.i64.wrap (z3 + 1))) : S) = .v (vI (z3 + 1))) ∧ z7.Nxt q1 [(1, .v (.c (.seq .ev l))), (2, .v (vP 0)), (6, .v (vP 1)), (7, .v (vI (z3 + 1)))] [.cells (cPln p), .cells (oFs0 2 z1), .lst .int z1.stack]))) ∧ ((decide (z3 < z5)) = false → ((!q1.r.ended) = true → (.tup [vI 7, vI z5] : S) = .tup z4 ∧ z6 = []) ∧ ((!q1.r.ended) = false → (.tup [vI 0, vI 0] : S) = .tup z4 ∧ z6 = []))))))))) (by kernel_rfl) ?_
 refine ⟨(planOk_s p), fun h1 => have q1 := bnot_t h1; ?_, fun h1 => have q1 := bnot_f h1; have p1 := planOk_t q1; ?_⟩
 refine ⟨(congrArg S.tup (consE (congrArg V.c (congrArg (C.int .i64) ?_)) (consE (congrArg V.c (congrArg (C.int .i64) ?_)) rfl))), rfl⟩
 rotate_left 2
 have hpl : planOk p = true := bnot_f h1
 have hpo := planOk_t hpl
 refine dsp (fun h2 p2 => ?_) fun h2 p2 => ?_
 refine ⟨(congrArg S.tup (consE (congrArg V.c (congrArg (C.int .i64) ?_)) (consE (congrArg V.c (congrArg (C.int .i64) ?_)) rfl))), rfl⟩
 rotate_left 2
 refine ⟨(ax_get (l := l) (i := 0) (by omega)), fun x1 hx1 => ?_⟩
 refine ⟨hx1, (by decide), fun h3 => have q3 := bnot_t h3; have p3 := of_decide_eq_false q3; ?_, fun h3 => have q3 := bnot_f h3; have p3 := of_decide_eq_true q3; ?_⟩
 refine ⟨(congrArg S.tup (consE (congrArg V.c (congrArg (C.int .i64) ?_)) (consE (congrArg V.c (congrArg (C.int .i64) ?_)) rfl))), rfl⟩
 rotate_left 2
 refine ⟨has_of (j := (⟨(⟨[p.root], (⟨0, 0, false, false, 0⟩ : Fld), false, utf0, false⟩ : Fs), 1⟩ : frameCode_s_V0)) (by first | rfl | simp) (by first | rfl | simp) (by dsimp only [frameCode_s_F0]; exact ⟨by omega, by omega, by simp, by simp, (frameCode_cons hx1 hpl (by omega)).symm, by show utfOk utf0 = true; decide⟩), fun (q1 : frameCode_s_V0) hq_q1 => ?_⟩
 have hi_q1 : 1 ≤ q1.i ∧ q1.i ≤ l.length ∧ 1 ≤ List.length (q1.r).stack ∧ List.length (q1.r).stack ≤ 8 ∧ faRun p (absS q1.r) (List.drop q1.i l) (q1.i : Int) = frameCode p l ∧ utfOk (q1.r).utf = true := hq_q1
 obtain ⟨v1, v2, v3, v4, v5, v7⟩ := hi_q1
 refine dsp (fun h4 p4 => ?_) fun h4 p4 => ?_
 refine ⟨(ax_get (l := l) (i := q1.i) (by omega)), fun x2 hx2 => ?_⟩
 have he := hp2 x2 (List.mem_of_getElem? hx2)
 have hst := faStep_stack (p := p) (a := absS q1.r) x2 v3 v4 (by omega)
 have hs : schemaOk p.shapes = true := hpo.2.1
 rw [drop_el hx2, faRun_cons] at v5
 refine ⟨hx2, (by omega), hx2, (by omega), (event_s p q1.r x2 (by omega) (by omega) (hs) (he.1) (he.2) (v7)), fun h5 => have q5 := bnot_t h5; have p5 := of_decide_eq_false q5; ?_, fun h5 => have q5 := bnot_f h5; have p5 := of_decide_eq_true q5; ?_⟩
 rw [if_pos (by simpa using p5)] at v5
 refine ⟨(congrArg S.tup (consE (congrArg V.c (congrArg (C.int .i64) ?_)) (consE (congrArg V.c (congrArg (C.int .i64) ?_)) rfl))), rfl⟩
 rotate_left 2
 rw [if_neg (by simpa using p5)] at v5
 exact ⟨(as_i64 (by omega) (by omega)), nxt_of (j := (⟨(fsStep p q1.r x2), q1.i + 1⟩ : frameCode_s_V0)) (by first | rfl | simp) rfl (by dsimp only [frameCode_s_F0]; exact ⟨by omega, by omega, by rw [fsStep_stack]; exact hst.1, by rw [fsStep_stack]; exact hst.2, by rw [absS_step, ← v5, show (((q1.i + 1 : Nat)) : Int) = (q1.i : Int) + 1 by omega], by rw [fsStep_utf]; exact faStep_utf v7⟩) (by dsimp only [frameCode_s_F0]; omega)⟩
 rw [drop_end p4, faRun_nil] at v5
 refine ⟨fun h5 => have q5 := bnot_t h5; ?_, fun h5 => have q5 := bnot_f h5; ?_⟩
 refine ⟨(congrArg S.tup (consE (congrArg V.c (congrArg (C.int .i64) ?_)) (consE (congrArg V.c (congrArg (C.int .i64) ?_)) rfl))), rfl⟩
 rotate_left 2
 refine ⟨(congrArg S.tup (consE (congrArg V.c (congrArg (C.int .i64) ?_)) (consE (congrArg V.c (congrArg (C.int .i64) ?_)) rfl))), rfl⟩
 rotate_left 2
 all_goals first | (rw [← v5]; done) | (rw [← v5]; simp_all [absS]; done) | (rw [frameCode_plan (by simpa using h1)]; done) | (rw [frameCode_bad hx1 (by omega)]; done) | (rw [show l = [] from List.eq_nil_of_length_eq_zero (by omega)]; rfl) | (simp_all [List.length_drop, absS]; omega) | (grind [absS])
def frB (p : Pln) (l : List Ev) : List UInt8 := if (frErr p l).1 = 0 then frameOf (bodyOf p l) else []
def frP (p : Pln) (l : List Ev) : Int := if (frErr p l).1 = 0 then 0 else (frErr p l).2
theorem msgZ_len {sh : Int} {z : Sz} (h : MB sh z) : (msgZ sh z).sizes.length = z.list.length := by
 obtain ⟨b, u, t, hl, hb, hu⟩ := h.bd
 have h1 : (sT z.plan sh (tl z)).length = upL (-1) 1 (tl z) := by rw [hl, (mT_tail hu _ (Nat.le_refl _) hb).2, upT hb hu, sT_len _ (Nat.le_refl _) hb]
 have h2 := bdT_ne h.bd
 rw [tl_len] at h2
 have h3 := h.len; have h4 := h.at_
 unfold msgZ
 simp only [List.length_append, List.length_take, List.length_replicate, h1]; omega
structure sized_i_V0 where
 sizes : List Int
 v : Nat
def sized_i_F0 (p : Pln) (l : List Ev) : Fam := ⟨sized_i_V0, fun q1 => [(2, .v (vP 0)), (8, .v (vP 1)), (23, .v (vI (l.length : Int))), (24, .v (vI (q1.v : Int)))], fun q1 => [.cells (cPln p), .cells [.seq .shp p.shapes, .int .i64 p.root, .int .i64 p.deep, .int .i64 p.most, .seq .ev l, .int .i64 1, .own 2], .lst .int q1.sizes], fun q1 => q1.v ≤ l.length ∧ q1.sizes = List.replicate q1.v (-1), fun q1 => l.length - q1.v⟩
theorem sized_i (p : Pln) (l : List Ev) (hp1 : EvsB l) : Fun Tryz.prog 34 [.agg (cPln p), .c (.seq .ev l)] [] (.tup [vT (bodyOf p l), vO 0]) [.lst .int (sizesOf p l)] := by
 have hN : bigN = 274877906944 := rfl
 have hvl := hp1.1
 have h64 : i64max = 9223372036854775807 := rfl
 refine fun_ofw Tryz.func34 (by kernel_rfl) (by kernel_rfl) (w := let zi : Int → C := .int .i64; let z4 : List C := [.seq .shp p.shapes, zi p.root, zi p.deep, zi p.most, .seq .ev l, zi 1, .own 2]; let z5 := (l.length : Int); let z6 := frameCode p l; let z7 := sized_i_F0 p l; (.seg [.call [] (.tup [vI z6.1, vI z6.2]) []] (.br (.seg [.at 0, .mkS 5 .int] (.leaf () [1])) (.seg [.at 0, .mk 1 6 .int, .keep [2, 8, 23, 24], .sel [0, 1, 2]] (.loop z7 fun q1 => let z1 := (⟨p, l, 1, q1.sizes⟩ : Sz); .br (.seg [.ty .int, .ty .int, .as 35 (.v (vI ((q1.v : Int) + 1))), .at 0, .keep [2, 8, 23, 24], .sel [0, 1, 4]] (.next)) (.seg [.call [1, 2] (.v (vT (mT (z1).plan p.root (tl z1)))) [.cells (oSz6 1 (msgZ p.root z1)), .lst .int (msgZ p.root z1).sizes]] (.intro (fun (x1 : Int) => (msgZ p.root z1).sizes[0]? = some x1) fun x1 => .seg [.el .int x1, .ord (os 7 []) []] (.leaf () [2])))))), (Fun Tryz.prog 58 [.agg (cPln p), .c (.seq .ev l)] [] (.tup [vI z6.1, vI z6.2]) []) ∧ ((!decide (z6.1 = 0)) = true → (.tup [vT [], vO 0] : S) = .tup [vT (bodyOf p l), vO 0] ∧ ([.lst .int ([] : List Int)] : List Blk) = [.lst .int (sizesOf p l)]) ∧ ((!decide (z6.1 = 0)) = false → z7.Has [(2, .v (vP 0)), (8, .v (vP 1)), (23, .v (vI z5)), (24, .v (vI 0))] [.cells (cPln p), .cells z4, .lst .int ([] : List Int)] ∧ ∀ q1, z7.inv q1 → (let z2 := (⟨p, l, 1, q1.sizes⟩ : Sz); let z3 := (q1.v : Int); ((decide (z3 < z5)) = true → (q1.sizes.length + List.length [(-1)] ≤ bigN) ∧ ((.v (vI (IntKind.i64.wrap (z3 + 1))) : S) = .v (vI (z3 + 1))) ∧ z7.Nxt q1 [(2, .v (vP 0)), (8, .v (vP 1)), (23, .v (vI z5)), (24, .v (vI (z3 + 1)))] [.cells (cPln p), .cells z4, .lst .int (q1.sizes ++ [(-1)])]) ∧ ((decide (z3 < z5)) = false → (Fun Tryz.prog 66 [vP 0, vI p.root] [.cells [.seq .shp p.shapes, zi p.root, zi p.deep, zi p.most, .seq .ev l, zi 1, .own 1], .lst .int q1.sizes] (.v (vT (mT (z2).plan p.root (tl z2)))) [.cells (oSz6 1 (msgZ p.root z2)), .lst .int (msgZ p.root z2).sizes]) ∧ (∃ (x1 : Int), (msgZ p.root z2).sizes[0]? = some x1) ∧ ∀ (x1 : Int), ((msgZ p.root z2).sizes[0]? = some x1) → ((0 < ((List.length (msgZ p.root z2).sizes : Nat) : Int)) ∧ ((0 : Int) ≤ 0) ∧ ((msgZ p.root z2).sizes[0]? = some x1) ∧ (.tup [vT (mT (z2).plan p.root (tl z2)), vO 0] : S) = .tup [vT (bodyOf p l), vO 0] ∧ ([.lst .int (List.set (msgZ p.root z2).sizes 0 ((List.length (mT (z2).plan p.root (tl z2)) : Nat) : Int))] : List Blk) = [.lst .int (sizesOf p l)])))))) (by kernel_rfl) ?_
 refine ⟨(frameCode_i p _ (by omega) (hp1.2.2)), fun h1 => have q1 := bnot_t h1; have p1 := of_decide_eq_false q1; ?_, fun h1 => have q1 := bnot_f h1; have p1 := of_decide_eq_true q1; ?_⟩
 refine ⟨(congrArg S.tup (consE (congrArg V.c (congrArg C.str ?_)) rfl)), (consE (congrArg (Blk.lst .int) ?_) rfl)⟩
 rotate_left 2
 have hfc := p1
 refine ⟨has_of (j := (⟨([] : List Int), 0⟩ : sized_i_V0)) (by first | rfl | simp) rfl (by dsimp only [sized_i_F0]; exact ⟨by omega, rfl⟩), fun (q1 : sized_i_V0) hq_q1 => ?_⟩
 have hi_q1 : q1.v ≤ l.length ∧ q1.sizes = List.replicate q1.v (-1) := hq_q1
 obtain ⟨v1, v2⟩ := hi_q1
 have vl := congrArg List.length v2
 rw [List.length_replicate] at vl
 refine dsp (fun h2 p2 => ?_) fun h2 p2 => ?_
 exact ⟨(by simp only [List.length_cons, List.length_nil]; omega), (as_i64 (by omega) (by omega)), nxt_of (j := (⟨q1.sizes ++ [(-1)], q1.v + 1⟩ : sized_i_V0)) (by first | rfl | simp) rfl (by dsimp only [sized_i_F0]; exact ⟨by omega, by rw [v2, List.replicate_succ']⟩) (by dsimp only [sized_i_F0]; omega)⟩
 have hz : (⟨p, l, 1, q1.sizes⟩ : Sz) = sz0 p l := by unfold sz0; rw [v2, show q1.v = l.length by omega]
 have hmb := frame_mb (p := p) (l := l) hfc hp1
 have hzm : MB p.root (⟨p, l, 1, q1.sizes⟩ : Sz) := by rw [hz]; exact hmb.1
 have hzl : List.length (msgZ p.root (⟨p, l, 1, q1.sizes⟩ : Sz)).sizes = l.length := by rw [hz]; exact msgZ_len hmb.1
 have hzt := bdT_mT_len hzm.bd (hzm.ev.drop _)
 refine ⟨(msg_z (⟨p, l, 1, q1.sizes⟩ : Sz) _ (hzm)), (ax_get (l := (msgZ p.root (⟨p, l, 1, q1.sizes⟩ : Sz)).sizes) (i := 0) (by omega)), fun x1 hx1 => ?_⟩
 refine ⟨(by omega), (by decide), hx1, (congrArg S.tup (consE (congrArg V.c (congrArg C.str ?_)) rfl)), (consE (congrArg (Blk.lst .int) ?_) rfl)⟩
 rotate_left 2
 all_goals first | (simp_all [bodyOf, sizesOf]; done) | (grind [bodyOf, sizesOf])
theorem bodyOf_i (p : Pln) (l : List Ev) (hp1 : EvsB l) : Fun Tryz.prog 14 [.agg (cPln p), .c (.seq .ev l)] [] (.v (vT (bodyOf p l))) [] := by
 have hN : bigN = 274877906944 := rfl
 refine fun_ofw Tryz.func14 (by kernel_rfl) (by kernel_rfl) (w := (.seg [.call [] (.tup [vT (bodyOf p l), vO 0]) [.lst .int (sizesOf p l)]] (.leaf () []), (Fun Tryz.prog 34 [.agg (cPln p), .c (.seq .ev l)] [] (.tup [vT (bodyOf p l), vO 0]) [.lst .int (sizesOf p l)]) ∧ (.v (vT (bodyOf p l)) : S) = .v (vT (bodyOf p l)) ∧ ([] : List Blk) = [])) (by kernel_rfl) ?_
 exact ⟨(sized_i p _ (by omega)), rfl, rfl⟩
theorem frameSize_i (p : Pln) (l : List Ev) (hp1 : EvsB l) : Fun Tryz.prog 59 [.agg (cPln p), .c (.seq .ev l)] [] (.v (vI ((List.length (bodyOf p l) : Nat) : Int))) [] := by
 have hN : bigN = 274877906944 := rfl
 refine fun_ofw Tryz.func59 (by kernel_rfl) (by kernel_rfl) (w := let z1 := vI ((List.length (bodyOf p l) : Nat) : Int); (.seg [.call [] (.v (vT (bodyOf p l))) []] (.leaf () []), (Fun Tryz.prog 14 [.agg (cPln p), .c (.seq .ev l)] [] (.v (vT (bodyOf p l))) []) ∧ (.v z1 : S) = .v z1 ∧ ([] : List Blk) = [])) (by kernel_rfl) ?_
 exact ⟨(bodyOf_i p _ (by omega)), rfl, rfl⟩
theorem frErr_i (p : Pln) (l : List Ev) (hp1 : EvsB l) : Fun Tryz.prog 26 [.agg (cPln p), .c (.seq .ev l)] [] (.tup [vI (frErr p l).1, vI (frErr p l).2]) [] := by
 have hN : bigN = 274877906944 := rfl
 have hvl := hp1.1
 refine fun_ofw Tryz.func26 (by kernel_rfl) (by kernel_rfl) (w := let z1 := frameCode p l; let z2 := ((List.length (bodyOf p l) : Nat) : Int); let z3 := decide (z1.1 = 0); let z4 : List V := [vI (frErr p l).1, vI (frErr p l).2]; let z5 : List V := [vI z1.1, vI z1.2]; (.seg [.call [] (.tup z5) []] (.case z3 (.seg [.ord [(0, true), (1, true), (2, true), (3, true), (4, true), (6, true), (7, true), (5, false), (8, true), (9, true)] [], .br true, .call [] (.v (vI z2)) []] (.br (.leaf () []) (.leaf () []))) (.seg [.ord [(0, true), (1, true), (2, true), (3, true), (4, true), (6, true), (7, true), (5, false), (8, true), (9, true)] [], .br false] (.leaf () []))), (Fun Tryz.prog 58 [.agg (cPln p), .c (.seq .ev l)] [] (.tup z5) []) ∧ (z3 = true → (z3 = true) ∧ (Fun Tryz.prog 59 [.agg (cPln p), .c (.seq .ev l)] [] (.v (vI z2)) []) ∧ ((decide (p.most < z2)) = true → (.tup [vI 8, vI 0] : S) = .tup z4 ∧ ([] : List Blk) = []) ∧ ((decide (p.most < z2)) = false → (.tup z5 : S) = .tup z4 ∧ ([] : List Blk) = [])) ∧ (z3 = false → (z3 = false) ∧ (.tup z5 : S) = .tup z4 ∧ ([] : List Blk) = []))) (by kernel_rfl) ?_
 refine ⟨(frameCode_i p _ (by omega) (hp1.2.2)), dsp (fun h1 p1 => ?_) fun h1 p1 => ?_⟩
 refine ⟨h1, (frameSize_i p _ (by omega)), dsp (fun h2 p2 => ?_) fun h2 p2 => ?_⟩
 refine ⟨(congrArg S.tup (consE (congrArg V.c (congrArg (C.int .i64) ?_)) (consE (congrArg V.c (congrArg (C.int .i64) ?_)) rfl))), rfl⟩
 rotate_left 2
 refine ⟨(congrArg S.tup (consE (congrArg V.c (congrArg (C.int .i64) ?_)) (consE (congrArg V.c (congrArg (C.int .i64) ?_)) rfl))), rfl⟩
 rotate_left 2
 refine ⟨h1, (congrArg S.tup (consE (congrArg V.c (congrArg (C.int .i64) ?_)) (consE (congrArg V.c (congrArg (C.int .i64) ?_)) rfl))), rfl⟩
 rotate_left 2
 all_goals first | (simp_all [frErr]; done) | (grind [frErr])
theorem frBytes_i (p : Pln) (l : List Ev) (hp1 : EvsB l) : Fun Tryz.prog 10 [.agg (cPln p), .c (.seq .ev l)] [] (.tup [vT (frB p l), vI (frErr p l).1, vI (frP p l)]) [] := by
 have hN : bigN = 274877906944 := rfl
 have hvl := hp1.1
 have hbl := bodyOf_len (p := p) hp1
 refine fun_ofw Tryz.func10 (by kernel_rfl) (by kernel_rfl) (w := let z1 := frErr p l; let z2 := bodyOf p l; (.seg [.call [] (.tup [vI z1.1, vI z1.2]) []] (.br (.leaf () []) (.seg [.call [] (.v (vT z2)) [], .call [] (.v (vT (frameOf z2))) []] (.leaf () []))), (Fun Tryz.prog 26 [.agg (cPln p), .c (.seq .ev l)] [] (.tup [vI z1.1, vI z1.2]) []) ∧ ((!decide (z1.1 = 0)) = true → (.tup [vT [], vI z1.1, vI z1.2] : S) = .tup [vT (frB p l), vI z1.1, vI (frP p l)] ∧ ([] : List Blk) = []) ∧ ((!decide (z1.1 = 0)) = false → (Fun Tryz.prog 14 [.agg (cPln p), .c (.seq .ev l)] [] (.v (vT z2)) []) ∧ (Fun Tryz.prog 13 [vT z2] [] (.v (vT (frameOf z2))) []) ∧ (.tup [vT (frameOf z2), vI 0, vI 0] : S) = .tup [vT (frB p l), vI z1.1, vI (frP p l)] ∧ ([] : List Blk) = []))) (by kernel_rfl) ?_
 refine ⟨(frErr_i p _ (by omega)), fun h1 => have q1 := bnot_t h1; have p1 := of_decide_eq_false q1; ?_, fun h1 => have q1 := bnot_f h1; have p1 := of_decide_eq_true q1; ?_⟩
 refine ⟨(congrArg S.tup (consE (congrArg V.c (congrArg C.str ?_)) (consE rfl (consE (congrArg V.c (congrArg (C.int .i64) ?_)) rfl)))), rfl⟩
 rotate_left 2
 refine ⟨(bodyOf_i p _ (by omega)), (frameOf_i _ (by omega)), (congrArg S.tup (consE (congrArg V.c (congrArg C.str ?_)) (consE (congrArg V.c (congrArg (C.int .i64) ?_)) (consE (congrArg V.c (congrArg (C.int .i64) ?_)) rfl)))), rfl⟩
 rotate_left 3
 all_goals first | (simp_all [frB, frP]; done) | (grind [frB, frP])
theorem bodyOf_s (p : Pln) (l : List Ev) (hp1 : EvsB l) : Fun Tryz.prog 28 [.agg (cPln p), .c (.seq .ev l)] [] (.v (vT (bodyOf p l))) [] := by
 have hN : bigN = 274877906944 := rfl
 have hvl := hp1.1
 refine fun_ofw Tryz.func28 (by kernel_rfl) (by kernel_rfl) (w := let z1 := (l.length : Int); let z2 := List.drop 1 (List.take (Int.toNat (z1 - 1)) l); let z3 := frameCode p l; let z4 := (.v (vI (IntKind.i64.wrap (z1 - 1))) : S) = .v (vI (z1 - 1)); let z5 := vT (mT p p.root z2); (.seg [.call [] (.tup [vI z3.1, vI z3.2]) []] (.br (.leaf () []) (.seg [.ord (os 10 [8]) [], .as 21 (.v (vI (z1 - 1))), .call [] (.v z5) []] (.leaf () []))), (Fun Tryz.prog 27 [.agg (cPln p), .c (.seq .ev l)] [] (.tup [vI z3.1, vI z3.2]) []) ∧ ((!decide (z3.1 = 0)) = true → (.v (vT []) : S) = .v (vT (bodyOf p l)) ∧ ([] : List Blk) = []) ∧ ((!decide (z3.1 = 0)) = false → z4 ∧ z4 ∧ (z1 - 1 ≤ z1) ∧ ((1 : Int) ≤ z1 - 1) ∧ ((0 : Int) ≤ 1) ∧ (z1 - 1 ≤ z1) ∧ ((1 : Int) ≤ z1 - 1) ∧ ((0 : Int) ≤ 1) ∧ (Fun Tryz.prog 61 [.agg (cPln p), vI p.root, .c (.seq .ev z2)] [] (.v z5) []) ∧ (.v z5 : S) = .v (vT (bodyOf p l)) ∧ ([] : List Blk) = []))) (by kernel_rfl) ?_
 refine ⟨(frameCode_s p _ (by omega) (hp1.2.2)), fun h1 => have q1 := bnot_t h1; have p1 := of_decide_eq_false q1; ?_, fun h1 => have q1 := bnot_f h1; have p1 := of_decide_eq_true q1; ?_⟩
 refine ⟨(congrArg S.v (congrArg V.c (congrArg C.str ?_))), rfl⟩
 rotate_left
 have hc := bodyOf_cut (p := p) (l := l) (by omega) hp1
 refine ⟨(as_i64 (by omega) (by omega)), (as_i64 (by omega) (by omega)), (by omega), (by omega), (by decide), (by omega), (by omega), (by decide), (body_z p _ _ (hc.1) ((hp1.take _).drop _) (hc.2.2.2)), (congrArg S.v (congrArg V.c (congrArg C.str ?_))), rfl⟩
 rotate_left
 all_goals first | (exact hc.2.1.symm) | (simp_all [bodyOf]; done) | (grind [bodyOf])
theorem frBytes_s (p : Pln) (l : List Ev) (hp1 : EvsB l) : Fun Tryz.prog 11 [.agg (cPln p), .c (.seq .ev l)] [] (.tup [vT (frB p l), vI (frErr p l).1, vI (frP p l)]) [] := by
 have hN : bigN = 274877906944 := rfl
 have hvl := hp1.1
 have hbl := bodyOf_len (p := p) hp1
 refine fun_ofw Tryz.func11 (by kernel_rfl) (by kernel_rfl) (w := let z1 := frameCode p l; let z2 : List V := [vT (frB p l), vI (frErr p l).1, vI (frP p l)]; let z3 := bodyOf p l; let z4 := decide (p.most < (z3.length : Int)); (.seg [.call [] (.tup [vI z1.1, vI z1.2]) []] (.br (.leaf () []) (.seg [.call [] (.v (vT z3)) []] (.br (.leaf () []) (.seg [.call [] (.v (vT (frameOf z3))) []] (.leaf () []))))), (Fun Tryz.prog 27 [.agg (cPln p), .c (.seq .ev l)] [] (.tup [vI z1.1, vI z1.2]) []) ∧ ((!decide (z1.1 = 0)) = true → (.tup [vT [], vI z1.1, vI z1.2] : S) = .tup z2 ∧ ([] : List Blk) = []) ∧ ((!decide (z1.1 = 0)) = false → (Fun Tryz.prog 28 [.agg (cPln p), .c (.seq .ev l)] [] (.v (vT z3)) []) ∧ (z4 = true → (.tup [vT [], vI 8, vI 0] : S) = .tup z2 ∧ ([] : List Blk) = []) ∧ (z4 = false → (Fun Tryz.prog 29 [vT z3] [] (.v (vT (frameOf z3))) []) ∧ (.tup [vT (frameOf z3), vI 0, vI 0] : S) = .tup z2 ∧ ([] : List Blk) = [])))) (by kernel_rfl) ?_
 refine ⟨(frameCode_s p _ (by omega) (hp1.2.2)), fun h1 => have q1 := bnot_t h1; have p1 := of_decide_eq_false q1; ?_, fun h1 => have q1 := bnot_f h1; have p1 := of_decide_eq_true q1; ?_⟩
 refine ⟨(congrArg S.tup (consE (congrArg V.c (congrArg C.str ?_)) (consE (congrArg V.c (congrArg (C.int .i64) ?_)) (consE (congrArg V.c (congrArg (C.int .i64) ?_)) rfl)))), rfl⟩
 rotate_left 3
 refine ⟨(bodyOf_s p _ (by omega)), dsp (fun h2 p2 => ?_) fun h2 p2 => ?_⟩
 refine ⟨(congrArg S.tup (consE (congrArg V.c (congrArg C.str ?_)) (consE (congrArg V.c (congrArg (C.int .i64) ?_)) (consE (congrArg V.c (congrArg (C.int .i64) ?_)) rfl)))), rfl⟩
 rotate_left 3
 refine ⟨(frameOf_s _ (by omega)), (congrArg S.tup (consE (congrArg V.c (congrArg C.str ?_)) (consE (congrArg V.c (congrArg (C.int .i64) ?_)) (consE (congrArg V.c (congrArg (C.int .i64) ?_)) rfl)))), rfl⟩
 rotate_left 3
 all_goals first | (simp_all [frErr, frB, frP]; done) | (grind [frErr, frB, frP])
end Go.Proofs.YtaflinakodideaaGreat.Ax
