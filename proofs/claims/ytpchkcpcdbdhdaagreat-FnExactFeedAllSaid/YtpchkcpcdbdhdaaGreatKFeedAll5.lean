/- The machine: bytes. The machine: a byte. A byte: the program. A byte keeps a decoder right. A byte keeps a decoder right. Whole inputs. Whole inputs: the program. -/
import Derived.Test.YtpchkcpcdbdhdaaGreatKFeedAll4
import Derived.Test.YtpchkcpcdbdhdaaGreatKFeedAll3
set_option linter.unusedSimpArgs false
set_option linter.unusedVariables false
namespace Go.Proofs.YtpchkcpcdbdhdaaGreat.Ax
open Go.RowKit
theorem varByte_i (m : Mac) (b : Int) (hp1 : MW (m).d) (hp2 : List.length (m).out ≤ 50000000) (hp3 : (0 : Int) ≤ b ∧ b ≤ 255) : Fun Tryz.prog 202 [vP 0, vI b] [.cells (oMac0_5_27 1 2 3 m), .tree m.d.plan.shapes, .lst .lev m.d.stack, .lst .ev m.out] (.tup []) [.cells (oMac0_5_27 4 5 6 (varM m b ((m).d.at_ - 1))), .dead, .dead, .dead, .tree (varM m b ((m).d.at_ - 1)).d.plan.shapes, .lst .lev (varM m b ((m).d.at_ - 1)).d.stack, .lst .ev (varM m b ((m).d.at_ - 1)).out] := by
 have hN : bigN = 274877906944 := rfl
 have hlv := levelsOk_b hp1.lv
 have hpt := planOk_t hlv.1
 have htb := topL_b hp1.lv
 have hwm := wM_b m
 have hbb := hp1.b0
 have hat := hp1.at_
 have hwt := hp1.want
 have hwd := widthD_b m.d
 have hsb := scanByte_b (b := b) hbb.1 hbb.2
 refine fun_ofw Tryz.func202 (by kernel_rfl) (by kernel_rfl) (w := let zi : Int → C := .int .i64; let z1 : List C := [zi m.d.at_, zi m.d.field.number, zi m.d.field.kind, .bool m.d.field.rep, .bool m.d.field.packed, zi m.d.field.msg, zi m.d.wire, zi m.d.want, zi m.d.utf.want, zi m.d.utf.low, zi m.d.utf.high, zi m.d.end_.kind, zi m.d.end_.field, .int .u64 m.d.end_.bits, zi m.d.end_.len, .str m.d.end_.text, zi m.d.end_.code, zi m.d.end_.at_, .own 3]; let z2 : List C := [zi m.d.at_, zi m.d.field.number, zi m.d.field.kind, .bool m.d.field.rep, .bool m.d.field.packed, zi m.d.field.msg, zi m.d.wire, zi m.d.want, zi m.d.utf.want, zi m.d.utf.low, zi m.d.utf.high, zi m.d.end_.kind, zi m.d.end_.field, .int .u64 m.d.end_.bits, zi m.d.end_.len, .str m.d.end_.text, zi m.d.end_.code, zi m.d.end_.at_, .own 6]; let z3 : List C := [zi m.d.at_, zi m.d.field.number, zi m.d.field.kind, .bool m.d.field.rep, .bool m.d.field.packed, zi m.d.field.msg, zi m.d.wire, zi m.d.want, zi m.d.utf.want, zi m.d.utf.low, zi m.d.utf.high, zi m.d.end_.kind, zi m.d.end_.field, .int .u64 m.d.end_.bits, zi m.d.end_.len, .str m.d.end_.text, zi m.d.end_.code, zi m.d.end_.at_]; let z6 := (⟨m.d.plan, m.d.mode, m.d.stack, (⟨0, 0⟩ : Scn), m.d.start, m.d.at_, m.d.field, m.d.wire, m.d.want, m.d.utf, m.d.end_⟩ : Dcd); let z9 := scanByte m.d.scan b; let z4 := mFail (⟨(⟨m.d.plan, m.d.mode, m.d.stack, z9.1, m.d.at_ - 1, m.d.at_, m.d.field, m.d.wire, m.d.want, m.d.utf, m.d.end_⟩ : Dcd), m.out⟩ : Mac) 9 m.d.at_; let z5 := mFail (⟨(⟨m.d.plan, m.d.mode, m.d.stack, z9.1, m.d.start, m.d.at_, m.d.field, m.d.wire, m.d.want, m.d.utf, m.d.end_⟩ : Dcd), m.out⟩ : Mac) 9 m.d.at_; let z10 := (⟨m.d.plan, m.d.mode, m.d.stack, (⟨0, 0⟩ : Scn), m.d.at_ - 1, m.d.at_, m.d.field, m.d.wire, m.d.want, m.d.utf, m.d.end_⟩ : Dcd); let z13 := ([.cells (.own 4 :: zi m.d.plan.root :: zi m.d.plan.deep :: zi m.d.plan.most :: zi m.d.mode :: .own 5 :: .int .u64 z9.1.bits :: zi z9.1.have_ :: zi m.d.start :: z2), .dead, .dead, .dead, .tree m.d.plan.shapes, .lst .lev m.d.stack, .lst .ev m.out] : List Blk); let z14 := valueM (⟨z6, m.out⟩ : Mac) z9.1.bits; let z15 : List Blk := [.cells (oMac0_5_27 1 2 4 z4), .tree z4.d.plan.shapes, .lst .lev z4.d.stack, .dead, .lst .ev z4.out]; let z16 : List Blk := [.cells (.own 1 :: zi m.d.plan.root :: zi m.d.plan.deep :: zi m.d.plan.most :: zi m.d.mode :: .own 2 :: .int .u64 z9.1.bits :: zi z9.1.have_ :: zi m.d.start :: z1), .tree m.d.plan.shapes, .lst .lev m.d.stack, .lst .ev m.out]; let z17 : List Blk := [.cells (oMac0_5_27 1 2 4 z5), .tree z5.d.plan.shapes, .lst .lev z5.d.stack, .dead, .lst .ev z5.out]; let z18 := ([.cells (oMac0_5_27 4 5 6 z4), .dead, .dead, .dead, .tree z4.d.plan.shapes, .lst .lev z4.d.stack, .lst .ev z4.out] : List Blk); let z19 : List Blk := [.cells (.own 1 :: zi m.d.plan.root :: zi m.d.plan.deep :: zi m.d.plan.most :: zi m.d.mode :: .own 2 :: .int .u64 0 :: zi 0 :: zi m.d.start :: z1), .tree m.d.plan.shapes, .lst .lev m.d.stack, .lst .ev m.out]; let z21 := ([.cells (oMac0_5_27 4 5 6 z5), .dead, .dead, .dead, .tree z5.d.plan.shapes, .lst .lev z5.d.stack, .lst .ev z5.out] : List Blk); let z32 := (.tup [] : S); let z33 := decide (m.d.mode = 8); let z34 := decide (m.d.want = 0); let z35 : List Blk := [.cells (oMac0_5_27 1 2 4 z14), .tree z14.d.plan.shapes, .lst .lev z14.d.stack, .dead, .lst .ev z14.out]; let z36 : List V := [vP 0, vI 9, vI m.d.at_]; let z37 := m.d.at_ - 1; let z8 := mFail (⟨(⟨m.d.plan, m.d.mode, m.d.stack, m.d.scan, m.d.at_ - 1, m.d.at_, m.d.field, m.d.wire, m.d.want, m.d.utf, m.d.end_⟩ : Dcd), m.out⟩ : Mac) 1 z37; let z11 := ([.cells (.own 4 :: zi m.d.plan.root :: zi m.d.plan.deep :: zi m.d.plan.most :: zi m.d.mode :: .own 5 :: .int .u64 z9.1.bits :: zi z9.1.have_ :: zi z37 :: z2), .dead, .dead, .dead, .tree m.d.plan.shapes, .lst .lev m.d.stack, .lst .ev m.out] : List Blk); let z12 : List Blk := [.cells (.own 1 :: zi m.d.plan.root :: zi m.d.plan.deep :: zi m.d.plan.most :: zi m.d.mode :: .own 2 :: .int .u64 z9.1.bits :: zi z9.1.have_ :: zi z37 :: z1), .tree m.d.plan.shapes, .lst .lev m.d.stack, .lst .ev m.out]; let z23 : List Blk := [.cells (.own 1 :: zi m.d.plan.root :: zi m.d.plan.deep :: zi m.d.plan.most :: zi m.d.mode :: .own 2 :: .int .u64 m.d.scan.bits :: zi m.d.scan.have_ :: zi z37 :: z1), .tree m.d.plan.shapes, .lst .lev m.d.stack, .lst .ev m.out]; let z29 : List Blk := [.cells (.own 1 :: zi m.d.plan.root :: zi m.d.plan.deep :: zi m.d.plan.most :: zi m.d.mode :: .own 2 :: .int .u64 0 :: zi 0 :: zi z37 :: z1), .tree m.d.plan.shapes, .lst .lev m.d.stack, .lst .ev m.out]; let z31 : List Blk := [.cells (oMac0_5_27 1 2 4 z8), .tree z8.d.plan.shapes, .lst .lev z8.d.stack, .dead, .lst .ev z8.out]; let z38 := ([.cells (oMac0_5_27 4 5 6 z8), .dead, .dead, .dead, .tree z8.d.plan.shapes, .lst .lev z8.d.stack, .lst .ev z8.out] : List Blk); let z39 : List V := [vP 0, .c (.int .u64 z9.1.bits)]; let z40 := !decide (m.d.mode = 1); let z43 := decide (topL m.d = 0); let z45 := decide (z9.2 = 2); let z46 := decide (z9.2 = 0); let z47 := decide (m.d.mode = 1); let z48 := decide (m.d.mode = 2); let z51 := vI (topL m.d); let z52 := frameM (⟨z10, m.out⟩ : Mac) z9.1.bits; let z24 : List Blk := [.cells (oMac0_5_27 4 5 6 z52), .dead, .dead, .dead, .tree z52.d.plan.shapes, .lst .lev z52.d.stack, .lst .ev z52.out]; let z53 := longM (⟨z10, m.out⟩ : Mac) z9.1.bits; let z25 : List Blk := [.cells (oMac0_5_27 4 5 6 z53), .dead, .dead, .dead, .tree z53.d.plan.shapes, .lst .lev z53.d.stack, .lst .ev z53.out]; let z54 := frameM (⟨z6, m.out⟩ : Mac) z9.1.bits; let z26 : List Blk := [.cells (oMac0_5_27 4 5 6 z54), .dead, .dead, .dead, .tree z54.d.plan.shapes, .lst .lev z54.d.stack, .lst .ev z54.out]; let z55 := tagM (⟨z10, m.out⟩ : Mac) z9.1.bits; let z27 : List Blk := [.cells (oMac0_5_27 4 5 6 z55), .dead, .dead, .dead, .tree z55.d.plan.shapes, .lst .lev z55.d.stack, .lst .ev z55.out]; let z56 := longM (⟨z6, m.out⟩ : Mac) z9.1.bits; let z28 : List Blk := [.cells (oMac0_5_27 4 5 6 z56), .dead, .dead, .dead, .tree z56.d.plan.shapes, .lst .lev z56.d.stack, .lst .ev z56.out]; let z57 := decide (m.d.mode = 4); let z58 := tagM (⟨z6, m.out⟩ : Mac) z9.1.bits; let z30 : List Blk := [.cells (oMac0_5_27 4 5 6 z58), .dead, .dead, .dead, .tree z58.d.plan.shapes, .lst .lev z58.d.stack, .lst .ev z58.out]; let z59 : List Blk := [.cells (oMac0_5_27 1 2 3 z14), .tree z14.d.plan.shapes, .lst .lev z14.d.stack, .lst .ev z14.out]; let z60 := mFail m 1 z37; let z22 : List Blk := [.cells (oMac0_5_27 1 2 4 z60), .tree z60.d.plan.shapes, .lst .lev z60.d.stack, .dead, .lst .ev z60.out]; let z44 := ([.cells (oMac0_5_27 4 5 6 z60), .dead, .dead, .dead, .tree z60.d.plan.shapes, .lst .lev z60.d.stack, .lst .ev z60.out] : List Blk); let z61 : List Blk := [.cells (oMac0_5_27 1 2 3 m), .tree m.d.plan.shapes, .lst .lev m.d.stack, .lst .ev m.out]; let z62 := cScn z9.1; let z63 := varM m b ((m).d.at_ - 1); let z7 : List Blk := [.cells (oMac0_5_27 4 5 6 z63), .dead, .dead, .dead, .tree z63.d.plan.shapes, .lst .lev z63.d.stack, .lst .ev z63.out]; let z41 := z34 = false → z32 = .tup [] ∧ z11 = z7; let z42 := z33 = false → z32 = .tup [] ∧ z11 = z7; let z49 := z34 = false → z32 = .tup [] ∧ z13 = z7; let z50 := z33 = false → z32 = .tup [] ∧ z13 = z7; let z64 : List V := [vP 0, vI 1, vI z37]; let z65 := cScn m.d.scan; let z66 := settleM z14; let z20 : List Blk := [.cells (oMac0_5_27 4 5 6 z66), .dead, .dead, .dead, .tree z66.d.plan.shapes, .lst .lev z66.d.stack, .lst .ev z66.out]; (.seg [.as 12 (.v (vI z37))] (.br (.br (.seg [.call [] (.tup [.agg z62, vI z9.2]) []] (.br (.seg [.call [0, 1, 2, 3] (.tup []) z31, .at 0, .cut 0 0, .cut 0 5] (.leaf () [0, 1, 2, 3, 6, 7, 5])) (.br (.br (.seg [.call [] (.v z51) []] (.br (.seg [.call [0, 1, 2, 3] (.tup []) z15, .at 0, .cut 0 0, .cut 0 5] (.leaf () [0, 1, 2, 3, 6, 7, 5])) (.br (.br (.seg [.call [0, 1, 2, 3] (.tup []) z15, .at 0, .cut 0 0, .cut 0 5] (.leaf () [0, 1, 2, 3, 6, 7, 5])) (.seg [.at 0, .cut 0 0, .cut 0 5, .cut 0 27] (.leaf () [0, 1, 2, 3, 5, 6, 7]))) (.seg [.at 0, .cut 0 0, .cut 0 5, .cut 0 27] (.leaf () [0, 1, 2, 3, 5, 6, 7]))))) (.br (.br (.seg [.call [0, 1, 2, 3] (.tup []) z15, .at 0, .cut 0 0, .cut 0 5] (.leaf () [0, 1, 2, 3, 6, 7, 5])) (.seg [.at 0, .cut 0 0, .cut 0 5, .cut 0 27] (.leaf () [0, 1, 2, 3, 5, 6, 7]))) (.seg [.at 0, .cut 0 0, .cut 0 5, .cut 0 27] (.leaf () [0, 1, 2, 3, 5, 6, 7])))) (.seg [.br true, .call [0, 1, 2, 3] (.tup []) z24] (.leaf () [0, 1, 2, 3, 5, 6, 7]))))) (.br (.seg [.call [] (.tup [.agg z62, vI z9.2]) []] (.br (.seg [.call [0, 1, 2, 3] (.tup []) z31, .at 0, .cut 0 0, .cut 0 5] (.leaf () [0, 1, 2, 3, 6, 7, 5])) (.br (.br (.seg [.call [] (.v z51) []] (.br (.seg [.call [0, 1, 2, 3] (.tup []) z15, .at 0, .cut 0 0, .cut 0 5] (.leaf () [0, 1, 2, 3, 6, 7, 5])) (.br (.br (.seg [.call [0, 1, 2, 3] (.tup []) z15, .at 0, .cut 0 0, .cut 0 5] (.leaf () [0, 1, 2, 3, 6, 7, 5])) (.seg [.at 0, .cut 0 0, .cut 0 5, .cut 0 27] (.leaf () [0, 1, 2, 3, 5, 6, 7]))) (.seg [.at 0, .cut 0 0, .cut 0 5, .cut 0 27] (.leaf () [0, 1, 2, 3, 5, 6, 7]))))) (.br (.br (.seg [.call [0, 1, 2, 3] (.tup []) z15, .at 0, .cut 0 0, .cut 0 5] (.leaf () [0, 1, 2, 3, 6, 7, 5])) (.seg [.at 0, .cut 0 0, .cut 0 5, .cut 0 27] (.leaf () [0, 1, 2, 3, 5, 6, 7]))) (.seg [.at 0, .cut 0 0, .cut 0 5, .cut 0 27] (.leaf () [0, 1, 2, 3, 5, 6, 7])))) (.seg [.br false, .br true, .call [0, 1, 2, 3] (.tup []) z27] (.leaf () [0, 1, 2, 3, 5, 6, 7]))))) (.br (.seg [.call [] (.tup [.agg z62, vI z9.2]) []] (.br (.seg [.call [0, 1, 2, 3] (.tup []) z31, .at 0, .cut 0 0, .cut 0 5] (.leaf () [0, 1, 2, 3, 6, 7, 5])) (.br (.br (.seg [.call [] (.v z51) []] (.br (.seg [.call [0, 1, 2, 3] (.tup []) z15, .at 0, .cut 0 0, .cut 0 5] (.leaf () [0, 1, 2, 3, 6, 7, 5])) (.br (.br (.seg [.call [0, 1, 2, 3] (.tup []) z15, .at 0, .cut 0 0, .cut 0 5] (.leaf () [0, 1, 2, 3, 6, 7, 5])) (.seg [.at 0, .cut 0 0, .cut 0 5, .cut 0 27] (.leaf () [0, 1, 2, 3, 5, 6, 7]))) (.seg [.at 0, .cut 0 0, .cut 0 5, .cut 0 27] (.leaf () [0, 1, 2, 3, 5, 6, 7]))))) (.br (.br (.seg [.call [0, 1, 2, 3] (.tup []) z15, .at 0, .cut 0 0, .cut 0 5] (.leaf () [0, 1, 2, 3, 6, 7, 5])) (.seg [.at 0, .cut 0 0, .cut 0 5, .cut 0 27] (.leaf () [0, 1, 2, 3, 5, 6, 7]))) (.seg [.at 0, .cut 0 0, .cut 0 5, .cut 0 27] (.leaf () [0, 1, 2, 3, 5, 6, 7])))) (.seg [.br false, .br false, .br true, .call [0, 1, 2, 3] (.tup []) z25] (.leaf () [0, 1, 2, 3, 5, 6, 7]))))) (.seg [.call [] (.tup [.agg z62, vI z9.2]) []] (.br (.seg [.call [0, 1, 2, 3] (.tup []) z22, .at 0, .cut 0 0, .cut 0 5] (.leaf () [0, 1, 2, 3, 6, 7, 5])) (.br (.br (.seg [.call [] (.v z51) []] (.br (.seg [.call [0, 1, 2, 3] (.tup []) z17, .at 0, .cut 0 0, .cut 0 5] (.leaf () [0, 1, 2, 3, 6, 7, 5])) (.br (.br (.seg [.call [0, 1, 2, 3] (.tup []) z17, .at 0, .cut 0 0, .cut 0 5] (.leaf () [0, 1, 2, 3, 6, 7, 5])) (.seg [.at 0, .cut 0 0, .cut 0 5, .cut 0 27] (.leaf () [0, 1, 2, 3, 5, 6, 7]))) (.seg [.at 0, .cut 0 0, .cut 0 5, .cut 0 27] (.leaf () [0, 1, 2, 3, 5, 6, 7]))))) (.br (.br (.seg [.call [0, 1, 2, 3] (.tup []) z17, .at 0, .cut 0 0, .cut 0 5] (.leaf () [0, 1, 2, 3, 6, 7, 5])) (.seg [.at 0, .cut 0 0, .cut 0 5, .cut 0 27] (.leaf () [0, 1, 2, 3, 5, 6, 7]))) (.seg [.at 0, .cut 0 0, .cut 0 5, .cut 0 27] (.leaf () [0, 1, 2, 3, 5, 6, 7])))) (.seg [.br false, .br false, .br false, .call [0, 1, 2, 3] (.tup []) z35, .call [0, 1, 2, 5] (.tup []) z20] (.leaf () [0, 1, 2, 3, 6, 7, 8])))))))) (.seg [.call [] (.tup [.agg z62, vI z9.2]) []] (.br (.seg [.call [0, 1, 2, 3] (.tup []) z22, .at 0, .cut 0 0, .cut 0 5] (.leaf () [0, 1, 2, 3, 6, 7, 5])) (.br (.br (.seg [.call [] (.v z51) []] (.br (.seg [.call [0, 1, 2, 3] (.tup []) z17, .at 0, .cut 0 0, .cut 0 5] (.leaf () [0, 1, 2, 3, 6, 7, 5])) (.br (.br (.seg [.call [0, 1, 2, 3] (.tup []) z17, .at 0, .cut 0 0, .cut 0 5] (.leaf () [0, 1, 2, 3, 6, 7, 5])) (.seg [.at 0, .cut 0 0, .cut 0 5, .cut 0 27] (.leaf () [0, 1, 2, 3, 5, 6, 7]))) (.seg [.at 0, .cut 0 0, .cut 0 5, .cut 0 27] (.leaf () [0, 1, 2, 3, 5, 6, 7]))))) (.br (.br (.seg [.call [0, 1, 2, 3] (.tup []) z17, .at 0, .cut 0 0, .cut 0 5] (.leaf () [0, 1, 2, 3, 6, 7, 5])) (.seg [.at 0, .cut 0 0, .cut 0 5, .cut 0 27] (.leaf () [0, 1, 2, 3, 5, 6, 7]))) (.seg [.at 0, .cut 0 0, .cut 0 5, .cut 0 27] (.leaf () [0, 1, 2, 3, 5, 6, 7])))) (.br (.seg [.call [0, 1, 2, 3] (.tup []) z26] (.leaf () [0, 1, 2, 3, 5, 6, 7])) (.br (.seg [.call [0, 1, 2, 3] (.tup []) z30] (.leaf () [0, 1, 2, 3, 5, 6, 7])) (.br (.seg [.call [0, 1, 2, 3] (.tup []) z28] (.leaf () [0, 1, 2, 3, 5, 6, 7])) (.seg [.call [0, 1, 2, 3] (.tup []) z35, .call [0, 1, 2, 5] (.tup []) z20] (.leaf () [0, 1, 2, 3, 6, 7, 8]))))))))), ((.v (vI (IntKind.i64.wrap z37)) : S) = .v (vI z37)) ∧ ((decide (m.d.scan.have_ = 0)) = true → (z47 = true → (Fun Tryz.prog 228 [.agg z65, vI b] [] (.tup [.agg z62, vI z9.2]) []) ∧ (z45 = true → (Fun Tryz.prog 219 z64 z23 (.tup []) z31) ∧ z32 = .tup [] ∧ z38 = z7) ∧ (z45 = false → (z46 = true → (z40 = true → (Fun Tryz.prog 179 [.agg (.seq .shp m.d.plan.shapes :: zi m.d.plan.root :: zi m.d.plan.deep :: zi m.d.plan.most :: zi m.d.mode :: .seq .lev m.d.stack :: .int .u64 z9.1.bits :: zi z9.1.have_ :: zi z37 :: z3)] [] (.v z51) []) ∧ (z43 = true → (Fun Tryz.prog 219 z36 z12 (.tup []) z15) ∧ z32 = .tup [] ∧ z18 = z7) ∧ (z43 = false → (z33 = true → (z34 = true → (Fun Tryz.prog 219 z36 z12 (.tup []) z15) ∧ z32 = .tup [] ∧ z18 = z7) ∧ z41) ∧ z42)) ∧ (z40 = false → (z33 = true → (z34 = true → (Fun Tryz.prog 219 z36 z12 (.tup []) z15) ∧ z32 = .tup [] ∧ z18 = z7) ∧ z41) ∧ z42)) ∧ (z46 = false → (z47 = true) ∧ (Fun Tryz.prog 229 z39 z29 (.tup []) z24) ∧ z32 = .tup [] ∧ (z24 : List Blk) = z7))) ∧ (z47 = false → (z48 = true → (Fun Tryz.prog 228 [.agg z65, vI b] [] (.tup [.agg z62, vI z9.2]) []) ∧ (z45 = true → (Fun Tryz.prog 219 z64 z23 (.tup []) z31) ∧ z32 = .tup [] ∧ z38 = z7) ∧ (z45 = false → (z46 = true → (z40 = true → (Fun Tryz.prog 179 [.agg (.seq .shp m.d.plan.shapes :: zi m.d.plan.root :: zi m.d.plan.deep :: zi m.d.plan.most :: zi m.d.mode :: .seq .lev m.d.stack :: .int .u64 z9.1.bits :: zi z9.1.have_ :: zi z37 :: z3)] [] (.v z51) []) ∧ (z43 = true → (Fun Tryz.prog 219 z36 z12 (.tup []) z15) ∧ z32 = .tup [] ∧ z18 = z7) ∧ (z43 = false → (z33 = true → (z34 = true → (Fun Tryz.prog 219 z36 z12 (.tup []) z15) ∧ z32 = .tup [] ∧ z18 = z7) ∧ z41) ∧ z42)) ∧ (z40 = false → (z33 = true → (z34 = true → (Fun Tryz.prog 219 z36 z12 (.tup []) z15) ∧ z32 = .tup [] ∧ z18 = z7) ∧ z41) ∧ z42)) ∧ (z46 = false → (z47 = false) ∧ (z48 = true) ∧ (Fun Tryz.prog 230 z39 z29 (.tup []) z27) ∧ z32 = .tup [] ∧ (z27 : List Blk) = z7))) ∧ (z48 = false → (z57 = true → (Fun Tryz.prog 228 [.agg z65, vI b] [] (.tup [.agg z62, vI z9.2]) []) ∧ (z45 = true → (Fun Tryz.prog 219 z64 z23 (.tup []) z31) ∧ z32 = .tup [] ∧ z38 = z7) ∧ (z45 = false → (z46 = true → (z40 = true → (Fun Tryz.prog 179 [.agg (.seq .shp m.d.plan.shapes :: zi m.d.plan.root :: zi m.d.plan.deep :: zi m.d.plan.most :: zi m.d.mode :: .seq .lev m.d.stack :: .int .u64 z9.1.bits :: zi z9.1.have_ :: zi z37 :: z3)] [] (.v z51) []) ∧ (z43 = true → (Fun Tryz.prog 219 z36 z12 (.tup []) z15) ∧ z32 = .tup [] ∧ z18 = z7) ∧ (z43 = false → (z33 = true → (z34 = true → (Fun Tryz.prog 219 z36 z12 (.tup []) z15) ∧ z32 = .tup [] ∧ z18 = z7) ∧ z41) ∧ z42)) ∧ (z40 = false → (z33 = true → (z34 = true → (Fun Tryz.prog 219 z36 z12 (.tup []) z15) ∧ z32 = .tup [] ∧ z18 = z7) ∧ z41) ∧ z42)) ∧ (z46 = false → (z47 = false) ∧ (z48 = false) ∧ (z57 = true) ∧ (Fun Tryz.prog 231 z39 z29 (.tup []) z25) ∧ z32 = .tup [] ∧ (z25 : List Blk) = z7))) ∧ (z57 = false → (Fun Tryz.prog 228 [.agg z65, vI b] [] (.tup [.agg z62, vI z9.2]) []) ∧ (z45 = true → (Fun Tryz.prog 219 z64 z61 (.tup []) z22) ∧ z32 = .tup [] ∧ z44 = z7) ∧ (z45 = false → (z46 = true → (z40 = true → (Fun Tryz.prog 179 [.agg (.seq .shp m.d.plan.shapes :: zi m.d.plan.root :: zi m.d.plan.deep :: zi m.d.plan.most :: zi m.d.mode :: .seq .lev m.d.stack :: .int .u64 z9.1.bits :: zi z9.1.have_ :: zi m.d.start :: z3)] [] (.v z51) []) ∧ (z43 = true → (Fun Tryz.prog 219 z36 z16 (.tup []) z17) ∧ z32 = .tup [] ∧ z21 = z7) ∧ (z43 = false → (z33 = true → (z34 = true → (Fun Tryz.prog 219 z36 z16 (.tup []) z17) ∧ z32 = .tup [] ∧ z21 = z7) ∧ z49) ∧ z50)) ∧ (z40 = false → (z33 = true → (z34 = true → (Fun Tryz.prog 219 z36 z16 (.tup []) z17) ∧ z32 = .tup [] ∧ z21 = z7) ∧ z49) ∧ z50)) ∧ (z46 = false → (z47 = false) ∧ (z48 = false) ∧ (z57 = false) ∧ (Fun Tryz.prog 227 z39 z19 (.tup []) z35) ∧ (Fun Tryz.prog 199 [vP 0] z59 (.tup []) z20) ∧ z32 = .tup [] ∧ (z20 : List Blk) = z7)))))) ∧ ((decide (m.d.scan.have_ = 0)) = false → (Fun Tryz.prog 228 [.agg z65, vI b] [] (.tup [.agg z62, vI z9.2]) []) ∧ (z45 = true → (Fun Tryz.prog 219 z64 z61 (.tup []) z22) ∧ z32 = .tup [] ∧ z44 = z7) ∧ (z45 = false → (z46 = true → (z40 = true → (Fun Tryz.prog 179 [.agg (.seq .shp m.d.plan.shapes :: zi m.d.plan.root :: zi m.d.plan.deep :: zi m.d.plan.most :: zi m.d.mode :: .seq .lev m.d.stack :: .int .u64 z9.1.bits :: zi z9.1.have_ :: zi m.d.start :: z3)] [] (.v z51) []) ∧ (z43 = true → (Fun Tryz.prog 219 z36 z16 (.tup []) z17) ∧ z32 = .tup [] ∧ z21 = z7) ∧ (z43 = false → (z33 = true → (z34 = true → (Fun Tryz.prog 219 z36 z16 (.tup []) z17) ∧ z32 = .tup [] ∧ z21 = z7) ∧ z49) ∧ z50)) ∧ (z40 = false → (z33 = true → (z34 = true → (Fun Tryz.prog 219 z36 z16 (.tup []) z17) ∧ z32 = .tup [] ∧ z21 = z7) ∧ z49) ∧ z50)) ∧ (z46 = false → (z47 = true → (Fun Tryz.prog 229 z39 z19 (.tup []) z26) ∧ z32 = .tup [] ∧ (z26 : List Blk) = z7) ∧ (z47 = false → (z48 = true → (Fun Tryz.prog 230 z39 z19 (.tup []) z30) ∧ z32 = .tup [] ∧ (z30 : List Blk) = z7) ∧ (z48 = false → (z57 = true → (Fun Tryz.prog 231 z39 z19 (.tup []) z28) ∧ z32 = .tup [] ∧ (z28 : List Blk) = z7) ∧ (z57 = false → (Fun Tryz.prog 227 z39 z19 (.tup []) z35) ∧ (Fun Tryz.prog 199 [vP 0] z59 (.tup []) z20) ∧ z32 = .tup [] ∧ (z20 : List Blk) = z7)))))))) (by kernel_rfl) ?_
 refine ⟨(as_i64 (by omega) (by omega)), dsp (fun h1 p1 => ?_) fun h1 p1 => ?_⟩
 refine dsp (fun h2 p2 => ?_) fun h2 p2 => ?_
 refine ⟨(scanByte_i m.d.scan _ (by omega)), dsp (fun h3 p3 => ?_) fun h3 p3 => ?_⟩
 refine ⟨(fails_i (⟨(⟨m.d.plan, m.d.mode, m.d.stack, m.d.scan, m.d.at_ - 1, m.d.at_, m.d.field, m.d.wire, m.d.want, m.d.utf, m.d.end_⟩ : Dcd), m.out⟩ : Mac) _ _ (by first | omega | rfl | (dsimp only; omega))), ?_⟩
 refine have hm1 : varM m b ((m).d.at_ - 1) = (mFail (⟨(⟨m.d.plan, m.d.mode, m.d.stack, m.d.scan, m.d.at_ - 1, m.d.at_, m.d.field, m.d.wire, m.d.want, m.d.utf, m.d.end_⟩ : Dcd), m.out⟩ : Mac) 1 (m.d.at_ - 1)) := ?_; ?_
 rotate_left
 exact ⟨rfl, (by rw [hm1] <;> rfl)⟩
 refine dsp (fun h4 p4 => ?_) fun h4 p4 => ?_
 refine ⟨fun h5 => have q5 := bnot_t h5; have p5 := of_decide_eq_false q5; ?_, fun h5 => have q5 := bnot_f h5; have p5 := of_decide_eq_true q5; ?_⟩
 refine ⟨(topL_i (⟨m.d.plan, m.d.mode, m.d.stack, (scanByte m.d.scan b).1, m.d.at_ - 1, m.d.at_, m.d.field, m.d.wire, m.d.want, m.d.utf, m.d.end_⟩ : Dcd) (by first | omega | rfl | (dsimp only; omega))), dsp (fun h6 p6 => ?_) fun h6 p6 => ?_⟩
 refine ⟨(fails_i (⟨(⟨m.d.plan, m.d.mode, m.d.stack, (scanByte m.d.scan b).1, m.d.at_ - 1, m.d.at_, m.d.field, m.d.wire, m.d.want, m.d.utf, m.d.end_⟩ : Dcd), m.out⟩ : Mac) _ _ (by first | omega | rfl | (dsimp only; omega))), ?_⟩
 refine have hm1 : varM m b ((m).d.at_ - 1) = (mFail (⟨(⟨m.d.plan, m.d.mode, m.d.stack, (scanByte m.d.scan b).1, m.d.at_ - 1, m.d.at_, m.d.field, m.d.wire, m.d.want, m.d.utf, m.d.end_⟩ : Dcd), m.out⟩ : Mac) 9 m.d.at_) := ?_; ?_
 rotate_left
 exact ⟨rfl, (by rw [hm1] <;> rfl)⟩
 refine dsp (fun h7 p7 => ?_) fun h7 p7 => ?_
 refine dsp (fun h8 p8 => ?_) fun h8 p8 => ?_
 refine ⟨(fails_i (⟨(⟨m.d.plan, m.d.mode, m.d.stack, (scanByte m.d.scan b).1, m.d.at_ - 1, m.d.at_, m.d.field, m.d.wire, m.d.want, m.d.utf, m.d.end_⟩ : Dcd), m.out⟩ : Mac) _ _ (by first | omega | rfl | (dsimp only; omega))), ?_⟩
 refine have hm1 : varM m b ((m).d.at_ - 1) = (mFail (⟨(⟨m.d.plan, m.d.mode, m.d.stack, (scanByte m.d.scan b).1, m.d.at_ - 1, m.d.at_, m.d.field, m.d.wire, m.d.want, m.d.utf, m.d.end_⟩ : Dcd), m.out⟩ : Mac) 9 m.d.at_) := ?_; ?_
 rotate_left
 exact ⟨rfl, (by rw [hm1] <;> rfl)⟩
 refine have hm1 : varM m b ((m).d.at_ - 1) = (⟨(⟨m.d.plan, m.d.mode, m.d.stack, (scanByte m.d.scan b).1, m.d.at_ - 1, m.d.at_, m.d.field, m.d.wire, m.d.want, m.d.utf, m.d.end_⟩ : Dcd), m.out⟩ : Mac) := ?_; ?_
 rotate_left
 exact ⟨rfl, (by rw [hm1] <;> rfl)⟩
 refine have hm1 : varM m b ((m).d.at_ - 1) = (⟨(⟨m.d.plan, m.d.mode, m.d.stack, (scanByte m.d.scan b).1, m.d.at_ - 1, m.d.at_, m.d.field, m.d.wire, m.d.want, m.d.utf, m.d.end_⟩ : Dcd), m.out⟩ : Mac) := ?_; ?_
 rotate_left
 exact ⟨rfl, (by rw [hm1] <;> rfl)⟩
 refine dsp (fun h6 p6 => ?_) fun h6 p6 => ?_
 refine dsp (fun h7 p7 => ?_) fun h7 p7 => ?_
 refine ⟨(fails_i (⟨(⟨m.d.plan, m.d.mode, m.d.stack, (scanByte m.d.scan b).1, m.d.at_ - 1, m.d.at_, m.d.field, m.d.wire, m.d.want, m.d.utf, m.d.end_⟩ : Dcd), m.out⟩ : Mac) _ _ (by first | omega | rfl | (dsimp only; omega))), ?_⟩
 refine have hm1 : varM m b ((m).d.at_ - 1) = (mFail (⟨(⟨m.d.plan, m.d.mode, m.d.stack, (scanByte m.d.scan b).1, m.d.at_ - 1, m.d.at_, m.d.field, m.d.wire, m.d.want, m.d.utf, m.d.end_⟩ : Dcd), m.out⟩ : Mac) 9 m.d.at_) := ?_; ?_
 rotate_left
 exact ⟨rfl, (by rw [hm1] <;> rfl)⟩
 refine have hm1 : varM m b ((m).d.at_ - 1) = (⟨(⟨m.d.plan, m.d.mode, m.d.stack, (scanByte m.d.scan b).1, m.d.at_ - 1, m.d.at_, m.d.field, m.d.wire, m.d.want, m.d.utf, m.d.end_⟩ : Dcd), m.out⟩ : Mac) := ?_; ?_
 rotate_left
 exact ⟨rfl, (by rw [hm1] <;> rfl)⟩
 refine have hm1 : varM m b ((m).d.at_ - 1) = (⟨(⟨m.d.plan, m.d.mode, m.d.stack, (scanByte m.d.scan b).1, m.d.at_ - 1, m.d.at_, m.d.field, m.d.wire, m.d.want, m.d.utf, m.d.end_⟩ : Dcd), m.out⟩ : Mac) := ?_; ?_
 rotate_left
 exact ⟨rfl, (by rw [hm1] <;> rfl)⟩
 refine ⟨h2, (frame_i (⟨(⟨m.d.plan, m.d.mode, m.d.stack, (⟨0, 0⟩ : Scn), m.d.at_ - 1, m.d.at_, m.d.field, m.d.wire, m.d.want, m.d.utf, m.d.end_⟩ : Dcd), m.out⟩ : Mac) _ ((by first | (exact hp1.lv) | (exact levelsOk_same hp1.lv rfl rfl))) (by first | omega | rfl | (dsimp only; omega)) (by omega)), ?_⟩
 refine have hm1 : varM m b ((m).d.at_ - 1) = (frameM (⟨(⟨m.d.plan, m.d.mode, m.d.stack, (⟨0, 0⟩ : Scn), m.d.at_ - 1, m.d.at_, m.d.field, m.d.wire, m.d.want, m.d.utf, m.d.end_⟩ : Dcd), m.out⟩ : Mac) (scanByte m.d.scan b).1.bits) := ?_; ?_
 rotate_left
 exact ⟨rfl, (by rw [hm1] <;> rfl)⟩
 refine dsp (fun h3 p3 => ?_) fun h3 p3 => ?_
 refine ⟨(scanByte_i m.d.scan _ (by omega)), dsp (fun h4 p4 => ?_) fun h4 p4 => ?_⟩
 refine ⟨(fails_i (⟨(⟨m.d.plan, m.d.mode, m.d.stack, m.d.scan, m.d.at_ - 1, m.d.at_, m.d.field, m.d.wire, m.d.want, m.d.utf, m.d.end_⟩ : Dcd), m.out⟩ : Mac) _ _ (by first | omega | rfl | (dsimp only; omega))), ?_⟩
 refine have hm1 : varM m b ((m).d.at_ - 1) = (mFail (⟨(⟨m.d.plan, m.d.mode, m.d.stack, m.d.scan, m.d.at_ - 1, m.d.at_, m.d.field, m.d.wire, m.d.want, m.d.utf, m.d.end_⟩ : Dcd), m.out⟩ : Mac) 1 (m.d.at_ - 1)) := ?_; ?_
 rotate_left
 exact ⟨rfl, (by rw [hm1] <;> rfl)⟩
 refine dsp (fun h5 p5 => ?_) fun h5 p5 => ?_
 refine ⟨fun h6 => have q6 := bnot_t h6; have p6 := of_decide_eq_false q6; ?_, fun h6 => have q6 := bnot_f h6; have p6 := of_decide_eq_true q6; ?_⟩
 refine ⟨(topL_i (⟨m.d.plan, m.d.mode, m.d.stack, (scanByte m.d.scan b).1, m.d.at_ - 1, m.d.at_, m.d.field, m.d.wire, m.d.want, m.d.utf, m.d.end_⟩ : Dcd) (by first | omega | rfl | (dsimp only; omega))), dsp (fun h7 p7 => ?_) fun h7 p7 => ?_⟩
 refine ⟨(fails_i (⟨(⟨m.d.plan, m.d.mode, m.d.stack, (scanByte m.d.scan b).1, m.d.at_ - 1, m.d.at_, m.d.field, m.d.wire, m.d.want, m.d.utf, m.d.end_⟩ : Dcd), m.out⟩ : Mac) _ _ (by first | omega | rfl | (dsimp only; omega))), ?_⟩
 refine have hm1 : varM m b ((m).d.at_ - 1) = (mFail (⟨(⟨m.d.plan, m.d.mode, m.d.stack, (scanByte m.d.scan b).1, m.d.at_ - 1, m.d.at_, m.d.field, m.d.wire, m.d.want, m.d.utf, m.d.end_⟩ : Dcd), m.out⟩ : Mac) 9 m.d.at_) := ?_; ?_
 rotate_left
 exact ⟨rfl, (by rw [hm1] <;> rfl)⟩
 refine dsp (fun h8 p8 => ?_) fun h8 p8 => ?_
 refine dsp (fun h9 p9 => ?_) fun h9 p9 => ?_
 refine ⟨(fails_i (⟨(⟨m.d.plan, m.d.mode, m.d.stack, (scanByte m.d.scan b).1, m.d.at_ - 1, m.d.at_, m.d.field, m.d.wire, m.d.want, m.d.utf, m.d.end_⟩ : Dcd), m.out⟩ : Mac) _ _ (by first | omega | rfl | (dsimp only; omega))), ?_⟩
 refine have hm1 : varM m b ((m).d.at_ - 1) = (mFail (⟨(⟨m.d.plan, m.d.mode, m.d.stack, (scanByte m.d.scan b).1, m.d.at_ - 1, m.d.at_, m.d.field, m.d.wire, m.d.want, m.d.utf, m.d.end_⟩ : Dcd), m.out⟩ : Mac) 9 m.d.at_) := ?_; ?_
 rotate_left
 exact ⟨rfl, (by rw [hm1] <;> rfl)⟩
 refine have hm1 : varM m b ((m).d.at_ - 1) = (⟨(⟨m.d.plan, m.d.mode, m.d.stack, (scanByte m.d.scan b).1, m.d.at_ - 1, m.d.at_, m.d.field, m.d.wire, m.d.want, m.d.utf, m.d.end_⟩ : Dcd), m.out⟩ : Mac) := ?_; ?_
 rotate_left
 exact ⟨rfl, (by rw [hm1] <;> rfl)⟩
 refine have hm1 : varM m b ((m).d.at_ - 1) = (⟨(⟨m.d.plan, m.d.mode, m.d.stack, (scanByte m.d.scan b).1, m.d.at_ - 1, m.d.at_, m.d.field, m.d.wire, m.d.want, m.d.utf, m.d.end_⟩ : Dcd), m.out⟩ : Mac) := ?_; ?_
 rotate_left
 exact ⟨rfl, (by rw [hm1] <;> rfl)⟩
 refine dsp (fun h7 p7 => ?_) fun h7 p7 => ?_
 refine dsp (fun h8 p8 => ?_) fun h8 p8 => ?_
 refine ⟨(fails_i (⟨(⟨m.d.plan, m.d.mode, m.d.stack, (scanByte m.d.scan b).1, m.d.at_ - 1, m.d.at_, m.d.field, m.d.wire, m.d.want, m.d.utf, m.d.end_⟩ : Dcd), m.out⟩ : Mac) _ _ (by first | omega | rfl | (dsimp only; omega))), ?_⟩
 refine have hm1 : varM m b ((m).d.at_ - 1) = (mFail (⟨(⟨m.d.plan, m.d.mode, m.d.stack, (scanByte m.d.scan b).1, m.d.at_ - 1, m.d.at_, m.d.field, m.d.wire, m.d.want, m.d.utf, m.d.end_⟩ : Dcd), m.out⟩ : Mac) 9 m.d.at_) := ?_; ?_
 rotate_left
 exact ⟨rfl, (by rw [hm1] <;> rfl)⟩
 refine have hm1 : varM m b ((m).d.at_ - 1) = (⟨(⟨m.d.plan, m.d.mode, m.d.stack, (scanByte m.d.scan b).1, m.d.at_ - 1, m.d.at_, m.d.field, m.d.wire, m.d.want, m.d.utf, m.d.end_⟩ : Dcd), m.out⟩ : Mac) := ?_; ?_
 rotate_left
 exact ⟨rfl, (by rw [hm1] <;> rfl)⟩
 refine have hm1 : varM m b ((m).d.at_ - 1) = (⟨(⟨m.d.plan, m.d.mode, m.d.stack, (scanByte m.d.scan b).1, m.d.at_ - 1, m.d.at_, m.d.field, m.d.wire, m.d.want, m.d.utf, m.d.end_⟩ : Dcd), m.out⟩ : Mac) := ?_; ?_
 rotate_left
 exact ⟨rfl, (by rw [hm1] <;> rfl)⟩
 refine ⟨h2, h3, (tag_i (⟨(⟨m.d.plan, m.d.mode, m.d.stack, (⟨0, 0⟩ : Scn), m.d.at_ - 1, m.d.at_, m.d.field, m.d.wire, m.d.want, m.d.utf, m.d.end_⟩ : Dcd), m.out⟩ : Mac) _ ((by first | (exact hp1.lv) | (exact levelsOk_same hp1.lv rfl rfl))) (by first | omega | rfl | (dsimp only; omega)) (by omega)), ?_⟩
 refine have hm1 : varM m b ((m).d.at_ - 1) = (tagM (⟨(⟨m.d.plan, m.d.mode, m.d.stack, (⟨0, 0⟩ : Scn), m.d.at_ - 1, m.d.at_, m.d.field, m.d.wire, m.d.want, m.d.utf, m.d.end_⟩ : Dcd), m.out⟩ : Mac) (scanByte m.d.scan b).1.bits) := ?_; ?_
 rotate_left
 exact ⟨rfl, (by rw [hm1] <;> rfl)⟩
 refine dsp (fun h4 p4 => ?_) fun h4 p4 => ?_
 refine ⟨(scanByte_i m.d.scan _ (by omega)), dsp (fun h5 p5 => ?_) fun h5 p5 => ?_⟩
 refine ⟨(fails_i (⟨(⟨m.d.plan, m.d.mode, m.d.stack, m.d.scan, m.d.at_ - 1, m.d.at_, m.d.field, m.d.wire, m.d.want, m.d.utf, m.d.end_⟩ : Dcd), m.out⟩ : Mac) _ _ (by first | omega | rfl | (dsimp only; omega))), ?_⟩
 refine have hm1 : varM m b ((m).d.at_ - 1) = (mFail (⟨(⟨m.d.plan, m.d.mode, m.d.stack, m.d.scan, m.d.at_ - 1, m.d.at_, m.d.field, m.d.wire, m.d.want, m.d.utf, m.d.end_⟩ : Dcd), m.out⟩ : Mac) 1 (m.d.at_ - 1)) := ?_; ?_
 rotate_left
 exact ⟨rfl, (by rw [hm1] <;> rfl)⟩
 refine dsp (fun h6 p6 => ?_) fun h6 p6 => ?_
 refine ⟨fun h7 => have q7 := bnot_t h7; have p7 := of_decide_eq_false q7; ?_, fun h7 => have q7 := bnot_f h7; have p7 := of_decide_eq_true q7; ?_⟩
 refine ⟨(topL_i (⟨m.d.plan, m.d.mode, m.d.stack, (scanByte m.d.scan b).1, m.d.at_ - 1, m.d.at_, m.d.field, m.d.wire, m.d.want, m.d.utf, m.d.end_⟩ : Dcd) (by first | omega | rfl | (dsimp only; omega))), dsp (fun h8 p8 => ?_) fun h8 p8 => ?_⟩
 refine ⟨(fails_i (⟨(⟨m.d.plan, m.d.mode, m.d.stack, (scanByte m.d.scan b).1, m.d.at_ - 1, m.d.at_, m.d.field, m.d.wire, m.d.want, m.d.utf, m.d.end_⟩ : Dcd), m.out⟩ : Mac) _ _ (by first | omega | rfl | (dsimp only; omega))), ?_⟩
 refine have hm1 : varM m b ((m).d.at_ - 1) = (mFail (⟨(⟨m.d.plan, m.d.mode, m.d.stack, (scanByte m.d.scan b).1, m.d.at_ - 1, m.d.at_, m.d.field, m.d.wire, m.d.want, m.d.utf, m.d.end_⟩ : Dcd), m.out⟩ : Mac) 9 m.d.at_) := ?_; ?_
 rotate_left
 exact ⟨rfl, (by rw [hm1] <;> rfl)⟩
 refine dsp (fun h9 p9 => ?_) fun h9 p9 => ?_
 refine dsp (fun h10 p10 => ?_) fun h10 p10 => ?_
 refine ⟨(fails_i (⟨(⟨m.d.plan, m.d.mode, m.d.stack, (scanByte m.d.scan b).1, m.d.at_ - 1, m.d.at_, m.d.field, m.d.wire, m.d.want, m.d.utf, m.d.end_⟩ : Dcd), m.out⟩ : Mac) _ _ (by first | omega | rfl | (dsimp only; omega))), ?_⟩
 refine have hm1 : varM m b ((m).d.at_ - 1) = (mFail (⟨(⟨m.d.plan, m.d.mode, m.d.stack, (scanByte m.d.scan b).1, m.d.at_ - 1, m.d.at_, m.d.field, m.d.wire, m.d.want, m.d.utf, m.d.end_⟩ : Dcd), m.out⟩ : Mac) 9 m.d.at_) := ?_; ?_
 rotate_left
 exact ⟨rfl, (by rw [hm1] <;> rfl)⟩
 refine have hm1 : varM m b ((m).d.at_ - 1) = (⟨(⟨m.d.plan, m.d.mode, m.d.stack, (scanByte m.d.scan b).1, m.d.at_ - 1, m.d.at_, m.d.field, m.d.wire, m.d.want, m.d.utf, m.d.end_⟩ : Dcd), m.out⟩ : Mac) := ?_; ?_
 rotate_left
 exact ⟨rfl, (by rw [hm1] <;> rfl)⟩
 refine have hm1 : varM m b ((m).d.at_ - 1) = (⟨(⟨m.d.plan, m.d.mode, m.d.stack, (scanByte m.d.scan b).1, m.d.at_ - 1, m.d.at_, m.d.field, m.d.wire, m.d.want, m.d.utf, m.d.end_⟩ : Dcd), m.out⟩ : Mac) := ?_; ?_
 rotate_left
 exact ⟨rfl, (by rw [hm1] <;> rfl)⟩
 refine dsp (fun h8 p8 => ?_) fun h8 p8 => ?_
 refine dsp (fun h9 p9 => ?_) fun h9 p9 => ?_
 refine ⟨(fails_i (⟨(⟨m.d.plan, m.d.mode, m.d.stack, (scanByte m.d.scan b).1, m.d.at_ - 1, m.d.at_, m.d.field, m.d.wire, m.d.want, m.d.utf, m.d.end_⟩ : Dcd), m.out⟩ : Mac) _ _ (by first | omega | rfl | (dsimp only; omega))), ?_⟩
 refine have hm1 : varM m b ((m).d.at_ - 1) = (mFail (⟨(⟨m.d.plan, m.d.mode, m.d.stack, (scanByte m.d.scan b).1, m.d.at_ - 1, m.d.at_, m.d.field, m.d.wire, m.d.want, m.d.utf, m.d.end_⟩ : Dcd), m.out⟩ : Mac) 9 m.d.at_) := ?_; ?_
 rotate_left
 exact ⟨rfl, (by rw [hm1] <;> rfl)⟩
 refine have hm1 : varM m b ((m).d.at_ - 1) = (⟨(⟨m.d.plan, m.d.mode, m.d.stack, (scanByte m.d.scan b).1, m.d.at_ - 1, m.d.at_, m.d.field, m.d.wire, m.d.want, m.d.utf, m.d.end_⟩ : Dcd), m.out⟩ : Mac) := ?_; ?_
 rotate_left
 exact ⟨rfl, (by rw [hm1] <;> rfl)⟩
 refine have hm1 : varM m b ((m).d.at_ - 1) = (⟨(⟨m.d.plan, m.d.mode, m.d.stack, (scanByte m.d.scan b).1, m.d.at_ - 1, m.d.at_, m.d.field, m.d.wire, m.d.want, m.d.utf, m.d.end_⟩ : Dcd), m.out⟩ : Mac) := ?_; ?_
 rotate_left
 exact ⟨rfl, (by rw [hm1] <;> rfl)⟩
 refine ⟨h2, h3, h4, (long_m (⟨(⟨m.d.plan, m.d.mode, m.d.stack, (⟨0, 0⟩ : Scn), m.d.at_ - 1, m.d.at_, m.d.field, m.d.wire, m.d.want, m.d.utf, m.d.end_⟩ : Dcd), m.out⟩ : Mac) _ ((by first | (exact hp1.lv) | (exact levelsOk_same hp1.lv rfl rfl))) (by first | omega | rfl | (dsimp only; omega)) (by omega) (hp1.kn)), ?_⟩
 refine have hm1 : varM m b ((m).d.at_ - 1) = (longM (⟨(⟨m.d.plan, m.d.mode, m.d.stack, (⟨0, 0⟩ : Scn), m.d.at_ - 1, m.d.at_, m.d.field, m.d.wire, m.d.want, m.d.utf, m.d.end_⟩ : Dcd), m.out⟩ : Mac) (scanByte m.d.scan b).1.bits) := ?_; ?_
 rotate_left
 exact ⟨rfl, (by rw [hm1] <;> rfl)⟩
 refine ⟨(scanByte_i m.d.scan _ (by omega)), dsp (fun h5 p5 => ?_) fun h5 p5 => ?_⟩
 refine ⟨(fails_i m _ _ (by omega)), ?_⟩
 refine have hm1 : varM m b ((m).d.at_ - 1) = (mFail m 1 (m.d.at_ - 1)) := ?_; ?_
 rotate_left
 exact ⟨rfl, (by rw [hm1] <;> rfl)⟩
 refine dsp (fun h6 p6 => ?_) fun h6 p6 => ?_
 refine ⟨fun h7 => have q7 := bnot_t h7; have p7 := of_decide_eq_false q7; ?_, fun h7 => have q7 := bnot_f h7; have p7 := of_decide_eq_true q7; ?_⟩
 refine ⟨(topL_i (⟨m.d.plan, m.d.mode, m.d.stack, (scanByte m.d.scan b).1, m.d.start, m.d.at_, m.d.field, m.d.wire, m.d.want, m.d.utf, m.d.end_⟩ : Dcd) (by first | omega | rfl | (dsimp only; omega))), dsp (fun h8 p8 => ?_) fun h8 p8 => ?_⟩
 refine ⟨(fails_i (⟨(⟨m.d.plan, m.d.mode, m.d.stack, (scanByte m.d.scan b).1, m.d.start, m.d.at_, m.d.field, m.d.wire, m.d.want, m.d.utf, m.d.end_⟩ : Dcd), m.out⟩ : Mac) _ _ (by first | omega | rfl | (dsimp only; omega))), ?_⟩
 refine have hm1 : varM m b ((m).d.at_ - 1) = (mFail (⟨(⟨m.d.plan, m.d.mode, m.d.stack, (scanByte m.d.scan b).1, m.d.start, m.d.at_, m.d.field, m.d.wire, m.d.want, m.d.utf, m.d.end_⟩ : Dcd), m.out⟩ : Mac) 9 m.d.at_) := ?_; ?_
 rotate_left
 exact ⟨rfl, (by rw [hm1] <;> rfl)⟩
 refine dsp (fun h9 p9 => ?_) fun h9 p9 => ?_
 refine dsp (fun h10 p10 => ?_) fun h10 p10 => ?_
 refine ⟨(fails_i (⟨(⟨m.d.plan, m.d.mode, m.d.stack, (scanByte m.d.scan b).1, m.d.start, m.d.at_, m.d.field, m.d.wire, m.d.want, m.d.utf, m.d.end_⟩ : Dcd), m.out⟩ : Mac) _ _ (by first | omega | rfl | (dsimp only; omega))), ?_⟩
 refine have hm1 : varM m b ((m).d.at_ - 1) = (mFail (⟨(⟨m.d.plan, m.d.mode, m.d.stack, (scanByte m.d.scan b).1, m.d.start, m.d.at_, m.d.field, m.d.wire, m.d.want, m.d.utf, m.d.end_⟩ : Dcd), m.out⟩ : Mac) 9 m.d.at_) := ?_; ?_
 rotate_left
 exact ⟨rfl, (by rw [hm1] <;> rfl)⟩
 refine have hm1 : varM m b ((m).d.at_ - 1) = (⟨(⟨m.d.plan, m.d.mode, m.d.stack, (scanByte m.d.scan b).1, m.d.start, m.d.at_, m.d.field, m.d.wire, m.d.want, m.d.utf, m.d.end_⟩ : Dcd), m.out⟩ : Mac) := ?_; ?_
 rotate_left
 exact ⟨rfl, (by rw [hm1] <;> rfl)⟩
 refine have hm1 : varM m b ((m).d.at_ - 1) = (⟨(⟨m.d.plan, m.d.mode, m.d.stack, (scanByte m.d.scan b).1, m.d.start, m.d.at_, m.d.field, m.d.wire, m.d.want, m.d.utf, m.d.end_⟩ : Dcd), m.out⟩ : Mac) := ?_; ?_
 rotate_left
 exact ⟨rfl, (by rw [hm1] <;> rfl)⟩
 refine dsp (fun h8 p8 => ?_) fun h8 p8 => ?_
 refine dsp (fun h9 p9 => ?_) fun h9 p9 => ?_
 refine ⟨(fails_i (⟨(⟨m.d.plan, m.d.mode, m.d.stack, (scanByte m.d.scan b).1, m.d.start, m.d.at_, m.d.field, m.d.wire, m.d.want, m.d.utf, m.d.end_⟩ : Dcd), m.out⟩ : Mac) _ _ (by first | omega | rfl | (dsimp only; omega))), ?_⟩
 refine have hm1 : varM m b ((m).d.at_ - 1) = (mFail (⟨(⟨m.d.plan, m.d.mode, m.d.stack, (scanByte m.d.scan b).1, m.d.start, m.d.at_, m.d.field, m.d.wire, m.d.want, m.d.utf, m.d.end_⟩ : Dcd), m.out⟩ : Mac) 9 m.d.at_) := ?_; ?_
 rotate_left
 exact ⟨rfl, (by rw [hm1] <;> rfl)⟩
 refine have hm1 : varM m b ((m).d.at_ - 1) = (⟨(⟨m.d.plan, m.d.mode, m.d.stack, (scanByte m.d.scan b).1, m.d.start, m.d.at_, m.d.field, m.d.wire, m.d.want, m.d.utf, m.d.end_⟩ : Dcd), m.out⟩ : Mac) := ?_; ?_
 rotate_left
 exact ⟨rfl, (by rw [hm1] <;> rfl)⟩
 refine have hm1 : varM m b ((m).d.at_ - 1) = (⟨(⟨m.d.plan, m.d.mode, m.d.stack, (scanByte m.d.scan b).1, m.d.start, m.d.at_, m.d.field, m.d.wire, m.d.want, m.d.utf, m.d.end_⟩ : Dcd), m.out⟩ : Mac) := ?_; ?_
 rotate_left
 exact ⟨rfl, (by rw [hm1] <;> rfl)⟩
 refine ⟨h2, h3, h4, (value_m (⟨(⟨m.d.plan, m.d.mode, m.d.stack, (⟨0, 0⟩ : Scn), m.d.start, m.d.at_, m.d.field, m.d.wire, m.d.want, m.d.utf, m.d.end_⟩ : Dcd), m.out⟩ : Mac) _ (by first | omega | rfl | (dsimp only; omega)) (by omega)), (settle_i (valueM (⟨(⟨m.d.plan, m.d.mode, m.d.stack, (⟨0, 0⟩ : Scn), m.d.start, m.d.at_, m.d.field, m.d.wire, m.d.want, m.d.utf, m.d.end_⟩ : Dcd), m.out⟩ : Mac) (scanByte m.d.scan b).1.bits) ((by first | (exact hp1.lv) | (exact levelsOk_same hp1.lv rfl rfl))) (Nat.le_trans (valueM_len _ _) (by first | omega | (dsimp only; omega)))), ?_⟩
 refine have hm1 : varM m b ((m).d.at_ - 1) = (settleM (valueM (⟨(⟨m.d.plan, m.d.mode, m.d.stack, (⟨0, 0⟩ : Scn), m.d.start, m.d.at_, m.d.field, m.d.wire, m.d.want, m.d.utf, m.d.end_⟩ : Dcd), m.out⟩ : Mac) (scanByte m.d.scan b).1.bits)) := ?_; ?_
 rotate_left
 exact ⟨rfl, (by rw [hm1] <;> rfl)⟩
 refine ⟨(scanByte_i m.d.scan _ (by omega)), dsp (fun h2 p2 => ?_) fun h2 p2 => ?_⟩
 refine ⟨(fails_i m _ _ (by omega)), ?_⟩
 refine have hm1 : varM m b ((m).d.at_ - 1) = (mFail m 1 (m.d.at_ - 1)) := ?_; ?_
 rotate_left
 exact ⟨rfl, (by rw [hm1] <;> rfl)⟩
 refine dsp (fun h3 p3 => ?_) fun h3 p3 => ?_
 refine ⟨fun h4 => have q4 := bnot_t h4; have p4 := of_decide_eq_false q4; ?_, fun h4 => have q4 := bnot_f h4; have p4 := of_decide_eq_true q4; ?_⟩
 refine ⟨(topL_i (⟨m.d.plan, m.d.mode, m.d.stack, (scanByte m.d.scan b).1, m.d.start, m.d.at_, m.d.field, m.d.wire, m.d.want, m.d.utf, m.d.end_⟩ : Dcd) (by first | omega | rfl | (dsimp only; omega))), dsp (fun h5 p5 => ?_) fun h5 p5 => ?_⟩
 refine ⟨(fails_i (⟨(⟨m.d.plan, m.d.mode, m.d.stack, (scanByte m.d.scan b).1, m.d.start, m.d.at_, m.d.field, m.d.wire, m.d.want, m.d.utf, m.d.end_⟩ : Dcd), m.out⟩ : Mac) _ _ (by first | omega | rfl | (dsimp only; omega))), ?_⟩
 refine have hm1 : varM m b ((m).d.at_ - 1) = (mFail (⟨(⟨m.d.plan, m.d.mode, m.d.stack, (scanByte m.d.scan b).1, m.d.start, m.d.at_, m.d.field, m.d.wire, m.d.want, m.d.utf, m.d.end_⟩ : Dcd), m.out⟩ : Mac) 9 m.d.at_) := ?_; ?_
 rotate_left
 exact ⟨rfl, (by rw [hm1] <;> rfl)⟩
 refine dsp (fun h6 p6 => ?_) fun h6 p6 => ?_
 refine dsp (fun h7 p7 => ?_) fun h7 p7 => ?_
 refine ⟨(fails_i (⟨(⟨m.d.plan, m.d.mode, m.d.stack, (scanByte m.d.scan b).1, m.d.start, m.d.at_, m.d.field, m.d.wire, m.d.want, m.d.utf, m.d.end_⟩ : Dcd), m.out⟩ : Mac) _ _ (by first | omega | rfl | (dsimp only; omega))), ?_⟩
 refine have hm1 : varM m b ((m).d.at_ - 1) = (mFail (⟨(⟨m.d.plan, m.d.mode, m.d.stack, (scanByte m.d.scan b).1, m.d.start, m.d.at_, m.d.field, m.d.wire, m.d.want, m.d.utf, m.d.end_⟩ : Dcd), m.out⟩ : Mac) 9 m.d.at_) := ?_; ?_
 rotate_left
 exact ⟨rfl, (by rw [hm1] <;> rfl)⟩
 refine have hm1 : varM m b ((m).d.at_ - 1) = (⟨(⟨m.d.plan, m.d.mode, m.d.stack, (scanByte m.d.scan b).1, m.d.start, m.d.at_, m.d.field, m.d.wire, m.d.want, m.d.utf, m.d.end_⟩ : Dcd), m.out⟩ : Mac) := ?_; ?_
 rotate_left
 exact ⟨rfl, (by rw [hm1] <;> rfl)⟩
 refine have hm1 : varM m b ((m).d.at_ - 1) = (⟨(⟨m.d.plan, m.d.mode, m.d.stack, (scanByte m.d.scan b).1, m.d.start, m.d.at_, m.d.field, m.d.wire, m.d.want, m.d.utf, m.d.end_⟩ : Dcd), m.out⟩ : Mac) := ?_; ?_
 rotate_left
 exact ⟨rfl, (by rw [hm1] <;> rfl)⟩
 refine dsp (fun h5 p5 => ?_) fun h5 p5 => ?_
 refine dsp (fun h6 p6 => ?_) fun h6 p6 => ?_
 refine ⟨(fails_i (⟨(⟨m.d.plan, m.d.mode, m.d.stack, (scanByte m.d.scan b).1, m.d.start, m.d.at_, m.d.field, m.d.wire, m.d.want, m.d.utf, m.d.end_⟩ : Dcd), m.out⟩ : Mac) _ _ (by first | omega | rfl | (dsimp only; omega))), ?_⟩
 refine have hm1 : varM m b ((m).d.at_ - 1) = (mFail (⟨(⟨m.d.plan, m.d.mode, m.d.stack, (scanByte m.d.scan b).1, m.d.start, m.d.at_, m.d.field, m.d.wire, m.d.want, m.d.utf, m.d.end_⟩ : Dcd), m.out⟩ : Mac) 9 m.d.at_) := ?_; ?_
 rotate_left
 exact ⟨rfl, (by rw [hm1] <;> rfl)⟩
 refine have hm1 : varM m b ((m).d.at_ - 1) = (⟨(⟨m.d.plan, m.d.mode, m.d.stack, (scanByte m.d.scan b).1, m.d.start, m.d.at_, m.d.field, m.d.wire, m.d.want, m.d.utf, m.d.end_⟩ : Dcd), m.out⟩ : Mac) := ?_; ?_
 rotate_left
 exact ⟨rfl, (by rw [hm1] <;> rfl)⟩
 refine have hm1 : varM m b ((m).d.at_ - 1) = (⟨(⟨m.d.plan, m.d.mode, m.d.stack, (scanByte m.d.scan b).1, m.d.start, m.d.at_, m.d.field, m.d.wire, m.d.want, m.d.utf, m.d.end_⟩ : Dcd), m.out⟩ : Mac) := ?_; ?_
 rotate_left
 exact ⟨rfl, (by rw [hm1] <;> rfl)⟩
 refine dsp (fun h4 p4 => ?_) fun h4 p4 => ?_
 refine ⟨(frame_i (⟨(⟨m.d.plan, m.d.mode, m.d.stack, (⟨0, 0⟩ : Scn), m.d.start, m.d.at_, m.d.field, m.d.wire, m.d.want, m.d.utf, m.d.end_⟩ : Dcd), m.out⟩ : Mac) _ ((by first | (exact hp1.lv) | (exact levelsOk_same hp1.lv rfl rfl))) (by first | omega | rfl | (dsimp only; omega)) (by omega)), ?_⟩
 refine have hm1 : varM m b ((m).d.at_ - 1) = (frameM (⟨(⟨m.d.plan, m.d.mode, m.d.stack, (⟨0, 0⟩ : Scn), m.d.start, m.d.at_, m.d.field, m.d.wire, m.d.want, m.d.utf, m.d.end_⟩ : Dcd), m.out⟩ : Mac) (scanByte m.d.scan b).1.bits) := ?_; ?_
 rotate_left
 exact ⟨rfl, (by rw [hm1] <;> rfl)⟩
 refine dsp (fun h5 p5 => ?_) fun h5 p5 => ?_
 refine ⟨(tag_i (⟨(⟨m.d.plan, m.d.mode, m.d.stack, (⟨0, 0⟩ : Scn), m.d.start, m.d.at_, m.d.field, m.d.wire, m.d.want, m.d.utf, m.d.end_⟩ : Dcd), m.out⟩ : Mac) _ ((by first | (exact hp1.lv) | (exact levelsOk_same hp1.lv rfl rfl))) (by first | omega | rfl | (dsimp only; omega)) (by omega)), ?_⟩
 refine have hm1 : varM m b ((m).d.at_ - 1) = (tagM (⟨(⟨m.d.plan, m.d.mode, m.d.stack, (⟨0, 0⟩ : Scn), m.d.start, m.d.at_, m.d.field, m.d.wire, m.d.want, m.d.utf, m.d.end_⟩ : Dcd), m.out⟩ : Mac) (scanByte m.d.scan b).1.bits) := ?_; ?_
 rotate_left
 exact ⟨rfl, (by rw [hm1] <;> rfl)⟩
 refine dsp (fun h6 p6 => ?_) fun h6 p6 => ?_
 refine ⟨(long_m (⟨(⟨m.d.plan, m.d.mode, m.d.stack, (⟨0, 0⟩ : Scn), m.d.start, m.d.at_, m.d.field, m.d.wire, m.d.want, m.d.utf, m.d.end_⟩ : Dcd), m.out⟩ : Mac) _ ((by first | (exact hp1.lv) | (exact levelsOk_same hp1.lv rfl rfl))) (by first | omega | rfl | (dsimp only; omega)) (by omega) (hp1.kn)), ?_⟩
 refine have hm1 : varM m b ((m).d.at_ - 1) = (longM (⟨(⟨m.d.plan, m.d.mode, m.d.stack, (⟨0, 0⟩ : Scn), m.d.start, m.d.at_, m.d.field, m.d.wire, m.d.want, m.d.utf, m.d.end_⟩ : Dcd), m.out⟩ : Mac) (scanByte m.d.scan b).1.bits) := ?_; ?_
 rotate_left
 exact ⟨rfl, (by rw [hm1] <;> rfl)⟩
 refine ⟨(value_m (⟨(⟨m.d.plan, m.d.mode, m.d.stack, (⟨0, 0⟩ : Scn), m.d.start, m.d.at_, m.d.field, m.d.wire, m.d.want, m.d.utf, m.d.end_⟩ : Dcd), m.out⟩ : Mac) _ (by first | omega | rfl | (dsimp only; omega)) (by omega)), (settle_i (valueM (⟨(⟨m.d.plan, m.d.mode, m.d.stack, (⟨0, 0⟩ : Scn), m.d.start, m.d.at_, m.d.field, m.d.wire, m.d.want, m.d.utf, m.d.end_⟩ : Dcd), m.out⟩ : Mac) (scanByte m.d.scan b).1.bits) ((by first | (exact hp1.lv) | (exact levelsOk_same hp1.lv rfl rfl))) (Nat.le_trans (valueM_len _ _) (by first | omega | (dsimp only; omega)))), ?_⟩
 refine have hm1 : varM m b ((m).d.at_ - 1) = (settleM (valueM (⟨(⟨m.d.plan, m.d.mode, m.d.stack, (⟨0, 0⟩ : Scn), m.d.start, m.d.at_, m.d.field, m.d.wire, m.d.want, m.d.utf, m.d.end_⟩ : Dcd), m.out⟩ : Mac) (scanByte m.d.scan b).1.bits)) := ?_; ?_
 rotate_left
 exact ⟨rfl, (by rw [hm1] <;> rfl)⟩
 all_goals first | (simp_all [varM, startM, dScan, moreM, mFail, dFail, scn0]; done) | (grind [varM, startM, dScan, moreM, mFail, dFail, scn0])
theorem fixByte_m (m : Mac) (b : Int) (hp1 : MW (m).d) (hp2 : List.length (m).out ≤ 50000000) (hp3 : (0 : Int) ≤ b ∧ b ≤ 255) : Fun Tryz.prog 201 [vP 0, vI b] [.cells (oMac0_5_27 1 2 3 m), .tree m.d.plan.shapes, .lst .lev m.d.stack, .lst .ev m.out] (.tup []) [.cells (oMac0_5_27 4 5 6 (fixM m b)), .dead, .dead, .dead, .tree (fixM m b).d.plan.shapes, .lst .lev (fixM m b).d.stack, .lst .ev (fixM m b).out] := by
 have hN : bigN = 274877906944 := rfl
 have hlv := levelsOk_b hp1.lv
 have hpt := planOk_t hlv.1
 have htb := topL_b hp1.lv
 have hwm := wM_b m
 have hbb := hp1.b0
 have hat := hp1.at_
 have hwt := hp1.want
 have hwd := widthD_b m.d
 have hfb := fixByte_b (b := b) hbb
 refine fun_ofw Tryz.func201 (by kernel_rfl) (by kernel_rfl) (w := let zi : Int → C := .int .i64; let z3 : List Blk := [.cells (oMac0_5_27 4 5 6 (fixM m b)), .dead, .dead, .dead, .tree (fixM m b).d.plan.shapes, .lst .lev (fixM m b).d.stack, .lst .ev (fixM m b).out]; let z6 := fixByte m.d.scan b; let z1 := valueM (⟨(⟨m.d.plan, m.d.mode, m.d.stack, (⟨0, 0⟩ : Scn), m.d.start, m.d.at_, m.d.field, m.d.wire, m.d.want, m.d.utf, m.d.end_⟩ : Dcd), m.out⟩ : Mac) z6.bits; let z2 : List Blk := [.cells (oMac0_5_27 4 5 6 (settleM z1)), .dead, .dead, .dead, .tree (settleM z1).d.plan.shapes, .lst .lev (settleM z1).d.stack, .lst .ev (settleM z1).out]; let z4 : List Blk := [.cells (oMac0_5_27 1 2 3 z1), .tree z1.d.plan.shapes, .lst .lev z1.d.stack, .lst .ev z1.out]; let z5 := mFail z1 9 z1.d.at_; let z7 : List Blk := [.cells (oMac0_5_27 1 2 4 z1), .tree z1.d.plan.shapes, .lst .lev z1.d.stack, .dead, .lst .ev z1.out]; let z8 : List Blk := [.cells (oMac0_5_27 1 2 4 z5), .tree z5.d.plan.shapes, .lst .lev z5.d.stack, .dead, .lst .ev z5.out]; let z9 := (.tup [] : S); let z10 := decide (z1.d.want < widthD m.d); let z11 := decide (z6.have_ < widthD m.d); (.seg [.ord [(0, true), (1, true), (2, true), (3, true), (5, true), (6, true), (7, true), (8, true), (9, true), (10, true), (4, false), (11, true), (12, true)] [], .call [] (.v (vI (widthD m.d))) [], .call [] (.v (.agg (cScn z6))) []] (.br (.seg [.at 0, .cut 0 0, .cut 0 5, .cut 0 27] (.leaf () [0, 1, 2, 3, 4, 5, 6])) (.seg [.call [0, 1, 2, 3] (.tup []) z7] (.br (.br (.br (.seg [.call [0, 1, 2, 4] (.tup []) z8, .at 0, .cut 0 0, .cut 0 5] (.leaf () [0, 1, 2, 3, 6, 7, 5])) (.seg [.call [0, 1, 2, 4] (.tup []) z2] (.leaf () [0, 1, 2, 3, 5, 6, 7]))) (.seg [.call [0, 1, 2, 4] (.tup []) z2] (.leaf () [0, 1, 2, 3, 5, 6, 7]))) (.seg [.call [0, 1, 2, 4] (.tup []) z2] (.leaf () [0, 1, 2, 3, 5, 6, 7]))))), (Fun Tryz.prog 200 [.agg (cDcd m.d)] [] (.v (vI (widthD m.d))) []) ∧ (Fun Tryz.prog 226 [.agg (cScn m.d.scan), vI b] [] (.v (.agg (cScn z6))) []) ∧ (z11 = true → z9 = .tup [] ∧ ([.cells [.own 4, zi m.d.plan.root, zi m.d.plan.deep, zi m.d.plan.most, zi m.d.mode, .own 5, .int .u64 z6.bits, zi z6.have_, zi m.d.start, zi m.d.at_, zi m.d.field.number, zi m.d.field.kind, .bool m.d.field.rep, .bool m.d.field.packed, zi m.d.field.msg, zi m.d.wire, zi m.d.want, zi m.d.utf.want, zi m.d.utf.low, zi m.d.utf.high, zi m.d.end_.kind, zi m.d.end_.field, .int .u64 m.d.end_.bits, zi m.d.end_.len, .str m.d.end_.text, zi m.d.end_.code, zi m.d.end_.at_, .own 6], .dead, .dead, .dead, .tree m.d.plan.shapes, .lst .lev m.d.stack, .lst .ev m.out] : List Blk) = z3) ∧ (z11 = false → (Fun Tryz.prog 227 [vP 0, .c (.int .u64 z6.bits)] [.cells [.own 1, zi m.d.plan.root, zi m.d.plan.deep, zi m.d.plan.most, zi m.d.mode, .own 2, .int .u64 0, zi 0, zi m.d.start, zi m.d.at_, zi m.d.field.number, zi m.d.field.kind, .bool m.d.field.rep, .bool m.d.field.packed, zi m.d.field.msg, zi m.d.wire, zi m.d.want, zi m.d.utf.want, zi m.d.utf.low, zi m.d.utf.high, zi m.d.end_.kind, zi m.d.end_.field, .int .u64 m.d.end_.bits, zi m.d.end_.len, .str m.d.end_.text, zi m.d.end_.code, zi m.d.end_.at_, .own 3], .tree m.d.plan.shapes, .lst .lev m.d.stack, .lst .ev m.out] (.tup []) z7) ∧ ((decide (m.d.mode = 8)) = true → ((decide (0 < z1.d.want)) = true → (z10 = true → (Fun Tryz.prog 219 [vP 0, vI 9, vI z1.d.at_] z4 (.tup []) z8) ∧ z9 = .tup [] ∧ ([.cells (oMac0_5_27 4 5 6 z5), .dead, .dead, .dead, .tree z5.d.plan.shapes, .lst .lev z5.d.stack, .lst .ev z5.out] : List Blk) = z3) ∧ (z10 = false → (Fun Tryz.prog 199 [vP 0] z4 (.tup []) z2) ∧ z9 = .tup [] ∧ (z2 : List Blk) = z3)) ∧ ((decide (0 < z1.d.want)) = false → (Fun Tryz.prog 199 [vP 0] z4 (.tup []) z2) ∧ z9 = .tup [] ∧ (z2 : List Blk) = z3)) ∧ ((decide (m.d.mode = 8)) = false → (Fun Tryz.prog 199 [vP 0] z4 (.tup []) z2) ∧ z9 = .tup [] ∧ (z2 : List Blk) = z3)))) (by kernel_rfl) ?_
 refine ⟨(widthD_i m.d), (fixByte_i m.d.scan _), dsp (fun h1 p1 => ?_) fun h1 p1 => ?_⟩
 refine have hm1 : fixM m b = (⟨(⟨m.d.plan, m.d.mode, m.d.stack, (fixByte m.d.scan b), m.d.start, m.d.at_, m.d.field, m.d.wire, m.d.want, m.d.utf, m.d.end_⟩ : Dcd), m.out⟩ : Mac) := ?_; ?_
 rotate_left
 exact ⟨rfl, (by rw [hm1] <;> rfl)⟩
 refine ⟨(value_m (⟨(⟨m.d.plan, m.d.mode, m.d.stack, (⟨0, 0⟩ : Scn), m.d.start, m.d.at_, m.d.field, m.d.wire, m.d.want, m.d.utf, m.d.end_⟩ : Dcd), m.out⟩ : Mac) _ (by first | omega | rfl | (dsimp only; omega)) (by omega)), dsp (fun h2 p2 => ?_) fun h2 p2 => ?_⟩
 refine dsp (fun h3 p3 => ?_) fun h3 p3 => ?_
 refine dsp (fun h4 p4 => ?_) fun h4 p4 => ?_
 refine ⟨(fails_i (valueM (⟨(⟨m.d.plan, m.d.mode, m.d.stack, (⟨0, 0⟩ : Scn), m.d.start, m.d.at_, m.d.field, m.d.wire, m.d.want, m.d.utf, m.d.end_⟩ : Dcd), m.out⟩ : Mac) (fixByte m.d.scan b).bits) _ _ (Nat.le_trans (valueM_len _ _) (by first | omega | (dsimp only; omega)))), ?_⟩
 refine have hm1 : fixM m b = (mFail (valueM (⟨(⟨m.d.plan, m.d.mode, m.d.stack, (⟨0, 0⟩ : Scn), m.d.start, m.d.at_, m.d.field, m.d.wire, m.d.want, m.d.utf, m.d.end_⟩ : Dcd), m.out⟩ : Mac) (fixByte m.d.scan b).bits) 9 (valueM (⟨(⟨m.d.plan, m.d.mode, m.d.stack, (⟨0, 0⟩ : Scn), m.d.start, m.d.at_, m.d.field, m.d.wire, m.d.want, m.d.utf, m.d.end_⟩ : Dcd), m.out⟩ : Mac) (fixByte m.d.scan b).bits).d.at_) := ?_; ?_
 rotate_left
 exact ⟨rfl, (by rw [hm1] <;> rfl)⟩
 refine ⟨(settle_i (valueM (⟨(⟨m.d.plan, m.d.mode, m.d.stack, (⟨0, 0⟩ : Scn), m.d.start, m.d.at_, m.d.field, m.d.wire, m.d.want, m.d.utf, m.d.end_⟩ : Dcd), m.out⟩ : Mac) (fixByte m.d.scan b).bits) ((by first | (exact hp1.lv) | (exact levelsOk_same hp1.lv rfl rfl))) (Nat.le_trans (valueM_len _ _) (by first | omega | (dsimp only; omega)))), ?_⟩
 refine have hm1 : fixM m b = (settleM (valueM (⟨(⟨m.d.plan, m.d.mode, m.d.stack, (⟨0, 0⟩ : Scn), m.d.start, m.d.at_, m.d.field, m.d.wire, m.d.want, m.d.utf, m.d.end_⟩ : Dcd), m.out⟩ : Mac) (fixByte m.d.scan b).bits)) := ?_; ?_
 rotate_left
 exact ⟨rfl, (by rw [hm1] <;> rfl)⟩
 refine ⟨(settle_i (valueM (⟨(⟨m.d.plan, m.d.mode, m.d.stack, (⟨0, 0⟩ : Scn), m.d.start, m.d.at_, m.d.field, m.d.wire, m.d.want, m.d.utf, m.d.end_⟩ : Dcd), m.out⟩ : Mac) (fixByte m.d.scan b).bits) ((by first | (exact hp1.lv) | (exact levelsOk_same hp1.lv rfl rfl))) (Nat.le_trans (valueM_len _ _) (by first | omega | (dsimp only; omega)))), ?_⟩
 refine have hm1 : fixM m b = (settleM (valueM (⟨(⟨m.d.plan, m.d.mode, m.d.stack, (⟨0, 0⟩ : Scn), m.d.start, m.d.at_, m.d.field, m.d.wire, m.d.want, m.d.utf, m.d.end_⟩ : Dcd), m.out⟩ : Mac) (fixByte m.d.scan b).bits)) := ?_; ?_
 rotate_left
 exact ⟨rfl, (by rw [hm1] <;> rfl)⟩
 refine ⟨(settle_i (valueM (⟨(⟨m.d.plan, m.d.mode, m.d.stack, (⟨0, 0⟩ : Scn), m.d.start, m.d.at_, m.d.field, m.d.wire, m.d.want, m.d.utf, m.d.end_⟩ : Dcd), m.out⟩ : Mac) (fixByte m.d.scan b).bits) ((by first | (exact hp1.lv) | (exact levelsOk_same hp1.lv rfl rfl))) (Nat.le_trans (valueM_len _ _) (by first | omega | (dsimp only; omega)))), ?_⟩
 refine have hm1 : fixM m b = (settleM (valueM (⟨(⟨m.d.plan, m.d.mode, m.d.stack, (⟨0, 0⟩ : Scn), m.d.start, m.d.at_, m.d.field, m.d.wire, m.d.want, m.d.utf, m.d.end_⟩ : Dcd), m.out⟩ : Mac) (fixByte m.d.scan b).bits)) := ?_; ?_
 rotate_left
 exact ⟨rfl, (by rw [hm1] <;> rfl)⟩
 all_goals first | (simp_all [fixM, dScan, mFail, dFail, scn0, valueM_at, valueM_want]; done) | (grind [fixM, dScan, mFail, dFail, scn0, valueM_at, valueM_want])
theorem textByte_i (m : Mac) (b : Int) (hp1 : MW (m).d) (hp2 : List.length (m).out ≤ 50000000) (hp3 : (0 : Int) ≤ b ∧ b ≤ 255) : Fun Tryz.prog 198 [vP 0, vI b] [.cells (oMac0_5_27 1 2 3 m), .tree m.d.plan.shapes, .lst .lev m.d.stack, .lst .ev m.out] (.tup []) [.cells (oMac0_5_27 4 5 6 (textB m b)), .dead, .dead, .dead, .tree (textB m b).d.plan.shapes, .lst .lev (textB m b).d.stack, .lst .ev (textB m b).out] := by
 have hN : bigN = 274877906944 := rfl
 have hlv := levelsOk_b hp1.lv
 have hpt := planOk_t hlv.1
 have htb := topL_b hp1.lv
 have hwm := wM_b m
 have hbb := hp1.b0
 have hat := hp1.at_
 have hwt := hp1.want
 have hwd := widthD_b m.d
 refine fun_ofw Tryz.func198 (by kernel_rfl) (by kernel_rfl) (w := let zi : Int → C := .int .i64; let z3 : List C := [zi 4, zi 0, .int .u64 0, zi 0, .str (List.map toByte [b]), zi 0, zi 0]; let z6 := (⟨4, 0, 0, 0, List.map toByte [b], 0, 0⟩ : Ev); let z5 := settleM (⟨(m).d, (m).out ++ [z6]⟩ : Mac); let z7 : List Blk := [.cells (oMac0_5_27 4 5 6 (textB m b)), .dead, .dead, .dead, .tree (textB m b).d.plan.shapes, .lst .lev (textB m b).d.stack, .lst .ev (textB m b).out]; let z11 : List Blk := [.cells (oMac0_5_27 4 5 6 z5), .dead, .dead, .dead, .tree z5.d.plan.shapes, .lst .lev z5.d.stack, .lst .ev z5.out]; let z12 : List Blk := [.cells (oMac0_5_27 1 2 4 m), .tree (m).d.plan.shapes, .lst .lev (m).d.stack, .dead, .lst .ev ((m).out ++ [z6])]; let z14 : List Blk := [.cells (oMac0_5_27 1 2 3 m), .tree m.d.plan.shapes, .lst .lev m.d.stack, .lst .ev m.out]; let z16 := (.v (.c (.int .u8 (IntKind.u8.wrap (b)))) : S) = .v (.c (.int .u8 b)); let z17 := utfByte m.d.utf b; let z8 := z17.getD m.d.utf; let z1 : List C := [.own 1, zi m.d.plan.root, zi m.d.plan.deep, zi m.d.plan.most, zi m.d.mode, .own 2, .int .u64 m.d.scan.bits, zi m.d.scan.have_, zi m.d.start, zi m.d.at_, zi m.d.field.number, zi m.d.field.kind, .bool m.d.field.rep, .bool m.d.field.packed, zi m.d.field.msg, zi m.d.wire, zi m.d.want, zi z8.want, zi z8.low, zi z8.high, zi m.d.end_.kind, zi m.d.end_.field, .int .u64 m.d.end_.bits, zi m.d.end_.len, .str m.d.end_.text, zi m.d.end_.code, zi m.d.end_.at_, .own 4]; let z2 : List C := [.own 1, zi m.d.plan.root, zi m.d.plan.deep, zi m.d.plan.most, zi m.d.mode, .own 2, .int .u64 m.d.scan.bits, zi m.d.scan.have_, zi m.d.start, zi m.d.at_, zi m.d.field.number, zi m.d.field.kind, .bool m.d.field.rep, .bool m.d.field.packed, zi m.d.field.msg, zi m.d.wire, zi m.d.want, zi z8.want, zi z8.low, zi z8.high, zi m.d.end_.kind, zi m.d.end_.field, .int .u64 m.d.end_.bits, zi m.d.end_.len, .str m.d.end_.text, zi m.d.end_.code, zi m.d.end_.at_, .own 3]; let z4 := settleM (⟨(⟨m.d.plan, m.d.mode, m.d.stack, m.d.scan, m.d.start, m.d.at_, m.d.field, m.d.wire, m.d.want, z8, m.d.end_⟩ : Dcd), m.out ++ [z6]⟩ : Mac); let z10 : List Blk := [.cells (oMac0_5_27 4 5 6 z4), .dead, .dead, .dead, .tree z4.d.plan.shapes, .lst .lev z4.d.stack, .lst .ev z4.out]; let z15 : List Blk := [.cells z1, .tree m.d.plan.shapes, .lst .lev m.d.stack, .dead, .lst .ev (m.out ++ [z6])]; let z18 := m.d.at_ - 1; let z9 := mFail m 5 z18; let z13 : List Blk := [.cells (oMac0_5_27 1 2 4 z9), .tree z9.d.plan.shapes, .lst .lev z9.d.stack, .dead, .lst .ev z9.out]; (.br (.seg [.call [] (.tup [.agg (cUtf z8), vB z17.isSome]) []] (.br (.seg [.as 31 (.v (vI z18)), .call [0, 1, 2, 3] (.tup []) z13, .at 0, .cut 0 0, .cut 0 5] (.leaf () [0, 1, 2, 3, 6, 7, 5])) (.seg [.as 40 (.v (.c (.int .u8 b))), .ty .u8, .call [0, 1, 2, 3] (.tup []) z15, .call [0, 1, 2, 6] (.tup []) z10] (.leaf () [0, 1, 2, 3, 7, 8, 9])))) (.seg [.as 40 (.v (.c (.int .u8 b))), .ty .u8, .call [0, 1, 2, 3] (.tup []) z12, .call [0, 1, 2, 5] (.tup []) z11] (.leaf () [0, 1, 2, 3, 6, 7, 8])), ((decide (m.d.field.kind = 6)) = true → (Fun Tryz.prog 223 [.agg (cUtf m.d.utf), vI b] [] (.tup [.agg (cUtf z8), vB z17.isSome]) []) ∧ ((!z17.isSome) = true → ((.v (vI (IntKind.i64.wrap z18)) : S) = .v (vI z18)) ∧ (Fun Tryz.prog 219 [vP 0, vI 5, vI z18] z14 (.tup []) z13) ∧ (.tup [] : S) = .tup [] ∧ ([.cells (oMac0_5_27 4 5 6 z9), .dead, .dead, .dead, .tree z9.d.plan.shapes, .lst .lev z9.d.stack, .lst .ev z9.out] : List Blk) = z7) ∧ ((!z17.isSome) = false → z16 ∧ (Fun Tryz.prog 218 [vP 0, .agg z3] [.cells z2, .tree m.d.plan.shapes, .lst .lev m.d.stack, .lst .ev m.out] (.tup []) z15) ∧ (Fun Tryz.prog 199 [vP 0] [.cells z2, .tree m.d.plan.shapes, .lst .lev m.d.stack, .lst .ev (m.out ++ [z6])] (.tup []) z10) ∧ (.tup [] : S) = .tup [] ∧ (z10 : List Blk) = z7)) ∧ ((decide (m.d.field.kind = 6)) = false → z16 ∧ (Fun Tryz.prog 218 [vP 0, .agg z3] z14 (.tup []) z12) ∧ (Fun Tryz.prog 199 [vP 0] [.cells (oMac0_5_27 1 2 3 m), .tree (m).d.plan.shapes, .lst .lev (m).d.stack, .lst .ev ((m).out ++ [z6])] (.tup []) z11) ∧ (.tup [] : S) = .tup [] ∧ (z11 : List Blk) = z7))) (by kernel_rfl) ?_
 refine dsp (fun h1 p1 => ?_) fun h1 p1 => ?_
 refine ⟨(utfByte_i m.d.utf _), fun h2 => have q2 := bnot_t h2; ?_, fun h2 => have q2 := bnot_f h2; ?_⟩
 refine ⟨(as_i64 (by omega) (by omega)), (fails_i m _ _ (by omega)), ?_⟩
 refine have hm1 : textB m b = (mFail m 5 (m.d.at_ - 1)) := ?_; ?_
 rotate_left
 exact ⟨rfl, (by rw [hm1] <;> rfl)⟩
 refine ⟨(as_u8 (by omega) (by omega)), (emit_i (⟨(⟨m.d.plan, m.d.mode, m.d.stack, m.d.scan, m.d.start, m.d.at_, m.d.field, m.d.wire, m.d.want, ((utfByte m.d.utf b).getD m.d.utf), m.d.end_⟩ : Dcd), m.out⟩ : Mac) (⟨4, 0, 0, 0, List.map toByte [b], 0, 0⟩ : Ev) (by first | omega | rfl | (dsimp only; omega))), (settle_i (⟨(⟨m.d.plan, m.d.mode, m.d.stack, m.d.scan, m.d.start, m.d.at_, m.d.field, m.d.wire, m.d.want, ((utfByte m.d.utf b).getD m.d.utf), m.d.end_⟩ : Dcd), m.out ++ [(⟨4, 0, 0, 0, List.map toByte [b], 0, 0⟩ : Ev)]⟩ : Mac) ((by first | (exact hp1.lv) | (exact levelsOk_same hp1.lv rfl rfl))) (by simp only [List.length_append, List.length_cons, List.length_nil, List.length_set, List.length_take]; omega)), ?_⟩
 refine have hm1 : textB m b = (settleM (⟨(⟨m.d.plan, m.d.mode, m.d.stack, m.d.scan, m.d.start, m.d.at_, m.d.field, m.d.wire, m.d.want, ((utfByte m.d.utf b).getD m.d.utf), m.d.end_⟩ : Dcd), m.out ++ [(⟨4, 0, 0, 0, List.map toByte [b], 0, 0⟩ : Ev)]⟩ : Mac)) := ?_; ?_
 rotate_left
 exact ⟨rfl, (by rw [hm1] <;> rfl)⟩
 refine ⟨(as_u8 (by omega) (by omega)), (emit_i m (⟨4, 0, 0, 0, List.map toByte [b], 0, 0⟩ : Ev) (by omega)), (settle_i (⟨(m).d, (m).out ++ [(⟨4, 0, 0, 0, List.map toByte [b], 0, 0⟩ : Ev)]⟩ : Mac) ((by first | (exact hp1.lv) | (exact levelsOk_same hp1.lv rfl rfl))) (by simp only [List.length_append, List.length_cons, List.length_nil, List.length_set, List.length_take]; omega)), ?_⟩
 refine have hm1 : textB m b = (settleM (⟨(m).d, (m).out ++ [(⟨4, 0, 0, 0, List.map toByte [b], 0, 0⟩ : Ev)]⟩ : Mac)) := ?_; ?_
 rotate_left
 exact ⟨rfl, (by rw [hm1] <;> rfl)⟩
 all_goals first | (simp_all [textB, dUtf, mFail, dFail, evPrt]; done) | (grind [textB, dUtf, mFail, dFail, evPrt])
theorem byte_i (m : Mac) (b : Int) (hp1 : MW (m).d) (hp2 : List.length (m).out ≤ 50000000) (hp3 : (0 : Int) ≤ b ∧ b ≤ 255) (hp4 : ((m).d.stack.length = 0 ∨ 1 ≤ topL (m).d)) (hp5 : (m).d.at_ ≤ 1000000000) (hp6 : ((m).d.mode = 6 ∨ (m).d.mode = 7 ∨ (m).d.mode = 8) → 0 ≤ (m).d.want) : Fun Tryz.prog 167 [vP 0, vI b] [.cells (oMac0_5_27 1 2 3 m), .tree m.d.plan.shapes, .lst .lev m.d.stack, .lst .ev m.out] (.tup []) [.cells (oMac0_5_27 4 5 6 (byteM m b)), .dead, .dead, .dead, .tree (byteM m b).d.plan.shapes, .lst .lev (byteM m b).d.stack, .lst .ev (byteM m b).out] := by
 have hN : bigN = 274877906944 := rfl
 have hlv := levelsOk_b hp1.lv
 have hpt := planOk_t hlv.1
 have htb := topL_b hp1.lv
 have hwm := wM_b m
 have hbb := hp1.b0
 have hat := hp1.at_
 have hwt := hp1.want
 have hwd := widthD_b m.d
 have hms := hp1.step hp4 hp5 hp6
 refine fun_ofw Tryz.func167 (by kernel_rfl) (by kernel_rfl) (w := let zi : Int → C := .int .i64; let z13 : List C := [zi m.d.utf.want, zi m.d.utf.low, zi m.d.utf.high, zi m.d.end_.kind, zi m.d.end_.field, .int .u64 m.d.end_.bits, zi m.d.end_.len, .str m.d.end_.text, zi m.d.end_.code, zi m.d.end_.at_]; let z14 : List C := [zi m.d.utf.want, zi m.d.utf.low, zi m.d.utf.high, zi m.d.end_.kind, zi m.d.end_.field, .int .u64 m.d.end_.bits, zi m.d.end_.len, .str m.d.end_.text, zi m.d.end_.code, zi m.d.end_.at_, .own 3]; let z15 := (⟨m.d.plan, m.d.mode, m.d.stack, m.d.scan, m.d.start, m.d.at_ + 1, m.d.field, m.d.wire, m.d.want - 1, m.d.utf, m.d.end_⟩ : Dcd); let z16 := (⟨m.d.plan, m.d.mode, m.d.stack, m.d.scan, m.d.start, m.d.at_ + 1, m.d.field, m.d.wire, m.d.want, m.d.utf, m.d.end_⟩ : Dcd); let z17 : List Blk := [.cells (oMac0_5_27 4 5 6 (byteM m b)), .dead, .dead, .dead, .tree (byteM m b).d.plan.shapes, .lst .lev (byteM m b).d.stack, .lst .ev (byteM m b).out]; let z18 := (m.d.stack.length : Int); let z27 := decide (m.d.mode = 6); let z29 := decide (m.d.mode = 7); let z30 := decide (0 < widthD m.d); let z31 := m.d.want - 1; let z26 := (.v (vI (IntKind.i64.wrap z31)) : S) = .v (vI z31); let z32 := (.tup [] : S); let z33 := vI (widthD m.d); let z34 := m.d.at_ + 1; let z11 : List C := .own 1 :: zi m.d.plan.root :: zi m.d.plan.deep :: zi m.d.plan.most :: zi m.d.mode :: .own 2 :: .int .u64 m.d.scan.bits :: zi m.d.scan.have_ :: zi m.d.start :: zi z34 :: zi m.d.field.number :: zi m.d.field.kind :: .bool m.d.field.rep :: .bool m.d.field.packed :: zi m.d.field.msg :: zi m.d.wire :: zi z31 :: z14; let z12 : List C := .own 1 :: zi m.d.plan.root :: zi m.d.plan.deep :: zi m.d.plan.most :: zi m.d.mode :: .own 2 :: .int .u64 m.d.scan.bits :: zi m.d.scan.have_ :: zi m.d.start :: zi z34 :: zi m.d.field.number :: zi m.d.field.kind :: .bool m.d.field.rep :: .bool m.d.field.packed :: zi m.d.field.msg :: zi m.d.wire :: zi m.d.want :: z14; let z19 := z34 - 1; let z28 : List Blk := [.cells z11, .tree m.d.plan.shapes, .lst .lev m.d.stack, .lst .ev m.out]; let z35 := varM (⟨z15, m.out⟩ : Mac) b z19; let z20 : List Blk := [.cells (oMac0_5_27 4 5 6 z35), .dead, .dead, .dead, .tree z35.d.plan.shapes, .lst .lev z35.d.stack, .lst .ev z35.out]; let z36 := varM (⟨z16, m.out⟩ : Mac) b z19; let z21 : List Blk := [.cells (oMac0_5_27 4 5 6 z36), .dead, .dead, .dead, .tree z36.d.plan.shapes, .lst .lev z36.d.stack, .lst .ev z36.out]; let z37 := textB (⟨z15, m.out⟩ : Mac) b; let z22 : List Blk := [.cells (oMac0_5_27 4 5 6 z37), .dead, .dead, .dead, .tree z37.d.plan.shapes, .lst .lev z37.d.stack, .lst .ev z37.out]; let z38 := settleM (⟨z15, m.out⟩ : Mac); let z23 : List Blk := [.cells (oMac0_5_27 4 5 6 z38), .dead, .dead, .dead, .tree z38.d.plan.shapes, .lst .lev z38.d.stack, .lst .ev z38.out]; let z39 := fixM (⟨z15, m.out⟩ : Mac) b; let z24 : List Blk := [.cells (oMac0_5_27 4 5 6 z39), .dead, .dead, .dead, .tree z39.d.plan.shapes, .lst .lev z39.d.stack, .lst .ev z39.out]; let z40 := fixM (⟨z16, m.out⟩ : Mac) b; let z25 : List Blk := [.cells (oMac0_5_27 4 5 6 z40), .dead, .dead, .dead, .tree z40.d.plan.shapes, .lst .lev z40.d.stack, .lst .ev z40.out]; let z41 : List V := [vP 0, vI b]; let z42 := Int.toNat (z18 - 1); let z43 := (.v (vI (IntKind.i64.wrap (z18 - 1))) : S) = .v (vI (z18 - 1)); let z44 : List Blk := [.cells z12, .tree m.d.plan.shapes, .lst .lev m.d.stack, .lst .ev m.out]; let z45 := decide (m.d.mode = 8); let z46 := (0 : Int) ≤ z18 - 1; let z47 := z27 = false; let z48 := z18 - 1 < z18; let z49 := z29 = false; (.seg [.as 9 (.v (vI z34))] (.br (.intro (fun (x1 : Lev) => m.d.stack[Int.toNat (z18 - 1)]? = some x1) fun x1 => let z1 := (⟨m.d.plan, m.d.mode, List.set m.d.stack z42 (⟨x1.msg, x1.left - 1⟩ : Lev), m.d.scan, m.d.start, m.d.at_ + 1, m.d.field, m.d.wire, m.d.want - 1, m.d.utf, m.d.end_⟩ : Dcd); let z2 := (⟨m.d.plan, m.d.mode, List.set m.d.stack z42 (⟨x1.msg, x1.left - 1⟩ : Lev), m.d.scan, m.d.start, m.d.at_ + 1, m.d.field, m.d.wire, m.d.want, m.d.utf, m.d.end_⟩ : Dcd); .seg [.ord (os 19 [18]) [], .as 31 (.v (vI (z18 - 1))), .el .lev x1, .as 35 (.v (vI (x1.left - 1))), .el .lev x1] (.br (.seg [.as 65 (.v (vI z31)), .br true, .call [0, 1, 2, 3] (.tup []) [.cells (oMac0_5_27 4 5 6 (textB (⟨z1, m.out⟩ : Mac) b)), .dead, .dead, .dead, .tree (textB (⟨z1, m.out⟩ : Mac) b).d.plan.shapes, .lst .lev (textB (⟨z1, m.out⟩ : Mac) b).d.stack, .lst .ev (textB (⟨z1, m.out⟩ : Mac) b).out]] (.leaf () [0, 1, 2, 3, 4, 5, 6])) (.br (.seg [.as 65 (.v (vI z31)), .br false, .br true, .call [0, 1, 2, 3] (.tup []) [.cells (oMac0_5_27 4 5 6 (settleM (⟨z1, m.out⟩ : Mac))), .dead, .dead, .dead, .tree (settleM (⟨z1, m.out⟩ : Mac)).d.plan.shapes, .lst .lev (settleM (⟨z1, m.out⟩ : Mac)).d.stack, .lst .ev (settleM (⟨z1, m.out⟩ : Mac)).out]] (.leaf () [0, 1, 2, 3, 4, 5, 6])) (.br (.seg [.as 65 (.v (vI z31)), .br false, .br false, .call [] (.v z33) []] (.br (.seg [.call [0, 1, 2, 3] (.tup []) [.cells (oMac0_5_27 4 5 6 (fixM (⟨z1, m.out⟩ : Mac) b)), .dead, .dead, .dead, .tree (fixM (⟨z1, m.out⟩ : Mac) b).d.plan.shapes, .lst .lev (fixM (⟨z1, m.out⟩ : Mac) b).d.stack, .lst .ev (fixM (⟨z1, m.out⟩ : Mac) b).out]] (.leaf () [0, 1, 2, 3, 4, 5, 6])) (.seg [.call [0, 1, 2, 3] (.tup []) [.cells (oMac0_5_27 4 5 6 (varM (⟨z1, m.out⟩ : Mac) b z19)), .dead, .dead, .dead, .tree (varM (⟨z1, m.out⟩ : Mac) b z19).d.plan.shapes, .lst .lev (varM (⟨z1, m.out⟩ : Mac) b z19).d.stack, .lst .ev (varM (⟨z1, m.out⟩ : Mac) b z19).out]] (.leaf () [0, 1, 2, 3, 4, 5, 6])))) (.seg [.br false, .br false, .call [] (.v z33) []] (.br (.seg [.call [0, 1, 2, 3] (.tup []) [.cells (oMac0_5_27 4 5 6 (fixM (⟨z2, m.out⟩ : Mac) b)), .dead, .dead, .dead, .tree (fixM (⟨z2, m.out⟩ : Mac) b).d.plan.shapes, .lst .lev (fixM (⟨z2, m.out⟩ : Mac) b).d.stack, .lst .ev (fixM (⟨z2, m.out⟩ : Mac) b).out]] (.leaf () [0, 1, 2, 3, 4, 5, 6])) (.seg [.call [0, 1, 2, 3] (.tup []) [.cells (oMac0_5_27 4 5 6 (varM (⟨z2, m.out⟩ : Mac) b z19)), .dead, .dead, .dead, .tree (varM (⟨z2, m.out⟩ : Mac) b z19).d.plan.shapes, .lst .lev (varM (⟨z2, m.out⟩ : Mac) b z19).d.stack, .lst .ev (varM (⟨z2, m.out⟩ : Mac) b z19).out]] (.leaf () [0, 1, 2, 3, 4, 5, 6])))))))) (.br (.seg [.as 65 (.v (vI z31)), .br true, .call [0, 1, 2, 3] (.tup []) z22] (.leaf () [0, 1, 2, 3, 4, 5, 6])) (.br (.seg [.as 65 (.v (vI z31)), .br false, .br true, .call [0, 1, 2, 3] (.tup []) z23] (.leaf () [0, 1, 2, 3, 4, 5, 6])) (.br (.seg [.as 65 (.v (vI z31)), .br false, .br false, .call [] (.v z33) []] (.br (.seg [.call [0, 1, 2, 3] (.tup []) z24] (.leaf () [0, 1, 2, 3, 4, 5, 6])) (.seg [.call [0, 1, 2, 3] (.tup []) z20] (.leaf () [0, 1, 2, 3, 4, 5, 6])))) (.seg [.br false, .br false, .call [] (.v z33) []] (.br (.seg [.call [0, 1, 2, 3] (.tup []) z25] (.leaf () [0, 1, 2, 3, 4, 5, 6])) (.seg [.call [0, 1, 2, 3] (.tup []) z21] (.leaf () [0, 1, 2, 3, 4, 5, 6])))))))), ((.v (vI (IntKind.i64.wrap z34)) : S) = .v (vI z34)) ∧ ((decide (0 < z18)) = true → (∃ (x1 : Lev), m.d.stack[Int.toNat (z18 - 1)]? = some x1) ∧ ∀ (x1 : Lev), (m.d.stack[Int.toNat (z18 - 1)]? = some x1) → (let z8 := m.d.stack[Int.toNat (z18 - 1)]? = some x1; let z9 := (.v (vI (IntKind.i64.wrap (x1.left - 1))) : S) = .v (vI (x1.left - 1)); let z10 := (⟨x1.msg, x1.left - 1⟩ : Lev); let z3 := (⟨m.d.plan, m.d.mode, List.set m.d.stack z42 z10, m.d.scan, m.d.start, m.d.at_ + 1, m.d.field, m.d.wire, m.d.want - 1, m.d.utf, m.d.end_⟩ : Dcd); let z4 := (⟨m.d.plan, m.d.mode, List.set m.d.stack z42 z10, m.d.scan, m.d.start, m.d.at_ + 1, m.d.field, m.d.wire, m.d.want, m.d.utf, m.d.end_⟩ : Dcd); let z7 := List.set m.d.stack z42 z10; let z5 : List Blk := [.cells z11, .tree m.d.plan.shapes, .lst .lev z7, .lst .ev m.out]; let z6 : List Blk := [.cells z12, .tree m.d.plan.shapes, .lst .lev z7, .lst .ev m.out]; z43 ∧ z43 ∧ z48 ∧ z46 ∧ z48 ∧ z46 ∧ z8 ∧ z8 ∧ z9 ∧ z9 ∧ z48 ∧ z46 ∧ z48 ∧ z46 ∧ z8 ∧ (z27 = true → z26 ∧ (z27 = true) ∧ (Fun Tryz.prog 198 z41 z5 (.tup []) [.cells (oMac0_5_27 4 5 6 (textB (⟨z3, m.out⟩ : Mac) b)), .dead, .dead, .dead, .tree (textB (⟨z3, m.out⟩ : Mac) b).d.plan.shapes, .lst .lev (textB (⟨z3, m.out⟩ : Mac) b).d.stack, .lst .ev (textB (⟨z3, m.out⟩ : Mac) b).out]) ∧ z32 = .tup [] ∧ ([.cells (oMac0_5_27 4 5 6 (textB (⟨z3, m.out⟩ : Mac) b)), .dead, .dead, .dead, .tree (textB (⟨z3, m.out⟩ : Mac) b).d.plan.shapes, .lst .lev (textB (⟨z3, m.out⟩ : Mac) b).d.stack, .lst .ev (textB (⟨z3, m.out⟩ : Mac) b).out] : List Blk) = z17) ∧ (z27 = false → (z29 = true → z26 ∧ z47 ∧ (z29 = true) ∧ (Fun Tryz.prog 199 [vP 0] z5 (.tup []) [.cells (oMac0_5_27 4 5 6 (settleM (⟨z3, m.out⟩ : Mac))), .dead, .dead, .dead, .tree (settleM (⟨z3, m.out⟩ : Mac)).d.plan.shapes, .lst .lev (settleM (⟨z3, m.out⟩ : Mac)).d.stack, .lst .ev (settleM (⟨z3, m.out⟩ : Mac)).out]) ∧ z32 = .tup [] ∧ ([.cells (oMac0_5_27 4 5 6 (settleM (⟨z3, m.out⟩ : Mac))), .dead, .dead, .dead, .tree (settleM (⟨z3, m.out⟩ : Mac)).d.plan.shapes, .lst .lev (settleM (⟨z3, m.out⟩ : Mac)).d.stack, .lst .ev (settleM (⟨z3, m.out⟩ : Mac)).out] : List Blk) = z17) ∧ (z29 = false → (z45 = true → z26 ∧ z47 ∧ z49 ∧ (Fun Tryz.prog 200 [.agg (.seq .shp m.d.plan.shapes :: zi m.d.plan.root :: zi m.d.plan.deep :: zi m.d.plan.most :: zi m.d.mode :: .seq .lev z7 :: .int .u64 m.d.scan.bits :: zi m.d.scan.have_ :: zi m.d.start :: zi z34 :: zi m.d.field.number :: zi m.d.field.kind :: .bool m.d.field.rep :: .bool m.d.field.packed :: zi m.d.field.msg :: zi m.d.wire :: zi z31 :: z13)] [] (.v z33) []) ∧ (z30 = true → (Fun Tryz.prog 201 z41 z5 (.tup []) [.cells (oMac0_5_27 4 5 6 (fixM (⟨z3, m.out⟩ : Mac) b)), .dead, .dead, .dead, .tree (fixM (⟨z3, m.out⟩ : Mac) b).d.plan.shapes, .lst .lev (fixM (⟨z3, m.out⟩ : Mac) b).d.stack, .lst .ev (fixM (⟨z3, m.out⟩ : Mac) b).out]) ∧ z32 = .tup [] ∧ ([.cells (oMac0_5_27 4 5 6 (fixM (⟨z3, m.out⟩ : Mac) b)), .dead, .dead, .dead, .tree (fixM (⟨z3, m.out⟩ : Mac) b).d.plan.shapes, .lst .lev (fixM (⟨z3, m.out⟩ : Mac) b).d.stack, .lst .ev (fixM (⟨z3, m.out⟩ : Mac) b).out] : List Blk) = z17) ∧ (z30 = false → (Fun Tryz.prog 202 z41 z5 (.tup []) [.cells (oMac0_5_27 4 5 6 (varM (⟨z3, m.out⟩ : Mac) b z19)), .dead, .dead, .dead, .tree (varM (⟨z3, m.out⟩ : Mac) b z19).d.plan.shapes, .lst .lev (varM (⟨z3, m.out⟩ : Mac) b z19).d.stack, .lst .ev (varM (⟨z3, m.out⟩ : Mac) b z19).out]) ∧ z32 = .tup [] ∧ ([.cells (oMac0_5_27 4 5 6 (varM (⟨z3, m.out⟩ : Mac) b z19)), .dead, .dead, .dead, .tree (varM (⟨z3, m.out⟩ : Mac) b z19).d.plan.shapes, .lst .lev (varM (⟨z3, m.out⟩ : Mac) b z19).d.stack, .lst .ev (varM (⟨z3, m.out⟩ : Mac) b z19).out] : List Blk) = z17)) ∧ (z45 = false → z47 ∧ z49 ∧ (Fun Tryz.prog 200 [.agg (.seq .shp m.d.plan.shapes :: zi m.d.plan.root :: zi m.d.plan.deep :: zi m.d.plan.most :: zi m.d.mode :: .seq .lev z7 :: .int .u64 m.d.scan.bits :: zi m.d.scan.have_ :: zi m.d.start :: zi z34 :: zi m.d.field.number :: zi m.d.field.kind :: .bool m.d.field.rep :: .bool m.d.field.packed :: zi m.d.field.msg :: zi m.d.wire :: zi m.d.want :: z13)] [] (.v z33) []) ∧ (z30 = true → (Fun Tryz.prog 201 z41 z6 (.tup []) [.cells (oMac0_5_27 4 5 6 (fixM (⟨z4, m.out⟩ : Mac) b)), .dead, .dead, .dead, .tree (fixM (⟨z4, m.out⟩ : Mac) b).d.plan.shapes, .lst .lev (fixM (⟨z4, m.out⟩ : Mac) b).d.stack, .lst .ev (fixM (⟨z4, m.out⟩ : Mac) b).out]) ∧ z32 = .tup [] ∧ ([.cells (oMac0_5_27 4 5 6 (fixM (⟨z4, m.out⟩ : Mac) b)), .dead, .dead, .dead, .tree (fixM (⟨z4, m.out⟩ : Mac) b).d.plan.shapes, .lst .lev (fixM (⟨z4, m.out⟩ : Mac) b).d.stack, .lst .ev (fixM (⟨z4, m.out⟩ : Mac) b).out] : List Blk) = z17) ∧ (z30 = false → (Fun Tryz.prog 202 z41 z6 (.tup []) [.cells (oMac0_5_27 4 5 6 (varM (⟨z4, m.out⟩ : Mac) b z19)), .dead, .dead, .dead, .tree (varM (⟨z4, m.out⟩ : Mac) b z19).d.plan.shapes, .lst .lev (varM (⟨z4, m.out⟩ : Mac) b z19).d.stack, .lst .ev (varM (⟨z4, m.out⟩ : Mac) b z19).out]) ∧ z32 = .tup [] ∧ ([.cells (oMac0_5_27 4 5 6 (varM (⟨z4, m.out⟩ : Mac) b z19)), .dead, .dead, .dead, .tree (varM (⟨z4, m.out⟩ : Mac) b z19).d.plan.shapes, .lst .lev (varM (⟨z4, m.out⟩ : Mac) b z19).d.stack, .lst .ev (varM (⟨z4, m.out⟩ : Mac) b z19).out] : List Blk) = z17)))))) ∧ ((decide (0 < z18)) = false → (z27 = true → z26 ∧ (z27 = true) ∧ (Fun Tryz.prog 198 z41 z28 (.tup []) z22) ∧ z32 = .tup [] ∧ (z22 : List Blk) = z17) ∧ (z27 = false → (z29 = true → z26 ∧ z47 ∧ (z29 = true) ∧ (Fun Tryz.prog 199 [vP 0] z28 (.tup []) z23) ∧ z32 = .tup [] ∧ (z23 : List Blk) = z17) ∧ (z29 = false → (z45 = true → z26 ∧ z47 ∧ z49 ∧ (Fun Tryz.prog 200 [.agg (.seq .shp m.d.plan.shapes :: zi m.d.plan.root :: zi m.d.plan.deep :: zi m.d.plan.most :: zi m.d.mode :: .seq .lev m.d.stack :: .int .u64 m.d.scan.bits :: zi m.d.scan.have_ :: zi m.d.start :: zi z34 :: zi m.d.field.number :: zi m.d.field.kind :: .bool m.d.field.rep :: .bool m.d.field.packed :: zi m.d.field.msg :: zi m.d.wire :: zi z31 :: z13)] [] (.v z33) []) ∧ (z30 = true → (Fun Tryz.prog 201 z41 z28 (.tup []) z24) ∧ z32 = .tup [] ∧ (z24 : List Blk) = z17) ∧ (z30 = false → (Fun Tryz.prog 202 z41 z28 (.tup []) z20) ∧ z32 = .tup [] ∧ (z20 : List Blk) = z17)) ∧ (z45 = false → z47 ∧ z49 ∧ (Fun Tryz.prog 200 [.agg (.seq .shp m.d.plan.shapes :: zi m.d.plan.root :: zi m.d.plan.deep :: zi m.d.plan.most :: zi m.d.mode :: .seq .lev m.d.stack :: .int .u64 m.d.scan.bits :: zi m.d.scan.have_ :: zi m.d.start :: zi z34 :: zi m.d.field.number :: zi m.d.field.kind :: .bool m.d.field.rep :: .bool m.d.field.packed :: zi m.d.field.msg :: zi m.d.wire :: zi m.d.want :: z13)] [] (.v z33) []) ∧ (z30 = true → (Fun Tryz.prog 201 z41 z44 (.tup []) z25) ∧ z32 = .tup [] ∧ (z25 : List Blk) = z17) ∧ (z30 = false → (Fun Tryz.prog 202 z41 z44 (.tup []) z21) ∧ z32 = .tup [] ∧ (z21 : List Blk) = z17))))))) (by kernel_rfl) ?_
 refine ⟨(as_i64 (by omega) (by omega)), dsp (fun h1 p1 => ?_) fun h1 p1 => ?_⟩
 have hne : m.d.stack ≠ [] := fun e => by have := congrArg List.length e; simp only [List.length_nil] at this; omega
 refine ⟨(ax_get (l := m.d.stack) (i := Int.toNat ((m.d.stack.length : Int) - 1)) (by omega)), fun x1 hx1 => ?_⟩
 have hll := lastL_el (d := m.d) (by rw [← hx1]; congr 1; omega)
 have hix : Int.toNat ((m.d.stack.length : Int) - 1) = m.d.stack.length - 1 := by omega
 refine ⟨(as_i64 (by omega) (by omega)), (as_i64 (by omega) (by omega)), (by omega), (by omega), (by omega), (by omega), hx1, hx1, (as_i64 (by omega) (by omega)), (as_i64 (by omega) (by omega)), (by omega), (by omega), (by omega), (by omega), hx1, dsp (fun h2 p2 => ?_) fun h2 p2 => ?_⟩
 refine ⟨(as_i64 (by omega) (by omega)), h2, (textByte_i (⟨(⟨m.d.plan, m.d.mode, List.set m.d.stack (Int.toNat ((m.d.stack.length : Int) - 1)) (⟨x1.msg, x1.left - 1⟩ : Lev), m.d.scan, m.d.start, m.d.at_ + 1, m.d.field, m.d.wire, m.d.want - 1, m.d.utf, m.d.end_⟩ : Dcd), m.out⟩ : Mac) _ ((by have e : stepD m.d = (⟨m.d.plan, m.d.mode, List.set m.d.stack (Int.toNat ((m.d.stack.length : Int) - 1)) (⟨x1.msg, x1.left - 1⟩ : Lev), m.d.scan, m.d.start, m.d.at_ + 1, m.d.field, m.d.wire, m.d.want - 1, m.d.utf, m.d.end_⟩ : Dcd) := (by first | ((simp_all [stepD]; done)) | (grind [stepD])); exact (e ▸ hms : MW (⟨m.d.plan, m.d.mode, List.set m.d.stack (Int.toNat ((m.d.stack.length : Int) - 1)) (⟨x1.msg, x1.left - 1⟩ : Lev), m.d.scan, m.d.start, m.d.at_ + 1, m.d.field, m.d.wire, m.d.want - 1, m.d.utf, m.d.end_⟩ : Dcd)))) (by first | omega | rfl | (dsimp only; omega)) (by omega)), ?_⟩
 refine have hm1 : byteM m b = (textB (⟨(⟨m.d.plan, m.d.mode, List.set m.d.stack (Int.toNat ((m.d.stack.length : Int) - 1)) (⟨x1.msg, x1.left - 1⟩ : Lev), m.d.scan, m.d.start, m.d.at_ + 1, m.d.field, m.d.wire, m.d.want - 1, m.d.utf, m.d.end_⟩ : Dcd), m.out⟩ : Mac) b) := ?_; ?_
 rotate_left
 exact ⟨rfl, (by rw [hm1] <;> rfl)⟩
 refine dsp (fun h3 p3 => ?_) fun h3 p3 => ?_
 refine ⟨(as_i64 (by omega) (by omega)), h2, h3, (settle_i (⟨(⟨m.d.plan, m.d.mode, List.set m.d.stack (Int.toNat ((m.d.stack.length : Int) - 1)) (⟨x1.msg, x1.left - 1⟩ : Lev), m.d.scan, m.d.start, m.d.at_ + 1, m.d.field, m.d.wire, m.d.want - 1, m.d.utf, m.d.end_⟩ : Dcd), m.out⟩ : Mac) ((by have e : stepD m.d = (⟨m.d.plan, m.d.mode, List.set m.d.stack (Int.toNat ((m.d.stack.length : Int) - 1)) (⟨x1.msg, x1.left - 1⟩ : Lev), m.d.scan, m.d.start, m.d.at_ + 1, m.d.field, m.d.wire, m.d.want - 1, m.d.utf, m.d.end_⟩ : Dcd) := (by first | ((simp_all [stepD]; done)) | (grind [stepD])); exact ((e ▸ hms : MW (⟨m.d.plan, m.d.mode, List.set m.d.stack (Int.toNat ((m.d.stack.length : Int) - 1)) (⟨x1.msg, x1.left - 1⟩ : Lev), m.d.scan, m.d.start, m.d.at_ + 1, m.d.field, m.d.wire, m.d.want - 1, m.d.utf, m.d.end_⟩ : Dcd))).lv)) (by first | omega | rfl | (dsimp only; omega))), ?_⟩
 refine have hm1 : byteM m b = (settleM (⟨(⟨m.d.plan, m.d.mode, List.set m.d.stack (Int.toNat ((m.d.stack.length : Int) - 1)) (⟨x1.msg, x1.left - 1⟩ : Lev), m.d.scan, m.d.start, m.d.at_ + 1, m.d.field, m.d.wire, m.d.want - 1, m.d.utf, m.d.end_⟩ : Dcd), m.out⟩ : Mac)) := ?_; ?_
 rotate_left
 exact ⟨rfl, (by rw [hm1] <;> rfl)⟩
 refine dsp (fun h4 p4 => ?_) fun h4 p4 => ?_
 refine ⟨(as_i64 (by omega) (by omega)), h2, h3, (widthD_i (⟨m.d.plan, m.d.mode, List.set m.d.stack (Int.toNat ((m.d.stack.length : Int) - 1)) (⟨x1.msg, x1.left - 1⟩ : Lev), m.d.scan, m.d.start, m.d.at_ + 1, m.d.field, m.d.wire, m.d.want - 1, m.d.utf, m.d.end_⟩ : Dcd)), dsp (fun h5 p5 => ?_) fun h5 p5 => ?_⟩
 refine ⟨(fixByte_m (⟨(⟨m.d.plan, m.d.mode, List.set m.d.stack (Int.toNat ((m.d.stack.length : Int) - 1)) (⟨x1.msg, x1.left - 1⟩ : Lev), m.d.scan, m.d.start, m.d.at_ + 1, m.d.field, m.d.wire, m.d.want - 1, m.d.utf, m.d.end_⟩ : Dcd), m.out⟩ : Mac) _ ((by have e : stepD m.d = (⟨m.d.plan, m.d.mode, List.set m.d.stack (Int.toNat ((m.d.stack.length : Int) - 1)) (⟨x1.msg, x1.left - 1⟩ : Lev), m.d.scan, m.d.start, m.d.at_ + 1, m.d.field, m.d.wire, m.d.want - 1, m.d.utf, m.d.end_⟩ : Dcd) := (by first | ((simp_all [stepD]; done)) | (grind [stepD])); exact (e ▸ hms : MW (⟨m.d.plan, m.d.mode, List.set m.d.stack (Int.toNat ((m.d.stack.length : Int) - 1)) (⟨x1.msg, x1.left - 1⟩ : Lev), m.d.scan, m.d.start, m.d.at_ + 1, m.d.field, m.d.wire, m.d.want - 1, m.d.utf, m.d.end_⟩ : Dcd)))) (by first | omega | rfl | (dsimp only; omega)) (by omega)), ?_⟩
 refine have hm1 : byteM m b = (fixM (⟨(⟨m.d.plan, m.d.mode, List.set m.d.stack (Int.toNat ((m.d.stack.length : Int) - 1)) (⟨x1.msg, x1.left - 1⟩ : Lev), m.d.scan, m.d.start, m.d.at_ + 1, m.d.field, m.d.wire, m.d.want - 1, m.d.utf, m.d.end_⟩ : Dcd), m.out⟩ : Mac) b) := ?_; ?_
 rotate_left
 exact ⟨rfl, (by rw [hm1] <;> rfl)⟩
 refine ⟨(varByte_i (⟨(⟨m.d.plan, m.d.mode, List.set m.d.stack (Int.toNat ((m.d.stack.length : Int) - 1)) (⟨x1.msg, x1.left - 1⟩ : Lev), m.d.scan, m.d.start, m.d.at_ + 1, m.d.field, m.d.wire, m.d.want - 1, m.d.utf, m.d.end_⟩ : Dcd), m.out⟩ : Mac) _ ((by have e : stepD m.d = (⟨m.d.plan, m.d.mode, List.set m.d.stack (Int.toNat ((m.d.stack.length : Int) - 1)) (⟨x1.msg, x1.left - 1⟩ : Lev), m.d.scan, m.d.start, m.d.at_ + 1, m.d.field, m.d.wire, m.d.want - 1, m.d.utf, m.d.end_⟩ : Dcd) := (by first | ((simp_all [stepD]; done)) | (grind [stepD])); exact (e ▸ hms : MW (⟨m.d.plan, m.d.mode, List.set m.d.stack (Int.toNat ((m.d.stack.length : Int) - 1)) (⟨x1.msg, x1.left - 1⟩ : Lev), m.d.scan, m.d.start, m.d.at_ + 1, m.d.field, m.d.wire, m.d.want - 1, m.d.utf, m.d.end_⟩ : Dcd)))) (by first | omega | rfl | (dsimp only; omega)) (by omega)), ?_⟩
 refine have hm1 : byteM m b = (varM (⟨(⟨m.d.plan, m.d.mode, List.set m.d.stack (Int.toNat ((m.d.stack.length : Int) - 1)) (⟨x1.msg, x1.left - 1⟩ : Lev), m.d.scan, m.d.start, m.d.at_ + 1, m.d.field, m.d.wire, m.d.want - 1, m.d.utf, m.d.end_⟩ : Dcd), m.out⟩ : Mac) b ((m.d.at_ + 1) - 1)) := ?_; ?_
 rotate_left
 exact ⟨rfl, (by rw [hm1] <;> rfl)⟩
 refine ⟨h2, h3, (widthD_i (⟨m.d.plan, m.d.mode, List.set m.d.stack (Int.toNat ((m.d.stack.length : Int) - 1)) (⟨x1.msg, x1.left - 1⟩ : Lev), m.d.scan, m.d.start, m.d.at_ + 1, m.d.field, m.d.wire, m.d.want, m.d.utf, m.d.end_⟩ : Dcd)), dsp (fun h5 p5 => ?_) fun h5 p5 => ?_⟩
 refine ⟨(fixByte_m (⟨(⟨m.d.plan, m.d.mode, List.set m.d.stack (Int.toNat ((m.d.stack.length : Int) - 1)) (⟨x1.msg, x1.left - 1⟩ : Lev), m.d.scan, m.d.start, m.d.at_ + 1, m.d.field, m.d.wire, m.d.want, m.d.utf, m.d.end_⟩ : Dcd), m.out⟩ : Mac) _ ((by have e : stepD m.d = (⟨m.d.plan, m.d.mode, List.set m.d.stack (Int.toNat ((m.d.stack.length : Int) - 1)) (⟨x1.msg, x1.left - 1⟩ : Lev), m.d.scan, m.d.start, m.d.at_ + 1, m.d.field, m.d.wire, m.d.want, m.d.utf, m.d.end_⟩ : Dcd) := (by first | ((simp_all [stepD]; done)) | (grind [stepD])); exact (e ▸ hms : MW (⟨m.d.plan, m.d.mode, List.set m.d.stack (Int.toNat ((m.d.stack.length : Int) - 1)) (⟨x1.msg, x1.left - 1⟩ : Lev), m.d.scan, m.d.start, m.d.at_ + 1, m.d.field, m.d.wire, m.d.want, m.d.utf, m.d.end_⟩ : Dcd)))) (by first | omega | rfl | (dsimp only; omega)) (by omega)), ?_⟩
 refine have hm1 : byteM m b = (fixM (⟨(⟨m.d.plan, m.d.mode, List.set m.d.stack (Int.toNat ((m.d.stack.length : Int) - 1)) (⟨x1.msg, x1.left - 1⟩ : Lev), m.d.scan, m.d.start, m.d.at_ + 1, m.d.field, m.d.wire, m.d.want, m.d.utf, m.d.end_⟩ : Dcd), m.out⟩ : Mac) b) := ?_; ?_
 rotate_left
 exact ⟨rfl, (by rw [hm1] <;> rfl)⟩
 refine ⟨(varByte_i (⟨(⟨m.d.plan, m.d.mode, List.set m.d.stack (Int.toNat ((m.d.stack.length : Int) - 1)) (⟨x1.msg, x1.left - 1⟩ : Lev), m.d.scan, m.d.start, m.d.at_ + 1, m.d.field, m.d.wire, m.d.want, m.d.utf, m.d.end_⟩ : Dcd), m.out⟩ : Mac) _ ((by have e : stepD m.d = (⟨m.d.plan, m.d.mode, List.set m.d.stack (Int.toNat ((m.d.stack.length : Int) - 1)) (⟨x1.msg, x1.left - 1⟩ : Lev), m.d.scan, m.d.start, m.d.at_ + 1, m.d.field, m.d.wire, m.d.want, m.d.utf, m.d.end_⟩ : Dcd) := (by first | ((simp_all [stepD]; done)) | (grind [stepD])); exact (e ▸ hms : MW (⟨m.d.plan, m.d.mode, List.set m.d.stack (Int.toNat ((m.d.stack.length : Int) - 1)) (⟨x1.msg, x1.left - 1⟩ : Lev), m.d.scan, m.d.start, m.d.at_ + 1, m.d.field, m.d.wire, m.d.want, m.d.utf, m.d.end_⟩ : Dcd)))) (by first | omega | rfl | (dsimp only; omega)) (by omega)), ?_⟩
 refine have hm1 : byteM m b = (varM (⟨(⟨m.d.plan, m.d.mode, List.set m.d.stack (Int.toNat ((m.d.stack.length : Int) - 1)) (⟨x1.msg, x1.left - 1⟩ : Lev), m.d.scan, m.d.start, m.d.at_ + 1, m.d.field, m.d.wire, m.d.want, m.d.utf, m.d.end_⟩ : Dcd), m.out⟩ : Mac) b ((m.d.at_ + 1) - 1)) := ?_; ?_
 rotate_left
 exact ⟨rfl, (by rw [hm1] <;> rfl)⟩
 have hne : m.d.stack = [] := List.eq_nil_of_length_eq_zero (by omega)
 refine dsp (fun h2 p2 => ?_) fun h2 p2 => ?_
 refine ⟨(as_i64 (by omega) (by omega)), h2, (textByte_i (⟨(⟨m.d.plan, m.d.mode, m.d.stack, m.d.scan, m.d.start, m.d.at_ + 1, m.d.field, m.d.wire, m.d.want - 1, m.d.utf, m.d.end_⟩ : Dcd), m.out⟩ : Mac) _ ((by have e : stepD m.d = (⟨m.d.plan, m.d.mode, m.d.stack, m.d.scan, m.d.start, m.d.at_ + 1, m.d.field, m.d.wire, m.d.want - 1, m.d.utf, m.d.end_⟩ : Dcd) := (by first | ((simp_all [stepD]; done)) | (grind [stepD])); exact (e ▸ hms : MW (⟨m.d.plan, m.d.mode, m.d.stack, m.d.scan, m.d.start, m.d.at_ + 1, m.d.field, m.d.wire, m.d.want - 1, m.d.utf, m.d.end_⟩ : Dcd)))) (by first | omega | rfl | (dsimp only; omega)) (by omega)), ?_⟩
 refine have hm1 : byteM m b = (textB (⟨(⟨m.d.plan, m.d.mode, m.d.stack, m.d.scan, m.d.start, m.d.at_ + 1, m.d.field, m.d.wire, m.d.want - 1, m.d.utf, m.d.end_⟩ : Dcd), m.out⟩ : Mac) b) := ?_; ?_
 rotate_left
 exact ⟨rfl, (by rw [hm1] <;> rfl)⟩
 refine dsp (fun h3 p3 => ?_) fun h3 p3 => ?_
 refine ⟨(as_i64 (by omega) (by omega)), h2, h3, (settle_i (⟨(⟨m.d.plan, m.d.mode, m.d.stack, m.d.scan, m.d.start, m.d.at_ + 1, m.d.field, m.d.wire, m.d.want - 1, m.d.utf, m.d.end_⟩ : Dcd), m.out⟩ : Mac) ((by first | (exact hp1.lv) | (exact levelsOk_same hp1.lv rfl rfl))) (by first | omega | rfl | (dsimp only; omega))), ?_⟩
 refine have hm1 : byteM m b = (settleM (⟨(⟨m.d.plan, m.d.mode, m.d.stack, m.d.scan, m.d.start, m.d.at_ + 1, m.d.field, m.d.wire, m.d.want - 1, m.d.utf, m.d.end_⟩ : Dcd), m.out⟩ : Mac)) := ?_; ?_
 rotate_left
 exact ⟨rfl, (by rw [hm1] <;> rfl)⟩
 refine dsp (fun h4 p4 => ?_) fun h4 p4 => ?_
 refine ⟨(as_i64 (by omega) (by omega)), h2, h3, (widthD_i (⟨m.d.plan, m.d.mode, m.d.stack, m.d.scan, m.d.start, m.d.at_ + 1, m.d.field, m.d.wire, m.d.want - 1, m.d.utf, m.d.end_⟩ : Dcd)), dsp (fun h5 p5 => ?_) fun h5 p5 => ?_⟩
 refine ⟨(fixByte_m (⟨(⟨m.d.plan, m.d.mode, m.d.stack, m.d.scan, m.d.start, m.d.at_ + 1, m.d.field, m.d.wire, m.d.want - 1, m.d.utf, m.d.end_⟩ : Dcd), m.out⟩ : Mac) _ ((by have e : stepD m.d = (⟨m.d.plan, m.d.mode, m.d.stack, m.d.scan, m.d.start, m.d.at_ + 1, m.d.field, m.d.wire, m.d.want - 1, m.d.utf, m.d.end_⟩ : Dcd) := (by first | ((simp_all [stepD]; done)) | (grind [stepD])); exact (e ▸ hms : MW (⟨m.d.plan, m.d.mode, m.d.stack, m.d.scan, m.d.start, m.d.at_ + 1, m.d.field, m.d.wire, m.d.want - 1, m.d.utf, m.d.end_⟩ : Dcd)))) (by first | omega | rfl | (dsimp only; omega)) (by omega)), ?_⟩
 refine have hm1 : byteM m b = (fixM (⟨(⟨m.d.plan, m.d.mode, m.d.stack, m.d.scan, m.d.start, m.d.at_ + 1, m.d.field, m.d.wire, m.d.want - 1, m.d.utf, m.d.end_⟩ : Dcd), m.out⟩ : Mac) b) := ?_; ?_
 rotate_left
 exact ⟨rfl, (by rw [hm1] <;> rfl)⟩
 refine ⟨(varByte_i (⟨(⟨m.d.plan, m.d.mode, m.d.stack, m.d.scan, m.d.start, m.d.at_ + 1, m.d.field, m.d.wire, m.d.want - 1, m.d.utf, m.d.end_⟩ : Dcd), m.out⟩ : Mac) _ ((by have e : stepD m.d = (⟨m.d.plan, m.d.mode, m.d.stack, m.d.scan, m.d.start, m.d.at_ + 1, m.d.field, m.d.wire, m.d.want - 1, m.d.utf, m.d.end_⟩ : Dcd) := (by first | ((simp_all [stepD]; done)) | (grind [stepD])); exact (e ▸ hms : MW (⟨m.d.plan, m.d.mode, m.d.stack, m.d.scan, m.d.start, m.d.at_ + 1, m.d.field, m.d.wire, m.d.want - 1, m.d.utf, m.d.end_⟩ : Dcd)))) (by first | omega | rfl | (dsimp only; omega)) (by omega)), ?_⟩
 refine have hm1 : byteM m b = (varM (⟨(⟨m.d.plan, m.d.mode, m.d.stack, m.d.scan, m.d.start, m.d.at_ + 1, m.d.field, m.d.wire, m.d.want - 1, m.d.utf, m.d.end_⟩ : Dcd), m.out⟩ : Mac) b ((m.d.at_ + 1) - 1)) := ?_; ?_
 rotate_left
 exact ⟨rfl, (by rw [hm1] <;> rfl)⟩
 refine ⟨h2, h3, (widthD_i (⟨m.d.plan, m.d.mode, m.d.stack, m.d.scan, m.d.start, m.d.at_ + 1, m.d.field, m.d.wire, m.d.want, m.d.utf, m.d.end_⟩ : Dcd)), dsp (fun h5 p5 => ?_) fun h5 p5 => ?_⟩
 refine ⟨(fixByte_m (⟨(⟨m.d.plan, m.d.mode, m.d.stack, m.d.scan, m.d.start, m.d.at_ + 1, m.d.field, m.d.wire, m.d.want, m.d.utf, m.d.end_⟩ : Dcd), m.out⟩ : Mac) _ ((by have e : stepD m.d = (⟨m.d.plan, m.d.mode, m.d.stack, m.d.scan, m.d.start, m.d.at_ + 1, m.d.field, m.d.wire, m.d.want, m.d.utf, m.d.end_⟩ : Dcd) := (by first | ((simp_all [stepD]; done)) | (grind [stepD])); exact (e ▸ hms : MW (⟨m.d.plan, m.d.mode, m.d.stack, m.d.scan, m.d.start, m.d.at_ + 1, m.d.field, m.d.wire, m.d.want, m.d.utf, m.d.end_⟩ : Dcd)))) (by first | omega | rfl | (dsimp only; omega)) (by omega)), ?_⟩
 refine have hm1 : byteM m b = (fixM (⟨(⟨m.d.plan, m.d.mode, m.d.stack, m.d.scan, m.d.start, m.d.at_ + 1, m.d.field, m.d.wire, m.d.want, m.d.utf, m.d.end_⟩ : Dcd), m.out⟩ : Mac) b) := ?_; ?_
 rotate_left
 exact ⟨rfl, (by rw [hm1] <;> rfl)⟩
 refine ⟨(varByte_i (⟨(⟨m.d.plan, m.d.mode, m.d.stack, m.d.scan, m.d.start, m.d.at_ + 1, m.d.field, m.d.wire, m.d.want, m.d.utf, m.d.end_⟩ : Dcd), m.out⟩ : Mac) _ ((by have e : stepD m.d = (⟨m.d.plan, m.d.mode, m.d.stack, m.d.scan, m.d.start, m.d.at_ + 1, m.d.field, m.d.wire, m.d.want, m.d.utf, m.d.end_⟩ : Dcd) := (by first | ((simp_all [stepD]; done)) | (grind [stepD])); exact (e ▸ hms : MW (⟨m.d.plan, m.d.mode, m.d.stack, m.d.scan, m.d.start, m.d.at_ + 1, m.d.field, m.d.wire, m.d.want, m.d.utf, m.d.end_⟩ : Dcd)))) (by first | omega | rfl | (dsimp only; omega)) (by omega)), ?_⟩
 refine have hm1 : byteM m b = (varM (⟨(⟨m.d.plan, m.d.mode, m.d.stack, m.d.scan, m.d.start, m.d.at_ + 1, m.d.field, m.d.wire, m.d.want, m.d.utf, m.d.end_⟩ : Dcd), m.out⟩ : Mac) b ((m.d.at_ + 1) - 1)) := ?_; ?_
 rotate_left
 exact ⟨rfl, (by rw [hm1] <;> rfl)⟩
 all_goals first | (simp_all [byteM, stepD]; done) | ((have hw0 : widthD m.d = 0 := (by omega); simp_all [byteM, stepD]; done)) | (grind [byteM, stepD])
theorem takes_i (d : Dcd) : Fun Tryz.prog 166 [.agg (cDcd d)] [] (.v (vB (takesD d))) [] := by
 have hN : bigN = 274877906944 := rfl
 refine fun_ofw Tryz.func166 (by kernel_rfl) (by kernel_rfl) (w := (.br (.leaf () []) (.leaf () []), ((!decide (d.mode = 9)) = true → (.v (vB (decide (d.at_ < 1000000000))) : S) = .v (vB (takesD d)) ∧ ([] : List Blk) = []) ∧ ((!decide (d.mode = 9)) = false → (.v (vB false) : S) = .v (vB (takesD d)) ∧ ([] : List Blk) = []))) (by kernel_rfl) ?_
 refine ⟨fun h1 => have q1 := bnot_t h1; have p1 := of_decide_eq_false q1; ?_, fun h1 => have q1 := bnot_f h1; have p1 := of_decide_eq_true q1; ?_⟩
 refine ⟨(sB ?_), rfl⟩
 rotate_left
 refine ⟨(sB ?_), rfl⟩
 rotate_left
 all_goals first | (simp [takesD, *]; done) | (simp_all [takesD]; done) | (grind [takesD])
structure Com (d : Dcd) : Prop where
 lv : levelsOk d = true
 at_ : 0 ≤ d.at_ ∧ d.at_ ≤ 1000000000
 st : 0 ≤ d.start ∧ d.start ≤ d.at_
 ut : utfOk d.utf = true
 wi : wireOk d.wire = true
 fl : d.field = fld0 ∨ known d.plan.shapes d.field = true
 en : d.end_ = ev0
theorem decOk_mk {d : Dcd} (lv : levelsOk d = true) (hm : 1 ≤ d.mode ∧ d.mode ≤ 9) (at_ : 0 ≤ d.at_ ∧ d.at_ ≤ 1000000000) (st : 0 ≤ d.start ∧ d.start ≤ d.at_) (ut : utfOk d.utf = true) (wi : wireOk d.wire = true) (fl : d.field = fld0 ∨ known d.plan.shapes d.field = true)
  (h8 : endD d = true) (h9 : stackD d = true) (h10 : wantD d = true) (h11 : kindD d = true) (h12 : scanD d = true) : decOk d = true := by
 simp only [decOk, Bool.and_eq_true, Bool.or_eq_true, decide_eq_true_eq]
 refine ⟨⟨⟨⟨⟨⟨⟨⟨⟨⟨⟨lv, ?_⟩, ?_⟩, ?_⟩, ut⟩, wi⟩, fl⟩, h8⟩, h9⟩, h10⟩, h11⟩, h12⟩ <;> simp only [within, Bool.and_eq_true, decide_eq_true_eq] <;> assumption
theorem failOk {d : Dcd} {c a : Int} (lv : levelsOk d = true) (at_ : 0 ≤ d.at_ ∧ d.at_ ≤ 1000000000) (st : 0 ≤ d.start ∧ d.start ≤ d.at_) (ut : utfOk d.utf = true) (wi : wireOk d.wire = true) (fl : d.field = fld0 ∨ known d.plan.shapes d.field = true) (hc : 1 ≤ c) (ha : 0 ≤ a) : decOk (dFail d c a) = true := by
 have hs : (⟨0, 0⟩ : Scn) = scn0 := rfl
 refine decOk_mk (levelsOk_same lv rfl rfl) (show (1 : Int) ≤ 9 ∧ (9 : Int) ≤ 9 by decide) at_ st ut wi fl ?_ ?_ ?_ ?_ ?_
 ·simp [endD, dFail, eventOk, isEvent, within, isBare, bareEv, failEv, hasField, terminal, hc, ha]
 ·simp [stackD, dFail]
 ·simp [wantD, dFail]
 ·simp [kindD, dFail]
 ·simp [scanD, dFail, widthD, hs]
theorem Com.fail {d : Dcd} (h : Com d) {c a : Int} (hc : 1 ≤ c) (ha : 0 ≤ a) : decOk (dFail d c a) = true := failOk h.lv h.at_ h.st h.ut h.wi h.fl hc ha
theorem closeM_9 {m : Mac} (h : m.d.mode = 9 ∨ m.d.mode = 1) : closeM m = none := by
 unfold closeM
 rw [if_neg (by omega), if_neg (by omega), if_neg (by omega)]
structure Pre (d : Dcd) : Prop extends Com d where
 sc : d.scan = scn0
 ne : 0 < d.stack.length
 md : (d.mode = 2 ∧ d.want = 0) ∨ (d.mode = 6 ∧ isBytes d.field.kind = true ∧ 0 ≤ d.want ∧ d.want ≤ topL d) ∨ (d.mode = 7 ∧ 0 ≤ d.want ∧ d.want ≤ topL d) ∨ (d.mode = 8 ∧ runs d.field = true ∧ 0 ≤ d.want ∧ d.want ≤ topL d ∧ (d.want = 0 ∨ widthOf (wireOf d.field.kind) ≤ d.want))
theorem scanOk_zero : scanOk scn0 = true := by simp [scanOk, scn0, within]
theorem levelsOk_take {d e : Dcd} {k : Nat} (h : levelsOk d = true) (hp : e.plan = d.plan) (hs : e.stack = d.stack.take k) : levelsOk e = true := by
 have hb := levelsOk_b h
 refine levelsOk_mk (by rw [hp]; exact hb.1) ?_ fun l hl => ?_
 ·rw [hs, hp]; have := hb.2.1; simp only [List.length_take]; omega
 ·rw [hp]; rw [hs] at hl; exact hb.2.2.2 l (List.mem_of_mem_take hl)
theorem utf0_ok : utfOk ⟨0, 0, 0⟩ = true := by decide
set_option maxHeartbeats 3200000 in
theorem Pre.close {d : Dcd} (h : Pre d) (o : List Ev) : (closeM ⟨d, o⟩ = none ∧ decOk d = true) ∨ ∃ q, closeM ⟨d, o⟩ = some q ∧ (Pre q.d ∨ (decOk q.d = true ∧ closeM q = none)) := by
 have hb := topL_b h.lv
 have hsc := h.sc
 have hne := h.ne
 have h0 : d.scan.have_ = 0 := by rw [hsc]; rfl
 have hb0 : d.scan.bits = 0 := by rw [hsc]; rfl
 have hend : d.mode ≠ 9 → endD d = true := fun h9 => by unfold endD; rw [if_neg h9]; exact decide_eq_true h.en
 have hst : d.mode ≠ 1 → 1 ≤ topL d → stackD d = true := fun h1 ht => by unfold stackD; rw [if_neg h1]; split; rfl; exact decide_eq_true ht
 rcases h.md with ⟨hm, hw⟩ | ⟨hm, hk, hw0, hw1⟩ | ⟨hm, hw0, hw1⟩ | ⟨hm, hk, hw0, hw1, hw2⟩
 ·by_cases ht : topL d = 0
  ·right
   by_cases h1 : d.stack.length = 1
   ·refine ⟨_, closeM_pop1 hm h0 hne ht h1, .inr ⟨?_, closeM_9 (.inr rfl)⟩⟩
    have hn : d.stack.take (d.stack.length - 1) = [] := by rw [h1]; rfl
    refine decOk_mk (levelsOk_take h.lv rfl rfl) (show (1 : Int) ≤ 1 ∧ (1 : Int) ≤ 9 by decide) h.at_ h.st h.ut h.wi h.fl ?_ ?_ ?_ ?_ ?_
    ·simp [endD, h.en]
    ·simp [stackD, hn]
    ·simp [wantD, hw]
    ·simp [kindD]
    ·simp [scanD, widthD, hsc, scanOk_zero]
   ·refine ⟨_, closeM_popn hm h0 hne ht h1, .inl ⟨⟨levelsOk_take h.lv rfl rfl, h.at_, h.st, h.ut, h.wi, h.fl, h.en⟩, hsc, ?_, .inl ⟨hm, hw⟩⟩⟩
    simp only [List.length_take]; omega
  ·left
   refine ⟨?_, ?_⟩
   ·unfold closeM; simp only; rw [if_neg (by omega), if_neg (by omega), if_neg (by omega)]
   ·refine decOk_mk h.lv (by omega) h.at_ h.st h.ut h.wi h.fl (hend (by omega)) (hst (by omega) (by omega)) ?_ ?_ ?_
    ·simp [wantD, hm, hw]
    ·simp [kindD, hm]
    ·simp [scanD, widthD, hm, hsc, scanOk_zero]
 ·by_cases hw : d.want < 1
  ·right
   by_cases hu : 0 < d.utf.want
   ·refine ⟨mFail ⟨d, o⟩ 5 d.at_, by unfold closeM; simp only; rw [if_pos ⟨hm, hw⟩, if_pos hu], .inr ⟨h.toCom.fail (by decide) h.at_.1, closeM_9 (.inl rfl)⟩⟩
   ·refine ⟨_, by unfold closeM; simp only; rw [if_pos ⟨hm, hw⟩, if_neg hu], .inl ⟨⟨levelsOk_same h.lv rfl rfl, h.at_, h.st, utf0_ok, h.wi, h.fl, h.en⟩, hsc, hne, .inl ⟨rfl, rfl⟩⟩⟩
  ·left
   refine ⟨?_, ?_⟩
   ·unfold closeM; simp only; rw [if_neg (by omega), if_neg (by omega), if_neg (by omega)]
   ·refine decOk_mk h.lv (by omega) h.at_ h.st h.ut h.wi h.fl (hend (by omega)) (hst (by omega) (by omega)) ?_ ?_ ?_
    ·simp [wantD, hm, within]; omega
    ·simp [kindD, hm, hk]
    ·simp [scanD, widthD, hm, hsc]
 ·by_cases hw : d.want < 1
  ·right
   refine ⟨_, by unfold closeM; simp only; rw [if_neg (by omega), if_pos ⟨.inl hm, hw⟩], .inl ⟨⟨levelsOk_same h.lv rfl rfl, h.at_, h.st, h.ut, h.wi, h.fl, h.en⟩, hsc, hne, .inl ⟨rfl, rfl⟩⟩⟩
  ·left
   refine ⟨?_, ?_⟩
   ·unfold closeM; simp only; rw [if_neg (by omega), if_neg (by omega), if_neg (by omega)]
   ·refine decOk_mk h.lv (by omega) h.at_ h.st h.ut h.wi h.fl (hend (by omega)) (hst (by omega) (by omega)) ?_ ?_ ?_
    ·simp [wantD, hm, within]; omega
    ·simp [kindD, hm]
    ·simp [scanD, widthD, hm, hsc]
 ·by_cases hw : d.want < 1
  ·right
   refine ⟨_, by unfold closeM; simp only; rw [if_neg (by omega), if_pos ⟨.inr ⟨hm, h0⟩, hw⟩], .inl ⟨⟨levelsOk_same h.lv rfl rfl, h.at_, h.st, h.ut, h.wi, h.fl, h.en⟩, hsc, hne, .inl ⟨rfl, rfl⟩⟩⟩
  ·left
   refine ⟨?_, ?_⟩
   ·unfold closeM; simp only; rw [if_neg (by omega), if_neg (by omega), if_neg (by omega)]
   ·refine decOk_mk h.lv (by omega) h.at_ h.st h.ut h.wi h.fl (hend (by omega)) (hst (by omega) (by omega)) ?_ ?_ ?_
    ·simp [wantD, hm, within]; omega
    ·simp [kindD, hm, hk]
    ·have hwd : widthD d = widthOf (wireOf d.field.kind) := by unfold widthD; rw [if_neg (by omega), if_pos hm]
     have hr : roomD d = d.want := by unfold roomD; rw [if_pos hm]
     unfold scanD
     split
     ·rw [h0, hb0, hr]
      simp [within]
      omega
     ·rw [if_neg (by omega), hsc]; exact scanOk_zero
theorem Pre.settle : ∀ (k : Nat) (m : Mac), wM m ≤ k → Pre m.d → decOk (settleM m).d = true := by
 intro k
 induction k with
 | zero =>
  intro m hk h
  have := h.ne
  have : m.d.stack.length ≤ wM m := by unfold wM; omega
  omega
 | succ k ih =>
  intro m hk h
  rcases h.close m.out with ⟨h1, h2⟩ | ⟨q, h1, h2⟩
  ·rw [settleM_none h1]; exact h2
  ·rw [settleM_some h1]
   rcases h2 with h2 | ⟨h2, h3⟩
   ·exact ih q (by have h3 : wM q < wM m := (closeM_dec h1).1; omega) h2
   ·rw [settleM_none h3]; exact h2
theorem settle_ok {m : Mac} (h : Pre m.d) : decOk (settleM m).d = true := Pre.settle _ m (Nat.le_refl _) h
theorem frame_ok {d : Dcd} {o : List Ev} {u : Int} (h : Com d) (hw : d.want = 0) (hu : 0 ≤ u) : decOk (frameM ⟨d, o⟩ u).d = true := by
 unfold frameM
 simp only
 split
 ·exact h.fail (by decide) h.st.1
 ·exact settle_ok ⟨⟨levelsOk_frame (u := u) h.lv rfl rfl hu (by omega), h.at_, h.st, h.ut, h.wi, h.fl, h.en⟩, rfl, Nat.zero_lt_one, .inl ⟨rfl, hw⟩⟩
theorem known_at {d : Dcd} {n : Int} (h : Com d) (hn : d.stack.length ≠ 0) : (fieldAt d.plan.shapes (lastL d).msg n).getD fld0 = fld0 ∨ known d.plan.shapes ((fieldAt d.plan.shapes (lastL d).msg n).getD fld0) = true := by
 cases hf : fieldAt d.plan.shapes (lastL d).msg n with
 | none => exact .inl rfl
 | some f =>
  right
  have hb := levelsOk_b h.lv
  have hl := hb.2.2.2 _ (lastL_mem hn)
  simp only [levOk, Bool.and_eq_true] at hl
  have hl := within_t hl.1
  have hk := (fieldAt_ok (planOk_t hb.1).2.1 hf).2
  show known d.plan.shapes f = true
  refine known_of (k := (lastL d).msg.toNat) (by omega) ?_
  rw [hk, show (((lastL d).msg.toNat : Nat) : Int) = (lastL d).msg by omega]; exact hf
theorem tag_ok {d : Dcd} {o : List Ev} {u : Int} (h : Com d) (hw : d.want = 0) : decOk (tagM ⟨d, o⟩ u).d = true := by
 unfold tagM
 simp only
 split
 ·exact h.fail (by decide) h.st.1
 ·rename_i h1
  simp only [not_or] at h1
  have hk := known_at (n := tagNum u) h h1.2
  split
  ·exact h.fail (by decide) h.st.1
  ·rename_i h2
   have h2 : wireOk (tagWire u) = true := by simpa using h2
   split
   ·exact h.fail (by decide) h.st.1
   ·rename_i h3
    split
    ·exact failOk (d := ⟨d.plan, d.mode, d.stack, ⟨0, 0⟩, d.start, d.at_, (fieldAt d.plan.shapes (lastL d).msg (tagNum u)).getD fld0, tagWire u, d.want, d.utf, d.end_⟩) (levelsOk_same h.lv rfl rfl) h.at_ h.st h.ut h2 hk (by decide) h.at_.1
    ·rename_i h4
     have hfit : (fieldAt d.plan.shapes (lastL d).msg (tagNum u)).getD fld0 = fld0 ∨ allowed ((fieldAt d.plan.shapes (lastL d).msg (tagNum u)).getD fld0) (tagWire u) = true := by
      cases hf : fieldAt d.plan.shapes (lastL d).msg (tagNum u) with
      | none => exact .inl rfl
      | some f => right; rw [hf] at h3; simpa using h3
     have hwi : tagWire u = 0 ∨ tagWire u = 1 ∨ tagWire u = 2 ∨ tagWire u = 5 := by
      simp only [wireOk, Bool.or_eq_true, decide_eq_true_eq] at h2; omega
     have hwb := widthOf_b (tagWire u)
     have htop : ∀ e : Dcd, e.stack = d.stack → topL e = topL d := fun e he => by unfold topL; rw [he]
     generalize (fieldAt d.plan.shapes (lastL d).msg (tagNum u)).getD fld0 = f at *
     generalize tagWire u = w at *
     refine decOk_mk (levelsOk_same h.lv rfl rfl) ?_ h.at_ h.st h.ut h2 hk ?_ ?_ ?_ ?_ ?_
     ·show 1 ≤ (if w = 0 then (3 : Int) else if w = 2 then 4 else 5) ∧ (if w = 0 then (3 : Int) else if w = 2 then 4 else 5) ≤ 9
      split <;> (try split) <;> omega
     ·rcases hwi with rfl | rfl | rfl | rfl <;> simp [endD, h.en]
     ·have := htop ⟨d.plan, if w = 0 then 3 else if w = 2 then 4 else 5, d.stack, ⟨0, 0⟩, d.start, d.at_, f, w, d.want, d.utf, d.end_⟩ rfl
      rcases hwi with rfl | rfl | rfl | rfl <;> simp [stackD] at this ⊢ <;> rw [this] <;> omega
     ·rcases hwi with rfl | rfl | rfl | rfl <;> simp [wantD, hw]
     ·rcases hwi with rfl | rfl | rfl | rfl <;> simp [kindD, fitD, widthOf] <;> exact hfit
     ·have := htop ⟨d.plan, if w = 0 then 3 else if w = 2 then 4 else 5, d.stack, ⟨0, 0⟩, d.start, d.at_, f, w, d.want, d.utf, d.end_⟩ rfl
      rcases hwi with rfl | rfl | rfl | rfl <;> simp [scanD, widthD, widthOf, roomD, within, scanOk] at this h4 ⊢ <;> rw [this] <;> omega
theorem runs_of {f : Fld} (h : f = fld0 ∨ allowed f 2 = true) (h0 : f ≠ fld0) (h8 : f.kind ≠ 8) (hb : isBytes f.kind = false) : runs f = true := by
 rcases h with h | h
 ·exact absurd h h0
 ·simp only [allowed, Bool.or_eq_true, Bool.and_eq_true, decide_eq_true_eq] at h
  rcases h with h | h
  ·exfalso
   simp only [isBytes, Bool.or_eq_false_iff, decide_eq_false_iff_not] at hb
   unfold wireOf kindOk at h
   split at h
   ·rename_i hk
    have hk := within_t hk
    repeat' split at h
    all_goals omega
   ·omega
  ·exact h.2
theorem long_ok {d : Dcd} {o : List Ev} {u : Int} (h : Com d) (hw : d.want = 0) (hu : 0 ≤ u) (hf : d.field = fld0 ∨ allowed d.field 2 = true) : decOk (longM ⟨d, o⟩ u).d = true := by
 unfold longM
 simp only
 split
 ·exact h.fail (by decide) h.st.1
 ·rename_i h1
  simp only [not_or] at h1
  have hn : 0 < d.stack.length := by omega
  split
  ·exact settle_ok ⟨⟨levelsOk_same h.lv rfl rfl, h.at_, h.st, h.ut, h.wi, h.fl, h.en⟩, rfl, hn, .inr (.inr (.inl ⟨rfl, hu, by show u ≤ topL d; omega⟩))⟩
  ·rename_i h0
   split
   ·rename_i h8
    split
    ·exact h.fail (by decide) h.st.1
    ·rename_i hd
     have hk := h.fl.resolve_left h0
     exact settle_ok ⟨⟨levelsOk_down (u := u) h.lv hk h8 h1.1 (by omega) hu (by omega) rfl rfl, h.at_, h.st, h.ut, h.wi, h.fl, h.en⟩, rfl, by simp, .inl ⟨rfl, rfl⟩⟩
   ·rename_i h8
    split
    ·rename_i hb
     exact settle_ok ⟨⟨levelsOk_same h.lv rfl rfl, h.at_, h.st, utf0_ok, h.wi, h.fl, h.en⟩, rfl, hn, .inr (.inl ⟨rfl, hb, hu, by show u ≤ topL d; omega⟩)⟩
    ·rename_i hb
     split
     ·exact h.fail (by decide) h.at_.1
     ·rename_i hx
      exact settle_ok ⟨⟨levelsOk_same h.lv rfl rfl, h.at_, h.st, h.ut, h.wi, h.fl, h.en⟩, rfl, hn, .inr (.inr (.inr ⟨rfl, runs_of hf h0 h8 (by simpa using hb), hu, by show u ≤ topL d; omega, by show u = 0 ∨ widthOf (wireOf d.field.kind) ≤ u; omega⟩))⟩
theorem Com.start {d : Dcd} (h : Com d) {a : Int} (ha : 0 ≤ a ∧ a ≤ d.at_) : Com (startM d a) := by
 refine ⟨levelsOk_same h.lv rfl rfl, h.at_, ?_, h.ut, h.wi, h.fl, h.en⟩
 show 0 ≤ (if d.scan.have_ = 0 ∧ (d.mode = 1 ∨ d.mode = 2 ∨ d.mode = 4) then a else d.start) ∧ (if d.scan.have_ = 0 ∧ (d.mode = 1 ∨ d.mode = 2 ∨ d.mode = 4) then a else d.start) ≤ d.at_
 split
 ·exact ha
 ·exact h.st
theorem Com.scan {d : Dcd} (h : Com d) (s : Scn) : Com (dScan d s) := ⟨levelsOk_same h.lv rfl rfl, h.at_, h.st, h.ut, h.wi, h.fl, h.en⟩
theorem scan_next {s : Scn} {b : Int} (h0 : 0 ≤ s.bits) (h : (scanByte s b).2 = 0) : scanOk (scanByte s b).1 = true := by
 unfold scanByte at h ⊢
 split at h
 ·simp at h
 ·rename_i hc
  rw [if_neg hc]
  simp only [not_or] at hc
  have hs : scanOk s = true := by simpa using hc.1
  have hb := within_t (show within b 0 255 = true by simpa using hc.2.1)
  have hk := scanOk_b hs h0
  have hb2 : ¬ b < 128 := fun hx => by rw [if_pos hx] at h; simp at h
  have h9 : s.have_ ≠ 9 := fun e => hc.2.2 ⟨e, by omega⟩
  obtain ⟨u, hv⟩ := s
  simp only at h0 hk h9 ⊢
  obtain ⟨k, rfl⟩ := Int.eq_ofNat_of_zero_le hk.1
  have hk9 : k < 9 := by omega
  have hu := hk.2.2
  rw [Int.toNat_natCast] at hu ⊢
  have hp : (0 : Int) < 2 ^ (7 * (k + 1)) := Int.pow_pos (by decide)
  have hp2 : (2 : Int) ^ (7 * (k + 1)) = 2 ^ (7 * k) * 128 := by rw [show 7 * (k + 1) = 7 * k + 7 by omega, Int.pow_add]; rfl
  have hp0 : (0 : Int) < 2 ^ (7 * k) := Int.pow_pos (by decide)
  have hm : b % 128 * 2 ^ (7 * k) ≤ 127 * 2 ^ (7 * k) := Int.mul_le_mul_of_nonneg_right (by omega) (by omega)
  have hm0 : 0 ≤ b % 128 * 2 ^ (7 * k) := Int.mul_nonneg (by omega) (by omega)
  simp only [scanOk, within, Bool.and_eq_true, decide_eq_true_eq]
  refine ⟨⟨by omega, by omega⟩, ?_⟩
  rw [show min (Int.toNat (7 * ((k : Int) + 1))) 64 = 7 * (k + 1) by omega, Int.fdiv_eq_ediv_of_nonneg _ (Int.le_of_lt hp)]
  exact Int.ediv_eq_zero_of_lt (by omega) (by omega)
theorem var_ok {d : Dcd} {o : List Ev} {b a : Int} (h : Com d) (hb : 0 ≤ d.scan.bits ∧ d.scan.bits ≤ 18446744073709551615) (ha : 0 ≤ a ∧ a ≤ d.at_) (h1 : d.mode = 1 → d.stack = []) (hn : d.mode ≠ 1 → 0 < d.stack.length) (hk : kindD d = true)
  (hm : ((d.mode = 1 ∨ d.mode = 2 ∨ d.mode = 3 ∨ d.mode = 4) ∧ d.want = 0) ∨ (d.mode = 8 ∧ widthOf (wireOf d.field.kind) = 0 ∧ 0 ≤ d.want ∧ d.want ≤ topL d)) : decOk (varM ⟨d, o⟩ b a).d = true := by
 have hcs := h.start ha
 have hbt := topL_b h.lv
 have hbb := scanByte_b (b := b) hb.1 hb.2
 unfold varM
 simp only
 split
 ·exact hcs.fail (by decide) ha.1
 ·split
  ·rename_i hc
   have hsn := scan_next hb.1 hc
   unfold moreM
   simp only
   split
   ·exact (hcs.scan _).fail (by decide) h.at_.1
   ·rename_i hx
    simp only [not_or, not_and] at hx
    have hcc := hcs.scan (scanByte d.scan b).1
    refine decOk_mk hcc.lv (show 1 ≤ d.mode ∧ d.mode ≤ 9 by omega) hcc.at_ hcc.st hcc.ut hcc.wi hcc.fl ?_ ?_ ?_ hk ?_
    ·show (if d.mode = 9 then _ else _) = true
     rw [if_neg (by omega)]; exact decide_eq_true h.en
    ·show (if d.mode = 1 then decide (d.stack = []) else if d.mode = 9 then true else decide (1 ≤ topL d)) = true
     split
     ·rename_i hm1; exact decide_eq_true (h1 hm1)
     ·rename_i hm1
      rw [if_neg (by omega)]; exact decide_eq_true (by have := hx.1 hm1; omega)
    ·show (if d.mode = 6 ∨ d.mode = 7 ∨ d.mode = 8 then within d.want 1 (topL d) else decide (d.want = 0)) = true
     split
     ·have := hx.2 (by omega)
      simp only [within, Bool.and_eq_true, decide_eq_true_eq]; omega
     ·exact decide_eq_true (by omega)
    ·have hw : widthD (dScan (startM d a) (scanByte d.scan b).1) = 0 := by
      show (if d.mode = 5 then widthOf d.wire else if d.mode = 8 then widthOf (wireOf d.field.kind) else 0) = 0
      rw [if_neg (by omega)]
      split <;> omega
     unfold scanD
     rw [hw, if_neg (by decide)]
     show (if d.mode = 6 ∨ d.mode = 7 ∨ d.mode = 9 then decide ((scanByte d.scan b).1 = scn0) else scanOk (scanByte d.scan b).1) = true
     rw [if_neg (by omega)]
     exact hsn
  ·split
   ·rename_i hm1
    exact frame_ok (hcs.scan _) (show d.want = 0 by omega) hbb.1
   ·split
    ·rename_i hm1
     exact tag_ok (hcs.scan _) (show d.want = 0 by omega)
    ·split
     ·rename_i hm1
      refine long_ok (hcs.scan _) (show d.want = 0 by omega) hbb.1 ?_
      unfold kindD at hk
      rw [if_neg (by omega), if_neg (by omega), if_neg (by omega), if_pos hm1] at hk
      simp only [Bool.and_eq_true, decide_eq_true_eq, fitD, Bool.or_eq_true] at hk
      rw [hk.1] at hk
      exact hk.2
     ·rename_i hc1 hc2 hc3 hc4 hc5
      have hcc := hcs.scan scn0
      refine settle_ok ⟨⟨levelsOk_same hcc.lv rfl rfl, hcc.at_, hcc.st, hcc.ut, hcc.wi, hcc.fl, hcc.en⟩, rfl, hn hc3, ?_⟩
      rcases hm with hm | hm
      ·exact .inl ⟨by show (if d.mode = 8 then (8 : Int) else 2) = 2; rw [if_neg (by omega)], hm.2⟩
      ·refine .inr (.inr (.inr ⟨by show (if d.mode = 8 then (8 : Int) else 2) = 8; rw [if_pos hm.1], ?_, hm.2.2.1, hm.2.2.2, ?_⟩))
       ·unfold kindD at hk
        rw [if_neg (by omega), if_pos hm.1] at hk
        exact hk
       ·right; show widthOf (wireOf d.field.kind) ≤ d.want; omega
theorem fix_next {s : Scn} {b w : Int} (h : 0 ≤ s.have_ ∧ s.have_ + 1 < w) (hw : w ≤ 8) (hf : Int.fdiv s.bits (2 ^ min (Int.toNat (8 * s.have_)) 64) = 0) (hb : 0 ≤ b ∧ b ≤ 255) : (fixByte s b).have_ = s.have_ + 1 ∧ Int.fdiv (fixByte s b).bits (2 ^ min (Int.toNat (8 * (s.have_ + 1))) 64) = 0 := by
 obtain ⟨u, hv⟩ := s
 simp only at h hf
 unfold fixByte
 rw [if_pos ⟨by simp only [within, Bool.and_eq_true, decide_eq_true_eq]; omega, by simp only [within, Bool.and_eq_true, decide_eq_true_eq]; omega⟩]
 refine ⟨rfl, ?_⟩
 simp only
 obtain ⟨k, rfl⟩ := Int.eq_ofNat_of_zero_le h.1
 have hk : k < 7 := by omega
 rw [show min (Int.toNat (8 * (k : Int))) 64 = 8 * k by omega] at hf ⊢
 rw [show min (Int.toNat (8 * ((k : Int) + 1))) 64 = 8 * (k + 1) by omega]
 have hp0 : (0 : Int) < 2 ^ (8 * k) := Int.pow_pos (by decide)
 have hp : (0 : Int) < 2 ^ (8 * (k + 1)) := Int.pow_pos (by decide)
 have hp2 : (2 : Int) ^ (8 * (k + 1)) = 2 ^ (8 * k) * 256 := by rw [show 8 * (k + 1) = 8 * k + 8 by omega, Int.pow_add]; rfl
 have hp3 : (2 : Int) ^ (8 * (k + 1)) ≤ 2 ^ 56 := by
  rcases (show k = 0 ∨ k = 1 ∨ k = 2 ∨ k = 3 ∨ k = 4 ∨ k = 5 ∨ k = 6 by omega) with rfl | rfl | rfl | rfl | rfl | rfl | rfl <;> decide
 have hp56 : (2 : Int) ^ 56 = 72057594037927936 := rfl
 rw [Int.fdiv_eq_ediv_of_nonneg _ (Int.le_of_lt hp0)] at hf
 have hd := Int.mul_ediv_add_emod u (2 ^ (8 * k))
 rw [hf, Int.mul_zero, Int.zero_add] at hd
 have hu0 := Int.emod_nonneg u (show (2 : Int) ^ (8 * k) ≠ 0 by omega)
 have hu1 := Int.emod_lt_of_pos u hp0
 have hm : b * 2 ^ (8 * k) ≤ 255 * 2 ^ (8 * k) := Int.mul_le_mul_of_nonneg_right (by omega) (by omega)
 have hm0 : 0 ≤ b * 2 ^ (8 * k) := Int.mul_nonneg (by omega) (by omega)
 rw [Int.fdiv_eq_ediv_of_nonneg _ (Int.le_of_lt hp), IntKind.wrap_u64, IntKind.wrap_u64]
 have e1 : b * 2 ^ (8 * k) % 18446744073709551616 = b * 2 ^ (8 * k) := Int.emod_eq_of_lt hm0 (by omega)
 rw [e1, Int.emod_eq_of_lt (by omega) (by omega)]
 exact Int.ediv_eq_zero_of_lt (by omega) (by omega)
theorem fix_ok {d : Dcd} {o : List Ev} {b : Int} (h : Com d) (hn : 0 < d.stack.length) (hk : kindD d = true) (hb : 0 ≤ b ∧ b ≤ 255) (h0 : 0 ≤ d.scan.have_ ∧ d.scan.have_ ≤ widthD d - 1) (hf : Int.fdiv d.scan.bits (2 ^ min (Int.toNat (8 * d.scan.have_)) 64) = 0) (hr : widthD d - d.scan.have_ - 1 ≤ roomD d)
  (hm : (d.mode = 5 ∧ d.want = 0) ∨ (d.mode = 8 ∧ 0 ≤ d.want ∧ d.want ≤ topL d)) : decOk (fixM ⟨d, o⟩ b).d = true := by
 have hbt := topL_b h.lv
 have hwb : 0 ≤ widthD d ∧ widthD d ≤ 8 := by
  have h1 := widthOf_b d.wire
  have h2 := widthOf_b (wireOf d.field.kind)
  unfold widthD
  split
  ·omega
  ·split <;> omega
 have hro : roomD d = if d.mode = 8 then d.want else topL d := rfl
 unfold fixM
 simp only
 split
 ·rename_i hx
  have h1 : d.scan.have_ + 1 < widthD d := by
   unfold fixByte at hx
   rw [if_pos ⟨by simp only [within, Bool.and_eq_true, decide_eq_true_eq]; omega, by simp only [within, Bool.and_eq_true, decide_eq_true_eq]; omega⟩] at hx
   exact hx
  have hfn := fix_next ⟨h0.1, h1⟩ hwb.2 hf hb
  have hcc := h.scan (fixByte d.scan b)
  refine decOk_mk hcc.lv (show 1 ≤ d.mode ∧ d.mode ≤ 9 by omega) hcc.at_ hcc.st hcc.ut hcc.wi hcc.fl ?_ ?_ ?_ hk ?_
  ·show (if d.mode = 9 then _ else _) = true
   rw [if_neg (by omega)]; exact decide_eq_true h.en
  ·show (if d.mode = 1 then decide (d.stack = []) else if d.mode = 9 then true else decide (1 ≤ topL d)) = true
   rw [if_neg (by omega), if_neg (by omega)]
   refine decide_eq_true ?_
   split at hro <;> omega
  ·show (if d.mode = 6 ∨ d.mode = 7 ∨ d.mode = 8 then within d.want 1 (topL d) else decide (d.want = 0)) = true
   split
   ·rw [if_pos (by omega)] at hro
    simp only [within, Bool.and_eq_true, decide_eq_true_eq]; omega
   ·exact decide_eq_true (by omega)
  ·have hw : widthD (dScan d (fixByte d.scan b)) = widthD d := rfl
   have hrr : roomD (dScan d (fixByte d.scan b)) = roomD d := rfl
   have hss : (dScan d (fixByte d.scan b)).scan = fixByte d.scan b := rfl
   unfold scanD
   rw [hw, if_pos (by omega), hrr, hss, hfn.1]
   simp only [within, Bool.and_eq_true, decide_eq_true_eq]
   exact ⟨⟨⟨by omega, by omega⟩, hfn.2⟩, by omega⟩
 ·have hcc := h.scan scn0
  have hcv : Com (valueM ⟨dScan d scn0, o⟩ (fixByte d.scan b).bits).d := ⟨levelsOk_same hcc.lv rfl rfl, hcc.at_, hcc.st, hcc.ut, hcc.wi, hcc.fl, hcc.en⟩
  split
  ·exact hcv.fail (by decide) h.at_.1
  ·rename_i hx
   refine settle_ok ⟨hcv, rfl, hn, ?_⟩
   rcases hm with hm | hm
   ·exact .inl ⟨by show (if d.mode = 8 then (8 : Int) else 2) = 2; rw [if_neg (by omega)], hm.2⟩
   ·have hw : widthD d = widthOf (wireOf d.field.kind) := by unfold widthD; rw [if_neg (by omega), if_pos hm.1]
    refine .inr (.inr (.inr ⟨by show (if d.mode = 8 then (8 : Int) else 2) = 8; rw [if_pos hm.1], ?_, hm.2.1, hm.2.2, ?_⟩))
    ·unfold kindD at hk
     rw [if_neg (by omega), if_pos hm.1] at hk
     exact hk
    ·show d.want = 0 ∨ widthOf (wireOf d.field.kind) ≤ d.want
     omega
theorem text_ok {d : Dcd} {o : List Ev} {b : Int} (h : Com d) (h1 : 1 ≤ d.at_) (hm : d.mode = 6) (hk : isBytes d.field.kind = true) (hw : 0 ≤ d.want ∧ d.want ≤ topL d) (hn : 0 < d.stack.length) (hs : d.scan = scn0) : decOk (textB ⟨d, o⟩ b).d = true := by
 unfold textB
 simp only
 split
 ·split
  ·exact h.fail (by decide) (by omega)
  ·rename_i u hu
   exact settle_ok ⟨⟨levelsOk_same h.lv rfl rfl, h.at_, h.st, utfByte_ok hu, h.wi, h.fl, h.en⟩, hs, hn, .inr (.inl ⟨hm, hk, hw.1, hw.2⟩)⟩
 ·exact settle_ok ⟨h, hs, hn, .inr (.inl ⟨hm, hk, hw.1, hw.2⟩)⟩
theorem fdiv_b {u : Int} {k : Nat} (hk : k ≤ 64) (h : Int.fdiv u (2 ^ k) = 0) : 0 ≤ u ∧ u ≤ 18446744073709551615 := by
 have hp0 : (0 : Int) < 2 ^ k := Int.pow_pos (by decide)
 rw [Int.fdiv_eq_ediv_of_nonneg _ (Int.le_of_lt hp0)] at h
 have hd := Int.mul_ediv_add_emod u (2 ^ k)
 rw [h, Int.mul_zero, Int.zero_add] at hd
 have hu0 := Int.emod_nonneg u (show (2 : Int) ^ k ≠ 0 by omega)
 have hu1 := Int.emod_lt_of_pos u hp0
 have hp : (2 : Nat) ^ k ≤ 2 ^ 64 := Nat.pow_le_pow_right (by decide) hk
 have hc : ((2 ^ k : Nat) : Int) = (2 : Int) ^ k := by simp
 have h64 : (2 : Nat) ^ 64 = 18446744073709551616 := rfl
 omega
theorem decOk_bits {d : Dcd} (h : decOk d = true) : 0 ≤ d.scan.bits ∧ d.scan.bits ≤ 18446744073709551615 := by
 have hs := (decOk_b h).2.2.2.2.2.2.2.2.2.2.2
 unfold scanD at hs
 split at hs
 ·simp only [Bool.and_eq_true, decide_eq_true_eq] at hs
  exact fdiv_b (Nat.min_le_right _ _) hs.1.2
 ·split at hs
  ·have e : d.scan = scn0 := of_decide_eq_true hs
   rw [e]; decide
  ·simp only [scanOk, Bool.and_eq_true, decide_eq_true_eq] at hs
   exact fdiv_b (Nat.min_le_right _ _) hs.2
theorem topL_step {d : Dcd} (h : d.stack.length ≠ 0) : topL (stepD d) = topL d - 1 := by
 show (List.getD (stepD d).stack ((stepD d).stack.length - 1) lev0).left = _
 rw [stepD_len]
 unfold stepD
 simp only
 rw [if_neg h, List.getD_eq_getElem?_getD, List.getElem?_set_self (by omega)]
 rfl
theorem byte_ok {d : Dcd} {o : List Ev} {b : Int} (hok : decOk d = true) (h9 : d.mode ≠ 9) (hat : d.at_ < 1000000000) (hb : 0 ≤ b ∧ b ≤ 255) : decOk (byteM ⟨d, o⟩ b).d = true := by
 obtain ⟨lv, hm, hat0, hst, hut, hwi, hfl, hen, hsk, hwd, hkd, hsc⟩ := decOk_b hok
 have hbits := decOk_bits hok
 have hs := decOk_st hok h9
 have hms := (decOk_mw hok hbits).step hs.1 hs.2.1 hs.2.2.1
 have hw := wantD_b hwd
 have hc : Com (stepD d) := ⟨hms.lv, (show 0 ≤ d.at_ + 1 ∧ d.at_ + 1 ≤ 1000000000 by omega), (show 0 ≤ d.start ∧ d.start ≤ d.at_ + 1 by omega), hut, hwi, hfl, hs.2.2.2.2⟩
 have hk : kindD (stepD d) = true := hkd
 have htp : d.mode ≠ 1 → 1 ≤ topL d := fun h1 => by unfold stackD at hsk; rw [if_neg h1, if_neg h9] at hsk; exact of_decide_eq_true hsk
 have hn : d.mode ≠ 1 → 0 < d.stack.length := fun h1 => by
  have := htp h1
  by_cases h0 : d.stack.length = 0
  ·rw [topL_nil (List.eq_nil_of_length_eq_zero h0)] at this; omega
  ·omega
 have hns : d.mode ≠ 1 → 0 < (stepD d).stack.length := fun h1 => by rw [stepD_len]; exact hn h1
 have ht : d.mode ≠ 1 → topL (stepD d) = topL d - 1 := fun h1 => topL_step (by have := hn h1; omega)
 have hwa : (stepD d).want = if d.mode = 6 ∨ d.mode = 7 ∨ d.mode = 8 then d.want - 1 else d.want := rfl
 have hwb := widthOf_b (wireOf d.field.kind)
 unfold byteM
 simp only
 split
 ·rename_i h6
  have hw1 := hw.1 (by omega)
  rw [if_pos (by omega)] at hwa
  have ht := ht (by omega)
  refine text_ok hc (show 1 ≤ d.at_ + 1 by omega) h6 ?_ (by omega) (hns (by omega)) ?_
  ·unfold kindD at hkd; rw [if_pos h6] at hkd; exact hkd
  ·unfold scanD widthD at hsc
   rw [if_neg (show ¬ d.mode = 5 by omega), if_neg (show ¬ d.mode = 8 by omega), if_neg (by decide), if_pos (by omega)] at hsc
   exact of_decide_eq_true hsc
 ·split
  ·rename_i h6 h7
   have hw1 := hw.1 (by omega)
   rw [if_pos (by omega)] at hwa
   have ht := ht (by omega)
   refine settle_ok ⟨hc, ?_, hns (by omega), .inr (.inr (.inl ⟨h7, by show 0 ≤ (stepD d).want; omega, by show (stepD d).want ≤ topL (stepD d); omega⟩))⟩
   unfold scanD widthD at hsc
   rw [if_neg (show ¬ d.mode = 5 by omega), if_neg (show ¬ d.mode = 8 by omega), if_neg (by decide), if_pos (by omega)] at hsc
   exact of_decide_eq_true hsc
  ·rename_i h6 h7
   split
   ·rename_i h0
    unfold scanD at hsc
    rw [if_pos h0] at hsc
    simp only [Bool.and_eq_true, decide_eq_true_eq] at hsc
    have hh := within_t hsc.1.1
    have hwe : widthD (stepD d) = widthD d := rfl
    have hmm : d.mode = 5 ∨ d.mode = 8 := by unfold widthD at h0; split at h0 <;> (try split at h0) <;> omega
    have ht := ht (by omega)
    have hr1 : roomD d = if d.mode = 8 then d.want else topL d := rfl
    have hr2 : roomD (stepD d) = if d.mode = 8 then (stepD d).want else topL (stepD d) := rfl
    refine fix_ok hc (hns (by omega)) hk hb (by rw [hwe]; exact hh) hsc.1.2 ?_ ?_
    ·rw [hwe]
     show widthD d - d.scan.have_ - 1 ≤ roomD (stepD d)
     rcases hmm with h5 | h8
     ·rw [if_neg (by omega)] at hr1 hr2; omega
     ·rw [if_pos h8] at hr1 hr2; rw [if_pos (by omega)] at hwa; omega
    ·rcases hmm with h5 | h8
     ·rw [if_neg (by omega)] at hwa
      exact .inl ⟨h5, by rw [hwa]; exact hw.2 (by omega)⟩
     ·rw [if_pos (by omega)] at hwa
      have hw1 := hw.1 (by omega)
      exact .inr ⟨h8, by omega, by omega⟩
   ·rename_i h0
    have h5 : d.mode ≠ 5 := fun h5 => by
     unfold kindD at hkd
     rw [if_neg (by omega), if_neg (by omega), if_neg (by omega), if_neg (by omega), if_pos h5] at hkd
     simp only [Bool.and_eq_true, decide_eq_true_eq] at hkd
     unfold widthD at h0
     rw [if_pos h5] at h0
     omega
    refine var_ok hc hbits (show 0 ≤ d.at_ ∧ d.at_ ≤ d.at_ + 1 by omega) (fun h1 => ?_) hns hk ?_
    ·unfold stackD at hsk
     rw [if_pos (show d.mode = 1 from h1)] at hsk
     have e : d.stack = [] := of_decide_eq_true hsk
     exact List.eq_nil_of_length_eq_zero (by rw [stepD_len, e]; rfl)
    ·by_cases h8 : d.mode = 8
     ·rw [if_pos (by omega)] at hwa
      have hw1 := hw.1 (by omega)
      have ht := ht (by omega)
      refine .inr ⟨h8, ?_, by omega, by omega⟩
      unfold widthD at h0
      rw [if_neg (by omega), if_pos h8] at h0
      show widthOf (wireOf d.field.kind) = 0
      omega
     ·rw [if_neg (by omega)] at hwa
      exact .inl ⟨(show d.mode = 1 ∨ d.mode = 2 ∨ d.mode = 3 ∨ d.mode = 4 by omega), by rw [hwa]; exact hw.2 (by omega)⟩
def preM (o : List Ev) (m : Mac) : Mac := ⟨m.d, o ++ m.out⟩
theorem mFail_pre (o : List Ev) (m : Mac) (c a : Int) : mFail (preM o m) c a = preM o (mFail m c a) := by simp [mFail, preM, List.append_assoc]
theorem closeM_pre (o : List Ev) (m : Mac) : closeM (preM o m) = (closeM m).map (preM o) := by
 have hd : (preM o m).d = m.d := rfl
 unfold closeM
 rw [hd]
 split
 ·split <;> simp [mFail, preM, List.append_assoc]
 ·split
  ·simp [preM]
  ·split
   ·split <;> simp [preM, List.append_assoc]
   ·rfl
theorem settleM_told (o : List Ev) : ∀ (m : Mac), settleM (preM o m) = preM o (settleM m) := by
 suffices ∀ (k : Nat) (m : Mac), wM m ≤ k → settleM (preM o m) = preM o (settleM m) from fun m => this _ m (Nat.le_refl _)
 intro k
 induction k with
 | zero =>
  intro m hk
  have hp := closeM_pre o m
  cases h : closeM m with
  | none => rw [settleM_none h]; rw [h] at hp; exact settleM_none hp
  | some q => have := (closeM_dec h).1; omega
 | succ k ih =>
  intro m hk
  have hp := closeM_pre o m
  cases h : closeM m with
  | none => rw [settleM_none h]; rw [h] at hp; exact settleM_none hp
  | some q =>
   rw [h] at hp
   rw [settleM_some h, settleM_some hp]
   exact ih q (by have := (closeM_dec h).1; omega)
theorem settleM_told' {o : List Ev} {d : Dcd} {p r : List Ev} (h : r = o ++ p) : settleM ⟨d, r⟩ = preM o (settleM ⟨d, p⟩) := by subst h; exact settleM_told o ⟨d, p⟩
theorem frameM_pre (o : List Ev) (m : Mac) (u : Int) : frameM (preM o m) u = preM o (frameM m u) := by
 have hd : (preM o m).d = m.d := rfl
 unfold frameM
 rw [hd]
 split
 ·exact mFail_pre _ _ _ _
 ·exact settleM_told' (List.append_assoc _ _ _)
theorem tagM_pre (o : List Ev) (m : Mac) (u : Int) : tagM (preM o m) u = preM o (tagM m u) := by
 have hd : (preM o m).d = m.d := rfl
 unfold tagM
 rw [hd]
 split
 ·exact mFail_pre _ _ _ _
 ·split
  ·exact mFail_pre _ _ _ _
  ·split
   ·exact mFail_pre _ _ _ _
   ·split
    ·simp [mFail, preM, List.append_assoc]
    ·rfl
theorem longM_pre (o : List Ev) (m : Mac) (u : Int) : longM (preM o m) u = preM o (longM m u) := by
 have hd : (preM o m).d = m.d := rfl
 unfold longM
 rw [hd]
 split
 ·exact mFail_pre _ _ _ _
 ·split
  ·exact settleM_told' rfl
  ·split
   ·split
    ·exact mFail_pre _ _ _ _
    ·exact settleM_told' (List.append_assoc _ _ _)
   ·split
    ·exact settleM_told' (List.append_assoc _ _ _)
    ·split
     ·exact mFail_pre _ _ _ _
     ·exact settleM_told' rfl
theorem valueM_pre (o : List Ev) (m : Mac) (u : Int) : valueM (preM o m) u = preM o (valueM m u) := by
 unfold valueM preM
 simp only
 by_cases h : m.d.field = fld0 <;> simp [h, List.append_assoc]
theorem varM_pre (o : List Ev) (m : Mac) (b a : Int) : varM (preM o m) b a = preM o (varM m b a) := by
 have hd : (preM o m).d = m.d := rfl
 have hq : ∀ d : Dcd, (⟨d, (preM o m).out⟩ : Mac) = preM o ⟨d, m.out⟩ := fun _ => rfl
 unfold varM
 simp only [hd, hq]
 split
 ·exact mFail_pre _ _ _ _
 ·split
  ·unfold moreM
   rw [hd]
   split
   ·exact mFail_pre _ _ _ _
   ·rfl
  ·split
   ·exact frameM_pre _ _ _
   ·split
    ·exact tagM_pre _ _ _
    ·split
     ·exact longM_pre _ _ _
     ·rw [valueM_pre, settleM_told]
theorem fixM_pre (o : List Ev) (m : Mac) (b : Int) : fixM (preM o m) b = preM o (fixM m b) := by
 have hd : (preM o m).d = m.d := rfl
 have hq : ∀ d : Dcd, (⟨d, (preM o m).out⟩ : Mac) = preM o ⟨d, m.out⟩ := fun _ => rfl
 unfold fixM
 simp only [hd, hq]
 split
 ·rfl
 ·split
  ·rw [valueM_pre, mFail_pre]
  ·rw [valueM_pre, settleM_told]
theorem textB_pre (o : List Ev) (m : Mac) (b : Int) : textB (preM o m) b = preM o (textB m b) := by
 have hd : (preM o m).d = m.d := rfl
 unfold textB
 rw [hd]
 split
 ·split
  ·exact mFail_pre _ _ _ _
  ·exact settleM_told' (List.append_assoc _ _ _)
 ·exact settleM_told' (List.append_assoc _ _ _)
theorem byteM_pre (o : List Ev) (m : Mac) (b : Int) : byteM (preM o m) b = preM o (byteM m b) := by
 have hd : (preM o m).d = m.d := rfl
 have hq : ∀ d : Dcd, (⟨d, (preM o m).out⟩ : Mac) = preM o ⟨d, m.out⟩ := fun _ => rfl
 unfold byteM
 simp only [hd, hq]
 split
 ·exact textB_pre _ _ _
 ·split
  ·exact settleM_told _ _
  ·split
   ·exact fixM_pre _ _ _
   ·exact varM_pre _ _ _ _
def stepM (m : Mac) (b : Int) : Mac := ⟨(stepB m.d b).d, m.out ++ (stepB m.d b).out⟩
def feedM (m : Mac) (s : List UInt8) : Mac := s.foldl (fun m b => stepM m (b.toNat : Int)) m
theorem feedM_nil (m : Mac) : feedM m [] = m := rfl
theorem feedM_cons (m : Mac) (b : UInt8) (r : List UInt8) : feedM m (b :: r) = feedM (stepM m (b.toNat : Int)) r := List.foldl_cons ..
theorem stepB_byte {d : Dcd} {b : Int} (hok : decOk d = true) (ht : takesD d = true) (hb : 0 ≤ b ∧ b ≤ 255) : stepB d b = byteM ⟨d, []⟩ b := by
 unfold stepB
 rw [if_pos ⟨hok, ht, by simp only [within, Bool.and_eq_true, decide_eq_true_eq]; exact hb⟩]
theorem stepM_byte {m : Mac} {b : Int} (hok : decOk m.d = true) (ht : takesD m.d = true) (hb : 0 ≤ b ∧ b ≤ 255) : stepM m b = byteM m b := by
 have h := byteM_pre m.out ⟨m.d, []⟩ b
 have e : preM m.out ⟨m.d, []⟩ = m := by cases m; simp [preM]
 rw [e] at h
 unfold stepM
 rw [stepB_byte hok ht hb, h]; rfl
theorem stepB_no {d : Dcd} {b : Int} (h : decOk d = false ∨ takesD d = false) : stepB d b = ⟨d, []⟩ := by
 unfold stepB
 rw [if_neg]
 rintro ⟨h1, h2, -⟩
 rcases h with h | h
 ·rw [h] at h1; cases h1
 ·rw [h] at h2; cases h2
theorem stepM_no {m : Mac} {b : Int} (h : decOk m.d = false ∨ takesD m.d = false) : stepM m b = m := by
 unfold stepM
 rw [stepB_no h]
 cases m; simp
theorem takesD_t {d : Dcd} (h : takesD d = true) : d.mode ≠ 9 ∧ d.at_ < 1000000000 := by
 simpa only [takesD, Bool.and_eq_true, Bool.not_eq_true', decide_eq_false_iff_not, decide_eq_true_eq] using h
theorem stepB_ok {d : Dcd} {b : Int} (hok : decOk d = true) : decOk (stepB d b).d = true := by
 unfold stepB
 split
 ·rename_i h
  have ht := takesD_t h.2.1
  exact byte_ok hok ht.1 ht.2 (within_t h.2.2)
 ·exact hok
theorem feedM_bad {m : Mac} (h : decOk m.d = false) : ∀ s : List UInt8, feedM m s = m
 | [] => rfl
 | b :: r => by rw [feedM_cons, stepM_no (.inl h)]; exact feedM_bad h r
theorem feedM_no {m : Mac} (h : takesD m.d = false) : ∀ s : List UInt8, feedM m s = m
 | [] => rfl
 | b :: r => by rw [feedM_cons, stepM_no (.inr h)]; exact feedM_no h r
theorem feedM_skip {m : Mac} (h : takesD m.d = false) (s r : List UInt8) : feedM m s = feedM m r := by rw [feedM_no h, feedM_no h]
theorem stepB_lim {d : Dcd} {b : Int} : (stepB d b).d.plan = d.plan ∧ ((stepB d b).d.stack.length : Int) ≤ max (d.stack.length : Int) 8 ∧ (stepB d b).out.length ≤ 14 ∧ ((0 ≤ d.scan.bits ∧ d.scan.bits ≤ 18446744073709551615) → 0 ≤ (stepB d b).d.scan.bits ∧ (stepB d b).d.scan.bits ≤ 18446744073709551615) := by
 cases hok : decOk d with
 | false => rw [stepB_no (.inl hok)]; exact ⟨rfl, by simp only; omega, by simp, fun h => h⟩
 | true =>
  have h1 := stepB_ok (b := b) hok
  have h2 := levelsOk_b (decOk_b hok).1
  have h3 := levelsOk_b (decOk_b h1).1
  exact ⟨stepB_same.1, by omega, by have := stepB_len (d := d) (b := b); omega, fun _ => decOk_bits h1⟩
theorem u8_b (b : UInt8) : (0 : Int) ≤ (b.toNat : Int) ∧ (b.toNat : Int) ≤ 255 := by have := b.toNat_lt; omega
theorem feedM_lim : ∀ (s : List UInt8) (m : Mac), (feedM m s).d.plan = m.d.plan ∧ ((feedM m s).d.stack.length : Int) ≤ max (m.d.stack.length : Int) 8 ∧ (feedM m s).out.length ≤ m.out.length + 14 * s.length ∧ ((0 ≤ m.d.scan.bits ∧ m.d.scan.bits ≤ 18446744073709551615) → 0 ≤ (feedM m s).d.scan.bits ∧ (feedM m s).d.scan.bits ≤ 18446744073709551615)
 | [], m => ⟨rfl, by show (m.d.stack.length : Int) ≤ _; omega, Nat.le_refl _, fun h => h⟩
 | b :: r, m => by
  have h1 := stepB_lim (d := m.d) (b := (b.toNat : Int))
  have h2 := feedM_lim r (stepM m (b.toNat : Int))
  rw [feedM_cons]
  have e1 : (stepM m (b.toNat : Int)).d = (stepB m.d (b.toNat : Int)).d := rfl
  have e2 : (stepM m (b.toNat : Int)).out.length = m.out.length + (stepB m.d (b.toNat : Int)).out.length := by simp [stepM]
  rw [e1, e2] at h2
  refine ⟨h2.1.trans h1.1, by omega, by simp only [List.length_cons]; omega, fun h => h2.2.2.2 (h1.2.2.2 h)⟩
theorem stepAll1_f  : Fun Tryz.prog 170 [] [] (.tup []) [] := by
 have hN : bigN = 274877906944 := rfl
 refine fun_ofw Tryz.func170 (by kernel_rfl) (by kernel_rfl) (w := (.leaf () [], (.tup [] : S) = .tup [] ∧ ([] : List Blk) = [])) (by kernel_rfl) ?_
 exact ⟨rfl, rfl⟩
structure run_all_V0 where
 m : Mac
 v : Nat
def run_all_F0 (m : Mac) (s : List UInt8) : Fam := ⟨run_all_V0, fun q1 => [(0, .v (vP 0)), (1, .v (vT s)), (2, .v (.c (.fn 170 []))), (8, .v (vI (s.length : Int))), (9, .v (vI (q1.v : Int)))], fun q1 => [.cells (oMac0_5_27 4 5 6 q1.m), .dead, .dead, .dead, .tree q1.m.d.plan.shapes, .lst .lev q1.m.d.stack, .lst .ev q1.m.out], fun q1 => q1.v ≤ s.length ∧ feedM q1.m (List.drop q1.v s) = feedM m s ∧ decOk (q1.m).d = true ∧ List.length (q1.m).out ≤ m.out.length + 14 * q1.v, fun q1 => s.length - q1.v⟩
theorem run_all (m : Mac) (s : List UInt8) (hp1 : decOk (m).d = true) (hp2 : List.length (m).out ≤ 1000000) (hp3 : s.length ≤ 1048576) : Fun Tryz.prog 115 [vP 0, vT s, .c (.fn 170 [])] [.cells (oMac0_5_27 1 2 3 m), .tree m.d.plan.shapes, .lst .lev m.d.stack, .lst .ev m.out] (.tup []) [.cells (oMac0_5_27 4 5 6 (feedM m s)), .dead, .dead, .dead, .tree (feedM m s).d.plan.shapes, .lst .lev (feedM m s).d.stack, .lst .ev (feedM m s).out] := by
 have hN : bigN = 274877906944 := rfl
 refine fun_ofw Tryz.func115 (by kernel_rfl) (by kernel_rfl) (w := let z6 := (s.length : Int); let z7 := run_all_F0 m s; (.seg [.at 0, .cut 0 0, .cut 0 5, .cut 0 27, .keep [0, 1, 2, 8, 9], .sel [0, 1, 2, 3, 4, 5, 6]] (.loop z7 fun q1 => .br (.seg [.call [] (.v (vB (takesD q1.m.d))) []] (.br (.intro (fun (x1 : UInt8) => s[q1.v]? = some x1) fun x1 => let z1 := byteM q1.m ((UInt8.toNat x1 : Nat) : Int); .seg [.ch x1, .as 21 (.v (vI ((UInt8.toNat x1 : Nat) : Int))), .call [0, 4, 5, 6] (.tup []) [.cells (oMac0_5_27 4 5 6 z1), .dead, .dead, .dead, .tree z1.d.plan.shapes, .lst .lev z1.d.stack, .lst .ev z1.out], .call [] (.tup []) [], .as 25 (.v (vI ((q1.v : Int) + 1))), .at 0, .keep [0, 1, 2, 8, 9], .sel [0, 1, 2, 3, 7, 8, 9]] (.next)) (.seg [.call [] (.tup []) [], .as 25 (.v (vI ((q1.v : Int) + 1))), .at 0, .keep [0, 1, 2, 8, 9], .sel [0, 1, 2, 3, 4, 5, 6]] (.next)))) (.leaf () [0, 1, 2, 3, 4, 5, 6])), z7.Has [(0, .v (vP 0)), (1, .v (vT s)), (2, .v (.c (.fn 170 []))), (8, .v (vI z6)), (9, .v (vI 0))] [.cells (oMac0_5_27 4 5 6 m), .dead, .dead, .dead, .tree m.d.plan.shapes, .lst .lev m.d.stack, .lst .ev m.out] ∧ ∀ q1, z7.inv q1 → (let z4 := (q1.v : Int); let z5 : List Blk := [.cells (oMac0_5_27 4 5 6 q1.m), .dead, .dead, .dead, .tree q1.m.d.plan.shapes, .lst .lev q1.m.d.stack, .lst .ev q1.m.out]; ((decide (z4 < z6)) = true → (Fun Tryz.prog 166 [.agg (cDcd q1.m.d)] [] (.v (vB (takesD q1.m.d))) []) ∧ ((takesD q1.m.d) = true → (∃ (x1 : UInt8), s[q1.v]? = some x1) ∧ ∀ (x1 : UInt8), (s[q1.v]? = some x1) → (let z3 := ((UInt8.toNat x1 : Nat) : Int); let z2 := byteM q1.m z3; (s[q1.v]? = some x1) ∧ ((0 : Int) ≤ z4) ∧ ((.v (vI (IntKind.i64.wrap (z3))) : S) = .v (vI z3)) ∧ (Fun Tryz.prog 167 [vP 0, vI z3] [.cells (oMac0_5_27 1 2 3 q1.m), .tree q1.m.d.plan.shapes, .lst .lev q1.m.d.stack, .lst .ev q1.m.out] (.tup []) [.cells (oMac0_5_27 4 5 6 z2), .dead, .dead, .dead, .tree z2.d.plan.shapes, .lst .lev z2.d.stack, .lst .ev z2.out]) ∧ (Fun Tryz.prog 170 [] [] (.tup []) []) ∧ ((.v (vI (IntKind.i64.wrap (z4 + 1))) : S) = .v (vI (z4 + 1))) ∧ z7.Nxt q1 [(0, .v (vP 0)), (1, .v (vT s)), (2, .v (.c (.fn 170 []))), (8, .v (vI z6)), (9, .v (vI (z4 + 1)))] [.cells (oMac0_5_27 4 5 6 z2), .dead, .dead, .dead, .tree z2.d.plan.shapes, .lst .lev z2.d.stack, .lst .ev z2.out])) ∧ ((takesD q1.m.d) = false → (Fun Tryz.prog 170 [] [] (.tup []) []) ∧ ((.v (vI (IntKind.i64.wrap (z4 + 1))) : S) = .v (vI (z4 + 1))) ∧ z7.Nxt q1 [(0, .v (vP 0)), (1, .v (vT s)), (2, .v (.c (.fn 170 []))), (8, .v (vI z6)), (9, .v (vI (z4 + 1)))] z5)) ∧ ((decide (z4 < z6)) = false → (.tup [] : S) = .tup [] ∧ (z5 : List Blk) = [.cells (oMac0_5_27 4 5 6 (feedM m s)), .dead, .dead, .dead, .tree (feedM m s).d.plan.shapes, .lst .lev (feedM m s).d.stack, .lst .ev (feedM m s).out])))) (by kernel_rfl) ?_
 refine ⟨has_of (j := (⟨m, 0⟩ : run_all_V0)) (by first | rfl | simp) rfl (by dsimp only [run_all_F0]; exact ⟨by omega, rfl, hp1, by omega⟩), fun (q1 : run_all_V0) hq_q1 => ?_⟩
 have hi_q1 : q1.v ≤ s.length ∧ feedM q1.m (List.drop q1.v s) = feedM m s ∧ decOk (q1.m).d = true ∧ List.length (q1.m).out ≤ m.out.length + 14 * q1.v := hq_q1
 obtain ⟨v1, v2, v3, v4⟩ := hi_q1
 have hbt := decOk_bits v3
 have hmw := decOk_mw v3 hbt
 have hlv := levelsOk_b hmw.lv
 have hpt := planOk_t hlv.1
 refine dsp (fun h1 p1 => ?_) fun h1 p1 => ?_
 refine ⟨(takes_i q1.m.d), fun h2 => ?_, fun h2 => ?_⟩
 have hta : takesD q1.m.d = true := h2
 have htk := takesD_t hta
 have hst := decOk_st v3 htk.1
 refine ⟨(ax_get (l := s) (i := q1.v) (by omega)), fun x1 hx1 => ?_⟩
 have hb_x1 := UInt8.toNat_lt x1
 rw [drop_el hx1, feedM_cons] at v2
 have hub := u8_b x1
 have hsm := stepM_byte (m := q1.m) v3 hta hub
 exact ⟨hx1, (by omega), (as_i64 (by omega) (by omega)), (byte_i q1.m _ (hmw) (by omega) (by omega) (by omega) (by omega) (hst.2.2.1)), (stepAll1_f ), (as_i64 (by omega) (by omega)), nxt_of (j := (⟨(byteM q1.m ((UInt8.toNat x1 : Nat) : Int)), q1.v + 1⟩ : run_all_V0)) (by first | rfl | simp) rfl (by dsimp only [run_all_F0]; first | (exact ⟨by omega, by rw [← v2, hsm], by rw [← hsm]; exact stepB_ok v3, by rw [← hsm]; have := (stepB_lim (d := q1.m.d) (b := (x1.toNat : Int))).2.2.1; simp only [stepM, List.length_append]; omega⟩) | (exact ⟨by omega, by rw [← v2]; exact feedM_skip hnt _ _, v3, by omega⟩)) (by dsimp only [run_all_F0]; omega)⟩
 have hnt : takesD q1.m.d = false := h2
 exact ⟨(stepAll1_f ), (as_i64 (by omega) (by omega)), nxt_of (j := (⟨q1.m, q1.v + 1⟩ : run_all_V0)) (by first | rfl | simp) rfl (by dsimp only [run_all_F0]; first | (exact ⟨by omega, by rw [← v2, hsm], by rw [← hsm]; exact stepB_ok v3, by rw [← hsm]; have := (stepB_lim (d := q1.m.d) (b := (x1.toNat : Int))).2.2.1; simp only [stepM, List.length_append]; omega⟩) | (exact ⟨by omega, by rw [← v2]; exact feedM_skip hnt _ _, v3, by omega⟩)) (by dsimp only [run_all_F0]; omega)⟩
 rw [List.drop_eq_nil_of_le (by omega), feedM_nil] at v2
 refine have hm1 : feedM m s = q1.m := ?_; ?_
 rotate_left
 exact ⟨rfl, (by rw [hm1] <;> rfl)⟩
 all_goals first | ((rw [← v2]; done)) | (rfl) | (grind)
theorem stepAll_i (d : Dcd) (s : List UInt8) (hp1 : List.length (d).plan.shapes ≤ 1048576) (hp2 : ∀ e ∈ (d).plan.shapes, e.fields.length ≤ 1048576) (hp3 : List.length (d).stack ≤ 1048576) (hp4 : (0 : Int) ≤ (d).scan.bits ∧ (d).scan.bits ≤ 18446744073709551615) (hp5 : s.length ≤ 1048576) : Fun Tryz.prog 123 [.agg (cDcd d), vT s] [] (.tup [.agg (oDcd0_5 0 1 (feedM ⟨d, []⟩ s).d), vO 2]) [.tree (feedM ⟨d, []⟩ s).d.plan.shapes, .lst .lev (feedM ⟨d, []⟩ s).d.stack, .lst .ev (feedM ⟨d, []⟩ s).out] := by
 have hN : bigN = 274877906944 := rfl
 refine fun_ofw Tryz.func123 (by kernel_rfl) (by kernel_rfl) (w := let zi : Int → C := .int .i64; let z1 := feedM (⟨d, ([] : List Ev)⟩ : Mac) s; let z2 : List Blk := [.cells (oMac0_5_27 4 5 6 z1), .dead, .dead, .dead, .tree z1.d.plan.shapes, .lst .lev z1.d.stack, .lst .ev z1.out]; let z3 := feedM ⟨d, []⟩ s; (.seg [.call [] (.v (.agg (oDcd0_5 0 1 d))) [.tree d.plan.shapes, .lst .lev d.stack], .call [] (.v (vB (decOk d))) []] (.br (.seg [.at 4, .mk 4 27 .ev, .call [4, 2, 3, 5] (.tup []) z2, .ord (os 10 [8]) [1]] (.leaf () [6, 7, 8])) (.seg [.ord (os 10 [8]) [1], .at 0, .mkS 5 .ev] (.leaf () [2, 3, 5]))), (Fun Tryz.prog 70 [.agg (cDcd d)] [] (.v (.agg (oDcd0_5 0 1 d))) [.tree d.plan.shapes, .lst .lev d.stack]) ∧ (Fun Tryz.prog 134 [.agg (cDcd d)] [] (.v (vB (decOk d))) []) ∧ ((decOk d) = true → (Fun Tryz.prog 115 [vP 0, vT s, .c (.fn 170 [])] [.cells [.own 1, zi d.plan.root, zi d.plan.deep, zi d.plan.most, zi d.mode, .own 2, .int .u64 d.scan.bits, zi d.scan.have_, zi d.start, zi d.at_, zi d.field.number, zi d.field.kind, .bool d.field.rep, .bool d.field.packed, zi d.field.msg, zi d.wire, zi d.want, zi d.utf.want, zi d.utf.low, zi d.utf.high, zi d.end_.kind, zi d.end_.field, .int .u64 d.end_.bits, zi d.end_.len, .str d.end_.text, zi d.end_.code, zi d.end_.at_, .own 3], .tree d.plan.shapes, .lst .lev d.stack, .lst .ev ([] : List Ev)] (.tup []) z2) ∧ (.tup [.agg (oDcd0_5 0 1 z1.d), vO 2] : S) = .tup [.agg (oDcd0_5 0 1 z3.d), vO 2] ∧ ([.tree z1.d.plan.shapes, .lst .lev z1.d.stack, .lst .ev z1.out] : List Blk) = [.tree z3.d.plan.shapes, .lst .lev z3.d.stack, .lst .ev z3.out]) ∧ ((decOk d) = false → (.tup [.agg (oDcd0_5 0 1 d), vO 2] : S) = .tup [.agg (oDcd0_5 0 1 z3.d), vO 2] ∧ ([.tree d.plan.shapes, .lst .lev d.stack, .lst .ev ([] : List Ev)] : List Blk) = [.tree z3.d.plan.shapes, .lst .lev z3.d.stack, .lst .ev z3.out]))) (by kernel_rfl) ?_
 refine ⟨(copyDec_i d (by omega) (hp2) (by omega)), (decOk_i d (by omega) (by omega)), fun h1 => ?_, fun h1 => ?_⟩
 refine ⟨(run_all (⟨d, ([] : List Ev)⟩ : Mac) _ (by first | omega | rfl | (dsimp only; omega)) (by simp only [List.length_append, List.length_cons, List.length_nil, List.length_set, List.length_take]; omega) (by omega)), ?_⟩
 refine have hm1 : (feedM ⟨d, []⟩ s).d = (feedM (⟨d, ([] : List Ev)⟩ : Mac) s).d := ?_; ?_
 rotate_left
 refine have hm2 : (feedM ⟨d, []⟩ s).out = (feedM (⟨d, ([] : List Ev)⟩ : Mac) s).out := ?_; ?_
 rotate_left
 exact ⟨(by rw [hm1] <;> rfl), (by rw [hm1, hm2] <;> rfl)⟩
 have hbad : feedM ⟨d, []⟩ s = ⟨d, []⟩ := feedM_bad (m := ⟨d, []⟩) (by simpa using h1) s
 refine have hm1 : (feedM ⟨d, []⟩ s).d = d := ?_; ?_
 rotate_left
 refine have hm2 : (feedM ⟨d, []⟩ s).out = ([] : List Ev) := ?_; ?_
 rotate_left
 exact ⟨(by rw [hm1] <;> rfl), (by rw [hm1, hm2] <;> rfl)⟩
 all_goals first | (rfl) | ((rw [hbad]; done)) | (grind)
end Go.Proofs.YtpchkcpcdbdhdaaGreat.Ax
