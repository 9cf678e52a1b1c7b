/- The machine: bytes. The machine: a byte. A byte: the program. The law StepByte. Opening what the laws are handed. -/
import Derived.Test.YtecljjcmjongfaaGreatKStepByte5
import Derived.Test.YtecljjcmjongfaaGreatKStepByte3
import Derived.Test.YtecljjcmjongfaaGreatKStepByte6
import Derived.Test.YtecljjcmjongfaaGreatKStepByte1
import Derived.Test.YtecljjcmjongfaaGreatKB4
set_option linter.unusedSimpArgs false
set_option linter.unusedVariables false
namespace Go.Proofs.YtecljjcmjongfaaGreat.Ax
open Go.RowKit
set_option linter.unusedSimpArgs false
set_option linter.unusedVariables false
theorem varByte_i (m : Mac) (b : Int) (hp1 : MW (m).d) (hp2 : List.length (m).out ≤ 50000000) (hp3 : (0 : Int) ≤ b ∧ b ≤ 255) : Fun Tryz.prog 156 [vP 0, vI b] [.cells (oMac0_5_27 1 2 3 m), .tree m.d.plan.shapes, .lst .lev m.d.stack, .lst .ev m.out] (.tup []) [.cells (oMac0_5_27 4 5 6 (varM m b ((m).d.at_ - 1))), .dead, .dead, .dead, .tree (varM m b ((m).d.at_ - 1)).d.plan.shapes, .lst .lev (varM m b ((m).d.at_ - 1)).d.stack, .lst .ev (varM m b ((m).d.at_ - 1)).out] := by
  have hN : bigN = 274877906944 := rfl
  have hlv := levelsOk_b hp1.lv
  have hpt := planOk_t hlv.1
  have htb := topL_b hp1.lv
  have hwm := wM_b m
  have hbb := hp1.b0
  have hat := hp1.at_
  have hwt := hp1.want
  have hwd := widthD_b m.d
  have hsb := scanByte_b (b := b) hbb.1 hbb.2
  refine fun_ofw Tryz.func156 (by kernel_rfl) (by kernel_rfl) (w := let z3 := (⟨m.d.plan, m.d.mode, m.d.stack, (⟨0, 0⟩ : Scn), m.d.start, m.d.at_, m.d.field, m.d.wire, m.d.want, m.d.utf, m.d.end_⟩ : Dcd); let z9 := (⟨m.d.plan, m.d.mode, m.d.stack, (⟨0, 0⟩ : Scn), m.d.at_ - 1, m.d.at_, m.d.field, m.d.wire, m.d.want, m.d.utf, m.d.end_⟩ : Dcd); let z10 := scanByte m.d.scan b; let z1 := mFail (⟨(⟨m.d.plan, m.d.mode, m.d.stack, z10.1, m.d.at_ - 1, m.d.at_, m.d.field, m.d.wire, m.d.want, m.d.utf, m.d.end_⟩ : Dcd), m.out⟩ : Mac) 9 m.d.at_; let z2 := mFail (⟨(⟨m.d.plan, m.d.mode, m.d.stack, z10.1, m.d.start, m.d.at_, m.d.field, m.d.wire, m.d.want, m.d.utf, m.d.end_⟩ : Dcd), m.out⟩ : Mac) 9 m.d.at_; let z8 := ([.cells [.own 4, .int .i64 m.d.plan.root, .int .i64 m.d.plan.deep, .int .i64 m.d.plan.most, .int .i64 m.d.mode, .own 5, .int .u64 z10.1.bits, .int .i64 z10.1.have_, .int .i64 m.d.start, .int .i64 m.d.at_, .int .i64 m.d.field.number, .int .i64 m.d.field.kind, .bool m.d.field.rep, .bool m.d.field.packed, .int .i64 m.d.field.msg, .int .i64 m.d.wire, .int .i64 m.d.want, .int .i64 m.d.utf.want, .int .i64 m.d.utf.low, .int .i64 m.d.utf.high, .int .i64 m.d.end_.kind, .int .i64 m.d.end_.field, .int .u64 m.d.end_.bits, .int .i64 m.d.end_.len, .str m.d.end_.text, .int .i64 m.d.end_.code, .int .i64 m.d.end_.at_, .own 6], .dead, .dead, .dead, .tree m.d.plan.shapes, .lst .lev m.d.stack, .lst .ev m.out] : List Blk); let z11 : List Blk := [.cells [.own 1, .int .i64 m.d.plan.root, .int .i64 m.d.plan.deep, .int .i64 m.d.plan.most, .int .i64 m.d.mode, .own 2, .int .u64 z10.1.bits, .int .i64 z10.1.have_, .int .i64 m.d.start, .int .i64 m.d.at_, .int .i64 m.d.field.number, .int .i64 m.d.field.kind, .bool m.d.field.rep, .bool m.d.field.packed, .int .i64 m.d.field.msg, .int .i64 m.d.wire, .int .i64 m.d.want, .int .i64 m.d.utf.want, .int .i64 m.d.utf.low, .int .i64 m.d.utf.high, .int .i64 m.d.end_.kind, .int .i64 m.d.end_.field, .int .u64 m.d.end_.bits, .int .i64 m.d.end_.len, .str m.d.end_.text, .int .i64 m.d.end_.code, .int .i64 m.d.end_.at_, .own 3], .tree m.d.plan.shapes, .lst .lev m.d.stack, .lst .ev m.out]; let z12 : List Blk := [.cells [.own 1, .int .i64 m.d.plan.root, .int .i64 m.d.plan.deep, .int .i64 m.d.plan.most, .int .i64 m.d.mode, .own 2, .int .u64 0, .int .i64 0, .int .i64 m.d.start, .int .i64 m.d.at_, .int .i64 m.d.field.number, .int .i64 m.d.field.kind, .bool m.d.field.rep, .bool m.d.field.packed, .int .i64 m.d.field.msg, .int .i64 m.d.wire, .int .i64 m.d.want, .int .i64 m.d.utf.want, .int .i64 m.d.utf.low, .int .i64 m.d.utf.high, .int .i64 m.d.end_.kind, .int .i64 m.d.end_.field, .int .u64 m.d.end_.bits, .int .i64 m.d.end_.len, .str m.d.end_.text, .int .i64 m.d.end_.code, .int .i64 m.d.end_.at_, .own 3], .tree m.d.plan.shapes, .lst .lev m.d.stack, .lst .ev m.out]; let z13 := valueM (⟨z3, m.out⟩ : Mac) z10.1.bits; let z14 : List Blk := [.cells (oMac0_5_27 1 2 4 z1), .tree z1.d.plan.shapes, .lst .lev z1.d.stack, .dead, .lst .ev z1.out]; let z17 : List Blk := [.cells (oMac0_5_27 1 2 4 z2), .tree z2.d.plan.shapes, .lst .lev z2.d.stack, .dead, .lst .ev z2.out]; let z18 := ([.cells (oMac0_5_27 4 5 6 z1), .dead, .dead, .dead, .tree z1.d.plan.shapes, .lst .lev z1.d.stack, .lst .ev z1.out] : List Blk); let z20 := ([.cells (oMac0_5_27 4 5 6 z2), .dead, .dead, .dead, .tree z2.d.plan.shapes, .lst .lev z2.d.stack, .lst .ev z2.out] : List Blk); let z29 := (.tup [] : S); let z30 := decide (m.d.mode = 8); let z31 := decide (m.d.want = 0); let z32 : List Blk := [.cells (oMac0_5_27 1 2 4 z13), .tree z13.d.plan.shapes, .lst .lev z13.d.stack, .dead, .lst .ev z13.out]; let z33 : List V := [vP 0, vI 9, vI m.d.at_]; let z34 := m.d.at_ - 1; let z5 := ([.cells [.own 4, .int .i64 m.d.plan.root, .int .i64 m.d.plan.deep, .int .i64 m.d.plan.most, .int .i64 m.d.mode, .own 5, .int .u64 z10.1.bits, .int .i64 z10.1.have_, .int .i64 z34, .int .i64 m.d.at_, .int .i64 m.d.field.number, .int .i64 m.d.field.kind, .bool m.d.field.rep, .bool m.d.field.packed, .int .i64 m.d.field.msg, .int .i64 m.d.wire, .int .i64 m.d.want, .int .i64 m.d.utf.want, .int .i64 m.d.utf.low, .int .i64 m.d.utf.high, .int .i64 m.d.end_.kind, .int .i64 m.d.end_.field, .int .u64 m.d.end_.bits, .int .i64 m.d.end_.len, .str m.d.end_.text, .int .i64 m.d.end_.code, .int .i64 m.d.end_.at_, .own 6], .dead, .dead, .dead, .tree m.d.plan.shapes, .lst .lev m.d.stack, .lst .ev m.out] : List Blk); let z6 : List Blk := [.cells [.own 1, .int .i64 m.d.plan.root, .int .i64 m.d.plan.deep, .int .i64 m.d.plan.most, .int .i64 m.d.mode, .own 2, .int .u64 z10.1.bits, .int .i64 z10.1.have_, .int .i64 z34, .int .i64 m.d.at_, .int .i64 m.d.field.number, .int .i64 m.d.field.kind, .bool m.d.field.rep, .bool m.d.field.packed, .int .i64 m.d.field.msg, .int .i64 m.d.wire, .int .i64 m.d.want, .int .i64 m.d.utf.want, .int .i64 m.d.utf.low, .int .i64 m.d.utf.high, .int .i64 m.d.end_.kind, .int .i64 m.d.end_.field, .int .u64 m.d.end_.bits, .int .i64 m.d.end_.len, .str m.d.end_.text, .int .i64 m.d.end_.code, .int .i64 m.d.end_.at_, .own 3], .tree m.d.plan.shapes, .lst .lev m.d.stack, .lst .ev m.out]; let z7 := mFail (⟨(⟨m.d.plan, m.d.mode, m.d.stack, m.d.scan, m.d.at_ - 1, m.d.at_, m.d.field, m.d.wire, m.d.want, m.d.utf, m.d.end_⟩ : Dcd), m.out⟩ : Mac) 1 z34; let z15 : List Blk := [.cells [.own 1, .int .i64 m.d.plan.root, .int .i64 m.d.plan.deep, .int .i64 m.d.plan.most, .int .i64 m.d.mode, .own 2, .int .u64 m.d.scan.bits, .int .i64 m.d.scan.have_, .int .i64 z34, .int .i64 m.d.at_, .int .i64 m.d.field.number, .int .i64 m.d.field.kind, .bool m.d.field.rep, .bool m.d.field.packed, .int .i64 m.d.field.msg, .int .i64 m.d.wire, .int .i64 m.d.want, .int .i64 m.d.utf.want, .int .i64 m.d.utf.low, .int .i64 m.d.utf.high, .int .i64 m.d.end_.kind, .int .i64 m.d.end_.field, .int .u64 m.d.end_.bits, .int .i64 m.d.end_.len, .str m.d.end_.text, .int .i64 m.d.end_.code, .int .i64 m.d.end_.at_, .own 3], .tree m.d.plan.shapes, .lst .lev m.d.stack, .lst .ev m.out]; let z16 : List Blk := [.cells [.own 1, .int .i64 m.d.plan.root, .int .i64 m.d.plan.deep, .int .i64 m.d.plan.most, .int .i64 m.d.mode, .own 2, .int .u64 0, .int .i64 0, .int .i64 z34, .int .i64 m.d.at_, .int .i64 m.d.field.number, .int .i64 m.d.field.kind, .bool m.d.field.rep, .bool m.d.field.packed, .int .i64 m.d.field.msg, .int .i64 m.d.wire, .int .i64 m.d.want, .int .i64 m.d.utf.want, .int .i64 m.d.utf.low, .int .i64 m.d.utf.high, .int .i64 m.d.end_.kind, .int .i64 m.d.end_.field, .int .u64 m.d.end_.bits, .int .i64 m.d.end_.len, .str m.d.end_.text, .int .i64 m.d.end_.code, .int .i64 m.d.end_.at_, .own 3], .tree m.d.plan.shapes, .lst .lev m.d.stack, .lst .ev m.out]; let z28 : List Blk := [.cells (oMac0_5_27 1 2 4 z7), .tree z7.d.plan.shapes, .lst .lev z7.d.stack, .dead, .lst .ev z7.out]; let z35 := ([.cells (oMac0_5_27 4 5 6 z7), .dead, .dead, .dead, .tree z7.d.plan.shapes, .lst .lev z7.d.stack, .lst .ev z7.out] : List Blk); let z36 : List V := [vP 0, .c (.int .u64 z10.1.bits)]; let z37 := !decide (m.d.mode = 1); let z38 := decide (topL m.d = 0); let z42 := decide (z10.2 = 2); let z43 := decide (z10.2 = 0); let z44 := decide (m.d.mode = 1); let z45 := decide (m.d.mode = 2); let z46 := vI (topL m.d); let z49 := frameM (⟨z9, m.out⟩ : Mac) z10.1.bits; let z22 : List Blk := [.cells (oMac0_5_27 4 5 6 z49), .dead, .dead, .dead, .tree z49.d.plan.shapes, .lst .lev z49.d.stack, .lst .ev z49.out]; let z50 := frameM (⟨z3, m.out⟩ : Mac) z10.1.bits; let z23 : List Blk := [.cells (oMac0_5_27 4 5 6 z50), .dead, .dead, .dead, .tree z50.d.plan.shapes, .lst .lev z50.d.stack, .lst .ev z50.out]; let z51 := longM (⟨z9, m.out⟩ : Mac) z10.1.bits; let z24 : List Blk := [.cells (oMac0_5_27 4 5 6 z51), .dead, .dead, .dead, .tree z51.d.plan.shapes, .lst .lev z51.d.stack, .lst .ev z51.out]; let z52 := longM (⟨z3, m.out⟩ : Mac) z10.1.bits; let z25 : List Blk := [.cells (oMac0_5_27 4 5 6 z52), .dead, .dead, .dead, .tree z52.d.plan.shapes, .lst .lev z52.d.stack, .lst .ev z52.out]; let z53 := tagM (⟨z9, m.out⟩ : Mac) z10.1.bits; let z26 : List Blk := [.cells (oMac0_5_27 4 5 6 z53), .dead, .dead, .dead, .tree z53.d.plan.shapes, .lst .lev z53.d.stack, .lst .ev z53.out]; let z54 := tagM (⟨z3, m.out⟩ : Mac) z10.1.bits; let z27 : List Blk := [.cells (oMac0_5_27 4 5 6 z54), .dead, .dead, .dead, .tree z54.d.plan.shapes, .lst .lev z54.d.stack, .lst .ev z54.out]; let z55 := decide (m.d.mode = 4); let z56 : List Blk := [.cells (oMac0_5_27 1 2 3 z13), .tree z13.d.plan.shapes, .lst .lev z13.d.stack, .lst .ev z13.out]; let z57 := mFail m 1 z34; let z21 : List Blk := [.cells (oMac0_5_27 1 2 4 z57), .tree z57.d.plan.shapes, .lst .lev z57.d.stack, .dead, .lst .ev z57.out]; let z41 := ([.cells (oMac0_5_27 4 5 6 z57), .dead, .dead, .dead, .tree z57.d.plan.shapes, .lst .lev z57.d.stack, .lst .ev z57.out] : List Blk); let z58 := cScn z10.1; let z59 : List Blk := [.cells (oMac0_5_27 1 2 3 m), .tree m.d.plan.shapes, .lst .lev m.d.stack, .lst .ev m.out]; let z60 := varM m b ((m).d.at_ - 1); let z4 : List Blk := [.cells (oMac0_5_27 4 5 6 z60), .dead, .dead, .dead, .tree z60.d.plan.shapes, .lst .lev z60.d.stack, .lst .ev z60.out]; let z39 := z31 = false → z29 = .tup [] ∧ z5 = z4; let z40 := z30 = false → z29 = .tup [] ∧ z5 = z4; let z47 := z31 = false → z29 = .tup [] ∧ z8 = z4; let z48 := z30 = false → z29 = .tup [] ∧ z8 = z4; let z61 : List V := [vP 0, vI 1, vI z34]; let z62 := cScn m.d.scan; let z63 := settleM z13; let z19 : List Blk := [.cells (oMac0_5_27 4 5 6 z63), .dead, .dead, .dead, .tree z63.d.plan.shapes, .lst .lev z63.d.stack, .lst .ev z63.out]; (.seg [.as 12 (.v (vI z34))] (.br (.br (.seg [.call [] (.tup [.agg z58, vI z10.2]) []] (.br (.seg [.call [0, 1, 2, 3] (.tup []) z28, .at 0, .cut 0 0, .cut 0 5] (.leaf () [0, 1, 2, 3, 6, 7, 5])) (.br (.br (.seg [.call [] (.v z46) []] (.br (.seg [.call [0, 1, 2, 3] (.tup []) z14, .at 0, .cut 0 0, .cut 0 5] (.leaf () [0, 1, 2, 3, 6, 7, 5])) (.br (.br (.seg [.call [0, 1, 2, 3] (.tup []) z14, .at 0, .cut 0 0, .cut 0 5] (.leaf () [0, 1, 2, 3, 6, 7, 5])) (.seg [.at 0, .cut 0 0, .cut 0 5, .cut 0 27] (.leaf () [0, 1, 2, 3, 5, 6, 7]))) (.seg [.at 0, .cut 0 0, .cut 0 5, .cut 0 27] (.leaf () [0, 1, 2, 3, 5, 6, 7]))))) (.br (.br (.seg [.call [0, 1, 2, 3] (.tup []) z14, .at 0, .cut 0 0, .cut 0 5] (.leaf () [0, 1, 2, 3, 6, 7, 5])) (.seg [.at 0, .cut 0 0, .cut 0 5, .cut 0 27] (.leaf () [0, 1, 2, 3, 5, 6, 7]))) (.seg [.at 0, .cut 0 0, .cut 0 5, .cut 0 27] (.leaf () [0, 1, 2, 3, 5, 6, 7])))) (.seg [.br true, .call [0, 1, 2, 3] (.tup []) z22] (.leaf () [0, 1, 2, 3, 5, 6, 7]))))) (.br (.seg [.call [] (.tup [.agg z58, vI z10.2]) []] (.br (.seg [.call [0, 1, 2, 3] (.tup []) z28, .at 0, .cut 0 0, .cut 0 5] (.leaf () [0, 1, 2, 3, 6, 7, 5])) (.br (.br (.seg [.call [] (.v z46) []] (.br (.seg [.call [0, 1, 2, 3] (.tup []) z14, .at 0, .cut 0 0, .cut 0 5] (.leaf () [0, 1, 2, 3, 6, 7, 5])) (.br (.br (.seg [.call [0, 1, 2, 3] (.tup []) z14, .at 0, .cut 0 0, .cut 0 5] (.leaf () [0, 1, 2, 3, 6, 7, 5])) (.seg [.at 0, .cut 0 0, .cut 0 5, .cut 0 27] (.leaf () [0, 1, 2, 3, 5, 6, 7]))) (.seg [.at 0, .cut 0 0, .cut 0 5, .cut 0 27] (.leaf () [0, 1, 2, 3, 5, 6, 7]))))) (.br (.br (.seg [.call [0, 1, 2, 3] (.tup []) z14, .at 0, .cut 0 0, .cut 0 5] (.leaf () [0, 1, 2, 3, 6, 7, 5])) (.seg [.at 0, .cut 0 0, .cut 0 5, .cut 0 27] (.leaf () [0, 1, 2, 3, 5, 6, 7]))) (.seg [.at 0, .cut 0 0, .cut 0 5, .cut 0 27] (.leaf () [0, 1, 2, 3, 5, 6, 7])))) (.seg [.br false, .br true, .call [0, 1, 2, 3] (.tup []) z26] (.leaf () [0, 1, 2, 3, 5, 6, 7]))))) (.br (.seg [.call [] (.tup [.agg z58, vI z10.2]) []] (.br (.seg [.call [0, 1, 2, 3] (.tup []) z28, .at 0, .cut 0 0, .cut 0 5] (.leaf () [0, 1, 2, 3, 6, 7, 5])) (.br (.br (.seg [.call [] (.v z46) []] (.br (.seg [.call [0, 1, 2, 3] (.tup []) z14, .at 0, .cut 0 0, .cut 0 5] (.leaf () [0, 1, 2, 3, 6, 7, 5])) (.br (.br (.seg [.call [0, 1, 2, 3] (.tup []) z14, .at 0, .cut 0 0, .cut 0 5] (.leaf () [0, 1, 2, 3, 6, 7, 5])) (.seg [.at 0, .cut 0 0, .cut 0 5, .cut 0 27] (.leaf () [0, 1, 2, 3, 5, 6, 7]))) (.seg [.at 0, .cut 0 0, .cut 0 5, .cut 0 27] (.leaf () [0, 1, 2, 3, 5, 6, 7]))))) (.br (.br (.seg [.call [0, 1, 2, 3] (.tup []) z14, .at 0, .cut 0 0, .cut 0 5] (.leaf () [0, 1, 2, 3, 6, 7, 5])) (.seg [.at 0, .cut 0 0, .cut 0 5, .cut 0 27] (.leaf () [0, 1, 2, 3, 5, 6, 7]))) (.seg [.at 0, .cut 0 0, .cut 0 5, .cut 0 27] (.leaf () [0, 1, 2, 3, 5, 6, 7])))) (.seg [.br false, .br false, .br true, .call [0, 1, 2, 3] (.tup []) z24] (.leaf () [0, 1, 2, 3, 5, 6, 7]))))) (.seg [.call [] (.tup [.agg z58, vI z10.2]) []] (.br (.seg [.call [0, 1, 2, 3] (.tup []) z21, .at 0, .cut 0 0, .cut 0 5] (.leaf () [0, 1, 2, 3, 6, 7, 5])) (.br (.br (.seg [.call [] (.v z46) []] (.br (.seg [.call [0, 1, 2, 3] (.tup []) z17, .at 0, .cut 0 0, .cut 0 5] (.leaf () [0, 1, 2, 3, 6, 7, 5])) (.br (.br (.seg [.call [0, 1, 2, 3] (.tup []) z17, .at 0, .cut 0 0, .cut 0 5] (.leaf () [0, 1, 2, 3, 6, 7, 5])) (.seg [.at 0, .cut 0 0, .cut 0 5, .cut 0 27] (.leaf () [0, 1, 2, 3, 5, 6, 7]))) (.seg [.at 0, .cut 0 0, .cut 0 5, .cut 0 27] (.leaf () [0, 1, 2, 3, 5, 6, 7]))))) (.br (.br (.seg [.call [0, 1, 2, 3] (.tup []) z17, .at 0, .cut 0 0, .cut 0 5] (.leaf () [0, 1, 2, 3, 6, 7, 5])) (.seg [.at 0, .cut 0 0, .cut 0 5, .cut 0 27] (.leaf () [0, 1, 2, 3, 5, 6, 7]))) (.seg [.at 0, .cut 0 0, .cut 0 5, .cut 0 27] (.leaf () [0, 1, 2, 3, 5, 6, 7])))) (.seg [.br false, .br false, .br false, .call [0, 1, 2, 3] (.tup []) z32, .call [0, 1, 2, 5] (.tup []) z19] (.leaf () [0, 1, 2, 3, 6, 7, 8])))))))) (.seg [.call [] (.tup [.agg z58, vI z10.2]) []] (.br (.seg [.call [0, 1, 2, 3] (.tup []) z21, .at 0, .cut 0 0, .cut 0 5] (.leaf () [0, 1, 2, 3, 6, 7, 5])) (.br (.br (.seg [.call [] (.v z46) []] (.br (.seg [.call [0, 1, 2, 3] (.tup []) z17, .at 0, .cut 0 0, .cut 0 5] (.leaf () [0, 1, 2, 3, 6, 7, 5])) (.br (.br (.seg [.call [0, 1, 2, 3] (.tup []) z17, .at 0, .cut 0 0, .cut 0 5] (.leaf () [0, 1, 2, 3, 6, 7, 5])) (.seg [.at 0, .cut 0 0, .cut 0 5, .cut 0 27] (.leaf () [0, 1, 2, 3, 5, 6, 7]))) (.seg [.at 0, .cut 0 0, .cut 0 5, .cut 0 27] (.leaf () [0, 1, 2, 3, 5, 6, 7]))))) (.br (.br (.seg [.call [0, 1, 2, 3] (.tup []) z17, .at 0, .cut 0 0, .cut 0 5] (.leaf () [0, 1, 2, 3, 6, 7, 5])) (.seg [.at 0, .cut 0 0, .cut 0 5, .cut 0 27] (.leaf () [0, 1, 2, 3, 5, 6, 7]))) (.seg [.at 0, .cut 0 0, .cut 0 5, .cut 0 27] (.leaf () [0, 1, 2, 3, 5, 6, 7])))) (.br (.seg [.call [0, 1, 2, 3] (.tup []) z23] (.leaf () [0, 1, 2, 3, 5, 6, 7])) (.br (.seg [.call [0, 1, 2, 3] (.tup []) z27] (.leaf () [0, 1, 2, 3, 5, 6, 7])) (.br (.seg [.call [0, 1, 2, 3] (.tup []) z25] (.leaf () [0, 1, 2, 3, 5, 6, 7])) (.seg [.call [0, 1, 2, 3] (.tup []) z32, .call [0, 1, 2, 5] (.tup []) z19] (.leaf () [0, 1, 2, 3, 6, 7, 8]))))))))), ((.v (vI (IntKind.i64.wrap z34)) : S) = .v (vI z34)) ∧ ((decide (m.d.scan.have_ = 0)) = true → (z44 = true → (Fun Tryz.prog 195 [.agg z62, vI b] [] (.tup [.agg z58, vI z10.2]) []) ∧ (z42 = true → (Fun Tryz.prog 118 z61 z15 (.tup []) z28) ∧ z29 = .tup [] ∧ z35 = z4) ∧ (z42 = false → (z43 = true → (z37 = true → (Fun Tryz.prog 149 [.agg [.seq .shp m.d.plan.shapes, .int .i64 m.d.plan.root, .int .i64 m.d.plan.deep, .int .i64 m.d.plan.most, .int .i64 m.d.mode, .seq .lev m.d.stack, .int .u64 z10.1.bits, .int .i64 z10.1.have_, .int .i64 z34, .int .i64 m.d.at_, .int .i64 m.d.field.number, .int .i64 m.d.field.kind, .bool m.d.field.rep, .bool m.d.field.packed, .int .i64 m.d.field.msg, .int .i64 m.d.wire, .int .i64 m.d.want, .int .i64 m.d.utf.want, .int .i64 m.d.utf.low, .int .i64 m.d.utf.high, .int .i64 m.d.end_.kind, .int .i64 m.d.end_.field, .int .u64 m.d.end_.bits, .int .i64 m.d.end_.len, .str m.d.end_.text, .int .i64 m.d.end_.code, .int .i64 m.d.end_.at_]] [] (.v z46) []) ∧ (z38 = true → (Fun Tryz.prog 118 z33 z6 (.tup []) z14) ∧ z29 = .tup [] ∧ z18 = z4) ∧ (z38 = false → (z30 = true → (z31 = true → (Fun Tryz.prog 118 z33 z6 (.tup []) z14) ∧ z29 = .tup [] ∧ z18 = z4) ∧ z39) ∧ z40)) ∧ (z37 = false → (z30 = true → (z31 = true → (Fun Tryz.prog 118 z33 z6 (.tup []) z14) ∧ z29 = .tup [] ∧ z18 = z4) ∧ z39) ∧ z40)) ∧ (z43 = false → (z44 = true) ∧ (Fun Tryz.prog 196 z36 z16 (.tup []) z22) ∧ z29 = .tup [] ∧ (z22 : List Blk) = z4))) ∧ (z44 = false → (z45 = true → (Fun Tryz.prog 195 [.agg z62, vI b] [] (.tup [.agg z58, vI z10.2]) []) ∧ (z42 = true → (Fun Tryz.prog 118 z61 z15 (.tup []) z28) ∧ z29 = .tup [] ∧ z35 = z4) ∧ (z42 = false → (z43 = true → (z37 = true → (Fun Tryz.prog 149 [.agg [.seq .shp m.d.plan.shapes, .int .i64 m.d.plan.root, .int .i64 m.d.plan.deep, .int .i64 m.d.plan.most, .int .i64 m.d.mode, .seq .lev m.d.stack, .int .u64 z10.1.bits, .int .i64 z10.1.have_, .int .i64 z34, .int .i64 m.d.at_, .int .i64 m.d.field.number, .int .i64 m.d.field.kind, .bool m.d.field.rep, .bool m.d.field.packed, .int .i64 m.d.field.msg, .int .i64 m.d.wire, .int .i64 m.d.want, .int .i64 m.d.utf.want, .int .i64 m.d.utf.low, .int .i64 m.d.utf.high, .int .i64 m.d.end_.kind, .int .i64 m.d.end_.field, .int .u64 m.d.end_.bits, .int .i64 m.d.end_.len, .str m.d.end_.text, .int .i64 m.d.end_.code, .int .i64 m.d.end_.at_]] [] (.v z46) []) ∧ (z38 = true → (Fun Tryz.prog 118 z33 z6 (.tup []) z14) ∧ z29 = .tup [] ∧ z18 = z4) ∧ (z38 = false → (z30 = true → (z31 = true → (Fun Tryz.prog 118 z33 z6 (.tup []) z14) ∧ z29 = .tup [] ∧ z18 = z4) ∧ z39) ∧ z40)) ∧ (z37 = false → (z30 = true → (z31 = true → (Fun Tryz.prog 118 z33 z6 (.tup []) z14) ∧ z29 = .tup [] ∧ z18 = z4) ∧ z39) ∧ z40)) ∧ (z43 = false → (z44 = false) ∧ (z45 = true) ∧ (Fun Tryz.prog 197 z36 z16 (.tup []) z26) ∧ z29 = .tup [] ∧ (z26 : List Blk) = z4))) ∧ (z45 = false → (z55 = true → (Fun Tryz.prog 195 [.agg z62, vI b] [] (.tup [.agg z58, vI z10.2]) []) ∧ (z42 = true → (Fun Tryz.prog 118 z61 z15 (.tup []) z28) ∧ z29 = .tup [] ∧ z35 = z4) ∧ (z42 = false → (z43 = true → (z37 = true → (Fun Tryz.prog 149 [.agg [.seq .shp m.d.plan.shapes, .int .i64 m.d.plan.root, .int .i64 m.d.plan.deep, .int .i64 m.d.plan.most, .int .i64 m.d.mode, .seq .lev m.d.stack, .int .u64 z10.1.bits, .int .i64 z10.1.have_, .int .i64 z34, .int .i64 m.d.at_, .int .i64 m.d.field.number, .int .i64 m.d.field.kind, .bool m.d.field.rep, .bool m.d.field.packed, .int .i64 m.d.field.msg, .int .i64 m.d.wire, .int .i64 m.d.want, .int .i64 m.d.utf.want, .int .i64 m.d.utf.low, .int .i64 m.d.utf.high, .int .i64 m.d.end_.kind, .int .i64 m.d.end_.field, .int .u64 m.d.end_.bits, .int .i64 m.d.end_.len, .str m.d.end_.text, .int .i64 m.d.end_.code, .int .i64 m.d.end_.at_]] [] (.v z46) []) ∧ (z38 = true → (Fun Tryz.prog 118 z33 z6 (.tup []) z14) ∧ z29 = .tup [] ∧ z18 = z4) ∧ (z38 = false → (z30 = true → (z31 = true → (Fun Tryz.prog 118 z33 z6 (.tup []) z14) ∧ z29 = .tup [] ∧ z18 = z4) ∧ z39) ∧ z40)) ∧ (z37 = false → (z30 = true → (z31 = true → (Fun Tryz.prog 118 z33 z6 (.tup []) z14) ∧ z29 = .tup [] ∧ z18 = z4) ∧ z39) ∧ z40)) ∧ (z43 = false → (z44 = false) ∧ (z45 = false) ∧ (z55 = true) ∧ (Fun Tryz.prog 198 z36 z16 (.tup []) z24) ∧ z29 = .tup [] ∧ (z24 : List Blk) = z4))) ∧ (z55 = false → (Fun Tryz.prog 195 [.agg z62, vI b] [] (.tup [.agg z58, vI z10.2]) []) ∧ (z42 = true → (Fun Tryz.prog 118 z61 z59 (.tup []) z21) ∧ z29 = .tup [] ∧ z41 = z4) ∧ (z42 = false → (z43 = true → (z37 = true → (Fun Tryz.prog 149 [.agg [.seq .shp m.d.plan.shapes, .int .i64 m.d.plan.root, .int .i64 m.d.plan.deep, .int .i64 m.d.plan.most, .int .i64 m.d.mode, .seq .lev m.d.stack, .int .u64 z10.1.bits, .int .i64 z10.1.have_, .int .i64 m.d.start, .int .i64 m.d.at_, .int .i64 m.d.field.number, .int .i64 m.d.field.kind, .bool m.d.field.rep, .bool m.d.field.packed, .int .i64 m.d.field.msg, .int .i64 m.d.wire, .int .i64 m.d.want, .int .i64 m.d.utf.want, .int .i64 m.d.utf.low, .int .i64 m.d.utf.high, .int .i64 m.d.end_.kind, .int .i64 m.d.end_.field, .int .u64 m.d.end_.bits, .int .i64 m.d.end_.len, .str m.d.end_.text, .int .i64 m.d.end_.code, .int .i64 m.d.end_.at_]] [] (.v z46) []) ∧ (z38 = true → (Fun Tryz.prog 118 z33 z11 (.tup []) z17) ∧ z29 = .tup [] ∧ z20 = z4) ∧ (z38 = false → (z30 = true → (z31 = true → (Fun Tryz.prog 118 z33 z11 (.tup []) z17) ∧ z29 = .tup [] ∧ z20 = z4) ∧ z47) ∧ z48)) ∧ (z37 = false → (z30 = true → (z31 = true → (Fun Tryz.prog 118 z33 z11 (.tup []) z17) ∧ z29 = .tup [] ∧ z20 = z4) ∧ z47) ∧ z48)) ∧ (z43 = false → (z44 = false) ∧ (z45 = false) ∧ (z55 = false) ∧ (Fun Tryz.prog 194 z36 z12 (.tup []) z32) ∧ (Fun Tryz.prog 153 [vP 0] z56 (.tup []) z19) ∧ z29 = .tup [] ∧ (z19 : List Blk) = z4)))))) ∧ ((decide (m.d.scan.have_ = 0)) = false → (Fun Tryz.prog 195 [.agg z62, vI b] [] (.tup [.agg z58, vI z10.2]) []) ∧ (z42 = true → (Fun Tryz.prog 118 z61 z59 (.tup []) z21) ∧ z29 = .tup [] ∧ z41 = z4) ∧ (z42 = false → (z43 = true → (z37 = true → (Fun Tryz.prog 149 [.agg [.seq .shp m.d.plan.shapes, .int .i64 m.d.plan.root, .int .i64 m.d.plan.deep, .int .i64 m.d.plan.most, .int .i64 m.d.mode, .seq .lev m.d.stack, .int .u64 z10.1.bits, .int .i64 z10.1.have_, .int .i64 m.d.start, .int .i64 m.d.at_, .int .i64 m.d.field.number, .int .i64 m.d.field.kind, .bool m.d.field.rep, .bool m.d.field.packed, .int .i64 m.d.field.msg, .int .i64 m.d.wire, .int .i64 m.d.want, .int .i64 m.d.utf.want, .int .i64 m.d.utf.low, .int .i64 m.d.utf.high, .int .i64 m.d.end_.kind, .int .i64 m.d.end_.field, .int .u64 m.d.end_.bits, .int .i64 m.d.end_.len, .str m.d.end_.text, .int .i64 m.d.end_.code, .int .i64 m.d.end_.at_]] [] (.v z46) []) ∧ (z38 = true → (Fun Tryz.prog 118 z33 z11 (.tup []) z17) ∧ z29 = .tup [] ∧ z20 = z4) ∧ (z38 = false → (z30 = true → (z31 = true → (Fun Tryz.prog 118 z33 z11 (.tup []) z17) ∧ z29 = .tup [] ∧ z20 = z4) ∧ z47) ∧ z48)) ∧ (z37 = false → (z30 = true → (z31 = true → (Fun Tryz.prog 118 z33 z11 (.tup []) z17) ∧ z29 = .tup [] ∧ z20 = z4) ∧ z47) ∧ z48)) ∧ (z43 = false → (z44 = true → (Fun Tryz.prog 196 z36 z12 (.tup []) z23) ∧ z29 = .tup [] ∧ (z23 : List Blk) = z4) ∧ (z44 = false → (z45 = true → (Fun Tryz.prog 197 z36 z12 (.tup []) z27) ∧ z29 = .tup [] ∧ (z27 : List Blk) = z4) ∧ (z45 = false → (z55 = true → (Fun Tryz.prog 198 z36 z12 (.tup []) z25) ∧ z29 = .tup [] ∧ (z25 : List Blk) = z4) ∧ (z55 = false → (Fun Tryz.prog 194 z36 z12 (.tup []) z32) ∧ (Fun Tryz.prog 153 [vP 0] z56 (.tup []) z19) ∧ z29 = .tup [] ∧ (z19 : List Blk) = z4)))))))) (by kernel_rfl) ?_
  refine ⟨(as_i64 (by omega) (by omega)), fun h1 => have p1 := of_decide_eq_true h1; ?_, fun h1 => have p1 := of_decide_eq_false h1; ?_⟩
  refine ⟨fun h2 => have p2 := of_decide_eq_true h2; ?_, fun h2 => have p2 := of_decide_eq_false h2; ?_⟩
  refine ⟨(scanByte_i m.d.scan _ (by omega)), fun h3 => have p3 := of_decide_eq_true h3; ?_, fun h3 => have p3 := of_decide_eq_false h3; ?_⟩
  refine ⟨(fails_i (⟨(⟨m.d.plan, m.d.mode, m.d.stack, m.d.scan, m.d.at_ - 1, m.d.at_, m.d.field, m.d.wire, m.d.want, m.d.utf, m.d.end_⟩ : Dcd), m.out⟩ : Mac) _ _ (by first | omega | (dsimp only; omega))), ?_⟩
  refine have hm1 : varM m b ((m).d.at_ - 1) = (mFail (⟨(⟨m.d.plan, m.d.mode, m.d.stack, m.d.scan, m.d.at_ - 1, m.d.at_, m.d.field, m.d.wire, m.d.want, m.d.utf, m.d.end_⟩ : Dcd), m.out⟩ : Mac) 1 (m.d.at_ - 1)) := ?_; ?_
  rotate_left
  exact ⟨rfl, (by rw [hm1] <;> rfl)⟩
  refine ⟨fun h4 => have p4 := of_decide_eq_true h4; ?_, fun h4 => have p4 := of_decide_eq_false h4; ?_⟩
  refine ⟨fun h5 => have q5 := bnot_t h5; have p5 := of_decide_eq_false q5; ?_, fun h5 => have q5 := bnot_f h5; have p5 := of_decide_eq_true q5; ?_⟩
  refine ⟨(topL_i (⟨m.d.plan, m.d.mode, m.d.stack, (scanByte m.d.scan b).1, m.d.at_ - 1, m.d.at_, m.d.field, m.d.wire, m.d.want, m.d.utf, m.d.end_⟩ : Dcd) (by first | omega | (dsimp only; omega))), fun h6 => have p6 := of_decide_eq_true h6; ?_, fun h6 => have p6 := of_decide_eq_false h6; ?_⟩
  refine ⟨(fails_i (⟨(⟨m.d.plan, m.d.mode, m.d.stack, (scanByte m.d.scan b).1, m.d.at_ - 1, m.d.at_, m.d.field, m.d.wire, m.d.want, m.d.utf, m.d.end_⟩ : Dcd), m.out⟩ : Mac) _ _ (by first | omega | (dsimp only; omega))), ?_⟩
  refine have hm1 : varM m b ((m).d.at_ - 1) = (mFail (⟨(⟨m.d.plan, m.d.mode, m.d.stack, (scanByte m.d.scan b).1, m.d.at_ - 1, m.d.at_, m.d.field, m.d.wire, m.d.want, m.d.utf, m.d.end_⟩ : Dcd), m.out⟩ : Mac) 9 m.d.at_) := ?_; ?_
  rotate_left
  exact ⟨rfl, (by rw [hm1] <;> rfl)⟩
  refine ⟨fun h7 => have p7 := of_decide_eq_true h7; ?_, fun h7 => have p7 := of_decide_eq_false h7; ?_⟩
  refine ⟨fun h8 => have p8 := of_decide_eq_true h8; ?_, fun h8 => have p8 := of_decide_eq_false h8; ?_⟩
  refine ⟨(fails_i (⟨(⟨m.d.plan, m.d.mode, m.d.stack, (scanByte m.d.scan b).1, m.d.at_ - 1, m.d.at_, m.d.field, m.d.wire, m.d.want, m.d.utf, m.d.end_⟩ : Dcd), m.out⟩ : Mac) _ _ (by first | omega | (dsimp only; omega))), ?_⟩
  refine have hm1 : varM m b ((m).d.at_ - 1) = (mFail (⟨(⟨m.d.plan, m.d.mode, m.d.stack, (scanByte m.d.scan b).1, m.d.at_ - 1, m.d.at_, m.d.field, m.d.wire, m.d.want, m.d.utf, m.d.end_⟩ : Dcd), m.out⟩ : Mac) 9 m.d.at_) := ?_; ?_
  rotate_left
  exact ⟨rfl, (by rw [hm1] <;> rfl)⟩
  refine have hm1 : varM m b ((m).d.at_ - 1) = (⟨(⟨m.d.plan, m.d.mode, m.d.stack, (scanByte m.d.scan b).1, m.d.at_ - 1, m.d.at_, m.d.field, m.d.wire, m.d.want, m.d.utf, m.d.end_⟩ : Dcd), m.out⟩ : Mac) := ?_; ?_
  rotate_left
  exact ⟨rfl, (by rw [hm1] <;> rfl)⟩
  refine have hm1 : varM m b ((m).d.at_ - 1) = (⟨(⟨m.d.plan, m.d.mode, m.d.stack, (scanByte m.d.scan b).1, m.d.at_ - 1, m.d.at_, m.d.field, m.d.wire, m.d.want, m.d.utf, m.d.end_⟩ : Dcd), m.out⟩ : Mac) := ?_; ?_
  rotate_left
  exact ⟨rfl, (by rw [hm1] <;> rfl)⟩
  refine ⟨fun h6 => have p6 := of_decide_eq_true h6; ?_, fun h6 => have p6 := of_decide_eq_false h6; ?_⟩
  refine ⟨fun h7 => have p7 := of_decide_eq_true h7; ?_, fun h7 => have p7 := of_decide_eq_false h7; ?_⟩
  refine ⟨(fails_i (⟨(⟨m.d.plan, m.d.mode, m.d.stack, (scanByte m.d.scan b).1, m.d.at_ - 1, m.d.at_, m.d.field, m.d.wire, m.d.want, m.d.utf, m.d.end_⟩ : Dcd), m.out⟩ : Mac) _ _ (by first | omega | (dsimp only; omega))), ?_⟩
  refine have hm1 : varM m b ((m).d.at_ - 1) = (mFail (⟨(⟨m.d.plan, m.d.mode, m.d.stack, (scanByte m.d.scan b).1, m.d.at_ - 1, m.d.at_, m.d.field, m.d.wire, m.d.want, m.d.utf, m.d.end_⟩ : Dcd), m.out⟩ : Mac) 9 m.d.at_) := ?_; ?_
  rotate_left
  exact ⟨rfl, (by rw [hm1] <;> rfl)⟩
  refine have hm1 : varM m b ((m).d.at_ - 1) = (⟨(⟨m.d.plan, m.d.mode, m.d.stack, (scanByte m.d.scan b).1, m.d.at_ - 1, m.d.at_, m.d.field, m.d.wire, m.d.want, m.d.utf, m.d.end_⟩ : Dcd), m.out⟩ : Mac) := ?_; ?_
  rotate_left
  exact ⟨rfl, (by rw [hm1] <;> rfl)⟩
  refine have hm1 : varM m b ((m).d.at_ - 1) = (⟨(⟨m.d.plan, m.d.mode, m.d.stack, (scanByte m.d.scan b).1, m.d.at_ - 1, m.d.at_, m.d.field, m.d.wire, m.d.want, m.d.utf, m.d.end_⟩ : Dcd), m.out⟩ : Mac) := ?_; ?_
  rotate_left
  exact ⟨rfl, (by rw [hm1] <;> rfl)⟩
  refine ⟨h2, (frame_i (⟨(⟨m.d.plan, m.d.mode, m.d.stack, (⟨0, 0⟩ : Scn), m.d.at_ - 1, m.d.at_, m.d.field, m.d.wire, m.d.want, m.d.utf, m.d.end_⟩ : Dcd), m.out⟩ : Mac) _ ((by first | (exact hp1.lv) | (exact levelsOk_same hp1.lv rfl rfl))) (by first | omega | (dsimp only; omega)) (by omega)), ?_⟩
  refine have hm1 : varM m b ((m).d.at_ - 1) = (frameM (⟨(⟨m.d.plan, m.d.mode, m.d.stack, (⟨0, 0⟩ : Scn), m.d.at_ - 1, m.d.at_, m.d.field, m.d.wire, m.d.want, m.d.utf, m.d.end_⟩ : Dcd), m.out⟩ : Mac) (scanByte m.d.scan b).1.bits) := ?_; ?_
  rotate_left
  exact ⟨rfl, (by rw [hm1] <;> rfl)⟩
  refine ⟨fun h3 => have p3 := of_decide_eq_true h3; ?_, fun h3 => have p3 := of_decide_eq_false h3; ?_⟩
  refine ⟨(scanByte_i m.d.scan _ (by omega)), fun h4 => have p4 := of_decide_eq_true h4; ?_, fun h4 => have p4 := of_decide_eq_false h4; ?_⟩
  refine ⟨(fails_i (⟨(⟨m.d.plan, m.d.mode, m.d.stack, m.d.scan, m.d.at_ - 1, m.d.at_, m.d.field, m.d.wire, m.d.want, m.d.utf, m.d.end_⟩ : Dcd), m.out⟩ : Mac) _ _ (by first | omega | (dsimp only; omega))), ?_⟩
  refine have hm1 : varM m b ((m).d.at_ - 1) = (mFail (⟨(⟨m.d.plan, m.d.mode, m.d.stack, m.d.scan, m.d.at_ - 1, m.d.at_, m.d.field, m.d.wire, m.d.want, m.d.utf, m.d.end_⟩ : Dcd), m.out⟩ : Mac) 1 (m.d.at_ - 1)) := ?_; ?_
  rotate_left
  exact ⟨rfl, (by rw [hm1] <;> rfl)⟩
  refine ⟨fun h5 => have p5 := of_decide_eq_true h5; ?_, fun h5 => have p5 := of_decide_eq_false h5; ?_⟩
  refine ⟨fun h6 => have q6 := bnot_t h6; have p6 := of_decide_eq_false q6; ?_, fun h6 => have q6 := bnot_f h6; have p6 := of_decide_eq_true q6; ?_⟩
  refine ⟨(topL_i (⟨m.d.plan, m.d.mode, m.d.stack, (scanByte m.d.scan b).1, m.d.at_ - 1, m.d.at_, m.d.field, m.d.wire, m.d.want, m.d.utf, m.d.end_⟩ : Dcd) (by first | omega | (dsimp only; omega))), fun h7 => have p7 := of_decide_eq_true h7; ?_, fun h7 => have p7 := of_decide_eq_false h7; ?_⟩
  refine ⟨(fails_i (⟨(⟨m.d.plan, m.d.mode, m.d.stack, (scanByte m.d.scan b).1, m.d.at_ - 1, m.d.at_, m.d.field, m.d.wire, m.d.want, m.d.utf, m.d.end_⟩ : Dcd), m.out⟩ : Mac) _ _ (by first | omega | (dsimp only; omega))), ?_⟩
  refine have hm1 : varM m b ((m).d.at_ - 1) = (mFail (⟨(⟨m.d.plan, m.d.mode, m.d.stack, (scanByte m.d.scan b).1, m.d.at_ - 1, m.d.at_, m.d.field, m.d.wire, m.d.want, m.d.utf, m.d.end_⟩ : Dcd), m.out⟩ : Mac) 9 m.d.at_) := ?_; ?_
  rotate_left
  exact ⟨rfl, (by rw [hm1] <;> rfl)⟩
  refine ⟨fun h8 => have p8 := of_decide_eq_true h8; ?_, fun h8 => have p8 := of_decide_eq_false h8; ?_⟩
  refine ⟨fun h9 => have p9 := of_decide_eq_true h9; ?_, fun h9 => have p9 := of_decide_eq_false h9; ?_⟩
  refine ⟨(fails_i (⟨(⟨m.d.plan, m.d.mode, m.d.stack, (scanByte m.d.scan b).1, m.d.at_ - 1, m.d.at_, m.d.field, m.d.wire, m.d.want, m.d.utf, m.d.end_⟩ : Dcd), m.out⟩ : Mac) _ _ (by first | omega | (dsimp only; omega))), ?_⟩
  refine have hm1 : varM m b ((m).d.at_ - 1) = (mFail (⟨(⟨m.d.plan, m.d.mode, m.d.stack, (scanByte m.d.scan b).1, m.d.at_ - 1, m.d.at_, m.d.field, m.d.wire, m.d.want, m.d.utf, m.d.end_⟩ : Dcd), m.out⟩ : Mac) 9 m.d.at_) := ?_; ?_
  rotate_left
  exact ⟨rfl, (by rw [hm1] <;> rfl)⟩
  refine have hm1 : varM m b ((m).d.at_ - 1) = (⟨(⟨m.d.plan, m.d.mode, m.d.stack, (scanByte m.d.scan b).1, m.d.at_ - 1, m.d.at_, m.d.field, m.d.wire, m.d.want, m.d.utf, m.d.end_⟩ : Dcd), m.out⟩ : Mac) := ?_; ?_
  rotate_left
  exact ⟨rfl, (by rw [hm1] <;> rfl)⟩
  refine have hm1 : varM m b ((m).d.at_ - 1) = (⟨(⟨m.d.plan, m.d.mode, m.d.stack, (scanByte m.d.scan b).1, m.d.at_ - 1, m.d.at_, m.d.field, m.d.wire, m.d.want, m.d.utf, m.d.end_⟩ : Dcd), m.out⟩ : Mac) := ?_; ?_
  rotate_left
  exact ⟨rfl, (by rw [hm1] <;> rfl)⟩
  refine ⟨fun h7 => have p7 := of_decide_eq_true h7; ?_, fun h7 => have p7 := of_decide_eq_false h7; ?_⟩
  refine ⟨fun h8 => have p8 := of_decide_eq_true h8; ?_, fun h8 => have p8 := of_decide_eq_false h8; ?_⟩
  refine ⟨(fails_i (⟨(⟨m.d.plan, m.d.mode, m.d.stack, (scanByte m.d.scan b).1, m.d.at_ - 1, m.d.at_, m.d.field, m.d.wire, m.d.want, m.d.utf, m.d.end_⟩ : Dcd), m.out⟩ : Mac) _ _ (by first | omega | (dsimp only; omega))), ?_⟩
  refine have hm1 : varM m b ((m).d.at_ - 1) = (mFail (⟨(⟨m.d.plan, m.d.mode, m.d.stack, (scanByte m.d.scan b).1, m.d.at_ - 1, m.d.at_, m.d.field, m.d.wire, m.d.want, m.d.utf, m.d.end_⟩ : Dcd), m.out⟩ : Mac) 9 m.d.at_) := ?_; ?_
  rotate_left
  exact ⟨rfl, (by rw [hm1] <;> rfl)⟩
  refine have hm1 : varM m b ((m).d.at_ - 1) = (⟨(⟨m.d.plan, m.d.mode, m.d.stack, (scanByte m.d.scan b).1, m.d.at_ - 1, m.d.at_, m.d.field, m.d.wire, m.d.want, m.d.utf, m.d.end_⟩ : Dcd), m.out⟩ : Mac) := ?_; ?_
  rotate_left
  exact ⟨rfl, (by rw [hm1] <;> rfl)⟩
  refine have hm1 : varM m b ((m).d.at_ - 1) = (⟨(⟨m.d.plan, m.d.mode, m.d.stack, (scanByte m.d.scan b).1, m.d.at_ - 1, m.d.at_, m.d.field, m.d.wire, m.d.want, m.d.utf, m.d.end_⟩ : Dcd), m.out⟩ : Mac) := ?_; ?_
  rotate_left
  exact ⟨rfl, (by rw [hm1] <;> rfl)⟩
  refine ⟨h2, h3, (tag_i (⟨(⟨m.d.plan, m.d.mode, m.d.stack, (⟨0, 0⟩ : Scn), m.d.at_ - 1, m.d.at_, m.d.field, m.d.wire, m.d.want, m.d.utf, m.d.end_⟩ : Dcd), m.out⟩ : Mac) _ ((by first | (exact hp1.lv) | (exact levelsOk_same hp1.lv rfl rfl))) (by first | omega | (dsimp only; omega)) (by omega)), ?_⟩
  refine have hm1 : varM m b ((m).d.at_ - 1) = (tagM (⟨(⟨m.d.plan, m.d.mode, m.d.stack, (⟨0, 0⟩ : Scn), m.d.at_ - 1, m.d.at_, m.d.field, m.d.wire, m.d.want, m.d.utf, m.d.end_⟩ : Dcd), m.out⟩ : Mac) (scanByte m.d.scan b).1.bits) := ?_; ?_
  rotate_left
  exact ⟨rfl, (by rw [hm1] <;> rfl)⟩
  refine ⟨fun h4 => have p4 := of_decide_eq_true h4; ?_, fun h4 => have p4 := of_decide_eq_false h4; ?_⟩
  refine ⟨(scanByte_i m.d.scan _ (by omega)), fun h5 => have p5 := of_decide_eq_true h5; ?_, fun h5 => have p5 := of_decide_eq_false h5; ?_⟩
  refine ⟨(fails_i (⟨(⟨m.d.plan, m.d.mode, m.d.stack, m.d.scan, m.d.at_ - 1, m.d.at_, m.d.field, m.d.wire, m.d.want, m.d.utf, m.d.end_⟩ : Dcd), m.out⟩ : Mac) _ _ (by first | omega | (dsimp only; omega))), ?_⟩
  refine have hm1 : varM m b ((m).d.at_ - 1) = (mFail (⟨(⟨m.d.plan, m.d.mode, m.d.stack, m.d.scan, m.d.at_ - 1, m.d.at_, m.d.field, m.d.wire, m.d.want, m.d.utf, m.d.end_⟩ : Dcd), m.out⟩ : Mac) 1 (m.d.at_ - 1)) := ?_; ?_
  rotate_left
  exact ⟨rfl, (by rw [hm1] <;> rfl)⟩
  refine ⟨fun h6 => have p6 := of_decide_eq_true h6; ?_, fun h6 => have p6 := of_decide_eq_false h6; ?_⟩
  refine ⟨fun h7 => have q7 := bnot_t h7; have p7 := of_decide_eq_false q7; ?_, fun h7 => have q7 := bnot_f h7; have p7 := of_decide_eq_true q7; ?_⟩
  refine ⟨(topL_i (⟨m.d.plan, m.d.mode, m.d.stack, (scanByte m.d.scan b).1, m.d.at_ - 1, m.d.at_, m.d.field, m.d.wire, m.d.want, m.d.utf, m.d.end_⟩ : Dcd) (by first | omega | (dsimp only; omega))), fun h8 => have p8 := of_decide_eq_true h8; ?_, fun h8 => have p8 := of_decide_eq_false h8; ?_⟩
  refine ⟨(fails_i (⟨(⟨m.d.plan, m.d.mode, m.d.stack, (scanByte m.d.scan b).1, m.d.at_ - 1, m.d.at_, m.d.field, m.d.wire, m.d.want, m.d.utf, m.d.end_⟩ : Dcd), m.out⟩ : Mac) _ _ (by first | omega | (dsimp only; omega))), ?_⟩
  refine have hm1 : varM m b ((m).d.at_ - 1) = (mFail (⟨(⟨m.d.plan, m.d.mode, m.d.stack, (scanByte m.d.scan b).1, m.d.at_ - 1, m.d.at_, m.d.field, m.d.wire, m.d.want, m.d.utf, m.d.end_⟩ : Dcd), m.out⟩ : Mac) 9 m.d.at_) := ?_; ?_
  rotate_left
  exact ⟨rfl, (by rw [hm1] <;> rfl)⟩
  refine ⟨fun h9 => have p9 := of_decide_eq_true h9; ?_, fun h9 => have p9 := of_decide_eq_false h9; ?_⟩
  refine ⟨fun h10 => have p10 := of_decide_eq_true h10; ?_, fun h10 => have p10 := of_decide_eq_false h10; ?_⟩
  refine ⟨(fails_i (⟨(⟨m.d.plan, m.d.mode, m.d.stack, (scanByte m.d.scan b).1, m.d.at_ - 1, m.d.at_, m.d.field, m.d.wire, m.d.want, m.d.utf, m.d.end_⟩ : Dcd), m.out⟩ : Mac) _ _ (by first | omega | (dsimp only; omega))), ?_⟩
  refine have hm1 : varM m b ((m).d.at_ - 1) = (mFail (⟨(⟨m.d.plan, m.d.mode, m.d.stack, (scanByte m.d.scan b).1, m.d.at_ - 1, m.d.at_, m.d.field, m.d.wire, m.d.want, m.d.utf, m.d.end_⟩ : Dcd), m.out⟩ : Mac) 9 m.d.at_) := ?_; ?_
  rotate_left
  exact ⟨rfl, (by rw [hm1] <;> rfl)⟩
  refine have hm1 : varM m b ((m).d.at_ - 1) = (⟨(⟨m.d.plan, m.d.mode, m.d.stack, (scanByte m.d.scan b).1, m.d.at_ - 1, m.d.at_, m.d.field, m.d.wire, m.d.want, m.d.utf, m.d.end_⟩ : Dcd), m.out⟩ : Mac) := ?_; ?_
  rotate_left
  exact ⟨rfl, (by rw [hm1] <;> rfl)⟩
  refine have hm1 : varM m b ((m).d.at_ - 1) = (⟨(⟨m.d.plan, m.d.mode, m.d.stack, (scanByte m.d.scan b).1, m.d.at_ - 1, m.d.at_, m.d.field, m.d.wire, m.d.want, m.d.utf, m.d.end_⟩ : Dcd), m.out⟩ : Mac) := ?_; ?_
  rotate_left
  exact ⟨rfl, (by rw [hm1] <;> rfl)⟩
  refine ⟨fun h8 => have p8 := of_decide_eq_true h8; ?_, fun h8 => have p8 := of_decide_eq_false h8; ?_⟩
  refine ⟨fun h9 => have p9 := of_decide_eq_true h9; ?_, fun h9 => have p9 := of_decide_eq_false h9; ?_⟩
  refine ⟨(fails_i (⟨(⟨m.d.plan, m.d.mode, m.d.stack, (scanByte m.d.scan b).1, m.d.at_ - 1, m.d.at_, m.d.field, m.d.wire, m.d.want, m.d.utf, m.d.end_⟩ : Dcd), m.out⟩ : Mac) _ _ (by first | omega | (dsimp only; omega))), ?_⟩
  refine have hm1 : varM m b ((m).d.at_ - 1) = (mFail (⟨(⟨m.d.plan, m.d.mode, m.d.stack, (scanByte m.d.scan b).1, m.d.at_ - 1, m.d.at_, m.d.field, m.d.wire, m.d.want, m.d.utf, m.d.end_⟩ : Dcd), m.out⟩ : Mac) 9 m.d.at_) := ?_; ?_
  rotate_left
  exact ⟨rfl, (by rw [hm1] <;> rfl)⟩
  refine have hm1 : varM m b ((m).d.at_ - 1) = (⟨(⟨m.d.plan, m.d.mode, m.d.stack, (scanByte m.d.scan b).1, m.d.at_ - 1, m.d.at_, m.d.field, m.d.wire, m.d.want, m.d.utf, m.d.end_⟩ : Dcd), m.out⟩ : Mac) := ?_; ?_
  rotate_left
  exact ⟨rfl, (by rw [hm1] <;> rfl)⟩
  refine have hm1 : varM m b ((m).d.at_ - 1) = (⟨(⟨m.d.plan, m.d.mode, m.d.stack, (scanByte m.d.scan b).1, m.d.at_ - 1, m.d.at_, m.d.field, m.d.wire, m.d.want, m.d.utf, m.d.end_⟩ : Dcd), m.out⟩ : Mac) := ?_; ?_
  rotate_left
  exact ⟨rfl, (by rw [hm1] <;> rfl)⟩
  refine ⟨h2, h3, h4, (long_m (⟨(⟨m.d.plan, m.d.mode, m.d.stack, (⟨0, 0⟩ : Scn), m.d.at_ - 1, m.d.at_, m.d.field, m.d.wire, m.d.want, m.d.utf, m.d.end_⟩ : Dcd), m.out⟩ : Mac) _ ((by first | (exact hp1.lv) | (exact levelsOk_same hp1.lv rfl rfl))) (by first | omega | (dsimp only; omega)) (by omega) (hp1.kn)), ?_⟩
  refine have hm1 : varM m b ((m).d.at_ - 1) = (longM (⟨(⟨m.d.plan, m.d.mode, m.d.stack, (⟨0, 0⟩ : Scn), m.d.at_ - 1, m.d.at_, m.d.field, m.d.wire, m.d.want, m.d.utf, m.d.end_⟩ : Dcd), m.out⟩ : Mac) (scanByte m.d.scan b).1.bits) := ?_; ?_
  rotate_left
  exact ⟨rfl, (by rw [hm1] <;> rfl)⟩
  refine ⟨(scanByte_i m.d.scan _ (by omega)), fun h5 => have p5 := of_decide_eq_true h5; ?_, fun h5 => have p5 := of_decide_eq_false h5; ?_⟩
  refine ⟨(fails_i m _ _ (by omega)), ?_⟩
  refine have hm1 : varM m b ((m).d.at_ - 1) = (mFail m 1 (m.d.at_ - 1)) := ?_; ?_
  rotate_left
  exact ⟨rfl, (by rw [hm1] <;> rfl)⟩
  refine ⟨fun h6 => have p6 := of_decide_eq_true h6; ?_, fun h6 => have p6 := of_decide_eq_false h6; ?_⟩
  refine ⟨fun h7 => have q7 := bnot_t h7; have p7 := of_decide_eq_false q7; ?_, fun h7 => have q7 := bnot_f h7; have p7 := of_decide_eq_true q7; ?_⟩
  refine ⟨(topL_i (⟨m.d.plan, m.d.mode, m.d.stack, (scanByte m.d.scan b).1, m.d.start, m.d.at_, m.d.field, m.d.wire, m.d.want, m.d.utf, m.d.end_⟩ : Dcd) (by first | omega | (dsimp only; omega))), fun h8 => have p8 := of_decide_eq_true h8; ?_, fun h8 => have p8 := of_decide_eq_false h8; ?_⟩
  refine ⟨(fails_i (⟨(⟨m.d.plan, m.d.mode, m.d.stack, (scanByte m.d.scan b).1, m.d.start, m.d.at_, m.d.field, m.d.wire, m.d.want, m.d.utf, m.d.end_⟩ : Dcd), m.out⟩ : Mac) _ _ (by first | omega | (dsimp only; omega))), ?_⟩
  refine have hm1 : varM m b ((m).d.at_ - 1) = (mFail (⟨(⟨m.d.plan, m.d.mode, m.d.stack, (scanByte m.d.scan b).1, m.d.start, m.d.at_, m.d.field, m.d.wire, m.d.want, m.d.utf, m.d.end_⟩ : Dcd), m.out⟩ : Mac) 9 m.d.at_) := ?_; ?_
  rotate_left
  exact ⟨rfl, (by rw [hm1] <;> rfl)⟩
  refine ⟨fun h9 => have p9 := of_decide_eq_true h9; ?_, fun h9 => have p9 := of_decide_eq_false h9; ?_⟩
  refine ⟨fun h10 => have p10 := of_decide_eq_true h10; ?_, fun h10 => have p10 := of_decide_eq_false h10; ?_⟩
  refine ⟨(fails_i (⟨(⟨m.d.plan, m.d.mode, m.d.stack, (scanByte m.d.scan b).1, m.d.start, m.d.at_, m.d.field, m.d.wire, m.d.want, m.d.utf, m.d.end_⟩ : Dcd), m.out⟩ : Mac) _ _ (by first | omega | (dsimp only; omega))), ?_⟩
  refine have hm1 : varM m b ((m).d.at_ - 1) = (mFail (⟨(⟨m.d.plan, m.d.mode, m.d.stack, (scanByte m.d.scan b).1, m.d.start, m.d.at_, m.d.field, m.d.wire, m.d.want, m.d.utf, m.d.end_⟩ : Dcd), m.out⟩ : Mac) 9 m.d.at_) := ?_; ?_
  rotate_left
  exact ⟨rfl, (by rw [hm1] <;> rfl)⟩
  refine have hm1 : varM m b ((m).d.at_ - 1) = (⟨(⟨m.d.plan, m.d.mode, m.d.stack, (scanByte m.d.scan b).1, m.d.start, m.d.at_, m.d.field, m.d.wire, m.d.want, m.d.utf, m.d.end_⟩ : Dcd), m.out⟩ : Mac) := ?_; ?_
  rotate_left
  exact ⟨rfl, (by rw [hm1] <;> rfl)⟩
  refine have hm1 : varM m b ((m).d.at_ - 1) = (⟨(⟨m.d.plan, m.d.mode, m.d.stack, (scanByte m.d.scan b).1, m.d.start, m.d.at_, m.d.field, m.d.wire, m.d.want, m.d.utf, m.d.end_⟩ : Dcd), m.out⟩ : Mac) := ?_; ?_
  rotate_left
  exact ⟨rfl, (by rw [hm1] <;> rfl)⟩
  refine ⟨fun h8 => have p8 := of_decide_eq_true h8; ?_, fun h8 => have p8 := of_decide_eq_false h8; ?_⟩
  refine ⟨fun h9 => have p9 := of_decide_eq_true h9; ?_, fun h9 => have p9 := of_decide_eq_false h9; ?_⟩
  refine ⟨(fails_i (⟨(⟨m.d.plan, m.d.mode, m.d.stack, (scanByte m.d.scan b).1, m.d.start, m.d.at_, m.d.field, m.d.wire, m.d.want, m.d.utf, m.d.end_⟩ : Dcd), m.out⟩ : Mac) _ _ (by first | omega | (dsimp only; omega))), ?_⟩
  refine have hm1 : varM m b ((m).d.at_ - 1) = (mFail (⟨(⟨m.d.plan, m.d.mode, m.d.stack, (scanByte m.d.scan b).1, m.d.start, m.d.at_, m.d.field, m.d.wire, m.d.want, m.d.utf, m.d.end_⟩ : Dcd), m.out⟩ : Mac) 9 m.d.at_) := ?_; ?_
  rotate_left
  exact ⟨rfl, (by rw [hm1] <;> rfl)⟩
  refine have hm1 : varM m b ((m).d.at_ - 1) = (⟨(⟨m.d.plan, m.d.mode, m.d.stack, (scanByte m.d.scan b).1, m.d.start, m.d.at_, m.d.field, m.d.wire, m.d.want, m.d.utf, m.d.end_⟩ : Dcd), m.out⟩ : Mac) := ?_; ?_
  rotate_left
  exact ⟨rfl, (by rw [hm1] <;> rfl)⟩
  refine have hm1 : varM m b ((m).d.at_ - 1) = (⟨(⟨m.d.plan, m.d.mode, m.d.stack, (scanByte m.d.scan b).1, m.d.start, m.d.at_, m.d.field, m.d.wire, m.d.want, m.d.utf, m.d.end_⟩ : Dcd), m.out⟩ : Mac) := ?_; ?_
  rotate_left
  exact ⟨rfl, (by rw [hm1] <;> rfl)⟩
  refine ⟨h2, h3, h4, (value_m (⟨(⟨m.d.plan, m.d.mode, m.d.stack, (⟨0, 0⟩ : Scn), m.d.start, m.d.at_, m.d.field, m.d.wire, m.d.want, m.d.utf, m.d.end_⟩ : Dcd), m.out⟩ : Mac) _ (by first | omega | (dsimp only; omega)) (by omega)), (settle_i (valueM (⟨(⟨m.d.plan, m.d.mode, m.d.stack, (⟨0, 0⟩ : Scn), m.d.start, m.d.at_, m.d.field, m.d.wire, m.d.want, m.d.utf, m.d.end_⟩ : Dcd), m.out⟩ : Mac) (scanByte m.d.scan b).1.bits) ((by first | (exact hp1.lv) | (exact levelsOk_same hp1.lv rfl rfl))) (Nat.le_trans (valueM_len _ _) (by first | omega | (dsimp only; omega)))), ?_⟩
  refine have hm1 : varM m b ((m).d.at_ - 1) = (settleM (valueM (⟨(⟨m.d.plan, m.d.mode, m.d.stack, (⟨0, 0⟩ : Scn), m.d.start, m.d.at_, m.d.field, m.d.wire, m.d.want, m.d.utf, m.d.end_⟩ : Dcd), m.out⟩ : Mac) (scanByte m.d.scan b).1.bits)) := ?_; ?_
  rotate_left
  exact ⟨rfl, (by rw [hm1] <;> rfl)⟩
  refine ⟨(scanByte_i m.d.scan _ (by omega)), fun h2 => have p2 := of_decide_eq_true h2; ?_, fun h2 => have p2 := of_decide_eq_false h2; ?_⟩
  refine ⟨(fails_i m _ _ (by omega)), ?_⟩
  refine have hm1 : varM m b ((m).d.at_ - 1) = (mFail m 1 (m.d.at_ - 1)) := ?_; ?_
  rotate_left
  exact ⟨rfl, (by rw [hm1] <;> rfl)⟩
  refine ⟨fun h3 => have p3 := of_decide_eq_true h3; ?_, fun h3 => have p3 := of_decide_eq_false h3; ?_⟩
  refine ⟨fun h4 => have q4 := bnot_t h4; have p4 := of_decide_eq_false q4; ?_, fun h4 => have q4 := bnot_f h4; have p4 := of_decide_eq_true q4; ?_⟩
  refine ⟨(topL_i (⟨m.d.plan, m.d.mode, m.d.stack, (scanByte m.d.scan b).1, m.d.start, m.d.at_, m.d.field, m.d.wire, m.d.want, m.d.utf, m.d.end_⟩ : Dcd) (by first | omega | (dsimp only; omega))), fun h5 => have p5 := of_decide_eq_true h5; ?_, fun h5 => have p5 := of_decide_eq_false h5; ?_⟩
  refine ⟨(fails_i (⟨(⟨m.d.plan, m.d.mode, m.d.stack, (scanByte m.d.scan b).1, m.d.start, m.d.at_, m.d.field, m.d.wire, m.d.want, m.d.utf, m.d.end_⟩ : Dcd), m.out⟩ : Mac) _ _ (by first | omega | (dsimp only; omega))), ?_⟩
  refine have hm1 : varM m b ((m).d.at_ - 1) = (mFail (⟨(⟨m.d.plan, m.d.mode, m.d.stack, (scanByte m.d.scan b).1, m.d.start, m.d.at_, m.d.field, m.d.wire, m.d.want, m.d.utf, m.d.end_⟩ : Dcd), m.out⟩ : Mac) 9 m.d.at_) := ?_; ?_
  rotate_left
  exact ⟨rfl, (by rw [hm1] <;> rfl)⟩
  refine ⟨fun h6 => have p6 := of_decide_eq_true h6; ?_, fun h6 => have p6 := of_decide_eq_false h6; ?_⟩
  refine ⟨fun h7 => have p7 := of_decide_eq_true h7; ?_, fun h7 => have p7 := of_decide_eq_false h7; ?_⟩
  refine ⟨(fails_i (⟨(⟨m.d.plan, m.d.mode, m.d.stack, (scanByte m.d.scan b).1, m.d.start, m.d.at_, m.d.field, m.d.wire, m.d.want, m.d.utf, m.d.end_⟩ : Dcd), m.out⟩ : Mac) _ _ (by first | omega | (dsimp only; omega))), ?_⟩
  refine have hm1 : varM m b ((m).d.at_ - 1) = (mFail (⟨(⟨m.d.plan, m.d.mode, m.d.stack, (scanByte m.d.scan b).1, m.d.start, m.d.at_, m.d.field, m.d.wire, m.d.want, m.d.utf, m.d.end_⟩ : Dcd), m.out⟩ : Mac) 9 m.d.at_) := ?_; ?_
  rotate_left
  exact ⟨rfl, (by rw [hm1] <;> rfl)⟩
  refine have hm1 : varM m b ((m).d.at_ - 1) = (⟨(⟨m.d.plan, m.d.mode, m.d.stack, (scanByte m.d.scan b).1, m.d.start, m.d.at_, m.d.field, m.d.wire, m.d.want, m.d.utf, m.d.end_⟩ : Dcd), m.out⟩ : Mac) := ?_; ?_
  rotate_left
  exact ⟨rfl, (by rw [hm1] <;> rfl)⟩
  refine have hm1 : varM m b ((m).d.at_ - 1) = (⟨(⟨m.d.plan, m.d.mode, m.d.stack, (scanByte m.d.scan b).1, m.d.start, m.d.at_, m.d.field, m.d.wire, m.d.want, m.d.utf, m.d.end_⟩ : Dcd), m.out⟩ : Mac) := ?_; ?_
  rotate_left
  exact ⟨rfl, (by rw [hm1] <;> rfl)⟩
  refine ⟨fun h5 => have p5 := of_decide_eq_true h5; ?_, fun h5 => have p5 := of_decide_eq_false h5; ?_⟩
  refine ⟨fun h6 => have p6 := of_decide_eq_true h6; ?_, fun h6 => have p6 := of_decide_eq_false h6; ?_⟩
  refine ⟨(fails_i (⟨(⟨m.d.plan, m.d.mode, m.d.stack, (scanByte m.d.scan b).1, m.d.start, m.d.at_, m.d.field, m.d.wire, m.d.want, m.d.utf, m.d.end_⟩ : Dcd), m.out⟩ : Mac) _ _ (by first | omega | (dsimp only; omega))), ?_⟩
  refine have hm1 : varM m b ((m).d.at_ - 1) = (mFail (⟨(⟨m.d.plan, m.d.mode, m.d.stack, (scanByte m.d.scan b).1, m.d.start, m.d.at_, m.d.field, m.d.wire, m.d.want, m.d.utf, m.d.end_⟩ : Dcd), m.out⟩ : Mac) 9 m.d.at_) := ?_; ?_
  rotate_left
  exact ⟨rfl, (by rw [hm1] <;> rfl)⟩
  refine have hm1 : varM m b ((m).d.at_ - 1) = (⟨(⟨m.d.plan, m.d.mode, m.d.stack, (scanByte m.d.scan b).1, m.d.start, m.d.at_, m.d.field, m.d.wire, m.d.want, m.d.utf, m.d.end_⟩ : Dcd), m.out⟩ : Mac) := ?_; ?_
  rotate_left
  exact ⟨rfl, (by rw [hm1] <;> rfl)⟩
  refine have hm1 : varM m b ((m).d.at_ - 1) = (⟨(⟨m.d.plan, m.d.mode, m.d.stack, (scanByte m.d.scan b).1, m.d.start, m.d.at_, m.d.field, m.d.wire, m.d.want, m.d.utf, m.d.end_⟩ : Dcd), m.out⟩ : Mac) := ?_; ?_
  rotate_left
  exact ⟨rfl, (by rw [hm1] <;> rfl)⟩
  refine ⟨fun h4 => have p4 := of_decide_eq_true h4; ?_, fun h4 => have p4 := of_decide_eq_false h4; ?_⟩
  refine ⟨(frame_i (⟨(⟨m.d.plan, m.d.mode, m.d.stack, (⟨0, 0⟩ : Scn), m.d.start, m.d.at_, m.d.field, m.d.wire, m.d.want, m.d.utf, m.d.end_⟩ : Dcd), m.out⟩ : Mac) _ ((by first | (exact hp1.lv) | (exact levelsOk_same hp1.lv rfl rfl))) (by first | omega | (dsimp only; omega)) (by omega)), ?_⟩
  refine have hm1 : varM m b ((m).d.at_ - 1) = (frameM (⟨(⟨m.d.plan, m.d.mode, m.d.stack, (⟨0, 0⟩ : Scn), m.d.start, m.d.at_, m.d.field, m.d.wire, m.d.want, m.d.utf, m.d.end_⟩ : Dcd), m.out⟩ : Mac) (scanByte m.d.scan b).1.bits) := ?_; ?_
  rotate_left
  exact ⟨rfl, (by rw [hm1] <;> rfl)⟩
  refine ⟨fun h5 => have p5 := of_decide_eq_true h5; ?_, fun h5 => have p5 := of_decide_eq_false h5; ?_⟩
  refine ⟨(tag_i (⟨(⟨m.d.plan, m.d.mode, m.d.stack, (⟨0, 0⟩ : Scn), m.d.start, m.d.at_, m.d.field, m.d.wire, m.d.want, m.d.utf, m.d.end_⟩ : Dcd), m.out⟩ : Mac) _ ((by first | (exact hp1.lv) | (exact levelsOk_same hp1.lv rfl rfl))) (by first | omega | (dsimp only; omega)) (by omega)), ?_⟩
  refine have hm1 : varM m b ((m).d.at_ - 1) = (tagM (⟨(⟨m.d.plan, m.d.mode, m.d.stack, (⟨0, 0⟩ : Scn), m.d.start, m.d.at_, m.d.field, m.d.wire, m.d.want, m.d.utf, m.d.end_⟩ : Dcd), m.out⟩ : Mac) (scanByte m.d.scan b).1.bits) := ?_; ?_
  rotate_left
  exact ⟨rfl, (by rw [hm1] <;> rfl)⟩
  refine ⟨fun h6 => have p6 := of_decide_eq_true h6; ?_, fun h6 => have p6 := of_decide_eq_false h6; ?_⟩
  refine ⟨(long_m (⟨(⟨m.d.plan, m.d.mode, m.d.stack, (⟨0, 0⟩ : Scn), m.d.start, m.d.at_, m.d.field, m.d.wire, m.d.want, m.d.utf, m.d.end_⟩ : Dcd), m.out⟩ : Mac) _ ((by first | (exact hp1.lv) | (exact levelsOk_same hp1.lv rfl rfl))) (by first | omega | (dsimp only; omega)) (by omega) (hp1.kn)), ?_⟩
  refine have hm1 : varM m b ((m).d.at_ - 1) = (longM (⟨(⟨m.d.plan, m.d.mode, m.d.stack, (⟨0, 0⟩ : Scn), m.d.start, m.d.at_, m.d.field, m.d.wire, m.d.want, m.d.utf, m.d.end_⟩ : Dcd), m.out⟩ : Mac) (scanByte m.d.scan b).1.bits) := ?_; ?_
  rotate_left
  exact ⟨rfl, (by rw [hm1] <;> rfl)⟩
  refine ⟨(value_m (⟨(⟨m.d.plan, m.d.mode, m.d.stack, (⟨0, 0⟩ : Scn), m.d.start, m.d.at_, m.d.field, m.d.wire, m.d.want, m.d.utf, m.d.end_⟩ : Dcd), m.out⟩ : Mac) _ (by first | omega | (dsimp only; omega)) (by omega)), (settle_i (valueM (⟨(⟨m.d.plan, m.d.mode, m.d.stack, (⟨0, 0⟩ : Scn), m.d.start, m.d.at_, m.d.field, m.d.wire, m.d.want, m.d.utf, m.d.end_⟩ : Dcd), m.out⟩ : Mac) (scanByte m.d.scan b).1.bits) ((by first | (exact hp1.lv) | (exact levelsOk_same hp1.lv rfl rfl))) (Nat.le_trans (valueM_len _ _) (by first | omega | (dsimp only; omega)))), ?_⟩
  refine have hm1 : varM m b ((m).d.at_ - 1) = (settleM (valueM (⟨(⟨m.d.plan, m.d.mode, m.d.stack, (⟨0, 0⟩ : Scn), m.d.start, m.d.at_, m.d.field, m.d.wire, m.d.want, m.d.utf, m.d.end_⟩ : Dcd), m.out⟩ : Mac) (scanByte m.d.scan b).1.bits)) := ?_; ?_
  rotate_left
  exact ⟨rfl, (by rw [hm1] <;> rfl)⟩
  all_goals first | (simp_all [varM, startM, dScan, moreM, mFail, dFail, scn0]; done) | (grind [varM, startM, dScan, moreM, mFail, dFail, scn0])
theorem fixByte_m (m : Mac) (b : Int) (hp1 : MW (m).d) (hp2 : List.length (m).out ≤ 50000000) (hp3 : (0 : Int) ≤ b ∧ b ≤ 255) : Fun Tryz.prog 155 [vP 0, vI b] [.cells (oMac0_5_27 1 2 3 m), .tree m.d.plan.shapes, .lst .lev m.d.stack, .lst .ev m.out] (.tup []) [.cells (oMac0_5_27 4 5 6 (fixM m b)), .dead, .dead, .dead, .tree (fixM m b).d.plan.shapes, .lst .lev (fixM m b).d.stack, .lst .ev (fixM m b).out] := by
  have hN : bigN = 274877906944 := rfl
  have hlv := levelsOk_b hp1.lv
  have hpt := planOk_t hlv.1
  have htb := topL_b hp1.lv
  have hwm := wM_b m
  have hbb := hp1.b0
  have hat := hp1.at_
  have hwt := hp1.want
  have hwd := widthD_b m.d
  have hfb := fixByte_b (b := b) hbb
  refine fun_ofw Tryz.func155 (by kernel_rfl) (by kernel_rfl) (w := let z3 : List Blk := [.cells (oMac0_5_27 4 5 6 (fixM m b)), .dead, .dead, .dead, .tree (fixM m b).d.plan.shapes, .lst .lev (fixM m b).d.stack, .lst .ev (fixM m b).out]; let z6 := fixByte m.d.scan b; let z1 := valueM (⟨(⟨m.d.plan, m.d.mode, m.d.stack, (⟨0, 0⟩ : Scn), m.d.start, m.d.at_, m.d.field, m.d.wire, m.d.want, m.d.utf, m.d.end_⟩ : Dcd), m.out⟩ : Mac) z6.bits; let z2 : List Blk := [.cells (oMac0_5_27 4 5 6 (settleM z1)), .dead, .dead, .dead, .tree (settleM z1).d.plan.shapes, .lst .lev (settleM z1).d.stack, .lst .ev (settleM z1).out]; let z4 : List Blk := [.cells (oMac0_5_27 1 2 3 z1), .tree z1.d.plan.shapes, .lst .lev z1.d.stack, .lst .ev z1.out]; let z5 := mFail z1 9 z1.d.at_; let z7 : List Blk := [.cells (oMac0_5_27 1 2 4 z1), .tree z1.d.plan.shapes, .lst .lev z1.d.stack, .dead, .lst .ev z1.out]; let z8 : List Blk := [.cells (oMac0_5_27 1 2 4 z5), .tree z5.d.plan.shapes, .lst .lev z5.d.stack, .dead, .lst .ev z5.out]; let z9 := (.tup [] : S); let z10 := decide (z1.d.want < widthD m.d); let z11 := decide (z6.have_ < widthD m.d); (.seg [.ord [(0, true), (1, true), (2, true), (3, true), (5, true), (6, true), (7, true), (8, true), (9, true), (10, true), (4, false), (11, true), (12, true)] [], .call [] (.v (vI (widthD m.d))) [], .call [] (.v (.agg (cScn z6))) []] (.br (.seg [.at 0, .cut 0 0, .cut 0 5, .cut 0 27] (.leaf () [0, 1, 2, 3, 4, 5, 6])) (.seg [.call [0, 1, 2, 3] (.tup []) z7] (.br (.br (.br (.seg [.call [0, 1, 2, 4] (.tup []) z8, .at 0, .cut 0 0, .cut 0 5] (.leaf () [0, 1, 2, 3, 6, 7, 5])) (.seg [.call [0, 1, 2, 4] (.tup []) z2] (.leaf () [0, 1, 2, 3, 5, 6, 7]))) (.seg [.call [0, 1, 2, 4] (.tup []) z2] (.leaf () [0, 1, 2, 3, 5, 6, 7]))) (.seg [.call [0, 1, 2, 4] (.tup []) z2] (.leaf () [0, 1, 2, 3, 5, 6, 7]))))), (Fun Tryz.prog 154 [.agg (cDcd m.d)] [] (.v (vI (widthD m.d))) []) ∧ (Fun Tryz.prog 193 [.agg (cScn m.d.scan), vI b] [] (.v (.agg (cScn z6))) []) ∧ (z11 = true → z9 = .tup [] ∧ ([.cells [.own 4, .int .i64 m.d.plan.root, .int .i64 m.d.plan.deep, .int .i64 m.d.plan.most, .int .i64 m.d.mode, .own 5, .int .u64 z6.bits, .int .i64 z6.have_, .int .i64 m.d.start, .int .i64 m.d.at_, .int .i64 m.d.field.number, .int .i64 m.d.field.kind, .bool m.d.field.rep, .bool m.d.field.packed, .int .i64 m.d.field.msg, .int .i64 m.d.wire, .int .i64 m.d.want, .int .i64 m.d.utf.want, .int .i64 m.d.utf.low, .int .i64 m.d.utf.high, .int .i64 m.d.end_.kind, .int .i64 m.d.end_.field, .int .u64 m.d.end_.bits, .int .i64 m.d.end_.len, .str m.d.end_.text, .int .i64 m.d.end_.code, .int .i64 m.d.end_.at_, .own 6], .dead, .dead, .dead, .tree m.d.plan.shapes, .lst .lev m.d.stack, .lst .ev m.out] : List Blk) = z3) ∧ (z11 = false → (Fun Tryz.prog 194 [vP 0, .c (.int .u64 z6.bits)] [.cells [.own 1, .int .i64 m.d.plan.root, .int .i64 m.d.plan.deep, .int .i64 m.d.plan.most, .int .i64 m.d.mode, .own 2, .int .u64 0, .int .i64 0, .int .i64 m.d.start, .int .i64 m.d.at_, .int .i64 m.d.field.number, .int .i64 m.d.field.kind, .bool m.d.field.rep, .bool m.d.field.packed, .int .i64 m.d.field.msg, .int .i64 m.d.wire, .int .i64 m.d.want, .int .i64 m.d.utf.want, .int .i64 m.d.utf.low, .int .i64 m.d.utf.high, .int .i64 m.d.end_.kind, .int .i64 m.d.end_.field, .int .u64 m.d.end_.bits, .int .i64 m.d.end_.len, .str m.d.end_.text, .int .i64 m.d.end_.code, .int .i64 m.d.end_.at_, .own 3], .tree m.d.plan.shapes, .lst .lev m.d.stack, .lst .ev m.out] (.tup []) z7) ∧ ((decide (m.d.mode = 8)) = true → ((decide (0 < z1.d.want)) = true → (z10 = true → (Fun Tryz.prog 118 [vP 0, vI 9, vI z1.d.at_] z4 (.tup []) z8) ∧ z9 = .tup [] ∧ ([.cells (oMac0_5_27 4 5 6 z5), .dead, .dead, .dead, .tree z5.d.plan.shapes, .lst .lev z5.d.stack, .lst .ev z5.out] : List Blk) = z3) ∧ (z10 = false → (Fun Tryz.prog 153 [vP 0] z4 (.tup []) z2) ∧ z9 = .tup [] ∧ (z2 : List Blk) = z3)) ∧ ((decide (0 < z1.d.want)) = false → (Fun Tryz.prog 153 [vP 0] z4 (.tup []) z2) ∧ z9 = .tup [] ∧ (z2 : List Blk) = z3)) ∧ ((decide (m.d.mode = 8)) = false → (Fun Tryz.prog 153 [vP 0] z4 (.tup []) z2) ∧ z9 = .tup [] ∧ (z2 : List Blk) = z3)))) (by kernel_rfl) ?_
  refine ⟨(widthD_i m.d), (fixByte_i m.d.scan _), fun h1 => have p1 := of_decide_eq_true h1; ?_, fun h1 => have p1 := of_decide_eq_false h1; ?_⟩
  refine have hm1 : fixM m b = (⟨(⟨m.d.plan, m.d.mode, m.d.stack, (fixByte m.d.scan b), m.d.start, m.d.at_, m.d.field, m.d.wire, m.d.want, m.d.utf, m.d.end_⟩ : Dcd), m.out⟩ : Mac) := ?_; ?_
  rotate_left
  exact ⟨rfl, (by rw [hm1] <;> rfl)⟩
  refine ⟨(value_m (⟨(⟨m.d.plan, m.d.mode, m.d.stack, (⟨0, 0⟩ : Scn), m.d.start, m.d.at_, m.d.field, m.d.wire, m.d.want, m.d.utf, m.d.end_⟩ : Dcd), m.out⟩ : Mac) _ (by first | omega | (dsimp only; omega)) (by omega)), fun h2 => have p2 := of_decide_eq_true h2; ?_, fun h2 => have p2 := of_decide_eq_false h2; ?_⟩
  refine ⟨fun h3 => have p3 := of_decide_eq_true h3; ?_, fun h3 => have p3 := of_decide_eq_false h3; ?_⟩
  refine ⟨fun h4 => have p4 := of_decide_eq_true h4; ?_, fun h4 => have p4 := of_decide_eq_false h4; ?_⟩
  refine ⟨(fails_i (valueM (⟨(⟨m.d.plan, m.d.mode, m.d.stack, (⟨0, 0⟩ : Scn), m.d.start, m.d.at_, m.d.field, m.d.wire, m.d.want, m.d.utf, m.d.end_⟩ : Dcd), m.out⟩ : Mac) (fixByte m.d.scan b).bits) _ _ (Nat.le_trans (valueM_len _ _) (by first | omega | (dsimp only; omega)))), ?_⟩
  refine have hm1 : fixM m b = (mFail (valueM (⟨(⟨m.d.plan, m.d.mode, m.d.stack, (⟨0, 0⟩ : Scn), m.d.start, m.d.at_, m.d.field, m.d.wire, m.d.want, m.d.utf, m.d.end_⟩ : Dcd), m.out⟩ : Mac) (fixByte m.d.scan b).bits) 9 (valueM (⟨(⟨m.d.plan, m.d.mode, m.d.stack, (⟨0, 0⟩ : Scn), m.d.start, m.d.at_, m.d.field, m.d.wire, m.d.want, m.d.utf, m.d.end_⟩ : Dcd), m.out⟩ : Mac) (fixByte m.d.scan b).bits).d.at_) := ?_; ?_
  rotate_left
  exact ⟨rfl, (by rw [hm1] <;> rfl)⟩
  refine ⟨(settle_i (valueM (⟨(⟨m.d.plan, m.d.mode, m.d.stack, (⟨0, 0⟩ : Scn), m.d.start, m.d.at_, m.d.field, m.d.wire, m.d.want, m.d.utf, m.d.end_⟩ : Dcd), m.out⟩ : Mac) (fixByte m.d.scan b).bits) ((by first | (exact hp1.lv) | (exact levelsOk_same hp1.lv rfl rfl))) (Nat.le_trans (valueM_len _ _) (by first | omega | (dsimp only; omega)))), ?_⟩
  refine have hm1 : fixM m b = (settleM (valueM (⟨(⟨m.d.plan, m.d.mode, m.d.stack, (⟨0, 0⟩ : Scn), m.d.start, m.d.at_, m.d.field, m.d.wire, m.d.want, m.d.utf, m.d.end_⟩ : Dcd), m.out⟩ : Mac) (fixByte m.d.scan b).bits)) := ?_; ?_
  rotate_left
  exact ⟨rfl, (by rw [hm1] <;> rfl)⟩
  refine ⟨(settle_i (valueM (⟨(⟨m.d.plan, m.d.mode, m.d.stack, (⟨0, 0⟩ : Scn), m.d.start, m.d.at_, m.d.field, m.d.wire, m.d.want, m.d.utf, m.d.end_⟩ : Dcd), m.out⟩ : Mac) (fixByte m.d.scan b).bits) ((by first | (exact hp1.lv) | (exact levelsOk_same hp1.lv rfl rfl))) (Nat.le_trans (valueM_len _ _) (by first | omega | (dsimp only; omega)))), ?_⟩
  refine have hm1 : fixM m b = (settleM (valueM (⟨(⟨m.d.plan, m.d.mode, m.d.stack, (⟨0, 0⟩ : Scn), m.d.start, m.d.at_, m.d.field, m.d.wire, m.d.want, m.d.utf, m.d.end_⟩ : Dcd), m.out⟩ : Mac) (fixByte m.d.scan b).bits)) := ?_; ?_
  rotate_left
  exact ⟨rfl, (by rw [hm1] <;> rfl)⟩
  refine ⟨(settle_i (valueM (⟨(⟨m.d.plan, m.d.mode, m.d.stack, (⟨0, 0⟩ : Scn), m.d.start, m.d.at_, m.d.field, m.d.wire, m.d.want, m.d.utf, m.d.end_⟩ : Dcd), m.out⟩ : Mac) (fixByte m.d.scan b).bits) ((by first | (exact hp1.lv) | (exact levelsOk_same hp1.lv rfl rfl))) (Nat.le_trans (valueM_len _ _) (by first | omega | (dsimp only; omega)))), ?_⟩
  refine have hm1 : fixM m b = (settleM (valueM (⟨(⟨m.d.plan, m.d.mode, m.d.stack, (⟨0, 0⟩ : Scn), m.d.start, m.d.at_, m.d.field, m.d.wire, m.d.want, m.d.utf, m.d.end_⟩ : Dcd), m.out⟩ : Mac) (fixByte m.d.scan b).bits)) := ?_; ?_
  rotate_left
  exact ⟨rfl, (by rw [hm1] <;> rfl)⟩
  all_goals first | (simp_all [fixM, dScan, mFail, dFail, scn0, valueM_at, valueM_want]; done) | (grind [fixM, dScan, mFail, dFail, scn0, valueM_at, valueM_want])
theorem textByte_i (m : Mac) (b : Int) (hp1 : MW (m).d) (hp2 : List.length (m).out ≤ 50000000) (hp3 : (0 : Int) ≤ b ∧ b ≤ 255) : Fun Tryz.prog 152 [vP 0, vI b] [.cells (oMac0_5_27 1 2 3 m), .tree m.d.plan.shapes, .lst .lev m.d.stack, .lst .ev m.out] (.tup []) [.cells (oMac0_5_27 4 5 6 (textB m b)), .dead, .dead, .dead, .tree (textB m b).d.plan.shapes, .lst .lev (textB m b).d.stack, .lst .ev (textB m b).out] := by
  have hN : bigN = 274877906944 := rfl
  have hlv := levelsOk_b hp1.lv
  have hpt := planOk_t hlv.1
  have htb := topL_b hp1.lv
  have hwm := wM_b m
  have hbb := hp1.b0
  have hat := hp1.at_
  have hwt := hp1.want
  have hwd := widthD_b m.d
  refine fun_ofw Tryz.func152 (by kernel_rfl) (by kernel_rfl) (w := let z5 : List Blk := [.cells (oMac0_5_27 4 5 6 (textB m b)), .dead, .dead, .dead, .tree (textB m b).d.plan.shapes, .lst .lev (textB m b).d.stack, .lst .ev (textB m b).out]; let z6 := (⟨4, 0, 0, 0, List.map toByte [b], 0, 0⟩ : Ev); let z2 := settleM (⟨(m).d, (m).out ++ [z6]⟩ : Mac); let z9 : List Blk := [.cells (oMac0_5_27 4 5 6 z2), .dead, .dead, .dead, .tree z2.d.plan.shapes, .lst .lev z2.d.stack, .lst .ev z2.out]; let z10 : List V := [vP 0, .agg [.int .i64 4, .int .i64 0, .int .u64 0, .int .i64 0, .str (List.map toByte [b]), .int .i64 0, .int .i64 0]]; let z11 : List Blk := [.cells (oMac0_5_27 1 2 4 m), .tree (m).d.plan.shapes, .lst .lev (m).d.stack, .dead, .lst .ev ((m).out ++ [z6])]; let z13 : List Blk := [.cells (oMac0_5_27 1 2 3 m), .tree m.d.plan.shapes, .lst .lev m.d.stack, .lst .ev m.out]; let z14 := (.v (.c (.int .u8 (IntKind.u8.wrap (b)))) : S) = .v (.c (.int .u8 b)); let z15 := utfByte m.d.utf b; let z4 := z15.getD m.d.utf; let z1 := settleM (⟨(⟨m.d.plan, m.d.mode, m.d.stack, m.d.scan, m.d.start, m.d.at_, m.d.field, m.d.wire, m.d.want, z4, m.d.end_⟩ : Dcd), m.out ++ [z6]⟩ : Mac); let z3 : List Blk := [.cells [.own 1, .int .i64 m.d.plan.root, .int .i64 m.d.plan.deep, .int .i64 m.d.plan.most, .int .i64 m.d.mode, .own 2, .int .u64 m.d.scan.bits, .int .i64 m.d.scan.have_, .int .i64 m.d.start, .int .i64 m.d.at_, .int .i64 m.d.field.number, .int .i64 m.d.field.kind, .bool m.d.field.rep, .bool m.d.field.packed, .int .i64 m.d.field.msg, .int .i64 m.d.wire, .int .i64 m.d.want, .int .i64 z4.want, .int .i64 z4.low, .int .i64 z4.high, .int .i64 m.d.end_.kind, .int .i64 m.d.end_.field, .int .u64 m.d.end_.bits, .int .i64 m.d.end_.len, .str m.d.end_.text, .int .i64 m.d.end_.code, .int .i64 m.d.end_.at_, .own 4], .tree m.d.plan.shapes, .lst .lev m.d.stack, .dead, .lst .ev (m.out ++ [z6])]; let z8 : List Blk := [.cells (oMac0_5_27 4 5 6 z1), .dead, .dead, .dead, .tree z1.d.plan.shapes, .lst .lev z1.d.stack, .lst .ev z1.out]; let z16 := m.d.at_ - 1; let z7 := mFail m 5 z16; let z12 : List Blk := [.cells (oMac0_5_27 1 2 4 z7), .tree z7.d.plan.shapes, .lst .lev z7.d.stack, .dead, .lst .ev z7.out]; (.br (.seg [.call [] (.tup [.agg (cUtf z4), vB z15.isSome]) []] (.br (.seg [.as 31 (.v (vI z16)), .call [0, 1, 2, 3] (.tup []) z12, .at 0, .cut 0 0, .cut 0 5] (.leaf () [0, 1, 2, 3, 6, 7, 5])) (.seg [.as 40 (.v (.c (.int .u8 b))), .ty .u8, .call [0, 1, 2, 3] (.tup []) z3, .call [0, 1, 2, 6] (.tup []) z8] (.leaf () [0, 1, 2, 3, 7, 8, 9])))) (.seg [.as 40 (.v (.c (.int .u8 b))), .ty .u8, .call [0, 1, 2, 3] (.tup []) z11, .call [0, 1, 2, 5] (.tup []) z9] (.leaf () [0, 1, 2, 3, 6, 7, 8])), ((decide (m.d.field.kind = 6)) = true → (Fun Tryz.prog 190 [.agg (cUtf m.d.utf), vI b] [] (.tup [.agg (cUtf z4), vB z15.isSome]) []) ∧ ((!z15.isSome) = true → ((.v (vI (IntKind.i64.wrap z16)) : S) = .v (vI z16)) ∧ (Fun Tryz.prog 118 [vP 0, vI 5, vI z16] z13 (.tup []) z12) ∧ (.tup [] : S) = .tup [] ∧ ([.cells (oMac0_5_27 4 5 6 z7), .dead, .dead, .dead, .tree z7.d.plan.shapes, .lst .lev z7.d.stack, .lst .ev z7.out] : List Blk) = z5) ∧ ((!z15.isSome) = false → z14 ∧ (Fun Tryz.prog 117 z10 [.cells [.own 1, .int .i64 m.d.plan.root, .int .i64 m.d.plan.deep, .int .i64 m.d.plan.most, .int .i64 m.d.mode, .own 2, .int .u64 m.d.scan.bits, .int .i64 m.d.scan.have_, .int .i64 m.d.start, .int .i64 m.d.at_, .int .i64 m.d.field.number, .int .i64 m.d.field.kind, .bool m.d.field.rep, .bool m.d.field.packed, .int .i64 m.d.field.msg, .int .i64 m.d.wire, .int .i64 m.d.want, .int .i64 z4.want, .int .i64 z4.low, .int .i64 z4.high, .int .i64 m.d.end_.kind, .int .i64 m.d.end_.field, .int .u64 m.d.end_.bits, .int .i64 m.d.end_.len, .str m.d.end_.text, .int .i64 m.d.end_.code, .int .i64 m.d.end_.at_, .own 3], .tree m.d.plan.shapes, .lst .lev m.d.stack, .lst .ev m.out] (.tup []) z3) ∧ (Fun Tryz.prog 153 [vP 0] [.cells [.own 1, .int .i64 m.d.plan.root, .int .i64 m.d.plan.deep, .int .i64 m.d.plan.most, .int .i64 m.d.mode, .own 2, .int .u64 m.d.scan.bits, .int .i64 m.d.scan.have_, .int .i64 m.d.start, .int .i64 m.d.at_, .int .i64 m.d.field.number, .int .i64 m.d.field.kind, .bool m.d.field.rep, .bool m.d.field.packed, .int .i64 m.d.field.msg, .int .i64 m.d.wire, .int .i64 m.d.want, .int .i64 z4.want, .int .i64 z4.low, .int .i64 z4.high, .int .i64 m.d.end_.kind, .int .i64 m.d.end_.field, .int .u64 m.d.end_.bits, .int .i64 m.d.end_.len, .str m.d.end_.text, .int .i64 m.d.end_.code, .int .i64 m.d.end_.at_, .own 3], .tree m.d.plan.shapes, .lst .lev m.d.stack, .lst .ev (m.out ++ [z6])] (.tup []) z8) ∧ (.tup [] : S) = .tup [] ∧ (z8 : List Blk) = z5)) ∧ ((decide (m.d.field.kind = 6)) = false → z14 ∧ (Fun Tryz.prog 117 z10 z13 (.tup []) z11) ∧ (Fun Tryz.prog 153 [vP 0] [.cells (oMac0_5_27 1 2 3 m), .tree (m).d.plan.shapes, .lst .lev (m).d.stack, .lst .ev ((m).out ++ [z6])] (.tup []) z9) ∧ (.tup [] : S) = .tup [] ∧ (z9 : List Blk) = z5))) (by kernel_rfl) ?_
  refine ⟨fun h1 => have p1 := of_decide_eq_true h1; ?_, fun h1 => have p1 := of_decide_eq_false h1; ?_⟩
  refine ⟨(utfByte_i m.d.utf _), fun h2 => have q2 := bnot_t h2; ?_, fun h2 => have q2 := bnot_f h2; ?_⟩
  refine ⟨(as_i64 (by omega) (by omega)), (fails_i m _ _ (by omega)), ?_⟩
  refine have hm1 : textB m b = (mFail m 5 (m.d.at_ - 1)) := ?_; ?_
  rotate_left
  exact ⟨rfl, (by rw [hm1] <;> rfl)⟩
  refine ⟨(as_u8 (by omega) (by omega)), (emit_i (⟨(⟨m.d.plan, m.d.mode, m.d.stack, m.d.scan, m.d.start, m.d.at_, m.d.field, m.d.wire, m.d.want, ((utfByte m.d.utf b).getD m.d.utf), m.d.end_⟩ : Dcd), m.out⟩ : Mac) (⟨4, 0, 0, 0, List.map toByte [b], 0, 0⟩ : Ev) (by first | omega | (dsimp only; omega))), (settle_i (⟨(⟨m.d.plan, m.d.mode, m.d.stack, m.d.scan, m.d.start, m.d.at_, m.d.field, m.d.wire, m.d.want, ((utfByte m.d.utf b).getD m.d.utf), m.d.end_⟩ : Dcd), m.out ++ [(⟨4, 0, 0, 0, List.map toByte [b], 0, 0⟩ : Ev)]⟩ : Mac) ((by first | (exact hp1.lv) | (exact levelsOk_same hp1.lv rfl rfl))) (by simp only [List.length_append, List.length_cons, List.length_nil, List.length_set, List.length_take]; omega)), ?_⟩
  refine have hm1 : textB m b = (settleM (⟨(⟨m.d.plan, m.d.mode, m.d.stack, m.d.scan, m.d.start, m.d.at_, m.d.field, m.d.wire, m.d.want, ((utfByte m.d.utf b).getD m.d.utf), m.d.end_⟩ : Dcd), m.out ++ [(⟨4, 0, 0, 0, List.map toByte [b], 0, 0⟩ : Ev)]⟩ : Mac)) := ?_; ?_
  rotate_left
  exact ⟨rfl, (by rw [hm1] <;> rfl)⟩
  refine ⟨(as_u8 (by omega) (by omega)), (emit_i m (⟨4, 0, 0, 0, List.map toByte [b], 0, 0⟩ : Ev) (by omega)), (settle_i (⟨(m).d, (m).out ++ [(⟨4, 0, 0, 0, List.map toByte [b], 0, 0⟩ : Ev)]⟩ : Mac) ((by first | (exact hp1.lv) | (exact levelsOk_same hp1.lv rfl rfl))) (by simp only [List.length_append, List.length_cons, List.length_nil, List.length_set, List.length_take]; omega)), ?_⟩
  refine have hm1 : textB m b = (settleM (⟨(m).d, (m).out ++ [(⟨4, 0, 0, 0, List.map toByte [b], 0, 0⟩ : Ev)]⟩ : Mac)) := ?_; ?_
  rotate_left
  exact ⟨rfl, (by rw [hm1] <;> rfl)⟩
  all_goals first | (simp_all [textB, dUtf, mFail, dFail, evPrt]; done) | (grind [textB, dUtf, mFail, dFail, evPrt])
end Go.Proofs.YtecljjcmjongfaaGreat.Ax
namespace Go.Proofs.YtecljjcmjongfaaGreat.Ax
open Go.RowKit
set_option linter.unusedSimpArgs false
set_option linter.unusedVariables false
theorem byte_i (m : Mac) (b : Int) (hp1 : MW (m).d) (hp2 : List.length (m).out ≤ 50000000) (hp3 : (0 : Int) ≤ b ∧ b ≤ 255) (hp4 : ((m).d.stack.length = 0 ∨ 1 ≤ topL (m).d)) (hp5 : (m).d.at_ ≤ 1000000000) (hp6 : ((m).d.mode = 6 ∨ (m).d.mode = 7 ∨ (m).d.mode = 8) → 0 ≤ (m).d.want) : Fun Tryz.prog 88 [vP 0, vI b] [.cells (oMac0_5_27 1 2 3 m), .tree m.d.plan.shapes, .lst .lev m.d.stack, .lst .ev m.out] (.tup []) [.cells (oMac0_5_27 4 5 6 (byteM m b)), .dead, .dead, .dead, .tree (byteM m b).d.plan.shapes, .lst .lev (byteM m b).d.stack, .lst .ev (byteM m b).out] := by
  have hN : bigN = 274877906944 := rfl
  have hlv := levelsOk_b hp1.lv
  have hpt := planOk_t hlv.1
  have htb := topL_b hp1.lv
  have hwm := wM_b m
  have hbb := hp1.b0
  have hat := hp1.at_
  have hwt := hp1.want
  have hwd := widthD_b m.d
  have hms := hp1.step hp4 hp5 hp6
  refine fun_ofw Tryz.func88 (by kernel_rfl) (by kernel_rfl) (w := let z11 := (⟨m.d.plan, m.d.mode, m.d.stack, m.d.scan, m.d.start, m.d.at_ + 1, m.d.field, m.d.wire, m.d.want - 1, m.d.utf, m.d.end_⟩ : Dcd); let z12 := (⟨m.d.plan, m.d.mode, m.d.stack, m.d.scan, m.d.start, m.d.at_ + 1, m.d.field, m.d.wire, m.d.want, m.d.utf, m.d.end_⟩ : Dcd); let z14 : List Blk := [.cells (oMac0_5_27 4 5 6 (byteM m b)), .dead, .dead, .dead, .tree (byteM m b).d.plan.shapes, .lst .lev (byteM m b).d.stack, .lst .ev (byteM m b).out]; let z15 := (m.d.stack.length : Int); let z25 := decide (m.d.mode = 6); let z26 := decide (m.d.mode = 7); let z27 := decide (0 < widthD m.d); let z28 := m.d.want - 1; let z24 := (.v (vI (IntKind.i64.wrap z28)) : S) = .v (vI z28); let z29 := m.d.at_ + 1; let z13 : List Blk := [.cells [.own 1, .int .i64 m.d.plan.root, .int .i64 m.d.plan.deep, .int .i64 m.d.plan.most, .int .i64 m.d.mode, .own 2, .int .u64 m.d.scan.bits, .int .i64 m.d.scan.have_, .int .i64 m.d.start, .int .i64 z29, .int .i64 m.d.field.number, .int .i64 m.d.field.kind, .bool m.d.field.rep, .bool m.d.field.packed, .int .i64 m.d.field.msg, .int .i64 m.d.wire, .int .i64 z28, .int .i64 m.d.utf.want, .int .i64 m.d.utf.low, .int .i64 m.d.utf.high, .int .i64 m.d.end_.kind, .int .i64 m.d.end_.field, .int .u64 m.d.end_.bits, .int .i64 m.d.end_.len, .str m.d.end_.text, .int .i64 m.d.end_.code, .int .i64 m.d.end_.at_, .own 3], .tree m.d.plan.shapes, .lst .lev m.d.stack, .lst .ev m.out]; let z16 := z29 - 1; let z17 : List Blk := [.cells [.own 1, .int .i64 m.d.plan.root, .int .i64 m.d.plan.deep, .int .i64 m.d.plan.most, .int .i64 m.d.mode, .own 2, .int .u64 m.d.scan.bits, .int .i64 m.d.scan.have_, .int .i64 m.d.start, .int .i64 z29, .int .i64 m.d.field.number, .int .i64 m.d.field.kind, .bool m.d.field.rep, .bool m.d.field.packed, .int .i64 m.d.field.msg, .int .i64 m.d.wire, .int .i64 m.d.want, .int .i64 m.d.utf.want, .int .i64 m.d.utf.low, .int .i64 m.d.utf.high, .int .i64 m.d.end_.kind, .int .i64 m.d.end_.field, .int .u64 m.d.end_.bits, .int .i64 m.d.end_.len, .str m.d.end_.text, .int .i64 m.d.end_.code, .int .i64 m.d.end_.at_, .own 3], .tree m.d.plan.shapes, .lst .lev m.d.stack, .lst .ev m.out]; let z30 := (.tup [] : S); let z31 := vI (widthD m.d); let z32 := varM (⟨z11, m.out⟩ : Mac) b z16; let z18 : List Blk := [.cells (oMac0_5_27 4 5 6 z32), .dead, .dead, .dead, .tree z32.d.plan.shapes, .lst .lev z32.d.stack, .lst .ev z32.out]; let z33 := varM (⟨z12, m.out⟩ : Mac) b z16; let z19 : List Blk := [.cells (oMac0_5_27 4 5 6 z33), .dead, .dead, .dead, .tree z33.d.plan.shapes, .lst .lev z33.d.stack, .lst .ev z33.out]; let z34 := textB (⟨z11, m.out⟩ : Mac) b; let z20 : List Blk := [.cells (oMac0_5_27 4 5 6 z34), .dead, .dead, .dead, .tree z34.d.plan.shapes, .lst .lev z34.d.stack, .lst .ev z34.out]; let z35 := settleM (⟨z11, m.out⟩ : Mac); let z21 : List Blk := [.cells (oMac0_5_27 4 5 6 z35), .dead, .dead, .dead, .tree z35.d.plan.shapes, .lst .lev z35.d.stack, .lst .ev z35.out]; let z36 := fixM (⟨z11, m.out⟩ : Mac) b; let z22 : List Blk := [.cells (oMac0_5_27 4 5 6 z36), .dead, .dead, .dead, .tree z36.d.plan.shapes, .lst .lev z36.d.stack, .lst .ev z36.out]; let z37 := fixM (⟨z12, m.out⟩ : Mac) b; let z23 : List Blk := [.cells (oMac0_5_27 4 5 6 z37), .dead, .dead, .dead, .tree z37.d.plan.shapes, .lst .lev z37.d.stack, .lst .ev z37.out]; let z38 : List V := [vP 0, vI b]; let z39 := Int.toNat (z15 - 1); let z40 := (.v (vI (IntKind.i64.wrap (z15 - 1))) : S) = .v (vI (z15 - 1)); let z41 := decide (m.d.mode = 8); let z42 := (0 : Int) ≤ z15 - 1; let z43 := z25 = false; let z44 := z15 - 1 < z15; let z45 := z26 = false; (.seg [.as 9 (.v (vI z29))] (.br (.intro (fun (x1 : Lev) => m.d.stack[Int.toNat (z15 - 1)]? = some x1) fun x1 => let z1 := (⟨m.d.plan, m.d.mode, List.set m.d.stack z39 (⟨x1.msg, x1.left - 1⟩ : Lev), m.d.scan, m.d.start, m.d.at_ + 1, m.d.field, m.d.wire, m.d.want - 1, m.d.utf, m.d.end_⟩ : Dcd); let z2 := (⟨m.d.plan, m.d.mode, List.set m.d.stack z39 (⟨x1.msg, x1.left - 1⟩ : Lev), m.d.scan, m.d.start, m.d.at_ + 1, m.d.field, m.d.wire, m.d.want, m.d.utf, m.d.end_⟩ : Dcd); .seg [.ord (os 19 [18]) [], .as 31 (.v (vI (z15 - 1))), .el .lev x1, .as 35 (.v (vI (x1.left - 1))), .el .lev x1] (.br (.seg [.as 65 (.v (vI z28)), .br true, .call [0, 1, 2, 3] (.tup []) [.cells (oMac0_5_27 4 5 6 (textB (⟨z1, m.out⟩ : Mac) b)), .dead, .dead, .dead, .tree (textB (⟨z1, m.out⟩ : Mac) b).d.plan.shapes, .lst .lev (textB (⟨z1, m.out⟩ : Mac) b).d.stack, .lst .ev (textB (⟨z1, m.out⟩ : Mac) b).out]] (.leaf () [0, 1, 2, 3, 4, 5, 6])) (.br (.seg [.as 65 (.v (vI z28)), .br false, .br true, .call [0, 1, 2, 3] (.tup []) [.cells (oMac0_5_27 4 5 6 (settleM (⟨z1, m.out⟩ : Mac))), .dead, .dead, .dead, .tree (settleM (⟨z1, m.out⟩ : Mac)).d.plan.shapes, .lst .lev (settleM (⟨z1, m.out⟩ : Mac)).d.stack, .lst .ev (settleM (⟨z1, m.out⟩ : Mac)).out]] (.leaf () [0, 1, 2, 3, 4, 5, 6])) (.br (.seg [.as 65 (.v (vI z28)), .br false, .br false, .call [] (.v z31) []] (.br (.seg [.call [0, 1, 2, 3] (.tup []) [.cells (oMac0_5_27 4 5 6 (fixM (⟨z1, m.out⟩ : Mac) b)), .dead, .dead, .dead, .tree (fixM (⟨z1, m.out⟩ : Mac) b).d.plan.shapes, .lst .lev (fixM (⟨z1, m.out⟩ : Mac) b).d.stack, .lst .ev (fixM (⟨z1, m.out⟩ : Mac) b).out]] (.leaf () [0, 1, 2, 3, 4, 5, 6])) (.seg [.call [0, 1, 2, 3] (.tup []) [.cells (oMac0_5_27 4 5 6 (varM (⟨z1, m.out⟩ : Mac) b z16)), .dead, .dead, .dead, .tree (varM (⟨z1, m.out⟩ : Mac) b z16).d.plan.shapes, .lst .lev (varM (⟨z1, m.out⟩ : Mac) b z16).d.stack, .lst .ev (varM (⟨z1, m.out⟩ : Mac) b z16).out]] (.leaf () [0, 1, 2, 3, 4, 5, 6])))) (.seg [.br false, .br false, .call [] (.v z31) []] (.br (.seg [.call [0, 1, 2, 3] (.tup []) [.cells (oMac0_5_27 4 5 6 (fixM (⟨z2, m.out⟩ : Mac) b)), .dead, .dead, .dead, .tree (fixM (⟨z2, m.out⟩ : Mac) b).d.plan.shapes, .lst .lev (fixM (⟨z2, m.out⟩ : Mac) b).d.stack, .lst .ev (fixM (⟨z2, m.out⟩ : Mac) b).out]] (.leaf () [0, 1, 2, 3, 4, 5, 6])) (.seg [.call [0, 1, 2, 3] (.tup []) [.cells (oMac0_5_27 4 5 6 (varM (⟨z2, m.out⟩ : Mac) b z16)), .dead, .dead, .dead, .tree (varM (⟨z2, m.out⟩ : Mac) b z16).d.plan.shapes, .lst .lev (varM (⟨z2, m.out⟩ : Mac) b z16).d.stack, .lst .ev (varM (⟨z2, m.out⟩ : Mac) b z16).out]] (.leaf () [0, 1, 2, 3, 4, 5, 6])))))))) (.br (.seg [.as 65 (.v (vI z28)), .br true, .call [0, 1, 2, 3] (.tup []) z20] (.leaf () [0, 1, 2, 3, 4, 5, 6])) (.br (.seg [.as 65 (.v (vI z28)), .br false, .br true, .call [0, 1, 2, 3] (.tup []) z21] (.leaf () [0, 1, 2, 3, 4, 5, 6])) (.br (.seg [.as 65 (.v (vI z28)), .br false, .br false, .call [] (.v z31) []] (.br (.seg [.call [0, 1, 2, 3] (.tup []) z22] (.leaf () [0, 1, 2, 3, 4, 5, 6])) (.seg [.call [0, 1, 2, 3] (.tup []) z18] (.leaf () [0, 1, 2, 3, 4, 5, 6])))) (.seg [.br false, .br false, .call [] (.v z31) []] (.br (.seg [.call [0, 1, 2, 3] (.tup []) z23] (.leaf () [0, 1, 2, 3, 4, 5, 6])) (.seg [.call [0, 1, 2, 3] (.tup []) z19] (.leaf () [0, 1, 2, 3, 4, 5, 6])))))))), ((.v (vI (IntKind.i64.wrap z29)) : S) = .v (vI z29)) ∧ ((decide (0 < z15)) = true → (∃ (x1 : Lev), m.d.stack[Int.toNat (z15 - 1)]? = some x1) ∧ ∀ (x1 : Lev), (m.d.stack[Int.toNat (z15 - 1)]? = some x1) → (let z8 := m.d.stack[Int.toNat (z15 - 1)]? = some x1; let z9 := (.v (vI (IntKind.i64.wrap (x1.left - 1))) : S) = .v (vI (x1.left - 1)); let z10 := (⟨x1.msg, x1.left - 1⟩ : Lev); let z3 := (⟨m.d.plan, m.d.mode, List.set m.d.stack z39 z10, m.d.scan, m.d.start, m.d.at_ + 1, m.d.field, m.d.wire, m.d.want - 1, m.d.utf, m.d.end_⟩ : Dcd); let z4 := (⟨m.d.plan, m.d.mode, List.set m.d.stack z39 z10, m.d.scan, m.d.start, m.d.at_ + 1, m.d.field, m.d.wire, m.d.want, m.d.utf, m.d.end_⟩ : Dcd); let z7 := List.set m.d.stack z39 z10; let z5 : List Blk := [.cells [.own 1, .int .i64 m.d.plan.root, .int .i64 m.d.plan.deep, .int .i64 m.d.plan.most, .int .i64 m.d.mode, .own 2, .int .u64 m.d.scan.bits, .int .i64 m.d.scan.have_, .int .i64 m.d.start, .int .i64 z29, .int .i64 m.d.field.number, .int .i64 m.d.field.kind, .bool m.d.field.rep, .bool m.d.field.packed, .int .i64 m.d.field.msg, .int .i64 m.d.wire, .int .i64 z28, .int .i64 m.d.utf.want, .int .i64 m.d.utf.low, .int .i64 m.d.utf.high, .int .i64 m.d.end_.kind, .int .i64 m.d.end_.field, .int .u64 m.d.end_.bits, .int .i64 m.d.end_.len, .str m.d.end_.text, .int .i64 m.d.end_.code, .int .i64 m.d.end_.at_, .own 3], .tree m.d.plan.shapes, .lst .lev z7, .lst .ev m.out]; let z6 : List Blk := [.cells [.own 1, .int .i64 m.d.plan.root, .int .i64 m.d.plan.deep, .int .i64 m.d.plan.most, .int .i64 m.d.mode, .own 2, .int .u64 m.d.scan.bits, .int .i64 m.d.scan.have_, .int .i64 m.d.start, .int .i64 z29, .int .i64 m.d.field.number, .int .i64 m.d.field.kind, .bool m.d.field.rep, .bool m.d.field.packed, .int .i64 m.d.field.msg, .int .i64 m.d.wire, .int .i64 m.d.want, .int .i64 m.d.utf.want, .int .i64 m.d.utf.low, .int .i64 m.d.utf.high, .int .i64 m.d.end_.kind, .int .i64 m.d.end_.field, .int .u64 m.d.end_.bits, .int .i64 m.d.end_.len, .str m.d.end_.text, .int .i64 m.d.end_.code, .int .i64 m.d.end_.at_, .own 3], .tree m.d.plan.shapes, .lst .lev z7, .lst .ev m.out]; z40 ∧ z40 ∧ z44 ∧ z42 ∧ z44 ∧ z42 ∧ z8 ∧ z8 ∧ z9 ∧ z9 ∧ z44 ∧ z42 ∧ z44 ∧ z42 ∧ z8 ∧ (z25 = true → z24 ∧ (z25 = true) ∧ (Fun Tryz.prog 152 z38 z5 (.tup []) [.cells (oMac0_5_27 4 5 6 (textB (⟨z3, m.out⟩ : Mac) b)), .dead, .dead, .dead, .tree (textB (⟨z3, m.out⟩ : Mac) b).d.plan.shapes, .lst .lev (textB (⟨z3, m.out⟩ : Mac) b).d.stack, .lst .ev (textB (⟨z3, m.out⟩ : Mac) b).out]) ∧ z30 = .tup [] ∧ ([.cells (oMac0_5_27 4 5 6 (textB (⟨z3, m.out⟩ : Mac) b)), .dead, .dead, .dead, .tree (textB (⟨z3, m.out⟩ : Mac) b).d.plan.shapes, .lst .lev (textB (⟨z3, m.out⟩ : Mac) b).d.stack, .lst .ev (textB (⟨z3, m.out⟩ : Mac) b).out] : List Blk) = z14) ∧ (z25 = false → (z26 = true → z24 ∧ z43 ∧ (z26 = true) ∧ (Fun Tryz.prog 153 [vP 0] z5 (.tup []) [.cells (oMac0_5_27 4 5 6 (settleM (⟨z3, m.out⟩ : Mac))), .dead, .dead, .dead, .tree (settleM (⟨z3, m.out⟩ : Mac)).d.plan.shapes, .lst .lev (settleM (⟨z3, m.out⟩ : Mac)).d.stack, .lst .ev (settleM (⟨z3, m.out⟩ : Mac)).out]) ∧ z30 = .tup [] ∧ ([.cells (oMac0_5_27 4 5 6 (settleM (⟨z3, m.out⟩ : Mac))), .dead, .dead, .dead, .tree (settleM (⟨z3, m.out⟩ : Mac)).d.plan.shapes, .lst .lev (settleM (⟨z3, m.out⟩ : Mac)).d.stack, .lst .ev (settleM (⟨z3, m.out⟩ : Mac)).out] : List Blk) = z14) ∧ (z26 = false → (z41 = true → z24 ∧ z43 ∧ z45 ∧ (Fun Tryz.prog 154 [.agg [.seq .shp m.d.plan.shapes, .int .i64 m.d.plan.root, .int .i64 m.d.plan.deep, .int .i64 m.d.plan.most, .int .i64 m.d.mode, .seq .lev z7, .int .u64 m.d.scan.bits, .int .i64 m.d.scan.have_, .int .i64 m.d.start, .int .i64 z29, .int .i64 m.d.field.number, .int .i64 m.d.field.kind, .bool m.d.field.rep, .bool m.d.field.packed, .int .i64 m.d.field.msg, .int .i64 m.d.wire, .int .i64 z28, .int .i64 m.d.utf.want, .int .i64 m.d.utf.low, .int .i64 m.d.utf.high, .int .i64 m.d.end_.kind, .int .i64 m.d.end_.field, .int .u64 m.d.end_.bits, .int .i64 m.d.end_.len, .str m.d.end_.text, .int .i64 m.d.end_.code, .int .i64 m.d.end_.at_]] [] (.v z31) []) ∧ (z27 = true → (Fun Tryz.prog 155 z38 z5 (.tup []) [.cells (oMac0_5_27 4 5 6 (fixM (⟨z3, m.out⟩ : Mac) b)), .dead, .dead, .dead, .tree (fixM (⟨z3, m.out⟩ : Mac) b).d.plan.shapes, .lst .lev (fixM (⟨z3, m.out⟩ : Mac) b).d.stack, .lst .ev (fixM (⟨z3, m.out⟩ : Mac) b).out]) ∧ z30 = .tup [] ∧ ([.cells (oMac0_5_27 4 5 6 (fixM (⟨z3, m.out⟩ : Mac) b)), .dead, .dead, .dead, .tree (fixM (⟨z3, m.out⟩ : Mac) b).d.plan.shapes, .lst .lev (fixM (⟨z3, m.out⟩ : Mac) b).d.stack, .lst .ev (fixM (⟨z3, m.out⟩ : Mac) b).out] : List Blk) = z14) ∧ (z27 = false → (Fun Tryz.prog 156 z38 z5 (.tup []) [.cells (oMac0_5_27 4 5 6 (varM (⟨z3, m.out⟩ : Mac) b z16)), .dead, .dead, .dead, .tree (varM (⟨z3, m.out⟩ : Mac) b z16).d.plan.shapes, .lst .lev (varM (⟨z3, m.out⟩ : Mac) b z16).d.stack, .lst .ev (varM (⟨z3, m.out⟩ : Mac) b z16).out]) ∧ z30 = .tup [] ∧ ([.cells (oMac0_5_27 4 5 6 (varM (⟨z3, m.out⟩ : Mac) b z16)), .dead, .dead, .dead, .tree (varM (⟨z3, m.out⟩ : Mac) b z16).d.plan.shapes, .lst .lev (varM (⟨z3, m.out⟩ : Mac) b z16).d.stack, .lst .ev (varM (⟨z3, m.out⟩ : Mac) b z16).out] : List Blk) = z14)) ∧ (z41 = false → z43 ∧ z45 ∧ (Fun Tryz.prog 154 [.agg [.seq .shp m.d.plan.shapes, .int .i64 m.d.plan.root, .int .i64 m.d.plan.deep, .int .i64 m.d.plan.most, .int .i64 m.d.mode, .seq .lev z7, .int .u64 m.d.scan.bits, .int .i64 m.d.scan.have_, .int .i64 m.d.start, .int .i64 z29, .int .i64 m.d.field.number, .int .i64 m.d.field.kind, .bool m.d.field.rep, .bool m.d.field.packed, .int .i64 m.d.field.msg, .int .i64 m.d.wire, .int .i64 m.d.want, .int .i64 m.d.utf.want, .int .i64 m.d.utf.low, .int .i64 m.d.utf.high, .int .i64 m.d.end_.kind, .int .i64 m.d.end_.field, .int .u64 m.d.end_.bits, .int .i64 m.d.end_.len, .str m.d.end_.text, .int .i64 m.d.end_.code, .int .i64 m.d.end_.at_]] [] (.v z31) []) ∧ (z27 = true → (Fun Tryz.prog 155 z38 z6 (.tup []) [.cells (oMac0_5_27 4 5 6 (fixM (⟨z4, m.out⟩ : Mac) b)), .dead, .dead, .dead, .tree (fixM (⟨z4, m.out⟩ : Mac) b).d.plan.shapes, .lst .lev (fixM (⟨z4, m.out⟩ : Mac) b).d.stack, .lst .ev (fixM (⟨z4, m.out⟩ : Mac) b).out]) ∧ z30 = .tup [] ∧ ([.cells (oMac0_5_27 4 5 6 (fixM (⟨z4, m.out⟩ : Mac) b)), .dead, .dead, .dead, .tree (fixM (⟨z4, m.out⟩ : Mac) b).d.plan.shapes, .lst .lev (fixM (⟨z4, m.out⟩ : Mac) b).d.stack, .lst .ev (fixM (⟨z4, m.out⟩ : Mac) b).out] : List Blk) = z14) ∧ (z27 = false → (Fun Tryz.prog 156 z38 z6 (.tup []) [.cells (oMac0_5_27 4 5 6 (varM (⟨z4, m.out⟩ : Mac) b z16)), .dead, .dead, .dead, .tree (varM (⟨z4, m.out⟩ : Mac) b z16).d.plan.shapes, .lst .lev (varM (⟨z4, m.out⟩ : Mac) b z16).d.stack, .lst .ev (varM (⟨z4, m.out⟩ : Mac) b z16).out]) ∧ z30 = .tup [] ∧ ([.cells (oMac0_5_27 4 5 6 (varM (⟨z4, m.out⟩ : Mac) b z16)), .dead, .dead, .dead, .tree (varM (⟨z4, m.out⟩ : Mac) b z16).d.plan.shapes, .lst .lev (varM (⟨z4, m.out⟩ : Mac) b z16).d.stack, .lst .ev (varM (⟨z4, m.out⟩ : Mac) b z16).out] : List Blk) = z14)))))) ∧ ((decide (0 < z15)) = false → (z25 = true → z24 ∧ (z25 = true) ∧ (Fun Tryz.prog 152 z38 z13 (.tup []) z20) ∧ z30 = .tup [] ∧ (z20 : List Blk) = z14) ∧ (z25 = false → (z26 = true → z24 ∧ z43 ∧ (z26 = true) ∧ (Fun Tryz.prog 153 [vP 0] z13 (.tup []) z21) ∧ z30 = .tup [] ∧ (z21 : List Blk) = z14) ∧ (z26 = false → (z41 = true → z24 ∧ z43 ∧ z45 ∧ (Fun Tryz.prog 154 [.agg [.seq .shp m.d.plan.shapes, .int .i64 m.d.plan.root, .int .i64 m.d.plan.deep, .int .i64 m.d.plan.most, .int .i64 m.d.mode, .seq .lev m.d.stack, .int .u64 m.d.scan.bits, .int .i64 m.d.scan.have_, .int .i64 m.d.start, .int .i64 z29, .int .i64 m.d.field.number, .int .i64 m.d.field.kind, .bool m.d.field.rep, .bool m.d.field.packed, .int .i64 m.d.field.msg, .int .i64 m.d.wire, .int .i64 z28, .int .i64 m.d.utf.want, .int .i64 m.d.utf.low, .int .i64 m.d.utf.high, .int .i64 m.d.end_.kind, .int .i64 m.d.end_.field, .int .u64 m.d.end_.bits, .int .i64 m.d.end_.len, .str m.d.end_.text, .int .i64 m.d.end_.code, .int .i64 m.d.end_.at_]] [] (.v z31) []) ∧ (z27 = true → (Fun Tryz.prog 155 z38 z13 (.tup []) z22) ∧ z30 = .tup [] ∧ (z22 : List Blk) = z14) ∧ (z27 = false → (Fun Tryz.prog 156 z38 z13 (.tup []) z18) ∧ z30 = .tup [] ∧ (z18 : List Blk) = z14)) ∧ (z41 = false → z43 ∧ z45 ∧ (Fun Tryz.prog 154 [.agg [.seq .shp m.d.plan.shapes, .int .i64 m.d.plan.root, .int .i64 m.d.plan.deep, .int .i64 m.d.plan.most, .int .i64 m.d.mode, .seq .lev m.d.stack, .int .u64 m.d.scan.bits, .int .i64 m.d.scan.have_, .int .i64 m.d.start, .int .i64 z29, .int .i64 m.d.field.number, .int .i64 m.d.field.kind, .bool m.d.field.rep, .bool m.d.field.packed, .int .i64 m.d.field.msg, .int .i64 m.d.wire, .int .i64 m.d.want, .int .i64 m.d.utf.want, .int .i64 m.d.utf.low, .int .i64 m.d.utf.high, .int .i64 m.d.end_.kind, .int .i64 m.d.end_.field, .int .u64 m.d.end_.bits, .int .i64 m.d.end_.len, .str m.d.end_.text, .int .i64 m.d.end_.code, .int .i64 m.d.end_.at_]] [] (.v z31) []) ∧ (z27 = true → (Fun Tryz.prog 155 z38 z17 (.tup []) z23) ∧ z30 = .tup [] ∧ (z23 : List Blk) = z14) ∧ (z27 = false → (Fun Tryz.prog 156 z38 z17 (.tup []) z19) ∧ z30 = .tup [] ∧ (z19 : List Blk) = z14))))))) (by kernel_rfl) ?_
  refine ⟨(as_i64 (by omega) (by omega)), fun h1 => have p1 := of_decide_eq_true h1; ?_, fun h1 => have p1 := of_decide_eq_false h1; ?_⟩
  have hne : m.d.stack ≠ [] := fun e => by have := congrArg List.length e; simp only [List.length_nil] at this; omega
  refine ⟨(ax_get (l := m.d.stack) (i := Int.toNat ((m.d.stack.length : Int) - 1)) (by omega)), fun x1 hx1 => ?_⟩
  have hll := lastL_el (d := m.d) (by rw [← hx1]; congr 1; omega)
  have hix : Int.toNat ((m.d.stack.length : Int) - 1) = m.d.stack.length - 1 := by omega
  refine ⟨(as_i64 (by omega) (by omega)), (as_i64 (by omega) (by omega)), (by omega), (by omega), (by omega), (by omega), hx1, hx1, (as_i64 (by omega) (by omega)), (as_i64 (by omega) (by omega)), (by omega), (by omega), (by omega), (by omega), hx1, fun h2 => have p2 := of_decide_eq_true h2; ?_, fun h2 => have p2 := of_decide_eq_false h2; ?_⟩
  refine ⟨(as_i64 (by omega) (by omega)), h2, (textByte_i (⟨(⟨m.d.plan, m.d.mode, List.set m.d.stack (Int.toNat ((m.d.stack.length : Int) - 1)) (⟨x1.msg, x1.left - 1⟩ : Lev), m.d.scan, m.d.start, m.d.at_ + 1, m.d.field, m.d.wire, m.d.want - 1, m.d.utf, m.d.end_⟩ : Dcd), m.out⟩ : Mac) _ ((by have e : stepD m.d = (⟨m.d.plan, m.d.mode, List.set m.d.stack (Int.toNat ((m.d.stack.length : Int) - 1)) (⟨x1.msg, x1.left - 1⟩ : Lev), m.d.scan, m.d.start, m.d.at_ + 1, m.d.field, m.d.wire, m.d.want - 1, m.d.utf, m.d.end_⟩ : Dcd) := (by first | ((simp_all [stepD]; done)) | (grind [stepD])); exact (e ▸ hms : MW (⟨m.d.plan, m.d.mode, List.set m.d.stack (Int.toNat ((m.d.stack.length : Int) - 1)) (⟨x1.msg, x1.left - 1⟩ : Lev), m.d.scan, m.d.start, m.d.at_ + 1, m.d.field, m.d.wire, m.d.want - 1, m.d.utf, m.d.end_⟩ : Dcd)))) (by first | omega | (dsimp only; omega)) (by omega)), ?_⟩
  refine have hm1 : byteM m b = (textB (⟨(⟨m.d.plan, m.d.mode, List.set m.d.stack (Int.toNat ((m.d.stack.length : Int) - 1)) (⟨x1.msg, x1.left - 1⟩ : Lev), m.d.scan, m.d.start, m.d.at_ + 1, m.d.field, m.d.wire, m.d.want - 1, m.d.utf, m.d.end_⟩ : Dcd), m.out⟩ : Mac) b) := ?_; ?_
  rotate_left
  exact ⟨rfl, (by rw [hm1] <;> rfl)⟩
  refine ⟨fun h3 => have p3 := of_decide_eq_true h3; ?_, fun h3 => have p3 := of_decide_eq_false h3; ?_⟩
  refine ⟨(as_i64 (by omega) (by omega)), h2, h3, (settle_i (⟨(⟨m.d.plan, m.d.mode, List.set m.d.stack (Int.toNat ((m.d.stack.length : Int) - 1)) (⟨x1.msg, x1.left - 1⟩ : Lev), m.d.scan, m.d.start, m.d.at_ + 1, m.d.field, m.d.wire, m.d.want - 1, m.d.utf, m.d.end_⟩ : Dcd), m.out⟩ : Mac) ((by have e : stepD m.d = (⟨m.d.plan, m.d.mode, List.set m.d.stack (Int.toNat ((m.d.stack.length : Int) - 1)) (⟨x1.msg, x1.left - 1⟩ : Lev), m.d.scan, m.d.start, m.d.at_ + 1, m.d.field, m.d.wire, m.d.want - 1, m.d.utf, m.d.end_⟩ : Dcd) := (by first | ((simp_all [stepD]; done)) | (grind [stepD])); exact ((e ▸ hms : MW (⟨m.d.plan, m.d.mode, List.set m.d.stack (Int.toNat ((m.d.stack.length : Int) - 1)) (⟨x1.msg, x1.left - 1⟩ : Lev), m.d.scan, m.d.start, m.d.at_ + 1, m.d.field, m.d.wire, m.d.want - 1, m.d.utf, m.d.end_⟩ : Dcd))).lv)) (by first | omega | (dsimp only; omega))), ?_⟩
  refine have hm1 : byteM m b = (settleM (⟨(⟨m.d.plan, m.d.mode, List.set m.d.stack (Int.toNat ((m.d.stack.length : Int) - 1)) (⟨x1.msg, x1.left - 1⟩ : Lev), m.d.scan, m.d.start, m.d.at_ + 1, m.d.field, m.d.wire, m.d.want - 1, m.d.utf, m.d.end_⟩ : Dcd), m.out⟩ : Mac)) := ?_; ?_
  rotate_left
  exact ⟨rfl, (by rw [hm1] <;> rfl)⟩
  refine ⟨fun h4 => have p4 := of_decide_eq_true h4; ?_, fun h4 => have p4 := of_decide_eq_false h4; ?_⟩
  refine ⟨(as_i64 (by omega) (by omega)), h2, h3, (widthD_i (⟨m.d.plan, m.d.mode, List.set m.d.stack (Int.toNat ((m.d.stack.length : Int) - 1)) (⟨x1.msg, x1.left - 1⟩ : Lev), m.d.scan, m.d.start, m.d.at_ + 1, m.d.field, m.d.wire, m.d.want - 1, m.d.utf, m.d.end_⟩ : Dcd)), fun h5 => have p5 := of_decide_eq_true h5; ?_, fun h5 => have p5 := of_decide_eq_false h5; ?_⟩
  refine ⟨(fixByte_m (⟨(⟨m.d.plan, m.d.mode, List.set m.d.stack (Int.toNat ((m.d.stack.length : Int) - 1)) (⟨x1.msg, x1.left - 1⟩ : Lev), m.d.scan, m.d.start, m.d.at_ + 1, m.d.field, m.d.wire, m.d.want - 1, m.d.utf, m.d.end_⟩ : Dcd), m.out⟩ : Mac) _ ((by have e : stepD m.d = (⟨m.d.plan, m.d.mode, List.set m.d.stack (Int.toNat ((m.d.stack.length : Int) - 1)) (⟨x1.msg, x1.left - 1⟩ : Lev), m.d.scan, m.d.start, m.d.at_ + 1, m.d.field, m.d.wire, m.d.want - 1, m.d.utf, m.d.end_⟩ : Dcd) := (by first | ((simp_all [stepD]; done)) | (grind [stepD])); exact (e ▸ hms : MW (⟨m.d.plan, m.d.mode, List.set m.d.stack (Int.toNat ((m.d.stack.length : Int) - 1)) (⟨x1.msg, x1.left - 1⟩ : Lev), m.d.scan, m.d.start, m.d.at_ + 1, m.d.field, m.d.wire, m.d.want - 1, m.d.utf, m.d.end_⟩ : Dcd)))) (by first | omega | (dsimp only; omega)) (by omega)), ?_⟩
  refine have hm1 : byteM m b = (fixM (⟨(⟨m.d.plan, m.d.mode, List.set m.d.stack (Int.toNat ((m.d.stack.length : Int) - 1)) (⟨x1.msg, x1.left - 1⟩ : Lev), m.d.scan, m.d.start, m.d.at_ + 1, m.d.field, m.d.wire, m.d.want - 1, m.d.utf, m.d.end_⟩ : Dcd), m.out⟩ : Mac) b) := ?_; ?_
  rotate_left
  exact ⟨rfl, (by rw [hm1] <;> rfl)⟩
  refine ⟨(varByte_i (⟨(⟨m.d.plan, m.d.mode, List.set m.d.stack (Int.toNat ((m.d.stack.length : Int) - 1)) (⟨x1.msg, x1.left - 1⟩ : Lev), m.d.scan, m.d.start, m.d.at_ + 1, m.d.field, m.d.wire, m.d.want - 1, m.d.utf, m.d.end_⟩ : Dcd), m.out⟩ : Mac) _ ((by have e : stepD m.d = (⟨m.d.plan, m.d.mode, List.set m.d.stack (Int.toNat ((m.d.stack.length : Int) - 1)) (⟨x1.msg, x1.left - 1⟩ : Lev), m.d.scan, m.d.start, m.d.at_ + 1, m.d.field, m.d.wire, m.d.want - 1, m.d.utf, m.d.end_⟩ : Dcd) := (by first | ((simp_all [stepD]; done)) | (grind [stepD])); exact (e ▸ hms : MW (⟨m.d.plan, m.d.mode, List.set m.d.stack (Int.toNat ((m.d.stack.length : Int) - 1)) (⟨x1.msg, x1.left - 1⟩ : Lev), m.d.scan, m.d.start, m.d.at_ + 1, m.d.field, m.d.wire, m.d.want - 1, m.d.utf, m.d.end_⟩ : Dcd)))) (by first | omega | (dsimp only; omega)) (by omega)), ?_⟩
  refine have hm1 : byteM m b = (varM (⟨(⟨m.d.plan, m.d.mode, List.set m.d.stack (Int.toNat ((m.d.stack.length : Int) - 1)) (⟨x1.msg, x1.left - 1⟩ : Lev), m.d.scan, m.d.start, m.d.at_ + 1, m.d.field, m.d.wire, m.d.want - 1, m.d.utf, m.d.end_⟩ : Dcd), m.out⟩ : Mac) b ((m.d.at_ + 1) - 1)) := ?_; ?_
  rotate_left
  exact ⟨rfl, (by rw [hm1] <;> rfl)⟩
  refine ⟨h2, h3, (widthD_i (⟨m.d.plan, m.d.mode, List.set m.d.stack (Int.toNat ((m.d.stack.length : Int) - 1)) (⟨x1.msg, x1.left - 1⟩ : Lev), m.d.scan, m.d.start, m.d.at_ + 1, m.d.field, m.d.wire, m.d.want, m.d.utf, m.d.end_⟩ : Dcd)), fun h5 => have p5 := of_decide_eq_true h5; ?_, fun h5 => have p5 := of_decide_eq_false h5; ?_⟩
  refine ⟨(fixByte_m (⟨(⟨m.d.plan, m.d.mode, List.set m.d.stack (Int.toNat ((m.d.stack.length : Int) - 1)) (⟨x1.msg, x1.left - 1⟩ : Lev), m.d.scan, m.d.start, m.d.at_ + 1, m.d.field, m.d.wire, m.d.want, m.d.utf, m.d.end_⟩ : Dcd), m.out⟩ : Mac) _ ((by have e : stepD m.d = (⟨m.d.plan, m.d.mode, List.set m.d.stack (Int.toNat ((m.d.stack.length : Int) - 1)) (⟨x1.msg, x1.left - 1⟩ : Lev), m.d.scan, m.d.start, m.d.at_ + 1, m.d.field, m.d.wire, m.d.want, m.d.utf, m.d.end_⟩ : Dcd) := (by first | ((simp_all [stepD]; done)) | (grind [stepD])); exact (e ▸ hms : MW (⟨m.d.plan, m.d.mode, List.set m.d.stack (Int.toNat ((m.d.stack.length : Int) - 1)) (⟨x1.msg, x1.left - 1⟩ : Lev), m.d.scan, m.d.start, m.d.at_ + 1, m.d.field, m.d.wire, m.d.want, m.d.utf, m.d.end_⟩ : Dcd)))) (by first | omega | (dsimp only; omega)) (by omega)), ?_⟩
  refine have hm1 : byteM m b = (fixM (⟨(⟨m.d.plan, m.d.mode, List.set m.d.stack (Int.toNat ((m.d.stack.length : Int) - 1)) (⟨x1.msg, x1.left - 1⟩ : Lev), m.d.scan, m.d.start, m.d.at_ + 1, m.d.field, m.d.wire, m.d.want, m.d.utf, m.d.end_⟩ : Dcd), m.out⟩ : Mac) b) := ?_; ?_
  rotate_left
  exact ⟨rfl, (by rw [hm1] <;> rfl)⟩
  refine ⟨(varByte_i (⟨(⟨m.d.plan, m.d.mode, List.set m.d.stack (Int.toNat ((m.d.stack.length : Int) - 1)) (⟨x1.msg, x1.left - 1⟩ : Lev), m.d.scan, m.d.start, m.d.at_ + 1, m.d.field, m.d.wire, m.d.want, m.d.utf, m.d.end_⟩ : Dcd), m.out⟩ : Mac) _ ((by have e : stepD m.d = (⟨m.d.plan, m.d.mode, List.set m.d.stack (Int.toNat ((m.d.stack.length : Int) - 1)) (⟨x1.msg, x1.left - 1⟩ : Lev), m.d.scan, m.d.start, m.d.at_ + 1, m.d.field, m.d.wire, m.d.want, m.d.utf, m.d.end_⟩ : Dcd) := (by first | ((simp_all [stepD]; done)) | (grind [stepD])); exact (e ▸ hms : MW (⟨m.d.plan, m.d.mode, List.set m.d.stack (Int.toNat ((m.d.stack.length : Int) - 1)) (⟨x1.msg, x1.left - 1⟩ : Lev), m.d.scan, m.d.start, m.d.at_ + 1, m.d.field, m.d.wire, m.d.want, m.d.utf, m.d.end_⟩ : Dcd)))) (by first | omega | (dsimp only; omega)) (by omega)), ?_⟩
  refine have hm1 : byteM m b = (varM (⟨(⟨m.d.plan, m.d.mode, List.set m.d.stack (Int.toNat ((m.d.stack.length : Int) - 1)) (⟨x1.msg, x1.left - 1⟩ : Lev), m.d.scan, m.d.start, m.d.at_ + 1, m.d.field, m.d.wire, m.d.want, m.d.utf, m.d.end_⟩ : Dcd), m.out⟩ : Mac) b ((m.d.at_ + 1) - 1)) := ?_; ?_
  rotate_left
  exact ⟨rfl, (by rw [hm1] <;> rfl)⟩
  have hne : m.d.stack = [] := List.eq_nil_of_length_eq_zero (by omega)
  refine ⟨fun h2 => have p2 := of_decide_eq_true h2; ?_, fun h2 => have p2 := of_decide_eq_false h2; ?_⟩
  refine ⟨(as_i64 (by omega) (by omega)), h2, (textByte_i (⟨(⟨m.d.plan, m.d.mode, m.d.stack, m.d.scan, m.d.start, m.d.at_ + 1, m.d.field, m.d.wire, m.d.want - 1, m.d.utf, m.d.end_⟩ : Dcd), m.out⟩ : Mac) _ ((by have e : stepD m.d = (⟨m.d.plan, m.d.mode, m.d.stack, m.d.scan, m.d.start, m.d.at_ + 1, m.d.field, m.d.wire, m.d.want - 1, m.d.utf, m.d.end_⟩ : Dcd) := (by first | ((simp_all [stepD]; done)) | (grind [stepD])); exact (e ▸ hms : MW (⟨m.d.plan, m.d.mode, m.d.stack, m.d.scan, m.d.start, m.d.at_ + 1, m.d.field, m.d.wire, m.d.want - 1, m.d.utf, m.d.end_⟩ : Dcd)))) (by first | omega | (dsimp only; omega)) (by omega)), ?_⟩
  refine have hm1 : byteM m b = (textB (⟨(⟨m.d.plan, m.d.mode, m.d.stack, m.d.scan, m.d.start, m.d.at_ + 1, m.d.field, m.d.wire, m.d.want - 1, m.d.utf, m.d.end_⟩ : Dcd), m.out⟩ : Mac) b) := ?_; ?_
  rotate_left
  exact ⟨rfl, (by rw [hm1] <;> rfl)⟩
  refine ⟨fun h3 => have p3 := of_decide_eq_true h3; ?_, fun h3 => have p3 := of_decide_eq_false h3; ?_⟩
  refine ⟨(as_i64 (by omega) (by omega)), h2, h3, (settle_i (⟨(⟨m.d.plan, m.d.mode, m.d.stack, m.d.scan, m.d.start, m.d.at_ + 1, m.d.field, m.d.wire, m.d.want - 1, m.d.utf, m.d.end_⟩ : Dcd), m.out⟩ : Mac) ((by first | (exact hp1.lv) | (exact levelsOk_same hp1.lv rfl rfl))) (by first | omega | (dsimp only; omega))), ?_⟩
  refine have hm1 : byteM m b = (settleM (⟨(⟨m.d.plan, m.d.mode, m.d.stack, m.d.scan, m.d.start, m.d.at_ + 1, m.d.field, m.d.wire, m.d.want - 1, m.d.utf, m.d.end_⟩ : Dcd), m.out⟩ : Mac)) := ?_; ?_
  rotate_left
  exact ⟨rfl, (by rw [hm1] <;> rfl)⟩
  refine ⟨fun h4 => have p4 := of_decide_eq_true h4; ?_, fun h4 => have p4 := of_decide_eq_false h4; ?_⟩
  refine ⟨(as_i64 (by omega) (by omega)), h2, h3, (widthD_i (⟨m.d.plan, m.d.mode, m.d.stack, m.d.scan, m.d.start, m.d.at_ + 1, m.d.field, m.d.wire, m.d.want - 1, m.d.utf, m.d.end_⟩ : Dcd)), fun h5 => have p5 := of_decide_eq_true h5; ?_, fun h5 => have p5 := of_decide_eq_false h5; ?_⟩
  refine ⟨(fixByte_m (⟨(⟨m.d.plan, m.d.mode, m.d.stack, m.d.scan, m.d.start, m.d.at_ + 1, m.d.field, m.d.wire, m.d.want - 1, m.d.utf, m.d.end_⟩ : Dcd), m.out⟩ : Mac) _ ((by have e : stepD m.d = (⟨m.d.plan, m.d.mode, m.d.stack, m.d.scan, m.d.start, m.d.at_ + 1, m.d.field, m.d.wire, m.d.want - 1, m.d.utf, m.d.end_⟩ : Dcd) := (by first | ((simp_all [stepD]; done)) | (grind [stepD])); exact (e ▸ hms : MW (⟨m.d.plan, m.d.mode, m.d.stack, m.d.scan, m.d.start, m.d.at_ + 1, m.d.field, m.d.wire, m.d.want - 1, m.d.utf, m.d.end_⟩ : Dcd)))) (by first | omega | (dsimp only; omega)) (by omega)), ?_⟩
  refine have hm1 : byteM m b = (fixM (⟨(⟨m.d.plan, m.d.mode, m.d.stack, m.d.scan, m.d.start, m.d.at_ + 1, m.d.field, m.d.wire, m.d.want - 1, m.d.utf, m.d.end_⟩ : Dcd), m.out⟩ : Mac) b) := ?_; ?_
  rotate_left
  exact ⟨rfl, (by rw [hm1] <;> rfl)⟩
  refine ⟨(varByte_i (⟨(⟨m.d.plan, m.d.mode, m.d.stack, m.d.scan, m.d.start, m.d.at_ + 1, m.d.field, m.d.wire, m.d.want - 1, m.d.utf, m.d.end_⟩ : Dcd), m.out⟩ : Mac) _ ((by have e : stepD m.d = (⟨m.d.plan, m.d.mode, m.d.stack, m.d.scan, m.d.start, m.d.at_ + 1, m.d.field, m.d.wire, m.d.want - 1, m.d.utf, m.d.end_⟩ : Dcd) := (by first | ((simp_all [stepD]; done)) | (grind [stepD])); exact (e ▸ hms : MW (⟨m.d.plan, m.d.mode, m.d.stack, m.d.scan, m.d.start, m.d.at_ + 1, m.d.field, m.d.wire, m.d.want - 1, m.d.utf, m.d.end_⟩ : Dcd)))) (by first | omega | (dsimp only; omega)) (by omega)), ?_⟩
  refine have hm1 : byteM m b = (varM (⟨(⟨m.d.plan, m.d.mode, m.d.stack, m.d.scan, m.d.start, m.d.at_ + 1, m.d.field, m.d.wire, m.d.want - 1, m.d.utf, m.d.end_⟩ : Dcd), m.out⟩ : Mac) b ((m.d.at_ + 1) - 1)) := ?_; ?_
  rotate_left
  exact ⟨rfl, (by rw [hm1] <;> rfl)⟩
  refine ⟨h2, h3, (widthD_i (⟨m.d.plan, m.d.mode, m.d.stack, m.d.scan, m.d.start, m.d.at_ + 1, m.d.field, m.d.wire, m.d.want, m.d.utf, m.d.end_⟩ : Dcd)), fun h5 => have p5 := of_decide_eq_true h5; ?_, fun h5 => have p5 := of_decide_eq_false h5; ?_⟩
  refine ⟨(fixByte_m (⟨(⟨m.d.plan, m.d.mode, m.d.stack, m.d.scan, m.d.start, m.d.at_ + 1, m.d.field, m.d.wire, m.d.want, m.d.utf, m.d.end_⟩ : Dcd), m.out⟩ : Mac) _ ((by have e : stepD m.d = (⟨m.d.plan, m.d.mode, m.d.stack, m.d.scan, m.d.start, m.d.at_ + 1, m.d.field, m.d.wire, m.d.want, m.d.utf, m.d.end_⟩ : Dcd) := (by first | ((simp_all [stepD]; done)) | (grind [stepD])); exact (e ▸ hms : MW (⟨m.d.plan, m.d.mode, m.d.stack, m.d.scan, m.d.start, m.d.at_ + 1, m.d.field, m.d.wire, m.d.want, m.d.utf, m.d.end_⟩ : Dcd)))) (by first | omega | (dsimp only; omega)) (by omega)), ?_⟩
  refine have hm1 : byteM m b = (fixM (⟨(⟨m.d.plan, m.d.mode, m.d.stack, m.d.scan, m.d.start, m.d.at_ + 1, m.d.field, m.d.wire, m.d.want, m.d.utf, m.d.end_⟩ : Dcd), m.out⟩ : Mac) b) := ?_; ?_
  rotate_left
  exact ⟨rfl, (by rw [hm1] <;> rfl)⟩
  refine ⟨(varByte_i (⟨(⟨m.d.plan, m.d.mode, m.d.stack, m.d.scan, m.d.start, m.d.at_ + 1, m.d.field, m.d.wire, m.d.want, m.d.utf, m.d.end_⟩ : Dcd), m.out⟩ : Mac) _ ((by have e : stepD m.d = (⟨m.d.plan, m.d.mode, m.d.stack, m.d.scan, m.d.start, m.d.at_ + 1, m.d.field, m.d.wire, m.d.want, m.d.utf, m.d.end_⟩ : Dcd) := (by first | ((simp_all [stepD]; done)) | (grind [stepD])); exact (e ▸ hms : MW (⟨m.d.plan, m.d.mode, m.d.stack, m.d.scan, m.d.start, m.d.at_ + 1, m.d.field, m.d.wire, m.d.want, m.d.utf, m.d.end_⟩ : Dcd)))) (by first | omega | (dsimp only; omega)) (by omega)), ?_⟩
  refine have hm1 : byteM m b = (varM (⟨(⟨m.d.plan, m.d.mode, m.d.stack, m.d.scan, m.d.start, m.d.at_ + 1, m.d.field, m.d.wire, m.d.want, m.d.utf, m.d.end_⟩ : Dcd), m.out⟩ : Mac) b ((m.d.at_ + 1) - 1)) := ?_; ?_
  rotate_left
  exact ⟨rfl, (by rw [hm1] <;> rfl)⟩
  all_goals first | (simp_all [byteM, stepD]; done) | ((have hw0 : widthD m.d = 0 := (by omega); simp_all [byteM, stepD]; done)) | (grind [byteM, stepD])
end Go.Proofs.YtecljjcmjongfaaGreat.Ax
namespace Go.Proofs.YtecljjcmjongfaaGreat.Ax
open Go.RowKit
set_option linter.unusedSimpArgs false
set_option linter.unusedVariables false
theorem takes_i (d : Dcd) : Fun Tryz.prog 86 [.agg (cDcd d)] [] (.v (vB (takesD d))) [] := by
  have hN : bigN = 274877906944 := rfl
  refine fun_ofw Tryz.func86 (by kernel_rfl) (by kernel_rfl) (w := (.br (.leaf () []) (.leaf () []), ((!decide (d.mode = 9)) = true → (.v (vB (decide (d.at_ < 1000000000))) : S) = .v (vB (takesD d)) ∧ ([] : List Blk) = []) ∧ ((!decide (d.mode = 9)) = false → (.v (vB false) : S) = .v (vB (takesD d)) ∧ ([] : List Blk) = []))) (by kernel_rfl) ?_
  refine ⟨fun h1 => have q1 := bnot_t h1; have p1 := of_decide_eq_false q1; ?_, fun h1 => have q1 := bnot_f h1; have p1 := of_decide_eq_true q1; ?_⟩
  refine ⟨(sB ?_), rfl⟩
  rotate_left
  refine ⟨(sB ?_), rfl⟩
  rotate_left
  all_goals first | (simp [takesD, *]; done) | (simp_all [takesD]; done) | (grind [takesD])
theorem stepB_i (d : Dcd) (b : Int) (hp1 : List.length (d).plan.shapes ≤ 1048576) (hp2 : ∀ e ∈ (d).plan.shapes, e.fields.length ≤ 1048576) (hp3 : List.length (d).stack ≤ 1048576) (hp4 : (0 : Int) ≤ (d).scan.bits ∧ (d).scan.bits ≤ 18446744073709551615) : Fun Tryz.prog 37 [.agg (cDcd d), vI b] [] (.tup [.agg (oDcd0_5 0 1 (stepB d b).d), vO 2]) [.tree (stepB d b).d.plan.shapes, .lst .lev (stepB d b).d.stack, .lst .ev (stepB d b).out] := by
  have hN : bigN = 274877906944 := rfl
  refine fun_ofw Tryz.func37 (by kernel_rfl) (by kernel_rfl) (w := let z1 := byteM (⟨d, ([] : List Ev)⟩ : Mac) b; let z2 := ([.tree d.plan.shapes, .lst .lev d.stack, .lst .ev ([] : List Ev)] : List Blk); let z3 := stepB d b; let z4 : List Blk := [.cells (oMac0_5_27 4 5 6 z1), .dead, .dead, .dead, .tree z1.d.plan.shapes, .lst .lev z1.d.stack, .lst .ev z1.out]; let z5 := (.tup [.agg (oDcd0_5 0 1 d), vO 2] : S); let z6 := oDcd0_5 0 1 z3.d; let z7 := within b 0 255; (.seg [.call [] (.v (.agg (oDcd0_5 0 1 d))) [.tree d.plan.shapes, .lst .lev d.stack], .call [] (.v (vB (decOk d))) []] (.br (.seg [.call [] (.v (vB (takesD d))) []] (.br (.seg [.call [] (.v (vB z7)) []] (.br (.seg [.at 4, .mk 4 27 .ev, .call [4, 2, 3, 5] (.tup []) z4, .ord (os 10 [8]) [1]] (.leaf () [6, 7, 8])) (.seg [.ord (os 10 [8]) [1], .at 0, .mkS 5 .ev] (.leaf () [2, 3, 5])))) (.seg [.ord (os 10 [8]) [1], .at 0, .mkS 5 .ev] (.leaf () [2, 3, 5])))) (.seg [.ord (os 10 [8]) [1], .at 0, .mkS 5 .ev] (.leaf () [2, 3, 5]))), (Fun Tryz.prog 84 [.agg (cDcd d)] [] (.v (.agg (oDcd0_5 0 1 d))) [.tree d.plan.shapes, .lst .lev d.stack]) ∧ (Fun Tryz.prog 85 [.agg (cDcd d)] [] (.v (vB (decOk d))) []) ∧ ((decOk d) = true → (Fun Tryz.prog 86 [.agg (cDcd d)] [] (.v (vB (takesD d))) []) ∧ ((takesD d) = true → (Fun Tryz.prog 87 [vI b] [] (.v (vB z7)) []) ∧ (z7 = true → (Fun Tryz.prog 88 [vP 0, vI b] [.cells [.own 1, .int .i64 d.plan.root, .int .i64 d.plan.deep, .int .i64 d.plan.most, .int .i64 d.mode, .own 2, .int .u64 d.scan.bits, .int .i64 d.scan.have_, .int .i64 d.start, .int .i64 d.at_, .int .i64 d.field.number, .int .i64 d.field.kind, .bool d.field.rep, .bool d.field.packed, .int .i64 d.field.msg, .int .i64 d.wire, .int .i64 d.want, .int .i64 d.utf.want, .int .i64 d.utf.low, .int .i64 d.utf.high, .int .i64 d.end_.kind, .int .i64 d.end_.field, .int .u64 d.end_.bits, .int .i64 d.end_.len, .str d.end_.text, .int .i64 d.end_.code, .int .i64 d.end_.at_, .own 3], .tree d.plan.shapes, .lst .lev d.stack, .lst .ev ([] : List Ev)] (.tup []) z4) ∧ (.tup [.agg (oDcd0_5 0 1 z1.d), vO 2] : S) = .tup [.agg z6, vO 2] ∧ ([.tree z1.d.plan.shapes, .lst .lev z1.d.stack, .lst .ev z1.out] : List Blk) = [.tree z3.d.plan.shapes, .lst .lev z3.d.stack, .lst .ev z3.out]) ∧ (z7 = false → z5 = .tup [.agg z6, vO 2] ∧ z2 = [.tree z3.d.plan.shapes, .lst .lev z3.d.stack, .lst .ev z3.out])) ∧ ((takesD d) = false → z5 = .tup [.agg z6, vO 2] ∧ z2 = [.tree z3.d.plan.shapes, .lst .lev z3.d.stack, .lst .ev z3.out])) ∧ ((decOk d) = false → z5 = .tup [.agg z6, vO 2] ∧ z2 = [.tree z3.d.plan.shapes, .lst .lev z3.d.stack, .lst .ev z3.out]))) (by kernel_rfl) ?_
  refine ⟨(copyDec_i d (by omega) (hp2) (by omega)), (decOk_i d (by omega) (by omega)), fun h1 => ?_, fun h1 => ?_⟩
  have hok : decOk d = true := h1
  have hmw := decOk_mw hok hp4
  have hlv := levelsOk_b hmw.lv
  have hpt := planOk_t hlv.1
  have htb := topL_b hmw.lv
  have hbb := hmw.b0
  have hat := hmw.at_
  have hwt := hmw.want
  have hwd := widthD_b d
  refine ⟨(takes_i d), fun h2 => ?_, fun h2 => ?_⟩
  have htk := h2
  simp only [takesD, Bool.and_eq_true, Bool.not_eq_true', decide_eq_false_iff_not, decide_eq_true_eq] at htk
  have hst := decOk_st hok htk.1
  refine ⟨(isByte_i _), fun h3 => have p3 := within_t h3; ?_, fun h3 => have p3 := within_f h3; ?_⟩
  have hwi := within_t h3
  refine ⟨(byte_i (⟨d, ([] : List Ev)⟩ : Mac) _ (hmw) (by simp only [List.length_append, List.length_cons, List.length_nil, List.length_set, List.length_take]; omega) (by omega) (by simp_all) (hst.2.1) (hst.2.2.1)), ?_⟩
  refine have hm1 : (stepB d b).d = (byteM (⟨d, ([] : List Ev)⟩ : Mac) b).d := ?_; ?_
  rotate_left
  refine have hm2 : (stepB d b).out = (byteM (⟨d, ([] : List Ev)⟩ : Mac) b).out := ?_; ?_
  rotate_left
  exact ⟨(by rw [hm1] <;> rfl), (by rw [hm1, hm2] <;> rfl)⟩
  refine have hm1 : (stepB d b).d = d := ?_; ?_
  rotate_left
  refine have hm2 : (stepB d b).out = ([] : List Ev) := ?_; ?_
  rotate_left
  exact ⟨(by rw [hm1] <;> rfl), (by rw [hm1, hm2] <;> rfl)⟩
  refine have hm1 : (stepB d b).d = d := ?_; ?_
  rotate_left
  refine have hm2 : (stepB d b).out = ([] : List Ev) := ?_; ?_
  rotate_left
  exact ⟨(by rw [hm1] <;> rfl), (by rw [hm1, hm2] <;> rfl)⟩
  refine have hm1 : (stepB d b).d = d := ?_; ?_
  rotate_left
  refine have hm2 : (stepB d b).out = ([] : List Ev) := ?_; ?_
  rotate_left
  exact ⟨(by rw [hm1] <;> rfl), (by rw [hm1, hm2] <;> rfl)⟩
  all_goals first | (simp [stepB, *]; done) | (simp_all [stepB]; done) | (grind [stepB])
end Go.Proofs.YtecljjcmjongfaaGreat.Ax
namespace Go.Proofs.YtecljjcmjongfaaGreat.Ax
open Go.RowKit
set_option linter.unusedSimpArgs false
set_option linter.unusedVariables false
theorem law_StepByte (d : Dcd) (b : Int) (hp1 : ((List.length (d).plan.shapes : Nat) : Int) ≤ 9223372036854775807) (hp2 : ∀ e ∈ (d).plan.shapes, (e.fields.length : Int) ≤ 9223372036854775807) (hp3 : ((List.length (d).stack : Nat) : Int) ≤ 9223372036854775807) (hp4 : ((List.length (d).end_.text : Nat) : Int) ≤ 9223372036854775807) (hp5 : (0 : Int) ≤ (d).scan.bits ∧ (d).scan.bits ≤ 18446744073709551615) : Fun Tryz.prog 7 [.agg (cDcd d), vI b] [] (.v (vB true)) [] := by
  have hN : bigN = 274877906944 := rfl
  refine fun_ofw Tryz.func7 (by kernel_rfl) (by kernel_rfl) (w := let z2 := stepB d b; let z1 := 1 + ((List.length (z2.d).plan.shapes : Nat) : Int) + 5 * ((shF (z2.d).plan.shapes : Nat) : Int); let z3 := z1 + 2 * ((List.length (z2.d).stack : Nat) : Int); let z4 := 1 + ((List.length (d).plan.shapes : Nat) : Int) + 5 * ((shF (d).plan.shapes : Nat) : Int); let z5 := (((List.length (z2.d).stack) : Nat) : Int); let z6 := (((z2.out.length) : Nat) : Int); let z7 := markL mkLev 2 z1 (List.length (z2.d).stack); let z8 := markL mkEv 7 z3 (z2.out.length); let z9 := oDcd0_5 0 1 d; let z10 := (z2.out.length : Int); let z11 := oDcd0_5 0 1 z2.d; let z12 := (!true) = false; let z13 := markSh 1 (z2.d).plan.shapes; let z14 := ((List.length (d).stack : Nat) : Int); let z15 := z1 + 2 * z5; let z16 := vI (z3 + 7 * z6); let z17 := (!decide (z3 + 7 * z6 = z3 + 7 * z10)) = false; let z18 := cDcd z2.d; let z19 := markL mkLev 2 z4 (List.length (d).stack); let z20 := (decide (z1 + 2 * z5 < 0)) = false; let z21 := (decide (z3 + 7 * z6 < 0)) = false; (.seg [.call [] (.v (vI (szDcd 1048576 d))) []] (.br (.leaf () []) (.seg [.call [] (.v (.agg z9)) [.tree d.plan.shapes, .lst .lev d.stack], .call [] (.tup [.agg z11, vO 2]) [.tree z2.d.plan.shapes, .lst .lev z2.d.stack, .lst .ev z2.out], .call [] (.v (.agg z9)) [.tree d.plan.shapes, .lst .lev d.stack], .call [] (.tup [.agg z11, vO 2]) [.tree z2.d.plan.shapes, .lst .lev z2.d.stack, .lst .ev z2.out], .call [] (.v (vB true)) [], .br false, .call [] (.v (vB true)) [], .br false, .ord (os 5 [2, 3]) [], .call [] (.v (.agg z9)) [.tree d.plan.shapes, .lst .lev d.stack], .call [] (.v (vB true)) [], .br false, .call [7, 8] (.v (vI (z4 + 2 * z14))) [.tree (markSh 1 (d).plan.shapes), .lst .lev z19], .br false, .call [] (.v (vB true)) [], .br false, .call [] (.v (vB true)) [], .br false, .call [10, 11] (.v (vI z3)) [.tree z13, .lst .lev z7], .call [12] (.v (vI (z3 + 7 * z10))) [.lst .ev z8], .call [] (.v (vI z15)) [], .br false, .call [] (.v z16) [], .br false, .br false, .call [] (.v (.agg z9)) [.tree d.plan.shapes, .lst .lev d.stack], .call [] (.tup [.agg z11, vO 2]) [.tree z2.d.plan.shapes, .lst .lev z2.d.stack, .lst .ev z2.out], .call [] (.v (vB true)) [], .br false, .call [] (.v (vB true)) [], .br false, .call [] (.v (vI z15)) [], .br false, .call [] (.v z16) [], .br false, .br false] (.leaf () []))), (Fun Tryz.prog 34 [.agg (cDcd d), vI 1048576] [] (.v (vI (szDcd 1048576 d))) []) ∧ ((decide (szDcd 1048576 d < 0)) = true → (.v (vB true) : S) = .v (vB true) ∧ ([] : List Blk) = []) ∧ ((decide (szDcd 1048576 d < 0)) = false → (Fun Tryz.prog 36 [.agg (cDcd d)] [] (.v (.agg z9)) [.tree d.plan.shapes, .lst .lev d.stack]) ∧ (Fun Tryz.prog 35 [.agg (cDcd d), vI b] [] (.tup [.agg z11, vO 2]) [.tree z2.d.plan.shapes, .lst .lev z2.d.stack, .lst .ev z2.out]) ∧ (Fun Tryz.prog 36 [.agg (cDcd d)] [] (.v (.agg z9)) [.tree d.plan.shapes, .lst .lev d.stack]) ∧ (Fun Tryz.prog 37 [.agg (cDcd d), vI b] [] (.tup [.agg z11, vO 2]) [.tree z2.d.plan.shapes, .lst .lev z2.d.stack, .lst .ev z2.out]) ∧ (Fun Tryz.prog 38 [.agg z18, .agg z18] [] (.v (vB true)) []) ∧ z12 ∧ (Fun Tryz.prog 16 [.c (.seq .ev z2.out), .c (.seq .ev z2.out)] [] (.v (vB true)) []) ∧ z12 ∧ (Fun Tryz.prog 36 [.agg (cDcd d)] [] (.v (.agg z9)) [.tree d.plan.shapes, .lst .lev d.stack]) ∧ (Fun Tryz.prog 38 [.agg (cDcd d), .agg (cDcd d)] [] (.v (vB true)) []) ∧ z12 ∧ (Fun Tryz.prog 39 [.agg z9, vI 1] [.tree d.plan.shapes, .lst .lev d.stack] (.v (vI (z4 + 2 * z14))) [.tree (markSh 1 (d).plan.shapes), .lst .lev z19]) ∧ ((decide (z4 + 2 * z14 < 0)) = false) ∧ (Fun Tryz.prog 38 [.agg z18, .agg z18] [] (.v (vB true)) []) ∧ z12 ∧ (Fun Tryz.prog 16 [.c (.seq .ev z2.out), .c (.seq .ev z2.out)] [] (.v (vB true)) []) ∧ z12 ∧ (Fun Tryz.prog 39 [.agg z11, vI 1] [.tree z2.d.plan.shapes, .lst .lev z2.d.stack] (.v (vI z3)) [.tree z13, .lst .lev z7]) ∧ (Fun Tryz.prog 19 [vO 0, vI z3] [.lst .ev z2.out] (.v (vI (z3 + 7 * z10))) [.lst .ev z8]) ∧ (Fun Tryz.prog 40 [.agg [.seq .shp z13, .int .i64 z2.d.plan.root, .int .i64 z2.d.plan.deep, .int .i64 z2.d.plan.most, .int .i64 z2.d.mode, .seq .lev z7, .int .u64 z2.d.scan.bits, .int .i64 z2.d.scan.have_, .int .i64 z2.d.start, .int .i64 z2.d.at_, .int .i64 z2.d.field.number, .int .i64 z2.d.field.kind, .bool z2.d.field.rep, .bool z2.d.field.packed, .int .i64 z2.d.field.msg, .int .i64 z2.d.wire, .int .i64 z2.d.want, .int .i64 z2.d.utf.want, .int .i64 z2.d.utf.low, .int .i64 z2.d.utf.high, .int .i64 z2.d.end_.kind, .int .i64 z2.d.end_.field, .int .u64 z2.d.end_.bits, .int .i64 z2.d.end_.len, .str z2.d.end_.text, .int .i64 z2.d.end_.code, .int .i64 z2.d.end_.at_], vI 1] [] (.v (vI z15)) []) ∧ z20 ∧ (Fun Tryz.prog 20 [.c (.seq .ev z8), vI z15] [] (.v z16) []) ∧ z21 ∧ z17 ∧ (Fun Tryz.prog 36 [.agg (cDcd d)] [] (.v (.agg z9)) [.tree d.plan.shapes, .lst .lev d.stack]) ∧ (Fun Tryz.prog 37 [.agg (cDcd d), vI b] [] (.tup [.agg z11, vO 2]) [.tree z2.d.plan.shapes, .lst .lev z2.d.stack, .lst .ev z2.out]) ∧ (Fun Tryz.prog 38 [.agg z18, .agg z18] [] (.v (vB true)) []) ∧ z12 ∧ (Fun Tryz.prog 16 [.c (.seq .ev z2.out), .c (.seq .ev z2.out)] [] (.v (vB true)) []) ∧ z12 ∧ (Fun Tryz.prog 40 [.agg [.seq .shp z13, .int .i64 z2.d.plan.root, .int .i64 z2.d.plan.deep, .int .i64 z2.d.plan.most, .int .i64 z2.d.mode, .seq .lev z7, .int .u64 z2.d.scan.bits, .int .i64 z2.d.scan.have_, .int .i64 z2.d.start, .int .i64 z2.d.at_, .int .i64 z2.d.field.number, .int .i64 z2.d.field.kind, .bool z2.d.field.rep, .bool z2.d.field.packed, .int .i64 z2.d.field.msg, .int .i64 z2.d.wire, .int .i64 z2.d.want, .int .i64 z2.d.utf.want, .int .i64 z2.d.utf.low, .int .i64 z2.d.utf.high, .int .i64 z2.d.end_.kind, .int .i64 z2.d.end_.field, .int .u64 z2.d.end_.bits, .int .i64 z2.d.end_.len, .str z2.d.end_.text, .int .i64 z2.d.end_.code, .int .i64 z2.d.end_.at_], vI 1] [] (.v (vI z15)) []) ∧ z20 ∧ (Fun Tryz.prog 20 [.c (.seq .ev z8), vI z15] [] (.v z16) []) ∧ z21 ∧ z17 ∧ (.v (vB true) : S) = .v (vB true) ∧ ([] : List Blk) = []))) (by kernel_rfl) ?_
  refine ⟨(szDcd_ok d _ (by omega) (by omega) (hp2) (by omega) (by omega)), fun h1 => have p1 := of_decide_eq_true h1; ?_, fun h1 => have p1 := of_decide_eq_false h1; ?_⟩
  exact ⟨rfl, rfl⟩
  have zd := (szDcd_b (left := 1048576) (d := d) (by decide) (by decide)).2.2 (by omega)
  have zf : ∀ e ∈ d.plan.shapes, e.fields.length ≤ bigN := fun e he => by have := zd.2.1 e he; omega
  have zs := stepB_same (d := d) (b := b)
  have zo := stepB_len (d := d) (b := b)
  have zh : shF (stepB d b).d.plan.shapes = shF d.plan.shapes := by rw [zs.1]
  have zsf : ∀ e ∈ (stepB d b).d.plan.shapes, e.fields.length ≤ bigN := by rw [zs.1]; exact zf
  have zsl : List.length (stepB d b).d.plan.shapes = d.plan.shapes.length := by rw [zs.1]
  exact ⟨(toDcd_ok d (by omega) (zd.2.1) (by omega)), (stepB_s d _ (by omega) (zd.2.1) (by omega) (by omega)), (toDcd_ok d (by omega) (zd.2.1) (by omega)), (stepB_i d _ (by omega) (zd.2.1) (by omega) (by omega)), (eqDcd_ok (stepB d b).d (by omega) (zsf) (by omega)), (by decide), (eqEventS_ok _ (by omega)), (by decide), (toDcd_ok d (by omega) (zd.2.1) (by omega)), (eqDcd_ok d (by omega) (zf) (by omega)), (by decide), (markDcd_ok d _ (by omega) (by omega) (by omega) (by omega)), (decide_eq_false (by omega)), (eqDcd_ok (stepB d b).d (by omega) (zsf) (by omega)), (by decide), (eqEventS_ok _ (by omega)), (by decide), (markDcd_ok (stepB d b).d _ (by omega) (by omega) (by omega) (by omega)), (markEventS_ok (stepB d b).out ((1 + ((List.length ((stepB d b).d).plan.shapes : Nat) : Int) + 5 * ((shF ((stepB d b).d).plan.shapes : Nat) : Int)) + 2 * ((List.length ((stepB d b).d).stack : Nat) : Int)) (by omega) (by omega)), (heldDcd_ok (⟨(⟨([] : List Shp), (stepB d b).d.plan.root, (stepB d b).d.plan.deep, (stepB d b).d.plan.most⟩ : Pln), (stepB d b).d.mode, ([] : List Lev), (stepB d b).d.scan, (stepB d b).d.start, (stepB d b).d.at_, (stepB d b).d.field, (stepB d b).d.wire, (stepB d b).d.want, (stepB d b).d.utf, (stepB d b).d.end_⟩ : Dcd) ((stepB d b).d).plan.shapes (List.length ((stepB d b).d).stack) _ (1 + ((List.length ((stepB d b).d).plan.shapes : Nat) : Int) + 5 * ((shF ((stepB d b).d).plan.shapes : Nat) : Int)) (by omega) (by omega) (by omega) (by omega) (by omega)), (decide_eq_false (by omega)), (heldEventS_ok (List.length (stepB d b).out) ((1 + ((List.length ((stepB d b).d).plan.shapes : Nat) : Int) + 5 * ((shF ((stepB d b).d).plan.shapes : Nat) : Int)) + 2 * ((List.length ((stepB d b).d).stack : Nat) : Int)) (by omega) (by omega)), (decide_eq_false (by omega)), (by simp), (toDcd_ok d (by omega) (zd.2.1) (by omega)), (stepB_i d _ (by omega) (zd.2.1) (by omega) (by omega)), (eqDcd_ok (stepB d b).d (by omega) (zsf) (by omega)), (by decide), (eqEventS_ok _ (by omega)), (by decide), (heldDcd_ok (⟨(⟨([] : List Shp), (stepB d b).d.plan.root, (stepB d b).d.plan.deep, (stepB d b).d.plan.most⟩ : Pln), (stepB d b).d.mode, ([] : List Lev), (stepB d b).d.scan, (stepB d b).d.start, (stepB d b).d.at_, (stepB d b).d.field, (stepB d b).d.wire, (stepB d b).d.want, (stepB d b).d.utf, (stepB d b).d.end_⟩ : Dcd) ((stepB d b).d).plan.shapes (List.length ((stepB d b).d).stack) _ (1 + ((List.length ((stepB d b).d).plan.shapes : Nat) : Int) + 5 * ((shF ((stepB d b).d).plan.shapes : Nat) : Int)) (by omega) (by omega) (by omega) (by omega) (by omega)), (decide_eq_false (by omega)), (heldEventS_ok (List.length (stepB d b).out) ((1 + ((List.length ((stepB d b).d).plan.shapes : Nat) : Int) + 5 * ((shF ((stepB d b).d).plan.shapes : Nat) : Int)) + 2 * ((List.length ((stepB d b).d).stack : Nat) : Int)) (by omega) (by omega)), (decide_eq_false (by omega)), (by simp), rfl, rfl⟩
end Go.Proofs.YtecljjcmjongfaaGreat.Ax
namespace Go.Proofs.YtecljjcmjongfaaGreat.Ax
open Go.ChangeShapes Go.WideShapes Go.ChangeAt Go.RowKit
theorem cof___laws_Shape : Tryz.prog.cellsOf 22 = 1 := by kernel_rfl
theorem cof_int : Tryz.prog.cellsOf 3 = 1 := by kernel_rfl
theorem cof_bool : Tryz.prog.cellsOf 4 = 1 := by kernel_rfl
def okFld (y : Fld) : Prop := I64 y.number ∧ I64 y.kind ∧ True ∧ True ∧ I64 y.msg
theorem e_fld {H : Type} {tok : TypeId × Value → H} {w : World} {sp : Nat → Bool} {held : Bool} (fuel : Nat) (cs : List Value) (x : DataW H × List MemPlace) (hl : cs.length = 5) (h : DataW.trod tok Tryz.prog w 0 sp held fuel 61 cs = some x) : ∃ y : Fld, All2 Rep0 (enc .fld y) cs ∧ okFld y := by
  match cs, hl with
  | [c0, c1, c2, c3, c4], _ =>
    obtain ⟨xs, n, _, rfl, _, hxl, hf⟩ := DataW.trod_struct Tryz.underlying61 h
    match xs, hxl with
    | [y0, y1, y2, y3, y4], _ =>
      have f0 : DataW.trod tok Tryz.prog w 0 sp held n 3 [c0] = some y0 := by simpa [cof_int] using hf 0 _ rfl
      obtain ⟨i0, e0, _, w0⟩ := DataW.trod_int Tryz.underlying3 f0
      simp only [List.cons.injEq, and_true] at e0
      subst e0
      have f1 : DataW.trod tok Tryz.prog w 0 sp held n 3 [c1] = some y1 := by simpa [cof_int] using hf 1 _ rfl
      obtain ⟨i1, e1, _, w1⟩ := DataW.trod_int Tryz.underlying3 f1
      simp only [List.cons.injEq, and_true] at e1
      subst e1
      have f2 : DataW.trod tok Tryz.prog w 0 sp held n 4 [c2] = some y2 := by simpa [cof_bool] using hf 2 _ rfl
      obtain ⟨i2, e2⟩ := bool_trod Tryz.underlying4 f2
      simp only [List.cons.injEq, and_true] at e2
      subst e2
      have f3 : DataW.trod tok Tryz.prog w 0 sp held n 4 [c3] = some y3 := by simpa [cof_bool] using hf 3 _ rfl
      obtain ⟨i3, e3⟩ := bool_trod Tryz.underlying4 f3
      simp only [List.cons.injEq, and_true] at e3
      subst e3
      have f4 : DataW.trod tok Tryz.prog w 0 sp held n 3 [c4] = some y4 := by simpa [cof_int] using hf 4 _ rfl
      obtain ⟨i4, e4, _, w4⟩ := DataW.trod_int Tryz.underlying3 f4
      simp only [List.cons.injEq, and_true] at e4
      subst e4
      exact ⟨⟨i0, i1, i2, i3, i4⟩, .cons (show Rep0 (.int .i64 i0) _ from rfl) (.cons (show Rep0 (.int .i64 i1) _ from rfl) (.cons (show Rep0 (.bool i2) _ from rfl) (.cons (show Rep0 (.bool i3) _ from rfl) (.cons (show Rep0 (.int .i64 i4) _ from rfl) .nil)))), ⟨bounds_i64 w0, bounds_i64 w1, trivial, trivial, bounds_i64 w4⟩⟩
theorem cof___laws_Field : Tryz.prog.cellsOf 164 = 1 := by kernel_rfl
def okShp (y : Shp) : Prop := I64 y.id ∧ (Le63 y.fields.length ∧ ∀ e ∈ y.fields, okFld e)
theorem cof_laws_Field : Tryz.prog.cellsOf 61 = 5 := by kernel_rfl
theorem e_shp {H : Type} {tok : TypeId × Value → H} {w : World} {sp : Nat → Bool} {held : Bool} (fuel : Nat) (cs : List Value) (x : DataW H × List MemPlace) (hl : cs.length = 2) (h : DataW.trod tok Tryz.prog w 0 sp held fuel 166 cs = some x) : ∃ y : Shp, All2 (Rep1 w (RR w)) (enc .shp y) cs ∧ okShp y := by
  match cs, hl with
  | [c0, c1], _ =>
    obtain ⟨xs, n, _, rfl, _, hxl, hf⟩ := DataW.trod_struct Tryz.underlying166 h
    match xs, hxl with
    | [y0, y1], _ =>
      have f0 : DataW.trod tok Tryz.prog w 0 sp held n 3 [c0] = some y0 := by simpa [cof_int] using hf 0 _ rfl
      obtain ⟨i0, e0, _, w0⟩ := DataW.trod_int Tryz.underlying3 f0
      simp only [List.cons.injEq, and_true] at e0
      subst e0
      have f1 : DataW.trod tok Tryz.prog w 0 sp held n 164 [c1] = some y1 := by simpa [cof___laws_Field] using hf 1 _ rfl
      obtain ⟨i1, s1, l1, k1⟩ := open_sq (cr := Rep0) (t := .fld) (Q := fun e => okFld e) Tryz.underlying164 cof_laws_Field (by decide) e_fld f1
      exact ⟨⟨i0, i1⟩, .cons (rep0_1 (show Rep0 (.int .i64 i0) _ from rfl)) (.cons s1 .nil), ⟨bounds_i64 w0, ⟨l1, k1⟩⟩⟩
theorem cof_laws_Schema : Tryz.prog.cellsOf 24 = 1 := by kernel_rfl
def okPln (y : Pln) : Prop := (Le63 y.shapes.length ∧ ∀ e ∈ y.shapes, okShp e) ∧ I64 y.root ∧ I64 y.deep ∧ I64 y.most
theorem cof_laws_Shape : Tryz.prog.cellsOf 166 = 2 := by kernel_rfl
theorem o_Pln {H : Type} {tok : TypeId × Value → H} {w : World} {sp : Nat → Bool} {held : Bool} {fuel : Nat} {cs : List Value} {x : DataW H × List MemPlace} (hl : cs.length = 4) (h : DataW.trod tok Tryz.prog w 0 sp held fuel 26 cs = some x) : ∃ y : Pln, All2 (RepC [] P0 w (RR w)) ([.seq .shp y.shapes, .int .i64 y.root, .int .i64 y.deep, .int .i64 y.most]) cs ∧ okPln y := by
  match cs, hl with
  | [c0, c1, c2, c3], _ =>
    obtain ⟨xs, n, _, rfl, _, hxl, hf⟩ := DataW.trod_struct Tryz.underlying26 h
    match xs, hxl with
    | [y0, y1, y2, y3], _ =>
      have f0 : DataW.trod tok Tryz.prog w 0 sp held n 24 [c0] = some y0 := by simpa [cof_laws_Schema] using hf 0 _ rfl
      obtain ⟨xs0, n0, _, rfl, _, hxl0, hf0⟩ := DataW.trod_struct Tryz.underlying24 f0
      obtain ⟨z0, rfl⟩ := List.length_eq_one_iff.1 hxl0
      have g0 : DataW.trod tok Tryz.prog w 0 sp held n0 22 [c0] = some z0 := by simpa [cof___laws_Shape] using hf0 0 _ rfl
      obtain ⟨i0, s0, l0, k0⟩ := open_sq (cr := (Rep1 w (RR w))) (t := .shp) (Q := fun e => okShp e) Tryz.underlying22 cof_laws_Shape (by decide) e_shp g0
      have f1 : DataW.trod tok Tryz.prog w 0 sp held n 3 [c1] = some y1 := by simpa [cof_int] using hf 1 _ rfl
      obtain ⟨i1, e1, _, w1⟩ := DataW.trod_int Tryz.underlying3 f1
      simp only [List.cons.injEq, and_true] at e1
      subst e1
      have f2 : DataW.trod tok Tryz.prog w 0 sp held n 3 [c2] = some y2 := by simpa [cof_int] using hf 2 _ rfl
      obtain ⟨i2, e2, _, w2⟩ := DataW.trod_int Tryz.underlying3 f2
      simp only [List.cons.injEq, and_true] at e2
      subst e2
      have f3 : DataW.trod tok Tryz.prog w 0 sp held n 3 [c3] = some y3 := by simpa [cof_int] using hf 3 _ rfl
      obtain ⟨i3, e3, _, w3⟩ := DataW.trod_int Tryz.underlying3 f3
      simp only [List.cons.injEq, and_true] at e3
      subst e3
      exact ⟨⟨i0, i1, i2, i3⟩, .cons s0 (.cons (rep0_C (show Rep0 (.int .i64 i1) _ from rfl)) (.cons (rep0_C (show Rep0 (.int .i64 i2) _ from rfl)) (.cons (rep0_C (show Rep0 (.int .i64 i3) _ from rfl)) .nil))), ⟨⟨l0, k0⟩, bounds_i64 w1, bounds_i64 w2, bounds_i64 w3⟩⟩
theorem cof_laws_Plan : Tryz.prog.cellsOf 26 = 4 := by kernel_rfl
def okLev (y : Lev) : Prop := I64 y.msg ∧ I64 y.left
theorem e_lev {H : Type} {tok : TypeId × Value → H} {w : World} {sp : Nat → Bool} {held : Bool} (fuel : Nat) (cs : List Value) (x : DataW H × List MemPlace) (hl : cs.length = 2) (h : DataW.trod tok Tryz.prog w 0 sp held fuel 158 cs = some x) : ∃ y : Lev, All2 Rep0 (enc .lev y) cs ∧ okLev y := by
  match cs, hl with
  | [c0, c1], _ =>
    obtain ⟨xs, n, _, rfl, _, hxl, hf⟩ := DataW.trod_struct Tryz.underlying158 h
    match xs, hxl with
    | [y0, y1], _ =>
      have f0 : DataW.trod tok Tryz.prog w 0 sp held n 3 [c0] = some y0 := by simpa [cof_int] using hf 0 _ rfl
      obtain ⟨i0, e0, _, w0⟩ := DataW.trod_int Tryz.underlying3 f0
      simp only [List.cons.injEq, and_true] at e0
      subst e0
      have f1 : DataW.trod tok Tryz.prog w 0 sp held n 3 [c1] = some y1 := by simpa [cof_int] using hf 1 _ rfl
      obtain ⟨i1, e1, _, w1⟩ := DataW.trod_int Tryz.underlying3 f1
      simp only [List.cons.injEq, and_true] at e1
      subst e1
      exact ⟨⟨i0, i1⟩, .cons (show Rep0 (.int .i64 i0) _ from rfl) (.cons (show Rep0 (.int .i64 i1) _ from rfl) .nil), ⟨bounds_i64 w0, bounds_i64 w1⟩⟩
theorem cof___laws_Level : Tryz.prog.cellsOf 56 = 1 := by kernel_rfl
theorem cof_uint64 : Tryz.prog.cellsOf 57 = 1 := by kernel_rfl
def okScn (y : Scn) : Prop := U64 y.bits ∧ I64 y.have_
theorem o_Scn {H : Type} {tok : TypeId × Value → H} {w : World} {sp : Nat → Bool} {held : Bool} {fuel : Nat} {cs : List Value} {x : DataW H × List MemPlace} (hl : cs.length = 2) (h : DataW.trod tok Tryz.prog w 0 sp held fuel 59 cs = some x) : ∃ y : Scn, All2 (RepC [] P0 w (RR w)) ([.int .u64 y.bits, .int .i64 y.have_]) cs ∧ okScn y := by
  match cs, hl with
  | [c0, c1], _ =>
    obtain ⟨xs, n, _, rfl, _, hxl, hf⟩ := DataW.trod_struct Tryz.underlying59 h
    match xs, hxl with
    | [y0, y1], _ =>
      have f0 : DataW.trod tok Tryz.prog w 0 sp held n 57 [c0] = some y0 := by simpa [cof_uint64] using hf 0 _ rfl
      obtain ⟨i0, e0, _, w0⟩ := DataW.trod_int Tryz.underlying57 f0
      simp only [List.cons.injEq, and_true] at e0
      subst e0
      have f1 : DataW.trod tok Tryz.prog w 0 sp held n 3 [c1] = some y1 := by simpa [cof_int] using hf 1 _ rfl
      obtain ⟨i1, e1, _, w1⟩ := DataW.trod_int Tryz.underlying3 f1
      simp only [List.cons.injEq, and_true] at e1
      subst e1
      exact ⟨⟨i0, i1⟩, .cons (rep0_C (show Rep0 (.int .u64 i0) _ from rfl)) (.cons (rep0_C (show Rep0 (.int .i64 i1) _ from rfl)) .nil), ⟨bounds_u64 w0, bounds_i64 w1⟩⟩
theorem cof_laws_Scan : Tryz.prog.cellsOf 59 = 2 := by kernel_rfl
theorem o_Fld {H : Type} {tok : TypeId × Value → H} {w : World} {sp : Nat → Bool} {held : Bool} {fuel : Nat} {cs : List Value} {x : DataW H × List MemPlace} (hl : cs.length = 5) (h : DataW.trod tok Tryz.prog w 0 sp held fuel 61 cs = some x) : ∃ y : Fld, All2 (RepC [] P0 w (RR w)) ([.int .i64 y.number, .int .i64 y.kind, .bool y.rep, .bool y.packed, .int .i64 y.msg]) cs ∧ okFld y := by
  match cs, hl with
  | [c0, c1, c2, c3, c4], _ =>
    obtain ⟨xs, n, _, rfl, _, hxl, hf⟩ := DataW.trod_struct Tryz.underlying61 h
    match xs, hxl with
    | [y0, y1, y2, y3, y4], _ =>
      have f0 : DataW.trod tok Tryz.prog w 0 sp held n 3 [c0] = some y0 := by simpa [cof_int] using hf 0 _ rfl
      obtain ⟨i0, e0, _, w0⟩ := DataW.trod_int Tryz.underlying3 f0
      simp only [List.cons.injEq, and_true] at e0
      subst e0
      have f1 : DataW.trod tok Tryz.prog w 0 sp held n 3 [c1] = some y1 := by simpa [cof_int] using hf 1 _ rfl
      obtain ⟨i1, e1, _, w1⟩ := DataW.trod_int Tryz.underlying3 f1
      simp only [List.cons.injEq, and_true] at e1
      subst e1
      have f2 : DataW.trod tok Tryz.prog w 0 sp held n 4 [c2] = some y2 := by simpa [cof_bool] using hf 2 _ rfl
      obtain ⟨i2, e2⟩ := bool_trod Tryz.underlying4 f2
      simp only [List.cons.injEq, and_true] at e2
      subst e2
      have f3 : DataW.trod tok Tryz.prog w 0 sp held n 4 [c3] = some y3 := by simpa [cof_bool] using hf 3 _ rfl
      obtain ⟨i3, e3⟩ := bool_trod Tryz.underlying4 f3
      simp only [List.cons.injEq, and_true] at e3
      subst e3
      have f4 : DataW.trod tok Tryz.prog w 0 sp held n 3 [c4] = some y4 := by simpa [cof_int] using hf 4 _ rfl
      obtain ⟨i4, e4, _, w4⟩ := DataW.trod_int Tryz.underlying3 f4
      simp only [List.cons.injEq, and_true] at e4
      subst e4
      exact ⟨⟨i0, i1, i2, i3, i4⟩, .cons (rep0_C (show Rep0 (.int .i64 i0) _ from rfl)) (.cons (rep0_C (show Rep0 (.int .i64 i1) _ from rfl)) (.cons (rep0_C (show Rep0 (.bool i2) _ from rfl)) (.cons (rep0_C (show Rep0 (.bool i3) _ from rfl)) (.cons (rep0_C (show Rep0 (.int .i64 i4) _ from rfl)) .nil)))), ⟨bounds_i64 w0, bounds_i64 w1, trivial, trivial, bounds_i64 w4⟩⟩
def okUtf (y : Utf) : Prop := I64 y.want ∧ I64 y.low ∧ I64 y.high
theorem o_Utf {H : Type} {tok : TypeId × Value → H} {w : World} {sp : Nat → Bool} {held : Bool} {fuel : Nat} {cs : List Value} {x : DataW H × List MemPlace} (hl : cs.length = 3) (h : DataW.trod tok Tryz.prog w 0 sp held fuel 63 cs = some x) : ∃ y : Utf, All2 (RepC [] P0 w (RR w)) ([.int .i64 y.want, .int .i64 y.low, .int .i64 y.high]) cs ∧ okUtf y := by
  match cs, hl with
  | [c0, c1, c2], _ =>
    obtain ⟨xs, n, _, rfl, _, hxl, hf⟩ := DataW.trod_struct Tryz.underlying63 h
    match xs, hxl with
    | [y0, y1, y2], _ =>
      have f0 : DataW.trod tok Tryz.prog w 0 sp held n 3 [c0] = some y0 := by simpa [cof_int] using hf 0 _ rfl
      obtain ⟨i0, e0, _, w0⟩ := DataW.trod_int Tryz.underlying3 f0
      simp only [List.cons.injEq, and_true] at e0
      subst e0
      have f1 : DataW.trod tok Tryz.prog w 0 sp held n 3 [c1] = some y1 := by simpa [cof_int] using hf 1 _ rfl
      obtain ⟨i1, e1, _, w1⟩ := DataW.trod_int Tryz.underlying3 f1
      simp only [List.cons.injEq, and_true] at e1
      subst e1
      have f2 : DataW.trod tok Tryz.prog w 0 sp held n 3 [c2] = some y2 := by simpa [cof_int] using hf 2 _ rfl
      obtain ⟨i2, e2, _, w2⟩ := DataW.trod_int Tryz.underlying3 f2
      simp only [List.cons.injEq, and_true] at e2
      subst e2
      exact ⟨⟨i0, i1, i2⟩, .cons (rep0_C (show Rep0 (.int .i64 i0) _ from rfl)) (.cons (rep0_C (show Rep0 (.int .i64 i1) _ from rfl)) (.cons (rep0_C (show Rep0 (.int .i64 i2) _ from rfl)) .nil)), ⟨bounds_i64 w0, bounds_i64 w1, bounds_i64 w2⟩⟩
theorem cof_laws_Utf : Tryz.prog.cellsOf 63 = 3 := by kernel_rfl
theorem cof_string : Tryz.prog.cellsOf 9 = 1 := by kernel_rfl
def okEv (y : Ev) : Prop := I64 y.kind ∧ I64 y.field ∧ U64 y.bits ∧ I64 y.len ∧ Le63 y.text.length ∧ I64 y.code ∧ I64 y.at_
theorem o_Ev {H : Type} {tok : TypeId × Value → H} {w : World} {sp : Nat → Bool} {held : Bool} {fuel : Nat} {cs : List Value} {x : DataW H × List MemPlace} (hl : cs.length = 7) (h : DataW.trod tok Tryz.prog w 0 sp held fuel 65 cs = some x) : ∃ y : Ev, All2 (RepC [] P0 w (RR w)) ([.int .i64 y.kind, .int .i64 y.field, .int .u64 y.bits, .int .i64 y.len, .str y.text, .int .i64 y.code, .int .i64 y.at_]) cs ∧ okEv y := by
  match cs, hl with
  | [c0, c1, c2, c3, c4, c5, c6], _ =>
    obtain ⟨xs, n, _, rfl, _, hxl, hf⟩ := DataW.trod_struct Tryz.underlying65 h
    match xs, hxl with
    | [y0, y1, y2, y3, y4, y5, y6], _ =>
      have f0 : DataW.trod tok Tryz.prog w 0 sp held n 3 [c0] = some y0 := by simpa [cof_int] using hf 0 _ rfl
      obtain ⟨i0, e0, _, w0⟩ := DataW.trod_int Tryz.underlying3 f0
      simp only [List.cons.injEq, and_true] at e0
      subst e0
      have f1 : DataW.trod tok Tryz.prog w 0 sp held n 3 [c1] = some y1 := by simpa [cof_int] using hf 1 _ rfl
      obtain ⟨i1, e1, _, w1⟩ := DataW.trod_int Tryz.underlying3 f1
      simp only [List.cons.injEq, and_true] at e1
      subst e1
      have f2 : DataW.trod tok Tryz.prog w 0 sp held n 57 [c2] = some y2 := by simpa [cof_uint64] using hf 2 _ rfl
      obtain ⟨i2, e2, _, w2⟩ := DataW.trod_int Tryz.underlying57 f2
      simp only [List.cons.injEq, and_true] at e2
      subst e2
      have f3 : DataW.trod tok Tryz.prog w 0 sp held n 3 [c3] = some y3 := by simpa [cof_int] using hf 3 _ rfl
      obtain ⟨i3, e3, _, w3⟩ := DataW.trod_int Tryz.underlying3 f3
      simp only [List.cons.injEq, and_true] at e3
      subst e3
      have f4 : DataW.trod tok Tryz.prog w 0 sp held n 9 [c4] = some y4 := by simpa [cof_string] using hf 4 _ rfl
      obtain ⟨i4, e4, _, w4⟩ := DataW.trod_string Tryz.underlying9 f4
      simp only [List.cons.injEq, and_true] at e4
      subst e4
      have f5 : DataW.trod tok Tryz.prog w 0 sp held n 3 [c5] = some y5 := by simpa [cof_int] using hf 5 _ rfl
      obtain ⟨i5, e5, _, w5⟩ := DataW.trod_int Tryz.underlying3 f5
      simp only [List.cons.injEq, and_true] at e5
      subst e5
      have f6 : DataW.trod tok Tryz.prog w 0 sp held n 3 [c6] = some y6 := by simpa [cof_int] using hf 6 _ rfl
      obtain ⟨i6, e6, _, w6⟩ := DataW.trod_int Tryz.underlying3 f6
      simp only [List.cons.injEq, and_true] at e6
      subst e6
      exact ⟨⟨i0, i1, i2, i3, i4.data.toList, i5, i6⟩, .cons (rep0_C (show Rep0 (.int .i64 i0) _ from rfl)) (.cons (rep0_C (show Rep0 (.int .i64 i1) _ from rfl)) (.cons (rep0_C (show Rep0 (.int .u64 i2) _ from rfl)) (.cons (rep0_C (show Rep0 (.int .i64 i3) _ from rfl)) (.cons (rep0_C (show Rep0 (.str i4.data.toList) _ from str_rep)) (.cons (rep0_C (show Rep0 (.int .i64 i5) _ from rfl)) (.cons (rep0_C (show Rep0 (.int .i64 i6) _ from rfl)) .nil)))))), ⟨bounds_i64 w0, bounds_i64 w1, bounds_u64 w2, bounds_i64 w3, str_le w4, bounds_i64 w5, bounds_i64 w6⟩⟩
theorem cof_laws_Event : Tryz.prog.cellsOf 65 = 7 := by kernel_rfl
def okDcd (y : Dcd) : Prop := okPln y.plan ∧ I64 y.mode ∧ (Le63 y.stack.length ∧ ∀ e ∈ y.stack, okLev e) ∧ okScn y.scan ∧ I64 y.start ∧ I64 y.at_ ∧ okFld y.field ∧ I64 y.wire ∧ I64 y.want ∧ okUtf y.utf ∧ okEv y.end_
theorem cof_laws_Level : Tryz.prog.cellsOf 158 = 2 := by kernel_rfl
theorem o_Dcd {H : Type} {tok : TypeId × Value → H} {w : World} {sp : Nat → Bool} {held : Bool} {fuel : Nat} {cs : List Value} {x : DataW H × List MemPlace} (hl : cs.length = 27) (h : DataW.trod tok Tryz.prog w 0 sp held fuel 67 cs = some x) : ∃ y : Dcd, All2 (RepC [] P0 w (RR w)) ([.seq .shp y.plan.shapes, .int .i64 y.plan.root, .int .i64 y.plan.deep, .int .i64 y.plan.most, .int .i64 y.mode, .seq .lev y.stack, .int .u64 y.scan.bits, .int .i64 y.scan.have_, .int .i64 y.start, .int .i64 y.at_, .int .i64 y.field.number, .int .i64 y.field.kind, .bool y.field.rep, .bool y.field.packed, .int .i64 y.field.msg, .int .i64 y.wire, .int .i64 y.want, .int .i64 y.utf.want, .int .i64 y.utf.low, .int .i64 y.utf.high, .int .i64 y.end_.kind, .int .i64 y.end_.field, .int .u64 y.end_.bits, .int .i64 y.end_.len, .str y.end_.text, .int .i64 y.end_.code, .int .i64 y.end_.at_]) cs ∧ okDcd y := by
  match cs, hl with
  | [c0, c1, c2, c3, c4, c5, c6, c7, c8, c9, c10, c11, c12, c13, c14, c15, c16, c17, c18, c19, c20, c21, c22, c23, c24, c25, c26], _ =>
    obtain ⟨xs, n, _, rfl, _, hxl, hf⟩ := DataW.trod_struct Tryz.underlying67 h
    match xs, hxl with
    | [y0, y1, y2, y3, y4, y5, y6, y7, y8, y9, y10], _ =>
      have f0 : DataW.trod tok Tryz.prog w 0 sp held n 26 [c0, c1, c2, c3] = some y0 := by simpa [cof_laws_Plan] using hf 0 _ rfl
      obtain ⟨i0, s0, k0⟩ := o_Pln rfl f0
      obtain ⟨a0_0, t0_0⟩ := s0.inv
      obtain ⟨a0_1, t0_1⟩ := t0_0.inv
      obtain ⟨a0_2, t0_2⟩ := t0_1.inv
      obtain ⟨a0_3, t0_3⟩ := t0_2.inv
      have f1 : DataW.trod tok Tryz.prog w 0 sp held n 3 [c4] = some y1 := by simpa [cof_int] using hf 1 _ rfl
      obtain ⟨i1, e1, _, w1⟩ := DataW.trod_int Tryz.underlying3 f1
      simp only [List.cons.injEq, and_true] at e1
      subst e1
      have f2 : DataW.trod tok Tryz.prog w 0 sp held n 56 [c5] = some y2 := by simpa [cof___laws_Level] using hf 2 _ rfl
      obtain ⟨i2, s2, l2, k2⟩ := open_sq (cr := (Rep1 w (RR w))) (t := .lev) (Q := fun e => okLev e) Tryz.underlying56 cof_laws_Level (by decide) (fun fuel cs x hl h => by obtain ⟨y, h1, h2⟩ := e_lev fuel cs x hl h; exact ⟨y, all_rep0_1 h1, h2⟩) f2
      have f3 : DataW.trod tok Tryz.prog w 0 sp held n 59 [c6, c7] = some y3 := by simpa [cof_laws_Scan] using hf 3 _ rfl
      obtain ⟨i3, s3, k3⟩ := o_Scn rfl f3
      obtain ⟨a3_0, t3_0⟩ := s3.inv
      obtain ⟨a3_1, t3_1⟩ := t3_0.inv
      have f4 : DataW.trod tok Tryz.prog w 0 sp held n 3 [c8] = some y4 := by simpa [cof_int] using hf 4 _ rfl
      obtain ⟨i4, e4, _, w4⟩ := DataW.trod_int Tryz.underlying3 f4
      simp only [List.cons.injEq, and_true] at e4
      subst e4
      have f5 : DataW.trod tok Tryz.prog w 0 sp held n 3 [c9] = some y5 := by simpa [cof_int] using hf 5 _ rfl
      obtain ⟨i5, e5, _, w5⟩ := DataW.trod_int Tryz.underlying3 f5
      simp only [List.cons.injEq, and_true] at e5
      subst e5
      have f6 : DataW.trod tok Tryz.prog w 0 sp held n 61 [c10, c11, c12, c13, c14] = some y6 := by simpa [cof_laws_Field] using hf 6 _ rfl
      obtain ⟨i6, s6, k6⟩ := o_Fld rfl f6
      obtain ⟨a6_0, t6_0⟩ := s6.inv
      obtain ⟨a6_1, t6_1⟩ := t6_0.inv
      obtain ⟨a6_2, t6_2⟩ := t6_1.inv
      obtain ⟨a6_3, t6_3⟩ := t6_2.inv
      obtain ⟨a6_4, t6_4⟩ := t6_3.inv
      have f7 : DataW.trod tok Tryz.prog w 0 sp held n 3 [c15] = some y7 := by simpa [cof_int] using hf 7 _ rfl
      obtain ⟨i7, e7, _, w7⟩ := DataW.trod_int Tryz.underlying3 f7
      simp only [List.cons.injEq, and_true] at e7
      subst e7
      have f8 : DataW.trod tok Tryz.prog w 0 sp held n 3 [c16] = some y8 := by simpa [cof_int] using hf 8 _ rfl
      obtain ⟨i8, e8, _, w8⟩ := DataW.trod_int Tryz.underlying3 f8
      simp only [List.cons.injEq, and_true] at e8
      subst e8
      have f9 : DataW.trod tok Tryz.prog w 0 sp held n 63 [c17, c18, c19] = some y9 := by simpa [cof_laws_Utf] using hf 9 _ rfl
      obtain ⟨i9, s9, k9⟩ := o_Utf rfl f9
      obtain ⟨a9_0, t9_0⟩ := s9.inv
      obtain ⟨a9_1, t9_1⟩ := t9_0.inv
      obtain ⟨a9_2, t9_2⟩ := t9_1.inv
      have f10 : DataW.trod tok Tryz.prog w 0 sp held n 65 [c20, c21, c22, c23, c24, c25, c26] = some y10 := by simpa [cof_laws_Event] using hf 10 _ rfl
      obtain ⟨i10, s10, k10⟩ := o_Ev rfl f10
      obtain ⟨a10_0, t10_0⟩ := s10.inv
      obtain ⟨a10_1, t10_1⟩ := t10_0.inv
      obtain ⟨a10_2, t10_2⟩ := t10_1.inv
      obtain ⟨a10_3, t10_3⟩ := t10_2.inv
      obtain ⟨a10_4, t10_4⟩ := t10_3.inv
      obtain ⟨a10_5, t10_5⟩ := t10_4.inv
      obtain ⟨a10_6, t10_6⟩ := t10_5.inv
      exact ⟨⟨i0, i1, i2, i3, i4, i5, i6, i7, i8, i9, i10⟩, .cons a0_0 (.cons a0_1 (.cons a0_2 (.cons a0_3 (.cons (rep0_C (show Rep0 (.int .i64 i1) _ from rfl)) (.cons s2 (.cons a3_0 (.cons a3_1 (.cons (rep0_C (show Rep0 (.int .i64 i4) _ from rfl)) (.cons (rep0_C (show Rep0 (.int .i64 i5) _ from rfl)) (.cons a6_0 (.cons a6_1 (.cons a6_2 (.cons a6_3 (.cons a6_4 (.cons (rep0_C (show Rep0 (.int .i64 i7) _ from rfl)) (.cons (rep0_C (show Rep0 (.int .i64 i8) _ from rfl)) (.cons a9_0 (.cons a9_1 (.cons a9_2 (.cons a10_0 (.cons a10_1 (.cons a10_2 (.cons a10_3 (.cons a10_4 (.cons a10_5 (.cons a10_6 .nil)))))))))))))))))))))))))), ⟨k0, bounds_i64 w1, ⟨l2, k2⟩, k3, bounds_i64 w4, bounds_i64 w5, k6, bounds_i64 w7, bounds_i64 w8, k9, k10⟩⟩
theorem cof_laws_Dec : Tryz.prog.cellsOf 67 = 27 := by kernel_rfl
end Go.Proofs.YtecljjcmjongfaaGreat.Ax
