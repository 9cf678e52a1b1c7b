/- The reference: bytes of numbers. A byte: the reference. Whole inputs: the reference. The law StepAll. Opening what the laws are handed. -/
import Derived.Test.YtecljjcmjongfaaGreatKStepAll6
import Derived.Test.YtecljjcmjongfaaGreatKStepAll5
import Derived.Test.YtecljjcmjongfaaGreatKStepAll3
import Derived.Test.YtecljjcmjongfaaGreatKStepAll1
import Derived.Test.YtecljjcmjongfaaGreatKB4
set_option linter.unusedSimpArgs false
set_option linter.unusedVariables false
namespace Go.Proofs.YtecljjcmjongfaaGreat.Ax
open Go.RowKit
set_option linter.unusedSimpArgs false
set_option linter.unusedVariables false
set_option maxHeartbeats 1600000 in
theorem scan16_s (d : Dcd) (b : Int) (a : Int) (hp1 : MW d) (hp2 : (0 : Int) ≤ b ∧ b ≤ 255) : Fun Tryz.prog 79 [.agg (oDcd0_5 0 1 d), vI b, vI a] [.tree d.plan.shapes, .lst .lev d.stack] (.tup [.agg (oDcd0_5 2 3 (varM ⟨d, []⟩ b a).d), vO 4]) [.dead, .dead, .tree (varM ⟨d, []⟩ b a).d.plan.shapes, .lst .lev (varM ⟨d, []⟩ b a).d.stack, .lst .ev (varM ⟨d, []⟩ b a).out] := by
  have hN : bigN = 274877906944 := rfl
  have hlv := levelsOk_b hp1.lv
  have hpt := planOk_t hlv.1
  have htb := topL_b hp1.lv
  have hbb := hp1.b0
  have hat := hp1.at_
  have hwt := hp1.want
  have hwd := widthD_b d
  have hsb := scanByte_b (b := b) hbb.1 hbb.2
  refine fun_ofw Tryz.func79 (by kernel_rfl) (by kernel_rfl) (w := let zi : Int → C := .int .i64; let z1 : List C := [zi d.at_, zi d.field.number, zi d.field.kind, .bool d.field.rep, .bool d.field.packed, zi d.field.msg, zi d.wire, zi d.want, zi d.utf.want, zi d.utf.low, zi d.utf.high, zi d.end_.kind, zi d.end_.field, .int .u64 d.end_.bits, zi d.end_.len, .str d.end_.text, zi d.end_.code, zi d.end_.at_]; let z4 := (⟨d.plan, d.mode, d.stack, (⟨0, 0⟩ : Scn), d.start, d.at_, d.field, d.wire, d.want, d.utf, d.end_⟩ : Dcd); let z6 := scanByte d.scan b; let z2 := dFail (⟨d.plan, d.mode, d.stack, z6.1, a, d.at_, d.field, d.wire, d.want, d.utf, d.end_⟩ : Dcd) 9 d.at_; let z3 := dFail (⟨d.plan, d.mode, d.stack, z6.1, d.start, d.at_, d.field, d.wire, d.want, d.utf, d.end_⟩ : Dcd) 9 d.at_; let z7 := (⟨d.plan, d.mode, d.stack, (⟨0, 0⟩ : Scn), a, d.at_, d.field, d.wire, d.want, d.utf, d.end_⟩ : Dcd); let z8 := dFail (⟨d.plan, d.mode, d.stack, d.scan, a, d.at_, d.field, d.wire, d.want, d.utf, d.end_⟩ : Dcd) 1 a; let z9 := (.tup [.agg (.own 2 :: zi d.plan.root :: zi d.plan.deep :: zi d.plan.most :: zi d.mode :: .own 3 :: .int .u64 z6.1.bits :: zi z6.1.have_ :: zi a :: z1), vO 4] : S); let z10 : List Blk := [.dead, .dead, .tree z2.plan.shapes, .lst .lev z2.stack, .lst .ev [failEv 9 d.at_]]; let z11 := ([.dead, .dead, .tree d.plan.shapes, .lst .lev d.stack, .lst .ev ([] : List Ev)] : List Blk); let z13 := (.tup [.agg (.own 2 :: zi d.plan.root :: zi d.plan.deep :: zi d.plan.most :: zi d.mode :: .own 3 :: .int .u64 z6.1.bits :: zi z6.1.have_ :: zi d.start :: z1), vO 4] : S); let z14 : List Blk := [.dead, .dead, .tree z3.plan.shapes, .lst .lev z3.stack, .lst .ev [failEv 9 d.at_]]; let z16 : List Blk := [.dead, .dead, .tree z8.plan.shapes, .lst .lev z8.stack, .lst .ev [failEv 1 a]]; let z17 : List Blk := [.dead, .dead, .tree (dFail d 1 a).plan.shapes, .lst .lev (dFail d 1 a).stack, .lst .ev [failEv 1 a]]; let z18 := decide (d.mode = 8); let z19 := decide (d.want = 0); let z20 := oDcd0_5 2 3 z2; let z21 := settleM (valueM ⟨z4, []⟩ z6.1.bits); let z15 : List Blk := [.dead, .dead, .tree z21.d.plan.shapes, .lst .lev z21.d.stack, .lst .ev z21.out]; let z22 := frameM ⟨z7, []⟩ z6.1.bits; let z23 := frameM ⟨z4, []⟩ z6.1.bits; let z24 := longM ⟨z7, []⟩ z6.1.bits; let z25 := longM ⟨z4, []⟩ z6.1.bits; let z28 := tagM ⟨z7, []⟩ z6.1.bits; let z29 := tagM ⟨z4, []⟩ z6.1.bits; let z30 := oDcd0_5 2 3 z3; let z31 := (.tup [.agg z20, vO 4] : S); let z32 := !decide (d.mode = 1); let z33 := decide (topL d = 0); let z36 := decide (z6.2 = 2); let z37 := decide (z6.2 = 0); let z38 := decide (d.mode = 1); let z39 := oDcd0_5 2 3 (dFail d 1 a); let z40 := (.tup [.agg z30, vO 4] : S); let z41 := decide (d.mode = 2); let z42 := oDcd0_5 2 3 z8; let z43 := vI (topL d); let z44 := decide (d.mode = 4); let z45 := oDcd0_5 2 3 z21.d; let z46 := cScn z6.1; let z47 := (.tup [.agg z42, vO 4] : S); let z48 := varM ⟨d, []⟩ b a; let z5 : List Blk := [.dead, .dead, .tree z48.d.plan.shapes, .lst .lev z48.d.stack, .lst .ev z48.out]; let z12 := oDcd0_5 2 3 z48.d; let z26 := z19 = false → z9 = .tup [.agg z12, vO 4] ∧ z11 = z5; let z27 := z18 = false → z9 = .tup [.agg z12, vO 4] ∧ z11 = z5; let z34 := z19 = false → z13 = .tup [.agg z12, vO 4] ∧ z11 = z5; let z35 := z18 = false → z13 = .tup [.agg z12, vO 4] ∧ z11 = z5; let z49 := cScn d.scan; (.br (.br (.seg [.call [] (.tup [.agg z46, vI z6.2]) []] (.br (.seg [.call [0, 1] (.tup [.agg z42, vO 4]) z16] (.leaf () [0, 1, 5, 6, 7])) (.br (.br (.seg [.call [] (.v z43) []] (.br (.seg [.call [0, 1] (.tup [.agg z20, vO 4]) z10] (.leaf () [0, 1, 5, 6, 7])) (.br (.br (.seg [.call [0, 1] (.tup [.agg z20, vO 4]) z10] (.leaf () [0, 1, 5, 6, 7])) (.seg [.ty .ev, .at 0, .cut 3 0, .cut 3 5] (.leaf () [0, 1, 6, 7, 5]))) (.seg [.ty .ev, .at 0, .cut 3 0, .cut 3 5] (.leaf () [0, 1, 6, 7, 5]))))) (.br (.br (.seg [.call [0, 1] (.tup [.agg z20, vO 4]) z10] (.leaf () [0, 1, 5, 6, 7])) (.seg [.ty .ev, .at 0, .cut 3 0, .cut 3 5] (.leaf () [0, 1, 6, 7, 5]))) (.seg [.ty .ev, .at 0, .cut 3 0, .cut 3 5] (.leaf () [0, 1, 6, 7, 5])))) (.seg [.br true, .call [] (.tup [.agg (oDcd0_5 0 1 z22.d), vO 2]) [.tree z22.d.plan.shapes, .lst .lev z22.d.stack, .lst .ev z22.out], .at 0, .kill 0, .kill 1] (.leaf () [0, 1, 5, 6, 7]))))) (.br (.seg [.call [] (.tup [.agg z46, vI z6.2]) []] (.br (.seg [.call [0, 1] (.tup [.agg z42, vO 4]) z16] (.leaf () [0, 1, 5, 6, 7])) (.br (.br (.seg [.call [] (.v z43) []] (.br (.seg [.call [0, 1] (.tup [.agg z20, vO 4]) z10] (.leaf () [0, 1, 5, 6, 7])) (.br (.br (.seg [.call [0, 1] (.tup [.agg z20, vO 4]) z10] (.leaf () [0, 1, 5, 6, 7])) (.seg [.ty .ev, .at 0, .cut 3 0, .cut 3 5] (.leaf () [0, 1, 6, 7, 5]))) (.seg [.ty .ev, .at 0, .cut 3 0, .cut 3 5] (.leaf () [0, 1, 6, 7, 5]))))) (.br (.br (.seg [.call [0, 1] (.tup [.agg z20, vO 4]) z10] (.leaf () [0, 1, 5, 6, 7])) (.seg [.ty .ev, .at 0, .cut 3 0, .cut 3 5] (.leaf () [0, 1, 6, 7, 5]))) (.seg [.ty .ev, .at 0, .cut 3 0, .cut 3 5] (.leaf () [0, 1, 6, 7, 5])))) (.seg [.br false, .br true, .call [] (.tup [.agg (oDcd0_5 0 1 z28.d), vO 2]) [.tree z28.d.plan.shapes, .lst .lev z28.d.stack, .lst .ev z28.out], .at 0, .kill 0, .kill 1] (.leaf () [0, 1, 5, 6, 7]))))) (.br (.seg [.call [] (.tup [.agg z46, vI z6.2]) []] (.br (.seg [.call [0, 1] (.tup [.agg z42, vO 4]) z16] (.leaf () [0, 1, 5, 6, 7])) (.br (.br (.seg [.call [] (.v z43) []] (.br (.seg [.call [0, 1] (.tup [.agg z20, vO 4]) z10] (.leaf () [0, 1, 5, 6, 7])) (.br (.br (.seg [.call [0, 1] (.tup [.agg z20, vO 4]) z10] (.leaf () [0, 1, 5, 6, 7])) (.seg [.ty .ev, .at 0, .cut 3 0, .cut 3 5] (.leaf () [0, 1, 6, 7, 5]))) (.seg [.ty .ev, .at 0, .cut 3 0, .cut 3 5] (.leaf () [0, 1, 6, 7, 5]))))) (.br (.br (.seg [.call [0, 1] (.tup [.agg z20, vO 4]) z10] (.leaf () [0, 1, 5, 6, 7])) (.seg [.ty .ev, .at 0, .cut 3 0, .cut 3 5] (.leaf () [0, 1, 6, 7, 5]))) (.seg [.ty .ev, .at 0, .cut 3 0, .cut 3 5] (.leaf () [0, 1, 6, 7, 5])))) (.seg [.br false, .br false, .br true, .call [] (.tup [.agg (oDcd0_5 0 1 z24.d), vO 2]) [.tree z24.d.plan.shapes, .lst .lev z24.d.stack, .lst .ev z24.out], .at 0, .kill 0, .kill 1] (.leaf () [0, 1, 5, 6, 7]))))) (.seg [.call [] (.tup [.agg z46, vI z6.2]) []] (.br (.seg [.call [0, 1] (.tup [.agg z39, vO 4]) z17] (.leaf () [0, 1, 5, 6, 7])) (.br (.br (.seg [.call [] (.v z43) []] (.br (.seg [.call [0, 1] (.tup [.agg z30, vO 4]) z14] (.leaf () [0, 1, 5, 6, 7])) (.br (.br (.seg [.call [0, 1] (.tup [.agg z30, vO 4]) z14] (.leaf () [0, 1, 5, 6, 7])) (.seg [.ty .ev, .at 0, .cut 3 0, .cut 3 5] (.leaf () [0, 1, 6, 7, 5]))) (.seg [.ty .ev, .at 0, .cut 3 0, .cut 3 5] (.leaf () [0, 1, 6, 7, 5]))))) (.br (.br (.seg [.call [0, 1] (.tup [.agg z30, vO 4]) z14] (.leaf () [0, 1, 5, 6, 7])) (.seg [.ty .ev, .at 0, .cut 3 0, .cut 3 5] (.leaf () [0, 1, 6, 7, 5]))) (.seg [.ty .ev, .at 0, .cut 3 0, .cut 3 5] (.leaf () [0, 1, 6, 7, 5])))) (.seg [.br false, .br false, .br false, .call [0, 1] (.tup [.agg z45, vO 4]) z15] (.leaf () [0, 1, 5, 6, 7])))))))) (.seg [.call [] (.tup [.agg z46, vI z6.2]) []] (.br (.seg [.call [0, 1] (.tup [.agg z39, vO 4]) z17] (.leaf () [0, 1, 5, 6, 7])) (.br (.br (.seg [.call [] (.v z43) []] (.br (.seg [.call [0, 1] (.tup [.agg z30, vO 4]) z14] (.leaf () [0, 1, 5, 6, 7])) (.br (.br (.seg [.call [0, 1] (.tup [.agg z30, vO 4]) z14] (.leaf () [0, 1, 5, 6, 7])) (.seg [.ty .ev, .at 0, .cut 3 0, .cut 3 5] (.leaf () [0, 1, 6, 7, 5]))) (.seg [.ty .ev, .at 0, .cut 3 0, .cut 3 5] (.leaf () [0, 1, 6, 7, 5]))))) (.br (.br (.seg [.call [0, 1] (.tup [.agg z30, vO 4]) z14] (.leaf () [0, 1, 5, 6, 7])) (.seg [.ty .ev, .at 0, .cut 3 0, .cut 3 5] (.leaf () [0, 1, 6, 7, 5]))) (.seg [.ty .ev, .at 0, .cut 3 0, .cut 3 5] (.leaf () [0, 1, 6, 7, 5])))) (.br (.seg [.call [] (.tup [.agg (oDcd0_5 0 1 z23.d), vO 2]) [.tree z23.d.plan.shapes, .lst .lev z23.d.stack, .lst .ev z23.out], .at 0, .kill 0, .kill 1] (.leaf () [0, 1, 5, 6, 7])) (.br (.seg [.call [] (.tup [.agg (oDcd0_5 0 1 z29.d), vO 2]) [.tree z29.d.plan.shapes, .lst .lev z29.d.stack, .lst .ev z29.out], .at 0, .kill 0, .kill 1] (.leaf () [0, 1, 5, 6, 7])) (.br (.seg [.call [] (.tup [.agg (oDcd0_5 0 1 z25.d), vO 2]) [.tree z25.d.plan.shapes, .lst .lev z25.d.stack, .lst .ev z25.out], .at 0, .kill 0, .kill 1] (.leaf () [0, 1, 5, 6, 7])) (.seg [.call [0, 1] (.tup [.agg z45, vO 4]) z15] (.leaf () [0, 1, 5, 6, 7])))))))), ((decide (d.scan.have_ = 0)) = true → (z38 = true → (Fun Tryz.prog 136 [.agg z49, vI b] [] (.tup [.agg z46, vI z6.2]) []) ∧ (z36 = true → (Fun Tryz.prog 76 [.agg (.own 0 :: zi d.plan.root :: zi d.plan.deep :: zi d.plan.most :: zi d.mode :: .own 1 :: .int .u64 d.scan.bits :: zi d.scan.have_ :: zi a :: z1), vI 1, vI a] [.tree d.plan.shapes, .lst .lev d.stack] (.tup [.agg z42, vO 4]) z16) ∧ z47 = .tup [.agg z12, vO 4] ∧ (z16 : List Blk) = z5) ∧ (z36 = false → (z37 = true → (z32 = true → (Fun Tryz.prog 125 [.agg (.seq .shp d.plan.shapes :: zi d.plan.root :: zi d.plan.deep :: zi d.plan.most :: zi d.mode :: .seq .lev d.stack :: .int .u64 z6.1.bits :: zi z6.1.have_ :: zi a :: z1)] [] (.v z43) []) ∧ (z33 = true → (Fun Tryz.prog 76 [.agg (.own 0 :: zi d.plan.root :: zi d.plan.deep :: zi d.plan.most :: zi d.mode :: .own 1 :: .int .u64 z6.1.bits :: zi z6.1.have_ :: zi a :: z1), vI 9, vI d.at_] [.tree d.plan.shapes, .lst .lev d.stack] (.tup [.agg z20, vO 4]) z10) ∧ z31 = .tup [.agg z12, vO 4] ∧ (z10 : List Blk) = z5) ∧ (z33 = false → (z18 = true → (z19 = true → (Fun Tryz.prog 76 [.agg (.own 0 :: zi d.plan.root :: zi d.plan.deep :: zi d.plan.most :: zi d.mode :: .own 1 :: .int .u64 z6.1.bits :: zi z6.1.have_ :: zi a :: z1), vI 9, vI d.at_] [.tree d.plan.shapes, .lst .lev d.stack] (.tup [.agg z20, vO 4]) z10) ∧ z31 = .tup [.agg z12, vO 4] ∧ (z10 : List Blk) = z5) ∧ z26) ∧ z27)) ∧ (z32 = false → (z18 = true → (z19 = true → (Fun Tryz.prog 76 [.agg (.own 0 :: zi d.plan.root :: zi d.plan.deep :: zi d.plan.most :: zi d.mode :: .own 1 :: .int .u64 z6.1.bits :: zi z6.1.have_ :: zi a :: z1), vI 9, vI d.at_] [.tree d.plan.shapes, .lst .lev d.stack] (.tup [.agg z20, vO 4]) z10) ∧ z31 = .tup [.agg z12, vO 4] ∧ (z10 : List Blk) = z5) ∧ z26) ∧ z27)) ∧ (z37 = false → (z38 = true) ∧ (Fun Tryz.prog 137 [.agg (.seq .shp d.plan.shapes :: zi d.plan.root :: zi d.plan.deep :: zi d.plan.most :: zi d.mode :: .seq .lev d.stack :: .int .u64 0 :: zi 0 :: zi a :: z1), .c (.int .u64 z6.1.bits)] [] (.tup [.agg (oDcd0_5 0 1 z22.d), vO 2]) [.tree z22.d.plan.shapes, .lst .lev z22.d.stack, .lst .ev z22.out]) ∧ (.tup [.agg (oDcd0_5 2 3 z22.d), vO 4] : S) = .tup [.agg z12, vO 4] ∧ ([.dead, .dead, .tree z22.d.plan.shapes, .lst .lev z22.d.stack, .lst .ev z22.out] : List Blk) = z5))) ∧ (z38 = false → (z41 = true → (Fun Tryz.prog 136 [.agg z49, vI b] [] (.tup [.agg z46, vI z6.2]) []) ∧ (z36 = true → (Fun Tryz.prog 76 [.agg (.own 0 :: zi d.plan.root :: zi d.plan.deep :: zi d.plan.most :: zi d.mode :: .own 1 :: .int .u64 d.scan.bits :: zi d.scan.have_ :: zi a :: z1), vI 1, vI a] [.tree d.plan.shapes, .lst .lev d.stack] (.tup [.agg z42, vO 4]) z16) ∧ z47 = .tup [.agg z12, vO 4] ∧ (z16 : List Blk) = z5) ∧ (z36 = false → (z37 = true → (z32 = true → (Fun Tryz.prog 125 [.agg (.seq .shp d.plan.shapes :: zi d.plan.root :: zi d.plan.deep :: zi d.plan.most :: zi d.mode :: .seq .lev d.stack :: .int .u64 z6.1.bits :: zi z6.1.have_ :: zi a :: z1)] [] (.v z43) []) ∧ (z33 = true → (Fun Tryz.prog 76 [.agg (.own 0 :: zi d.plan.root :: zi d.plan.deep :: zi d.plan.most :: zi d.mode :: .own 1 :: .int .u64 z6.1.bits :: zi z6.1.have_ :: zi a :: z1), vI 9, vI d.at_] [.tree d.plan.shapes, .lst .lev d.stack] (.tup [.agg z20, vO 4]) z10) ∧ z31 = .tup [.agg z12, vO 4] ∧ (z10 : List Blk) = z5) ∧ (z33 = false → (z18 = true → (z19 = true → (Fun Tryz.prog 76 [.agg (.own 0 :: zi d.plan.root :: zi d.plan.deep :: zi d.plan.most :: zi d.mode :: .own 1 :: .int .u64 z6.1.bits :: zi z6.1.have_ :: zi a :: z1), vI 9, vI d.at_] [.tree d.plan.shapes, .lst .lev d.stack] (.tup [.agg z20, vO 4]) z10) ∧ z31 = .tup [.agg z12, vO 4] ∧ (z10 : List Blk) = z5) ∧ z26) ∧ z27)) ∧ (z32 = false → (z18 = true → (z19 = true → (Fun Tryz.prog 76 [.agg (.own 0 :: zi d.plan.root :: zi d.plan.deep :: zi d.plan.most :: zi d.mode :: .own 1 :: .int .u64 z6.1.bits :: zi z6.1.have_ :: zi a :: z1), vI 9, vI d.at_] [.tree d.plan.shapes, .lst .lev d.stack] (.tup [.agg z20, vO 4]) z10) ∧ z31 = .tup [.agg z12, vO 4] ∧ (z10 : List Blk) = z5) ∧ z26) ∧ z27)) ∧ (z37 = false → (z38 = false) ∧ (z41 = true) ∧ (Fun Tryz.prog 138 [.agg (.seq .shp d.plan.shapes :: zi d.plan.root :: zi d.plan.deep :: zi d.plan.most :: zi d.mode :: .seq .lev d.stack :: .int .u64 0 :: zi 0 :: zi a :: z1), .c (.int .u64 z6.1.bits)] [] (.tup [.agg (oDcd0_5 0 1 z28.d), vO 2]) [.tree z28.d.plan.shapes, .lst .lev z28.d.stack, .lst .ev z28.out]) ∧ (.tup [.agg (oDcd0_5 2 3 z28.d), vO 4] : S) = .tup [.agg z12, vO 4] ∧ ([.dead, .dead, .tree z28.d.plan.shapes, .lst .lev z28.d.stack, .lst .ev z28.out] : List Blk) = z5))) ∧ (z41 = false → (z44 = true → (Fun Tryz.prog 136 [.agg z49, vI b] [] (.tup [.agg z46, vI z6.2]) []) ∧ (z36 = true → (Fun Tryz.prog 76 [.agg (.own 0 :: zi d.plan.root :: zi d.plan.deep :: zi d.plan.most :: zi d.mode :: .own 1 :: .int .u64 d.scan.bits :: zi d.scan.have_ :: zi a :: z1), vI 1, vI a] [.tree d.plan.shapes, .lst .lev d.stack] (.tup [.agg z42, vO 4]) z16) ∧ z47 = .tup [.agg z12, vO 4] ∧ (z16 : List Blk) = z5) ∧ (z36 = false → (z37 = true → (z32 = true → (Fun Tryz.prog 125 [.agg (.seq .shp d.plan.shapes :: zi d.plan.root :: zi d.plan.deep :: zi d.plan.most :: zi d.mode :: .seq .lev d.stack :: .int .u64 z6.1.bits :: zi z6.1.have_ :: zi a :: z1)] [] (.v z43) []) ∧ (z33 = true → (Fun Tryz.prog 76 [.agg (.own 0 :: zi d.plan.root :: zi d.plan.deep :: zi d.plan.most :: zi d.mode :: .own 1 :: .int .u64 z6.1.bits :: zi z6.1.have_ :: zi a :: z1), vI 9, vI d.at_] [.tree d.plan.shapes, .lst .lev d.stack] (.tup [.agg z20, vO 4]) z10) ∧ z31 = .tup [.agg z12, vO 4] ∧ (z10 : List Blk) = z5) ∧ (z33 = false → (z18 = true → (z19 = true → (Fun Tryz.prog 76 [.agg (.own 0 :: zi d.plan.root :: zi d.plan.deep :: zi d.plan.most :: zi d.mode :: .own 1 :: .int .u64 z6.1.bits :: zi z6.1.have_ :: zi a :: z1), vI 9, vI d.at_] [.tree d.plan.shapes, .lst .lev d.stack] (.tup [.agg z20, vO 4]) z10) ∧ z31 = .tup [.agg z12, vO 4] ∧ (z10 : List Blk) = z5) ∧ z26) ∧ z27)) ∧ (z32 = false → (z18 = true → (z19 = true → (Fun Tryz.prog 76 [.agg (.own 0 :: zi d.plan.root :: zi d.plan.deep :: zi d.plan.most :: zi d.mode :: .own 1 :: .int .u64 z6.1.bits :: zi z6.1.have_ :: zi a :: z1), vI 9, vI d.at_] [.tree d.plan.shapes, .lst .lev d.stack] (.tup [.agg z20, vO 4]) z10) ∧ z31 = .tup [.agg z12, vO 4] ∧ (z10 : List Blk) = z5) ∧ z26) ∧ z27)) ∧ (z37 = false → (z38 = false) ∧ (z41 = false) ∧ (z44 = true) ∧ (Fun Tryz.prog 139 [.agg (.seq .shp d.plan.shapes :: zi d.plan.root :: zi d.plan.deep :: zi d.plan.most :: zi d.mode :: .seq .lev d.stack :: .int .u64 0 :: zi 0 :: zi a :: z1), .c (.int .u64 z6.1.bits)] [] (.tup [.agg (oDcd0_5 0 1 z24.d), vO 2]) [.tree z24.d.plan.shapes, .lst .lev z24.d.stack, .lst .ev z24.out]) ∧ (.tup [.agg (oDcd0_5 2 3 z24.d), vO 4] : S) = .tup [.agg z12, vO 4] ∧ ([.dead, .dead, .tree z24.d.plan.shapes, .lst .lev z24.d.stack, .lst .ev z24.out] : List Blk) = z5))) ∧ (z44 = false → (Fun Tryz.prog 136 [.agg z49, vI b] [] (.tup [.agg z46, vI z6.2]) []) ∧ (z36 = true → (Fun Tryz.prog 76 [.agg (oDcd0_5 0 1 d), vI 1, vI a] [.tree d.plan.shapes, .lst .lev d.stack] (.tup [.agg z39, vO 4]) z17) ∧ (.tup [.agg z39, vO 4] : S) = .tup [.agg z12, vO 4] ∧ (z17 : List Blk) = z5) ∧ (z36 = false → (z37 = true → (z32 = true → (Fun Tryz.prog 125 [.agg (.seq .shp d.plan.shapes :: zi d.plan.root :: zi d.plan.deep :: zi d.plan.most :: zi d.mode :: .seq .lev d.stack :: .int .u64 z6.1.bits :: zi z6.1.have_ :: zi d.start :: z1)] [] (.v z43) []) ∧ (z33 = true → (Fun Tryz.prog 76 [.agg (.own 0 :: zi d.plan.root :: zi d.plan.deep :: zi d.plan.most :: zi d.mode :: .own 1 :: .int .u64 z6.1.bits :: zi z6.1.have_ :: zi d.start :: z1), vI 9, vI d.at_] [.tree d.plan.shapes, .lst .lev d.stack] (.tup [.agg z30, vO 4]) z14) ∧ z40 = .tup [.agg z12, vO 4] ∧ (z14 : List Blk) = z5) ∧ (z33 = false → (z18 = true → (z19 = true → (Fun Tryz.prog 76 [.agg (.own 0 :: zi d.plan.root :: zi d.plan.deep :: zi d.plan.most :: zi d.mode :: .own 1 :: .int .u64 z6.1.bits :: zi z6.1.have_ :: zi d.start :: z1), vI 9, vI d.at_] [.tree d.plan.shapes, .lst .lev d.stack] (.tup [.agg z30, vO 4]) z14) ∧ z40 = .tup [.agg z12, vO 4] ∧ (z14 : List Blk) = z5) ∧ z34) ∧ z35)) ∧ (z32 = false → (z18 = true → (z19 = true → (Fun Tryz.prog 76 [.agg (.own 0 :: zi d.plan.root :: zi d.plan.deep :: zi d.plan.most :: zi d.mode :: .own 1 :: .int .u64 z6.1.bits :: zi z6.1.have_ :: zi d.start :: z1), vI 9, vI d.at_] [.tree d.plan.shapes, .lst .lev d.stack] (.tup [.agg z30, vO 4]) z14) ∧ z40 = .tup [.agg z12, vO 4] ∧ (z14 : List Blk) = z5) ∧ z34) ∧ z35)) ∧ (z37 = false → (z38 = false) ∧ (z41 = false) ∧ (z44 = false) ∧ (Fun Tryz.prog 135 [.agg (.own 0 :: zi d.plan.root :: zi d.plan.deep :: zi d.plan.most :: zi d.mode :: .own 1 :: .int .u64 0 :: zi 0 :: zi d.start :: z1), .c (.int .u64 z6.1.bits)] [.tree d.plan.shapes, .lst .lev d.stack] (.tup [.agg z45, vO 4]) z15) ∧ (.tup [.agg z45, vO 4] : S) = .tup [.agg z12, vO 4] ∧ (z15 : List Blk) = z5)))))) ∧ ((decide (d.scan.have_ = 0)) = false → (Fun Tryz.prog 136 [.agg z49, vI b] [] (.tup [.agg z46, vI z6.2]) []) ∧ (z36 = true → (Fun Tryz.prog 76 [.agg (oDcd0_5 0 1 d), vI 1, vI a] [.tree d.plan.shapes, .lst .lev d.stack] (.tup [.agg z39, vO 4]) z17) ∧ (.tup [.agg z39, vO 4] : S) = .tup [.agg z12, vO 4] ∧ (z17 : List Blk) = z5) ∧ (z36 = false → (z37 = true → (z32 = true → (Fun Tryz.prog 125 [.agg (.seq .shp d.plan.shapes :: zi d.plan.root :: zi d.plan.deep :: zi d.plan.most :: zi d.mode :: .seq .lev d.stack :: .int .u64 z6.1.bits :: zi z6.1.have_ :: zi d.start :: z1)] [] (.v z43) []) ∧ (z33 = true → (Fun Tryz.prog 76 [.agg (.own 0 :: zi d.plan.root :: zi d.plan.deep :: zi d.plan.most :: zi d.mode :: .own 1 :: .int .u64 z6.1.bits :: zi z6.1.have_ :: zi d.start :: z1), vI 9, vI d.at_] [.tree d.plan.shapes, .lst .lev d.stack] (.tup [.agg z30, vO 4]) z14) ∧ z40 = .tup [.agg z12, vO 4] ∧ (z14 : List Blk) = z5) ∧ (z33 = false → (z18 = true → (z19 = true → (Fun Tryz.prog 76 [.agg (.own 0 :: zi d.plan.root :: zi d.plan.deep :: zi d.plan.most :: zi d.mode :: .own 1 :: .int .u64 z6.1.bits :: zi z6.1.have_ :: zi d.start :: z1), vI 9, vI d.at_] [.tree d.plan.shapes, .lst .lev d.stack] (.tup [.agg z30, vO 4]) z14) ∧ z40 = .tup [.agg z12, vO 4] ∧ (z14 : List Blk) = z5) ∧ z34) ∧ z35)) ∧ (z32 = false → (z18 = true → (z19 = true → (Fun Tryz.prog 76 [.agg (.own 0 :: zi d.plan.root :: zi d.plan.deep :: zi d.plan.most :: zi d.mode :: .own 1 :: .int .u64 z6.1.bits :: zi z6.1.have_ :: zi d.start :: z1), vI 9, vI d.at_] [.tree d.plan.shapes, .lst .lev d.stack] (.tup [.agg z30, vO 4]) z14) ∧ z40 = .tup [.agg z12, vO 4] ∧ (z14 : List Blk) = z5) ∧ z34) ∧ z35)) ∧ (z37 = false → (z38 = true → (Fun Tryz.prog 137 [.agg (.seq .shp d.plan.shapes :: zi d.plan.root :: zi d.plan.deep :: zi d.plan.most :: zi d.mode :: .seq .lev d.stack :: .int .u64 0 :: zi 0 :: zi d.start :: z1), .c (.int .u64 z6.1.bits)] [] (.tup [.agg (oDcd0_5 0 1 z23.d), vO 2]) [.tree z23.d.plan.shapes, .lst .lev z23.d.stack, .lst .ev z23.out]) ∧ (.tup [.agg (oDcd0_5 2 3 z23.d), vO 4] : S) = .tup [.agg z12, vO 4] ∧ ([.dead, .dead, .tree z23.d.plan.shapes, .lst .lev z23.d.stack, .lst .ev z23.out] : List Blk) = z5) ∧ (z38 = false → (z41 = true → (Fun Tryz.prog 138 [.agg (.seq .shp d.plan.shapes :: zi d.plan.root :: zi d.plan.deep :: zi d.plan.most :: zi d.mode :: .seq .lev d.stack :: .int .u64 0 :: zi 0 :: zi d.start :: z1), .c (.int .u64 z6.1.bits)] [] (.tup [.agg (oDcd0_5 0 1 z29.d), vO 2]) [.tree z29.d.plan.shapes, .lst .lev z29.d.stack, .lst .ev z29.out]) ∧ (.tup [.agg (oDcd0_5 2 3 z29.d), vO 4] : S) = .tup [.agg z12, vO 4] ∧ ([.dead, .dead, .tree z29.d.plan.shapes, .lst .lev z29.d.stack, .lst .ev z29.out] : List Blk) = z5) ∧ (z41 = false → (z44 = true → (Fun Tryz.prog 139 [.agg (.seq .shp d.plan.shapes :: zi d.plan.root :: zi d.plan.deep :: zi d.plan.most :: zi d.mode :: .seq .lev d.stack :: .int .u64 0 :: zi 0 :: zi d.start :: z1), .c (.int .u64 z6.1.bits)] [] (.tup [.agg (oDcd0_5 0 1 z25.d), vO 2]) [.tree z25.d.plan.shapes, .lst .lev z25.d.stack, .lst .ev z25.out]) ∧ (.tup [.agg (oDcd0_5 2 3 z25.d), vO 4] : S) = .tup [.agg z12, vO 4] ∧ ([.dead, .dead, .tree z25.d.plan.shapes, .lst .lev z25.d.stack, .lst .ev z25.out] : List Blk) = z5) ∧ (z44 = false → (Fun Tryz.prog 135 [.agg (.own 0 :: zi d.plan.root :: zi d.plan.deep :: zi d.plan.most :: zi d.mode :: .own 1 :: .int .u64 0 :: zi 0 :: zi d.start :: z1), .c (.int .u64 z6.1.bits)] [.tree d.plan.shapes, .lst .lev d.stack] (.tup [.agg z45, vO 4]) z15) ∧ (.tup [.agg z45, vO 4] : S) = .tup [.agg z12, vO 4] ∧ (z15 : List Blk) = z5)))))))) (by kernel_rfl) ?_
  refine dsp (fun h1 p1 => ?_) fun h1 p1 => ?_
  refine dsp (fun h2 p2 => ?_) fun h2 p2 => ?_
  refine ⟨(scanByte_s d.scan _ (by omega)), dsp (fun h3 p3 => ?_) fun h3 p3 => ?_⟩
  refine ⟨(fail_s (⟨d.plan, d.mode, d.stack, d.scan, a, d.at_, d.field, d.wire, d.want, d.utf, d.end_⟩ : Dcd) _ _), ?_⟩
  refine have hm1 : (varM ⟨d, []⟩ b a).d = (dFail (⟨d.plan, d.mode, d.stack, d.scan, a, d.at_, d.field, d.wire, d.want, d.utf, d.end_⟩ : Dcd) 1 a) := ?_; ?_
  rotate_left
  refine have hm2 : (varM ⟨d, []⟩ b a).out = [failEv 1 a] := ?_; ?_
  rotate_left
  exact ⟨(by rw [hm1] <;> rfl), (by rw [hm1, hm2] <;> rfl)⟩
  refine dsp (fun h4 p4 => ?_) fun h4 p4 => ?_
  refine ⟨fun h5 => have q5 := bnot_t h5; have p5 := of_decide_eq_false q5; ?_, fun h5 => have q5 := bnot_f h5; have p5 := of_decide_eq_true q5; ?_⟩
  refine ⟨(topL_s (⟨d.plan, d.mode, d.stack, (scanByte d.scan b).1, a, d.at_, d.field, d.wire, d.want, d.utf, d.end_⟩ : Dcd) (by first | omega | rfl | (dsimp only; omega))), dsp (fun h6 p6 => ?_) fun h6 p6 => ?_⟩
  refine ⟨(fail_s (⟨d.plan, d.mode, d.stack, (scanByte d.scan b).1, a, d.at_, d.field, d.wire, d.want, d.utf, d.end_⟩ : Dcd) _ _), ?_⟩
  refine have hm1 : (varM ⟨d, []⟩ b a).d = (dFail (⟨d.plan, d.mode, d.stack, (scanByte d.scan b).1, a, d.at_, d.field, d.wire, d.want, d.utf, d.end_⟩ : Dcd) 9 d.at_) := ?_; ?_
  rotate_left
  refine have hm2 : (varM ⟨d, []⟩ b a).out = [failEv 9 d.at_] := ?_; ?_
  rotate_left
  exact ⟨(by rw [hm1] <;> rfl), (by rw [hm1, hm2] <;> rfl)⟩
  refine dsp (fun h7 p7 => ?_) fun h7 p7 => ?_
  refine dsp (fun h8 p8 => ?_) fun h8 p8 => ?_
  refine ⟨(fail_s (⟨d.plan, d.mode, d.stack, (scanByte d.scan b).1, a, d.at_, d.field, d.wire, d.want, d.utf, d.end_⟩ : Dcd) _ _), ?_⟩
  refine have hm1 : (varM ⟨d, []⟩ b a).d = (dFail (⟨d.plan, d.mode, d.stack, (scanByte d.scan b).1, a, d.at_, d.field, d.wire, d.want, d.utf, d.end_⟩ : Dcd) 9 d.at_) := ?_; ?_
  rotate_left
  refine have hm2 : (varM ⟨d, []⟩ b a).out = [failEv 9 d.at_] := ?_; ?_
  rotate_left
  exact ⟨(by rw [hm1] <;> rfl), (by rw [hm1, hm2] <;> rfl)⟩
  refine have hm1 : (varM ⟨d, []⟩ b a).d = (⟨d.plan, d.mode, d.stack, (scanByte d.scan b).1, a, d.at_, d.field, d.wire, d.want, d.utf, d.end_⟩ : Dcd) := ?_; ?_
  rotate_left
  refine have hm2 : (varM ⟨d, []⟩ b a).out = ([] : List Ev) := ?_; ?_
  rotate_left
  exact ⟨(by rw [hm1] <;> rfl), (by rw [hm1, hm2] <;> rfl)⟩
  refine have hm1 : (varM ⟨d, []⟩ b a).d = (⟨d.plan, d.mode, d.stack, (scanByte d.scan b).1, a, d.at_, d.field, d.wire, d.want, d.utf, d.end_⟩ : Dcd) := ?_; ?_
  rotate_left
  refine have hm2 : (varM ⟨d, []⟩ b a).out = ([] : List Ev) := ?_; ?_
  rotate_left
  exact ⟨(by rw [hm1] <;> rfl), (by rw [hm1, hm2] <;> rfl)⟩
  refine dsp (fun h6 p6 => ?_) fun h6 p6 => ?_
  refine dsp (fun h7 p7 => ?_) fun h7 p7 => ?_
  refine ⟨(fail_s (⟨d.plan, d.mode, d.stack, (scanByte d.scan b).1, a, d.at_, d.field, d.wire, d.want, d.utf, d.end_⟩ : Dcd) _ _), ?_⟩
  refine have hm1 : (varM ⟨d, []⟩ b a).d = (dFail (⟨d.plan, d.mode, d.stack, (scanByte d.scan b).1, a, d.at_, d.field, d.wire, d.want, d.utf, d.end_⟩ : Dcd) 9 d.at_) := ?_; ?_
  rotate_left
  refine have hm2 : (varM ⟨d, []⟩ b a).out = [failEv 9 d.at_] := ?_; ?_
  rotate_left
  exact ⟨(by rw [hm1] <;> rfl), (by rw [hm1, hm2] <;> rfl)⟩
  refine have hm1 : (varM ⟨d, []⟩ b a).d = (⟨d.plan, d.mode, d.stack, (scanByte d.scan b).1, a, d.at_, d.field, d.wire, d.want, d.utf, d.end_⟩ : Dcd) := ?_; ?_
  rotate_left
  refine have hm2 : (varM ⟨d, []⟩ b a).out = ([] : List Ev) := ?_; ?_
  rotate_left
  exact ⟨(by rw [hm1] <;> rfl), (by rw [hm1, hm2] <;> rfl)⟩
  refine have hm1 : (varM ⟨d, []⟩ b a).d = (⟨d.plan, d.mode, d.stack, (scanByte d.scan b).1, a, d.at_, d.field, d.wire, d.want, d.utf, d.end_⟩ : Dcd) := ?_; ?_
  rotate_left
  refine have hm2 : (varM ⟨d, []⟩ b a).out = ([] : List Ev) := ?_; ?_
  rotate_left
  exact ⟨(by rw [hm1] <;> rfl), (by rw [hm1, hm2] <;> rfl)⟩
  refine ⟨h2, (frame_s (⟨d.plan, d.mode, d.stack, (⟨0, 0⟩ : Scn), a, d.at_, d.field, d.wire, d.want, d.utf, d.end_⟩ : Dcd) _ ((by first | (exact hp1.lv) | (exact levelsOk_same hp1.lv rfl rfl))) (by omega)), ?_⟩
  refine have hm1 : (varM ⟨d, []⟩ b a).d = (frameM ⟨(⟨d.plan, d.mode, d.stack, (⟨0, 0⟩ : Scn), a, d.at_, d.field, d.wire, d.want, d.utf, d.end_⟩ : Dcd), []⟩ (scanByte d.scan b).1.bits).d := ?_; ?_
  rotate_left
  refine have hm2 : (varM ⟨d, []⟩ b a).out = (frameM ⟨(⟨d.plan, d.mode, d.stack, (⟨0, 0⟩ : Scn), a, d.at_, d.field, d.wire, d.want, d.utf, d.end_⟩ : Dcd), []⟩ (scanByte d.scan b).1.bits).out := ?_; ?_
  rotate_left
  exact ⟨(by rw [hm1] <;> rfl), (by rw [hm1, hm2] <;> rfl)⟩
  refine dsp (fun h3 p3 => ?_) fun h3 p3 => ?_
  refine ⟨(scanByte_s d.scan _ (by omega)), dsp (fun h4 p4 => ?_) fun h4 p4 => ?_⟩
  refine ⟨(fail_s (⟨d.plan, d.mode, d.stack, d.scan, a, d.at_, d.field, d.wire, d.want, d.utf, d.end_⟩ : Dcd) _ _), ?_⟩
  refine have hm1 : (varM ⟨d, []⟩ b a).d = (dFail (⟨d.plan, d.mode, d.stack, d.scan, a, d.at_, d.field, d.wire, d.want, d.utf, d.end_⟩ : Dcd) 1 a) := ?_; ?_
  rotate_left
  refine have hm2 : (varM ⟨d, []⟩ b a).out = [failEv 1 a] := ?_; ?_
  rotate_left
  exact ⟨(by rw [hm1] <;> rfl), (by rw [hm1, hm2] <;> rfl)⟩
  refine dsp (fun h5 p5 => ?_) fun h5 p5 => ?_
  refine ⟨fun h6 => have q6 := bnot_t h6; have p6 := of_decide_eq_false q6; ?_, fun h6 => have q6 := bnot_f h6; have p6 := of_decide_eq_true q6; ?_⟩
  refine ⟨(topL_s (⟨d.plan, d.mode, d.stack, (scanByte d.scan b).1, a, d.at_, d.field, d.wire, d.want, d.utf, d.end_⟩ : Dcd) (by first | omega | rfl | (dsimp only; omega))), dsp (fun h7 p7 => ?_) fun h7 p7 => ?_⟩
  refine ⟨(fail_s (⟨d.plan, d.mode, d.stack, (scanByte d.scan b).1, a, d.at_, d.field, d.wire, d.want, d.utf, d.end_⟩ : Dcd) _ _), ?_⟩
  refine have hm1 : (varM ⟨d, []⟩ b a).d = (dFail (⟨d.plan, d.mode, d.stack, (scanByte d.scan b).1, a, d.at_, d.field, d.wire, d.want, d.utf, d.end_⟩ : Dcd) 9 d.at_) := ?_; ?_
  rotate_left
  refine have hm2 : (varM ⟨d, []⟩ b a).out = [failEv 9 d.at_] := ?_; ?_
  rotate_left
  exact ⟨(by rw [hm1] <;> rfl), (by rw [hm1, hm2] <;> rfl)⟩
  refine dsp (fun h8 p8 => ?_) fun h8 p8 => ?_
  refine dsp (fun h9 p9 => ?_) fun h9 p9 => ?_
  refine ⟨(fail_s (⟨d.plan, d.mode, d.stack, (scanByte d.scan b).1, a, d.at_, d.field, d.wire, d.want, d.utf, d.end_⟩ : Dcd) _ _), ?_⟩
  refine have hm1 : (varM ⟨d, []⟩ b a).d = (dFail (⟨d.plan, d.mode, d.stack, (scanByte d.scan b).1, a, d.at_, d.field, d.wire, d.want, d.utf, d.end_⟩ : Dcd) 9 d.at_) := ?_; ?_
  rotate_left
  refine have hm2 : (varM ⟨d, []⟩ b a).out = [failEv 9 d.at_] := ?_; ?_
  rotate_left
  exact ⟨(by rw [hm1] <;> rfl), (by rw [hm1, hm2] <;> rfl)⟩
  refine have hm1 : (varM ⟨d, []⟩ b a).d = (⟨d.plan, d.mode, d.stack, (scanByte d.scan b).1, a, d.at_, d.field, d.wire, d.want, d.utf, d.end_⟩ : Dcd) := ?_; ?_
  rotate_left
  refine have hm2 : (varM ⟨d, []⟩ b a).out = ([] : List Ev) := ?_; ?_
  rotate_left
  exact ⟨(by rw [hm1] <;> rfl), (by rw [hm1, hm2] <;> rfl)⟩
  refine have hm1 : (varM ⟨d, []⟩ b a).d = (⟨d.plan, d.mode, d.stack, (scanByte d.scan b).1, a, d.at_, d.field, d.wire, d.want, d.utf, d.end_⟩ : Dcd) := ?_; ?_
  rotate_left
  refine have hm2 : (varM ⟨d, []⟩ b a).out = ([] : List Ev) := ?_; ?_
  rotate_left
  exact ⟨(by rw [hm1] <;> rfl), (by rw [hm1, hm2] <;> rfl)⟩
  refine dsp (fun h7 p7 => ?_) fun h7 p7 => ?_
  refine dsp (fun h8 p8 => ?_) fun h8 p8 => ?_
  refine ⟨(fail_s (⟨d.plan, d.mode, d.stack, (scanByte d.scan b).1, a, d.at_, d.field, d.wire, d.want, d.utf, d.end_⟩ : Dcd) _ _), ?_⟩
  refine have hm1 : (varM ⟨d, []⟩ b a).d = (dFail (⟨d.plan, d.mode, d.stack, (scanByte d.scan b).1, a, d.at_, d.field, d.wire, d.want, d.utf, d.end_⟩ : Dcd) 9 d.at_) := ?_; ?_
  rotate_left
  refine have hm2 : (varM ⟨d, []⟩ b a).out = [failEv 9 d.at_] := ?_; ?_
  rotate_left
  exact ⟨(by rw [hm1] <;> rfl), (by rw [hm1, hm2] <;> rfl)⟩
  refine have hm1 : (varM ⟨d, []⟩ b a).d = (⟨d.plan, d.mode, d.stack, (scanByte d.scan b).1, a, d.at_, d.field, d.wire, d.want, d.utf, d.end_⟩ : Dcd) := ?_; ?_
  rotate_left
  refine have hm2 : (varM ⟨d, []⟩ b a).out = ([] : List Ev) := ?_; ?_
  rotate_left
  exact ⟨(by rw [hm1] <;> rfl), (by rw [hm1, hm2] <;> rfl)⟩
  refine have hm1 : (varM ⟨d, []⟩ b a).d = (⟨d.plan, d.mode, d.stack, (scanByte d.scan b).1, a, d.at_, d.field, d.wire, d.want, d.utf, d.end_⟩ : Dcd) := ?_; ?_
  rotate_left
  refine have hm2 : (varM ⟨d, []⟩ b a).out = ([] : List Ev) := ?_; ?_
  rotate_left
  exact ⟨(by rw [hm1] <;> rfl), (by rw [hm1, hm2] <;> rfl)⟩
  refine ⟨h2, h3, (tag_s (⟨d.plan, d.mode, d.stack, (⟨0, 0⟩ : Scn), a, d.at_, d.field, d.wire, d.want, d.utf, d.end_⟩ : Dcd) _ ((by first | (exact hp1.lv) | (exact levelsOk_same hp1.lv rfl rfl))) (by omega)), ?_⟩
  refine have hm1 : (varM ⟨d, []⟩ b a).d = (tagM ⟨(⟨d.plan, d.mode, d.stack, (⟨0, 0⟩ : Scn), a, d.at_, d.field, d.wire, d.want, d.utf, d.end_⟩ : Dcd), []⟩ (scanByte d.scan b).1.bits).d := ?_; ?_
  rotate_left
  refine have hm2 : (varM ⟨d, []⟩ b a).out = (tagM ⟨(⟨d.plan, d.mode, d.stack, (⟨0, 0⟩ : Scn), a, d.at_, d.field, d.wire, d.want, d.utf, d.end_⟩ : Dcd), []⟩ (scanByte d.scan b).1.bits).out := ?_; ?_
  rotate_left
  exact ⟨(by rw [hm1] <;> rfl), (by rw [hm1, hm2] <;> rfl)⟩
  refine dsp (fun h4 p4 => ?_) fun h4 p4 => ?_
  refine ⟨(scanByte_s d.scan _ (by omega)), dsp (fun h5 p5 => ?_) fun h5 p5 => ?_⟩
  refine ⟨(fail_s (⟨d.plan, d.mode, d.stack, d.scan, a, d.at_, d.field, d.wire, d.want, d.utf, d.end_⟩ : Dcd) _ _), ?_⟩
  refine have hm1 : (varM ⟨d, []⟩ b a).d = (dFail (⟨d.plan, d.mode, d.stack, d.scan, a, d.at_, d.field, d.wire, d.want, d.utf, d.end_⟩ : Dcd) 1 a) := ?_; ?_
  rotate_left
  refine have hm2 : (varM ⟨d, []⟩ b a).out = [failEv 1 a] := ?_; ?_
  rotate_left
  exact ⟨(by rw [hm1] <;> rfl), (by rw [hm1, hm2] <;> rfl)⟩
  refine dsp (fun h6 p6 => ?_) fun h6 p6 => ?_
  refine ⟨fun h7 => have q7 := bnot_t h7; have p7 := of_decide_eq_false q7; ?_, fun h7 => have q7 := bnot_f h7; have p7 := of_decide_eq_true q7; ?_⟩
  refine ⟨(topL_s (⟨d.plan, d.mode, d.stack, (scanByte d.scan b).1, a, d.at_, d.field, d.wire, d.want, d.utf, d.end_⟩ : Dcd) (by first | omega | rfl | (dsimp only; omega))), dsp (fun h8 p8 => ?_) fun h8 p8 => ?_⟩
  refine ⟨(fail_s (⟨d.plan, d.mode, d.stack, (scanByte d.scan b).1, a, d.at_, d.field, d.wire, d.want, d.utf, d.end_⟩ : Dcd) _ _), ?_⟩
  refine have hm1 : (varM ⟨d, []⟩ b a).d = (dFail (⟨d.plan, d.mode, d.stack, (scanByte d.scan b).1, a, d.at_, d.field, d.wire, d.want, d.utf, d.end_⟩ : Dcd) 9 d.at_) := ?_; ?_
  rotate_left
  refine have hm2 : (varM ⟨d, []⟩ b a).out = [failEv 9 d.at_] := ?_; ?_
  rotate_left
  exact ⟨(by rw [hm1] <;> rfl), (by rw [hm1, hm2] <;> rfl)⟩
  refine dsp (fun h9 p9 => ?_) fun h9 p9 => ?_
  refine dsp (fun h10 p10 => ?_) fun h10 p10 => ?_
  refine ⟨(fail_s (⟨d.plan, d.mode, d.stack, (scanByte d.scan b).1, a, d.at_, d.field, d.wire, d.want, d.utf, d.end_⟩ : Dcd) _ _), ?_⟩
  refine have hm1 : (varM ⟨d, []⟩ b a).d = (dFail (⟨d.plan, d.mode, d.stack, (scanByte d.scan b).1, a, d.at_, d.field, d.wire, d.want, d.utf, d.end_⟩ : Dcd) 9 d.at_) := ?_; ?_
  rotate_left
  refine have hm2 : (varM ⟨d, []⟩ b a).out = [failEv 9 d.at_] := ?_; ?_
  rotate_left
  exact ⟨(by rw [hm1] <;> rfl), (by rw [hm1, hm2] <;> rfl)⟩
  refine have hm1 : (varM ⟨d, []⟩ b a).d = (⟨d.plan, d.mode, d.stack, (scanByte d.scan b).1, a, d.at_, d.field, d.wire, d.want, d.utf, d.end_⟩ : Dcd) := ?_; ?_
  rotate_left
  refine have hm2 : (varM ⟨d, []⟩ b a).out = ([] : List Ev) := ?_; ?_
  rotate_left
  exact ⟨(by rw [hm1] <;> rfl), (by rw [hm1, hm2] <;> rfl)⟩
  refine have hm1 : (varM ⟨d, []⟩ b a).d = (⟨d.plan, d.mode, d.stack, (scanByte d.scan b).1, a, d.at_, d.field, d.wire, d.want, d.utf, d.end_⟩ : Dcd) := ?_; ?_
  rotate_left
  refine have hm2 : (varM ⟨d, []⟩ b a).out = ([] : List Ev) := ?_; ?_
  rotate_left
  exact ⟨(by rw [hm1] <;> rfl), (by rw [hm1, hm2] <;> rfl)⟩
  refine dsp (fun h8 p8 => ?_) fun h8 p8 => ?_
  refine dsp (fun h9 p9 => ?_) fun h9 p9 => ?_
  refine ⟨(fail_s (⟨d.plan, d.mode, d.stack, (scanByte d.scan b).1, a, d.at_, d.field, d.wire, d.want, d.utf, d.end_⟩ : Dcd) _ _), ?_⟩
  refine have hm1 : (varM ⟨d, []⟩ b a).d = (dFail (⟨d.plan, d.mode, d.stack, (scanByte d.scan b).1, a, d.at_, d.field, d.wire, d.want, d.utf, d.end_⟩ : Dcd) 9 d.at_) := ?_; ?_
  rotate_left
  refine have hm2 : (varM ⟨d, []⟩ b a).out = [failEv 9 d.at_] := ?_; ?_
  rotate_left
  exact ⟨(by rw [hm1] <;> rfl), (by rw [hm1, hm2] <;> rfl)⟩
  refine have hm1 : (varM ⟨d, []⟩ b a).d = (⟨d.plan, d.mode, d.stack, (scanByte d.scan b).1, a, d.at_, d.field, d.wire, d.want, d.utf, d.end_⟩ : Dcd) := ?_; ?_
  rotate_left
  refine have hm2 : (varM ⟨d, []⟩ b a).out = ([] : List Ev) := ?_; ?_
  rotate_left
  exact ⟨(by rw [hm1] <;> rfl), (by rw [hm1, hm2] <;> rfl)⟩
  refine have hm1 : (varM ⟨d, []⟩ b a).d = (⟨d.plan, d.mode, d.stack, (scanByte d.scan b).1, a, d.at_, d.field, d.wire, d.want, d.utf, d.end_⟩ : Dcd) := ?_; ?_
  rotate_left
  refine have hm2 : (varM ⟨d, []⟩ b a).out = ([] : List Ev) := ?_; ?_
  rotate_left
  exact ⟨(by rw [hm1] <;> rfl), (by rw [hm1, hm2] <;> rfl)⟩
  refine ⟨h2, h3, h4, (long_d (⟨d.plan, d.mode, d.stack, (⟨0, 0⟩ : Scn), a, d.at_, d.field, d.wire, d.want, d.utf, d.end_⟩ : Dcd) _ ((by first | (exact hp1.lv) | (exact levelsOk_same hp1.lv rfl rfl))) (by omega) (hp1.kn)), ?_⟩
  refine have hm1 : (varM ⟨d, []⟩ b a).d = (longM ⟨(⟨d.plan, d.mode, d.stack, (⟨0, 0⟩ : Scn), a, d.at_, d.field, d.wire, d.want, d.utf, d.end_⟩ : Dcd), []⟩ (scanByte d.scan b).1.bits).d := ?_; ?_
  rotate_left
  refine have hm2 : (varM ⟨d, []⟩ b a).out = (longM ⟨(⟨d.plan, d.mode, d.stack, (⟨0, 0⟩ : Scn), a, d.at_, d.field, d.wire, d.want, d.utf, d.end_⟩ : Dcd), []⟩ (scanByte d.scan b).1.bits).out := ?_; ?_
  rotate_left
  exact ⟨(by rw [hm1] <;> rfl), (by rw [hm1, hm2] <;> rfl)⟩
  refine ⟨(scanByte_s d.scan _ (by omega)), dsp (fun h5 p5 => ?_) fun h5 p5 => ?_⟩
  refine ⟨(fail_s d _ _), ?_⟩
  refine have hm1 : (varM ⟨d, []⟩ b a).d = (dFail d 1 a) := ?_; ?_
  rotate_left
  refine have hm2 : (varM ⟨d, []⟩ b a).out = [failEv 1 a] := ?_; ?_
  rotate_left
  exact ⟨(by rw [hm1] <;> rfl), (by rw [hm1, hm2] <;> rfl)⟩
  refine dsp (fun h6 p6 => ?_) fun h6 p6 => ?_
  refine ⟨fun h7 => have q7 := bnot_t h7; have p7 := of_decide_eq_false q7; ?_, fun h7 => have q7 := bnot_f h7; have p7 := of_decide_eq_true q7; ?_⟩
  refine ⟨(topL_s (⟨d.plan, d.mode, d.stack, (scanByte d.scan b).1, d.start, d.at_, d.field, d.wire, d.want, d.utf, d.end_⟩ : Dcd) (by first | omega | rfl | (dsimp only; omega))), dsp (fun h8 p8 => ?_) fun h8 p8 => ?_⟩
  refine ⟨(fail_s (⟨d.plan, d.mode, d.stack, (scanByte d.scan b).1, d.start, d.at_, d.field, d.wire, d.want, d.utf, d.end_⟩ : Dcd) _ _), ?_⟩
  refine have hm1 : (varM ⟨d, []⟩ b a).d = (dFail (⟨d.plan, d.mode, d.stack, (scanByte d.scan b).1, d.start, d.at_, d.field, d.wire, d.want, d.utf, d.end_⟩ : Dcd) 9 d.at_) := ?_; ?_
  rotate_left
  refine have hm2 : (varM ⟨d, []⟩ b a).out = [failEv 9 d.at_] := ?_; ?_
  rotate_left
  exact ⟨(by rw [hm1] <;> rfl), (by rw [hm1, hm2] <;> rfl)⟩
  refine dsp (fun h9 p9 => ?_) fun h9 p9 => ?_
  refine dsp (fun h10 p10 => ?_) fun h10 p10 => ?_
  refine ⟨(fail_s (⟨d.plan, d.mode, d.stack, (scanByte d.scan b).1, d.start, d.at_, d.field, d.wire, d.want, d.utf, d.end_⟩ : Dcd) _ _), ?_⟩
  refine have hm1 : (varM ⟨d, []⟩ b a).d = (dFail (⟨d.plan, d.mode, d.stack, (scanByte d.scan b).1, d.start, d.at_, d.field, d.wire, d.want, d.utf, d.end_⟩ : Dcd) 9 d.at_) := ?_; ?_
  rotate_left
  refine have hm2 : (varM ⟨d, []⟩ b a).out = [failEv 9 d.at_] := ?_; ?_
  rotate_left
  exact ⟨(by rw [hm1] <;> rfl), (by rw [hm1, hm2] <;> rfl)⟩
  refine have hm1 : (varM ⟨d, []⟩ b a).d = (⟨d.plan, d.mode, d.stack, (scanByte d.scan b).1, d.start, d.at_, d.field, d.wire, d.want, d.utf, d.end_⟩ : Dcd) := ?_; ?_
  rotate_left
  refine have hm2 : (varM ⟨d, []⟩ b a).out = ([] : List Ev) := ?_; ?_
  rotate_left
  exact ⟨(by rw [hm1] <;> rfl), (by rw [hm1, hm2] <;> rfl)⟩
  refine have hm1 : (varM ⟨d, []⟩ b a).d = (⟨d.plan, d.mode, d.stack, (scanByte d.scan b).1, d.start, d.at_, d.field, d.wire, d.want, d.utf, d.end_⟩ : Dcd) := ?_; ?_
  rotate_left
  refine have hm2 : (varM ⟨d, []⟩ b a).out = ([] : List Ev) := ?_; ?_
  rotate_left
  exact ⟨(by rw [hm1] <;> rfl), (by rw [hm1, hm2] <;> rfl)⟩
  refine dsp (fun h8 p8 => ?_) fun h8 p8 => ?_
  refine dsp (fun h9 p9 => ?_) fun h9 p9 => ?_
  refine ⟨(fail_s (⟨d.plan, d.mode, d.stack, (scanByte d.scan b).1, d.start, d.at_, d.field, d.wire, d.want, d.utf, d.end_⟩ : Dcd) _ _), ?_⟩
  refine have hm1 : (varM ⟨d, []⟩ b a).d = (dFail (⟨d.plan, d.mode, d.stack, (scanByte d.scan b).1, d.start, d.at_, d.field, d.wire, d.want, d.utf, d.end_⟩ : Dcd) 9 d.at_) := ?_; ?_
  rotate_left
  refine have hm2 : (varM ⟨d, []⟩ b a).out = [failEv 9 d.at_] := ?_; ?_
  rotate_left
  exact ⟨(by rw [hm1] <;> rfl), (by rw [hm1, hm2] <;> rfl)⟩
  refine have hm1 : (varM ⟨d, []⟩ b a).d = (⟨d.plan, d.mode, d.stack, (scanByte d.scan b).1, d.start, d.at_, d.field, d.wire, d.want, d.utf, d.end_⟩ : Dcd) := ?_; ?_
  rotate_left
  refine have hm2 : (varM ⟨d, []⟩ b a).out = ([] : List Ev) := ?_; ?_
  rotate_left
  exact ⟨(by rw [hm1] <;> rfl), (by rw [hm1, hm2] <;> rfl)⟩
  refine have hm1 : (varM ⟨d, []⟩ b a).d = (⟨d.plan, d.mode, d.stack, (scanByte d.scan b).1, d.start, d.at_, d.field, d.wire, d.want, d.utf, d.end_⟩ : Dcd) := ?_; ?_
  rotate_left
  refine have hm2 : (varM ⟨d, []⟩ b a).out = ([] : List Ev) := ?_; ?_
  rotate_left
  exact ⟨(by rw [hm1] <;> rfl), (by rw [hm1, hm2] <;> rfl)⟩
  refine ⟨h2, h3, h4, (num16_s (⟨d.plan, d.mode, d.stack, (⟨0, 0⟩ : Scn), d.start, d.at_, d.field, d.wire, d.want, d.utf, d.end_⟩ : Dcd) _ (by first | omega | rfl | (dsimp only; omega)) (by omega)), ?_⟩
  refine have hm1 : (varM ⟨d, []⟩ b a).d = (settleM (valueM ⟨(⟨d.plan, d.mode, d.stack, (⟨0, 0⟩ : Scn), d.start, d.at_, d.field, d.wire, d.want, d.utf, d.end_⟩ : Dcd), []⟩ (scanByte d.scan b).1.bits)).d := ?_; ?_
  rotate_left
  refine have hm2 : (varM ⟨d, []⟩ b a).out = (settleM (valueM ⟨(⟨d.plan, d.mode, d.stack, (⟨0, 0⟩ : Scn), d.start, d.at_, d.field, d.wire, d.want, d.utf, d.end_⟩ : Dcd), []⟩ (scanByte d.scan b).1.bits)).out := ?_; ?_
  rotate_left
  exact ⟨(by rw [hm1] <;> rfl), (by rw [hm1, hm2] <;> rfl)⟩
  refine ⟨(scanByte_s d.scan _ (by omega)), dsp (fun h2 p2 => ?_) fun h2 p2 => ?_⟩
  refine ⟨(fail_s d _ _), ?_⟩
  refine have hm1 : (varM ⟨d, []⟩ b a).d = (dFail d 1 a) := ?_; ?_
  rotate_left
  refine have hm2 : (varM ⟨d, []⟩ b a).out = [failEv 1 a] := ?_; ?_
  rotate_left
  exact ⟨(by rw [hm1] <;> rfl), (by rw [hm1, hm2] <;> rfl)⟩
  refine dsp (fun h3 p3 => ?_) fun h3 p3 => ?_
  refine ⟨fun h4 => have q4 := bnot_t h4; have p4 := of_decide_eq_false q4; ?_, fun h4 => have q4 := bnot_f h4; have p4 := of_decide_eq_true q4; ?_⟩
  refine ⟨(topL_s (⟨d.plan, d.mode, d.stack, (scanByte d.scan b).1, d.start, d.at_, d.field, d.wire, d.want, d.utf, d.end_⟩ : Dcd) (by first | omega | rfl | (dsimp only; omega))), dsp (fun h5 p5 => ?_) fun h5 p5 => ?_⟩
  refine ⟨(fail_s (⟨d.plan, d.mode, d.stack, (scanByte d.scan b).1, d.start, d.at_, d.field, d.wire, d.want, d.utf, d.end_⟩ : Dcd) _ _), ?_⟩
  refine have hm1 : (varM ⟨d, []⟩ b a).d = (dFail (⟨d.plan, d.mode, d.stack, (scanByte d.scan b).1, d.start, d.at_, d.field, d.wire, d.want, d.utf, d.end_⟩ : Dcd) 9 d.at_) := ?_; ?_
  rotate_left
  refine have hm2 : (varM ⟨d, []⟩ b a).out = [failEv 9 d.at_] := ?_; ?_
  rotate_left
  exact ⟨(by rw [hm1] <;> rfl), (by rw [hm1, hm2] <;> rfl)⟩
  refine dsp (fun h6 p6 => ?_) fun h6 p6 => ?_
  refine dsp (fun h7 p7 => ?_) fun h7 p7 => ?_
  refine ⟨(fail_s (⟨d.plan, d.mode, d.stack, (scanByte d.scan b).1, d.start, d.at_, d.field, d.wire, d.want, d.utf, d.end_⟩ : Dcd) _ _), ?_⟩
  refine have hm1 : (varM ⟨d, []⟩ b a).d = (dFail (⟨d.plan, d.mode, d.stack, (scanByte d.scan b).1, d.start, d.at_, d.field, d.wire, d.want, d.utf, d.end_⟩ : Dcd) 9 d.at_) := ?_; ?_
  rotate_left
  refine have hm2 : (varM ⟨d, []⟩ b a).out = [failEv 9 d.at_] := ?_; ?_
  rotate_left
  exact ⟨(by rw [hm1] <;> rfl), (by rw [hm1, hm2] <;> rfl)⟩
  refine have hm1 : (varM ⟨d, []⟩ b a).d = (⟨d.plan, d.mode, d.stack, (scanByte d.scan b).1, d.start, d.at_, d.field, d.wire, d.want, d.utf, d.end_⟩ : Dcd) := ?_; ?_
  rotate_left
  refine have hm2 : (varM ⟨d, []⟩ b a).out = ([] : List Ev) := ?_; ?_
  rotate_left
  exact ⟨(by rw [hm1] <;> rfl), (by rw [hm1, hm2] <;> rfl)⟩
  refine have hm1 : (varM ⟨d, []⟩ b a).d = (⟨d.plan, d.mode, d.stack, (scanByte d.scan b).1, d.start, d.at_, d.field, d.wire, d.want, d.utf, d.end_⟩ : Dcd) := ?_; ?_
  rotate_left
  refine have hm2 : (varM ⟨d, []⟩ b a).out = ([] : List Ev) := ?_; ?_
  rotate_left
  exact ⟨(by rw [hm1] <;> rfl), (by rw [hm1, hm2] <;> rfl)⟩
  refine dsp (fun h5 p5 => ?_) fun h5 p5 => ?_
  refine dsp (fun h6 p6 => ?_) fun h6 p6 => ?_
  refine ⟨(fail_s (⟨d.plan, d.mode, d.stack, (scanByte d.scan b).1, d.start, d.at_, d.field, d.wire, d.want, d.utf, d.end_⟩ : Dcd) _ _), ?_⟩
  refine have hm1 : (varM ⟨d, []⟩ b a).d = (dFail (⟨d.plan, d.mode, d.stack, (scanByte d.scan b).1, d.start, d.at_, d.field, d.wire, d.want, d.utf, d.end_⟩ : Dcd) 9 d.at_) := ?_; ?_
  rotate_left
  refine have hm2 : (varM ⟨d, []⟩ b a).out = [failEv 9 d.at_] := ?_; ?_
  rotate_left
  exact ⟨(by rw [hm1] <;> rfl), (by rw [hm1, hm2] <;> rfl)⟩
  refine have hm1 : (varM ⟨d, []⟩ b a).d = (⟨d.plan, d.mode, d.stack, (scanByte d.scan b).1, d.start, d.at_, d.field, d.wire, d.want, d.utf, d.end_⟩ : Dcd) := ?_; ?_
  rotate_left
  refine have hm2 : (varM ⟨d, []⟩ b a).out = ([] : List Ev) := ?_; ?_
  rotate_left
  exact ⟨(by rw [hm1] <;> rfl), (by rw [hm1, hm2] <;> rfl)⟩
  refine have hm1 : (varM ⟨d, []⟩ b a).d = (⟨d.plan, d.mode, d.stack, (scanByte d.scan b).1, d.start, d.at_, d.field, d.wire, d.want, d.utf, d.end_⟩ : Dcd) := ?_; ?_
  rotate_left
  refine have hm2 : (varM ⟨d, []⟩ b a).out = ([] : List Ev) := ?_; ?_
  rotate_left
  exact ⟨(by rw [hm1] <;> rfl), (by rw [hm1, hm2] <;> rfl)⟩
  refine dsp (fun h4 p4 => ?_) fun h4 p4 => ?_
  refine ⟨(frame_s (⟨d.plan, d.mode, d.stack, (⟨0, 0⟩ : Scn), d.start, d.at_, d.field, d.wire, d.want, d.utf, d.end_⟩ : Dcd) _ ((by first | (exact hp1.lv) | (exact levelsOk_same hp1.lv rfl rfl))) (by omega)), ?_⟩
  refine have hm1 : (varM ⟨d, []⟩ b a).d = (frameM ⟨(⟨d.plan, d.mode, d.stack, (⟨0, 0⟩ : Scn), d.start, d.at_, d.field, d.wire, d.want, d.utf, d.end_⟩ : Dcd), []⟩ (scanByte d.scan b).1.bits).d := ?_; ?_
  rotate_left
  refine have hm2 : (varM ⟨d, []⟩ b a).out = (frameM ⟨(⟨d.plan, d.mode, d.stack, (⟨0, 0⟩ : Scn), d.start, d.at_, d.field, d.wire, d.want, d.utf, d.end_⟩ : Dcd), []⟩ (scanByte d.scan b).1.bits).out := ?_; ?_
  rotate_left
  exact ⟨(by rw [hm1] <;> rfl), (by rw [hm1, hm2] <;> rfl)⟩
  refine dsp (fun h5 p5 => ?_) fun h5 p5 => ?_
  refine ⟨(tag_s (⟨d.plan, d.mode, d.stack, (⟨0, 0⟩ : Scn), d.start, d.at_, d.field, d.wire, d.want, d.utf, d.end_⟩ : Dcd) _ ((by first | (exact hp1.lv) | (exact levelsOk_same hp1.lv rfl rfl))) (by omega)), ?_⟩
  refine have hm1 : (varM ⟨d, []⟩ b a).d = (tagM ⟨(⟨d.plan, d.mode, d.stack, (⟨0, 0⟩ : Scn), d.start, d.at_, d.field, d.wire, d.want, d.utf, d.end_⟩ : Dcd), []⟩ (scanByte d.scan b).1.bits).d := ?_; ?_
  rotate_left
  refine have hm2 : (varM ⟨d, []⟩ b a).out = (tagM ⟨(⟨d.plan, d.mode, d.stack, (⟨0, 0⟩ : Scn), d.start, d.at_, d.field, d.wire, d.want, d.utf, d.end_⟩ : Dcd), []⟩ (scanByte d.scan b).1.bits).out := ?_; ?_
  rotate_left
  exact ⟨(by rw [hm1] <;> rfl), (by rw [hm1, hm2] <;> rfl)⟩
  refine dsp (fun h6 p6 => ?_) fun h6 p6 => ?_
  refine ⟨(long_d (⟨d.plan, d.mode, d.stack, (⟨0, 0⟩ : Scn), d.start, d.at_, d.field, d.wire, d.want, d.utf, d.end_⟩ : Dcd) _ ((by first | (exact hp1.lv) | (exact levelsOk_same hp1.lv rfl rfl))) (by omega) (hp1.kn)), ?_⟩
  refine have hm1 : (varM ⟨d, []⟩ b a).d = (longM ⟨(⟨d.plan, d.mode, d.stack, (⟨0, 0⟩ : Scn), d.start, d.at_, d.field, d.wire, d.want, d.utf, d.end_⟩ : Dcd), []⟩ (scanByte d.scan b).1.bits).d := ?_; ?_
  rotate_left
  refine have hm2 : (varM ⟨d, []⟩ b a).out = (longM ⟨(⟨d.plan, d.mode, d.stack, (⟨0, 0⟩ : Scn), d.start, d.at_, d.field, d.wire, d.want, d.utf, d.end_⟩ : Dcd), []⟩ (scanByte d.scan b).1.bits).out := ?_; ?_
  rotate_left
  exact ⟨(by rw [hm1] <;> rfl), (by rw [hm1, hm2] <;> rfl)⟩
  refine ⟨(num16_s (⟨d.plan, d.mode, d.stack, (⟨0, 0⟩ : Scn), d.start, d.at_, d.field, d.wire, d.want, d.utf, d.end_⟩ : Dcd) _ (by first | omega | rfl | (dsimp only; omega)) (by omega)), ?_⟩
  refine have hm1 : (varM ⟨d, []⟩ b a).d = (settleM (valueM ⟨(⟨d.plan, d.mode, d.stack, (⟨0, 0⟩ : Scn), d.start, d.at_, d.field, d.wire, d.want, d.utf, d.end_⟩ : Dcd), []⟩ (scanByte d.scan b).1.bits)).d := ?_; ?_
  rotate_left
  refine have hm2 : (varM ⟨d, []⟩ b a).out = (settleM (valueM ⟨(⟨d.plan, d.mode, d.stack, (⟨0, 0⟩ : Scn), d.start, d.at_, d.field, d.wire, d.want, d.utf, d.end_⟩ : Dcd), []⟩ (scanByte d.scan b).1.bits)).out := ?_; ?_
  rotate_left
  exact ⟨(by rw [hm1] <;> rfl), (by rw [hm1, hm2] <;> rfl)⟩
  all_goals first | (simp_all [varM, startM, dScan, moreM, mFail, dFail, scn0]; done) | ((unfold varM; simp_all [startM, dScan, moreM, mFail, dFail, scn0]; done)) | (grind [varM, startM, dScan, moreM, mFail, dFail, scn0])
set_option maxHeartbeats 1600000 in
theorem fix16_s (d : Dcd) (b : Int) (w : Int) (hp1 : MW d) (hp2 : (0 : Int) ≤ b ∧ b ≤ 255) (hp3 : w = widthD d) (hp4 : (d).mode = 8 → runs (d).field = true) : Fun Tryz.prog 78 [.agg (oDcd0_5 0 1 d), vI b, vI w] [.tree d.plan.shapes, .lst .lev d.stack] (.tup [.agg (oDcd0_5 2 3 (fixM ⟨d, []⟩ b).d), vO 4]) [.dead, .dead, .tree (fixM ⟨d, []⟩ b).d.plan.shapes, .lst .lev (fixM ⟨d, []⟩ b).d.stack, .lst .ev (fixM ⟨d, []⟩ b).out] := by
  have hN : bigN = 274877906944 := rfl
  have hlv := levelsOk_b hp1.lv
  have hpt := planOk_t hlv.1
  have htb := topL_b hp1.lv
  have hbb := hp1.b0
  have hat := hp1.at_
  have hwt := hp1.want
  have hwd := widthD_b d
  have hfb := fixByte_b (b := b) hbb
  refine fun_ofw Tryz.func78 (by kernel_rfl) (by kernel_rfl) (w := let zi : Int → C := .int .i64; let z1 : List C := [zi d.start, zi d.at_, zi d.field.number, zi d.field.kind, .bool d.field.rep, .bool d.field.packed, zi d.field.msg, zi d.wire, zi d.want, zi d.utf.want, zi d.utf.low, zi d.utf.high, zi d.end_.kind, zi d.end_.field, .int .u64 d.end_.bits, zi d.end_.len, .str d.end_.text, zi d.end_.code, zi d.end_.at_]; let z6 := fixByte d.scan b; let z9 := (⟨d.plan, d.mode, d.stack, (⟨0, 0⟩ : Scn), d.start, d.at_, d.field, d.wire, d.want, d.utf, d.end_⟩ : Dcd); let z2 := settleM (valueM ⟨z9, []⟩ z6.bits); let z3 := dFail z9 9 d.at_; let z4 : List Blk := [.dead, .dead, .tree z2.d.plan.shapes, .lst .lev z2.d.stack, .lst .ev z2.out]; let z7 := oDcd0_5 2 3 z2.d; let z10 : List Blk := [.dead, .dead, .tree z3.plan.shapes, .lst .lev z3.stack, .lst .ev [failEv 9 d.at_]]; let z11 := numEv d.field z6.bits; let z12 := (.tup [.agg z7, vO 4] : S); let z13 := fixM ⟨d, []⟩ b; let z5 : List Blk := [.dead, .dead, .tree z13.d.plan.shapes, .lst .lev z13.d.stack, .lst .ev z13.out]; let z8 := oDcd0_5 2 3 z13.d; (.seg [.call [] (.v (.agg (cScn z6))) []] (.br (.seg [.ty .ev, .at 0, .cut 3 0, .cut 3 5] (.leaf () [0, 1, 6, 7, 5])) (.br (.br (.br (.seg [.call [] (.v (.agg (cEv z11))) [], .call [0, 1] (.tup [.agg (oDcd0_5 2 3 z3), vO 4]) z10, .tree (.first 0 (.first 1 (.first 3 (.one 2 (.one 4 (.one 5 (.first 6 (.done)))))))) 5 [8], .ty .ev, .ty .ev] (.leaf () [0, 1, 6, 7, 11])) (.seg [.call [0, 1] (.tup [.agg z7, vO 4]) z4] (.leaf () [0, 1, 5, 6, 7]))) (.seg [.call [0, 1] (.tup [.agg z7, vO 4]) z4] (.leaf () [0, 1, 5, 6, 7]))) (.seg [.call [0, 1] (.tup [.agg z7, vO 4]) z4] (.leaf () [0, 1, 5, 6, 7])))), (Fun Tryz.prog 133 [.agg (cScn d.scan), vI b] [] (.v (.agg (cScn z6))) []) ∧ ((decide (z6.have_ < w)) = true → (.tup [.agg (.own 2 :: zi d.plan.root :: zi d.plan.deep :: zi d.plan.most :: zi d.mode :: .own 3 :: .int .u64 z6.bits :: zi z6.have_ :: z1), vO 4] : S) = .tup [.agg z8, vO 4] ∧ ([.dead, .dead, .tree d.plan.shapes, .lst .lev d.stack, .lst .ev ([] : List Ev)] : List Blk) = z5) ∧ ((decide (z6.have_ < w)) = false → ((decide (d.mode = 8)) = true → ((decide (0 < d.want)) = true → ((decide (d.want < w)) = true → (Fun Tryz.prog 134 [.agg (cFld d.field), .c (.int .u64 z6.bits)] [] (.v (.agg (cEv z11))) []) ∧ (Fun Tryz.prog 76 [.agg (.own 0 :: zi d.plan.root :: zi d.plan.deep :: zi d.plan.most :: zi d.mode :: .own 1 :: .int .u64 0 :: zi 0 :: z1), vI 9, vI d.at_] [.tree d.plan.shapes, .lst .lev d.stack] (.tup [.agg (oDcd0_5 2 3 z3), vO 4]) z10) ∧ (List.length [z11] + List.length [failEv 9 d.at_] ≤ bigN) ∧ (.tup [.agg (oDcd0_5 2 3 z3), vO 4] : S) = .tup [.agg z8, vO 4] ∧ ([.dead, .dead, .tree z3.plan.shapes, .lst .lev z3.stack, .lst .ev ([z11] ++ [failEv 9 d.at_])] : List Blk) = z5) ∧ ((decide (d.want < w)) = false → (Fun Tryz.prog 135 [.agg (.own 0 :: zi d.plan.root :: zi d.plan.deep :: zi d.plan.most :: zi d.mode :: .own 1 :: .int .u64 0 :: zi 0 :: z1), .c (.int .u64 z6.bits)] [.tree d.plan.shapes, .lst .lev d.stack] (.tup [.agg z7, vO 4]) z4) ∧ z12 = .tup [.agg z8, vO 4] ∧ (z4 : List Blk) = z5)) ∧ ((decide (0 < d.want)) = false → (Fun Tryz.prog 135 [.agg (.own 0 :: zi d.plan.root :: zi d.plan.deep :: zi d.plan.most :: zi d.mode :: .own 1 :: .int .u64 0 :: zi 0 :: z1), .c (.int .u64 z6.bits)] [.tree d.plan.shapes, .lst .lev d.stack] (.tup [.agg z7, vO 4]) z4) ∧ z12 = .tup [.agg z8, vO 4] ∧ (z4 : List Blk) = z5)) ∧ ((decide (d.mode = 8)) = false → (Fun Tryz.prog 135 [.agg (.own 0 :: zi d.plan.root :: zi d.plan.deep :: zi d.plan.most :: zi d.mode :: .own 1 :: .int .u64 0 :: zi 0 :: z1), .c (.int .u64 z6.bits)] [.tree d.plan.shapes, .lst .lev d.stack] (.tup [.agg z7, vO 4]) z4) ∧ z12 = .tup [.agg z8, vO 4] ∧ (z4 : List Blk) = z5)))) (by kernel_rfl) ?_
  refine ⟨(fixByte_s d.scan _), dsp (fun h1 p1 => ?_) fun h1 p1 => ?_⟩
  refine have hm1 : (fixM ⟨d, []⟩ b).d = (⟨d.plan, d.mode, d.stack, (fixByte d.scan b), d.start, d.at_, d.field, d.wire, d.want, d.utf, d.end_⟩ : Dcd) := ?_; ?_
  rotate_left
  refine have hm2 : (fixM ⟨d, []⟩ b).out = ([] : List Ev) := ?_; ?_
  rotate_left
  exact ⟨(by rw [hm1] <;> rfl), (by rw [hm1, hm2] <;> rfl)⟩
  refine dsp (fun h2 p2 => ?_) fun h2 p2 => ?_
  refine dsp (fun h3 p3 => ?_) fun h3 p3 => ?_
  refine dsp (fun h4 p4 => ?_) fun h4 p4 => ?_
  refine ⟨(numEvent_s d.field _ (by omega)), (fail_s (⟨d.plan, d.mode, d.stack, (⟨0, 0⟩ : Scn), d.start, d.at_, d.field, d.wire, d.want, d.utf, d.end_⟩ : Dcd) _ _), (by simp only [List.length_cons, List.length_nil]; omega), ?_⟩
  refine have hm1 : (fixM ⟨d, []⟩ b).d = (dFail (⟨d.plan, d.mode, d.stack, (⟨0, 0⟩ : Scn), d.start, d.at_, d.field, d.wire, d.want, d.utf, d.end_⟩ : Dcd) 9 d.at_) := ?_; ?_
  rotate_left
  refine have hm2 : (fixM ⟨d, []⟩ b).out = [(numEv d.field (fixByte d.scan b).bits)] ++ [failEv 9 d.at_] := ?_; ?_
  rotate_left
  exact ⟨(by rw [hm1] <;> rfl), (by rw [hm1, hm2] <;> rfl)⟩
  refine ⟨(num16_s (⟨d.plan, d.mode, d.stack, (⟨0, 0⟩ : Scn), d.start, d.at_, d.field, d.wire, d.want, d.utf, d.end_⟩ : Dcd) _ (by first | omega | rfl | (dsimp only; omega)) (by omega)), ?_⟩
  refine have hm1 : (fixM ⟨d, []⟩ b).d = (settleM (valueM ⟨(⟨d.plan, d.mode, d.stack, (⟨0, 0⟩ : Scn), d.start, d.at_, d.field, d.wire, d.want, d.utf, d.end_⟩ : Dcd), []⟩ (fixByte d.scan b).bits)).d := ?_; ?_
  rotate_left
  refine have hm2 : (fixM ⟨d, []⟩ b).out = (settleM (valueM ⟨(⟨d.plan, d.mode, d.stack, (⟨0, 0⟩ : Scn), d.start, d.at_, d.field, d.wire, d.want, d.utf, d.end_⟩ : Dcd), []⟩ (fixByte d.scan b).bits)).out := ?_; ?_
  rotate_left
  exact ⟨(by rw [hm1] <;> rfl), (by rw [hm1, hm2] <;> rfl)⟩
  refine ⟨(num16_s (⟨d.plan, d.mode, d.stack, (⟨0, 0⟩ : Scn), d.start, d.at_, d.field, d.wire, d.want, d.utf, d.end_⟩ : Dcd) _ (by first | omega | rfl | (dsimp only; omega)) (by omega)), ?_⟩
  refine have hm1 : (fixM ⟨d, []⟩ b).d = (settleM (valueM ⟨(⟨d.plan, d.mode, d.stack, (⟨0, 0⟩ : Scn), d.start, d.at_, d.field, d.wire, d.want, d.utf, d.end_⟩ : Dcd), []⟩ (fixByte d.scan b).bits)).d := ?_; ?_
  rotate_left
  refine have hm2 : (fixM ⟨d, []⟩ b).out = (settleM (valueM ⟨(⟨d.plan, d.mode, d.stack, (⟨0, 0⟩ : Scn), d.start, d.at_, d.field, d.wire, d.want, d.utf, d.end_⟩ : Dcd), []⟩ (fixByte d.scan b).bits)).out := ?_; ?_
  rotate_left
  exact ⟨(by rw [hm1] <;> rfl), (by rw [hm1, hm2] <;> rfl)⟩
  refine ⟨(num16_s (⟨d.plan, d.mode, d.stack, (⟨0, 0⟩ : Scn), d.start, d.at_, d.field, d.wire, d.want, d.utf, d.end_⟩ : Dcd) _ (by first | omega | rfl | (dsimp only; omega)) (by omega)), ?_⟩
  refine have hm1 : (fixM ⟨d, []⟩ b).d = (settleM (valueM ⟨(⟨d.plan, d.mode, d.stack, (⟨0, 0⟩ : Scn), d.start, d.at_, d.field, d.wire, d.want, d.utf, d.end_⟩ : Dcd), []⟩ (fixByte d.scan b).bits)).d := ?_; ?_
  rotate_left
  refine have hm2 : (fixM ⟨d, []⟩ b).out = (settleM (valueM ⟨(⟨d.plan, d.mode, d.stack, (⟨0, 0⟩ : Scn), d.start, d.at_, d.field, d.wire, d.want, d.utf, d.end_⟩ : Dcd), []⟩ (fixByte d.scan b).bits)).out := ?_; ?_
  rotate_left
  exact ⟨(by rw [hm1] <;> rfl), (by rw [hm1, hm2] <;> rfl)⟩
  all_goals first | (simp_all [fixM, dScan, mFail, dFail, scn0, valueM_at, valueM_want]; done) | ((have hne : d.field ≠ fld0 := runs_ne (hp4 (by assumption)); have hff : fixM ⟨d, []⟩ b = mFail (valueM ⟨dScan d scn0, []⟩ (fixByte d.scan b).bits) 9 d.at_ := (by unfold fixM; simp only; rw [if_neg (by omega), if_pos ⟨by assumption, by assumption, by omega⟩]); rw [hff]; simp [mFail, dFail, valueM, dScan, scn0, hne]; done)) | (grind [fixM, dScan, mFail, dFail, scn0, valueM, valueM_at, valueM_want])
end Go.Proofs.YtecljjcmjongfaaGreat.Ax
namespace Go.Proofs.YtecljjcmjongfaaGreat.Ax
open Go.RowKit
set_option linter.unusedSimpArgs false
set_option linter.unusedVariables false
set_option maxHeartbeats 3200000 in
theorem stepB_s (d : Dcd) (b : Int) (hp1 : List.length (d).plan.shapes ≤ 1048576) (hp2 : ∀ e ∈ (d).plan.shapes, e.fields.length ≤ 1048576) (hp3 : List.length (d).stack ≤ 1048576) (hp4 : (0 : Int) ≤ (d).scan.bits ∧ (d).scan.bits ≤ 18446744073709551615) : Fun Tryz.prog 35 [.agg (cDcd d), vI b] [] (.tup [.agg (oDcd0_5 0 1 (stepB d b).d), vO 2]) [.tree (stepB d b).d.plan.shapes, .lst .lev (stepB d b).d.stack, .lst .ev (stepB d b).out] := by
  have hN : bigN = 274877906944 := rfl
  refine fun_ofw Tryz.func35 (by kernel_rfl) (by kernel_rfl) (w := let zi : Int → C := .int .i64; let z15 : List C := [zi 4, zi 0, .int .u64 0, zi 0, .str (List.map toByte [b]), zi 0, zi 0]; let z16 : List C := [zi d.end_.kind, zi d.end_.field, .int .u64 d.end_.bits, zi d.end_.len, .str d.end_.text, zi d.end_.code, zi d.end_.at_]; let z17 := (⟨d.plan, d.mode, d.stack, d.scan, d.start, d.at_ + 1, d.field, d.wire, d.want - 1, d.utf, d.end_⟩ : Dcd); let z18 := (⟨d.plan, d.mode, d.stack, d.scan, d.start, d.at_ + 1, d.field, d.wire, d.want, d.utf, d.end_⟩ : Dcd); let z20 := (d.stack.length : Int); let z21 := stepB d b; let z22 := settleM ⟨z17, []⟩; let z23 := (⟨4, 0, 0, 0, List.map toByte [b], 0, 0⟩ : Ev); let z24 := oDcd0_5 0 1 z21.d; let z27 := decide (d.mode = 7); let z28 := varM ⟨z17, []⟩ b d.at_; let z29 := varM ⟨z18, []⟩ b d.at_; let z30 := ([.tree d.plan.shapes, .lst .lev d.stack, .lst .ev ([] : List Ev)] : List Blk); let z31 : List Blk := [.dead, .dead, .tree z22.d.plan.shapes, .lst .lev z22.d.stack, .lst .ev z22.out]; let z32 := (.v (.c (.int .u8 (IntKind.u8.wrap (b)))) : S) = .v (.c (.int .u8 b)); let z33 := (.v (vI (IntKind.i64.wrap (z20 - 1))) : S) = .v (vI (z20 - 1)); let z34 := vI (widthD d); let z35 := fixM ⟨z17, []⟩ b; let z36 := fixM ⟨z18, []⟩ b; let z37 := decide (d.mode = 6); let z38 := decide (0 < widthD d); let z39 := dFail z17 5 d.at_; let z40 := utfByte d.utf b; let z26 := z40.getD d.utf; let z19 := settleM ⟨(⟨d.plan, d.mode, d.stack, d.scan, d.start, d.at_ + 1, d.field, d.wire, d.want - 1, z26, d.end_⟩ : Dcd), []⟩; let z41 := Int.toNat (z20 - 1); let z42 := (.tup [.agg (oDcd0_5 0 1 d), vO 2] : S); let z43 := vI (d.want - 1); let z25 := (.v (vI (IntKind.i64.wrap (d.want - 1))) : S) = .v z43; let z44 := oDcd0_5 2 3 z22.d; let z45 := (.tup [.agg (oDcd0_5 0 1 z22.d), vO 2] : S); let z46 : List Blk := [.dead, .dead, .tree z19.d.plan.shapes, .lst .lev z19.d.stack, .lst .ev (z23 :: z19.out)]; let z47 : List Blk := [.dead, .dead, .tree z22.d.plan.shapes, .lst .lev z22.d.stack, .lst .ev (z23 :: z22.out)]; let z48 := ([.tree z22.d.plan.shapes, .lst .lev z22.d.stack, .lst .ev z22.out] : List Blk); let z49 : List Blk := [.dead, .dead, .tree z39.plan.shapes, .lst .lev z39.stack, .lst .ev [failEv 5 d.at_]]; let z50 := decide (d.field.kind = 6); let z51 : List Blk := [.dead, .dead, .tree z35.d.plan.shapes, .lst .lev z35.d.stack, .lst .ev z35.out]; let z52 : List Blk := [.dead, .dead, .tree z28.d.plan.shapes, .lst .lev z28.d.stack, .lst .ev z28.out]; let z53 : List Blk := [.dead, .dead, .tree z36.d.plan.shapes, .lst .lev z36.d.stack, .lst .ev z36.out]; let z54 : List Blk := [.dead, .dead, .tree z29.d.plan.shapes, .lst .lev z29.d.stack, .lst .ev z29.out]; let z55 := (0 : Int) ≤ z20 - 1; let z56 := decide (d.mode = 8); let z57 := d.at_ + 1; let z12 : List C := .own 0 :: zi d.plan.root :: zi d.plan.deep :: zi d.plan.most :: zi d.mode :: .own 1 :: .int .u64 d.scan.bits :: zi d.scan.have_ :: zi d.start :: zi z57 :: zi d.field.number :: zi d.field.kind :: .bool d.field.rep :: .bool d.field.packed :: zi d.field.msg :: zi d.wire :: zi (d.want - 1) :: zi d.utf.want :: zi d.utf.low :: zi d.utf.high :: z16; let z13 : List C := .own 0 :: zi d.plan.root :: zi d.plan.deep :: zi d.plan.most :: zi d.mode :: .own 1 :: .int .u64 d.scan.bits :: zi d.scan.have_ :: zi d.start :: zi z57 :: zi d.field.number :: zi d.field.kind :: .bool d.field.rep :: .bool d.field.packed :: zi d.field.msg :: zi d.wire :: zi d.want :: zi d.utf.want :: zi d.utf.low :: zi d.utf.high :: z16; let z14 : List C := .own 0 :: zi d.plan.root :: zi d.plan.deep :: zi d.plan.most :: zi d.mode :: .own 1 :: .int .u64 d.scan.bits :: zi d.scan.have_ :: zi d.start :: zi z57 :: zi d.field.number :: zi d.field.kind :: .bool d.field.rep :: .bool d.field.packed :: zi d.field.msg :: zi d.wire :: zi (d.want - 1) :: zi z26.want :: zi z26.low :: zi z26.high :: z16; let z58 := within b 0 255; let z59 := z20 - 1 < z20; let z60 := !z40.isSome; let z61 := z27 = false; let z62 := z37 = false; (.seg [.call [] (.v (.agg (oDcd0_5 0 1 d))) [.tree d.plan.shapes, .lst .lev d.stack], .call [] (.v (vB (decOk d))) []] (.br (.seg [.ty .ev] (.leaf () [2, 3, 5])) (.br (.seg [.ty .ev] (.leaf () [2, 3, 5])) (.seg [.call [] (.v (vB z58)) []] (.br (.seg [.ty .ev] (.leaf () [2, 3, 5])) (.br (.seg [.ty .ev] (.leaf () [2, 3, 5])) (.seg [.as 35 (.v (vI z57))] (.br (.intro (fun (x1 : Lev) => d.stack[Int.toNat (z20 - 1)]? = some x1) fun x1 => let z4 := (⟨x1.msg, x1.left - 1⟩ : Lev); let z1 := (⟨d.plan, d.mode, List.set d.stack z41 z4, d.scan, d.start, d.at_ + 1, d.field, d.wire, d.want - 1, d.utf, d.end_⟩ : Dcd); let z2 := (⟨d.plan, d.mode, List.set d.stack z41 z4, d.scan, d.start, d.at_ + 1, d.field, d.wire, d.want, d.utf, d.end_⟩ : Dcd); let z3 := settleM ⟨(⟨d.plan, d.mode, List.set d.stack z41 z4, d.scan, d.start, d.at_ + 1, d.field, d.wire, d.want - 1, z26, d.end_⟩ : Dcd), []⟩; .seg [.ord (os 15 [14]) [], .as 45 (.v (vI (z20 - 1))), .as 49 (.v (vI (z20 - 1))), .el .lev x1, .as 53 (.v (vI (x1.left - 1))), .el .lev x1] (.br (.seg [.as 71 (.v z43), .call [] (.v z34) []] (.br (.seg [.call [2, 3] (.tup [.agg (oDcd0_5 2 3 (settleM ⟨z1, []⟩).d), vO 4]) [.dead, .dead, .tree (settleM ⟨z1, []⟩).d.plan.shapes, .lst .lev (settleM ⟨z1, []⟩).d.stack, .lst .ev (settleM ⟨z1, []⟩).out]] (.leaf () [5, 6, 7])) (.seg [.br true] (.br (.seg [.call [] (.tup [.agg (cUtf z26), vB z40.isSome]) []] (.br (.seg [.call [2, 3] (.tup [.agg (oDcd0_5 2 3 (dFail z1 5 d.at_)), vO 4]) [.dead, .dead, .tree (dFail z1 5 d.at_).plan.shapes, .lst .lev (dFail z1 5 d.at_).stack, .lst .ev [failEv 5 d.at_]]] (.leaf () [6, 7, 8])) (.seg [.as 110 (.v (.c (.int .u8 b))), .ty .u8, .call [2, 3] (.tup [.agg (oDcd0_5 2 3 z3.d), vO 4]) [.dead, .dead, .tree z3.d.plan.shapes, .lst .lev z3.d.stack, .lst .ev (z23 :: z3.out)]] (.leaf () [7, 8, 9])))) (.seg [.as 110 (.v (.c (.int .u8 b))), .ty .u8, .call [2, 3] (.tup [.agg (oDcd0_5 2 3 (settleM ⟨z1, []⟩).d), vO 4]) [.dead, .dead, .tree (settleM ⟨z1, []⟩).d.plan.shapes, .lst .lev (settleM ⟨z1, []⟩).d.stack, .lst .ev (z23 :: (settleM ⟨z1, []⟩).out)]] (.leaf () [6, 7, 8])))))) (.br (.seg [.as 71 (.v z43), .call [] (.v z34) [], .br true, .call [2, 3] (.tup [.agg (oDcd0_5 2 3 (settleM ⟨z1, []⟩).d), vO 4]) [.dead, .dead, .tree (settleM ⟨z1, []⟩).d.plan.shapes, .lst .lev (settleM ⟨z1, []⟩).d.stack, .lst .ev (settleM ⟨z1, []⟩).out]] (.leaf () [5, 6, 7])) (.br (.seg [.as 71 (.v z43), .call [] (.v z34) [], .br false, .br false] (.br (.seg [.call [2, 3] (.tup [.agg (oDcd0_5 2 3 (fixM ⟨z1, []⟩ b).d), vO 4]) [.dead, .dead, .tree (fixM ⟨z1, []⟩ b).d.plan.shapes, .lst .lev (fixM ⟨z1, []⟩ b).d.stack, .lst .ev (fixM ⟨z1, []⟩ b).out]] (.leaf () [5, 6, 7])) (.seg [.call [2, 3] (.tup [.agg (oDcd0_5 2 3 (varM ⟨z1, []⟩ b d.at_).d), vO 4]) [.dead, .dead, .tree (varM ⟨z1, []⟩ b d.at_).d.plan.shapes, .lst .lev (varM ⟨z1, []⟩ b d.at_).d.stack, .lst .ev (varM ⟨z1, []⟩ b d.at_).out]] (.leaf () [5, 6, 7])))) (.seg [.call [] (.v z34) [], .br false, .br false] (.br (.seg [.call [2, 3] (.tup [.agg (oDcd0_5 2 3 (fixM ⟨z2, []⟩ b).d), vO 4]) [.dead, .dead, .tree (fixM ⟨z2, []⟩ b).d.plan.shapes, .lst .lev (fixM ⟨z2, []⟩ b).d.stack, .lst .ev (fixM ⟨z2, []⟩ b).out]] (.leaf () [5, 6, 7])) (.seg [.call [2, 3] (.tup [.agg (oDcd0_5 2 3 (varM ⟨z2, []⟩ b d.at_).d), vO 4]) [.dead, .dead, .tree (varM ⟨z2, []⟩ b d.at_).d.plan.shapes, .lst .lev (varM ⟨z2, []⟩ b d.at_).d.stack, .lst .ev (varM ⟨z2, []⟩ b d.at_).out]] (.leaf () [5, 6, 7])))))))) (.br (.seg [.as 71 (.v z43), .call [] (.v z34) []] (.br (.seg [.call [2, 3] (.tup [.agg z44, vO 4]) z31] (.leaf () [5, 6, 7])) (.seg [.br true] (.br (.seg [.call [] (.tup [.agg (cUtf z26), vB z40.isSome]) []] (.br (.seg [.call [2, 3] (.tup [.agg (oDcd0_5 2 3 z39), vO 4]) z49] (.leaf () [6, 7, 8])) (.seg [.as 110 (.v (.c (.int .u8 b))), .ty .u8, .call [2, 3] (.tup [.agg (oDcd0_5 2 3 z19.d), vO 4]) z46] (.leaf () [7, 8, 9])))) (.seg [.as 110 (.v (.c (.int .u8 b))), .ty .u8, .call [2, 3] (.tup [.agg z44, vO 4]) z47] (.leaf () [6, 7, 8])))))) (.br (.seg [.as 71 (.v z43), .call [] (.v z34) [], .br true, .call [2, 3] (.tup [.agg z44, vO 4]) z31] (.leaf () [5, 6, 7])) (.br (.seg [.as 71 (.v z43), .call [] (.v z34) [], .br false, .br false] (.br (.seg [.call [2, 3] (.tup [.agg (oDcd0_5 2 3 z35.d), vO 4]) z51] (.leaf () [5, 6, 7])) (.seg [.call [2, 3] (.tup [.agg (oDcd0_5 2 3 z28.d), vO 4]) z52] (.leaf () [5, 6, 7])))) (.seg [.call [] (.v z34) [], .br false, .br false] (.br (.seg [.call [2, 3] (.tup [.agg (oDcd0_5 2 3 z36.d), vO 4]) z53] (.leaf () [5, 6, 7])) (.seg [.call [2, 3] (.tup [.agg (oDcd0_5 2 3 z29.d), vO 4]) z54] (.leaf () [5, 6, 7])))))))))))))), (Fun Tryz.prog 70 [.agg (cDcd d)] [] (.v (.agg (oDcd0_5 0 1 d))) [.tree d.plan.shapes, .lst .lev d.stack]) ∧ (Fun Tryz.prog 71 [.agg (cDcd d)] [] (.v (vB (decOk d))) []) ∧ ((!(decOk d)) = true → z42 = .tup [.agg z24, vO 2] ∧ z30 = [.tree z21.d.plan.shapes, .lst .lev z21.d.stack, .lst .ev z21.out]) ∧ ((!(decOk d)) = false → ((decide (d.mode = 9)) = true → z42 = .tup [.agg z24, vO 2] ∧ z30 = [.tree z21.d.plan.shapes, .lst .lev z21.d.stack, .lst .ev z21.out]) ∧ ((decide (d.mode = 9)) = false → (Fun Tryz.prog 72 [vI b, vI 0, vI 255] [] (.v (vB z58)) []) ∧ ((!z58) = true → z42 = .tup [.agg z24, vO 2] ∧ z30 = [.tree z21.d.plan.shapes, .lst .lev z21.d.stack, .lst .ev z21.out]) ∧ ((!z58) = false → ((decide (d.at_ = 1000000000)) = true → z42 = .tup [.agg z24, vO 2] ∧ z30 = [.tree z21.d.plan.shapes, .lst .lev z21.d.stack, .lst .ev z21.out]) ∧ ((decide (d.at_ = 1000000000)) = false → ((.v (vI (IntKind.i64.wrap z57)) : S) = .v (vI z57)) ∧ ((decide (0 < z20)) = true → (∃ (x1 : Lev), d.stack[Int.toNat (z20 - 1)]? = some x1) ∧ ∀ (x1 : Lev), (d.stack[Int.toNat (z20 - 1)]? = some x1) → (let z9 := d.stack[Int.toNat (z20 - 1)]? = some x1; let z10 := (⟨x1.msg, x1.left - 1⟩ : Lev); let z5 := (⟨d.plan, d.mode, List.set d.stack z41 z10, d.scan, d.start, d.at_ + 1, d.field, d.wire, d.want - 1, d.utf, d.end_⟩ : Dcd); let z6 := (⟨d.plan, d.mode, List.set d.stack z41 z10, d.scan, d.start, d.at_ + 1, d.field, d.wire, d.want, d.utf, d.end_⟩ : Dcd); let z7 := settleM ⟨(⟨d.plan, d.mode, List.set d.stack z41 z10, d.scan, d.start, d.at_ + 1, d.field, d.wire, d.want - 1, z26, d.end_⟩ : Dcd), []⟩; let z8 := List.set d.stack z41 z10; let z11 := (.v (vI (IntKind.i64.wrap (x1.left - 1))) : S) = .v (vI (x1.left - 1)); z33 ∧ z33 ∧ z33 ∧ z33 ∧ z59 ∧ z55 ∧ z59 ∧ z55 ∧ z9 ∧ z9 ∧ z11 ∧ z11 ∧ z59 ∧ z55 ∧ z59 ∧ z55 ∧ z9 ∧ (z37 = true → z25 ∧ (Fun Tryz.prog 73 [.agg (cDcd d)] [] (.v z34) []) ∧ (z27 = true → (Fun Tryz.prog 74 [.agg z12] [.tree d.plan.shapes, .lst .lev z8] (.tup [.agg (oDcd0_5 2 3 (settleM ⟨z5, []⟩).d), vO 4]) [.dead, .dead, .tree (settleM ⟨z5, []⟩).d.plan.shapes, .lst .lev (settleM ⟨z5, []⟩).d.stack, .lst .ev (settleM ⟨z5, []⟩).out]) ∧ (.tup [.agg (oDcd0_5 0 1 (settleM ⟨z5, []⟩).d), vO 2] : S) = .tup [.agg z24, vO 2] ∧ ([.tree (settleM ⟨z5, []⟩).d.plan.shapes, .lst .lev (settleM ⟨z5, []⟩).d.stack, .lst .ev (settleM ⟨z5, []⟩).out] : List Blk) = [.tree z21.d.plan.shapes, .lst .lev z21.d.stack, .lst .ev z21.out]) ∧ (z27 = false → (z37 = true) ∧ (z50 = true → (Fun Tryz.prog 75 [.agg (cUtf d.utf), vI b] [] (.tup [.agg (cUtf z26), vB z40.isSome]) []) ∧ (z60 = true → (Fun Tryz.prog 76 [.agg z12, vI 5, vI d.at_] [.tree d.plan.shapes, .lst .lev z8] (.tup [.agg (oDcd0_5 2 3 (dFail z5 5 d.at_)), vO 4]) [.dead, .dead, .tree (dFail z5 5 d.at_).plan.shapes, .lst .lev (dFail z5 5 d.at_).stack, .lst .ev [failEv 5 d.at_]]) ∧ (.tup [.agg (oDcd0_5 0 1 (dFail z5 5 d.at_)), vO 2] : S) = .tup [.agg z24, vO 2] ∧ ([.tree (dFail z5 5 d.at_).plan.shapes, .lst .lev (dFail z5 5 d.at_).stack, .lst .ev [failEv 5 d.at_]] : List Blk) = [.tree z21.d.plan.shapes, .lst .lev z21.d.stack, .lst .ev z21.out]) ∧ (z60 = false → z32 ∧ (Fun Tryz.prog 77 [.agg z14, .agg z15] [.tree d.plan.shapes, .lst .lev z8] (.tup [.agg (oDcd0_5 2 3 z7.d), vO 4]) [.dead, .dead, .tree z7.d.plan.shapes, .lst .lev z7.d.stack, .lst .ev (z23 :: z7.out)]) ∧ (.tup [.agg (oDcd0_5 0 1 z7.d), vO 2] : S) = .tup [.agg z24, vO 2] ∧ ([.tree z7.d.plan.shapes, .lst .lev z7.d.stack, .lst .ev (z23 :: z7.out)] : List Blk) = [.tree z21.d.plan.shapes, .lst .lev z21.d.stack, .lst .ev z21.out])) ∧ (z50 = false → z32 ∧ (Fun Tryz.prog 77 [.agg z12, .agg z15] [.tree d.plan.shapes, .lst .lev z8] (.tup [.agg (oDcd0_5 2 3 (settleM ⟨z5, []⟩).d), vO 4]) [.dead, .dead, .tree (settleM ⟨z5, []⟩).d.plan.shapes, .lst .lev (settleM ⟨z5, []⟩).d.stack, .lst .ev (z23 :: (settleM ⟨z5, []⟩).out)]) ∧ (.tup [.agg (oDcd0_5 0 1 (settleM ⟨z5, []⟩).d), vO 2] : S) = .tup [.agg z24, vO 2] ∧ ([.tree (settleM ⟨z5, []⟩).d.plan.shapes, .lst .lev (settleM ⟨z5, []⟩).d.stack, .lst .ev (z23 :: (settleM ⟨z5, []⟩).out)] : List Blk) = [.tree z21.d.plan.shapes, .lst .lev z21.d.stack, .lst .ev z21.out]))) ∧ (z37 = false → (z27 = true → z25 ∧ (Fun Tryz.prog 73 [.agg (cDcd d)] [] (.v z34) []) ∧ (z27 = true) ∧ (Fun Tryz.prog 74 [.agg z12] [.tree d.plan.shapes, .lst .lev z8] (.tup [.agg (oDcd0_5 2 3 (settleM ⟨z5, []⟩).d), vO 4]) [.dead, .dead, .tree (settleM ⟨z5, []⟩).d.plan.shapes, .lst .lev (settleM ⟨z5, []⟩).d.stack, .lst .ev (settleM ⟨z5, []⟩).out]) ∧ (.tup [.agg (oDcd0_5 0 1 (settleM ⟨z5, []⟩).d), vO 2] : S) = .tup [.agg z24, vO 2] ∧ ([.tree (settleM ⟨z5, []⟩).d.plan.shapes, .lst .lev (settleM ⟨z5, []⟩).d.stack, .lst .ev (settleM ⟨z5, []⟩).out] : List Blk) = [.tree z21.d.plan.shapes, .lst .lev z21.d.stack, .lst .ev z21.out]) ∧ (z27 = false → (z56 = true → z25 ∧ (Fun Tryz.prog 73 [.agg (cDcd d)] [] (.v z34) []) ∧ z61 ∧ z62 ∧ (z38 = true → (Fun Tryz.prog 78 [.agg z12, vI b, vI (widthD d)] [.tree d.plan.shapes, .lst .lev z8] (.tup [.agg (oDcd0_5 2 3 (fixM ⟨z5, []⟩ b).d), vO 4]) [.dead, .dead, .tree (fixM ⟨z5, []⟩ b).d.plan.shapes, .lst .lev (fixM ⟨z5, []⟩ b).d.stack, .lst .ev (fixM ⟨z5, []⟩ b).out]) ∧ (.tup [.agg (oDcd0_5 0 1 (fixM ⟨z5, []⟩ b).d), vO 2] : S) = .tup [.agg z24, vO 2] ∧ ([.tree (fixM ⟨z5, []⟩ b).d.plan.shapes, .lst .lev (fixM ⟨z5, []⟩ b).d.stack, .lst .ev (fixM ⟨z5, []⟩ b).out] : List Blk) = [.tree z21.d.plan.shapes, .lst .lev z21.d.stack, .lst .ev z21.out]) ∧ (z38 = false → (Fun Tryz.prog 79 [.agg z12, vI b, vI d.at_] [.tree d.plan.shapes, .lst .lev z8] (.tup [.agg (oDcd0_5 2 3 (varM ⟨z5, []⟩ b d.at_).d), vO 4]) [.dead, .dead, .tree (varM ⟨z5, []⟩ b d.at_).d.plan.shapes, .lst .lev (varM ⟨z5, []⟩ b d.at_).d.stack, .lst .ev (varM ⟨z5, []⟩ b d.at_).out]) ∧ (.tup [.agg (oDcd0_5 0 1 (varM ⟨z5, []⟩ b d.at_).d), vO 2] : S) = .tup [.agg z24, vO 2] ∧ ([.tree (varM ⟨z5, []⟩ b d.at_).d.plan.shapes, .lst .lev (varM ⟨z5, []⟩ b d.at_).d.stack, .lst .ev (varM ⟨z5, []⟩ b d.at_).out] : List Blk) = [.tree z21.d.plan.shapes, .lst .lev z21.d.stack, .lst .ev z21.out])) ∧ (z56 = false → (Fun Tryz.prog 73 [.agg (cDcd d)] [] (.v z34) []) ∧ z61 ∧ z62 ∧ (z38 = true → (Fun Tryz.prog 78 [.agg z13, vI b, vI (widthD d)] [.tree d.plan.shapes, .lst .lev z8] (.tup [.agg (oDcd0_5 2 3 (fixM ⟨z6, []⟩ b).d), vO 4]) [.dead, .dead, .tree (fixM ⟨z6, []⟩ b).d.plan.shapes, .lst .lev (fixM ⟨z6, []⟩ b).d.stack, .lst .ev (fixM ⟨z6, []⟩ b).out]) ∧ (.tup [.agg (oDcd0_5 0 1 (fixM ⟨z6, []⟩ b).d), vO 2] : S) = .tup [.agg z24, vO 2] ∧ ([.tree (fixM ⟨z6, []⟩ b).d.plan.shapes, .lst .lev (fixM ⟨z6, []⟩ b).d.stack, .lst .ev (fixM ⟨z6, []⟩ b).out] : List Blk) = [.tree z21.d.plan.shapes, .lst .lev z21.d.stack, .lst .ev z21.out]) ∧ (z38 = false → (Fun Tryz.prog 79 [.agg z13, vI b, vI d.at_] [.tree d.plan.shapes, .lst .lev z8] (.tup [.agg (oDcd0_5 2 3 (varM ⟨z6, []⟩ b d.at_).d), vO 4]) [.dead, .dead, .tree (varM ⟨z6, []⟩ b d.at_).d.plan.shapes, .lst .lev (varM ⟨z6, []⟩ b d.at_).d.stack, .lst .ev (varM ⟨z6, []⟩ b d.at_).out]) ∧ (.tup [.agg (oDcd0_5 0 1 (varM ⟨z6, []⟩ b d.at_).d), vO 2] : S) = .tup [.agg z24, vO 2] ∧ ([.tree (varM ⟨z6, []⟩ b d.at_).d.plan.shapes, .lst .lev (varM ⟨z6, []⟩ b d.at_).d.stack, .lst .ev (varM ⟨z6, []⟩ b d.at_).out] : List Blk) = [.tree z21.d.plan.shapes, .lst .lev z21.d.stack, .lst .ev z21.out])))))) ∧ ((decide (0 < z20)) = false → (z37 = true → z25 ∧ (Fun Tryz.prog 73 [.agg (cDcd d)] [] (.v z34) []) ∧ (z27 = true → (Fun Tryz.prog 74 [.agg z12] [.tree d.plan.shapes, .lst .lev d.stack] (.tup [.agg z44, vO 4]) z31) ∧ z45 = .tup [.agg z24, vO 2] ∧ z48 = [.tree z21.d.plan.shapes, .lst .lev z21.d.stack, .lst .ev z21.out]) ∧ (z27 = false → (z37 = true) ∧ (z50 = true → (Fun Tryz.prog 75 [.agg (cUtf d.utf), vI b] [] (.tup [.agg (cUtf z26), vB z40.isSome]) []) ∧ (z60 = true → (Fun Tryz.prog 76 [.agg z12, vI 5, vI d.at_] [.tree d.plan.shapes, .lst .lev d.stack] (.tup [.agg (oDcd0_5 2 3 z39), vO 4]) z49) ∧ (.tup [.agg (oDcd0_5 0 1 z39), vO 2] : S) = .tup [.agg z24, vO 2] ∧ ([.tree z39.plan.shapes, .lst .lev z39.stack, .lst .ev [failEv 5 d.at_]] : List Blk) = [.tree z21.d.plan.shapes, .lst .lev z21.d.stack, .lst .ev z21.out]) ∧ (z60 = false → z32 ∧ (Fun Tryz.prog 77 [.agg z14, .agg z15] [.tree d.plan.shapes, .lst .lev d.stack] (.tup [.agg (oDcd0_5 2 3 z19.d), vO 4]) z46) ∧ (.tup [.agg (oDcd0_5 0 1 z19.d), vO 2] : S) = .tup [.agg z24, vO 2] ∧ ([.tree z19.d.plan.shapes, .lst .lev z19.d.stack, .lst .ev (z23 :: z19.out)] : List Blk) = [.tree z21.d.plan.shapes, .lst .lev z21.d.stack, .lst .ev z21.out])) ∧ (z50 = false → z32 ∧ (Fun Tryz.prog 77 [.agg z12, .agg z15] [.tree d.plan.shapes, .lst .lev d.stack] (.tup [.agg z44, vO 4]) z47) ∧ z45 = .tup [.agg z24, vO 2] ∧ ([.tree z22.d.plan.shapes, .lst .lev z22.d.stack, .lst .ev (z23 :: z22.out)] : List Blk) = [.tree z21.d.plan.shapes, .lst .lev z21.d.stack, .lst .ev z21.out]))) ∧ (z37 = false → (z27 = true → z25 ∧ (Fun Tryz.prog 73 [.agg (cDcd d)] [] (.v z34) []) ∧ (z27 = true) ∧ (Fun Tryz.prog 74 [.agg z12] [.tree d.plan.shapes, .lst .lev d.stack] (.tup [.agg z44, vO 4]) z31) ∧ z45 = .tup [.agg z24, vO 2] ∧ z48 = [.tree z21.d.plan.shapes, .lst .lev z21.d.stack, .lst .ev z21.out]) ∧ (z27 = false → (z56 = true → z25 ∧ (Fun Tryz.prog 73 [.agg (cDcd d)] [] (.v z34) []) ∧ z61 ∧ z62 ∧ (z38 = true → (Fun Tryz.prog 78 [.agg z12, vI b, vI (widthD d)] [.tree d.plan.shapes, .lst .lev d.stack] (.tup [.agg (oDcd0_5 2 3 z35.d), vO 4]) z51) ∧ (.tup [.agg (oDcd0_5 0 1 z35.d), vO 2] : S) = .tup [.agg z24, vO 2] ∧ ([.tree z35.d.plan.shapes, .lst .lev z35.d.stack, .lst .ev z35.out] : List Blk) = [.tree z21.d.plan.shapes, .lst .lev z21.d.stack, .lst .ev z21.out]) ∧ (z38 = false → (Fun Tryz.prog 79 [.agg z12, vI b, vI d.at_] [.tree d.plan.shapes, .lst .lev d.stack] (.tup [.agg (oDcd0_5 2 3 z28.d), vO 4]) z52) ∧ (.tup [.agg (oDcd0_5 0 1 z28.d), vO 2] : S) = .tup [.agg z24, vO 2] ∧ ([.tree z28.d.plan.shapes, .lst .lev z28.d.stack, .lst .ev z28.out] : List Blk) = [.tree z21.d.plan.shapes, .lst .lev z21.d.stack, .lst .ev z21.out])) ∧ (z56 = false → (Fun Tryz.prog 73 [.agg (cDcd d)] [] (.v z34) []) ∧ z61 ∧ z62 ∧ (z38 = true → (Fun Tryz.prog 78 [.agg z13, vI b, vI (widthD d)] [.tree d.plan.shapes, .lst .lev d.stack] (.tup [.agg (oDcd0_5 2 3 z36.d), vO 4]) z53) ∧ (.tup [.agg (oDcd0_5 0 1 z36.d), vO 2] : S) = .tup [.agg z24, vO 2] ∧ ([.tree z36.d.plan.shapes, .lst .lev z36.d.stack, .lst .ev z36.out] : List Blk) = [.tree z21.d.plan.shapes, .lst .lev z21.d.stack, .lst .ev z21.out]) ∧ (z38 = false → (Fun Tryz.prog 79 [.agg z13, vI b, vI d.at_] [.tree d.plan.shapes, .lst .lev d.stack] (.tup [.agg (oDcd0_5 2 3 z29.d), vO 4]) z54) ∧ (.tup [.agg (oDcd0_5 0 1 z29.d), vO 2] : S) = .tup [.agg z24, vO 2] ∧ ([.tree z29.d.plan.shapes, .lst .lev z29.d.stack, .lst .ev z29.out] : List Blk) = [.tree z21.d.plan.shapes, .lst .lev z21.d.stack, .lst .ev z21.out]))))))))))) (by kernel_rfl) ?_
  refine ⟨(copyDec_s d (by omega) (hp2) (by omega)), (decOk_s d (by omega) (by omega)), fun h1 => have q1 := bnot_t h1; ?_, fun h1 => have q1 := bnot_f h1; ?_⟩
  refine have hm1 : (stepB d b).d = d := ?_; ?_
  rotate_left
  refine have hm2 : (stepB d b).out = ([] : List Ev) := ?_; ?_
  rotate_left
  exact ⟨(by rw [hm1] <;> rfl), (by rw [hm1, hm2] <;> rfl)⟩
  have hok : decOk d = true := q1
  have hmw := decOk_mw hok hp4
  have hlv := levelsOk_b hmw.lv
  have hpt := planOk_t hlv.1
  have htb := topL_b hmw.lv
  have hbb := hmw.b0
  have hat := hmw.at_
  have hwt := hmw.want
  have hwd := widthD_b d
  refine dsp (fun h2 p2 => ?_) fun h2 p2 => ?_
  refine have hm1 : (stepB d b).d = d := ?_; ?_
  rotate_left
  refine have hm2 : (stepB d b).out = ([] : List Ev) := ?_; ?_
  rotate_left
  exact ⟨(by rw [hm1] <;> rfl), (by rw [hm1, hm2] <;> rfl)⟩
  have hst := decOk_st hok (by simpa using h2)
  refine ⟨(within_s _ _ _), fun h3 => have q3 := bnot_t h3; have p3 := within_f q3; ?_, fun h3 => have q3 := bnot_f h3; have p3 := within_t q3; ?_⟩
  refine have hm1 : (stepB d b).d = d := ?_; ?_
  rotate_left
  refine have hm2 : (stepB d b).out = ([] : List Ev) := ?_; ?_
  rotate_left
  exact ⟨(by rw [hm1] <;> rfl), (by rw [hm1, hm2] <;> rfl)⟩
  have hwi := within_t q3
  refine dsp (fun h4 p4 => ?_) fun h4 p4 => ?_
  refine have hm1 : (stepB d b).d = d := ?_; ?_
  rotate_left
  refine have hm2 : (stepB d b).out = ([] : List Ev) := ?_; ?_
  rotate_left
  exact ⟨(by rw [hm1] <;> rfl), (by rw [hm1, hm2] <;> rfl)⟩
  have hms := hmw.step hst.1 hst.2.1 hst.2.2.1
  have htk : takesD d = true := by simp only [takesD, Bool.and_eq_true, Bool.not_eq_true', decide_eq_false_iff_not, decide_eq_true_eq]; omega
  have hsb : stepB d b = byteM ⟨d, []⟩ b := by unfold stepB; rw [if_pos ⟨hok, htk, by assumption⟩]
  refine ⟨(as_i64 (by omega) (by omega)), dsp (fun h5 p5 => ?_) fun h5 p5 => ?_⟩
  have hne : d.stack ≠ [] := fun e => by have := congrArg List.length e; simp only [List.length_nil] at this; omega
  refine ⟨(ax_get (l := d.stack) (i := Int.toNat ((d.stack.length : Int) - 1)) (by omega)), fun x1 hx1 => ?_⟩
  have hll := lastL_el (d := d) (by rw [← hx1]; congr 1; omega)
  have hix : Int.toNat ((d.stack.length : Int) - 1) = d.stack.length - 1 := by omega
  refine ⟨(as_i64 (by omega) (by omega)), (as_i64 (by omega) (by omega)), (as_i64 (by omega) (by omega)), (as_i64 (by omega) (by omega)), (by omega), (by omega), (by omega), (by omega), hx1, hx1, (as_i64 (by omega) (by omega)), (as_i64 (by omega) (by omega)), (by omega), (by omega), (by omega), (by omega), hx1, dsp (fun h6 p6 => ?_) fun h6 p6 => ?_⟩
  refine ⟨(as_i64 (by omega) (by omega)), (widthD_s d), dsp (fun h7 p7 => ?_) fun h7 p7 => ?_⟩
  refine ⟨(settle_s (⟨d.plan, d.mode, List.set d.stack (Int.toNat ((d.stack.length : Int) - 1)) (⟨x1.msg, x1.left - 1⟩ : Lev), d.scan, d.start, d.at_ + 1, d.field, d.wire, d.want - 1, d.utf, d.end_⟩ : Dcd) (by simp only [List.length_append, List.length_cons, List.length_nil, List.length_set, List.length_take]; omega)), ?_⟩
  refine have hm1 : (stepB d b).d = (settleM ⟨(⟨d.plan, d.mode, List.set d.stack (Int.toNat ((d.stack.length : Int) - 1)) (⟨x1.msg, x1.left - 1⟩ : Lev), d.scan, d.start, d.at_ + 1, d.field, d.wire, d.want - 1, d.utf, d.end_⟩ : Dcd), []⟩).d := ?_; ?_
  rotate_left
  refine have hm2 : (stepB d b).out = (settleM ⟨(⟨d.plan, d.mode, List.set d.stack (Int.toNat ((d.stack.length : Int) - 1)) (⟨x1.msg, x1.left - 1⟩ : Lev), d.scan, d.start, d.at_ + 1, d.field, d.wire, d.want - 1, d.utf, d.end_⟩ : Dcd), []⟩).out := ?_; ?_
  rotate_left
  exact ⟨(by rw [hm1] <;> rfl), (by rw [hm1, hm2] <;> rfl)⟩
  refine ⟨h6, dsp (fun h8 p8 => ?_) fun h8 p8 => ?_⟩
  refine ⟨(utfByte_s d.utf _), fun h9 => have q9 := bnot_t h9; ?_, fun h9 => have q9 := bnot_f h9; ?_⟩
  have hu : utfByte d.utf b = none := by simpa using q9
  refine ⟨(fail_s (⟨d.plan, d.mode, List.set d.stack (Int.toNat ((d.stack.length : Int) - 1)) (⟨x1.msg, x1.left - 1⟩ : Lev), d.scan, d.start, d.at_ + 1, d.field, d.wire, d.want - 1, d.utf, d.end_⟩ : Dcd) _ _), ?_⟩
  refine have hm1 : (stepB d b).d = (dFail (⟨d.plan, d.mode, List.set d.stack (Int.toNat ((d.stack.length : Int) - 1)) (⟨x1.msg, x1.left - 1⟩ : Lev), d.scan, d.start, d.at_ + 1, d.field, d.wire, d.want - 1, d.utf, d.end_⟩ : Dcd) 5 d.at_) := ?_; ?_
  rotate_left
  refine have hm2 : (stepB d b).out = [failEv 5 d.at_] := ?_; ?_
  rotate_left
  exact ⟨(by rw [hm1] <;> rfl), (by rw [hm1, hm2] <;> rfl)⟩
  obtain ⟨u, hu⟩ := Option.isSome_iff_exists.1 q9
  have hug : (utfByte d.utf b).getD d.utf = u := by rw [hu]; rfl
  refine ⟨(as_u8 (by omega) (by omega)), (tell_s (⟨d.plan, d.mode, List.set d.stack (Int.toNat ((d.stack.length : Int) - 1)) (⟨x1.msg, x1.left - 1⟩ : Lev), d.scan, d.start, d.at_ + 1, d.field, d.wire, d.want - 1, ((utfByte d.utf b).getD d.utf), d.end_⟩ : Dcd) (⟨4, 0, 0, 0, List.map toByte [b], 0, 0⟩ : Ev) (by simp only [List.length_append, List.length_cons, List.length_nil, List.length_set, List.length_take]; omega)), ?_⟩
  refine have hm1 : (stepB d b).d = (settleM ⟨(⟨d.plan, d.mode, List.set d.stack (Int.toNat ((d.stack.length : Int) - 1)) (⟨x1.msg, x1.left - 1⟩ : Lev), d.scan, d.start, d.at_ + 1, d.field, d.wire, d.want - 1, ((utfByte d.utf b).getD d.utf), d.end_⟩ : Dcd), []⟩).d := ?_; ?_
  rotate_left
  refine have hm2 : (stepB d b).out = (⟨4, 0, 0, 0, List.map toByte [b], 0, 0⟩ : Ev) :: (settleM ⟨(⟨d.plan, d.mode, List.set d.stack (Int.toNat ((d.stack.length : Int) - 1)) (⟨x1.msg, x1.left - 1⟩ : Lev), d.scan, d.start, d.at_ + 1, d.field, d.wire, d.want - 1, ((utfByte d.utf b).getD d.utf), d.end_⟩ : Dcd), []⟩).out := ?_; ?_
  rotate_left
  exact ⟨(by rw [hm1] <;> rfl), (by rw [hm1, hm2] <;> rfl)⟩
  refine ⟨(as_u8 (by omega) (by omega)), (tell_s (⟨d.plan, d.mode, List.set d.stack (Int.toNat ((d.stack.length : Int) - 1)) (⟨x1.msg, x1.left - 1⟩ : Lev), d.scan, d.start, d.at_ + 1, d.field, d.wire, d.want - 1, d.utf, d.end_⟩ : Dcd) (⟨4, 0, 0, 0, List.map toByte [b], 0, 0⟩ : Ev) (by simp only [List.length_append, List.length_cons, List.length_nil, List.length_set, List.length_take]; omega)), ?_⟩
  refine have hm1 : (stepB d b).d = (settleM ⟨(⟨d.plan, d.mode, List.set d.stack (Int.toNat ((d.stack.length : Int) - 1)) (⟨x1.msg, x1.left - 1⟩ : Lev), d.scan, d.start, d.at_ + 1, d.field, d.wire, d.want - 1, d.utf, d.end_⟩ : Dcd), []⟩).d := ?_; ?_
  rotate_left
  refine have hm2 : (stepB d b).out = (⟨4, 0, 0, 0, List.map toByte [b], 0, 0⟩ : Ev) :: (settleM ⟨(⟨d.plan, d.mode, List.set d.stack (Int.toNat ((d.stack.length : Int) - 1)) (⟨x1.msg, x1.left - 1⟩ : Lev), d.scan, d.start, d.at_ + 1, d.field, d.wire, d.want - 1, d.utf, d.end_⟩ : Dcd), []⟩).out := ?_; ?_
  rotate_left
  exact ⟨(by rw [hm1] <;> rfl), (by rw [hm1, hm2] <;> rfl)⟩
  refine dsp (fun h7 p7 => ?_) fun h7 p7 => ?_
  refine ⟨(as_i64 (by omega) (by omega)), (widthD_s d), h7, (settle_s (⟨d.plan, d.mode, List.set d.stack (Int.toNat ((d.stack.length : Int) - 1)) (⟨x1.msg, x1.left - 1⟩ : Lev), d.scan, d.start, d.at_ + 1, d.field, d.wire, d.want - 1, d.utf, d.end_⟩ : Dcd) (by simp only [List.length_append, List.length_cons, List.length_nil, List.length_set, List.length_take]; omega)), ?_⟩
  refine have hm1 : (stepB d b).d = (settleM ⟨(⟨d.plan, d.mode, List.set d.stack (Int.toNat ((d.stack.length : Int) - 1)) (⟨x1.msg, x1.left - 1⟩ : Lev), d.scan, d.start, d.at_ + 1, d.field, d.wire, d.want - 1, d.utf, d.end_⟩ : Dcd), []⟩).d := ?_; ?_
  rotate_left
  refine have hm2 : (stepB d b).out = (settleM ⟨(⟨d.plan, d.mode, List.set d.stack (Int.toNat ((d.stack.length : Int) - 1)) (⟨x1.msg, x1.left - 1⟩ : Lev), d.scan, d.start, d.at_ + 1, d.field, d.wire, d.want - 1, d.utf, d.end_⟩ : Dcd), []⟩).out := ?_; ?_
  rotate_left
  exact ⟨(by rw [hm1] <;> rfl), (by rw [hm1, hm2] <;> rfl)⟩
  refine dsp (fun h8 p8 => ?_) fun h8 p8 => ?_
  refine ⟨(as_i64 (by omega) (by omega)), (widthD_s d), h7, h6, dsp (fun h9 p9 => ?_) fun h9 p9 => ?_⟩
  refine ⟨(fix16_s (⟨d.plan, d.mode, List.set d.stack (Int.toNat ((d.stack.length : Int) - 1)) (⟨x1.msg, x1.left - 1⟩ : Lev), d.scan, d.start, d.at_ + 1, d.field, d.wire, d.want - 1, d.utf, d.end_⟩ : Dcd) _ _ ((by have e : stepD d = (⟨d.plan, d.mode, List.set d.stack (Int.toNat ((d.stack.length : Int) - 1)) (⟨x1.msg, x1.left - 1⟩ : Lev), d.scan, d.start, d.at_ + 1, d.field, d.wire, d.want - 1, d.utf, d.end_⟩ : Dcd) := (by first | ((simp_all [stepD]; done)) | (grind [stepD])); exact (e ▸ hms : MW (⟨d.plan, d.mode, List.set d.stack (Int.toNat ((d.stack.length : Int) - 1)) (⟨x1.msg, x1.left - 1⟩ : Lev), d.scan, d.start, d.at_ + 1, d.field, d.wire, d.want - 1, d.utf, d.end_⟩ : Dcd)))) (by omega) (by first | omega | rfl | (dsimp only; omega)) (hst.2.2.2.1)), ?_⟩
  refine have hm1 : (stepB d b).d = (fixM ⟨(⟨d.plan, d.mode, List.set d.stack (Int.toNat ((d.stack.length : Int) - 1)) (⟨x1.msg, x1.left - 1⟩ : Lev), d.scan, d.start, d.at_ + 1, d.field, d.wire, d.want - 1, d.utf, d.end_⟩ : Dcd), []⟩ b).d := ?_; ?_
  rotate_left
  refine have hm2 : (stepB d b).out = (fixM ⟨(⟨d.plan, d.mode, List.set d.stack (Int.toNat ((d.stack.length : Int) - 1)) (⟨x1.msg, x1.left - 1⟩ : Lev), d.scan, d.start, d.at_ + 1, d.field, d.wire, d.want - 1, d.utf, d.end_⟩ : Dcd), []⟩ b).out := ?_; ?_
  rotate_left
  exact ⟨(by rw [hm1] <;> rfl), (by rw [hm1, hm2] <;> rfl)⟩
  refine ⟨(scan16_s (⟨d.plan, d.mode, List.set d.stack (Int.toNat ((d.stack.length : Int) - 1)) (⟨x1.msg, x1.left - 1⟩ : Lev), d.scan, d.start, d.at_ + 1, d.field, d.wire, d.want - 1, d.utf, d.end_⟩ : Dcd) _ _ ((by have e : stepD d = (⟨d.plan, d.mode, List.set d.stack (Int.toNat ((d.stack.length : Int) - 1)) (⟨x1.msg, x1.left - 1⟩ : Lev), d.scan, d.start, d.at_ + 1, d.field, d.wire, d.want - 1, d.utf, d.end_⟩ : Dcd) := (by first | ((simp_all [stepD]; done)) | (grind [stepD])); exact (e ▸ hms : MW (⟨d.plan, d.mode, List.set d.stack (Int.toNat ((d.stack.length : Int) - 1)) (⟨x1.msg, x1.left - 1⟩ : Lev), d.scan, d.start, d.at_ + 1, d.field, d.wire, d.want - 1, d.utf, d.end_⟩ : Dcd)))) (by omega)), ?_⟩
  refine have hm1 : (stepB d b).d = (varM ⟨(⟨d.plan, d.mode, List.set d.stack (Int.toNat ((d.stack.length : Int) - 1)) (⟨x1.msg, x1.left - 1⟩ : Lev), d.scan, d.start, d.at_ + 1, d.field, d.wire, d.want - 1, d.utf, d.end_⟩ : Dcd), []⟩ b d.at_).d := ?_; ?_
  rotate_left
  refine have hm2 : (stepB d b).out = (varM ⟨(⟨d.plan, d.mode, List.set d.stack (Int.toNat ((d.stack.length : Int) - 1)) (⟨x1.msg, x1.left - 1⟩ : Lev), d.scan, d.start, d.at_ + 1, d.field, d.wire, d.want - 1, d.utf, d.end_⟩ : Dcd), []⟩ b d.at_).out := ?_; ?_
  rotate_left
  exact ⟨(by rw [hm1] <;> rfl), (by rw [hm1, hm2] <;> rfl)⟩
  refine ⟨(widthD_s d), h7, h6, dsp (fun h9 p9 => ?_) fun h9 p9 => ?_⟩
  refine ⟨(fix16_s (⟨d.plan, d.mode, List.set d.stack (Int.toNat ((d.stack.length : Int) - 1)) (⟨x1.msg, x1.left - 1⟩ : Lev), d.scan, d.start, d.at_ + 1, d.field, d.wire, d.want, d.utf, d.end_⟩ : Dcd) _ _ ((by have e : stepD d = (⟨d.plan, d.mode, List.set d.stack (Int.toNat ((d.stack.length : Int) - 1)) (⟨x1.msg, x1.left - 1⟩ : Lev), d.scan, d.start, d.at_ + 1, d.field, d.wire, d.want, d.utf, d.end_⟩ : Dcd) := (by first | ((simp_all [stepD]; done)) | (grind [stepD])); exact (e ▸ hms : MW (⟨d.plan, d.mode, List.set d.stack (Int.toNat ((d.stack.length : Int) - 1)) (⟨x1.msg, x1.left - 1⟩ : Lev), d.scan, d.start, d.at_ + 1, d.field, d.wire, d.want, d.utf, d.end_⟩ : Dcd)))) (by omega) (by first | omega | rfl | (dsimp only; omega)) (hst.2.2.2.1)), ?_⟩
  refine have hm1 : (stepB d b).d = (fixM ⟨(⟨d.plan, d.mode, List.set d.stack (Int.toNat ((d.stack.length : Int) - 1)) (⟨x1.msg, x1.left - 1⟩ : Lev), d.scan, d.start, d.at_ + 1, d.field, d.wire, d.want, d.utf, d.end_⟩ : Dcd), []⟩ b).d := ?_; ?_
  rotate_left
  refine have hm2 : (stepB d b).out = (fixM ⟨(⟨d.plan, d.mode, List.set d.stack (Int.toNat ((d.stack.length : Int) - 1)) (⟨x1.msg, x1.left - 1⟩ : Lev), d.scan, d.start, d.at_ + 1, d.field, d.wire, d.want, d.utf, d.end_⟩ : Dcd), []⟩ b).out := ?_; ?_
  rotate_left
  exact ⟨(by rw [hm1] <;> rfl), (by rw [hm1, hm2] <;> rfl)⟩
  refine ⟨(scan16_s (⟨d.plan, d.mode, List.set d.stack (Int.toNat ((d.stack.length : Int) - 1)) (⟨x1.msg, x1.left - 1⟩ : Lev), d.scan, d.start, d.at_ + 1, d.field, d.wire, d.want, d.utf, d.end_⟩ : Dcd) _ _ ((by have e : stepD d = (⟨d.plan, d.mode, List.set d.stack (Int.toNat ((d.stack.length : Int) - 1)) (⟨x1.msg, x1.left - 1⟩ : Lev), d.scan, d.start, d.at_ + 1, d.field, d.wire, d.want, d.utf, d.end_⟩ : Dcd) := (by first | ((simp_all [stepD]; done)) | (grind [stepD])); exact (e ▸ hms : MW (⟨d.plan, d.mode, List.set d.stack (Int.toNat ((d.stack.length : Int) - 1)) (⟨x1.msg, x1.left - 1⟩ : Lev), d.scan, d.start, d.at_ + 1, d.field, d.wire, d.want, d.utf, d.end_⟩ : Dcd)))) (by omega)), ?_⟩
  refine have hm1 : (stepB d b).d = (varM ⟨(⟨d.plan, d.mode, List.set d.stack (Int.toNat ((d.stack.length : Int) - 1)) (⟨x1.msg, x1.left - 1⟩ : Lev), d.scan, d.start, d.at_ + 1, d.field, d.wire, d.want, d.utf, d.end_⟩ : Dcd), []⟩ b d.at_).d := ?_; ?_
  rotate_left
  refine have hm2 : (stepB d b).out = (varM ⟨(⟨d.plan, d.mode, List.set d.stack (Int.toNat ((d.stack.length : Int) - 1)) (⟨x1.msg, x1.left - 1⟩ : Lev), d.scan, d.start, d.at_ + 1, d.field, d.wire, d.want, d.utf, d.end_⟩ : Dcd), []⟩ b d.at_).out := ?_; ?_
  rotate_left
  exact ⟨(by rw [hm1] <;> rfl), (by rw [hm1, hm2] <;> rfl)⟩
  have hne : d.stack = [] := List.eq_nil_of_length_eq_zero (by omega)
  refine dsp (fun h6 p6 => ?_) fun h6 p6 => ?_
  refine ⟨(as_i64 (by omega) (by omega)), (widthD_s d), dsp (fun h7 p7 => ?_) fun h7 p7 => ?_⟩
  refine ⟨(settle_s (⟨d.plan, d.mode, d.stack, d.scan, d.start, d.at_ + 1, d.field, d.wire, d.want - 1, d.utf, d.end_⟩ : Dcd) (by first | omega | rfl | (dsimp only; omega))), ?_⟩
  refine have hm1 : (stepB d b).d = (settleM ⟨(⟨d.plan, d.mode, d.stack, d.scan, d.start, d.at_ + 1, d.field, d.wire, d.want - 1, d.utf, d.end_⟩ : Dcd), []⟩).d := ?_; ?_
  rotate_left
  refine have hm2 : (stepB d b).out = (settleM ⟨(⟨d.plan, d.mode, d.stack, d.scan, d.start, d.at_ + 1, d.field, d.wire, d.want - 1, d.utf, d.end_⟩ : Dcd), []⟩).out := ?_; ?_
  rotate_left
  exact ⟨(by rw [hm1] <;> rfl), (by rw [hm1, hm2] <;> rfl)⟩
  refine ⟨h6, dsp (fun h8 p8 => ?_) fun h8 p8 => ?_⟩
  refine ⟨(utfByte_s d.utf _), fun h9 => have q9 := bnot_t h9; ?_, fun h9 => have q9 := bnot_f h9; ?_⟩
  have hu : utfByte d.utf b = none := by simpa using q9
  refine ⟨(fail_s (⟨d.plan, d.mode, d.stack, d.scan, d.start, d.at_ + 1, d.field, d.wire, d.want - 1, d.utf, d.end_⟩ : Dcd) _ _), ?_⟩
  refine have hm1 : (stepB d b).d = (dFail (⟨d.plan, d.mode, d.stack, d.scan, d.start, d.at_ + 1, d.field, d.wire, d.want - 1, d.utf, d.end_⟩ : Dcd) 5 d.at_) := ?_; ?_
  rotate_left
  refine have hm2 : (stepB d b).out = [failEv 5 d.at_] := ?_; ?_
  rotate_left
  exact ⟨(by rw [hm1] <;> rfl), (by rw [hm1, hm2] <;> rfl)⟩
  obtain ⟨u, hu⟩ := Option.isSome_iff_exists.1 q9
  have hug : (utfByte d.utf b).getD d.utf = u := by rw [hu]; rfl
  refine ⟨(as_u8 (by omega) (by omega)), (tell_s (⟨d.plan, d.mode, d.stack, d.scan, d.start, d.at_ + 1, d.field, d.wire, d.want - 1, ((utfByte d.utf b).getD d.utf), d.end_⟩ : Dcd) (⟨4, 0, 0, 0, List.map toByte [b], 0, 0⟩ : Ev) (by first | omega | rfl | (dsimp only; omega))), ?_⟩
  refine have hm1 : (stepB d b).d = (settleM ⟨(⟨d.plan, d.mode, d.stack, d.scan, d.start, d.at_ + 1, d.field, d.wire, d.want - 1, ((utfByte d.utf b).getD d.utf), d.end_⟩ : Dcd), []⟩).d := ?_; ?_
  rotate_left
  refine have hm2 : (stepB d b).out = (⟨4, 0, 0, 0, List.map toByte [b], 0, 0⟩ : Ev) :: (settleM ⟨(⟨d.plan, d.mode, d.stack, d.scan, d.start, d.at_ + 1, d.field, d.wire, d.want - 1, ((utfByte d.utf b).getD d.utf), d.end_⟩ : Dcd), []⟩).out := ?_; ?_
  rotate_left
  exact ⟨(by rw [hm1] <;> rfl), (by rw [hm1, hm2] <;> rfl)⟩
  refine ⟨(as_u8 (by omega) (by omega)), (tell_s (⟨d.plan, d.mode, d.stack, d.scan, d.start, d.at_ + 1, d.field, d.wire, d.want - 1, d.utf, d.end_⟩ : Dcd) (⟨4, 0, 0, 0, List.map toByte [b], 0, 0⟩ : Ev) (by first | omega | rfl | (dsimp only; omega))), ?_⟩
  refine have hm1 : (stepB d b).d = (settleM ⟨(⟨d.plan, d.mode, d.stack, d.scan, d.start, d.at_ + 1, d.field, d.wire, d.want - 1, d.utf, d.end_⟩ : Dcd), []⟩).d := ?_; ?_
  rotate_left
  refine have hm2 : (stepB d b).out = (⟨4, 0, 0, 0, List.map toByte [b], 0, 0⟩ : Ev) :: (settleM ⟨(⟨d.plan, d.mode, d.stack, d.scan, d.start, d.at_ + 1, d.field, d.wire, d.want - 1, d.utf, d.end_⟩ : Dcd), []⟩).out := ?_; ?_
  rotate_left
  exact ⟨(by rw [hm1] <;> rfl), (by rw [hm1, hm2] <;> rfl)⟩
  refine dsp (fun h7 p7 => ?_) fun h7 p7 => ?_
  refine ⟨(as_i64 (by omega) (by omega)), (widthD_s d), h7, (settle_s (⟨d.plan, d.mode, d.stack, d.scan, d.start, d.at_ + 1, d.field, d.wire, d.want - 1, d.utf, d.end_⟩ : Dcd) (by first | omega | rfl | (dsimp only; omega))), ?_⟩
  refine have hm1 : (stepB d b).d = (settleM ⟨(⟨d.plan, d.mode, d.stack, d.scan, d.start, d.at_ + 1, d.field, d.wire, d.want - 1, d.utf, d.end_⟩ : Dcd), []⟩).d := ?_; ?_
  rotate_left
  refine have hm2 : (stepB d b).out = (settleM ⟨(⟨d.plan, d.mode, d.stack, d.scan, d.start, d.at_ + 1, d.field, d.wire, d.want - 1, d.utf, d.end_⟩ : Dcd), []⟩).out := ?_; ?_
  rotate_left
  exact ⟨(by rw [hm1] <;> rfl), (by rw [hm1, hm2] <;> rfl)⟩
  refine dsp (fun h8 p8 => ?_) fun h8 p8 => ?_
  refine ⟨(as_i64 (by omega) (by omega)), (widthD_s d), h7, h6, dsp (fun h9 p9 => ?_) fun h9 p9 => ?_⟩
  refine ⟨(fix16_s (⟨d.plan, d.mode, d.stack, d.scan, d.start, d.at_ + 1, d.field, d.wire, d.want - 1, d.utf, d.end_⟩ : Dcd) _ _ ((by have e : stepD d = (⟨d.plan, d.mode, d.stack, d.scan, d.start, d.at_ + 1, d.field, d.wire, d.want - 1, d.utf, d.end_⟩ : Dcd) := (by first | ((simp_all [stepD]; done)) | (grind [stepD])); exact (e ▸ hms : MW (⟨d.plan, d.mode, d.stack, d.scan, d.start, d.at_ + 1, d.field, d.wire, d.want - 1, d.utf, d.end_⟩ : Dcd)))) (by omega) (by first | omega | rfl | (dsimp only; omega)) (hst.2.2.2.1)), ?_⟩
  refine have hm1 : (stepB d b).d = (fixM ⟨(⟨d.plan, d.mode, d.stack, d.scan, d.start, d.at_ + 1, d.field, d.wire, d.want - 1, d.utf, d.end_⟩ : Dcd), []⟩ b).d := ?_; ?_
  rotate_left
  refine have hm2 : (stepB d b).out = (fixM ⟨(⟨d.plan, d.mode, d.stack, d.scan, d.start, d.at_ + 1, d.field, d.wire, d.want - 1, d.utf, d.end_⟩ : Dcd), []⟩ b).out := ?_; ?_
  rotate_left
  exact ⟨(by rw [hm1] <;> rfl), (by rw [hm1, hm2] <;> rfl)⟩
  refine ⟨(scan16_s (⟨d.plan, d.mode, d.stack, d.scan, d.start, d.at_ + 1, d.field, d.wire, d.want - 1, d.utf, d.end_⟩ : Dcd) _ _ ((by have e : stepD d = (⟨d.plan, d.mode, d.stack, d.scan, d.start, d.at_ + 1, d.field, d.wire, d.want - 1, d.utf, d.end_⟩ : Dcd) := (by first | ((simp_all [stepD]; done)) | (grind [stepD])); exact (e ▸ hms : MW (⟨d.plan, d.mode, d.stack, d.scan, d.start, d.at_ + 1, d.field, d.wire, d.want - 1, d.utf, d.end_⟩ : Dcd)))) (by omega)), ?_⟩
  refine have hm1 : (stepB d b).d = (varM ⟨(⟨d.plan, d.mode, d.stack, d.scan, d.start, d.at_ + 1, d.field, d.wire, d.want - 1, d.utf, d.end_⟩ : Dcd), []⟩ b d.at_).d := ?_; ?_
  rotate_left
  refine have hm2 : (stepB d b).out = (varM ⟨(⟨d.plan, d.mode, d.stack, d.scan, d.start, d.at_ + 1, d.field, d.wire, d.want - 1, d.utf, d.end_⟩ : Dcd), []⟩ b d.at_).out := ?_; ?_
  rotate_left
  exact ⟨(by rw [hm1] <;> rfl), (by rw [hm1, hm2] <;> rfl)⟩
  refine ⟨(widthD_s d), h7, h6, dsp (fun h9 p9 => ?_) fun h9 p9 => ?_⟩
  refine ⟨(fix16_s (⟨d.plan, d.mode, d.stack, d.scan, d.start, d.at_ + 1, d.field, d.wire, d.want, d.utf, d.end_⟩ : Dcd) _ _ ((by have e : stepD d = (⟨d.plan, d.mode, d.stack, d.scan, d.start, d.at_ + 1, d.field, d.wire, d.want, d.utf, d.end_⟩ : Dcd) := (by first | ((simp_all [stepD]; done)) | (grind [stepD])); exact (e ▸ hms : MW (⟨d.plan, d.mode, d.stack, d.scan, d.start, d.at_ + 1, d.field, d.wire, d.want, d.utf, d.end_⟩ : Dcd)))) (by omega) (by first | omega | rfl | (dsimp only; omega)) (hst.2.2.2.1)), ?_⟩
  refine have hm1 : (stepB d b).d = (fixM ⟨(⟨d.plan, d.mode, d.stack, d.scan, d.start, d.at_ + 1, d.field, d.wire, d.want, d.utf, d.end_⟩ : Dcd), []⟩ b).d := ?_; ?_
  rotate_left
  refine have hm2 : (stepB d b).out = (fixM ⟨(⟨d.plan, d.mode, d.stack, d.scan, d.start, d.at_ + 1, d.field, d.wire, d.want, d.utf, d.end_⟩ : Dcd), []⟩ b).out := ?_; ?_
  rotate_left
  exact ⟨(by rw [hm1] <;> rfl), (by rw [hm1, hm2] <;> rfl)⟩
  refine ⟨(scan16_s (⟨d.plan, d.mode, d.stack, d.scan, d.start, d.at_ + 1, d.field, d.wire, d.want, d.utf, d.end_⟩ : Dcd) _ _ ((by have e : stepD d = (⟨d.plan, d.mode, d.stack, d.scan, d.start, d.at_ + 1, d.field, d.wire, d.want, d.utf, d.end_⟩ : Dcd) := (by first | ((simp_all [stepD]; done)) | (grind [stepD])); exact (e ▸ hms : MW (⟨d.plan, d.mode, d.stack, d.scan, d.start, d.at_ + 1, d.field, d.wire, d.want, d.utf, d.end_⟩ : Dcd)))) (by omega)), ?_⟩
  refine have hm1 : (stepB d b).d = (varM ⟨(⟨d.plan, d.mode, d.stack, d.scan, d.start, d.at_ + 1, d.field, d.wire, d.want, d.utf, d.end_⟩ : Dcd), []⟩ b d.at_).d := ?_; ?_
  rotate_left
  refine have hm2 : (stepB d b).out = (varM ⟨(⟨d.plan, d.mode, d.stack, d.scan, d.start, d.at_ + 1, d.field, d.wire, d.want, d.utf, d.end_⟩ : Dcd), []⟩ b d.at_).out := ?_; ?_
  rotate_left
  exact ⟨(by rw [hm1] <;> rfl), (by rw [hm1, hm2] <;> rfl)⟩
  all_goals first | ((rw [hsb]; simp_all [byteM, stepD, textB, dUtf, mFail, dFail, evPrt, settleM_one]; done)) | ((rw [hsb]; have hw0 : widthD d = 0 := (by omega); simp_all [byteM, stepD, textB, dUtf, mFail, dFail, evPrt, settleM_one]; done)) | ((rw [hsb]; grind [byteM, stepD, textB, dUtf, mFail, dFail, evPrt, settleM_one])) | (simp_all [stepB, takesD]; done) | (grind [stepB, takesD])
end Go.Proofs.YtecljjcmjongfaaGreat.Ax
namespace Go.Proofs.YtecljjcmjongfaaGreat.Ax
open Go.RowKit
set_option linter.unusedSimpArgs false
set_option linter.unusedVariables false
structure stepAll_s_V0 where
  d : Dcd
  out : List Ev
  i : Nat
def stepAll_s_F0 (d : Dcd) (s : List UInt8) : Fam := ⟨stepAll_s_V0, fun q1 => [(1, .v (vT s)), (2, .v (vP 0)), (4, .v (vP 3)), (6, .v (vO 4)), (7, .v (vI (q1.i : Int)))], fun q1 => [.cells (oDcd0_5 1 2 q1.d), .tree q1.d.plan.shapes, .lst .lev q1.d.stack, .cells [.nil, .int .i64 0, .int .i64 0, .int .i64 0, .int .i64 0, .nil, .int .u64 0, .int .i64 0, .int .i64 0, .int .i64 0, .int .i64 0, .int .i64 0, .bool false, .bool false, .int .i64 0, .int .i64 0, .int .i64 0, .int .i64 0, .int .i64 0, .int .i64 0, .int .i64 0, .int .i64 0, .int .u64 0, .int .i64 0, .str [], .int .i64 0, .int .i64 0], .lst .ev q1.out], fun q1 => q1.i ≤ s.length ∧ feedM ⟨q1.d, q1.out⟩ (List.drop q1.i s) = feedM ⟨d, []⟩ s ∧ (q1.d).plan = d.plan ∧ List.length (q1.d).stack ≤ 1048576 ∧ ((0 : Int) ≤ (q1.d).scan.bits ∧ (q1.d).scan.bits ≤ 18446744073709551615) ∧ q1.out.length ≤ 14 * q1.i, fun q1 => s.length - q1.i⟩

theorem stepAll_s (d : Dcd) (s : List UInt8) (hp1 : List.length (d).plan.shapes ≤ 1048576) (hp2 : ∀ e ∈ (d).plan.shapes, e.fields.length ≤ 1048576) (hp3 : List.length (d).stack ≤ 1048576) (hp4 : (0 : Int) ≤ (d).scan.bits ∧ (d).scan.bits ≤ 18446744073709551615) (hp5 : s.length ≤ 1048576) : Fun Tryz.prog 41 [.agg (cDcd d), vT s] [] (.tup [.agg (oDcd0_5 0 1 (feedM ⟨d, []⟩ s).d), vO 2]) [.tree (feedM ⟨d, []⟩ s).d.plan.shapes, .lst .lev (feedM ⟨d, []⟩ s).d.stack, .lst .ev (feedM ⟨d, []⟩ s).out] := by
  have hN : bigN = 274877906944 := rfl
  refine fun_ofw Tryz.func41 (by kernel_rfl) (by kernel_rfl) (w := let zi : Int → C := .int .i64; let z5 : List C := [.nil, zi 0, zi 0, zi 0, zi 0, .nil, .int .u64 0, zi 0, zi 0, zi 0, zi 0, zi 0, .bool false, .bool false, zi 0, zi 0, zi 0, zi 0, zi 0, zi 0, zi 0, zi 0, .int .u64 0, zi 0, .str [], zi 0, zi 0]; let z6 := stepAll_s_F0 d s; let z7 := feedM ⟨d, []⟩ s; (.seg [.call [] (.v (.agg (oDcd0_5 0 1 d))) [.tree d.plan.shapes, .lst .lev d.stack], .ty .ev, .at 0, .keep [1, 2, 4, 6, 7], .sel [0, 2, 3, 1, 4]] (.loop z6 fun q1 => .br (.intro (fun (x1 : UInt8) => s[q1.i]? = some x1) fun x1 => let z1 := stepB q1.d ((UInt8.toNat x1 : Nat) : Int); .seg [.tree (fr (.two 5 (fr (.one 9 (.one 10 (.first 11 (.done)))) 6 3) 9 (.one 5 (fr (.one 10 (.first 11 (.done))) 6 3))) 0 5) 12 [], .ch x1, .as 24 (.v (vI ((UInt8.toNat x1 : Nat) : Int))), .call [] (.tup [.agg (oDcd0_5 0 1 z1.d), vO 2]) [.tree z1.d.plan.shapes, .lst .lev z1.d.stack, .lst .ev z1.out], .at 0, .keep [1, 2, 4, 6, 7, 8, 9], .sel [0, 1, 2, 3, 4, 8, 5, 6, 7], .call [] (.tup [.agg (oDcd0_5 0 1 z1.d), vO 2]) [.tree z1.d.plan.shapes, .lst .lev z1.d.stack, .lst .ev z1.out], .at 0, .keep [1, 2, 4, 6, 7, 8, 9], .sel [0, 1, 2, 3, 4, 5, 6, 7, 8], .ty .ev, .as 18 (.v (vI ((q1.i : Int) + 1))), .at 0, .keep [1, 2, 4, 6, 7], .sel [0, 6, 7, 3, 9]] (.next)) (.leaf () [1, 2, 4])), (Fun Tryz.prog 70 [.agg (cDcd d)] [] (.v (.agg (oDcd0_5 0 1 d))) [.tree d.plan.shapes, .lst .lev d.stack]) ∧ z6.Has [(1, .v (vT s)), (2, .v (vP 0)), (4, .v (vP 3)), (6, .v (vO 4)), (7, .v (vI 0))] [.cells (oDcd0_5 1 2 d), .tree d.plan.shapes, .lst .lev d.stack, .cells z5, .lst .ev ([] : List Ev)] ∧ ∀ q1, z6.inv q1 → (let z4 := (q1.i : Int); ((decide (z4 < (s.length : Int))) = true → (∃ (x1 : UInt8), s[q1.i]? = some x1) ∧ ∀ (x1 : UInt8), (s[q1.i]? = some x1) → (let z3 := ((UInt8.toNat x1 : Nat) : Int); let z2 := stepB q1.d z3; (s[q1.i]? = some x1) ∧ ((0 : Int) ≤ z4) ∧ (s[q1.i]? = some x1) ∧ ((0 : Int) ≤ z4) ∧ ((.v (vI (IntKind.i64.wrap (z3))) : S) = .v (vI z3)) ∧ ((.v (vI (IntKind.i64.wrap (z3))) : S) = .v (vI z3)) ∧ (Fun Tryz.prog 35 [.agg (cDcd q1.d), vI z3] [] (.tup [.agg (oDcd0_5 0 1 z2.d), vO 2]) [.tree z2.d.plan.shapes, .lst .lev z2.d.stack, .lst .ev z2.out]) ∧ (Fun Tryz.prog 35 [.agg (cDcd q1.d), vI z3] [] (.tup [.agg (oDcd0_5 0 1 z2.d), vO 2]) [.tree z2.d.plan.shapes, .lst .lev z2.d.stack, .lst .ev z2.out]) ∧ (([.cells (oDcd0_5 1 2 q1.d), .tree q1.d.plan.shapes, .lst .lev q1.d.stack, .cells z5, .lst .ev q1.out, .cells (oDcd0_5 6 7 z2.d), .tree z2.d.plan.shapes, .lst .lev z2.d.stack, .lst .ev z2.out] : List Blk) = [.cells (oDcd0_5 1 2 q1.d), .tree q1.d.plan.shapes, .lst .lev q1.d.stack, .cells z5, .lst .ev q1.out, .cells (oDcd0_5 6 7 z2.d), .tree z2.d.plan.shapes, .lst .lev z2.d.stack, .lst .ev z2.out]) ∧ (([(1, .v (vT s)), (2, .v (vP 0)), (4, .v (vP 3)), (6, .v (vO 4)), (7, .v (vI z4)), (8, .v (vP 5)), (9, .v (vO 8))] : List (Nat × S)) = [(1, .v (vT s)), (2, .v (vP 0)), (4, .v (vP 3)), (6, .v (vO 4)), (7, .v (vI z4)), (8, .v (vP 5)), (9, .v (vO 8))]) ∧ (q1.out.length + z2.out.length ≤ bigN) ∧ ((.v (vI (IntKind.i64.wrap (z4 + 1))) : S) = .v (vI (z4 + 1))) ∧ z6.Nxt q1 [(1, .v (vT s)), (2, .v (vP 0)), (4, .v (vP 3)), (6, .v (vO 4)), (7, .v (vI (z4 + 1)))] [.cells (oDcd0_5 1 2 z2.d), .tree z2.d.plan.shapes, .lst .lev z2.d.stack, .cells z5, .lst .ev (q1.out ++ z2.out)])) ∧ ((decide (z4 < (s.length : Int))) = false → (.tup [.agg (oDcd0_5 0 1 q1.d), vO 2] : S) = .tup [.agg (oDcd0_5 0 1 z7.d), vO 2] ∧ ([.tree q1.d.plan.shapes, .lst .lev q1.d.stack, .lst .ev q1.out] : List Blk) = [.tree z7.d.plan.shapes, .lst .lev z7.d.stack, .lst .ev z7.out])))) (by kernel_rfl) ?_
  refine ⟨(copyDec_s d (by omega) ((by first | (exact hsf) | (exact hp2))) (by omega)), has_of (j := (⟨d, ([] : List Ev), 0⟩ : stepAll_s_V0)) (by first | rfl | simp) rfl (by dsimp only [stepAll_s_F0]; exact ⟨by omega, rfl, rfl, hp3, hp4, by simp⟩), fun (q1 : stepAll_s_V0) hq_q1 => ?_⟩
  have hi_q1 : q1.i ≤ s.length ∧ feedM ⟨q1.d, q1.out⟩ (List.drop q1.i s) = feedM ⟨d, []⟩ s ∧ (q1.d).plan = d.plan ∧ List.length (q1.d).stack ≤ 1048576 ∧ ((0 : Int) ≤ (q1.d).scan.bits ∧ (q1.d).scan.bits ≤ 18446744073709551615) ∧ q1.out.length ≤ 14 * q1.i := hq_q1
  obtain ⟨v1, v2, v3, v4, v5, v6⟩ := hi_q1
  have hsl : q1.d.plan.shapes.length = d.plan.shapes.length := by rw [v3]
  have hsf : ∀ e ∈ q1.d.plan.shapes, e.fields.length ≤ 1048576 := by rw [v3]; exact hp2
  refine dsp (fun h1 p1 => ?_) fun h1 p1 => ?_
  refine ⟨(ax_get (l := s) (i := q1.i) (by omega)), fun x1 hx1 => ?_⟩
  have hb_x1 := UInt8.toNat_lt x1
  rw [drop_el hx1, feedM_cons] at v2
  have hub := u8_b x1
  have hl := stepB_lim (d := q1.d) (b := (x1.toNat : Int))
  exact ⟨hx1, (by omega), hx1, (by omega), (as_i64 (by omega) (by omega)), (as_i64 (by omega) (by omega)), (stepB_s q1.d _ (by omega) ((by first | (exact hsf) | (exact hp2))) (by omega) (by omega)), (stepB_s q1.d _ (by omega) ((by first | (exact hsf) | (exact hp2))) (by omega) (by omega)), rfl, rfl, (by omega), (as_i64 (by omega) (by omega)), nxt_of (j := (⟨(stepB q1.d ((UInt8.toNat x1 : Nat) : Int)).d, q1.out ++ (stepB q1.d ((UInt8.toNat x1 : Nat) : Int)).out, q1.i + 1⟩ : stepAll_s_V0)) (by first | rfl | simp) rfl (by dsimp only [stepAll_s_F0]; exact ⟨by omega, by rw [← v2]; rfl, hl.1.trans v3, by omega, hl.2.2.2 v5, by rw [List.length_append]; omega⟩) (by dsimp only [stepAll_s_F0]; omega)⟩
  rw [List.drop_eq_nil_of_le (by omega), feedM_nil] at v2
  refine have hm1 : (feedM ⟨d, []⟩ s).d = q1.d := ?_; ?_
  rotate_left
  refine have hm2 : (feedM ⟨d, []⟩ s).out = q1.out := ?_; ?_
  rotate_left
  exact ⟨(by rw [hm1] <;> rfl), (by rw [hm1, hm2] <;> rfl)⟩
  all_goals first | (rfl) | ((rw [← v2]; done)) | (grind)
end Go.Proofs.YtecljjcmjongfaaGreat.Ax
namespace Go.Proofs.YtecljjcmjongfaaGreat.Ax
open Go.RowKit
set_option linter.unusedSimpArgs false
set_option linter.unusedVariables false
theorem law_StepAll (d : Dcd) (s : List UInt8) (hp1 : ((List.length (d).plan.shapes : Nat) : Int) ≤ 9223372036854775807) (hp2 : ∀ e ∈ (d).plan.shapes, (e.fields.length : Int) ≤ 9223372036854775807) (hp3 : ((List.length (d).stack : Nat) : Int) ≤ 9223372036854775807) (hp4 : ((List.length (d).end_.text : Nat) : Int) ≤ 9223372036854775807) (hp5 : (0 : Int) ≤ (d).scan.bits ∧ (d).scan.bits ≤ 18446744073709551615) (hp6 : (s.length : Int) ≤ 9223372036854775807) : Fun Tryz.prog 8 [.agg (cDcd d), vT s] [] (.v (vB true)) [] := by
  have hN : bigN = 274877906944 := rfl
  refine fun_ofw Tryz.func8 (by kernel_rfl) (by kernel_rfl) (w := let zi : Int → C := .int .i64; let z3 := feedM ⟨d, []⟩ s; let z2 := 1 + ((List.length (z3.d).plan.shapes : Nat) : Int) + 5 * ((shF (z3.d).plan.shapes : Nat) : Int); let z4 := z2 + 2 * ((List.length (z3.d).stack : Nat) : Int); let z5 := 1 + ((List.length (d).plan.shapes : Nat) : Int) + 5 * ((shF (d).plan.shapes : Nat) : Int); let z6 := (((List.length (z3.d).stack) : Nat) : Int); let z7 := (((z3.out.length) : Nat) : Int); let z8 := markL mkEv 7 z4 (z3.out.length); let z9 := oDcd0_5 0 1 d; let z10 := (z3.out.length : Int); let z11 := oDcd0_5 0 1 z3.d; let z12 := markL mkLev 2 z2 (List.length (z3.d).stack); let z13 := (!true) = false; let z14 := ((List.length (d).stack : Nat) : Int); let z15 := markSh 1 (z3.d).plan.shapes; let z1 : List C := [.seq .shp z15, zi z3.d.plan.root, zi z3.d.plan.deep, zi z3.d.plan.most, zi z3.d.mode, .seq .lev z12, .int .u64 z3.d.scan.bits, zi z3.d.scan.have_, zi z3.d.start, zi z3.d.at_, zi z3.d.field.number, zi z3.d.field.kind, .bool z3.d.field.rep, .bool z3.d.field.packed, zi z3.d.field.msg, zi z3.d.wire, zi z3.d.want, zi z3.d.utf.want, zi z3.d.utf.low, zi z3.d.utf.high, zi z3.d.end_.kind, zi z3.d.end_.field, .int .u64 z3.d.end_.bits, zi z3.d.end_.len, .str z3.d.end_.text, zi z3.d.end_.code, zi z3.d.end_.at_]; let z16 := z2 + 2 * z6; let z17 := decide (1048576 < (s.length : Int)); let z18 := vI (z4 + 7 * z7); let z19 := (!decide (z4 + 7 * z7 = z4 + 7 * z10)) = false; let z20 := cDcd z3.d; let z21 := markL mkLev 2 z5 (List.length (d).stack); let z22 := (decide (z2 + 2 * z6 < 0)) = false; let z23 := (decide (z4 + 7 * z7 < 0)) = false; let z24 := (.v (vB true) : S); (.br (.leaf () []) (.seg [.call [] (.v (vI (szDcd 1048576 d))) []] (.br (.leaf () []) (.seg [.call [] (.v (.agg z9)) [.tree d.plan.shapes, .lst .lev d.stack], .call [] (.tup [.agg z11, vO 2]) [.tree z3.d.plan.shapes, .lst .lev z3.d.stack, .lst .ev z3.out], .call [] (.v (.agg z9)) [.tree d.plan.shapes, .lst .lev d.stack], .call [] (.tup [.agg z11, vO 2]) [.tree z3.d.plan.shapes, .lst .lev z3.d.stack, .lst .ev z3.out], .call [] (.v (vB true)) [], .br false, .call [] (.v (vB true)) [], .br false, .ord (os 5 [2, 3]) [], .call [] (.v (.agg z9)) [.tree d.plan.shapes, .lst .lev d.stack], .call [] (.v (vB true)) [], .br false, .call [7, 8] (.v (vI (z5 + 2 * z14))) [.tree (markSh 1 (d).plan.shapes), .lst .lev z21], .br false, .call [] (.v (vB true)) [], .br false, .call [] (.v (vB true)) [], .br false, .call [10, 11] (.v (vI z4)) [.tree z15, .lst .lev z12], .call [12] (.v (vI (z4 + 7 * z10))) [.lst .ev z8], .call [] (.v (vI z16)) [], .br false, .call [] (.v z18) [], .br false, .br false, .call [] (.v (.agg z9)) [.tree d.plan.shapes, .lst .lev d.stack], .call [] (.tup [.agg z11, vO 2]) [.tree z3.d.plan.shapes, .lst .lev z3.d.stack, .lst .ev z3.out], .call [] (.v (vB true)) [], .br false, .call [] (.v (vB true)) [], .br false, .call [] (.v (vI z16)) [], .br false, .call [] (.v z18) [], .br false, .br false] (.leaf () [])))), (z17 = true → z24 = .v (vB true) ∧ ([] : List Blk) = []) ∧ (z17 = false → (Fun Tryz.prog 34 [.agg (cDcd d), vI 1048576] [] (.v (vI (szDcd 1048576 d))) []) ∧ ((decide (szDcd 1048576 d < 0)) = true → z24 = .v (vB true) ∧ ([] : List Blk) = []) ∧ ((decide (szDcd 1048576 d < 0)) = false → (Fun Tryz.prog 36 [.agg (cDcd d)] [] (.v (.agg z9)) [.tree d.plan.shapes, .lst .lev d.stack]) ∧ (Fun Tryz.prog 41 [.agg (cDcd d), vT s] [] (.tup [.agg z11, vO 2]) [.tree z3.d.plan.shapes, .lst .lev z3.d.stack, .lst .ev z3.out]) ∧ (Fun Tryz.prog 36 [.agg (cDcd d)] [] (.v (.agg z9)) [.tree d.plan.shapes, .lst .lev d.stack]) ∧ (Fun Tryz.prog 42 [.agg (cDcd d), vT s] [] (.tup [.agg z11, vO 2]) [.tree z3.d.plan.shapes, .lst .lev z3.d.stack, .lst .ev z3.out]) ∧ (Fun Tryz.prog 38 [.agg z20, .agg z20] [] (.v (vB true)) []) ∧ z13 ∧ (Fun Tryz.prog 16 [.c (.seq .ev z3.out), .c (.seq .ev z3.out)] [] (.v (vB true)) []) ∧ z13 ∧ (Fun Tryz.prog 36 [.agg (cDcd d)] [] (.v (.agg z9)) [.tree d.plan.shapes, .lst .lev d.stack]) ∧ (Fun Tryz.prog 38 [.agg (cDcd d), .agg (cDcd d)] [] (.v (vB true)) []) ∧ z13 ∧ (Fun Tryz.prog 39 [.agg z9, vI 1] [.tree d.plan.shapes, .lst .lev d.stack] (.v (vI (z5 + 2 * z14))) [.tree (markSh 1 (d).plan.shapes), .lst .lev z21]) ∧ ((decide (z5 + 2 * z14 < 0)) = false) ∧ (Fun Tryz.prog 38 [.agg z20, .agg z20] [] (.v (vB true)) []) ∧ z13 ∧ (Fun Tryz.prog 16 [.c (.seq .ev z3.out), .c (.seq .ev z3.out)] [] (.v (vB true)) []) ∧ z13 ∧ (Fun Tryz.prog 39 [.agg z11, vI 1] [.tree z3.d.plan.shapes, .lst .lev z3.d.stack] (.v (vI z4)) [.tree z15, .lst .lev z12]) ∧ (Fun Tryz.prog 19 [vO 0, vI z4] [.lst .ev z3.out] (.v (vI (z4 + 7 * z10))) [.lst .ev z8]) ∧ (Fun Tryz.prog 40 [.agg z1, vI 1] [] (.v (vI z16)) []) ∧ z22 ∧ (Fun Tryz.prog 20 [.c (.seq .ev z8), vI z16] [] (.v z18) []) ∧ z23 ∧ z19 ∧ (Fun Tryz.prog 36 [.agg (cDcd d)] [] (.v (.agg z9)) [.tree d.plan.shapes, .lst .lev d.stack]) ∧ (Fun Tryz.prog 42 [.agg (cDcd d), vT s] [] (.tup [.agg z11, vO 2]) [.tree z3.d.plan.shapes, .lst .lev z3.d.stack, .lst .ev z3.out]) ∧ (Fun Tryz.prog 38 [.agg z20, .agg z20] [] (.v (vB true)) []) ∧ z13 ∧ (Fun Tryz.prog 16 [.c (.seq .ev z3.out), .c (.seq .ev z3.out)] [] (.v (vB true)) []) ∧ z13 ∧ (Fun Tryz.prog 40 [.agg z1, vI 1] [] (.v (vI z16)) []) ∧ z22 ∧ (Fun Tryz.prog 20 [.c (.seq .ev z8), vI z16] [] (.v z18) []) ∧ z23 ∧ z19 ∧ z24 = .v (vB true) ∧ ([] : List Blk) = [])))) (by kernel_rfl) ?_
  refine dsp (fun h1 p1 => ?_) fun h1 p1 => ?_
  exact ⟨rfl, rfl⟩
  refine ⟨(szDcd_ok d _ (by omega) (by omega) (hp2) (by omega) (by omega)), dsp (fun h2 p2 => ?_) fun h2 p2 => ?_⟩
  exact ⟨rfl, rfl⟩
  have zd := (szDcd_b (left := 1048576) (d := d) (by decide) (by decide)).2.2 (by omega)
  have zf : ∀ e ∈ d.plan.shapes, e.fields.length ≤ bigN := fun e he => by have := zd.2.1 e he; omega
  have zs := feedM_lim s ⟨d, []⟩
  simp only [List.length_nil] at zs
  have zb := zs.2.2.2 hp5
  have zh : shF (feedM ⟨d, []⟩ s).d.plan.shapes = shF d.plan.shapes := by rw [zs.1]
  have zsf : ∀ e ∈ (feedM ⟨d, []⟩ s).d.plan.shapes, e.fields.length ≤ bigN := by rw [zs.1]; exact zf
  have zsl : List.length (feedM ⟨d, []⟩ s).d.plan.shapes = d.plan.shapes.length := by rw [zs.1]
  exact ⟨(toDcd_ok d (by omega) (zd.2.1) (by omega)), (stepAll_s d _ (by omega) (zd.2.1) (by omega) (by omega) (by omega)), (toDcd_ok d (by omega) (zd.2.1) (by omega)), (stepAll_i d _ (by omega) (zd.2.1) (by omega) (by omega) (by omega)), (eqDcd_ok (feedM ⟨d, []⟩ s).d (by omega) (zsf) (by omega)), (by decide), (eqEventS_ok _ (by omega)), (by decide), (toDcd_ok d (by omega) (zd.2.1) (by omega)), (eqDcd_ok d (by omega) (zf) (by omega)), (by decide), (markDcd_ok d _ (by omega) (by omega) (by omega) (by omega)), (decide_eq_false (by omega)), (eqDcd_ok (feedM ⟨d, []⟩ s).d (by omega) (zsf) (by omega)), (by decide), (eqEventS_ok _ (by omega)), (by decide), (markDcd_ok (feedM ⟨d, []⟩ s).d _ (by omega) (by omega) (by omega) (by omega)), (markEventS_ok (feedM ⟨d, []⟩ s).out ((1 + ((List.length ((feedM ⟨d, []⟩ s).d).plan.shapes : Nat) : Int) + 5 * ((shF ((feedM ⟨d, []⟩ s).d).plan.shapes : Nat) : Int)) + 2 * ((List.length ((feedM ⟨d, []⟩ s).d).stack : Nat) : Int)) (by omega) (by omega)), (heldDcd_ok (⟨(⟨([] : List Shp), (feedM ⟨d, []⟩ s).d.plan.root, (feedM ⟨d, []⟩ s).d.plan.deep, (feedM ⟨d, []⟩ s).d.plan.most⟩ : Pln), (feedM ⟨d, []⟩ s).d.mode, ([] : List Lev), (feedM ⟨d, []⟩ s).d.scan, (feedM ⟨d, []⟩ s).d.start, (feedM ⟨d, []⟩ s).d.at_, (feedM ⟨d, []⟩ s).d.field, (feedM ⟨d, []⟩ s).d.wire, (feedM ⟨d, []⟩ s).d.want, (feedM ⟨d, []⟩ s).d.utf, (feedM ⟨d, []⟩ s).d.end_⟩ : Dcd) ((feedM ⟨d, []⟩ s).d).plan.shapes (List.length ((feedM ⟨d, []⟩ s).d).stack) _ (1 + ((List.length ((feedM ⟨d, []⟩ s).d).plan.shapes : Nat) : Int) + 5 * ((shF ((feedM ⟨d, []⟩ s).d).plan.shapes : Nat) : Int)) (by omega) (by omega) (by omega) (by omega) (by omega)), (decide_eq_false (by omega)), (heldEventS_ok (List.length (feedM ⟨d, []⟩ s).out) ((1 + ((List.length ((feedM ⟨d, []⟩ s).d).plan.shapes : Nat) : Int) + 5 * ((shF ((feedM ⟨d, []⟩ s).d).plan.shapes : Nat) : Int)) + 2 * ((List.length ((feedM ⟨d, []⟩ s).d).stack : Nat) : Int)) (by omega) (by omega)), (decide_eq_false (by omega)), (by simp), (toDcd_ok d (by omega) (zd.2.1) (by omega)), (stepAll_i d _ (by omega) (zd.2.1) (by omega) (by omega) (by omega)), (eqDcd_ok (feedM ⟨d, []⟩ s).d (by omega) (zsf) (by omega)), (by decide), (eqEventS_ok _ (by omega)), (by decide), (heldDcd_ok (⟨(⟨([] : List Shp), (feedM ⟨d, []⟩ s).d.plan.root, (feedM ⟨d, []⟩ s).d.plan.deep, (feedM ⟨d, []⟩ s).d.plan.most⟩ : Pln), (feedM ⟨d, []⟩ s).d.mode, ([] : List Lev), (feedM ⟨d, []⟩ s).d.scan, (feedM ⟨d, []⟩ s).d.start, (feedM ⟨d, []⟩ s).d.at_, (feedM ⟨d, []⟩ s).d.field, (feedM ⟨d, []⟩ s).d.wire, (feedM ⟨d, []⟩ s).d.want, (feedM ⟨d, []⟩ s).d.utf, (feedM ⟨d, []⟩ s).d.end_⟩ : Dcd) ((feedM ⟨d, []⟩ s).d).plan.shapes (List.length ((feedM ⟨d, []⟩ s).d).stack) _ (1 + ((List.length ((feedM ⟨d, []⟩ s).d).plan.shapes : Nat) : Int) + 5 * ((shF ((feedM ⟨d, []⟩ s).d).plan.shapes : Nat) : Int)) (by omega) (by omega) (by omega) (by omega) (by omega)), (decide_eq_false (by omega)), (heldEventS_ok (List.length (feedM ⟨d, []⟩ s).out) ((1 + ((List.length ((feedM ⟨d, []⟩ s).d).plan.shapes : Nat) : Int) + 5 * ((shF ((feedM ⟨d, []⟩ s).d).plan.shapes : Nat) : Int)) + 2 * ((List.length ((feedM ⟨d, []⟩ s).d).stack : Nat) : Int)) (by omega) (by omega)), (decide_eq_false (by omega)), (by simp), rfl, rfl⟩
end Go.Proofs.YtecljjcmjongfaaGreat.Ax
namespace Go.Proofs.YtecljjcmjongfaaGreat.Ax
open Go.ChangeShapes Go.WideShapes Go.ChangeAt Go.RowKit
theorem cof___laws_Shape : Tryz.prog.cellsOf 22 = 1 := by kernel_rfl
theorem cof_int : Tryz.prog.cellsOf 3 = 1 := by kernel_rfl
theorem cof_bool : Tryz.prog.cellsOf 4 = 1 := by kernel_rfl
def okFld (y : Fld) : Prop := I64 y.number ∧ I64 y.kind ∧ True ∧ True ∧ I64 y.msg
theorem e_fld {H : Type} {tok : TypeId × Value → H} {w : World} {sp : Nat → Bool} {held : Bool} (fuel : Nat) (cs : List Value) (x : DataW H × List MemPlace) (hl : cs.length = 5) (h : DataW.trod tok Tryz.prog w 0 sp held fuel 61 cs = some x) : ∃ y : Fld, All2 Rep0 (enc .fld y) cs ∧ okFld y := by
  match cs, hl with
  | [c0, c1, c2, c3, c4], _ =>
    obtain ⟨xs, n, _, rfl, _, hxl, hf⟩ := DataW.trod_struct Tryz.underlying61 h
    match xs, hxl with
    | [y0, y1, y2, y3, y4], _ =>
      have f0 : DataW.trod tok Tryz.prog w 0 sp held n 3 [c0] = some y0 := by simpa [cof_int] using hf 0 _ rfl
      obtain ⟨i0, e0, _, w0⟩ := DataW.trod_int Tryz.underlying3 f0
      simp only [List.cons.injEq, and_true] at e0
      subst e0
      have f1 : DataW.trod tok Tryz.prog w 0 sp held n 3 [c1] = some y1 := by simpa [cof_int] using hf 1 _ rfl
      obtain ⟨i1, e1, _, w1⟩ := DataW.trod_int Tryz.underlying3 f1
      simp only [List.cons.injEq, and_true] at e1
      subst e1
      have f2 : DataW.trod tok Tryz.prog w 0 sp held n 4 [c2] = some y2 := by simpa [cof_bool] using hf 2 _ rfl
      obtain ⟨i2, e2⟩ := bool_trod Tryz.underlying4 f2
      simp only [List.cons.injEq, and_true] at e2
      subst e2
      have f3 : DataW.trod tok Tryz.prog w 0 sp held n 4 [c3] = some y3 := by simpa [cof_bool] using hf 3 _ rfl
      obtain ⟨i3, e3⟩ := bool_trod Tryz.underlying4 f3
      simp only [List.cons.injEq, and_true] at e3
      subst e3
      have f4 : DataW.trod tok Tryz.prog w 0 sp held n 3 [c4] = some y4 := by simpa [cof_int] using hf 4 _ rfl
      obtain ⟨i4, e4, _, w4⟩ := DataW.trod_int Tryz.underlying3 f4
      simp only [List.cons.injEq, and_true] at e4
      subst e4
      exact ⟨⟨i0, i1, i2, i3, i4⟩, .cons (show Rep0 (.int .i64 i0) _ from rfl) (.cons (show Rep0 (.int .i64 i1) _ from rfl) (.cons (show Rep0 (.bool i2) _ from rfl) (.cons (show Rep0 (.bool i3) _ from rfl) (.cons (show Rep0 (.int .i64 i4) _ from rfl) .nil)))), ⟨bounds_i64 w0, bounds_i64 w1, trivial, trivial, bounds_i64 w4⟩⟩
theorem cof___laws_Field : Tryz.prog.cellsOf 164 = 1 := by kernel_rfl
def okShp (y : Shp) : Prop := I64 y.id ∧ (Le63 y.fields.length ∧ ∀ e ∈ y.fields, okFld e)
theorem cof_laws_Field : Tryz.prog.cellsOf 61 = 5 := by kernel_rfl
theorem e_shp {H : Type} {tok : TypeId × Value → H} {w : World} {sp : Nat → Bool} {held : Bool} (fuel : Nat) (cs : List Value) (x : DataW H × List MemPlace) (hl : cs.length = 2) (h : DataW.trod tok Tryz.prog w 0 sp held fuel 166 cs = some x) : ∃ y : Shp, All2 (Rep1 w (RR w)) (enc .shp y) cs ∧ okShp y := by
  match cs, hl with
  | [c0, c1], _ =>
    obtain ⟨xs, n, _, rfl, _, hxl, hf⟩ := DataW.trod_struct Tryz.underlying166 h
    match xs, hxl with
    | [y0, y1], _ =>
      have f0 : DataW.trod tok Tryz.prog w 0 sp held n 3 [c0] = some y0 := by simpa [cof_int] using hf 0 _ rfl
      obtain ⟨i0, e0, _, w0⟩ := DataW.trod_int Tryz.underlying3 f0
      simp only [List.cons.injEq, and_true] at e0
      subst e0
      have f1 : DataW.trod tok Tryz.prog w 0 sp held n 164 [c1] = some y1 := by simpa [cof___laws_Field] using hf 1 _ rfl
      obtain ⟨i1, s1, l1, k1⟩ := open_sq (cr := Rep0) (t := .fld) (Q := fun e => okFld e) Tryz.underlying164 cof_laws_Field (by decide) e_fld f1
      exact ⟨⟨i0, i1⟩, .cons (rep0_1 (show Rep0 (.int .i64 i0) _ from rfl)) (.cons s1 .nil), ⟨bounds_i64 w0, ⟨l1, k1⟩⟩⟩
theorem cof_laws_Schema : Tryz.prog.cellsOf 24 = 1 := by kernel_rfl
def okPln (y : Pln) : Prop := (Le63 y.shapes.length ∧ ∀ e ∈ y.shapes, okShp e) ∧ I64 y.root ∧ I64 y.deep ∧ I64 y.most
theorem cof_laws_Shape : Tryz.prog.cellsOf 166 = 2 := by kernel_rfl
theorem o_Pln {H : Type} {tok : TypeId × Value → H} {w : World} {sp : Nat → Bool} {held : Bool} {fuel : Nat} {cs : List Value} {x : DataW H × List MemPlace} (hl : cs.length = 4) (h : DataW.trod tok Tryz.prog w 0 sp held fuel 26 cs = some x) : ∃ y : Pln, All2 (RepC [] P0 w (RR w)) ([.seq .shp y.shapes, .int .i64 y.root, .int .i64 y.deep, .int .i64 y.most]) cs ∧ okPln y := by
  match cs, hl with
  | [c0, c1, c2, c3], _ =>
    obtain ⟨xs, n, _, rfl, _, hxl, hf⟩ := DataW.trod_struct Tryz.underlying26 h
    match xs, hxl with
    | [y0, y1, y2, y3], _ =>
      have f0 : DataW.trod tok Tryz.prog w 0 sp held n 24 [c0] = some y0 := by simpa [cof_laws_Schema] using hf 0 _ rfl
      obtain ⟨xs0, n0, _, rfl, _, hxl0, hf0⟩ := DataW.trod_struct Tryz.underlying24 f0
      obtain ⟨z0, rfl⟩ := List.length_eq_one_iff.1 hxl0
      have g0 : DataW.trod tok Tryz.prog w 0 sp held n0 22 [c0] = some z0 := by simpa [cof___laws_Shape] using hf0 0 _ rfl
      obtain ⟨i0, s0, l0, k0⟩ := open_sq (cr := (Rep1 w (RR w))) (t := .shp) (Q := fun e => okShp e) Tryz.underlying22 cof_laws_Shape (by decide) e_shp g0
      have f1 : DataW.trod tok Tryz.prog w 0 sp held n 3 [c1] = some y1 := by simpa [cof_int] using hf 1 _ rfl
      obtain ⟨i1, e1, _, w1⟩ := DataW.trod_int Tryz.underlying3 f1
      simp only [List.cons.injEq, and_true] at e1
      subst e1
      have f2 : DataW.trod tok Tryz.prog w 0 sp held n 3 [c2] = some y2 := by simpa [cof_int] using hf 2 _ rfl
      obtain ⟨i2, e2, _, w2⟩ := DataW.trod_int Tryz.underlying3 f2
      simp only [List.cons.injEq, and_true] at e2
      subst e2
      have f3 : DataW.trod tok Tryz.prog w 0 sp held n 3 [c3] = some y3 := by simpa [cof_int] using hf 3 _ rfl
      obtain ⟨i3, e3, _, w3⟩ := DataW.trod_int Tryz.underlying3 f3
      simp only [List.cons.injEq, and_true] at e3
      subst e3
      exact ⟨⟨i0, i1, i2, i3⟩, .cons s0 (.cons (rep0_C (show Rep0 (.int .i64 i1) _ from rfl)) (.cons (rep0_C (show Rep0 (.int .i64 i2) _ from rfl)) (.cons (rep0_C (show Rep0 (.int .i64 i3) _ from rfl)) .nil))), ⟨⟨l0, k0⟩, bounds_i64 w1, bounds_i64 w2, bounds_i64 w3⟩⟩
theorem cof_laws_Plan : Tryz.prog.cellsOf 26 = 4 := by kernel_rfl
def okLev (y : Lev) : Prop := I64 y.msg ∧ I64 y.left
theorem e_lev {H : Type} {tok : TypeId × Value → H} {w : World} {sp : Nat → Bool} {held : Bool} (fuel : Nat) (cs : List Value) (x : DataW H × List MemPlace) (hl : cs.length = 2) (h : DataW.trod tok Tryz.prog w 0 sp held fuel 158 cs = some x) : ∃ y : Lev, All2 Rep0 (enc .lev y) cs ∧ okLev y := by
  match cs, hl with
  | [c0, c1], _ =>
    obtain ⟨xs, n, _, rfl, _, hxl, hf⟩ := DataW.trod_struct Tryz.underlying158 h
    match xs, hxl with
    | [y0, y1], _ =>
      have f0 : DataW.trod tok Tryz.prog w 0 sp held n 3 [c0] = some y0 := by simpa [cof_int] using hf 0 _ rfl
      obtain ⟨i0, e0, _, w0⟩ := DataW.trod_int Tryz.underlying3 f0
      simp only [List.cons.injEq, and_true] at e0
      subst e0
      have f1 : DataW.trod tok Tryz.prog w 0 sp held n 3 [c1] = some y1 := by simpa [cof_int] using hf 1 _ rfl
      obtain ⟨i1, e1, _, w1⟩ := DataW.trod_int Tryz.underlying3 f1
      simp only [List.cons.injEq, and_true] at e1
      subst e1
      exact ⟨⟨i0, i1⟩, .cons (show Rep0 (.int .i64 i0) _ from rfl) (.cons (show Rep0 (.int .i64 i1) _ from rfl) .nil), ⟨bounds_i64 w0, bounds_i64 w1⟩⟩
theorem cof___laws_Level : Tryz.prog.cellsOf 56 = 1 := by kernel_rfl
theorem cof_uint64 : Tryz.prog.cellsOf 57 = 1 := by kernel_rfl
def okScn (y : Scn) : Prop := U64 y.bits ∧ I64 y.have_
theorem o_Scn {H : Type} {tok : TypeId × Value → H} {w : World} {sp : Nat → Bool} {held : Bool} {fuel : Nat} {cs : List Value} {x : DataW H × List MemPlace} (hl : cs.length = 2) (h : DataW.trod tok Tryz.prog w 0 sp held fuel 59 cs = some x) : ∃ y : Scn, All2 (RepC [] P0 w (RR w)) ([.int .u64 y.bits, .int .i64 y.have_]) cs ∧ okScn y := by
  match cs, hl with
  | [c0, c1], _ =>
    obtain ⟨xs, n, _, rfl, _, hxl, hf⟩ := DataW.trod_struct Tryz.underlying59 h
    match xs, hxl with
    | [y0, y1], _ =>
      have f0 : DataW.trod tok Tryz.prog w 0 sp held n 57 [c0] = some y0 := by simpa [cof_uint64] using hf 0 _ rfl
      obtain ⟨i0, e0, _, w0⟩ := DataW.trod_int Tryz.underlying57 f0
      simp only [List.cons.injEq, and_true] at e0
      subst e0
      have f1 : DataW.trod tok Tryz.prog w 0 sp held n 3 [c1] = some y1 := by simpa [cof_int] using hf 1 _ rfl
      obtain ⟨i1, e1, _, w1⟩ := DataW.trod_int Tryz.underlying3 f1
      simp only [List.cons.injEq, and_true] at e1
      subst e1
      exact ⟨⟨i0, i1⟩, .cons (rep0_C (show Rep0 (.int .u64 i0) _ from rfl)) (.cons (rep0_C (show Rep0 (.int .i64 i1) _ from rfl)) .nil), ⟨bounds_u64 w0, bounds_i64 w1⟩⟩
theorem cof_laws_Scan : Tryz.prog.cellsOf 59 = 2 := by kernel_rfl
theorem o_Fld {H : Type} {tok : TypeId × Value → H} {w : World} {sp : Nat → Bool} {held : Bool} {fuel : Nat} {cs : List Value} {x : DataW H × List MemPlace} (hl : cs.length = 5) (h : DataW.trod tok Tryz.prog w 0 sp held fuel 61 cs = some x) : ∃ y : Fld, All2 (RepC [] P0 w (RR w)) ([.int .i64 y.number, .int .i64 y.kind, .bool y.rep, .bool y.packed, .int .i64 y.msg]) cs ∧ okFld y := by
  match cs, hl with
  | [c0, c1, c2, c3, c4], _ =>
    obtain ⟨xs, n, _, rfl, _, hxl, hf⟩ := DataW.trod_struct Tryz.underlying61 h
    match xs, hxl with
    | [y0, y1, y2, y3, y4], _ =>
      have f0 : DataW.trod tok Tryz.prog w 0 sp held n 3 [c0] = some y0 := by simpa [cof_int] using hf 0 _ rfl
      obtain ⟨i0, e0, _, w0⟩ := DataW.trod_int Tryz.underlying3 f0
      simp only [List.cons.injEq, and_true] at e0
      subst e0
      have f1 : DataW.trod tok Tryz.prog w 0 sp held n 3 [c1] = some y1 := by simpa [cof_int] using hf 1 _ rfl
      obtain ⟨i1, e1, _, w1⟩ := DataW.trod_int Tryz.underlying3 f1
      simp only [List.cons.injEq, and_true] at e1
      subst e1
      have f2 : DataW.trod tok Tryz.prog w 0 sp held n 4 [c2] = some y2 := by simpa [cof_bool] using hf 2 _ rfl
      obtain ⟨i2, e2⟩ := bool_trod Tryz.underlying4 f2
      simp only [List.cons.injEq, and_true] at e2
      subst e2
      have f3 : DataW.trod tok Tryz.prog w 0 sp held n 4 [c3] = some y3 := by simpa [cof_bool] using hf 3 _ rfl
      obtain ⟨i3, e3⟩ := bool_trod Tryz.underlying4 f3
      simp only [List.cons.injEq, and_true] at e3
      subst e3
      have f4 : DataW.trod tok Tryz.prog w 0 sp held n 3 [c4] = some y4 := by simpa [cof_int] using hf 4 _ rfl
      obtain ⟨i4, e4, _, w4⟩ := DataW.trod_int Tryz.underlying3 f4
      simp only [List.cons.injEq, and_true] at e4
      subst e4
      exact ⟨⟨i0, i1, i2, i3, i4⟩, .cons (rep0_C (show Rep0 (.int .i64 i0) _ from rfl)) (.cons (rep0_C (show Rep0 (.int .i64 i1) _ from rfl)) (.cons (rep0_C (show Rep0 (.bool i2) _ from rfl)) (.cons (rep0_C (show Rep0 (.bool i3) _ from rfl)) (.cons (rep0_C (show Rep0 (.int .i64 i4) _ from rfl)) .nil)))), ⟨bounds_i64 w0, bounds_i64 w1, trivial, trivial, bounds_i64 w4⟩⟩
def okUtf (y : Utf) : Prop := I64 y.want ∧ I64 y.low ∧ I64 y.high
theorem o_Utf {H : Type} {tok : TypeId × Value → H} {w : World} {sp : Nat → Bool} {held : Bool} {fuel : Nat} {cs : List Value} {x : DataW H × List MemPlace} (hl : cs.length = 3) (h : DataW.trod tok Tryz.prog w 0 sp held fuel 63 cs = some x) : ∃ y : Utf, All2 (RepC [] P0 w (RR w)) ([.int .i64 y.want, .int .i64 y.low, .int .i64 y.high]) cs ∧ okUtf y := by
  match cs, hl with
  | [c0, c1, c2], _ =>
    obtain ⟨xs, n, _, rfl, _, hxl, hf⟩ := DataW.trod_struct Tryz.underlying63 h
    match xs, hxl with
    | [y0, y1, y2], _ =>
      have f0 : DataW.trod tok Tryz.prog w 0 sp held n 3 [c0] = some y0 := by simpa [cof_int] using hf 0 _ rfl
      obtain ⟨i0, e0, _, w0⟩ := DataW.trod_int Tryz.underlying3 f0
      simp only [List.cons.injEq, and_true] at e0
      subst e0
      have f1 : DataW.trod tok Tryz.prog w 0 sp held n 3 [c1] = some y1 := by simpa [cof_int] using hf 1 _ rfl
      obtain ⟨i1, e1, _, w1⟩ := DataW.trod_int Tryz.underlying3 f1
      simp only [List.cons.injEq, and_true] at e1
      subst e1
      have f2 : DataW.trod tok Tryz.prog w 0 sp held n 3 [c2] = some y2 := by simpa [cof_int] using hf 2 _ rfl
      obtain ⟨i2, e2, _, w2⟩ := DataW.trod_int Tryz.underlying3 f2
      simp only [List.cons.injEq, and_true] at e2
      subst e2
      exact ⟨⟨i0, i1, i2⟩, .cons (rep0_C (show Rep0 (.int .i64 i0) _ from rfl)) (.cons (rep0_C (show Rep0 (.int .i64 i1) _ from rfl)) (.cons (rep0_C (show Rep0 (.int .i64 i2) _ from rfl)) .nil)), ⟨bounds_i64 w0, bounds_i64 w1, bounds_i64 w2⟩⟩
theorem cof_laws_Utf : Tryz.prog.cellsOf 63 = 3 := by kernel_rfl
theorem cof_string : Tryz.prog.cellsOf 9 = 1 := by kernel_rfl
def okEv (y : Ev) : Prop := I64 y.kind ∧ I64 y.field ∧ U64 y.bits ∧ I64 y.len ∧ Le63 y.text.length ∧ I64 y.code ∧ I64 y.at_
theorem o_Ev {H : Type} {tok : TypeId × Value → H} {w : World} {sp : Nat → Bool} {held : Bool} {fuel : Nat} {cs : List Value} {x : DataW H × List MemPlace} (hl : cs.length = 7) (h : DataW.trod tok Tryz.prog w 0 sp held fuel 65 cs = some x) : ∃ y : Ev, All2 (RepC [] P0 w (RR w)) ([.int .i64 y.kind, .int .i64 y.field, .int .u64 y.bits, .int .i64 y.len, .str y.text, .int .i64 y.code, .int .i64 y.at_]) cs ∧ okEv y := by
  match cs, hl with
  | [c0, c1, c2, c3, c4, c5, c6], _ =>
    obtain ⟨xs, n, _, rfl, _, hxl, hf⟩ := DataW.trod_struct Tryz.underlying65 h
    match xs, hxl with
    | [y0, y1, y2, y3, y4, y5, y6], _ =>
      have f0 : DataW.trod tok Tryz.prog w 0 sp held n 3 [c0] = some y0 := by simpa [cof_int] using hf 0 _ rfl
      obtain ⟨i0, e0, _, w0⟩ := DataW.trod_int Tryz.underlying3 f0
      simp only [List.cons.injEq, and_true] at e0
      subst e0
      have f1 : DataW.trod tok Tryz.prog w 0 sp held n 3 [c1] = some y1 := by simpa [cof_int] using hf 1 _ rfl
      obtain ⟨i1, e1, _, w1⟩ := DataW.trod_int Tryz.underlying3 f1
      simp only [List.cons.injEq, and_true] at e1
      subst e1
      have f2 : DataW.trod tok Tryz.prog w 0 sp held n 57 [c2] = some y2 := by simpa [cof_uint64] using hf 2 _ rfl
      obtain ⟨i2, e2, _, w2⟩ := DataW.trod_int Tryz.underlying57 f2
      simp only [List.cons.injEq, and_true] at e2
      subst e2
      have f3 : DataW.trod tok Tryz.prog w 0 sp held n 3 [c3] = some y3 := by simpa [cof_int] using hf 3 _ rfl
      obtain ⟨i3, e3, _, w3⟩ := DataW.trod_int Tryz.underlying3 f3
      simp only [List.cons.injEq, and_true] at e3
      subst e3
      have f4 : DataW.trod tok Tryz.prog w 0 sp held n 9 [c4] = some y4 := by simpa [cof_string] using hf 4 _ rfl
      obtain ⟨i4, e4, _, w4⟩ := DataW.trod_string Tryz.underlying9 f4
      simp only [List.cons.injEq, and_true] at e4
      subst e4
      have f5 : DataW.trod tok Tryz.prog w 0 sp held n 3 [c5] = some y5 := by simpa [cof_int] using hf 5 _ rfl
      obtain ⟨i5, e5, _, w5⟩ := DataW.trod_int Tryz.underlying3 f5
      simp only [List.cons.injEq, and_true] at e5
      subst e5
      have f6 : DataW.trod tok Tryz.prog w 0 sp held n 3 [c6] = some y6 := by simpa [cof_int] using hf 6 _ rfl
      obtain ⟨i6, e6, _, w6⟩ := DataW.trod_int Tryz.underlying3 f6
      simp only [List.cons.injEq, and_true] at e6
      subst e6
      exact ⟨⟨i0, i1, i2, i3, i4.data.toList, i5, i6⟩, .cons (rep0_C (show Rep0 (.int .i64 i0) _ from rfl)) (.cons (rep0_C (show Rep0 (.int .i64 i1) _ from rfl)) (.cons (rep0_C (show Rep0 (.int .u64 i2) _ from rfl)) (.cons (rep0_C (show Rep0 (.int .i64 i3) _ from rfl)) (.cons (rep0_C (show Rep0 (.str i4.data.toList) _ from str_rep)) (.cons (rep0_C (show Rep0 (.int .i64 i5) _ from rfl)) (.cons (rep0_C (show Rep0 (.int .i64 i6) _ from rfl)) .nil)))))), ⟨bounds_i64 w0, bounds_i64 w1, bounds_u64 w2, bounds_i64 w3, str_le w4, bounds_i64 w5, bounds_i64 w6⟩⟩
theorem cof_laws_Event : Tryz.prog.cellsOf 65 = 7 := by kernel_rfl
def okDcd (y : Dcd) : Prop := okPln y.plan ∧ I64 y.mode ∧ (Le63 y.stack.length ∧ ∀ e ∈ y.stack, okLev e) ∧ okScn y.scan ∧ I64 y.start ∧ I64 y.at_ ∧ okFld y.field ∧ I64 y.wire ∧ I64 y.want ∧ okUtf y.utf ∧ okEv y.end_
theorem cof_laws_Level : Tryz.prog.cellsOf 158 = 2 := by kernel_rfl
theorem o_Dcd {H : Type} {tok : TypeId × Value → H} {w : World} {sp : Nat → Bool} {held : Bool} {fuel : Nat} {cs : List Value} {x : DataW H × List MemPlace} (hl : cs.length = 27) (h : DataW.trod tok Tryz.prog w 0 sp held fuel 67 cs = some x) : ∃ y : Dcd, All2 (RepC [] P0 w (RR w)) ([.seq .shp y.plan.shapes, .int .i64 y.plan.root, .int .i64 y.plan.deep, .int .i64 y.plan.most, .int .i64 y.mode, .seq .lev y.stack, .int .u64 y.scan.bits, .int .i64 y.scan.have_, .int .i64 y.start, .int .i64 y.at_, .int .i64 y.field.number, .int .i64 y.field.kind, .bool y.field.rep, .bool y.field.packed, .int .i64 y.field.msg, .int .i64 y.wire, .int .i64 y.want, .int .i64 y.utf.want, .int .i64 y.utf.low, .int .i64 y.utf.high, .int .i64 y.end_.kind, .int .i64 y.end_.field, .int .u64 y.end_.bits, .int .i64 y.end_.len, .str y.end_.text, .int .i64 y.end_.code, .int .i64 y.end_.at_]) cs ∧ okDcd y := by
  match cs, hl with
  | [c0, c1, c2, c3, c4, c5, c6, c7, c8, c9, c10, c11, c12, c13, c14, c15, c16, c17, c18, c19, c20, c21, c22, c23, c24, c25, c26], _ =>
    obtain ⟨xs, n, _, rfl, _, hxl, hf⟩ := DataW.trod_struct Tryz.underlying67 h
    match xs, hxl with
    | [y0, y1, y2, y3, y4, y5, y6, y7, y8, y9, y10], _ =>
      have f0 : DataW.trod tok Tryz.prog w 0 sp held n 26 [c0, c1, c2, c3] = some y0 := by simpa [cof_laws_Plan] using hf 0 _ rfl
      obtain ⟨i0, s0, k0⟩ := o_Pln rfl f0
      obtain ⟨a0_0, t0_0⟩ := s0.inv
      obtain ⟨a0_1, t0_1⟩ := t0_0.inv
      obtain ⟨a0_2, t0_2⟩ := t0_1.inv
      obtain ⟨a0_3, t0_3⟩ := t0_2.inv
      have f1 : DataW.trod tok Tryz.prog w 0 sp held n 3 [c4] = some y1 := by simpa [cof_int] using hf 1 _ rfl
      obtain ⟨i1, e1, _, w1⟩ := DataW.trod_int Tryz.underlying3 f1
      simp only [List.cons.injEq, and_true] at e1
      subst e1
      have f2 : DataW.trod tok Tryz.prog w 0 sp held n 56 [c5] = some y2 := by simpa [cof___laws_Level] using hf 2 _ rfl
      obtain ⟨i2, s2, l2, k2⟩ := open_sq (cr := (Rep1 w (RR w))) (t := .lev) (Q := fun e => okLev e) Tryz.underlying56 cof_laws_Level (by decide) (fun fuel cs x hl h => by obtain ⟨y, h1, h2⟩ := e_lev fuel cs x hl h; exact ⟨y, all_rep0_1 h1, h2⟩) f2
      have f3 : DataW.trod tok Tryz.prog w 0 sp held n 59 [c6, c7] = some y3 := by simpa [cof_laws_Scan] using hf 3 _ rfl
      obtain ⟨i3, s3, k3⟩ := o_Scn rfl f3
      obtain ⟨a3_0, t3_0⟩ := s3.inv
      obtain ⟨a3_1, t3_1⟩ := t3_0.inv
      have f4 : DataW.trod tok Tryz.prog w 0 sp held n 3 [c8] = some y4 := by simpa [cof_int] using hf 4 _ rfl
      obtain ⟨i4, e4, _, w4⟩ := DataW.trod_int Tryz.underlying3 f4
      simp only [List.cons.injEq, and_true] at e4
      subst e4
      have f5 : DataW.trod tok Tryz.prog w 0 sp held n 3 [c9] = some y5 := by simpa [cof_int] using hf 5 _ rfl
      obtain ⟨i5, e5, _, w5⟩ := DataW.trod_int Tryz.underlying3 f5
      simp only [List.cons.injEq, and_true] at e5
      subst e5
      have f6 : DataW.trod tok Tryz.prog w 0 sp held n 61 [c10, c11, c12, c13, c14] = some y6 := by simpa [cof_laws_Field] using hf 6 _ rfl
      obtain ⟨i6, s6, k6⟩ := o_Fld rfl f6
      obtain ⟨a6_0, t6_0⟩ := s6.inv
      obtain ⟨a6_1, t6_1⟩ := t6_0.inv
      obtain ⟨a6_2, t6_2⟩ := t6_1.inv
      obtain ⟨a6_3, t6_3⟩ := t6_2.inv
      obtain ⟨a6_4, t6_4⟩ := t6_3.inv
      have f7 : DataW.trod tok Tryz.prog w 0 sp held n 3 [c15] = some y7 := by simpa [cof_int] using hf 7 _ rfl
      obtain ⟨i7, e7, _, w7⟩ := DataW.trod_int Tryz.underlying3 f7
      simp only [List.cons.injEq, and_true] at e7
      subst e7
      have f8 : DataW.trod tok Tryz.prog w 0 sp held n 3 [c16] = some y8 := by simpa [cof_int] using hf 8 _ rfl
      obtain ⟨i8, e8, _, w8⟩ := DataW.trod_int Tryz.underlying3 f8
      simp only [List.cons.injEq, and_true] at e8
      subst e8
      have f9 : DataW.trod tok Tryz.prog w 0 sp held n 63 [c17, c18, c19] = some y9 := by simpa [cof_laws_Utf] using hf 9 _ rfl
      obtain ⟨i9, s9, k9⟩ := o_Utf rfl f9
      obtain ⟨a9_0, t9_0⟩ := s9.inv
      obtain ⟨a9_1, t9_1⟩ := t9_0.inv
      obtain ⟨a9_2, t9_2⟩ := t9_1.inv
      have f10 : DataW.trod tok Tryz.prog w 0 sp held n 65 [c20, c21, c22, c23, c24, c25, c26] = some y10 := by simpa [cof_laws_Event] using hf 10 _ rfl
      obtain ⟨i10, s10, k10⟩ := o_Ev rfl f10
      obtain ⟨a10_0, t10_0⟩ := s10.inv
      obtain ⟨a10_1, t10_1⟩ := t10_0.inv
      obtain ⟨a10_2, t10_2⟩ := t10_1.inv
      obtain ⟨a10_3, t10_3⟩ := t10_2.inv
      obtain ⟨a10_4, t10_4⟩ := t10_3.inv
      obtain ⟨a10_5, t10_5⟩ := t10_4.inv
      obtain ⟨a10_6, t10_6⟩ := t10_5.inv
      exact ⟨⟨i0, i1, i2, i3, i4, i5, i6, i7, i8, i9, i10⟩, .cons a0_0 (.cons a0_1 (.cons a0_2 (.cons a0_3 (.cons (rep0_C (show Rep0 (.int .i64 i1) _ from rfl)) (.cons s2 (.cons a3_0 (.cons a3_1 (.cons (rep0_C (show Rep0 (.int .i64 i4) _ from rfl)) (.cons (rep0_C (show Rep0 (.int .i64 i5) _ from rfl)) (.cons a6_0 (.cons a6_1 (.cons a6_2 (.cons a6_3 (.cons a6_4 (.cons (rep0_C (show Rep0 (.int .i64 i7) _ from rfl)) (.cons (rep0_C (show Rep0 (.int .i64 i8) _ from rfl)) (.cons a9_0 (.cons a9_1 (.cons a9_2 (.cons a10_0 (.cons a10_1 (.cons a10_2 (.cons a10_3 (.cons a10_4 (.cons a10_5 (.cons a10_6 .nil)))))))))))))))))))))))))), ⟨k0, bounds_i64 w1, ⟨l2, k2⟩, k3, bounds_i64 w4, bounds_i64 w5, k6, bounds_i64 w7, bounds_i64 w8, k9, k10⟩⟩
theorem cof_laws_Dec : Tryz.prog.cellsOf 67 = 27 := by kernel_rfl
end Go.Proofs.YtecljjcmjongfaaGreat.Ax
