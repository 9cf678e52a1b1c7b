/- The reference: bytes of numbers. A byte: the reference. Whole inputs: the reference. Models: merged events. Merged events. Chunks. Chunks. Chunks of an input. -/
import Derived.Test.YtpchkcpcdbdhdaaGreatKFeedAll6
import Derived.Test.YtpchkcpcdbdhdaaGreatKFeedAll5
import Derived.Test.YtpchkcpcdbdhdaaGreatKFeedAll1
set_option linter.unusedSimpArgs false
set_option linter.unusedVariables false
namespace Go.Proofs.YtpchkcpcdbdhdaaGreat.Ax
open Go.RowKit
set_option maxHeartbeats 1600000 in
theorem scan16_s (d : Dcd) (b : Int) (a : Int) (hp1 : MW d) (hp2 : (0 : Int) ≤ b ∧ b ≤ 255) : Fun Tryz.prog 112 [.agg (oDcd0_5 0 1 d), vI b, vI a] [.tree d.plan.shapes, .lst .lev d.stack] (.tup [.agg (oDcd0_5 2 3 (varM ⟨d, []⟩ b a).d), vO 4]) [.dead, .dead, .tree (varM ⟨d, []⟩ b a).d.plan.shapes, .lst .lev (varM ⟨d, []⟩ b a).d.stack, .lst .ev (varM ⟨d, []⟩ b a).out] := by
 have hN : bigN = 274877906944 := rfl
 have hlv := levelsOk_b hp1.lv
 have hpt := planOk_t hlv.1
 have htb := topL_b hp1.lv
 have hbb := hp1.b0
 have hat := hp1.at_
 have hwt := hp1.want
 have hwd := widthD_b d
 have hsb := scanByte_b (b := b) hbb.1 hbb.2
 refine fun_ofw Tryz.func112 (by kernel_rfl) (by kernel_rfl) (w := let zi : Int → C := .int .i64; let z1 : List C := [zi d.at_, zi d.field.number, zi d.field.kind, .bool d.field.rep, .bool d.field.packed, zi d.field.msg, zi d.wire, zi d.want, zi d.utf.want, zi d.utf.low, zi d.utf.high, zi d.end_.kind, zi d.end_.field, .int .u64 d.end_.bits, zi d.end_.len, .str d.end_.text, zi d.end_.code, zi d.end_.at_]; let z4 := (⟨d.plan, d.mode, d.stack, (⟨0, 0⟩ : Scn), d.start, d.at_, d.field, d.wire, d.want, d.utf, d.end_⟩ : Dcd); let z6 := scanByte d.scan b; let z2 := dFail (⟨d.plan, d.mode, d.stack, z6.1, a, d.at_, d.field, d.wire, d.want, d.utf, d.end_⟩ : Dcd) 9 d.at_; let z3 := dFail (⟨d.plan, d.mode, d.stack, z6.1, d.start, d.at_, d.field, d.wire, d.want, d.utf, d.end_⟩ : Dcd) 9 d.at_; let z7 := (⟨d.plan, d.mode, d.stack, (⟨0, 0⟩ : Scn), a, d.at_, d.field, d.wire, d.want, d.utf, d.end_⟩ : Dcd); let z8 := dFail (⟨d.plan, d.mode, d.stack, d.scan, a, d.at_, d.field, d.wire, d.want, d.utf, d.end_⟩ : Dcd) 1 a; let z9 := (.tup [.agg (.own 2 :: zi d.plan.root :: zi d.plan.deep :: zi d.plan.most :: zi d.mode :: .own 3 :: .int .u64 z6.1.bits :: zi z6.1.have_ :: zi a :: z1), vO 4] : S); let z10 : List Blk := [.dead, .dead, .tree z2.plan.shapes, .lst .lev z2.stack, .lst .ev [failEv 9 d.at_]]; let z11 := ([.dead, .dead, .tree d.plan.shapes, .lst .lev d.stack, .lst .ev ([] : List Ev)] : List Blk); let z13 := (.tup [.agg (.own 2 :: zi d.plan.root :: zi d.plan.deep :: zi d.plan.most :: zi d.mode :: .own 3 :: .int .u64 z6.1.bits :: zi z6.1.have_ :: zi d.start :: z1), vO 4] : S); let z14 : List Blk := [.dead, .dead, .tree z3.plan.shapes, .lst .lev z3.stack, .lst .ev [failEv 9 d.at_]]; let z16 : List Blk := [.dead, .dead, .tree z8.plan.shapes, .lst .lev z8.stack, .lst .ev [failEv 1 a]]; let z17 : List Blk := [.dead, .dead, .tree (dFail d 1 a).plan.shapes, .lst .lev (dFail d 1 a).stack, .lst .ev [failEv 1 a]]; let z18 := decide (d.mode = 8); let z19 := decide (d.want = 0); let z20 := oDcd0_5 2 3 z2; let z21 := settleM (valueM ⟨z4, []⟩ z6.1.bits); let z15 : List Blk := [.dead, .dead, .tree z21.d.plan.shapes, .lst .lev z21.d.stack, .lst .ev z21.out]; let z22 := frameM ⟨z7, []⟩ z6.1.bits; let z23 := frameM ⟨z4, []⟩ z6.1.bits; let z24 := longM ⟨z7, []⟩ z6.1.bits; let z25 := longM ⟨z4, []⟩ z6.1.bits; let z28 := tagM ⟨z7, []⟩ z6.1.bits; let z29 := tagM ⟨z4, []⟩ z6.1.bits; let z30 := oDcd0_5 2 3 z3; let z31 := (.tup [.agg z20, vO 4] : S); let z32 := !decide (d.mode = 1); let z33 := decide (topL d = 0); let z36 := decide (z6.2 = 2); let z37 := decide (z6.2 = 0); let z38 := decide (d.mode = 1); let z39 := oDcd0_5 2 3 (dFail d 1 a); let z40 := (.tup [.agg z30, vO 4] : S); let z41 := decide (d.mode = 2); let z42 := oDcd0_5 2 3 z8; let z43 := vI (topL d); let z44 := decide (d.mode = 4); let z45 := oDcd0_5 2 3 z21.d; let z46 := cScn z6.1; let z47 := (.tup [.agg z42, vO 4] : S); let z48 := varM ⟨d, []⟩ b a; let z5 : List Blk := [.dead, .dead, .tree z48.d.plan.shapes, .lst .lev z48.d.stack, .lst .ev z48.out]; let z12 := oDcd0_5 2 3 z48.d; let z26 := z19 = false → z9 = .tup [.agg z12, vO 4] ∧ z11 = z5; let z27 := z18 = false → z9 = .tup [.agg z12, vO 4] ∧ z11 = z5; let z34 := z19 = false → z13 = .tup [.agg z12, vO 4] ∧ z11 = z5; let z35 := z18 = false → z13 = .tup [.agg z12, vO 4] ∧ z11 = z5; let z49 := cScn d.scan; (.br (.br (.seg [.call [] (.tup [.agg z46, vI z6.2]) []] (.br (.seg [.call [0, 1] (.tup [.agg z42, vO 4]) z16] (.leaf () [0, 1, 5, 6, 7])) (.br (.br (.seg [.call [] (.v z43) []] (.br (.seg [.call [0, 1] (.tup [.agg z20, vO 4]) z10] (.leaf () [0, 1, 5, 6, 7])) (.br (.br (.seg [.call [0, 1] (.tup [.agg z20, vO 4]) z10] (.leaf () [0, 1, 5, 6, 7])) (.seg [.ty .ev, .at 0, .cut 3 0, .cut 3 5] (.leaf () [0, 1, 6, 7, 5]))) (.seg [.ty .ev, .at 0, .cut 3 0, .cut 3 5] (.leaf () [0, 1, 6, 7, 5]))))) (.br (.br (.seg [.call [0, 1] (.tup [.agg z20, vO 4]) z10] (.leaf () [0, 1, 5, 6, 7])) (.seg [.ty .ev, .at 0, .cut 3 0, .cut 3 5] (.leaf () [0, 1, 6, 7, 5]))) (.seg [.ty .ev, .at 0, .cut 3 0, .cut 3 5] (.leaf () [0, 1, 6, 7, 5])))) (.seg [.br true, .call [] (.tup [.agg (oDcd0_5 0 1 z22.d), vO 2]) [.tree z22.d.plan.shapes, .lst .lev z22.d.stack, .lst .ev z22.out], .at 0, .kill 0, .kill 1] (.leaf () [0, 1, 5, 6, 7]))))) (.br (.seg [.call [] (.tup [.agg z46, vI z6.2]) []] (.br (.seg [.call [0, 1] (.tup [.agg z42, vO 4]) z16] (.leaf () [0, 1, 5, 6, 7])) (.br (.br (.seg [.call [] (.v z43) []] (.br (.seg [.call [0, 1] (.tup [.agg z20, vO 4]) z10] (.leaf () [0, 1, 5, 6, 7])) (.br (.br (.seg [.call [0, 1] (.tup [.agg z20, vO 4]) z10] (.leaf () [0, 1, 5, 6, 7])) (.seg [.ty .ev, .at 0, .cut 3 0, .cut 3 5] (.leaf () [0, 1, 6, 7, 5]))) (.seg [.ty .ev, .at 0, .cut 3 0, .cut 3 5] (.leaf () [0, 1, 6, 7, 5]))))) (.br (.br (.seg [.call [0, 1] (.tup [.agg z20, vO 4]) z10] (.leaf () [0, 1, 5, 6, 7])) (.seg [.ty .ev, .at 0, .cut 3 0, .cut 3 5] (.leaf () [0, 1, 6, 7, 5]))) (.seg [.ty .ev, .at 0, .cut 3 0, .cut 3 5] (.leaf () [0, 1, 6, 7, 5])))) (.seg [.br false, .br true, .call [] (.tup [.agg (oDcd0_5 0 1 z28.d), vO 2]) [.tree z28.d.plan.shapes, .lst .lev z28.d.stack, .lst .ev z28.out], .at 0, .kill 0, .kill 1] (.leaf () [0, 1, 5, 6, 7]))))) (.br (.seg [.call [] (.tup [.agg z46, vI z6.2]) []] (.br (.seg [.call [0, 1] (.tup [.agg z42, vO 4]) z16] (.leaf () [0, 1, 5, 6, 7])) (.br (.br (.seg [.call [] (.v z43) []] (.br (.seg [.call [0, 1] (.tup [.agg z20, vO 4]) z10] (.leaf () [0, 1, 5, 6, 7])) (.br (.br (.seg [.call [0, 1] (.tup [.agg z20, vO 4]) z10] (.leaf () [0, 1, 5, 6, 7])) (.seg [.ty .ev, .at 0, .cut 3 0, .cut 3 5] (.leaf () [0, 1, 6, 7, 5]))) (.seg [.ty .ev, .at 0, .cut 3 0, .cut 3 5] (.leaf () [0, 1, 6, 7, 5]))))) (.br (.br (.seg [.call [0, 1] (.tup [.agg z20, vO 4]) z10] (.leaf () [0, 1, 5, 6, 7])) (.seg [.ty .ev, .at 0, .cut 3 0, .cut 3 5] (.leaf () [0, 1, 6, 7, 5]))) (.seg [.ty .ev, .at 0, .cut 3 0, .cut 3 5] (.leaf () [0, 1, 6, 7, 5])))) (.seg [.br false, .br false, .br true, .call [] (.tup [.agg (oDcd0_5 0 1 z24.d), vO 2]) [.tree z24.d.plan.shapes, .lst .lev z24.d.stack, .lst .ev z24.out], .at 0, .kill 0, .kill 1] (.leaf () [0, 1, 5, 6, 7]))))) (.seg [.call [] (.tup [.agg z46, vI z6.2]) []] (.br (.seg [.call [0, 1] (.tup [.agg z39, vO 4]) z17] (.leaf () [0, 1, 5, 6, 7])) (.br (.br (.seg [.call [] (.v z43) []] (.br (.seg [.call [0, 1] (.tup [.agg z30, vO 4]) z14] (.leaf () [0, 1, 5, 6, 7])) (.br (.br (.seg [.call [0, 1] (.tup [.agg z30, vO 4]) z14] (.leaf () [0, 1, 5, 6, 7])) (.seg [.ty .ev, .at 0, .cut 3 0, .cut 3 5] (.leaf () [0, 1, 6, 7, 5]))) (.seg [.ty .ev, .at 0, .cut 3 0, .cut 3 5] (.leaf () [0, 1, 6, 7, 5]))))) (.br (.br (.seg [.call [0, 1] (.tup [.agg z30, vO 4]) z14] (.leaf () [0, 1, 5, 6, 7])) (.seg [.ty .ev, .at 0, .cut 3 0, .cut 3 5] (.leaf () [0, 1, 6, 7, 5]))) (.seg [.ty .ev, .at 0, .cut 3 0, .cut 3 5] (.leaf () [0, 1, 6, 7, 5])))) (.seg [.br false, .br false, .br false, .call [0, 1] (.tup [.agg z45, vO 4]) z15] (.leaf () [0, 1, 5, 6, 7])))))))) (.seg [.call [] (.tup [.agg z46, vI z6.2]) []] (.br (.seg [.call [0, 1] (.tup [.agg z39, vO 4]) z17] (.leaf () [0, 1, 5, 6, 7])) (.br (.br (.seg [.call [] (.v z43) []] (.br (.seg [.call [0, 1] (.tup [.agg z30, vO 4]) z14] (.leaf () [0, 1, 5, 6, 7])) (.br (.br (.seg [.call [0, 1] (.tup [.agg z30, vO 4]) z14] (.leaf () [0, 1, 5, 6, 7])) (.seg [.ty .ev, .at 0, .cut 3 0, .cut 3 5] (.leaf () [0, 1, 6, 7, 5]))) (.seg [.ty .ev, .at 0, .cut 3 0, .cut 3 5] (.leaf () [0, 1, 6, 7, 5]))))) (.br (.br (.seg [.call [0, 1] (.tup [.agg z30, vO 4]) z14] (.leaf () [0, 1, 5, 6, 7])) (.seg [.ty .ev, .at 0, .cut 3 0, .cut 3 5] (.leaf () [0, 1, 6, 7, 5]))) (.seg [.ty .ev, .at 0, .cut 3 0, .cut 3 5] (.leaf () [0, 1, 6, 7, 5])))) (.br (.seg [.call [] (.tup [.agg (oDcd0_5 0 1 z23.d), vO 2]) [.tree z23.d.plan.shapes, .lst .lev z23.d.stack, .lst .ev z23.out], .at 0, .kill 0, .kill 1] (.leaf () [0, 1, 5, 6, 7])) (.br (.seg [.call [] (.tup [.agg (oDcd0_5 0 1 z29.d), vO 2]) [.tree z29.d.plan.shapes, .lst .lev z29.d.stack, .lst .ev z29.out], .at 0, .kill 0, .kill 1] (.leaf () [0, 1, 5, 6, 7])) (.br (.seg [.call [] (.tup [.agg (oDcd0_5 0 1 z25.d), vO 2]) [.tree z25.d.plan.shapes, .lst .lev z25.d.stack, .lst .ev z25.out], .at 0, .kill 0, .kill 1] (.leaf () [0, 1, 5, 6, 7])) (.seg [.call [0, 1] (.tup [.agg z45, vO 4]) z15] (.leaf () [0, 1, 5, 6, 7])))))))), ((decide (d.scan.have_ = 0)) = true → (z38 = true → (Fun Tryz.prog 160 [.agg z49, vI b] [] (.tup [.agg z46, vI z6.2]) []) ∧ (z36 = true → (Fun Tryz.prog 109 [.agg (.own 0 :: zi d.plan.root :: zi d.plan.deep :: zi d.plan.most :: zi d.mode :: .own 1 :: .int .u64 d.scan.bits :: zi d.scan.have_ :: zi a :: z1), vI 1, vI a] [.tree d.plan.shapes, .lst .lev d.stack] (.tup [.agg z42, vO 4]) z16) ∧ z47 = .tup [.agg z12, vO 4] ∧ (z16 : List Blk) = z5) ∧ (z36 = false → (z37 = true → (z32 = true → (Fun Tryz.prog 149 [.agg (.seq .shp d.plan.shapes :: zi d.plan.root :: zi d.plan.deep :: zi d.plan.most :: zi d.mode :: .seq .lev d.stack :: .int .u64 z6.1.bits :: zi z6.1.have_ :: zi a :: z1)] [] (.v z43) []) ∧ (z33 = true → (Fun Tryz.prog 109 [.agg (.own 0 :: zi d.plan.root :: zi d.plan.deep :: zi d.plan.most :: zi d.mode :: .own 1 :: .int .u64 z6.1.bits :: zi z6.1.have_ :: zi a :: z1), vI 9, vI d.at_] [.tree d.plan.shapes, .lst .lev d.stack] (.tup [.agg z20, vO 4]) z10) ∧ z31 = .tup [.agg z12, vO 4] ∧ (z10 : List Blk) = z5) ∧ (z33 = false → (z18 = true → (z19 = true → (Fun Tryz.prog 109 [.agg (.own 0 :: zi d.plan.root :: zi d.plan.deep :: zi d.plan.most :: zi d.mode :: .own 1 :: .int .u64 z6.1.bits :: zi z6.1.have_ :: zi a :: z1), vI 9, vI d.at_] [.tree d.plan.shapes, .lst .lev d.stack] (.tup [.agg z20, vO 4]) z10) ∧ z31 = .tup [.agg z12, vO 4] ∧ (z10 : List Blk) = z5) ∧ z26) ∧ z27)) ∧ (z32 = false → (z18 = true → (z19 = true → (Fun Tryz.prog 109 [.agg (.own 0 :: zi d.plan.root :: zi d.plan.deep :: zi d.plan.most :: zi d.mode :: .own 1 :: .int .u64 z6.1.bits :: zi z6.1.have_ :: zi a :: z1), vI 9, vI d.at_] [.tree d.plan.shapes, .lst .lev d.stack] (.tup [.agg z20, vO 4]) z10) ∧ z31 = .tup [.agg z12, vO 4] ∧ (z10 : List Blk) = z5) ∧ z26) ∧ z27)) ∧ (z37 = false → (z38 = true) ∧ (Fun Tryz.prog 161 [.agg (.seq .shp d.plan.shapes :: zi d.plan.root :: zi d.plan.deep :: zi d.plan.most :: zi d.mode :: .seq .lev d.stack :: .int .u64 0 :: zi 0 :: zi a :: z1), .c (.int .u64 z6.1.bits)] [] (.tup [.agg (oDcd0_5 0 1 z22.d), vO 2]) [.tree z22.d.plan.shapes, .lst .lev z22.d.stack, .lst .ev z22.out]) ∧ (.tup [.agg (oDcd0_5 2 3 z22.d), vO 4] : S) = .tup [.agg z12, vO 4] ∧ ([.dead, .dead, .tree z22.d.plan.shapes, .lst .lev z22.d.stack, .lst .ev z22.out] : List Blk) = z5))) ∧ (z38 = false → (z41 = true → (Fun Tryz.prog 160 [.agg z49, vI b] [] (.tup [.agg z46, vI z6.2]) []) ∧ (z36 = true → (Fun Tryz.prog 109 [.agg (.own 0 :: zi d.plan.root :: zi d.plan.deep :: zi d.plan.most :: zi d.mode :: .own 1 :: .int .u64 d.scan.bits :: zi d.scan.have_ :: zi a :: z1), vI 1, vI a] [.tree d.plan.shapes, .lst .lev d.stack] (.tup [.agg z42, vO 4]) z16) ∧ z47 = .tup [.agg z12, vO 4] ∧ (z16 : List Blk) = z5) ∧ (z36 = false → (z37 = true → (z32 = true → (Fun Tryz.prog 149 [.agg (.seq .shp d.plan.shapes :: zi d.plan.root :: zi d.plan.deep :: zi d.plan.most :: zi d.mode :: .seq .lev d.stack :: .int .u64 z6.1.bits :: zi z6.1.have_ :: zi a :: z1)] [] (.v z43) []) ∧ (z33 = true → (Fun Tryz.prog 109 [.agg (.own 0 :: zi d.plan.root :: zi d.plan.deep :: zi d.plan.most :: zi d.mode :: .own 1 :: .int .u64 z6.1.bits :: zi z6.1.have_ :: zi a :: z1), vI 9, vI d.at_] [.tree d.plan.shapes, .lst .lev d.stack] (.tup [.agg z20, vO 4]) z10) ∧ z31 = .tup [.agg z12, vO 4] ∧ (z10 : List Blk) = z5) ∧ (z33 = false → (z18 = true → (z19 = true → (Fun Tryz.prog 109 [.agg (.own 0 :: zi d.plan.root :: zi d.plan.deep :: zi d.plan.most :: zi d.mode :: .own 1 :: .int .u64 z6.1.bits :: zi z6.1.have_ :: zi a :: z1), vI 9, vI d.at_] [.tree d.plan.shapes, .lst .lev d.stack] (.tup [.agg z20, vO 4]) z10) ∧ z31 = .tup [.agg z12, vO 4] ∧ (z10 : List Blk) = z5) ∧ z26) ∧ z27)) ∧ (z32 = false → (z18 = true → (z19 = true → (Fun Tryz.prog 109 [.agg (.own 0 :: zi d.plan.root :: zi d.plan.deep :: zi d.plan.most :: zi d.mode :: .own 1 :: .int .u64 z6.1.bits :: zi z6.1.have_ :: zi a :: z1), vI 9, vI d.at_] [.tree d.plan.shapes, .lst .lev d.stack] (.tup [.agg z20, vO 4]) z10) ∧ z31 = .tup [.agg z12, vO 4] ∧ (z10 : List Blk) = z5) ∧ z26) ∧ z27)) ∧ (z37 = false → (z38 = false) ∧ (z41 = true) ∧ (Fun Tryz.prog 162 [.agg (.seq .shp d.plan.shapes :: zi d.plan.root :: zi d.plan.deep :: zi d.plan.most :: zi d.mode :: .seq .lev d.stack :: .int .u64 0 :: zi 0 :: zi a :: z1), .c (.int .u64 z6.1.bits)] [] (.tup [.agg (oDcd0_5 0 1 z28.d), vO 2]) [.tree z28.d.plan.shapes, .lst .lev z28.d.stack, .lst .ev z28.out]) ∧ (.tup [.agg (oDcd0_5 2 3 z28.d), vO 4] : S) = .tup [.agg z12, vO 4] ∧ ([.dead, .dead, .tree z28.d.plan.shapes, .lst .lev z28.d.stack, .lst .ev z28.out] : List Blk) = z5))) ∧ (z41 = false → (z44 = true → (Fun Tryz.prog 160 [.agg z49, vI b] [] (.tup [.agg z46, vI z6.2]) []) ∧ (z36 = true → (Fun Tryz.prog 109 [.agg (.own 0 :: zi d.plan.root :: zi d.plan.deep :: zi d.plan.most :: zi d.mode :: .own 1 :: .int .u64 d.scan.bits :: zi d.scan.have_ :: zi a :: z1), vI 1, vI a] [.tree d.plan.shapes, .lst .lev d.stack] (.tup [.agg z42, vO 4]) z16) ∧ z47 = .tup [.agg z12, vO 4] ∧ (z16 : List Blk) = z5) ∧ (z36 = false → (z37 = true → (z32 = true → (Fun Tryz.prog 149 [.agg (.seq .shp d.plan.shapes :: zi d.plan.root :: zi d.plan.deep :: zi d.plan.most :: zi d.mode :: .seq .lev d.stack :: .int .u64 z6.1.bits :: zi z6.1.have_ :: zi a :: z1)] [] (.v z43) []) ∧ (z33 = true → (Fun Tryz.prog 109 [.agg (.own 0 :: zi d.plan.root :: zi d.plan.deep :: zi d.plan.most :: zi d.mode :: .own 1 :: .int .u64 z6.1.bits :: zi z6.1.have_ :: zi a :: z1), vI 9, vI d.at_] [.tree d.plan.shapes, .lst .lev d.stack] (.tup [.agg z20, vO 4]) z10) ∧ z31 = .tup [.agg z12, vO 4] ∧ (z10 : List Blk) = z5) ∧ (z33 = false → (z18 = true → (z19 = true → (Fun Tryz.prog 109 [.agg (.own 0 :: zi d.plan.root :: zi d.plan.deep :: zi d.plan.most :: zi d.mode :: .own 1 :: .int .u64 z6.1.bits :: zi z6.1.have_ :: zi a :: z1), vI 9, vI d.at_] [.tree d.plan.shapes, .lst .lev d.stack] (.tup [.agg z20, vO 4]) z10) ∧ z31 = .tup [.agg z12, vO 4] ∧ (z10 : List Blk) = z5) ∧ z26) ∧ z27)) ∧ (z32 = false → (z18 = true → (z19 = true → (Fun Tryz.prog 109 [.agg (.own 0 :: zi d.plan.root :: zi d.plan.deep :: zi d.plan.most :: zi d.mode :: .own 1 :: .int .u64 z6.1.bits :: zi z6.1.have_ :: zi a :: z1), vI 9, vI d.at_] [.tree d.plan.shapes, .lst .lev d.stack] (.tup [.agg z20, vO 4]) z10) ∧ z31 = .tup [.agg z12, vO 4] ∧ (z10 : List Blk) = z5) ∧ z26) ∧ z27)) ∧ (z37 = false → (z38 = false) ∧ (z41 = false) ∧ (z44 = true) ∧ (Fun Tryz.prog 163 [.agg (.seq .shp d.plan.shapes :: zi d.plan.root :: zi d.plan.deep :: zi d.plan.most :: zi d.mode :: .seq .lev d.stack :: .int .u64 0 :: zi 0 :: zi a :: z1), .c (.int .u64 z6.1.bits)] [] (.tup [.agg (oDcd0_5 0 1 z24.d), vO 2]) [.tree z24.d.plan.shapes, .lst .lev z24.d.stack, .lst .ev z24.out]) ∧ (.tup [.agg (oDcd0_5 2 3 z24.d), vO 4] : S) = .tup [.agg z12, vO 4] ∧ ([.dead, .dead, .tree z24.d.plan.shapes, .lst .lev z24.d.stack, .lst .ev z24.out] : List Blk) = z5))) ∧ (z44 = false → (Fun Tryz.prog 160 [.agg z49, vI b] [] (.tup [.agg z46, vI z6.2]) []) ∧ (z36 = true → (Fun Tryz.prog 109 [.agg (oDcd0_5 0 1 d), vI 1, vI a] [.tree d.plan.shapes, .lst .lev d.stack] (.tup [.agg z39, vO 4]) z17) ∧ (.tup [.agg z39, vO 4] : S) = .tup [.agg z12, vO 4] ∧ (z17 : List Blk) = z5) ∧ (z36 = false → (z37 = true → (z32 = true → (Fun Tryz.prog 149 [.agg (.seq .shp d.plan.shapes :: zi d.plan.root :: zi d.plan.deep :: zi d.plan.most :: zi d.mode :: .seq .lev d.stack :: .int .u64 z6.1.bits :: zi z6.1.have_ :: zi d.start :: z1)] [] (.v z43) []) ∧ (z33 = true → (Fun Tryz.prog 109 [.agg (.own 0 :: zi d.plan.root :: zi d.plan.deep :: zi d.plan.most :: zi d.mode :: .own 1 :: .int .u64 z6.1.bits :: zi z6.1.have_ :: zi d.start :: z1), vI 9, vI d.at_] [.tree d.plan.shapes, .lst .lev d.stack] (.tup [.agg z30, vO 4]) z14) ∧ z40 = .tup [.agg z12, vO 4] ∧ (z14 : List Blk) = z5) ∧ (z33 = false → (z18 = true → (z19 = true → (Fun Tryz.prog 109 [.agg (.own 0 :: zi d.plan.root :: zi d.plan.deep :: zi d.plan.most :: zi d.mode :: .own 1 :: .int .u64 z6.1.bits :: zi z6.1.have_ :: zi d.start :: z1), vI 9, vI d.at_] [.tree d.plan.shapes, .lst .lev d.stack] (.tup [.agg z30, vO 4]) z14) ∧ z40 = .tup [.agg z12, vO 4] ∧ (z14 : List Blk) = z5) ∧ z34) ∧ z35)) ∧ (z32 = false → (z18 = true → (z19 = true → (Fun Tryz.prog 109 [.agg (.own 0 :: zi d.plan.root :: zi d.plan.deep :: zi d.plan.most :: zi d.mode :: .own 1 :: .int .u64 z6.1.bits :: zi z6.1.have_ :: zi d.start :: z1), vI 9, vI d.at_] [.tree d.plan.shapes, .lst .lev d.stack] (.tup [.agg z30, vO 4]) z14) ∧ z40 = .tup [.agg z12, vO 4] ∧ (z14 : List Blk) = z5) ∧ z34) ∧ z35)) ∧ (z37 = false → (z38 = false) ∧ (z41 = false) ∧ (z44 = false) ∧ (Fun Tryz.prog 159 [.agg (.own 0 :: zi d.plan.root :: zi d.plan.deep :: zi d.plan.most :: zi d.mode :: .own 1 :: .int .u64 0 :: zi 0 :: zi d.start :: z1), .c (.int .u64 z6.1.bits)] [.tree d.plan.shapes, .lst .lev d.stack] (.tup [.agg z45, vO 4]) z15) ∧ (.tup [.agg z45, vO 4] : S) = .tup [.agg z12, vO 4] ∧ (z15 : List Blk) = z5)))))) ∧ ((decide (d.scan.have_ = 0)) = false → (Fun Tryz.prog 160 [.agg z49, vI b] [] (.tup [.agg z46, vI z6.2]) []) ∧ (z36 = true → (Fun Tryz.prog 109 [.agg (oDcd0_5 0 1 d), vI 1, vI a] [.tree d.plan.shapes, .lst .lev d.stack] (.tup [.agg z39, vO 4]) z17) ∧ (.tup [.agg z39, vO 4] : S) = .tup [.agg z12, vO 4] ∧ (z17 : List Blk) = z5) ∧ (z36 = false → (z37 = true → (z32 = true → (Fun Tryz.prog 149 [.agg (.seq .shp d.plan.shapes :: zi d.plan.root :: zi d.plan.deep :: zi d.plan.most :: zi d.mode :: .seq .lev d.stack :: .int .u64 z6.1.bits :: zi z6.1.have_ :: zi d.start :: z1)] [] (.v z43) []) ∧ (z33 = true → (Fun Tryz.prog 109 [.agg (.own 0 :: zi d.plan.root :: zi d.plan.deep :: zi d.plan.most :: zi d.mode :: .own 1 :: .int .u64 z6.1.bits :: zi z6.1.have_ :: zi d.start :: z1), vI 9, vI d.at_] [.tree d.plan.shapes, .lst .lev d.stack] (.tup [.agg z30, vO 4]) z14) ∧ z40 = .tup [.agg z12, vO 4] ∧ (z14 : List Blk) = z5) ∧ (z33 = false → (z18 = true → (z19 = true → (Fun Tryz.prog 109 [.agg (.own 0 :: zi d.plan.root :: zi d.plan.deep :: zi d.plan.most :: zi d.mode :: .own 1 :: .int .u64 z6.1.bits :: zi z6.1.have_ :: zi d.start :: z1), vI 9, vI d.at_] [.tree d.plan.shapes, .lst .lev d.stack] (.tup [.agg z30, vO 4]) z14) ∧ z40 = .tup [.agg z12, vO 4] ∧ (z14 : List Blk) = z5) ∧ z34) ∧ z35)) ∧ (z32 = false → (z18 = true → (z19 = true → (Fun Tryz.prog 109 [.agg (.own 0 :: zi d.plan.root :: zi d.plan.deep :: zi d.plan.most :: zi d.mode :: .own 1 :: .int .u64 z6.1.bits :: zi z6.1.have_ :: zi d.start :: z1), vI 9, vI d.at_] [.tree d.plan.shapes, .lst .lev d.stack] (.tup [.agg z30, vO 4]) z14) ∧ z40 = .tup [.agg z12, vO 4] ∧ (z14 : List Blk) = z5) ∧ z34) ∧ z35)) ∧ (z37 = false → (z38 = true → (Fun Tryz.prog 161 [.agg (.seq .shp d.plan.shapes :: zi d.plan.root :: zi d.plan.deep :: zi d.plan.most :: zi d.mode :: .seq .lev d.stack :: .int .u64 0 :: zi 0 :: zi d.start :: z1), .c (.int .u64 z6.1.bits)] [] (.tup [.agg (oDcd0_5 0 1 z23.d), vO 2]) [.tree z23.d.plan.shapes, .lst .lev z23.d.stack, .lst .ev z23.out]) ∧ (.tup [.agg (oDcd0_5 2 3 z23.d), vO 4] : S) = .tup [.agg z12, vO 4] ∧ ([.dead, .dead, .tree z23.d.plan.shapes, .lst .lev z23.d.stack, .lst .ev z23.out] : List Blk) = z5) ∧ (z38 = false → (z41 = true → (Fun Tryz.prog 162 [.agg (.seq .shp d.plan.shapes :: zi d.plan.root :: zi d.plan.deep :: zi d.plan.most :: zi d.mode :: .seq .lev d.stack :: .int .u64 0 :: zi 0 :: zi d.start :: z1), .c (.int .u64 z6.1.bits)] [] (.tup [.agg (oDcd0_5 0 1 z29.d), vO 2]) [.tree z29.d.plan.shapes, .lst .lev z29.d.stack, .lst .ev z29.out]) ∧ (.tup [.agg (oDcd0_5 2 3 z29.d), vO 4] : S) = .tup [.agg z12, vO 4] ∧ ([.dead, .dead, .tree z29.d.plan.shapes, .lst .lev z29.d.stack, .lst .ev z29.out] : List Blk) = z5) ∧ (z41 = false → (z44 = true → (Fun Tryz.prog 163 [.agg (.seq .shp d.plan.shapes :: zi d.plan.root :: zi d.plan.deep :: zi d.plan.most :: zi d.mode :: .seq .lev d.stack :: .int .u64 0 :: zi 0 :: zi d.start :: z1), .c (.int .u64 z6.1.bits)] [] (.tup [.agg (oDcd0_5 0 1 z25.d), vO 2]) [.tree z25.d.plan.shapes, .lst .lev z25.d.stack, .lst .ev z25.out]) ∧ (.tup [.agg (oDcd0_5 2 3 z25.d), vO 4] : S) = .tup [.agg z12, vO 4] ∧ ([.dead, .dead, .tree z25.d.plan.shapes, .lst .lev z25.d.stack, .lst .ev z25.out] : List Blk) = z5) ∧ (z44 = false → (Fun Tryz.prog 159 [.agg (.own 0 :: zi d.plan.root :: zi d.plan.deep :: zi d.plan.most :: zi d.mode :: .own 1 :: .int .u64 0 :: zi 0 :: zi d.start :: z1), .c (.int .u64 z6.1.bits)] [.tree d.plan.shapes, .lst .lev d.stack] (.tup [.agg z45, vO 4]) z15) ∧ (.tup [.agg z45, vO 4] : S) = .tup [.agg z12, vO 4] ∧ (z15 : List Blk) = z5)))))))) (by kernel_rfl) ?_
 refine dsp (fun h1 p1 => ?_) fun h1 p1 => ?_
 refine dsp (fun h2 p2 => ?_) fun h2 p2 => ?_
 refine ⟨(scanByte_s d.scan _ (by omega)), dsp (fun h3 p3 => ?_) fun h3 p3 => ?_⟩
 refine ⟨(fail_s (⟨d.plan, d.mode, d.stack, d.scan, a, d.at_, d.field, d.wire, d.want, d.utf, d.end_⟩ : Dcd) _ _), ?_⟩
 refine have hm1 : (varM ⟨d, []⟩ b a).d = (dFail (⟨d.plan, d.mode, d.stack, d.scan, a, d.at_, d.field, d.wire, d.want, d.utf, d.end_⟩ : Dcd) 1 a) := ?_; ?_
 rotate_left
 refine have hm2 : (varM ⟨d, []⟩ b a).out = [failEv 1 a] := ?_; ?_
 rotate_left
 exact ⟨(by rw [hm1] <;> rfl), (by rw [hm1, hm2] <;> rfl)⟩
 refine dsp (fun h4 p4 => ?_) fun h4 p4 => ?_
 refine ⟨fun h5 => have q5 := bnot_t h5; have p5 := of_decide_eq_false q5; ?_, fun h5 => have q5 := bnot_f h5; have p5 := of_decide_eq_true q5; ?_⟩
 refine ⟨(topL_s (⟨d.plan, d.mode, d.stack, (scanByte d.scan b).1, a, d.at_, d.field, d.wire, d.want, d.utf, d.end_⟩ : Dcd) (by first | omega | rfl | (dsimp only; omega))), dsp (fun h6 p6 => ?_) fun h6 p6 => ?_⟩
 refine ⟨(fail_s (⟨d.plan, d.mode, d.stack, (scanByte d.scan b).1, a, d.at_, d.field, d.wire, d.want, d.utf, d.end_⟩ : Dcd) _ _), ?_⟩
 refine have hm1 : (varM ⟨d, []⟩ b a).d = (dFail (⟨d.plan, d.mode, d.stack, (scanByte d.scan b).1, a, d.at_, d.field, d.wire, d.want, d.utf, d.end_⟩ : Dcd) 9 d.at_) := ?_; ?_
 rotate_left
 refine have hm2 : (varM ⟨d, []⟩ b a).out = [failEv 9 d.at_] := ?_; ?_
 rotate_left
 exact ⟨(by rw [hm1] <;> rfl), (by rw [hm1, hm2] <;> rfl)⟩
 refine dsp (fun h7 p7 => ?_) fun h7 p7 => ?_
 refine dsp (fun h8 p8 => ?_) fun h8 p8 => ?_
 refine ⟨(fail_s (⟨d.plan, d.mode, d.stack, (scanByte d.scan b).1, a, d.at_, d.field, d.wire, d.want, d.utf, d.end_⟩ : Dcd) _ _), ?_⟩
 refine have hm1 : (varM ⟨d, []⟩ b a).d = (dFail (⟨d.plan, d.mode, d.stack, (scanByte d.scan b).1, a, d.at_, d.field, d.wire, d.want, d.utf, d.end_⟩ : Dcd) 9 d.at_) := ?_; ?_
 rotate_left
 refine have hm2 : (varM ⟨d, []⟩ b a).out = [failEv 9 d.at_] := ?_; ?_
 rotate_left
 exact ⟨(by rw [hm1] <;> rfl), (by rw [hm1, hm2] <;> rfl)⟩
 refine have hm1 : (varM ⟨d, []⟩ b a).d = (⟨d.plan, d.mode, d.stack, (scanByte d.scan b).1, a, d.at_, d.field, d.wire, d.want, d.utf, d.end_⟩ : Dcd) := ?_; ?_
 rotate_left
 refine have hm2 : (varM ⟨d, []⟩ b a).out = ([] : List Ev) := ?_; ?_
 rotate_left
 exact ⟨(by rw [hm1] <;> rfl), (by rw [hm1, hm2] <;> rfl)⟩
 refine have hm1 : (varM ⟨d, []⟩ b a).d = (⟨d.plan, d.mode, d.stack, (scanByte d.scan b).1, a, d.at_, d.field, d.wire, d.want, d.utf, d.end_⟩ : Dcd) := ?_; ?_
 rotate_left
 refine have hm2 : (varM ⟨d, []⟩ b a).out = ([] : List Ev) := ?_; ?_
 rotate_left
 exact ⟨(by rw [hm1] <;> rfl), (by rw [hm1, hm2] <;> rfl)⟩
 refine dsp (fun h6 p6 => ?_) fun h6 p6 => ?_
 refine dsp (fun h7 p7 => ?_) fun h7 p7 => ?_
 refine ⟨(fail_s (⟨d.plan, d.mode, d.stack, (scanByte d.scan b).1, a, d.at_, d.field, d.wire, d.want, d.utf, d.end_⟩ : Dcd) _ _), ?_⟩
 refine have hm1 : (varM ⟨d, []⟩ b a).d = (dFail (⟨d.plan, d.mode, d.stack, (scanByte d.scan b).1, a, d.at_, d.field, d.wire, d.want, d.utf, d.end_⟩ : Dcd) 9 d.at_) := ?_; ?_
 rotate_left
 refine have hm2 : (varM ⟨d, []⟩ b a).out = [failEv 9 d.at_] := ?_; ?_
 rotate_left
 exact ⟨(by rw [hm1] <;> rfl), (by rw [hm1, hm2] <;> rfl)⟩
 refine have hm1 : (varM ⟨d, []⟩ b a).d = (⟨d.plan, d.mode, d.stack, (scanByte d.scan b).1, a, d.at_, d.field, d.wire, d.want, d.utf, d.end_⟩ : Dcd) := ?_; ?_
 rotate_left
 refine have hm2 : (varM ⟨d, []⟩ b a).out = ([] : List Ev) := ?_; ?_
 rotate_left
 exact ⟨(by rw [hm1] <;> rfl), (by rw [hm1, hm2] <;> rfl)⟩
 refine have hm1 : (varM ⟨d, []⟩ b a).d = (⟨d.plan, d.mode, d.stack, (scanByte d.scan b).1, a, d.at_, d.field, d.wire, d.want, d.utf, d.end_⟩ : Dcd) := ?_; ?_
 rotate_left
 refine have hm2 : (varM ⟨d, []⟩ b a).out = ([] : List Ev) := ?_; ?_
 rotate_left
 exact ⟨(by rw [hm1] <;> rfl), (by rw [hm1, hm2] <;> rfl)⟩
 refine ⟨h2, (frame_s (⟨d.plan, d.mode, d.stack, (⟨0, 0⟩ : Scn), a, d.at_, d.field, d.wire, d.want, d.utf, d.end_⟩ : Dcd) _ ((by first | (exact hp1.lv) | (exact levelsOk_same hp1.lv rfl rfl))) (by omega)), ?_⟩
 refine have hm1 : (varM ⟨d, []⟩ b a).d = (frameM ⟨(⟨d.plan, d.mode, d.stack, (⟨0, 0⟩ : Scn), a, d.at_, d.field, d.wire, d.want, d.utf, d.end_⟩ : Dcd), []⟩ (scanByte d.scan b).1.bits).d := ?_; ?_
 rotate_left
 refine have hm2 : (varM ⟨d, []⟩ b a).out = (frameM ⟨(⟨d.plan, d.mode, d.stack, (⟨0, 0⟩ : Scn), a, d.at_, d.field, d.wire, d.want, d.utf, d.end_⟩ : Dcd), []⟩ (scanByte d.scan b).1.bits).out := ?_; ?_
 rotate_left
 exact ⟨(by rw [hm1] <;> rfl), (by rw [hm1, hm2] <;> rfl)⟩
 refine dsp (fun h3 p3 => ?_) fun h3 p3 => ?_
 refine ⟨(scanByte_s d.scan _ (by omega)), dsp (fun h4 p4 => ?_) fun h4 p4 => ?_⟩
 refine ⟨(fail_s (⟨d.plan, d.mode, d.stack, d.scan, a, d.at_, d.field, d.wire, d.want, d.utf, d.end_⟩ : Dcd) _ _), ?_⟩
 refine have hm1 : (varM ⟨d, []⟩ b a).d = (dFail (⟨d.plan, d.mode, d.stack, d.scan, a, d.at_, d.field, d.wire, d.want, d.utf, d.end_⟩ : Dcd) 1 a) := ?_; ?_
 rotate_left
 refine have hm2 : (varM ⟨d, []⟩ b a).out = [failEv 1 a] := ?_; ?_
 rotate_left
 exact ⟨(by rw [hm1] <;> rfl), (by rw [hm1, hm2] <;> rfl)⟩
 refine dsp (fun h5 p5 => ?_) fun h5 p5 => ?_
 refine ⟨fun h6 => have q6 := bnot_t h6; have p6 := of_decide_eq_false q6; ?_, fun h6 => have q6 := bnot_f h6; have p6 := of_decide_eq_true q6; ?_⟩
 refine ⟨(topL_s (⟨d.plan, d.mode, d.stack, (scanByte d.scan b).1, a, d.at_, d.field, d.wire, d.want, d.utf, d.end_⟩ : Dcd) (by first | omega | rfl | (dsimp only; omega))), dsp (fun h7 p7 => ?_) fun h7 p7 => ?_⟩
 refine ⟨(fail_s (⟨d.plan, d.mode, d.stack, (scanByte d.scan b).1, a, d.at_, d.field, d.wire, d.want, d.utf, d.end_⟩ : Dcd) _ _), ?_⟩
 refine have hm1 : (varM ⟨d, []⟩ b a).d = (dFail (⟨d.plan, d.mode, d.stack, (scanByte d.scan b).1, a, d.at_, d.field, d.wire, d.want, d.utf, d.end_⟩ : Dcd) 9 d.at_) := ?_; ?_
 rotate_left
 refine have hm2 : (varM ⟨d, []⟩ b a).out = [failEv 9 d.at_] := ?_; ?_
 rotate_left
 exact ⟨(by rw [hm1] <;> rfl), (by rw [hm1, hm2] <;> rfl)⟩
 refine dsp (fun h8 p8 => ?_) fun h8 p8 => ?_
 refine dsp (fun h9 p9 => ?_) fun h9 p9 => ?_
 refine ⟨(fail_s (⟨d.plan, d.mode, d.stack, (scanByte d.scan b).1, a, d.at_, d.field, d.wire, d.want, d.utf, d.end_⟩ : Dcd) _ _), ?_⟩
 refine have hm1 : (varM ⟨d, []⟩ b a).d = (dFail (⟨d.plan, d.mode, d.stack, (scanByte d.scan b).1, a, d.at_, d.field, d.wire, d.want, d.utf, d.end_⟩ : Dcd) 9 d.at_) := ?_; ?_
 rotate_left
 refine have hm2 : (varM ⟨d, []⟩ b a).out = [failEv 9 d.at_] := ?_; ?_
 rotate_left
 exact ⟨(by rw [hm1] <;> rfl), (by rw [hm1, hm2] <;> rfl)⟩
 refine have hm1 : (varM ⟨d, []⟩ b a).d = (⟨d.plan, d.mode, d.stack, (scanByte d.scan b).1, a, d.at_, d.field, d.wire, d.want, d.utf, d.end_⟩ : Dcd) := ?_; ?_
 rotate_left
 refine have hm2 : (varM ⟨d, []⟩ b a).out = ([] : List Ev) := ?_; ?_
 rotate_left
 exact ⟨(by rw [hm1] <;> rfl), (by rw [hm1, hm2] <;> rfl)⟩
 refine have hm1 : (varM ⟨d, []⟩ b a).d = (⟨d.plan, d.mode, d.stack, (scanByte d.scan b).1, a, d.at_, d.field, d.wire, d.want, d.utf, d.end_⟩ : Dcd) := ?_; ?_
 rotate_left
 refine have hm2 : (varM ⟨d, []⟩ b a).out = ([] : List Ev) := ?_; ?_
 rotate_left
 exact ⟨(by rw [hm1] <;> rfl), (by rw [hm1, hm2] <;> rfl)⟩
 refine dsp (fun h7 p7 => ?_) fun h7 p7 => ?_
 refine dsp (fun h8 p8 => ?_) fun h8 p8 => ?_
 refine ⟨(fail_s (⟨d.plan, d.mode, d.stack, (scanByte d.scan b).1, a, d.at_, d.field, d.wire, d.want, d.utf, d.end_⟩ : Dcd) _ _), ?_⟩
 refine have hm1 : (varM ⟨d, []⟩ b a).d = (dFail (⟨d.plan, d.mode, d.stack, (scanByte d.scan b).1, a, d.at_, d.field, d.wire, d.want, d.utf, d.end_⟩ : Dcd) 9 d.at_) := ?_; ?_
 rotate_left
 refine have hm2 : (varM ⟨d, []⟩ b a).out = [failEv 9 d.at_] := ?_; ?_
 rotate_left
 exact ⟨(by rw [hm1] <;> rfl), (by rw [hm1, hm2] <;> rfl)⟩
 refine have hm1 : (varM ⟨d, []⟩ b a).d = (⟨d.plan, d.mode, d.stack, (scanByte d.scan b).1, a, d.at_, d.field, d.wire, d.want, d.utf, d.end_⟩ : Dcd) := ?_; ?_
 rotate_left
 refine have hm2 : (varM ⟨d, []⟩ b a).out = ([] : List Ev) := ?_; ?_
 rotate_left
 exact ⟨(by rw [hm1] <;> rfl), (by rw [hm1, hm2] <;> rfl)⟩
 refine have hm1 : (varM ⟨d, []⟩ b a).d = (⟨d.plan, d.mode, d.stack, (scanByte d.scan b).1, a, d.at_, d.field, d.wire, d.want, d.utf, d.end_⟩ : Dcd) := ?_; ?_
 rotate_left
 refine have hm2 : (varM ⟨d, []⟩ b a).out = ([] : List Ev) := ?_; ?_
 rotate_left
 exact ⟨(by rw [hm1] <;> rfl), (by rw [hm1, hm2] <;> rfl)⟩
 refine ⟨h2, h3, (tag_s (⟨d.plan, d.mode, d.stack, (⟨0, 0⟩ : Scn), a, d.at_, d.field, d.wire, d.want, d.utf, d.end_⟩ : Dcd) _ ((by first | (exact hp1.lv) | (exact levelsOk_same hp1.lv rfl rfl))) (by omega)), ?_⟩
 refine have hm1 : (varM ⟨d, []⟩ b a).d = (tagM ⟨(⟨d.plan, d.mode, d.stack, (⟨0, 0⟩ : Scn), a, d.at_, d.field, d.wire, d.want, d.utf, d.end_⟩ : Dcd), []⟩ (scanByte d.scan b).1.bits).d := ?_; ?_
 rotate_left
 refine have hm2 : (varM ⟨d, []⟩ b a).out = (tagM ⟨(⟨d.plan, d.mode, d.stack, (⟨0, 0⟩ : Scn), a, d.at_, d.field, d.wire, d.want, d.utf, d.end_⟩ : Dcd), []⟩ (scanByte d.scan b).1.bits).out := ?_; ?_
 rotate_left
 exact ⟨(by rw [hm1] <;> rfl), (by rw [hm1, hm2] <;> rfl)⟩
 refine dsp (fun h4 p4 => ?_) fun h4 p4 => ?_
 refine ⟨(scanByte_s d.scan _ (by omega)), dsp (fun h5 p5 => ?_) fun h5 p5 => ?_⟩
 refine ⟨(fail_s (⟨d.plan, d.mode, d.stack, d.scan, a, d.at_, d.field, d.wire, d.want, d.utf, d.end_⟩ : Dcd) _ _), ?_⟩
 refine have hm1 : (varM ⟨d, []⟩ b a).d = (dFail (⟨d.plan, d.mode, d.stack, d.scan, a, d.at_, d.field, d.wire, d.want, d.utf, d.end_⟩ : Dcd) 1 a) := ?_; ?_
 rotate_left
 refine have hm2 : (varM ⟨d, []⟩ b a).out = [failEv 1 a] := ?_; ?_
 rotate_left
 exact ⟨(by rw [hm1] <;> rfl), (by rw [hm1, hm2] <;> rfl)⟩
 refine dsp (fun h6 p6 => ?_) fun h6 p6 => ?_
 refine ⟨fun h7 => have q7 := bnot_t h7; have p7 := of_decide_eq_false q7; ?_, fun h7 => have q7 := bnot_f h7; have p7 := of_decide_eq_true q7; ?_⟩
 refine ⟨(topL_s (⟨d.plan, d.mode, d.stack, (scanByte d.scan b).1, a, d.at_, d.field, d.wire, d.want, d.utf, d.end_⟩ : Dcd) (by first | omega | rfl | (dsimp only; omega))), dsp (fun h8 p8 => ?_) fun h8 p8 => ?_⟩
 refine ⟨(fail_s (⟨d.plan, d.mode, d.stack, (scanByte d.scan b).1, a, d.at_, d.field, d.wire, d.want, d.utf, d.end_⟩ : Dcd) _ _), ?_⟩
 refine have hm1 : (varM ⟨d, []⟩ b a).d = (dFail (⟨d.plan, d.mode, d.stack, (scanByte d.scan b).1, a, d.at_, d.field, d.wire, d.want, d.utf, d.end_⟩ : Dcd) 9 d.at_) := ?_; ?_
 rotate_left
 refine have hm2 : (varM ⟨d, []⟩ b a).out = [failEv 9 d.at_] := ?_; ?_
 rotate_left
 exact ⟨(by rw [hm1] <;> rfl), (by rw [hm1, hm2] <;> rfl)⟩
 refine dsp (fun h9 p9 => ?_) fun h9 p9 => ?_
 refine dsp (fun h10 p10 => ?_) fun h10 p10 => ?_
 refine ⟨(fail_s (⟨d.plan, d.mode, d.stack, (scanByte d.scan b).1, a, d.at_, d.field, d.wire, d.want, d.utf, d.end_⟩ : Dcd) _ _), ?_⟩
 refine have hm1 : (varM ⟨d, []⟩ b a).d = (dFail (⟨d.plan, d.mode, d.stack, (scanByte d.scan b).1, a, d.at_, d.field, d.wire, d.want, d.utf, d.end_⟩ : Dcd) 9 d.at_) := ?_; ?_
 rotate_left
 refine have hm2 : (varM ⟨d, []⟩ b a).out = [failEv 9 d.at_] := ?_; ?_
 rotate_left
 exact ⟨(by rw [hm1] <;> rfl), (by rw [hm1, hm2] <;> rfl)⟩
 refine have hm1 : (varM ⟨d, []⟩ b a).d = (⟨d.plan, d.mode, d.stack, (scanByte d.scan b).1, a, d.at_, d.field, d.wire, d.want, d.utf, d.end_⟩ : Dcd) := ?_; ?_
 rotate_left
 refine have hm2 : (varM ⟨d, []⟩ b a).out = ([] : List Ev) := ?_; ?_
 rotate_left
 exact ⟨(by rw [hm1] <;> rfl), (by rw [hm1, hm2] <;> rfl)⟩
 refine have hm1 : (varM ⟨d, []⟩ b a).d = (⟨d.plan, d.mode, d.stack, (scanByte d.scan b).1, a, d.at_, d.field, d.wire, d.want, d.utf, d.end_⟩ : Dcd) := ?_; ?_
 rotate_left
 refine have hm2 : (varM ⟨d, []⟩ b a).out = ([] : List Ev) := ?_; ?_
 rotate_left
 exact ⟨(by rw [hm1] <;> rfl), (by rw [hm1, hm2] <;> rfl)⟩
 refine dsp (fun h8 p8 => ?_) fun h8 p8 => ?_
 refine dsp (fun h9 p9 => ?_) fun h9 p9 => ?_
 refine ⟨(fail_s (⟨d.plan, d.mode, d.stack, (scanByte d.scan b).1, a, d.at_, d.field, d.wire, d.want, d.utf, d.end_⟩ : Dcd) _ _), ?_⟩
 refine have hm1 : (varM ⟨d, []⟩ b a).d = (dFail (⟨d.plan, d.mode, d.stack, (scanByte d.scan b).1, a, d.at_, d.field, d.wire, d.want, d.utf, d.end_⟩ : Dcd) 9 d.at_) := ?_; ?_
 rotate_left
 refine have hm2 : (varM ⟨d, []⟩ b a).out = [failEv 9 d.at_] := ?_; ?_
 rotate_left
 exact ⟨(by rw [hm1] <;> rfl), (by rw [hm1, hm2] <;> rfl)⟩
 refine have hm1 : (varM ⟨d, []⟩ b a).d = (⟨d.plan, d.mode, d.stack, (scanByte d.scan b).1, a, d.at_, d.field, d.wire, d.want, d.utf, d.end_⟩ : Dcd) := ?_; ?_
 rotate_left
 refine have hm2 : (varM ⟨d, []⟩ b a).out = ([] : List Ev) := ?_; ?_
 rotate_left
 exact ⟨(by rw [hm1] <;> rfl), (by rw [hm1, hm2] <;> rfl)⟩
 refine have hm1 : (varM ⟨d, []⟩ b a).d = (⟨d.plan, d.mode, d.stack, (scanByte d.scan b).1, a, d.at_, d.field, d.wire, d.want, d.utf, d.end_⟩ : Dcd) := ?_; ?_
 rotate_left
 refine have hm2 : (varM ⟨d, []⟩ b a).out = ([] : List Ev) := ?_; ?_
 rotate_left
 exact ⟨(by rw [hm1] <;> rfl), (by rw [hm1, hm2] <;> rfl)⟩
 refine ⟨h2, h3, h4, (long_d (⟨d.plan, d.mode, d.stack, (⟨0, 0⟩ : Scn), a, d.at_, d.field, d.wire, d.want, d.utf, d.end_⟩ : Dcd) _ ((by first | (exact hp1.lv) | (exact levelsOk_same hp1.lv rfl rfl))) (by omega) (hp1.kn)), ?_⟩
 refine have hm1 : (varM ⟨d, []⟩ b a).d = (longM ⟨(⟨d.plan, d.mode, d.stack, (⟨0, 0⟩ : Scn), a, d.at_, d.field, d.wire, d.want, d.utf, d.end_⟩ : Dcd), []⟩ (scanByte d.scan b).1.bits).d := ?_; ?_
 rotate_left
 refine have hm2 : (varM ⟨d, []⟩ b a).out = (longM ⟨(⟨d.plan, d.mode, d.stack, (⟨0, 0⟩ : Scn), a, d.at_, d.field, d.wire, d.want, d.utf, d.end_⟩ : Dcd), []⟩ (scanByte d.scan b).1.bits).out := ?_; ?_
 rotate_left
 exact ⟨(by rw [hm1] <;> rfl), (by rw [hm1, hm2] <;> rfl)⟩
 refine ⟨(scanByte_s d.scan _ (by omega)), dsp (fun h5 p5 => ?_) fun h5 p5 => ?_⟩
 refine ⟨(fail_s d _ _), ?_⟩
 refine have hm1 : (varM ⟨d, []⟩ b a).d = (dFail d 1 a) := ?_; ?_
 rotate_left
 refine have hm2 : (varM ⟨d, []⟩ b a).out = [failEv 1 a] := ?_; ?_
 rotate_left
 exact ⟨(by rw [hm1] <;> rfl), (by rw [hm1, hm2] <;> rfl)⟩
 refine dsp (fun h6 p6 => ?_) fun h6 p6 => ?_
 refine ⟨fun h7 => have q7 := bnot_t h7; have p7 := of_decide_eq_false q7; ?_, fun h7 => have q7 := bnot_f h7; have p7 := of_decide_eq_true q7; ?_⟩
 refine ⟨(topL_s (⟨d.plan, d.mode, d.stack, (scanByte d.scan b).1, d.start, d.at_, d.field, d.wire, d.want, d.utf, d.end_⟩ : Dcd) (by first | omega | rfl | (dsimp only; omega))), dsp (fun h8 p8 => ?_) fun h8 p8 => ?_⟩
 refine ⟨(fail_s (⟨d.plan, d.mode, d.stack, (scanByte d.scan b).1, d.start, d.at_, d.field, d.wire, d.want, d.utf, d.end_⟩ : Dcd) _ _), ?_⟩
 refine have hm1 : (varM ⟨d, []⟩ b a).d = (dFail (⟨d.plan, d.mode, d.stack, (scanByte d.scan b).1, d.start, d.at_, d.field, d.wire, d.want, d.utf, d.end_⟩ : Dcd) 9 d.at_) := ?_; ?_
 rotate_left
 refine have hm2 : (varM ⟨d, []⟩ b a).out = [failEv 9 d.at_] := ?_; ?_
 rotate_left
 exact ⟨(by rw [hm1] <;> rfl), (by rw [hm1, hm2] <;> rfl)⟩
 refine dsp (fun h9 p9 => ?_) fun h9 p9 => ?_
 refine dsp (fun h10 p10 => ?_) fun h10 p10 => ?_
 refine ⟨(fail_s (⟨d.plan, d.mode, d.stack, (scanByte d.scan b).1, d.start, d.at_, d.field, d.wire, d.want, d.utf, d.end_⟩ : Dcd) _ _), ?_⟩
 refine have hm1 : (varM ⟨d, []⟩ b a).d = (dFail (⟨d.plan, d.mode, d.stack, (scanByte d.scan b).1, d.start, d.at_, d.field, d.wire, d.want, d.utf, d.end_⟩ : Dcd) 9 d.at_) := ?_; ?_
 rotate_left
 refine have hm2 : (varM ⟨d, []⟩ b a).out = [failEv 9 d.at_] := ?_; ?_
 rotate_left
 exact ⟨(by rw [hm1] <;> rfl), (by rw [hm1, hm2] <;> rfl)⟩
 refine have hm1 : (varM ⟨d, []⟩ b a).d = (⟨d.plan, d.mode, d.stack, (scanByte d.scan b).1, d.start, d.at_, d.field, d.wire, d.want, d.utf, d.end_⟩ : Dcd) := ?_; ?_
 rotate_left
 refine have hm2 : (varM ⟨d, []⟩ b a).out = ([] : List Ev) := ?_; ?_
 rotate_left
 exact ⟨(by rw [hm1] <;> rfl), (by rw [hm1, hm2] <;> rfl)⟩
 refine have hm1 : (varM ⟨d, []⟩ b a).d = (⟨d.plan, d.mode, d.stack, (scanByte d.scan b).1, d.start, d.at_, d.field, d.wire, d.want, d.utf, d.end_⟩ : Dcd) := ?_; ?_
 rotate_left
 refine have hm2 : (varM ⟨d, []⟩ b a).out = ([] : List Ev) := ?_; ?_
 rotate_left
 exact ⟨(by rw [hm1] <;> rfl), (by rw [hm1, hm2] <;> rfl)⟩
 refine dsp (fun h8 p8 => ?_) fun h8 p8 => ?_
 refine dsp (fun h9 p9 => ?_) fun h9 p9 => ?_
 refine ⟨(fail_s (⟨d.plan, d.mode, d.stack, (scanByte d.scan b).1, d.start, d.at_, d.field, d.wire, d.want, d.utf, d.end_⟩ : Dcd) _ _), ?_⟩
 refine have hm1 : (varM ⟨d, []⟩ b a).d = (dFail (⟨d.plan, d.mode, d.stack, (scanByte d.scan b).1, d.start, d.at_, d.field, d.wire, d.want, d.utf, d.end_⟩ : Dcd) 9 d.at_) := ?_; ?_
 rotate_left
 refine have hm2 : (varM ⟨d, []⟩ b a).out = [failEv 9 d.at_] := ?_; ?_
 rotate_left
 exact ⟨(by rw [hm1] <;> rfl), (by rw [hm1, hm2] <;> rfl)⟩
 refine have hm1 : (varM ⟨d, []⟩ b a).d = (⟨d.plan, d.mode, d.stack, (scanByte d.scan b).1, d.start, d.at_, d.field, d.wire, d.want, d.utf, d.end_⟩ : Dcd) := ?_; ?_
 rotate_left
 refine have hm2 : (varM ⟨d, []⟩ b a).out = ([] : List Ev) := ?_; ?_
 rotate_left
 exact ⟨(by rw [hm1] <;> rfl), (by rw [hm1, hm2] <;> rfl)⟩
 refine have hm1 : (varM ⟨d, []⟩ b a).d = (⟨d.plan, d.mode, d.stack, (scanByte d.scan b).1, d.start, d.at_, d.field, d.wire, d.want, d.utf, d.end_⟩ : Dcd) := ?_; ?_
 rotate_left
 refine have hm2 : (varM ⟨d, []⟩ b a).out = ([] : List Ev) := ?_; ?_
 rotate_left
 exact ⟨(by rw [hm1] <;> rfl), (by rw [hm1, hm2] <;> rfl)⟩
 refine ⟨h2, h3, h4, (num16_s (⟨d.plan, d.mode, d.stack, (⟨0, 0⟩ : Scn), d.start, d.at_, d.field, d.wire, d.want, d.utf, d.end_⟩ : Dcd) _ (by first | omega | rfl | (dsimp only; omega)) (by omega)), ?_⟩
 refine have hm1 : (varM ⟨d, []⟩ b a).d = (settleM (valueM ⟨(⟨d.plan, d.mode, d.stack, (⟨0, 0⟩ : Scn), d.start, d.at_, d.field, d.wire, d.want, d.utf, d.end_⟩ : Dcd), []⟩ (scanByte d.scan b).1.bits)).d := ?_; ?_
 rotate_left
 refine have hm2 : (varM ⟨d, []⟩ b a).out = (settleM (valueM ⟨(⟨d.plan, d.mode, d.stack, (⟨0, 0⟩ : Scn), d.start, d.at_, d.field, d.wire, d.want, d.utf, d.end_⟩ : Dcd), []⟩ (scanByte d.scan b).1.bits)).out := ?_; ?_
 rotate_left
 exact ⟨(by rw [hm1] <;> rfl), (by rw [hm1, hm2] <;> rfl)⟩
 refine ⟨(scanByte_s d.scan _ (by omega)), dsp (fun h2 p2 => ?_) fun h2 p2 => ?_⟩
 refine ⟨(fail_s d _ _), ?_⟩
 refine have hm1 : (varM ⟨d, []⟩ b a).d = (dFail d 1 a) := ?_; ?_
 rotate_left
 refine have hm2 : (varM ⟨d, []⟩ b a).out = [failEv 1 a] := ?_; ?_
 rotate_left
 exact ⟨(by rw [hm1] <;> rfl), (by rw [hm1, hm2] <;> rfl)⟩
 refine dsp (fun h3 p3 => ?_) fun h3 p3 => ?_
 refine ⟨fun h4 => have q4 := bnot_t h4; have p4 := of_decide_eq_false q4; ?_, fun h4 => have q4 := bnot_f h4; have p4 := of_decide_eq_true q4; ?_⟩
 refine ⟨(topL_s (⟨d.plan, d.mode, d.stack, (scanByte d.scan b).1, d.start, d.at_, d.field, d.wire, d.want, d.utf, d.end_⟩ : Dcd) (by first | omega | rfl | (dsimp only; omega))), dsp (fun h5 p5 => ?_) fun h5 p5 => ?_⟩
 refine ⟨(fail_s (⟨d.plan, d.mode, d.stack, (scanByte d.scan b).1, d.start, d.at_, d.field, d.wire, d.want, d.utf, d.end_⟩ : Dcd) _ _), ?_⟩
 refine have hm1 : (varM ⟨d, []⟩ b a).d = (dFail (⟨d.plan, d.mode, d.stack, (scanByte d.scan b).1, d.start, d.at_, d.field, d.wire, d.want, d.utf, d.end_⟩ : Dcd) 9 d.at_) := ?_; ?_
 rotate_left
 refine have hm2 : (varM ⟨d, []⟩ b a).out = [failEv 9 d.at_] := ?_; ?_
 rotate_left
 exact ⟨(by rw [hm1] <;> rfl), (by rw [hm1, hm2] <;> rfl)⟩
 refine dsp (fun h6 p6 => ?_) fun h6 p6 => ?_
 refine dsp (fun h7 p7 => ?_) fun h7 p7 => ?_
 refine ⟨(fail_s (⟨d.plan, d.mode, d.stack, (scanByte d.scan b).1, d.start, d.at_, d.field, d.wire, d.want, d.utf, d.end_⟩ : Dcd) _ _), ?_⟩
 refine have hm1 : (varM ⟨d, []⟩ b a).d = (dFail (⟨d.plan, d.mode, d.stack, (scanByte d.scan b).1, d.start, d.at_, d.field, d.wire, d.want, d.utf, d.end_⟩ : Dcd) 9 d.at_) := ?_; ?_
 rotate_left
 refine have hm2 : (varM ⟨d, []⟩ b a).out = [failEv 9 d.at_] := ?_; ?_
 rotate_left
 exact ⟨(by rw [hm1] <;> rfl), (by rw [hm1, hm2] <;> rfl)⟩
 refine have hm1 : (varM ⟨d, []⟩ b a).d = (⟨d.plan, d.mode, d.stack, (scanByte d.scan b).1, d.start, d.at_, d.field, d.wire, d.want, d.utf, d.end_⟩ : Dcd) := ?_; ?_
 rotate_left
 refine have hm2 : (varM ⟨d, []⟩ b a).out = ([] : List Ev) := ?_; ?_
 rotate_left
 exact ⟨(by rw [hm1] <;> rfl), (by rw [hm1, hm2] <;> rfl)⟩
 refine have hm1 : (varM ⟨d, []⟩ b a).d = (⟨d.plan, d.mode, d.stack, (scanByte d.scan b).1, d.start, d.at_, d.field, d.wire, d.want, d.utf, d.end_⟩ : Dcd) := ?_; ?_
 rotate_left
 refine have hm2 : (varM ⟨d, []⟩ b a).out = ([] : List Ev) := ?_; ?_
 rotate_left
 exact ⟨(by rw [hm1] <;> rfl), (by rw [hm1, hm2] <;> rfl)⟩
 refine dsp (fun h5 p5 => ?_) fun h5 p5 => ?_
 refine dsp (fun h6 p6 => ?_) fun h6 p6 => ?_
 refine ⟨(fail_s (⟨d.plan, d.mode, d.stack, (scanByte d.scan b).1, d.start, d.at_, d.field, d.wire, d.want, d.utf, d.end_⟩ : Dcd) _ _), ?_⟩
 refine have hm1 : (varM ⟨d, []⟩ b a).d = (dFail (⟨d.plan, d.mode, d.stack, (scanByte d.scan b).1, d.start, d.at_, d.field, d.wire, d.want, d.utf, d.end_⟩ : Dcd) 9 d.at_) := ?_; ?_
 rotate_left
 refine have hm2 : (varM ⟨d, []⟩ b a).out = [failEv 9 d.at_] := ?_; ?_
 rotate_left
 exact ⟨(by rw [hm1] <;> rfl), (by rw [hm1, hm2] <;> rfl)⟩
 refine have hm1 : (varM ⟨d, []⟩ b a).d = (⟨d.plan, d.mode, d.stack, (scanByte d.scan b).1, d.start, d.at_, d.field, d.wire, d.want, d.utf, d.end_⟩ : Dcd) := ?_; ?_
 rotate_left
 refine have hm2 : (varM ⟨d, []⟩ b a).out = ([] : List Ev) := ?_; ?_
 rotate_left
 exact ⟨(by rw [hm1] <;> rfl), (by rw [hm1, hm2] <;> rfl)⟩
 refine have hm1 : (varM ⟨d, []⟩ b a).d = (⟨d.plan, d.mode, d.stack, (scanByte d.scan b).1, d.start, d.at_, d.field, d.wire, d.want, d.utf, d.end_⟩ : Dcd) := ?_; ?_
 rotate_left
 refine have hm2 : (varM ⟨d, []⟩ b a).out = ([] : List Ev) := ?_; ?_
 rotate_left
 exact ⟨(by rw [hm1] <;> rfl), (by rw [hm1, hm2] <;> rfl)⟩
 refine dsp (fun h4 p4 => ?_) fun h4 p4 => ?_
 refine ⟨(frame_s (⟨d.plan, d.mode, d.stack, (⟨0, 0⟩ : Scn), d.start, d.at_, d.field, d.wire, d.want, d.utf, d.end_⟩ : Dcd) _ ((by first | (exact hp1.lv) | (exact levelsOk_same hp1.lv rfl rfl))) (by omega)), ?_⟩
 refine have hm1 : (varM ⟨d, []⟩ b a).d = (frameM ⟨(⟨d.plan, d.mode, d.stack, (⟨0, 0⟩ : Scn), d.start, d.at_, d.field, d.wire, d.want, d.utf, d.end_⟩ : Dcd), []⟩ (scanByte d.scan b).1.bits).d := ?_; ?_
 rotate_left
 refine have hm2 : (varM ⟨d, []⟩ b a).out = (frameM ⟨(⟨d.plan, d.mode, d.stack, (⟨0, 0⟩ : Scn), d.start, d.at_, d.field, d.wire, d.want, d.utf, d.end_⟩ : Dcd), []⟩ (scanByte d.scan b).1.bits).out := ?_; ?_
 rotate_left
 exact ⟨(by rw [hm1] <;> rfl), (by rw [hm1, hm2] <;> rfl)⟩
 refine dsp (fun h5 p5 => ?_) fun h5 p5 => ?_
 refine ⟨(tag_s (⟨d.plan, d.mode, d.stack, (⟨0, 0⟩ : Scn), d.start, d.at_, d.field, d.wire, d.want, d.utf, d.end_⟩ : Dcd) _ ((by first | (exact hp1.lv) | (exact levelsOk_same hp1.lv rfl rfl))) (by omega)), ?_⟩
 refine have hm1 : (varM ⟨d, []⟩ b a).d = (tagM ⟨(⟨d.plan, d.mode, d.stack, (⟨0, 0⟩ : Scn), d.start, d.at_, d.field, d.wire, d.want, d.utf, d.end_⟩ : Dcd), []⟩ (scanByte d.scan b).1.bits).d := ?_; ?_
 rotate_left
 refine have hm2 : (varM ⟨d, []⟩ b a).out = (tagM ⟨(⟨d.plan, d.mode, d.stack, (⟨0, 0⟩ : Scn), d.start, d.at_, d.field, d.wire, d.want, d.utf, d.end_⟩ : Dcd), []⟩ (scanByte d.scan b).1.bits).out := ?_; ?_
 rotate_left
 exact ⟨(by rw [hm1] <;> rfl), (by rw [hm1, hm2] <;> rfl)⟩
 refine dsp (fun h6 p6 => ?_) fun h6 p6 => ?_
 refine ⟨(long_d (⟨d.plan, d.mode, d.stack, (⟨0, 0⟩ : Scn), d.start, d.at_, d.field, d.wire, d.want, d.utf, d.end_⟩ : Dcd) _ ((by first | (exact hp1.lv) | (exact levelsOk_same hp1.lv rfl rfl))) (by omega) (hp1.kn)), ?_⟩
 refine have hm1 : (varM ⟨d, []⟩ b a).d = (longM ⟨(⟨d.plan, d.mode, d.stack, (⟨0, 0⟩ : Scn), d.start, d.at_, d.field, d.wire, d.want, d.utf, d.end_⟩ : Dcd), []⟩ (scanByte d.scan b).1.bits).d := ?_; ?_
 rotate_left
 refine have hm2 : (varM ⟨d, []⟩ b a).out = (longM ⟨(⟨d.plan, d.mode, d.stack, (⟨0, 0⟩ : Scn), d.start, d.at_, d.field, d.wire, d.want, d.utf, d.end_⟩ : Dcd), []⟩ (scanByte d.scan b).1.bits).out := ?_; ?_
 rotate_left
 exact ⟨(by rw [hm1] <;> rfl), (by rw [hm1, hm2] <;> rfl)⟩
 refine ⟨(num16_s (⟨d.plan, d.mode, d.stack, (⟨0, 0⟩ : Scn), d.start, d.at_, d.field, d.wire, d.want, d.utf, d.end_⟩ : Dcd) _ (by first | omega | rfl | (dsimp only; omega)) (by omega)), ?_⟩
 refine have hm1 : (varM ⟨d, []⟩ b a).d = (settleM (valueM ⟨(⟨d.plan, d.mode, d.stack, (⟨0, 0⟩ : Scn), d.start, d.at_, d.field, d.wire, d.want, d.utf, d.end_⟩ : Dcd), []⟩ (scanByte d.scan b).1.bits)).d := ?_; ?_
 rotate_left
 refine have hm2 : (varM ⟨d, []⟩ b a).out = (settleM (valueM ⟨(⟨d.plan, d.mode, d.stack, (⟨0, 0⟩ : Scn), d.start, d.at_, d.field, d.wire, d.want, d.utf, d.end_⟩ : Dcd), []⟩ (scanByte d.scan b).1.bits)).out := ?_; ?_
 rotate_left
 exact ⟨(by rw [hm1] <;> rfl), (by rw [hm1, hm2] <;> rfl)⟩
 all_goals first | (simp_all [varM, startM, dScan, moreM, mFail, dFail, scn0]; done) | ((unfold varM; simp_all [startM, dScan, moreM, mFail, dFail, scn0]; done)) | (grind [varM, startM, dScan, moreM, mFail, dFail, scn0])
set_option maxHeartbeats 1600000 in
theorem fix16_s (d : Dcd) (b : Int) (w : Int) (hp1 : MW d) (hp2 : (0 : Int) ≤ b ∧ b ≤ 255) (hp3 : w = widthD d) (hp4 : (d).mode = 8 → runs (d).field = true) : Fun Tryz.prog 111 [.agg (oDcd0_5 0 1 d), vI b, vI w] [.tree d.plan.shapes, .lst .lev d.stack] (.tup [.agg (oDcd0_5 2 3 (fixM ⟨d, []⟩ b).d), vO 4]) [.dead, .dead, .tree (fixM ⟨d, []⟩ b).d.plan.shapes, .lst .lev (fixM ⟨d, []⟩ b).d.stack, .lst .ev (fixM ⟨d, []⟩ b).out] := by
 have hN : bigN = 274877906944 := rfl
 have hlv := levelsOk_b hp1.lv
 have hpt := planOk_t hlv.1
 have htb := topL_b hp1.lv
 have hbb := hp1.b0
 have hat := hp1.at_
 have hwt := hp1.want
 have hwd := widthD_b d
 have hfb := fixByte_b (b := b) hbb
 refine fun_ofw Tryz.func111 (by kernel_rfl) (by kernel_rfl) (w := let zi : Int → C := .int .i64; let z1 : List C := [zi d.start, zi d.at_, zi d.field.number, zi d.field.kind, .bool d.field.rep, .bool d.field.packed, zi d.field.msg, zi d.wire, zi d.want, zi d.utf.want, zi d.utf.low, zi d.utf.high, zi d.end_.kind, zi d.end_.field, .int .u64 d.end_.bits, zi d.end_.len, .str d.end_.text, zi d.end_.code, zi d.end_.at_]; let z6 := fixByte d.scan b; let z9 := (⟨d.plan, d.mode, d.stack, (⟨0, 0⟩ : Scn), d.start, d.at_, d.field, d.wire, d.want, d.utf, d.end_⟩ : Dcd); let z2 := settleM (valueM ⟨z9, []⟩ z6.bits); let z3 := dFail z9 9 d.at_; let z4 : List Blk := [.dead, .dead, .tree z2.d.plan.shapes, .lst .lev z2.d.stack, .lst .ev z2.out]; let z7 := oDcd0_5 2 3 z2.d; let z10 : List Blk := [.dead, .dead, .tree z3.plan.shapes, .lst .lev z3.stack, .lst .ev [failEv 9 d.at_]]; let z11 := numEv d.field z6.bits; let z12 := (.tup [.agg z7, vO 4] : S); let z13 := fixM ⟨d, []⟩ b; let z5 : List Blk := [.dead, .dead, .tree z13.d.plan.shapes, .lst .lev z13.d.stack, .lst .ev z13.out]; let z8 := oDcd0_5 2 3 z13.d; (.seg [.call [] (.v (.agg (cScn z6))) []] (.br (.seg [.ty .ev, .at 0, .cut 3 0, .cut 3 5] (.leaf () [0, 1, 6, 7, 5])) (.br (.br (.br (.seg [.call [] (.v (.agg (cEv z11))) [], .call [0, 1] (.tup [.agg (oDcd0_5 2 3 z3), vO 4]) z10, .tree (.first 0 (.first 1 (.first 3 (.one 2 (.one 4 (.one 5 (.first 6 (.done)))))))) 5 [8], .ty .ev, .ty .ev] (.leaf () [0, 1, 6, 7, 11])) (.seg [.call [0, 1] (.tup [.agg z7, vO 4]) z4] (.leaf () [0, 1, 5, 6, 7]))) (.seg [.call [0, 1] (.tup [.agg z7, vO 4]) z4] (.leaf () [0, 1, 5, 6, 7]))) (.seg [.call [0, 1] (.tup [.agg z7, vO 4]) z4] (.leaf () [0, 1, 5, 6, 7])))), (Fun Tryz.prog 157 [.agg (cScn d.scan), vI b] [] (.v (.agg (cScn z6))) []) ∧ ((decide (z6.have_ < w)) = true → (.tup [.agg (.own 2 :: zi d.plan.root :: zi d.plan.deep :: zi d.plan.most :: zi d.mode :: .own 3 :: .int .u64 z6.bits :: zi z6.have_ :: z1), vO 4] : S) = .tup [.agg z8, vO 4] ∧ ([.dead, .dead, .tree d.plan.shapes, .lst .lev d.stack, .lst .ev ([] : List Ev)] : List Blk) = z5) ∧ ((decide (z6.have_ < w)) = false → ((decide (d.mode = 8)) = true → ((decide (0 < d.want)) = true → ((decide (d.want < w)) = true → (Fun Tryz.prog 158 [.agg (cFld d.field), .c (.int .u64 z6.bits)] [] (.v (.agg (cEv z11))) []) ∧ (Fun Tryz.prog 109 [.agg (.own 0 :: zi d.plan.root :: zi d.plan.deep :: zi d.plan.most :: zi d.mode :: .own 1 :: .int .u64 0 :: zi 0 :: z1), vI 9, vI d.at_] [.tree d.plan.shapes, .lst .lev d.stack] (.tup [.agg (oDcd0_5 2 3 z3), vO 4]) z10) ∧ (List.length [z11] + List.length [failEv 9 d.at_] ≤ bigN) ∧ (.tup [.agg (oDcd0_5 2 3 z3), vO 4] : S) = .tup [.agg z8, vO 4] ∧ ([.dead, .dead, .tree z3.plan.shapes, .lst .lev z3.stack, .lst .ev ([z11] ++ [failEv 9 d.at_])] : List Blk) = z5) ∧ ((decide (d.want < w)) = false → (Fun Tryz.prog 159 [.agg (.own 0 :: zi d.plan.root :: zi d.plan.deep :: zi d.plan.most :: zi d.mode :: .own 1 :: .int .u64 0 :: zi 0 :: z1), .c (.int .u64 z6.bits)] [.tree d.plan.shapes, .lst .lev d.stack] (.tup [.agg z7, vO 4]) z4) ∧ z12 = .tup [.agg z8, vO 4] ∧ (z4 : List Blk) = z5)) ∧ ((decide (0 < d.want)) = false → (Fun Tryz.prog 159 [.agg (.own 0 :: zi d.plan.root :: zi d.plan.deep :: zi d.plan.most :: zi d.mode :: .own 1 :: .int .u64 0 :: zi 0 :: z1), .c (.int .u64 z6.bits)] [.tree d.plan.shapes, .lst .lev d.stack] (.tup [.agg z7, vO 4]) z4) ∧ z12 = .tup [.agg z8, vO 4] ∧ (z4 : List Blk) = z5)) ∧ ((decide (d.mode = 8)) = false → (Fun Tryz.prog 159 [.agg (.own 0 :: zi d.plan.root :: zi d.plan.deep :: zi d.plan.most :: zi d.mode :: .own 1 :: .int .u64 0 :: zi 0 :: z1), .c (.int .u64 z6.bits)] [.tree d.plan.shapes, .lst .lev d.stack] (.tup [.agg z7, vO 4]) z4) ∧ z12 = .tup [.agg z8, vO 4] ∧ (z4 : List Blk) = z5)))) (by kernel_rfl) ?_
 refine ⟨(fixByte_s d.scan _), dsp (fun h1 p1 => ?_) fun h1 p1 => ?_⟩
 refine have hm1 : (fixM ⟨d, []⟩ b).d = (⟨d.plan, d.mode, d.stack, (fixByte d.scan b), d.start, d.at_, d.field, d.wire, d.want, d.utf, d.end_⟩ : Dcd) := ?_; ?_
 rotate_left
 refine have hm2 : (fixM ⟨d, []⟩ b).out = ([] : List Ev) := ?_; ?_
 rotate_left
 exact ⟨(by rw [hm1] <;> rfl), (by rw [hm1, hm2] <;> rfl)⟩
 refine dsp (fun h2 p2 => ?_) fun h2 p2 => ?_
 refine dsp (fun h3 p3 => ?_) fun h3 p3 => ?_
 refine dsp (fun h4 p4 => ?_) fun h4 p4 => ?_
 refine ⟨(numEvent_s d.field _ (by omega)), (fail_s (⟨d.plan, d.mode, d.stack, (⟨0, 0⟩ : Scn), d.start, d.at_, d.field, d.wire, d.want, d.utf, d.end_⟩ : Dcd) _ _), (by simp only [List.length_cons, List.length_nil]; omega), ?_⟩
 refine have hm1 : (fixM ⟨d, []⟩ b).d = (dFail (⟨d.plan, d.mode, d.stack, (⟨0, 0⟩ : Scn), d.start, d.at_, d.field, d.wire, d.want, d.utf, d.end_⟩ : Dcd) 9 d.at_) := ?_; ?_
 rotate_left
 refine have hm2 : (fixM ⟨d, []⟩ b).out = [(numEv d.field (fixByte d.scan b).bits)] ++ [failEv 9 d.at_] := ?_; ?_
 rotate_left
 exact ⟨(by rw [hm1] <;> rfl), (by rw [hm1, hm2] <;> rfl)⟩
 refine ⟨(num16_s (⟨d.plan, d.mode, d.stack, (⟨0, 0⟩ : Scn), d.start, d.at_, d.field, d.wire, d.want, d.utf, d.end_⟩ : Dcd) _ (by first | omega | rfl | (dsimp only; omega)) (by omega)), ?_⟩
 refine have hm1 : (fixM ⟨d, []⟩ b).d = (settleM (valueM ⟨(⟨d.plan, d.mode, d.stack, (⟨0, 0⟩ : Scn), d.start, d.at_, d.field, d.wire, d.want, d.utf, d.end_⟩ : Dcd), []⟩ (fixByte d.scan b).bits)).d := ?_; ?_
 rotate_left
 refine have hm2 : (fixM ⟨d, []⟩ b).out = (settleM (valueM ⟨(⟨d.plan, d.mode, d.stack, (⟨0, 0⟩ : Scn), d.start, d.at_, d.field, d.wire, d.want, d.utf, d.end_⟩ : Dcd), []⟩ (fixByte d.scan b).bits)).out := ?_; ?_
 rotate_left
 exact ⟨(by rw [hm1] <;> rfl), (by rw [hm1, hm2] <;> rfl)⟩
 refine ⟨(num16_s (⟨d.plan, d.mode, d.stack, (⟨0, 0⟩ : Scn), d.start, d.at_, d.field, d.wire, d.want, d.utf, d.end_⟩ : Dcd) _ (by first | omega | rfl | (dsimp only; omega)) (by omega)), ?_⟩
 refine have hm1 : (fixM ⟨d, []⟩ b).d = (settleM (valueM ⟨(⟨d.plan, d.mode, d.stack, (⟨0, 0⟩ : Scn), d.start, d.at_, d.field, d.wire, d.want, d.utf, d.end_⟩ : Dcd), []⟩ (fixByte d.scan b).bits)).d := ?_; ?_
 rotate_left
 refine have hm2 : (fixM ⟨d, []⟩ b).out = (settleM (valueM ⟨(⟨d.plan, d.mode, d.stack, (⟨0, 0⟩ : Scn), d.start, d.at_, d.field, d.wire, d.want, d.utf, d.end_⟩ : Dcd), []⟩ (fixByte d.scan b).bits)).out := ?_; ?_
 rotate_left
 exact ⟨(by rw [hm1] <;> rfl), (by rw [hm1, hm2] <;> rfl)⟩
 refine ⟨(num16_s (⟨d.plan, d.mode, d.stack, (⟨0, 0⟩ : Scn), d.start, d.at_, d.field, d.wire, d.want, d.utf, d.end_⟩ : Dcd) _ (by first | omega | rfl | (dsimp only; omega)) (by omega)), ?_⟩
 refine have hm1 : (fixM ⟨d, []⟩ b).d = (settleM (valueM ⟨(⟨d.plan, d.mode, d.stack, (⟨0, 0⟩ : Scn), d.start, d.at_, d.field, d.wire, d.want, d.utf, d.end_⟩ : Dcd), []⟩ (fixByte d.scan b).bits)).d := ?_; ?_
 rotate_left
 refine have hm2 : (fixM ⟨d, []⟩ b).out = (settleM (valueM ⟨(⟨d.plan, d.mode, d.stack, (⟨0, 0⟩ : Scn), d.start, d.at_, d.field, d.wire, d.want, d.utf, d.end_⟩ : Dcd), []⟩ (fixByte d.scan b).bits)).out := ?_; ?_
 rotate_left
 exact ⟨(by rw [hm1] <;> rfl), (by rw [hm1, hm2] <;> rfl)⟩
 all_goals first | (simp_all [fixM, dScan, mFail, dFail, scn0, valueM_at, valueM_want]; done) | ((have hne : d.field ≠ fld0 := runs_ne (hp4 (by assumption)); have hff : fixM ⟨d, []⟩ b = mFail (valueM ⟨dScan d scn0, []⟩ (fixByte d.scan b).bits) 9 d.at_ := (by unfold fixM; simp only; rw [if_neg (by omega), if_pos ⟨by assumption, by assumption, by omega⟩]); rw [hff]; simp [mFail, dFail, valueM, dScan, scn0, hne]; done)) | (grind [fixM, dScan, mFail, dFail, scn0, valueM, valueM_at, valueM_want])
set_option maxHeartbeats 3200000 in
theorem stepB_s (d : Dcd) (b : Int) (hp1 : List.length (d).plan.shapes ≤ 1048576) (hp2 : ∀ e ∈ (d).plan.shapes, e.fields.length ≤ 1048576) (hp3 : List.length (d).stack ≤ 1048576) (hp4 : (0 : Int) ≤ (d).scan.bits ∧ (d).scan.bits ≤ 18446744073709551615) : Fun Tryz.prog 52 [.agg (cDcd d), vI b] [] (.tup [.agg (oDcd0_5 0 1 (stepB d b).d), vO 2]) [.tree (stepB d b).d.plan.shapes, .lst .lev (stepB d b).d.stack, .lst .ev (stepB d b).out] := by
 have hN : bigN = 274877906944 := rfl
 refine fun_ofw Tryz.func52 (by kernel_rfl) (by kernel_rfl) (w := let zi : Int → C := .int .i64; let z15 : List C := [zi 4, zi 0, .int .u64 0, zi 0, .str (List.map toByte [b]), zi 0, zi 0]; let z16 : List C := [zi d.end_.kind, zi d.end_.field, .int .u64 d.end_.bits, zi d.end_.len, .str d.end_.text, zi d.end_.code, zi d.end_.at_]; let z17 := (⟨d.plan, d.mode, d.stack, d.scan, d.start, d.at_ + 1, d.field, d.wire, d.want - 1, d.utf, d.end_⟩ : Dcd); let z18 := (⟨d.plan, d.mode, d.stack, d.scan, d.start, d.at_ + 1, d.field, d.wire, d.want, d.utf, d.end_⟩ : Dcd); let z20 := (d.stack.length : Int); let z21 := stepB d b; let z22 := settleM ⟨z17, []⟩; let z23 := (⟨4, 0, 0, 0, List.map toByte [b], 0, 0⟩ : Ev); let z24 := oDcd0_5 0 1 z21.d; let z27 := decide (d.mode = 7); let z28 := varM ⟨z17, []⟩ b d.at_; let z29 := varM ⟨z18, []⟩ b d.at_; let z30 := ([.tree d.plan.shapes, .lst .lev d.stack, .lst .ev ([] : List Ev)] : List Blk); let z31 : List Blk := [.dead, .dead, .tree z22.d.plan.shapes, .lst .lev z22.d.stack, .lst .ev z22.out]; let z32 := (.v (.c (.int .u8 (IntKind.u8.wrap (b)))) : S) = .v (.c (.int .u8 b)); let z33 := (.v (vI (IntKind.i64.wrap (z20 - 1))) : S) = .v (vI (z20 - 1)); let z34 := vI (widthD d); let z35 := fixM ⟨z17, []⟩ b; let z36 := fixM ⟨z18, []⟩ b; let z37 := decide (d.mode = 6); let z38 := decide (0 < widthD d); let z39 := dFail z17 5 d.at_; let z40 := utfByte d.utf b; let z26 := z40.getD d.utf; let z19 := settleM ⟨(⟨d.plan, d.mode, d.stack, d.scan, d.start, d.at_ + 1, d.field, d.wire, d.want - 1, z26, d.end_⟩ : Dcd), []⟩; let z41 := Int.toNat (z20 - 1); let z42 := (.tup [.agg (oDcd0_5 0 1 d), vO 2] : S); let z43 := vI (d.want - 1); let z25 := (.v (vI (IntKind.i64.wrap (d.want - 1))) : S) = .v z43; let z44 := oDcd0_5 2 3 z22.d; let z45 := (.tup [.agg (oDcd0_5 0 1 z22.d), vO 2] : S); let z46 : List Blk := [.dead, .dead, .tree z19.d.plan.shapes, .lst .lev z19.d.stack, .lst .ev (z23 :: z19.out)]; let z47 : List Blk := [.dead, .dead, .tree z22.d.plan.shapes, .lst .lev z22.d.stack, .lst .ev (z23 :: z22.out)]; let z48 := ([.tree z22.d.plan.shapes, .lst .lev z22.d.stack, .lst .ev z22.out] : List Blk); let z49 : List Blk := [.dead, .dead, .tree z39.plan.shapes, .lst .lev z39.stack, .lst .ev [failEv 5 d.at_]]; let z50 := decide (d.field.kind = 6); let z51 : List Blk := [.dead, .dead, .tree z35.d.plan.shapes, .lst .lev z35.d.stack, .lst .ev z35.out]; let z52 : List Blk := [.dead, .dead, .tree z28.d.plan.shapes, .lst .lev z28.d.stack, .lst .ev z28.out]; let z53 : List Blk := [.dead, .dead, .tree z36.d.plan.shapes, .lst .lev z36.d.stack, .lst .ev z36.out]; let z54 : List Blk := [.dead, .dead, .tree z29.d.plan.shapes, .lst .lev z29.d.stack, .lst .ev z29.out]; let z55 := (0 : Int) ≤ z20 - 1; let z56 := decide (d.mode = 8); let z57 := d.at_ + 1; let z12 : List C := .own 0 :: zi d.plan.root :: zi d.plan.deep :: zi d.plan.most :: zi d.mode :: .own 1 :: .int .u64 d.scan.bits :: zi d.scan.have_ :: zi d.start :: zi z57 :: zi d.field.number :: zi d.field.kind :: .bool d.field.rep :: .bool d.field.packed :: zi d.field.msg :: zi d.wire :: zi (d.want - 1) :: zi d.utf.want :: zi d.utf.low :: zi d.utf.high :: z16; let z13 : List C := .own 0 :: zi d.plan.root :: zi d.plan.deep :: zi d.plan.most :: zi d.mode :: .own 1 :: .int .u64 d.scan.bits :: zi d.scan.have_ :: zi d.start :: zi z57 :: zi d.field.number :: zi d.field.kind :: .bool d.field.rep :: .bool d.field.packed :: zi d.field.msg :: zi d.wire :: zi d.want :: zi d.utf.want :: zi d.utf.low :: zi d.utf.high :: z16; let z14 : List C := .own 0 :: zi d.plan.root :: zi d.plan.deep :: zi d.plan.most :: zi d.mode :: .own 1 :: .int .u64 d.scan.bits :: zi d.scan.have_ :: zi d.start :: zi z57 :: zi d.field.number :: zi d.field.kind :: .bool d.field.rep :: .bool d.field.packed :: zi d.field.msg :: zi d.wire :: zi (d.want - 1) :: zi z26.want :: zi z26.low :: zi z26.high :: z16; let z58 := within b 0 255; let z59 := z20 - 1 < z20; let z60 := !z40.isSome; let z61 := z27 = false; let z62 := z37 = false; (.seg [.call [] (.v (.agg (oDcd0_5 0 1 d))) [.tree d.plan.shapes, .lst .lev d.stack], .call [] (.v (vB (decOk d))) []] (.br (.seg [.ty .ev] (.leaf () [2, 3, 5])) (.br (.seg [.ty .ev] (.leaf () [2, 3, 5])) (.seg [.call [] (.v (vB z58)) []] (.br (.seg [.ty .ev] (.leaf () [2, 3, 5])) (.br (.seg [.ty .ev] (.leaf () [2, 3, 5])) (.seg [.as 35 (.v (vI z57))] (.br (.intro (fun (x1 : Lev) => d.stack[Int.toNat (z20 - 1)]? = some x1) fun x1 => let z4 := (⟨x1.msg, x1.left - 1⟩ : Lev); let z1 := (⟨d.plan, d.mode, List.set d.stack z41 z4, d.scan, d.start, d.at_ + 1, d.field, d.wire, d.want - 1, d.utf, d.end_⟩ : Dcd); let z2 := (⟨d.plan, d.mode, List.set d.stack z41 z4, d.scan, d.start, d.at_ + 1, d.field, d.wire, d.want, d.utf, d.end_⟩ : Dcd); let z3 := settleM ⟨(⟨d.plan, d.mode, List.set d.stack z41 z4, d.scan, d.start, d.at_ + 1, d.field, d.wire, d.want - 1, z26, d.end_⟩ : Dcd), []⟩; .seg [.ord (os 15 [14]) [], .as 45 (.v (vI (z20 - 1))), .as 49 (.v (vI (z20 - 1))), .el .lev x1, .as 53 (.v (vI (x1.left - 1))), .el .lev x1] (.br (.seg [.as 71 (.v z43), .call [] (.v z34) []] (.br (.seg [.call [2, 3] (.tup [.agg (oDcd0_5 2 3 (settleM ⟨z1, []⟩).d), vO 4]) [.dead, .dead, .tree (settleM ⟨z1, []⟩).d.plan.shapes, .lst .lev (settleM ⟨z1, []⟩).d.stack, .lst .ev (settleM ⟨z1, []⟩).out]] (.leaf () [5, 6, 7])) (.seg [.br true] (.br (.seg [.call [] (.tup [.agg (cUtf z26), vB z40.isSome]) []] (.br (.seg [.call [2, 3] (.tup [.agg (oDcd0_5 2 3 (dFail z1 5 d.at_)), vO 4]) [.dead, .dead, .tree (dFail z1 5 d.at_).plan.shapes, .lst .lev (dFail z1 5 d.at_).stack, .lst .ev [failEv 5 d.at_]]] (.leaf () [6, 7, 8])) (.seg [.as 110 (.v (.c (.int .u8 b))), .ty .u8, .call [2, 3] (.tup [.agg (oDcd0_5 2 3 z3.d), vO 4]) [.dead, .dead, .tree z3.d.plan.shapes, .lst .lev z3.d.stack, .lst .ev (z23 :: z3.out)]] (.leaf () [7, 8, 9])))) (.seg [.as 110 (.v (.c (.int .u8 b))), .ty .u8, .call [2, 3] (.tup [.agg (oDcd0_5 2 3 (settleM ⟨z1, []⟩).d), vO 4]) [.dead, .dead, .tree (settleM ⟨z1, []⟩).d.plan.shapes, .lst .lev (settleM ⟨z1, []⟩).d.stack, .lst .ev (z23 :: (settleM ⟨z1, []⟩).out)]] (.leaf () [6, 7, 8])))))) (.br (.seg [.as 71 (.v z43), .call [] (.v z34) [], .br true, .call [2, 3] (.tup [.agg (oDcd0_5 2 3 (settleM ⟨z1, []⟩).d), vO 4]) [.dead, .dead, .tree (settleM ⟨z1, []⟩).d.plan.shapes, .lst .lev (settleM ⟨z1, []⟩).d.stack, .lst .ev (settleM ⟨z1, []⟩).out]] (.leaf () [5, 6, 7])) (.br (.seg [.as 71 (.v z43), .call [] (.v z34) [], .br false, .br false] (.br (.seg [.call [2, 3] (.tup [.agg (oDcd0_5 2 3 (fixM ⟨z1, []⟩ b).d), vO 4]) [.dead, .dead, .tree (fixM ⟨z1, []⟩ b).d.plan.shapes, .lst .lev (fixM ⟨z1, []⟩ b).d.stack, .lst .ev (fixM ⟨z1, []⟩ b).out]] (.leaf () [5, 6, 7])) (.seg [.call [2, 3] (.tup [.agg (oDcd0_5 2 3 (varM ⟨z1, []⟩ b d.at_).d), vO 4]) [.dead, .dead, .tree (varM ⟨z1, []⟩ b d.at_).d.plan.shapes, .lst .lev (varM ⟨z1, []⟩ b d.at_).d.stack, .lst .ev (varM ⟨z1, []⟩ b d.at_).out]] (.leaf () [5, 6, 7])))) (.seg [.call [] (.v z34) [], .br false, .br false] (.br (.seg [.call [2, 3] (.tup [.agg (oDcd0_5 2 3 (fixM ⟨z2, []⟩ b).d), vO 4]) [.dead, .dead, .tree (fixM ⟨z2, []⟩ b).d.plan.shapes, .lst .lev (fixM ⟨z2, []⟩ b).d.stack, .lst .ev (fixM ⟨z2, []⟩ b).out]] (.leaf () [5, 6, 7])) (.seg [.call [2, 3] (.tup [.agg (oDcd0_5 2 3 (varM ⟨z2, []⟩ b d.at_).d), vO 4]) [.dead, .dead, .tree (varM ⟨z2, []⟩ b d.at_).d.plan.shapes, .lst .lev (varM ⟨z2, []⟩ b d.at_).d.stack, .lst .ev (varM ⟨z2, []⟩ b d.at_).out]] (.leaf () [5, 6, 7])))))))) (.br (.seg [.as 71 (.v z43), .call [] (.v z34) []] (.br (.seg [.call [2, 3] (.tup [.agg z44, vO 4]) z31] (.leaf () [5, 6, 7])) (.seg [.br true] (.br (.seg [.call [] (.tup [.agg (cUtf z26), vB z40.isSome]) []] (.br (.seg [.call [2, 3] (.tup [.agg (oDcd0_5 2 3 z39), vO 4]) z49] (.leaf () [6, 7, 8])) (.seg [.as 110 (.v (.c (.int .u8 b))), .ty .u8, .call [2, 3] (.tup [.agg (oDcd0_5 2 3 z19.d), vO 4]) z46] (.leaf () [7, 8, 9])))) (.seg [.as 110 (.v (.c (.int .u8 b))), .ty .u8, .call [2, 3] (.tup [.agg z44, vO 4]) z47] (.leaf () [6, 7, 8])))))) (.br (.seg [.as 71 (.v z43), .call [] (.v z34) [], .br true, .call [2, 3] (.tup [.agg z44, vO 4]) z31] (.leaf () [5, 6, 7])) (.br (.seg [.as 71 (.v z43), .call [] (.v z34) [], .br false, .br false] (.br (.seg [.call [2, 3] (.tup [.agg (oDcd0_5 2 3 z35.d), vO 4]) z51] (.leaf () [5, 6, 7])) (.seg [.call [2, 3] (.tup [.agg (oDcd0_5 2 3 z28.d), vO 4]) z52] (.leaf () [5, 6, 7])))) (.seg [.call [] (.v z34) [], .br false, .br false] (.br (.seg [.call [2, 3] (.tup [.agg (oDcd0_5 2 3 z36.d), vO 4]) z53] (.leaf () [5, 6, 7])) (.seg [.call [2, 3] (.tup [.agg (oDcd0_5 2 3 z29.d), vO 4]) z54] (.leaf () [5, 6, 7])))))))))))))), (Fun Tryz.prog 63 [.agg (cDcd d)] [] (.v (.agg (oDcd0_5 0 1 d))) [.tree d.plan.shapes, .lst .lev d.stack]) ∧ (Fun Tryz.prog 104 [.agg (cDcd d)] [] (.v (vB (decOk d))) []) ∧ ((!(decOk d)) = true → z42 = .tup [.agg z24, vO 2] ∧ z30 = [.tree z21.d.plan.shapes, .lst .lev z21.d.stack, .lst .ev z21.out]) ∧ ((!(decOk d)) = false → ((decide (d.mode = 9)) = true → z42 = .tup [.agg z24, vO 2] ∧ z30 = [.tree z21.d.plan.shapes, .lst .lev z21.d.stack, .lst .ev z21.out]) ∧ ((decide (d.mode = 9)) = false → (Fun Tryz.prog 105 [vI b, vI 0, vI 255] [] (.v (vB z58)) []) ∧ ((!z58) = true → z42 = .tup [.agg z24, vO 2] ∧ z30 = [.tree z21.d.plan.shapes, .lst .lev z21.d.stack, .lst .ev z21.out]) ∧ ((!z58) = false → ((decide (d.at_ = 1000000000)) = true → z42 = .tup [.agg z24, vO 2] ∧ z30 = [.tree z21.d.plan.shapes, .lst .lev z21.d.stack, .lst .ev z21.out]) ∧ ((decide (d.at_ = 1000000000)) = false → ((.v (vI (IntKind.i64.wrap z57)) : S) = .v (vI z57)) ∧ ((decide (0 < z20)) = true → (∃ (x1 : Lev), d.stack[Int.toNat (z20 - 1)]? = some x1) ∧ ∀ (x1 : Lev), (d.stack[Int.toNat (z20 - 1)]? = some x1) → (let z9 := d.stack[Int.toNat (z20 - 1)]? = some x1; let z10 := (⟨x1.msg, x1.left - 1⟩ : Lev); let z5 := (⟨d.plan, d.mode, List.set d.stack z41 z10, d.scan, d.start, d.at_ + 1, d.field, d.wire, d.want - 1, d.utf, d.end_⟩ : Dcd); let z6 := (⟨d.plan, d.mode, List.set d.stack z41 z10, d.scan, d.start, d.at_ + 1, d.field, d.wire, d.want, d.utf, d.end_⟩ : Dcd); let z7 := settleM ⟨(⟨d.plan, d.mode, List.set d.stack z41 z10, d.scan, d.start, d.at_ + 1, d.field, d.wire, d.want - 1, z26, d.end_⟩ : Dcd), []⟩; let z8 := List.set d.stack z41 z10; let z11 := (.v (vI (IntKind.i64.wrap (x1.left - 1))) : S) = .v (vI (x1.left - 1)); z33 ∧ z33 ∧ z33 ∧ z33 ∧ z59 ∧ z55 ∧ z59 ∧ z55 ∧ z9 ∧ z9 ∧ z11 ∧ z11 ∧ z59 ∧ z55 ∧ z59 ∧ z55 ∧ z9 ∧ (z37 = true → z25 ∧ (Fun Tryz.prog 106 [.agg (cDcd d)] [] (.v z34) []) ∧ (z27 = true → (Fun Tryz.prog 107 [.agg z12] [.tree d.plan.shapes, .lst .lev z8] (.tup [.agg (oDcd0_5 2 3 (settleM ⟨z5, []⟩).d), vO 4]) [.dead, .dead, .tree (settleM ⟨z5, []⟩).d.plan.shapes, .lst .lev (settleM ⟨z5, []⟩).d.stack, .lst .ev (settleM ⟨z5, []⟩).out]) ∧ (.tup [.agg (oDcd0_5 0 1 (settleM ⟨z5, []⟩).d), vO 2] : S) = .tup [.agg z24, vO 2] ∧ ([.tree (settleM ⟨z5, []⟩).d.plan.shapes, .lst .lev (settleM ⟨z5, []⟩).d.stack, .lst .ev (settleM ⟨z5, []⟩).out] : List Blk) = [.tree z21.d.plan.shapes, .lst .lev z21.d.stack, .lst .ev z21.out]) ∧ (z27 = false → (z37 = true) ∧ (z50 = true → (Fun Tryz.prog 108 [.agg (cUtf d.utf), vI b] [] (.tup [.agg (cUtf z26), vB z40.isSome]) []) ∧ (z60 = true → (Fun Tryz.prog 109 [.agg z12, vI 5, vI d.at_] [.tree d.plan.shapes, .lst .lev z8] (.tup [.agg (oDcd0_5 2 3 (dFail z5 5 d.at_)), vO 4]) [.dead, .dead, .tree (dFail z5 5 d.at_).plan.shapes, .lst .lev (dFail z5 5 d.at_).stack, .lst .ev [failEv 5 d.at_]]) ∧ (.tup [.agg (oDcd0_5 0 1 (dFail z5 5 d.at_)), vO 2] : S) = .tup [.agg z24, vO 2] ∧ ([.tree (dFail z5 5 d.at_).plan.shapes, .lst .lev (dFail z5 5 d.at_).stack, .lst .ev [failEv 5 d.at_]] : List Blk) = [.tree z21.d.plan.shapes, .lst .lev z21.d.stack, .lst .ev z21.out]) ∧ (z60 = false → z32 ∧ (Fun Tryz.prog 110 [.agg z14, .agg z15] [.tree d.plan.shapes, .lst .lev z8] (.tup [.agg (oDcd0_5 2 3 z7.d), vO 4]) [.dead, .dead, .tree z7.d.plan.shapes, .lst .lev z7.d.stack, .lst .ev (z23 :: z7.out)]) ∧ (.tup [.agg (oDcd0_5 0 1 z7.d), vO 2] : S) = .tup [.agg z24, vO 2] ∧ ([.tree z7.d.plan.shapes, .lst .lev z7.d.stack, .lst .ev (z23 :: z7.out)] : List Blk) = [.tree z21.d.plan.shapes, .lst .lev z21.d.stack, .lst .ev z21.out])) ∧ (z50 = false → z32 ∧ (Fun Tryz.prog 110 [.agg z12, .agg z15] [.tree d.plan.shapes, .lst .lev z8] (.tup [.agg (oDcd0_5 2 3 (settleM ⟨z5, []⟩).d), vO 4]) [.dead, .dead, .tree (settleM ⟨z5, []⟩).d.plan.shapes, .lst .lev (settleM ⟨z5, []⟩).d.stack, .lst .ev (z23 :: (settleM ⟨z5, []⟩).out)]) ∧ (.tup [.agg (oDcd0_5 0 1 (settleM ⟨z5, []⟩).d), vO 2] : S) = .tup [.agg z24, vO 2] ∧ ([.tree (settleM ⟨z5, []⟩).d.plan.shapes, .lst .lev (settleM ⟨z5, []⟩).d.stack, .lst .ev (z23 :: (settleM ⟨z5, []⟩).out)] : List Blk) = [.tree z21.d.plan.shapes, .lst .lev z21.d.stack, .lst .ev z21.out]))) ∧ (z37 = false → (z27 = true → z25 ∧ (Fun Tryz.prog 106 [.agg (cDcd d)] [] (.v z34) []) ∧ (z27 = true) ∧ (Fun Tryz.prog 107 [.agg z12] [.tree d.plan.shapes, .lst .lev z8] (.tup [.agg (oDcd0_5 2 3 (settleM ⟨z5, []⟩).d), vO 4]) [.dead, .dead, .tree (settleM ⟨z5, []⟩).d.plan.shapes, .lst .lev (settleM ⟨z5, []⟩).d.stack, .lst .ev (settleM ⟨z5, []⟩).out]) ∧ (.tup [.agg (oDcd0_5 0 1 (settleM ⟨z5, []⟩).d), vO 2] : S) = .tup [.agg z24, vO 2] ∧ ([.tree (settleM ⟨z5, []⟩).d.plan.shapes, .lst .lev (settleM ⟨z5, []⟩).d.stack, .lst .ev (settleM ⟨z5, []⟩).out] : List Blk) = [.tree z21.d.plan.shapes, .lst .lev z21.d.stack, .lst .ev z21.out]) ∧ (z27 = false → (z56 = true → z25 ∧ (Fun Tryz.prog 106 [.agg (cDcd d)] [] (.v z34) []) ∧ z61 ∧ z62 ∧ (z38 = true → (Fun Tryz.prog 111 [.agg z12, vI b, vI (widthD d)] [.tree d.plan.shapes, .lst .lev z8] (.tup [.agg (oDcd0_5 2 3 (fixM ⟨z5, []⟩ b).d), vO 4]) [.dead, .dead, .tree (fixM ⟨z5, []⟩ b).d.plan.shapes, .lst .lev (fixM ⟨z5, []⟩ b).d.stack, .lst .ev (fixM ⟨z5, []⟩ b).out]) ∧ (.tup [.agg (oDcd0_5 0 1 (fixM ⟨z5, []⟩ b).d), vO 2] : S) = .tup [.agg z24, vO 2] ∧ ([.tree (fixM ⟨z5, []⟩ b).d.plan.shapes, .lst .lev (fixM ⟨z5, []⟩ b).d.stack, .lst .ev (fixM ⟨z5, []⟩ b).out] : List Blk) = [.tree z21.d.plan.shapes, .lst .lev z21.d.stack, .lst .ev z21.out]) ∧ (z38 = false → (Fun Tryz.prog 112 [.agg z12, vI b, vI d.at_] [.tree d.plan.shapes, .lst .lev z8] (.tup [.agg (oDcd0_5 2 3 (varM ⟨z5, []⟩ b d.at_).d), vO 4]) [.dead, .dead, .tree (varM ⟨z5, []⟩ b d.at_).d.plan.shapes, .lst .lev (varM ⟨z5, []⟩ b d.at_).d.stack, .lst .ev (varM ⟨z5, []⟩ b d.at_).out]) ∧ (.tup [.agg (oDcd0_5 0 1 (varM ⟨z5, []⟩ b d.at_).d), vO 2] : S) = .tup [.agg z24, vO 2] ∧ ([.tree (varM ⟨z5, []⟩ b d.at_).d.plan.shapes, .lst .lev (varM ⟨z5, []⟩ b d.at_).d.stack, .lst .ev (varM ⟨z5, []⟩ b d.at_).out] : List Blk) = [.tree z21.d.plan.shapes, .lst .lev z21.d.stack, .lst .ev z21.out])) ∧ (z56 = false → (Fun Tryz.prog 106 [.agg (cDcd d)] [] (.v z34) []) ∧ z61 ∧ z62 ∧ (z38 = true → (Fun Tryz.prog 111 [.agg z13, vI b, vI (widthD d)] [.tree d.plan.shapes, .lst .lev z8] (.tup [.agg (oDcd0_5 2 3 (fixM ⟨z6, []⟩ b).d), vO 4]) [.dead, .dead, .tree (fixM ⟨z6, []⟩ b).d.plan.shapes, .lst .lev (fixM ⟨z6, []⟩ b).d.stack, .lst .ev (fixM ⟨z6, []⟩ b).out]) ∧ (.tup [.agg (oDcd0_5 0 1 (fixM ⟨z6, []⟩ b).d), vO 2] : S) = .tup [.agg z24, vO 2] ∧ ([.tree (fixM ⟨z6, []⟩ b).d.plan.shapes, .lst .lev (fixM ⟨z6, []⟩ b).d.stack, .lst .ev (fixM ⟨z6, []⟩ b).out] : List Blk) = [.tree z21.d.plan.shapes, .lst .lev z21.d.stack, .lst .ev z21.out]) ∧ (z38 = false → (Fun Tryz.prog 112 [.agg z13, vI b, vI d.at_] [.tree d.plan.shapes, .lst .lev z8] (.tup [.agg (oDcd0_5 2 3 (varM ⟨z6, []⟩ b d.at_).d), vO 4]) [.dead, .dead, .tree (varM ⟨z6, []⟩ b d.at_).d.plan.shapes, .lst .lev (varM ⟨z6, []⟩ b d.at_).d.stack, .lst .ev (varM ⟨z6, []⟩ b d.at_).out]) ∧ (.tup [.agg (oDcd0_5 0 1 (varM ⟨z6, []⟩ b d.at_).d), vO 2] : S) = .tup [.agg z24, vO 2] ∧ ([.tree (varM ⟨z6, []⟩ b d.at_).d.plan.shapes, .lst .lev (varM ⟨z6, []⟩ b d.at_).d.stack, .lst .ev (varM ⟨z6, []⟩ b d.at_).out] : List Blk) = [.tree z21.d.plan.shapes, .lst .lev z21.d.stack, .lst .ev z21.out])))))) ∧ ((decide (0 < z20)) = false → (z37 = true → z25 ∧ (Fun Tryz.prog 106 [.agg (cDcd d)] [] (.v z34) []) ∧ (z27 = true → (Fun Tryz.prog 107 [.agg z12] [.tree d.plan.shapes, .lst .lev d.stack] (.tup [.agg z44, vO 4]) z31) ∧ z45 = .tup [.agg z24, vO 2] ∧ z48 = [.tree z21.d.plan.shapes, .lst .lev z21.d.stack, .lst .ev z21.out]) ∧ (z27 = false → (z37 = true) ∧ (z50 = true → (Fun Tryz.prog 108 [.agg (cUtf d.utf), vI b] [] (.tup [.agg (cUtf z26), vB z40.isSome]) []) ∧ (z60 = true → (Fun Tryz.prog 109 [.agg z12, vI 5, vI d.at_] [.tree d.plan.shapes, .lst .lev d.stack] (.tup [.agg (oDcd0_5 2 3 z39), vO 4]) z49) ∧ (.tup [.agg (oDcd0_5 0 1 z39), vO 2] : S) = .tup [.agg z24, vO 2] ∧ ([.tree z39.plan.shapes, .lst .lev z39.stack, .lst .ev [failEv 5 d.at_]] : List Blk) = [.tree z21.d.plan.shapes, .lst .lev z21.d.stack, .lst .ev z21.out]) ∧ (z60 = false → z32 ∧ (Fun Tryz.prog 110 [.agg z14, .agg z15] [.tree d.plan.shapes, .lst .lev d.stack] (.tup [.agg (oDcd0_5 2 3 z19.d), vO 4]) z46) ∧ (.tup [.agg (oDcd0_5 0 1 z19.d), vO 2] : S) = .tup [.agg z24, vO 2] ∧ ([.tree z19.d.plan.shapes, .lst .lev z19.d.stack, .lst .ev (z23 :: z19.out)] : List Blk) = [.tree z21.d.plan.shapes, .lst .lev z21.d.stack, .lst .ev z21.out])) ∧ (z50 = false → z32 ∧ (Fun Tryz.prog 110 [.agg z12, .agg z15] [.tree d.plan.shapes, .lst .lev d.stack] (.tup [.agg z44, vO 4]) z47) ∧ z45 = .tup [.agg z24, vO 2] ∧ ([.tree z22.d.plan.shapes, .lst .lev z22.d.stack, .lst .ev (z23 :: z22.out)] : List Blk) = [.tree z21.d.plan.shapes, .lst .lev z21.d.stack, .lst .ev z21.out]))) ∧ (z37 = false → (z27 = true → z25 ∧ (Fun Tryz.prog 106 [.agg (cDcd d)] [] (.v z34) []) ∧ (z27 = true) ∧ (Fun Tryz.prog 107 [.agg z12] [.tree d.plan.shapes, .lst .lev d.stack] (.tup [.agg z44, vO 4]) z31) ∧ z45 = .tup [.agg z24, vO 2] ∧ z48 = [.tree z21.d.plan.shapes, .lst .lev z21.d.stack, .lst .ev z21.out]) ∧ (z27 = false → (z56 = true → z25 ∧ (Fun Tryz.prog 106 [.agg (cDcd d)] [] (.v z34) []) ∧ z61 ∧ z62 ∧ (z38 = true → (Fun Tryz.prog 111 [.agg z12, vI b, vI (widthD d)] [.tree d.plan.shapes, .lst .lev d.stack] (.tup [.agg (oDcd0_5 2 3 z35.d), vO 4]) z51) ∧ (.tup [.agg (oDcd0_5 0 1 z35.d), vO 2] : S) = .tup [.agg z24, vO 2] ∧ ([.tree z35.d.plan.shapes, .lst .lev z35.d.stack, .lst .ev z35.out] : List Blk) = [.tree z21.d.plan.shapes, .lst .lev z21.d.stack, .lst .ev z21.out]) ∧ (z38 = false → (Fun Tryz.prog 112 [.agg z12, vI b, vI d.at_] [.tree d.plan.shapes, .lst .lev d.stack] (.tup [.agg (oDcd0_5 2 3 z28.d), vO 4]) z52) ∧ (.tup [.agg (oDcd0_5 0 1 z28.d), vO 2] : S) = .tup [.agg z24, vO 2] ∧ ([.tree z28.d.plan.shapes, .lst .lev z28.d.stack, .lst .ev z28.out] : List Blk) = [.tree z21.d.plan.shapes, .lst .lev z21.d.stack, .lst .ev z21.out])) ∧ (z56 = false → (Fun Tryz.prog 106 [.agg (cDcd d)] [] (.v z34) []) ∧ z61 ∧ z62 ∧ (z38 = true → (Fun Tryz.prog 111 [.agg z13, vI b, vI (widthD d)] [.tree d.plan.shapes, .lst .lev d.stack] (.tup [.agg (oDcd0_5 2 3 z36.d), vO 4]) z53) ∧ (.tup [.agg (oDcd0_5 0 1 z36.d), vO 2] : S) = .tup [.agg z24, vO 2] ∧ ([.tree z36.d.plan.shapes, .lst .lev z36.d.stack, .lst .ev z36.out] : List Blk) = [.tree z21.d.plan.shapes, .lst .lev z21.d.stack, .lst .ev z21.out]) ∧ (z38 = false → (Fun Tryz.prog 112 [.agg z13, vI b, vI d.at_] [.tree d.plan.shapes, .lst .lev d.stack] (.tup [.agg (oDcd0_5 2 3 z29.d), vO 4]) z54) ∧ (.tup [.agg (oDcd0_5 0 1 z29.d), vO 2] : S) = .tup [.agg z24, vO 2] ∧ ([.tree z29.d.plan.shapes, .lst .lev z29.d.stack, .lst .ev z29.out] : List Blk) = [.tree z21.d.plan.shapes, .lst .lev z21.d.stack, .lst .ev z21.out]))))))))))) (by kernel_rfl) ?_
 refine ⟨(copyDec_s d (by omega) (hp2) (by omega)), (decOk_s d (by omega) (by omega)), fun h1 => have q1 := bnot_t h1; ?_, fun h1 => have q1 := bnot_f h1; ?_⟩
 refine have hm1 : (stepB d b).d = d := ?_; ?_
 rotate_left
 refine have hm2 : (stepB d b).out = ([] : List Ev) := ?_; ?_
 rotate_left
 exact ⟨(by rw [hm1] <;> rfl), (by rw [hm1, hm2] <;> rfl)⟩
 have hok : decOk d = true := q1
 have hmw := decOk_mw hok hp4
 have hlv := levelsOk_b hmw.lv
 have hpt := planOk_t hlv.1
 have htb := topL_b hmw.lv
 have hbb := hmw.b0
 have hat := hmw.at_
 have hwt := hmw.want
 have hwd := widthD_b d
 refine dsp (fun h2 p2 => ?_) fun h2 p2 => ?_
 refine have hm1 : (stepB d b).d = d := ?_; ?_
 rotate_left
 refine have hm2 : (stepB d b).out = ([] : List Ev) := ?_; ?_
 rotate_left
 exact ⟨(by rw [hm1] <;> rfl), (by rw [hm1, hm2] <;> rfl)⟩
 have hst := decOk_st hok (by simpa using h2)
 refine ⟨(within_s _ _ _), fun h3 => have q3 := bnot_t h3; have p3 := within_f q3; ?_, fun h3 => have q3 := bnot_f h3; have p3 := within_t q3; ?_⟩
 refine have hm1 : (stepB d b).d = d := ?_; ?_
 rotate_left
 refine have hm2 : (stepB d b).out = ([] : List Ev) := ?_; ?_
 rotate_left
 exact ⟨(by rw [hm1] <;> rfl), (by rw [hm1, hm2] <;> rfl)⟩
 have hwi := within_t q3
 refine dsp (fun h4 p4 => ?_) fun h4 p4 => ?_
 refine have hm1 : (stepB d b).d = d := ?_; ?_
 rotate_left
 refine have hm2 : (stepB d b).out = ([] : List Ev) := ?_; ?_
 rotate_left
 exact ⟨(by rw [hm1] <;> rfl), (by rw [hm1, hm2] <;> rfl)⟩
 have hms := hmw.step hst.1 hst.2.1 hst.2.2.1
 have htk : takesD d = true := by simp only [takesD, Bool.and_eq_true, Bool.not_eq_true', decide_eq_false_iff_not, decide_eq_true_eq]; omega
 have hsb : stepB d b = byteM ⟨d, []⟩ b := by unfold stepB; rw [if_pos ⟨hok, htk, by assumption⟩]
 refine ⟨(as_i64 (by omega) (by omega)), dsp (fun h5 p5 => ?_) fun h5 p5 => ?_⟩
 have hne : d.stack ≠ [] := fun e => by have := congrArg List.length e; simp only [List.length_nil] at this; omega
 refine ⟨(ax_get (l := d.stack) (i := Int.toNat ((d.stack.length : Int) - 1)) (by omega)), fun x1 hx1 => ?_⟩
 have hll := lastL_el (d := d) (by rw [← hx1]; congr 1; omega)
 have hix : Int.toNat ((d.stack.length : Int) - 1) = d.stack.length - 1 := by omega
 refine ⟨(as_i64 (by omega) (by omega)), (as_i64 (by omega) (by omega)), (as_i64 (by omega) (by omega)), (as_i64 (by omega) (by omega)), (by omega), (by omega), (by omega), (by omega), hx1, hx1, (as_i64 (by omega) (by omega)), (as_i64 (by omega) (by omega)), (by omega), (by omega), (by omega), (by omega), hx1, dsp (fun h6 p6 => ?_) fun h6 p6 => ?_⟩
 refine ⟨(as_i64 (by omega) (by omega)), (widthD_s d), dsp (fun h7 p7 => ?_) fun h7 p7 => ?_⟩
 refine ⟨(settle_s (⟨d.plan, d.mode, List.set d.stack (Int.toNat ((d.stack.length : Int) - 1)) (⟨x1.msg, x1.left - 1⟩ : Lev), d.scan, d.start, d.at_ + 1, d.field, d.wire, d.want - 1, d.utf, d.end_⟩ : Dcd) (by simp only [List.length_append, List.length_cons, List.length_nil, List.length_set, List.length_take]; omega)), ?_⟩
 refine have hm1 : (stepB d b).d = (settleM ⟨(⟨d.plan, d.mode, List.set d.stack (Int.toNat ((d.stack.length : Int) - 1)) (⟨x1.msg, x1.left - 1⟩ : Lev), d.scan, d.start, d.at_ + 1, d.field, d.wire, d.want - 1, d.utf, d.end_⟩ : Dcd), []⟩).d := ?_; ?_
 rotate_left
 refine have hm2 : (stepB d b).out = (settleM ⟨(⟨d.plan, d.mode, List.set d.stack (Int.toNat ((d.stack.length : Int) - 1)) (⟨x1.msg, x1.left - 1⟩ : Lev), d.scan, d.start, d.at_ + 1, d.field, d.wire, d.want - 1, d.utf, d.end_⟩ : Dcd), []⟩).out := ?_; ?_
 rotate_left
 exact ⟨(by rw [hm1] <;> rfl), (by rw [hm1, hm2] <;> rfl)⟩
 refine ⟨h6, dsp (fun h8 p8 => ?_) fun h8 p8 => ?_⟩
 refine ⟨(utfByte_s d.utf _), fun h9 => have q9 := bnot_t h9; ?_, fun h9 => have q9 := bnot_f h9; ?_⟩
 have hu : utfByte d.utf b = none := by simpa using q9
 refine ⟨(fail_s (⟨d.plan, d.mode, List.set d.stack (Int.toNat ((d.stack.length : Int) - 1)) (⟨x1.msg, x1.left - 1⟩ : Lev), d.scan, d.start, d.at_ + 1, d.field, d.wire, d.want - 1, d.utf, d.end_⟩ : Dcd) _ _), ?_⟩
 refine have hm1 : (stepB d b).d = (dFail (⟨d.plan, d.mode, List.set d.stack (Int.toNat ((d.stack.length : Int) - 1)) (⟨x1.msg, x1.left - 1⟩ : Lev), d.scan, d.start, d.at_ + 1, d.field, d.wire, d.want - 1, d.utf, d.end_⟩ : Dcd) 5 d.at_) := ?_; ?_
 rotate_left
 refine have hm2 : (stepB d b).out = [failEv 5 d.at_] := ?_; ?_
 rotate_left
 exact ⟨(by rw [hm1] <;> rfl), (by rw [hm1, hm2] <;> rfl)⟩
 obtain ⟨u, hu⟩ := Option.isSome_iff_exists.1 q9
 have hug : (utfByte d.utf b).getD d.utf = u := by rw [hu]; rfl
 refine ⟨(as_u8 (by omega) (by omega)), (tell_s (⟨d.plan, d.mode, List.set d.stack (Int.toNat ((d.stack.length : Int) - 1)) (⟨x1.msg, x1.left - 1⟩ : Lev), d.scan, d.start, d.at_ + 1, d.field, d.wire, d.want - 1, ((utfByte d.utf b).getD d.utf), d.end_⟩ : Dcd) (⟨4, 0, 0, 0, List.map toByte [b], 0, 0⟩ : Ev) (by simp only [List.length_append, List.length_cons, List.length_nil, List.length_set, List.length_take]; omega)), ?_⟩
 refine have hm1 : (stepB d b).d = (settleM ⟨(⟨d.plan, d.mode, List.set d.stack (Int.toNat ((d.stack.length : Int) - 1)) (⟨x1.msg, x1.left - 1⟩ : Lev), d.scan, d.start, d.at_ + 1, d.field, d.wire, d.want - 1, ((utfByte d.utf b).getD d.utf), d.end_⟩ : Dcd), []⟩).d := ?_; ?_
 rotate_left
 refine have hm2 : (stepB d b).out = (⟨4, 0, 0, 0, List.map toByte [b], 0, 0⟩ : Ev) :: (settleM ⟨(⟨d.plan, d.mode, List.set d.stack (Int.toNat ((d.stack.length : Int) - 1)) (⟨x1.msg, x1.left - 1⟩ : Lev), d.scan, d.start, d.at_ + 1, d.field, d.wire, d.want - 1, ((utfByte d.utf b).getD d.utf), d.end_⟩ : Dcd), []⟩).out := ?_; ?_
 rotate_left
 exact ⟨(by rw [hm1] <;> rfl), (by rw [hm1, hm2] <;> rfl)⟩
 refine ⟨(as_u8 (by omega) (by omega)), (tell_s (⟨d.plan, d.mode, List.set d.stack (Int.toNat ((d.stack.length : Int) - 1)) (⟨x1.msg, x1.left - 1⟩ : Lev), d.scan, d.start, d.at_ + 1, d.field, d.wire, d.want - 1, d.utf, d.end_⟩ : Dcd) (⟨4, 0, 0, 0, List.map toByte [b], 0, 0⟩ : Ev) (by simp only [List.length_append, List.length_cons, List.length_nil, List.length_set, List.length_take]; omega)), ?_⟩
 refine have hm1 : (stepB d b).d = (settleM ⟨(⟨d.plan, d.mode, List.set d.stack (Int.toNat ((d.stack.length : Int) - 1)) (⟨x1.msg, x1.left - 1⟩ : Lev), d.scan, d.start, d.at_ + 1, d.field, d.wire, d.want - 1, d.utf, d.end_⟩ : Dcd), []⟩).d := ?_; ?_
 rotate_left
 refine have hm2 : (stepB d b).out = (⟨4, 0, 0, 0, List.map toByte [b], 0, 0⟩ : Ev) :: (settleM ⟨(⟨d.plan, d.mode, List.set d.stack (Int.toNat ((d.stack.length : Int) - 1)) (⟨x1.msg, x1.left - 1⟩ : Lev), d.scan, d.start, d.at_ + 1, d.field, d.wire, d.want - 1, d.utf, d.end_⟩ : Dcd), []⟩).out := ?_; ?_
 rotate_left
 exact ⟨(by rw [hm1] <;> rfl), (by rw [hm1, hm2] <;> rfl)⟩
 refine dsp (fun h7 p7 => ?_) fun h7 p7 => ?_
 refine ⟨(as_i64 (by omega) (by omega)), (widthD_s d), h7, (settle_s (⟨d.plan, d.mode, List.set d.stack (Int.toNat ((d.stack.length : Int) - 1)) (⟨x1.msg, x1.left - 1⟩ : Lev), d.scan, d.start, d.at_ + 1, d.field, d.wire, d.want - 1, d.utf, d.end_⟩ : Dcd) (by simp only [List.length_append, List.length_cons, List.length_nil, List.length_set, List.length_take]; omega)), ?_⟩
 refine have hm1 : (stepB d b).d = (settleM ⟨(⟨d.plan, d.mode, List.set d.stack (Int.toNat ((d.stack.length : Int) - 1)) (⟨x1.msg, x1.left - 1⟩ : Lev), d.scan, d.start, d.at_ + 1, d.field, d.wire, d.want - 1, d.utf, d.end_⟩ : Dcd), []⟩).d := ?_; ?_
 rotate_left
 refine have hm2 : (stepB d b).out = (settleM ⟨(⟨d.plan, d.mode, List.set d.stack (Int.toNat ((d.stack.length : Int) - 1)) (⟨x1.msg, x1.left - 1⟩ : Lev), d.scan, d.start, d.at_ + 1, d.field, d.wire, d.want - 1, d.utf, d.end_⟩ : Dcd), []⟩).out := ?_; ?_
 rotate_left
 exact ⟨(by rw [hm1] <;> rfl), (by rw [hm1, hm2] <;> rfl)⟩
 refine dsp (fun h8 p8 => ?_) fun h8 p8 => ?_
 refine ⟨(as_i64 (by omega) (by omega)), (widthD_s d), h7, h6, dsp (fun h9 p9 => ?_) fun h9 p9 => ?_⟩
 refine ⟨(fix16_s (⟨d.plan, d.mode, List.set d.stack (Int.toNat ((d.stack.length : Int) - 1)) (⟨x1.msg, x1.left - 1⟩ : Lev), d.scan, d.start, d.at_ + 1, d.field, d.wire, d.want - 1, d.utf, d.end_⟩ : Dcd) _ _ ((by have e : stepD d = (⟨d.plan, d.mode, List.set d.stack (Int.toNat ((d.stack.length : Int) - 1)) (⟨x1.msg, x1.left - 1⟩ : Lev), d.scan, d.start, d.at_ + 1, d.field, d.wire, d.want - 1, d.utf, d.end_⟩ : Dcd) := (by first | ((simp_all [stepD]; done)) | (grind [stepD])); exact (e ▸ hms : MW (⟨d.plan, d.mode, List.set d.stack (Int.toNat ((d.stack.length : Int) - 1)) (⟨x1.msg, x1.left - 1⟩ : Lev), d.scan, d.start, d.at_ + 1, d.field, d.wire, d.want - 1, d.utf, d.end_⟩ : Dcd)))) (by omega) (by first | omega | rfl | (dsimp only; omega)) (hst.2.2.2.1)), ?_⟩
 refine have hm1 : (stepB d b).d = (fixM ⟨(⟨d.plan, d.mode, List.set d.stack (Int.toNat ((d.stack.length : Int) - 1)) (⟨x1.msg, x1.left - 1⟩ : Lev), d.scan, d.start, d.at_ + 1, d.field, d.wire, d.want - 1, d.utf, d.end_⟩ : Dcd), []⟩ b).d := ?_; ?_
 rotate_left
 refine have hm2 : (stepB d b).out = (fixM ⟨(⟨d.plan, d.mode, List.set d.stack (Int.toNat ((d.stack.length : Int) - 1)) (⟨x1.msg, x1.left - 1⟩ : Lev), d.scan, d.start, d.at_ + 1, d.field, d.wire, d.want - 1, d.utf, d.end_⟩ : Dcd), []⟩ b).out := ?_; ?_
 rotate_left
 exact ⟨(by rw [hm1] <;> rfl), (by rw [hm1, hm2] <;> rfl)⟩
 refine ⟨(scan16_s (⟨d.plan, d.mode, List.set d.stack (Int.toNat ((d.stack.length : Int) - 1)) (⟨x1.msg, x1.left - 1⟩ : Lev), d.scan, d.start, d.at_ + 1, d.field, d.wire, d.want - 1, d.utf, d.end_⟩ : Dcd) _ _ ((by have e : stepD d = (⟨d.plan, d.mode, List.set d.stack (Int.toNat ((d.stack.length : Int) - 1)) (⟨x1.msg, x1.left - 1⟩ : Lev), d.scan, d.start, d.at_ + 1, d.field, d.wire, d.want - 1, d.utf, d.end_⟩ : Dcd) := (by first | ((simp_all [stepD]; done)) | (grind [stepD])); exact (e ▸ hms : MW (⟨d.plan, d.mode, List.set d.stack (Int.toNat ((d.stack.length : Int) - 1)) (⟨x1.msg, x1.left - 1⟩ : Lev), d.scan, d.start, d.at_ + 1, d.field, d.wire, d.want - 1, d.utf, d.end_⟩ : Dcd)))) (by omega)), ?_⟩
 refine have hm1 : (stepB d b).d = (varM ⟨(⟨d.plan, d.mode, List.set d.stack (Int.toNat ((d.stack.length : Int) - 1)) (⟨x1.msg, x1.left - 1⟩ : Lev), d.scan, d.start, d.at_ + 1, d.field, d.wire, d.want - 1, d.utf, d.end_⟩ : Dcd), []⟩ b d.at_).d := ?_; ?_
 rotate_left
 refine have hm2 : (stepB d b).out = (varM ⟨(⟨d.plan, d.mode, List.set d.stack (Int.toNat ((d.stack.length : Int) - 1)) (⟨x1.msg, x1.left - 1⟩ : Lev), d.scan, d.start, d.at_ + 1, d.field, d.wire, d.want - 1, d.utf, d.end_⟩ : Dcd), []⟩ b d.at_).out := ?_; ?_
 rotate_left
 exact ⟨(by rw [hm1] <;> rfl), (by rw [hm1, hm2] <;> rfl)⟩
 refine ⟨(widthD_s d), h7, h6, dsp (fun h9 p9 => ?_) fun h9 p9 => ?_⟩
 refine ⟨(fix16_s (⟨d.plan, d.mode, List.set d.stack (Int.toNat ((d.stack.length : Int) - 1)) (⟨x1.msg, x1.left - 1⟩ : Lev), d.scan, d.start, d.at_ + 1, d.field, d.wire, d.want, d.utf, d.end_⟩ : Dcd) _ _ ((by have e : stepD d = (⟨d.plan, d.mode, List.set d.stack (Int.toNat ((d.stack.length : Int) - 1)) (⟨x1.msg, x1.left - 1⟩ : Lev), d.scan, d.start, d.at_ + 1, d.field, d.wire, d.want, d.utf, d.end_⟩ : Dcd) := (by first | ((simp_all [stepD]; done)) | (grind [stepD])); exact (e ▸ hms : MW (⟨d.plan, d.mode, List.set d.stack (Int.toNat ((d.stack.length : Int) - 1)) (⟨x1.msg, x1.left - 1⟩ : Lev), d.scan, d.start, d.at_ + 1, d.field, d.wire, d.want, d.utf, d.end_⟩ : Dcd)))) (by omega) (by first | omega | rfl | (dsimp only; omega)) (hst.2.2.2.1)), ?_⟩
 refine have hm1 : (stepB d b).d = (fixM ⟨(⟨d.plan, d.mode, List.set d.stack (Int.toNat ((d.stack.length : Int) - 1)) (⟨x1.msg, x1.left - 1⟩ : Lev), d.scan, d.start, d.at_ + 1, d.field, d.wire, d.want, d.utf, d.end_⟩ : Dcd), []⟩ b).d := ?_; ?_
 rotate_left
 refine have hm2 : (stepB d b).out = (fixM ⟨(⟨d.plan, d.mode, List.set d.stack (Int.toNat ((d.stack.length : Int) - 1)) (⟨x1.msg, x1.left - 1⟩ : Lev), d.scan, d.start, d.at_ + 1, d.field, d.wire, d.want, d.utf, d.end_⟩ : Dcd), []⟩ b).out := ?_; ?_
 rotate_left
 exact ⟨(by rw [hm1] <;> rfl), (by rw [hm1, hm2] <;> rfl)⟩
 refine ⟨(scan16_s (⟨d.plan, d.mode, List.set d.stack (Int.toNat ((d.stack.length : Int) - 1)) (⟨x1.msg, x1.left - 1⟩ : Lev), d.scan, d.start, d.at_ + 1, d.field, d.wire, d.want, d.utf, d.end_⟩ : Dcd) _ _ ((by have e : stepD d = (⟨d.plan, d.mode, List.set d.stack (Int.toNat ((d.stack.length : Int) - 1)) (⟨x1.msg, x1.left - 1⟩ : Lev), d.scan, d.start, d.at_ + 1, d.field, d.wire, d.want, d.utf, d.end_⟩ : Dcd) := (by first | ((simp_all [stepD]; done)) | (grind [stepD])); exact (e ▸ hms : MW (⟨d.plan, d.mode, List.set d.stack (Int.toNat ((d.stack.length : Int) - 1)) (⟨x1.msg, x1.left - 1⟩ : Lev), d.scan, d.start, d.at_ + 1, d.field, d.wire, d.want, d.utf, d.end_⟩ : Dcd)))) (by omega)), ?_⟩
 refine have hm1 : (stepB d b).d = (varM ⟨(⟨d.plan, d.mode, List.set d.stack (Int.toNat ((d.stack.length : Int) - 1)) (⟨x1.msg, x1.left - 1⟩ : Lev), d.scan, d.start, d.at_ + 1, d.field, d.wire, d.want, d.utf, d.end_⟩ : Dcd), []⟩ b d.at_).d := ?_; ?_
 rotate_left
 refine have hm2 : (stepB d b).out = (varM ⟨(⟨d.plan, d.mode, List.set d.stack (Int.toNat ((d.stack.length : Int) - 1)) (⟨x1.msg, x1.left - 1⟩ : Lev), d.scan, d.start, d.at_ + 1, d.field, d.wire, d.want, d.utf, d.end_⟩ : Dcd), []⟩ b d.at_).out := ?_; ?_
 rotate_left
 exact ⟨(by rw [hm1] <;> rfl), (by rw [hm1, hm2] <;> rfl)⟩
 have hne : d.stack = [] := List.eq_nil_of_length_eq_zero (by omega)
 refine dsp (fun h6 p6 => ?_) fun h6 p6 => ?_
 refine ⟨(as_i64 (by omega) (by omega)), (widthD_s d), dsp (fun h7 p7 => ?_) fun h7 p7 => ?_⟩
 refine ⟨(settle_s (⟨d.plan, d.mode, d.stack, d.scan, d.start, d.at_ + 1, d.field, d.wire, d.want - 1, d.utf, d.end_⟩ : Dcd) (by first | omega | rfl | (dsimp only; omega))), ?_⟩
 refine have hm1 : (stepB d b).d = (settleM ⟨(⟨d.plan, d.mode, d.stack, d.scan, d.start, d.at_ + 1, d.field, d.wire, d.want - 1, d.utf, d.end_⟩ : Dcd), []⟩).d := ?_; ?_
 rotate_left
 refine have hm2 : (stepB d b).out = (settleM ⟨(⟨d.plan, d.mode, d.stack, d.scan, d.start, d.at_ + 1, d.field, d.wire, d.want - 1, d.utf, d.end_⟩ : Dcd), []⟩).out := ?_; ?_
 rotate_left
 exact ⟨(by rw [hm1] <;> rfl), (by rw [hm1, hm2] <;> rfl)⟩
 refine ⟨h6, dsp (fun h8 p8 => ?_) fun h8 p8 => ?_⟩
 refine ⟨(utfByte_s d.utf _), fun h9 => have q9 := bnot_t h9; ?_, fun h9 => have q9 := bnot_f h9; ?_⟩
 have hu : utfByte d.utf b = none := by simpa using q9
 refine ⟨(fail_s (⟨d.plan, d.mode, d.stack, d.scan, d.start, d.at_ + 1, d.field, d.wire, d.want - 1, d.utf, d.end_⟩ : Dcd) _ _), ?_⟩
 refine have hm1 : (stepB d b).d = (dFail (⟨d.plan, d.mode, d.stack, d.scan, d.start, d.at_ + 1, d.field, d.wire, d.want - 1, d.utf, d.end_⟩ : Dcd) 5 d.at_) := ?_; ?_
 rotate_left
 refine have hm2 : (stepB d b).out = [failEv 5 d.at_] := ?_; ?_
 rotate_left
 exact ⟨(by rw [hm1] <;> rfl), (by rw [hm1, hm2] <;> rfl)⟩
 obtain ⟨u, hu⟩ := Option.isSome_iff_exists.1 q9
 have hug : (utfByte d.utf b).getD d.utf = u := by rw [hu]; rfl
 refine ⟨(as_u8 (by omega) (by omega)), (tell_s (⟨d.plan, d.mode, d.stack, d.scan, d.start, d.at_ + 1, d.field, d.wire, d.want - 1, ((utfByte d.utf b).getD d.utf), d.end_⟩ : Dcd) (⟨4, 0, 0, 0, List.map toByte [b], 0, 0⟩ : Ev) (by first | omega | rfl | (dsimp only; omega))), ?_⟩
 refine have hm1 : (stepB d b).d = (settleM ⟨(⟨d.plan, d.mode, d.stack, d.scan, d.start, d.at_ + 1, d.field, d.wire, d.want - 1, ((utfByte d.utf b).getD d.utf), d.end_⟩ : Dcd), []⟩).d := ?_; ?_
 rotate_left
 refine have hm2 : (stepB d b).out = (⟨4, 0, 0, 0, List.map toByte [b], 0, 0⟩ : Ev) :: (settleM ⟨(⟨d.plan, d.mode, d.stack, d.scan, d.start, d.at_ + 1, d.field, d.wire, d.want - 1, ((utfByte d.utf b).getD d.utf), d.end_⟩ : Dcd), []⟩).out := ?_; ?_
 rotate_left
 exact ⟨(by rw [hm1] <;> rfl), (by rw [hm1, hm2] <;> rfl)⟩
 refine ⟨(as_u8 (by omega) (by omega)), (tell_s (⟨d.plan, d.mode, d.stack, d.scan, d.start, d.at_ + 1, d.field, d.wire, d.want - 1, d.utf, d.end_⟩ : Dcd) (⟨4, 0, 0, 0, List.map toByte [b], 0, 0⟩ : Ev) (by first | omega | rfl | (dsimp only; omega))), ?_⟩
 refine have hm1 : (stepB d b).d = (settleM ⟨(⟨d.plan, d.mode, d.stack, d.scan, d.start, d.at_ + 1, d.field, d.wire, d.want - 1, d.utf, d.end_⟩ : Dcd), []⟩).d := ?_; ?_
 rotate_left
 refine have hm2 : (stepB d b).out = (⟨4, 0, 0, 0, List.map toByte [b], 0, 0⟩ : Ev) :: (settleM ⟨(⟨d.plan, d.mode, d.stack, d.scan, d.start, d.at_ + 1, d.field, d.wire, d.want - 1, d.utf, d.end_⟩ : Dcd), []⟩).out := ?_; ?_
 rotate_left
 exact ⟨(by rw [hm1] <;> rfl), (by rw [hm1, hm2] <;> rfl)⟩
 refine dsp (fun h7 p7 => ?_) fun h7 p7 => ?_
 refine ⟨(as_i64 (by omega) (by omega)), (widthD_s d), h7, (settle_s (⟨d.plan, d.mode, d.stack, d.scan, d.start, d.at_ + 1, d.field, d.wire, d.want - 1, d.utf, d.end_⟩ : Dcd) (by first | omega | rfl | (dsimp only; omega))), ?_⟩
 refine have hm1 : (stepB d b).d = (settleM ⟨(⟨d.plan, d.mode, d.stack, d.scan, d.start, d.at_ + 1, d.field, d.wire, d.want - 1, d.utf, d.end_⟩ : Dcd), []⟩).d := ?_; ?_
 rotate_left
 refine have hm2 : (stepB d b).out = (settleM ⟨(⟨d.plan, d.mode, d.stack, d.scan, d.start, d.at_ + 1, d.field, d.wire, d.want - 1, d.utf, d.end_⟩ : Dcd), []⟩).out := ?_; ?_
 rotate_left
 exact ⟨(by rw [hm1] <;> rfl), (by rw [hm1, hm2] <;> rfl)⟩
 refine dsp (fun h8 p8 => ?_) fun h8 p8 => ?_
 refine ⟨(as_i64 (by omega) (by omega)), (widthD_s d), h7, h6, dsp (fun h9 p9 => ?_) fun h9 p9 => ?_⟩
 refine ⟨(fix16_s (⟨d.plan, d.mode, d.stack, d.scan, d.start, d.at_ + 1, d.field, d.wire, d.want - 1, d.utf, d.end_⟩ : Dcd) _ _ ((by have e : stepD d = (⟨d.plan, d.mode, d.stack, d.scan, d.start, d.at_ + 1, d.field, d.wire, d.want - 1, d.utf, d.end_⟩ : Dcd) := (by first | ((simp_all [stepD]; done)) | (grind [stepD])); exact (e ▸ hms : MW (⟨d.plan, d.mode, d.stack, d.scan, d.start, d.at_ + 1, d.field, d.wire, d.want - 1, d.utf, d.end_⟩ : Dcd)))) (by omega) (by first | omega | rfl | (dsimp only; omega)) (hst.2.2.2.1)), ?_⟩
 refine have hm1 : (stepB d b).d = (fixM ⟨(⟨d.plan, d.mode, d.stack, d.scan, d.start, d.at_ + 1, d.field, d.wire, d.want - 1, d.utf, d.end_⟩ : Dcd), []⟩ b).d := ?_; ?_
 rotate_left
 refine have hm2 : (stepB d b).out = (fixM ⟨(⟨d.plan, d.mode, d.stack, d.scan, d.start, d.at_ + 1, d.field, d.wire, d.want - 1, d.utf, d.end_⟩ : Dcd), []⟩ b).out := ?_; ?_
 rotate_left
 exact ⟨(by rw [hm1] <;> rfl), (by rw [hm1, hm2] <;> rfl)⟩
 refine ⟨(scan16_s (⟨d.plan, d.mode, d.stack, d.scan, d.start, d.at_ + 1, d.field, d.wire, d.want - 1, d.utf, d.end_⟩ : Dcd) _ _ ((by have e : stepD d = (⟨d.plan, d.mode, d.stack, d.scan, d.start, d.at_ + 1, d.field, d.wire, d.want - 1, d.utf, d.end_⟩ : Dcd) := (by first | ((simp_all [stepD]; done)) | (grind [stepD])); exact (e ▸ hms : MW (⟨d.plan, d.mode, d.stack, d.scan, d.start, d.at_ + 1, d.field, d.wire, d.want - 1, d.utf, d.end_⟩ : Dcd)))) (by omega)), ?_⟩
 refine have hm1 : (stepB d b).d = (varM ⟨(⟨d.plan, d.mode, d.stack, d.scan, d.start, d.at_ + 1, d.field, d.wire, d.want - 1, d.utf, d.end_⟩ : Dcd), []⟩ b d.at_).d := ?_; ?_
 rotate_left
 refine have hm2 : (stepB d b).out = (varM ⟨(⟨d.plan, d.mode, d.stack, d.scan, d.start, d.at_ + 1, d.field, d.wire, d.want - 1, d.utf, d.end_⟩ : Dcd), []⟩ b d.at_).out := ?_; ?_
 rotate_left
 exact ⟨(by rw [hm1] <;> rfl), (by rw [hm1, hm2] <;> rfl)⟩
 refine ⟨(widthD_s d), h7, h6, dsp (fun h9 p9 => ?_) fun h9 p9 => ?_⟩
 refine ⟨(fix16_s (⟨d.plan, d.mode, d.stack, d.scan, d.start, d.at_ + 1, d.field, d.wire, d.want, d.utf, d.end_⟩ : Dcd) _ _ ((by have e : stepD d = (⟨d.plan, d.mode, d.stack, d.scan, d.start, d.at_ + 1, d.field, d.wire, d.want, d.utf, d.end_⟩ : Dcd) := (by first | ((simp_all [stepD]; done)) | (grind [stepD])); exact (e ▸ hms : MW (⟨d.plan, d.mode, d.stack, d.scan, d.start, d.at_ + 1, d.field, d.wire, d.want, d.utf, d.end_⟩ : Dcd)))) (by omega) (by first | omega | rfl | (dsimp only; omega)) (hst.2.2.2.1)), ?_⟩
 refine have hm1 : (stepB d b).d = (fixM ⟨(⟨d.plan, d.mode, d.stack, d.scan, d.start, d.at_ + 1, d.field, d.wire, d.want, d.utf, d.end_⟩ : Dcd), []⟩ b).d := ?_; ?_
 rotate_left
 refine have hm2 : (stepB d b).out = (fixM ⟨(⟨d.plan, d.mode, d.stack, d.scan, d.start, d.at_ + 1, d.field, d.wire, d.want, d.utf, d.end_⟩ : Dcd), []⟩ b).out := ?_; ?_
 rotate_left
 exact ⟨(by rw [hm1] <;> rfl), (by rw [hm1, hm2] <;> rfl)⟩
 refine ⟨(scan16_s (⟨d.plan, d.mode, d.stack, d.scan, d.start, d.at_ + 1, d.field, d.wire, d.want, d.utf, d.end_⟩ : Dcd) _ _ ((by have e : stepD d = (⟨d.plan, d.mode, d.stack, d.scan, d.start, d.at_ + 1, d.field, d.wire, d.want, d.utf, d.end_⟩ : Dcd) := (by first | ((simp_all [stepD]; done)) | (grind [stepD])); exact (e ▸ hms : MW (⟨d.plan, d.mode, d.stack, d.scan, d.start, d.at_ + 1, d.field, d.wire, d.want, d.utf, d.end_⟩ : Dcd)))) (by omega)), ?_⟩
 refine have hm1 : (stepB d b).d = (varM ⟨(⟨d.plan, d.mode, d.stack, d.scan, d.start, d.at_ + 1, d.field, d.wire, d.want, d.utf, d.end_⟩ : Dcd), []⟩ b d.at_).d := ?_; ?_
 rotate_left
 refine have hm2 : (stepB d b).out = (varM ⟨(⟨d.plan, d.mode, d.stack, d.scan, d.start, d.at_ + 1, d.field, d.wire, d.want, d.utf, d.end_⟩ : Dcd), []⟩ b d.at_).out := ?_; ?_
 rotate_left
 exact ⟨(by rw [hm1] <;> rfl), (by rw [hm1, hm2] <;> rfl)⟩
 all_goals first | ((rw [hsb]; simp_all [byteM, stepD, textB, dUtf, mFail, dFail, evPrt, settleM_one]; done)) | ((rw [hsb]; have hw0 : widthD d = 0 := (by omega); simp_all [byteM, stepD, textB, dUtf, mFail, dFail, evPrt, settleM_one]; done)) | ((rw [hsb]; grind [byteM, stepD, textB, dUtf, mFail, dFail, evPrt, settleM_one])) | (simp_all [stepB, takesD]; done) | (grind [stepB, takesD])
structure stepAll_s_V0 where
 d : Dcd
 out : List Ev
 i : Nat
def stepAll_s_F0 (d : Dcd) (s : List UInt8) : Fam := ⟨stepAll_s_V0, fun q1 => [(1, .v (vT s)), (2, .v (vP 0)), (4, .v (vP 3)), (6, .v (vO 4)), (7, .v (vI (q1.i : Int)))], fun q1 => [.cells (oDcd0_5 1 2 q1.d), .tree q1.d.plan.shapes, .lst .lev q1.d.stack, .cells [.nil, .int .i64 0, .int .i64 0, .int .i64 0, .int .i64 0, .nil, .int .u64 0, .int .i64 0, .int .i64 0, .int .i64 0, .int .i64 0, .int .i64 0, .bool false, .bool false, .int .i64 0, .int .i64 0, .int .i64 0, .int .i64 0, .int .i64 0, .int .i64 0, .int .i64 0, .int .i64 0, .int .u64 0, .int .i64 0, .str [], .int .i64 0, .int .i64 0], .lst .ev q1.out], fun q1 => q1.i ≤ s.length ∧ feedM ⟨q1.d, q1.out⟩ (List.drop q1.i s) = feedM ⟨d, []⟩ s ∧ (q1.d).plan = d.plan ∧ List.length (q1.d).stack ≤ 1048576 ∧ ((0 : Int) ≤ (q1.d).scan.bits ∧ (q1.d).scan.bits ≤ 18446744073709551615) ∧ q1.out.length ≤ 14 * q1.i, fun q1 => s.length - q1.i⟩
theorem stepAll_s (d : Dcd) (s : List UInt8) (hp1 : List.length (d).plan.shapes ≤ 1048576) (hp2 : ∀ e ∈ (d).plan.shapes, e.fields.length ≤ 1048576) (hp3 : List.length (d).stack ≤ 1048576) (hp4 : (0 : Int) ≤ (d).scan.bits ∧ (d).scan.bits ≤ 18446744073709551615) (hp5 : s.length ≤ 1048576) : Fun Tryz.prog 118 [.agg (cDcd d), vT s] [] (.tup [.agg (oDcd0_5 0 1 (feedM ⟨d, []⟩ s).d), vO 2]) [.tree (feedM ⟨d, []⟩ s).d.plan.shapes, .lst .lev (feedM ⟨d, []⟩ s).d.stack, .lst .ev (feedM ⟨d, []⟩ s).out] := by
 have hN : bigN = 274877906944 := rfl
 refine fun_ofw Tryz.func118 (by kernel_rfl) (by kernel_rfl) (w := let zi : Int → C := .int .i64; let z5 : List C := [.nil, zi 0, zi 0, zi 0, zi 0, .nil, .int .u64 0, zi 0, zi 0, zi 0, zi 0, zi 0, .bool false, .bool false, zi 0, zi 0, zi 0, zi 0, zi 0, zi 0, zi 0, zi 0, .int .u64 0, zi 0, .str [], zi 0, zi 0]; let z6 := stepAll_s_F0 d s; let z7 := feedM ⟨d, []⟩ s; (.seg [.call [] (.v (.agg (oDcd0_5 0 1 d))) [.tree d.plan.shapes, .lst .lev d.stack], .ty .ev, .at 0, .keep [1, 2, 4, 6, 7], .sel [0, 2, 3, 1, 4]] (.loop z6 fun q1 => .br (.intro (fun (x1 : UInt8) => s[q1.i]? = some x1) fun x1 => let z1 := stepB q1.d ((UInt8.toNat x1 : Nat) : Int); .seg [.tree (fr (.two 5 (fr (.one 9 (.one 10 (.first 11 (.done)))) 6 3) 9 (.one 5 (fr (.one 10 (.first 11 (.done))) 6 3))) 0 5) 12 [], .ch x1, .as 24 (.v (vI ((UInt8.toNat x1 : Nat) : Int))), .call [] (.tup [.agg (oDcd0_5 0 1 z1.d), vO 2]) [.tree z1.d.plan.shapes, .lst .lev z1.d.stack, .lst .ev z1.out], .at 0, .keep [1, 2, 4, 6, 7, 8, 9], .sel [0, 1, 2, 3, 4, 8, 5, 6, 7], .call [] (.tup [.agg (oDcd0_5 0 1 z1.d), vO 2]) [.tree z1.d.plan.shapes, .lst .lev z1.d.stack, .lst .ev z1.out], .at 0, .keep [1, 2, 4, 6, 7, 8, 9], .sel [0, 1, 2, 3, 4, 5, 6, 7, 8], .ty .ev, .as 18 (.v (vI ((q1.i : Int) + 1))), .at 0, .keep [1, 2, 4, 6, 7], .sel [0, 6, 7, 3, 9]] (.next)) (.leaf () [1, 2, 4])), (Fun Tryz.prog 63 [.agg (cDcd d)] [] (.v (.agg (oDcd0_5 0 1 d))) [.tree d.plan.shapes, .lst .lev d.stack]) ∧ z6.Has [(1, .v (vT s)), (2, .v (vP 0)), (4, .v (vP 3)), (6, .v (vO 4)), (7, .v (vI 0))] [.cells (oDcd0_5 1 2 d), .tree d.plan.shapes, .lst .lev d.stack, .cells z5, .lst .ev ([] : List Ev)] ∧ ∀ q1, z6.inv q1 → (let z4 := (q1.i : Int); ((decide (z4 < (s.length : Int))) = true → (∃ (x1 : UInt8), s[q1.i]? = some x1) ∧ ∀ (x1 : UInt8), (s[q1.i]? = some x1) → (let z3 := ((UInt8.toNat x1 : Nat) : Int); let z2 := stepB q1.d z3; (s[q1.i]? = some x1) ∧ ((0 : Int) ≤ z4) ∧ (s[q1.i]? = some x1) ∧ ((0 : Int) ≤ z4) ∧ ((.v (vI (IntKind.i64.wrap (z3))) : S) = .v (vI z3)) ∧ ((.v (vI (IntKind.i64.wrap (z3))) : S) = .v (vI z3)) ∧ (Fun Tryz.prog 52 [.agg (cDcd q1.d), vI z3] [] (.tup [.agg (oDcd0_5 0 1 z2.d), vO 2]) [.tree z2.d.plan.shapes, .lst .lev z2.d.stack, .lst .ev z2.out]) ∧ (Fun Tryz.prog 52 [.agg (cDcd q1.d), vI z3] [] (.tup [.agg (oDcd0_5 0 1 z2.d), vO 2]) [.tree z2.d.plan.shapes, .lst .lev z2.d.stack, .lst .ev z2.out]) ∧ (([.cells (oDcd0_5 1 2 q1.d), .tree q1.d.plan.shapes, .lst .lev q1.d.stack, .cells z5, .lst .ev q1.out, .cells (oDcd0_5 6 7 z2.d), .tree z2.d.plan.shapes, .lst .lev z2.d.stack, .lst .ev z2.out] : List Blk) = [.cells (oDcd0_5 1 2 q1.d), .tree q1.d.plan.shapes, .lst .lev q1.d.stack, .cells z5, .lst .ev q1.out, .cells (oDcd0_5 6 7 z2.d), .tree z2.d.plan.shapes, .lst .lev z2.d.stack, .lst .ev z2.out]) ∧ (([(1, .v (vT s)), (2, .v (vP 0)), (4, .v (vP 3)), (6, .v (vO 4)), (7, .v (vI z4)), (8, .v (vP 5)), (9, .v (vO 8))] : List (Nat × S)) = [(1, .v (vT s)), (2, .v (vP 0)), (4, .v (vP 3)), (6, .v (vO 4)), (7, .v (vI z4)), (8, .v (vP 5)), (9, .v (vO 8))]) ∧ (q1.out.length + z2.out.length ≤ bigN) ∧ ((.v (vI (IntKind.i64.wrap (z4 + 1))) : S) = .v (vI (z4 + 1))) ∧ z6.Nxt q1 [(1, .v (vT s)), (2, .v (vP 0)), (4, .v (vP 3)), (6, .v (vO 4)), (7, .v (vI (z4 + 1)))] [.cells (oDcd0_5 1 2 z2.d), .tree z2.d.plan.shapes, .lst .lev z2.d.stack, .cells z5, .lst .ev (q1.out ++ z2.out)])) ∧ ((decide (z4 < (s.length : Int))) = false → (.tup [.agg (oDcd0_5 0 1 q1.d), vO 2] : S) = .tup [.agg (oDcd0_5 0 1 z7.d), vO 2] ∧ ([.tree q1.d.plan.shapes, .lst .lev q1.d.stack, .lst .ev q1.out] : List Blk) = [.tree z7.d.plan.shapes, .lst .lev z7.d.stack, .lst .ev z7.out])))) (by kernel_rfl) ?_
 refine ⟨(copyDec_s d (by omega) ((by first | (exact hsf) | (exact hp2))) (by omega)), has_of (j := (⟨d, ([] : List Ev), 0⟩ : stepAll_s_V0)) (by first | rfl | simp) rfl (by dsimp only [stepAll_s_F0]; exact ⟨by omega, rfl, rfl, hp3, hp4, by simp⟩), fun (q1 : stepAll_s_V0) hq_q1 => ?_⟩
 have hi_q1 : q1.i ≤ s.length ∧ feedM ⟨q1.d, q1.out⟩ (List.drop q1.i s) = feedM ⟨d, []⟩ s ∧ (q1.d).plan = d.plan ∧ List.length (q1.d).stack ≤ 1048576 ∧ ((0 : Int) ≤ (q1.d).scan.bits ∧ (q1.d).scan.bits ≤ 18446744073709551615) ∧ q1.out.length ≤ 14 * q1.i := hq_q1
 obtain ⟨v1, v2, v3, v4, v5, v6⟩ := hi_q1
 have hsl : q1.d.plan.shapes.length = d.plan.shapes.length := by rw [v3]
 have hsf : ∀ e ∈ q1.d.plan.shapes, e.fields.length ≤ 1048576 := by rw [v3]; exact hp2
 refine dsp (fun h1 p1 => ?_) fun h1 p1 => ?_
 refine ⟨(ax_get (l := s) (i := q1.i) (by omega)), fun x1 hx1 => ?_⟩
 have hb_x1 := UInt8.toNat_lt x1
 rw [drop_el hx1, feedM_cons] at v2
 have hub := u8_b x1
 have hl := stepB_lim (d := q1.d) (b := (x1.toNat : Int))
 exact ⟨hx1, (by omega), hx1, (by omega), (as_i64 (by omega) (by omega)), (as_i64 (by omega) (by omega)), (stepB_s q1.d _ (by omega) ((by first | (exact hsf) | (exact hp2))) (by omega) (by omega)), (stepB_s q1.d _ (by omega) ((by first | (exact hsf) | (exact hp2))) (by omega) (by omega)), rfl, rfl, (by omega), (as_i64 (by omega) (by omega)), nxt_of (j := (⟨(stepB q1.d ((UInt8.toNat x1 : Nat) : Int)).d, q1.out ++ (stepB q1.d ((UInt8.toNat x1 : Nat) : Int)).out, q1.i + 1⟩ : stepAll_s_V0)) (by first | rfl | simp) rfl (by dsimp only [stepAll_s_F0]; exact ⟨by omega, by rw [← v2]; rfl, hl.1.trans v3, by omega, hl.2.2.2 v5, by rw [List.length_append]; omega⟩) (by dsimp only [stepAll_s_F0]; omega)⟩
 rw [List.drop_eq_nil_of_le (by omega), feedM_nil] at v2
 refine have hm1 : (feedM ⟨d, []⟩ s).d = q1.d := ?_; ?_
 rotate_left
 refine have hm2 : (feedM ⟨d, []⟩ s).out = q1.out := ?_; ?_
 rotate_left
 exact ⟨(by rw [hm1] <;> rfl), (by rw [hm1, hm2] <;> rfl)⟩
 all_goals first | (rfl) | ((rw [← v2]; done)) | (grind)
theorem map_toByte_toNat (s : List UInt8) : List.map toByte (List.map (fun b => (UInt8.toNat b : Int)) s) = s := by
 rw [List.map_map]
 conv => rhs; rw [← List.map_id s]
 apply List.map_congr_left
 intro b _
 simp [toByte]
def lastE (l : List Ev) : Ev := l.getD (l.length - 1) ev0
def withT (e : Ev) (t : List UInt8) : Ev := ⟨e.kind, e.field, e.bits, e.len, t, e.code, e.at_⟩
def tx : List Ev → Nat
 | [] => 0
 | e :: r => e.text.length + tx r
def mergeE (o : List Ev) (e : Ev) : List Ev :=
 if e.kind = 4 ∧ e.text = [] then o
 else if e.kind = 4 ∧ 0 < o.length ∧ (lastE o).kind = 4 then o.set (o.length - 1) (withT (lastE o) ((lastE o).text ++ e.text))
 else o ++ [e]
def mergeG (o l : List Ev) : List Ev := l.foldl mergeE o
def merged (l : List Ev) : List Ev := mergeG [] l
theorem mergeG_nil (o : List Ev) : mergeG o [] = o := rfl
theorem mergeG_cons (o : List Ev) (e : Ev) (r : List Ev) : mergeG o (e :: r) = mergeG (mergeE o e) r := List.foldl_cons ..
theorem tx_append : ∀ (a b : List Ev), tx (a ++ b) = tx a + tx b
 | [], b => by simp [tx]
 | e :: r, b => by rw [List.cons_append, tx, tx, tx_append r b]; omega
theorem tx_mem : ∀ {l : List Ev} {i : Nat} {x : Ev}, l[i]? = some x → x.text.length ≤ tx l
 | [], i, x, h => by simp at h
 | y :: r, 0, x, h => by simp at h; subst h; rw [tx]; omega
 | y :: r, i + 1, x, h => by
  have := tx_mem (l := r) (i := i) (x := x) (by simpa using h)
  rw [tx]; omega
theorem tx_set : ∀ {l : List Ev} {i : Nat} {x : Ev} (t : List UInt8), l[i]? = some x → tx (l.set i (withT x (x.text ++ t))) = tx l + t.length
 | [], i, x, t, h => by simp at h
 | y :: r, 0, x, t, h => by simp at h; subst h; simp only [List.set_cons_zero, tx, withT, List.length_append]; omega
 | y :: r, i + 1, x, t, h => by
  have := tx_set (l := r) (i := i) (x := x) t (by simpa using h)
  simp only [List.set_cons_succ, tx, this]; omega
theorem lastE_el {l : List Ev} {x : Ev} (h : l[l.length - 1]? = some x) : lastE l = x := by unfold lastE; exact getD_of h
theorem lastE_snoc (o : List Ev) (e : Ev) : lastE (o ++ [e]) = e := lastE_el (by simp)
theorem mergeE_skip {o : List Ev} {e : Ev} (h : e.kind = 4) (ht : e.text = []) : mergeE o e = o := by unfold mergeE; rw [if_pos ⟨h, ht⟩]
theorem mergeE_other {o : List Ev} {e : Ev} (h : e.kind ≠ 4) : mergeE o e = o ++ [e] := by unfold mergeE; rw [if_neg (fun x => h x.1), if_neg (fun x => h x.1)]
theorem mergeE_new {o : List Ev} {e : Ev} (ht : e.text ≠ []) (hs : ¬ (0 < o.length ∧ (lastE o).kind = 4)) : mergeE o e = o ++ [e] := by unfold mergeE; rw [if_neg (fun x => ht x.2), if_neg (fun x => hs x.2)]
theorem mergeE_more {o : List Ev} {e x : Ev} (hk : e.kind = 4) (ht : e.text ≠ []) (h0 : 0 < o.length) (hx : o[o.length - 1]? = some x) (hx4 : x.kind = 4) : mergeE o e = o.set (o.length - 1) (withT x (x.text ++ e.text)) := by
 unfold mergeE
 rw [if_neg (fun y => ht y.2), if_pos ⟨hk, h0, by rw [lastE_el hx]; exact hx4⟩, lastE_el hx]
theorem mergeE_snoc {o : List Ev} {e f : Ev} {t : List UInt8} (hk : e.kind = 4) (ht : e.text ≠ []) (hf : f.kind = 4) : mergeE (o ++ [withT f t]) e = o ++ [withT f (t ++ e.text)] := by
 rw [mergeE_more (x := withT f t) hk ht (by simp) (by simp) hf]
 have e1 : (o ++ [withT f t]).length - 1 = o.length := by simp
 rw [e1, List.set_append_right _ _ (Nat.le_refl _)]
 simp [withT]
def sep (o r : List Ev) : Prop := ∀ x q, r = x :: q → x.kind = 4 → ¬ (0 < o.length ∧ (lastE o).kind = 4)
theorem sep_el {o l : List Ev} {i : Nat} {x : Ev} (h : sep o (l.drop i)) (hx : l[i]? = some x) (hk : x.kind = 4) : ¬ (0 < o.length ∧ (lastE o).kind = 4) := h x _ (drop_el hx) hk
theorem sep_other {o r : List Ev} {e : Ev} (h : e.kind ≠ 4) : sep (o ++ [e]) r := fun _ _ _ _ x => h (by rw [lastE_snoc] at x; exact x.2)
theorem sep_nil {r : List Ev} : sep [] r := fun _ _ _ _ x => absurd x.1 (Nat.lt_irrefl 0)
theorem sep_next {o l : List Ev} {i : Nat} (h : l.length ≤ i ∨ ∃ x, l[i]? = some x ∧ x.kind ≠ 4) : sep o (l.drop i) := by
 intro x q hx hk
 exfalso
 rcases h with h | ⟨y, hy, hn⟩
 ·rw [List.drop_eq_nil_of_le h] at hx; cases hx
 ·rw [drop_el hy] at hx
  cases hx
  exact hn hk
theorem mergeE_part {o : List Ev} {f e : Ev} {t : List UInt8} (hf : f.kind = 4) (hk : e.kind = 4) : mergeE (o ++ [withT f t]) e = o ++ [withT f (t ++ e.text)] := by
 by_cases ht : e.text = []
 ·rw [mergeE_skip hk ht, ht, List.append_nil]
 ·exact mergeE_snoc hk ht hf
def mgInv (o : List Ev) (f : Ev) (t : List UInt8) (fd : Bool) (r m : List Ev) : Prop := (fd = true → f.kind = 4 ∧ mergeG (o ++ [withT f t]) r = m) ∧ (fd = false → t = [] ∧ mergeG o r = m)
theorem mg_start {o r m : List Ev} {e : Ev} (hk : e.kind = 4) (hs : ¬ (0 < o.length ∧ (lastE o).kind = 4)) (h : mergeG (mergeE o e) r = m) : mgInv o e e.text (!decide (e.text = [])) r m := by
 by_cases ht : e.text = []
 ·rw [mergeE_skip hk ht] at h; exact ⟨fun x => by simp [ht] at x, fun _ => ⟨ht, h⟩⟩
 ·rw [mergeE_new ht hs] at h; exact ⟨fun _ => ⟨hk, h⟩, fun x => by simp [ht] at x⟩
theorem mg_A {o r m : List Ev} {f x : Ev} {t : List UInt8} {fd : Bool} (h : mgInv o f t fd (x :: r) m) (hk : x.kind = 4) (hf : fd = true) : mgInv o f (t ++ x.text) fd r m := by
 have h1 := h.1 hf
 refine ⟨fun _ => ⟨h1.1, ?_⟩, fun y => by rw [hf] at y; cases y⟩
 rw [mergeG_cons, mergeE_part h1.1 hk] at h1
 exact h1.2
theorem mg_B {o r m : List Ev} {f x : Ev} {t : List UInt8} {fd : Bool} (h : mgInv o f t fd (x :: r) m) (hk : x.kind = 4) (ht : x.text ≠ []) (hf : fd = false) (hs : ¬ (0 < o.length ∧ (lastE o).kind = 4)) : mgInv o x (t ++ x.text) true r m := by
 have h1 := h.2 hf
 refine ⟨fun _ => ⟨hk, ?_⟩, fun y => by cases y⟩
 rw [mergeG_cons, mergeE_new ht hs] at h1
 rw [h1.1]
 exact h1.2
theorem mg_C {o r m : List Ev} {f x : Ev} {t : List UInt8} {fd : Bool} (h : mgInv o f t fd (x :: r) m) (hk : x.kind = 4) (ht : x.text = []) (hf : fd = false) : mgInv o f (t ++ x.text) fd r m := by
 have h1 := h.2 hf
 refine ⟨fun y => (by rw [hf] at y; cases y), fun _ => ⟨by rw [h1.1, ht]; rfl, ?_⟩⟩
 rw [mergeG_cons, mergeE_skip hk ht] at h1
 exact h1.2
theorem tx_drop : ∀ (l : List Ev) (i : Nat), tx (l.drop i) ≤ tx l
 | [], i => by simp [tx]
 | e :: r, 0 => Nat.le_refl _
 | e :: r, i + 1 => by have := tx_drop r i; rw [List.drop_succ_cons, tx]; omega
theorem mergeE_len (o : List Ev) (e : Ev) : (mergeE o e).length ≤ o.length + 1 := by
 unfold mergeE
 split
 ·omega
 ·split <;> simp
theorem mergeG_len : ∀ (l o : List Ev), (mergeG o l).length ≤ o.length + l.length
 | [], o => Nat.le_refl _
 | e :: r, o => by
  have h1 := mergeE_len o e
  have h2 := mergeG_len r (mergeE o e)
  rw [mergeG_cons, List.length_cons]; omega
theorem merged_len (l : List Ev) : (merged l).length ≤ l.length := by have := mergeG_len l []; simpa [merged] using this
structure merged_s_V0 where
 out : List Ev
 i : Nat
def merged_s_F0 (l : List Ev) : Fam := ⟨merged_s_V0, fun q1 => [(0, .v (.c (.seq .ev l))), (3, .v (vO 0)), (4, .v (vI ((q1.i : Nat) : Int)))], fun q1 => [.lst .ev q1.out], fun q1 => q1.i ≤ List.length l ∧ mergeG q1.out (List.drop q1.i l) = merged l ∧ List.length q1.out ≤ q1.i ∧ tx q1.out + tx (List.drop q1.i l) ≤ tx l, fun q1 => List.length l - q1.i⟩
theorem merged_s (l : List Ev) (hp1 : List.length l ≤ 100000000) (hp2 : tx l ≤ 100000000) : Fun Tryz.prog 119 [.c (.seq .ev l)] [] (.v (vO 0)) [.lst .ev (merged l)] := by
 have hN : bigN = 274877906944 := rfl
 have hI : i64max = 9223372036854775807 := rfl
 refine fun_ofw Tryz.func119 (by kernel_rfl) (by kernel_rfl) (w := let z11 := merged_s_F0 l; (.seg [.ty .ev, .at 0, .keep [0, 3, 4], .sel [0]] (.loop z11 fun q1 => let z6 := vI (((q1.i : Nat) : Int) + 1); let z7 := ((List.length q1.out : Nat) : Int) - 1; .br (.intro (fun (x1 : Ev) => l[q1.i]? = some x1) fun x1 => .seg [.el .ev x1] (.br (.br (.seg [.as 13 (.v z6), .at 0, .keep [0, 3, 4], .sel [0]] (.next)) (.seg [.br true] (.br (.seg [.as 38 (.v (vI z7))] (.intro (fun (x2 : Ev) => q1.out[Int.toNat z7]? = some x2) fun x2 => .seg [.el .ev x2] (.br (.seg [.ord (os 15 [14]) [], .as 46 (.v (vI z7)), .as 49 (.v (vI z7)), .el .ev x2, .el .ev x2, .as 13 (.v z6), .at 0, .keep [0, 3, 4], .sel [0]] (.next)) (.seg [.ty .ev, .ty .ev, .as 13 (.v z6), .at 0, .keep [0, 3, 4], .sel [3]] (.next))))) (.seg [.ty .ev, .ty .ev, .as 13 (.v z6), .at 0, .keep [0, 3, 4], .sel [3]] (.next))))) (.seg [.br false, .ty .ev, .ty .ev, .as 13 (.v z6), .at 0, .keep [0, 3, 4], .sel [3]] (.next)))) (.leaf () [0])), z11.Has [(0, .v (.c (.seq .ev l))), (3, .v (vO 0)), (4, .v (vI 0))] [.lst .ev ([] : List Ev)] ∧ ∀ q1, z11.inv q1 → (let z8 := ((List.length q1.out : Nat) : Int); let z10 := ((q1.i : Nat) : Int); let z9 := (.v (vI (IntKind.i64.wrap (z10 + 1))) : S) = .v (vI (z10 + 1)); ((decide (z10 < ((List.length l : Nat) : Int))) = true → (∃ (x1 : Ev), l[q1.i]? = some x1) ∧ ∀ (x1 : Ev), (l[q1.i]? = some x1) → (let z3 := List.length q1.out + List.length [x1] ≤ bigN; let z4 := decide (x1.kind = 4); let z5 : List Blk := [.lst .ev (q1.out ++ [x1])]; (l[q1.i]? = some x1) ∧ ((0 : Int) ≤ z10) ∧ (z4 = true → ((decide (x1.text = [])) = true → z9 ∧ z11.Nxt q1 [(0, .v (.c (.seq .ev l))), (3, .v (vO 0)), (4, .v (vI (z10 + 1)))] [.lst .ev q1.out]) ∧ ((decide (x1.text = [])) = false → (z4 = true) ∧ ((decide (0 < z8)) = true → ((.v (vI (IntKind.i64.wrap (z8 - 1))) : S) = .v (vI (z8 - 1))) ∧ (∃ (x2 : Ev), q1.out[Int.toNat (z8 - 1)]? = some x2) ∧ ∀ (x2 : Ev), (q1.out[Int.toNat (z8 - 1)]? = some x2) → (let z1 := q1.out[Int.toNat (z8 - 1)]? = some x2; let z2 := ((List.length x2.text + List.length x1.text : Nat) : Int) ≤ i64max; (z8 - 1 < z8) ∧ ((0 : Int) ≤ z8 - 1) ∧ z1 ∧ ((decide (x2.kind = 4)) = true → ((.v (vI (IntKind.i64.wrap (z8 - 1))) : S) = .v (vI (z8 - 1))) ∧ ((.v (vI (IntKind.i64.wrap (z8 - 1))) : S) = .v (vI (z8 - 1))) ∧ ((.v (vI (IntKind.i64.wrap (z8 - 1))) : S) = .v (vI (z8 - 1))) ∧ ((.v (vI (IntKind.i64.wrap (z8 - 1))) : S) = .v (vI (z8 - 1))) ∧ (z8 - 1 < z8) ∧ ((0 : Int) ≤ z8 - 1) ∧ (z8 - 1 < z8) ∧ ((0 : Int) ≤ z8 - 1) ∧ z1 ∧ z1 ∧ z2 ∧ z2 ∧ (z8 - 1 < z8) ∧ ((0 : Int) ≤ z8 - 1) ∧ (z8 - 1 < z8) ∧ ((0 : Int) ≤ z8 - 1) ∧ z1 ∧ z9 ∧ z11.Nxt q1 [(0, .v (.c (.seq .ev l))), (3, .v (vO 0)), (4, .v (vI (z10 + 1)))] [.lst .ev (List.set q1.out (Int.toNat (z8 - 1)) (⟨x2.kind, x2.field, x2.bits, x2.len, x2.text ++ x1.text, x2.code, x2.at_⟩ : Ev))]) ∧ ((decide (x2.kind = 4)) = false → z3 ∧ z9 ∧ z11.Nxt q1 [(0, .v (.c (.seq .ev l))), (3, .v (vO 0)), (4, .v (vI (z10 + 1)))] z5))) ∧ ((decide (0 < z8)) = false → z3 ∧ z9 ∧ z11.Nxt q1 [(0, .v (.c (.seq .ev l))), (3, .v (vO 0)), (4, .v (vI (z10 + 1)))] z5))) ∧ (z4 = false → (z4 = false) ∧ z3 ∧ z9 ∧ z11.Nxt q1 [(0, .v (.c (.seq .ev l))), (3, .v (vO 0)), (4, .v (vI (z10 + 1)))] z5))) ∧ ((decide (z10 < ((List.length l : Nat) : Int))) = false → (.v (vO 0) : S) = .v (vO 0) ∧ ([.lst .ev q1.out] : List Blk) = [.lst .ev (merged l)])))) (by kernel_rfl) ?_
 refine ⟨has_of (j := (⟨([] : List Ev), 0⟩ : merged_s_V0)) (by first | rfl | simp) rfl (by dsimp only [merged_s_F0]; exact ⟨by omega, rfl, by simp, by simp [tx]⟩), fun (q1 : merged_s_V0) hq_q1 => ?_⟩
 have hi_q1 : q1.i ≤ List.length l ∧ mergeG q1.out (List.drop q1.i l) = merged l ∧ List.length q1.out ≤ q1.i ∧ tx q1.out + tx (List.drop q1.i l) ≤ tx l := hq_q1
 obtain ⟨v1, v2, v3, v4⟩ := hi_q1
 refine dsp (fun h1 p1 => ?_) fun h1 p1 => ?_
 refine ⟨(ax_get (l := l) (i := q1.i) (by omega)), fun x1 hx1 => ?_⟩
 rw [drop_el hx1, mergeG_cons] at v2
 rw [drop_el hx1, tx] at v4
 refine ⟨hx1, (by omega), dsp (fun h2 p2 => ?_) fun h2 p2 => ?_⟩
 refine dsp (fun h3 p3 => ?_) fun h3 p3 => ?_
 exact ⟨(as_i64 (by omega) (by omega)), nxt_of (j := (⟨q1.out, q1.i + 1⟩ : merged_s_V0)) (by first | rfl | simp) rfl (by dsimp only [merged_s_F0]; exact (by first | (exact ⟨by omega, by rw [mergeE_skip (by assumption) (by assumption)] at v2; exact v2, by omega, by omega⟩) | (exact ⟨by omega, by rw [hmm] at v2; rw [hix]; exact v2, by rw [List.length_set]; omega, by rw [hix]; exact Nat.le_trans (Nat.add_le_add_right (Nat.le_of_eq hms) _) (by omega)⟩) | (exact ⟨by omega, by rw [mergeE_new (by assumption) hse] at v2; exact v2, by simp; omega, by rw [tx_append]; simp [tx]; omega⟩) | (exact ⟨by omega, by rw [mergeE_other (by assumption)] at v2; exact v2, by simp; omega, by rw [tx_append]; simp [tx]; omega⟩))) (by dsimp only [merged_s_F0]; omega)⟩
 refine ⟨h2, dsp (fun h4 p4 => ?_) fun h4 p4 => ?_⟩
 refine ⟨(as_i64 (by omega) (by omega)), (ax_get (l := q1.out) (i := Int.toNat (((List.length q1.out : Nat) : Int) - 1)) (by omega)), fun x2 hx2 => ?_⟩
 refine ⟨(by omega), (by omega), ?_⟩
 have hle := tx_mem hx2
 have hix : Int.toNat ((q1.out.length : Int) - 1) = q1.out.length - 1 := by omega
 have hxe := hix ▸ hx2
 refine ⟨hx2, dsp (fun h5 p5 => ?_) fun h5 p5 => ?_⟩
 have hmm := mergeE_more (o := q1.out) (e := x1) (x := x2) (by assumption) (by assumption) (by omega) hxe (by assumption)
 have hms := tx_set x1.text hxe
 exact ⟨(as_i64 (by omega) (by omega)), (as_i64 (by omega) (by omega)), (as_i64 (by omega) (by omega)), (as_i64 (by omega) (by omega)), (by omega), (by omega), (by omega), (by omega), hx2, hx2, (by omega), (by omega), (by omega), (by omega), (by omega), (by omega), hx2, (as_i64 (by omega) (by omega)), nxt_of (j := (⟨List.set q1.out (Int.toNat (((List.length q1.out : Nat) : Int) - 1)) (⟨x2.kind, x2.field, x2.bits, x2.len, x2.text ++ x1.text, x2.code, x2.at_⟩ : Ev), q1.i + 1⟩ : merged_s_V0)) (by first | rfl | simp) rfl (by dsimp only [merged_s_F0]; exact (by first | (exact ⟨by omega, by rw [mergeE_skip (by assumption) (by assumption)] at v2; exact v2, by omega, by omega⟩) | (exact ⟨by omega, by rw [hmm] at v2; rw [hix]; exact v2, by rw [List.length_set]; omega, by rw [hix]; exact Nat.le_trans (Nat.add_le_add_right (Nat.le_of_eq hms) _) (by omega)⟩) | (exact ⟨by omega, by rw [mergeE_new (by assumption) hse] at v2; exact v2, by simp; omega, by rw [tx_append]; simp [tx]; omega⟩) | (exact ⟨by omega, by rw [mergeE_other (by assumption)] at v2; exact v2, by simp; omega, by rw [tx_append]; simp [tx]; omega⟩))) (by dsimp only [merged_s_F0]; omega)⟩
 have hse : ¬ (0 < q1.out.length ∧ (lastE q1.out).kind = 4) := fun h => by rw [lastE_el hxe] at h; exact absurd h.2 (by assumption)
 exact ⟨(by simp only [List.length_cons, List.length_nil]; omega), (as_i64 (by omega) (by omega)), nxt_of (j := (⟨q1.out ++ [x1], q1.i + 1⟩ : merged_s_V0)) (by first | rfl | simp) rfl (by dsimp only [merged_s_F0]; exact (by first | (exact ⟨by omega, by rw [mergeE_skip (by assumption) (by assumption)] at v2; exact v2, by omega, by omega⟩) | (exact ⟨by omega, by rw [hmm] at v2; rw [hix]; exact v2, by rw [List.length_set]; omega, by rw [hix]; exact Nat.le_trans (Nat.add_le_add_right (Nat.le_of_eq hms) _) (by omega)⟩) | (exact ⟨by omega, by rw [mergeE_new (by assumption) hse] at v2; exact v2, by simp; omega, by rw [tx_append]; simp [tx]; omega⟩) | (exact ⟨by omega, by rw [mergeE_other (by assumption)] at v2; exact v2, by simp; omega, by rw [tx_append]; simp [tx]; omega⟩))) (by dsimp only [merged_s_F0]; omega)⟩
 have hse : ¬ (0 < q1.out.length ∧ (lastE q1.out).kind = 4) := fun h => by omega
 exact ⟨(by simp only [List.length_cons, List.length_nil]; omega), (as_i64 (by omega) (by omega)), nxt_of (j := (⟨q1.out ++ [x1], q1.i + 1⟩ : merged_s_V0)) (by first | rfl | simp) rfl (by dsimp only [merged_s_F0]; exact (by first | (exact ⟨by omega, by rw [mergeE_skip (by assumption) (by assumption)] at v2; exact v2, by omega, by omega⟩) | (exact ⟨by omega, by rw [hmm] at v2; rw [hix]; exact v2, by rw [List.length_set]; omega, by rw [hix]; exact Nat.le_trans (Nat.add_le_add_right (Nat.le_of_eq hms) _) (by omega)⟩) | (exact ⟨by omega, by rw [mergeE_new (by assumption) hse] at v2; exact v2, by simp; omega, by rw [tx_append]; simp [tx]; omega⟩) | (exact ⟨by omega, by rw [mergeE_other (by assumption)] at v2; exact v2, by simp; omega, by rw [tx_append]; simp [tx]; omega⟩))) (by dsimp only [merged_s_F0]; omega)⟩
 exact ⟨h2, (by simp only [List.length_cons, List.length_nil]; omega), (as_i64 (by omega) (by omega)), nxt_of (j := (⟨q1.out ++ [x1], q1.i + 1⟩ : merged_s_V0)) (by first | rfl | simp) rfl (by dsimp only [merged_s_F0]; exact (by first | (exact ⟨by omega, by rw [mergeE_skip (by assumption) (by assumption)] at v2; exact v2, by omega, by omega⟩) | (exact ⟨by omega, by rw [hmm] at v2; rw [hix]; exact v2, by rw [List.length_set]; omega, by rw [hix]; exact Nat.le_trans (Nat.add_le_add_right (Nat.le_of_eq hms) _) (by omega)⟩) | (exact ⟨by omega, by rw [mergeE_new (by assumption) hse] at v2; exact v2, by simp; omega, by rw [tx_append]; simp [tx]; omega⟩) | (exact ⟨by omega, by rw [mergeE_other (by assumption)] at v2; exact v2, by simp; omega, by rw [tx_append]; simp [tx]; omega⟩))) (by dsimp only [merged_s_F0]; omega)⟩
 rw [List.drop_eq_nil_of_le (by omega), mergeG_nil] at v2
 refine ⟨rfl, (consE (congrArg (Blk.lst .ev) ?_) rfl)⟩
 rotate_left
 all_goals first | (exact v2) | ((rw [← v2]; done))
structure merged_i_V0 where
 out : List Ev
 i : Nat
def merged_i_F0 (l : List Ev) : Fam := ⟨merged_i_V0, fun q1 => [(0, .v (.c (.seq .ev l))), (3, .v (vO 0)), (4, .v (vI ((q1.i : Nat) : Int)))], fun q1 => [.lst .ev q1.out], fun q1 => q1.i ≤ List.length l ∧ mergeG q1.out (List.drop q1.i l) = merged l ∧ List.length q1.out ≤ q1.i ∧ sep q1.out (List.drop q1.i l), fun q1 => List.length l - q1.i⟩
structure merged_i_V1 where
 i : Nat
 texts : List Int
 first : Ev
 found : Bool
def merged_i_F1 (l : List Ev) (q1 : merged_i_V0) : Fam := ⟨merged_i_V1, fun q2 => [(0, .v (.c (.seq .ev l))), (3, .v (vO 0)), (4, .v (vI ((q2.i : Nat) : Int))), (6, .v (vO 1)), (7, .v (vP 2)), (8, .v (vB q2.found))], fun q2 => [.lst .ev q1.out, .lst .u8 q2.texts, .cells (cEv q2.first)], fun q2 => q2.i ≤ List.length l ∧ q1.i < q2.i ∧ mgInv q1.out q2.first (List.map toByte q2.texts) q2.found (List.drop q2.i l) (merged l) ∧ List.length q2.texts + tx (List.drop q2.i l) ≤ tx l, fun q2 => List.length l - q2.i⟩
theorem merged_i (l : List Ev) (hp1 : List.length l ≤ 100000000) (hp2 : tx l ≤ 100000000) : Fun Tryz.prog 124 [.c (.seq .ev l)] [] (.v (vO 0)) [.lst .ev (merged l)] := by
 have hN : bigN = 274877906944 := rfl
 refine fun_ofw Tryz.func124 (by kernel_rfl) (by kernel_rfl) (w := let z10 := ((List.length l : Nat) : Int); let z11 := merged_i_F0 l; (.seg [.ty .ev, .at 0, .keep [0, 3, 4], .sel [0]] (.loop z11 fun q1 => .br (.intro (fun (x1 : Ev) => l[q1.i]? = some x1) fun x1 => .seg [.el .ev x1, .as 19 (.v (vI (((q1.i : Nat) : Int) + 1)))] (.br (.seg [.ty .ev, .ty .ev, .at 0, .keep [0, 3, 4], .sel [3]] (.next)) (.seg [.ord (os 7 [4, 5]) [], .at 0, .keep [0, 3, 4, 6, 7, 8], .sel [0, 2, 3]] (.loop (merged_i_F1 l q1) fun q2 => let z3 := vI (((q2.i : Nat) : Int) + 1); .br (.intro (fun (x2 : Ev) => l[q2.i]? = some x2) fun x2 => .seg [.el .ev x2] (.br (.br (.seg [.el .ev x2] (.br (.seg [.el .ev x2, .el .ev x2, .ty .u8, .as 68 (.v z3), .at 0, .keep [0, 3, 4, 6, 7, 8], .sel [0, 3, 2]] (.next)) (.seg [.el .ev x2, .ty .u8, .as 68 (.v z3), .at 0, .keep [0, 3, 4, 6, 7, 8], .sel [0, 3, 2]] (.next)))) (.seg [.el .ev x2, .ty .u8, .as 68 (.v z3), .at 0, .keep [0, 3, 4, 6, 7, 8], .sel [0, 3, 2]] (.next))) (.br (.seg [.ty .ev, .ty .ev, .at 0, .keep [0, 3, 4], .sel [4]] (.next)) (.seg [.at 0, .keep [0, 3, 4], .sel [0]] (.next))))) (.br (.seg [.ty .ev, .ty .ev, .at 0, .keep [0, 3, 4], .sel [4]] (.next)) (.seg [.at 0, .keep [0, 3, 4], .sel [0]] (.next))))))) (.leaf () [0])), z11.Has [(0, .v (.c (.seq .ev l))), (3, .v (vO 0)), (4, .v (vI 0))] [.lst .ev ([] : List Ev)] ∧ ∀ q1, z11.inv q1 → (let z8 := ((q1.i : Nat) : Int); let z9 := merged_i_F1 l q1; ((decide (z8 < z10)) = true → (∃ (x1 : Ev), l[q1.i]? = some x1) ∧ ∀ (x1 : Ev), (l[q1.i]? = some x1) → ((l[q1.i]? = some x1) ∧ ((0 : Int) ≤ z8) ∧ ((.v (vI (IntKind.i64.wrap (z8 + 1))) : S) = .v (vI (z8 + 1))) ∧ ((!decide (x1.kind = 4)) = true → (List.length q1.out + List.length [x1] ≤ bigN) ∧ z11.Nxt q1 [(0, .v (.c (.seq .ev l))), (3, .v (vO 0)), (4, .v (vI (z8 + 1)))] [.lst .ev (q1.out ++ [x1])]) ∧ ((!decide (x1.kind = 4)) = false → (List.length x1.text ≤ bigN) ∧ z9.Has [(0, .v (.c (.seq .ev l))), (3, .v (vO 0)), (4, .v (vI (z8 + 1))), (6, .v (vO 1)), (7, .v (vP 2)), (8, .v (vB (!decide (x1.text = []))))] [.lst .ev q1.out, .lst .u8 (List.map (fun b => (UInt8.toNat b : Int)) x1.text), .cells (cEv x1)] ∧ ∀ q2, z9.inv q2 → (let z5 := ((q2.i : Nat) : Int); let z6 := q2.found = false → z11.Nxt q1 [(0, .v (.c (.seq .ev l))), (3, .v (vO 0)), (4, .v (vI z5))] [.lst .ev q1.out]; let z7 := (⟨q2.first.kind, q2.first.field, q2.first.bits, q2.first.len, List.map toByte q2.texts, q2.first.code, q2.first.at_⟩ : Ev); let z4 := q2.found = true → (List.length q1.out + List.length [z7] ≤ bigN) ∧ z11.Nxt q1 [(0, .v (.c (.seq .ev l))), (3, .v (vO 0)), (4, .v (vI z5))] [.lst .ev (q1.out ++ [z7])]; ((decide (z5 < z10)) = true → (∃ (x2 : Ev), l[q2.i]? = some x2) ∧ ∀ (x2 : Ev), (l[q2.i]? = some x2) → (let z1 := List.map (fun b => (UInt8.toNat b : Int)) x2.text; let z2 := l[q2.i]? = some x2; z2 ∧ ((0 : Int) ≤ z5) ∧ ((decide (x2.kind = 4)) = true → ((!q2.found) = true → z2 ∧ ((0 : Int) ≤ z5) ∧ ((!decide (x2.text = [])) = true → z2 ∧ ((0 : Int) ≤ z5) ∧ z2 ∧ ((0 : Int) ≤ z5) ∧ (List.length q2.texts + List.length z1 ≤ bigN) ∧ ((.v (vI (IntKind.i64.wrap (z5 + 1))) : S) = .v (vI (z5 + 1))) ∧ z9.Nxt q2 [(0, .v (.c (.seq .ev l))), (3, .v (vO 0)), (4, .v (vI (z5 + 1))), (6, .v (vO 1)), (7, .v (vP 2)), (8, .v (vB true))] [.lst .ev q1.out, .lst .u8 (q2.texts ++ z1), .cells (cEv x2)]) ∧ ((!decide (x2.text = [])) = false → z2 ∧ ((0 : Int) ≤ z5) ∧ (List.length q2.texts + List.length z1 ≤ bigN) ∧ ((.v (vI (IntKind.i64.wrap (z5 + 1))) : S) = .v (vI (z5 + 1))) ∧ z9.Nxt q2 [(0, .v (.c (.seq .ev l))), (3, .v (vO 0)), (4, .v (vI (z5 + 1))), (6, .v (vO 1)), (7, .v (vP 2)), (8, .v (vB q2.found))] [.lst .ev q1.out, .lst .u8 (q2.texts ++ z1), .cells (cEv q2.first)])) ∧ ((!q2.found) = false → z2 ∧ ((0 : Int) ≤ z5) ∧ (List.length q2.texts + List.length z1 ≤ bigN) ∧ ((.v (vI (IntKind.i64.wrap (z5 + 1))) : S) = .v (vI (z5 + 1))) ∧ z9.Nxt q2 [(0, .v (.c (.seq .ev l))), (3, .v (vO 0)), (4, .v (vI (z5 + 1))), (6, .v (vO 1)), (7, .v (vP 2)), (8, .v (vB q2.found))] [.lst .ev q1.out, .lst .u8 (q2.texts ++ z1), .cells (cEv q2.first)])) ∧ ((decide (x2.kind = 4)) = false → z4 ∧ z6))) ∧ ((decide (z5 < z10)) = false → z4 ∧ z6))))) ∧ ((decide (z8 < z10)) = false → (.v (vO 0) : S) = .v (vO 0) ∧ ([.lst .ev q1.out] : List Blk) = [.lst .ev (merged l)])))) (by kernel_rfl) ?_
 refine ⟨has_of (j := (⟨([] : List Ev), 0⟩ : merged_i_V0)) (by first | rfl | simp) rfl (by dsimp only [merged_i_F0]; exact ⟨by omega, rfl, by simp, sep_nil⟩), fun (q1 : merged_i_V0) hq_q1 => ?_⟩
 have hi_q1 : q1.i ≤ List.length l ∧ mergeG q1.out (List.drop q1.i l) = merged l ∧ List.length q1.out ≤ q1.i ∧ sep q1.out (List.drop q1.i l) := hq_q1
 obtain ⟨v1, v2, v3, v4⟩ := hi_q1
 refine dsp (fun h1 p1 => ?_) fun h1 p1 => ?_
 refine ⟨(ax_get (l := l) (i := q1.i) (by omega)), fun x1 hx1 => ?_⟩
 rw [drop_el hx1, mergeG_cons] at v2
 have hdx := drop_el hx1
 have htl : tx (List.drop q1.i l) = x1.text.length + tx (List.drop (q1.i + 1) l) := by rw [hdx, tx]
 have htl2 := tx_drop l q1.i
 have hse := fun hk => sep_el v4 hx1 hk
 refine ⟨hx1, (by omega), (as_i64 (by omega) (by omega)), fun h2 => have q2 := bnot_t h2; have p2 := of_decide_eq_false q2; ?_, fun h2 => have q2 := bnot_f h2; have p2 := of_decide_eq_true q2; ?_⟩
 exact ⟨(by simp only [List.length_cons, List.length_nil]; omega), nxt_of (j := (⟨q1.out ++ [x1], q1.i + 1⟩ : merged_i_V0)) (by first | rfl | simp) rfl (by dsimp only [merged_i_F0]; exact (by first | (exact ⟨by omega, by rw [mergeE_other (by assumption)] at v2; exact v2, by simp; omega, sep_other (by assumption)⟩) | (exact ⟨by omega, (w3.1 (by assumption)).2, by simp; omega, hsp _⟩) | (exact ⟨by omega, (w3.2 (by simpa using by assumption)).2, by omega, hsp _⟩))) (by dsimp only [merged_i_F0]; omega)⟩
 have hse := hse (by assumption)
 refine ⟨(by omega), has_of (j := (⟨q1.i + 1, List.map (fun b => (UInt8.toNat b : Int)) x1.text, x1, !decide (x1.text = [])⟩ : merged_i_V1)) (by first | rfl | simp) rfl (by dsimp only [merged_i_F1]; exact (by first | (exact ⟨by omega, by omega, by rw [map_toByte_toNat]; exact mg_start (by assumption) hse v2, by simp; omega⟩))), fun (q2 : merged_i_V1) hq_q2 => ?_⟩
 have hi_q2 : q2.i ≤ List.length l ∧ q1.i < q2.i ∧ mgInv q1.out q2.first (List.map toByte q2.texts) q2.found (List.drop q2.i l) (merged l) ∧ List.length q2.texts + tx (List.drop q2.i l) ≤ tx l := hq_q2
 obtain ⟨w1, w2, w3, w4⟩ := hi_q2
 refine dsp (fun h3 p3 => ?_) fun h3 p3 => ?_
 refine ⟨(ax_get (l := l) (i := q2.i) (by omega)), fun x2 hx2 => ?_⟩
 have hdr := drop_el hx2
 have htx : tx (List.drop q2.i l) = x2.text.length + tx (List.drop (q2.i + 1) l) := by rw [hdr, tx]
 refine ⟨hx2, (by omega), dsp (fun h4 p4 => ?_) fun h4 p4 => ?_⟩
 refine ⟨fun h5 => have q5 := bnot_t h5; ?_, fun h5 => have q5 := bnot_f h5; ?_⟩
 refine ⟨hx2, (by omega), fun h6 => have q6 := bnot_t h6; have p6 := of_decide_eq_false q6; ?_, fun h6 => have q6 := bnot_f h6; have p6 := of_decide_eq_true q6; ?_⟩
 exact ⟨hx2, (by omega), hx2, (by omega), (by simp only [List.length_map]; omega), (as_i64 (by omega) (by omega)), nxt_of (j := (⟨q2.i + 1, q2.texts ++ (List.map (fun b => (UInt8.toNat b : Int)) x2.text), x2, true⟩ : merged_i_V1)) (by first | rfl | simp) rfl (by dsimp only [merged_i_F1]; exact (by first | (exact ⟨by omega, by omega, by rw [List.map_append, map_toByte_toNat]; exact mg_A (hdr ▸ w3) (by assumption) (by simpa using by assumption), by simp; omega⟩) | (exact ⟨by omega, by omega, by rw [List.map_append, map_toByte_toNat]; exact mg_B (hdr ▸ w3) (by assumption) (by assumption) (by simpa using by assumption) hse, by simp; omega⟩) | (exact ⟨by omega, by omega, by rw [List.map_append, map_toByte_toNat]; exact mg_C (hdr ▸ w3) (by assumption) (by assumption) (by simpa using by assumption), by simp; omega⟩))) (by dsimp only [merged_i_F1]; omega)⟩
 exact ⟨hx2, (by omega), (by simp only [List.length_map]; omega), (as_i64 (by omega) (by omega)), nxt_of (j := (⟨q2.i + 1, q2.texts ++ (List.map (fun b => (UInt8.toNat b : Int)) x2.text), q2.first, q2.found⟩ : merged_i_V1)) (by first | rfl | simp) rfl (by dsimp only [merged_i_F1]; exact (by first | (exact ⟨by omega, by omega, by rw [List.map_append, map_toByte_toNat]; exact mg_A (hdr ▸ w3) (by assumption) (by simpa using by assumption), by simp; omega⟩) | (exact ⟨by omega, by omega, by rw [List.map_append, map_toByte_toNat]; exact mg_B (hdr ▸ w3) (by assumption) (by assumption) (by simpa using by assumption) hse, by simp; omega⟩) | (exact ⟨by omega, by omega, by rw [List.map_append, map_toByte_toNat]; exact mg_C (hdr ▸ w3) (by assumption) (by assumption) (by simpa using by assumption), by simp; omega⟩))) (by dsimp only [merged_i_F1]; omega)⟩
 exact ⟨hx2, (by omega), (by simp only [List.length_map]; omega), (as_i64 (by omega) (by omega)), nxt_of (j := (⟨q2.i + 1, q2.texts ++ (List.map (fun b => (UInt8.toNat b : Int)) x2.text), q2.first, q2.found⟩ : merged_i_V1)) (by first | rfl | simp) rfl (by dsimp only [merged_i_F1]; exact (by first | (exact ⟨by omega, by omega, by rw [List.map_append, map_toByte_toNat]; exact mg_A (hdr ▸ w3) (by assumption) (by simpa using by assumption), by simp; omega⟩) | (exact ⟨by omega, by omega, by rw [List.map_append, map_toByte_toNat]; exact mg_B (hdr ▸ w3) (by assumption) (by assumption) (by simpa using by assumption) hse, by simp; omega⟩) | (exact ⟨by omega, by omega, by rw [List.map_append, map_toByte_toNat]; exact mg_C (hdr ▸ w3) (by assumption) (by assumption) (by simpa using by assumption), by simp; omega⟩))) (by dsimp only [merged_i_F1]; omega)⟩
 have hsp : ∀ o, sep o (List.drop q2.i l) := fun o => sep_next (.inr ⟨x2, by assumption, by assumption⟩)
 refine ⟨fun h5 => ?_, fun h5 => ?_⟩
 exact ⟨(by simp only [List.length_map, List.length_cons, List.length_nil]; omega), nxt_of (j := (⟨q1.out ++ [(⟨q2.first.kind, q2.first.field, q2.first.bits, q2.first.len, List.map toByte q2.texts, q2.first.code, q2.first.at_⟩ : Ev)], q2.i⟩ : merged_i_V0)) rfl rfl (by dsimp only [merged_i_F0]; exact (by first | (exact ⟨by omega, by rw [mergeE_other (by assumption)] at v2; exact v2, by simp; omega, sep_other (by assumption)⟩) | (exact ⟨by omega, (w3.1 (by assumption)).2, by simp; omega, hsp _⟩) | (exact ⟨by omega, (w3.2 (by simpa using by assumption)).2, by omega, hsp _⟩))) (by dsimp only [merged_i_F0]; omega)⟩
 exact nxt_of (j := (⟨q1.out, q2.i⟩ : merged_i_V0)) rfl rfl (by dsimp only [merged_i_F0]; exact (by first | (exact ⟨by omega, by rw [mergeE_other (by assumption)] at v2; exact v2, by simp; omega, sep_other (by assumption)⟩) | (exact ⟨by omega, (w3.1 (by assumption)).2, by simp; omega, hsp _⟩) | (exact ⟨by omega, (w3.2 (by simpa using by assumption)).2, by omega, hsp _⟩))) (by dsimp only [merged_i_F0]; omega)
 have hsp : ∀ o, sep o (List.drop q2.i l) := fun o => sep_next (.inl (by omega))
 refine ⟨fun h4 => ?_, fun h4 => ?_⟩
 exact ⟨(by simp only [List.length_map, List.length_cons, List.length_nil]; omega), nxt_of (j := (⟨q1.out ++ [(⟨q2.first.kind, q2.first.field, q2.first.bits, q2.first.len, List.map toByte q2.texts, q2.first.code, q2.first.at_⟩ : Ev)], q2.i⟩ : merged_i_V0)) rfl rfl (by dsimp only [merged_i_F0]; exact (by first | (exact ⟨by omega, by rw [mergeE_other (by assumption)] at v2; exact v2, by simp; omega, sep_other (by assumption)⟩) | (exact ⟨by omega, (w3.1 (by assumption)).2, by simp; omega, hsp _⟩) | (exact ⟨by omega, (w3.2 (by simpa using by assumption)).2, by omega, hsp _⟩))) (by dsimp only [merged_i_F0]; omega)⟩
 exact nxt_of (j := (⟨q1.out, q2.i⟩ : merged_i_V0)) rfl rfl (by dsimp only [merged_i_F0]; exact (by first | (exact ⟨by omega, by rw [mergeE_other (by assumption)] at v2; exact v2, by simp; omega, sep_other (by assumption)⟩) | (exact ⟨by omega, (w3.1 (by assumption)).2, by simp; omega, hsp _⟩) | (exact ⟨by omega, (w3.2 (by simpa using by assumption)).2, by omega, hsp _⟩))) (by dsimp only [merged_i_F0]; omega)
 rw [List.drop_eq_nil_of_le (by omega), mergeG_nil] at v2
 refine ⟨rfl, (consE (congrArg (Blk.lst .ev) ?_) rfl)⟩
 rotate_left
 all_goals first | (exact v2) | ((rw [← v2]; done))
def tiny (l : List Ev) : Prop := ∀ e ∈ l, e.text.length ≤ 1
theorem tiny_nil : tiny [] := fun _ h => by cases h
theorem tiny_app {a b : List Ev} (ha : tiny a) (hb : tiny b) : tiny (a ++ b) := fun e h => (List.mem_append.1 h).elim (ha e) (hb e)
theorem tiny_one {e : Ev} (h : e.text.length ≤ 1) : tiny [e] := fun x hx => by simp at hx; rw [hx]; exact h
theorem tiny_snoc {a : List Ev} {e : Ev} (ha : tiny a) (h : e.text.length ≤ 1) : tiny (a ++ [e]) := tiny_app ha (tiny_one h)
theorem tx_tiny : ∀ {l : List Ev}, tiny l → tx l ≤ l.length
 | [], _ => Nat.le_refl _
 | e :: r, h => by
  have h1 := h e (List.mem_cons_self ..)
  have h2 := tx_tiny (l := r) fun x hx => h x (List.mem_cons_of_mem _ hx)
  rw [tx, List.length_cons]; omega
theorem mFail_tiny {m : Mac} {c a : Int} (h : tiny m.out) : tiny (mFail m c a).out := tiny_snoc h (Nat.zero_le _)
theorem closeM_tiny {m q : Mac} (h : tiny m.out) (hc : closeM m = some q) : tiny q.out := by
 unfold closeM at hc
 split at hc
 ·split at hc
  ·cases hc; exact mFail_tiny h
  ·cases hc; exact tiny_snoc h (Nat.zero_le _)
 ·split at hc
  ·cases hc; exact h
  ·split at hc
   ·split at hc <;> (cases hc; exact tiny_snoc h (Nat.zero_le _))
   ·cases hc
theorem settleM_tiny {m : Mac} (h : tiny m.out) : tiny (settleM m).out := by
 suffices ∀ (k : Nat) (m : Mac), wM m ≤ k → tiny m.out → tiny (settleM m).out from this _ m (Nat.le_refl _) h
 intro k
 induction k with
 | zero =>
  intro m hk h
  cases hc : closeM m with
  | none => rw [settleM_none hc]; exact h
  | some q => have := (closeM_dec hc).1; omega
 | succ k ih =>
  intro m hk h
  cases hc : closeM m with
  | none => rw [settleM_none hc]; exact h
  | some q => rw [settleM_some hc]; exact ih q (by have := (closeM_dec hc).1; omega) (closeM_tiny h hc)
theorem valueM_tiny {m : Mac} {u : Int} (h : tiny m.out) : tiny (valueM m u).out := by
 unfold valueM
 simp only
 split
 ·exact h
 ·exact tiny_snoc h (Nat.zero_le _)
theorem byteM_tiny {m : Mac} {b : Int} (h : tiny m.out) : tiny (byteM m b).out := by
 unfold byteM
 split
 ·unfold textB
  split
  ·split
   ·exact mFail_tiny h
   ·exact settleM_tiny (tiny_snoc h (Nat.le_refl _))
  ·exact settleM_tiny (tiny_snoc h (Nat.le_refl _))
 ·split
  ·exact settleM_tiny h
  ·split
   ·unfold fixM
    split
    ·exact h
    ·split
     ·exact mFail_tiny (valueM_tiny h)
     ·exact settleM_tiny (valueM_tiny h)
   ·unfold varM
    split
    ·exact mFail_tiny h
    ·split
     ·unfold moreM
      split
      ·exact mFail_tiny h
      ·exact h
     ·split
      ·unfold frameM
       split
       ·exact mFail_tiny h
       ·exact settleM_tiny (tiny_snoc h (Nat.zero_le _))
      ·split
       ·unfold tagM
        split
        ·exact mFail_tiny h
        ·split
         ·exact mFail_tiny h
         ·split
          ·exact mFail_tiny h
          ·split
           ·exact mFail_tiny h
           ·exact h
       ·split
        ·unfold longM
         split
         ·exact mFail_tiny h
         ·split
          ·exact settleM_tiny h
          ·split
           ·split
            ·exact mFail_tiny h
            ·exact settleM_tiny (tiny_snoc h (Nat.zero_le _))
           ·split
            ·exact settleM_tiny (tiny_snoc h (Nat.zero_le _))
            ·split
             ·exact mFail_tiny h
             ·exact settleM_tiny h
        ·exact settleM_tiny (valueM_tiny h)
theorem stepM_tiny {m : Mac} {b : Int} (h : tiny m.out) : tiny (stepM m b).out := by
 unfold stepM
 refine tiny_app h ?_
 unfold stepB
 split
 ·exact byteM_tiny tiny_nil
 ·exact tiny_nil
theorem feedM_tiny : ∀ (s : List UInt8) (m : Mac), tiny m.out → tiny (feedM m s).out
 | [], m, h => h
 | b :: r, m, h => by rw [feedM_cons]; exact feedM_tiny r _ (stepM_tiny h)
theorem feed_b (d : Dcd) (s : List UInt8) : (feedM ⟨d, []⟩ s).out.length ≤ 14 * s.length ∧ tx (feedM ⟨d, []⟩ s).out ≤ 14 * s.length := by
 have h1 := (feedM_lim s ⟨d, []⟩).2.2.1
 have h2 := tx_tiny (feedM_tiny s ⟨d, []⟩ tiny_nil)
 simp only [List.length_nil] at h1
 omega
def chunkM (d : Dcd) (s : List UInt8) : Mac := ⟨(feedM ⟨d, []⟩ s).d, merged (feedM ⟨d, []⟩ s).out⟩
theorem chunk_lim (d : Dcd) (s : List UInt8) : (chunkM d s).d.plan = d.plan ∧ ((chunkM d s).d.stack.length : Int) ≤ max (d.stack.length : Int) 8 ∧ (chunkM d s).out.length ≤ 14 * s.length ∧ ((0 ≤ d.scan.bits ∧ d.scan.bits ≤ 18446744073709551615) → 0 ≤ (chunkM d s).d.scan.bits ∧ (chunkM d s).d.scan.bits ≤ 18446744073709551615) := by
 have h := feedM_lim s ⟨d, []⟩
 have h2 := feed_b d s
 have h3 := merged_len (feedM ⟨d, []⟩ s).out
 exact ⟨h.1, h.2.1, Nat.le_trans h3 h2.1, h.2.2.2⟩
theorem feed_i (d : Dcd) (s : List UInt8) (hp1 : List.length (d).plan.shapes ≤ 1048576) (hp2 : ∀ e ∈ (d).plan.shapes, e.fields.length ≤ 1048576) (hp3 : List.length (d).stack ≤ 1048576) (hp4 : (0 : Int) ≤ (d).scan.bits ∧ (d).scan.bits ≤ 18446744073709551615) (hp5 : s.length ≤ 1048576) : Fun Tryz.prog 71 [.agg (cDcd d), vT s] [] (.tup [.agg (oDcd0_5 0 1 (chunkM d s).d), vO 2]) [.tree (chunkM d s).d.plan.shapes, .lst .lev (chunkM d s).d.stack, .lst .ev (chunkM d s).out] := by
 have hN : bigN = 274877906944 := rfl
 have hfb := feed_b d s
 refine fun_ofw Tryz.func71 (by kernel_rfl) (by kernel_rfl) (w := let z1 := feedM ⟨d, []⟩ s; let z2 := oDcd0_5 0 1 z1.d; (.seg [.call [] (.tup [.agg z2, vO 2]) [.tree z1.d.plan.shapes, .lst .lev z1.d.stack, .lst .ev z1.out], .tree (.first 0 (.first 1 (.one 2 (.one 3 (.first 4 (.done)))))) 3 [], .call [] (.v (vO 0)) [.lst .ev (merged z1.out)]] (.leaf () [2, 3, 6]), (Fun Tryz.prog 123 [.agg (cDcd d), vT s] [] (.tup [.agg z2, vO 2]) [.tree z1.d.plan.shapes, .lst .lev z1.d.stack, .lst .ev z1.out]) ∧ (Fun Tryz.prog 124 [.c (.seq .ev z1.out)] [] (.v (vO 0)) [.lst .ev (merged z1.out)]) ∧ (.tup [.agg z2, vO 2] : S) = .tup [.agg (oDcd0_5 0 1 (chunkM d s).d), vO 2] ∧ ([.tree z1.d.plan.shapes, .lst .lev z1.d.stack, .lst .ev (merged z1.out)] : List Blk) = [.tree (chunkM d s).d.plan.shapes, .lst .lev (chunkM d s).d.stack, .lst .ev (chunkM d s).out])) (by kernel_rfl) ?_
 refine ⟨(stepAll_i d _ (by omega) (hp2) (by omega) (by omega) (by omega)), (merged_i _ (by omega) (by omega)), ?_⟩
 have hm1 : (chunkM d s).d = (feedM ⟨d, []⟩ s).d := by rfl
 have hm2 : (chunkM d s).out = merged (feedM ⟨d, []⟩ s).out := by rfl
 exact ⟨(by rw [hm1] <;> rfl), (by rw [hm1, hm2] <;> rfl)⟩
theorem feed_s (d : Dcd) (s : List UInt8) (hp1 : List.length (d).plan.shapes ≤ 1048576) (hp2 : ∀ e ∈ (d).plan.shapes, e.fields.length ≤ 1048576) (hp3 : List.length (d).stack ≤ 1048576) (hp4 : (0 : Int) ≤ (d).scan.bits ∧ (d).scan.bits ≤ 18446744073709551615) (hp5 : s.length ≤ 1048576) : Fun Tryz.prog 64 [.agg (cDcd d), vT s] [] (.tup [.agg (oDcd0_5 0 1 (chunkM d s).d), vO 2]) [.tree (chunkM d s).d.plan.shapes, .lst .lev (chunkM d s).d.stack, .lst .ev (chunkM d s).out] := by
 have hN : bigN = 274877906944 := rfl
 have hfb := feed_b d s
 refine fun_ofw Tryz.func64 (by kernel_rfl) (by kernel_rfl) (w := let z1 := feedM ⟨d, []⟩ s; let z2 := oDcd0_5 0 1 z1.d; (.seg [.call [] (.tup [.agg z2, vO 2]) [.tree z1.d.plan.shapes, .lst .lev z1.d.stack, .lst .ev z1.out], .tree (.first 0 (.first 1 (.one 2 (.one 3 (.first 4 (.done)))))) 3 [], .call [] (.v (vO 0)) [.lst .ev (merged z1.out)]] (.leaf () [2, 3, 6]), (Fun Tryz.prog 118 [.agg (cDcd d), vT s] [] (.tup [.agg z2, vO 2]) [.tree z1.d.plan.shapes, .lst .lev z1.d.stack, .lst .ev z1.out]) ∧ (Fun Tryz.prog 119 [.c (.seq .ev z1.out)] [] (.v (vO 0)) [.lst .ev (merged z1.out)]) ∧ (.tup [.agg z2, vO 2] : S) = .tup [.agg (oDcd0_5 0 1 (chunkM d s).d), vO 2] ∧ ([.tree z1.d.plan.shapes, .lst .lev z1.d.stack, .lst .ev (merged z1.out)] : List Blk) = [.tree (chunkM d s).d.plan.shapes, .lst .lev (chunkM d s).d.stack, .lst .ev (chunkM d s).out])) (by kernel_rfl) ?_
 refine ⟨(stepAll_s d _ (by omega) (hp2) (by omega) (by omega) (by omega)), (merged_s _ (by omega) (by omega)), ?_⟩
 have hm1 : (chunkM d s).d = (feedM ⟨d, []⟩ s).d := by rfl
 have hm2 : (chunkM d s).out = merged (feedM ⟨d, []⟩ s).out := by rfl
 exact ⟨(by rw [hm1] <;> rfl), (by rw [hm1, hm2] <;> rfl)⟩
def bsum : List (List UInt8) → Nat
 | [] => 0
 | c :: r => c.length + bsum r
theorem bsum_drop : ∀ (l : List (List UInt8)) (i : Nat), bsum (l.drop i) ≤ bsum l
 | [], i => by simp [bsum]
 | e :: r, 0 => Nat.le_refl _
 | e :: r, i + 1 => by have := bsum_drop r i; rw [List.drop_succ_cons, bsum]; omega
def chunksM (m : Mac) (cs : List (List UInt8)) : Mac := cs.foldl (fun m c => ⟨(chunkM m.d c).d, m.out ++ (chunkM m.d c).out⟩) m
theorem chunksM_nil (m : Mac) : chunksM m [] = m := rfl
theorem chunksM_cons (m : Mac) (c : List UInt8) (r : List (List UInt8)) : chunksM m (c :: r) = chunksM ⟨(chunkM m.d c).d, m.out ++ (chunkM m.d c).out⟩ r := List.foldl_cons ..
theorem chunks_lim : ∀ (cs : List (List UInt8)) (m : Mac), (chunksM m cs).d.plan = m.d.plan ∧ ((chunksM m cs).d.stack.length : Int) ≤ max (m.d.stack.length : Int) 8 ∧ (chunksM m cs).out.length ≤ m.out.length + 14 * bsum cs ∧ ((0 ≤ m.d.scan.bits ∧ m.d.scan.bits ≤ 18446744073709551615) → 0 ≤ (chunksM m cs).d.scan.bits ∧ (chunksM m cs).d.scan.bits ≤ 18446744073709551615)
 | [], m => ⟨rfl, by show (m.d.stack.length : Int) ≤ _; omega, Nat.le_refl _, fun h => h⟩
 | c :: r, m => by
  have h1 := chunk_lim m.d c
  have h2 := chunks_lim r ⟨(chunkM m.d c).d, m.out ++ (chunkM m.d c).out⟩
  simp only [List.length_append] at h2
  rw [chunksM_cons, bsum]
  exact ⟨h2.1.trans h1.1, by omega, by omega, fun h => h2.2.2.2 (h1.2.2.2 h)⟩
end Go.Proofs.YtpchkcpcdbdhdaaGreat.Ax
