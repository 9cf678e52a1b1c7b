/- The reference: bytes of numbers. A byte: the reference. Whole inputs: the reference. Events as frames: the steps. Events as frames. What the exact laws do with schemas, plans and events. -/
import Derived.Test.YtpchkcpcdbdhdaaGreatKS6
import Derived.Test.YtpchkcpcdbdhdaaGreatKS5
import Derived.Test.YtpchkcpcdbdhdaaGreatKS2
set_option linter.unusedSimpArgs false
set_option linter.unusedVariables false
namespace Go.Proofs.YtpchkcpcdbdhdaaGreat.Ax
open Go.RowKit
set_option maxHeartbeats 1600000 in
theorem scan16_s (d : Dcd) (b : Int) (a : Int) (hp1 : MW d) (hp2 : (0 : Int) ≤ b ∧ b ≤ 255) : Fun Tryz.prog 112 [.agg (oDcd0_5 0 1 d), vI b, vI a] [.tree d.plan.shapes, .lst .lev d.stack] (.tup [.agg (oDcd0_5 2 3 (varM ⟨d, []⟩ b a).d), vO 4]) [.dead, .dead, .tree (varM ⟨d, []⟩ b a).d.plan.shapes, .lst .lev (varM ⟨d, []⟩ b a).d.stack, .lst .ev (varM ⟨d, []⟩ b a).out] := by
  have hN : bigN = 274877906944 := rfl
  have hlv := levelsOk_b hp1.lv
  have hpt := planOk_t hlv.1
  have htb := topL_b hp1.lv
  have hbb := hp1.b0
  have hat := hp1.at_
  have hwt := hp1.want
  have hwd := widthD_b d
  have hsb := scanByte_b (b := b) hbb.1 hbb.2
  refine fun_ofw Tryz.func112 (by kernel_rfl) (by kernel_rfl) (w := let zi : Int → C := .int .i64; let z1 : List C := [zi d.at_, zi d.field.number, zi d.field.kind, .bool d.field.rep, .bool d.field.packed, zi d.field.msg, zi d.wire, zi d.want, zi d.utf.want, zi d.utf.low, zi d.utf.high, zi d.end_.kind, zi d.end_.field, .int .u64 d.end_.bits, zi d.end_.len, .str d.end_.text, zi d.end_.code, zi d.end_.at_]; let z4 := (⟨d.plan, d.mode, d.stack, (⟨0, 0⟩ : Scn), d.start, d.at_, d.field, d.wire, d.want, d.utf, d.end_⟩ : Dcd); let z6 := scanByte d.scan b; let z2 := dFail (⟨d.plan, d.mode, d.stack, z6.1, a, d.at_, d.field, d.wire, d.want, d.utf, d.end_⟩ : Dcd) 9 d.at_; let z3 := dFail (⟨d.plan, d.mode, d.stack, z6.1, d.start, d.at_, d.field, d.wire, d.want, d.utf, d.end_⟩ : Dcd) 9 d.at_; let z7 := (⟨d.plan, d.mode, d.stack, (⟨0, 0⟩ : Scn), a, d.at_, d.field, d.wire, d.want, d.utf, d.end_⟩ : Dcd); let z8 := dFail (⟨d.plan, d.mode, d.stack, d.scan, a, d.at_, d.field, d.wire, d.want, d.utf, d.end_⟩ : Dcd) 1 a; let z9 := (.tup [.agg (.own 2 :: zi d.plan.root :: zi d.plan.deep :: zi d.plan.most :: zi d.mode :: .own 3 :: .int .u64 z6.1.bits :: zi z6.1.have_ :: zi a :: z1), vO 4] : S); let z10 : List Blk := [.dead, .dead, .tree z2.plan.shapes, .lst .lev z2.stack, .lst .ev [failEv 9 d.at_]]; let z11 := ([.dead, .dead, .tree d.plan.shapes, .lst .lev d.stack, .lst .ev ([] : List Ev)] : List Blk); let z13 := (.tup [.agg (.own 2 :: zi d.plan.root :: zi d.plan.deep :: zi d.plan.most :: zi d.mode :: .own 3 :: .int .u64 z6.1.bits :: zi z6.1.have_ :: zi d.start :: z1), vO 4] : S); let z14 : List Blk := [.dead, .dead, .tree z3.plan.shapes, .lst .lev z3.stack, .lst .ev [failEv 9 d.at_]]; let z16 : List Blk := [.dead, .dead, .tree z8.plan.shapes, .lst .lev z8.stack, .lst .ev [failEv 1 a]]; let z17 : List Blk := [.dead, .dead, .tree (dFail d 1 a).plan.shapes, .lst .lev (dFail d 1 a).stack, .lst .ev [failEv 1 a]]; let z18 := decide (d.mode = 8); let z19 := decide (d.want = 0); let z20 := oDcd0_5 2 3 z2; let z21 := settleM (valueM ⟨z4, []⟩ z6.1.bits); let z15 : List Blk := [.dead, .dead, .tree z21.d.plan.shapes, .lst .lev z21.d.stack, .lst .ev z21.out]; let z22 := frameM ⟨z7, []⟩ z6.1.bits; let z23 := frameM ⟨z4, []⟩ z6.1.bits; let z24 := longM ⟨z7, []⟩ z6.1.bits; let z25 := longM ⟨z4, []⟩ z6.1.bits; let z28 := tagM ⟨z7, []⟩ z6.1.bits; let z29 := tagM ⟨z4, []⟩ z6.1.bits; let z30 := oDcd0_5 2 3 z3; let z31 := (.tup [.agg z20, vO 4] : S); let z32 := !decide (d.mode = 1); let z33 := decide (topL d = 0); let z36 := decide (z6.2 = 2); let z37 := decide (z6.2 = 0); let z38 := decide (d.mode = 1); let z39 := oDcd0_5 2 3 (dFail d 1 a); let z40 := (.tup [.agg z30, vO 4] : S); let z41 := decide (d.mode = 2); let z42 := oDcd0_5 2 3 z8; let z43 := vI (topL d); let z44 := decide (d.mode = 4); let z45 := oDcd0_5 2 3 z21.d; let z46 := cScn z6.1; let z47 := (.tup [.agg z42, vO 4] : S); let z48 := varM ⟨d, []⟩ b a; let z5 : List Blk := [.dead, .dead, .tree z48.d.plan.shapes, .lst .lev z48.d.stack, .lst .ev z48.out]; let z12 := oDcd0_5 2 3 z48.d; let z26 := z19 = false → z9 = .tup [.agg z12, vO 4] ∧ z11 = z5; let z27 := z18 = false → z9 = .tup [.agg z12, vO 4] ∧ z11 = z5; let z34 := z19 = false → z13 = .tup [.agg z12, vO 4] ∧ z11 = z5; let z35 := z18 = false → z13 = .tup [.agg z12, vO 4] ∧ z11 = z5; let z49 := cScn d.scan; (.br (.br (.seg [.call [] (.tup [.agg z46, vI z6.2]) []] (.br (.seg [.call [0, 1] (.tup [.agg z42, vO 4]) z16] (.leaf () [0, 1, 5, 6, 7])) (.br (.br (.seg [.call [] (.v z43) []] (.br (.seg [.call [0, 1] (.tup [.agg z20, vO 4]) z10] (.leaf () [0, 1, 5, 6, 7])) (.br (.br (.seg [.call [0, 1] (.tup [.agg z20, vO 4]) z10] (.leaf () [0, 1, 5, 6, 7])) (.seg [.ty .ev, .at 0, .cut 3 0, .cut 3 5] (.leaf () [0, 1, 6, 7, 5]))) (.seg [.ty .ev, .at 0, .cut 3 0, .cut 3 5] (.leaf () [0, 1, 6, 7, 5]))))) (.br (.br (.seg [.call [0, 1] (.tup [.agg z20, vO 4]) z10] (.leaf () [0, 1, 5, 6, 7])) (.seg [.ty .ev, .at 0, .cut 3 0, .cut 3 5] (.leaf () [0, 1, 6, 7, 5]))) (.seg [.ty .ev, .at 0, .cut 3 0, .cut 3 5] (.leaf () [0, 1, 6, 7, 5])))) (.seg [.br true, .call [] (.tup [.agg (oDcd0_5 0 1 z22.d), vO 2]) [.tree z22.d.plan.shapes, .lst .lev z22.d.stack, .lst .ev z22.out], .at 0, .kill 0, .kill 1] (.leaf () [0, 1, 5, 6, 7]))))) (.br (.seg [.call [] (.tup [.agg z46, vI z6.2]) []] (.br (.seg [.call [0, 1] (.tup [.agg z42, vO 4]) z16] (.leaf () [0, 1, 5, 6, 7])) (.br (.br (.seg [.call [] (.v z43) []] (.br (.seg [.call [0, 1] (.tup [.agg z20, vO 4]) z10] (.leaf () [0, 1, 5, 6, 7])) (.br (.br (.seg [.call [0, 1] (.tup [.agg z20, vO 4]) z10] (.leaf () [0, 1, 5, 6, 7])) (.seg [.ty .ev, .at 0, .cut 3 0, .cut 3 5] (.leaf () [0, 1, 6, 7, 5]))) (.seg [.ty .ev, .at 0, .cut 3 0, .cut 3 5] (.leaf () [0, 1, 6, 7, 5]))))) (.br (.br (.seg [.call [0, 1] (.tup [.agg z20, vO 4]) z10] (.leaf () [0, 1, 5, 6, 7])) (.seg [.ty .ev, .at 0, .cut 3 0, .cut 3 5] (.leaf () [0, 1, 6, 7, 5]))) (.seg [.ty .ev, .at 0, .cut 3 0, .cut 3 5] (.leaf () [0, 1, 6, 7, 5])))) (.seg [.br false, .br true, .call [] (.tup [.agg (oDcd0_5 0 1 z28.d), vO 2]) [.tree z28.d.plan.shapes, .lst .lev z28.d.stack, .lst .ev z28.out], .at 0, .kill 0, .kill 1] (.leaf () [0, 1, 5, 6, 7]))))) (.br (.seg [.call [] (.tup [.agg z46, vI z6.2]) []] (.br (.seg [.call [0, 1] (.tup [.agg z42, vO 4]) z16] (.leaf () [0, 1, 5, 6, 7])) (.br (.br (.seg [.call [] (.v z43) []] (.br (.seg [.call [0, 1] (.tup [.agg z20, vO 4]) z10] (.leaf () [0, 1, 5, 6, 7])) (.br (.br (.seg [.call [0, 1] (.tup [.agg z20, vO 4]) z10] (.leaf () [0, 1, 5, 6, 7])) (.seg [.ty .ev, .at 0, .cut 3 0, .cut 3 5] (.leaf () [0, 1, 6, 7, 5]))) (.seg [.ty .ev, .at 0, .cut 3 0, .cut 3 5] (.leaf () [0, 1, 6, 7, 5]))))) (.br (.br (.seg [.call [0, 1] (.tup [.agg z20, vO 4]) z10] (.leaf () [0, 1, 5, 6, 7])) (.seg [.ty .ev, .at 0, .cut 3 0, .cut 3 5] (.leaf () [0, 1, 6, 7, 5]))) (.seg [.ty .ev, .at 0, .cut 3 0, .cut 3 5] (.leaf () [0, 1, 6, 7, 5])))) (.seg [.br false, .br false, .br true, .call [] (.tup [.agg (oDcd0_5 0 1 z24.d), vO 2]) [.tree z24.d.plan.shapes, .lst .lev z24.d.stack, .lst .ev z24.out], .at 0, .kill 0, .kill 1] (.leaf () [0, 1, 5, 6, 7]))))) (.seg [.call [] (.tup [.agg z46, vI z6.2]) []] (.br (.seg [.call [0, 1] (.tup [.agg z39, vO 4]) z17] (.leaf () [0, 1, 5, 6, 7])) (.br (.br (.seg [.call [] (.v z43) []] (.br (.seg [.call [0, 1] (.tup [.agg z30, vO 4]) z14] (.leaf () [0, 1, 5, 6, 7])) (.br (.br (.seg [.call [0, 1] (.tup [.agg z30, vO 4]) z14] (.leaf () [0, 1, 5, 6, 7])) (.seg [.ty .ev, .at 0, .cut 3 0, .cut 3 5] (.leaf () [0, 1, 6, 7, 5]))) (.seg [.ty .ev, .at 0, .cut 3 0, .cut 3 5] (.leaf () [0, 1, 6, 7, 5]))))) (.br (.br (.seg [.call [0, 1] (.tup [.agg z30, vO 4]) z14] (.leaf () [0, 1, 5, 6, 7])) (.seg [.ty .ev, .at 0, .cut 3 0, .cut 3 5] (.leaf () [0, 1, 6, 7, 5]))) (.seg [.ty .ev, .at 0, .cut 3 0, .cut 3 5] (.leaf () [0, 1, 6, 7, 5])))) (.seg [.br false, .br false, .br false, .call [0, 1] (.tup [.agg z45, vO 4]) z15] (.leaf () [0, 1, 5, 6, 7])))))))) (.seg [.call [] (.tup [.agg z46, vI z6.2]) []] (.br (.seg [.call [0, 1] (.tup [.agg z39, vO 4]) z17] (.leaf () [0, 1, 5, 6, 7])) (.br (.br (.seg [.call [] (.v z43) []] (.br (.seg [.call [0, 1] (.tup [.agg z30, vO 4]) z14] (.leaf () [0, 1, 5, 6, 7])) (.br (.br (.seg [.call [0, 1] (.tup [.agg z30, vO 4]) z14] (.leaf () [0, 1, 5, 6, 7])) (.seg [.ty .ev, .at 0, .cut 3 0, .cut 3 5] (.leaf () [0, 1, 6, 7, 5]))) (.seg [.ty .ev, .at 0, .cut 3 0, .cut 3 5] (.leaf () [0, 1, 6, 7, 5]))))) (.br (.br (.seg [.call [0, 1] (.tup [.agg z30, vO 4]) z14] (.leaf () [0, 1, 5, 6, 7])) (.seg [.ty .ev, .at 0, .cut 3 0, .cut 3 5] (.leaf () [0, 1, 6, 7, 5]))) (.seg [.ty .ev, .at 0, .cut 3 0, .cut 3 5] (.leaf () [0, 1, 6, 7, 5])))) (.br (.seg [.call [] (.tup [.agg (oDcd0_5 0 1 z23.d), vO 2]) [.tree z23.d.plan.shapes, .lst .lev z23.d.stack, .lst .ev z23.out], .at 0, .kill 0, .kill 1] (.leaf () [0, 1, 5, 6, 7])) (.br (.seg [.call [] (.tup [.agg (oDcd0_5 0 1 z29.d), vO 2]) [.tree z29.d.plan.shapes, .lst .lev z29.d.stack, .lst .ev z29.out], .at 0, .kill 0, .kill 1] (.leaf () [0, 1, 5, 6, 7])) (.br (.seg [.call [] (.tup [.agg (oDcd0_5 0 1 z25.d), vO 2]) [.tree z25.d.plan.shapes, .lst .lev z25.d.stack, .lst .ev z25.out], .at 0, .kill 0, .kill 1] (.leaf () [0, 1, 5, 6, 7])) (.seg [.call [0, 1] (.tup [.agg z45, vO 4]) z15] (.leaf () [0, 1, 5, 6, 7])))))))), ((decide (d.scan.have_ = 0)) = true → (z38 = true → (Fun Tryz.prog 160 [.agg z49, vI b] [] (.tup [.agg z46, vI z6.2]) []) ∧ (z36 = true → (Fun Tryz.prog 109 [.agg (.own 0 :: zi d.plan.root :: zi d.plan.deep :: zi d.plan.most :: zi d.mode :: .own 1 :: .int .u64 d.scan.bits :: zi d.scan.have_ :: zi a :: z1), vI 1, vI a] [.tree d.plan.shapes, .lst .lev d.stack] (.tup [.agg z42, vO 4]) z16) ∧ z47 = .tup [.agg z12, vO 4] ∧ (z16 : List Blk) = z5) ∧ (z36 = false → (z37 = true → (z32 = true → (Fun Tryz.prog 149 [.agg (.seq .shp d.plan.shapes :: zi d.plan.root :: zi d.plan.deep :: zi d.plan.most :: zi d.mode :: .seq .lev d.stack :: .int .u64 z6.1.bits :: zi z6.1.have_ :: zi a :: z1)] [] (.v z43) []) ∧ (z33 = true → (Fun Tryz.prog 109 [.agg (.own 0 :: zi d.plan.root :: zi d.plan.deep :: zi d.plan.most :: zi d.mode :: .own 1 :: .int .u64 z6.1.bits :: zi z6.1.have_ :: zi a :: z1), vI 9, vI d.at_] [.tree d.plan.shapes, .lst .lev d.stack] (.tup [.agg z20, vO 4]) z10) ∧ z31 = .tup [.agg z12, vO 4] ∧ (z10 : List Blk) = z5) ∧ (z33 = false → (z18 = true → (z19 = true → (Fun Tryz.prog 109 [.agg (.own 0 :: zi d.plan.root :: zi d.plan.deep :: zi d.plan.most :: zi d.mode :: .own 1 :: .int .u64 z6.1.bits :: zi z6.1.have_ :: zi a :: z1), vI 9, vI d.at_] [.tree d.plan.shapes, .lst .lev d.stack] (.tup [.agg z20, vO 4]) z10) ∧ z31 = .tup [.agg z12, vO 4] ∧ (z10 : List Blk) = z5) ∧ z26) ∧ z27)) ∧ (z32 = false → (z18 = true → (z19 = true → (Fun Tryz.prog 109 [.agg (.own 0 :: zi d.plan.root :: zi d.plan.deep :: zi d.plan.most :: zi d.mode :: .own 1 :: .int .u64 z6.1.bits :: zi z6.1.have_ :: zi a :: z1), vI 9, vI d.at_] [.tree d.plan.shapes, .lst .lev d.stack] (.tup [.agg z20, vO 4]) z10) ∧ z31 = .tup [.agg z12, vO 4] ∧ (z10 : List Blk) = z5) ∧ z26) ∧ z27)) ∧ (z37 = false → (z38 = true) ∧ (Fun Tryz.prog 161 [.agg (.seq .shp d.plan.shapes :: zi d.plan.root :: zi d.plan.deep :: zi d.plan.most :: zi d.mode :: .seq .lev d.stack :: .int .u64 0 :: zi 0 :: zi a :: z1), .c (.int .u64 z6.1.bits)] [] (.tup [.agg (oDcd0_5 0 1 z22.d), vO 2]) [.tree z22.d.plan.shapes, .lst .lev z22.d.stack, .lst .ev z22.out]) ∧ (.tup [.agg (oDcd0_5 2 3 z22.d), vO 4] : S) = .tup [.agg z12, vO 4] ∧ ([.dead, .dead, .tree z22.d.plan.shapes, .lst .lev z22.d.stack, .lst .ev z22.out] : List Blk) = z5))) ∧ (z38 = false → (z41 = true → (Fun Tryz.prog 160 [.agg z49, vI b] [] (.tup [.agg z46, vI z6.2]) []) ∧ (z36 = true → (Fun Tryz.prog 109 [.agg (.own 0 :: zi d.plan.root :: zi d.plan.deep :: zi d.plan.most :: zi d.mode :: .own 1 :: .int .u64 d.scan.bits :: zi d.scan.have_ :: zi a :: z1), vI 1, vI a] [.tree d.plan.shapes, .lst .lev d.stack] (.tup [.agg z42, vO 4]) z16) ∧ z47 = .tup [.agg z12, vO 4] ∧ (z16 : List Blk) = z5) ∧ (z36 = false → (z37 = true → (z32 = true → (Fun Tryz.prog 149 [.agg (.seq .shp d.plan.shapes :: zi d.plan.root :: zi d.plan.deep :: zi d.plan.most :: zi d.mode :: .seq .lev d.stack :: .int .u64 z6.1.bits :: zi z6.1.have_ :: zi a :: z1)] [] (.v z43) []) ∧ (z33 = true → (Fun Tryz.prog 109 [.agg (.own 0 :: zi d.plan.root :: zi d.plan.deep :: zi d.plan.most :: zi d.mode :: .own 1 :: .int .u64 z6.1.bits :: zi z6.1.have_ :: zi a :: z1), vI 9, vI d.at_] [.tree d.plan.shapes, .lst .lev d.stack] (.tup [.agg z20, vO 4]) z10) ∧ z31 = .tup [.agg z12, vO 4] ∧ (z10 : List Blk) = z5) ∧ (z33 = false → (z18 = true → (z19 = true → (Fun Tryz.prog 109 [.agg (.own 0 :: zi d.plan.root :: zi d.plan.deep :: zi d.plan.most :: zi d.mode :: .own 1 :: .int .u64 z6.1.bits :: zi z6.1.have_ :: zi a :: z1), vI 9, vI d.at_] [.tree d.plan.shapes, .lst .lev d.stack] (.tup [.agg z20, vO 4]) z10) ∧ z31 = .tup [.agg z12, vO 4] ∧ (z10 : List Blk) = z5) ∧ z26) ∧ z27)) ∧ (z32 = false → (z18 = true → (z19 = true → (Fun Tryz.prog 109 [.agg (.own 0 :: zi d.plan.root :: zi d.plan.deep :: zi d.plan.most :: zi d.mode :: .own 1 :: .int .u64 z6.1.bits :: zi z6.1.have_ :: zi a :: z1), vI 9, vI d.at_] [.tree d.plan.shapes, .lst .lev d.stack] (.tup [.agg z20, vO 4]) z10) ∧ z31 = .tup [.agg z12, vO 4] ∧ (z10 : List Blk) = z5) ∧ z26) ∧ z27)) ∧ (z37 = false → (z38 = false) ∧ (z41 = true) ∧ (Fun Tryz.prog 162 [.agg (.seq .shp d.plan.shapes :: zi d.plan.root :: zi d.plan.deep :: zi d.plan.most :: zi d.mode :: .seq .lev d.stack :: .int .u64 0 :: zi 0 :: zi a :: z1), .c (.int .u64 z6.1.bits)] [] (.tup [.agg (oDcd0_5 0 1 z28.d), vO 2]) [.tree z28.d.plan.shapes, .lst .lev z28.d.stack, .lst .ev z28.out]) ∧ (.tup [.agg (oDcd0_5 2 3 z28.d), vO 4] : S) = .tup [.agg z12, vO 4] ∧ ([.dead, .dead, .tree z28.d.plan.shapes, .lst .lev z28.d.stack, .lst .ev z28.out] : List Blk) = z5))) ∧ (z41 = false → (z44 = true → (Fun Tryz.prog 160 [.agg z49, vI b] [] (.tup [.agg z46, vI z6.2]) []) ∧ (z36 = true → (Fun Tryz.prog 109 [.agg (.own 0 :: zi d.plan.root :: zi d.plan.deep :: zi d.plan.most :: zi d.mode :: .own 1 :: .int .u64 d.scan.bits :: zi d.scan.have_ :: zi a :: z1), vI 1, vI a] [.tree d.plan.shapes, .lst .lev d.stack] (.tup [.agg z42, vO 4]) z16) ∧ z47 = .tup [.agg z12, vO 4] ∧ (z16 : List Blk) = z5) ∧ (z36 = false → (z37 = true → (z32 = true → (Fun Tryz.prog 149 [.agg (.seq .shp d.plan.shapes :: zi d.plan.root :: zi d.plan.deep :: zi d.plan.most :: zi d.mode :: .seq .lev d.stack :: .int .u64 z6.1.bits :: zi z6.1.have_ :: zi a :: z1)] [] (.v z43) []) ∧ (z33 = true → (Fun Tryz.prog 109 [.agg (.own 0 :: zi d.plan.root :: zi d.plan.deep :: zi d.plan.most :: zi d.mode :: .own 1 :: .int .u64 z6.1.bits :: zi z6.1.have_ :: zi a :: z1), vI 9, vI d.at_] [.tree d.plan.shapes, .lst .lev d.stack] (.tup [.agg z20, vO 4]) z10) ∧ z31 = .tup [.agg z12, vO 4] ∧ (z10 : List Blk) = z5) ∧ (z33 = false → (z18 = true → (z19 = true → (Fun Tryz.prog 109 [.agg (.own 0 :: zi d.plan.root :: zi d.plan.deep :: zi d.plan.most :: zi d.mode :: .own 1 :: .int .u64 z6.1.bits :: zi z6.1.have_ :: zi a :: z1), vI 9, vI d.at_] [.tree d.plan.shapes, .lst .lev d.stack] (.tup [.agg z20, vO 4]) z10) ∧ z31 = .tup [.agg z12, vO 4] ∧ (z10 : List Blk) = z5) ∧ z26) ∧ z27)) ∧ (z32 = false → (z18 = true → (z19 = true → (Fun Tryz.prog 109 [.agg (.own 0 :: zi d.plan.root :: zi d.plan.deep :: zi d.plan.most :: zi d.mode :: .own 1 :: .int .u64 z6.1.bits :: zi z6.1.have_ :: zi a :: z1), vI 9, vI d.at_] [.tree d.plan.shapes, .lst .lev d.stack] (.tup [.agg z20, vO 4]) z10) ∧ z31 = .tup [.agg z12, vO 4] ∧ (z10 : List Blk) = z5) ∧ z26) ∧ z27)) ∧ (z37 = false → (z38 = false) ∧ (z41 = false) ∧ (z44 = true) ∧ (Fun Tryz.prog 163 [.agg (.seq .shp d.plan.shapes :: zi d.plan.root :: zi d.plan.deep :: zi d.plan.most :: zi d.mode :: .seq .lev d.stack :: .int .u64 0 :: zi 0 :: zi a :: z1), .c (.int .u64 z6.1.bits)] [] (.tup [.agg (oDcd0_5 0 1 z24.d), vO 2]) [.tree z24.d.plan.shapes, .lst .lev z24.d.stack, .lst .ev z24.out]) ∧ (.tup [.agg (oDcd0_5 2 3 z24.d), vO 4] : S) = .tup [.agg z12, vO 4] ∧ ([.dead, .dead, .tree z24.d.plan.shapes, .lst .lev z24.d.stack, .lst .ev z24.out] : List Blk) = z5))) ∧ (z44 = false → (Fun Tryz.prog 160 [.agg z49, vI b] [] (.tup [.agg z46, vI z6.2]) []) ∧ (z36 = true → (Fun Tryz.prog 109 [.agg (oDcd0_5 0 1 d), vI 1, vI a] [.tree d.plan.shapes, .lst .lev d.stack] (.tup [.agg z39, vO 4]) z17) ∧ (.tup [.agg z39, vO 4] : S) = .tup [.agg z12, vO 4] ∧ (z17 : List Blk) = z5) ∧ (z36 = false → (z37 = true → (z32 = true → (Fun Tryz.prog 149 [.agg (.seq .shp d.plan.shapes :: zi d.plan.root :: zi d.plan.deep :: zi d.plan.most :: zi d.mode :: .seq .lev d.stack :: .int .u64 z6.1.bits :: zi z6.1.have_ :: zi d.start :: z1)] [] (.v z43) []) ∧ (z33 = true → (Fun Tryz.prog 109 [.agg (.own 0 :: zi d.plan.root :: zi d.plan.deep :: zi d.plan.most :: zi d.mode :: .own 1 :: .int .u64 z6.1.bits :: zi z6.1.have_ :: zi d.start :: z1), vI 9, vI d.at_] [.tree d.plan.shapes, .lst .lev d.stack] (.tup [.agg z30, vO 4]) z14) ∧ z40 = .tup [.agg z12, vO 4] ∧ (z14 : List Blk) = z5) ∧ (z33 = false → (z18 = true → (z19 = true → (Fun Tryz.prog 109 [.agg (.own 0 :: zi d.plan.root :: zi d.plan.deep :: zi d.plan.most :: zi d.mode :: .own 1 :: .int .u64 z6.1.bits :: zi z6.1.have_ :: zi d.start :: z1), vI 9, vI d.at_] [.tree d.plan.shapes, .lst .lev d.stack] (.tup [.agg z30, vO 4]) z14) ∧ z40 = .tup [.agg z12, vO 4] ∧ (z14 : List Blk) = z5) ∧ z34) ∧ z35)) ∧ (z32 = false → (z18 = true → (z19 = true → (Fun Tryz.prog 109 [.agg (.own 0 :: zi d.plan.root :: zi d.plan.deep :: zi d.plan.most :: zi d.mode :: .own 1 :: .int .u64 z6.1.bits :: zi z6.1.have_ :: zi d.start :: z1), vI 9, vI d.at_] [.tree d.plan.shapes, .lst .lev d.stack] (.tup [.agg z30, vO 4]) z14) ∧ z40 = .tup [.agg z12, vO 4] ∧ (z14 : List Blk) = z5) ∧ z34) ∧ z35)) ∧ (z37 = false → (z38 = false) ∧ (z41 = false) ∧ (z44 = false) ∧ (Fun Tryz.prog 159 [.agg (.own 0 :: zi d.plan.root :: zi d.plan.deep :: zi d.plan.most :: zi d.mode :: .own 1 :: .int .u64 0 :: zi 0 :: zi d.start :: z1), .c (.int .u64 z6.1.bits)] [.tree d.plan.shapes, .lst .lev d.stack] (.tup [.agg z45, vO 4]) z15) ∧ (.tup [.agg z45, vO 4] : S) = .tup [.agg z12, vO 4] ∧ (z15 : List Blk) = z5)))))) ∧ ((decide (d.scan.have_ = 0)) = false → (Fun Tryz.prog 160 [.agg z49, vI b] [] (.tup [.agg z46, vI z6.2]) []) ∧ (z36 = true → (Fun Tryz.prog 109 [.agg (oDcd0_5 0 1 d), vI 1, vI a] [.tree d.plan.shapes, .lst .lev d.stack] (.tup [.agg z39, vO 4]) z17) ∧ (.tup [.agg z39, vO 4] : S) = .tup [.agg z12, vO 4] ∧ (z17 : List Blk) = z5) ∧ (z36 = false → (z37 = true → (z32 = true → (Fun Tryz.prog 149 [.agg (.seq .shp d.plan.shapes :: zi d.plan.root :: zi d.plan.deep :: zi d.plan.most :: zi d.mode :: .seq .lev d.stack :: .int .u64 z6.1.bits :: zi z6.1.have_ :: zi d.start :: z1)] [] (.v z43) []) ∧ (z33 = true → (Fun Tryz.prog 109 [.agg (.own 0 :: zi d.plan.root :: zi d.plan.deep :: zi d.plan.most :: zi d.mode :: .own 1 :: .int .u64 z6.1.bits :: zi z6.1.have_ :: zi d.start :: z1), vI 9, vI d.at_] [.tree d.plan.shapes, .lst .lev d.stack] (.tup [.agg z30, vO 4]) z14) ∧ z40 = .tup [.agg z12, vO 4] ∧ (z14 : List Blk) = z5) ∧ (z33 = false → (z18 = true → (z19 = true → (Fun Tryz.prog 109 [.agg (.own 0 :: zi d.plan.root :: zi d.plan.deep :: zi d.plan.most :: zi d.mode :: .own 1 :: .int .u64 z6.1.bits :: zi z6.1.have_ :: zi d.start :: z1), vI 9, vI d.at_] [.tree d.plan.shapes, .lst .lev d.stack] (.tup [.agg z30, vO 4]) z14) ∧ z40 = .tup [.agg z12, vO 4] ∧ (z14 : List Blk) = z5) ∧ z34) ∧ z35)) ∧ (z32 = false → (z18 = true → (z19 = true → (Fun Tryz.prog 109 [.agg (.own 0 :: zi d.plan.root :: zi d.plan.deep :: zi d.plan.most :: zi d.mode :: .own 1 :: .int .u64 z6.1.bits :: zi z6.1.have_ :: zi d.start :: z1), vI 9, vI d.at_] [.tree d.plan.shapes, .lst .lev d.stack] (.tup [.agg z30, vO 4]) z14) ∧ z40 = .tup [.agg z12, vO 4] ∧ (z14 : List Blk) = z5) ∧ z34) ∧ z35)) ∧ (z37 = false → (z38 = true → (Fun Tryz.prog 161 [.agg (.seq .shp d.plan.shapes :: zi d.plan.root :: zi d.plan.deep :: zi d.plan.most :: zi d.mode :: .seq .lev d.stack :: .int .u64 0 :: zi 0 :: zi d.start :: z1), .c (.int .u64 z6.1.bits)] [] (.tup [.agg (oDcd0_5 0 1 z23.d), vO 2]) [.tree z23.d.plan.shapes, .lst .lev z23.d.stack, .lst .ev z23.out]) ∧ (.tup [.agg (oDcd0_5 2 3 z23.d), vO 4] : S) = .tup [.agg z12, vO 4] ∧ ([.dead, .dead, .tree z23.d.plan.shapes, .lst .lev z23.d.stack, .lst .ev z23.out] : List Blk) = z5) ∧ (z38 = false → (z41 = true → (Fun Tryz.prog 162 [.agg (.seq .shp d.plan.shapes :: zi d.plan.root :: zi d.plan.deep :: zi d.plan.most :: zi d.mode :: .seq .lev d.stack :: .int .u64 0 :: zi 0 :: zi d.start :: z1), .c (.int .u64 z6.1.bits)] [] (.tup [.agg (oDcd0_5 0 1 z29.d), vO 2]) [.tree z29.d.plan.shapes, .lst .lev z29.d.stack, .lst .ev z29.out]) ∧ (.tup [.agg (oDcd0_5 2 3 z29.d), vO 4] : S) = .tup [.agg z12, vO 4] ∧ ([.dead, .dead, .tree z29.d.plan.shapes, .lst .lev z29.d.stack, .lst .ev z29.out] : List Blk) = z5) ∧ (z41 = false → (z44 = true → (Fun Tryz.prog 163 [.agg (.seq .shp d.plan.shapes :: zi d.plan.root :: zi d.plan.deep :: zi d.plan.most :: zi d.mode :: .seq .lev d.stack :: .int .u64 0 :: zi 0 :: zi d.start :: z1), .c (.int .u64 z6.1.bits)] [] (.tup [.agg (oDcd0_5 0 1 z25.d), vO 2]) [.tree z25.d.plan.shapes, .lst .lev z25.d.stack, .lst .ev z25.out]) ∧ (.tup [.agg (oDcd0_5 2 3 z25.d), vO 4] : S) = .tup [.agg z12, vO 4] ∧ ([.dead, .dead, .tree z25.d.plan.shapes, .lst .lev z25.d.stack, .lst .ev z25.out] : List Blk) = z5) ∧ (z44 = false → (Fun Tryz.prog 159 [.agg (.own 0 :: zi d.plan.root :: zi d.plan.deep :: zi d.plan.most :: zi d.mode :: .own 1 :: .int .u64 0 :: zi 0 :: zi d.start :: z1), .c (.int .u64 z6.1.bits)] [.tree d.plan.shapes, .lst .lev d.stack] (.tup [.agg z45, vO 4]) z15) ∧ (.tup [.agg z45, vO 4] : S) = .tup [.agg z12, vO 4] ∧ (z15 : List Blk) = z5)))))))) (by kernel_rfl) ?_
  refine dsp (fun h1 p1 => ?_) fun h1 p1 => ?_
  refine dsp (fun h2 p2 => ?_) fun h2 p2 => ?_
  refine ⟨(scanByte_s d.scan _ (by omega)), dsp (fun h3 p3 => ?_) fun h3 p3 => ?_⟩
  refine ⟨(fail_s (⟨d.plan, d.mode, d.stack, d.scan, a, d.at_, d.field, d.wire, d.want, d.utf, d.end_⟩ : Dcd) _ _), ?_⟩
  refine have hm1 : (varM ⟨d, []⟩ b a).d = (dFail (⟨d.plan, d.mode, d.stack, d.scan, a, d.at_, d.field, d.wire, d.want, d.utf, d.end_⟩ : Dcd) 1 a) := ?_; ?_
  rotate_left
  refine have hm2 : (varM ⟨d, []⟩ b a).out = [failEv 1 a] := ?_; ?_
  rotate_left
  exact ⟨(by rw [hm1] <;> rfl), (by rw [hm1, hm2] <;> rfl)⟩
  refine dsp (fun h4 p4 => ?_) fun h4 p4 => ?_
  refine ⟨fun h5 => have q5 := bnot_t h5; have p5 := of_decide_eq_false q5; ?_, fun h5 => have q5 := bnot_f h5; have p5 := of_decide_eq_true q5; ?_⟩
  refine ⟨(topL_s (⟨d.plan, d.mode, d.stack, (scanByte d.scan b).1, a, d.at_, d.field, d.wire, d.want, d.utf, d.end_⟩ : Dcd) (by first | omega | rfl | (dsimp only; omega))), dsp (fun h6 p6 => ?_) fun h6 p6 => ?_⟩
  refine ⟨(fail_s (⟨d.plan, d.mode, d.stack, (scanByte d.scan b).1, a, d.at_, d.field, d.wire, d.want, d.utf, d.end_⟩ : Dcd) _ _), ?_⟩
  refine have hm1 : (varM ⟨d, []⟩ b a).d = (dFail (⟨d.plan, d.mode, d.stack, (scanByte d.scan b).1, a, d.at_, d.field, d.wire, d.want, d.utf, d.end_⟩ : Dcd) 9 d.at_) := ?_; ?_
  rotate_left
  refine have hm2 : (varM ⟨d, []⟩ b a).out = [failEv 9 d.at_] := ?_; ?_
  rotate_left
  exact ⟨(by rw [hm1] <;> rfl), (by rw [hm1, hm2] <;> rfl)⟩
  refine dsp (fun h7 p7 => ?_) fun h7 p7 => ?_
  refine dsp (fun h8 p8 => ?_) fun h8 p8 => ?_
  refine ⟨(fail_s (⟨d.plan, d.mode, d.stack, (scanByte d.scan b).1, a, d.at_, d.field, d.wire, d.want, d.utf, d.end_⟩ : Dcd) _ _), ?_⟩
  refine have hm1 : (varM ⟨d, []⟩ b a).d = (dFail (⟨d.plan, d.mode, d.stack, (scanByte d.scan b).1, a, d.at_, d.field, d.wire, d.want, d.utf, d.end_⟩ : Dcd) 9 d.at_) := ?_; ?_
  rotate_left
  refine have hm2 : (varM ⟨d, []⟩ b a).out = [failEv 9 d.at_] := ?_; ?_
  rotate_left
  exact ⟨(by rw [hm1] <;> rfl), (by rw [hm1, hm2] <;> rfl)⟩
  refine have hm1 : (varM ⟨d, []⟩ b a).d = (⟨d.plan, d.mode, d.stack, (scanByte d.scan b).1, a, d.at_, d.field, d.wire, d.want, d.utf, d.end_⟩ : Dcd) := ?_; ?_
  rotate_left
  refine have hm2 : (varM ⟨d, []⟩ b a).out = ([] : List Ev) := ?_; ?_
  rotate_left
  exact ⟨(by rw [hm1] <;> rfl), (by rw [hm1, hm2] <;> rfl)⟩
  refine have hm1 : (varM ⟨d, []⟩ b a).d = (⟨d.plan, d.mode, d.stack, (scanByte d.scan b).1, a, d.at_, d.field, d.wire, d.want, d.utf, d.end_⟩ : Dcd) := ?_; ?_
  rotate_left
  refine have hm2 : (varM ⟨d, []⟩ b a).out = ([] : List Ev) := ?_; ?_
  rotate_left
  exact ⟨(by rw [hm1] <;> rfl), (by rw [hm1, hm2] <;> rfl)⟩
  refine dsp (fun h6 p6 => ?_) fun h6 p6 => ?_
  refine dsp (fun h7 p7 => ?_) fun h7 p7 => ?_
  refine ⟨(fail_s (⟨d.plan, d.mode, d.stack, (scanByte d.scan b).1, a, d.at_, d.field, d.wire, d.want, d.utf, d.end_⟩ : Dcd) _ _), ?_⟩
  refine have hm1 : (varM ⟨d, []⟩ b a).d = (dFail (⟨d.plan, d.mode, d.stack, (scanByte d.scan b).1, a, d.at_, d.field, d.wire, d.want, d.utf, d.end_⟩ : Dcd) 9 d.at_) := ?_; ?_
  rotate_left
  refine have hm2 : (varM ⟨d, []⟩ b a).out = [failEv 9 d.at_] := ?_; ?_
  rotate_left
  exact ⟨(by rw [hm1] <;> rfl), (by rw [hm1, hm2] <;> rfl)⟩
  refine have hm1 : (varM ⟨d, []⟩ b a).d = (⟨d.plan, d.mode, d.stack, (scanByte d.scan b).1, a, d.at_, d.field, d.wire, d.want, d.utf, d.end_⟩ : Dcd) := ?_; ?_
  rotate_left
  refine have hm2 : (varM ⟨d, []⟩ b a).out = ([] : List Ev) := ?_; ?_
  rotate_left
  exact ⟨(by rw [hm1] <;> rfl), (by rw [hm1, hm2] <;> rfl)⟩
  refine have hm1 : (varM ⟨d, []⟩ b a).d = (⟨d.plan, d.mode, d.stack, (scanByte d.scan b).1, a, d.at_, d.field, d.wire, d.want, d.utf, d.end_⟩ : Dcd) := ?_; ?_
  rotate_left
  refine have hm2 : (varM ⟨d, []⟩ b a).out = ([] : List Ev) := ?_; ?_
  rotate_left
  exact ⟨(by rw [hm1] <;> rfl), (by rw [hm1, hm2] <;> rfl)⟩
  refine ⟨h2, (frame_s (⟨d.plan, d.mode, d.stack, (⟨0, 0⟩ : Scn), a, d.at_, d.field, d.wire, d.want, d.utf, d.end_⟩ : Dcd) _ ((by first | (exact hp1.lv) | (exact levelsOk_same hp1.lv rfl rfl))) (by omega)), ?_⟩
  refine have hm1 : (varM ⟨d, []⟩ b a).d = (frameM ⟨(⟨d.plan, d.mode, d.stack, (⟨0, 0⟩ : Scn), a, d.at_, d.field, d.wire, d.want, d.utf, d.end_⟩ : Dcd), []⟩ (scanByte d.scan b).1.bits).d := ?_; ?_
  rotate_left
  refine have hm2 : (varM ⟨d, []⟩ b a).out = (frameM ⟨(⟨d.plan, d.mode, d.stack, (⟨0, 0⟩ : Scn), a, d.at_, d.field, d.wire, d.want, d.utf, d.end_⟩ : Dcd), []⟩ (scanByte d.scan b).1.bits).out := ?_; ?_
  rotate_left
  exact ⟨(by rw [hm1] <;> rfl), (by rw [hm1, hm2] <;> rfl)⟩
  refine dsp (fun h3 p3 => ?_) fun h3 p3 => ?_
  refine ⟨(scanByte_s d.scan _ (by omega)), dsp (fun h4 p4 => ?_) fun h4 p4 => ?_⟩
  refine ⟨(fail_s (⟨d.plan, d.mode, d.stack, d.scan, a, d.at_, d.field, d.wire, d.want, d.utf, d.end_⟩ : Dcd) _ _), ?_⟩
  refine have hm1 : (varM ⟨d, []⟩ b a).d = (dFail (⟨d.plan, d.mode, d.stack, d.scan, a, d.at_, d.field, d.wire, d.want, d.utf, d.end_⟩ : Dcd) 1 a) := ?_; ?_
  rotate_left
  refine have hm2 : (varM ⟨d, []⟩ b a).out = [failEv 1 a] := ?_; ?_
  rotate_left
  exact ⟨(by rw [hm1] <;> rfl), (by rw [hm1, hm2] <;> rfl)⟩
  refine dsp (fun h5 p5 => ?_) fun h5 p5 => ?_
  refine ⟨fun h6 => have q6 := bnot_t h6; have p6 := of_decide_eq_false q6; ?_, fun h6 => have q6 := bnot_f h6; have p6 := of_decide_eq_true q6; ?_⟩
  refine ⟨(topL_s (⟨d.plan, d.mode, d.stack, (scanByte d.scan b).1, a, d.at_, d.field, d.wire, d.want, d.utf, d.end_⟩ : Dcd) (by first | omega | rfl | (dsimp only; omega))), dsp (fun h7 p7 => ?_) fun h7 p7 => ?_⟩
  refine ⟨(fail_s (⟨d.plan, d.mode, d.stack, (scanByte d.scan b).1, a, d.at_, d.field, d.wire, d.want, d.utf, d.end_⟩ : Dcd) _ _), ?_⟩
  refine have hm1 : (varM ⟨d, []⟩ b a).d = (dFail (⟨d.plan, d.mode, d.stack, (scanByte d.scan b).1, a, d.at_, d.field, d.wire, d.want, d.utf, d.end_⟩ : Dcd) 9 d.at_) := ?_; ?_
  rotate_left
  refine have hm2 : (varM ⟨d, []⟩ b a).out = [failEv 9 d.at_] := ?_; ?_
  rotate_left
  exact ⟨(by rw [hm1] <;> rfl), (by rw [hm1, hm2] <;> rfl)⟩
  refine dsp (fun h8 p8 => ?_) fun h8 p8 => ?_
  refine dsp (fun h9 p9 => ?_) fun h9 p9 => ?_
  refine ⟨(fail_s (⟨d.plan, d.mode, d.stack, (scanByte d.scan b).1, a, d.at_, d.field, d.wire, d.want, d.utf, d.end_⟩ : Dcd) _ _), ?_⟩
  refine have hm1 : (varM ⟨d, []⟩ b a).d = (dFail (⟨d.plan, d.mode, d.stack, (scanByte d.scan b).1, a, d.at_, d.field, d.wire, d.want, d.utf, d.end_⟩ : Dcd) 9 d.at_) := ?_; ?_
  rotate_left
  refine have hm2 : (varM ⟨d, []⟩ b a).out = [failEv 9 d.at_] := ?_; ?_
  rotate_left
  exact ⟨(by rw [hm1] <;> rfl), (by rw [hm1, hm2] <;> rfl)⟩
  refine have hm1 : (varM ⟨d, []⟩ b a).d = (⟨d.plan, d.mode, d.stack, (scanByte d.scan b).1, a, d.at_, d.field, d.wire, d.want, d.utf, d.end_⟩ : Dcd) := ?_; ?_
  rotate_left
  refine have hm2 : (varM ⟨d, []⟩ b a).out = ([] : List Ev) := ?_; ?_
  rotate_left
  exact ⟨(by rw [hm1] <;> rfl), (by rw [hm1, hm2] <;> rfl)⟩
  refine have hm1 : (varM ⟨d, []⟩ b a).d = (⟨d.plan, d.mode, d.stack, (scanByte d.scan b).1, a, d.at_, d.field, d.wire, d.want, d.utf, d.end_⟩ : Dcd) := ?_; ?_
  rotate_left
  refine have hm2 : (varM ⟨d, []⟩ b a).out = ([] : List Ev) := ?_; ?_
  rotate_left
  exact ⟨(by rw [hm1] <;> rfl), (by rw [hm1, hm2] <;> rfl)⟩
  refine dsp (fun h7 p7 => ?_) fun h7 p7 => ?_
  refine dsp (fun h8 p8 => ?_) fun h8 p8 => ?_
  refine ⟨(fail_s (⟨d.plan, d.mode, d.stack, (scanByte d.scan b).1, a, d.at_, d.field, d.wire, d.want, d.utf, d.end_⟩ : Dcd) _ _), ?_⟩
  refine have hm1 : (varM ⟨d, []⟩ b a).d = (dFail (⟨d.plan, d.mode, d.stack, (scanByte d.scan b).1, a, d.at_, d.field, d.wire, d.want, d.utf, d.end_⟩ : Dcd) 9 d.at_) := ?_; ?_
  rotate_left
  refine have hm2 : (varM ⟨d, []⟩ b a).out = [failEv 9 d.at_] := ?_; ?_
  rotate_left
  exact ⟨(by rw [hm1] <;> rfl), (by rw [hm1, hm2] <;> rfl)⟩
  refine have hm1 : (varM ⟨d, []⟩ b a).d = (⟨d.plan, d.mode, d.stack, (scanByte d.scan b).1, a, d.at_, d.field, d.wire, d.want, d.utf, d.end_⟩ : Dcd) := ?_; ?_
  rotate_left
  refine have hm2 : (varM ⟨d, []⟩ b a).out = ([] : List Ev) := ?_; ?_
  rotate_left
  exact ⟨(by rw [hm1] <;> rfl), (by rw [hm1, hm2] <;> rfl)⟩
  refine have hm1 : (varM ⟨d, []⟩ b a).d = (⟨d.plan, d.mode, d.stack, (scanByte d.scan b).1, a, d.at_, d.field, d.wire, d.want, d.utf, d.end_⟩ : Dcd) := ?_; ?_
  rotate_left
  refine have hm2 : (varM ⟨d, []⟩ b a).out = ([] : List Ev) := ?_; ?_
  rotate_left
  exact ⟨(by rw [hm1] <;> rfl), (by rw [hm1, hm2] <;> rfl)⟩
  refine ⟨h2, h3, (tag_s (⟨d.plan, d.mode, d.stack, (⟨0, 0⟩ : Scn), a, d.at_, d.field, d.wire, d.want, d.utf, d.end_⟩ : Dcd) _ ((by first | (exact hp1.lv) | (exact levelsOk_same hp1.lv rfl rfl))) (by omega)), ?_⟩
  refine have hm1 : (varM ⟨d, []⟩ b a).d = (tagM ⟨(⟨d.plan, d.mode, d.stack, (⟨0, 0⟩ : Scn), a, d.at_, d.field, d.wire, d.want, d.utf, d.end_⟩ : Dcd), []⟩ (scanByte d.scan b).1.bits).d := ?_; ?_
  rotate_left
  refine have hm2 : (varM ⟨d, []⟩ b a).out = (tagM ⟨(⟨d.plan, d.mode, d.stack, (⟨0, 0⟩ : Scn), a, d.at_, d.field, d.wire, d.want, d.utf, d.end_⟩ : Dcd), []⟩ (scanByte d.scan b).1.bits).out := ?_; ?_
  rotate_left
  exact ⟨(by rw [hm1] <;> rfl), (by rw [hm1, hm2] <;> rfl)⟩
  refine dsp (fun h4 p4 => ?_) fun h4 p4 => ?_
  refine ⟨(scanByte_s d.scan _ (by omega)), dsp (fun h5 p5 => ?_) fun h5 p5 => ?_⟩
  refine ⟨(fail_s (⟨d.plan, d.mode, d.stack, d.scan, a, d.at_, d.field, d.wire, d.want, d.utf, d.end_⟩ : Dcd) _ _), ?_⟩
  refine have hm1 : (varM ⟨d, []⟩ b a).d = (dFail (⟨d.plan, d.mode, d.stack, d.scan, a, d.at_, d.field, d.wire, d.want, d.utf, d.end_⟩ : Dcd) 1 a) := ?_; ?_
  rotate_left
  refine have hm2 : (varM ⟨d, []⟩ b a).out = [failEv 1 a] := ?_; ?_
  rotate_left
  exact ⟨(by rw [hm1] <;> rfl), (by rw [hm1, hm2] <;> rfl)⟩
  refine dsp (fun h6 p6 => ?_) fun h6 p6 => ?_
  refine ⟨fun h7 => have q7 := bnot_t h7; have p7 := of_decide_eq_false q7; ?_, fun h7 => have q7 := bnot_f h7; have p7 := of_decide_eq_true q7; ?_⟩
  refine ⟨(topL_s (⟨d.plan, d.mode, d.stack, (scanByte d.scan b).1, a, d.at_, d.field, d.wire, d.want, d.utf, d.end_⟩ : Dcd) (by first | omega | rfl | (dsimp only; omega))), dsp (fun h8 p8 => ?_) fun h8 p8 => ?_⟩
  refine ⟨(fail_s (⟨d.plan, d.mode, d.stack, (scanByte d.scan b).1, a, d.at_, d.field, d.wire, d.want, d.utf, d.end_⟩ : Dcd) _ _), ?_⟩
  refine have hm1 : (varM ⟨d, []⟩ b a).d = (dFail (⟨d.plan, d.mode, d.stack, (scanByte d.scan b).1, a, d.at_, d.field, d.wire, d.want, d.utf, d.end_⟩ : Dcd) 9 d.at_) := ?_; ?_
  rotate_left
  refine have hm2 : (varM ⟨d, []⟩ b a).out = [failEv 9 d.at_] := ?_; ?_
  rotate_left
  exact ⟨(by rw [hm1] <;> rfl), (by rw [hm1, hm2] <;> rfl)⟩
  refine dsp (fun h9 p9 => ?_) fun h9 p9 => ?_
  refine dsp (fun h10 p10 => ?_) fun h10 p10 => ?_
  refine ⟨(fail_s (⟨d.plan, d.mode, d.stack, (scanByte d.scan b).1, a, d.at_, d.field, d.wire, d.want, d.utf, d.end_⟩ : Dcd) _ _), ?_⟩
  refine have hm1 : (varM ⟨d, []⟩ b a).d = (dFail (⟨d.plan, d.mode, d.stack, (scanByte d.scan b).1, a, d.at_, d.field, d.wire, d.want, d.utf, d.end_⟩ : Dcd) 9 d.at_) := ?_; ?_
  rotate_left
  refine have hm2 : (varM ⟨d, []⟩ b a).out = [failEv 9 d.at_] := ?_; ?_
  rotate_left
  exact ⟨(by rw [hm1] <;> rfl), (by rw [hm1, hm2] <;> rfl)⟩
  refine have hm1 : (varM ⟨d, []⟩ b a).d = (⟨d.plan, d.mode, d.stack, (scanByte d.scan b).1, a, d.at_, d.field, d.wire, d.want, d.utf, d.end_⟩ : Dcd) := ?_; ?_
  rotate_left
  refine have hm2 : (varM ⟨d, []⟩ b a).out = ([] : List Ev) := ?_; ?_
  rotate_left
  exact ⟨(by rw [hm1] <;> rfl), (by rw [hm1, hm2] <;> rfl)⟩
  refine have hm1 : (varM ⟨d, []⟩ b a).d = (⟨d.plan, d.mode, d.stack, (scanByte d.scan b).1, a, d.at_, d.field, d.wire, d.want, d.utf, d.end_⟩ : Dcd) := ?_; ?_
  rotate_left
  refine have hm2 : (varM ⟨d, []⟩ b a).out = ([] : List Ev) := ?_; ?_
  rotate_left
  exact ⟨(by rw [hm1] <;> rfl), (by rw [hm1, hm2] <;> rfl)⟩
  refine dsp (fun h8 p8 => ?_) fun h8 p8 => ?_
  refine dsp (fun h9 p9 => ?_) fun h9 p9 => ?_
  refine ⟨(fail_s (⟨d.plan, d.mode, d.stack, (scanByte d.scan b).1, a, d.at_, d.field, d.wire, d.want, d.utf, d.end_⟩ : Dcd) _ _), ?_⟩
  refine have hm1 : (varM ⟨d, []⟩ b a).d = (dFail (⟨d.plan, d.mode, d.stack, (scanByte d.scan b).1, a, d.at_, d.field, d.wire, d.want, d.utf, d.end_⟩ : Dcd) 9 d.at_) := ?_; ?_
  rotate_left
  refine have hm2 : (varM ⟨d, []⟩ b a).out = [failEv 9 d.at_] := ?_; ?_
  rotate_left
  exact ⟨(by rw [hm1] <;> rfl), (by rw [hm1, hm2] <;> rfl)⟩
  refine have hm1 : (varM ⟨d, []⟩ b a).d = (⟨d.plan, d.mode, d.stack, (scanByte d.scan b).1, a, d.at_, d.field, d.wire, d.want, d.utf, d.end_⟩ : Dcd) := ?_; ?_
  rotate_left
  refine have hm2 : (varM ⟨d, []⟩ b a).out = ([] : List Ev) := ?_; ?_
  rotate_left
  exact ⟨(by rw [hm1] <;> rfl), (by rw [hm1, hm2] <;> rfl)⟩
  refine have hm1 : (varM ⟨d, []⟩ b a).d = (⟨d.plan, d.mode, d.stack, (scanByte d.scan b).1, a, d.at_, d.field, d.wire, d.want, d.utf, d.end_⟩ : Dcd) := ?_; ?_
  rotate_left
  refine have hm2 : (varM ⟨d, []⟩ b a).out = ([] : List Ev) := ?_; ?_
  rotate_left
  exact ⟨(by rw [hm1] <;> rfl), (by rw [hm1, hm2] <;> rfl)⟩
  refine ⟨h2, h3, h4, (long_d (⟨d.plan, d.mode, d.stack, (⟨0, 0⟩ : Scn), a, d.at_, d.field, d.wire, d.want, d.utf, d.end_⟩ : Dcd) _ ((by first | (exact hp1.lv) | (exact levelsOk_same hp1.lv rfl rfl))) (by omega) (hp1.kn)), ?_⟩
  refine have hm1 : (varM ⟨d, []⟩ b a).d = (longM ⟨(⟨d.plan, d.mode, d.stack, (⟨0, 0⟩ : Scn), a, d.at_, d.field, d.wire, d.want, d.utf, d.end_⟩ : Dcd), []⟩ (scanByte d.scan b).1.bits).d := ?_; ?_
  rotate_left
  refine have hm2 : (varM ⟨d, []⟩ b a).out = (longM ⟨(⟨d.plan, d.mode, d.stack, (⟨0, 0⟩ : Scn), a, d.at_, d.field, d.wire, d.want, d.utf, d.end_⟩ : Dcd), []⟩ (scanByte d.scan b).1.bits).out := ?_; ?_
  rotate_left
  exact ⟨(by rw [hm1] <;> rfl), (by rw [hm1, hm2] <;> rfl)⟩
  refine ⟨(scanByte_s d.scan _ (by omega)), dsp (fun h5 p5 => ?_) fun h5 p5 => ?_⟩
  refine ⟨(fail_s d _ _), ?_⟩
  refine have hm1 : (varM ⟨d, []⟩ b a).d = (dFail d 1 a) := ?_; ?_
  rotate_left
  refine have hm2 : (varM ⟨d, []⟩ b a).out = [failEv 1 a] := ?_; ?_
  rotate_left
  exact ⟨(by rw [hm1] <;> rfl), (by rw [hm1, hm2] <;> rfl)⟩
  refine dsp (fun h6 p6 => ?_) fun h6 p6 => ?_
  refine ⟨fun h7 => have q7 := bnot_t h7; have p7 := of_decide_eq_false q7; ?_, fun h7 => have q7 := bnot_f h7; have p7 := of_decide_eq_true q7; ?_⟩
  refine ⟨(topL_s (⟨d.plan, d.mode, d.stack, (scanByte d.scan b).1, d.start, d.at_, d.field, d.wire, d.want, d.utf, d.end_⟩ : Dcd) (by first | omega | rfl | (dsimp only; omega))), dsp (fun h8 p8 => ?_) fun h8 p8 => ?_⟩
  refine ⟨(fail_s (⟨d.plan, d.mode, d.stack, (scanByte d.scan b).1, d.start, d.at_, d.field, d.wire, d.want, d.utf, d.end_⟩ : Dcd) _ _), ?_⟩
  refine have hm1 : (varM ⟨d, []⟩ b a).d = (dFail (⟨d.plan, d.mode, d.stack, (scanByte d.scan b).1, d.start, d.at_, d.field, d.wire, d.want, d.utf, d.end_⟩ : Dcd) 9 d.at_) := ?_; ?_
  rotate_left
  refine have hm2 : (varM ⟨d, []⟩ b a).out = [failEv 9 d.at_] := ?_; ?_
  rotate_left
  exact ⟨(by rw [hm1] <;> rfl), (by rw [hm1, hm2] <;> rfl)⟩
  refine dsp (fun h9 p9 => ?_) fun h9 p9 => ?_
  refine dsp (fun h10 p10 => ?_) fun h10 p10 => ?_
  refine ⟨(fail_s (⟨d.plan, d.mode, d.stack, (scanByte d.scan b).1, d.start, d.at_, d.field, d.wire, d.want, d.utf, d.end_⟩ : Dcd) _ _), ?_⟩
  refine have hm1 : (varM ⟨d, []⟩ b a).d = (dFail (⟨d.plan, d.mode, d.stack, (scanByte d.scan b).1, d.start, d.at_, d.field, d.wire, d.want, d.utf, d.end_⟩ : Dcd) 9 d.at_) := ?_; ?_
  rotate_left
  refine have hm2 : (varM ⟨d, []⟩ b a).out = [failEv 9 d.at_] := ?_; ?_
  rotate_left
  exact ⟨(by rw [hm1] <;> rfl), (by rw [hm1, hm2] <;> rfl)⟩
  refine have hm1 : (varM ⟨d, []⟩ b a).d = (⟨d.plan, d.mode, d.stack, (scanByte d.scan b).1, d.start, d.at_, d.field, d.wire, d.want, d.utf, d.end_⟩ : Dcd) := ?_; ?_
  rotate_left
  refine have hm2 : (varM ⟨d, []⟩ b a).out = ([] : List Ev) := ?_; ?_
  rotate_left
  exact ⟨(by rw [hm1] <;> rfl), (by rw [hm1, hm2] <;> rfl)⟩
  refine have hm1 : (varM ⟨d, []⟩ b a).d = (⟨d.plan, d.mode, d.stack, (scanByte d.scan b).1, d.start, d.at_, d.field, d.wire, d.want, d.utf, d.end_⟩ : Dcd) := ?_; ?_
  rotate_left
  refine have hm2 : (varM ⟨d, []⟩ b a).out = ([] : List Ev) := ?_; ?_
  rotate_left
  exact ⟨(by rw [hm1] <;> rfl), (by rw [hm1, hm2] <;> rfl)⟩
  refine dsp (fun h8 p8 => ?_) fun h8 p8 => ?_
  refine dsp (fun h9 p9 => ?_) fun h9 p9 => ?_
  refine ⟨(fail_s (⟨d.plan, d.mode, d.stack, (scanByte d.scan b).1, d.start, d.at_, d.field, d.wire, d.want, d.utf, d.end_⟩ : Dcd) _ _), ?_⟩
  refine have hm1 : (varM ⟨d, []⟩ b a).d = (dFail (⟨d.plan, d.mode, d.stack, (scanByte d.scan b).1, d.start, d.at_, d.field, d.wire, d.want, d.utf, d.end_⟩ : Dcd) 9 d.at_) := ?_; ?_
  rotate_left
  refine have hm2 : (varM ⟨d, []⟩ b a).out = [failEv 9 d.at_] := ?_; ?_
  rotate_left
  exact ⟨(by rw [hm1] <;> rfl), (by rw [hm1, hm2] <;> rfl)⟩
  refine have hm1 : (varM ⟨d, []⟩ b a).d = (⟨d.plan, d.mode, d.stack, (scanByte d.scan b).1, d.start, d.at_, d.field, d.wire, d.want, d.utf, d.end_⟩ : Dcd) := ?_; ?_
  rotate_left
  refine have hm2 : (varM ⟨d, []⟩ b a).out = ([] : List Ev) := ?_; ?_
  rotate_left
  exact ⟨(by rw [hm1] <;> rfl), (by rw [hm1, hm2] <;> rfl)⟩
  refine have hm1 : (varM ⟨d, []⟩ b a).d = (⟨d.plan, d.mode, d.stack, (scanByte d.scan b).1, d.start, d.at_, d.field, d.wire, d.want, d.utf, d.end_⟩ : Dcd) := ?_; ?_
  rotate_left
  refine have hm2 : (varM ⟨d, []⟩ b a).out = ([] : List Ev) := ?_; ?_
  rotate_left
  exact ⟨(by rw [hm1] <;> rfl), (by rw [hm1, hm2] <;> rfl)⟩
  refine ⟨h2, h3, h4, (num16_s (⟨d.plan, d.mode, d.stack, (⟨0, 0⟩ : Scn), d.start, d.at_, d.field, d.wire, d.want, d.utf, d.end_⟩ : Dcd) _ (by first | omega | rfl | (dsimp only; omega)) (by omega)), ?_⟩
  refine have hm1 : (varM ⟨d, []⟩ b a).d = (settleM (valueM ⟨(⟨d.plan, d.mode, d.stack, (⟨0, 0⟩ : Scn), d.start, d.at_, d.field, d.wire, d.want, d.utf, d.end_⟩ : Dcd), []⟩ (scanByte d.scan b).1.bits)).d := ?_; ?_
  rotate_left
  refine have hm2 : (varM ⟨d, []⟩ b a).out = (settleM (valueM ⟨(⟨d.plan, d.mode, d.stack, (⟨0, 0⟩ : Scn), d.start, d.at_, d.field, d.wire, d.want, d.utf, d.end_⟩ : Dcd), []⟩ (scanByte d.scan b).1.bits)).out := ?_; ?_
  rotate_left
  exact ⟨(by rw [hm1] <;> rfl), (by rw [hm1, hm2] <;> rfl)⟩
  refine ⟨(scanByte_s d.scan _ (by omega)), dsp (fun h2 p2 => ?_) fun h2 p2 => ?_⟩
  refine ⟨(fail_s d _ _), ?_⟩
  refine have hm1 : (varM ⟨d, []⟩ b a).d = (dFail d 1 a) := ?_; ?_
  rotate_left
  refine have hm2 : (varM ⟨d, []⟩ b a).out = [failEv 1 a] := ?_; ?_
  rotate_left
  exact ⟨(by rw [hm1] <;> rfl), (by rw [hm1, hm2] <;> rfl)⟩
  refine dsp (fun h3 p3 => ?_) fun h3 p3 => ?_
  refine ⟨fun h4 => have q4 := bnot_t h4; have p4 := of_decide_eq_false q4; ?_, fun h4 => have q4 := bnot_f h4; have p4 := of_decide_eq_true q4; ?_⟩
  refine ⟨(topL_s (⟨d.plan, d.mode, d.stack, (scanByte d.scan b).1, d.start, d.at_, d.field, d.wire, d.want, d.utf, d.end_⟩ : Dcd) (by first | omega | rfl | (dsimp only; omega))), dsp (fun h5 p5 => ?_) fun h5 p5 => ?_⟩
  refine ⟨(fail_s (⟨d.plan, d.mode, d.stack, (scanByte d.scan b).1, d.start, d.at_, d.field, d.wire, d.want, d.utf, d.end_⟩ : Dcd) _ _), ?_⟩
  refine have hm1 : (varM ⟨d, []⟩ b a).d = (dFail (⟨d.plan, d.mode, d.stack, (scanByte d.scan b).1, d.start, d.at_, d.field, d.wire, d.want, d.utf, d.end_⟩ : Dcd) 9 d.at_) := ?_; ?_
  rotate_left
  refine have hm2 : (varM ⟨d, []⟩ b a).out = [failEv 9 d.at_] := ?_; ?_
  rotate_left
  exact ⟨(by rw [hm1] <;> rfl), (by rw [hm1, hm2] <;> rfl)⟩
  refine dsp (fun h6 p6 => ?_) fun h6 p6 => ?_
  refine dsp (fun h7 p7 => ?_) fun h7 p7 => ?_
  refine ⟨(fail_s (⟨d.plan, d.mode, d.stack, (scanByte d.scan b).1, d.start, d.at_, d.field, d.wire, d.want, d.utf, d.end_⟩ : Dcd) _ _), ?_⟩
  refine have hm1 : (varM ⟨d, []⟩ b a).d = (dFail (⟨d.plan, d.mode, d.stack, (scanByte d.scan b).1, d.start, d.at_, d.field, d.wire, d.want, d.utf, d.end_⟩ : Dcd) 9 d.at_) := ?_; ?_
  rotate_left
  refine have hm2 : (varM ⟨d, []⟩ b a).out = [failEv 9 d.at_] := ?_; ?_
  rotate_left
  exact ⟨(by rw [hm1] <;> rfl), (by rw [hm1, hm2] <;> rfl)⟩
  refine have hm1 : (varM ⟨d, []⟩ b a).d = (⟨d.plan, d.mode, d.stack, (scanByte d.scan b).1, d.start, d.at_, d.field, d.wire, d.want, d.utf, d.end_⟩ : Dcd) := ?_; ?_
  rotate_left
  refine have hm2 : (varM ⟨d, []⟩ b a).out = ([] : List Ev) := ?_; ?_
  rotate_left
  exact ⟨(by rw [hm1] <;> rfl), (by rw [hm1, hm2] <;> rfl)⟩
  refine have hm1 : (varM ⟨d, []⟩ b a).d = (⟨d.plan, d.mode, d.stack, (scanByte d.scan b).1, d.start, d.at_, d.field, d.wire, d.want, d.utf, d.end_⟩ : Dcd) := ?_; ?_
  rotate_left
  refine have hm2 : (varM ⟨d, []⟩ b a).out = ([] : List Ev) := ?_; ?_
  rotate_left
  exact ⟨(by rw [hm1] <;> rfl), (by rw [hm1, hm2] <;> rfl)⟩
  refine dsp (fun h5 p5 => ?_) fun h5 p5 => ?_
  refine dsp (fun h6 p6 => ?_) fun h6 p6 => ?_
  refine ⟨(fail_s (⟨d.plan, d.mode, d.stack, (scanByte d.scan b).1, d.start, d.at_, d.field, d.wire, d.want, d.utf, d.end_⟩ : Dcd) _ _), ?_⟩
  refine have hm1 : (varM ⟨d, []⟩ b a).d = (dFail (⟨d.plan, d.mode, d.stack, (scanByte d.scan b).1, d.start, d.at_, d.field, d.wire, d.want, d.utf, d.end_⟩ : Dcd) 9 d.at_) := ?_; ?_
  rotate_left
  refine have hm2 : (varM ⟨d, []⟩ b a).out = [failEv 9 d.at_] := ?_; ?_
  rotate_left
  exact ⟨(by rw [hm1] <;> rfl), (by rw [hm1, hm2] <;> rfl)⟩
  refine have hm1 : (varM ⟨d, []⟩ b a).d = (⟨d.plan, d.mode, d.stack, (scanByte d.scan b).1, d.start, d.at_, d.field, d.wire, d.want, d.utf, d.end_⟩ : Dcd) := ?_; ?_
  rotate_left
  refine have hm2 : (varM ⟨d, []⟩ b a).out = ([] : List Ev) := ?_; ?_
  rotate_left
  exact ⟨(by rw [hm1] <;> rfl), (by rw [hm1, hm2] <;> rfl)⟩
  refine have hm1 : (varM ⟨d, []⟩ b a).d = (⟨d.plan, d.mode, d.stack, (scanByte d.scan b).1, d.start, d.at_, d.field, d.wire, d.want, d.utf, d.end_⟩ : Dcd) := ?_; ?_
  rotate_left
  refine have hm2 : (varM ⟨d, []⟩ b a).out = ([] : List Ev) := ?_; ?_
  rotate_left
  exact ⟨(by rw [hm1] <;> rfl), (by rw [hm1, hm2] <;> rfl)⟩
  refine dsp (fun h4 p4 => ?_) fun h4 p4 => ?_
  refine ⟨(frame_s (⟨d.plan, d.mode, d.stack, (⟨0, 0⟩ : Scn), d.start, d.at_, d.field, d.wire, d.want, d.utf, d.end_⟩ : Dcd) _ ((by first | (exact hp1.lv) | (exact levelsOk_same hp1.lv rfl rfl))) (by omega)), ?_⟩
  refine have hm1 : (varM ⟨d, []⟩ b a).d = (frameM ⟨(⟨d.plan, d.mode, d.stack, (⟨0, 0⟩ : Scn), d.start, d.at_, d.field, d.wire, d.want, d.utf, d.end_⟩ : Dcd), []⟩ (scanByte d.scan b).1.bits).d := ?_; ?_
  rotate_left
  refine have hm2 : (varM ⟨d, []⟩ b a).out = (frameM ⟨(⟨d.plan, d.mode, d.stack, (⟨0, 0⟩ : Scn), d.start, d.at_, d.field, d.wire, d.want, d.utf, d.end_⟩ : Dcd), []⟩ (scanByte d.scan b).1.bits).out := ?_; ?_
  rotate_left
  exact ⟨(by rw [hm1] <;> rfl), (by rw [hm1, hm2] <;> rfl)⟩
  refine dsp (fun h5 p5 => ?_) fun h5 p5 => ?_
  refine ⟨(tag_s (⟨d.plan, d.mode, d.stack, (⟨0, 0⟩ : Scn), d.start, d.at_, d.field, d.wire, d.want, d.utf, d.end_⟩ : Dcd) _ ((by first | (exact hp1.lv) | (exact levelsOk_same hp1.lv rfl rfl))) (by omega)), ?_⟩
  refine have hm1 : (varM ⟨d, []⟩ b a).d = (tagM ⟨(⟨d.plan, d.mode, d.stack, (⟨0, 0⟩ : Scn), d.start, d.at_, d.field, d.wire, d.want, d.utf, d.end_⟩ : Dcd), []⟩ (scanByte d.scan b).1.bits).d := ?_; ?_
  rotate_left
  refine have hm2 : (varM ⟨d, []⟩ b a).out = (tagM ⟨(⟨d.plan, d.mode, d.stack, (⟨0, 0⟩ : Scn), d.start, d.at_, d.field, d.wire, d.want, d.utf, d.end_⟩ : Dcd), []⟩ (scanByte d.scan b).1.bits).out := ?_; ?_
  rotate_left
  exact ⟨(by rw [hm1] <;> rfl), (by rw [hm1, hm2] <;> rfl)⟩
  refine dsp (fun h6 p6 => ?_) fun h6 p6 => ?_
  refine ⟨(long_d (⟨d.plan, d.mode, d.stack, (⟨0, 0⟩ : Scn), d.start, d.at_, d.field, d.wire, d.want, d.utf, d.end_⟩ : Dcd) _ ((by first | (exact hp1.lv) | (exact levelsOk_same hp1.lv rfl rfl))) (by omega) (hp1.kn)), ?_⟩
  refine have hm1 : (varM ⟨d, []⟩ b a).d = (longM ⟨(⟨d.plan, d.mode, d.stack, (⟨0, 0⟩ : Scn), d.start, d.at_, d.field, d.wire, d.want, d.utf, d.end_⟩ : Dcd), []⟩ (scanByte d.scan b).1.bits).d := ?_; ?_
  rotate_left
  refine have hm2 : (varM ⟨d, []⟩ b a).out = (longM ⟨(⟨d.plan, d.mode, d.stack, (⟨0, 0⟩ : Scn), d.start, d.at_, d.field, d.wire, d.want, d.utf, d.end_⟩ : Dcd), []⟩ (scanByte d.scan b).1.bits).out := ?_; ?_
  rotate_left
  exact ⟨(by rw [hm1] <;> rfl), (by rw [hm1, hm2] <;> rfl)⟩
  refine ⟨(num16_s (⟨d.plan, d.mode, d.stack, (⟨0, 0⟩ : Scn), d.start, d.at_, d.field, d.wire, d.want, d.utf, d.end_⟩ : Dcd) _ (by first | omega | rfl | (dsimp only; omega)) (by omega)), ?_⟩
  refine have hm1 : (varM ⟨d, []⟩ b a).d = (settleM (valueM ⟨(⟨d.plan, d.mode, d.stack, (⟨0, 0⟩ : Scn), d.start, d.at_, d.field, d.wire, d.want, d.utf, d.end_⟩ : Dcd), []⟩ (scanByte d.scan b).1.bits)).d := ?_; ?_
  rotate_left
  refine have hm2 : (varM ⟨d, []⟩ b a).out = (settleM (valueM ⟨(⟨d.plan, d.mode, d.stack, (⟨0, 0⟩ : Scn), d.start, d.at_, d.field, d.wire, d.want, d.utf, d.end_⟩ : Dcd), []⟩ (scanByte d.scan b).1.bits)).out := ?_; ?_
  rotate_left
  exact ⟨(by rw [hm1] <;> rfl), (by rw [hm1, hm2] <;> rfl)⟩
  all_goals first | (simp_all [varM, startM, dScan, moreM, mFail, dFail, scn0]; done) | ((unfold varM; simp_all [startM, dScan, moreM, mFail, dFail, scn0]; done)) | (grind [varM, startM, dScan, moreM, mFail, dFail, scn0])
set_option maxHeartbeats 1600000 in
theorem fix16_s (d : Dcd) (b : Int) (w : Int) (hp1 : MW d) (hp2 : (0 : Int) ≤ b ∧ b ≤ 255) (hp3 : w = widthD d) (hp4 : (d).mode = 8 → runs (d).field = true) : Fun Tryz.prog 111 [.agg (oDcd0_5 0 1 d), vI b, vI w] [.tree d.plan.shapes, .lst .lev d.stack] (.tup [.agg (oDcd0_5 2 3 (fixM ⟨d, []⟩ b).d), vO 4]) [.dead, .dead, .tree (fixM ⟨d, []⟩ b).d.plan.shapes, .lst .lev (fixM ⟨d, []⟩ b).d.stack, .lst .ev (fixM ⟨d, []⟩ b).out] := by
  have hN : bigN = 274877906944 := rfl
  have hlv := levelsOk_b hp1.lv
  have hpt := planOk_t hlv.1
  have htb := topL_b hp1.lv
  have hbb := hp1.b0
  have hat := hp1.at_
  have hwt := hp1.want
  have hwd := widthD_b d
  have hfb := fixByte_b (b := b) hbb
  refine fun_ofw Tryz.func111 (by kernel_rfl) (by kernel_rfl) (w := let zi : Int → C := .int .i64; let z1 : List C := [zi d.start, zi d.at_, zi d.field.number, zi d.field.kind, .bool d.field.rep, .bool d.field.packed, zi d.field.msg, zi d.wire, zi d.want, zi d.utf.want, zi d.utf.low, zi d.utf.high, zi d.end_.kind, zi d.end_.field, .int .u64 d.end_.bits, zi d.end_.len, .str d.end_.text, zi d.end_.code, zi d.end_.at_]; let z6 := fixByte d.scan b; let z9 := (⟨d.plan, d.mode, d.stack, (⟨0, 0⟩ : Scn), d.start, d.at_, d.field, d.wire, d.want, d.utf, d.end_⟩ : Dcd); let z2 := settleM (valueM ⟨z9, []⟩ z6.bits); let z3 := dFail z9 9 d.at_; let z4 : List Blk := [.dead, .dead, .tree z2.d.plan.shapes, .lst .lev z2.d.stack, .lst .ev z2.out]; let z7 := oDcd0_5 2 3 z2.d; let z10 : List Blk := [.dead, .dead, .tree z3.plan.shapes, .lst .lev z3.stack, .lst .ev [failEv 9 d.at_]]; let z11 := numEv d.field z6.bits; let z12 := (.tup [.agg z7, vO 4] : S); let z13 := fixM ⟨d, []⟩ b; let z5 : List Blk := [.dead, .dead, .tree z13.d.plan.shapes, .lst .lev z13.d.stack, .lst .ev z13.out]; let z8 := oDcd0_5 2 3 z13.d; (.seg [.call [] (.v (.agg (cScn z6))) []] (.br (.seg [.ty .ev, .at 0, .cut 3 0, .cut 3 5] (.leaf () [0, 1, 6, 7, 5])) (.br (.br (.br (.seg [.call [] (.v (.agg (cEv z11))) [], .call [0, 1] (.tup [.agg (oDcd0_5 2 3 z3), vO 4]) z10, .tree (.first 0 (.first 1 (.first 3 (.one 2 (.one 4 (.one 5 (.first 6 (.done)))))))) 5 [8], .ty .ev, .ty .ev] (.leaf () [0, 1, 6, 7, 11])) (.seg [.call [0, 1] (.tup [.agg z7, vO 4]) z4] (.leaf () [0, 1, 5, 6, 7]))) (.seg [.call [0, 1] (.tup [.agg z7, vO 4]) z4] (.leaf () [0, 1, 5, 6, 7]))) (.seg [.call [0, 1] (.tup [.agg z7, vO 4]) z4] (.leaf () [0, 1, 5, 6, 7])))), (Fun Tryz.prog 157 [.agg (cScn d.scan), vI b] [] (.v (.agg (cScn z6))) []) ∧ ((decide (z6.have_ < w)) = true → (.tup [.agg (.own 2 :: zi d.plan.root :: zi d.plan.deep :: zi d.plan.most :: zi d.mode :: .own 3 :: .int .u64 z6.bits :: zi z6.have_ :: z1), vO 4] : S) = .tup [.agg z8, vO 4] ∧ ([.dead, .dead, .tree d.plan.shapes, .lst .lev d.stack, .lst .ev ([] : List Ev)] : List Blk) = z5) ∧ ((decide (z6.have_ < w)) = false → ((decide (d.mode = 8)) = true → ((decide (0 < d.want)) = true → ((decide (d.want < w)) = true → (Fun Tryz.prog 158 [.agg (cFld d.field), .c (.int .u64 z6.bits)] [] (.v (.agg (cEv z11))) []) ∧ (Fun Tryz.prog 109 [.agg (.own 0 :: zi d.plan.root :: zi d.plan.deep :: zi d.plan.most :: zi d.mode :: .own 1 :: .int .u64 0 :: zi 0 :: z1), vI 9, vI d.at_] [.tree d.plan.shapes, .lst .lev d.stack] (.tup [.agg (oDcd0_5 2 3 z3), vO 4]) z10) ∧ (List.length [z11] + List.length [failEv 9 d.at_] ≤ bigN) ∧ (.tup [.agg (oDcd0_5 2 3 z3), vO 4] : S) = .tup [.agg z8, vO 4] ∧ ([.dead, .dead, .tree z3.plan.shapes, .lst .lev z3.stack, .lst .ev ([z11] ++ [failEv 9 d.at_])] : List Blk) = z5) ∧ ((decide (d.want < w)) = false → (Fun Tryz.prog 159 [.agg (.own 0 :: zi d.plan.root :: zi d.plan.deep :: zi d.plan.most :: zi d.mode :: .own 1 :: .int .u64 0 :: zi 0 :: z1), .c (.int .u64 z6.bits)] [.tree d.plan.shapes, .lst .lev d.stack] (.tup [.agg z7, vO 4]) z4) ∧ z12 = .tup [.agg z8, vO 4] ∧ (z4 : List Blk) = z5)) ∧ ((decide (0 < d.want)) = false → (Fun Tryz.prog 159 [.agg (.own 0 :: zi d.plan.root :: zi d.plan.deep :: zi d.plan.most :: zi d.mode :: .own 1 :: .int .u64 0 :: zi 0 :: z1), .c (.int .u64 z6.bits)] [.tree d.plan.shapes, .lst .lev d.stack] (.tup [.agg z7, vO 4]) z4) ∧ z12 = .tup [.agg z8, vO 4] ∧ (z4 : List Blk) = z5)) ∧ ((decide (d.mode = 8)) = false → (Fun Tryz.prog 159 [.agg (.own 0 :: zi d.plan.root :: zi d.plan.deep :: zi d.plan.most :: zi d.mode :: .own 1 :: .int .u64 0 :: zi 0 :: z1), .c (.int .u64 z6.bits)] [.tree d.plan.shapes, .lst .lev d.stack] (.tup [.agg z7, vO 4]) z4) ∧ z12 = .tup [.agg z8, vO 4] ∧ (z4 : List Blk) = z5)))) (by kernel_rfl) ?_
  refine ⟨(fixByte_s d.scan _), dsp (fun h1 p1 => ?_) fun h1 p1 => ?_⟩
  refine have hm1 : (fixM ⟨d, []⟩ b).d = (⟨d.plan, d.mode, d.stack, (fixByte d.scan b), d.start, d.at_, d.field, d.wire, d.want, d.utf, d.end_⟩ : Dcd) := ?_; ?_
  rotate_left
  refine have hm2 : (fixM ⟨d, []⟩ b).out = ([] : List Ev) := ?_; ?_
  rotate_left
  exact ⟨(by rw [hm1] <;> rfl), (by rw [hm1, hm2] <;> rfl)⟩
  refine dsp (fun h2 p2 => ?_) fun h2 p2 => ?_
  refine dsp (fun h3 p3 => ?_) fun h3 p3 => ?_
  refine dsp (fun h4 p4 => ?_) fun h4 p4 => ?_
  refine ⟨(numEvent_s d.field _ (by omega)), (fail_s (⟨d.plan, d.mode, d.stack, (⟨0, 0⟩ : Scn), d.start, d.at_, d.field, d.wire, d.want, d.utf, d.end_⟩ : Dcd) _ _), (by simp only [List.length_cons, List.length_nil]; omega), ?_⟩
  refine have hm1 : (fixM ⟨d, []⟩ b).d = (dFail (⟨d.plan, d.mode, d.stack, (⟨0, 0⟩ : Scn), d.start, d.at_, d.field, d.wire, d.want, d.utf, d.end_⟩ : Dcd) 9 d.at_) := ?_; ?_
  rotate_left
  refine have hm2 : (fixM ⟨d, []⟩ b).out = [(numEv d.field (fixByte d.scan b).bits)] ++ [failEv 9 d.at_] := ?_; ?_
  rotate_left
  exact ⟨(by rw [hm1] <;> rfl), (by rw [hm1, hm2] <;> rfl)⟩
  refine ⟨(num16_s (⟨d.plan, d.mode, d.stack, (⟨0, 0⟩ : Scn), d.start, d.at_, d.field, d.wire, d.want, d.utf, d.end_⟩ : Dcd) _ (by first | omega | rfl | (dsimp only; omega)) (by omega)), ?_⟩
  refine have hm1 : (fixM ⟨d, []⟩ b).d = (settleM (valueM ⟨(⟨d.plan, d.mode, d.stack, (⟨0, 0⟩ : Scn), d.start, d.at_, d.field, d.wire, d.want, d.utf, d.end_⟩ : Dcd), []⟩ (fixByte d.scan b).bits)).d := ?_; ?_
  rotate_left
  refine have hm2 : (fixM ⟨d, []⟩ b).out = (settleM (valueM ⟨(⟨d.plan, d.mode, d.stack, (⟨0, 0⟩ : Scn), d.start, d.at_, d.field, d.wire, d.want, d.utf, d.end_⟩ : Dcd), []⟩ (fixByte d.scan b).bits)).out := ?_; ?_
  rotate_left
  exact ⟨(by rw [hm1] <;> rfl), (by rw [hm1, hm2] <;> rfl)⟩
  refine ⟨(num16_s (⟨d.plan, d.mode, d.stack, (⟨0, 0⟩ : Scn), d.start, d.at_, d.field, d.wire, d.want, d.utf, d.end_⟩ : Dcd) _ (by first | omega | rfl | (dsimp only; omega)) (by omega)), ?_⟩
  refine have hm1 : (fixM ⟨d, []⟩ b).d = (settleM (valueM ⟨(⟨d.plan, d.mode, d.stack, (⟨0, 0⟩ : Scn), d.start, d.at_, d.field, d.wire, d.want, d.utf, d.end_⟩ : Dcd), []⟩ (fixByte d.scan b).bits)).d := ?_; ?_
  rotate_left
  refine have hm2 : (fixM ⟨d, []⟩ b).out = (settleM (valueM ⟨(⟨d.plan, d.mode, d.stack, (⟨0, 0⟩ : Scn), d.start, d.at_, d.field, d.wire, d.want, d.utf, d.end_⟩ : Dcd), []⟩ (fixByte d.scan b).bits)).out := ?_; ?_
  rotate_left
  exact ⟨(by rw [hm1] <;> rfl), (by rw [hm1, hm2] <;> rfl)⟩
  refine ⟨(num16_s (⟨d.plan, d.mode, d.stack, (⟨0, 0⟩ : Scn), d.start, d.at_, d.field, d.wire, d.want, d.utf, d.end_⟩ : Dcd) _ (by first | omega | rfl | (dsimp only; omega)) (by omega)), ?_⟩
  refine have hm1 : (fixM ⟨d, []⟩ b).d = (settleM (valueM ⟨(⟨d.plan, d.mode, d.stack, (⟨0, 0⟩ : Scn), d.start, d.at_, d.field, d.wire, d.want, d.utf, d.end_⟩ : Dcd), []⟩ (fixByte d.scan b).bits)).d := ?_; ?_
  rotate_left
  refine have hm2 : (fixM ⟨d, []⟩ b).out = (settleM (valueM ⟨(⟨d.plan, d.mode, d.stack, (⟨0, 0⟩ : Scn), d.start, d.at_, d.field, d.wire, d.want, d.utf, d.end_⟩ : Dcd), []⟩ (fixByte d.scan b).bits)).out := ?_; ?_
  rotate_left
  exact ⟨(by rw [hm1] <;> rfl), (by rw [hm1, hm2] <;> rfl)⟩
  all_goals first | (simp_all [fixM, dScan, mFail, dFail, scn0, valueM_at, valueM_want]; done) | ((have hne : d.field ≠ fld0 := runs_ne (hp4 (by assumption)); have hff : fixM ⟨d, []⟩ b = mFail (valueM ⟨dScan d scn0, []⟩ (fixByte d.scan b).bits) 9 d.at_ := (by unfold fixM; simp only; rw [if_neg (by omega), if_pos ⟨by assumption, by assumption, by omega⟩]); rw [hff]; simp [mFail, dFail, valueM, dScan, scn0, hne]; done)) | (grind [fixM, dScan, mFail, dFail, scn0, valueM, valueM_at, valueM_want])
set_option maxHeartbeats 3200000 in
theorem stepB_s (d : Dcd) (b : Int) (hp1 : List.length (d).plan.shapes ≤ 1048576) (hp2 : ∀ e ∈ (d).plan.shapes, e.fields.length ≤ 1048576) (hp3 : List.length (d).stack ≤ 1048576) (hp4 : (0 : Int) ≤ (d).scan.bits ∧ (d).scan.bits ≤ 18446744073709551615) : Fun Tryz.prog 52 [.agg (cDcd d), vI b] [] (.tup [.agg (oDcd0_5 0 1 (stepB d b).d), vO 2]) [.tree (stepB d b).d.plan.shapes, .lst .lev (stepB d b).d.stack, .lst .ev (stepB d b).out] := by
  have hN : bigN = 274877906944 := rfl
  refine fun_ofw Tryz.func52 (by kernel_rfl) (by kernel_rfl) (w := let zi : Int → C := .int .i64; let z15 : List C := [zi 4, zi 0, .int .u64 0, zi 0, .str (List.map toByte [b]), zi 0, zi 0]; let z16 : List C := [zi d.end_.kind, zi d.end_.field, .int .u64 d.end_.bits, zi d.end_.len, .str d.end_.text, zi d.end_.code, zi d.end_.at_]; let z17 := (⟨d.plan, d.mode, d.stack, d.scan, d.start, d.at_ + 1, d.field, d.wire, d.want - 1, d.utf, d.end_⟩ : Dcd); let z18 := (⟨d.plan, d.mode, d.stack, d.scan, d.start, d.at_ + 1, d.field, d.wire, d.want, d.utf, d.end_⟩ : Dcd); let z20 := (d.stack.length : Int); let z21 := stepB d b; let z22 := settleM ⟨z17, []⟩; let z23 := (⟨4, 0, 0, 0, List.map toByte [b], 0, 0⟩ : Ev); let z24 := oDcd0_5 0 1 z21.d; let z27 := decide (d.mode = 7); let z28 := varM ⟨z17, []⟩ b d.at_; let z29 := varM ⟨z18, []⟩ b d.at_; let z30 := ([.tree d.plan.shapes, .lst .lev d.stack, .lst .ev ([] : List Ev)] : List Blk); let z31 : List Blk := [.dead, .dead, .tree z22.d.plan.shapes, .lst .lev z22.d.stack, .lst .ev z22.out]; let z32 := (.v (.c (.int .u8 (IntKind.u8.wrap (b)))) : S) = .v (.c (.int .u8 b)); let z33 := (.v (vI (IntKind.i64.wrap (z20 - 1))) : S) = .v (vI (z20 - 1)); let z34 := vI (widthD d); let z35 := fixM ⟨z17, []⟩ b; let z36 := fixM ⟨z18, []⟩ b; let z37 := decide (d.mode = 6); let z38 := decide (0 < widthD d); let z39 := dFail z17 5 d.at_; let z40 := utfByte d.utf b; let z26 := z40.getD d.utf; let z19 := settleM ⟨(⟨d.plan, d.mode, d.stack, d.scan, d.start, d.at_ + 1, d.field, d.wire, d.want - 1, z26, d.end_⟩ : Dcd), []⟩; let z41 := Int.toNat (z20 - 1); let z42 := (.tup [.agg (oDcd0_5 0 1 d), vO 2] : S); let z43 := vI (d.want - 1); let z25 := (.v (vI (IntKind.i64.wrap (d.want - 1))) : S) = .v z43; let z44 := oDcd0_5 2 3 z22.d; let z45 := (.tup [.agg (oDcd0_5 0 1 z22.d), vO 2] : S); let z46 : List Blk := [.dead, .dead, .tree z19.d.plan.shapes, .lst .lev z19.d.stack, .lst .ev (z23 :: z19.out)]; let z47 : List Blk := [.dead, .dead, .tree z22.d.plan.shapes, .lst .lev z22.d.stack, .lst .ev (z23 :: z22.out)]; let z48 := ([.tree z22.d.plan.shapes, .lst .lev z22.d.stack, .lst .ev z22.out] : List Blk); let z49 : List Blk := [.dead, .dead, .tree z39.plan.shapes, .lst .lev z39.stack, .lst .ev [failEv 5 d.at_]]; let z50 := decide (d.field.kind = 6); let z51 : List Blk := [.dead, .dead, .tree z35.d.plan.shapes, .lst .lev z35.d.stack, .lst .ev z35.out]; let z52 : List Blk := [.dead, .dead, .tree z28.d.plan.shapes, .lst .lev z28.d.stack, .lst .ev z28.out]; let z53 : List Blk := [.dead, .dead, .tree z36.d.plan.shapes, .lst .lev z36.d.stack, .lst .ev z36.out]; let z54 : List Blk := [.dead, .dead, .tree z29.d.plan.shapes, .lst .lev z29.d.stack, .lst .ev z29.out]; let z55 := (0 : Int) ≤ z20 - 1; let z56 := decide (d.mode = 8); let z57 := d.at_ + 1; let z12 : List C := .own 0 :: zi d.plan.root :: zi d.plan.deep :: zi d.plan.most :: zi d.mode :: .own 1 :: .int .u64 d.scan.bits :: zi d.scan.have_ :: zi d.start :: zi z57 :: zi d.field.number :: zi d.field.kind :: .bool d.field.rep :: .bool d.field.packed :: zi d.field.msg :: zi d.wire :: zi (d.want - 1) :: zi d.utf.want :: zi d.utf.low :: zi d.utf.high :: z16; let z13 : List C := .own 0 :: zi d.plan.root :: zi d.plan.deep :: zi d.plan.most :: zi d.mode :: .own 1 :: .int .u64 d.scan.bits :: zi d.scan.have_ :: zi d.start :: zi z57 :: zi d.field.number :: zi d.field.kind :: .bool d.field.rep :: .bool d.field.packed :: zi d.field.msg :: zi d.wire :: zi d.want :: zi d.utf.want :: zi d.utf.low :: zi d.utf.high :: z16; let z14 : List C := .own 0 :: zi d.plan.root :: zi d.plan.deep :: zi d.plan.most :: zi d.mode :: .own 1 :: .int .u64 d.scan.bits :: zi d.scan.have_ :: zi d.start :: zi z57 :: zi d.field.number :: zi d.field.kind :: .bool d.field.rep :: .bool d.field.packed :: zi d.field.msg :: zi d.wire :: zi (d.want - 1) :: zi z26.want :: zi z26.low :: zi z26.high :: z16; let z58 := within b 0 255; let z59 := z20 - 1 < z20; let z60 := !z40.isSome; let z61 := z27 = false; let z62 := z37 = false; (.seg [.call [] (.v (.agg (oDcd0_5 0 1 d))) [.tree d.plan.shapes, .lst .lev d.stack], .call [] (.v (vB (decOk d))) []] (.br (.seg [.ty .ev] (.leaf () [2, 3, 5])) (.br (.seg [.ty .ev] (.leaf () [2, 3, 5])) (.seg [.call [] (.v (vB z58)) []] (.br (.seg [.ty .ev] (.leaf () [2, 3, 5])) (.br (.seg [.ty .ev] (.leaf () [2, 3, 5])) (.seg [.as 35 (.v (vI z57))] (.br (.intro (fun (x1 : Lev) => d.stack[Int.toNat (z20 - 1)]? = some x1) fun x1 => let z4 := (⟨x1.msg, x1.left - 1⟩ : Lev); let z1 := (⟨d.plan, d.mode, List.set d.stack z41 z4, d.scan, d.start, d.at_ + 1, d.field, d.wire, d.want - 1, d.utf, d.end_⟩ : Dcd); let z2 := (⟨d.plan, d.mode, List.set d.stack z41 z4, d.scan, d.start, d.at_ + 1, d.field, d.wire, d.want, d.utf, d.end_⟩ : Dcd); let z3 := settleM ⟨(⟨d.plan, d.mode, List.set d.stack z41 z4, d.scan, d.start, d.at_ + 1, d.field, d.wire, d.want - 1, z26, d.end_⟩ : Dcd), []⟩; .seg [.ord (os 15 [14]) [], .as 45 (.v (vI (z20 - 1))), .as 49 (.v (vI (z20 - 1))), .el .lev x1, .as 53 (.v (vI (x1.left - 1))), .el .lev x1] (.br (.seg [.as 71 (.v z43), .call [] (.v z34) []] (.br (.seg [.call [2, 3] (.tup [.agg (oDcd0_5 2 3 (settleM ⟨z1, []⟩).d), vO 4]) [.dead, .dead, .tree (settleM ⟨z1, []⟩).d.plan.shapes, .lst .lev (settleM ⟨z1, []⟩).d.stack, .lst .ev (settleM ⟨z1, []⟩).out]] (.leaf () [5, 6, 7])) (.seg [.br true] (.br (.seg [.call [] (.tup [.agg (cUtf z26), vB z40.isSome]) []] (.br (.seg [.call [2, 3] (.tup [.agg (oDcd0_5 2 3 (dFail z1 5 d.at_)), vO 4]) [.dead, .dead, .tree (dFail z1 5 d.at_).plan.shapes, .lst .lev (dFail z1 5 d.at_).stack, .lst .ev [failEv 5 d.at_]]] (.leaf () [6, 7, 8])) (.seg [.as 110 (.v (.c (.int .u8 b))), .ty .u8, .call [2, 3] (.tup [.agg (oDcd0_5 2 3 z3.d), vO 4]) [.dead, .dead, .tree z3.d.plan.shapes, .lst .lev z3.d.stack, .lst .ev (z23 :: z3.out)]] (.leaf () [7, 8, 9])))) (.seg [.as 110 (.v (.c (.int .u8 b))), .ty .u8, .call [2, 3] (.tup [.agg (oDcd0_5 2 3 (settleM ⟨z1, []⟩).d), vO 4]) [.dead, .dead, .tree (settleM ⟨z1, []⟩).d.plan.shapes, .lst .lev (settleM ⟨z1, []⟩).d.stack, .lst .ev (z23 :: (settleM ⟨z1, []⟩).out)]] (.leaf () [6, 7, 8])))))) (.br (.seg [.as 71 (.v z43), .call [] (.v z34) [], .br true, .call [2, 3] (.tup [.agg (oDcd0_5 2 3 (settleM ⟨z1, []⟩).d), vO 4]) [.dead, .dead, .tree (settleM ⟨z1, []⟩).d.plan.shapes, .lst .lev (settleM ⟨z1, []⟩).d.stack, .lst .ev (settleM ⟨z1, []⟩).out]] (.leaf () [5, 6, 7])) (.br (.seg [.as 71 (.v z43), .call [] (.v z34) [], .br false, .br false] (.br (.seg [.call [2, 3] (.tup [.agg (oDcd0_5 2 3 (fixM ⟨z1, []⟩ b).d), vO 4]) [.dead, .dead, .tree (fixM ⟨z1, []⟩ b).d.plan.shapes, .lst .lev (fixM ⟨z1, []⟩ b).d.stack, .lst .ev (fixM ⟨z1, []⟩ b).out]] (.leaf () [5, 6, 7])) (.seg [.call [2, 3] (.tup [.agg (oDcd0_5 2 3 (varM ⟨z1, []⟩ b d.at_).d), vO 4]) [.dead, .dead, .tree (varM ⟨z1, []⟩ b d.at_).d.plan.shapes, .lst .lev (varM ⟨z1, []⟩ b d.at_).d.stack, .lst .ev (varM ⟨z1, []⟩ b d.at_).out]] (.leaf () [5, 6, 7])))) (.seg [.call [] (.v z34) [], .br false, .br false] (.br (.seg [.call [2, 3] (.tup [.agg (oDcd0_5 2 3 (fixM ⟨z2, []⟩ b).d), vO 4]) [.dead, .dead, .tree (fixM ⟨z2, []⟩ b).d.plan.shapes, .lst .lev (fixM ⟨z2, []⟩ b).d.stack, .lst .ev (fixM ⟨z2, []⟩ b).out]] (.leaf () [5, 6, 7])) (.seg [.call [2, 3] (.tup [.agg (oDcd0_5 2 3 (varM ⟨z2, []⟩ b d.at_).d), vO 4]) [.dead, .dead, .tree (varM ⟨z2, []⟩ b d.at_).d.plan.shapes, .lst .lev (varM ⟨z2, []⟩ b d.at_).d.stack, .lst .ev (varM ⟨z2, []⟩ b d.at_).out]] (.leaf () [5, 6, 7])))))))) (.br (.seg [.as 71 (.v z43), .call [] (.v z34) []] (.br (.seg [.call [2, 3] (.tup [.agg z44, vO 4]) z31] (.leaf () [5, 6, 7])) (.seg [.br true] (.br (.seg [.call [] (.tup [.agg (cUtf z26), vB z40.isSome]) []] (.br (.seg [.call [2, 3] (.tup [.agg (oDcd0_5 2 3 z39), vO 4]) z49] (.leaf () [6, 7, 8])) (.seg [.as 110 (.v (.c (.int .u8 b))), .ty .u8, .call [2, 3] (.tup [.agg (oDcd0_5 2 3 z19.d), vO 4]) z46] (.leaf () [7, 8, 9])))) (.seg [.as 110 (.v (.c (.int .u8 b))), .ty .u8, .call [2, 3] (.tup [.agg z44, vO 4]) z47] (.leaf () [6, 7, 8])))))) (.br (.seg [.as 71 (.v z43), .call [] (.v z34) [], .br true, .call [2, 3] (.tup [.agg z44, vO 4]) z31] (.leaf () [5, 6, 7])) (.br (.seg [.as 71 (.v z43), .call [] (.v z34) [], .br false, .br false] (.br (.seg [.call [2, 3] (.tup [.agg (oDcd0_5 2 3 z35.d), vO 4]) z51] (.leaf () [5, 6, 7])) (.seg [.call [2, 3] (.tup [.agg (oDcd0_5 2 3 z28.d), vO 4]) z52] (.leaf () [5, 6, 7])))) (.seg [.call [] (.v z34) [], .br false, .br false] (.br (.seg [.call [2, 3] (.tup [.agg (oDcd0_5 2 3 z36.d), vO 4]) z53] (.leaf () [5, 6, 7])) (.seg [.call [2, 3] (.tup [.agg (oDcd0_5 2 3 z29.d), vO 4]) z54] (.leaf () [5, 6, 7])))))))))))))), (Fun Tryz.prog 63 [.agg (cDcd d)] [] (.v (.agg (oDcd0_5 0 1 d))) [.tree d.plan.shapes, .lst .lev d.stack]) ∧ (Fun Tryz.prog 104 [.agg (cDcd d)] [] (.v (vB (decOk d))) []) ∧ ((!(decOk d)) = true → z42 = .tup [.agg z24, vO 2] ∧ z30 = [.tree z21.d.plan.shapes, .lst .lev z21.d.stack, .lst .ev z21.out]) ∧ ((!(decOk d)) = false → ((decide (d.mode = 9)) = true → z42 = .tup [.agg z24, vO 2] ∧ z30 = [.tree z21.d.plan.shapes, .lst .lev z21.d.stack, .lst .ev z21.out]) ∧ ((decide (d.mode = 9)) = false → (Fun Tryz.prog 105 [vI b, vI 0, vI 255] [] (.v (vB z58)) []) ∧ ((!z58) = true → z42 = .tup [.agg z24, vO 2] ∧ z30 = [.tree z21.d.plan.shapes, .lst .lev z21.d.stack, .lst .ev z21.out]) ∧ ((!z58) = false → ((decide (d.at_ = 1000000000)) = true → z42 = .tup [.agg z24, vO 2] ∧ z30 = [.tree z21.d.plan.shapes, .lst .lev z21.d.stack, .lst .ev z21.out]) ∧ ((decide (d.at_ = 1000000000)) = false → ((.v (vI (IntKind.i64.wrap z57)) : S) = .v (vI z57)) ∧ ((decide (0 < z20)) = true → (∃ (x1 : Lev), d.stack[Int.toNat (z20 - 1)]? = some x1) ∧ ∀ (x1 : Lev), (d.stack[Int.toNat (z20 - 1)]? = some x1) → (let z9 := d.stack[Int.toNat (z20 - 1)]? = some x1; let z10 := (⟨x1.msg, x1.left - 1⟩ : Lev); let z5 := (⟨d.plan, d.mode, List.set d.stack z41 z10, d.scan, d.start, d.at_ + 1, d.field, d.wire, d.want - 1, d.utf, d.end_⟩ : Dcd); let z6 := (⟨d.plan, d.mode, List.set d.stack z41 z10, d.scan, d.start, d.at_ + 1, d.field, d.wire, d.want, d.utf, d.end_⟩ : Dcd); let z7 := settleM ⟨(⟨d.plan, d.mode, List.set d.stack z41 z10, d.scan, d.start, d.at_ + 1, d.field, d.wire, d.want - 1, z26, d.end_⟩ : Dcd), []⟩; let z8 := List.set d.stack z41 z10; let z11 := (.v (vI (IntKind.i64.wrap (x1.left - 1))) : S) = .v (vI (x1.left - 1)); z33 ∧ z33 ∧ z33 ∧ z33 ∧ z59 ∧ z55 ∧ z59 ∧ z55 ∧ z9 ∧ z9 ∧ z11 ∧ z11 ∧ z59 ∧ z55 ∧ z59 ∧ z55 ∧ z9 ∧ (z37 = true → z25 ∧ (Fun Tryz.prog 106 [.agg (cDcd d)] [] (.v z34) []) ∧ (z27 = true → (Fun Tryz.prog 107 [.agg z12] [.tree d.plan.shapes, .lst .lev z8] (.tup [.agg (oDcd0_5 2 3 (settleM ⟨z5, []⟩).d), vO 4]) [.dead, .dead, .tree (settleM ⟨z5, []⟩).d.plan.shapes, .lst .lev (settleM ⟨z5, []⟩).d.stack, .lst .ev (settleM ⟨z5, []⟩).out]) ∧ (.tup [.agg (oDcd0_5 0 1 (settleM ⟨z5, []⟩).d), vO 2] : S) = .tup [.agg z24, vO 2] ∧ ([.tree (settleM ⟨z5, []⟩).d.plan.shapes, .lst .lev (settleM ⟨z5, []⟩).d.stack, .lst .ev (settleM ⟨z5, []⟩).out] : List Blk) = [.tree z21.d.plan.shapes, .lst .lev z21.d.stack, .lst .ev z21.out]) ∧ (z27 = false → (z37 = true) ∧ (z50 = true → (Fun Tryz.prog 108 [.agg (cUtf d.utf), vI b] [] (.tup [.agg (cUtf z26), vB z40.isSome]) []) ∧ (z60 = true → (Fun Tryz.prog 109 [.agg z12, vI 5, vI d.at_] [.tree d.plan.shapes, .lst .lev z8] (.tup [.agg (oDcd0_5 2 3 (dFail z5 5 d.at_)), vO 4]) [.dead, .dead, .tree (dFail z5 5 d.at_).plan.shapes, .lst .lev (dFail z5 5 d.at_).stack, .lst .ev [failEv 5 d.at_]]) ∧ (.tup [.agg (oDcd0_5 0 1 (dFail z5 5 d.at_)), vO 2] : S) = .tup [.agg z24, vO 2] ∧ ([.tree (dFail z5 5 d.at_).plan.shapes, .lst .lev (dFail z5 5 d.at_).stack, .lst .ev [failEv 5 d.at_]] : List Blk) = [.tree z21.d.plan.shapes, .lst .lev z21.d.stack, .lst .ev z21.out]) ∧ (z60 = false → z32 ∧ (Fun Tryz.prog 110 [.agg z14, .agg z15] [.tree d.plan.shapes, .lst .lev z8] (.tup [.agg (oDcd0_5 2 3 z7.d), vO 4]) [.dead, .dead, .tree z7.d.plan.shapes, .lst .lev z7.d.stack, .lst .ev (z23 :: z7.out)]) ∧ (.tup [.agg (oDcd0_5 0 1 z7.d), vO 2] : S) = .tup [.agg z24, vO 2] ∧ ([.tree z7.d.plan.shapes, .lst .lev z7.d.stack, .lst .ev (z23 :: z7.out)] : List Blk) = [.tree z21.d.plan.shapes, .lst .lev z21.d.stack, .lst .ev z21.out])) ∧ (z50 = false → z32 ∧ (Fun Tryz.prog 110 [.agg z12, .agg z15] [.tree d.plan.shapes, .lst .lev z8] (.tup [.agg (oDcd0_5 2 3 (settleM ⟨z5, []⟩).d), vO 4]) [.dead, .dead, .tree (settleM ⟨z5, []⟩).d.plan.shapes, .lst .lev (settleM ⟨z5, []⟩).d.stack, .lst .ev (z23 :: (settleM ⟨z5, []⟩).out)]) ∧ (.tup [.agg (oDcd0_5 0 1 (settleM ⟨z5, []⟩).d), vO 2] : S) = .tup [.agg z24, vO 2] ∧ ([.tree (settleM ⟨z5, []⟩).d.plan.shapes, .lst .lev (settleM ⟨z5, []⟩).d.stack, .lst .ev (z23 :: (settleM ⟨z5, []⟩).out)] : List Blk) = [.tree z21.d.plan.shapes, .lst .lev z21.d.stack, .lst .ev z21.out]))) ∧ (z37 = false → (z27 = true → z25 ∧ (Fun Tryz.prog 106 [.agg (cDcd d)] [] (.v z34) []) ∧ (z27 = true) ∧ (Fun Tryz.prog 107 [.agg z12] [.tree d.plan.shapes, .lst .lev z8] (.tup [.agg (oDcd0_5 2 3 (settleM ⟨z5, []⟩).d), vO 4]) [.dead, .dead, .tree (settleM ⟨z5, []⟩).d.plan.shapes, .lst .lev (settleM ⟨z5, []⟩).d.stack, .lst .ev (settleM ⟨z5, []⟩).out]) ∧ (.tup [.agg (oDcd0_5 0 1 (settleM ⟨z5, []⟩).d), vO 2] : S) = .tup [.agg z24, vO 2] ∧ ([.tree (settleM ⟨z5, []⟩).d.plan.shapes, .lst .lev (settleM ⟨z5, []⟩).d.stack, .lst .ev (settleM ⟨z5, []⟩).out] : List Blk) = [.tree z21.d.plan.shapes, .lst .lev z21.d.stack, .lst .ev z21.out]) ∧ (z27 = false → (z56 = true → z25 ∧ (Fun Tryz.prog 106 [.agg (cDcd d)] [] (.v z34) []) ∧ z61 ∧ z62 ∧ (z38 = true → (Fun Tryz.prog 111 [.agg z12, vI b, vI (widthD d)] [.tree d.plan.shapes, .lst .lev z8] (.tup [.agg (oDcd0_5 2 3 (fixM ⟨z5, []⟩ b).d), vO 4]) [.dead, .dead, .tree (fixM ⟨z5, []⟩ b).d.plan.shapes, .lst .lev (fixM ⟨z5, []⟩ b).d.stack, .lst .ev (fixM ⟨z5, []⟩ b).out]) ∧ (.tup [.agg (oDcd0_5 0 1 (fixM ⟨z5, []⟩ b).d), vO 2] : S) = .tup [.agg z24, vO 2] ∧ ([.tree (fixM ⟨z5, []⟩ b).d.plan.shapes, .lst .lev (fixM ⟨z5, []⟩ b).d.stack, .lst .ev (fixM ⟨z5, []⟩ b).out] : List Blk) = [.tree z21.d.plan.shapes, .lst .lev z21.d.stack, .lst .ev z21.out]) ∧ (z38 = false → (Fun Tryz.prog 112 [.agg z12, vI b, vI d.at_] [.tree d.plan.shapes, .lst .lev z8] (.tup [.agg (oDcd0_5 2 3 (varM ⟨z5, []⟩ b d.at_).d), vO 4]) [.dead, .dead, .tree (varM ⟨z5, []⟩ b d.at_).d.plan.shapes, .lst .lev (varM ⟨z5, []⟩ b d.at_).d.stack, .lst .ev (varM ⟨z5, []⟩ b d.at_).out]) ∧ (.tup [.agg (oDcd0_5 0 1 (varM ⟨z5, []⟩ b d.at_).d), vO 2] : S) = .tup [.agg z24, vO 2] ∧ ([.tree (varM ⟨z5, []⟩ b d.at_).d.plan.shapes, .lst .lev (varM ⟨z5, []⟩ b d.at_).d.stack, .lst .ev (varM ⟨z5, []⟩ b d.at_).out] : List Blk) = [.tree z21.d.plan.shapes, .lst .lev z21.d.stack, .lst .ev z21.out])) ∧ (z56 = false → (Fun Tryz.prog 106 [.agg (cDcd d)] [] (.v z34) []) ∧ z61 ∧ z62 ∧ (z38 = true → (Fun Tryz.prog 111 [.agg z13, vI b, vI (widthD d)] [.tree d.plan.shapes, .lst .lev z8] (.tup [.agg (oDcd0_5 2 3 (fixM ⟨z6, []⟩ b).d), vO 4]) [.dead, .dead, .tree (fixM ⟨z6, []⟩ b).d.plan.shapes, .lst .lev (fixM ⟨z6, []⟩ b).d.stack, .lst .ev (fixM ⟨z6, []⟩ b).out]) ∧ (.tup [.agg (oDcd0_5 0 1 (fixM ⟨z6, []⟩ b).d), vO 2] : S) = .tup [.agg z24, vO 2] ∧ ([.tree (fixM ⟨z6, []⟩ b).d.plan.shapes, .lst .lev (fixM ⟨z6, []⟩ b).d.stack, .lst .ev (fixM ⟨z6, []⟩ b).out] : List Blk) = [.tree z21.d.plan.shapes, .lst .lev z21.d.stack, .lst .ev z21.out]) ∧ (z38 = false → (Fun Tryz.prog 112 [.agg z13, vI b, vI d.at_] [.tree d.plan.shapes, .lst .lev z8] (.tup [.agg (oDcd0_5 2 3 (varM ⟨z6, []⟩ b d.at_).d), vO 4]) [.dead, .dead, .tree (varM ⟨z6, []⟩ b d.at_).d.plan.shapes, .lst .lev (varM ⟨z6, []⟩ b d.at_).d.stack, .lst .ev (varM ⟨z6, []⟩ b d.at_).out]) ∧ (.tup [.agg (oDcd0_5 0 1 (varM ⟨z6, []⟩ b d.at_).d), vO 2] : S) = .tup [.agg z24, vO 2] ∧ ([.tree (varM ⟨z6, []⟩ b d.at_).d.plan.shapes, .lst .lev (varM ⟨z6, []⟩ b d.at_).d.stack, .lst .ev (varM ⟨z6, []⟩ b d.at_).out] : List Blk) = [.tree z21.d.plan.shapes, .lst .lev z21.d.stack, .lst .ev z21.out])))))) ∧ ((decide (0 < z20)) = false → (z37 = true → z25 ∧ (Fun Tryz.prog 106 [.agg (cDcd d)] [] (.v z34) []) ∧ (z27 = true → (Fun Tryz.prog 107 [.agg z12] [.tree d.plan.shapes, .lst .lev d.stack] (.tup [.agg z44, vO 4]) z31) ∧ z45 = .tup [.agg z24, vO 2] ∧ z48 = [.tree z21.d.plan.shapes, .lst .lev z21.d.stack, .lst .ev z21.out]) ∧ (z27 = false → (z37 = true) ∧ (z50 = true → (Fun Tryz.prog 108 [.agg (cUtf d.utf), vI b] [] (.tup [.agg (cUtf z26), vB z40.isSome]) []) ∧ (z60 = true → (Fun Tryz.prog 109 [.agg z12, vI 5, vI d.at_] [.tree d.plan.shapes, .lst .lev d.stack] (.tup [.agg (oDcd0_5 2 3 z39), vO 4]) z49) ∧ (.tup [.agg (oDcd0_5 0 1 z39), vO 2] : S) = .tup [.agg z24, vO 2] ∧ ([.tree z39.plan.shapes, .lst .lev z39.stack, .lst .ev [failEv 5 d.at_]] : List Blk) = [.tree z21.d.plan.shapes, .lst .lev z21.d.stack, .lst .ev z21.out]) ∧ (z60 = false → z32 ∧ (Fun Tryz.prog 110 [.agg z14, .agg z15] [.tree d.plan.shapes, .lst .lev d.stack] (.tup [.agg (oDcd0_5 2 3 z19.d), vO 4]) z46) ∧ (.tup [.agg (oDcd0_5 0 1 z19.d), vO 2] : S) = .tup [.agg z24, vO 2] ∧ ([.tree z19.d.plan.shapes, .lst .lev z19.d.stack, .lst .ev (z23 :: z19.out)] : List Blk) = [.tree z21.d.plan.shapes, .lst .lev z21.d.stack, .lst .ev z21.out])) ∧ (z50 = false → z32 ∧ (Fun Tryz.prog 110 [.agg z12, .agg z15] [.tree d.plan.shapes, .lst .lev d.stack] (.tup [.agg z44, vO 4]) z47) ∧ z45 = .tup [.agg z24, vO 2] ∧ ([.tree z22.d.plan.shapes, .lst .lev z22.d.stack, .lst .ev (z23 :: z22.out)] : List Blk) = [.tree z21.d.plan.shapes, .lst .lev z21.d.stack, .lst .ev z21.out]))) ∧ (z37 = false → (z27 = true → z25 ∧ (Fun Tryz.prog 106 [.agg (cDcd d)] [] (.v z34) []) ∧ (z27 = true) ∧ (Fun Tryz.prog 107 [.agg z12] [.tree d.plan.shapes, .lst .lev d.stack] (.tup [.agg z44, vO 4]) z31) ∧ z45 = .tup [.agg z24, vO 2] ∧ z48 = [.tree z21.d.plan.shapes, .lst .lev z21.d.stack, .lst .ev z21.out]) ∧ (z27 = false → (z56 = true → z25 ∧ (Fun Tryz.prog 106 [.agg (cDcd d)] [] (.v z34) []) ∧ z61 ∧ z62 ∧ (z38 = true → (Fun Tryz.prog 111 [.agg z12, vI b, vI (widthD d)] [.tree d.plan.shapes, .lst .lev d.stack] (.tup [.agg (oDcd0_5 2 3 z35.d), vO 4]) z51) ∧ (.tup [.agg (oDcd0_5 0 1 z35.d), vO 2] : S) = .tup [.agg z24, vO 2] ∧ ([.tree z35.d.plan.shapes, .lst .lev z35.d.stack, .lst .ev z35.out] : List Blk) = [.tree z21.d.plan.shapes, .lst .lev z21.d.stack, .lst .ev z21.out]) ∧ (z38 = false → (Fun Tryz.prog 112 [.agg z12, vI b, vI d.at_] [.tree d.plan.shapes, .lst .lev d.stack] (.tup [.agg (oDcd0_5 2 3 z28.d), vO 4]) z52) ∧ (.tup [.agg (oDcd0_5 0 1 z28.d), vO 2] : S) = .tup [.agg z24, vO 2] ∧ ([.tree z28.d.plan.shapes, .lst .lev z28.d.stack, .lst .ev z28.out] : List Blk) = [.tree z21.d.plan.shapes, .lst .lev z21.d.stack, .lst .ev z21.out])) ∧ (z56 = false → (Fun Tryz.prog 106 [.agg (cDcd d)] [] (.v z34) []) ∧ z61 ∧ z62 ∧ (z38 = true → (Fun Tryz.prog 111 [.agg z13, vI b, vI (widthD d)] [.tree d.plan.shapes, .lst .lev d.stack] (.tup [.agg (oDcd0_5 2 3 z36.d), vO 4]) z53) ∧ (.tup [.agg (oDcd0_5 0 1 z36.d), vO 2] : S) = .tup [.agg z24, vO 2] ∧ ([.tree z36.d.plan.shapes, .lst .lev z36.d.stack, .lst .ev z36.out] : List Blk) = [.tree z21.d.plan.shapes, .lst .lev z21.d.stack, .lst .ev z21.out]) ∧ (z38 = false → (Fun Tryz.prog 112 [.agg z13, vI b, vI d.at_] [.tree d.plan.shapes, .lst .lev d.stack] (.tup [.agg (oDcd0_5 2 3 z29.d), vO 4]) z54) ∧ (.tup [.agg (oDcd0_5 0 1 z29.d), vO 2] : S) = .tup [.agg z24, vO 2] ∧ ([.tree z29.d.plan.shapes, .lst .lev z29.d.stack, .lst .ev z29.out] : List Blk) = [.tree z21.d.plan.shapes, .lst .lev z21.d.stack, .lst .ev z21.out]))))))))))) (by kernel_rfl) ?_
  refine ⟨(copyDec_s d (by omega) (hp2) (by omega)), (decOk_s d (by omega) (by omega)), fun h1 => have q1 := bnot_t h1; ?_, fun h1 => have q1 := bnot_f h1; ?_⟩
  refine have hm1 : (stepB d b).d = d := ?_; ?_
  rotate_left
  refine have hm2 : (stepB d b).out = ([] : List Ev) := ?_; ?_
  rotate_left
  exact ⟨(by rw [hm1] <;> rfl), (by rw [hm1, hm2] <;> rfl)⟩
  have hok : decOk d = true := q1
  have hmw := decOk_mw hok hp4
  have hlv := levelsOk_b hmw.lv
  have hpt := planOk_t hlv.1
  have htb := topL_b hmw.lv
  have hbb := hmw.b0
  have hat := hmw.at_
  have hwt := hmw.want
  have hwd := widthD_b d
  refine dsp (fun h2 p2 => ?_) fun h2 p2 => ?_
  refine have hm1 : (stepB d b).d = d := ?_; ?_
  rotate_left
  refine have hm2 : (stepB d b).out = ([] : List Ev) := ?_; ?_
  rotate_left
  exact ⟨(by rw [hm1] <;> rfl), (by rw [hm1, hm2] <;> rfl)⟩
  have hst := decOk_st hok (by simpa using h2)
  refine ⟨(within_s _ _ _), fun h3 => have q3 := bnot_t h3; have p3 := within_f q3; ?_, fun h3 => have q3 := bnot_f h3; have p3 := within_t q3; ?_⟩
  refine have hm1 : (stepB d b).d = d := ?_; ?_
  rotate_left
  refine have hm2 : (stepB d b).out = ([] : List Ev) := ?_; ?_
  rotate_left
  exact ⟨(by rw [hm1] <;> rfl), (by rw [hm1, hm2] <;> rfl)⟩
  have hwi := within_t q3
  refine dsp (fun h4 p4 => ?_) fun h4 p4 => ?_
  refine have hm1 : (stepB d b).d = d := ?_; ?_
  rotate_left
  refine have hm2 : (stepB d b).out = ([] : List Ev) := ?_; ?_
  rotate_left
  exact ⟨(by rw [hm1] <;> rfl), (by rw [hm1, hm2] <;> rfl)⟩
  have hms := hmw.step hst.1 hst.2.1 hst.2.2.1
  have htk : takesD d = true := by simp only [takesD, Bool.and_eq_true, Bool.not_eq_true', decide_eq_false_iff_not, decide_eq_true_eq]; omega
  have hsb : stepB d b = byteM ⟨d, []⟩ b := by unfold stepB; rw [if_pos ⟨hok, htk, by assumption⟩]
  refine ⟨(as_i64 (by omega) (by omega)), dsp (fun h5 p5 => ?_) fun h5 p5 => ?_⟩
  have hne : d.stack ≠ [] := fun e => by have := congrArg List.length e; simp only [List.length_nil] at this; omega
  refine ⟨(ax_get (l := d.stack) (i := Int.toNat ((d.stack.length : Int) - 1)) (by omega)), fun x1 hx1 => ?_⟩
  have hll := lastL_el (d := d) (by rw [← hx1]; congr 1; omega)
  have hix : Int.toNat ((d.stack.length : Int) - 1) = d.stack.length - 1 := by omega
  refine ⟨(as_i64 (by omega) (by omega)), (as_i64 (by omega) (by omega)), (as_i64 (by omega) (by omega)), (as_i64 (by omega) (by omega)), (by omega), (by omega), (by omega), (by omega), hx1, hx1, (as_i64 (by omega) (by omega)), (as_i64 (by omega) (by omega)), (by omega), (by omega), (by omega), (by omega), hx1, dsp (fun h6 p6 => ?_) fun h6 p6 => ?_⟩
  refine ⟨(as_i64 (by omega) (by omega)), (widthD_s d), dsp (fun h7 p7 => ?_) fun h7 p7 => ?_⟩
  refine ⟨(settle_s (⟨d.plan, d.mode, List.set d.stack (Int.toNat ((d.stack.length : Int) - 1)) (⟨x1.msg, x1.left - 1⟩ : Lev), d.scan, d.start, d.at_ + 1, d.field, d.wire, d.want - 1, d.utf, d.end_⟩ : Dcd) (by simp only [List.length_append, List.length_cons, List.length_nil, List.length_set, List.length_take]; omega)), ?_⟩
  refine have hm1 : (stepB d b).d = (settleM ⟨(⟨d.plan, d.mode, List.set d.stack (Int.toNat ((d.stack.length : Int) - 1)) (⟨x1.msg, x1.left - 1⟩ : Lev), d.scan, d.start, d.at_ + 1, d.field, d.wire, d.want - 1, d.utf, d.end_⟩ : Dcd), []⟩).d := ?_; ?_
  rotate_left
  refine have hm2 : (stepB d b).out = (settleM ⟨(⟨d.plan, d.mode, List.set d.stack (Int.toNat ((d.stack.length : Int) - 1)) (⟨x1.msg, x1.left - 1⟩ : Lev), d.scan, d.start, d.at_ + 1, d.field, d.wire, d.want - 1, d.utf, d.end_⟩ : Dcd), []⟩).out := ?_; ?_
  rotate_left
  exact ⟨(by rw [hm1] <;> rfl), (by rw [hm1, hm2] <;> rfl)⟩
  refine ⟨h6, dsp (fun h8 p8 => ?_) fun h8 p8 => ?_⟩
  refine ⟨(utfByte_s d.utf _), fun h9 => have q9 := bnot_t h9; ?_, fun h9 => have q9 := bnot_f h9; ?_⟩
  have hu : utfByte d.utf b = none := by simpa using q9
  refine ⟨(fail_s (⟨d.plan, d.mode, List.set d.stack (Int.toNat ((d.stack.length : Int) - 1)) (⟨x1.msg, x1.left - 1⟩ : Lev), d.scan, d.start, d.at_ + 1, d.field, d.wire, d.want - 1, d.utf, d.end_⟩ : Dcd) _ _), ?_⟩
  refine have hm1 : (stepB d b).d = (dFail (⟨d.plan, d.mode, List.set d.stack (Int.toNat ((d.stack.length : Int) - 1)) (⟨x1.msg, x1.left - 1⟩ : Lev), d.scan, d.start, d.at_ + 1, d.field, d.wire, d.want - 1, d.utf, d.end_⟩ : Dcd) 5 d.at_) := ?_; ?_
  rotate_left
  refine have hm2 : (stepB d b).out = [failEv 5 d.at_] := ?_; ?_
  rotate_left
  exact ⟨(by rw [hm1] <;> rfl), (by rw [hm1, hm2] <;> rfl)⟩
  obtain ⟨u, hu⟩ := Option.isSome_iff_exists.1 q9
  have hug : (utfByte d.utf b).getD d.utf = u := by rw [hu]; rfl
  refine ⟨(as_u8 (by omega) (by omega)), (tell_s (⟨d.plan, d.mode, List.set d.stack (Int.toNat ((d.stack.length : Int) - 1)) (⟨x1.msg, x1.left - 1⟩ : Lev), d.scan, d.start, d.at_ + 1, d.field, d.wire, d.want - 1, ((utfByte d.utf b).getD d.utf), d.end_⟩ : Dcd) (⟨4, 0, 0, 0, List.map toByte [b], 0, 0⟩ : Ev) (by simp only [List.length_append, List.length_cons, List.length_nil, List.length_set, List.length_take]; omega)), ?_⟩
  refine have hm1 : (stepB d b).d = (settleM ⟨(⟨d.plan, d.mode, List.set d.stack (Int.toNat ((d.stack.length : Int) - 1)) (⟨x1.msg, x1.left - 1⟩ : Lev), d.scan, d.start, d.at_ + 1, d.field, d.wire, d.want - 1, ((utfByte d.utf b).getD d.utf), d.end_⟩ : Dcd), []⟩).d := ?_; ?_
  rotate_left
  refine have hm2 : (stepB d b).out = (⟨4, 0, 0, 0, List.map toByte [b], 0, 0⟩ : Ev) :: (settleM ⟨(⟨d.plan, d.mode, List.set d.stack (Int.toNat ((d.stack.length : Int) - 1)) (⟨x1.msg, x1.left - 1⟩ : Lev), d.scan, d.start, d.at_ + 1, d.field, d.wire, d.want - 1, ((utfByte d.utf b).getD d.utf), d.end_⟩ : Dcd), []⟩).out := ?_; ?_
  rotate_left
  exact ⟨(by rw [hm1] <;> rfl), (by rw [hm1, hm2] <;> rfl)⟩
  refine ⟨(as_u8 (by omega) (by omega)), (tell_s (⟨d.plan, d.mode, List.set d.stack (Int.toNat ((d.stack.length : Int) - 1)) (⟨x1.msg, x1.left - 1⟩ : Lev), d.scan, d.start, d.at_ + 1, d.field, d.wire, d.want - 1, d.utf, d.end_⟩ : Dcd) (⟨4, 0, 0, 0, List.map toByte [b], 0, 0⟩ : Ev) (by simp only [List.length_append, List.length_cons, List.length_nil, List.length_set, List.length_take]; omega)), ?_⟩
  refine have hm1 : (stepB d b).d = (settleM ⟨(⟨d.plan, d.mode, List.set d.stack (Int.toNat ((d.stack.length : Int) - 1)) (⟨x1.msg, x1.left - 1⟩ : Lev), d.scan, d.start, d.at_ + 1, d.field, d.wire, d.want - 1, d.utf, d.end_⟩ : Dcd), []⟩).d := ?_; ?_
  rotate_left
  refine have hm2 : (stepB d b).out = (⟨4, 0, 0, 0, List.map toByte [b], 0, 0⟩ : Ev) :: (settleM ⟨(⟨d.plan, d.mode, List.set d.stack (Int.toNat ((d.stack.length : Int) - 1)) (⟨x1.msg, x1.left - 1⟩ : Lev), d.scan, d.start, d.at_ + 1, d.field, d.wire, d.want - 1, d.utf, d.end_⟩ : Dcd), []⟩).out := ?_; ?_
  rotate_left
  exact ⟨(by rw [hm1] <;> rfl), (by rw [hm1, hm2] <;> rfl)⟩
  refine dsp (fun h7 p7 => ?_) fun h7 p7 => ?_
  refine ⟨(as_i64 (by omega) (by omega)), (widthD_s d), h7, (settle_s (⟨d.plan, d.mode, List.set d.stack (Int.toNat ((d.stack.length : Int) - 1)) (⟨x1.msg, x1.left - 1⟩ : Lev), d.scan, d.start, d.at_ + 1, d.field, d.wire, d.want - 1, d.utf, d.end_⟩ : Dcd) (by simp only [List.length_append, List.length_cons, List.length_nil, List.length_set, List.length_take]; omega)), ?_⟩
  refine have hm1 : (stepB d b).d = (settleM ⟨(⟨d.plan, d.mode, List.set d.stack (Int.toNat ((d.stack.length : Int) - 1)) (⟨x1.msg, x1.left - 1⟩ : Lev), d.scan, d.start, d.at_ + 1, d.field, d.wire, d.want - 1, d.utf, d.end_⟩ : Dcd), []⟩).d := ?_; ?_
  rotate_left
  refine have hm2 : (stepB d b).out = (settleM ⟨(⟨d.plan, d.mode, List.set d.stack (Int.toNat ((d.stack.length : Int) - 1)) (⟨x1.msg, x1.left - 1⟩ : Lev), d.scan, d.start, d.at_ + 1, d.field, d.wire, d.want - 1, d.utf, d.end_⟩ : Dcd), []⟩).out := ?_; ?_
  rotate_left
  exact ⟨(by rw [hm1] <;> rfl), (by rw [hm1, hm2] <;> rfl)⟩
  refine dsp (fun h8 p8 => ?_) fun h8 p8 => ?_
  refine ⟨(as_i64 (by omega) (by omega)), (widthD_s d), h7, h6, dsp (fun h9 p9 => ?_) fun h9 p9 => ?_⟩
  refine ⟨(fix16_s (⟨d.plan, d.mode, List.set d.stack (Int.toNat ((d.stack.length : Int) - 1)) (⟨x1.msg, x1.left - 1⟩ : Lev), d.scan, d.start, d.at_ + 1, d.field, d.wire, d.want - 1, d.utf, d.end_⟩ : Dcd) _ _ ((by have e : stepD d = (⟨d.plan, d.mode, List.set d.stack (Int.toNat ((d.stack.length : Int) - 1)) (⟨x1.msg, x1.left - 1⟩ : Lev), d.scan, d.start, d.at_ + 1, d.field, d.wire, d.want - 1, d.utf, d.end_⟩ : Dcd) := (by first | ((simp_all [stepD]; done)) | (grind [stepD])); exact (e ▸ hms : MW (⟨d.plan, d.mode, List.set d.stack (Int.toNat ((d.stack.length : Int) - 1)) (⟨x1.msg, x1.left - 1⟩ : Lev), d.scan, d.start, d.at_ + 1, d.field, d.wire, d.want - 1, d.utf, d.end_⟩ : Dcd)))) (by omega) (by first | omega | rfl | (dsimp only; omega)) (hst.2.2.2.1)), ?_⟩
  refine have hm1 : (stepB d b).d = (fixM ⟨(⟨d.plan, d.mode, List.set d.stack (Int.toNat ((d.stack.length : Int) - 1)) (⟨x1.msg, x1.left - 1⟩ : Lev), d.scan, d.start, d.at_ + 1, d.field, d.wire, d.want - 1, d.utf, d.end_⟩ : Dcd), []⟩ b).d := ?_; ?_
  rotate_left
  refine have hm2 : (stepB d b).out = (fixM ⟨(⟨d.plan, d.mode, List.set d.stack (Int.toNat ((d.stack.length : Int) - 1)) (⟨x1.msg, x1.left - 1⟩ : Lev), d.scan, d.start, d.at_ + 1, d.field, d.wire, d.want - 1, d.utf, d.end_⟩ : Dcd), []⟩ b).out := ?_; ?_
  rotate_left
  exact ⟨(by rw [hm1] <;> rfl), (by rw [hm1, hm2] <;> rfl)⟩
  refine ⟨(scan16_s (⟨d.plan, d.mode, List.set d.stack (Int.toNat ((d.stack.length : Int) - 1)) (⟨x1.msg, x1.left - 1⟩ : Lev), d.scan, d.start, d.at_ + 1, d.field, d.wire, d.want - 1, d.utf, d.end_⟩ : Dcd) _ _ ((by have e : stepD d = (⟨d.plan, d.mode, List.set d.stack (Int.toNat ((d.stack.length : Int) - 1)) (⟨x1.msg, x1.left - 1⟩ : Lev), d.scan, d.start, d.at_ + 1, d.field, d.wire, d.want - 1, d.utf, d.end_⟩ : Dcd) := (by first | ((simp_all [stepD]; done)) | (grind [stepD])); exact (e ▸ hms : MW (⟨d.plan, d.mode, List.set d.stack (Int.toNat ((d.stack.length : Int) - 1)) (⟨x1.msg, x1.left - 1⟩ : Lev), d.scan, d.start, d.at_ + 1, d.field, d.wire, d.want - 1, d.utf, d.end_⟩ : Dcd)))) (by omega)), ?_⟩
  refine have hm1 : (stepB d b).d = (varM ⟨(⟨d.plan, d.mode, List.set d.stack (Int.toNat ((d.stack.length : Int) - 1)) (⟨x1.msg, x1.left - 1⟩ : Lev), d.scan, d.start, d.at_ + 1, d.field, d.wire, d.want - 1, d.utf, d.end_⟩ : Dcd), []⟩ b d.at_).d := ?_; ?_
  rotate_left
  refine have hm2 : (stepB d b).out = (varM ⟨(⟨d.plan, d.mode, List.set d.stack (Int.toNat ((d.stack.length : Int) - 1)) (⟨x1.msg, x1.left - 1⟩ : Lev), d.scan, d.start, d.at_ + 1, d.field, d.wire, d.want - 1, d.utf, d.end_⟩ : Dcd), []⟩ b d.at_).out := ?_; ?_
  rotate_left
  exact ⟨(by rw [hm1] <;> rfl), (by rw [hm1, hm2] <;> rfl)⟩
  refine ⟨(widthD_s d), h7, h6, dsp (fun h9 p9 => ?_) fun h9 p9 => ?_⟩
  refine ⟨(fix16_s (⟨d.plan, d.mode, List.set d.stack (Int.toNat ((d.stack.length : Int) - 1)) (⟨x1.msg, x1.left - 1⟩ : Lev), d.scan, d.start, d.at_ + 1, d.field, d.wire, d.want, d.utf, d.end_⟩ : Dcd) _ _ ((by have e : stepD d = (⟨d.plan, d.mode, List.set d.stack (Int.toNat ((d.stack.length : Int) - 1)) (⟨x1.msg, x1.left - 1⟩ : Lev), d.scan, d.start, d.at_ + 1, d.field, d.wire, d.want, d.utf, d.end_⟩ : Dcd) := (by first | ((simp_all [stepD]; done)) | (grind [stepD])); exact (e ▸ hms : MW (⟨d.plan, d.mode, List.set d.stack (Int.toNat ((d.stack.length : Int) - 1)) (⟨x1.msg, x1.left - 1⟩ : Lev), d.scan, d.start, d.at_ + 1, d.field, d.wire, d.want, d.utf, d.end_⟩ : Dcd)))) (by omega) (by first | omega | rfl | (dsimp only; omega)) (hst.2.2.2.1)), ?_⟩
  refine have hm1 : (stepB d b).d = (fixM ⟨(⟨d.plan, d.mode, List.set d.stack (Int.toNat ((d.stack.length : Int) - 1)) (⟨x1.msg, x1.left - 1⟩ : Lev), d.scan, d.start, d.at_ + 1, d.field, d.wire, d.want, d.utf, d.end_⟩ : Dcd), []⟩ b).d := ?_; ?_
  rotate_left
  refine have hm2 : (stepB d b).out = (fixM ⟨(⟨d.plan, d.mode, List.set d.stack (Int.toNat ((d.stack.length : Int) - 1)) (⟨x1.msg, x1.left - 1⟩ : Lev), d.scan, d.start, d.at_ + 1, d.field, d.wire, d.want, d.utf, d.end_⟩ : Dcd), []⟩ b).out := ?_; ?_
  rotate_left
  exact ⟨(by rw [hm1] <;> rfl), (by rw [hm1, hm2] <;> rfl)⟩
  refine ⟨(scan16_s (⟨d.plan, d.mode, List.set d.stack (Int.toNat ((d.stack.length : Int) - 1)) (⟨x1.msg, x1.left - 1⟩ : Lev), d.scan, d.start, d.at_ + 1, d.field, d.wire, d.want, d.utf, d.end_⟩ : Dcd) _ _ ((by have e : stepD d = (⟨d.plan, d.mode, List.set d.stack (Int.toNat ((d.stack.length : Int) - 1)) (⟨x1.msg, x1.left - 1⟩ : Lev), d.scan, d.start, d.at_ + 1, d.field, d.wire, d.want, d.utf, d.end_⟩ : Dcd) := (by first | ((simp_all [stepD]; done)) | (grind [stepD])); exact (e ▸ hms : MW (⟨d.plan, d.mode, List.set d.stack (Int.toNat ((d.stack.length : Int) - 1)) (⟨x1.msg, x1.left - 1⟩ : Lev), d.scan, d.start, d.at_ + 1, d.field, d.wire, d.want, d.utf, d.end_⟩ : Dcd)))) (by omega)), ?_⟩
  refine have hm1 : (stepB d b).d = (varM ⟨(⟨d.plan, d.mode, List.set d.stack (Int.toNat ((d.stack.length : Int) - 1)) (⟨x1.msg, x1.left - 1⟩ : Lev), d.scan, d.start, d.at_ + 1, d.field, d.wire, d.want, d.utf, d.end_⟩ : Dcd), []⟩ b d.at_).d := ?_; ?_
  rotate_left
  refine have hm2 : (stepB d b).out = (varM ⟨(⟨d.plan, d.mode, List.set d.stack (Int.toNat ((d.stack.length : Int) - 1)) (⟨x1.msg, x1.left - 1⟩ : Lev), d.scan, d.start, d.at_ + 1, d.field, d.wire, d.want, d.utf, d.end_⟩ : Dcd), []⟩ b d.at_).out := ?_; ?_
  rotate_left
  exact ⟨(by rw [hm1] <;> rfl), (by rw [hm1, hm2] <;> rfl)⟩
  have hne : d.stack = [] := List.eq_nil_of_length_eq_zero (by omega)
  refine dsp (fun h6 p6 => ?_) fun h6 p6 => ?_
  refine ⟨(as_i64 (by omega) (by omega)), (widthD_s d), dsp (fun h7 p7 => ?_) fun h7 p7 => ?_⟩
  refine ⟨(settle_s (⟨d.plan, d.mode, d.stack, d.scan, d.start, d.at_ + 1, d.field, d.wire, d.want - 1, d.utf, d.end_⟩ : Dcd) (by first | omega | rfl | (dsimp only; omega))), ?_⟩
  refine have hm1 : (stepB d b).d = (settleM ⟨(⟨d.plan, d.mode, d.stack, d.scan, d.start, d.at_ + 1, d.field, d.wire, d.want - 1, d.utf, d.end_⟩ : Dcd), []⟩).d := ?_; ?_
  rotate_left
  refine have hm2 : (stepB d b).out = (settleM ⟨(⟨d.plan, d.mode, d.stack, d.scan, d.start, d.at_ + 1, d.field, d.wire, d.want - 1, d.utf, d.end_⟩ : Dcd), []⟩).out := ?_; ?_
  rotate_left
  exact ⟨(by rw [hm1] <;> rfl), (by rw [hm1, hm2] <;> rfl)⟩
  refine ⟨h6, dsp (fun h8 p8 => ?_) fun h8 p8 => ?_⟩
  refine ⟨(utfByte_s d.utf _), fun h9 => have q9 := bnot_t h9; ?_, fun h9 => have q9 := bnot_f h9; ?_⟩
  have hu : utfByte d.utf b = none := by simpa using q9
  refine ⟨(fail_s (⟨d.plan, d.mode, d.stack, d.scan, d.start, d.at_ + 1, d.field, d.wire, d.want - 1, d.utf, d.end_⟩ : Dcd) _ _), ?_⟩
  refine have hm1 : (stepB d b).d = (dFail (⟨d.plan, d.mode, d.stack, d.scan, d.start, d.at_ + 1, d.field, d.wire, d.want - 1, d.utf, d.end_⟩ : Dcd) 5 d.at_) := ?_; ?_
  rotate_left
  refine have hm2 : (stepB d b).out = [failEv 5 d.at_] := ?_; ?_
  rotate_left
  exact ⟨(by rw [hm1] <;> rfl), (by rw [hm1, hm2] <;> rfl)⟩
  obtain ⟨u, hu⟩ := Option.isSome_iff_exists.1 q9
  have hug : (utfByte d.utf b).getD d.utf = u := by rw [hu]; rfl
  refine ⟨(as_u8 (by omega) (by omega)), (tell_s (⟨d.plan, d.mode, d.stack, d.scan, d.start, d.at_ + 1, d.field, d.wire, d.want - 1, ((utfByte d.utf b).getD d.utf), d.end_⟩ : Dcd) (⟨4, 0, 0, 0, List.map toByte [b], 0, 0⟩ : Ev) (by first | omega | rfl | (dsimp only; omega))), ?_⟩
  refine have hm1 : (stepB d b).d = (settleM ⟨(⟨d.plan, d.mode, d.stack, d.scan, d.start, d.at_ + 1, d.field, d.wire, d.want - 1, ((utfByte d.utf b).getD d.utf), d.end_⟩ : Dcd), []⟩).d := ?_; ?_
  rotate_left
  refine have hm2 : (stepB d b).out = (⟨4, 0, 0, 0, List.map toByte [b], 0, 0⟩ : Ev) :: (settleM ⟨(⟨d.plan, d.mode, d.stack, d.scan, d.start, d.at_ + 1, d.field, d.wire, d.want - 1, ((utfByte d.utf b).getD d.utf), d.end_⟩ : Dcd), []⟩).out := ?_; ?_
  rotate_left
  exact ⟨(by rw [hm1] <;> rfl), (by rw [hm1, hm2] <;> rfl)⟩
  refine ⟨(as_u8 (by omega) (by omega)), (tell_s (⟨d.plan, d.mode, d.stack, d.scan, d.start, d.at_ + 1, d.field, d.wire, d.want - 1, d.utf, d.end_⟩ : Dcd) (⟨4, 0, 0, 0, List.map toByte [b], 0, 0⟩ : Ev) (by first | omega | rfl | (dsimp only; omega))), ?_⟩
  refine have hm1 : (stepB d b).d = (settleM ⟨(⟨d.plan, d.mode, d.stack, d.scan, d.start, d.at_ + 1, d.field, d.wire, d.want - 1, d.utf, d.end_⟩ : Dcd), []⟩).d := ?_; ?_
  rotate_left
  refine have hm2 : (stepB d b).out = (⟨4, 0, 0, 0, List.map toByte [b], 0, 0⟩ : Ev) :: (settleM ⟨(⟨d.plan, d.mode, d.stack, d.scan, d.start, d.at_ + 1, d.field, d.wire, d.want - 1, d.utf, d.end_⟩ : Dcd), []⟩).out := ?_; ?_
  rotate_left
  exact ⟨(by rw [hm1] <;> rfl), (by rw [hm1, hm2] <;> rfl)⟩
  refine dsp (fun h7 p7 => ?_) fun h7 p7 => ?_
  refine ⟨(as_i64 (by omega) (by omega)), (widthD_s d), h7, (settle_s (⟨d.plan, d.mode, d.stack, d.scan, d.start, d.at_ + 1, d.field, d.wire, d.want - 1, d.utf, d.end_⟩ : Dcd) (by first | omega | rfl | (dsimp only; omega))), ?_⟩
  refine have hm1 : (stepB d b).d = (settleM ⟨(⟨d.plan, d.mode, d.stack, d.scan, d.start, d.at_ + 1, d.field, d.wire, d.want - 1, d.utf, d.end_⟩ : Dcd), []⟩).d := ?_; ?_
  rotate_left
  refine have hm2 : (stepB d b).out = (settleM ⟨(⟨d.plan, d.mode, d.stack, d.scan, d.start, d.at_ + 1, d.field, d.wire, d.want - 1, d.utf, d.end_⟩ : Dcd), []⟩).out := ?_; ?_
  rotate_left
  exact ⟨(by rw [hm1] <;> rfl), (by rw [hm1, hm2] <;> rfl)⟩
  refine dsp (fun h8 p8 => ?_) fun h8 p8 => ?_
  refine ⟨(as_i64 (by omega) (by omega)), (widthD_s d), h7, h6, dsp (fun h9 p9 => ?_) fun h9 p9 => ?_⟩
  refine ⟨(fix16_s (⟨d.plan, d.mode, d.stack, d.scan, d.start, d.at_ + 1, d.field, d.wire, d.want - 1, d.utf, d.end_⟩ : Dcd) _ _ ((by have e : stepD d = (⟨d.plan, d.mode, d.stack, d.scan, d.start, d.at_ + 1, d.field, d.wire, d.want - 1, d.utf, d.end_⟩ : Dcd) := (by first | ((simp_all [stepD]; done)) | (grind [stepD])); exact (e ▸ hms : MW (⟨d.plan, d.mode, d.stack, d.scan, d.start, d.at_ + 1, d.field, d.wire, d.want - 1, d.utf, d.end_⟩ : Dcd)))) (by omega) (by first | omega | rfl | (dsimp only; omega)) (hst.2.2.2.1)), ?_⟩
  refine have hm1 : (stepB d b).d = (fixM ⟨(⟨d.plan, d.mode, d.stack, d.scan, d.start, d.at_ + 1, d.field, d.wire, d.want - 1, d.utf, d.end_⟩ : Dcd), []⟩ b).d := ?_; ?_
  rotate_left
  refine have hm2 : (stepB d b).out = (fixM ⟨(⟨d.plan, d.mode, d.stack, d.scan, d.start, d.at_ + 1, d.field, d.wire, d.want - 1, d.utf, d.end_⟩ : Dcd), []⟩ b).out := ?_; ?_
  rotate_left
  exact ⟨(by rw [hm1] <;> rfl), (by rw [hm1, hm2] <;> rfl)⟩
  refine ⟨(scan16_s (⟨d.plan, d.mode, d.stack, d.scan, d.start, d.at_ + 1, d.field, d.wire, d.want - 1, d.utf, d.end_⟩ : Dcd) _ _ ((by have e : stepD d = (⟨d.plan, d.mode, d.stack, d.scan, d.start, d.at_ + 1, d.field, d.wire, d.want - 1, d.utf, d.end_⟩ : Dcd) := (by first | ((simp_all [stepD]; done)) | (grind [stepD])); exact (e ▸ hms : MW (⟨d.plan, d.mode, d.stack, d.scan, d.start, d.at_ + 1, d.field, d.wire, d.want - 1, d.utf, d.end_⟩ : Dcd)))) (by omega)), ?_⟩
  refine have hm1 : (stepB d b).d = (varM ⟨(⟨d.plan, d.mode, d.stack, d.scan, d.start, d.at_ + 1, d.field, d.wire, d.want - 1, d.utf, d.end_⟩ : Dcd), []⟩ b d.at_).d := ?_; ?_
  rotate_left
  refine have hm2 : (stepB d b).out = (varM ⟨(⟨d.plan, d.mode, d.stack, d.scan, d.start, d.at_ + 1, d.field, d.wire, d.want - 1, d.utf, d.end_⟩ : Dcd), []⟩ b d.at_).out := ?_; ?_
  rotate_left
  exact ⟨(by rw [hm1] <;> rfl), (by rw [hm1, hm2] <;> rfl)⟩
  refine ⟨(widthD_s d), h7, h6, dsp (fun h9 p9 => ?_) fun h9 p9 => ?_⟩
  refine ⟨(fix16_s (⟨d.plan, d.mode, d.stack, d.scan, d.start, d.at_ + 1, d.field, d.wire, d.want, d.utf, d.end_⟩ : Dcd) _ _ ((by have e : stepD d = (⟨d.plan, d.mode, d.stack, d.scan, d.start, d.at_ + 1, d.field, d.wire, d.want, d.utf, d.end_⟩ : Dcd) := (by first | ((simp_all [stepD]; done)) | (grind [stepD])); exact (e ▸ hms : MW (⟨d.plan, d.mode, d.stack, d.scan, d.start, d.at_ + 1, d.field, d.wire, d.want, d.utf, d.end_⟩ : Dcd)))) (by omega) (by first | omega | rfl | (dsimp only; omega)) (hst.2.2.2.1)), ?_⟩
  refine have hm1 : (stepB d b).d = (fixM ⟨(⟨d.plan, d.mode, d.stack, d.scan, d.start, d.at_ + 1, d.field, d.wire, d.want, d.utf, d.end_⟩ : Dcd), []⟩ b).d := ?_; ?_
  rotate_left
  refine have hm2 : (stepB d b).out = (fixM ⟨(⟨d.plan, d.mode, d.stack, d.scan, d.start, d.at_ + 1, d.field, d.wire, d.want, d.utf, d.end_⟩ : Dcd), []⟩ b).out := ?_; ?_
  rotate_left
  exact ⟨(by rw [hm1] <;> rfl), (by rw [hm1, hm2] <;> rfl)⟩
  refine ⟨(scan16_s (⟨d.plan, d.mode, d.stack, d.scan, d.start, d.at_ + 1, d.field, d.wire, d.want, d.utf, d.end_⟩ : Dcd) _ _ ((by have e : stepD d = (⟨d.plan, d.mode, d.stack, d.scan, d.start, d.at_ + 1, d.field, d.wire, d.want, d.utf, d.end_⟩ : Dcd) := (by first | ((simp_all [stepD]; done)) | (grind [stepD])); exact (e ▸ hms : MW (⟨d.plan, d.mode, d.stack, d.scan, d.start, d.at_ + 1, d.field, d.wire, d.want, d.utf, d.end_⟩ : Dcd)))) (by omega)), ?_⟩
  refine have hm1 : (stepB d b).d = (varM ⟨(⟨d.plan, d.mode, d.stack, d.scan, d.start, d.at_ + 1, d.field, d.wire, d.want, d.utf, d.end_⟩ : Dcd), []⟩ b d.at_).d := ?_; ?_
  rotate_left
  refine have hm2 : (stepB d b).out = (varM ⟨(⟨d.plan, d.mode, d.stack, d.scan, d.start, d.at_ + 1, d.field, d.wire, d.want, d.utf, d.end_⟩ : Dcd), []⟩ b d.at_).out := ?_; ?_
  rotate_left
  exact ⟨(by rw [hm1] <;> rfl), (by rw [hm1, hm2] <;> rfl)⟩
  all_goals first | ((rw [hsb]; simp_all [byteM, stepD, textB, dUtf, mFail, dFail, evPrt, settleM_one]; done)) | ((rw [hsb]; have hw0 : widthD d = 0 := (by omega); simp_all [byteM, stepD, textB, dUtf, mFail, dFail, evPrt, settleM_one]; done)) | ((rw [hsb]; grind [byteM, stepD, textB, dUtf, mFail, dFail, evPrt, settleM_one])) | (simp_all [stepB, takesD]; done) | (grind [stepB, takesD])
structure stepAll_s_V0 where
  d : Dcd
  out : List Ev
  i : Nat
def stepAll_s_F0 (d : Dcd) (s : List UInt8) : Fam := ⟨stepAll_s_V0, fun q1 => [(1, .v (vT s)), (2, .v (vP 0)), (4, .v (vP 3)), (6, .v (vO 4)), (7, .v (vI (q1.i : Int)))], fun q1 => [.cells (oDcd0_5 1 2 q1.d), .tree q1.d.plan.shapes, .lst .lev q1.d.stack, .cells [.nil, .int .i64 0, .int .i64 0, .int .i64 0, .int .i64 0, .nil, .int .u64 0, .int .i64 0, .int .i64 0, .int .i64 0, .int .i64 0, .int .i64 0, .bool false, .bool false, .int .i64 0, .int .i64 0, .int .i64 0, .int .i64 0, .int .i64 0, .int .i64 0, .int .i64 0, .int .i64 0, .int .u64 0, .int .i64 0, .str [], .int .i64 0, .int .i64 0], .lst .ev q1.out], fun q1 => q1.i ≤ s.length ∧ feedM ⟨q1.d, q1.out⟩ (List.drop q1.i s) = feedM ⟨d, []⟩ s ∧ (q1.d).plan = d.plan ∧ List.length (q1.d).stack ≤ 1048576 ∧ ((0 : Int) ≤ (q1.d).scan.bits ∧ (q1.d).scan.bits ≤ 18446744073709551615) ∧ q1.out.length ≤ 14 * q1.i, fun q1 => s.length - q1.i⟩
theorem stepAll_s (d : Dcd) (s : List UInt8) (hp1 : List.length (d).plan.shapes ≤ 1048576) (hp2 : ∀ e ∈ (d).plan.shapes, e.fields.length ≤ 1048576) (hp3 : List.length (d).stack ≤ 1048576) (hp4 : (0 : Int) ≤ (d).scan.bits ∧ (d).scan.bits ≤ 18446744073709551615) (hp5 : s.length ≤ 1048576) : Fun Tryz.prog 118 [.agg (cDcd d), vT s] [] (.tup [.agg (oDcd0_5 0 1 (feedM ⟨d, []⟩ s).d), vO 2]) [.tree (feedM ⟨d, []⟩ s).d.plan.shapes, .lst .lev (feedM ⟨d, []⟩ s).d.stack, .lst .ev (feedM ⟨d, []⟩ s).out] := by
  have hN : bigN = 274877906944 := rfl
  refine fun_ofw Tryz.func118 (by kernel_rfl) (by kernel_rfl) (w := let zi : Int → C := .int .i64; let z5 : List C := [.nil, zi 0, zi 0, zi 0, zi 0, .nil, .int .u64 0, zi 0, zi 0, zi 0, zi 0, zi 0, .bool false, .bool false, zi 0, zi 0, zi 0, zi 0, zi 0, zi 0, zi 0, zi 0, .int .u64 0, zi 0, .str [], zi 0, zi 0]; let z6 := stepAll_s_F0 d s; let z7 := feedM ⟨d, []⟩ s; (.seg [.call [] (.v (.agg (oDcd0_5 0 1 d))) [.tree d.plan.shapes, .lst .lev d.stack], .ty .ev, .at 0, .keep [1, 2, 4, 6, 7], .sel [0, 2, 3, 1, 4]] (.loop z6 fun q1 => .br (.intro (fun (x1 : UInt8) => s[q1.i]? = some x1) fun x1 => let z1 := stepB q1.d ((UInt8.toNat x1 : Nat) : Int); .seg [.tree (fr (.two 5 (fr (.one 9 (.one 10 (.first 11 (.done)))) 6 3) 9 (.one 5 (fr (.one 10 (.first 11 (.done))) 6 3))) 0 5) 12 [], .ch x1, .as 24 (.v (vI ((UInt8.toNat x1 : Nat) : Int))), .call [] (.tup [.agg (oDcd0_5 0 1 z1.d), vO 2]) [.tree z1.d.plan.shapes, .lst .lev z1.d.stack, .lst .ev z1.out], .at 0, .keep [1, 2, 4, 6, 7, 8, 9], .sel [0, 1, 2, 3, 4, 8, 5, 6, 7], .call [] (.tup [.agg (oDcd0_5 0 1 z1.d), vO 2]) [.tree z1.d.plan.shapes, .lst .lev z1.d.stack, .lst .ev z1.out], .at 0, .keep [1, 2, 4, 6, 7, 8, 9], .sel [0, 1, 2, 3, 4, 5, 6, 7, 8], .ty .ev, .as 18 (.v (vI ((q1.i : Int) + 1))), .at 0, .keep [1, 2, 4, 6, 7], .sel [0, 6, 7, 3, 9]] (.next)) (.leaf () [1, 2, 4])), (Fun Tryz.prog 63 [.agg (cDcd d)] [] (.v (.agg (oDcd0_5 0 1 d))) [.tree d.plan.shapes, .lst .lev d.stack]) ∧ z6.Has [(1, .v (vT s)), (2, .v (vP 0)), (4, .v (vP 3)), (6, .v (vO 4)), (7, .v (vI 0))] [.cells (oDcd0_5 1 2 d), .tree d.plan.shapes, .lst .lev d.stack, .cells z5, .lst .ev ([] : List Ev)] ∧ ∀ q1, z6.inv q1 → (let z4 := (q1.i : Int); ((decide (z4 < (s.length : Int))) = true → (∃ (x1 : UInt8), s[q1.i]? = some x1) ∧ ∀ (x1 : UInt8), (s[q1.i]? = some x1) → (let z3 := ((UInt8.toNat x1 : Nat) : Int); let z2 := stepB q1.d z3; (s[q1.i]? = some x1) ∧ ((0 : Int) ≤ z4) ∧ (s[q1.i]? = some x1) ∧ ((0 : Int) ≤ z4) ∧ ((.v (vI (IntKind.i64.wrap (z3))) : S) = .v (vI z3)) ∧ ((.v (vI (IntKind.i64.wrap (z3))) : S) = .v (vI z3)) ∧ (Fun Tryz.prog 52 [.agg (cDcd q1.d), vI z3] [] (.tup [.agg (oDcd0_5 0 1 z2.d), vO 2]) [.tree z2.d.plan.shapes, .lst .lev z2.d.stack, .lst .ev z2.out]) ∧ (Fun Tryz.prog 52 [.agg (cDcd q1.d), vI z3] [] (.tup [.agg (oDcd0_5 0 1 z2.d), vO 2]) [.tree z2.d.plan.shapes, .lst .lev z2.d.stack, .lst .ev z2.out]) ∧ (([.cells (oDcd0_5 1 2 q1.d), .tree q1.d.plan.shapes, .lst .lev q1.d.stack, .cells z5, .lst .ev q1.out, .cells (oDcd0_5 6 7 z2.d), .tree z2.d.plan.shapes, .lst .lev z2.d.stack, .lst .ev z2.out] : List Blk) = [.cells (oDcd0_5 1 2 q1.d), .tree q1.d.plan.shapes, .lst .lev q1.d.stack, .cells z5, .lst .ev q1.out, .cells (oDcd0_5 6 7 z2.d), .tree z2.d.plan.shapes, .lst .lev z2.d.stack, .lst .ev z2.out]) ∧ (([(1, .v (vT s)), (2, .v (vP 0)), (4, .v (vP 3)), (6, .v (vO 4)), (7, .v (vI z4)), (8, .v (vP 5)), (9, .v (vO 8))] : List (Nat × S)) = [(1, .v (vT s)), (2, .v (vP 0)), (4, .v (vP 3)), (6, .v (vO 4)), (7, .v (vI z4)), (8, .v (vP 5)), (9, .v (vO 8))]) ∧ (q1.out.length + z2.out.length ≤ bigN) ∧ ((.v (vI (IntKind.i64.wrap (z4 + 1))) : S) = .v (vI (z4 + 1))) ∧ z6.Nxt q1 [(1, .v (vT s)), (2, .v (vP 0)), (4, .v (vP 3)), (6, .v (vO 4)), (7, .v (vI (z4 + 1)))] [.cells (oDcd0_5 1 2 z2.d), .tree z2.d.plan.shapes, .lst .lev z2.d.stack, .cells z5, .lst .ev (q1.out ++ z2.out)])) ∧ ((decide (z4 < (s.length : Int))) = false → (.tup [.agg (oDcd0_5 0 1 q1.d), vO 2] : S) = .tup [.agg (oDcd0_5 0 1 z7.d), vO 2] ∧ ([.tree q1.d.plan.shapes, .lst .lev q1.d.stack, .lst .ev q1.out] : List Blk) = [.tree z7.d.plan.shapes, .lst .lev z7.d.stack, .lst .ev z7.out])))) (by kernel_rfl) ?_
  refine ⟨(copyDec_s d (by omega) ((by first | (exact hsf) | (exact hp2))) (by omega)), has_of (j := (⟨d, ([] : List Ev), 0⟩ : stepAll_s_V0)) (by first | rfl | simp) rfl (by dsimp only [stepAll_s_F0]; exact ⟨by omega, rfl, rfl, hp3, hp4, by simp⟩), fun (q1 : stepAll_s_V0) hq_q1 => ?_⟩
  have hi_q1 : q1.i ≤ s.length ∧ feedM ⟨q1.d, q1.out⟩ (List.drop q1.i s) = feedM ⟨d, []⟩ s ∧ (q1.d).plan = d.plan ∧ List.length (q1.d).stack ≤ 1048576 ∧ ((0 : Int) ≤ (q1.d).scan.bits ∧ (q1.d).scan.bits ≤ 18446744073709551615) ∧ q1.out.length ≤ 14 * q1.i := hq_q1
  obtain ⟨v1, v2, v3, v4, v5, v6⟩ := hi_q1
  have hsl : q1.d.plan.shapes.length = d.plan.shapes.length := by rw [v3]
  have hsf : ∀ e ∈ q1.d.plan.shapes, e.fields.length ≤ 1048576 := by rw [v3]; exact hp2
  refine dsp (fun h1 p1 => ?_) fun h1 p1 => ?_
  refine ⟨(ax_get (l := s) (i := q1.i) (by omega)), fun x1 hx1 => ?_⟩
  have hb_x1 := UInt8.toNat_lt x1
  rw [drop_el hx1, feedM_cons] at v2
  have hub := u8_b x1
  have hl := stepB_lim (d := q1.d) (b := (x1.toNat : Int))
  exact ⟨hx1, (by omega), hx1, (by omega), (as_i64 (by omega) (by omega)), (as_i64 (by omega) (by omega)), (stepB_s q1.d _ (by omega) ((by first | (exact hsf) | (exact hp2))) (by omega) (by omega)), (stepB_s q1.d _ (by omega) ((by first | (exact hsf) | (exact hp2))) (by omega) (by omega)), rfl, rfl, (by omega), (as_i64 (by omega) (by omega)), nxt_of (j := (⟨(stepB q1.d ((UInt8.toNat x1 : Nat) : Int)).d, q1.out ++ (stepB q1.d ((UInt8.toNat x1 : Nat) : Int)).out, q1.i + 1⟩ : stepAll_s_V0)) (by first | rfl | simp) rfl (by dsimp only [stepAll_s_F0]; exact ⟨by omega, by rw [← v2]; rfl, hl.1.trans v3, by omega, hl.2.2.2 v5, by rw [List.length_append]; omega⟩) (by dsimp only [stepAll_s_F0]; omega)⟩
  rw [List.drop_eq_nil_of_le (by omega), feedM_nil] at v2
  refine have hm1 : (feedM ⟨d, []⟩ s).d = q1.d := ?_; ?_
  rotate_left
  refine have hm2 : (feedM ⟨d, []⟩ s).out = q1.out := ?_; ?_
  rotate_left
  exact ⟨(by rw [hm1] <;> rfl), (by rw [hm1, hm2] <;> rfl)⟩
  all_goals first | (rfl) | ((rw [← v2]; done)) | (grind)
def szShL : Int → List Shp → Int
  | left, [] => left
  | left, x :: r => if left - (x.fields.length : Int) < 0 then -1 else szShL (left - (x.fields.length : Int)) r
def szShS (left : Int) (l : List Shp) : Int := if left - (l.length : Int) < 0 then -1 else szShL (left - (l.length : Int)) l
theorem szShL_b : ∀ {l : List Shp} {left : Int}, 0 ≤ left → left ≤ 1048576 → -1 ≤ szShL left l ∧ szShL left l ≤ left ∧ (0 ≤ szShL left l → ∀ e ∈ l, e.fields.length ≤ 1048576)
  | [], left, h, h2 => by simp [szShL]; omega
  | e :: r, left, h, h2 => by
    unfold szShL
    split
    · omega
    · have := szShL_b (l := r) (left := left - (e.fields.length : Int)) (by omega) (by omega)
      refine ⟨this.1, by omega, fun h3 x hx => ?_⟩
      rcases List.mem_cons.1 hx with rfl | hx
      · omega
      · exact this.2.2 h3 x hx
theorem szShS_b {l : List Shp} {left : Int} (h : 0 ≤ left) (h2 : left ≤ 1048576) : -1 ≤ szShS left l ∧ szShS left l ≤ left ∧ (0 ≤ szShS left l → l.length ≤ 1048576 ∧ ∀ e ∈ l, e.fields.length ≤ 1048576) := by
  unfold szShS
  split
  · omega
  · have := szShL_b (l := l) (left := left - (l.length : Int)) (by omega) (by omega)
    exact ⟨this.1, by omega, fun h3 => ⟨by omega, this.2.2 h3⟩⟩
theorem szShL_cons {left : Int} {e : Shp} {r : List Shp} : szShL left (e :: r) = if left - (e.fields.length : Int) < 0 then -1 else szShL (left - (e.fields.length : Int)) r := rfl
theorem szEvent_ok (a : Ev) (left : Int) (hp1 : (0 : Int) ≤ left ∧ left ≤ 1048576) (hp2 : ((List.length (a).text : Nat) : Int) ≤ 9223372036854775807) : Fun Tryz.prog 62 [.agg (cEv a), vI left] [] (.v (vI (if left - ((List.length (a).text : Nat) : Int) < 0 then -1 else left - ((List.length (a).text : Nat) : Int)))) [] := by
  have hN : bigN = 274877906944 := rfl
  refine fun_ofw Tryz.func62 (by kernel_rfl) (by kernel_rfl) (w := let z1 := (a.text.length : Int); let z3 := ((List.length (a).text : Nat) : Int); let z2 := vI (if left - z3 < 0 then -1 else left - z3); (.seg [.as 9 (.v (vI (left - z1)))] (.br (.leaf () []) (.leaf () [])), ((.v (vI (IntKind.i64.wrap (left - z1))) : S) = .v (vI (left - z1))) ∧ ((decide (left - z1 < 0)) = true → (.v (vI (-1)) : S) = .v z2 ∧ ([] : List Blk) = []) ∧ ((decide (left - z1 < 0)) = false → (.v (vI (left - z1)) : S) = .v z2 ∧ ([] : List Blk) = []))) (by kernel_rfl) ?_
  refine ⟨(as_i64 (by omega) (by omega)), dsp (fun h1 p1 => ?_) fun h1 p1 => ?_⟩
  exact ⟨(congrArg S.v (congrArg V.c (congrArg (C.int .i64) (by grind)))), rfl⟩
  exact ⟨(congrArg S.v (congrArg V.c (congrArg (C.int .i64) (by grind)))), rfl⟩
structure szEventS_ok_V0 where
  left : Int
  i : Nat
theorem szFieldS_ok (l : List Fld) (left : Int) (hp1 : (0 : Int) ≤ left ∧ left ≤ 1048576) (hp2 : (l.length : Int) ≤ 9223372036854775807) : Fun Tryz.prog 188 [.c (.seq .fld l), vI left] [] (.v (vI (szN left (l.length : Int)))) [] := by
  have hN : bigN = 274877906944 := rfl
  refine fun_ofw Tryz.func188 (by kernel_rfl) (by kernel_rfl) (w := let z1 := (l.length : Int); (.seg [.as 8 (.v (vI (left - z1)))] (.br (.leaf () []) (.leaf () [])), ((.v (vI (IntKind.i64.wrap (left - z1))) : S) = .v (vI (left - z1))) ∧ ((decide (left - z1 < 0)) = true → (.v (vI (-1)) : S) = .v (vI (szN left z1)) ∧ ([] : List Blk) = []) ∧ ((decide (left - z1 < 0)) = false → (.v (vI (left - z1)) : S) = .v (vI (szN left z1)) ∧ ([] : List Blk) = []))) (by kernel_rfl) ?_
  refine ⟨(as_i64 (by omega) (by omega)), dsp (fun h1 p1 => ?_) fun h1 p1 => ?_⟩
  refine ⟨(sI ?_), rfl⟩
  rotate_left
  refine ⟨(sI ?_), rfl⟩
  rotate_left
  all_goals first | (simp [szN, *]; done) | (grind [szN])
theorem szShape_ok (a : Shp) (left : Int) (hp1 : (0 : Int) ≤ left ∧ left ≤ 1048576) (hp2 : ((List.length (a).fields : Nat) : Int) ≤ 9223372036854775807) : Fun Tryz.prog 142 [.agg (cShp a), vI left] [] (.v (vI (if left - ((List.length (a).fields : Nat) : Int) < 0 then -1 else left - ((List.length (a).fields : Nat) : Int)))) [] := by
  have hN : bigN = 274877906944 := rfl
  refine fun_ofw Tryz.func142 (by kernel_rfl) (by kernel_rfl) (w := let z1 := (a.fields.length : Int); let z3 := ((List.length (a).fields : Nat) : Int); let z2 := vI (if left - z3 < 0 then -1 else left - z3); let z4 := vI (szN left z1); (.seg [.call [] (.v z4) []] (.br (.leaf () []) (.leaf () [])), (Fun Tryz.prog 188 [.c (.seq .fld a.fields), vI left] [] (.v z4) []) ∧ ((decide (szN left z1 < 0)) = true → (.v (vI (-1)) : S) = .v z2 ∧ ([] : List Blk) = []) ∧ ((decide (szN left z1 < 0)) = false → (.v z4 : S) = .v z2 ∧ ([] : List Blk) = []))) (by kernel_rfl) ?_
  refine ⟨(szFieldS_ok _ _ (by omega) (by omega)), dsp (fun h1 p1 => ?_) fun h1 p1 => ?_⟩
  exact ⟨(congrArg S.v (congrArg V.c (congrArg (C.int .i64) (by grind [szN])))), rfl⟩
  exact ⟨(congrArg S.v (congrArg V.c (congrArg (C.int .i64) (by grind [szN])))), rfl⟩
structure szShapeS_ok_V0 where
  left : Int
  i : Nat
def szShapeS_ok_F0 (l : List Shp) (left : Int) : Fam := ⟨szShapeS_ok_V0, fun q1 => [(0, .v (.c (.seq .shp l))), (1, .v (vI q1.left)), (5, .v (vI (q1.i : Int)))], fun _ => [], fun q1 => q1.i ≤ l.length ∧ (0 : Int) ≤ q1.left ∧ q1.left ≤ 1048576 ∧ szShL q1.left (List.drop q1.i l) = szShS left l, fun q1 => l.length - q1.i⟩
theorem szShapeS_ok (l : List Shp) (left : Int) (hp1 : (0 : Int) ≤ left ∧ left ≤ 1048576) (hp2 : (l.length : Int) ≤ 9223372036854775807) (hp3 : ∀ e ∈ l, (e.fields.length : Int) ≤ 9223372036854775807) : Fun Tryz.prog 101 [.c (.seq .shp l), vI left] [] (.v (vI (szShS left l))) [] := by
  have hN : bigN = 274877906944 := rfl
  refine fun_ofw Tryz.func101 (by kernel_rfl) (by kernel_rfl) (w := let z5 := (l.length : Int); let z6 := szShapeS_ok_F0 l left; let z7 := vI (szShS left l); (.seg [.as 9 (.v (vI (left - z5)))] (.br (.leaf () []) (.seg [.at 0, .keep [0, 1, 5], .sel []] (.loop z6 fun q1 => .br (.intro (fun (x1 : Shp) => l[q1.i]? = some x1) fun x1 => let z1 := ((List.length (x1).fields : Nat) : Int); .seg [.el .shp x1, .call [] (.v (vI (if q1.left - z1 < 0 then -1 else q1.left - z1))) []] (.br (.leaf () []) (.seg [.as 17 (.v (vI ((q1.i : Int) + 1))), .at 0, .keep [0, 1, 5], .sel []] (.next)))) (.leaf () [])))), ((.v (vI (IntKind.i64.wrap (left - z5))) : S) = .v (vI (left - z5))) ∧ ((decide (left - z5 < 0)) = true → (.v (vI (-1)) : S) = .v z7 ∧ ([] : List Blk) = []) ∧ ((decide (left - z5 < 0)) = false → z6.Has [(0, .v (.c (.seq .shp l))), (1, .v (vI (left - z5))), (5, .v (vI 0))] [] ∧ ∀ q1, z6.inv q1 → (let z4 := (q1.i : Int); ((decide (z4 < z5)) = true → (∃ (x1 : Shp), l[q1.i]? = some x1) ∧ ∀ (x1 : Shp), (l[q1.i]? = some x1) → (let z3 := ((List.length (x1).fields : Nat) : Int); let z2 := if q1.left - z3 < 0 then -1 else q1.left - z3; (l[q1.i]? = some x1) ∧ ((0 : Int) ≤ z4) ∧ (Fun Tryz.prog 142 [.agg (cShp x1), vI q1.left] [] (.v (vI z2)) []) ∧ ((decide (z2 < 0)) = true → (.v (vI (-1)) : S) = .v z7 ∧ ([] : List Blk) = []) ∧ ((decide (z2 < 0)) = false → ((.v (vI (IntKind.i64.wrap (z4 + 1))) : S) = .v (vI (z4 + 1))) ∧ z6.Nxt q1 [(0, .v (.c (.seq .shp l))), (1, .v (vI z2)), (5, .v (vI (z4 + 1)))] []))) ∧ ((decide (z4 < z5)) = false → (.v (vI q1.left) : S) = .v z7 ∧ ([] : List Blk) = []))))) (by kernel_rfl) ?_
  refine ⟨(as_i64 (by omega) (by omega)), dsp (fun h1 p1 => ?_) fun h1 p1 => ?_⟩
  refine ⟨(sI ?_), rfl⟩
  rotate_left
  refine ⟨has_of (j := (⟨left - (l.length : Int), 0⟩ : szShapeS_ok_V0)) (by first | rfl | simp) rfl (by dsimp only [szShapeS_ok_F0]; exact ⟨by omega, by omega, by omega, by rw [szShS, if_neg (by omega)]; rfl⟩), fun (q1 : szShapeS_ok_V0) hq_q1 => ?_⟩
  have hi_q1 : q1.i ≤ l.length ∧ (0 : Int) ≤ q1.left ∧ q1.left ≤ 1048576 ∧ szShL q1.left (List.drop q1.i l) = szShS left l := hq_q1
  obtain ⟨v1, v2, v3, v4⟩ := hi_q1
  refine dsp (fun h2 p2 => ?_) fun h2 p2 => ?_
  refine ⟨(ax_get (l := l) (i := q1.i) (by omega)), fun x1 hx1 => ?_⟩
  rw [drop_el hx1, szShL_cons] at v4
  have hz := hp3 x1 (List.mem_of_getElem? hx1)
  refine ⟨hx1, (by omega), (szShape_ok x1 _ (by omega) (by omega)), dsp (fun h3 p3 => ?_) fun h3 p3 => ?_⟩
  refine ⟨(sI ?_), rfl⟩
  rotate_left
  exact ⟨(as_i64 (by omega) (by omega)), nxt_of (j := (⟨(if q1.left - ((List.length (x1).fields : Nat) : Int) < 0 then -1 else q1.left - ((List.length (x1).fields : Nat) : Int)), q1.i + 1⟩ : szShapeS_ok_V0)) (by first | rfl | simp) rfl (by dsimp only [szShapeS_ok_F0]; exact ⟨by omega, by grind, by grind, by grind⟩) (by dsimp only [szShapeS_ok_F0]; omega)⟩
  rw [drop_end p2] at v4
  refine ⟨(sI ?_), rfl⟩
  rotate_left
  all_goals first | (grind [szShS, szShL])
theorem szSchema_ok (l : List Shp) (left : Int) (hp1 : (0 : Int) ≤ left ∧ left ≤ 1048576) (hp2 : (l.length : Int) ≤ 9223372036854775807) (hp3 : ∀ e ∈ l, (e.fields.length : Int) ≤ 9223372036854775807) : Fun Tryz.prog 50 [.agg [.seq .shp l], vI left] [] (.v (vI (szShS left l))) [] := by
  have hN : bigN = 274877906944 := rfl
  refine fun_ofw Tryz.func50 (by kernel_rfl) (by kernel_rfl) (w := let z1 := vI (szShS left l); (.seg [.call [] (.v z1) []] (.br (.leaf () []) (.leaf () [])), (Fun Tryz.prog 101 [.c (.seq .shp l), vI left] [] (.v z1) []) ∧ ((decide (szShS left l < 0)) = true → (.v (vI (-1)) : S) = .v z1 ∧ ([] : List Blk) = []) ∧ ((decide (szShS left l < 0)) = false → (.v z1 : S) = .v z1 ∧ ([] : List Blk) = []))) (by kernel_rfl) ?_
  refine ⟨(szShapeS_ok _ _ (by omega) (by omega) (hp3)), dsp (fun h1 p1 => ?_) fun h1 p1 => ?_⟩
  refine ⟨(sI ?_), rfl⟩
  rotate_left
  exact ⟨rfl, rfl⟩
  all_goals have := szShS_b (l := l) (left := left) (by omega) (by omega); omega
theorem szPlan_ok (a : Pln) (left : Int) (hp1 : (0 : Int) ≤ left ∧ left ≤ 1048576) (hp2 : ((List.length (a).shapes : Nat) : Int) ≤ 9223372036854775807) (hp3 : ∀ e ∈ (a).shapes, (e.fields.length : Int) ≤ 9223372036854775807) : Fun Tryz.prog 10 [.agg (cPln a), vI left] [] (.v (vI (szShS left (a).shapes))) [] := by
  have hN : bigN = 274877906944 := rfl
  refine fun_ofw Tryz.func10 (by kernel_rfl) (by kernel_rfl) (w := let z1 := vI (szShS left a.shapes); let z2 := decide (szShS left a.shapes < 0); (.seg [.call [] (.v z1) []] (.br (.leaf () []) (.leaf () [])), (Fun Tryz.prog 50 [.agg [.seq .shp a.shapes], vI left] [] (.v z1) []) ∧ (z2 = true → (.v (vI (-1)) : S) = .v (vI (szShS left (a).shapes)) ∧ ([] : List Blk) = []) ∧ (z2 = false → (.v z1 : S) = .v (vI (szShS left (a).shapes)) ∧ ([] : List Blk) = []))) (by kernel_rfl) ?_
  refine ⟨(szSchema_ok a.shapes _ (by omega) (by omega) (hp3)), dsp (fun h1 p1 => ?_) fun h1 p1 => ?_⟩
  refine ⟨(sI ?_), rfl⟩
  rotate_left
  refine ⟨(sI ?_), rfl⟩
  rotate_left
  all_goals have := szShS_b (l := a.shapes) (left := left) (by omega) (by omega); omega
end Go.Proofs.YtpchkcpcdbdhdaaGreat.Ax
