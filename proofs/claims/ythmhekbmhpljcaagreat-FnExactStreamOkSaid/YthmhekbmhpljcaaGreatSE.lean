/- Decoders: what is valid: both sides. -/
import Derived.Test.YthmhekbmhpljcaaGreatSD
namespace Go.Proofs.YthmhekbmhpljcaaGreat.Ax
open Go.RowKit
set_option linter.unusedSimpArgs false
set_option linter.unusedVariables false
theorem wireOk_t {w : Int} (h : wireOk w = true) : 0 ≤ w ∧ w ≤ 5 := by simp [wireOk] at h; omega
theorem levelsOk_t {d : Dcd} (h : levelsOk d = true) : planOk d.plan = true := by simp only [levelsOk, Bool.and_eq_true] at h; exact h.1.1
theorem decOk_i (d : Dcd) (hp1 : List.length (d).stack ≤ bigN) (hp2 : List.length (d).plan.shapes ≤ bigN) : Fun Tryz.prog 34 [.agg (cDcd d)] [] (.v (vB (decOk d))) [] := by
  have hN : bigN = 274877906944 := rfl
  refine fun_ofw Tryz.func34 (by kernel_rfl) (by kernel_rfl) (w := let z2 := wantD d && kindD d; let z3 := !(decide (d.end_.kind = 0) && (decide (d.end_.field = 0) && (decide (d.end_.bits = 0) && (decide (d.end_.len = 0) && (decide (d.end_.text = []) && (decide (d.end_.code = 0) && decide (d.end_.at_ = 0))))))); let z4 := vB (scanD d); let z6 := ([] : List Blk); let z7 := vB (decOk d); let z8 := !decide (d.mode = 1); let z10 := !decide (d.mode = 9); let z11 := decide (0 < (d.stack.length : Int)); let z12 := (.v (vB false) : S); let z1 := z2 = false → z12 = .v z7 ∧ z6 = []; let z5 := z11 = true → z12 = .v z7 ∧ z6 = []; let z13 := decide (d.mode = 1); let z14 := (.v z4 : S); let z15 := !(decide (d.field.number = 0) && (decide (d.field.kind = 0) && (decide (d.field.rep = false) && (decide (d.field.packed = false) && decide (d.field.msg = 0))))); let z16 := vI (topL d); let z17 := decide (topL d < 1); let z9 := z17 = true → z12 = .v z7 ∧ z6 = []; let z18 := terminal d.end_; let z19 := z3 = true → z12 = .v z7 ∧ z6 = []; let z20 := eventOk d.end_; let z21 := known (d.plan).shapes d.field; let z22 := within d.at_ 0 1000000000; let z23 := z10 = false; let z24 := within d.start 0 d.at_; let z25 := z10 = true; let z26 := decide (d.mode = 9); let z27 := within d.mode 1 9; let z28 := wireOk d.wire; let z29 := (!z20) = true → z12 = .v z7 ∧ z6 = []; let z30 := (!z18) = true → z12 = .v z7 ∧ z6 = []; let z31 := utfOk d.utf; (.seg [.call [] (.v (vB (levelsOk d))) []] (.br (.leaf () []) (.seg [.call [] (.v (vB z27)) []] (.br (.leaf () []) (.seg [.call [] (.v (vB z22)) []] (.br (.leaf () []) (.seg [.call [] (.v (vB z24)) []] (.br (.leaf () []) (.seg [.call [] (.v (vB z31)) []] (.br (.leaf () []) (.seg [.call [] (.v (vB z28)) []] (.br (.leaf () []) (.br (.seg [.call [] (.v (vB z21)) []] (.br (.leaf () []) (.br (.seg [.call [] (.v (vB z20)) []] (.br (.leaf () []) (.seg [.call [] (.v (vB z18)) []] (.br (.leaf () []) (.br (.br (.leaf () []) (.br (.br (.leaf () []) (.br (.seg [.br true, .call [] (.v z16) []] (.br (.leaf () []) (.seg [.call [] (.v (vB z2)) []] (.br (.seg [.call [] (.v z4) []] (.leaf () [])) (.leaf () []))))) (.seg [.call [] (.v (vB z2)) []] (.br (.seg [.call [] (.v z4) []] (.leaf () [])) (.leaf () []))))) (.br (.seg [.br true, .call [] (.v z16) []] (.br (.leaf () []) (.seg [.call [] (.v (vB z2)) []] (.br (.seg [.call [] (.v z4) []] (.leaf () [])) (.leaf () []))))) (.seg [.call [] (.v (vB z2)) []] (.br (.seg [.call [] (.v z4) []] (.leaf () [])) (.leaf () [])))))) (.br (.br (.leaf () []) (.br (.seg [.br false, .call [] (.v (vB z2)) []] (.br (.seg [.call [] (.v z4) []] (.leaf () [])) (.leaf () []))) (.seg [.call [] (.v (vB z2)) []] (.br (.seg [.call [] (.v z4) []] (.leaf () [])) (.leaf () []))))) (.br (.seg [.br false, .call [] (.v (vB z2)) []] (.br (.seg [.call [] (.v z4) []] (.leaf () [])) (.leaf () []))) (.seg [.call [] (.v (vB z2)) []] (.br (.seg [.call [] (.v z4) []] (.leaf () [])) (.leaf () [])))))))))) (.br (.br (.leaf () []) (.br (.br (.leaf () []) (.br (.seg [.br true, .call [] (.v z16) []] (.br (.leaf () []) (.seg [.call [] (.v (vB z2)) []] (.br (.seg [.call [] (.v z4) []] (.leaf () [])) (.leaf () []))))) (.seg [.call [] (.v (vB z2)) []] (.br (.seg [.call [] (.v z4) []] (.leaf () [])) (.leaf () []))))) (.br (.seg [.br true, .call [] (.v z16) []] (.br (.leaf () []) (.seg [.call [] (.v (vB z2)) []] (.br (.seg [.call [] (.v z4) []] (.leaf () [])) (.leaf () []))))) (.seg [.call [] (.v (vB z2)) []] (.br (.seg [.call [] (.v z4) []] (.leaf () [])) (.leaf () [])))))) (.br (.br (.leaf () []) (.br (.seg [.br false, .call [] (.v (vB z2)) []] (.br (.seg [.call [] (.v z4) []] (.leaf () [])) (.leaf () []))) (.seg [.call [] (.v (vB z2)) []] (.br (.seg [.call [] (.v z4) []] (.leaf () [])) (.leaf () []))))) (.br (.seg [.br false, .call [] (.v (vB z2)) []] (.br (.seg [.call [] (.v z4) []] (.leaf () [])) (.leaf () []))) (.seg [.call [] (.v (vB z2)) []] (.br (.seg [.call [] (.v z4) []] (.leaf () [])) (.leaf () []))))))))) (.br (.seg [.call [] (.v (vB z20)) []] (.br (.leaf () []) (.seg [.call [] (.v (vB z18)) []] (.br (.leaf () []) (.br (.br (.leaf () []) (.br (.br (.leaf () []) (.br (.seg [.br true, .call [] (.v z16) []] (.br (.leaf () []) (.seg [.call [] (.v (vB z2)) []] (.br (.seg [.call [] (.v z4) []] (.leaf () [])) (.leaf () []))))) (.seg [.call [] (.v (vB z2)) []] (.br (.seg [.call [] (.v z4) []] (.leaf () [])) (.leaf () []))))) (.br (.seg [.br true, .call [] (.v z16) []] (.br (.leaf () []) (.seg [.call [] (.v (vB z2)) []] (.br (.seg [.call [] (.v z4) []] (.leaf () [])) (.leaf () []))))) (.seg [.call [] (.v (vB z2)) []] (.br (.seg [.call [] (.v z4) []] (.leaf () [])) (.leaf () [])))))) (.br (.br (.leaf () []) (.br (.seg [.br false, .call [] (.v (vB z2)) []] (.br (.seg [.call [] (.v z4) []] (.leaf () [])) (.leaf () []))) (.seg [.call [] (.v (vB z2)) []] (.br (.seg [.call [] (.v z4) []] (.leaf () [])) (.leaf () []))))) (.br (.seg [.br false, .call [] (.v (vB z2)) []] (.br (.seg [.call [] (.v z4) []] (.leaf () [])) (.leaf () []))) (.seg [.call [] (.v (vB z2)) []] (.br (.seg [.call [] (.v z4) []] (.leaf () [])) (.leaf () [])))))))))) (.br (.br (.leaf () []) (.br (.br (.leaf () []) (.br (.seg [.br true, .call [] (.v z16) []] (.br (.leaf () []) (.seg [.call [] (.v (vB z2)) []] (.br (.seg [.call [] (.v z4) []] (.leaf () [])) (.leaf () []))))) (.seg [.call [] (.v (vB z2)) []] (.br (.seg [.call [] (.v z4) []] (.leaf () [])) (.leaf () []))))) (.br (.seg [.br true, .call [] (.v z16) []] (.br (.leaf () []) (.seg [.call [] (.v (vB z2)) []] (.br (.seg [.call [] (.v z4) []] (.leaf () [])) (.leaf () []))))) (.seg [.call [] (.v (vB z2)) []] (.br (.seg [.call [] (.v z4) []] (.leaf () [])) (.leaf () [])))))) (.br (.br (.leaf () []) (.br (.seg [.br false, .call [] (.v (vB z2)) []] (.br (.seg [.call [] (.v z4) []] (.leaf () [])) (.leaf () []))) (.seg [.call [] (.v (vB z2)) []] (.br (.seg [.call [] (.v z4) []] (.leaf () [])) (.leaf () []))))) (.br (.seg [.br false, .call [] (.v (vB z2)) []] (.br (.seg [.call [] (.v z4) []] (.leaf () [])) (.leaf () []))) (.seg [.call [] (.v (vB z2)) []] (.br (.seg [.call [] (.v z4) []] (.leaf () [])) (.leaf () []))))))))))))))))))), (Fun Tryz.prog 77 [.agg (cDcd d)] [] (.v (vB (levelsOk d))) []) ∧ ((!(levelsOk d)) = true → z12 = .v z7 ∧ z6 = []) ∧ ((!(levelsOk d)) = false → (Fun Tryz.prog 76 [vI d.mode, vI 1, vI 9] [] (.v (vB z27)) []) ∧ ((!z27) = true → z12 = .v z7 ∧ z6 = []) ∧ ((!z27) = false → (Fun Tryz.prog 76 [vI d.at_, vI 0, vI 1000000000] [] (.v (vB z22)) []) ∧ ((!z22) = true → z12 = .v z7 ∧ z6 = []) ∧ ((!z22) = false → (Fun Tryz.prog 76 [vI d.start, vI 0, vI d.at_] [] (.v (vB z24)) []) ∧ ((!z24) = true → z12 = .v z7 ∧ z6 = []) ∧ ((!z24) = false → (Fun Tryz.prog 78 [.agg (cUtf d.utf)] [] (.v (vB z31)) []) ∧ ((!z31) = true → z12 = .v z7 ∧ z6 = []) ∧ ((!z31) = false → (Fun Tryz.prog 79 [vI d.wire] [] (.v (vB z28)) []) ∧ ((!z28) = true → z12 = .v z7 ∧ z6 = []) ∧ ((!z28) = false → (z15 = true → (Fun Tryz.prog 80 [.agg (cPln d.plan), .agg (cFld d.field)] [] (.v (vB z21)) []) ∧ ((!z21) = true → z12 = .v z7 ∧ z6 = []) ∧ ((!z21) = false → (z26 = true → (Fun Tryz.prog 81 [.agg (cEv d.end_)] [] (.v (vB z20)) []) ∧ z29 ∧ ((!z20) = false → (Fun Tryz.prog 82 [.agg (cEv d.end_)] [] (.v (vB z18)) []) ∧ z30 ∧ ((!z18) = false → (z10 = true → z19 ∧ (z3 = false → (z13 = true → z5 ∧ (z11 = false → (z8 = true → z25 ∧ (Fun Tryz.prog 83 [.agg (cDcd d)] [] (.v z16) []) ∧ z9 ∧ (z17 = false → (Fun Tryz.prog 84 [.agg (cDcd d)] [] (.v (vB z2)) []) ∧ (z2 = true → (Fun Tryz.prog 85 [.agg (cDcd d)] [] (.v z4) []) ∧ z14 = .v z7 ∧ z6 = []) ∧ z1)) ∧ (z8 = false → (Fun Tryz.prog 84 [.agg (cDcd d)] [] (.v (vB z2)) []) ∧ (z2 = true → (Fun Tryz.prog 85 [.agg (cDcd d)] [] (.v z4) []) ∧ z14 = .v z7 ∧ z6 = []) ∧ z1))) ∧ (z13 = false → (z8 = true → z25 ∧ (Fun Tryz.prog 83 [.agg (cDcd d)] [] (.v z16) []) ∧ z9 ∧ (z17 = false → (Fun Tryz.prog 84 [.agg (cDcd d)] [] (.v (vB z2)) []) ∧ (z2 = true → (Fun Tryz.prog 85 [.agg (cDcd d)] [] (.v z4) []) ∧ z14 = .v z7 ∧ z6 = []) ∧ z1)) ∧ (z8 = false → (Fun Tryz.prog 84 [.agg (cDcd d)] [] (.v (vB z2)) []) ∧ (z2 = true → (Fun Tryz.prog 85 [.agg (cDcd d)] [] (.v z4) []) ∧ z14 = .v z7 ∧ z6 = []) ∧ z1)))) ∧ (z10 = false → (z13 = true → z5 ∧ (z11 = false → (z8 = true → z23 ∧ (Fun Tryz.prog 84 [.agg (cDcd d)] [] (.v (vB z2)) []) ∧ (z2 = true → (Fun Tryz.prog 85 [.agg (cDcd d)] [] (.v z4) []) ∧ z14 = .v z7 ∧ z6 = []) ∧ z1) ∧ (z8 = false → (Fun Tryz.prog 84 [.agg (cDcd d)] [] (.v (vB z2)) []) ∧ (z2 = true → (Fun Tryz.prog 85 [.agg (cDcd d)] [] (.v z4) []) ∧ z14 = .v z7 ∧ z6 = []) ∧ z1))) ∧ (z13 = false → (z8 = true → z23 ∧ (Fun Tryz.prog 84 [.agg (cDcd d)] [] (.v (vB z2)) []) ∧ (z2 = true → (Fun Tryz.prog 85 [.agg (cDcd d)] [] (.v z4) []) ∧ z14 = .v z7 ∧ z6 = []) ∧ z1) ∧ (z8 = false → (Fun Tryz.prog 84 [.agg (cDcd d)] [] (.v (vB z2)) []) ∧ (z2 = true → (Fun Tryz.prog 85 [.agg (cDcd d)] [] (.v z4) []) ∧ z14 = .v z7 ∧ z6 = []) ∧ z1)))))) ∧ (z26 = false → (z10 = true → z19 ∧ (z3 = false → (z13 = true → z5 ∧ (z11 = false → (z8 = true → z25 ∧ (Fun Tryz.prog 83 [.agg (cDcd d)] [] (.v z16) []) ∧ z9 ∧ (z17 = false → (Fun Tryz.prog 84 [.agg (cDcd d)] [] (.v (vB z2)) []) ∧ (z2 = true → (Fun Tryz.prog 85 [.agg (cDcd d)] [] (.v z4) []) ∧ z14 = .v z7 ∧ z6 = []) ∧ z1)) ∧ (z8 = false → (Fun Tryz.prog 84 [.agg (cDcd d)] [] (.v (vB z2)) []) ∧ (z2 = true → (Fun Tryz.prog 85 [.agg (cDcd d)] [] (.v z4) []) ∧ z14 = .v z7 ∧ z6 = []) ∧ z1))) ∧ (z13 = false → (z8 = true → z25 ∧ (Fun Tryz.prog 83 [.agg (cDcd d)] [] (.v z16) []) ∧ z9 ∧ (z17 = false → (Fun Tryz.prog 84 [.agg (cDcd d)] [] (.v (vB z2)) []) ∧ (z2 = true → (Fun Tryz.prog 85 [.agg (cDcd d)] [] (.v z4) []) ∧ z14 = .v z7 ∧ z6 = []) ∧ z1)) ∧ (z8 = false → (Fun Tryz.prog 84 [.agg (cDcd d)] [] (.v (vB z2)) []) ∧ (z2 = true → (Fun Tryz.prog 85 [.agg (cDcd d)] [] (.v z4) []) ∧ z14 = .v z7 ∧ z6 = []) ∧ z1)))) ∧ (z10 = false → (z13 = true → z5 ∧ (z11 = false → (z8 = true → z23 ∧ (Fun Tryz.prog 84 [.agg (cDcd d)] [] (.v (vB z2)) []) ∧ (z2 = true → (Fun Tryz.prog 85 [.agg (cDcd d)] [] (.v z4) []) ∧ z14 = .v z7 ∧ z6 = []) ∧ z1) ∧ (z8 = false → (Fun Tryz.prog 84 [.agg (cDcd d)] [] (.v (vB z2)) []) ∧ (z2 = true → (Fun Tryz.prog 85 [.agg (cDcd d)] [] (.v z4) []) ∧ z14 = .v z7 ∧ z6 = []) ∧ z1))) ∧ (z13 = false → (z8 = true → z23 ∧ (Fun Tryz.prog 84 [.agg (cDcd d)] [] (.v (vB z2)) []) ∧ (z2 = true → (Fun Tryz.prog 85 [.agg (cDcd d)] [] (.v z4) []) ∧ z14 = .v z7 ∧ z6 = []) ∧ z1) ∧ (z8 = false → (Fun Tryz.prog 84 [.agg (cDcd d)] [] (.v (vB z2)) []) ∧ (z2 = true → (Fun Tryz.prog 85 [.agg (cDcd d)] [] (.v z4) []) ∧ z14 = .v z7 ∧ z6 = []) ∧ z1)))))) ∧ (z15 = false → (z26 = true → (Fun Tryz.prog 81 [.agg (cEv d.end_)] [] (.v (vB z20)) []) ∧ z29 ∧ ((!z20) = false → (Fun Tryz.prog 82 [.agg (cEv d.end_)] [] (.v (vB z18)) []) ∧ z30 ∧ ((!z18) = false → (z10 = true → z19 ∧ (z3 = false → (z13 = true → z5 ∧ (z11 = false → (z8 = true → z25 ∧ (Fun Tryz.prog 83 [.agg (cDcd d)] [] (.v z16) []) ∧ z9 ∧ (z17 = false → (Fun Tryz.prog 84 [.agg (cDcd d)] [] (.v (vB z2)) []) ∧ (z2 = true → (Fun Tryz.prog 85 [.agg (cDcd d)] [] (.v z4) []) ∧ z14 = .v z7 ∧ z6 = []) ∧ z1)) ∧ (z8 = false → (Fun Tryz.prog 84 [.agg (cDcd d)] [] (.v (vB z2)) []) ∧ (z2 = true → (Fun Tryz.prog 85 [.agg (cDcd d)] [] (.v z4) []) ∧ z14 = .v z7 ∧ z6 = []) ∧ z1))) ∧ (z13 = false → (z8 = true → z25 ∧ (Fun Tryz.prog 83 [.agg (cDcd d)] [] (.v z16) []) ∧ z9 ∧ (z17 = false → (Fun Tryz.prog 84 [.agg (cDcd d)] [] (.v (vB z2)) []) ∧ (z2 = true → (Fun Tryz.prog 85 [.agg (cDcd d)] [] (.v z4) []) ∧ z14 = .v z7 ∧ z6 = []) ∧ z1)) ∧ (z8 = false → (Fun Tryz.prog 84 [.agg (cDcd d)] [] (.v (vB z2)) []) ∧ (z2 = true → (Fun Tryz.prog 85 [.agg (cDcd d)] [] (.v z4) []) ∧ z14 = .v z7 ∧ z6 = []) ∧ z1)))) ∧ (z10 = false → (z13 = true → z5 ∧ (z11 = false → (z8 = true → z23 ∧ (Fun Tryz.prog 84 [.agg (cDcd d)] [] (.v (vB z2)) []) ∧ (z2 = true → (Fun Tryz.prog 85 [.agg (cDcd d)] [] (.v z4) []) ∧ z14 = .v z7 ∧ z6 = []) ∧ z1) ∧ (z8 = false → (Fun Tryz.prog 84 [.agg (cDcd d)] [] (.v (vB z2)) []) ∧ (z2 = true → (Fun Tryz.prog 85 [.agg (cDcd d)] [] (.v z4) []) ∧ z14 = .v z7 ∧ z6 = []) ∧ z1))) ∧ (z13 = false → (z8 = true → z23 ∧ (Fun Tryz.prog 84 [.agg (cDcd d)] [] (.v (vB z2)) []) ∧ (z2 = true → (Fun Tryz.prog 85 [.agg (cDcd d)] [] (.v z4) []) ∧ z14 = .v z7 ∧ z6 = []) ∧ z1) ∧ (z8 = false → (Fun Tryz.prog 84 [.agg (cDcd d)] [] (.v (vB z2)) []) ∧ (z2 = true → (Fun Tryz.prog 85 [.agg (cDcd d)] [] (.v z4) []) ∧ z14 = .v z7 ∧ z6 = []) ∧ z1)))))) ∧ (z26 = false → (z10 = true → z19 ∧ (z3 = false → (z13 = true → z5 ∧ (z11 = false → (z8 = true → z25 ∧ (Fun Tryz.prog 83 [.agg (cDcd d)] [] (.v z16) []) ∧ z9 ∧ (z17 = false → (Fun Tryz.prog 84 [.agg (cDcd d)] [] (.v (vB z2)) []) ∧ (z2 = true → (Fun Tryz.prog 85 [.agg (cDcd d)] [] (.v z4) []) ∧ z14 = .v z7 ∧ z6 = []) ∧ z1)) ∧ (z8 = false → (Fun Tryz.prog 84 [.agg (cDcd d)] [] (.v (vB z2)) []) ∧ (z2 = true → (Fun Tryz.prog 85 [.agg (cDcd d)] [] (.v z4) []) ∧ z14 = .v z7 ∧ z6 = []) ∧ z1))) ∧ (z13 = false → (z8 = true → z25 ∧ (Fun Tryz.prog 83 [.agg (cDcd d)] [] (.v z16) []) ∧ z9 ∧ (z17 = false → (Fun Tryz.prog 84 [.agg (cDcd d)] [] (.v (vB z2)) []) ∧ (z2 = true → (Fun Tryz.prog 85 [.agg (cDcd d)] [] (.v z4) []) ∧ z14 = .v z7 ∧ z6 = []) ∧ z1)) ∧ (z8 = false → (Fun Tryz.prog 84 [.agg (cDcd d)] [] (.v (vB z2)) []) ∧ (z2 = true → (Fun Tryz.prog 85 [.agg (cDcd d)] [] (.v z4) []) ∧ z14 = .v z7 ∧ z6 = []) ∧ z1)))) ∧ (z10 = false → (z13 = true → z5 ∧ (z11 = false → (z8 = true → z23 ∧ (Fun Tryz.prog 84 [.agg (cDcd d)] [] (.v (vB z2)) []) ∧ (z2 = true → (Fun Tryz.prog 85 [.agg (cDcd d)] [] (.v z4) []) ∧ z14 = .v z7 ∧ z6 = []) ∧ z1) ∧ (z8 = false → (Fun Tryz.prog 84 [.agg (cDcd d)] [] (.v (vB z2)) []) ∧ (z2 = true → (Fun Tryz.prog 85 [.agg (cDcd d)] [] (.v z4) []) ∧ z14 = .v z7 ∧ z6 = []) ∧ z1))) ∧ (z13 = false → (z8 = true → z23 ∧ (Fun Tryz.prog 84 [.agg (cDcd d)] [] (.v (vB z2)) []) ∧ (z2 = true → (Fun Tryz.prog 85 [.agg (cDcd d)] [] (.v z4) []) ∧ z14 = .v z7 ∧ z6 = []) ∧ z1) ∧ (z8 = false → (Fun Tryz.prog 84 [.agg (cDcd d)] [] (.v (vB z2)) []) ∧ (z2 = true → (Fun Tryz.prog 85 [.agg (cDcd d)] [] (.v z4) []) ∧ z14 = .v z7 ∧ z6 = []) ∧ z1))))))))))))) (by kernel_rfl) ?_
  refine ⟨(levelsOk_i d (by omega) (by omega)), fun h1 => have q1 := bnot_t h1; ?_, fun h1 => have q1 := bnot_f h1; ?_⟩
  refine ⟨(sB ?_), rfl⟩
  rotate_left
  have hpt := planOk_t (levelsOk_t q1)
  refine ⟨(within_i _ _ _), fun h2 => have q2 := bnot_t h2; have p2 := within_f q2; ?_, fun h2 => have q2 := bnot_f h2; have p2 := within_t q2; ?_⟩
  refine ⟨(sB ?_), rfl⟩
  rotate_left
  refine ⟨(within_i _ _ _), fun h3 => have q3 := bnot_t h3; have p3 := within_f q3; ?_, fun h3 => have q3 := bnot_f h3; have p3 := within_t q3; ?_⟩
  refine ⟨(sB ?_), rfl⟩
  rotate_left
  refine ⟨(within_i _ _ _), fun h4 => have q4 := bnot_t h4; have p4 := within_f q4; ?_, fun h4 => have q4 := bnot_f h4; have p4 := within_t q4; ?_⟩
  refine ⟨(sB ?_), rfl⟩
  rotate_left
  refine ⟨(utfOk_i d.utf), fun h5 => have q5 := bnot_t h5; ?_, fun h5 => have q5 := bnot_f h5; have p5 := utfOk_want q5; ?_⟩
  refine ⟨(sB ?_), rfl⟩
  rotate_left
  refine ⟨(wireOk_i _), fun h6 => have q6 := bnot_t h6; ?_, fun h6 => have q6 := bnot_f h6; ?_⟩
  refine ⟨(sB ?_), rfl⟩
  rotate_left
  have hwk := wireOk_t (w := d.wire) q6
  refine ⟨fun h7 => have q7 := bnot_t h7; have p7 := (andF dT (andF dT (andF dT (andF dT dF)))).1 q7; ?_, fun h7 => have q7 := bnot_f h7; have p7 := (andT dT (andT dT (andT dT (andT dT dT)))).1 q7; ?_⟩
  refine ⟨(known_i d.plan d.field (by omega) (schemaOk_fields hpt.2.1)), fun h8 => have q8 := bnot_t h8; ?_, fun h8 => have q8 := bnot_f h8; ?_⟩
  refine ⟨(sB ?_), rfl⟩
  rotate_left
  refine ⟨fun h9 => have p9 := of_decide_eq_true h9; ?_, fun h9 => have p9 := of_decide_eq_false h9; ?_⟩
  refine ⟨(eventOk_i d.end_), fun h10 => have q10 := bnot_t h10; ?_, fun h10 => have q10 := bnot_f h10; ?_⟩
  refine ⟨(sB ?_), rfl⟩
  rotate_left
  refine ⟨(terminal_i d.end_), fun h11 => have q11 := bnot_t h11; ?_, fun h11 => have q11 := bnot_f h11; ?_⟩
  refine ⟨(sB ?_), rfl⟩
  rotate_left
  refine ⟨fun h12 => have q12 := bnot_t h12; have p12 := of_decide_eq_false q12; ?_, fun h12 => have q12 := bnot_f h12; have p12 := of_decide_eq_true q12; ?_⟩
  refine ⟨fun h13 => have q13 := bnot_t h13; have p13 := (andF dT (andF dT (andF dT (andF dT (andF dT (andF dT dF)))))).1 q13; ?_, fun h13 => have q13 := bnot_f h13; have p13 := (andT dT (andT dT (andT dT (andT dT (andT dT (andT dT dT)))))).1 q13; ?_⟩
  refine ⟨(sB ?_), rfl⟩
  rotate_left
  refine ⟨fun h14 => have p14 := of_decide_eq_true h14; ?_, fun h14 => have p14 := of_decide_eq_false h14; ?_⟩
  refine ⟨fun h15 => have p15 := of_decide_eq_true h15; ?_, fun h15 => have p15 := of_decide_eq_false h15; ?_⟩
  refine ⟨(sB ?_), rfl⟩
  rotate_left
  refine ⟨fun h16 => have q16 := bnot_t h16; have p16 := of_decide_eq_false q16; ?_, fun h16 => have q16 := bnot_f h16; have p16 := of_decide_eq_true q16; ?_⟩
  refine ⟨h12, (topL_i d (by omega)), fun h17 => have p17 := of_decide_eq_true h17; ?_, fun h17 => have p17 := of_decide_eq_false h17; ?_⟩
  refine ⟨(sB ?_), rfl⟩
  rotate_left
  refine ⟨(modeD_i d (by omega)), fun h18 => ?_, fun h18 => ?_⟩
  refine ⟨(scanD_i d (by omega)), (sB ?_), rfl⟩
  rotate_left
  refine ⟨(sB ?_), rfl⟩
  rotate_left
  refine ⟨(modeD_i d (by omega)), fun h17 => ?_, fun h17 => ?_⟩
  refine ⟨(scanD_i d (by omega)), (sB ?_), rfl⟩
  rotate_left
  refine ⟨(sB ?_), rfl⟩
  rotate_left
  refine ⟨fun h15 => have q15 := bnot_t h15; have p15 := of_decide_eq_false q15; ?_, fun h15 => have q15 := bnot_f h15; have p15 := of_decide_eq_true q15; ?_⟩
  refine ⟨h12, (topL_i d (by omega)), fun h16 => have p16 := of_decide_eq_true h16; ?_, fun h16 => have p16 := of_decide_eq_false h16; ?_⟩
  refine ⟨(sB ?_), rfl⟩
  rotate_left
  refine ⟨(modeD_i d (by omega)), fun h17 => ?_, fun h17 => ?_⟩
  refine ⟨(scanD_i d (by omega)), (sB ?_), rfl⟩
  rotate_left
  refine ⟨(sB ?_), rfl⟩
  rotate_left
  refine ⟨(modeD_i d (by omega)), fun h16 => ?_, fun h16 => ?_⟩
  refine ⟨(scanD_i d (by omega)), (sB ?_), rfl⟩
  rotate_left
  refine ⟨(sB ?_), rfl⟩
  rotate_left
  refine ⟨fun h13 => have p13 := of_decide_eq_true h13; ?_, fun h13 => have p13 := of_decide_eq_false h13; ?_⟩
  refine ⟨fun h14 => have p14 := of_decide_eq_true h14; ?_, fun h14 => have p14 := of_decide_eq_false h14; ?_⟩
  refine ⟨(sB ?_), rfl⟩
  rotate_left
  refine ⟨fun h15 => have q15 := bnot_t h15; have p15 := of_decide_eq_false q15; ?_, fun h15 => have q15 := bnot_f h15; have p15 := of_decide_eq_true q15; ?_⟩
  refine ⟨h12, (modeD_i d (by omega)), fun h16 => ?_, fun h16 => ?_⟩
  refine ⟨(scanD_i d (by omega)), (sB ?_), rfl⟩
  rotate_left
  refine ⟨(sB ?_), rfl⟩
  rotate_left
  refine ⟨(modeD_i d (by omega)), fun h16 => ?_, fun h16 => ?_⟩
  refine ⟨(scanD_i d (by omega)), (sB ?_), rfl⟩
  rotate_left
  refine ⟨(sB ?_), rfl⟩
  rotate_left
  refine ⟨fun h14 => have q14 := bnot_t h14; have p14 := of_decide_eq_false q14; ?_, fun h14 => have q14 := bnot_f h14; have p14 := of_decide_eq_true q14; ?_⟩
  refine ⟨h12, (modeD_i d (by omega)), fun h15 => ?_, fun h15 => ?_⟩
  refine ⟨(scanD_i d (by omega)), (sB ?_), rfl⟩
  rotate_left
  refine ⟨(sB ?_), rfl⟩
  rotate_left
  refine ⟨(modeD_i d (by omega)), fun h15 => ?_, fun h15 => ?_⟩
  refine ⟨(scanD_i d (by omega)), (sB ?_), rfl⟩
  rotate_left
  refine ⟨(sB ?_), rfl⟩
  rotate_left
  refine ⟨fun h10 => have q10 := bnot_t h10; have p10 := of_decide_eq_false q10; ?_, fun h10 => have q10 := bnot_f h10; have p10 := of_decide_eq_true q10; ?_⟩
  refine ⟨fun h11 => have q11 := bnot_t h11; have p11 := (andF dT (andF dT (andF dT (andF dT (andF dT (andF dT dF)))))).1 q11; ?_, fun h11 => have q11 := bnot_f h11; have p11 := (andT dT (andT dT (andT dT (andT dT (andT dT (andT dT dT)))))).1 q11; ?_⟩
  refine ⟨(sB ?_), rfl⟩
  rotate_left
  refine ⟨fun h12 => have p12 := of_decide_eq_true h12; ?_, fun h12 => have p12 := of_decide_eq_false h12; ?_⟩
  refine ⟨fun h13 => have p13 := of_decide_eq_true h13; ?_, fun h13 => have p13 := of_decide_eq_false h13; ?_⟩
  refine ⟨(sB ?_), rfl⟩
  rotate_left
  refine ⟨fun h14 => have q14 := bnot_t h14; have p14 := of_decide_eq_false q14; ?_, fun h14 => have q14 := bnot_f h14; have p14 := of_decide_eq_true q14; ?_⟩
  refine ⟨h10, (topL_i d (by omega)), fun h15 => have p15 := of_decide_eq_true h15; ?_, fun h15 => have p15 := of_decide_eq_false h15; ?_⟩
  refine ⟨(sB ?_), rfl⟩
  rotate_left
  refine ⟨(modeD_i d (by omega)), fun h16 => ?_, fun h16 => ?_⟩
  refine ⟨(scanD_i d (by omega)), (sB ?_), rfl⟩
  rotate_left
  refine ⟨(sB ?_), rfl⟩
  rotate_left
  refine ⟨(modeD_i d (by omega)), fun h15 => ?_, fun h15 => ?_⟩
  refine ⟨(scanD_i d (by omega)), (sB ?_), rfl⟩
  rotate_left
  refine ⟨(sB ?_), rfl⟩
  rotate_left
  refine ⟨fun h13 => have q13 := bnot_t h13; have p13 := of_decide_eq_false q13; ?_, fun h13 => have q13 := bnot_f h13; have p13 := of_decide_eq_true q13; ?_⟩
  refine ⟨h10, (topL_i d (by omega)), fun h14 => have p14 := of_decide_eq_true h14; ?_, fun h14 => have p14 := of_decide_eq_false h14; ?_⟩
  refine ⟨(sB ?_), rfl⟩
  rotate_left
  refine ⟨(modeD_i d (by omega)), fun h15 => ?_, fun h15 => ?_⟩
  refine ⟨(scanD_i d (by omega)), (sB ?_), rfl⟩
  rotate_left
  refine ⟨(sB ?_), rfl⟩
  rotate_left
  refine ⟨(modeD_i d (by omega)), fun h14 => ?_, fun h14 => ?_⟩
  refine ⟨(scanD_i d (by omega)), (sB ?_), rfl⟩
  rotate_left
  refine ⟨(sB ?_), rfl⟩
  rotate_left
  refine ⟨fun h11 => have p11 := of_decide_eq_true h11; ?_, fun h11 => have p11 := of_decide_eq_false h11; ?_⟩
  refine ⟨fun h12 => have p12 := of_decide_eq_true h12; ?_, fun h12 => have p12 := of_decide_eq_false h12; ?_⟩
  refine ⟨(sB ?_), rfl⟩
  rotate_left
  refine ⟨fun h13 => have q13 := bnot_t h13; have p13 := of_decide_eq_false q13; ?_, fun h13 => have q13 := bnot_f h13; have p13 := of_decide_eq_true q13; ?_⟩
  refine ⟨h10, (modeD_i d (by omega)), fun h14 => ?_, fun h14 => ?_⟩
  refine ⟨(scanD_i d (by omega)), (sB ?_), rfl⟩
  rotate_left
  refine ⟨(sB ?_), rfl⟩
  rotate_left
  refine ⟨(modeD_i d (by omega)), fun h14 => ?_, fun h14 => ?_⟩
  refine ⟨(scanD_i d (by omega)), (sB ?_), rfl⟩
  rotate_left
  refine ⟨(sB ?_), rfl⟩
  rotate_left
  refine ⟨fun h12 => have q12 := bnot_t h12; have p12 := of_decide_eq_false q12; ?_, fun h12 => have q12 := bnot_f h12; have p12 := of_decide_eq_true q12; ?_⟩
  refine ⟨h10, (modeD_i d (by omega)), fun h13 => ?_, fun h13 => ?_⟩
  refine ⟨(scanD_i d (by omega)), (sB ?_), rfl⟩
  rotate_left
  refine ⟨(sB ?_), rfl⟩
  rotate_left
  refine ⟨(modeD_i d (by omega)), fun h13 => ?_, fun h13 => ?_⟩
  refine ⟨(scanD_i d (by omega)), (sB ?_), rfl⟩
  rotate_left
  refine ⟨(sB ?_), rfl⟩
  rotate_left
  refine ⟨fun h8 => have p8 := of_decide_eq_true h8; ?_, fun h8 => have p8 := of_decide_eq_false h8; ?_⟩
  refine ⟨(eventOk_i d.end_), fun h9 => have q9 := bnot_t h9; ?_, fun h9 => have q9 := bnot_f h9; ?_⟩
  refine ⟨(sB ?_), rfl⟩
  rotate_left
  refine ⟨(terminal_i d.end_), fun h10 => have q10 := bnot_t h10; ?_, fun h10 => have q10 := bnot_f h10; ?_⟩
  refine ⟨(sB ?_), rfl⟩
  rotate_left
  refine ⟨fun h11 => have q11 := bnot_t h11; have p11 := of_decide_eq_false q11; ?_, fun h11 => have q11 := bnot_f h11; have p11 := of_decide_eq_true q11; ?_⟩
  refine ⟨fun h12 => have q12 := bnot_t h12; have p12 := (andF dT (andF dT (andF dT (andF dT (andF dT (andF dT dF)))))).1 q12; ?_, fun h12 => have q12 := bnot_f h12; have p12 := (andT dT (andT dT (andT dT (andT dT (andT dT (andT dT dT)))))).1 q12; ?_⟩
  refine ⟨(sB ?_), rfl⟩
  rotate_left
  refine ⟨fun h13 => have p13 := of_decide_eq_true h13; ?_, fun h13 => have p13 := of_decide_eq_false h13; ?_⟩
  refine ⟨fun h14 => have p14 := of_decide_eq_true h14; ?_, fun h14 => have p14 := of_decide_eq_false h14; ?_⟩
  refine ⟨(sB ?_), rfl⟩
  rotate_left
  refine ⟨fun h15 => have q15 := bnot_t h15; have p15 := of_decide_eq_false q15; ?_, fun h15 => have q15 := bnot_f h15; have p15 := of_decide_eq_true q15; ?_⟩
  refine ⟨h11, (topL_i d (by omega)), fun h16 => have p16 := of_decide_eq_true h16; ?_, fun h16 => have p16 := of_decide_eq_false h16; ?_⟩
  refine ⟨(sB ?_), rfl⟩
  rotate_left
  refine ⟨(modeD_i d (by omega)), fun h17 => ?_, fun h17 => ?_⟩
  refine ⟨(scanD_i d (by omega)), (sB ?_), rfl⟩
  rotate_left
  refine ⟨(sB ?_), rfl⟩
  rotate_left
  refine ⟨(modeD_i d (by omega)), fun h16 => ?_, fun h16 => ?_⟩
  refine ⟨(scanD_i d (by omega)), (sB ?_), rfl⟩
  rotate_left
  refine ⟨(sB ?_), rfl⟩
  rotate_left
  refine ⟨fun h14 => have q14 := bnot_t h14; have p14 := of_decide_eq_false q14; ?_, fun h14 => have q14 := bnot_f h14; have p14 := of_decide_eq_true q14; ?_⟩
  refine ⟨h11, (topL_i d (by omega)), fun h15 => have p15 := of_decide_eq_true h15; ?_, fun h15 => have p15 := of_decide_eq_false h15; ?_⟩
  refine ⟨(sB ?_), rfl⟩
  rotate_left
  refine ⟨(modeD_i d (by omega)), fun h16 => ?_, fun h16 => ?_⟩
  refine ⟨(scanD_i d (by omega)), (sB ?_), rfl⟩
  rotate_left
  refine ⟨(sB ?_), rfl⟩
  rotate_left
  refine ⟨(modeD_i d (by omega)), fun h15 => ?_, fun h15 => ?_⟩
  refine ⟨(scanD_i d (by omega)), (sB ?_), rfl⟩
  rotate_left
  refine ⟨(sB ?_), rfl⟩
  rotate_left
  refine ⟨fun h12 => have p12 := of_decide_eq_true h12; ?_, fun h12 => have p12 := of_decide_eq_false h12; ?_⟩
  refine ⟨fun h13 => have p13 := of_decide_eq_true h13; ?_, fun h13 => have p13 := of_decide_eq_false h13; ?_⟩
  refine ⟨(sB ?_), rfl⟩
  rotate_left
  refine ⟨fun h14 => have q14 := bnot_t h14; have p14 := of_decide_eq_false q14; ?_, fun h14 => have q14 := bnot_f h14; have p14 := of_decide_eq_true q14; ?_⟩
  refine ⟨h11, (modeD_i d (by omega)), fun h15 => ?_, fun h15 => ?_⟩
  refine ⟨(scanD_i d (by omega)), (sB ?_), rfl⟩
  rotate_left
  refine ⟨(sB ?_), rfl⟩
  rotate_left
  refine ⟨(modeD_i d (by omega)), fun h15 => ?_, fun h15 => ?_⟩
  refine ⟨(scanD_i d (by omega)), (sB ?_), rfl⟩
  rotate_left
  refine ⟨(sB ?_), rfl⟩
  rotate_left
  refine ⟨fun h13 => have q13 := bnot_t h13; have p13 := of_decide_eq_false q13; ?_, fun h13 => have q13 := bnot_f h13; have p13 := of_decide_eq_true q13; ?_⟩
  refine ⟨h11, (modeD_i d (by omega)), fun h14 => ?_, fun h14 => ?_⟩
  refine ⟨(scanD_i d (by omega)), (sB ?_), rfl⟩
  rotate_left
  refine ⟨(sB ?_), rfl⟩
  rotate_left
  refine ⟨(modeD_i d (by omega)), fun h14 => ?_, fun h14 => ?_⟩
  refine ⟨(scanD_i d (by omega)), (sB ?_), rfl⟩
  rotate_left
  refine ⟨(sB ?_), rfl⟩
  rotate_left
  refine ⟨fun h9 => have q9 := bnot_t h9; have p9 := of_decide_eq_false q9; ?_, fun h9 => have q9 := bnot_f h9; have p9 := of_decide_eq_true q9; ?_⟩
  refine ⟨fun h10 => have q10 := bnot_t h10; have p10 := (andF dT (andF dT (andF dT (andF dT (andF dT (andF dT dF)))))).1 q10; ?_, fun h10 => have q10 := bnot_f h10; have p10 := (andT dT (andT dT (andT dT (andT dT (andT dT (andT dT dT)))))).1 q10; ?_⟩
  refine ⟨(sB ?_), rfl⟩
  rotate_left
  refine ⟨fun h11 => have p11 := of_decide_eq_true h11; ?_, fun h11 => have p11 := of_decide_eq_false h11; ?_⟩
  refine ⟨fun h12 => have p12 := of_decide_eq_true h12; ?_, fun h12 => have p12 := of_decide_eq_false h12; ?_⟩
  refine ⟨(sB ?_), rfl⟩
  rotate_left
  refine ⟨fun h13 => have q13 := bnot_t h13; have p13 := of_decide_eq_false q13; ?_, fun h13 => have q13 := bnot_f h13; have p13 := of_decide_eq_true q13; ?_⟩
  refine ⟨h9, (topL_i d (by omega)), fun h14 => have p14 := of_decide_eq_true h14; ?_, fun h14 => have p14 := of_decide_eq_false h14; ?_⟩
  refine ⟨(sB ?_), rfl⟩
  rotate_left
  refine ⟨(modeD_i d (by omega)), fun h15 => ?_, fun h15 => ?_⟩
  refine ⟨(scanD_i d (by omega)), (sB ?_), rfl⟩
  rotate_left
  refine ⟨(sB ?_), rfl⟩
  rotate_left
  refine ⟨(modeD_i d (by omega)), fun h14 => ?_, fun h14 => ?_⟩
  refine ⟨(scanD_i d (by omega)), (sB ?_), rfl⟩
  rotate_left
  refine ⟨(sB ?_), rfl⟩
  rotate_left
  refine ⟨fun h12 => have q12 := bnot_t h12; have p12 := of_decide_eq_false q12; ?_, fun h12 => have q12 := bnot_f h12; have p12 := of_decide_eq_true q12; ?_⟩
  refine ⟨h9, (topL_i d (by omega)), fun h13 => have p13 := of_decide_eq_true h13; ?_, fun h13 => have p13 := of_decide_eq_false h13; ?_⟩
  refine ⟨(sB ?_), rfl⟩
  rotate_left
  refine ⟨(modeD_i d (by omega)), fun h14 => ?_, fun h14 => ?_⟩
  refine ⟨(scanD_i d (by omega)), (sB ?_), rfl⟩
  rotate_left
  refine ⟨(sB ?_), rfl⟩
  rotate_left
  refine ⟨(modeD_i d (by omega)), fun h13 => ?_, fun h13 => ?_⟩
  refine ⟨(scanD_i d (by omega)), (sB ?_), rfl⟩
  rotate_left
  refine ⟨(sB ?_), rfl⟩
  rotate_left
  refine ⟨fun h10 => have p10 := of_decide_eq_true h10; ?_, fun h10 => have p10 := of_decide_eq_false h10; ?_⟩
  refine ⟨fun h11 => have p11 := of_decide_eq_true h11; ?_, fun h11 => have p11 := of_decide_eq_false h11; ?_⟩
  refine ⟨(sB ?_), rfl⟩
  rotate_left
  refine ⟨fun h12 => have q12 := bnot_t h12; have p12 := of_decide_eq_false q12; ?_, fun h12 => have q12 := bnot_f h12; have p12 := of_decide_eq_true q12; ?_⟩
  refine ⟨h9, (modeD_i d (by omega)), fun h13 => ?_, fun h13 => ?_⟩
  refine ⟨(scanD_i d (by omega)), (sB ?_), rfl⟩
  rotate_left
  refine ⟨(sB ?_), rfl⟩
  rotate_left
  refine ⟨(modeD_i d (by omega)), fun h13 => ?_, fun h13 => ?_⟩
  refine ⟨(scanD_i d (by omega)), (sB ?_), rfl⟩
  rotate_left
  refine ⟨(sB ?_), rfl⟩
  rotate_left
  refine ⟨fun h11 => have q11 := bnot_t h11; have p11 := of_decide_eq_false q11; ?_, fun h11 => have q11 := bnot_f h11; have p11 := of_decide_eq_true q11; ?_⟩
  refine ⟨h9, (modeD_i d (by omega)), fun h12 => ?_, fun h12 => ?_⟩
  refine ⟨(scanD_i d (by omega)), (sB ?_), rfl⟩
  rotate_left
  refine ⟨(sB ?_), rfl⟩
  rotate_left
  refine ⟨(modeD_i d (by omega)), fun h12 => ?_, fun h12 => ?_⟩
  refine ⟨(scanD_i d (by omega)), (sB ?_), rfl⟩
  rotate_left
  refine ⟨(sB ?_), rfl⟩
  rotate_left
  all_goals first | (simp_all [decOk, endD, stackD, fld_zeroI, ev_zero]; done) | (grind [decOk, endD, stackD, fld_zeroI, ev_zero])
structure decOk_s_J1000003_V where
  v : Bool
def decOk_s_J1000003_F (d : Dcd) : Fam := ⟨decOk_s_J1000003_V, fun j1000003 => [(1, .v (vP 0)), (76, .v (vB j1000003.v))], fun _ => [.cells (cDcd d)], fun j1000003 => j1000003.v = !endD d, fun _ => 0⟩

structure decOk_s_J0_V where
  u_ : Nat
def decOk_s_J0_F (d : Dcd) : Fam := ⟨decOk_s_J0_V, fun j0 => [(1, .v (vP 0))], fun _ => [.cells (cDcd d)], fun _ => wantD d = true, fun _ => 0⟩

structure decOk_s_J1000013_V where
  wires : Bool
def decOk_s_J1000013_F (d : Dcd) : Fam := ⟨decOk_s_J1000013_V, fun j1000013 => [(1, .v (vP 0)), (3, .v (vB j1000013.wires))], fun _ => [.cells (cDcd d)], fun j1000013 => j1000013.wires = wiresS d, fun _ => 0⟩

structure decOk_s_J1000014_V where
  v : Bool
def decOk_s_J1000014_F (d : Dcd) (j1000013 : decOk_s_J1000013_V) : Fam := ⟨decOk_s_J1000014_V, fun j1000014 => [(1, .v (vP 0)), (140, .v (vB j1000014.v))], fun _ => [.cells (cDcd d)], fun j1000014 => j1000014.v = (j1000013.wires || (within d.mode 3 5 && (!decide (d.field = fld0) && !allowed d.field d.wire))), fun _ => 0⟩

theorem decOk_s (d : Dcd) (hp1 : List.length (d).stack ≤ bigN) (hp2 : List.length (d).plan.shapes ≤ bigN) : Fun Tryz.prog 30 [.agg (cDcd d)] [] (.v (vB (decOk d))) [] := by
  have hN : bigN = 274877906944 := rfl
  refine fun_ofw Tryz.func30 (by kernel_rfl) (by kernel_rfl) (w := let z4 := ([] : List Blk); let z5 := (.v (vB false) : S); let z6 := vB (decOk d); let z7 : List Blk := [.cells (cDcd d)]; let z8 := within d.want 1 (topL d); let z9 := vB (scanS d); let z10 := decide ((d).field = fld0) || known (d).plan.shapes (d).field; let z11 := decOk_s_J1000013_F d; let z12 := runs d.field; let z13 := !(decide (d.field.number = 0) && (decide (d.field.kind = 0) && (decide (d.field.rep = false) && (decide (d.field.packed = false) && decide (d.field.msg = 0))))); let z14 := !decide (d.mode = 8); let z15 := vI (widthOf d.wire); let z16 := decOk_s_J1000003_F d; let z3 := (!decide (d.mode = 9)) = true → z16.Has [(1, .v (vP 0)), (76, .v (vB (!(decide (d.end_.kind = 0) && (decide (d.end_.field = 0) && (decide (d.end_.bits = 0) && (decide (d.end_.len = 0) && (decide (d.end_.text = []) && (decide (d.end_.code = 0) && decide (d.end_.at_ = 0))))))))))] z7; let z18 := z12 = false → z5 = .v z6 ∧ z4 = []; let z19 := vB (decide (widthOf d.wire = 0)); let z20 := (!decide (d.mode = 9)) = false → z16.Has [(1, .v (vP 0)), (76, .v (vB false))] z7; let z22 := within d.at_ 0 1000000000; let z23 := decide (d.mode = 5); let z2 := z23 = false → z11.Has [(1, .v (vP 0)), (3, .v (vB false))] z7; let z24 := (!z8) = true → z5 = .v z6 ∧ z4 = []; let z25 := within d.start 0 d.at_; let z26 := !decide (d.mode = 6); let z27 := (.v z9 : S); let z28 := decide (d.mode = 4); let z29 := vI (topL d); let z30 := within d.mode 1 9; let z31 := within d.mode 3 5; let z32 : List V := [vI d.want, vI 1, vI (topL d)]; let z33 := cFld d.field; let z34 := terminal d.end_; let z35 := allowed d.field d.wire; let z36 := eventOk d.end_; let z37 := decOk_s_J0_F d; let z17 := (!z8) = false → z37.Has [(1, .v (vP 0))] z7; let z38 := !decide (d.wire = 2); let z21 := z38 = true → z11.Has [(1, .v (vP 0)), (3, .v (vB true))] z7; let z39 := planOk d.plan; let z40 := wireOk d.wire; let z41 := decide (d.mode = 6); let z42 := decide (d.mode = 7); let z43 := utfOk d.utf; (.seg [.call [] (.v (vB z39)) []] (.br (.leaf () []) (.seg [.call [] (.v (vB z30)) []] (.br (.leaf () []) (.seg [.call [] (.v (vB z22)) []] (.br (.leaf () []) (.seg [.call [] (.v (vB z25)) []] (.br (.leaf () []) (.seg [.call [] (.v (vB z43)) []] (.br (.leaf () []) (.seg [.call [] (.v (vB z40)) []] (.br (.leaf () []) (.seg [.call [] (.v (vB z10)) []] (.br (.leaf () []) (.seg [.call [] (.v (vB (stackS d))) []] (.br (.leaf () []) (.join 1000003 z16 (.br (.seg [.call [] (.v (vB z36)) []] (.br (.seg [.at 0, .keep [1, 76], .sel [0]] (.next)) (.seg [.call [] (.v (vB z34)) []] (.br (.seg [.at 0, .keep [1, 76], .sel [0]] (.next)) (.br (.seg [.at 0, .keep [1, 76], .sel [0]] (.next)) (.seg [.at 0, .keep [1, 76], .sel [0]] (.next))))))) (.br (.seg [.at 0, .keep [1, 76], .sel [0]] (.next)) (.seg [.at 0, .keep [1, 76], .sel [0]] (.next)))) fun j1000003 => .br (.leaf () []) (.join 0 z37 (.br (.seg [.br true, .ord (os 6 [3, 4]) [], .call [] (.v z29) [], .call [] (.v (vB z8)) []] (.br (.leaf () []) (.seg [.at 0, .keep [1], .sel [0]] (.next)))) (.br (.seg [.br true, .ord (os 6 [3, 4]) [], .call [] (.v z29) [], .call [] (.v (vB z8)) []] (.br (.leaf () []) (.seg [.at 0, .keep [1], .sel [0]] (.next)))) (.br (.seg [.ord (os 6 [3, 4]) [], .call [] (.v z29) [], .call [] (.v (vB z8)) []] (.br (.leaf () []) (.seg [.at 0, .keep [1], .sel [0]] (.next)))) (.br (.leaf () []) (.seg [.at 0, .keep [1], .sel [0]] (.next)))))) fun j0 => .join 1000013 z11 (.br (.br (.seg [.at 0, .keep [1, 3], .sel [0]] (.next)) (.br (.br (.seg [.at 0, .keep [1, 3], .sel [0]] (.next)) (.br (.seg [.call [] (.v z15) [], .at 0, .keep [1, 3], .sel [0]] (.next)) (.seg [.at 0, .keep [1, 3], .sel [0]] (.next)))) (.br (.seg [.call [] (.v z15) [], .at 0, .keep [1, 3], .sel [0]] (.next)) (.seg [.at 0, .keep [1, 3], .sel [0]] (.next))))) (.br (.br (.seg [.at 0, .keep [1, 3], .sel [0]] (.next)) (.br (.seg [.call [] (.v z15) [], .at 0, .keep [1, 3], .sel [0]] (.next)) (.seg [.at 0, .keep [1, 3], .sel [0]] (.next)))) (.br (.seg [.call [] (.v z15) [], .at 0, .keep [1, 3], .sel [0]] (.next)) (.seg [.at 0, .keep [1, 3], .sel [0]] (.next))))) fun j1000013 => .join 1000014 (decOk_s_J1000014_F d j1000013) (.br (.seg [.at 0, .keep [1, 140], .sel [0]] (.next)) (.seg [.call [] (.v (vB z31)) []] (.br (.br (.seg [.call [] (.v (vB z35)) [], .at 0, .keep [1, 140], .sel [0]] (.next)) (.seg [.at 0, .keep [1, 140], .sel [0]] (.next))) (.seg [.at 0, .keep [1, 140], .sel [0]] (.next))))) fun j1000014 => .br (.leaf () []) (.br (.br (.br (.seg [.call [] (.v z9) []] (.leaf () [])) (.seg [.call [] (.v (vB z12)) []] (.br (.seg [.call [] (.v z9) []] (.leaf () [])) (.leaf () [])))) (.br (.seg [.call [] (.v z9) []] (.leaf () [])) (.seg [.call [] (.v (vB z12)) []] (.br (.seg [.call [] (.v z9) []] (.leaf () [])) (.leaf () []))))) (.br (.br (.seg [.call [] (.v z9) []] (.leaf () [])) (.seg [.call [] (.v (vB z12)) []] (.br (.seg [.call [] (.v z9) []] (.leaf () [])) (.leaf () [])))) (.br (.br (.seg [.call [] (.v z9) []] (.leaf () [])) (.seg [.call [] (.v (vB z12)) []] (.br (.seg [.call [] (.v z9) []] (.leaf () [])) (.leaf () [])))) (.leaf () []))))))))))))))))))))), (Fun Tryz.prog 59 [.agg (cPln d.plan)] [] (.v (vB z39)) []) ∧ ((!z39) = true → z5 = .v z6 ∧ z4 = []) ∧ ((!z39) = false → (Fun Tryz.prog 58 [vI d.mode, vI 1, vI 9] [] (.v (vB z30)) []) ∧ ((!z30) = true → z5 = .v z6 ∧ z4 = []) ∧ ((!z30) = false → (Fun Tryz.prog 58 [vI d.at_, vI 0, vI 1000000000] [] (.v (vB z22)) []) ∧ ((!z22) = true → z5 = .v z6 ∧ z4 = []) ∧ ((!z22) = false → (Fun Tryz.prog 58 [vI d.start, vI 0, vI d.at_] [] (.v (vB z25)) []) ∧ ((!z25) = true → z5 = .v z6 ∧ z4 = []) ∧ ((!z25) = false → (Fun Tryz.prog 60 [.agg (cUtf d.utf)] [] (.v (vB z43)) []) ∧ ((!z43) = true → z5 = .v z6 ∧ z4 = []) ∧ ((!z43) = false → (Fun Tryz.prog 61 [vI d.wire] [] (.v (vB z40)) []) ∧ ((!z40) = true → z5 = .v z6 ∧ z4 = []) ∧ ((!z40) = false → (Fun Tryz.prog 62 [.agg (cDcd d)] [] (.v (vB z10)) []) ∧ ((!z10) = true → z5 = .v z6 ∧ z4 = []) ∧ ((!z10) = false → (Fun Tryz.prog 63 [.agg (cDcd d)] [] (.v (vB (stackS d))) []) ∧ ((!(stackS d)) = true → z5 = .v z6 ∧ z4 = []) ∧ ((!(stackS d)) = false → (((decide (d.mode = 9)) = true → (Fun Tryz.prog 64 [.agg (cEv d.end_)] [] (.v (vB z36)) []) ∧ ((!z36) = true → z16.Has [(1, .v (vP 0)), (76, .v (vB true))] z7) ∧ ((!z36) = false → (Fun Tryz.prog 65 [.agg (cEv d.end_)] [] (.v (vB z34)) []) ∧ ((!z34) = true → z16.Has [(1, .v (vP 0)), (76, .v (vB true))] z7) ∧ ((!z34) = false → z3 ∧ z20))) ∧ ((decide (d.mode = 9)) = false → z3 ∧ z20)) ∧ ∀ j1000003, z16.inv j1000003 → ((j1000003.v = true → z5 = .v z6 ∧ z4 = []) ∧ (j1000003.v = false → ((z41 = true → (z41 = true) ∧ (Fun Tryz.prog 66 [.agg (cDcd d)] [] (.v z29) []) ∧ (Fun Tryz.prog 58 z32 [] (.v (vB z8)) []) ∧ z24 ∧ z17) ∧ (z41 = false → (z42 = true → (z42 = true) ∧ (Fun Tryz.prog 66 [.agg (cDcd d)] [] (.v z29) []) ∧ (Fun Tryz.prog 58 z32 [] (.v (vB z8)) []) ∧ z24 ∧ z17) ∧ (z42 = false → ((decide (d.mode = 8)) = true → (Fun Tryz.prog 66 [.agg (cDcd d)] [] (.v z29) []) ∧ (Fun Tryz.prog 58 z32 [] (.v (vB z8)) []) ∧ z24 ∧ z17) ∧ ((decide (d.mode = 8)) = false → ((!decide (d.want = 0)) = true → z5 = .v z6 ∧ z4 = []) ∧ ((!decide (d.want = 0)) = false → z37.Has [(1, .v (vP 0))] z7))))) ∧ ∀ j0, z37.inv j0 → ((((decide (d.mode = 3)) = true → ((!decide (d.wire = 0)) = true → z11.Has [(1, .v (vP 0)), (3, .v (vB true))] z7) ∧ ((!decide (d.wire = 0)) = false → (z28 = true → z21 ∧ (z38 = false → (z23 = true → (Fun Tryz.prog 67 [vI d.wire] [] (.v z15) []) ∧ z11.Has [(1, .v (vP 0)), (3, .v z19)] z7) ∧ z2)) ∧ (z28 = false → (z23 = true → (Fun Tryz.prog 67 [vI d.wire] [] (.v z15) []) ∧ z11.Has [(1, .v (vP 0)), (3, .v z19)] z7) ∧ z2))) ∧ ((decide (d.mode = 3)) = false → (z28 = true → z21 ∧ (z38 = false → (z23 = true → (Fun Tryz.prog 67 [vI d.wire] [] (.v z15) []) ∧ z11.Has [(1, .v (vP 0)), (3, .v z19)] z7) ∧ z2)) ∧ (z28 = false → (z23 = true → (Fun Tryz.prog 67 [vI d.wire] [] (.v z15) []) ∧ z11.Has [(1, .v (vP 0)), (3, .v z19)] z7) ∧ z2))) ∧ ∀ j1000013, z11.inv j1000013 → (let z1 := decOk_s_J1000014_F d j1000013; ((j1000013.wires = true → z1.Has [(1, .v (vP 0)), (140, .v (vB true))] z7) ∧ (j1000013.wires = false → (Fun Tryz.prog 58 [vI d.mode, vI 3, vI 5] [] (.v (vB z31)) []) ∧ (z31 = true → (z13 = true → (Fun Tryz.prog 68 [.agg z33, vI d.wire] [] (.v (vB z35)) []) ∧ z1.Has [(1, .v (vP 0)), (140, .v (vB (!z35)))] z7) ∧ (z13 = false → z1.Has [(1, .v (vP 0)), (140, .v (vB false))] z7)) ∧ (z31 = false → z1.Has [(1, .v (vP 0)), (140, .v (vB false))] z7))) ∧ ∀ j1000014, z1.inv j1000014 → ((j1000014.v = true → z5 = .v z6 ∧ z4 = []) ∧ (j1000014.v = false → ((decide (d.field.kind = 6)) = true → (z26 = true → (z14 = true → (Fun Tryz.prog 70 [.agg (cDcd d)] [] (.v z9) []) ∧ z27 = .v z6 ∧ z4 = []) ∧ (z14 = false → (Fun Tryz.prog 69 [.agg z33] [] (.v (vB z12)) []) ∧ (z12 = true → (Fun Tryz.prog 70 [.agg (cDcd d)] [] (.v z9) []) ∧ z27 = .v z6 ∧ z4 = []) ∧ z18)) ∧ (z26 = false → (z14 = true → (Fun Tryz.prog 70 [.agg (cDcd d)] [] (.v z9) []) ∧ z27 = .v z6 ∧ z4 = []) ∧ (z14 = false → (Fun Tryz.prog 69 [.agg z33] [] (.v (vB z12)) []) ∧ (z12 = true → (Fun Tryz.prog 70 [.agg (cDcd d)] [] (.v z9) []) ∧ z27 = .v z6 ∧ z4 = []) ∧ z18))) ∧ ((decide (d.field.kind = 6)) = false → (z26 = true → (z14 = true → (Fun Tryz.prog 70 [.agg (cDcd d)] [] (.v z9) []) ∧ z27 = .v z6 ∧ z4 = []) ∧ (z14 = false → (Fun Tryz.prog 69 [.agg z33] [] (.v (vB z12)) []) ∧ (z12 = true → (Fun Tryz.prog 70 [.agg (cDcd d)] [] (.v z9) []) ∧ z27 = .v z6 ∧ z4 = []) ∧ z18)) ∧ (z26 = false → ((decide (d.field.kind = 7)) = true → (z14 = true → (Fun Tryz.prog 70 [.agg (cDcd d)] [] (.v z9) []) ∧ z27 = .v z6 ∧ z4 = []) ∧ (z14 = false → (Fun Tryz.prog 69 [.agg z33] [] (.v (vB z12)) []) ∧ (z12 = true → (Fun Tryz.prog 70 [.agg (cDcd d)] [] (.v z9) []) ∧ z27 = .v z6 ∧ z4 = []) ∧ z18)) ∧ ((decide (d.field.kind = 7)) = false → z5 = .v z6 ∧ z4 = []))))))))))))))))))) (by kernel_rfl) ?_
  refine ⟨(planOk_s d.plan), fun h1 => have q1 := bnot_t h1; ?_, fun h1 => have q1 := bnot_f h1; have p1 := planOk_t q1; ?_⟩
  refine ⟨(sB ?_), rfl⟩
  rotate_left
  have hpt := planOk_t q1
  refine ⟨(within_s _ _ _), fun h2 => have q2 := bnot_t h2; have p2 := within_f q2; ?_, fun h2 => have q2 := bnot_f h2; have p2 := within_t q2; ?_⟩
  refine ⟨(sB ?_), rfl⟩
  rotate_left
  refine ⟨(within_s _ _ _), fun h3 => have q3 := bnot_t h3; have p3 := within_f q3; ?_, fun h3 => have q3 := bnot_f h3; have p3 := within_t q3; ?_⟩
  refine ⟨(sB ?_), rfl⟩
  rotate_left
  refine ⟨(within_s _ _ _), fun h4 => have q4 := bnot_t h4; have p4 := within_f q4; ?_, fun h4 => have q4 := bnot_f h4; have p4 := within_t q4; ?_⟩
  refine ⟨(sB ?_), rfl⟩
  rotate_left
  refine ⟨(utfOk_s d.utf), fun h5 => have q5 := bnot_t h5; ?_, fun h5 => have q5 := bnot_f h5; have p5 := utfOk_want q5; ?_⟩
  refine ⟨(sB ?_), rfl⟩
  rotate_left
  refine ⟨(wireOk_s _), fun h6 => have q6 := bnot_t h6; ?_, fun h6 => have q6 := bnot_f h6; ?_⟩
  refine ⟨(sB ?_), rfl⟩
  rotate_left
  have hwk := wireOk_t (w := d.wire) q6
  refine ⟨(fieldOkD_s d (by omega) (schemaOk_fields hpt.2.1)), fun h7 => have q7 := bnot_t h7; have p7 := (orF dF Iff.rfl).1 q7; ?_, fun h7 => have q7 := bnot_f h7; have p7 := (orT dT Iff.rfl).1 q7; ?_⟩
  refine ⟨(sB ?_), rfl⟩
  rotate_left
  refine ⟨(stackS_s d (by omega) (by omega)), fun h8 => have q8 := bnot_t h8; ?_, fun h8 => have q8 := bnot_f h8; ?_⟩
  refine ⟨(sB ?_), rfl⟩
  rotate_left
  refine ⟨?_, fun (j1000003 : decOk_s_J1000003_V) hq_j1000003 => ?_⟩
  refine ⟨fun h10 => have p10 := of_decide_eq_true h10; ?_, fun h10 => have p10 := of_decide_eq_false h10; ?_⟩
  refine ⟨(eventOk_s d.end_), fun h11 => have q11 := bnot_t h11; ?_, fun h11 => have q11 := bnot_f h11; ?_⟩
  exact has_of (j := (⟨true⟩ : decOk_s_J1000003_V)) rfl rfl (by dsimp only [decOk_s_J1000003_F]; first | ((simp_all [endD, ev_zero]; done)) | (grind [endD, ev_zero]))
  refine ⟨(terminal_s d.end_), fun h12 => have q12 := bnot_t h12; ?_, fun h12 => have q12 := bnot_f h12; ?_⟩
  exact has_of (j := (⟨true⟩ : decOk_s_J1000003_V)) rfl rfl (by dsimp only [decOk_s_J1000003_F]; first | ((simp_all [endD, ev_zero]; done)) | (grind [endD, ev_zero]))
  refine ⟨fun h13 => have q13 := bnot_t h13; have p13 := of_decide_eq_false q13; ?_, fun h13 => have q13 := bnot_f h13; have p13 := of_decide_eq_true q13; ?_⟩
  exact has_of (j := (⟨!(decide (d.end_.kind = 0) && (decide (d.end_.field = 0) && (decide (d.end_.bits = 0) && (decide (d.end_.len = 0) && (decide (d.end_.text = []) && (decide (d.end_.code = 0) && decide (d.end_.at_ = 0)))))))⟩ : decOk_s_J1000003_V)) rfl rfl (by dsimp only [decOk_s_J1000003_F]; first | ((simp_all [endD, ev_zero]; done)) | (grind [endD, ev_zero]))
  exact has_of (j := (⟨false⟩ : decOk_s_J1000003_V)) rfl rfl (by dsimp only [decOk_s_J1000003_F]; first | ((simp_all [endD, ev_zero]; done)) | (grind [endD, ev_zero]))
  refine ⟨fun h11 => have q11 := bnot_t h11; have p11 := of_decide_eq_false q11; ?_, fun h11 => have q11 := bnot_f h11; have p11 := of_decide_eq_true q11; ?_⟩
  exact has_of (j := (⟨!(decide (d.end_.kind = 0) && (decide (d.end_.field = 0) && (decide (d.end_.bits = 0) && (decide (d.end_.len = 0) && (decide (d.end_.text = []) && (decide (d.end_.code = 0) && decide (d.end_.at_ = 0)))))))⟩ : decOk_s_J1000003_V)) rfl rfl (by dsimp only [decOk_s_J1000003_F]; first | ((simp_all [endD, ev_zero]; done)) | (grind [endD, ev_zero]))
  exact has_of (j := (⟨false⟩ : decOk_s_J1000003_V)) rfl rfl (by dsimp only [decOk_s_J1000003_F]; first | ((simp_all [endD, ev_zero]; done)) | (grind [endD, ev_zero]))
  have hi_j1000003 : j1000003.v = !endD d := hq_j1000003
  refine ⟨fun h10 => ?_, fun h10 => ?_⟩
  refine ⟨(sB ?_), rfl⟩
  rotate_left
  refine ⟨?_, fun (j0 : decOk_s_J0_V) hq_j0 => ?_⟩
  refine ⟨fun h12 => have p12 := of_decide_eq_true h12; ?_, fun h12 => have p12 := of_decide_eq_false h12; ?_⟩
  refine ⟨h12, (topL_s d (by omega)), (within_s _ _ _), fun h13 => have q13 := bnot_t h13; have p13 := within_f q13; ?_, fun h13 => have q13 := bnot_f h13; have p13 := within_t q13; ?_⟩
  refine ⟨(sB ?_), rfl⟩
  rotate_left
  exact has_of (j := (⟨0⟩ : decOk_s_J0_V)) rfl rfl (by dsimp only [decOk_s_J0_F]; first | ((simp_all [wantD]; done)) | (grind [wantD]))
  refine ⟨fun h13 => have p13 := of_decide_eq_true h13; ?_, fun h13 => have p13 := of_decide_eq_false h13; ?_⟩
  refine ⟨h13, (topL_s d (by omega)), (within_s _ _ _), fun h14 => have q14 := bnot_t h14; have p14 := within_f q14; ?_, fun h14 => have q14 := bnot_f h14; have p14 := within_t q14; ?_⟩
  refine ⟨(sB ?_), rfl⟩
  rotate_left
  exact has_of (j := (⟨0⟩ : decOk_s_J0_V)) rfl rfl (by dsimp only [decOk_s_J0_F]; first | ((simp_all [wantD]; done)) | (grind [wantD]))
  refine ⟨fun h14 => have p14 := of_decide_eq_true h14; ?_, fun h14 => have p14 := of_decide_eq_false h14; ?_⟩
  refine ⟨(topL_s d (by omega)), (within_s _ _ _), fun h15 => have q15 := bnot_t h15; have p15 := within_f q15; ?_, fun h15 => have q15 := bnot_f h15; have p15 := within_t q15; ?_⟩
  refine ⟨(sB ?_), rfl⟩
  rotate_left
  exact has_of (j := (⟨0⟩ : decOk_s_J0_V)) rfl rfl (by dsimp only [decOk_s_J0_F]; first | ((simp_all [wantD]; done)) | (grind [wantD]))
  refine ⟨fun h15 => have q15 := bnot_t h15; have p15 := of_decide_eq_false q15; ?_, fun h15 => have q15 := bnot_f h15; have p15 := of_decide_eq_true q15; ?_⟩
  refine ⟨(sB ?_), rfl⟩
  rotate_left
  exact has_of (j := (⟨0⟩ : decOk_s_J0_V)) rfl rfl (by dsimp only [decOk_s_J0_F]; first | ((simp_all [wantD]; done)) | (grind [wantD]))
  have hi_j0 : wantD d = true := hq_j0
  refine ⟨?_, fun (j1000013 : decOk_s_J1000013_V) hq_j1000013 => ?_⟩
  refine ⟨fun h13 => have p13 := of_decide_eq_true h13; ?_, fun h13 => have p13 := of_decide_eq_false h13; ?_⟩
  refine ⟨fun h14 => have q14 := bnot_t h14; have p14 := of_decide_eq_false q14; ?_, fun h14 => have q14 := bnot_f h14; have p14 := of_decide_eq_true q14; ?_⟩
  exact has_of (j := (⟨true⟩ : decOk_s_J1000013_V)) rfl rfl (by dsimp only [decOk_s_J1000013_F]; first | ((simp_all [wiresS]; done)) | (grind [wiresS]))
  refine ⟨fun h15 => have p15 := of_decide_eq_true h15; ?_, fun h15 => have p15 := of_decide_eq_false h15; ?_⟩
  refine ⟨fun h16 => have q16 := bnot_t h16; have p16 := of_decide_eq_false q16; ?_, fun h16 => have q16 := bnot_f h16; have p16 := of_decide_eq_true q16; ?_⟩
  exact has_of (j := (⟨true⟩ : decOk_s_J1000013_V)) rfl rfl (by dsimp only [decOk_s_J1000013_F]; first | ((simp_all [wiresS]; done)) | (grind [wiresS]))
  refine ⟨fun h17 => have p17 := of_decide_eq_true h17; ?_, fun h17 => have p17 := of_decide_eq_false h17; ?_⟩
  exact ⟨(widthOf_s _), has_of (j := (⟨decide (widthOf d.wire = 0)⟩ : decOk_s_J1000013_V)) rfl rfl (by dsimp only [decOk_s_J1000013_F]; first | ((simp_all [wiresS]; done)) | (grind [wiresS]))⟩
  exact has_of (j := (⟨false⟩ : decOk_s_J1000013_V)) rfl rfl (by dsimp only [decOk_s_J1000013_F]; first | ((simp_all [wiresS]; done)) | (grind [wiresS]))
  refine ⟨fun h16 => have p16 := of_decide_eq_true h16; ?_, fun h16 => have p16 := of_decide_eq_false h16; ?_⟩
  exact ⟨(widthOf_s _), has_of (j := (⟨decide (widthOf d.wire = 0)⟩ : decOk_s_J1000013_V)) rfl rfl (by dsimp only [decOk_s_J1000013_F]; first | ((simp_all [wiresS]; done)) | (grind [wiresS]))⟩
  exact has_of (j := (⟨false⟩ : decOk_s_J1000013_V)) rfl rfl (by dsimp only [decOk_s_J1000013_F]; first | ((simp_all [wiresS]; done)) | (grind [wiresS]))
  refine ⟨fun h14 => have p14 := of_decide_eq_true h14; ?_, fun h14 => have p14 := of_decide_eq_false h14; ?_⟩
  refine ⟨fun h15 => have q15 := bnot_t h15; have p15 := of_decide_eq_false q15; ?_, fun h15 => have q15 := bnot_f h15; have p15 := of_decide_eq_true q15; ?_⟩
  exact has_of (j := (⟨true⟩ : decOk_s_J1000013_V)) rfl rfl (by dsimp only [decOk_s_J1000013_F]; first | ((simp_all [wiresS]; done)) | (grind [wiresS]))
  refine ⟨fun h16 => have p16 := of_decide_eq_true h16; ?_, fun h16 => have p16 := of_decide_eq_false h16; ?_⟩
  exact ⟨(widthOf_s _), has_of (j := (⟨decide (widthOf d.wire = 0)⟩ : decOk_s_J1000013_V)) rfl rfl (by dsimp only [decOk_s_J1000013_F]; first | ((simp_all [wiresS]; done)) | (grind [wiresS]))⟩
  exact has_of (j := (⟨false⟩ : decOk_s_J1000013_V)) rfl rfl (by dsimp only [decOk_s_J1000013_F]; first | ((simp_all [wiresS]; done)) | (grind [wiresS]))
  refine ⟨fun h15 => have p15 := of_decide_eq_true h15; ?_, fun h15 => have p15 := of_decide_eq_false h15; ?_⟩
  exact ⟨(widthOf_s _), has_of (j := (⟨decide (widthOf d.wire = 0)⟩ : decOk_s_J1000013_V)) rfl rfl (by dsimp only [decOk_s_J1000013_F]; first | ((simp_all [wiresS]; done)) | (grind [wiresS]))⟩
  exact has_of (j := (⟨false⟩ : decOk_s_J1000013_V)) rfl rfl (by dsimp only [decOk_s_J1000013_F]; first | ((simp_all [wiresS]; done)) | (grind [wiresS]))
  have hi_j1000013 : j1000013.wires = wiresS d := hq_j1000013
  refine ⟨?_, fun (j1000014 : decOk_s_J1000014_V) hq_j1000014 => ?_⟩
  refine ⟨fun h14 => ?_, fun h14 => ?_⟩
  exact has_of (j := (⟨true⟩ : decOk_s_J1000014_V)) rfl rfl (by dsimp only [decOk_s_J1000014_F]; first | ((simp_all [fld_zeroI]; done)) | (grind [fld_zeroI]))
  refine ⟨(within_s _ _ _), fun h15 => have p15 := within_t h15; ?_, fun h15 => have p15 := within_f h15; ?_⟩
  refine ⟨fun h16 => have q16 := bnot_t h16; have p16 := (andF dT (andF dT (andF dT (andF dT dF)))).1 q16; ?_, fun h16 => have q16 := bnot_f h16; have p16 := (andT dT (andT dT (andT dT (andT dT dT)))).1 q16; ?_⟩
  exact ⟨(allowed_s d.field _ (by omega)), has_of (j := (⟨!(allowed d.field d.wire)⟩ : decOk_s_J1000014_V)) rfl rfl (by dsimp only [decOk_s_J1000014_F]; first | ((simp_all [fld_zeroI]; done)) | (grind [fld_zeroI]))⟩
  exact has_of (j := (⟨false⟩ : decOk_s_J1000014_V)) rfl rfl (by dsimp only [decOk_s_J1000014_F]; first | ((simp_all [fld_zeroI]; done)) | (grind [fld_zeroI]))
  exact has_of (j := (⟨false⟩ : decOk_s_J1000014_V)) rfl rfl (by dsimp only [decOk_s_J1000014_F]; first | ((simp_all [fld_zeroI]; done)) | (grind [fld_zeroI]))
  have hi_j1000014 : j1000014.v = (j1000013.wires || (within d.mode 3 5 && (!decide (d.field = fld0) && !allowed d.field d.wire))) := hq_j1000014
  refine ⟨fun h14 => ?_, fun h14 => ?_⟩
  refine ⟨(sB ?_), rfl⟩
  rotate_left
  refine ⟨fun h15 => have p15 := of_decide_eq_true h15; ?_, fun h15 => have p15 := of_decide_eq_false h15; ?_⟩
  refine ⟨fun h16 => have q16 := bnot_t h16; have p16 := of_decide_eq_false q16; ?_, fun h16 => have q16 := bnot_f h16; have p16 := of_decide_eq_true q16; ?_⟩
  refine ⟨fun h17 => have q17 := bnot_t h17; have p17 := of_decide_eq_false q17; ?_, fun h17 => have q17 := bnot_f h17; have p17 := of_decide_eq_true q17; ?_⟩
  refine ⟨(scanS_s d (by omega)), (sB ?_), rfl⟩
  rotate_left
  refine ⟨(runs_s d.field), fun h18 => ?_, fun h18 => ?_⟩
  refine ⟨(scanS_s d (by omega)), (sB ?_), rfl⟩
  rotate_left
  refine ⟨(sB ?_), rfl⟩
  rotate_left
  refine ⟨fun h17 => have q17 := bnot_t h17; have p17 := of_decide_eq_false q17; ?_, fun h17 => have q17 := bnot_f h17; have p17 := of_decide_eq_true q17; ?_⟩
  refine ⟨(scanS_s d (by omega)), (sB ?_), rfl⟩
  rotate_left
  refine ⟨(runs_s d.field), fun h18 => ?_, fun h18 => ?_⟩
  refine ⟨(scanS_s d (by omega)), (sB ?_), rfl⟩
  rotate_left
  refine ⟨(sB ?_), rfl⟩
  rotate_left
  refine ⟨fun h16 => have q16 := bnot_t h16; have p16 := of_decide_eq_false q16; ?_, fun h16 => have q16 := bnot_f h16; have p16 := of_decide_eq_true q16; ?_⟩
  refine ⟨fun h17 => have q17 := bnot_t h17; have p17 := of_decide_eq_false q17; ?_, fun h17 => have q17 := bnot_f h17; have p17 := of_decide_eq_true q17; ?_⟩
  refine ⟨(scanS_s d (by omega)), (sB ?_), rfl⟩
  rotate_left
  refine ⟨(runs_s d.field), fun h18 => ?_, fun h18 => ?_⟩
  refine ⟨(scanS_s d (by omega)), (sB ?_), rfl⟩
  rotate_left
  refine ⟨(sB ?_), rfl⟩
  rotate_left
  refine ⟨fun h17 => have p17 := of_decide_eq_true h17; ?_, fun h17 => have p17 := of_decide_eq_false h17; ?_⟩
  refine ⟨fun h18 => have q18 := bnot_t h18; have p18 := of_decide_eq_false q18; ?_, fun h18 => have q18 := bnot_f h18; have p18 := of_decide_eq_true q18; ?_⟩
  refine ⟨(scanS_s d (by omega)), (sB ?_), rfl⟩
  rotate_left
  refine ⟨(runs_s d.field), fun h19 => ?_, fun h19 => ?_⟩
  refine ⟨(scanS_s d (by omega)), (sB ?_), rfl⟩
  rotate_left
  refine ⟨(sB ?_), rfl⟩
  rotate_left
  refine ⟨(sB ?_), rfl⟩
  rotate_left
  all_goals rw [← decOkS_eq]; first | (simp_all [decOkS, endD, wantD, wiresS, fld_zeroI, ev_zero]; done) | (grind [decOkS, endD, wantD, wiresS, fld_zeroI, ev_zero, isBytes])
end Go.Proofs.YthmhekbmhpljcaaGreat.Ax
