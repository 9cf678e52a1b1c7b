/- Decoders: what is valid: both sides. Copies. The machine: closing. -/
import Derived.Test.YtpchkcpcdbdhdaaGreatKS2
import Derived.Test.YtpchkcpcdbdhdaaGreatKS1
set_option linter.unusedSimpArgs false
set_option linter.unusedVariables false
namespace Go.Proofs.YtpchkcpcdbdhdaaGreat.Ax
open Go.RowKit
theorem wireOk_t {w : Int} (h : wireOk w = true) : 0 ≤ w ∧ w ≤ 5 := by simp [wireOk] at h; omega
theorem levelsOk_t {d : Dcd} (h : levelsOk d = true) : planOk d.plan = true := by simp only [levelsOk, Bool.and_eq_true] at h; exact h.1.1
theorem decOk_i (d : Dcd) (hp1 : List.length (d).stack ≤ bigN) (hp2 : List.length (d).plan.shapes ≤ bigN) : Fun Tryz.prog 134 [.agg (cDcd d)] [] (.v (vB (decOk d))) [] := by
  have hN : bigN = 274877906944 := rfl
  refine fun_ofw Tryz.func134 (by kernel_rfl) (by kernel_rfl) (w := let z2 := wantD d && kindD d; let z3 := !(decide (d.end_.kind = 0) && (decide (d.end_.field = 0) && (decide (d.end_.bits = 0) && (decide (d.end_.len = 0) && (decide (d.end_.text = []) && (decide (d.end_.code = 0) && decide (d.end_.at_ = 0))))))); let z4 := vB (scanD d); let z6 := ([] : List Blk); let z7 := vB (decOk d); let z8 := !decide (d.mode = 1); let z10 := !decide (d.mode = 9); let z11 := decide (0 < (d.stack.length : Int)); let z12 := (.v (vB false) : S); let z1 := z2 = false → z12 = .v z7 ∧ z6 = []; let z5 := z11 = true → z12 = .v z7 ∧ z6 = []; let z13 := decide (d.mode = 1); let z14 := (.v z4 : S); let z15 := !(decide (d.field.number = 0) && (decide (d.field.kind = 0) && (decide (d.field.rep = false) && (decide (d.field.packed = false) && decide (d.field.msg = 0))))); let z16 := vI (topL d); let z17 := decide (topL d < 1); let z9 := z17 = true → z12 = .v z7 ∧ z6 = []; let z18 := terminal d.end_; let z19 := z3 = true → z12 = .v z7 ∧ z6 = []; let z20 := eventOk d.end_; let z21 := known (d.plan).shapes d.field; let z22 := within d.at_ 0 1000000000; let z23 := z10 = false; let z24 := within d.start 0 d.at_; let z25 := z10 = true; let z26 := decide (d.mode = 9); let z27 := within d.mode 1 9; let z28 := wireOk d.wire; let z29 := (!z20) = true → z12 = .v z7 ∧ z6 = []; let z30 := (!z18) = true → z12 = .v z7 ∧ z6 = []; let z31 := utfOk d.utf; (.seg [.call [] (.v (vB (levelsOk d))) []] (.br (.leaf () []) (.seg [.call [] (.v (vB z27)) []] (.br (.leaf () []) (.seg [.call [] (.v (vB z22)) []] (.br (.leaf () []) (.seg [.call [] (.v (vB z24)) []] (.br (.leaf () []) (.seg [.call [] (.v (vB z31)) []] (.br (.leaf () []) (.seg [.call [] (.v (vB z28)) []] (.br (.leaf () []) (.br (.seg [.call [] (.v (vB z21)) []] (.br (.leaf () []) (.br (.seg [.call [] (.v (vB z20)) []] (.br (.leaf () []) (.seg [.call [] (.v (vB z18)) []] (.br (.leaf () []) (.br (.br (.leaf () []) (.br (.br (.leaf () []) (.br (.seg [.br true, .call [] (.v z16) []] (.br (.leaf () []) (.seg [.call [] (.v (vB z2)) []] (.br (.seg [.call [] (.v z4) []] (.leaf () [])) (.leaf () []))))) (.seg [.call [] (.v (vB z2)) []] (.br (.seg [.call [] (.v z4) []] (.leaf () [])) (.leaf () []))))) (.br (.seg [.br true, .call [] (.v z16) []] (.br (.leaf () []) (.seg [.call [] (.v (vB z2)) []] (.br (.seg [.call [] (.v z4) []] (.leaf () [])) (.leaf () []))))) (.seg [.call [] (.v (vB z2)) []] (.br (.seg [.call [] (.v z4) []] (.leaf () [])) (.leaf () [])))))) (.br (.br (.leaf () []) (.br (.seg [.br false, .call [] (.v (vB z2)) []] (.br (.seg [.call [] (.v z4) []] (.leaf () [])) (.leaf () []))) (.seg [.call [] (.v (vB z2)) []] (.br (.seg [.call [] (.v z4) []] (.leaf () [])) (.leaf () []))))) (.br (.seg [.br false, .call [] (.v (vB z2)) []] (.br (.seg [.call [] (.v z4) []] (.leaf () [])) (.leaf () []))) (.seg [.call [] (.v (vB z2)) []] (.br (.seg [.call [] (.v z4) []] (.leaf () [])) (.leaf () [])))))))))) (.br (.br (.leaf () []) (.br (.br (.leaf () []) (.br (.seg [.br true, .call [] (.v z16) []] (.br (.leaf () []) (.seg [.call [] (.v (vB z2)) []] (.br (.seg [.call [] (.v z4) []] (.leaf () [])) (.leaf () []))))) (.seg [.call [] (.v (vB z2)) []] (.br (.seg [.call [] (.v z4) []] (.leaf () [])) (.leaf () []))))) (.br (.seg [.br true, .call [] (.v z16) []] (.br (.leaf () []) (.seg [.call [] (.v (vB z2)) []] (.br (.seg [.call [] (.v z4) []] (.leaf () [])) (.leaf () []))))) (.seg [.call [] (.v (vB z2)) []] (.br (.seg [.call [] (.v z4) []] (.leaf () [])) (.leaf () [])))))) (.br (.br (.leaf () []) (.br (.seg [.br false, .call [] (.v (vB z2)) []] (.br (.seg [.call [] (.v z4) []] (.leaf () [])) (.leaf () []))) (.seg [.call [] (.v (vB z2)) []] (.br (.seg [.call [] (.v z4) []] (.leaf () [])) (.leaf () []))))) (.br (.seg [.br false, .call [] (.v (vB z2)) []] (.br (.seg [.call [] (.v z4) []] (.leaf () [])) (.leaf () []))) (.seg [.call [] (.v (vB z2)) []] (.br (.seg [.call [] (.v z4) []] (.leaf () [])) (.leaf () []))))))))) (.br (.seg [.call [] (.v (vB z20)) []] (.br (.leaf () []) (.seg [.call [] (.v (vB z18)) []] (.br (.leaf () []) (.br (.br (.leaf () []) (.br (.br (.leaf () []) (.br (.seg [.br true, .call [] (.v z16) []] (.br (.leaf () []) (.seg [.call [] (.v (vB z2)) []] (.br (.seg [.call [] (.v z4) []] (.leaf () [])) (.leaf () []))))) (.seg [.call [] (.v (vB z2)) []] (.br (.seg [.call [] (.v z4) []] (.leaf () [])) (.leaf () []))))) (.br (.seg [.br true, .call [] (.v z16) []] (.br (.leaf () []) (.seg [.call [] (.v (vB z2)) []] (.br (.seg [.call [] (.v z4) []] (.leaf () [])) (.leaf () []))))) (.seg [.call [] (.v (vB z2)) []] (.br (.seg [.call [] (.v z4) []] (.leaf () [])) (.leaf () [])))))) (.br (.br (.leaf () []) (.br (.seg [.br false, .call [] (.v (vB z2)) []] (.br (.seg [.call [] (.v z4) []] (.leaf () [])) (.leaf () []))) (.seg [.call [] (.v (vB z2)) []] (.br (.seg [.call [] (.v z4) []] (.leaf () [])) (.leaf () []))))) (.br (.seg [.br false, .call [] (.v (vB z2)) []] (.br (.seg [.call [] (.v z4) []] (.leaf () [])) (.leaf () []))) (.seg [.call [] (.v (vB z2)) []] (.br (.seg [.call [] (.v z4) []] (.leaf () [])) (.leaf () [])))))))))) (.br (.br (.leaf () []) (.br (.br (.leaf () []) (.br (.seg [.br true, .call [] (.v z16) []] (.br (.leaf () []) (.seg [.call [] (.v (vB z2)) []] (.br (.seg [.call [] (.v z4) []] (.leaf () [])) (.leaf () []))))) (.seg [.call [] (.v (vB z2)) []] (.br (.seg [.call [] (.v z4) []] (.leaf () [])) (.leaf () []))))) (.br (.seg [.br true, .call [] (.v z16) []] (.br (.leaf () []) (.seg [.call [] (.v (vB z2)) []] (.br (.seg [.call [] (.v z4) []] (.leaf () [])) (.leaf () []))))) (.seg [.call [] (.v (vB z2)) []] (.br (.seg [.call [] (.v z4) []] (.leaf () [])) (.leaf () [])))))) (.br (.br (.leaf () []) (.br (.seg [.br false, .call [] (.v (vB z2)) []] (.br (.seg [.call [] (.v z4) []] (.leaf () [])) (.leaf () []))) (.seg [.call [] (.v (vB z2)) []] (.br (.seg [.call [] (.v z4) []] (.leaf () [])) (.leaf () []))))) (.br (.seg [.br false, .call [] (.v (vB z2)) []] (.br (.seg [.call [] (.v z4) []] (.leaf () [])) (.leaf () []))) (.seg [.call [] (.v (vB z2)) []] (.br (.seg [.call [] (.v z4) []] (.leaf () [])) (.leaf () []))))))))))))))))))), (Fun Tryz.prog 174 [.agg (cDcd d)] [] (.v (vB (levelsOk d))) []) ∧ ((!(levelsOk d)) = true → z12 = .v z7 ∧ z6 = []) ∧ ((!(levelsOk d)) = false → (Fun Tryz.prog 173 [vI d.mode, vI 1, vI 9] [] (.v (vB z27)) []) ∧ ((!z27) = true → z12 = .v z7 ∧ z6 = []) ∧ ((!z27) = false → (Fun Tryz.prog 173 [vI d.at_, vI 0, vI 1000000000] [] (.v (vB z22)) []) ∧ ((!z22) = true → z12 = .v z7 ∧ z6 = []) ∧ ((!z22) = false → (Fun Tryz.prog 173 [vI d.start, vI 0, vI d.at_] [] (.v (vB z24)) []) ∧ ((!z24) = true → z12 = .v z7 ∧ z6 = []) ∧ ((!z24) = false → (Fun Tryz.prog 175 [.agg (cUtf d.utf)] [] (.v (vB z31)) []) ∧ ((!z31) = true → z12 = .v z7 ∧ z6 = []) ∧ ((!z31) = false → (Fun Tryz.prog 176 [vI d.wire] [] (.v (vB z28)) []) ∧ ((!z28) = true → z12 = .v z7 ∧ z6 = []) ∧ ((!z28) = false → (z15 = true → (Fun Tryz.prog 177 [.agg (cPln d.plan), .agg (cFld d.field)] [] (.v (vB z21)) []) ∧ ((!z21) = true → z12 = .v z7 ∧ z6 = []) ∧ ((!z21) = false → (z26 = true → (Fun Tryz.prog 178 [.agg (cEv d.end_)] [] (.v (vB z20)) []) ∧ z29 ∧ ((!z20) = false → (Fun Tryz.prog 129 [.agg (cEv d.end_)] [] (.v (vB z18)) []) ∧ z30 ∧ ((!z18) = false → (z10 = true → z19 ∧ (z3 = false → (z13 = true → z5 ∧ (z11 = false → (z8 = true → z25 ∧ (Fun Tryz.prog 179 [.agg (cDcd d)] [] (.v z16) []) ∧ z9 ∧ (z17 = false → (Fun Tryz.prog 180 [.agg (cDcd d)] [] (.v (vB z2)) []) ∧ (z2 = true → (Fun Tryz.prog 181 [.agg (cDcd d)] [] (.v z4) []) ∧ z14 = .v z7 ∧ z6 = []) ∧ z1)) ∧ (z8 = false → (Fun Tryz.prog 180 [.agg (cDcd d)] [] (.v (vB z2)) []) ∧ (z2 = true → (Fun Tryz.prog 181 [.agg (cDcd d)] [] (.v z4) []) ∧ z14 = .v z7 ∧ z6 = []) ∧ z1))) ∧ (z13 = false → (z8 = true → z25 ∧ (Fun Tryz.prog 179 [.agg (cDcd d)] [] (.v z16) []) ∧ z9 ∧ (z17 = false → (Fun Tryz.prog 180 [.agg (cDcd d)] [] (.v (vB z2)) []) ∧ (z2 = true → (Fun Tryz.prog 181 [.agg (cDcd d)] [] (.v z4) []) ∧ z14 = .v z7 ∧ z6 = []) ∧ z1)) ∧ (z8 = false → (Fun Tryz.prog 180 [.agg (cDcd d)] [] (.v (vB z2)) []) ∧ (z2 = true → (Fun Tryz.prog 181 [.agg (cDcd d)] [] (.v z4) []) ∧ z14 = .v z7 ∧ z6 = []) ∧ z1)))) ∧ (z10 = false → (z13 = true → z5 ∧ (z11 = false → (z8 = true → z23 ∧ (Fun Tryz.prog 180 [.agg (cDcd d)] [] (.v (vB z2)) []) ∧ (z2 = true → (Fun Tryz.prog 181 [.agg (cDcd d)] [] (.v z4) []) ∧ z14 = .v z7 ∧ z6 = []) ∧ z1) ∧ (z8 = false → (Fun Tryz.prog 180 [.agg (cDcd d)] [] (.v (vB z2)) []) ∧ (z2 = true → (Fun Tryz.prog 181 [.agg (cDcd d)] [] (.v z4) []) ∧ z14 = .v z7 ∧ z6 = []) ∧ z1))) ∧ (z13 = false → (z8 = true → z23 ∧ (Fun Tryz.prog 180 [.agg (cDcd d)] [] (.v (vB z2)) []) ∧ (z2 = true → (Fun Tryz.prog 181 [.agg (cDcd d)] [] (.v z4) []) ∧ z14 = .v z7 ∧ z6 = []) ∧ z1) ∧ (z8 = false → (Fun Tryz.prog 180 [.agg (cDcd d)] [] (.v (vB z2)) []) ∧ (z2 = true → (Fun Tryz.prog 181 [.agg (cDcd d)] [] (.v z4) []) ∧ z14 = .v z7 ∧ z6 = []) ∧ z1)))))) ∧ (z26 = false → (z10 = true → z19 ∧ (z3 = false → (z13 = true → z5 ∧ (z11 = false → (z8 = true → z25 ∧ (Fun Tryz.prog 179 [.agg (cDcd d)] [] (.v z16) []) ∧ z9 ∧ (z17 = false → (Fun Tryz.prog 180 [.agg (cDcd d)] [] (.v (vB z2)) []) ∧ (z2 = true → (Fun Tryz.prog 181 [.agg (cDcd d)] [] (.v z4) []) ∧ z14 = .v z7 ∧ z6 = []) ∧ z1)) ∧ (z8 = false → (Fun Tryz.prog 180 [.agg (cDcd d)] [] (.v (vB z2)) []) ∧ (z2 = true → (Fun Tryz.prog 181 [.agg (cDcd d)] [] (.v z4) []) ∧ z14 = .v z7 ∧ z6 = []) ∧ z1))) ∧ (z13 = false → (z8 = true → z25 ∧ (Fun Tryz.prog 179 [.agg (cDcd d)] [] (.v z16) []) ∧ z9 ∧ (z17 = false → (Fun Tryz.prog 180 [.agg (cDcd d)] [] (.v (vB z2)) []) ∧ (z2 = true → (Fun Tryz.prog 181 [.agg (cDcd d)] [] (.v z4) []) ∧ z14 = .v z7 ∧ z6 = []) ∧ z1)) ∧ (z8 = false → (Fun Tryz.prog 180 [.agg (cDcd d)] [] (.v (vB z2)) []) ∧ (z2 = true → (Fun Tryz.prog 181 [.agg (cDcd d)] [] (.v z4) []) ∧ z14 = .v z7 ∧ z6 = []) ∧ z1)))) ∧ (z10 = false → (z13 = true → z5 ∧ (z11 = false → (z8 = true → z23 ∧ (Fun Tryz.prog 180 [.agg (cDcd d)] [] (.v (vB z2)) []) ∧ (z2 = true → (Fun Tryz.prog 181 [.agg (cDcd d)] [] (.v z4) []) ∧ z14 = .v z7 ∧ z6 = []) ∧ z1) ∧ (z8 = false → (Fun Tryz.prog 180 [.agg (cDcd d)] [] (.v (vB z2)) []) ∧ (z2 = true → (Fun Tryz.prog 181 [.agg (cDcd d)] [] (.v z4) []) ∧ z14 = .v z7 ∧ z6 = []) ∧ z1))) ∧ (z13 = false → (z8 = true → z23 ∧ (Fun Tryz.prog 180 [.agg (cDcd d)] [] (.v (vB z2)) []) ∧ (z2 = true → (Fun Tryz.prog 181 [.agg (cDcd d)] [] (.v z4) []) ∧ z14 = .v z7 ∧ z6 = []) ∧ z1) ∧ (z8 = false → (Fun Tryz.prog 180 [.agg (cDcd d)] [] (.v (vB z2)) []) ∧ (z2 = true → (Fun Tryz.prog 181 [.agg (cDcd d)] [] (.v z4) []) ∧ z14 = .v z7 ∧ z6 = []) ∧ z1)))))) ∧ (z15 = false → (z26 = true → (Fun Tryz.prog 178 [.agg (cEv d.end_)] [] (.v (vB z20)) []) ∧ z29 ∧ ((!z20) = false → (Fun Tryz.prog 129 [.agg (cEv d.end_)] [] (.v (vB z18)) []) ∧ z30 ∧ ((!z18) = false → (z10 = true → z19 ∧ (z3 = false → (z13 = true → z5 ∧ (z11 = false → (z8 = true → z25 ∧ (Fun Tryz.prog 179 [.agg (cDcd d)] [] (.v z16) []) ∧ z9 ∧ (z17 = false → (Fun Tryz.prog 180 [.agg (cDcd d)] [] (.v (vB z2)) []) ∧ (z2 = true → (Fun Tryz.prog 181 [.agg (cDcd d)] [] (.v z4) []) ∧ z14 = .v z7 ∧ z6 = []) ∧ z1)) ∧ (z8 = false → (Fun Tryz.prog 180 [.agg (cDcd d)] [] (.v (vB z2)) []) ∧ (z2 = true → (Fun Tryz.prog 181 [.agg (cDcd d)] [] (.v z4) []) ∧ z14 = .v z7 ∧ z6 = []) ∧ z1))) ∧ (z13 = false → (z8 = true → z25 ∧ (Fun Tryz.prog 179 [.agg (cDcd d)] [] (.v z16) []) ∧ z9 ∧ (z17 = false → (Fun Tryz.prog 180 [.agg (cDcd d)] [] (.v (vB z2)) []) ∧ (z2 = true → (Fun Tryz.prog 181 [.agg (cDcd d)] [] (.v z4) []) ∧ z14 = .v z7 ∧ z6 = []) ∧ z1)) ∧ (z8 = false → (Fun Tryz.prog 180 [.agg (cDcd d)] [] (.v (vB z2)) []) ∧ (z2 = true → (Fun Tryz.prog 181 [.agg (cDcd d)] [] (.v z4) []) ∧ z14 = .v z7 ∧ z6 = []) ∧ z1)))) ∧ (z10 = false → (z13 = true → z5 ∧ (z11 = false → (z8 = true → z23 ∧ (Fun Tryz.prog 180 [.agg (cDcd d)] [] (.v (vB z2)) []) ∧ (z2 = true → (Fun Tryz.prog 181 [.agg (cDcd d)] [] (.v z4) []) ∧ z14 = .v z7 ∧ z6 = []) ∧ z1) ∧ (z8 = false → (Fun Tryz.prog 180 [.agg (cDcd d)] [] (.v (vB z2)) []) ∧ (z2 = true → (Fun Tryz.prog 181 [.agg (cDcd d)] [] (.v z4) []) ∧ z14 = .v z7 ∧ z6 = []) ∧ z1))) ∧ (z13 = false → (z8 = true → z23 ∧ (Fun Tryz.prog 180 [.agg (cDcd d)] [] (.v (vB z2)) []) ∧ (z2 = true → (Fun Tryz.prog 181 [.agg (cDcd d)] [] (.v z4) []) ∧ z14 = .v z7 ∧ z6 = []) ∧ z1) ∧ (z8 = false → (Fun Tryz.prog 180 [.agg (cDcd d)] [] (.v (vB z2)) []) ∧ (z2 = true → (Fun Tryz.prog 181 [.agg (cDcd d)] [] (.v z4) []) ∧ z14 = .v z7 ∧ z6 = []) ∧ z1)))))) ∧ (z26 = false → (z10 = true → z19 ∧ (z3 = false → (z13 = true → z5 ∧ (z11 = false → (z8 = true → z25 ∧ (Fun Tryz.prog 179 [.agg (cDcd d)] [] (.v z16) []) ∧ z9 ∧ (z17 = false → (Fun Tryz.prog 180 [.agg (cDcd d)] [] (.v (vB z2)) []) ∧ (z2 = true → (Fun Tryz.prog 181 [.agg (cDcd d)] [] (.v z4) []) ∧ z14 = .v z7 ∧ z6 = []) ∧ z1)) ∧ (z8 = false → (Fun Tryz.prog 180 [.agg (cDcd d)] [] (.v (vB z2)) []) ∧ (z2 = true → (Fun Tryz.prog 181 [.agg (cDcd d)] [] (.v z4) []) ∧ z14 = .v z7 ∧ z6 = []) ∧ z1))) ∧ (z13 = false → (z8 = true → z25 ∧ (Fun Tryz.prog 179 [.agg (cDcd d)] [] (.v z16) []) ∧ z9 ∧ (z17 = false → (Fun Tryz.prog 180 [.agg (cDcd d)] [] (.v (vB z2)) []) ∧ (z2 = true → (Fun Tryz.prog 181 [.agg (cDcd d)] [] (.v z4) []) ∧ z14 = .v z7 ∧ z6 = []) ∧ z1)) ∧ (z8 = false → (Fun Tryz.prog 180 [.agg (cDcd d)] [] (.v (vB z2)) []) ∧ (z2 = true → (Fun Tryz.prog 181 [.agg (cDcd d)] [] (.v z4) []) ∧ z14 = .v z7 ∧ z6 = []) ∧ z1)))) ∧ (z10 = false → (z13 = true → z5 ∧ (z11 = false → (z8 = true → z23 ∧ (Fun Tryz.prog 180 [.agg (cDcd d)] [] (.v (vB z2)) []) ∧ (z2 = true → (Fun Tryz.prog 181 [.agg (cDcd d)] [] (.v z4) []) ∧ z14 = .v z7 ∧ z6 = []) ∧ z1) ∧ (z8 = false → (Fun Tryz.prog 180 [.agg (cDcd d)] [] (.v (vB z2)) []) ∧ (z2 = true → (Fun Tryz.prog 181 [.agg (cDcd d)] [] (.v z4) []) ∧ z14 = .v z7 ∧ z6 = []) ∧ z1))) ∧ (z13 = false → (z8 = true → z23 ∧ (Fun Tryz.prog 180 [.agg (cDcd d)] [] (.v (vB z2)) []) ∧ (z2 = true → (Fun Tryz.prog 181 [.agg (cDcd d)] [] (.v z4) []) ∧ z14 = .v z7 ∧ z6 = []) ∧ z1) ∧ (z8 = false → (Fun Tryz.prog 180 [.agg (cDcd d)] [] (.v (vB z2)) []) ∧ (z2 = true → (Fun Tryz.prog 181 [.agg (cDcd d)] [] (.v z4) []) ∧ z14 = .v z7 ∧ z6 = []) ∧ z1))))))))))))) (by kernel_rfl) ?_
  refine ⟨(levelsOk_i d (by omega) (by omega)), fun h1 => have q1 := bnot_t h1; ?_, fun h1 => have q1 := bnot_f h1; ?_⟩
  refine ⟨(sB ?_), rfl⟩
  rotate_left
  have hpt := planOk_t (levelsOk_t q1)
  refine ⟨(within_i _ _ _), fun h2 => have q2 := bnot_t h2; have p2 := within_f q2; ?_, fun h2 => have q2 := bnot_f h2; have p2 := within_t q2; ?_⟩
  refine ⟨(sB ?_), rfl⟩
  rotate_left
  refine ⟨(within_i _ _ _), fun h3 => have q3 := bnot_t h3; have p3 := within_f q3; ?_, fun h3 => have q3 := bnot_f h3; have p3 := within_t q3; ?_⟩
  refine ⟨(sB ?_), rfl⟩
  rotate_left
  refine ⟨(within_i _ _ _), fun h4 => have q4 := bnot_t h4; have p4 := within_f q4; ?_, fun h4 => have q4 := bnot_f h4; have p4 := within_t q4; ?_⟩
  refine ⟨(sB ?_), rfl⟩
  rotate_left
  refine ⟨(utfOk_i d.utf), fun h5 => have q5 := bnot_t h5; ?_, fun h5 => have q5 := bnot_f h5; have p5 := utfOk_want q5; ?_⟩
  refine ⟨(sB ?_), rfl⟩
  rotate_left
  refine ⟨(wireOk_i _), fun h6 => have q6 := bnot_t h6; ?_, fun h6 => have q6 := bnot_f h6; ?_⟩
  refine ⟨(sB ?_), rfl⟩
  rotate_left
  have hwk := wireOk_t (w := d.wire) q6
  refine ⟨fun h7 => have q7 := bnot_t h7; have p7 := (andF dT (andF dT (andF dT (andF dT dF)))).1 q7; ?_, fun h7 => have q7 := bnot_f h7; have p7 := (andT dT (andT dT (andT dT (andT dT dT)))).1 q7; ?_⟩
  refine ⟨(known_i d.plan d.field (by omega) (schemaOk_fields hpt.2.1)), fun h8 => have q8 := bnot_t h8; ?_, fun h8 => have q8 := bnot_f h8; ?_⟩
  refine ⟨(sB ?_), rfl⟩
  rotate_left
  refine dsp (fun h9 p9 => ?_) fun h9 p9 => ?_
  refine ⟨(eventOk_i d.end_), fun h10 => have q10 := bnot_t h10; ?_, fun h10 => have q10 := bnot_f h10; ?_⟩
  refine ⟨(sB ?_), rfl⟩
  rotate_left
  refine ⟨(terminal_i d.end_), fun h11 => have q11 := bnot_t h11; ?_, fun h11 => have q11 := bnot_f h11; ?_⟩
  refine ⟨(sB ?_), rfl⟩
  rotate_left
  refine ⟨fun h12 => have q12 := bnot_t h12; have p12 := of_decide_eq_false q12; ?_, fun h12 => have q12 := bnot_f h12; have p12 := of_decide_eq_true q12; ?_⟩
  refine ⟨fun h13 => have q13 := bnot_t h13; have p13 := (andF dT (andF dT (andF dT (andF dT (andF dT (andF dT dF)))))).1 q13; ?_, fun h13 => have q13 := bnot_f h13; have p13 := (andT dT (andT dT (andT dT (andT dT (andT dT (andT dT dT)))))).1 q13; ?_⟩
  refine ⟨(sB ?_), rfl⟩
  rotate_left
  refine dsp (fun h14 p14 => ?_) fun h14 p14 => ?_
  refine dsp (fun h15 p15 => ?_) fun h15 p15 => ?_
  refine ⟨(sB ?_), rfl⟩
  rotate_left
  refine ⟨fun h16 => have q16 := bnot_t h16; have p16 := of_decide_eq_false q16; ?_, fun h16 => have q16 := bnot_f h16; have p16 := of_decide_eq_true q16; ?_⟩
  refine ⟨h12, (topL_i d (by omega)), dsp (fun h17 p17 => ?_) fun h17 p17 => ?_⟩
  refine ⟨(sB ?_), rfl⟩
  rotate_left
  refine ⟨(modeD_i d (by omega)), fun h18 => ?_, fun h18 => ?_⟩
  refine ⟨(scanD_i d (by omega)), (sB ?_), rfl⟩
  rotate_left
  refine ⟨(sB ?_), rfl⟩
  rotate_left
  refine ⟨(modeD_i d (by omega)), fun h17 => ?_, fun h17 => ?_⟩
  refine ⟨(scanD_i d (by omega)), (sB ?_), rfl⟩
  rotate_left
  refine ⟨(sB ?_), rfl⟩
  rotate_left
  refine ⟨fun h15 => have q15 := bnot_t h15; have p15 := of_decide_eq_false q15; ?_, fun h15 => have q15 := bnot_f h15; have p15 := of_decide_eq_true q15; ?_⟩
  refine ⟨h12, (topL_i d (by omega)), dsp (fun h16 p16 => ?_) fun h16 p16 => ?_⟩
  refine ⟨(sB ?_), rfl⟩
  rotate_left
  refine ⟨(modeD_i d (by omega)), fun h17 => ?_, fun h17 => ?_⟩
  refine ⟨(scanD_i d (by omega)), (sB ?_), rfl⟩
  rotate_left
  refine ⟨(sB ?_), rfl⟩
  rotate_left
  refine ⟨(modeD_i d (by omega)), fun h16 => ?_, fun h16 => ?_⟩
  refine ⟨(scanD_i d (by omega)), (sB ?_), rfl⟩
  rotate_left
  refine ⟨(sB ?_), rfl⟩
  rotate_left
  refine dsp (fun h13 p13 => ?_) fun h13 p13 => ?_
  refine dsp (fun h14 p14 => ?_) fun h14 p14 => ?_
  refine ⟨(sB ?_), rfl⟩
  rotate_left
  refine ⟨fun h15 => have q15 := bnot_t h15; have p15 := of_decide_eq_false q15; ?_, fun h15 => have q15 := bnot_f h15; have p15 := of_decide_eq_true q15; ?_⟩
  refine ⟨h12, (modeD_i d (by omega)), fun h16 => ?_, fun h16 => ?_⟩
  refine ⟨(scanD_i d (by omega)), (sB ?_), rfl⟩
  rotate_left
  refine ⟨(sB ?_), rfl⟩
  rotate_left
  refine ⟨(modeD_i d (by omega)), fun h16 => ?_, fun h16 => ?_⟩
  refine ⟨(scanD_i d (by omega)), (sB ?_), rfl⟩
  rotate_left
  refine ⟨(sB ?_), rfl⟩
  rotate_left
  refine ⟨fun h14 => have q14 := bnot_t h14; have p14 := of_decide_eq_false q14; ?_, fun h14 => have q14 := bnot_f h14; have p14 := of_decide_eq_true q14; ?_⟩
  refine ⟨h12, (modeD_i d (by omega)), fun h15 => ?_, fun h15 => ?_⟩
  refine ⟨(scanD_i d (by omega)), (sB ?_), rfl⟩
  rotate_left
  refine ⟨(sB ?_), rfl⟩
  rotate_left
  refine ⟨(modeD_i d (by omega)), fun h15 => ?_, fun h15 => ?_⟩
  refine ⟨(scanD_i d (by omega)), (sB ?_), rfl⟩
  rotate_left
  refine ⟨(sB ?_), rfl⟩
  rotate_left
  refine ⟨fun h10 => have q10 := bnot_t h10; have p10 := of_decide_eq_false q10; ?_, fun h10 => have q10 := bnot_f h10; have p10 := of_decide_eq_true q10; ?_⟩
  refine ⟨fun h11 => have q11 := bnot_t h11; have p11 := (andF dT (andF dT (andF dT (andF dT (andF dT (andF dT dF)))))).1 q11; ?_, fun h11 => have q11 := bnot_f h11; have p11 := (andT dT (andT dT (andT dT (andT dT (andT dT (andT dT dT)))))).1 q11; ?_⟩
  refine ⟨(sB ?_), rfl⟩
  rotate_left
  refine dsp (fun h12 p12 => ?_) fun h12 p12 => ?_
  refine dsp (fun h13 p13 => ?_) fun h13 p13 => ?_
  refine ⟨(sB ?_), rfl⟩
  rotate_left
  refine ⟨fun h14 => have q14 := bnot_t h14; have p14 := of_decide_eq_false q14; ?_, fun h14 => have q14 := bnot_f h14; have p14 := of_decide_eq_true q14; ?_⟩
  refine ⟨h10, (topL_i d (by omega)), dsp (fun h15 p15 => ?_) fun h15 p15 => ?_⟩
  refine ⟨(sB ?_), rfl⟩
  rotate_left
  refine ⟨(modeD_i d (by omega)), fun h16 => ?_, fun h16 => ?_⟩
  refine ⟨(scanD_i d (by omega)), (sB ?_), rfl⟩
  rotate_left
  refine ⟨(sB ?_), rfl⟩
  rotate_left
  refine ⟨(modeD_i d (by omega)), fun h15 => ?_, fun h15 => ?_⟩
  refine ⟨(scanD_i d (by omega)), (sB ?_), rfl⟩
  rotate_left
  refine ⟨(sB ?_), rfl⟩
  rotate_left
  refine ⟨fun h13 => have q13 := bnot_t h13; have p13 := of_decide_eq_false q13; ?_, fun h13 => have q13 := bnot_f h13; have p13 := of_decide_eq_true q13; ?_⟩
  refine ⟨h10, (topL_i d (by omega)), dsp (fun h14 p14 => ?_) fun h14 p14 => ?_⟩
  refine ⟨(sB ?_), rfl⟩
  rotate_left
  refine ⟨(modeD_i d (by omega)), fun h15 => ?_, fun h15 => ?_⟩
  refine ⟨(scanD_i d (by omega)), (sB ?_), rfl⟩
  rotate_left
  refine ⟨(sB ?_), rfl⟩
  rotate_left
  refine ⟨(modeD_i d (by omega)), fun h14 => ?_, fun h14 => ?_⟩
  refine ⟨(scanD_i d (by omega)), (sB ?_), rfl⟩
  rotate_left
  refine ⟨(sB ?_), rfl⟩
  rotate_left
  refine dsp (fun h11 p11 => ?_) fun h11 p11 => ?_
  refine dsp (fun h12 p12 => ?_) fun h12 p12 => ?_
  refine ⟨(sB ?_), rfl⟩
  rotate_left
  refine ⟨fun h13 => have q13 := bnot_t h13; have p13 := of_decide_eq_false q13; ?_, fun h13 => have q13 := bnot_f h13; have p13 := of_decide_eq_true q13; ?_⟩
  refine ⟨h10, (modeD_i d (by omega)), fun h14 => ?_, fun h14 => ?_⟩
  refine ⟨(scanD_i d (by omega)), (sB ?_), rfl⟩
  rotate_left
  refine ⟨(sB ?_), rfl⟩
  rotate_left
  refine ⟨(modeD_i d (by omega)), fun h14 => ?_, fun h14 => ?_⟩
  refine ⟨(scanD_i d (by omega)), (sB ?_), rfl⟩
  rotate_left
  refine ⟨(sB ?_), rfl⟩
  rotate_left
  refine ⟨fun h12 => have q12 := bnot_t h12; have p12 := of_decide_eq_false q12; ?_, fun h12 => have q12 := bnot_f h12; have p12 := of_decide_eq_true q12; ?_⟩
  refine ⟨h10, (modeD_i d (by omega)), fun h13 => ?_, fun h13 => ?_⟩
  refine ⟨(scanD_i d (by omega)), (sB ?_), rfl⟩
  rotate_left
  refine ⟨(sB ?_), rfl⟩
  rotate_left
  refine ⟨(modeD_i d (by omega)), fun h13 => ?_, fun h13 => ?_⟩
  refine ⟨(scanD_i d (by omega)), (sB ?_), rfl⟩
  rotate_left
  refine ⟨(sB ?_), rfl⟩
  rotate_left
  refine dsp (fun h8 p8 => ?_) fun h8 p8 => ?_
  refine ⟨(eventOk_i d.end_), fun h9 => have q9 := bnot_t h9; ?_, fun h9 => have q9 := bnot_f h9; ?_⟩
  refine ⟨(sB ?_), rfl⟩
  rotate_left
  refine ⟨(terminal_i d.end_), fun h10 => have q10 := bnot_t h10; ?_, fun h10 => have q10 := bnot_f h10; ?_⟩
  refine ⟨(sB ?_), rfl⟩
  rotate_left
  refine ⟨fun h11 => have q11 := bnot_t h11; have p11 := of_decide_eq_false q11; ?_, fun h11 => have q11 := bnot_f h11; have p11 := of_decide_eq_true q11; ?_⟩
  refine ⟨fun h12 => have q12 := bnot_t h12; have p12 := (andF dT (andF dT (andF dT (andF dT (andF dT (andF dT dF)))))).1 q12; ?_, fun h12 => have q12 := bnot_f h12; have p12 := (andT dT (andT dT (andT dT (andT dT (andT dT (andT dT dT)))))).1 q12; ?_⟩
  refine ⟨(sB ?_), rfl⟩
  rotate_left
  refine dsp (fun h13 p13 => ?_) fun h13 p13 => ?_
  refine dsp (fun h14 p14 => ?_) fun h14 p14 => ?_
  refine ⟨(sB ?_), rfl⟩
  rotate_left
  refine ⟨fun h15 => have q15 := bnot_t h15; have p15 := of_decide_eq_false q15; ?_, fun h15 => have q15 := bnot_f h15; have p15 := of_decide_eq_true q15; ?_⟩
  refine ⟨h11, (topL_i d (by omega)), dsp (fun h16 p16 => ?_) fun h16 p16 => ?_⟩
  refine ⟨(sB ?_), rfl⟩
  rotate_left
  refine ⟨(modeD_i d (by omega)), fun h17 => ?_, fun h17 => ?_⟩
  refine ⟨(scanD_i d (by omega)), (sB ?_), rfl⟩
  rotate_left
  refine ⟨(sB ?_), rfl⟩
  rotate_left
  refine ⟨(modeD_i d (by omega)), fun h16 => ?_, fun h16 => ?_⟩
  refine ⟨(scanD_i d (by omega)), (sB ?_), rfl⟩
  rotate_left
  refine ⟨(sB ?_), rfl⟩
  rotate_left
  refine ⟨fun h14 => have q14 := bnot_t h14; have p14 := of_decide_eq_false q14; ?_, fun h14 => have q14 := bnot_f h14; have p14 := of_decide_eq_true q14; ?_⟩
  refine ⟨h11, (topL_i d (by omega)), dsp (fun h15 p15 => ?_) fun h15 p15 => ?_⟩
  refine ⟨(sB ?_), rfl⟩
  rotate_left
  refine ⟨(modeD_i d (by omega)), fun h16 => ?_, fun h16 => ?_⟩
  refine ⟨(scanD_i d (by omega)), (sB ?_), rfl⟩
  rotate_left
  refine ⟨(sB ?_), rfl⟩
  rotate_left
  refine ⟨(modeD_i d (by omega)), fun h15 => ?_, fun h15 => ?_⟩
  refine ⟨(scanD_i d (by omega)), (sB ?_), rfl⟩
  rotate_left
  refine ⟨(sB ?_), rfl⟩
  rotate_left
  refine dsp (fun h12 p12 => ?_) fun h12 p12 => ?_
  refine dsp (fun h13 p13 => ?_) fun h13 p13 => ?_
  refine ⟨(sB ?_), rfl⟩
  rotate_left
  refine ⟨fun h14 => have q14 := bnot_t h14; have p14 := of_decide_eq_false q14; ?_, fun h14 => have q14 := bnot_f h14; have p14 := of_decide_eq_true q14; ?_⟩
  refine ⟨h11, (modeD_i d (by omega)), fun h15 => ?_, fun h15 => ?_⟩
  refine ⟨(scanD_i d (by omega)), (sB ?_), rfl⟩
  rotate_left
  refine ⟨(sB ?_), rfl⟩
  rotate_left
  refine ⟨(modeD_i d (by omega)), fun h15 => ?_, fun h15 => ?_⟩
  refine ⟨(scanD_i d (by omega)), (sB ?_), rfl⟩
  rotate_left
  refine ⟨(sB ?_), rfl⟩
  rotate_left
  refine ⟨fun h13 => have q13 := bnot_t h13; have p13 := of_decide_eq_false q13; ?_, fun h13 => have q13 := bnot_f h13; have p13 := of_decide_eq_true q13; ?_⟩
  refine ⟨h11, (modeD_i d (by omega)), fun h14 => ?_, fun h14 => ?_⟩
  refine ⟨(scanD_i d (by omega)), (sB ?_), rfl⟩
  rotate_left
  refine ⟨(sB ?_), rfl⟩
  rotate_left
  refine ⟨(modeD_i d (by omega)), fun h14 => ?_, fun h14 => ?_⟩
  refine ⟨(scanD_i d (by omega)), (sB ?_), rfl⟩
  rotate_left
  refine ⟨(sB ?_), rfl⟩
  rotate_left
  refine ⟨fun h9 => have q9 := bnot_t h9; have p9 := of_decide_eq_false q9; ?_, fun h9 => have q9 := bnot_f h9; have p9 := of_decide_eq_true q9; ?_⟩
  refine ⟨fun h10 => have q10 := bnot_t h10; have p10 := (andF dT (andF dT (andF dT (andF dT (andF dT (andF dT dF)))))).1 q10; ?_, fun h10 => have q10 := bnot_f h10; have p10 := (andT dT (andT dT (andT dT (andT dT (andT dT (andT dT dT)))))).1 q10; ?_⟩
  refine ⟨(sB ?_), rfl⟩
  rotate_left
  refine dsp (fun h11 p11 => ?_) fun h11 p11 => ?_
  refine dsp (fun h12 p12 => ?_) fun h12 p12 => ?_
  refine ⟨(sB ?_), rfl⟩
  rotate_left
  refine ⟨fun h13 => have q13 := bnot_t h13; have p13 := of_decide_eq_false q13; ?_, fun h13 => have q13 := bnot_f h13; have p13 := of_decide_eq_true q13; ?_⟩
  refine ⟨h9, (topL_i d (by omega)), dsp (fun h14 p14 => ?_) fun h14 p14 => ?_⟩
  refine ⟨(sB ?_), rfl⟩
  rotate_left
  refine ⟨(modeD_i d (by omega)), fun h15 => ?_, fun h15 => ?_⟩
  refine ⟨(scanD_i d (by omega)), (sB ?_), rfl⟩
  rotate_left
  refine ⟨(sB ?_), rfl⟩
  rotate_left
  refine ⟨(modeD_i d (by omega)), fun h14 => ?_, fun h14 => ?_⟩
  refine ⟨(scanD_i d (by omega)), (sB ?_), rfl⟩
  rotate_left
  refine ⟨(sB ?_), rfl⟩
  rotate_left
  refine ⟨fun h12 => have q12 := bnot_t h12; have p12 := of_decide_eq_false q12; ?_, fun h12 => have q12 := bnot_f h12; have p12 := of_decide_eq_true q12; ?_⟩
  refine ⟨h9, (topL_i d (by omega)), dsp (fun h13 p13 => ?_) fun h13 p13 => ?_⟩
  refine ⟨(sB ?_), rfl⟩
  rotate_left
  refine ⟨(modeD_i d (by omega)), fun h14 => ?_, fun h14 => ?_⟩
  refine ⟨(scanD_i d (by omega)), (sB ?_), rfl⟩
  rotate_left
  refine ⟨(sB ?_), rfl⟩
  rotate_left
  refine ⟨(modeD_i d (by omega)), fun h13 => ?_, fun h13 => ?_⟩
  refine ⟨(scanD_i d (by omega)), (sB ?_), rfl⟩
  rotate_left
  refine ⟨(sB ?_), rfl⟩
  rotate_left
  refine dsp (fun h10 p10 => ?_) fun h10 p10 => ?_
  refine dsp (fun h11 p11 => ?_) fun h11 p11 => ?_
  refine ⟨(sB ?_), rfl⟩
  rotate_left
  refine ⟨fun h12 => have q12 := bnot_t h12; have p12 := of_decide_eq_false q12; ?_, fun h12 => have q12 := bnot_f h12; have p12 := of_decide_eq_true q12; ?_⟩
  refine ⟨h9, (modeD_i d (by omega)), fun h13 => ?_, fun h13 => ?_⟩
  refine ⟨(scanD_i d (by omega)), (sB ?_), rfl⟩
  rotate_left
  refine ⟨(sB ?_), rfl⟩
  rotate_left
  refine ⟨(modeD_i d (by omega)), fun h13 => ?_, fun h13 => ?_⟩
  refine ⟨(scanD_i d (by omega)), (sB ?_), rfl⟩
  rotate_left
  refine ⟨(sB ?_), rfl⟩
  rotate_left
  refine ⟨fun h11 => have q11 := bnot_t h11; have p11 := of_decide_eq_false q11; ?_, fun h11 => have q11 := bnot_f h11; have p11 := of_decide_eq_true q11; ?_⟩
  refine ⟨h9, (modeD_i d (by omega)), fun h12 => ?_, fun h12 => ?_⟩
  refine ⟨(scanD_i d (by omega)), (sB ?_), rfl⟩
  rotate_left
  refine ⟨(sB ?_), rfl⟩
  rotate_left
  refine ⟨(modeD_i d (by omega)), fun h12 => ?_, fun h12 => ?_⟩
  refine ⟨(scanD_i d (by omega)), (sB ?_), rfl⟩
  rotate_left
  refine ⟨(sB ?_), rfl⟩
  rotate_left
  all_goals first | (simp_all [decOk, endD, stackD, fld_zeroI, ev_zero]; done) | (grind [decOk, endD, stackD, fld_zeroI, ev_zero])
structure decOk_s_J1000003_V where
  v : Bool
def decOk_s_J1000003_F (d : Dcd) : Fam := ⟨decOk_s_J1000003_V, fun j1000003 => [(1, .v (vP 0)), (76, .v (vB j1000003.v))], fun _ => [.cells (cDcd d)], fun j1000003 => j1000003.v = !endD d, fun _ => 0⟩
structure decOk_s_J0_V where
  u_ : Nat
def decOk_s_J0_F (d : Dcd) : Fam := ⟨decOk_s_J0_V, fun j0 => [(1, .v (vP 0))], fun _ => [.cells (cDcd d)], fun _ => wantD d = true, fun _ => 0⟩
structure decOk_s_J1000013_V where
  wires : Bool
def decOk_s_J1000013_F (d : Dcd) : Fam := ⟨decOk_s_J1000013_V, fun j1000013 => [(1, .v (vP 0)), (3, .v (vB j1000013.wires))], fun _ => [.cells (cDcd d)], fun j1000013 => j1000013.wires = wiresS d, fun _ => 0⟩
structure decOk_s_J1000014_V where
  v : Bool
def decOk_s_J1000014_F (d : Dcd) (j1000013 : decOk_s_J1000013_V) : Fam := ⟨decOk_s_J1000014_V, fun j1000014 => [(1, .v (vP 0)), (140, .v (vB j1000014.v))], fun _ => [.cells (cDcd d)], fun j1000014 => j1000014.v = (j1000013.wires || (within d.mode 3 5 && (!decide (d.field = fld0) && !allowed d.field d.wire))), fun _ => 0⟩
theorem decOk_s (d : Dcd) (hp1 : List.length (d).stack ≤ bigN) (hp2 : List.length (d).plan.shapes ≤ bigN) : Fun Tryz.prog 104 [.agg (cDcd d)] [] (.v (vB (decOk d))) [] := by
  have hN : bigN = 274877906944 := rfl
  refine fun_ofw Tryz.func104 (by kernel_rfl) (by kernel_rfl) (w := let z4 := ([] : List Blk); let z5 := (.v (vB false) : S); let z6 := vB (decOk d); let z7 : List Blk := [.cells (cDcd d)]; let z8 := within d.want 1 (topL d); let z9 := vB (scanS d); let z10 := decide ((d).field = fld0) || known (d).plan.shapes (d).field; let z11 := decOk_s_J1000013_F d; let z12 := runs d.field; let z13 := !(decide (d.field.number = 0) && (decide (d.field.kind = 0) && (decide (d.field.rep = false) && (decide (d.field.packed = false) && decide (d.field.msg = 0))))); let z14 := !decide (d.mode = 8); let z15 := vI (widthOf d.wire); let z16 := decOk_s_J1000003_F d; let z3 := (!decide (d.mode = 9)) = true → z16.Has [(1, .v (vP 0)), (76, .v (vB (!(decide (d.end_.kind = 0) && (decide (d.end_.field = 0) && (decide (d.end_.bits = 0) && (decide (d.end_.len = 0) && (decide (d.end_.text = []) && (decide (d.end_.code = 0) && decide (d.end_.at_ = 0))))))))))] z7; let z18 := z12 = false → z5 = .v z6 ∧ z4 = []; let z19 := vB (decide (widthOf d.wire = 0)); let z20 := (!decide (d.mode = 9)) = false → z16.Has [(1, .v (vP 0)), (76, .v (vB false))] z7; let z22 := within d.at_ 0 1000000000; let z23 := decide (d.mode = 5); let z2 := z23 = false → z11.Has [(1, .v (vP 0)), (3, .v (vB false))] z7; let z24 := (!z8) = true → z5 = .v z6 ∧ z4 = []; let z25 := within d.start 0 d.at_; let z26 := !decide (d.mode = 6); let z27 := (.v z9 : S); let z28 := decide (d.mode = 4); let z29 := vI (topL d); let z30 := within d.mode 1 9; let z31 := within d.mode 3 5; let z32 : List V := [vI d.want, vI 1, vI (topL d)]; let z33 := cFld d.field; let z34 := terminal d.end_; let z35 := allowed d.field d.wire; let z36 := eventOk d.end_; let z37 := decOk_s_J0_F d; let z17 := (!z8) = false → z37.Has [(1, .v (vP 0))] z7; let z38 := !decide (d.wire = 2); let z21 := z38 = true → z11.Has [(1, .v (vP 0)), (3, .v (vB true))] z7; let z39 := planOk d.plan; let z40 := wireOk d.wire; let z41 := decide (d.mode = 6); let z42 := decide (d.mode = 7); let z43 := utfOk d.utf; (.seg [.call [] (.v (vB z39)) []] (.br (.leaf () []) (.seg [.call [] (.v (vB z30)) []] (.br (.leaf () []) (.seg [.call [] (.v (vB z22)) []] (.br (.leaf () []) (.seg [.call [] (.v (vB z25)) []] (.br (.leaf () []) (.seg [.call [] (.v (vB z43)) []] (.br (.leaf () []) (.seg [.call [] (.v (vB z40)) []] (.br (.leaf () []) (.seg [.call [] (.v (vB z10)) []] (.br (.leaf () []) (.seg [.call [] (.v (vB (stackS d))) []] (.br (.leaf () []) (.join 1000003 z16 (.br (.seg [.call [] (.v (vB z36)) []] (.br (.seg [.at 0, .keep [1, 76], .sel [0]] (.next)) (.seg [.call [] (.v (vB z34)) []] (.br (.seg [.at 0, .keep [1, 76], .sel [0]] (.next)) (.br (.seg [.at 0, .keep [1, 76], .sel [0]] (.next)) (.seg [.at 0, .keep [1, 76], .sel [0]] (.next))))))) (.br (.seg [.at 0, .keep [1, 76], .sel [0]] (.next)) (.seg [.at 0, .keep [1, 76], .sel [0]] (.next)))) fun j1000003 => .br (.leaf () []) (.join 0 z37 (.br (.seg [.br true, .ord (os 6 [3, 4]) [], .call [] (.v z29) [], .call [] (.v (vB z8)) []] (.br (.leaf () []) (.seg [.at 0, .keep [1], .sel [0]] (.next)))) (.br (.seg [.br true, .ord (os 6 [3, 4]) [], .call [] (.v z29) [], .call [] (.v (vB z8)) []] (.br (.leaf () []) (.seg [.at 0, .keep [1], .sel [0]] (.next)))) (.br (.seg [.ord (os 6 [3, 4]) [], .call [] (.v z29) [], .call [] (.v (vB z8)) []] (.br (.leaf () []) (.seg [.at 0, .keep [1], .sel [0]] (.next)))) (.br (.leaf () []) (.seg [.at 0, .keep [1], .sel [0]] (.next)))))) fun j0 => .join 1000013 z11 (.br (.br (.seg [.at 0, .keep [1, 3], .sel [0]] (.next)) (.br (.br (.seg [.at 0, .keep [1, 3], .sel [0]] (.next)) (.br (.seg [.call [] (.v z15) [], .at 0, .keep [1, 3], .sel [0]] (.next)) (.seg [.at 0, .keep [1, 3], .sel [0]] (.next)))) (.br (.seg [.call [] (.v z15) [], .at 0, .keep [1, 3], .sel [0]] (.next)) (.seg [.at 0, .keep [1, 3], .sel [0]] (.next))))) (.br (.br (.seg [.at 0, .keep [1, 3], .sel [0]] (.next)) (.br (.seg [.call [] (.v z15) [], .at 0, .keep [1, 3], .sel [0]] (.next)) (.seg [.at 0, .keep [1, 3], .sel [0]] (.next)))) (.br (.seg [.call [] (.v z15) [], .at 0, .keep [1, 3], .sel [0]] (.next)) (.seg [.at 0, .keep [1, 3], .sel [0]] (.next))))) fun j1000013 => .join 1000014 (decOk_s_J1000014_F d j1000013) (.br (.seg [.at 0, .keep [1, 140], .sel [0]] (.next)) (.seg [.call [] (.v (vB z31)) []] (.br (.br (.seg [.call [] (.v (vB z35)) [], .at 0, .keep [1, 140], .sel [0]] (.next)) (.seg [.at 0, .keep [1, 140], .sel [0]] (.next))) (.seg [.at 0, .keep [1, 140], .sel [0]] (.next))))) fun j1000014 => .br (.leaf () []) (.br (.br (.br (.seg [.call [] (.v z9) []] (.leaf () [])) (.seg [.call [] (.v (vB z12)) []] (.br (.seg [.call [] (.v z9) []] (.leaf () [])) (.leaf () [])))) (.br (.seg [.call [] (.v z9) []] (.leaf () [])) (.seg [.call [] (.v (vB z12)) []] (.br (.seg [.call [] (.v z9) []] (.leaf () [])) (.leaf () []))))) (.br (.br (.seg [.call [] (.v z9) []] (.leaf () [])) (.seg [.call [] (.v (vB z12)) []] (.br (.seg [.call [] (.v z9) []] (.leaf () [])) (.leaf () [])))) (.br (.br (.seg [.call [] (.v z9) []] (.leaf () [])) (.seg [.call [] (.v (vB z12)) []] (.br (.seg [.call [] (.v z9) []] (.leaf () [])) (.leaf () [])))) (.leaf () []))))))))))))))))))))), (Fun Tryz.prog 102 [.agg (cPln d.plan)] [] (.v (vB z39)) []) ∧ ((!z39) = true → z5 = .v z6 ∧ z4 = []) ∧ ((!z39) = false → (Fun Tryz.prog 105 [vI d.mode, vI 1, vI 9] [] (.v (vB z30)) []) ∧ ((!z30) = true → z5 = .v z6 ∧ z4 = []) ∧ ((!z30) = false → (Fun Tryz.prog 105 [vI d.at_, vI 0, vI 1000000000] [] (.v (vB z22)) []) ∧ ((!z22) = true → z5 = .v z6 ∧ z4 = []) ∧ ((!z22) = false → (Fun Tryz.prog 105 [vI d.start, vI 0, vI d.at_] [] (.v (vB z25)) []) ∧ ((!z25) = true → z5 = .v z6 ∧ z4 = []) ∧ ((!z25) = false → (Fun Tryz.prog 144 [.agg (cUtf d.utf)] [] (.v (vB z43)) []) ∧ ((!z43) = true → z5 = .v z6 ∧ z4 = []) ∧ ((!z43) = false → (Fun Tryz.prog 145 [vI d.wire] [] (.v (vB z40)) []) ∧ ((!z40) = true → z5 = .v z6 ∧ z4 = []) ∧ ((!z40) = false → (Fun Tryz.prog 146 [.agg (cDcd d)] [] (.v (vB z10)) []) ∧ ((!z10) = true → z5 = .v z6 ∧ z4 = []) ∧ ((!z10) = false → (Fun Tryz.prog 147 [.agg (cDcd d)] [] (.v (vB (stackS d))) []) ∧ ((!(stackS d)) = true → z5 = .v z6 ∧ z4 = []) ∧ ((!(stackS d)) = false → (((decide (d.mode = 9)) = true → (Fun Tryz.prog 148 [.agg (cEv d.end_)] [] (.v (vB z36)) []) ∧ ((!z36) = true → z16.Has [(1, .v (vP 0)), (76, .v (vB true))] z7) ∧ ((!z36) = false → (Fun Tryz.prog 132 [.agg (cEv d.end_)] [] (.v (vB z34)) []) ∧ ((!z34) = true → z16.Has [(1, .v (vP 0)), (76, .v (vB true))] z7) ∧ ((!z34) = false → z3 ∧ z20))) ∧ ((decide (d.mode = 9)) = false → z3 ∧ z20)) ∧ ∀ j1000003, z16.inv j1000003 → ((j1000003.v = true → z5 = .v z6 ∧ z4 = []) ∧ (j1000003.v = false → ((z41 = true → (z41 = true) ∧ (Fun Tryz.prog 149 [.agg (cDcd d)] [] (.v z29) []) ∧ (Fun Tryz.prog 105 z32 [] (.v (vB z8)) []) ∧ z24 ∧ z17) ∧ (z41 = false → (z42 = true → (z42 = true) ∧ (Fun Tryz.prog 149 [.agg (cDcd d)] [] (.v z29) []) ∧ (Fun Tryz.prog 105 z32 [] (.v (vB z8)) []) ∧ z24 ∧ z17) ∧ (z42 = false → ((decide (d.mode = 8)) = true → (Fun Tryz.prog 149 [.agg (cDcd d)] [] (.v z29) []) ∧ (Fun Tryz.prog 105 z32 [] (.v (vB z8)) []) ∧ z24 ∧ z17) ∧ ((decide (d.mode = 8)) = false → ((!decide (d.want = 0)) = true → z5 = .v z6 ∧ z4 = []) ∧ ((!decide (d.want = 0)) = false → z37.Has [(1, .v (vP 0))] z7))))) ∧ ∀ j0, z37.inv j0 → ((((decide (d.mode = 3)) = true → ((!decide (d.wire = 0)) = true → z11.Has [(1, .v (vP 0)), (3, .v (vB true))] z7) ∧ ((!decide (d.wire = 0)) = false → (z28 = true → z21 ∧ (z38 = false → (z23 = true → (Fun Tryz.prog 150 [vI d.wire] [] (.v z15) []) ∧ z11.Has [(1, .v (vP 0)), (3, .v z19)] z7) ∧ z2)) ∧ (z28 = false → (z23 = true → (Fun Tryz.prog 150 [vI d.wire] [] (.v z15) []) ∧ z11.Has [(1, .v (vP 0)), (3, .v z19)] z7) ∧ z2))) ∧ ((decide (d.mode = 3)) = false → (z28 = true → z21 ∧ (z38 = false → (z23 = true → (Fun Tryz.prog 150 [vI d.wire] [] (.v z15) []) ∧ z11.Has [(1, .v (vP 0)), (3, .v z19)] z7) ∧ z2)) ∧ (z28 = false → (z23 = true → (Fun Tryz.prog 150 [vI d.wire] [] (.v z15) []) ∧ z11.Has [(1, .v (vP 0)), (3, .v z19)] z7) ∧ z2))) ∧ ∀ j1000013, z11.inv j1000013 → (let z1 := decOk_s_J1000014_F d j1000013; ((j1000013.wires = true → z1.Has [(1, .v (vP 0)), (140, .v (vB true))] z7) ∧ (j1000013.wires = false → (Fun Tryz.prog 105 [vI d.mode, vI 3, vI 5] [] (.v (vB z31)) []) ∧ (z31 = true → (z13 = true → (Fun Tryz.prog 151 [.agg z33, vI d.wire] [] (.v (vB z35)) []) ∧ z1.Has [(1, .v (vP 0)), (140, .v (vB (!z35)))] z7) ∧ (z13 = false → z1.Has [(1, .v (vP 0)), (140, .v (vB false))] z7)) ∧ (z31 = false → z1.Has [(1, .v (vP 0)), (140, .v (vB false))] z7))) ∧ ∀ j1000014, z1.inv j1000014 → ((j1000014.v = true → z5 = .v z6 ∧ z4 = []) ∧ (j1000014.v = false → ((decide (d.field.kind = 6)) = true → (z26 = true → (z14 = true → (Fun Tryz.prog 153 [.agg (cDcd d)] [] (.v z9) []) ∧ z27 = .v z6 ∧ z4 = []) ∧ (z14 = false → (Fun Tryz.prog 152 [.agg z33] [] (.v (vB z12)) []) ∧ (z12 = true → (Fun Tryz.prog 153 [.agg (cDcd d)] [] (.v z9) []) ∧ z27 = .v z6 ∧ z4 = []) ∧ z18)) ∧ (z26 = false → (z14 = true → (Fun Tryz.prog 153 [.agg (cDcd d)] [] (.v z9) []) ∧ z27 = .v z6 ∧ z4 = []) ∧ (z14 = false → (Fun Tryz.prog 152 [.agg z33] [] (.v (vB z12)) []) ∧ (z12 = true → (Fun Tryz.prog 153 [.agg (cDcd d)] [] (.v z9) []) ∧ z27 = .v z6 ∧ z4 = []) ∧ z18))) ∧ ((decide (d.field.kind = 6)) = false → (z26 = true → (z14 = true → (Fun Tryz.prog 153 [.agg (cDcd d)] [] (.v z9) []) ∧ z27 = .v z6 ∧ z4 = []) ∧ (z14 = false → (Fun Tryz.prog 152 [.agg z33] [] (.v (vB z12)) []) ∧ (z12 = true → (Fun Tryz.prog 153 [.agg (cDcd d)] [] (.v z9) []) ∧ z27 = .v z6 ∧ z4 = []) ∧ z18)) ∧ (z26 = false → ((decide (d.field.kind = 7)) = true → (z14 = true → (Fun Tryz.prog 153 [.agg (cDcd d)] [] (.v z9) []) ∧ z27 = .v z6 ∧ z4 = []) ∧ (z14 = false → (Fun Tryz.prog 152 [.agg z33] [] (.v (vB z12)) []) ∧ (z12 = true → (Fun Tryz.prog 153 [.agg (cDcd d)] [] (.v z9) []) ∧ z27 = .v z6 ∧ z4 = []) ∧ z18)) ∧ ((decide (d.field.kind = 7)) = false → z5 = .v z6 ∧ z4 = []))))))))))))))))))) (by kernel_rfl) ?_
  refine ⟨(planOk_s d.plan), fun h1 => have q1 := bnot_t h1; ?_, fun h1 => have q1 := bnot_f h1; have p1 := planOk_t q1; ?_⟩
  refine ⟨(sB ?_), rfl⟩
  rotate_left
  have hpt := planOk_t q1
  refine ⟨(within_s _ _ _), fun h2 => have q2 := bnot_t h2; have p2 := within_f q2; ?_, fun h2 => have q2 := bnot_f h2; have p2 := within_t q2; ?_⟩
  refine ⟨(sB ?_), rfl⟩
  rotate_left
  refine ⟨(within_s _ _ _), fun h3 => have q3 := bnot_t h3; have p3 := within_f q3; ?_, fun h3 => have q3 := bnot_f h3; have p3 := within_t q3; ?_⟩
  refine ⟨(sB ?_), rfl⟩
  rotate_left
  refine ⟨(within_s _ _ _), fun h4 => have q4 := bnot_t h4; have p4 := within_f q4; ?_, fun h4 => have q4 := bnot_f h4; have p4 := within_t q4; ?_⟩
  refine ⟨(sB ?_), rfl⟩
  rotate_left
  refine ⟨(utfOk_s d.utf), fun h5 => have q5 := bnot_t h5; ?_, fun h5 => have q5 := bnot_f h5; have p5 := utfOk_want q5; ?_⟩
  refine ⟨(sB ?_), rfl⟩
  rotate_left
  refine ⟨(wireOk_s _), fun h6 => have q6 := bnot_t h6; ?_, fun h6 => have q6 := bnot_f h6; ?_⟩
  refine ⟨(sB ?_), rfl⟩
  rotate_left
  have hwk := wireOk_t (w := d.wire) q6
  refine ⟨(fieldOkD_s d (by omega) (schemaOk_fields hpt.2.1)), fun h7 => have q7 := bnot_t h7; have p7 := (orF dF Iff.rfl).1 q7; ?_, fun h7 => have q7 := bnot_f h7; have p7 := (orT dT Iff.rfl).1 q7; ?_⟩
  refine ⟨(sB ?_), rfl⟩
  rotate_left
  refine ⟨(stackS_s d (by omega) (by omega)), fun h8 => have q8 := bnot_t h8; ?_, fun h8 => have q8 := bnot_f h8; ?_⟩
  refine ⟨(sB ?_), rfl⟩
  rotate_left
  refine ⟨?_, fun (j1000003 : decOk_s_J1000003_V) hq_j1000003 => ?_⟩
  refine dsp (fun h10 p10 => ?_) fun h10 p10 => ?_
  refine ⟨(eventOk_s d.end_), fun h11 => have q11 := bnot_t h11; ?_, fun h11 => have q11 := bnot_f h11; ?_⟩
  exact has_of (j := (⟨true⟩ : decOk_s_J1000003_V)) rfl rfl (by dsimp only [decOk_s_J1000003_F]; first | ((simp_all [endD, ev_zero]; done)) | (grind [endD, ev_zero]))
  refine ⟨(terminal_s d.end_), fun h12 => have q12 := bnot_t h12; ?_, fun h12 => have q12 := bnot_f h12; ?_⟩
  exact has_of (j := (⟨true⟩ : decOk_s_J1000003_V)) rfl rfl (by dsimp only [decOk_s_J1000003_F]; first | ((simp_all [endD, ev_zero]; done)) | (grind [endD, ev_zero]))
  refine ⟨fun h13 => have q13 := bnot_t h13; have p13 := of_decide_eq_false q13; ?_, fun h13 => have q13 := bnot_f h13; have p13 := of_decide_eq_true q13; ?_⟩
  exact has_of (j := (⟨!(decide (d.end_.kind = 0) && (decide (d.end_.field = 0) && (decide (d.end_.bits = 0) && (decide (d.end_.len = 0) && (decide (d.end_.text = []) && (decide (d.end_.code = 0) && decide (d.end_.at_ = 0)))))))⟩ : decOk_s_J1000003_V)) rfl rfl (by dsimp only [decOk_s_J1000003_F]; first | ((simp_all [endD, ev_zero]; done)) | (grind [endD, ev_zero]))
  exact has_of (j := (⟨false⟩ : decOk_s_J1000003_V)) rfl rfl (by dsimp only [decOk_s_J1000003_F]; first | ((simp_all [endD, ev_zero]; done)) | (grind [endD, ev_zero]))
  refine ⟨fun h11 => have q11 := bnot_t h11; have p11 := of_decide_eq_false q11; ?_, fun h11 => have q11 := bnot_f h11; have p11 := of_decide_eq_true q11; ?_⟩
  exact has_of (j := (⟨!(decide (d.end_.kind = 0) && (decide (d.end_.field = 0) && (decide (d.end_.bits = 0) && (decide (d.end_.len = 0) && (decide (d.end_.text = []) && (decide (d.end_.code = 0) && decide (d.end_.at_ = 0)))))))⟩ : decOk_s_J1000003_V)) rfl rfl (by dsimp only [decOk_s_J1000003_F]; first | ((simp_all [endD, ev_zero]; done)) | (grind [endD, ev_zero]))
  exact has_of (j := (⟨false⟩ : decOk_s_J1000003_V)) rfl rfl (by dsimp only [decOk_s_J1000003_F]; first | ((simp_all [endD, ev_zero]; done)) | (grind [endD, ev_zero]))
  have hi_j1000003 : j1000003.v = !endD d := hq_j1000003
  refine ⟨fun h10 => ?_, fun h10 => ?_⟩
  refine ⟨(sB ?_), rfl⟩
  rotate_left
  refine ⟨?_, fun (j0 : decOk_s_J0_V) hq_j0 => ?_⟩
  refine dsp (fun h12 p12 => ?_) fun h12 p12 => ?_
  refine ⟨h12, (topL_s d (by omega)), (within_s _ _ _), fun h13 => have q13 := bnot_t h13; have p13 := within_f q13; ?_, fun h13 => have q13 := bnot_f h13; have p13 := within_t q13; ?_⟩
  refine ⟨(sB ?_), rfl⟩
  rotate_left
  exact has_of (j := (⟨0⟩ : decOk_s_J0_V)) rfl rfl (by dsimp only [decOk_s_J0_F]; first | ((simp_all [wantD]; done)) | (grind [wantD]))
  refine dsp (fun h13 p13 => ?_) fun h13 p13 => ?_
  refine ⟨h13, (topL_s d (by omega)), (within_s _ _ _), fun h14 => have q14 := bnot_t h14; have p14 := within_f q14; ?_, fun h14 => have q14 := bnot_f h14; have p14 := within_t q14; ?_⟩
  refine ⟨(sB ?_), rfl⟩
  rotate_left
  exact has_of (j := (⟨0⟩ : decOk_s_J0_V)) rfl rfl (by dsimp only [decOk_s_J0_F]; first | ((simp_all [wantD]; done)) | (grind [wantD]))
  refine dsp (fun h14 p14 => ?_) fun h14 p14 => ?_
  refine ⟨(topL_s d (by omega)), (within_s _ _ _), fun h15 => have q15 := bnot_t h15; have p15 := within_f q15; ?_, fun h15 => have q15 := bnot_f h15; have p15 := within_t q15; ?_⟩
  refine ⟨(sB ?_), rfl⟩
  rotate_left
  exact has_of (j := (⟨0⟩ : decOk_s_J0_V)) rfl rfl (by dsimp only [decOk_s_J0_F]; first | ((simp_all [wantD]; done)) | (grind [wantD]))
  refine ⟨fun h15 => have q15 := bnot_t h15; have p15 := of_decide_eq_false q15; ?_, fun h15 => have q15 := bnot_f h15; have p15 := of_decide_eq_true q15; ?_⟩
  refine ⟨(sB ?_), rfl⟩
  rotate_left
  exact has_of (j := (⟨0⟩ : decOk_s_J0_V)) rfl rfl (by dsimp only [decOk_s_J0_F]; first | ((simp_all [wantD]; done)) | (grind [wantD]))
  have hi_j0 : wantD d = true := hq_j0
  refine ⟨?_, fun (j1000013 : decOk_s_J1000013_V) hq_j1000013 => ?_⟩
  refine dsp (fun h13 p13 => ?_) fun h13 p13 => ?_
  refine ⟨fun h14 => have q14 := bnot_t h14; have p14 := of_decide_eq_false q14; ?_, fun h14 => have q14 := bnot_f h14; have p14 := of_decide_eq_true q14; ?_⟩
  exact has_of (j := (⟨true⟩ : decOk_s_J1000013_V)) rfl rfl (by dsimp only [decOk_s_J1000013_F]; first | ((simp_all [wiresS]; done)) | (grind [wiresS]))
  refine dsp (fun h15 p15 => ?_) fun h15 p15 => ?_
  refine ⟨fun h16 => have q16 := bnot_t h16; have p16 := of_decide_eq_false q16; ?_, fun h16 => have q16 := bnot_f h16; have p16 := of_decide_eq_true q16; ?_⟩
  exact has_of (j := (⟨true⟩ : decOk_s_J1000013_V)) rfl rfl (by dsimp only [decOk_s_J1000013_F]; first | ((simp_all [wiresS]; done)) | (grind [wiresS]))
  refine dsp (fun h17 p17 => ?_) fun h17 p17 => ?_
  exact ⟨(widthOf_s _), has_of (j := (⟨decide (widthOf d.wire = 0)⟩ : decOk_s_J1000013_V)) rfl rfl (by dsimp only [decOk_s_J1000013_F]; first | ((simp_all [wiresS]; done)) | (grind [wiresS]))⟩
  exact has_of (j := (⟨false⟩ : decOk_s_J1000013_V)) rfl rfl (by dsimp only [decOk_s_J1000013_F]; first | ((simp_all [wiresS]; done)) | (grind [wiresS]))
  refine dsp (fun h16 p16 => ?_) fun h16 p16 => ?_
  exact ⟨(widthOf_s _), has_of (j := (⟨decide (widthOf d.wire = 0)⟩ : decOk_s_J1000013_V)) rfl rfl (by dsimp only [decOk_s_J1000013_F]; first | ((simp_all [wiresS]; done)) | (grind [wiresS]))⟩
  exact has_of (j := (⟨false⟩ : decOk_s_J1000013_V)) rfl rfl (by dsimp only [decOk_s_J1000013_F]; first | ((simp_all [wiresS]; done)) | (grind [wiresS]))
  refine dsp (fun h14 p14 => ?_) fun h14 p14 => ?_
  refine ⟨fun h15 => have q15 := bnot_t h15; have p15 := of_decide_eq_false q15; ?_, fun h15 => have q15 := bnot_f h15; have p15 := of_decide_eq_true q15; ?_⟩
  exact has_of (j := (⟨true⟩ : decOk_s_J1000013_V)) rfl rfl (by dsimp only [decOk_s_J1000013_F]; first | ((simp_all [wiresS]; done)) | (grind [wiresS]))
  refine dsp (fun h16 p16 => ?_) fun h16 p16 => ?_
  exact ⟨(widthOf_s _), has_of (j := (⟨decide (widthOf d.wire = 0)⟩ : decOk_s_J1000013_V)) rfl rfl (by dsimp only [decOk_s_J1000013_F]; first | ((simp_all [wiresS]; done)) | (grind [wiresS]))⟩
  exact has_of (j := (⟨false⟩ : decOk_s_J1000013_V)) rfl rfl (by dsimp only [decOk_s_J1000013_F]; first | ((simp_all [wiresS]; done)) | (grind [wiresS]))
  refine dsp (fun h15 p15 => ?_) fun h15 p15 => ?_
  exact ⟨(widthOf_s _), has_of (j := (⟨decide (widthOf d.wire = 0)⟩ : decOk_s_J1000013_V)) rfl rfl (by dsimp only [decOk_s_J1000013_F]; first | ((simp_all [wiresS]; done)) | (grind [wiresS]))⟩
  exact has_of (j := (⟨false⟩ : decOk_s_J1000013_V)) rfl rfl (by dsimp only [decOk_s_J1000013_F]; first | ((simp_all [wiresS]; done)) | (grind [wiresS]))
  have hi_j1000013 : j1000013.wires = wiresS d := hq_j1000013
  refine ⟨?_, fun (j1000014 : decOk_s_J1000014_V) hq_j1000014 => ?_⟩
  refine ⟨fun h14 => ?_, fun h14 => ?_⟩
  exact has_of (j := (⟨true⟩ : decOk_s_J1000014_V)) rfl rfl (by dsimp only [decOk_s_J1000014_F]; first | ((simp_all [fld_zeroI]; done)) | (grind [fld_zeroI]))
  refine ⟨(within_s _ _ _), fun h15 => have p15 := within_t h15; ?_, fun h15 => have p15 := within_f h15; ?_⟩
  refine ⟨fun h16 => have q16 := bnot_t h16; have p16 := (andF dT (andF dT (andF dT (andF dT dF)))).1 q16; ?_, fun h16 => have q16 := bnot_f h16; have p16 := (andT dT (andT dT (andT dT (andT dT dT)))).1 q16; ?_⟩
  exact ⟨(allowed_s d.field _ (by omega)), has_of (j := (⟨!(allowed d.field d.wire)⟩ : decOk_s_J1000014_V)) rfl rfl (by dsimp only [decOk_s_J1000014_F]; first | ((simp_all [fld_zeroI]; done)) | (grind [fld_zeroI]))⟩
  exact has_of (j := (⟨false⟩ : decOk_s_J1000014_V)) rfl rfl (by dsimp only [decOk_s_J1000014_F]; first | ((simp_all [fld_zeroI]; done)) | (grind [fld_zeroI]))
  exact has_of (j := (⟨false⟩ : decOk_s_J1000014_V)) rfl rfl (by dsimp only [decOk_s_J1000014_F]; first | ((simp_all [fld_zeroI]; done)) | (grind [fld_zeroI]))
  have hi_j1000014 : j1000014.v = (j1000013.wires || (within d.mode 3 5 && (!decide (d.field = fld0) && !allowed d.field d.wire))) := hq_j1000014
  refine ⟨fun h14 => ?_, fun h14 => ?_⟩
  refine ⟨(sB ?_), rfl⟩
  rotate_left
  refine dsp (fun h15 p15 => ?_) fun h15 p15 => ?_
  refine ⟨fun h16 => have q16 := bnot_t h16; have p16 := of_decide_eq_false q16; ?_, fun h16 => have q16 := bnot_f h16; have p16 := of_decide_eq_true q16; ?_⟩
  refine ⟨fun h17 => have q17 := bnot_t h17; have p17 := of_decide_eq_false q17; ?_, fun h17 => have q17 := bnot_f h17; have p17 := of_decide_eq_true q17; ?_⟩
  refine ⟨(scanS_s d (by omega)), (sB ?_), rfl⟩
  rotate_left
  refine ⟨(runs_s d.field), fun h18 => ?_, fun h18 => ?_⟩
  refine ⟨(scanS_s d (by omega)), (sB ?_), rfl⟩
  rotate_left
  refine ⟨(sB ?_), rfl⟩
  rotate_left
  refine ⟨fun h17 => have q17 := bnot_t h17; have p17 := of_decide_eq_false q17; ?_, fun h17 => have q17 := bnot_f h17; have p17 := of_decide_eq_true q17; ?_⟩
  refine ⟨(scanS_s d (by omega)), (sB ?_), rfl⟩
  rotate_left
  refine ⟨(runs_s d.field), fun h18 => ?_, fun h18 => ?_⟩
  refine ⟨(scanS_s d (by omega)), (sB ?_), rfl⟩
  rotate_left
  refine ⟨(sB ?_), rfl⟩
  rotate_left
  refine ⟨fun h16 => have q16 := bnot_t h16; have p16 := of_decide_eq_false q16; ?_, fun h16 => have q16 := bnot_f h16; have p16 := of_decide_eq_true q16; ?_⟩
  refine ⟨fun h17 => have q17 := bnot_t h17; have p17 := of_decide_eq_false q17; ?_, fun h17 => have q17 := bnot_f h17; have p17 := of_decide_eq_true q17; ?_⟩
  refine ⟨(scanS_s d (by omega)), (sB ?_), rfl⟩
  rotate_left
  refine ⟨(runs_s d.field), fun h18 => ?_, fun h18 => ?_⟩
  refine ⟨(scanS_s d (by omega)), (sB ?_), rfl⟩
  rotate_left
  refine ⟨(sB ?_), rfl⟩
  rotate_left
  refine dsp (fun h17 p17 => ?_) fun h17 p17 => ?_
  refine ⟨fun h18 => have q18 := bnot_t h18; have p18 := of_decide_eq_false q18; ?_, fun h18 => have q18 := bnot_f h18; have p18 := of_decide_eq_true q18; ?_⟩
  refine ⟨(scanS_s d (by omega)), (sB ?_), rfl⟩
  rotate_left
  refine ⟨(runs_s d.field), fun h19 => ?_, fun h19 => ?_⟩
  refine ⟨(scanS_s d (by omega)), (sB ?_), rfl⟩
  rotate_left
  refine ⟨(sB ?_), rfl⟩
  rotate_left
  refine ⟨(sB ?_), rfl⟩
  rotate_left
  all_goals rw [← decOkS_eq]; first | (simp_all [decOkS, endD, wantD, wiresS, fld_zeroI, ev_zero]; done) | (grind [decOkS, endD, wantD, wiresS, fld_zeroI, ev_zero, isBytes])
theorem cloneLev (l : List Lev) (hp1 : l.length ≤ bigN) : Fun Tryz.prog 122 [.c (.seq .lev l)] [] (.v (vO 0)) [.lst .lev l] := by
  refine ⟨callable_of Tryz.func122 (by kernel_rfl) (by kernel_rfl), ?_⟩
  have key : Sm Tryz.prog 8 0 (regAt Tryz.f122 1) [(2, .v (.c .nil)), (0, .v (.c (.seq .lev l)))] [] .ret [(2, .v (.c (.own 0)))] [.lst .lev l] := by
    refine Sm.nilTest' (s := 0) (t3 := 3) (t4 := 4) (t := .lev) (l := l) rfl rfl rfl rfl rfl rfl rfl Tryz.underlying52 (by kernel_rfl) rfl rfl rfl fun p hp => ?_
    cases p with
    | true =>
      have hl := hp rfl
      subst hl
      exact .inr ⟨by decide, piece_sound (ds := [.br true, .at 0, .mkS 2 .lev, .keep [2], .sel [0]]) (ob := [true = true]) (by kernel_rfl) ⟨rfl, trivial⟩⟩
    | false =>
      exact .inl ⟨[(0, .v (.c (.seq .lev l)))], [], piece_sound (ds := [.br false, .at 0, .keep [0], .sel []]) (ob := [false = false]) (by kernel_rfl) ⟨rfl, trivial⟩,
        (piece_sound (tm' := [(2, .v (.c (.own 0)))]) (H' := [.lst .lev ([] ++ l)]) (ds := [.ty .lev, .ty .lev, .at 0, .keep [2], .sel [1]]) (ob := [List.length ([] : List Lev) + l.length ≤ bigN]) (by kernel_rfl) ⟨by simpa using hp1, trivial⟩).to (by rfl) (by rfl)⟩
  exact walk_sound Tryz.func122 (res := .v (.c (.own 0))) (L' := [.lst .lev l]) (ds := [.jump 1 .ret [(2, .v (.c (.own 0)))] [.lst .lev l]]) (σ := [0]) (ob := [Sm Tryz.prog 8 0 (regAt Tryz.f122 1) [(2, .v (.c .nil)), (0, .v (.c (.seq .lev l)))] [] .ret [(2, .v (.c (.own 0)))] [.lst .lev l]]) (by kernel_rfl) ⟨key, trivial⟩
theorem cloneFld (l : List Fld) (hp1 : l.length ≤ bigN) : Fun Tryz.prog 204 [.c (.seq .fld l)] [] (.v (vO 0)) [.lst .fld l] := by
  refine ⟨callable_of Tryz.func204 (by kernel_rfl) (by kernel_rfl), ?_⟩
  have key : Sm Tryz.prog 8 0 (regAt Tryz.f204 1) [(2, .v (.c .nil)), (0, .v (.c (.seq .fld l)))] [] .ret [(2, .v (.c (.own 0)))] [.lst .fld l] := by
    refine Sm.nilTest' (s := 0) (t3 := 3) (t4 := 4) (t := .fld) (l := l) rfl rfl rfl rfl rfl rfl rfl Tryz.underlying183 (by kernel_rfl) rfl rfl rfl fun p hp => ?_
    cases p with
    | true =>
      have hl := hp rfl
      subst hl
      exact .inr ⟨by decide, piece_sound (ds := [.br true, .at 0, .mkS 2 .fld, .keep [2], .sel [0]]) (ob := [true = true]) (by kernel_rfl) ⟨rfl, trivial⟩⟩
    | false =>
      exact .inl ⟨[(0, .v (.c (.seq .fld l)))], [], piece_sound (ds := [.br false, .at 0, .keep [0], .sel []]) (ob := [false = false]) (by kernel_rfl) ⟨rfl, trivial⟩,
        (piece_sound (tm' := [(2, .v (.c (.own 0)))]) (H' := [.lst .fld ([] ++ l)]) (ds := [.ty .fld, .ty .fld, .at 0, .keep [2], .sel [1]]) (ob := [List.length ([] : List Fld) + l.length ≤ bigN]) (by kernel_rfl) ⟨by simpa using hp1, trivial⟩).to (by rfl) (by rfl)⟩
  exact walk_sound Tryz.func204 (res := .v (.c (.own 0))) (L' := [.lst .fld l]) (ds := [.jump 1 .ret [(2, .v (.c (.own 0)))] [.lst .fld l]]) (σ := [0]) (ob := [Sm Tryz.prog 8 0 (regAt Tryz.f204 1) [(2, .v (.c .nil)), (0, .v (.c (.seq .fld l)))] [] .ret [(2, .v (.c (.own 0)))] [.lst .fld l]]) (by kernel_rfl) ⟨key, trivial⟩
structure copySch_i_V0 where
  sh : List Shp
  v : Nat
def copySch_i_F0 (s : List Shp) : Fam := ⟨copySch_i_V0, fun q1 => [(2, .v (vP 0)), (3, .v (vP 1)), (8, .v (.c (.seq .shp s))), (9, .v (vI (s.length : Int))), (10, .v (vI (q1.v : Int)))], fun q1 => [.cells [.nil], .cells [.own 2], .tree q1.sh], fun q1 => q1.v ≤ s.length ∧ q1.sh = List.take q1.v s, fun q1 => s.length - q1.v⟩
theorem copySch_i (s : List Shp) (hp1 : s.length ≤ 1048576) (hp2 : ∀ e ∈ s, e.fields.length ≤ 1048576) : Fun Tryz.prog 169 [.agg [.seq .shp s]] [] (.v (.agg [.own 0])) [.tree s] := by
  have hN : bigN = 274877906944 := rfl
  refine fun_ofw Tryz.func169 (by kernel_rfl) (by kernel_rfl) (w := let z2 := (s.length : Int); let z3 := copySch_i_F0 s; (.seg [.at 0, .mkT 2 0, .keep [2, 3, 8, 9, 10], .sel [1, 2, 3]] (.loop z3 fun q1 => .br (.intro (fun (x1 : Shp) => s[q1.v]? = some x1) fun x1 => .seg [.el .shp x1, .ord (os 12 [6, 8, 9, 11]) [2], .call [] (.v (vO 0)) [.lst .fld x1.fields], .tyT, .tyT, .as 25 (.v (vI ((q1.v : Int) + 1))), .at 0, .keep [2, 3, 8, 9, 10], .sel [0, 1, 6]] (.next)) (.leaf () [2])), z3.Has [(2, .v (vP 0)), (3, .v (vP 1)), (8, .v (.c (.seq .shp s))), (9, .v (vI z2)), (10, .v (vI 0))] [.cells [.nil], .cells [.own 2], .tree ([] : List Shp)] ∧ ∀ q1, z3.inv q1 → (let z1 := (q1.v : Int); ((decide (z1 < z2)) = true → (∃ (x1 : Shp), s[q1.v]? = some x1) ∧ ∀ (x1 : Shp), (s[q1.v]? = some x1) → ((s[q1.v]? = some x1) ∧ ((0 : Int) ≤ z1) ∧ (Fun Tryz.prog 204 [.c (.seq .fld x1.fields)] [] (.v (vO 0)) [.lst .fld x1.fields]) ∧ (q1.sh.length + List.length [(⟨x1.id, x1.fields⟩ : Shp)] ≤ bigN) ∧ ((.v (vI (IntKind.i64.wrap (z1 + 1))) : S) = .v (vI (z1 + 1))) ∧ z3.Nxt q1 [(2, .v (vP 0)), (3, .v (vP 1)), (8, .v (.c (.seq .shp s))), (9, .v (vI z2)), (10, .v (vI (z1 + 1)))] [.cells [.nil], .cells [.own 2], .tree (q1.sh ++ [(⟨x1.id, x1.fields⟩ : Shp)])])) ∧ ((decide (z1 < z2)) = false → (.v (.agg [.own 0]) : S) = .v (.agg [.own 0]) ∧ ([.tree q1.sh] : List Blk) = [.tree s])))) (by kernel_rfl) ?_
  refine ⟨has_of (j := (⟨([] : List Shp), 0⟩ : copySch_i_V0)) (by first | rfl | simp) rfl (by dsimp only [copySch_i_F0]; exact ⟨by omega, by simp⟩), fun (q1 : copySch_i_V0) hq_q1 => ?_⟩
  have hi_q1 : q1.v ≤ s.length ∧ q1.sh = List.take q1.v s := hq_q1
  obtain ⟨v1, v2⟩ := hi_q1
  have hsl := congrArg List.length v2
  rw [List.length_take] at hsl
  refine dsp (fun h1 p1 => ?_) fun h1 p1 => ?_
  refine ⟨(ax_get (l := s) (i := q1.v) (by omega)), fun x1 hx1 => ?_⟩
  have hfx := hp2 x1 (List.mem_of_getElem? hx1)
  exact ⟨hx1, (by omega), (cloneFld x1.fields (by omega)), (by simp only [List.length_cons, List.length_nil]; omega), (as_i64 (by omega) (by omega)), nxt_of (j := (⟨q1.sh ++ [(⟨x1.id, x1.fields⟩ : Shp)], q1.v + 1⟩ : copySch_i_V0)) (by first | rfl | simp) rfl (by dsimp only [copySch_i_F0]; exact ⟨by omega, by rw [v2, List.take_succ_eq_append_getElem (by omega)]; simp [(List.getElem?_eq_some_iff.1 hx1).2]⟩) (by dsimp only [copySch_i_F0]; omega)⟩
  refine ⟨rfl, (consE (congrArg Blk.tree ?_) rfl)⟩
  rotate_left
  all_goals first | (rfl) | ((rw [v2, List.take_of_length_le (by omega)]; done))
theorem copyPln_i (p : Pln) (hp1 : List.length (p).shapes ≤ 1048576) (hp2 : ∀ e ∈ (p).shapes, e.fields.length ≤ 1048576) : Fun Tryz.prog 121 [.agg (cPln p)] [] (.v (.agg (oPln0 0 p))) [.tree p.shapes] := by
  have hN : bigN = 274877906944 := rfl
  refine fun_ofw Tryz.func121 (by kernel_rfl) (by kernel_rfl) (w := (.seg [.call [] (.v (.agg [.own 0])) [.tree p.shapes]] (.leaf () [2]), (Fun Tryz.prog 169 [.agg [.seq .shp p.shapes]] [] (.v (.agg [.own 0])) [.tree p.shapes]) ∧ (.v (.agg (oPln0 0 p)) : S) = .v (.agg (oPln0 0 p)) ∧ ([.tree p.shapes] : List Blk) = [.tree p.shapes])) (by kernel_rfl) ?_
  exact ⟨(copySch_i p.shapes (by omega) (hp2)), rfl, rfl⟩
theorem copyDec_i (d : Dcd) (hp1 : List.length (d).plan.shapes ≤ 1048576) (hp2 : ∀ e ∈ (d).plan.shapes, e.fields.length ≤ 1048576) (hp3 : List.length (d).stack ≤ 1048576) : Fun Tryz.prog 70 [.agg (cDcd d)] [] (.v (.agg (oDcd0_5 0 1 d))) [.tree d.plan.shapes, .lst .lev d.stack] := by
  have hN : bigN = 274877906944 := rfl
  refine fun_ofw Tryz.func70 (by kernel_rfl) (by kernel_rfl) (w := let zi : Int → C := .int .i64; let z1 : List C := [.nil, zi 0, zi 0, zi 0, zi 0, .nil, .int .u64 0, zi 0, zi 0, zi 0, zi 0, zi 0, .bool false, .bool false, zi 0, zi 0, zi 0, zi 0, zi 0, zi 0, zi 0, zi 0, .int .u64 0, zi 0, .str [], zi 0, zi 0]; let z2 : List Blk := [.cells (oDcd0_5 1 2 d), .tree d.plan.shapes, .lst .lev d.stack, .cells z1]; let z3 := ([(1, .v (vP 0)), (2, .v (vP 3))] : List (Nat × S)) = [(1, .v (vP 0)), (2, .v (vP 3))]; let z4 : List Blk := [.lst .lev d.stack]; let z5 := oPln0 0 d.plan; (.seg [.tree (.first 0 (.first 3 (.two 1 (.two 2 (.one 4 (.first 6 (.one 5 (.one 7 (.first 8 (.one 9 (.done))))))) 4 (.one 2 (.first 6 (.one 5 (.one 7 (.first 8 (.one 9 (.done)))))))) 4 (.one 1 (.one 2 (.first 6 (.one 5 (.one 7 (.first 8 (.one 9 (.done))))))))))) 9 [0], .call [] (.v (.agg z5)) [.tree d.plan.shapes], .call [] (.v (vO 0)) z4, .at 0, .keep [1, 2], .sel [0, 2, 3, 1], .call [] (.v (.agg z5)) [.tree d.plan.shapes], .call [] (.v (vO 0)) z4, .at 0, .keep [1, 2], .sel [0, 2, 3, 1], .call [] (.v (.agg z5)) [.tree d.plan.shapes], .call [] (.v (vO 0)) z4, .at 0, .keep [1, 2], .sel [0, 2, 3, 1]] (.leaf () [1, 2]), (Fun Tryz.prog 121 [.agg (cPln d.plan)] [] (.v (.agg z5)) [.tree d.plan.shapes]) ∧ (Fun Tryz.prog 122 [.c (.seq .lev d.stack)] [] (.v (vO 0)) z4) ∧ (Fun Tryz.prog 121 [.agg (cPln d.plan)] [] (.v (.agg z5)) [.tree d.plan.shapes]) ∧ (Fun Tryz.prog 122 [.c (.seq .lev d.stack)] [] (.v (vO 0)) z4) ∧ ((z2 : List Blk) = z2) ∧ z3 ∧ (Fun Tryz.prog 121 [.agg (cPln d.plan)] [] (.v (.agg z5)) [.tree d.plan.shapes]) ∧ (Fun Tryz.prog 122 [.c (.seq .lev d.stack)] [] (.v (vO 0)) z4) ∧ ((z2 : List Blk) = z2) ∧ z3 ∧ (.v (.agg (oDcd0_5 0 1 d)) : S) = .v (.agg (oDcd0_5 0 1 d)) ∧ ([.tree d.plan.shapes, .lst .lev d.stack] : List Blk) = [.tree d.plan.shapes, .lst .lev d.stack])) (by kernel_rfl) ?_
  exact ⟨(copyPln_i d.plan (by omega) (hp2)), (cloneLev d.stack (by omega)), (copyPln_i d.plan (by omega) (hp2)), (cloneLev d.stack (by omega)), rfl, rfl, (copyPln_i d.plan (by omega) (hp2)), (cloneLev d.stack (by omega)), rfl, rfl, rfl, rfl⟩
theorem decNew_i (p : Pln) (hp1 : List.length (p).shapes ≤ bigN) : Fun Tryz.prog 114 [.agg (cPln p)] [] (.tup [.agg (oDcd0_5 0 1 (decNew p)), vB (planOk p)]) [.tree (decNew p).plan.shapes, .lst .lev (decNew p).stack] := by
  have hN : bigN = 274877906944 := rfl
  refine fun_ofw Tryz.func114 (by kernel_rfl) (by kernel_rfl) (w := let zi : Int → C := .int .i64; let z1 : List C := [.own 1, .int .u64 0, zi 0, zi 0, zi 0, zi 0, zi 0, .bool false, .bool false, zi 0, zi 0, zi 0, zi 0, zi 0, zi 0, zi 0, zi 0, .int .u64 0, zi 0, .str [], zi 0, zi 0]; let z2 := planOk p; let z3 := decNew p; (.seg [.call [] (.v (vB z2)) []] (.br (.seg [.at 0, .mkT 1 0, .mk 1 5 .lev] (.leaf () [2, 3])) (.seg [.call [] (.v (.agg (oPln0 0 p))) [.tree p.shapes], .at 0, .mk 1 5 .lev] (.leaf () [2, 3]))), (Fun Tryz.prog 165 [.agg (cPln p)] [] (.v (vB z2)) []) ∧ ((!z2) = true → (.tup [.agg (.own 0 :: zi 0 :: zi 0 :: zi 0 :: zi 0 :: z1), vB false] : S) = .tup [.agg (oDcd0_5 0 1 z3), vB z2] ∧ ([.tree ([] : List Shp), .lst .lev ([] : List Lev)] : List Blk) = [.tree z3.plan.shapes, .lst .lev z3.stack]) ∧ ((!z2) = false → (Fun Tryz.prog 121 [.agg (cPln p)] [] (.v (.agg (oPln0 0 p))) [.tree p.shapes]) ∧ (.tup [.agg (.own 0 :: zi p.root :: zi p.deep :: zi p.most :: zi 1 :: z1), vB true] : S) = .tup [.agg (oDcd0_5 0 1 z3), vB z2] ∧ ([.tree p.shapes, .lst .lev ([] : List Lev)] : List Blk) = [.tree z3.plan.shapes, .lst .lev z3.stack]))) (by kernel_rfl) ?_
  refine ⟨(planOk_i p), fun h1 => have q1 := bnot_t h1; ?_, fun h1 => have q1 := bnot_f h1; have p1 := planOk_t q1; ?_⟩
  refine have hm1 : decNew p = (⟨(⟨([] : List Shp), 0, 0, 0⟩ : Pln), 0, ([] : List Lev), (⟨0, 0⟩ : Scn), 0, 0, (⟨0, 0, false, false, 0⟩ : Fld), 0, 0, utf0, (⟨0, 0, 0, 0, [], 0, 0⟩ : Ev)⟩ : Dcd) := ?_; ?_
  rotate_left
  refine ⟨(congrArg S.tup (consE (congrArg V.agg (consE rfl (consE (congrArg (C.int .i64) ?_) (consE (congrArg (C.int .i64) ?_) (consE (congrArg (C.int .i64) ?_) (consE (congrArg (C.int .i64) ?_) (consE rfl (consE (congrArg (C.int .u64) ?_) (consE (congrArg (C.int .i64) ?_) (consE (congrArg (C.int .i64) ?_) (consE (congrArg (C.int .i64) ?_) (consE (congrArg (C.int .i64) ?_) (consE (congrArg (C.int .i64) ?_) (consE (congrArg C.bool ?_) (consE (congrArg C.bool ?_) (consE (congrArg (C.int .i64) ?_) (consE (congrArg (C.int .i64) ?_) (consE (congrArg (C.int .i64) ?_) (consE (congrArg (C.int .i64) ?_) (consE (congrArg (C.int .i64) ?_) (consE (congrArg (C.int .i64) ?_) (consE (congrArg (C.int .i64) ?_) (consE (congrArg (C.int .i64) ?_) (consE (congrArg (C.int .u64) ?_) (consE (congrArg (C.int .i64) ?_) (consE (congrArg C.str ?_) (consE (congrArg (C.int .i64) ?_) (consE (congrArg (C.int .i64) ?_) rfl)))))))))))))))))))))))))))) (consE (congrArg V.c (congrArg C.bool ?_)) rfl))), (by rw [hm1] <;> rfl)⟩
  rotate_left 26
  have hpt := planOk_t q1
  refine ⟨(copyPln_i p (by omega) (schemaOk_fields20 hpt.2.1)), ?_⟩
  refine have hm1 : decNew p = (⟨p, 1, ([] : List Lev), (⟨0, 0⟩ : Scn), 0, 0, (⟨0, 0, false, false, 0⟩ : Fld), 0, 0, utf0, (⟨0, 0, 0, 0, [], 0, 0⟩ : Ev)⟩ : Dcd) := ?_; ?_
  rotate_left
  refine ⟨(congrArg S.tup (consE (congrArg V.agg (consE rfl (consE (congrArg (C.int .i64) ?_) (consE (congrArg (C.int .i64) ?_) (consE (congrArg (C.int .i64) ?_) (consE (congrArg (C.int .i64) ?_) (consE rfl (consE (congrArg (C.int .u64) ?_) (consE (congrArg (C.int .i64) ?_) (consE (congrArg (C.int .i64) ?_) (consE (congrArg (C.int .i64) ?_) (consE (congrArg (C.int .i64) ?_) (consE (congrArg (C.int .i64) ?_) (consE (congrArg C.bool ?_) (consE (congrArg C.bool ?_) (consE (congrArg (C.int .i64) ?_) (consE (congrArg (C.int .i64) ?_) (consE (congrArg (C.int .i64) ?_) (consE (congrArg (C.int .i64) ?_) (consE (congrArg (C.int .i64) ?_) (consE (congrArg (C.int .i64) ?_) (consE (congrArg (C.int .i64) ?_) (consE (congrArg (C.int .i64) ?_) (consE (congrArg (C.int .u64) ?_) (consE (congrArg (C.int .i64) ?_) (consE (congrArg C.str ?_) (consE (congrArg (C.int .i64) ?_) (consE (congrArg (C.int .i64) ?_) rfl)))))))))))))))))))))))))))) (consE (congrArg V.c (congrArg C.bool ?_)) rfl))), (by rw [hm1] <;> rfl)⟩
  rotate_left 26
  all_goals first | (simp_all [decNew, utf0]; done) | (grind [decNew, utf0])
structure copySch_s_V0 where
  sh : List Shp
  i : Nat
def copySch_s_F0 (s : List Shp) : Fam := ⟨copySch_s_V0, fun q1 => [(1, .v (vP 0)), (2, .v (vP 1)), (3, .v (vP 2)), (4, .v (vI (q1.i : Int)))], fun q1 => [.cells [.seq .shp s], .cells [.nil], .cells [.own 3], .tree q1.sh], fun q1 => q1.i ≤ s.length ∧ q1.sh = List.take q1.i s, fun q1 => s.length - q1.i⟩
theorem copySch_s (s : List Shp) (hp1 : s.length ≤ 1048576) (hp2 : ∀ e ∈ s, e.fields.length ≤ 1048576) : Fun Tryz.prog 103 [.agg [.seq .shp s]] [] (.v (.agg [.own 0])) [.tree s] := by
  have hN : bigN = 274877906944 := rfl
  refine fun_ofw Tryz.func103 (by kernel_rfl) (by kernel_rfl) (w := let z4 := copySch_s_F0 s; (.seg [.at 0, .mkT 2 0, .keep [1, 2, 3, 4], .sel [0, 1, 2, 3]] (.loop z4 fun q1 => .br (.intro (fun (x1 : Shp) => s[q1.i]? = some x1) fun x1 => .seg [.ord [(0, true), (1, true), (2, true), (3, true), (4, true), (5, true), (6, true), (7, true), (9, true), (10, true), (11, true), (12, true), (13, true), (14, true), (8, false), (15, false), (16, true), (17, false), (18, false), (19, true), (20, false)] [3], .el .shp x1, .el .shp x1, .ty .fld, .ty .fld, .tyT, .tyT, .as 12 (.v (vI ((q1.i : Int) + 1))), .at 0, .keep [1, 2, 3, 4], .sel [0, 1, 2, 7]] (.next)) (.leaf () [3])), z4.Has [(1, .v (vP 0)), (2, .v (vP 1)), (3, .v (vP 2)), (4, .v (vI 0))] [.cells [.seq .shp s], .cells [.nil], .cells [.own 3], .tree ([] : List Shp)] ∧ ∀ q1, z4.inv q1 → (let z3 := (q1.i : Int); ((decide (z3 < (s.length : Int))) = true → (∃ (x1 : Shp), s[q1.i]? = some x1) ∧ ∀ (x1 : Shp), (s[q1.i]? = some x1) → (let z1 := s[q1.i]? = some x1; let z2 := (⟨x1.id, ([] : List Fld) ++ x1.fields⟩ : Shp); z1 ∧ ((0 : Int) ≤ z3) ∧ z1 ∧ ((0 : Int) ≤ z3) ∧ z1 ∧ ((0 : Int) ≤ z3) ∧ z1 ∧ ((0 : Int) ≤ z3) ∧ (List.length ([] : List Fld) + x1.fields.length ≤ bigN) ∧ (q1.sh.length + List.length [z2] ≤ bigN) ∧ ((.v (vI (IntKind.i64.wrap (z3 + 1))) : S) = .v (vI (z3 + 1))) ∧ z4.Nxt q1 [(1, .v (vP 0)), (2, .v (vP 1)), (3, .v (vP 2)), (4, .v (vI (z3 + 1)))] [.cells [.seq .shp s], .cells [.nil], .cells [.own 3], .tree (q1.sh ++ [z2])])) ∧ ((decide (z3 < (s.length : Int))) = false → (.v (.agg [.own 0]) : S) = .v (.agg [.own 0]) ∧ ([.tree q1.sh] : List Blk) = [.tree s])))) (by kernel_rfl) ?_
  refine ⟨has_of (j := (⟨([] : List Shp), 0⟩ : copySch_s_V0)) (by first | rfl | simp) rfl (by dsimp only [copySch_s_F0]; exact ⟨by omega, by simp⟩), fun (q1 : copySch_s_V0) hq_q1 => ?_⟩
  have hi_q1 : q1.i ≤ s.length ∧ q1.sh = List.take q1.i s := hq_q1
  obtain ⟨v1, v2⟩ := hi_q1
  have hsl := congrArg List.length v2
  rw [List.length_take] at hsl
  refine dsp (fun h1 p1 => ?_) fun h1 p1 => ?_
  refine ⟨(ax_get (l := s) (i := q1.i) (by omega)), fun x1 hx1 => ?_⟩
  have hfx := hp2 x1 (List.mem_of_getElem? hx1)
  exact ⟨hx1, (by omega), hx1, (by omega), hx1, (by omega), hx1, (by omega), (by simp only [List.length_cons, List.length_nil]; omega), (by simp only [List.length_append, List.length_cons, List.length_nil]; omega), (as_i64 (by omega) (by omega)), nxt_of (j := (⟨q1.sh ++ [(⟨x1.id, ([] : List Fld) ++ x1.fields⟩ : Shp)], q1.i + 1⟩ : copySch_s_V0)) (by first | rfl | simp) rfl (by dsimp only [copySch_s_F0]; exact ⟨by omega, by rw [v2, List.take_succ_eq_append_getElem (by omega)]; simp [(List.getElem?_eq_some_iff.1 hx1).2]⟩) (by dsimp only [copySch_s_F0]; omega)⟩
  refine ⟨rfl, (consE (congrArg Blk.tree ?_) rfl)⟩
  rotate_left
  all_goals first | (rfl) | ((rw [v2, List.take_of_length_le (by omega)]; done))
theorem copyDec_s (d : Dcd) (hp1 : List.length (d).plan.shapes ≤ 1048576) (hp2 : ∀ e ∈ (d).plan.shapes, e.fields.length ≤ 1048576) (hp3 : List.length (d).stack ≤ 1048576) : Fun Tryz.prog 63 [.agg (cDcd d)] [] (.v (.agg (oDcd0_5 0 1 d))) [.tree d.plan.shapes, .lst .lev d.stack] := by
  have hN : bigN = 274877906944 := rfl
  refine fun_ofw Tryz.func63 (by kernel_rfl) (by kernel_rfl) (w := (.seg [.call [] (.v (.agg [.own 0])) [.tree d.plan.shapes], .ty .lev, .ty .lev] (.leaf () [2, 4]), (Fun Tryz.prog 103 [.agg [.seq .shp d.plan.shapes]] [] (.v (.agg [.own 0])) [.tree d.plan.shapes]) ∧ (List.length ([] : List Lev) + d.stack.length ≤ bigN) ∧ (.v (.agg (oDcd0_5 0 1 d)) : S) = .v (.agg (oDcd0_5 0 1 d)) ∧ ([.tree d.plan.shapes, .lst .lev (([] : List Lev) ++ d.stack)] : List Blk) = [.tree d.plan.shapes, .lst .lev d.stack])) (by kernel_rfl) ?_
  refine ⟨(copySch_s d.plan.shapes (by omega) (hp2)), (by simp only [List.length_cons, List.length_nil]; omega), ?_⟩
  have hm1 : d = (⟨d.plan, d.mode, ([] : List Lev) ++ d.stack, d.scan, d.start, d.at_, d.field, d.wire, d.want, d.utf, d.end_⟩ : Dcd) := by rfl
  exact ⟨(by rw [hm1] <;> rfl), (by rw [hm1] <;> rfl)⟩
theorem decNew_s (p : Pln) (hp1 : List.length (p).shapes ≤ bigN) : Fun Tryz.prog 51 [.agg (cPln p)] [] (.tup [.agg (oDcd0_5 0 1 (decNew p)), vB (planOk p)]) [.tree (decNew p).plan.shapes, .lst .lev (decNew p).stack] := by
  have hN : bigN = 274877906944 := rfl
  refine fun_ofw Tryz.func51 (by kernel_rfl) (by kernel_rfl) (w := let zi : Int → C := .int .i64; let z1 : List C := [.own 1, .int .u64 0, zi 0, zi 0, zi 0, zi 0, zi 0, .bool false, .bool false, zi 0, zi 0, zi 0, zi 0, zi 0, zi 0, zi 0, zi 0, .int .u64 0, zi 0, .str [], zi 0, zi 0]; let z2 := planOk p; let z3 := decNew p; (.seg [.call [] (.v (vB z2)) []] (.br (.seg [.at 0, .mkT 1 0, .mk 1 5 .lev] (.leaf () [2, 3])) (.seg [.call [] (.v (.agg [.own 0])) [.tree p.shapes], .at 0, .mk 1 5 .lev] (.leaf () [2, 3]))), (Fun Tryz.prog 102 [.agg (cPln p)] [] (.v (vB z2)) []) ∧ ((!z2) = true → (.tup [.agg (.own 0 :: zi 0 :: zi 0 :: zi 0 :: zi 0 :: z1), vB false] : S) = .tup [.agg (oDcd0_5 0 1 z3), vB z2] ∧ ([.tree ([] : List Shp), .lst .lev ([] : List Lev)] : List Blk) = [.tree z3.plan.shapes, .lst .lev z3.stack]) ∧ ((!z2) = false → (Fun Tryz.prog 103 [.agg [.seq .shp p.shapes]] [] (.v (.agg [.own 0])) [.tree p.shapes]) ∧ (.tup [.agg (.own 0 :: zi p.root :: zi p.deep :: zi p.most :: zi 1 :: z1), vB true] : S) = .tup [.agg (oDcd0_5 0 1 z3), vB z2] ∧ ([.tree p.shapes, .lst .lev ([] : List Lev)] : List Blk) = [.tree z3.plan.shapes, .lst .lev z3.stack]))) (by kernel_rfl) ?_
  refine ⟨(planOk_s p), fun h1 => have q1 := bnot_t h1; ?_, fun h1 => have q1 := bnot_f h1; have p1 := planOk_t q1; ?_⟩
  refine have hm1 : decNew p = (⟨(⟨([] : List Shp), 0, 0, 0⟩ : Pln), 0, ([] : List Lev), (⟨0, 0⟩ : Scn), 0, 0, (⟨0, 0, false, false, 0⟩ : Fld), 0, 0, utf0, (⟨0, 0, 0, 0, [], 0, 0⟩ : Ev)⟩ : Dcd) := ?_; ?_
  rotate_left
  refine ⟨(congrArg S.tup (consE (congrArg V.agg (consE rfl (consE (congrArg (C.int .i64) ?_) (consE (congrArg (C.int .i64) ?_) (consE (congrArg (C.int .i64) ?_) (consE (congrArg (C.int .i64) ?_) (consE rfl (consE (congrArg (C.int .u64) ?_) (consE (congrArg (C.int .i64) ?_) (consE (congrArg (C.int .i64) ?_) (consE (congrArg (C.int .i64) ?_) (consE (congrArg (C.int .i64) ?_) (consE (congrArg (C.int .i64) ?_) (consE (congrArg C.bool ?_) (consE (congrArg C.bool ?_) (consE (congrArg (C.int .i64) ?_) (consE (congrArg (C.int .i64) ?_) (consE (congrArg (C.int .i64) ?_) (consE (congrArg (C.int .i64) ?_) (consE (congrArg (C.int .i64) ?_) (consE (congrArg (C.int .i64) ?_) (consE (congrArg (C.int .i64) ?_) (consE (congrArg (C.int .i64) ?_) (consE (congrArg (C.int .u64) ?_) (consE (congrArg (C.int .i64) ?_) (consE (congrArg C.str ?_) (consE (congrArg (C.int .i64) ?_) (consE (congrArg (C.int .i64) ?_) rfl)))))))))))))))))))))))))))) (consE (congrArg V.c (congrArg C.bool ?_)) rfl))), (by rw [hm1] <;> rfl)⟩
  rotate_left 26
  have hpt := planOk_t q1
  refine ⟨(copySch_s p.shapes (by omega) (schemaOk_fields20 hpt.2.1)), ?_⟩
  refine have hm1 : decNew p = (⟨p, 1, ([] : List Lev), (⟨0, 0⟩ : Scn), 0, 0, (⟨0, 0, false, false, 0⟩ : Fld), 0, 0, utf0, (⟨0, 0, 0, 0, [], 0, 0⟩ : Ev)⟩ : Dcd) := ?_; ?_
  rotate_left
  refine ⟨(congrArg S.tup (consE (congrArg V.agg (consE rfl (consE (congrArg (C.int .i64) ?_) (consE (congrArg (C.int .i64) ?_) (consE (congrArg (C.int .i64) ?_) (consE (congrArg (C.int .i64) ?_) (consE rfl (consE (congrArg (C.int .u64) ?_) (consE (congrArg (C.int .i64) ?_) (consE (congrArg (C.int .i64) ?_) (consE (congrArg (C.int .i64) ?_) (consE (congrArg (C.int .i64) ?_) (consE (congrArg (C.int .i64) ?_) (consE (congrArg C.bool ?_) (consE (congrArg C.bool ?_) (consE (congrArg (C.int .i64) ?_) (consE (congrArg (C.int .i64) ?_) (consE (congrArg (C.int .i64) ?_) (consE (congrArg (C.int .i64) ?_) (consE (congrArg (C.int .i64) ?_) (consE (congrArg (C.int .i64) ?_) (consE (congrArg (C.int .i64) ?_) (consE (congrArg (C.int .i64) ?_) (consE (congrArg (C.int .u64) ?_) (consE (congrArg (C.int .i64) ?_) (consE (congrArg C.str ?_) (consE (congrArg (C.int .i64) ?_) (consE (congrArg (C.int .i64) ?_) rfl)))))))))))))))))))))))))))) (consE (congrArg V.c (congrArg C.bool ?_)) rfl))), (by rw [hm1] <;> rfl)⟩
  rotate_left 26
  all_goals first | (simp_all [decNew, utf0]; done) | (grind [decNew, utf0])
theorem emit_i (m : Mac) (e : Ev) (hp1 : List.length (m).out ≤ 200000000) : Fun Tryz.prog 218 [vP 0, .agg (cEv e)] [.cells (oMac0_5_27 1 2 3 m), .tree m.d.plan.shapes, .lst .lev m.d.stack, .lst .ev m.out] (.tup []) [.cells (oMac0_5_27 1 2 4 m), .tree (m).d.plan.shapes, .lst .lev (m).d.stack, .dead, .lst .ev ((m).out ++ [e])] := by
  have hN : bigN = 274877906944 := rfl
  refine fun_ofw Tryz.func218 (by kernel_rfl) (by kernel_rfl) (w := (.seg [.ord (os 11 [6, 7, 10]) [3], .ty .ev, .ty .ev] (.leaf () [0, 1, 2, 3, 6]), (m.out.length + List.length [e] ≤ bigN) ∧ (.tup [] : S) = .tup [] ∧ ([.cells (oMac0_5_27 1 2 4 m), .tree m.d.plan.shapes, .lst .lev m.d.stack, .dead, .lst .ev (m.out ++ [e])] : List Blk) = [.cells (oMac0_5_27 1 2 4 m), .tree (m).d.plan.shapes, .lst .lev (m).d.stack, .dead, .lst .ev ((m).out ++ [e])])) (by kernel_rfl) ?_
  exact ⟨(by simp only [List.length_cons, List.length_nil]; omega), rfl, (consE rfl (consE (congrArg Blk.tree (by rfl)) (consE (congrArg (Blk.lst .lev) (by rfl)) (consE rfl (consE (congrArg (Blk.lst .ev) (by rfl)) rfl)))))⟩
theorem fails_i (m : Mac) (c : Int) (a : Int) (hp1 : List.length (m).out ≤ 200000000) : Fun Tryz.prog 219 [vP 0, vI c, vI a] [.cells (oMac0_5_27 1 2 3 m), .tree m.d.plan.shapes, .lst .lev m.d.stack, .lst .ev m.out] (.tup []) [.cells (oMac0_5_27 1 2 4 (mFail m c a)), .tree (mFail m c a).d.plan.shapes, .lst .lev (mFail m c a).d.stack, .dead, .lst .ev (mFail m c a).out] := by
  have hN : bigN = 274877906944 := rfl
  refine fun_ofw Tryz.func219 (by kernel_rfl) (by kernel_rfl) (w := let zi : Int → C := .int .i64; let z3 := failEv c a; let z1 : List C := [.own 1, zi m.d.plan.root, zi m.d.plan.deep, zi m.d.plan.most, zi 9, .own 2, .int .u64 0, zi 0, zi m.d.start, zi m.d.at_, zi m.d.field.number, zi m.d.field.kind, .bool m.d.field.rep, .bool m.d.field.packed, zi m.d.field.msg, zi m.d.wire, zi 0, zi m.d.utf.want, zi m.d.utf.low, zi m.d.utf.high, zi z3.kind, zi z3.field, .int .u64 z3.bits, zi z3.len, .str z3.text, zi z3.code, zi z3.at_, .own 4]; let z2 : List Blk := [.cells z1, .tree m.d.plan.shapes, .lst .lev m.d.stack, .dead, .lst .ev (m.out ++ [z3])]; let z4 := mFail m c a; (.seg [.call [] (.v (.agg (cEv z3))) [], .call [0, 1, 2, 3] (.tup []) z2] (.leaf () [0, 1, 2, 3, 4]), (Fun Tryz.prog 235 [vI c, vI a] [] (.v (.agg (cEv z3))) []) ∧ (Fun Tryz.prog 218 [vP 0, .agg (cEv z3)] [.cells [.own 1, zi m.d.plan.root, zi m.d.plan.deep, zi m.d.plan.most, zi 9, .own 2, .int .u64 0, zi 0, zi m.d.start, zi m.d.at_, zi m.d.field.number, zi m.d.field.kind, .bool m.d.field.rep, .bool m.d.field.packed, zi m.d.field.msg, zi m.d.wire, zi 0, zi m.d.utf.want, zi m.d.utf.low, zi m.d.utf.high, zi z3.kind, zi z3.field, .int .u64 z3.bits, zi z3.len, .str z3.text, zi z3.code, zi z3.at_, .own 3], .tree m.d.plan.shapes, .lst .lev m.d.stack, .lst .ev m.out] (.tup []) z2) ∧ (.tup [] : S) = .tup [] ∧ (z2 : List Blk) = [.cells (oMac0_5_27 1 2 4 z4), .tree z4.d.plan.shapes, .lst .lev z4.d.stack, .dead, .lst .ev z4.out])) (by kernel_rfl) ?_
  refine ⟨(failure_i _ _), (emit_i (⟨(⟨m.d.plan, 9, m.d.stack, (⟨0, 0⟩ : Scn), m.d.start, m.d.at_, m.d.field, m.d.wire, 0, m.d.utf, (failEv c a)⟩ : Dcd), m.out⟩ : Mac) (failEv c a) (by first | omega | rfl | (dsimp only; omega))), ?_⟩
  refine have hm1 : mFail m c a = (⟨(⟨m.d.plan, 9, m.d.stack, (⟨0, 0⟩ : Scn), m.d.start, m.d.at_, m.d.field, m.d.wire, 0, m.d.utf, (failEv c a)⟩ : Dcd), m.out ++ [(failEv c a)]⟩ : Mac) := ?_; ?_
  rotate_left
  exact ⟨rfl, (by rw [hm1] <;> rfl)⟩
  all_goals first | (rfl) | (simp_all [mFail, dFail])
theorem close_i (m : Mac) (hp1 : List.length (m).out ≤ 200000000) (hp2 : List.length (m).d.stack ≤ bigN) : Fun Tryz.prog 224 [vP 0] [.cells (oMac0_5_27 1 2 3 m), .tree m.d.plan.shapes, .lst .lev m.d.stack, .lst .ev m.out] (.v (vB (closeM m).isSome)) [.cells (oMac0_5_27 1 4 5 ((closeM m).getD m)), .tree ((closeM m).getD m).d.plan.shapes, .dead, .dead, .lst .lev ((closeM m).getD m).d.stack, .lst .ev ((closeM m).getD m).out] := by
  have hN : bigN = 274877906944 := rfl
  refine fun_ofw Tryz.func224 (by kernel_rfl) (by kernel_rfl) (w := let zi : Int → C := .int .i64; let z4 : List C := [zi 0, .int .u64 0, zi 0, .str [], zi 0, zi 0]; let z7 : List C := [zi m.d.end_.kind, zi m.d.end_.field, .int .u64 m.d.end_.bits, zi m.d.end_.len, .str m.d.end_.text, zi m.d.end_.code, zi m.d.end_.at_, .own 5]; let z3 : List C := .own 1 :: zi m.d.plan.root :: zi m.d.plan.deep :: zi m.d.plan.most :: zi 1 :: .own 4 :: .int .u64 m.d.scan.bits :: zi m.d.scan.have_ :: zi m.d.start :: zi m.d.at_ :: zi m.d.field.number :: zi m.d.field.kind :: .bool m.d.field.rep :: .bool m.d.field.packed :: zi m.d.field.msg :: zi m.d.wire :: zi m.d.want :: zi m.d.utf.want :: zi m.d.utf.low :: zi m.d.utf.high :: z7; let z5 : List C := .own 1 :: zi m.d.plan.root :: zi m.d.plan.deep :: zi m.d.plan.most :: zi 2 :: .own 4 :: .int .u64 m.d.scan.bits :: zi m.d.scan.have_ :: zi m.d.start :: zi m.d.at_ :: zi m.d.field.number :: zi m.d.field.kind :: .bool m.d.field.rep :: .bool m.d.field.packed :: zi m.d.field.msg :: zi m.d.wire :: zi 0 :: zi m.d.utf.want :: zi m.d.utf.low :: zi m.d.utf.high :: z7; let z8 : List C := [zi m.d.end_.kind, zi m.d.end_.field, .int .u64 m.d.end_.bits, zi m.d.end_.len, .str m.d.end_.text, zi m.d.end_.code, zi m.d.end_.at_, .own 3]; let z2 : List C := .own 1 :: zi m.d.plan.root :: zi m.d.plan.deep :: zi m.d.plan.most :: zi 1 :: .own 2 :: .int .u64 m.d.scan.bits :: zi m.d.scan.have_ :: zi m.d.start :: zi m.d.at_ :: zi m.d.field.number :: zi m.d.field.kind :: .bool m.d.field.rep :: .bool m.d.field.packed :: zi m.d.field.msg :: zi m.d.wire :: zi m.d.want :: zi m.d.utf.want :: zi m.d.utf.low :: zi m.d.utf.high :: z8; let z9 : List C := [zi m.d.end_.kind, zi m.d.end_.field, .int .u64 m.d.end_.bits, zi m.d.end_.len, .str m.d.end_.text, zi m.d.end_.code, zi m.d.end_.at_, .own 4]; let z1 : List C := .own 1 :: zi m.d.plan.root :: zi m.d.plan.deep :: zi m.d.plan.most :: zi 1 :: .own 2 :: .int .u64 m.d.scan.bits :: zi m.d.scan.have_ :: zi m.d.start :: zi m.d.at_ :: zi m.d.field.number :: zi m.d.field.kind :: .bool m.d.field.rep :: .bool m.d.field.packed :: zi m.d.field.msg :: zi m.d.wire :: zi m.d.want :: zi m.d.utf.want :: zi m.d.utf.low :: zi m.d.utf.high :: z9; let z6 : List C := .own 1 :: zi m.d.plan.root :: zi m.d.plan.deep :: zi m.d.plan.most :: zi 2 :: .own 2 :: .int .u64 m.d.scan.bits :: zi m.d.scan.have_ :: zi m.d.start :: zi m.d.at_ :: zi m.d.field.number :: zi m.d.field.kind :: .bool m.d.field.rep :: .bool m.d.field.packed :: zi m.d.field.msg :: zi m.d.wire :: zi 0 :: zi 0 :: zi 0 :: zi 0 :: z9; let z12 := ([.cells (oMac0_5_27 1 4 5 m), .tree m.d.plan.shapes, .dead, .dead, .lst .lev m.d.stack, .lst .ev m.out] : List Blk); let z13 := (m.d.stack.length : Int); let z11 := List.take ((Int.toNat (z13 - 1)) - 0) m.d.stack; let z16 := vB (closeM m).isSome; let z21 := decide (0 < (z11.length : Int)); let z22 : List Blk := [.cells (oMac0_5_27 1 2 3 m), .tree m.d.plan.shapes, .lst .lev z11, .lst .ev m.out]; let z23 := decide (m.d.scan.have_ = 0); let z26 : List Blk := [.cells z2, .tree m.d.plan.shapes, .lst .lev z11, .lst .ev m.out]; let z27 := (.v (vB true) : S); let z28 := (0 : Int) ≤ z13 - 1; let z29 := mFail m 5 m.d.at_; let z30 := decide (m.d.mode = 2); let z33 : List V := [vP 0, .agg (zi 7 :: z4)]; let z34 : List V := [vP 0, .agg (zi 8 :: z4)]; let z35 := vI (topL m.d); let z36 := z13 - 1 ≤ z13; let z37 := decide (m.d.want < 1); let z38 := decide (topL m.d = 0); let z40 : List Blk := [.cells (oMac0_5_27 1 2 4 z29), .tree z29.d.plan.shapes, .lst .lev z29.d.stack, .dead, .lst .ev z29.out]; let z41 := decide (0 < z13); let z43 := vI (z13 - 1); let z18 := (.v (vI (IntKind.i64.wrap (z13 - 1))) : S) = .v z43; let z44 := (.v (vB false) : S); let z45 := decide (m.d.mode = 7); let z46 := decide (m.d.mode = 8); let z47 := (closeM m).getD m; let z10 : List Blk := [.cells (oMac0_5_27 1 4 5 z47), .tree z47.d.plan.shapes, .dead, .dead, .lst .lev z47.d.stack, .lst .ev z47.out]; let z20 := z30 = false → z44 = .v z16 ∧ z12 = z10; let z24 := z38 = false → z44 = .v z16 ∧ z12 = z10; let z25 := z41 = false → z44 = .v z16 ∧ z12 = z10; let z31 := z23 = false → z44 = .v z16 ∧ z12 = z10; let z32 := z37 = true → z27 = .v z16 ∧ ([.cells z5, .tree m.d.plan.shapes, .dead, .dead, .lst .lev m.d.stack, .lst .ev m.out] : List Blk) = z10; let z42 := z23 = false → (z30 = true → (z23 = false) ∧ z44 = .v z16 ∧ z12 = z10) ∧ z20; let z48 := os 18 [17]; let z49 := m.out ++ [(⟨5, 0, 0, 0, [], 0, 0⟩ : Ev)]; let z39 : List Blk := [.cells z6, .tree m.d.plan.shapes, .lst .lev m.d.stack, .dead, .lst .ev z49]; let z50 := m.out ++ [(⟨7, 0, 0, 0, [], 0, 0⟩ : Ev)]; let z14 : List Blk := [.cells (oMac0_5_27 1 2 4 m), .tree m.d.plan.shapes, .lst .lev z11, .dead, .lst .ev z50]; let z17 := ([.cells (oMac0_5_27 1 4 5 m), .tree m.d.plan.shapes, .dead, .dead, .lst .lev z11, .lst .ev z50] : List Blk); let z51 := m.out ++ [(⟨8, 0, 0, 0, [], 0, 0⟩ : Ev)]; let z15 : List Blk := [.cells z1, .tree m.d.plan.shapes, .lst .lev z11, .dead, .lst .ev z51]; let z19 := ([.cells z3, .tree m.d.plan.shapes, .dead, .dead, .lst .lev z11, .lst .ev z51] : List Blk); let z52 := cDcd m.d; (.br (.br (.br (.seg [.call [0, 1, 2, 3] (.tup []) z40, .at 0, .cut 0 5] (.leaf () [0, 1, 2, 3, 5, 4])) (.seg [.call [0, 1, 2, 3] (.tup []) z39, .at 0, .cut 0 5] (.leaf () [0, 1, 2, 3, 5, 4]))) (.br (.seg [.br false] (.br (.br (.br (.seg [.call [] (.v z35) []] (.br (.seg [.ord z48 [], .as 133 (.v z43), .at 13, .cut 0 5] (.br (.seg [.call [0, 1, 4, 3] (.tup []) z14] (.leaf () [0, 1, 2, 3, 4, 5])) (.seg [.call [0, 1, 4, 3] (.tup []) z15] (.leaf () [0, 1, 2, 3, 4, 5])))) (.seg [.at 0, .cut 0 5, .cut 0 27] (.leaf () [0, 1, 2, 3, 4, 5])))) (.seg [.at 0, .cut 0 5, .cut 0 27] (.leaf () [0, 1, 2, 3, 4, 5]))) (.seg [.at 0, .cut 0 5, .cut 0 27] (.leaf () [0, 1, 2, 3, 4, 5]))) (.seg [.at 0, .cut 0 5, .cut 0 27] (.leaf () [0, 1, 2, 3, 4, 5])))) (.br (.br (.seg [.br false] (.br (.seg [.br true] (.br (.seg [.call [] (.v z35) []] (.br (.seg [.ord z48 [], .as 133 (.v z43), .at 13, .cut 0 5] (.br (.seg [.call [0, 1, 4, 3] (.tup []) z14] (.leaf () [0, 1, 2, 3, 4, 5])) (.seg [.call [0, 1, 4, 3] (.tup []) z15] (.leaf () [0, 1, 2, 3, 4, 5])))) (.seg [.at 0, .cut 0 5, .cut 0 27] (.leaf () [0, 1, 2, 3, 4, 5])))) (.seg [.at 0, .cut 0 5, .cut 0 27] (.leaf () [0, 1, 2, 3, 4, 5])))) (.seg [.at 0, .cut 0 5, .cut 0 27] (.leaf () [0, 1, 2, 3, 4, 5])))) (.br (.seg [.br false, .at 0, .cut 0 5, .cut 0 27] (.leaf () [0, 1, 2, 3, 4, 5])) (.seg [.at 0, .cut 0 5, .cut 0 27] (.leaf () [0, 1, 2, 3, 4, 5])))) (.br (.br (.br (.seg [.call [] (.v z35) []] (.br (.seg [.ord z48 [], .as 133 (.v z43), .at 13, .cut 0 5] (.br (.seg [.call [0, 1, 4, 3] (.tup []) z14] (.leaf () [0, 1, 2, 3, 4, 5])) (.seg [.call [0, 1, 4, 3] (.tup []) z15] (.leaf () [0, 1, 2, 3, 4, 5])))) (.seg [.at 0, .cut 0 5, .cut 0 27] (.leaf () [0, 1, 2, 3, 4, 5])))) (.seg [.at 0, .cut 0 5, .cut 0 27] (.leaf () [0, 1, 2, 3, 4, 5]))) (.seg [.at 0, .cut 0 5, .cut 0 27] (.leaf () [0, 1, 2, 3, 4, 5]))) (.seg [.at 0, .cut 0 5, .cut 0 27] (.leaf () [0, 1, 2, 3, 4, 5])))))) (.br (.br (.seg [.at 0, .cut 0 5, .cut 0 27] (.leaf () [0, 1, 2, 3, 4, 5])) (.br (.br (.br (.seg [.call [] (.v z35) []] (.br (.seg [.ord z48 [], .as 133 (.v z43), .at 13, .cut 0 5] (.br (.seg [.call [0, 1, 4, 3] (.tup []) z14] (.leaf () [0, 1, 2, 3, 4, 5])) (.seg [.call [0, 1, 4, 3] (.tup []) z15] (.leaf () [0, 1, 2, 3, 4, 5])))) (.seg [.at 0, .cut 0 5, .cut 0 27] (.leaf () [0, 1, 2, 3, 4, 5])))) (.seg [.at 0, .cut 0 5, .cut 0 27] (.leaf () [0, 1, 2, 3, 4, 5]))) (.seg [.at 0, .cut 0 5, .cut 0 27] (.leaf () [0, 1, 2, 3, 4, 5]))) (.seg [.at 0, .cut 0 5, .cut 0 27] (.leaf () [0, 1, 2, 3, 4, 5])))) (.br (.br (.br (.seg [.at 0, .cut 0 5, .cut 0 27] (.leaf () [0, 1, 2, 3, 4, 5])) (.br (.seg [.br true] (.br (.seg [.call [] (.v z35) []] (.br (.seg [.ord z48 [], .as 133 (.v z43), .at 13, .cut 0 5] (.br (.seg [.call [0, 1, 4, 3] (.tup []) z14] (.leaf () [0, 1, 2, 3, 4, 5])) (.seg [.call [0, 1, 4, 3] (.tup []) z15] (.leaf () [0, 1, 2, 3, 4, 5])))) (.seg [.at 0, .cut 0 5, .cut 0 27] (.leaf () [0, 1, 2, 3, 4, 5])))) (.seg [.at 0, .cut 0 5, .cut 0 27] (.leaf () [0, 1, 2, 3, 4, 5])))) (.seg [.at 0, .cut 0 5, .cut 0 27] (.leaf () [0, 1, 2, 3, 4, 5])))) (.br (.seg [.br false, .at 0, .cut 0 5, .cut 0 27] (.leaf () [0, 1, 2, 3, 4, 5])) (.seg [.at 0, .cut 0 5, .cut 0 27] (.leaf () [0, 1, 2, 3, 4, 5])))) (.br (.br (.br (.seg [.call [] (.v z35) []] (.br (.seg [.ord z48 [], .as 133 (.v z43), .at 13, .cut 0 5] (.br (.seg [.call [0, 1, 4, 3] (.tup []) z14] (.leaf () [0, 1, 2, 3, 4, 5])) (.seg [.call [0, 1, 4, 3] (.tup []) z15] (.leaf () [0, 1, 2, 3, 4, 5])))) (.seg [.at 0, .cut 0 5, .cut 0 27] (.leaf () [0, 1, 2, 3, 4, 5])))) (.seg [.at 0, .cut 0 5, .cut 0 27] (.leaf () [0, 1, 2, 3, 4, 5]))) (.seg [.at 0, .cut 0 5, .cut 0 27] (.leaf () [0, 1, 2, 3, 4, 5]))) (.seg [.at 0, .cut 0 5, .cut 0 27] (.leaf () [0, 1, 2, 3, 4, 5]))))), ((decide (m.d.mode = 6)) = true → (z37 = true → ((decide (0 < m.d.utf.want)) = true → (Fun Tryz.prog 219 [vP 0, vI 5, vI m.d.at_] [.cells (oMac0_5_27 1 2 3 m), .tree m.d.plan.shapes, .lst .lev m.d.stack, .lst .ev m.out] (.tup []) z40) ∧ z27 = .v z16 ∧ ([.cells (oMac0_5_27 1 4 5 z29), .tree z29.d.plan.shapes, .dead, .dead, .lst .lev z29.d.stack, .lst .ev z29.out] : List Blk) = z10) ∧ ((decide (0 < m.d.utf.want)) = false → (Fun Tryz.prog 218 [vP 0, .agg (zi 5 :: z4)] [.cells (.own 1 :: zi m.d.plan.root :: zi m.d.plan.deep :: zi m.d.plan.most :: zi 2 :: .own 2 :: .int .u64 m.d.scan.bits :: zi m.d.scan.have_ :: zi m.d.start :: zi m.d.at_ :: zi m.d.field.number :: zi m.d.field.kind :: .bool m.d.field.rep :: .bool m.d.field.packed :: zi m.d.field.msg :: zi m.d.wire :: zi 0 :: zi 0 :: zi 0 :: zi 0 :: z8), .tree m.d.plan.shapes, .lst .lev m.d.stack, .lst .ev m.out] (.tup []) z39) ∧ z27 = .v z16 ∧ ([.cells (.own 1 :: zi m.d.plan.root :: zi m.d.plan.deep :: zi m.d.plan.most :: zi 2 :: .own 4 :: .int .u64 m.d.scan.bits :: zi m.d.scan.have_ :: zi m.d.start :: zi m.d.at_ :: zi m.d.field.number :: zi m.d.field.kind :: .bool m.d.field.rep :: .bool m.d.field.packed :: zi m.d.field.msg :: zi m.d.wire :: zi 0 :: zi 0 :: zi 0 :: zi 0 :: z7), .tree m.d.plan.shapes, .dead, .dead, .lst .lev m.d.stack, .lst .ev z49] : List Blk) = z10)) ∧ (z37 = false → (z45 = true → (z37 = false) ∧ (z30 = true → (z23 = true → (z41 = true → (Fun Tryz.prog 179 [.agg z52] [] (.v z35) []) ∧ (z38 = true → z18 ∧ z18 ∧ z36 ∧ z28 ∧ z36 ∧ z28 ∧ (z21 = true → (Fun Tryz.prog 218 z33 z22 (.tup []) z14) ∧ z27 = .v z16 ∧ z17 = z10) ∧ (z21 = false → (Fun Tryz.prog 218 z34 z26 (.tup []) z15) ∧ z27 = .v z16 ∧ z19 = z10)) ∧ z24) ∧ z25) ∧ z31) ∧ z20) ∧ (z45 = false → (z46 = true → (z23 = true → (z37 = false) ∧ (z30 = true → (z23 = true) ∧ (z41 = true → (Fun Tryz.prog 179 [.agg z52] [] (.v z35) []) ∧ (z38 = true → z18 ∧ z18 ∧ z36 ∧ z28 ∧ z36 ∧ z28 ∧ (z21 = true → (Fun Tryz.prog 218 z33 z22 (.tup []) z14) ∧ z27 = .v z16 ∧ z17 = z10) ∧ (z21 = false → (Fun Tryz.prog 218 z34 z26 (.tup []) z15) ∧ z27 = .v z16 ∧ z19 = z10)) ∧ z24) ∧ z25) ∧ z20) ∧ z42) ∧ (z46 = false → (z30 = true → (z23 = true → (z41 = true → (Fun Tryz.prog 179 [.agg z52] [] (.v z35) []) ∧ (z38 = true → z18 ∧ z18 ∧ z36 ∧ z28 ∧ z36 ∧ z28 ∧ (z21 = true → (Fun Tryz.prog 218 z33 z22 (.tup []) z14) ∧ z27 = .v z16 ∧ z17 = z10) ∧ (z21 = false → (Fun Tryz.prog 218 z34 z26 (.tup []) z15) ∧ z27 = .v z16 ∧ z19 = z10)) ∧ z24) ∧ z25) ∧ z31) ∧ z20)))) ∧ ((decide (m.d.mode = 6)) = false → (z45 = true → z32 ∧ (z37 = false → (z30 = true → (z23 = true → (z41 = true → (Fun Tryz.prog 179 [.agg z52] [] (.v z35) []) ∧ (z38 = true → z18 ∧ z18 ∧ z36 ∧ z28 ∧ z36 ∧ z28 ∧ (z21 = true → (Fun Tryz.prog 218 z33 z22 (.tup []) z14) ∧ z27 = .v z16 ∧ z17 = z10) ∧ (z21 = false → (Fun Tryz.prog 218 z34 z26 (.tup []) z15) ∧ z27 = .v z16 ∧ z19 = z10)) ∧ z24) ∧ z25) ∧ z31) ∧ z20)) ∧ (z45 = false → (z46 = true → (z23 = true → z32 ∧ (z37 = false → (z30 = true → (z23 = true) ∧ (z41 = true → (Fun Tryz.prog 179 [.agg z52] [] (.v z35) []) ∧ (z38 = true → z18 ∧ z18 ∧ z36 ∧ z28 ∧ z36 ∧ z28 ∧ (z21 = true → (Fun Tryz.prog 218 z33 z22 (.tup []) z14) ∧ z27 = .v z16 ∧ z17 = z10) ∧ (z21 = false → (Fun Tryz.prog 218 z34 z26 (.tup []) z15) ∧ z27 = .v z16 ∧ z19 = z10)) ∧ z24) ∧ z25) ∧ z20)) ∧ z42) ∧ (z46 = false → (z30 = true → (z23 = true → (z41 = true → (Fun Tryz.prog 179 [.agg z52] [] (.v z35) []) ∧ (z38 = true → z18 ∧ z18 ∧ z36 ∧ z28 ∧ z36 ∧ z28 ∧ (z21 = true → (Fun Tryz.prog 218 z33 z22 (.tup []) z14) ∧ z27 = .v z16 ∧ z17 = z10) ∧ (z21 = false → (Fun Tryz.prog 218 z34 z26 (.tup []) z15) ∧ z27 = .v z16 ∧ z19 = z10)) ∧ z24) ∧ z25) ∧ z31) ∧ z20))))) (by kernel_rfl) ?_
  refine dsp (fun h1 p1 => ?_) fun h1 p1 => ?_
  refine dsp (fun h2 p2 => ?_) fun h2 p2 => ?_
  refine dsp (fun h3 p3 => ?_) fun h3 p3 => ?_
  refine ⟨(fails_i m _ _ (by omega)), ?_⟩
  refine have hm1 : (closeM m).getD m = (mFail m 5 m.d.at_) := ?_; ?_
  rotate_left
  refine ⟨(sB ?_), (by rw [hm1] <;> rfl)⟩
  rotate_left
  refine ⟨(emit_i (⟨(⟨m.d.plan, 2, m.d.stack, m.d.scan, m.d.start, m.d.at_, m.d.field, m.d.wire, 0, utf0, m.d.end_⟩ : Dcd), m.out⟩ : Mac) (⟨5, 0, 0, 0, [], 0, 0⟩ : Ev) (by first | omega | rfl | (dsimp only; omega))), ?_⟩
  refine have hm1 : (closeM m).getD m = (⟨(⟨m.d.plan, 2, m.d.stack, m.d.scan, m.d.start, m.d.at_, m.d.field, m.d.wire, 0, utf0, m.d.end_⟩ : Dcd), m.out ++ [(⟨5, 0, 0, 0, [], 0, 0⟩ : Ev)]⟩ : Mac) := ?_; ?_
  rotate_left
  refine ⟨(sB ?_), (by rw [hm1] <;> rfl)⟩
  rotate_left
  refine dsp (fun h3 p3 => ?_) fun h3 p3 => ?_
  refine ⟨h2, dsp (fun h4 p4 => ?_) fun h4 p4 => ?_⟩
  refine dsp (fun h5 p5 => ?_) fun h5 p5 => ?_
  refine dsp (fun h6 p6 => ?_) fun h6 p6 => ?_
  refine ⟨(topL_i m.d (by omega)), dsp (fun h7 p7 => ?_) fun h7 p7 => ?_⟩
  refine ⟨(as_i64 (by omega) (by omega)), (as_i64 (by omega) (by omega)), (by omega), (by omega), (by omega), (by omega), dsp (fun h8 p8 => ?_) fun h8 p8 => ?_⟩
  refine ⟨(emit_i (⟨(⟨m.d.plan, m.d.mode, List.take ((Int.toNat ((m.d.stack.length : Int) - 1)) - 0) m.d.stack, m.d.scan, m.d.start, m.d.at_, m.d.field, m.d.wire, m.d.want, m.d.utf, m.d.end_⟩ : Dcd), m.out⟩ : Mac) (⟨7, 0, 0, 0, [], 0, 0⟩ : Ev) (by first | omega | rfl | (dsimp only; omega))), ?_⟩
  refine have hm1 : (closeM m).getD m = (⟨(⟨m.d.plan, m.d.mode, List.take ((Int.toNat ((m.d.stack.length : Int) - 1)) - 0) m.d.stack, m.d.scan, m.d.start, m.d.at_, m.d.field, m.d.wire, m.d.want, m.d.utf, m.d.end_⟩ : Dcd), m.out ++ [(⟨7, 0, 0, 0, [], 0, 0⟩ : Ev)]⟩ : Mac) := ?_; ?_
  rotate_left
  refine ⟨(sB ?_), (by rw [hm1] <;> rfl)⟩
  rotate_left
  refine ⟨(emit_i (⟨(⟨m.d.plan, 1, List.take ((Int.toNat ((m.d.stack.length : Int) - 1)) - 0) m.d.stack, m.d.scan, m.d.start, m.d.at_, m.d.field, m.d.wire, m.d.want, m.d.utf, m.d.end_⟩ : Dcd), m.out⟩ : Mac) (⟨8, 0, 0, 0, [], 0, 0⟩ : Ev) (by first | omega | rfl | (dsimp only; omega))), ?_⟩
  refine have hm1 : (closeM m).getD m = (⟨(⟨m.d.plan, 1, List.take ((Int.toNat ((m.d.stack.length : Int) - 1)) - 0) m.d.stack, m.d.scan, m.d.start, m.d.at_, m.d.field, m.d.wire, m.d.want, m.d.utf, m.d.end_⟩ : Dcd), m.out ++ [(⟨8, 0, 0, 0, [], 0, 0⟩ : Ev)]⟩ : Mac) := ?_; ?_
  rotate_left
  refine ⟨(sB ?_), (by rw [hm1] <;> rfl)⟩
  rotate_left
  refine have hm1 : (closeM m).getD m = m := ?_; ?_
  rotate_left
  refine ⟨(sB ?_), (by rw [hm1] <;> rfl)⟩
  rotate_left
  refine have hm1 : (closeM m).getD m = m := ?_; ?_
  rotate_left
  refine ⟨(sB ?_), (by rw [hm1] <;> rfl)⟩
  rotate_left
  refine have hm1 : (closeM m).getD m = m := ?_; ?_
  rotate_left
  refine ⟨(sB ?_), (by rw [hm1] <;> rfl)⟩
  rotate_left
  refine have hm1 : (closeM m).getD m = m := ?_; ?_
  rotate_left
  refine ⟨(sB ?_), (by rw [hm1] <;> rfl)⟩
  rotate_left
  refine dsp (fun h4 p4 => ?_) fun h4 p4 => ?_
  refine dsp (fun h5 p5 => ?_) fun h5 p5 => ?_
  refine ⟨h2, dsp (fun h6 p6 => ?_) fun h6 p6 => ?_⟩
  refine ⟨h5, dsp (fun h7 p7 => ?_) fun h7 p7 => ?_⟩
  refine ⟨(topL_i m.d (by omega)), dsp (fun h8 p8 => ?_) fun h8 p8 => ?_⟩
  refine ⟨(as_i64 (by omega) (by omega)), (as_i64 (by omega) (by omega)), (by omega), (by omega), (by omega), (by omega), dsp (fun h9 p9 => ?_) fun h9 p9 => ?_⟩
  refine ⟨(emit_i (⟨(⟨m.d.plan, m.d.mode, List.take ((Int.toNat ((m.d.stack.length : Int) - 1)) - 0) m.d.stack, m.d.scan, m.d.start, m.d.at_, m.d.field, m.d.wire, m.d.want, m.d.utf, m.d.end_⟩ : Dcd), m.out⟩ : Mac) (⟨7, 0, 0, 0, [], 0, 0⟩ : Ev) (by first | omega | rfl | (dsimp only; omega))), ?_⟩
  refine have hm1 : (closeM m).getD m = (⟨(⟨m.d.plan, m.d.mode, List.take ((Int.toNat ((m.d.stack.length : Int) - 1)) - 0) m.d.stack, m.d.scan, m.d.start, m.d.at_, m.d.field, m.d.wire, m.d.want, m.d.utf, m.d.end_⟩ : Dcd), m.out ++ [(⟨7, 0, 0, 0, [], 0, 0⟩ : Ev)]⟩ : Mac) := ?_; ?_
  rotate_left
  refine ⟨(sB ?_), (by rw [hm1] <;> rfl)⟩
  rotate_left
  refine ⟨(emit_i (⟨(⟨m.d.plan, 1, List.take ((Int.toNat ((m.d.stack.length : Int) - 1)) - 0) m.d.stack, m.d.scan, m.d.start, m.d.at_, m.d.field, m.d.wire, m.d.want, m.d.utf, m.d.end_⟩ : Dcd), m.out⟩ : Mac) (⟨8, 0, 0, 0, [], 0, 0⟩ : Ev) (by first | omega | rfl | (dsimp only; omega))), ?_⟩
  refine have hm1 : (closeM m).getD m = (⟨(⟨m.d.plan, 1, List.take ((Int.toNat ((m.d.stack.length : Int) - 1)) - 0) m.d.stack, m.d.scan, m.d.start, m.d.at_, m.d.field, m.d.wire, m.d.want, m.d.utf, m.d.end_⟩ : Dcd), m.out ++ [(⟨8, 0, 0, 0, [], 0, 0⟩ : Ev)]⟩ : Mac) := ?_; ?_
  rotate_left
  refine ⟨(sB ?_), (by rw [hm1] <;> rfl)⟩
  rotate_left
  refine have hm1 : (closeM m).getD m = m := ?_; ?_
  rotate_left
  refine ⟨(sB ?_), (by rw [hm1] <;> rfl)⟩
  rotate_left
  refine have hm1 : (closeM m).getD m = m := ?_; ?_
  rotate_left
  refine ⟨(sB ?_), (by rw [hm1] <;> rfl)⟩
  rotate_left
  refine have hm1 : (closeM m).getD m = m := ?_; ?_
  rotate_left
  refine ⟨(sB ?_), (by rw [hm1] <;> rfl)⟩
  rotate_left
  refine dsp (fun h6 p6 => ?_) fun h6 p6 => ?_
  refine ⟨h5, ?_⟩
  refine have hm1 : (closeM m).getD m = m := ?_; ?_
  rotate_left
  refine ⟨(sB ?_), (by rw [hm1] <;> rfl)⟩
  rotate_left
  refine have hm1 : (closeM m).getD m = m := ?_; ?_
  rotate_left
  refine ⟨(sB ?_), (by rw [hm1] <;> rfl)⟩
  rotate_left
  refine dsp (fun h5 p5 => ?_) fun h5 p5 => ?_
  refine dsp (fun h6 p6 => ?_) fun h6 p6 => ?_
  refine dsp (fun h7 p7 => ?_) fun h7 p7 => ?_
  refine ⟨(topL_i m.d (by omega)), dsp (fun h8 p8 => ?_) fun h8 p8 => ?_⟩
  refine ⟨(as_i64 (by omega) (by omega)), (as_i64 (by omega) (by omega)), (by omega), (by omega), (by omega), (by omega), dsp (fun h9 p9 => ?_) fun h9 p9 => ?_⟩
  refine ⟨(emit_i (⟨(⟨m.d.plan, m.d.mode, List.take ((Int.toNat ((m.d.stack.length : Int) - 1)) - 0) m.d.stack, m.d.scan, m.d.start, m.d.at_, m.d.field, m.d.wire, m.d.want, m.d.utf, m.d.end_⟩ : Dcd), m.out⟩ : Mac) (⟨7, 0, 0, 0, [], 0, 0⟩ : Ev) (by first | omega | rfl | (dsimp only; omega))), ?_⟩
  refine have hm1 : (closeM m).getD m = (⟨(⟨m.d.plan, m.d.mode, List.take ((Int.toNat ((m.d.stack.length : Int) - 1)) - 0) m.d.stack, m.d.scan, m.d.start, m.d.at_, m.d.field, m.d.wire, m.d.want, m.d.utf, m.d.end_⟩ : Dcd), m.out ++ [(⟨7, 0, 0, 0, [], 0, 0⟩ : Ev)]⟩ : Mac) := ?_; ?_
  rotate_left
  refine ⟨(sB ?_), (by rw [hm1] <;> rfl)⟩
  rotate_left
  refine ⟨(emit_i (⟨(⟨m.d.plan, 1, List.take ((Int.toNat ((m.d.stack.length : Int) - 1)) - 0) m.d.stack, m.d.scan, m.d.start, m.d.at_, m.d.field, m.d.wire, m.d.want, m.d.utf, m.d.end_⟩ : Dcd), m.out⟩ : Mac) (⟨8, 0, 0, 0, [], 0, 0⟩ : Ev) (by first | omega | rfl | (dsimp only; omega))), ?_⟩
  refine have hm1 : (closeM m).getD m = (⟨(⟨m.d.plan, 1, List.take ((Int.toNat ((m.d.stack.length : Int) - 1)) - 0) m.d.stack, m.d.scan, m.d.start, m.d.at_, m.d.field, m.d.wire, m.d.want, m.d.utf, m.d.end_⟩ : Dcd), m.out ++ [(⟨8, 0, 0, 0, [], 0, 0⟩ : Ev)]⟩ : Mac) := ?_; ?_
  rotate_left
  refine ⟨(sB ?_), (by rw [hm1] <;> rfl)⟩
  rotate_left
  refine have hm1 : (closeM m).getD m = m := ?_; ?_
  rotate_left
  refine ⟨(sB ?_), (by rw [hm1] <;> rfl)⟩
  rotate_left
  refine have hm1 : (closeM m).getD m = m := ?_; ?_
  rotate_left
  refine ⟨(sB ?_), (by rw [hm1] <;> rfl)⟩
  rotate_left
  refine have hm1 : (closeM m).getD m = m := ?_; ?_
  rotate_left
  refine ⟨(sB ?_), (by rw [hm1] <;> rfl)⟩
  rotate_left
  refine have hm1 : (closeM m).getD m = m := ?_; ?_
  rotate_left
  refine ⟨(sB ?_), (by rw [hm1] <;> rfl)⟩
  rotate_left
  refine dsp (fun h2 p2 => ?_) fun h2 p2 => ?_
  refine dsp (fun h3 p3 => ?_) fun h3 p3 => ?_
  refine have hm1 : (closeM m).getD m = (⟨(⟨m.d.plan, 2, m.d.stack, m.d.scan, m.d.start, m.d.at_, m.d.field, m.d.wire, 0, m.d.utf, m.d.end_⟩ : Dcd), m.out⟩ : Mac) := ?_; ?_
  rotate_left
  refine ⟨(sB ?_), (by rw [hm1] <;> rfl)⟩
  rotate_left
  refine dsp (fun h4 p4 => ?_) fun h4 p4 => ?_
  refine dsp (fun h5 p5 => ?_) fun h5 p5 => ?_
  refine dsp (fun h6 p6 => ?_) fun h6 p6 => ?_
  refine ⟨(topL_i m.d (by omega)), dsp (fun h7 p7 => ?_) fun h7 p7 => ?_⟩
  refine ⟨(as_i64 (by omega) (by omega)), (as_i64 (by omega) (by omega)), (by omega), (by omega), (by omega), (by omega), dsp (fun h8 p8 => ?_) fun h8 p8 => ?_⟩
  refine ⟨(emit_i (⟨(⟨m.d.plan, m.d.mode, List.take ((Int.toNat ((m.d.stack.length : Int) - 1)) - 0) m.d.stack, m.d.scan, m.d.start, m.d.at_, m.d.field, m.d.wire, m.d.want, m.d.utf, m.d.end_⟩ : Dcd), m.out⟩ : Mac) (⟨7, 0, 0, 0, [], 0, 0⟩ : Ev) (by first | omega | rfl | (dsimp only; omega))), ?_⟩
  refine have hm1 : (closeM m).getD m = (⟨(⟨m.d.plan, m.d.mode, List.take ((Int.toNat ((m.d.stack.length : Int) - 1)) - 0) m.d.stack, m.d.scan, m.d.start, m.d.at_, m.d.field, m.d.wire, m.d.want, m.d.utf, m.d.end_⟩ : Dcd), m.out ++ [(⟨7, 0, 0, 0, [], 0, 0⟩ : Ev)]⟩ : Mac) := ?_; ?_
  rotate_left
  refine ⟨(sB ?_), (by rw [hm1] <;> rfl)⟩
  rotate_left
  refine ⟨(emit_i (⟨(⟨m.d.plan, 1, List.take ((Int.toNat ((m.d.stack.length : Int) - 1)) - 0) m.d.stack, m.d.scan, m.d.start, m.d.at_, m.d.field, m.d.wire, m.d.want, m.d.utf, m.d.end_⟩ : Dcd), m.out⟩ : Mac) (⟨8, 0, 0, 0, [], 0, 0⟩ : Ev) (by first | omega | rfl | (dsimp only; omega))), ?_⟩
  refine have hm1 : (closeM m).getD m = (⟨(⟨m.d.plan, 1, List.take ((Int.toNat ((m.d.stack.length : Int) - 1)) - 0) m.d.stack, m.d.scan, m.d.start, m.d.at_, m.d.field, m.d.wire, m.d.want, m.d.utf, m.d.end_⟩ : Dcd), m.out ++ [(⟨8, 0, 0, 0, [], 0, 0⟩ : Ev)]⟩ : Mac) := ?_; ?_
  rotate_left
  refine ⟨(sB ?_), (by rw [hm1] <;> rfl)⟩
  rotate_left
  refine have hm1 : (closeM m).getD m = m := ?_; ?_
  rotate_left
  refine ⟨(sB ?_), (by rw [hm1] <;> rfl)⟩
  rotate_left
  refine have hm1 : (closeM m).getD m = m := ?_; ?_
  rotate_left
  refine ⟨(sB ?_), (by rw [hm1] <;> rfl)⟩
  rotate_left
  refine have hm1 : (closeM m).getD m = m := ?_; ?_
  rotate_left
  refine ⟨(sB ?_), (by rw [hm1] <;> rfl)⟩
  rotate_left
  refine have hm1 : (closeM m).getD m = m := ?_; ?_
  rotate_left
  refine ⟨(sB ?_), (by rw [hm1] <;> rfl)⟩
  rotate_left
  refine dsp (fun h3 p3 => ?_) fun h3 p3 => ?_
  refine dsp (fun h4 p4 => ?_) fun h4 p4 => ?_
  refine dsp (fun h5 p5 => ?_) fun h5 p5 => ?_
  refine have hm1 : (closeM m).getD m = (⟨(⟨m.d.plan, 2, m.d.stack, m.d.scan, m.d.start, m.d.at_, m.d.field, m.d.wire, 0, m.d.utf, m.d.end_⟩ : Dcd), m.out⟩ : Mac) := ?_; ?_
  rotate_left
  refine ⟨(sB ?_), (by rw [hm1] <;> rfl)⟩
  rotate_left
  refine dsp (fun h6 p6 => ?_) fun h6 p6 => ?_
  refine ⟨h4, dsp (fun h7 p7 => ?_) fun h7 p7 => ?_⟩
  refine ⟨(topL_i m.d (by omega)), dsp (fun h8 p8 => ?_) fun h8 p8 => ?_⟩
  refine ⟨(as_i64 (by omega) (by omega)), (as_i64 (by omega) (by omega)), (by omega), (by omega), (by omega), (by omega), dsp (fun h9 p9 => ?_) fun h9 p9 => ?_⟩
  refine ⟨(emit_i (⟨(⟨m.d.plan, m.d.mode, List.take ((Int.toNat ((m.d.stack.length : Int) - 1)) - 0) m.d.stack, m.d.scan, m.d.start, m.d.at_, m.d.field, m.d.wire, m.d.want, m.d.utf, m.d.end_⟩ : Dcd), m.out⟩ : Mac) (⟨7, 0, 0, 0, [], 0, 0⟩ : Ev) (by first | omega | rfl | (dsimp only; omega))), ?_⟩
  refine have hm1 : (closeM m).getD m = (⟨(⟨m.d.plan, m.d.mode, List.take ((Int.toNat ((m.d.stack.length : Int) - 1)) - 0) m.d.stack, m.d.scan, m.d.start, m.d.at_, m.d.field, m.d.wire, m.d.want, m.d.utf, m.d.end_⟩ : Dcd), m.out ++ [(⟨7, 0, 0, 0, [], 0, 0⟩ : Ev)]⟩ : Mac) := ?_; ?_
  rotate_left
  refine ⟨(sB ?_), (by rw [hm1] <;> rfl)⟩
  rotate_left
  refine ⟨(emit_i (⟨(⟨m.d.plan, 1, List.take ((Int.toNat ((m.d.stack.length : Int) - 1)) - 0) m.d.stack, m.d.scan, m.d.start, m.d.at_, m.d.field, m.d.wire, m.d.want, m.d.utf, m.d.end_⟩ : Dcd), m.out⟩ : Mac) (⟨8, 0, 0, 0, [], 0, 0⟩ : Ev) (by first | omega | rfl | (dsimp only; omega))), ?_⟩
  refine have hm1 : (closeM m).getD m = (⟨(⟨m.d.plan, 1, List.take ((Int.toNat ((m.d.stack.length : Int) - 1)) - 0) m.d.stack, m.d.scan, m.d.start, m.d.at_, m.d.field, m.d.wire, m.d.want, m.d.utf, m.d.end_⟩ : Dcd), m.out ++ [(⟨8, 0, 0, 0, [], 0, 0⟩ : Ev)]⟩ : Mac) := ?_; ?_
  rotate_left
  refine ⟨(sB ?_), (by rw [hm1] <;> rfl)⟩
  rotate_left
  refine have hm1 : (closeM m).getD m = m := ?_; ?_
  rotate_left
  refine ⟨(sB ?_), (by rw [hm1] <;> rfl)⟩
  rotate_left
  refine have hm1 : (closeM m).getD m = m := ?_; ?_
  rotate_left
  refine ⟨(sB ?_), (by rw [hm1] <;> rfl)⟩
  rotate_left
  refine have hm1 : (closeM m).getD m = m := ?_; ?_
  rotate_left
  refine ⟨(sB ?_), (by rw [hm1] <;> rfl)⟩
  rotate_left
  refine dsp (fun h5 p5 => ?_) fun h5 p5 => ?_
  refine ⟨h4, ?_⟩
  refine have hm1 : (closeM m).getD m = m := ?_; ?_
  rotate_left
  refine ⟨(sB ?_), (by rw [hm1] <;> rfl)⟩
  rotate_left
  refine have hm1 : (closeM m).getD m = m := ?_; ?_
  rotate_left
  refine ⟨(sB ?_), (by rw [hm1] <;> rfl)⟩
  rotate_left
  refine dsp (fun h4 p4 => ?_) fun h4 p4 => ?_
  refine dsp (fun h5 p5 => ?_) fun h5 p5 => ?_
  refine dsp (fun h6 p6 => ?_) fun h6 p6 => ?_
  refine ⟨(topL_i m.d (by omega)), dsp (fun h7 p7 => ?_) fun h7 p7 => ?_⟩
  refine ⟨(as_i64 (by omega) (by omega)), (as_i64 (by omega) (by omega)), (by omega), (by omega), (by omega), (by omega), dsp (fun h8 p8 => ?_) fun h8 p8 => ?_⟩
  refine ⟨(emit_i (⟨(⟨m.d.plan, m.d.mode, List.take ((Int.toNat ((m.d.stack.length : Int) - 1)) - 0) m.d.stack, m.d.scan, m.d.start, m.d.at_, m.d.field, m.d.wire, m.d.want, m.d.utf, m.d.end_⟩ : Dcd), m.out⟩ : Mac) (⟨7, 0, 0, 0, [], 0, 0⟩ : Ev) (by first | omega | rfl | (dsimp only; omega))), ?_⟩
  refine have hm1 : (closeM m).getD m = (⟨(⟨m.d.plan, m.d.mode, List.take ((Int.toNat ((m.d.stack.length : Int) - 1)) - 0) m.d.stack, m.d.scan, m.d.start, m.d.at_, m.d.field, m.d.wire, m.d.want, m.d.utf, m.d.end_⟩ : Dcd), m.out ++ [(⟨7, 0, 0, 0, [], 0, 0⟩ : Ev)]⟩ : Mac) := ?_; ?_
  rotate_left
  refine ⟨(sB ?_), (by rw [hm1] <;> rfl)⟩
  rotate_left
  refine ⟨(emit_i (⟨(⟨m.d.plan, 1, List.take ((Int.toNat ((m.d.stack.length : Int) - 1)) - 0) m.d.stack, m.d.scan, m.d.start, m.d.at_, m.d.field, m.d.wire, m.d.want, m.d.utf, m.d.end_⟩ : Dcd), m.out⟩ : Mac) (⟨8, 0, 0, 0, [], 0, 0⟩ : Ev) (by first | omega | rfl | (dsimp only; omega))), ?_⟩
  refine have hm1 : (closeM m).getD m = (⟨(⟨m.d.plan, 1, List.take ((Int.toNat ((m.d.stack.length : Int) - 1)) - 0) m.d.stack, m.d.scan, m.d.start, m.d.at_, m.d.field, m.d.wire, m.d.want, m.d.utf, m.d.end_⟩ : Dcd), m.out ++ [(⟨8, 0, 0, 0, [], 0, 0⟩ : Ev)]⟩ : Mac) := ?_; ?_
  rotate_left
  refine ⟨(sB ?_), (by rw [hm1] <;> rfl)⟩
  rotate_left
  refine have hm1 : (closeM m).getD m = m := ?_; ?_
  rotate_left
  refine ⟨(sB ?_), (by rw [hm1] <;> rfl)⟩
  rotate_left
  refine have hm1 : (closeM m).getD m = m := ?_; ?_
  rotate_left
  refine ⟨(sB ?_), (by rw [hm1] <;> rfl)⟩
  rotate_left
  refine have hm1 : (closeM m).getD m = m := ?_; ?_
  rotate_left
  refine ⟨(sB ?_), (by rw [hm1] <;> rfl)⟩
  rotate_left
  refine have hm1 : (closeM m).getD m = m := ?_; ?_
  rotate_left
  refine ⟨(sB ?_), (by rw [hm1] <;> rfl)⟩
  rotate_left
  all_goals first | (simp_all [closeM, mFail, dFail, evShut, evUp, evFrmEnd, utf0]; done) | (grind [closeM, mFail, dFail, evShut, evUp, evFrmEnd, utf0])
end Go.Proofs.YtpchkcpcdbdhdaaGreat.Ax
