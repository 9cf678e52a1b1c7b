/- Decoders: what is valid: both sides. What the laws of decoders write into memory. What the laws do with decoders. Models: the machine's steps. Models: bytes, whole inputs. Copies. -/
import Derived.Test.YtpchkcpcdbdhdaaGreatKFeedAll2
set_option linter.unusedSimpArgs false
set_option linter.unusedVariables false
namespace Go.Proofs.YtpchkcpcdbdhdaaGreat.Ax
open Go.RowKit
theorem wireOk_t {w : Int} (h : wireOk w = true) : 0 ≤ w ∧ w ≤ 5 := by simp [wireOk] at h; omega
theorem levelsOk_t {d : Dcd} (h : levelsOk d = true) : planOk d.plan = true := by simp only [levelsOk, Bool.and_eq_true] at h; exact h.1.1
theorem decOk_i (d : Dcd) (hp1 : List.length (d).stack ≤ bigN) (hp2 : List.length (d).plan.shapes ≤ bigN) : Fun Tryz.prog 134 [.agg (cDcd d)] [] (.v (vB (decOk d))) [] := by
 have hN : bigN = 274877906944 := rfl
 refine fun_ofw Tryz.func134 (by kernel_rfl) (by kernel_rfl) (w := let z2 := wantD d && kindD d; let z3 := !(decide (d.end_.kind = 0) && (decide (d.end_.field = 0) && (decide (d.end_.bits = 0) && (decide (d.end_.len = 0) && (decide (d.end_.text = []) && (decide (d.end_.code = 0) && decide (d.end_.at_ = 0))))))); let z4 := vB (scanD d); let z6 := ([] : List Blk); let z7 := vB (decOk d); let z8 := !decide (d.mode = 1); let z10 := !decide (d.mode = 9); let z11 := decide (0 < (d.stack.length : Int)); let z12 := (.v (vB false) : S); let z1 := z2 = false → z12 = .v z7 ∧ z6 = []; let z5 := z11 = true → z12 = .v z7 ∧ z6 = []; let z13 := decide (d.mode = 1); let z14 := (.v z4 : S); let z15 := !(decide (d.field.number = 0) && (decide (d.field.kind = 0) && (decide (d.field.rep = false) && (decide (d.field.packed = false) && decide (d.field.msg = 0))))); let z16 := vI (topL d); let z17 := decide (topL d < 1); let z9 := z17 = true → z12 = .v z7 ∧ z6 = []; let z18 := terminal d.end_; let z19 := z3 = true → z12 = .v z7 ∧ z6 = []; let z20 := eventOk d.end_; let z21 := known (d.plan).shapes d.field; let z22 := within d.at_ 0 1000000000; let z23 := z10 = false; let z24 := within d.start 0 d.at_; let z25 := z10 = true; let z26 := decide (d.mode = 9); let z27 := within d.mode 1 9; let z28 := wireOk d.wire; let z29 := (!z20) = true → z12 = .v z7 ∧ z6 = []; let z30 := (!z18) = true → z12 = .v z7 ∧ z6 = []; let z31 := utfOk d.utf; (.seg [.call [] (.v (vB (levelsOk d))) []] (.br (.leaf () []) (.seg [.call [] (.v (vB z27)) []] (.br (.leaf () []) (.seg [.call [] (.v (vB z22)) []] (.br (.leaf () []) (.seg [.call [] (.v (vB z24)) []] (.br (.leaf () []) (.seg [.call [] (.v (vB z31)) []] (.br (.leaf () []) (.seg [.call [] (.v (vB z28)) []] (.br (.leaf () []) (.br (.seg [.call [] (.v (vB z21)) []] (.br (.leaf () []) (.br (.seg [.call [] (.v (vB z20)) []] (.br (.leaf () []) (.seg [.call [] (.v (vB z18)) []] (.br (.leaf () []) (.br (.br (.leaf () []) (.br (.br (.leaf () []) (.br (.seg [.br true, .call [] (.v z16) []] (.br (.leaf () []) (.seg [.call [] (.v (vB z2)) []] (.br (.seg [.call [] (.v z4) []] (.leaf () [])) (.leaf () []))))) (.seg [.call [] (.v (vB z2)) []] (.br (.seg [.call [] (.v z4) []] (.leaf () [])) (.leaf () []))))) (.br (.seg [.br true, .call [] (.v z16) []] (.br (.leaf () []) (.seg [.call [] (.v (vB z2)) []] (.br (.seg [.call [] (.v z4) []] (.leaf () [])) (.leaf () []))))) (.seg [.call [] (.v (vB z2)) []] (.br (.seg [.call [] (.v z4) []] (.leaf () [])) (.leaf () [])))))) (.br (.br (.leaf () []) (.br (.seg [.br false, .call [] (.v (vB z2)) []] (.br (.seg [.call [] (.v z4) []] (.leaf () [])) (.leaf () []))) (.seg [.call [] (.v (vB z2)) []] (.br (.seg [.call [] (.v z4) []] (.leaf () [])) (.leaf () []))))) (.br (.seg [.br false, .call [] (.v (vB z2)) []] (.br (.seg [.call [] (.v z4) []] (.leaf () [])) (.leaf () []))) (.seg [.call [] (.v (vB z2)) []] (.br (.seg [.call [] (.v z4) []] (.leaf () [])) (.leaf () [])))))))))) (.br (.br (.leaf () []) (.br (.br (.leaf () []) (.br (.seg [.br true, .call [] (.v z16) []] (.br (.leaf () []) (.seg [.call [] (.v (vB z2)) []] (.br (.seg [.call [] (.v z4) []] (.leaf () [])) (.leaf () []))))) (.seg [.call [] (.v (vB z2)) []] (.br (.seg [.call [] (.v z4) []] (.leaf () [])) (.leaf () []))))) (.br (.seg [.br true, .call [] (.v z16) []] (.br (.leaf () []) (.seg [.call [] (.v (vB z2)) []] (.br (.seg [.call [] (.v z4) []] (.leaf () [])) (.leaf () []))))) (.seg [.call [] (.v (vB z2)) []] (.br (.seg [.call [] (.v z4) []] (.leaf () [])) (.leaf () [])))))) (.br (.br (.leaf () []) (.br (.seg [.br false, .call [] (.v (vB z2)) []] (.br (.seg [.call [] (.v z4) []] (.leaf () [])) (.leaf () []))) (.seg [.call [] (.v (vB z2)) []] (.br (.seg [.call [] (.v z4) []] (.leaf () [])) (.leaf () []))))) (.br (.seg [.br false, .call [] (.v (vB z2)) []] (.br (.seg [.call [] (.v z4) []] (.leaf () [])) (.leaf () []))) (.seg [.call [] (.v (vB z2)) []] (.br (.seg [.call [] (.v z4) []] (.leaf () [])) (.leaf () []))))))))) (.br (.seg [.call [] (.v (vB z20)) []] (.br (.leaf () []) (.seg [.call [] (.v (vB z18)) []] (.br (.leaf () []) (.br (.br (.leaf () []) (.br (.br (.leaf () []) (.br (.seg [.br true, .call [] (.v z16) []] (.br (.leaf () []) (.seg [.call [] (.v (vB z2)) []] (.br (.seg [.call [] (.v z4) []] (.leaf () [])) (.leaf () []))))) (.seg [.call [] (.v (vB z2)) []] (.br (.seg [.call [] (.v z4) []] (.leaf () [])) (.leaf () []))))) (.br (.seg [.br true, .call [] (.v z16) []] (.br (.leaf () []) (.seg [.call [] (.v (vB z2)) []] (.br (.seg [.call [] (.v z4) []] (.leaf () [])) (.leaf () []))))) (.seg [.call [] (.v (vB z2)) []] (.br (.seg [.call [] (.v z4) []] (.leaf () [])) (.leaf () [])))))) (.br (.br (.leaf () []) (.br (.seg [.br false, .call [] (.v (vB z2)) []] (.br (.seg [.call [] (.v z4) []] (.leaf () [])) (.leaf () []))) (.seg [.call [] (.v (vB z2)) []] (.br (.seg [.call [] (.v z4) []] (.leaf () [])) (.leaf () []))))) (.br (.seg [.br false, .call [] (.v (vB z2)) []] (.br (.seg [.call [] (.v z4) []] (.leaf () [])) (.leaf () []))) (.seg [.call [] (.v (vB z2)) []] (.br (.seg [.call [] (.v z4) []] (.leaf () [])) (.leaf () [])))))))))) (.br (.br (.leaf () []) (.br (.br (.leaf () []) (.br (.seg [.br true, .call [] (.v z16) []] (.br (.leaf () []) (.seg [.call [] (.v (vB z2)) []] (.br (.seg [.call [] (.v z4) []] (.leaf () [])) (.leaf () []))))) (.seg [.call [] (.v (vB z2)) []] (.br (.seg [.call [] (.v z4) []] (.leaf () [])) (.leaf () []))))) (.br (.seg [.br true, .call [] (.v z16) []] (.br (.leaf () []) (.seg [.call [] (.v (vB z2)) []] (.br (.seg [.call [] (.v z4) []] (.leaf () [])) (.leaf () []))))) (.seg [.call [] (.v (vB z2)) []] (.br (.seg [.call [] (.v z4) []] (.leaf () [])) (.leaf () [])))))) (.br (.br (.leaf () []) (.br (.seg [.br false, .call [] (.v (vB z2)) []] (.br (.seg [.call [] (.v z4) []] (.leaf () [])) (.leaf () []))) (.seg [.call [] (.v (vB z2)) []] (.br (.seg [.call [] (.v z4) []] (.leaf () [])) (.leaf () []))))) (.br (.seg [.br false, .call [] (.v (vB z2)) []] (.br (.seg [.call [] (.v z4) []] (.leaf () [])) (.leaf () []))) (.seg [.call [] (.v (vB z2)) []] (.br (.seg [.call [] (.v z4) []] (.leaf () [])) (.leaf () []))))))))))))))))))), (Fun Tryz.prog 174 [.agg (cDcd d)] [] (.v (vB (levelsOk d))) []) ∧ ((!(levelsOk d)) = true → z12 = .v z7 ∧ z6 = []) ∧ ((!(levelsOk d)) = false → (Fun Tryz.prog 173 [vI d.mode, vI 1, vI 9] [] (.v (vB z27)) []) ∧ ((!z27) = true → z12 = .v z7 ∧ z6 = []) ∧ ((!z27) = false → (Fun Tryz.prog 173 [vI d.at_, vI 0, vI 1000000000] [] (.v (vB z22)) []) ∧ ((!z22) = true → z12 = .v z7 ∧ z6 = []) ∧ ((!z22) = false → (Fun Tryz.prog 173 [vI d.start, vI 0, vI d.at_] [] (.v (vB z24)) []) ∧ ((!z24) = true → z12 = .v z7 ∧ z6 = []) ∧ ((!z24) = false → (Fun Tryz.prog 175 [.agg (cUtf d.utf)] [] (.v (vB z31)) []) ∧ ((!z31) = true → z12 = .v z7 ∧ z6 = []) ∧ ((!z31) = false → (Fun Tryz.prog 176 [vI d.wire] [] (.v (vB z28)) []) ∧ ((!z28) = true → z12 = .v z7 ∧ z6 = []) ∧ ((!z28) = false → (z15 = true → (Fun Tryz.prog 177 [.agg (cPln d.plan), .agg (cFld d.field)] [] (.v (vB z21)) []) ∧ ((!z21) = true → z12 = .v z7 ∧ z6 = []) ∧ ((!z21) = false → (z26 = true → (Fun Tryz.prog 178 [.agg (cEv d.end_)] [] (.v (vB z20)) []) ∧ z29 ∧ ((!z20) = false → (Fun Tryz.prog 129 [.agg (cEv d.end_)] [] (.v (vB z18)) []) ∧ z30 ∧ ((!z18) = false → (z10 = true → z19 ∧ (z3 = false → (z13 = true → z5 ∧ (z11 = false → (z8 = true → z25 ∧ (Fun Tryz.prog 179 [.agg (cDcd d)] [] (.v z16) []) ∧ z9 ∧ (z17 = false → (Fun Tryz.prog 180 [.agg (cDcd d)] [] (.v (vB z2)) []) ∧ (z2 = true → (Fun Tryz.prog 181 [.agg (cDcd d)] [] (.v z4) []) ∧ z14 = .v z7 ∧ z6 = []) ∧ z1)) ∧ (z8 = false → (Fun Tryz.prog 180 [.agg (cDcd d)] [] (.v (vB z2)) []) ∧ (z2 = true → (Fun Tryz.prog 181 [.agg (cDcd d)] [] (.v z4) []) ∧ z14 = .v z7 ∧ z6 = []) ∧ z1))) ∧ (z13 = false → (z8 = true → z25 ∧ (Fun Tryz.prog 179 [.agg (cDcd d)] [] (.v z16) []) ∧ z9 ∧ (z17 = false → (Fun Tryz.prog 180 [.agg (cDcd d)] [] (.v (vB z2)) []) ∧ (z2 = true → (Fun Tryz.prog 181 [.agg (cDcd d)] [] (.v z4) []) ∧ z14 = .v z7 ∧ z6 = []) ∧ z1)) ∧ (z8 = false → (Fun Tryz.prog 180 [.agg (cDcd d)] [] (.v (vB z2)) []) ∧ (z2 = true → (Fun Tryz.prog 181 [.agg (cDcd d)] [] (.v z4) []) ∧ z14 = .v z7 ∧ z6 = []) ∧ z1)))) ∧ (z10 = false → (z13 = true → z5 ∧ (z11 = false → (z8 = true → z23 ∧ (Fun Tryz.prog 180 [.agg (cDcd d)] [] (.v (vB z2)) []) ∧ (z2 = true → (Fun Tryz.prog 181 [.agg (cDcd d)] [] (.v z4) []) ∧ z14 = .v z7 ∧ z6 = []) ∧ z1) ∧ (z8 = false → (Fun Tryz.prog 180 [.agg (cDcd d)] [] (.v (vB z2)) []) ∧ (z2 = true → (Fun Tryz.prog 181 [.agg (cDcd d)] [] (.v z4) []) ∧ z14 = .v z7 ∧ z6 = []) ∧ z1))) ∧ (z13 = false → (z8 = true → z23 ∧ (Fun Tryz.prog 180 [.agg (cDcd d)] [] (.v (vB z2)) []) ∧ (z2 = true → (Fun Tryz.prog 181 [.agg (cDcd d)] [] (.v z4) []) ∧ z14 = .v z7 ∧ z6 = []) ∧ z1) ∧ (z8 = false → (Fun Tryz.prog 180 [.agg (cDcd d)] [] (.v (vB z2)) []) ∧ (z2 = true → (Fun Tryz.prog 181 [.agg (cDcd d)] [] (.v z4) []) ∧ z14 = .v z7 ∧ z6 = []) ∧ z1)))))) ∧ (z26 = false → (z10 = true → z19 ∧ (z3 = false → (z13 = true → z5 ∧ (z11 = false → (z8 = true → z25 ∧ (Fun Tryz.prog 179 [.agg (cDcd d)] [] (.v z16) []) ∧ z9 ∧ (z17 = false → (Fun Tryz.prog 180 [.agg (cDcd d)] [] (.v (vB z2)) []) ∧ (z2 = true → (Fun Tryz.prog 181 [.agg (cDcd d)] [] (.v z4) []) ∧ z14 = .v z7 ∧ z6 = []) ∧ z1)) ∧ (z8 = false → (Fun Tryz.prog 180 [.agg (cDcd d)] [] (.v (vB z2)) []) ∧ (z2 = true → (Fun Tryz.prog 181 [.agg (cDcd d)] [] (.v z4) []) ∧ z14 = .v z7 ∧ z6 = []) ∧ z1))) ∧ (z13 = false → (z8 = true → z25 ∧ (Fun Tryz.prog 179 [.agg (cDcd d)] [] (.v z16) []) ∧ z9 ∧ (z17 = false → (Fun Tryz.prog 180 [.agg (cDcd d)] [] (.v (vB z2)) []) ∧ (z2 = true → (Fun Tryz.prog 181 [.agg (cDcd d)] [] (.v z4) []) ∧ z14 = .v z7 ∧ z6 = []) ∧ z1)) ∧ (z8 = false → (Fun Tryz.prog 180 [.agg (cDcd d)] [] (.v (vB z2)) []) ∧ (z2 = true → (Fun Tryz.prog 181 [.agg (cDcd d)] [] (.v z4) []) ∧ z14 = .v z7 ∧ z6 = []) ∧ z1)))) ∧ (z10 = false → (z13 = true → z5 ∧ (z11 = false → (z8 = true → z23 ∧ (Fun Tryz.prog 180 [.agg (cDcd d)] [] (.v (vB z2)) []) ∧ (z2 = true → (Fun Tryz.prog 181 [.agg (cDcd d)] [] (.v z4) []) ∧ z14 = .v z7 ∧ z6 = []) ∧ z1) ∧ (z8 = false → (Fun Tryz.prog 180 [.agg (cDcd d)] [] (.v (vB z2)) []) ∧ (z2 = true → (Fun Tryz.prog 181 [.agg (cDcd d)] [] (.v z4) []) ∧ z14 = .v z7 ∧ z6 = []) ∧ z1))) ∧ (z13 = false → (z8 = true → z23 ∧ (Fun Tryz.prog 180 [.agg (cDcd d)] [] (.v (vB z2)) []) ∧ (z2 = true → (Fun Tryz.prog 181 [.agg (cDcd d)] [] (.v z4) []) ∧ z14 = .v z7 ∧ z6 = []) ∧ z1) ∧ (z8 = false → (Fun Tryz.prog 180 [.agg (cDcd d)] [] (.v (vB z2)) []) ∧ (z2 = true → (Fun Tryz.prog 181 [.agg (cDcd d)] [] (.v z4) []) ∧ z14 = .v z7 ∧ z6 = []) ∧ z1)))))) ∧ (z15 = false → (z26 = true → (Fun Tryz.prog 178 [.agg (cEv d.end_)] [] (.v (vB z20)) []) ∧ z29 ∧ ((!z20) = false → (Fun Tryz.prog 129 [.agg (cEv d.end_)] [] (.v (vB z18)) []) ∧ z30 ∧ ((!z18) = false → (z10 = true → z19 ∧ (z3 = false → (z13 = true → z5 ∧ (z11 = false → (z8 = true → z25 ∧ (Fun Tryz.prog 179 [.agg (cDcd d)] [] (.v z16) []) ∧ z9 ∧ (z17 = false → (Fun Tryz.prog 180 [.agg (cDcd d)] [] (.v (vB z2)) []) ∧ (z2 = true → (Fun Tryz.prog 181 [.agg (cDcd d)] [] (.v z4) []) ∧ z14 = .v z7 ∧ z6 = []) ∧ z1)) ∧ (z8 = false → (Fun Tryz.prog 180 [.agg (cDcd d)] [] (.v (vB z2)) []) ∧ (z2 = true → (Fun Tryz.prog 181 [.agg (cDcd d)] [] (.v z4) []) ∧ z14 = .v z7 ∧ z6 = []) ∧ z1))) ∧ (z13 = false → (z8 = true → z25 ∧ (Fun Tryz.prog 179 [.agg (cDcd d)] [] (.v z16) []) ∧ z9 ∧ (z17 = false → (Fun Tryz.prog 180 [.agg (cDcd d)] [] (.v (vB z2)) []) ∧ (z2 = true → (Fun Tryz.prog 181 [.agg (cDcd d)] [] (.v z4) []) ∧ z14 = .v z7 ∧ z6 = []) ∧ z1)) ∧ (z8 = false → (Fun Tryz.prog 180 [.agg (cDcd d)] [] (.v (vB z2)) []) ∧ (z2 = true → (Fun Tryz.prog 181 [.agg (cDcd d)] [] (.v z4) []) ∧ z14 = .v z7 ∧ z6 = []) ∧ z1)))) ∧ (z10 = false → (z13 = true → z5 ∧ (z11 = false → (z8 = true → z23 ∧ (Fun Tryz.prog 180 [.agg (cDcd d)] [] (.v (vB z2)) []) ∧ (z2 = true → (Fun Tryz.prog 181 [.agg (cDcd d)] [] (.v z4) []) ∧ z14 = .v z7 ∧ z6 = []) ∧ z1) ∧ (z8 = false → (Fun Tryz.prog 180 [.agg (cDcd d)] [] (.v (vB z2)) []) ∧ (z2 = true → (Fun Tryz.prog 181 [.agg (cDcd d)] [] (.v z4) []) ∧ z14 = .v z7 ∧ z6 = []) ∧ z1))) ∧ (z13 = false → (z8 = true → z23 ∧ (Fun Tryz.prog 180 [.agg (cDcd d)] [] (.v (vB z2)) []) ∧ (z2 = true → (Fun Tryz.prog 181 [.agg (cDcd d)] [] (.v z4) []) ∧ z14 = .v z7 ∧ z6 = []) ∧ z1) ∧ (z8 = false → (Fun Tryz.prog 180 [.agg (cDcd d)] [] (.v (vB z2)) []) ∧ (z2 = true → (Fun Tryz.prog 181 [.agg (cDcd d)] [] (.v z4) []) ∧ z14 = .v z7 ∧ z6 = []) ∧ z1)))))) ∧ (z26 = false → (z10 = true → z19 ∧ (z3 = false → (z13 = true → z5 ∧ (z11 = false → (z8 = true → z25 ∧ (Fun Tryz.prog 179 [.agg (cDcd d)] [] (.v z16) []) ∧ z9 ∧ (z17 = false → (Fun Tryz.prog 180 [.agg (cDcd d)] [] (.v (vB z2)) []) ∧ (z2 = true → (Fun Tryz.prog 181 [.agg (cDcd d)] [] (.v z4) []) ∧ z14 = .v z7 ∧ z6 = []) ∧ z1)) ∧ (z8 = false → (Fun Tryz.prog 180 [.agg (cDcd d)] [] (.v (vB z2)) []) ∧ (z2 = true → (Fun Tryz.prog 181 [.agg (cDcd d)] [] (.v z4) []) ∧ z14 = .v z7 ∧ z6 = []) ∧ z1))) ∧ (z13 = false → (z8 = true → z25 ∧ (Fun Tryz.prog 179 [.agg (cDcd d)] [] (.v z16) []) ∧ z9 ∧ (z17 = false → (Fun Tryz.prog 180 [.agg (cDcd d)] [] (.v (vB z2)) []) ∧ (z2 = true → (Fun Tryz.prog 181 [.agg (cDcd d)] [] (.v z4) []) ∧ z14 = .v z7 ∧ z6 = []) ∧ z1)) ∧ (z8 = false → (Fun Tryz.prog 180 [.agg (cDcd d)] [] (.v (vB z2)) []) ∧ (z2 = true → (Fun Tryz.prog 181 [.agg (cDcd d)] [] (.v z4) []) ∧ z14 = .v z7 ∧ z6 = []) ∧ z1)))) ∧ (z10 = false → (z13 = true → z5 ∧ (z11 = false → (z8 = true → z23 ∧ (Fun Tryz.prog 180 [.agg (cDcd d)] [] (.v (vB z2)) []) ∧ (z2 = true → (Fun Tryz.prog 181 [.agg (cDcd d)] [] (.v z4) []) ∧ z14 = .v z7 ∧ z6 = []) ∧ z1) ∧ (z8 = false → (Fun Tryz.prog 180 [.agg (cDcd d)] [] (.v (vB z2)) []) ∧ (z2 = true → (Fun Tryz.prog 181 [.agg (cDcd d)] [] (.v z4) []) ∧ z14 = .v z7 ∧ z6 = []) ∧ z1))) ∧ (z13 = false → (z8 = true → z23 ∧ (Fun Tryz.prog 180 [.agg (cDcd d)] [] (.v (vB z2)) []) ∧ (z2 = true → (Fun Tryz.prog 181 [.agg (cDcd d)] [] (.v z4) []) ∧ z14 = .v z7 ∧ z6 = []) ∧ z1) ∧ (z8 = false → (Fun Tryz.prog 180 [.agg (cDcd d)] [] (.v (vB z2)) []) ∧ (z2 = true → (Fun Tryz.prog 181 [.agg (cDcd d)] [] (.v z4) []) ∧ z14 = .v z7 ∧ z6 = []) ∧ z1))))))))))))) (by kernel_rfl) ?_
 refine ⟨(levelsOk_i d (by omega) (by omega)), fun h1 => have q1 := bnot_t h1; ?_, fun h1 => have q1 := bnot_f h1; ?_⟩
 refine ⟨(sB ?_), rfl⟩
 rotate_left
 have hpt := planOk_t (levelsOk_t q1)
 refine ⟨(within_i _ _ _), fun h2 => have q2 := bnot_t h2; have p2 := within_f q2; ?_, fun h2 => have q2 := bnot_f h2; have p2 := within_t q2; ?_⟩
 refine ⟨(sB ?_), rfl⟩
 rotate_left
 refine ⟨(within_i _ _ _), fun h3 => have q3 := bnot_t h3; have p3 := within_f q3; ?_, fun h3 => have q3 := bnot_f h3; have p3 := within_t q3; ?_⟩
 refine ⟨(sB ?_), rfl⟩
 rotate_left
 refine ⟨(within_i _ _ _), fun h4 => have q4 := bnot_t h4; have p4 := within_f q4; ?_, fun h4 => have q4 := bnot_f h4; have p4 := within_t q4; ?_⟩
 refine ⟨(sB ?_), rfl⟩
 rotate_left
 refine ⟨(utfOk_i d.utf), fun h5 => have q5 := bnot_t h5; ?_, fun h5 => have q5 := bnot_f h5; have p5 := utfOk_want q5; ?_⟩
 refine ⟨(sB ?_), rfl⟩
 rotate_left
 refine ⟨(wireOk_i _), fun h6 => have q6 := bnot_t h6; ?_, fun h6 => have q6 := bnot_f h6; ?_⟩
 refine ⟨(sB ?_), rfl⟩
 rotate_left
 have hwk := wireOk_t (w := d.wire) q6
 refine ⟨fun h7 => have q7 := bnot_t h7; have p7 := (andF dT (andF dT (andF dT (andF dT dF)))).1 q7; ?_, fun h7 => have q7 := bnot_f h7; have p7 := (andT dT (andT dT (andT dT (andT dT dT)))).1 q7; ?_⟩
 refine ⟨(known_i d.plan d.field (by omega) (schemaOk_fields hpt.2.1)), fun h8 => have q8 := bnot_t h8; ?_, fun h8 => have q8 := bnot_f h8; ?_⟩
 refine ⟨(sB ?_), rfl⟩
 rotate_left
 refine dsp (fun h9 p9 => ?_) fun h9 p9 => ?_
 refine ⟨(eventOk_i d.end_), fun h10 => have q10 := bnot_t h10; ?_, fun h10 => have q10 := bnot_f h10; ?_⟩
 refine ⟨(sB ?_), rfl⟩
 rotate_left
 refine ⟨(terminal_i d.end_), fun h11 => have q11 := bnot_t h11; ?_, fun h11 => have q11 := bnot_f h11; ?_⟩
 refine ⟨(sB ?_), rfl⟩
 rotate_left
 refine ⟨fun h12 => have q12 := bnot_t h12; have p12 := of_decide_eq_false q12; ?_, fun h12 => have q12 := bnot_f h12; have p12 := of_decide_eq_true q12; ?_⟩
 refine ⟨fun h13 => have q13 := bnot_t h13; have p13 := (andF dT (andF dT (andF dT (andF dT (andF dT (andF dT dF)))))).1 q13; ?_, fun h13 => have q13 := bnot_f h13; have p13 := (andT dT (andT dT (andT dT (andT dT (andT dT (andT dT dT)))))).1 q13; ?_⟩
 refine ⟨(sB ?_), rfl⟩
 rotate_left
 refine dsp (fun h14 p14 => ?_) fun h14 p14 => ?_
 refine dsp (fun h15 p15 => ?_) fun h15 p15 => ?_
 refine ⟨(sB ?_), rfl⟩
 rotate_left
 refine ⟨fun h16 => have q16 := bnot_t h16; have p16 := of_decide_eq_false q16; ?_, fun h16 => have q16 := bnot_f h16; have p16 := of_decide_eq_true q16; ?_⟩
 refine ⟨h12, (topL_i d (by omega)), dsp (fun h17 p17 => ?_) fun h17 p17 => ?_⟩
 refine ⟨(sB ?_), rfl⟩
 rotate_left
 refine ⟨(modeD_i d (by omega)), fun h18 => ?_, fun h18 => ?_⟩
 refine ⟨(scanD_i d (by omega)), (sB ?_), rfl⟩
 rotate_left
 refine ⟨(sB ?_), rfl⟩
 rotate_left
 refine ⟨(modeD_i d (by omega)), fun h17 => ?_, fun h17 => ?_⟩
 refine ⟨(scanD_i d (by omega)), (sB ?_), rfl⟩
 rotate_left
 refine ⟨(sB ?_), rfl⟩
 rotate_left
 refine ⟨fun h15 => have q15 := bnot_t h15; have p15 := of_decide_eq_false q15; ?_, fun h15 => have q15 := bnot_f h15; have p15 := of_decide_eq_true q15; ?_⟩
 refine ⟨h12, (topL_i d (by omega)), dsp (fun h16 p16 => ?_) fun h16 p16 => ?_⟩
 refine ⟨(sB ?_), rfl⟩
 rotate_left
 refine ⟨(modeD_i d (by omega)), fun h17 => ?_, fun h17 => ?_⟩
 refine ⟨(scanD_i d (by omega)), (sB ?_), rfl⟩
 rotate_left
 refine ⟨(sB ?_), rfl⟩
 rotate_left
 refine ⟨(modeD_i d (by omega)), fun h16 => ?_, fun h16 => ?_⟩
 refine ⟨(scanD_i d (by omega)), (sB ?_), rfl⟩
 rotate_left
 refine ⟨(sB ?_), rfl⟩
 rotate_left
 refine dsp (fun h13 p13 => ?_) fun h13 p13 => ?_
 refine dsp (fun h14 p14 => ?_) fun h14 p14 => ?_
 refine ⟨(sB ?_), rfl⟩
 rotate_left
 refine ⟨fun h15 => have q15 := bnot_t h15; have p15 := of_decide_eq_false q15; ?_, fun h15 => have q15 := bnot_f h15; have p15 := of_decide_eq_true q15; ?_⟩
 refine ⟨h12, (modeD_i d (by omega)), fun h16 => ?_, fun h16 => ?_⟩
 refine ⟨(scanD_i d (by omega)), (sB ?_), rfl⟩
 rotate_left
 refine ⟨(sB ?_), rfl⟩
 rotate_left
 refine ⟨(modeD_i d (by omega)), fun h16 => ?_, fun h16 => ?_⟩
 refine ⟨(scanD_i d (by omega)), (sB ?_), rfl⟩
 rotate_left
 refine ⟨(sB ?_), rfl⟩
 rotate_left
 refine ⟨fun h14 => have q14 := bnot_t h14; have p14 := of_decide_eq_false q14; ?_, fun h14 => have q14 := bnot_f h14; have p14 := of_decide_eq_true q14; ?_⟩
 refine ⟨h12, (modeD_i d (by omega)), fun h15 => ?_, fun h15 => ?_⟩
 refine ⟨(scanD_i d (by omega)), (sB ?_), rfl⟩
 rotate_left
 refine ⟨(sB ?_), rfl⟩
 rotate_left
 refine ⟨(modeD_i d (by omega)), fun h15 => ?_, fun h15 => ?_⟩
 refine ⟨(scanD_i d (by omega)), (sB ?_), rfl⟩
 rotate_left
 refine ⟨(sB ?_), rfl⟩
 rotate_left
 refine ⟨fun h10 => have q10 := bnot_t h10; have p10 := of_decide_eq_false q10; ?_, fun h10 => have q10 := bnot_f h10; have p10 := of_decide_eq_true q10; ?_⟩
 refine ⟨fun h11 => have q11 := bnot_t h11; have p11 := (andF dT (andF dT (andF dT (andF dT (andF dT (andF dT dF)))))).1 q11; ?_, fun h11 => have q11 := bnot_f h11; have p11 := (andT dT (andT dT (andT dT (andT dT (andT dT (andT dT dT)))))).1 q11; ?_⟩
 refine ⟨(sB ?_), rfl⟩
 rotate_left
 refine dsp (fun h12 p12 => ?_) fun h12 p12 => ?_
 refine dsp (fun h13 p13 => ?_) fun h13 p13 => ?_
 refine ⟨(sB ?_), rfl⟩
 rotate_left
 refine ⟨fun h14 => have q14 := bnot_t h14; have p14 := of_decide_eq_false q14; ?_, fun h14 => have q14 := bnot_f h14; have p14 := of_decide_eq_true q14; ?_⟩
 refine ⟨h10, (topL_i d (by omega)), dsp (fun h15 p15 => ?_) fun h15 p15 => ?_⟩
 refine ⟨(sB ?_), rfl⟩
 rotate_left
 refine ⟨(modeD_i d (by omega)), fun h16 => ?_, fun h16 => ?_⟩
 refine ⟨(scanD_i d (by omega)), (sB ?_), rfl⟩
 rotate_left
 refine ⟨(sB ?_), rfl⟩
 rotate_left
 refine ⟨(modeD_i d (by omega)), fun h15 => ?_, fun h15 => ?_⟩
 refine ⟨(scanD_i d (by omega)), (sB ?_), rfl⟩
 rotate_left
 refine ⟨(sB ?_), rfl⟩
 rotate_left
 refine ⟨fun h13 => have q13 := bnot_t h13; have p13 := of_decide_eq_false q13; ?_, fun h13 => have q13 := bnot_f h13; have p13 := of_decide_eq_true q13; ?_⟩
 refine ⟨h10, (topL_i d (by omega)), dsp (fun h14 p14 => ?_) fun h14 p14 => ?_⟩
 refine ⟨(sB ?_), rfl⟩
 rotate_left
 refine ⟨(modeD_i d (by omega)), fun h15 => ?_, fun h15 => ?_⟩
 refine ⟨(scanD_i d (by omega)), (sB ?_), rfl⟩
 rotate_left
 refine ⟨(sB ?_), rfl⟩
 rotate_left
 refine ⟨(modeD_i d (by omega)), fun h14 => ?_, fun h14 => ?_⟩
 refine ⟨(scanD_i d (by omega)), (sB ?_), rfl⟩
 rotate_left
 refine ⟨(sB ?_), rfl⟩
 rotate_left
 refine dsp (fun h11 p11 => ?_) fun h11 p11 => ?_
 refine dsp (fun h12 p12 => ?_) fun h12 p12 => ?_
 refine ⟨(sB ?_), rfl⟩
 rotate_left
 refine ⟨fun h13 => have q13 := bnot_t h13; have p13 := of_decide_eq_false q13; ?_, fun h13 => have q13 := bnot_f h13; have p13 := of_decide_eq_true q13; ?_⟩
 refine ⟨h10, (modeD_i d (by omega)), fun h14 => ?_, fun h14 => ?_⟩
 refine ⟨(scanD_i d (by omega)), (sB ?_), rfl⟩
 rotate_left
 refine ⟨(sB ?_), rfl⟩
 rotate_left
 refine ⟨(modeD_i d (by omega)), fun h14 => ?_, fun h14 => ?_⟩
 refine ⟨(scanD_i d (by omega)), (sB ?_), rfl⟩
 rotate_left
 refine ⟨(sB ?_), rfl⟩
 rotate_left
 refine ⟨fun h12 => have q12 := bnot_t h12; have p12 := of_decide_eq_false q12; ?_, fun h12 => have q12 := bnot_f h12; have p12 := of_decide_eq_true q12; ?_⟩
 refine ⟨h10, (modeD_i d (by omega)), fun h13 => ?_, fun h13 => ?_⟩
 refine ⟨(scanD_i d (by omega)), (sB ?_), rfl⟩
 rotate_left
 refine ⟨(sB ?_), rfl⟩
 rotate_left
 refine ⟨(modeD_i d (by omega)), fun h13 => ?_, fun h13 => ?_⟩
 refine ⟨(scanD_i d (by omega)), (sB ?_), rfl⟩
 rotate_left
 refine ⟨(sB ?_), rfl⟩
 rotate_left
 refine dsp (fun h8 p8 => ?_) fun h8 p8 => ?_
 refine ⟨(eventOk_i d.end_), fun h9 => have q9 := bnot_t h9; ?_, fun h9 => have q9 := bnot_f h9; ?_⟩
 refine ⟨(sB ?_), rfl⟩
 rotate_left
 refine ⟨(terminal_i d.end_), fun h10 => have q10 := bnot_t h10; ?_, fun h10 => have q10 := bnot_f h10; ?_⟩
 refine ⟨(sB ?_), rfl⟩
 rotate_left
 refine ⟨fun h11 => have q11 := bnot_t h11; have p11 := of_decide_eq_false q11; ?_, fun h11 => have q11 := bnot_f h11; have p11 := of_decide_eq_true q11; ?_⟩
 refine ⟨fun h12 => have q12 := bnot_t h12; have p12 := (andF dT (andF dT (andF dT (andF dT (andF dT (andF dT dF)))))).1 q12; ?_, fun h12 => have q12 := bnot_f h12; have p12 := (andT dT (andT dT (andT dT (andT dT (andT dT (andT dT dT)))))).1 q12; ?_⟩
 refine ⟨(sB ?_), rfl⟩
 rotate_left
 refine dsp (fun h13 p13 => ?_) fun h13 p13 => ?_
 refine dsp (fun h14 p14 => ?_) fun h14 p14 => ?_
 refine ⟨(sB ?_), rfl⟩
 rotate_left
 refine ⟨fun h15 => have q15 := bnot_t h15; have p15 := of_decide_eq_false q15; ?_, fun h15 => have q15 := bnot_f h15; have p15 := of_decide_eq_true q15; ?_⟩
 refine ⟨h11, (topL_i d (by omega)), dsp (fun h16 p16 => ?_) fun h16 p16 => ?_⟩
 refine ⟨(sB ?_), rfl⟩
 rotate_left
 refine ⟨(modeD_i d (by omega)), fun h17 => ?_, fun h17 => ?_⟩
 refine ⟨(scanD_i d (by omega)), (sB ?_), rfl⟩
 rotate_left
 refine ⟨(sB ?_), rfl⟩
 rotate_left
 refine ⟨(modeD_i d (by omega)), fun h16 => ?_, fun h16 => ?_⟩
 refine ⟨(scanD_i d (by omega)), (sB ?_), rfl⟩
 rotate_left
 refine ⟨(sB ?_), rfl⟩
 rotate_left
 refine ⟨fun h14 => have q14 := bnot_t h14; have p14 := of_decide_eq_false q14; ?_, fun h14 => have q14 := bnot_f h14; have p14 := of_decide_eq_true q14; ?_⟩
 refine ⟨h11, (topL_i d (by omega)), dsp (fun h15 p15 => ?_) fun h15 p15 => ?_⟩
 refine ⟨(sB ?_), rfl⟩
 rotate_left
 refine ⟨(modeD_i d (by omega)), fun h16 => ?_, fun h16 => ?_⟩
 refine ⟨(scanD_i d (by omega)), (sB ?_), rfl⟩
 rotate_left
 refine ⟨(sB ?_), rfl⟩
 rotate_left
 refine ⟨(modeD_i d (by omega)), fun h15 => ?_, fun h15 => ?_⟩
 refine ⟨(scanD_i d (by omega)), (sB ?_), rfl⟩
 rotate_left
 refine ⟨(sB ?_), rfl⟩
 rotate_left
 refine dsp (fun h12 p12 => ?_) fun h12 p12 => ?_
 refine dsp (fun h13 p13 => ?_) fun h13 p13 => ?_
 refine ⟨(sB ?_), rfl⟩
 rotate_left
 refine ⟨fun h14 => have q14 := bnot_t h14; have p14 := of_decide_eq_false q14; ?_, fun h14 => have q14 := bnot_f h14; have p14 := of_decide_eq_true q14; ?_⟩
 refine ⟨h11, (modeD_i d (by omega)), fun h15 => ?_, fun h15 => ?_⟩
 refine ⟨(scanD_i d (by omega)), (sB ?_), rfl⟩
 rotate_left
 refine ⟨(sB ?_), rfl⟩
 rotate_left
 refine ⟨(modeD_i d (by omega)), fun h15 => ?_, fun h15 => ?_⟩
 refine ⟨(scanD_i d (by omega)), (sB ?_), rfl⟩
 rotate_left
 refine ⟨(sB ?_), rfl⟩
 rotate_left
 refine ⟨fun h13 => have q13 := bnot_t h13; have p13 := of_decide_eq_false q13; ?_, fun h13 => have q13 := bnot_f h13; have p13 := of_decide_eq_true q13; ?_⟩
 refine ⟨h11, (modeD_i d (by omega)), fun h14 => ?_, fun h14 => ?_⟩
 refine ⟨(scanD_i d (by omega)), (sB ?_), rfl⟩
 rotate_left
 refine ⟨(sB ?_), rfl⟩
 rotate_left
 refine ⟨(modeD_i d (by omega)), fun h14 => ?_, fun h14 => ?_⟩
 refine ⟨(scanD_i d (by omega)), (sB ?_), rfl⟩
 rotate_left
 refine ⟨(sB ?_), rfl⟩
 rotate_left
 refine ⟨fun h9 => have q9 := bnot_t h9; have p9 := of_decide_eq_false q9; ?_, fun h9 => have q9 := bnot_f h9; have p9 := of_decide_eq_true q9; ?_⟩
 refine ⟨fun h10 => have q10 := bnot_t h10; have p10 := (andF dT (andF dT (andF dT (andF dT (andF dT (andF dT dF)))))).1 q10; ?_, fun h10 => have q10 := bnot_f h10; have p10 := (andT dT (andT dT (andT dT (andT dT (andT dT (andT dT dT)))))).1 q10; ?_⟩
 refine ⟨(sB ?_), rfl⟩
 rotate_left
 refine dsp (fun h11 p11 => ?_) fun h11 p11 => ?_
 refine dsp (fun h12 p12 => ?_) fun h12 p12 => ?_
 refine ⟨(sB ?_), rfl⟩
 rotate_left
 refine ⟨fun h13 => have q13 := bnot_t h13; have p13 := of_decide_eq_false q13; ?_, fun h13 => have q13 := bnot_f h13; have p13 := of_decide_eq_true q13; ?_⟩
 refine ⟨h9, (topL_i d (by omega)), dsp (fun h14 p14 => ?_) fun h14 p14 => ?_⟩
 refine ⟨(sB ?_), rfl⟩
 rotate_left
 refine ⟨(modeD_i d (by omega)), fun h15 => ?_, fun h15 => ?_⟩
 refine ⟨(scanD_i d (by omega)), (sB ?_), rfl⟩
 rotate_left
 refine ⟨(sB ?_), rfl⟩
 rotate_left
 refine ⟨(modeD_i d (by omega)), fun h14 => ?_, fun h14 => ?_⟩
 refine ⟨(scanD_i d (by omega)), (sB ?_), rfl⟩
 rotate_left
 refine ⟨(sB ?_), rfl⟩
 rotate_left
 refine ⟨fun h12 => have q12 := bnot_t h12; have p12 := of_decide_eq_false q12; ?_, fun h12 => have q12 := bnot_f h12; have p12 := of_decide_eq_true q12; ?_⟩
 refine ⟨h9, (topL_i d (by omega)), dsp (fun h13 p13 => ?_) fun h13 p13 => ?_⟩
 refine ⟨(sB ?_), rfl⟩
 rotate_left
 refine ⟨(modeD_i d (by omega)), fun h14 => ?_, fun h14 => ?_⟩
 refine ⟨(scanD_i d (by omega)), (sB ?_), rfl⟩
 rotate_left
 refine ⟨(sB ?_), rfl⟩
 rotate_left
 refine ⟨(modeD_i d (by omega)), fun h13 => ?_, fun h13 => ?_⟩
 refine ⟨(scanD_i d (by omega)), (sB ?_), rfl⟩
 rotate_left
 refine ⟨(sB ?_), rfl⟩
 rotate_left
 refine dsp (fun h10 p10 => ?_) fun h10 p10 => ?_
 refine dsp (fun h11 p11 => ?_) fun h11 p11 => ?_
 refine ⟨(sB ?_), rfl⟩
 rotate_left
 refine ⟨fun h12 => have q12 := bnot_t h12; have p12 := of_decide_eq_false q12; ?_, fun h12 => have q12 := bnot_f h12; have p12 := of_decide_eq_true q12; ?_⟩
 refine ⟨h9, (modeD_i d (by omega)), fun h13 => ?_, fun h13 => ?_⟩
 refine ⟨(scanD_i d (by omega)), (sB ?_), rfl⟩
 rotate_left
 refine ⟨(sB ?_), rfl⟩
 rotate_left
 refine ⟨(modeD_i d (by omega)), fun h13 => ?_, fun h13 => ?_⟩
 refine ⟨(scanD_i d (by omega)), (sB ?_), rfl⟩
 rotate_left
 refine ⟨(sB ?_), rfl⟩
 rotate_left
 refine ⟨fun h11 => have q11 := bnot_t h11; have p11 := of_decide_eq_false q11; ?_, fun h11 => have q11 := bnot_f h11; have p11 := of_decide_eq_true q11; ?_⟩
 refine ⟨h9, (modeD_i d (by omega)), fun h12 => ?_, fun h12 => ?_⟩
 refine ⟨(scanD_i d (by omega)), (sB ?_), rfl⟩
 rotate_left
 refine ⟨(sB ?_), rfl⟩
 rotate_left
 refine ⟨(modeD_i d (by omega)), fun h12 => ?_, fun h12 => ?_⟩
 refine ⟨(scanD_i d (by omega)), (sB ?_), rfl⟩
 rotate_left
 refine ⟨(sB ?_), rfl⟩
 rotate_left
 all_goals first | (simp_all [decOk, endD, stackD, fld_zeroI, ev_zero]; done) | (grind [decOk, endD, stackD, fld_zeroI, ev_zero])
structure decOk_s_J1000003_V where
 v : Bool
def decOk_s_J1000003_F (d : Dcd) : Fam := ⟨decOk_s_J1000003_V, fun j1000003 => [(1, .v (vP 0)), (76, .v (vB j1000003.v))], fun _ => [.cells (cDcd d)], fun j1000003 => j1000003.v = !endD d, fun _ => 0⟩
structure decOk_s_J0_V where
 u_ : Nat
def decOk_s_J0_F (d : Dcd) : Fam := ⟨decOk_s_J0_V, fun j0 => [(1, .v (vP 0))], fun _ => [.cells (cDcd d)], fun _ => wantD d = true, fun _ => 0⟩
structure decOk_s_J1000013_V where
 wires : Bool
def decOk_s_J1000013_F (d : Dcd) : Fam := ⟨decOk_s_J1000013_V, fun j1000013 => [(1, .v (vP 0)), (3, .v (vB j1000013.wires))], fun _ => [.cells (cDcd d)], fun j1000013 => j1000013.wires = wiresS d, fun _ => 0⟩
structure decOk_s_J1000014_V where
 v : Bool
def decOk_s_J1000014_F (d : Dcd) (j1000013 : decOk_s_J1000013_V) : Fam := ⟨decOk_s_J1000014_V, fun j1000014 => [(1, .v (vP 0)), (140, .v (vB j1000014.v))], fun _ => [.cells (cDcd d)], fun j1000014 => j1000014.v = (j1000013.wires || (within d.mode 3 5 && (!decide (d.field = fld0) && !allowed d.field d.wire))), fun _ => 0⟩
theorem decOk_s (d : Dcd) (hp1 : List.length (d).stack ≤ bigN) (hp2 : List.length (d).plan.shapes ≤ bigN) : Fun Tryz.prog 104 [.agg (cDcd d)] [] (.v (vB (decOk d))) [] := by
 have hN : bigN = 274877906944 := rfl
 refine fun_ofw Tryz.func104 (by kernel_rfl) (by kernel_rfl) (w := let z4 := ([] : List Blk); let z5 := (.v (vB false) : S); let z6 := vB (decOk d); let z7 : List Blk := [.cells (cDcd d)]; let z8 := within d.want 1 (topL d); let z9 := vB (scanS d); let z10 := decide ((d).field = fld0) || known (d).plan.shapes (d).field; let z11 := decOk_s_J1000013_F d; let z12 := runs d.field; let z13 := !(decide (d.field.number = 0) && (decide (d.field.kind = 0) && (decide (d.field.rep = false) && (decide (d.field.packed = false) && decide (d.field.msg = 0))))); let z14 := !decide (d.mode = 8); let z15 := vI (widthOf d.wire); let z16 := decOk_s_J1000003_F d; let z3 := (!decide (d.mode = 9)) = true → z16.Has [(1, .v (vP 0)), (76, .v (vB (!(decide (d.end_.kind = 0) && (decide (d.end_.field = 0) && (decide (d.end_.bits = 0) && (decide (d.end_.len = 0) && (decide (d.end_.text = []) && (decide (d.end_.code = 0) && decide (d.end_.at_ = 0))))))))))] z7; let z18 := z12 = false → z5 = .v z6 ∧ z4 = []; let z19 := vB (decide (widthOf d.wire = 0)); let z20 := (!decide (d.mode = 9)) = false → z16.Has [(1, .v (vP 0)), (76, .v (vB false))] z7; let z22 := within d.at_ 0 1000000000; let z23 := decide (d.mode = 5); let z2 := z23 = false → z11.Has [(1, .v (vP 0)), (3, .v (vB false))] z7; let z24 := (!z8) = true → z5 = .v z6 ∧ z4 = []; let z25 := within d.start 0 d.at_; let z26 := !decide (d.mode = 6); let z27 := (.v z9 : S); let z28 := decide (d.mode = 4); let z29 := vI (topL d); let z30 := within d.mode 1 9; let z31 := within d.mode 3 5; let z32 : List V := [vI d.want, vI 1, vI (topL d)]; let z33 := cFld d.field; let z34 := terminal d.end_; let z35 := allowed d.field d.wire; let z36 := eventOk d.end_; let z37 := decOk_s_J0_F d; let z17 := (!z8) = false → z37.Has [(1, .v (vP 0))] z7; let z38 := !decide (d.wire = 2); let z21 := z38 = true → z11.Has [(1, .v (vP 0)), (3, .v (vB true))] z7; let z39 := planOk d.plan; let z40 := wireOk d.wire; let z41 := decide (d.mode = 6); let z42 := decide (d.mode = 7); let z43 := utfOk d.utf; (.seg [.call [] (.v (vB z39)) []] (.br (.leaf () []) (.seg [.call [] (.v (vB z30)) []] (.br (.leaf () []) (.seg [.call [] (.v (vB z22)) []] (.br (.leaf () []) (.seg [.call [] (.v (vB z25)) []] (.br (.leaf () []) (.seg [.call [] (.v (vB z43)) []] (.br (.leaf () []) (.seg [.call [] (.v (vB z40)) []] (.br (.leaf () []) (.seg [.call [] (.v (vB z10)) []] (.br (.leaf () []) (.seg [.call [] (.v (vB (stackS d))) []] (.br (.leaf () []) (.join 1000003 z16 (.br (.seg [.call [] (.v (vB z36)) []] (.br (.seg [.at 0, .keep [1, 76], .sel [0]] (.next)) (.seg [.call [] (.v (vB z34)) []] (.br (.seg [.at 0, .keep [1, 76], .sel [0]] (.next)) (.br (.seg [.at 0, .keep [1, 76], .sel [0]] (.next)) (.seg [.at 0, .keep [1, 76], .sel [0]] (.next))))))) (.br (.seg [.at 0, .keep [1, 76], .sel [0]] (.next)) (.seg [.at 0, .keep [1, 76], .sel [0]] (.next)))) fun j1000003 => .br (.leaf () []) (.join 0 z37 (.br (.seg [.br true, .ord (os 6 [3, 4]) [], .call [] (.v z29) [], .call [] (.v (vB z8)) []] (.br (.leaf () []) (.seg [.at 0, .keep [1], .sel [0]] (.next)))) (.br (.seg [.br true, .ord (os 6 [3, 4]) [], .call [] (.v z29) [], .call [] (.v (vB z8)) []] (.br (.leaf () []) (.seg [.at 0, .keep [1], .sel [0]] (.next)))) (.br (.seg [.ord (os 6 [3, 4]) [], .call [] (.v z29) [], .call [] (.v (vB z8)) []] (.br (.leaf () []) (.seg [.at 0, .keep [1], .sel [0]] (.next)))) (.br (.leaf () []) (.seg [.at 0, .keep [1], .sel [0]] (.next)))))) fun j0 => .join 1000013 z11 (.br (.br (.seg [.at 0, .keep [1, 3], .sel [0]] (.next)) (.br (.br (.seg [.at 0, .keep [1, 3], .sel [0]] (.next)) (.br (.seg [.call [] (.v z15) [], .at 0, .keep [1, 3], .sel [0]] (.next)) (.seg [.at 0, .keep [1, 3], .sel [0]] (.next)))) (.br (.seg [.call [] (.v z15) [], .at 0, .keep [1, 3], .sel [0]] (.next)) (.seg [.at 0, .keep [1, 3], .sel [0]] (.next))))) (.br (.br (.seg [.at 0, .keep [1, 3], .sel [0]] (.next)) (.br (.seg [.call [] (.v z15) [], .at 0, .keep [1, 3], .sel [0]] (.next)) (.seg [.at 0, .keep [1, 3], .sel [0]] (.next)))) (.br (.seg [.call [] (.v z15) [], .at 0, .keep [1, 3], .sel [0]] (.next)) (.seg [.at 0, .keep [1, 3], .sel [0]] (.next))))) fun j1000013 => .join 1000014 (decOk_s_J1000014_F d j1000013) (.br (.seg [.at 0, .keep [1, 140], .sel [0]] (.next)) (.seg [.call [] (.v (vB z31)) []] (.br (.br (.seg [.call [] (.v (vB z35)) [], .at 0, .keep [1, 140], .sel [0]] (.next)) (.seg [.at 0, .keep [1, 140], .sel [0]] (.next))) (.seg [.at 0, .keep [1, 140], .sel [0]] (.next))))) fun j1000014 => .br (.leaf () []) (.br (.br (.br (.seg [.call [] (.v z9) []] (.leaf () [])) (.seg [.call [] (.v (vB z12)) []] (.br (.seg [.call [] (.v z9) []] (.leaf () [])) (.leaf () [])))) (.br (.seg [.call [] (.v z9) []] (.leaf () [])) (.seg [.call [] (.v (vB z12)) []] (.br (.seg [.call [] (.v z9) []] (.leaf () [])) (.leaf () []))))) (.br (.br (.seg [.call [] (.v z9) []] (.leaf () [])) (.seg [.call [] (.v (vB z12)) []] (.br (.seg [.call [] (.v z9) []] (.leaf () [])) (.leaf () [])))) (.br (.br (.seg [.call [] (.v z9) []] (.leaf () [])) (.seg [.call [] (.v (vB z12)) []] (.br (.seg [.call [] (.v z9) []] (.leaf () [])) (.leaf () [])))) (.leaf () []))))))))))))))))))))), (Fun Tryz.prog 102 [.agg (cPln d.plan)] [] (.v (vB z39)) []) ∧ ((!z39) = true → z5 = .v z6 ∧ z4 = []) ∧ ((!z39) = false → (Fun Tryz.prog 105 [vI d.mode, vI 1, vI 9] [] (.v (vB z30)) []) ∧ ((!z30) = true → z5 = .v z6 ∧ z4 = []) ∧ ((!z30) = false → (Fun Tryz.prog 105 [vI d.at_, vI 0, vI 1000000000] [] (.v (vB z22)) []) ∧ ((!z22) = true → z5 = .v z6 ∧ z4 = []) ∧ ((!z22) = false → (Fun Tryz.prog 105 [vI d.start, vI 0, vI d.at_] [] (.v (vB z25)) []) ∧ ((!z25) = true → z5 = .v z6 ∧ z4 = []) ∧ ((!z25) = false → (Fun Tryz.prog 144 [.agg (cUtf d.utf)] [] (.v (vB z43)) []) ∧ ((!z43) = true → z5 = .v z6 ∧ z4 = []) ∧ ((!z43) = false → (Fun Tryz.prog 145 [vI d.wire] [] (.v (vB z40)) []) ∧ ((!z40) = true → z5 = .v z6 ∧ z4 = []) ∧ ((!z40) = false → (Fun Tryz.prog 146 [.agg (cDcd d)] [] (.v (vB z10)) []) ∧ ((!z10) = true → z5 = .v z6 ∧ z4 = []) ∧ ((!z10) = false → (Fun Tryz.prog 147 [.agg (cDcd d)] [] (.v (vB (stackS d))) []) ∧ ((!(stackS d)) = true → z5 = .v z6 ∧ z4 = []) ∧ ((!(stackS d)) = false → (((decide (d.mode = 9)) = true → (Fun Tryz.prog 148 [.agg (cEv d.end_)] [] (.v (vB z36)) []) ∧ ((!z36) = true → z16.Has [(1, .v (vP 0)), (76, .v (vB true))] z7) ∧ ((!z36) = false → (Fun Tryz.prog 132 [.agg (cEv d.end_)] [] (.v (vB z34)) []) ∧ ((!z34) = true → z16.Has [(1, .v (vP 0)), (76, .v (vB true))] z7) ∧ ((!z34) = false → z3 ∧ z20))) ∧ ((decide (d.mode = 9)) = false → z3 ∧ z20)) ∧ ∀ j1000003, z16.inv j1000003 → ((j1000003.v = true → z5 = .v z6 ∧ z4 = []) ∧ (j1000003.v = false → ((z41 = true → (z41 = true) ∧ (Fun Tryz.prog 149 [.agg (cDcd d)] [] (.v z29) []) ∧ (Fun Tryz.prog 105 z32 [] (.v (vB z8)) []) ∧ z24 ∧ z17) ∧ (z41 = false → (z42 = true → (z42 = true) ∧ (Fun Tryz.prog 149 [.agg (cDcd d)] [] (.v z29) []) ∧ (Fun Tryz.prog 105 z32 [] (.v (vB z8)) []) ∧ z24 ∧ z17) ∧ (z42 = false → ((decide (d.mode = 8)) = true → (Fun Tryz.prog 149 [.agg (cDcd d)] [] (.v z29) []) ∧ (Fun Tryz.prog 105 z32 [] (.v (vB z8)) []) ∧ z24 ∧ z17) ∧ ((decide (d.mode = 8)) = false → ((!decide (d.want = 0)) = true → z5 = .v z6 ∧ z4 = []) ∧ ((!decide (d.want = 0)) = false → z37.Has [(1, .v (vP 0))] z7))))) ∧ ∀ j0, z37.inv j0 → ((((decide (d.mode = 3)) = true → ((!decide (d.wire = 0)) = true → z11.Has [(1, .v (vP 0)), (3, .v (vB true))] z7) ∧ ((!decide (d.wire = 0)) = false → (z28 = true → z21 ∧ (z38 = false → (z23 = true → (Fun Tryz.prog 150 [vI d.wire] [] (.v z15) []) ∧ z11.Has [(1, .v (vP 0)), (3, .v z19)] z7) ∧ z2)) ∧ (z28 = false → (z23 = true → (Fun Tryz.prog 150 [vI d.wire] [] (.v z15) []) ∧ z11.Has [(1, .v (vP 0)), (3, .v z19)] z7) ∧ z2))) ∧ ((decide (d.mode = 3)) = false → (z28 = true → z21 ∧ (z38 = false → (z23 = true → (Fun Tryz.prog 150 [vI d.wire] [] (.v z15) []) ∧ z11.Has [(1, .v (vP 0)), (3, .v z19)] z7) ∧ z2)) ∧ (z28 = false → (z23 = true → (Fun Tryz.prog 150 [vI d.wire] [] (.v z15) []) ∧ z11.Has [(1, .v (vP 0)), (3, .v z19)] z7) ∧ z2))) ∧ ∀ j1000013, z11.inv j1000013 → (let z1 := decOk_s_J1000014_F d j1000013; ((j1000013.wires = true → z1.Has [(1, .v (vP 0)), (140, .v (vB true))] z7) ∧ (j1000013.wires = false → (Fun Tryz.prog 105 [vI d.mode, vI 3, vI 5] [] (.v (vB z31)) []) ∧ (z31 = true → (z13 = true → (Fun Tryz.prog 151 [.agg z33, vI d.wire] [] (.v (vB z35)) []) ∧ z1.Has [(1, .v (vP 0)), (140, .v (vB (!z35)))] z7) ∧ (z13 = false → z1.Has [(1, .v (vP 0)), (140, .v (vB false))] z7)) ∧ (z31 = false → z1.Has [(1, .v (vP 0)), (140, .v (vB false))] z7))) ∧ ∀ j1000014, z1.inv j1000014 → ((j1000014.v = true → z5 = .v z6 ∧ z4 = []) ∧ (j1000014.v = false → ((decide (d.field.kind = 6)) = true → (z26 = true → (z14 = true → (Fun Tryz.prog 153 [.agg (cDcd d)] [] (.v z9) []) ∧ z27 = .v z6 ∧ z4 = []) ∧ (z14 = false → (Fun Tryz.prog 152 [.agg z33] [] (.v (vB z12)) []) ∧ (z12 = true → (Fun Tryz.prog 153 [.agg (cDcd d)] [] (.v z9) []) ∧ z27 = .v z6 ∧ z4 = []) ∧ z18)) ∧ (z26 = false → (z14 = true → (Fun Tryz.prog 153 [.agg (cDcd d)] [] (.v z9) []) ∧ z27 = .v z6 ∧ z4 = []) ∧ (z14 = false → (Fun Tryz.prog 152 [.agg z33] [] (.v (vB z12)) []) ∧ (z12 = true → (Fun Tryz.prog 153 [.agg (cDcd d)] [] (.v z9) []) ∧ z27 = .v z6 ∧ z4 = []) ∧ z18))) ∧ ((decide (d.field.kind = 6)) = false → (z26 = true → (z14 = true → (Fun Tryz.prog 153 [.agg (cDcd d)] [] (.v z9) []) ∧ z27 = .v z6 ∧ z4 = []) ∧ (z14 = false → (Fun Tryz.prog 152 [.agg z33] [] (.v (vB z12)) []) ∧ (z12 = true → (Fun Tryz.prog 153 [.agg (cDcd d)] [] (.v z9) []) ∧ z27 = .v z6 ∧ z4 = []) ∧ z18)) ∧ (z26 = false → ((decide (d.field.kind = 7)) = true → (z14 = true → (Fun Tryz.prog 153 [.agg (cDcd d)] [] (.v z9) []) ∧ z27 = .v z6 ∧ z4 = []) ∧ (z14 = false → (Fun Tryz.prog 152 [.agg z33] [] (.v (vB z12)) []) ∧ (z12 = true → (Fun Tryz.prog 153 [.agg (cDcd d)] [] (.v z9) []) ∧ z27 = .v z6 ∧ z4 = []) ∧ z18)) ∧ ((decide (d.field.kind = 7)) = false → z5 = .v z6 ∧ z4 = []))))))))))))))))))) (by kernel_rfl) ?_
 refine ⟨(planOk_s d.plan), fun h1 => have q1 := bnot_t h1; ?_, fun h1 => have q1 := bnot_f h1; have p1 := planOk_t q1; ?_⟩
 refine ⟨(sB ?_), rfl⟩
 rotate_left
 have hpt := planOk_t q1
 refine ⟨(within_s _ _ _), fun h2 => have q2 := bnot_t h2; have p2 := within_f q2; ?_, fun h2 => have q2 := bnot_f h2; have p2 := within_t q2; ?_⟩
 refine ⟨(sB ?_), rfl⟩
 rotate_left
 refine ⟨(within_s _ _ _), fun h3 => have q3 := bnot_t h3; have p3 := within_f q3; ?_, fun h3 => have q3 := bnot_f h3; have p3 := within_t q3; ?_⟩
 refine ⟨(sB ?_), rfl⟩
 rotate_left
 refine ⟨(within_s _ _ _), fun h4 => have q4 := bnot_t h4; have p4 := within_f q4; ?_, fun h4 => have q4 := bnot_f h4; have p4 := within_t q4; ?_⟩
 refine ⟨(sB ?_), rfl⟩
 rotate_left
 refine ⟨(utfOk_s d.utf), fun h5 => have q5 := bnot_t h5; ?_, fun h5 => have q5 := bnot_f h5; have p5 := utfOk_want q5; ?_⟩
 refine ⟨(sB ?_), rfl⟩
 rotate_left
 refine ⟨(wireOk_s _), fun h6 => have q6 := bnot_t h6; ?_, fun h6 => have q6 := bnot_f h6; ?_⟩
 refine ⟨(sB ?_), rfl⟩
 rotate_left
 have hwk := wireOk_t (w := d.wire) q6
 refine ⟨(fieldOkD_s d (by omega) (schemaOk_fields hpt.2.1)), fun h7 => have q7 := bnot_t h7; have p7 := (orF dF Iff.rfl).1 q7; ?_, fun h7 => have q7 := bnot_f h7; have p7 := (orT dT Iff.rfl).1 q7; ?_⟩
 refine ⟨(sB ?_), rfl⟩
 rotate_left
 refine ⟨(stackS_s d (by omega) (by omega)), fun h8 => have q8 := bnot_t h8; ?_, fun h8 => have q8 := bnot_f h8; ?_⟩
 refine ⟨(sB ?_), rfl⟩
 rotate_left
 refine ⟨?_, fun (j1000003 : decOk_s_J1000003_V) hq_j1000003 => ?_⟩
 refine dsp (fun h10 p10 => ?_) fun h10 p10 => ?_
 refine ⟨(eventOk_s d.end_), fun h11 => have q11 := bnot_t h11; ?_, fun h11 => have q11 := bnot_f h11; ?_⟩
 exact has_of (j := (⟨true⟩ : decOk_s_J1000003_V)) rfl rfl (by dsimp only [decOk_s_J1000003_F]; first | ((simp_all [endD, ev_zero]; done)) | (grind [endD, ev_zero]))
 refine ⟨(terminal_s d.end_), fun h12 => have q12 := bnot_t h12; ?_, fun h12 => have q12 := bnot_f h12; ?_⟩
 exact has_of (j := (⟨true⟩ : decOk_s_J1000003_V)) rfl rfl (by dsimp only [decOk_s_J1000003_F]; first | ((simp_all [endD, ev_zero]; done)) | (grind [endD, ev_zero]))
 refine ⟨fun h13 => have q13 := bnot_t h13; have p13 := of_decide_eq_false q13; ?_, fun h13 => have q13 := bnot_f h13; have p13 := of_decide_eq_true q13; ?_⟩
 exact has_of (j := (⟨!(decide (d.end_.kind = 0) && (decide (d.end_.field = 0) && (decide (d.end_.bits = 0) && (decide (d.end_.len = 0) && (decide (d.end_.text = []) && (decide (d.end_.code = 0) && decide (d.end_.at_ = 0)))))))⟩ : decOk_s_J1000003_V)) rfl rfl (by dsimp only [decOk_s_J1000003_F]; first | ((simp_all [endD, ev_zero]; done)) | (grind [endD, ev_zero]))
 exact has_of (j := (⟨false⟩ : decOk_s_J1000003_V)) rfl rfl (by dsimp only [decOk_s_J1000003_F]; first | ((simp_all [endD, ev_zero]; done)) | (grind [endD, ev_zero]))
 refine ⟨fun h11 => have q11 := bnot_t h11; have p11 := of_decide_eq_false q11; ?_, fun h11 => have q11 := bnot_f h11; have p11 := of_decide_eq_true q11; ?_⟩
 exact has_of (j := (⟨!(decide (d.end_.kind = 0) && (decide (d.end_.field = 0) && (decide (d.end_.bits = 0) && (decide (d.end_.len = 0) && (decide (d.end_.text = []) && (decide (d.end_.code = 0) && decide (d.end_.at_ = 0)))))))⟩ : decOk_s_J1000003_V)) rfl rfl (by dsimp only [decOk_s_J1000003_F]; first | ((simp_all [endD, ev_zero]; done)) | (grind [endD, ev_zero]))
 exact has_of (j := (⟨false⟩ : decOk_s_J1000003_V)) rfl rfl (by dsimp only [decOk_s_J1000003_F]; first | ((simp_all [endD, ev_zero]; done)) | (grind [endD, ev_zero]))
 have hi_j1000003 : j1000003.v = !endD d := hq_j1000003
 refine ⟨fun h10 => ?_, fun h10 => ?_⟩
 refine ⟨(sB ?_), rfl⟩
 rotate_left
 refine ⟨?_, fun (j0 : decOk_s_J0_V) hq_j0 => ?_⟩
 refine dsp (fun h12 p12 => ?_) fun h12 p12 => ?_
 refine ⟨h12, (topL_s d (by omega)), (within_s _ _ _), fun h13 => have q13 := bnot_t h13; have p13 := within_f q13; ?_, fun h13 => have q13 := bnot_f h13; have p13 := within_t q13; ?_⟩
 refine ⟨(sB ?_), rfl⟩
 rotate_left
 exact has_of (j := (⟨0⟩ : decOk_s_J0_V)) rfl rfl (by dsimp only [decOk_s_J0_F]; first | ((simp_all [wantD]; done)) | (grind [wantD]))
 refine dsp (fun h13 p13 => ?_) fun h13 p13 => ?_
 refine ⟨h13, (topL_s d (by omega)), (within_s _ _ _), fun h14 => have q14 := bnot_t h14; have p14 := within_f q14; ?_, fun h14 => have q14 := bnot_f h14; have p14 := within_t q14; ?_⟩
 refine ⟨(sB ?_), rfl⟩
 rotate_left
 exact has_of (j := (⟨0⟩ : decOk_s_J0_V)) rfl rfl (by dsimp only [decOk_s_J0_F]; first | ((simp_all [wantD]; done)) | (grind [wantD]))
 refine dsp (fun h14 p14 => ?_) fun h14 p14 => ?_
 refine ⟨(topL_s d (by omega)), (within_s _ _ _), fun h15 => have q15 := bnot_t h15; have p15 := within_f q15; ?_, fun h15 => have q15 := bnot_f h15; have p15 := within_t q15; ?_⟩
 refine ⟨(sB ?_), rfl⟩
 rotate_left
 exact has_of (j := (⟨0⟩ : decOk_s_J0_V)) rfl rfl (by dsimp only [decOk_s_J0_F]; first | ((simp_all [wantD]; done)) | (grind [wantD]))
 refine ⟨fun h15 => have q15 := bnot_t h15; have p15 := of_decide_eq_false q15; ?_, fun h15 => have q15 := bnot_f h15; have p15 := of_decide_eq_true q15; ?_⟩
 refine ⟨(sB ?_), rfl⟩
 rotate_left
 exact has_of (j := (⟨0⟩ : decOk_s_J0_V)) rfl rfl (by dsimp only [decOk_s_J0_F]; first | ((simp_all [wantD]; done)) | (grind [wantD]))
 have hi_j0 : wantD d = true := hq_j0
 refine ⟨?_, fun (j1000013 : decOk_s_J1000013_V) hq_j1000013 => ?_⟩
 refine dsp (fun h13 p13 => ?_) fun h13 p13 => ?_
 refine ⟨fun h14 => have q14 := bnot_t h14; have p14 := of_decide_eq_false q14; ?_, fun h14 => have q14 := bnot_f h14; have p14 := of_decide_eq_true q14; ?_⟩
 exact has_of (j := (⟨true⟩ : decOk_s_J1000013_V)) rfl rfl (by dsimp only [decOk_s_J1000013_F]; first | ((simp_all [wiresS]; done)) | (grind [wiresS]))
 refine dsp (fun h15 p15 => ?_) fun h15 p15 => ?_
 refine ⟨fun h16 => have q16 := bnot_t h16; have p16 := of_decide_eq_false q16; ?_, fun h16 => have q16 := bnot_f h16; have p16 := of_decide_eq_true q16; ?_⟩
 exact has_of (j := (⟨true⟩ : decOk_s_J1000013_V)) rfl rfl (by dsimp only [decOk_s_J1000013_F]; first | ((simp_all [wiresS]; done)) | (grind [wiresS]))
 refine dsp (fun h17 p17 => ?_) fun h17 p17 => ?_
 exact ⟨(widthOf_s _), has_of (j := (⟨decide (widthOf d.wire = 0)⟩ : decOk_s_J1000013_V)) rfl rfl (by dsimp only [decOk_s_J1000013_F]; first | ((simp_all [wiresS]; done)) | (grind [wiresS]))⟩
 exact has_of (j := (⟨false⟩ : decOk_s_J1000013_V)) rfl rfl (by dsimp only [decOk_s_J1000013_F]; first | ((simp_all [wiresS]; done)) | (grind [wiresS]))
 refine dsp (fun h16 p16 => ?_) fun h16 p16 => ?_
 exact ⟨(widthOf_s _), has_of (j := (⟨decide (widthOf d.wire = 0)⟩ : decOk_s_J1000013_V)) rfl rfl (by dsimp only [decOk_s_J1000013_F]; first | ((simp_all [wiresS]; done)) | (grind [wiresS]))⟩
 exact has_of (j := (⟨false⟩ : decOk_s_J1000013_V)) rfl rfl (by dsimp only [decOk_s_J1000013_F]; first | ((simp_all [wiresS]; done)) | (grind [wiresS]))
 refine dsp (fun h14 p14 => ?_) fun h14 p14 => ?_
 refine ⟨fun h15 => have q15 := bnot_t h15; have p15 := of_decide_eq_false q15; ?_, fun h15 => have q15 := bnot_f h15; have p15 := of_decide_eq_true q15; ?_⟩
 exact has_of (j := (⟨true⟩ : decOk_s_J1000013_V)) rfl rfl (by dsimp only [decOk_s_J1000013_F]; first | ((simp_all [wiresS]; done)) | (grind [wiresS]))
 refine dsp (fun h16 p16 => ?_) fun h16 p16 => ?_
 exact ⟨(widthOf_s _), has_of (j := (⟨decide (widthOf d.wire = 0)⟩ : decOk_s_J1000013_V)) rfl rfl (by dsimp only [decOk_s_J1000013_F]; first | ((simp_all [wiresS]; done)) | (grind [wiresS]))⟩
 exact has_of (j := (⟨false⟩ : decOk_s_J1000013_V)) rfl rfl (by dsimp only [decOk_s_J1000013_F]; first | ((simp_all [wiresS]; done)) | (grind [wiresS]))
 refine dsp (fun h15 p15 => ?_) fun h15 p15 => ?_
 exact ⟨(widthOf_s _), has_of (j := (⟨decide (widthOf d.wire = 0)⟩ : decOk_s_J1000013_V)) rfl rfl (by dsimp only [decOk_s_J1000013_F]; first | ((simp_all [wiresS]; done)) | (grind [wiresS]))⟩
 exact has_of (j := (⟨false⟩ : decOk_s_J1000013_V)) rfl rfl (by dsimp only [decOk_s_J1000013_F]; first | ((simp_all [wiresS]; done)) | (grind [wiresS]))
 have hi_j1000013 : j1000013.wires = wiresS d := hq_j1000013
 refine ⟨?_, fun (j1000014 : decOk_s_J1000014_V) hq_j1000014 => ?_⟩
 refine ⟨fun h14 => ?_, fun h14 => ?_⟩
 exact has_of (j := (⟨true⟩ : decOk_s_J1000014_V)) rfl rfl (by dsimp only [decOk_s_J1000014_F]; first | ((simp_all [fld_zeroI]; done)) | (grind [fld_zeroI]))
 refine ⟨(within_s _ _ _), fun h15 => have p15 := within_t h15; ?_, fun h15 => have p15 := within_f h15; ?_⟩
 refine ⟨fun h16 => have q16 := bnot_t h16; have p16 := (andF dT (andF dT (andF dT (andF dT dF)))).1 q16; ?_, fun h16 => have q16 := bnot_f h16; have p16 := (andT dT (andT dT (andT dT (andT dT dT)))).1 q16; ?_⟩
 exact ⟨(allowed_s d.field _ (by omega)), has_of (j := (⟨!(allowed d.field d.wire)⟩ : decOk_s_J1000014_V)) rfl rfl (by dsimp only [decOk_s_J1000014_F]; first | ((simp_all [fld_zeroI]; done)) | (grind [fld_zeroI]))⟩
 exact has_of (j := (⟨false⟩ : decOk_s_J1000014_V)) rfl rfl (by dsimp only [decOk_s_J1000014_F]; first | ((simp_all [fld_zeroI]; done)) | (grind [fld_zeroI]))
 exact has_of (j := (⟨false⟩ : decOk_s_J1000014_V)) rfl rfl (by dsimp only [decOk_s_J1000014_F]; first | ((simp_all [fld_zeroI]; done)) | (grind [fld_zeroI]))
 have hi_j1000014 : j1000014.v = (j1000013.wires || (within d.mode 3 5 && (!decide (d.field = fld0) && !allowed d.field d.wire))) := hq_j1000014
 refine ⟨fun h14 => ?_, fun h14 => ?_⟩
 refine ⟨(sB ?_), rfl⟩
 rotate_left
 refine dsp (fun h15 p15 => ?_) fun h15 p15 => ?_
 refine ⟨fun h16 => have q16 := bnot_t h16; have p16 := of_decide_eq_false q16; ?_, fun h16 => have q16 := bnot_f h16; have p16 := of_decide_eq_true q16; ?_⟩
 refine ⟨fun h17 => have q17 := bnot_t h17; have p17 := of_decide_eq_false q17; ?_, fun h17 => have q17 := bnot_f h17; have p17 := of_decide_eq_true q17; ?_⟩
 refine ⟨(scanS_s d (by omega)), (sB ?_), rfl⟩
 rotate_left
 refine ⟨(runs_s d.field), fun h18 => ?_, fun h18 => ?_⟩
 refine ⟨(scanS_s d (by omega)), (sB ?_), rfl⟩
 rotate_left
 refine ⟨(sB ?_), rfl⟩
 rotate_left
 refine ⟨fun h17 => have q17 := bnot_t h17; have p17 := of_decide_eq_false q17; ?_, fun h17 => have q17 := bnot_f h17; have p17 := of_decide_eq_true q17; ?_⟩
 refine ⟨(scanS_s d (by omega)), (sB ?_), rfl⟩
 rotate_left
 refine ⟨(runs_s d.field), fun h18 => ?_, fun h18 => ?_⟩
 refine ⟨(scanS_s d (by omega)), (sB ?_), rfl⟩
 rotate_left
 refine ⟨(sB ?_), rfl⟩
 rotate_left
 refine ⟨fun h16 => have q16 := bnot_t h16; have p16 := of_decide_eq_false q16; ?_, fun h16 => have q16 := bnot_f h16; have p16 := of_decide_eq_true q16; ?_⟩
 refine ⟨fun h17 => have q17 := bnot_t h17; have p17 := of_decide_eq_false q17; ?_, fun h17 => have q17 := bnot_f h17; have p17 := of_decide_eq_true q17; ?_⟩
 refine ⟨(scanS_s d (by omega)), (sB ?_), rfl⟩
 rotate_left
 refine ⟨(runs_s d.field), fun h18 => ?_, fun h18 => ?_⟩
 refine ⟨(scanS_s d (by omega)), (sB ?_), rfl⟩
 rotate_left
 refine ⟨(sB ?_), rfl⟩
 rotate_left
 refine dsp (fun h17 p17 => ?_) fun h17 p17 => ?_
 refine ⟨fun h18 => have q18 := bnot_t h18; have p18 := of_decide_eq_false q18; ?_, fun h18 => have q18 := bnot_f h18; have p18 := of_decide_eq_true q18; ?_⟩
 refine ⟨(scanS_s d (by omega)), (sB ?_), rfl⟩
 rotate_left
 refine ⟨(runs_s d.field), fun h19 => ?_, fun h19 => ?_⟩
 refine ⟨(scanS_s d (by omega)), (sB ?_), rfl⟩
 rotate_left
 refine ⟨(sB ?_), rfl⟩
 rotate_left
 refine ⟨(sB ?_), rfl⟩
 rotate_left
 all_goals rw [← decOkS_eq]; first | (simp_all [decOkS, endD, wantD, wiresS, fld_zeroI, ev_zero]; done) | (grind [decOkS, endD, wantD, wiresS, fld_zeroI, ev_zero, isBytes])
def mkLev (k : Int) : Lev := ⟨k, k + 1⟩
theorem markSh_get : ∀ {l : List Shp} {k : Int} {i : Nat} {x : Shp}, l[i]? = some x → (markSh k l)[i]? = some ⟨k + (i : Int) + 5 * (shF (l.take i) : Int), markL mkFld 5 (k + (i : Int) + 5 * (shF (l.take i) : Int) + 1) x.fields.length⟩
 | [], k, i, x, h => by simp at h
 | y :: r, k, 0, x, h => by
  simp at h
  subst h
  simp [markSh, shF]
 | y :: r, k, i + 1, x, h => by
  have h' : r[i]? = some x := by simpa using h
  rw [markSh, List.getElem?_cons_succ, markSh_get h', List.take_succ_cons, shF]
  have e : k + 1 + 5 * (y.fields.length : Int) + (i : Int) + 5 * (shF (r.take i) : Int) = k + ((i + 1 : Nat) : Int) + 5 * ((y.fields.length + shF (r.take i) : Nat) : Int) := by omega
  rw [e]
theorem markLevS_ok_l (n : Nat) (k : Int) (hp1 : (0 : Int) ≤ k ∧ k ≤ 1125899906842624) (hp2 : n ≤ bigN) (i : Nat) (m : List Lev) (hinv : i ≤ n ∧ m.length = n ∧ List.take i m = List.take i (markL mkLev 2 k n)) : Sm Tryz.prog 27 1 (.loop (loopAt Tryz.f76 0)) [(0, .v (vO 0)), (1, .v (vI (k + 2 * (i : Int)))), (5, .v (vI (i : Int)))] [.lst .lev m] (.ext 0) [(1, .v (vI (k + 2 * (n : Int))))] [.lst .lev (markL mkLev 2 k n)] := by
 refine Sm.loop (ι := Nat × List Lev) (fun (q_ : Nat × List Lev) => match q_ with | (i, m) => [(0, .v (vO 0)), (1, .v (vI (k + 2 * (i : Int)))), (5, .v (vI (i : Int)))]) (fun (q_ : Nat × List Lev) => match q_ with | (i, m) => [.lst .lev m]) (fun (q_ : Nat × List Lev) => match q_ with | (i, m) => i ≤ n ∧ m.length = n ∧ List.take i m = List.take i (markL mkLev 2 k n)) (fun (q_ : Nat × List Lev) => match q_ with | (i, m) => n - i) (by decide) ?_ (i, m) hinv
 clear hinv
 clear m i
 rintro ⟨i, m⟩ hinv
 dsimp only at hinv ⊢
 have hN : bigN = 274877906944 := rfl
 obtain ⟨hv1, hv2, hv3⟩ := hinv
 cases h1 : (decide ((i : Int) < (m.length : Int))) with
 | true =>
  have p1 := of_decide_eq_true h1
  obtain ⟨x1, hx1⟩ := ax_get (l := m) (i := i) (by omega)
  exact .inl ⟨(i + 1, List.set m i (⟨k + 2 * (i : Int), k + 2 * (i : Int) + 1⟩ : Lev)), (by dsimp only; exact ⟨by omega, by simp [hv2], fill_set hv3 (by rw [hv2, markL_len]) (markL_get (by omega))⟩), (by omega), (piece_sound (e := .nrm) (tm' := [(0, .v (vO 0)), (1, .v (vI (k + 2 * (i : Int) + 2))), (5, .v (vI ((i : Int) + 1)))]) (H' := [.lst .lev (List.set m i (⟨k + 2 * (i : Int), k + 2 * (i : Int) + 1⟩ : Lev))]) (ds := [.br true, .el .lev x1, .as 18 (.v (vI (k + 2 * (i : Int) + 1))), .el .lev (⟨k + 2 * (i : Int), x1.left⟩ : Lev), .asB 0 (.lst .lev (List.set m i (⟨k + 2 * (i : Int), k + 2 * (i : Int) + 1⟩ : Lev))), .as 25 (.v (vI (k + 2 * (i : Int) + 2))), .as 11 (.v (vI ((i : Int) + 1))), .at 0, .keep [0, 1, 5], .sel [0]]) (ob := [(.v (vI (IntKind.i64.wrap ((i : Int) + 1))) : S) = .v (vI ((i : Int) + 1)), (.v (vI (IntKind.i64.wrap ((k + 2 * (i : Int) + 1) + 1))) : S) = .v (vI (k + 2 * (i : Int) + 2)), some (.lst .lev (List.set (List.set m i (⟨k + 2 * (i : Int), x1.left⟩ : Lev)) i (⟨k + 2 * (i : Int), k + 2 * (i : Int) + 1⟩ : Lev)) : Blk) = some (.lst .lev (List.set m i (⟨k + 2 * (i : Int), k + 2 * (i : Int) + 1⟩ : Lev))), (List.set m i (⟨k + 2 * (i : Int), x1.left⟩ : Lev))[i]? = some (⟨k + 2 * (i : Int), x1.left⟩ : Lev), (0 : Int) ≤ (i : Int), (i : Int) < ((List.length (List.set m i (⟨k + 2 * (i : Int), x1.left⟩ : Lev)) : Nat) : Int), (.v (vI (IntKind.i64.wrap ((k + 2 * (i : Int)) + 1))) : S) = .v (vI (k + 2 * (i : Int) + 1)), m[i]? = some x1, (0 : Int) ≤ (i : Int), (i : Int) < (m.length : Int), (decide ((i : Int) < (m.length : Int))) = true]) (by kernel_rfl) ⟨as_i64 (by omega) (by omega), as_i64e (by omega) (by omega) (by omega), asB_set, ax_setget (by omega), by omega, by simp only [List.length_set]; omega, as_i64 (by omega) (by omega), hx1, by omega, by omega, h1, trivial⟩).to (by simp [vI, vO, vB, vT] <;> omega) (by simp [vI, vO, vB, vT] <;> omega)⟩
 | false =>
  have p1 := of_decide_eq_false h1
  exact .inr ((piece_sound (e := (.ext 0)) (tm' := [(1, .v (vI (k + 2 * (i : Int))))]) (H' := [.lst .lev m]) (ds := [.br false, .at 0, .keep [1], .sel [0]]) (ob := [(decide ((i : Int) < (m.length : Int))) = false]) (by kernel_rfl) ⟨h1, trivial⟩).to (by first | rfl | (rw [fill_done hv3 (by rw [hv2, markL_len]) (by rw [markL_len]; omega)]) | (rw [show i = n by omega])) (by first | rfl | (rw [fill_done hv3 (by rw [hv2, markL_len]) (by rw [markL_len]; omega)]) | (rw [show i = n by omega])))
theorem markLevS_ok (m : List Lev) (k : Int) (hp1 : (0 : Int) ≤ k ∧ k ≤ 1125899906842624) (hp2 : m.length ≤ bigN) : Fun Tryz.prog 76 [vO 0, vI k] [.lst .lev m] (.v (vI (k + 2 * (m.length : Int)))) [.lst .lev (markL mkLev 2 k (m.length))] := by
 have hN : bigN = 274877906944 := rfl
 refine ⟨callable_of Tryz.func76 (by kernel_rfl) (by kernel_rfl), ?_⟩
 exact (walk_sound Tryz.func76 (res := .v (vI (k + 2 * (m.length : Int)))) (L' := [.lst .lev (markL mkLev 2 k (m.length))]) (ds := [.at 0, .keep [0, 1, 5], .sel [0], .loop (.ext 0) [(1, .v (vI (k + 2 * (m.length : Int))))] [.lst .lev (markL mkLev 2 k (m.length))]]) (σ := [0]) (ob := [Sm Tryz.prog 27 1 (.loop (loopAt Tryz.f76 0)) [(0, .v (vO 0)), (1, .v (vI k)), (5, .v (vI 0))] [.lst .lev m] (.ext 0) [(1, .v (vI (k + 2 * (m.length : Int))))] [.lst .lev (markL mkLev 2 k (m.length))]]) (by kernel_rfl) ⟨Sm.fr (markLevS_ok_l (m.length) k hp1 hp2 0 m (⟨by simp, by simp, by simp⟩)) (by simp) (by rfl), trivial⟩).to (by simp) (by simp)
theorem heldLevS_ok_l (n : Nat) (k : Int) (hp1 : (0 : Int) ≤ k ∧ k ≤ 1125899906842624) (hp2 : n ≤ bigN) (i : Nat) (hinv : i ≤ n) : Sm Tryz.prog 31 0 (.loop (loopAt Tryz.f79 0)) [(0, .v (.c (.seq .lev (markL mkLev 2 k n)))), (1, .v (vI (k + 2 * (i : Int)))), (5, .v (vI (i : Int)))] [] (.ext 0) [(1, .v (vI (k + 2 * (n : Int))))] [] := by
 refine Sm.loop (ι := Nat) (fun (i : Nat) => [(0, .v (.c (.seq .lev (markL mkLev 2 k n)))), (1, .v (vI (k + 2 * (i : Int)))), (5, .v (vI (i : Int)))]) (fun (i : Nat) => []) (fun (i : Nat) => i ≤ n) (fun (i : Nat) => n - i) (by decide) ?_ i hinv
 clear hinv
 clear i
 rintro i hinv
 have hN : bigN = 274877906944 := rfl
 have hML : List.length (markL mkLev 2 k n) = n := markL_len
 cases h1 : (decide ((i : Int) < ((List.length (markL mkLev 2 k n) : Nat) : Int))) with
 | true =>
  have p1 := of_decide_eq_true h1
  exact .inl ⟨(i + 1), (by omega), (by omega), (piece_sound (e := .nrm) (tm' := [(0, .v (.c (.seq .lev (markL mkLev 2 k n)))), (1, .v (vI (k + 2 * (i : Int) + 2))), (5, .v (vI ((i : Int) + 1)))]) (H' := []) (ds := [.br true, .el .lev (⟨k + 2 * (i : Int), k + 2 * (i : Int) + 1⟩ : Lev), .br false, .as 20 (.v (vI (k + 2 * (i : Int) + 1))), .el .lev (⟨k + 2 * (i : Int), k + 2 * (i : Int) + 1⟩ : Lev), .br false, .as 29 (.v (vI (k + 2 * (i : Int) + 2))), .as 11 (.v (vI ((i : Int) + 1))), .at 0, .keep [0, 1, 5], .sel []]) (ob := [(.v (vI (IntKind.i64.wrap ((i : Int) + 1))) : S) = .v (vI ((i : Int) + 1)), (.v (vI (IntKind.i64.wrap ((k + 2 * (i : Int) + 1) + 1))) : S) = .v (vI (k + 2 * (i : Int) + 2)), (!decide (k + 2 * (i : Int) + 1 = k + 2 * (i : Int) + 1)) = false, (0 : Int) ≤ (i : Int), (markL mkLev 2 k n)[i]? = some (⟨k + 2 * (i : Int), k + 2 * (i : Int) + 1⟩ : Lev), (.v (vI (IntKind.i64.wrap ((k + 2 * (i : Int)) + 1))) : S) = .v (vI (k + 2 * (i : Int) + 1)), (!decide (k + 2 * (i : Int) = k + 2 * (i : Int))) = false, (0 : Int) ≤ (i : Int), (markL mkLev 2 k n)[i]? = some (⟨k + 2 * (i : Int), k + 2 * (i : Int) + 1⟩ : Lev), (decide ((i : Int) < ((List.length (markL mkLev 2 k n) : Nat) : Int))) = true]) (by kernel_rfl) ⟨as_i64 (by omega) (by omega), as_i64e (by omega) (by omega) (by omega), by simp, by omega, markL_get (by omega), as_i64 (by omega) (by omega), by simp, by omega, markL_get (by omega), h1, trivial⟩).to (by simp [vI, vO, vB, vT] <;> omega) (by simp [vI, vO, vB, vT] <;> omega)⟩
 | false =>
  have p1 := of_decide_eq_false h1
  exact .inr ((piece_sound (e := (.ext 0)) (tm' := [(1, .v (vI (k + 2 * (i : Int))))]) (H' := []) (ds := [.br false, .at 0, .keep [1], .sel []]) (ob := [(decide ((i : Int) < ((List.length (markL mkLev 2 k n) : Nat) : Int))) = false]) (by kernel_rfl) ⟨h1, trivial⟩).to (by first | rfl | (rw [show i = n by omega])) (by first | rfl | (rw [show i = n by omega])))
theorem heldLevS_ok (n : Nat) (k : Int) (hp1 : (0 : Int) ≤ k ∧ k ≤ 1125899906842624) (hp2 : n ≤ bigN) : Fun Tryz.prog 79 [.c (.seq .lev (markL mkLev 2 k n)), vI k] [] (.v (vI (k + 2 * (n : Int)))) [] := by
 have hN : bigN = 274877906944 := rfl
 refine ⟨callable_of Tryz.func79 (by kernel_rfl) (by kernel_rfl), ?_⟩
 exact (walk_sound Tryz.func79 (res := .v (vI (k + 2 * (n : Int)))) (L' := []) (ds := [.at 0, .keep [0, 1, 5], .sel [], .loop (.ext 0) [(1, .v (vI (k + 2 * (n : Int))))] []]) (σ := []) (ob := [Sm Tryz.prog 31 0 (.loop (loopAt Tryz.f79 0)) [(0, .v (.c (.seq .lev (markL mkLev 2 k n)))), (1, .v (vI k)), (5, .v (vI 0))] [] (.ext 0) [(1, .v (vI (k + 2 * (n : Int))))] []]) (by kernel_rfl) ⟨Sm.fr (heldLevS_ok_l n k hp1 hp2 0 (by omega)) (by simp) (by rfl), trivial⟩).to (by simp) (by rfl)
structure heldFldS_ok_V0 where
 k : Int
 i : Nat
def heldFldS_ok_F0 (n : Nat) (k : Int) : Fam := ⟨heldFldS_ok_V0, fun q1 => [(0, .v (.c (.seq .fld (markL mkFld 5 k n)))), (1, .v (vI q1.k)), (5, .v (vI (q1.i : Int)))], fun _ => [], fun q1 => q1.i ≤ n ∧ q1.k = k + 5 * (q1.i : Int), fun q1 => n - q1.i⟩
theorem heldFldS_ok (n : Nat) (k : Int) (hp1 : (0 : Int) ≤ k ∧ k ≤ 1125899906842624) (hp2 : n ≤ bigN) : Fun Tryz.prog 205 [.c (.seq .fld (markL mkFld 5 k n)), vI k] [] (.v (vI (k + 5 * (n : Int)))) [] := by
 have hN : bigN = 274877906944 := rfl
 have hml0 : List.length (markL mkFld 5 k n) = n := markL_len
 refine fun_ofw Tryz.func205 (by kernel_rfl) (by kernel_rfl) (w := let z6 := markL mkFld 5 k n; let z7 := heldFldS_ok_F0 n k; (.seg [.at 0, .keep [0, 1, 5], .sel []] (.loop z7 fun q1 => let z1 := (⟨q1.k, q1.k + 1, decide ((q1.k + 2) % 3 = 0), decide ((q1.k + 3) % 3 = 0), q1.k + 4⟩ : Fld); .br (.seg [.el .fld z1, .br false, .as 20 (.v (vI (q1.k + 1))), .el .fld z1, .br false, .as 29 (.v (vI (q1.k + 2))), .el .fld z1, .as 36 (.v (vI ((q1.k + 2) % 3))), .br false, .as 40 (.v (vI (q1.k + 3))), .el .fld z1, .as 47 (.v (vI ((q1.k + 3) % 3))), .br false, .as 51 (.v (vI (q1.k + 4))), .el .fld z1, .br false, .as 60 (.v (vI (q1.k + 5))), .as 11 (.v (vI ((q1.i : Int) + 1))), .at 0, .keep [0, 1, 5], .sel []] (.next)) (.leaf () [])), z7.Has [(0, .v (.c (.seq .fld z6))), (1, .v (vI k)), (5, .v (vI 0))] [] ∧ ∀ q1, z7.inv q1 → (let z3 := (q1.i : Int); let z4 := q1.k + 2; let z5 := q1.k + 3; let z2 := z6[q1.i]? = some (⟨q1.k, q1.k + 1, decide (z4 % 3 = 0), decide (z5 % 3 = 0), q1.k + 4⟩ : Fld); ((decide (z3 < (z6.length : Int))) = true → z2 ∧ ((0 : Int) ≤ z3) ∧ ((!decide (q1.k = q1.k)) = false) ∧ ((.v (vI (IntKind.i64.wrap (q1.k + 1))) : S) = .v (vI (q1.k + 1))) ∧ z2 ∧ ((0 : Int) ≤ z3) ∧ ((!decide (q1.k + 1 = q1.k + 1)) = false) ∧ ((.v (vI (IntKind.i64.wrap ((q1.k + 1) + 1))) : S) = .v (vI z4)) ∧ z2 ∧ ((0 : Int) ≤ z3) ∧ ((3 : Int) ≠ 0) ∧ ((.v (vI (Int.tmod z4 3)) : S) = .v (vI (z4 % 3))) ∧ ((!decide (decide (z4 % 3 = 0) = decide (z4 % 3 = 0))) = false) ∧ ((.v (vI (IntKind.i64.wrap (z4 + 1))) : S) = .v (vI z5)) ∧ z2 ∧ ((0 : Int) ≤ z3) ∧ ((3 : Int) ≠ 0) ∧ ((.v (vI (Int.tmod z5 3)) : S) = .v (vI (z5 % 3))) ∧ ((!decide (decide (z5 % 3 = 0) = decide (z5 % 3 = 0))) = false) ∧ ((.v (vI (IntKind.i64.wrap (z5 + 1))) : S) = .v (vI (q1.k + 4))) ∧ z2 ∧ ((0 : Int) ≤ z3) ∧ ((!decide (q1.k + 4 = q1.k + 4)) = false) ∧ ((.v (vI (IntKind.i64.wrap ((q1.k + 4) + 1))) : S) = .v (vI (q1.k + 5))) ∧ ((.v (vI (IntKind.i64.wrap (z3 + 1))) : S) = .v (vI (z3 + 1))) ∧ z7.Nxt q1 [(0, .v (.c (.seq .fld z6))), (1, .v (vI (q1.k + 5))), (5, .v (vI (z3 + 1)))] []) ∧ ((decide (z3 < (z6.length : Int))) = false → (.v (vI q1.k) : S) = .v (vI (k + 5 * (n : Int))) ∧ ([] : List Blk) = [])))) (by kernel_rfl) ?_
 refine ⟨has_of (j := (⟨k, 0⟩ : heldFldS_ok_V0)) (by first | rfl | simp) rfl (by dsimp only [heldFldS_ok_F0]; exact ⟨by omega, by omega⟩), fun (q1 : heldFldS_ok_V0) hq_q1 => ?_⟩
 have hi_q1 : q1.i ≤ n ∧ q1.k = k + 5 * (q1.i : Int) := hq_q1
 obtain ⟨v1, v2⟩ := hi_q1
 have hml : List.length (markL mkFld 5 k n) = n := markL_len
 refine dsp (fun h1 p1 => ?_) fun h1 p1 => ?_
 exact ⟨(by rw [markL_get (by omega), v2]; rfl), (by omega), (by simp), (as_i64 (by omega) (by omega)), (by rw [markL_get (by omega), v2]; rfl), (by omega), (by simp), (as_i64e (by omega) (by omega) (by omega)), (by rw [markL_get (by omega), v2]; rfl), (by omega), (by decide), (as_tmod (by omega)), (by simp), (as_i64e (by omega) (by omega) (by omega)), (by rw [markL_get (by omega), v2]; rfl), (by omega), (by decide), (as_tmod (by omega)), (by simp), (as_i64e (by omega) (by omega) (by omega)), (by rw [markL_get (by omega), v2]; rfl), (by omega), (by simp), (as_i64e (by omega) (by omega) (by omega)), (as_i64 (by omega) (by omega)), nxt_of (j := (⟨q1.k + 5, q1.i + 1⟩ : heldFldS_ok_V0)) (by first | rfl | simp) rfl (by dsimp only [heldFldS_ok_F0]; exact ⟨by omega, by omega⟩) (by dsimp only [heldFldS_ok_F0]; omega)⟩
 refine ⟨(sI ?_), rfl⟩
 rotate_left
 all_goals first | (rfl) | (omega) | ((rw [v2]; omega))
structure heldShS_ok_V0 where
 k : Int
 i : Nat
def heldShS_ok_F0 (l : List Shp) (k : Int) : Fam := ⟨heldShS_ok_V0, fun q1 => [(0, .v (.c (.seq .shp (markSh k l)))), (1, .v (vI q1.k)), (5, .v (vI (q1.i : Int)))], fun _ => [], fun q1 => q1.i ≤ l.length ∧ q1.k = k + (q1.i : Int) + 5 * ((shF (List.take q1.i l) : Nat) : Int), fun q1 => l.length - q1.i⟩
theorem heldShS_ok (l : List Shp) (k : Int) (hp1 : (0 : Int) ≤ k ∧ k ≤ 1099511627776) (hp2 : l.length ≤ 1048576) (hp3 : shF l ≤ 1048576) : Fun Tryz.prog 171 [.c (.seq .shp (markSh k l)), vI k] [] (.v (vI (k + (l.length : Int) + 5 * ((shF l : Nat) : Int)))) [] := by
 have hN : bigN = 274877906944 := rfl
 have hml0 : List.length (markSh k l) = l.length := markSh_len _ _
 refine fun_ofw Tryz.func171 (by kernel_rfl) (by kernel_rfl) (w := let z5 := heldShS_ok_F0 l k; let z6 := markSh k l; (.seg [.at 0, .keep [0, 1, 5], .sel []] (.loop z5 fun q1 => .br (.intro (fun (x1 : Shp) => l[q1.i]? = some x1) fun x1 => let z1 := (⟨q1.k, markL mkFld 5 (q1.k + 1) (x1.fields.length)⟩ : Shp); .seg [.el .shp z1, .br false, .as 20 (.v (vI (q1.k + 1))), .el .shp z1, .call [] (.v (vI ((q1.k + 1) + 5 * (((x1.fields.length) : Nat) : Int)))) [], .br false, .as 11 (.v (vI ((q1.i : Int) + 1))), .at 0, .keep [0, 1, 5], .sel []] (.next)) (.leaf () [])), z5.Has [(0, .v (.c (.seq .shp z6))), (1, .v (vI k)), (5, .v (vI 0))] [] ∧ ∀ q1, z5.inv q1 → (let z3 := (q1.i : Int); let z4 := q1.k + 1; ((decide (z3 < (z6.length : Int))) = true → (∃ (x1 : Shp), l[q1.i]? = some x1) ∧ ∀ (x1 : Shp), (l[q1.i]? = some x1) → (let z2 := x1.fields.length; (z6[q1.i]? = some (⟨q1.k, markL mkFld 5 z4 z2⟩ : Shp)) ∧ ((0 : Int) ≤ z3) ∧ ((!decide (q1.k = q1.k)) = false) ∧ ((.v (vI (IntKind.i64.wrap z4)) : S) = .v (vI z4)) ∧ (z6[q1.i]? = some (⟨q1.k, markL mkFld 5 z4 z2⟩ : Shp)) ∧ ((0 : Int) ≤ z3) ∧ (Fun Tryz.prog 205 [.c (.seq .fld (markL mkFld 5 z4 z2)), vI z4] [] (.v (vI (z4 + 5 * (z2 : Int)))) []) ∧ ((decide (z4 + 5 * (z2 : Int) < 0)) = false) ∧ ((.v (vI (IntKind.i64.wrap (z3 + 1))) : S) = .v (vI (z3 + 1))) ∧ z5.Nxt q1 [(0, .v (.c (.seq .shp z6))), (1, .v (vI (z4 + 5 * (z2 : Int)))), (5, .v (vI (z3 + 1)))] [])) ∧ ((decide (z3 < (z6.length : Int))) = false → (.v (vI q1.k) : S) = .v (vI (k + (l.length : Int) + 5 * ((shF l : Nat) : Int))) ∧ ([] : List Blk) = [])))) (by kernel_rfl) ?_
 refine ⟨has_of (j := (⟨k, 0⟩ : heldShS_ok_V0)) (by first | rfl | simp) rfl (by dsimp only [heldShS_ok_F0]; exact ⟨by omega, by simp [shF]⟩), fun (q1 : heldShS_ok_V0) hq_q1 => ?_⟩
 have hi_q1 : q1.i ≤ l.length ∧ q1.k = k + (q1.i : Int) + 5 * ((shF (List.take q1.i l) : Nat) : Int) := hq_q1
 obtain ⟨v1, v2⟩ := hi_q1
 have hml : List.length (markSh k l) = l.length := markSh_len _ _
 refine dsp (fun h1 p1 => ?_) fun h1 p1 => ?_
 refine ⟨(ax_get (l := l) (i := q1.i) (by omega)), fun x1 hx1 => ?_⟩
 have hsf := shF_at hx1
 exact ⟨(by rw [v2]; exact markSh_get hx1), (by omega), (by simp), (as_i64 (by omega) (by omega)), (by rw [v2]; exact markSh_get hx1), (by omega), (heldFldS_ok (x1.fields.length) _ (by omega) (by omega)), (decide_eq_false (by omega)), (as_i64 (by omega) (by omega)), nxt_of (j := (⟨(q1.k + 1) + 5 * (((x1.fields.length) : Nat) : Int), q1.i + 1⟩ : heldShS_ok_V0)) (by first | rfl | simp) rfl (by dsimp only [heldShS_ok_F0]; exact ⟨by omega, by omega⟩) (by dsimp only [heldShS_ok_F0]; omega)⟩
 refine ⟨(sI ?_), rfl⟩
 rotate_left
 all_goals first | ((rw [v2, List.take_of_length_le (by omega)]; omega)) | (omega)
theorem heldSch_ok (l : List Shp) (k : Int) (hp1 : (0 : Int) ≤ k ∧ k ≤ 1099511627776) (hp2 : l.length ≤ 1048576) (hp3 : shF l ≤ 1048576) : Fun Tryz.prog 126 [.agg [.seq .shp (markSh k l)], vI k] [] (.v (vI (k + (l.length : Int) + 5 * ((shF l : Nat) : Int)))) [] := by
 have hN : bigN = 274877906944 := rfl
 refine fun_ofw Tryz.func126 (by kernel_rfl) (by kernel_rfl) (w := let z1 := vI (k + (l.length : Int) + 5 * ((shF l : Nat) : Int)); (.seg [.call [] (.v z1) [], .br false] (.leaf () []), (Fun Tryz.prog 171 [.c (.seq .shp (markSh k l)), vI k] [] (.v z1) []) ∧ ((decide (k + (l.length : Int) + 5 * ((shF l : Nat) : Int) < 0)) = false) ∧ (.v z1 : S) = .v z1 ∧ ([] : List Blk) = [])) (by kernel_rfl) ?_
 exact ⟨(heldShS_ok l _ (by omega) (by omega) (by omega)), (decide_eq_false (by omega)), rfl, rfl⟩
theorem heldPln_ok (p : Pln) (l : List Shp) (k : Int) (hp1 : (0 : Int) ≤ k ∧ k ≤ 1099511627776) (hp2 : l.length ≤ 1048576) (hp3 : shF l ≤ 1048576) : Fun Tryz.prog 78 [.agg [.seq .shp (markSh k l), .int .i64 p.root, .int .i64 p.deep, .int .i64 p.most], vI k] [] (.v (vI (k + (l.length : Int) + 5 * ((shF l : Nat) : Int)))) [] := by
 have hN : bigN = 274877906944 := rfl
 refine fun_ofw Tryz.func78 (by kernel_rfl) (by kernel_rfl) (w := let z1 := vI (k + (l.length : Int) + 5 * ((shF l : Nat) : Int)); (.seg [.call [] (.v z1) [], .br false] (.leaf () []), (Fun Tryz.prog 126 [.agg [.seq .shp (markSh k l)], vI k] [] (.v z1) []) ∧ ((decide (k + (l.length : Int) + 5 * ((shF l : Nat) : Int) < 0)) = false) ∧ (.v z1 : S) = .v z1 ∧ ([] : List Blk) = [])) (by kernel_rfl) ?_
 exact ⟨(heldSch_ok l _ (by omega) (by omega) (by omega)), (decide_eq_false (by omega)), rfl, rfl⟩
theorem markDcd_ok (a : Dcd) (k : Int) (hp1 : (0 : Int) ≤ k ∧ k ≤ 1099511627776) (hp2 : List.length (a).plan.shapes ≤ 1048576) (hp3 : shF (a).plan.shapes ≤ 1048576) (hp4 : List.length (a).stack ≤ 2097152) : Fun Tryz.prog 26 [.agg (oDcd0_5 0 1 a), vI k] [.tree a.plan.shapes, .lst .lev a.stack] (.v (vI ((k + ((List.length (a).plan.shapes : Nat) : Int) + 5 * ((shF (a).plan.shapes : Nat) : Int)) + 2 * ((List.length (a).stack : Nat) : Int)))) [.tree (markSh k (a).plan.shapes), .lst .lev (markL mkLev 2 (k + ((List.length (a).plan.shapes : Nat) : Int) + 5 * ((shF (a).plan.shapes : Nat) : Int)) (List.length (a).stack))] := by
 have hN : bigN = 274877906944 := rfl
 refine fun_ofw Tryz.func26 (by kernel_rfl) (by kernel_rfl) (w := let z1 := k + ((List.length (a.plan).shapes : Nat) : Int) + 5 * ((shF (a.plan).shapes : Nat) : Int); let z2 := vI (z1 + 2 * (a.stack.length : Int)); let z3 := k + ((List.length (a).plan.shapes : Nat) : Int) + 5 * ((shF (a).plan.shapes : Nat) : Int); let z4 := markL mkLev 2 z1 (a.stack.length); let z5 := markSh k (a.plan).shapes; (.seg [.call [0] (.v (vI z1)) [.tree z5], .call [1] (.v z2) [.lst .lev z4]] (.leaf () [0, 1]), (Fun Tryz.prog 36 [.agg (oPln0 0 a.plan), vI k] [.tree a.plan.shapes] (.v (vI z1)) [.tree z5]) ∧ (Fun Tryz.prog 76 [vO 0, vI z1] [.lst .lev a.stack] (.v z2) [.lst .lev z4]) ∧ (.v z2 : S) = .v (vI (z3 + 2 * ((List.length (a).stack : Nat) : Int))) ∧ ([.tree z5, .lst .lev z4] : List Blk) = [.tree (markSh k (a).plan.shapes), .lst .lev (markL mkLev 2 z3 (List.length (a).stack))])) (by kernel_rfl) ?_
 exact ⟨(markPlan_ok a.plan _ (by omega) (by omega) (by omega)), (markLevS_ok a.stack (k + ((List.length (a.plan).shapes : Nat) : Int) + 5 * ((shF (a.plan).shapes : Nat) : Int)) (by omega) (by omega)), (congrArg S.v (congrArg V.c (congrArg (C.int .i64) (by rfl)))), (consE (congrArg Blk.tree (by rfl)) (consE (congrArg (Blk.lst .lev) (by rfl)) rfl))⟩
theorem heldDcd_ok (a : Dcd) (l : List Shp) (n : Nat) (k : Int) (k2 : Int) (hp1 : (0 : Int) ≤ k ∧ k ≤ 1099511627776) (hp2 : l.length ≤ 1048576) (hp3 : shF l ≤ 1048576) (hp4 : n ≤ 2097152) (hp5 : k2 = k + (l.length : Int) + 5 * ((shF l : Nat) : Int)) : Fun Tryz.prog 29 [.agg [.seq .shp (markSh k l), .int .i64 a.plan.root, .int .i64 a.plan.deep, .int .i64 a.plan.most, .int .i64 a.mode, .seq .lev (markL mkLev 2 k2 n), .int .u64 a.scan.bits, .int .i64 a.scan.have_, .int .i64 a.start, .int .i64 a.at_, .int .i64 a.field.number, .int .i64 a.field.kind, .bool a.field.rep, .bool a.field.packed, .int .i64 a.field.msg, .int .i64 a.wire, .int .i64 a.want, .int .i64 a.utf.want, .int .i64 a.utf.low, .int .i64 a.utf.high, .int .i64 a.end_.kind, .int .i64 a.end_.field, .int .u64 a.end_.bits, .int .i64 a.end_.len, .str a.end_.text, .int .i64 a.end_.code, .int .i64 a.end_.at_], vI k] [] (.v (vI (k2 + 2 * (n : Int)))) [] := by
 have hN : bigN = 274877906944 := rfl
 refine fun_ofw Tryz.func29 (by kernel_rfl) (by kernel_rfl) (w := let z1 := vI (k + (l.length : Int) + 5 * ((shF l : Nat) : Int)); let z2 := vI (k2 + 2 * (n : Int)); (.seg [.call [] (.v z1) [], .as 8 (.v (vI k2)), .br false, .call [] (.v z2) [], .br false] (.leaf () []), (Fun Tryz.prog 78 [.agg [.seq .shp (markSh k l), .int .i64 a.plan.root, .int .i64 a.plan.deep, .int .i64 a.plan.most], vI k] [] (.v z1) []) ∧ ((.v z1 : S) = .v (vI k2)) ∧ ((decide (k2 < 0)) = false) ∧ (Fun Tryz.prog 79 [.c (.seq .lev (markL mkLev 2 k2 n)), vI k2] [] (.v z2) []) ∧ ((decide (k2 + 2 * (n : Int) < 0)) = false) ∧ (.v z2 : S) = .v z2 ∧ ([] : List Blk) = [])) (by kernel_rfl) ?_
 exact ⟨(heldPln_ok (⟨([] : List Shp), a.plan.root, a.plan.deep, a.plan.most⟩ : Pln) l _ (by omega) (by omega) (by omega)), (as_int hp5.symm), (decide_eq_false (by omega)), (heldLevS_ok n k2 (by omega) (by omega)), (decide_eq_false (by omega)), rfl, rfl⟩
def szDcd (left : Int) (d : Dcd) : Int := if szShS left d.plan.shapes < 0 then -1 else if szN (szShS left d.plan.shapes) (d.stack.length : Int) < 0 then -1 else if szN (szShS left d.plan.shapes) (d.stack.length : Int) - (d.end_.text.length : Int) < 0 then -1 else szN (szShS left d.plan.shapes) (d.stack.length : Int) - (d.end_.text.length : Int)
theorem szN_b {left n : Int} (h : 0 ≤ left) (h2 : left ≤ 1048576) (hn : 0 ≤ n) : -1 ≤ szN left n ∧ szN left n ≤ left ∧ (0 ≤ szN left n → n ≤ left) := by unfold szN; split <;> omega
theorem szDcd_b {left : Int} {d : Dcd} (h : 0 ≤ left) (h2 : left ≤ 1048576) : -1 ≤ szDcd left d ∧ szDcd left d ≤ left ∧ (0 ≤ szDcd left d → d.plan.shapes.length ≤ 1048576 ∧ (∀ e ∈ d.plan.shapes, e.fields.length ≤ 1048576) ∧ d.stack.length ≤ 1048576 ∧ d.end_.text.length ≤ 1048576 ∧ shF d.plan.shapes ≤ 1048576) := by
 have hs := szShS_b (l := d.plan.shapes) h h2
 unfold szDcd
 split
 ·omega
 ·have hn := szN_b (left := szShS left d.plan.shapes) (n := (d.stack.length : Int)) (by omega) (by omega) (by omega)
  have hz := hs.2.2 (by omega)
  have hf := shF_S (l := d.plan.shapes) h (by omega)
  split
  ·omega
  ·split
   ·omega
   ·exact ⟨by omega, by omega, fun _ => ⟨hz.1, hz.2, by omega, by omega, by omega⟩⟩
theorem szLevS_ok (l : List Lev) (left : Int) (hp1 : (0 : Int) ≤ left ∧ left ≤ 1048576) (hp2 : (l.length : Int) ≤ 9223372036854775807) : Fun Tryz.prog 61 [.c (.seq .lev l), vI left] [] (.v (vI (szN left (l.length : Int)))) [] := by
 have hN : bigN = 274877906944 := rfl
 refine fun_ofw Tryz.func61 (by kernel_rfl) (by kernel_rfl) (w := let z1 := (l.length : Int); (.seg [.as 8 (.v (vI (left - z1)))] (.br (.leaf () []) (.leaf () [])), ((.v (vI (IntKind.i64.wrap (left - z1))) : S) = .v (vI (left - z1))) ∧ ((decide (left - z1 < 0)) = true → (.v (vI (-1)) : S) = .v (vI (szN left z1)) ∧ ([] : List Blk) = []) ∧ ((decide (left - z1 < 0)) = false → (.v (vI (left - z1)) : S) = .v (vI (szN left z1)) ∧ ([] : List Blk) = []))) (by kernel_rfl) ?_
 refine ⟨(as_i64 (by omega) (by omega)), dsp (fun h1 p1 => ?_) fun h1 p1 => ?_⟩
 refine ⟨(sI ?_), rfl⟩
 rotate_left
 refine ⟨(sI ?_), rfl⟩
 rotate_left
 all_goals first | (simp [szN, *]; done) | (grind [szN])
theorem szDcd_ok (a : Dcd) (left : Int) (hp1 : (0 : Int) ≤ left ∧ left ≤ 1048576) (hp2 : ((List.length (a).plan.shapes : Nat) : Int) ≤ 9223372036854775807) (hp3 : ∀ e ∈ (a).plan.shapes, (e.fields.length : Int) ≤ 9223372036854775807) (hp4 : ((List.length (a).stack : Nat) : Int) ≤ 9223372036854775807) (hp5 : ((List.length (a).end_.text : Nat) : Int) ≤ 9223372036854775807) : Fun Tryz.prog 17 [.agg (cDcd a), vI left] [] (.v (vI (szDcd left a))) [] := by
 have hN : bigN = 274877906944 := rfl
 refine fun_ofw Tryz.func17 (by kernel_rfl) (by kernel_rfl) (w := let z3 := szShS left (a.plan).shapes; let z4 := (a.stack.length : Int); let z2 := szN z3 z4; let z5 := vI (szDcd left a); let z6 := decide (szShS left (a.plan).shapes < 0); let z7 := ((List.length (a.end_).text : Nat) : Int); let z1 := if z2 - z7 < 0 then -1 else z2 - z7; let z8 := ([] : List Blk); let z9 := (.v (vI (-1)) : S); (.seg [.call [] (.v (vI z3)) []] (.br (.leaf () []) (.seg [.call [] (.v (vI z2)) []] (.br (.leaf () []) (.seg [.call [] (.v (vI z1)) []] (.br (.leaf () []) (.leaf () [])))))), (Fun Tryz.prog 10 [.agg (cPln a.plan), vI left] [] (.v (vI z3)) []) ∧ (z6 = true → z9 = .v z5 ∧ z8 = []) ∧ (z6 = false → (Fun Tryz.prog 61 [.c (.seq .lev a.stack), vI z3] [] (.v (vI z2)) []) ∧ ((decide (szN z3 z4 < 0)) = true → z9 = .v z5 ∧ z8 = []) ∧ ((decide (szN z3 z4 < 0)) = false → (Fun Tryz.prog 62 [.agg (cEv a.end_), vI z2] [] (.v (vI z1)) []) ∧ ((decide (z1 < 0)) = true → z9 = .v z5 ∧ z8 = []) ∧ ((decide (z1 < 0)) = false → (.v (vI z1) : S) = .v z5 ∧ z8 = []))))) (by kernel_rfl) ?_
 refine ⟨(szPlan_ok a.plan _ (by omega) (by omega) (hp3)), dsp (fun h1 p1 => ?_) fun h1 p1 => ?_⟩
 have hs := szShS_b (l := a.plan.shapes) (left := left) (by omega) (by omega)
 refine ⟨(sI ?_), rfl⟩
 rotate_left
 have hs := szShS_b (l := a.plan.shapes) (left := left) (by omega) (by omega)
 have hn : 0 ≤ szShS left a.plan.shapes → _ := fun h0 => szN_b (left := szShS left a.plan.shapes) (n := (a.stack.length : Int)) h0 (by omega) (by omega)
 refine ⟨(szLevS_ok _ _ (by omega) (by omega)), dsp (fun h2 p2 => ?_) fun h2 p2 => ?_⟩
 refine ⟨(sI ?_), rfl⟩
 rotate_left
 have hm := hn (by omega)
 refine ⟨(szEvent_ok a.end_ _ (by omega) (by omega)), dsp (fun h3 p3 => ?_) fun h3 p3 => ?_⟩
 refine ⟨(sI ?_), rfl⟩
 rotate_left
 have hm := hn (by omega)
 refine ⟨(sI ?_), rfl⟩
 rotate_left
 all_goals first | (simp_all [szDcd]; done) | (grind [szDcd, szN])
theorem toLev_ok (a : Lev) : Fun Tryz.prog 120 [.agg (cLev a)] [] (.v (.agg (cLev a))) [] := by
 have hN : bigN = 274877906944 := rfl
 refine fun_ofw Tryz.func120 (by kernel_rfl) (by kernel_rfl) (w := (.leaf () [], (.v (.agg (cLev a)) : S) = .v (.agg (cLev a)) ∧ ([] : List Blk) = [])) (by kernel_rfl) ?_
 exact ⟨rfl, rfl⟩
structure toLevS_ok_V0 where
 out : List Lev
 i : Nat
def toLevS_ok_F0 (l : List Lev) : Fam := ⟨toLevS_ok_V0, fun q1 => [(0, .v (.c (.seq .lev l))), (3, .v (vO 0)), (4, .v (vI (q1.i : Int)))], fun q1 => [.lst .lev q1.out], fun q1 => q1.i ≤ l.length ∧ q1.out.length = l.length ∧ List.take q1.i q1.out = List.take q1.i l, fun q1 => l.length - q1.i⟩
theorem toLevS_ok (l : List Lev) (hp1 : l.length ≤ 1048576) : Fun Tryz.prog 65 [.c (.seq .lev l)] [] (.v (vO 0)) [.lst .lev l] := by
 have hN : bigN = 274877906944 := rfl
 refine fun_ofw Tryz.func65 (by kernel_rfl) (by kernel_rfl) (w := let z2 := (l.length : Int); let z3 := toLevS_ok_F0 l; (.seg [.ty .lev, .at 0, .keep [0, 3, 4], .sel [0]] (.loop z3 fun q1 => .br (.intro (fun (x1 : Lev) => l[q1.i]? = some x1) fun x1 => .seg [.el .lev x1, .call [] (.v (.agg (cLev x1))) []] (.intro (fun (x2 : Lev) => q1.out[q1.i]? = some x2) fun x2 => .seg [.el .lev x2, .as 13 (.v (vI ((q1.i : Int) + 1))), .at 0, .keep [0, 3, 4], .sel [0]] (.next))) (.leaf () [0])), (z2 ≤ 9223372036854775807) ∧ (((16 : Nat) : Int) * z2 ≤ 281474976710656) ∧ (z2 ≤ z2) ∧ ((0 : Int) ≤ z2) ∧ z3.Has [(0, .v (.c (.seq .lev l))), (3, .v (vO 0)), (4, .v (vI 0))] [.lst .lev (List.replicate (l.length) (⟨0, 0⟩ : Lev))] ∧ ∀ q1, z3.inv q1 → (let z1 := (q1.i : Int); ((decide (z1 < z2)) = true → (∃ (x1 : Lev), l[q1.i]? = some x1) ∧ ∀ (x1 : Lev), (l[q1.i]? = some x1) → ((l[q1.i]? = some x1) ∧ ((0 : Int) ≤ z1) ∧ (Fun Tryz.prog 120 [.agg (cLev x1)] [] (.v (.agg (cLev x1))) []) ∧ (∃ (x2 : Lev), q1.out[q1.i]? = some x2) ∧ ∀ (x2 : Lev), (q1.out[q1.i]? = some x2) → ((z1 < (q1.out.length : Int)) ∧ ((0 : Int) ≤ z1) ∧ (q1.out[q1.i]? = some x2) ∧ ((.v (vI (IntKind.i64.wrap (z1 + 1))) : S) = .v (vI (z1 + 1))) ∧ z3.Nxt q1 [(0, .v (.c (.seq .lev l))), (3, .v (vO 0)), (4, .v (vI (z1 + 1)))] [.lst .lev (List.set q1.out q1.i x1)]))) ∧ ((decide (z1 < z2)) = false → (.v (vO 0) : S) = .v (vO 0) ∧ ([.lst .lev q1.out] : List Blk) = [.lst .lev l])))) (by kernel_rfl) ?_
 refine ⟨(by omega), (by omega), (by omega), (by omega), has_of (j := (⟨List.replicate (l.length) (⟨0, 0⟩ : Lev), 0⟩ : toLevS_ok_V0)) (by first | rfl | simp) rfl (by dsimp only [toLevS_ok_F0]; exact ⟨by omega, by simp, by simp⟩), fun (q1 : toLevS_ok_V0) hq_q1 => ?_⟩
 have hi_q1 : q1.i ≤ l.length ∧ q1.out.length = l.length ∧ List.take q1.i q1.out = List.take q1.i l := hq_q1
 obtain ⟨v1, v2, v3⟩ := hi_q1
 refine dsp (fun h1 p1 => ?_) fun h1 p1 => ?_
 refine ⟨(ax_get (l := l) (i := q1.i) (by omega)), fun x1 hx1 => ?_⟩
 refine ⟨hx1, (by omega), (toLev_ok x1), (ax_get (l := q1.out) (i := q1.i) (by omega)), fun x2 hx2 => ?_⟩
 exact ⟨(by omega), (by omega), hx2, (as_i64 (by omega) (by omega)), nxt_of (j := (⟨List.set q1.out q1.i x1, q1.i + 1⟩ : toLevS_ok_V0)) (by first | rfl | simp) rfl (by dsimp only [toLevS_ok_F0]; exact ⟨by omega, by simp [v2], fill_set v3 v2 hx1⟩) (by dsimp only [toLevS_ok_F0]; omega)⟩
 refine ⟨rfl, (consE (congrArg (Blk.lst .lev) ?_) rfl)⟩
 rotate_left
 all_goals exact fill_done v3 v2 (by omega)
theorem toScn_ok (a : Scn) : Fun Tryz.prog 66 [.agg (cScn a)] [] (.v (.agg (cScn a))) [] := by
 have hN : bigN = 274877906944 := rfl
 refine fun_ofw Tryz.func66 (by kernel_rfl) (by kernel_rfl) (w := (.leaf () [], (.v (.agg (cScn a)) : S) = .v (.agg (cScn a)) ∧ ([] : List Blk) = [])) (by kernel_rfl) ?_
 exact ⟨rfl, rfl⟩
theorem toUtf_ok (a : Utf) : Fun Tryz.prog 68 [.agg (cUtf a)] [] (.v (.agg (cUtf a))) [] := by
 have hN : bigN = 274877906944 := rfl
 refine fun_ofw Tryz.func68 (by kernel_rfl) (by kernel_rfl) (w := (.leaf () [], (.v (.agg (cUtf a)) : S) = .v (.agg (cUtf a)) ∧ ([] : List Blk) = [])) (by kernel_rfl) ?_
 exact ⟨rfl, rfl⟩
theorem toDcd_ok (a : Dcd) (hp1 : List.length (a).plan.shapes ≤ 1048576) (hp2 : ∀ e ∈ (a).plan.shapes, e.fields.length ≤ 1048576) (hp3 : List.length (a).stack ≤ 1048576) : Fun Tryz.prog 20 [.agg (cDcd a)] [] (.v (.agg (oDcd0_5 0 1 a))) [.tree a.plan.shapes, .lst .lev a.stack] := by
 have hN : bigN = 274877906944 := rfl
 refine fun_ofw Tryz.func20 (by kernel_rfl) (by kernel_rfl) (w := (.seg [.call [] (.v (.agg (oPln0 0 a.plan))) [.tree a.plan.shapes], .call [] (.v (vO 0)) [.lst .lev a.stack], .call [] (.v (.agg (cScn a.scan))) [], .call [] (.v (.agg (cFld a.field))) [], .call [] (.v (.agg (cUtf a.utf))) [], .call [] (.v (.agg (cEv a.end_))) []] (.leaf () [3, 4]), (Fun Tryz.prog 12 [.agg (cPln a.plan)] [] (.v (.agg (oPln0 0 a.plan))) [.tree a.plan.shapes]) ∧ (Fun Tryz.prog 65 [.c (.seq .lev a.stack)] [] (.v (vO 0)) [.lst .lev a.stack]) ∧ (Fun Tryz.prog 66 [.agg (cScn a.scan)] [] (.v (.agg (cScn a.scan))) []) ∧ (Fun Tryz.prog 67 [.agg (cFld a.field)] [] (.v (.agg (cFld a.field))) []) ∧ (Fun Tryz.prog 68 [.agg (cUtf a.utf)] [] (.v (.agg (cUtf a.utf))) []) ∧ (Fun Tryz.prog 69 [.agg (cEv a.end_)] [] (.v (.agg (cEv a.end_))) []) ∧ (.v (.agg (oDcd0_5 0 1 a)) : S) = .v (.agg (oDcd0_5 0 1 a)) ∧ ([.tree a.plan.shapes, .lst .lev a.stack] : List Blk) = [.tree a.plan.shapes, .lst .lev a.stack])) (by kernel_rfl) ?_
 exact ⟨(toPlan_ok a.plan (by omega) (hp2)), (toLevS_ok _ (by omega)), (toScn_ok a.scan), (toField_ok a.field), (toUtf_ok a.utf), (toEvent_ok a.end_), rfl, rfl⟩
theorem eqLev_ok (a : Lev) : Fun Tryz.prog 125 [.agg (cLev a), .agg (cLev a)] [] (.v (vB true)) [] := by
 have hN : bigN = 274877906944 := rfl
 refine fun_ofw Tryz.func125 (by kernel_rfl) (by kernel_rfl) (w := (.seg [.br false, .br false] (.leaf () []), ((!decide (a.msg = a.msg)) = false) ∧ ((!decide (a.left = a.left)) = false) ∧ (.v (vB true) : S) = .v (vB true) ∧ ([] : List Blk) = [])) (by kernel_rfl) ?_
 exact ⟨(by simp), (by simp), rfl, rfl⟩
structure eqLevS_ok_V0 where
 i : Nat
def eqLevS_ok_F0 (l : List Lev) : Fam := ⟨eqLevS_ok_V0, fun q1 => [(0, .v (.c (.seq .lev l))), (1, .v (.c (.seq .lev l))), (5, .v (vI (q1.i : Int)))], fun _ => [], fun q1 => q1.i ≤ l.length, fun q1 => l.length - q1.i⟩
theorem eqLevS_ok (l : List Lev) (hp1 : l.length ≤ bigN) : Fun Tryz.prog 72 [.c (.seq .lev l), .c (.seq .lev l)] [] (.v (vB true)) [] := by
 have hN : bigN = 274877906944 := rfl
 refine fun_ofw Tryz.func72 (by kernel_rfl) (by kernel_rfl) (w := let z3 := (l.length : Int); let z4 := eqLevS_ok_F0 l; (.seg [.br false, .at 0, .keep [0, 1, 5], .sel []] (.loop z4 fun q1 => .br (.intro (fun (x1 : Lev) => l[q1.i]? = some x1) fun x1 => .seg [.ord (os 10 [8]) [], .el .lev x1, .el .lev x1, .call [] (.v (vB true)) [], .br false, .as 16 (.v (vI ((q1.i : Int) + 1))), .at 0, .keep [0, 1, 5], .sel []] (.next)) (.leaf () [])), ((!decide (z3 = z3)) = false) ∧ z4.Has [(0, .v (.c (.seq .lev l))), (1, .v (.c (.seq .lev l))), (5, .v (vI 0))] [] ∧ ∀ q1, z4.inv q1 → (let z2 := (q1.i : Int); ((decide (z2 < z3)) = true → (∃ (x1 : Lev), l[q1.i]? = some x1) ∧ ∀ (x1 : Lev), (l[q1.i]? = some x1) → (let z1 := l[q1.i]? = some x1; z1 ∧ ((0 : Int) ≤ z2) ∧ z1 ∧ ((0 : Int) ≤ z2) ∧ z1 ∧ ((0 : Int) ≤ z2) ∧ z1 ∧ ((0 : Int) ≤ z2) ∧ (Fun Tryz.prog 125 [.agg (cLev x1), .agg (cLev x1)] [] (.v (vB true)) []) ∧ ((!true) = false) ∧ ((.v (vI (IntKind.i64.wrap (z2 + 1))) : S) = .v (vI (z2 + 1))) ∧ z4.Nxt q1 [(0, .v (.c (.seq .lev l))), (1, .v (.c (.seq .lev l))), (5, .v (vI (z2 + 1)))] [])) ∧ ((decide (z2 < z3)) = false → (.v (vB true) : S) = .v (vB true) ∧ ([] : List Blk) = [])))) (by kernel_rfl) ?_
 refine ⟨(by simp), has_of (j := (⟨0⟩ : eqLevS_ok_V0)) (by first | rfl | simp) rfl (by dsimp only [eqLevS_ok_F0]; omega), fun (q1 : eqLevS_ok_V0) hq_q1 => ?_⟩
 have hi_q1 : q1.i ≤ l.length := hq_q1
 refine dsp (fun h1 p1 => ?_) fun h1 p1 => ?_
 refine ⟨(ax_get (l := l) (i := q1.i) (by omega)), fun x1 hx1 => ?_⟩
 exact ⟨hx1, (by omega), hx1, (by omega), hx1, (by omega), hx1, (by omega), (eqLev_ok x1), (by decide), (as_i64 (by omega) (by omega)), nxt_of (j := (⟨q1.i + 1⟩ : eqLevS_ok_V0)) (by first | rfl | simp) rfl (by dsimp only [eqLevS_ok_F0]; omega) (by dsimp only [eqLevS_ok_F0]; omega)⟩
 exact ⟨rfl, rfl⟩
theorem eqScn_ok (a : Scn) : Fun Tryz.prog 73 [.agg (cScn a), .agg (cScn a)] [] (.v (vB true)) [] := by
 have hN : bigN = 274877906944 := rfl
 refine fun_ofw Tryz.func73 (by kernel_rfl) (by kernel_rfl) (w := (.seg [.br false, .br false] (.leaf () []), ((!decide (a.bits = a.bits)) = false) ∧ ((!decide (a.have_ = a.have_)) = false) ∧ (.v (vB true) : S) = .v (vB true) ∧ ([] : List Blk) = [])) (by kernel_rfl) ?_
 exact ⟨(by simp), (by simp), rfl, rfl⟩
theorem eqUtf_ok (a : Utf) : Fun Tryz.prog 75 [.agg (cUtf a), .agg (cUtf a)] [] (.v (vB true)) [] := by
 have hN : bigN = 274877906944 := rfl
 refine fun_ofw Tryz.func75 (by kernel_rfl) (by kernel_rfl) (w := (.seg [.br false, .br false, .br false] (.leaf () []), ((!decide (a.want = a.want)) = false) ∧ ((!decide (a.low = a.low)) = false) ∧ ((!decide (a.high = a.high)) = false) ∧ (.v (vB true) : S) = .v (vB true) ∧ ([] : List Blk) = [])) (by kernel_rfl) ?_
 exact ⟨(by simp), (by simp), (by simp), rfl, rfl⟩
theorem eqDcd_ok (a : Dcd) (hp1 : List.length (a).plan.shapes ≤ bigN) (hp2 : ∀ e ∈ (a).plan.shapes, e.fields.length ≤ bigN) (hp3 : List.length (a).stack ≤ bigN) : Fun Tryz.prog 23 [.agg (cDcd a), .agg (cDcd a)] [] (.v (vB true)) [] := by
 have hN : bigN = 274877906944 := rfl
 refine fun_ofw Tryz.func23 (by kernel_rfl) (by kernel_rfl) (w := let z1 := (!true) = false; (.seg [.call [] (.v (vB true)) [], .br false, .br false, .call [] (.v (vB true)) [], .br false, .call [] (.v (vB true)) [], .br false, .br false, .br false, .call [] (.v (vB true)) [], .br false, .br false, .br false, .call [] (.v (vB true)) [], .br false, .call [] (.v (vB true)) [], .br false] (.leaf () []), (Fun Tryz.prog 14 [.agg (cPln a.plan), .agg (cPln a.plan)] [] (.v (vB true)) []) ∧ z1 ∧ ((!decide (a.mode = a.mode)) = false) ∧ (Fun Tryz.prog 72 [.c (.seq .lev a.stack), .c (.seq .lev a.stack)] [] (.v (vB true)) []) ∧ z1 ∧ (Fun Tryz.prog 73 [.agg (cScn a.scan), .agg (cScn a.scan)] [] (.v (vB true)) []) ∧ z1 ∧ ((!decide (a.start = a.start)) = false) ∧ ((!decide (a.at_ = a.at_)) = false) ∧ (Fun Tryz.prog 74 [.agg (cFld a.field), .agg (cFld a.field)] [] (.v (vB true)) []) ∧ z1 ∧ ((!decide (a.wire = a.wire)) = false) ∧ ((!decide (a.want = a.want)) = false) ∧ (Fun Tryz.prog 75 [.agg (cUtf a.utf), .agg (cUtf a.utf)] [] (.v (vB true)) []) ∧ z1 ∧ (Fun Tryz.prog 46 [.agg (cEv a.end_), .agg (cEv a.end_)] [] (.v (vB true)) []) ∧ z1 ∧ (.v (vB true) : S) = .v (vB true) ∧ ([] : List Blk) = [])) (by kernel_rfl) ?_
 exact ⟨(eqPlan_ok a.plan (by omega) (hp2)), (by decide), (by simp), (eqLevS_ok _ (by omega)), (by decide), (eqScn_ok a.scan), (by decide), (by simp), (by simp), (eqField_ok a.field), (by decide), (by simp), (by simp), (eqUtf_ok a.utf), (by decide), (eqEvent_ok a.end_), (by decide), rfl, rfl⟩
structure Mac where
 d : Dcd
 out : List Ev
def evShut : Ev := ⟨5, 0, 0, 0, [], 0, 0⟩
def evUp : Ev := ⟨7, 0, 0, 0, [], 0, 0⟩
def evFrmEnd : Ev := ⟨8, 0, 0, 0, [], 0, 0⟩
def evFrm (n : Int) : Ev := ⟨1, 0, 0, n, [], 0, 0⟩
def evDwn (f n : Int) : Ev := ⟨6, f, 0, n, [], 0, 0⟩
def evOpn (f n : Int) : Ev := ⟨3, f, 0, n, [], 0, 0⟩
def evPrt (b : Int) : Ev := ⟨4, 0, 0, 0, [toByte b], 0, 0⟩
def dFail (d : Dcd) (c a : Int) : Dcd := ⟨d.plan, 9, d.stack, ⟨0, 0⟩, d.start, d.at_, d.field, d.wire, 0, d.utf, failEv c a⟩
def mFail (m : Mac) (c a : Int) : Mac := ⟨dFail m.d c a, m.out ++ [failEv c a]⟩
def closeM (m : Mac) : Option Mac :=
 if m.d.mode = 6 ∧ m.d.want < 1 then
  (if 0 < m.d.utf.want then some (mFail m 5 m.d.at_) else some ⟨⟨m.d.plan, 2, m.d.stack, m.d.scan, m.d.start, m.d.at_, m.d.field, m.d.wire, 0, ⟨0, 0, 0⟩, m.d.end_⟩, m.out ++ [evShut]⟩)
 else if (m.d.mode = 7 ∨ (m.d.mode = 8 ∧ m.d.scan.have_ = 0)) ∧ m.d.want < 1 then some ⟨⟨m.d.plan, 2, m.d.stack, m.d.scan, m.d.start, m.d.at_, m.d.field, m.d.wire, 0, m.d.utf, m.d.end_⟩, m.out⟩
 else if m.d.mode = 2 ∧ m.d.scan.have_ = 0 ∧ 0 < m.d.stack.length ∧ topL m.d = 0 then
  some (if m.d.stack.length = 1 then ⟨⟨m.d.plan, 1, m.d.stack.take (m.d.stack.length - 1), m.d.scan, m.d.start, m.d.at_, m.d.field, m.d.wire, m.d.want, m.d.utf, m.d.end_⟩, m.out ++ [evFrmEnd]⟩
   else ⟨⟨m.d.plan, m.d.mode, m.d.stack.take (m.d.stack.length - 1), m.d.scan, m.d.start, m.d.at_, m.d.field, m.d.wire, m.d.want, m.d.utf, m.d.end_⟩, m.out ++ [evUp]⟩)
 else none
def wM (m : Mac) : Nat := m.d.stack.length + (if m.d.mode = 6 ∨ m.d.mode = 7 ∨ m.d.mode = 8 then 2 else if m.d.mode = 2 then 1 else 0)
theorem closeM_dec {m q : Mac} (h : closeM m = some q) : wM q < wM m ∧ q.out.length ≤ m.out.length + 1 := by
 unfold closeM at h
 split at h
 ·rename_i h1
  split at h
  ·cases h; simp [wM, mFail, dFail, h1.1]
  ·cases h; simp [wM, h1.1]
 ·split at h
  ·rename_i h1
   cases h
   rcases h1.1 with h2 | h2
   ·simp [wM, h2]
   ·simp [wM, h2.1]
  ·split at h
   ·rename_i h1
    cases h
    have := h1.2.2.1
    split
    ·simp [wM, h1.1]; omega
    ·simp [wM, h1.1]; omega
   ·cases h
def settleM (m : Mac) : Mac := match h : closeM m with
 | none => m
 | some q => settleM q
termination_by wM m
decreasing_by exact (closeM_dec h).1
theorem settleM_some {m q : Mac} (h : closeM m = some q) : settleM m = settleM q := by
 rw [settleM]
 split
 ·rename_i h1; rw [h] at h1; cases h1
 ·rename_i x h1; rw [h] at h1; cases h1; rfl
theorem settleM_none {m : Mac} (h : closeM m = none) : settleM m = m := by
 rw [settleM]
 split
 ·rfl
 ·rename_i x h1; rw [h] at h1; cases h1
def frameM (m : Mac) (u : Int) : Mac :=
 if m.d.plan.most < u then mFail m 7 m.d.start
 else settleM ⟨⟨m.d.plan, 2, [⟨m.d.plan.root, u⟩], ⟨0, 0⟩, m.d.start, m.d.at_, m.d.field, m.d.wire, m.d.want, m.d.utf, m.d.end_⟩, m.out ++ [evFrm u]⟩
def lastL (d : Dcd) : Lev := d.stack.getD (d.stack.length - 1) lev0
def tagM (m : Mac) (u : Int) : Mac :=
 if tagOk u = false ∨ m.d.stack.length = 0 then mFail m 2 m.d.start
 else if wireOk (tagWire u) = false then mFail m 3 m.d.start
 else if (fieldAt m.d.plan.shapes (lastL m.d).msg (tagNum u)).isSome = true ∧ allowed ((fieldAt m.d.plan.shapes (lastL m.d).msg (tagNum u)).getD fld0) (tagWire u) = false then mFail m 4 m.d.start
 else if topL m.d < max (widthOf (tagWire u)) 1 then mFail ⟨⟨m.d.plan, m.d.mode, m.d.stack, ⟨0, 0⟩, m.d.start, m.d.at_, (fieldAt m.d.plan.shapes (lastL m.d).msg (tagNum u)).getD fld0, tagWire u, m.d.want, m.d.utf, m.d.end_⟩, m.out⟩ 9 m.d.at_
 else ⟨⟨m.d.plan, if tagWire u = 0 then 3 else if tagWire u = 2 then 4 else 5, m.d.stack, ⟨0, 0⟩, m.d.start, m.d.at_, (fieldAt m.d.plan.shapes (lastL m.d).msg (tagNum u)).getD fld0, tagWire u, m.d.want, m.d.utf, m.d.end_⟩, m.out⟩
def longM (m : Mac) (u : Int) : Mac :=
 if m.d.stack.length = 0 ∨ topL m.d < u then mFail m 8 m.d.start
 else if m.d.field = fld0 then settleM ⟨⟨m.d.plan, 7, m.d.stack, ⟨0, 0⟩, m.d.start, m.d.at_, m.d.field, m.d.wire, u, m.d.utf, m.d.end_⟩, m.out⟩
 else if m.d.field.kind = 8 then
  (if m.d.plan.deep ≤ (m.d.stack.length : Int) then mFail m 6 m.d.start
  else settleM ⟨⟨m.d.plan, 2, m.d.stack.set (m.d.stack.length - 1) ⟨(lastL m.d).msg, topL m.d - u⟩ ++ [⟨m.d.field.msg, u⟩], ⟨0, 0⟩, m.d.start, m.d.at_, m.d.field, m.d.wire, 0, m.d.utf, m.d.end_⟩, m.out ++ [evDwn m.d.field.number u]⟩)
 else if isBytes m.d.field.kind = true then settleM ⟨⟨m.d.plan, 6, m.d.stack, ⟨0, 0⟩, m.d.start, m.d.at_, m.d.field, m.d.wire, u, ⟨0, 0, 0⟩, m.d.end_⟩, m.out ++ [evOpn m.d.field.number u]⟩
 else if 0 < u ∧ u < widthOf (wireOf m.d.field.kind) then mFail m 9 m.d.at_
 else settleM ⟨⟨m.d.plan, 8, m.d.stack, ⟨0, 0⟩, m.d.start, m.d.at_, m.d.field, m.d.wire, u, m.d.utf, m.d.end_⟩, m.out⟩
def valueM (m : Mac) (u : Int) : Mac := ⟨⟨m.d.plan, if m.d.mode = 8 then 8 else 2, m.d.stack, m.d.scan, m.d.start, m.d.at_, m.d.field, m.d.wire, m.d.want, m.d.utf, m.d.end_⟩, if m.d.field = fld0 then m.out else m.out ++ [numEv m.d.field u]⟩
def dScan (d : Dcd) (s : Scn) : Dcd := ⟨d.plan, d.mode, d.stack, s, d.start, d.at_, d.field, d.wire, d.want, d.utf, d.end_⟩
def scanByte (s : Scn) (b : Int) : Scn × Int :=
 if scanOk s = false ∨ within b 0 255 = false ∨ (s.have_ = 9 ∧ 1 < b) then (s, 2)
 else (⟨s.bits + b % 128 * 2 ^ (7 * s.have_.toNat), s.have_ + 1⟩, if b < 128 then 1 else 0)
def fixByte (s : Scn) (b : Int) : Scn := if within s.have_ 0 7 = true ∧ within b 0 255 = true then ⟨IntKind.u64.wrap (s.bits + IntKind.u64.wrap (b * 2 ^ min (Int.toNat (8 * s.have_)) 64)), s.have_ + 1⟩ else s
def startM (d : Dcd) (a : Int) : Dcd := ⟨d.plan, d.mode, d.stack, d.scan, if d.scan.have_ = 0 ∧ (d.mode = 1 ∨ d.mode = 2 ∨ d.mode = 4) then a else d.start, d.at_, d.field, d.wire, d.want, d.utf, d.end_⟩
def moreM (m q : Mac) : Mac := if (m.d.mode ≠ 1 ∧ topL m.d = 0) ∨ (m.d.mode = 8 ∧ m.d.want = 0) then mFail q 9 m.d.at_ else q
def varM (m : Mac) (b a : Int) : Mac :=
 if (scanByte m.d.scan b).2 = 2 then mFail ⟨startM m.d a, m.out⟩ 1 a
 else if (scanByte m.d.scan b).2 = 0 then moreM m ⟨dScan (startM m.d a) (scanByte m.d.scan b).1, m.out⟩
 else if m.d.mode = 1 then frameM ⟨dScan (startM m.d a) scn0, m.out⟩ (scanByte m.d.scan b).1.bits
 else if m.d.mode = 2 then tagM ⟨dScan (startM m.d a) scn0, m.out⟩ (scanByte m.d.scan b).1.bits
 else if m.d.mode = 4 then longM ⟨dScan (startM m.d a) scn0, m.out⟩ (scanByte m.d.scan b).1.bits
 else settleM (valueM ⟨dScan (startM m.d a) scn0, m.out⟩ (scanByte m.d.scan b).1.bits)
def fixM (m : Mac) (b : Int) : Mac :=
 if (fixByte m.d.scan b).have_ < widthD m.d then ⟨dScan m.d (fixByte m.d.scan b), m.out⟩
 else if m.d.mode = 8 ∧ 0 < m.d.want ∧ m.d.want < widthD m.d then mFail (valueM ⟨dScan m.d scn0, m.out⟩ (fixByte m.d.scan b).bits) 9 m.d.at_
 else settleM (valueM ⟨dScan m.d scn0, m.out⟩ (fixByte m.d.scan b).bits)
def dUtf (d : Dcd) (u : Utf) : Dcd := ⟨d.plan, d.mode, d.stack, d.scan, d.start, d.at_, d.field, d.wire, d.want, u, d.end_⟩
def textB (m : Mac) (b : Int) : Mac :=
 if m.d.field.kind = 6 then (match utfByte m.d.utf b with
  | none => mFail m 5 (m.d.at_ - 1)
  | some u => settleM ⟨dUtf m.d u, m.out ++ [evPrt b]⟩)
 else settleM ⟨m.d, m.out ++ [evPrt b]⟩
def stepD (d : Dcd) : Dcd := ⟨d.plan, d.mode, if d.stack.length = 0 then d.stack else d.stack.set (d.stack.length - 1) ⟨(lastL d).msg, topL d - 1⟩, d.scan, d.start, d.at_ + 1, d.field, d.wire, if d.mode = 6 ∨ d.mode = 7 ∨ d.mode = 8 then d.want - 1 else d.want, d.utf, d.end_⟩
def byteM (m : Mac) (b : Int) : Mac :=
 if m.d.mode = 6 then textB ⟨stepD m.d, m.out⟩ b
 else if m.d.mode = 7 then settleM ⟨stepD m.d, m.out⟩
 else if 0 < widthD m.d then fixM ⟨stepD m.d, m.out⟩ b
 else varM ⟨stepD m.d, m.out⟩ b m.d.at_
theorem closeM_len {m q : Mac} (h : closeM m = some q) : q.d.stack.length ≤ m.d.stack.length ∧ q.d.plan = m.d.plan := by
 unfold closeM at h
 split at h
 ·split at h <;> (cases h; exact ⟨Nat.le_refl _, rfl⟩)
 ·split at h
  ·cases h; exact ⟨Nat.le_refl _, rfl⟩
  ·split at h
   ·cases h
    split <;> (refine ⟨?_, rfl⟩; simp only [List.length_take]; omega)
   ·cases h
theorem settleM_out (m : Mac) : (settleM m).out.length ≤ m.out.length + wM m := by
 suffices ∀ (k : Nat) (m : Mac), wM m ≤ k → (settleM m).out.length ≤ m.out.length + wM m from this _ m (Nat.le_refl _)
 intro k
 induction k with
 | zero =>
  intro m hk
  cases h : closeM m with
  | none => rw [settleM_none h]; omega
  | some q => have := (closeM_dec h).1; omega
 | succ k ih =>
  intro m hk
  cases h : closeM m with
  | none => rw [settleM_none h]; omega
  | some q =>
   have h1 := closeM_dec h
   have := ih q (by omega)
   rw [settleM_some h]; omega
theorem wM_b (m : Mac) : wM m ≤ m.d.stack.length + 2 := by unfold wM; split <;> (try split) <;> omega
theorem levelsOk_b {d : Dcd} (h : levelsOk d = true) : planOk d.plan = true ∧ (d.stack.length : Int) ≤ d.plan.deep ∧ d.stack.length ≤ 8 ∧ (∀ l ∈ d.stack, levOk (d.plan.shapes.length : Int) l = true) := by
 simp only [levelsOk, Bool.and_eq_true, decide_eq_true_eq, List.all_eq_true] at h
 have := planOk_t h.1.1
 exact ⟨h.1.1, h.1.2, by omega, h.2⟩
theorem levelsOk_mk {d : Dcd} (h1 : planOk d.plan = true) (h2 : (d.stack.length : Int) ≤ d.plan.deep) (h3 : ∀ l ∈ d.stack, levOk (d.plan.shapes.length : Int) l = true) : levelsOk d = true := by
 simp only [levelsOk, Bool.and_eq_true, decide_eq_true_eq, List.all_eq_true]; exact ⟨⟨h1, h2⟩, h3⟩
theorem levelsOk_frame {d e : Dcd} {u : Int} (h : levelsOk d = true) (hp : e.plan = d.plan) (hs : e.stack = [⟨d.plan.root, u⟩]) (h0 : 0 ≤ u) (hu : u ≤ d.plan.most) : levelsOk e = true := by
 have hb := levelsOk_b h
 have ht := planOk_t hb.1
 refine levelsOk_mk (by rw [hp]; exact hb.1) (by rw [hs, hp]; simp; omega) fun l hl => ?_
 rw [hs] at hl
 simp at hl
 subst hl
 rw [hp]
 simp [levOk, within]; omega
theorem levelsOk_same {d e : Dcd} (h : levelsOk d = true) (hp : e.plan = d.plan) (hs : e.stack = d.stack) : levelsOk e = true := by
 have hb := levelsOk_b h
 exact levelsOk_mk (by rw [hp]; exact hb.1) (by rw [hs, hp]; exact hb.2.1) (by rw [hs, hp]; exact hb.2.2.2)
theorem knownN_fld {l : List Shp} {f : Fld} (hl : schemaOk l = true) : ∀ {k : Nat}, knownN l f k = true → fldOk f (l.length : Int) = true
 | 0, h => by cases h
 | k + 1, h => by
  simp only [knownN, Bool.or_eq_true, decide_eq_true_eq] at h
  rcases h with h | h
  ·exact knownN_fld hl h
  ·exact (fieldAt_ok hl h).1
theorem lastL_mem {d : Dcd} (h : d.stack.length ≠ 0) : lastL d ∈ d.stack := by
 unfold lastL
 rw [List.getD_eq_getElem?_getD, List.getElem?_eq_getElem (by omega)]
 exact List.getElem_mem _
theorem levelsOk_down {d e : Dcd} {u : Int} (h : levelsOk d = true) (hk : known d.plan.shapes d.field = true) (h8 : d.field.kind = 8) (hn : d.stack.length ≠ 0) (hd : (d.stack.length : Int) < d.plan.deep) (h0 : 0 ≤ u) (hu : u ≤ topL d) (hp : e.plan = d.plan)
  (hs : e.stack = d.stack.set (d.stack.length - 1) ⟨(lastL d).msg, topL d - u⟩ ++ [⟨d.field.msg, u⟩]) : levelsOk e = true := by
 have hb := levelsOk_b h
 have hf := fldOk_t (knownN_fld (planOk_t hb.1).2.1 hk)
 have hm := hf.2.2.2.2.1 h8
 have hl := hb.2.2.2 _ (lastL_mem hn)
 have ht : topL d = (lastL d).left := rfl
 simp only [levOk, Bool.and_eq_true] at hl
 have hl1 := within_t hl.1; have hl2 := within_t hl.2
 refine levelsOk_mk (by rw [hp]; exact hb.1) (by rw [hs, hp]; simp; omega) fun l hl => ?_
 rw [hs] at hl
 rw [hp]
 rcases List.mem_append.1 hl with hl | hl
 ·rcases List.mem_or_eq_of_mem_set hl with hl | hl
  ·exact hb.2.2.2 l hl
  ·subst hl; simp [levOk, within]; omega
 ·simp at hl; subst hl; simp [levOk, within]; omega
theorem topL_b {d : Dcd} (h : levelsOk d = true) : 0 ≤ topL d ∧ topL d ≤ 2000 := by
 by_cases hn : d.stack.length = 0
 ·rw [topL_nil (List.eq_nil_of_length_eq_zero hn)]; omega
 ·have hl := (levelsOk_b h).2.2.2 _ (lastL_mem hn)
  have ht : topL d = (lastL d).left := rfl
  simp only [levOk, Bool.and_eq_true] at hl
  have := within_t hl.2; omega
theorem lastL_el {d : Dcd} {x : Lev} (h : d.stack[d.stack.length - 1]? = some x) : lastL d = x ∧ topL d = x.left := by
 have e : lastL d = x := by unfold lastL; exact getD_of h
 exact ⟨e, by show (lastL d).left = _; rw [e]⟩
theorem tagW_b (u : Int) : 0 ≤ tagWire u ∧ tagWire u ≤ 7 := by unfold tagWire; split <;> omega
theorem scanOk_b {s : Scn} (h : scanOk s = true) (h0 : 0 ≤ s.bits) : 0 ≤ s.have_ ∧ s.have_ ≤ 9 ∧ s.bits < 2 ^ (7 * s.have_.toNat) := by
 simp only [scanOk, Bool.and_eq_true, decide_eq_true_eq] at h
 have hw := within_t h.1
 refine ⟨hw.1, hw.2, ?_⟩
 have h2 := h.2
 rw [show min (Int.toNat (7 * s.have_)) 64 = 7 * s.have_.toNat by omega] at h2
 have hp : (0 : Int) < 2 ^ (7 * s.have_.toNat) := Int.pow_pos (by decide)
 rw [Int.fdiv_eq_ediv_of_nonneg _ (Int.le_of_lt hp)] at h2
 apply Int.not_le.1
 intro hle
 have := Int.le_ediv_of_mul_le hp (show 1 * 2 ^ (7 * s.have_.toNat) ≤ s.bits by rw [Int.one_mul]; exact hle)
 omega
theorem sc_shl {c : Int} {h : Int} (h0 : 0 ≤ h) (h9 : h ≤ 9) (c0 : 0 ≤ c) (c1 : c ≤ 127) (hc : h = 9 → c ≤ 1) : 0 ≤ c * 2 ^ (7 * h.toNat) ∧ c * 2 ^ (7 * h.toNat) + 2 ^ (7 * h.toNat) ≤ 18446744073709551616 := by
 obtain ⟨k, rfl⟩ := Int.eq_ofNat_of_zero_le h0
 have hk : k ≤ 9 := by omega
 rw [Int.toNat_natCast]
 rcases (show k = 0 ∨ k = 1 ∨ k = 2 ∨ k = 3 ∨ k = 4 ∨ k = 5 ∨ k = 6 ∨ k = 7 ∨ k = 8 ∨ k = 9 by omega) with rfl | rfl | rfl | rfl | rfl | rfl | rfl | rfl | rfl | rfl <;> simp at * <;> omega
theorem as_shl_sc {c h : Int} (h0 : 0 ≤ h) (h9 : h ≤ 9) (c0 : 0 ≤ c) (c1 : c ≤ 127) (hc : h = 9 → c ≤ 1) : (.v (.c (.int .u64 (IntKind.u64.wrap (c * 2 ^ min (Int.toNat (7 * h)) 64)))) : S) = .v (.c (.int .u64 (c * 2 ^ (7 * h.toNat)))) := by
 have := sc_shl h0 h9 c0 c1 hc
 have hp : (0 : Int) < 2 ^ (7 * h.toNat) := Int.pow_pos (by decide)
 rw [show min (Int.toNat (7 * h)) 64 = 7 * h.toNat by omega]
 exact as_u64 (by omega) (by omega)
theorem as_or_sc {u c h : Int} (h0 : 0 ≤ h) (h9 : h ≤ 9) (c0 : 0 ≤ c) (c1 : c ≤ 127) (hc : h = 9 → c ≤ 1) (u0 : 0 ≤ u) (u1 : u < 2 ^ (7 * h.toNat)) : (.v (.c (.int .u64 (IntKind.u64.wrap (((BitVec.ofInt 64 u ||| BitVec.ofInt 64 (c * 2 ^ (7 * h.toNat))).toNat : Nat) : Int)))) : S) = .v (.c (.int .u64 (u + c * 2 ^ (7 * h.toNat)))) := by
 have := sc_shl h0 h9 c0 c1 hc
 rw [or_add (k := 7 * h.toNat) (c := c) u0 u1 c0 rfl (by omega)]
 exact as_u64 (by omega) (by omega)
theorem as_add_sc {u c h : Int} (h0 : 0 ≤ h) (h9 : h ≤ 9) (c0 : 0 ≤ c) (c1 : c ≤ 127) (hc : h = 9 → c ≤ 1) (u0 : 0 ≤ u) (u1 : u < 2 ^ (7 * h.toNat)) : (.v (.c (.int .u64 (IntKind.u64.wrap (u + c * 2 ^ (7 * h.toNat))))) : S) = .v (.c (.int .u64 (u + c * 2 ^ (7 * h.toNat)))) := by
 have := sc_shl h0 h9 c0 c1 hc
 exact as_u64 (by omega) (by omega)
theorem scanByte_b {s : Scn} {b : Int} (h0 : 0 ≤ s.bits) (h1 : s.bits ≤ 18446744073709551615) : 0 ≤ (scanByte s b).1.bits ∧ (scanByte s b).1.bits ≤ 18446744073709551615 := by
 unfold scanByte
 split
 ·exact ⟨h0, h1⟩
 ·rename_i h
  simp only [not_or] at h
  have hs : scanOk s = true := by simpa using h.1
  have hb := within_t (show within b 0 255 = true by simpa using h.2.1)
  have hk := scanOk_b hs h0
  have hc := sc_shl (c := b % 128) hk.1 hk.2.1 (by omega) (by omega) (fun h9 => by have := h.2.2; omega)
  simp only; omega
structure MW (d : Dcd) : Prop where
 lv : levelsOk d = true
 kn : d.field = fld0 ∨ known d.plan.shapes d.field = true
 b0 : 0 ≤ d.scan.bits ∧ d.scan.bits ≤ 18446744073709551615
 at_ : 0 ≤ d.at_ ∧ d.at_ ≤ 1000000001
 want : -1 ≤ d.want ∧ d.want ≤ 2001
theorem fixByte_b {s : Scn} {b : Int} (h0 : 0 ≤ s.bits ∧ s.bits ≤ 18446744073709551615) : 0 ≤ (fixByte s b).bits ∧ (fixByte s b).bits ≤ 18446744073709551615 := by
 unfold fixByte
 split
 ·simp only
  rw [IntKind.wrap_u64]
  have := Int.emod_nonneg (s.bits + IntKind.u64.wrap (b * 2 ^ min (Int.toNat (8 * s.have_)) 64)) (show (18446744073709551616 : Int) ≠ 0 by decide)
  have := Int.emod_lt_of_pos (s.bits + IntKind.u64.wrap (b * 2 ^ min (Int.toNat (8 * s.have_)) 64)) (show (0 : Int) < 18446744073709551616 by decide)
  omega
 ·exact h0
theorem MW.step {d : Dcd} (h : MW d) (hs : d.stack.length = 0 ∨ 1 ≤ topL d) (ha : d.at_ ≤ 1000000000) (hw : (d.mode = 6 ∨ d.mode = 7 ∨ d.mode = 8) → 0 ≤ d.want) : MW (stepD d) := by
 have hb := levelsOk_b h.lv
 refine ⟨?_, h.kn, h.b0, ?_, ?_⟩
 ·refine levelsOk_mk (d := stepD d) hb.1 ?_ ?_
  ·show (((stepD d).stack.length : Nat) : Int) ≤ d.plan.deep
   unfold stepD; simp only; split
   ·exact hb.2.1
   ·rw [List.length_set]; exact hb.2.1
  ·intro l hl
   show levOk (d.plan.shapes.length : Int) l = true
   unfold stepD at hl
   simp only at hl
   split at hl
   ·exact hb.2.2.2 l hl
   ·rename_i hn
    rcases List.mem_or_eq_of_mem_set hl with hl | hl
    ·exact hb.2.2.2 l hl
    ·have hx := hb.2.2.2 _ (lastL_mem hn)
     have ht : topL d = (lastL d).left := rfl
     simp only [levOk, Bool.and_eq_true] at hx
     have h1 := within_t hx.1; have h2 := within_t hx.2
     subst hl; simp [levOk, within]; omega
 ·have := h.at_; show 0 ≤ d.at_ + 1 ∧ d.at_ + 1 ≤ 1000000001; omega
 ·have := h.want
  show -1 ≤ (if d.mode = 6 ∨ d.mode = 7 ∨ d.mode = 8 then d.want - 1 else d.want) ∧ (if d.mode = 6 ∨ d.mode = 7 ∨ d.mode = 8 then d.want - 1 else d.want) ≤ 2001
  split
  ·rename_i hm; have := hw hm; omega
  ·exact this
theorem valueM_len (m : Mac) (u : Int) : (valueM m u).out.length ≤ m.out.length + 1 := by
 unfold valueM
 simp only
 split <;> simp
theorem valueM_at (m : Mac) (u : Int) : (valueM m u).d.at_ = m.d.at_ := rfl
theorem valueM_want (m : Mac) (u : Int) : (valueM m u).d.want = m.d.want := rfl
def oMac0_5_27 (j0 : Nat) (j5 : Nat) (j27 : Nat) (x : Mac) : List C := [.own j0, .int .i64 x.d.plan.root, .int .i64 x.d.plan.deep, .int .i64 x.d.plan.most, .int .i64 x.d.mode, .own j5, .int .u64 x.d.scan.bits, .int .i64 x.d.scan.have_, .int .i64 x.d.start, .int .i64 x.d.at_, .int .i64 x.d.field.number, .int .i64 x.d.field.kind, .bool x.d.field.rep, .bool x.d.field.packed, .int .i64 x.d.field.msg, .int .i64 x.d.wire, .int .i64 x.d.want, .int .i64 x.d.utf.want, .int .i64 x.d.utf.low, .int .i64 x.d.utf.high, .int .i64 x.d.end_.kind, .int .i64 x.d.end_.field, .int .u64 x.d.end_.bits, .int .i64 x.d.end_.len, .str x.d.end_.text, .int .i64 x.d.end_.code, .int .i64 x.d.end_.at_, .own j27]
theorem schemaOk_fields20 {l : List Shp} (h : schemaOk l = true) : ∀ e ∈ l, e.fields.length ≤ 1048576 := fun e he => by have := schemaOk_fields h e he; omega
theorem settleM_fail {m : Mac} (h1 : m.d.mode = 6) (h2 : m.d.want < 1) (h3 : 0 < m.d.utf.want) : settleM m = mFail m 5 m.d.at_ := by
 have hc : closeM m = some (mFail m 5 m.d.at_) := by unfold closeM; rw [if_pos ⟨h1, h2⟩, if_pos h3]
 rw [settleM_some hc, settleM_none]
 unfold closeM mFail dFail
 simp
theorem closeM_pop1 {d : Dcd} {o : List Ev} (h2 : d.mode = 2) (hs : d.scan.have_ = 0) (hl : 0 < d.stack.length) (ht : topL d = 0) (h1 : d.stack.length = 1) : closeM ⟨d, o⟩ = some ⟨⟨d.plan, 1, d.stack.take (d.stack.length - 1), d.scan, d.start, d.at_, d.field, d.wire, d.want, d.utf, d.end_⟩, o ++ [evFrmEnd]⟩ := by
 unfold closeM
 simp only
 rw [if_neg (by omega), if_neg (by omega), if_pos ⟨h2, hs, hl, ht⟩, if_pos h1]
theorem closeM_popn {d : Dcd} {o : List Ev} (h2 : d.mode = 2) (hs : d.scan.have_ = 0) (hl : 0 < d.stack.length) (ht : topL d = 0) (h1 : d.stack.length ≠ 1) : closeM ⟨d, o⟩ = some ⟨⟨d.plan, d.mode, d.stack.take (d.stack.length - 1), d.scan, d.start, d.at_, d.field, d.wire, d.want, d.utf, d.end_⟩, o ++ [evUp]⟩ := by
 unfold closeM
 simp only
 rw [if_neg (by omega), if_neg (by omega), if_pos ⟨h2, hs, hl, ht⟩, if_neg h1]
theorem valueM_8f {d : Dcd} {o : List Ev} {u : Int} (h : d.mode = 8) (hf : d.field ≠ fld0) : valueM ⟨d, o⟩ u = ⟨d, o ++ [numEv d.field u]⟩ := by
 cases d
 unfold valueM
 simp only at h hf ⊢
 rw [if_pos h, if_neg hf, h]
theorem valueM_80 {d : Dcd} {o : List Ev} {u : Int} (h : d.mode = 8) (hf : d.field = fld0) : valueM ⟨d, o⟩ u = ⟨d, o⟩ := by
 cases d
 unfold valueM
 simp only at h hf ⊢
 rw [if_pos h, if_pos hf, h]
theorem decOk_b {d : Dcd} (h : decOk d = true) : levelsOk d = true ∧ (1 ≤ d.mode ∧ d.mode ≤ 9) ∧ (0 ≤ d.at_ ∧ d.at_ ≤ 1000000000) ∧ (0 ≤ d.start ∧ d.start ≤ d.at_) ∧ utfOk d.utf = true ∧ wireOk d.wire = true ∧ (d.field = fld0 ∨ known d.plan.shapes d.field = true) ∧ endD d = true ∧ stackD d = true ∧ wantD d = true ∧ kindD d = true ∧ scanD d = true := by
 simp only [decOk, Bool.and_eq_true, Bool.or_eq_true, decide_eq_true_eq] at h
 obtain ⟨⟨⟨⟨⟨⟨⟨⟨⟨⟨⟨h1, h2⟩, h3⟩, h4⟩, h5⟩, h6⟩, h7⟩, h8⟩, h9⟩, h10⟩, h11⟩, h12⟩ := h
 exact ⟨h1, within_t h2, within_t h3, within_t h4, h5, h6, h7, h8, h9, h10, h11, h12⟩
theorem wantD_b {d : Dcd} (h : wantD d = true) : ((d.mode = 6 ∨ d.mode = 7 ∨ d.mode = 8) → 1 ≤ d.want ∧ d.want ≤ topL d) ∧ (¬ (d.mode = 6 ∨ d.mode = 7 ∨ d.mode = 8) → d.want = 0) := by
 unfold wantD at h
 split at h
 ·rename_i hm; exact ⟨fun _ => within_t h, fun h => absurd hm h⟩
 ·rename_i hm; exact ⟨fun h => absurd h hm, fun _ => of_decide_eq_true h⟩
theorem decOk_mw {d : Dcd} (h : decOk d = true) (hb : 0 ≤ d.scan.bits ∧ d.scan.bits ≤ 18446744073709551615) : MW d := by
 obtain ⟨h1, h2, h3, h4, h5, h6, h7, h8, h9, h10, h11, h12⟩ := decOk_b h
 have ht := topL_b h1
 have hw := wantD_b h10
 refine ⟨h1, h7, hb, by omega, ?_⟩
 by_cases hm : d.mode = 6 ∨ d.mode = 7 ∨ d.mode = 8
 ·have := hw.1 hm; omega
 ·have := hw.2 hm; omega
theorem decOk_st {d : Dcd} (h : decOk d = true) (h9 : d.mode ≠ 9) : (d.stack.length = 0 ∨ 1 ≤ topL d) ∧ d.at_ ≤ 1000000000 ∧ ((d.mode = 6 ∨ d.mode = 7 ∨ d.mode = 8) → 0 ≤ d.want) ∧ (d.mode = 8 → runs d.field = true) ∧ d.end_ = ev0 := by
 obtain ⟨h1, h2, h3, h4, h5, h6, h7, h8, hs, h10, h11, h12⟩ := decOk_b h
 have hw := wantD_b h10
 refine ⟨?_, by omega, fun hm => by have := hw.1 hm; omega, fun hm => ?_, ?_⟩
 ·unfold stackD at hs
  by_cases hm1 : d.mode = 1
  ·rw [if_pos hm1] at hs; left; rw [of_decide_eq_true hs]; rfl
  ·rw [if_neg hm1, if_neg h9] at hs; exact .inr (of_decide_eq_true hs)
 ·unfold kindD at h11
  rw [if_neg (by omega), if_pos hm] at h11
  exact h11
 ·unfold endD at h8
  rw [if_neg h9] at h8
  exact of_decide_eq_true h8
def takesD (d : Dcd) : Bool := !decide (d.mode = 9) && decide (d.at_ < 1000000000)
def stepB (d : Dcd) (b : Int) : Mac := if decOk d = true ∧ takesD d = true ∧ within b 0 255 = true then byteM ⟨d, []⟩ b else ⟨d, []⟩
theorem runs_ne {f : Fld} (h : runs f = true) : f ≠ fld0 := fun e => by subst e; simp [runs, fld0] at h
theorem settleM_same (m : Mac) : (settleM m).d.plan = m.d.plan ∧ (settleM m).d.stack.length ≤ m.d.stack.length := by
 suffices ∀ (k : Nat) (m : Mac), wM m ≤ k → (settleM m).d.plan = m.d.plan ∧ (settleM m).d.stack.length ≤ m.d.stack.length from this _ m (Nat.le_refl _)
 intro k
 induction k with
 | zero =>
  intro m hk
  cases h : closeM m with
  | none => rw [settleM_none h]; exact ⟨rfl, Nat.le_refl _⟩
  | some q => have := (closeM_dec h).1; omega
 | succ k ih =>
  intro m hk
  cases h : closeM m with
  | none => rw [settleM_none h]; exact ⟨rfl, Nat.le_refl _⟩
  | some q =>
   have h1 := closeM_dec h
   have h2 := closeM_len h
   have h3 := ih q (by omega)
   rw [settleM_some h]
   exact ⟨h3.1.trans h2.2, Nat.le_trans h3.2 h2.1⟩
structure Gr (m q : Mac) : Prop where
 plan : q.d.plan = m.d.plan
 stack : q.d.stack.length ≤ m.d.stack.length + 1
 out : q.out.length ≤ m.out.length + m.d.stack.length + 6
theorem Gr.fail (m : Mac) (c a : Int) : Gr m (mFail m c a) := ⟨rfl, Nat.le_succ _, by simp only [mFail, List.length_append, List.length_cons, List.length_nil]; omega⟩
theorem Gr.settle {m x : Mac} (hp : x.d.plan = m.d.plan) (hs : x.d.stack.length ≤ m.d.stack.length + 1) (ho : x.out.length ≤ m.out.length + 2) : Gr m (settleM x) := by
 have h1 := settleM_same x
 have h2 := settleM_out x
 have h3 := wM_b x
 exact ⟨h1.1.trans hp, by omega, by omega⟩
theorem Gr.of {m x q : Mac} (h : Gr x q) (hp : x.d.plan = m.d.plan) (hs : x.d.stack.length = m.d.stack.length) (ho : x.out.length = m.out.length) : Gr m q := ⟨h.plan.trans hp, by have := h.stack; omega, by have := h.out; omega⟩
theorem frameM_gr (m : Mac) (u : Int) : Gr m (frameM m u) := by
 unfold frameM
 split
 ·exact Gr.fail _ _ _
 ·exact Gr.settle rfl (by simp) (by simp)
theorem tagM_gr (m : Mac) (u : Int) : Gr m (tagM m u) := by
 unfold tagM
 split
 ·exact Gr.fail _ _ _
 ·split
  ·exact Gr.fail _ _ _
  ·split
   ·exact Gr.fail _ _ _
   ·split
    ·exact (Gr.fail _ _ _).of rfl rfl rfl
    ·exact ⟨rfl, Nat.le_succ _, by simp only; omega⟩
theorem longM_gr (m : Mac) (u : Int) : Gr m (longM m u) := by
 unfold longM
 split
 ·exact Gr.fail _ _ _
 ·split
  ·exact Gr.settle rfl (Nat.le_succ _) (by simp)
  ·split
   ·split
    ·exact Gr.fail _ _ _
    ·exact Gr.settle rfl (by simp) (by simp)
   ·split
    ·exact Gr.settle rfl (Nat.le_succ _) (by simp)
    ·split
     ·exact Gr.fail _ _ _
     ·exact Gr.settle rfl (Nat.le_succ _) (by simp)
theorem varM_gr (m : Mac) (b a : Int) : Gr m (varM m b a) := by
 unfold varM
 split
 ·exact (Gr.fail _ _ _).of rfl rfl rfl
 ·split
  ·unfold moreM
   split
   ·exact (Gr.fail _ _ _).of rfl rfl rfl
   ·exact ⟨rfl, Nat.le_succ _, by simp only; omega⟩
  ·split
   ·exact (frameM_gr _ _).of rfl rfl rfl
   ·split
    ·exact (tagM_gr _ _).of rfl rfl rfl
    ·split
     ·exact (longM_gr _ _).of rfl rfl rfl
     ·exact Gr.settle rfl (Nat.le_succ _) (Nat.le_trans (valueM_len _ _) (Nat.le_succ _))
theorem fixM_gr (m : Mac) (b : Int) : Gr m (fixM m b) := by
 unfold fixM
 split
 ·exact ⟨rfl, Nat.le_succ _, by simp only; omega⟩
 ·split
  ·have := valueM_len ⟨dScan m.d scn0, m.out⟩ (fixByte m.d.scan b).bits
   exact ⟨rfl, Nat.le_succ _, by simp only [mFail, List.length_append, List.length_cons, List.length_nil] at this ⊢; omega⟩
  ·exact Gr.settle rfl (Nat.le_succ _) (Nat.le_trans (valueM_len _ _) (Nat.le_succ _))
theorem textB_gr (m : Mac) (b : Int) : Gr m (textB m b) := by
 unfold textB
 split
 ·split
  ·exact Gr.fail _ _ _
  ·exact Gr.settle rfl (Nat.le_succ _) (by simp)
 ·exact Gr.settle rfl (Nat.le_succ _) (by simp)
theorem stepD_len (d : Dcd) : (stepD d).stack.length = d.stack.length := by unfold stepD; simp only; split <;> simp
theorem byteM_gr (m : Mac) (b : Int) : Gr m (byteM m b) := by
 unfold byteM
 split
 ·exact (textB_gr _ _).of rfl (stepD_len _) rfl
 ·split
  ·exact Gr.settle rfl (by show (stepD m.d).stack.length ≤ _; rw [stepD_len]; omega) (by simp)
  ·split
   ·exact (fixM_gr _ _).of rfl (stepD_len _) rfl
   ·exact (varM_gr _ _ _).of rfl (stepD_len _) rfl
theorem stepB_gr (d : Dcd) (b : Int) : Gr ⟨d, []⟩ (stepB d b) := by
 unfold stepB
 split
 ·exact byteM_gr _ _
 ·exact ⟨rfl, Nat.le_succ _, by simp⟩
theorem stepB_same {d : Dcd} {b : Int} : (stepB d b).d.plan = d.plan ∧ (stepB d b).d.stack.length ≤ d.stack.length + 1 := ⟨(stepB_gr d b).plan, (stepB_gr d b).stack⟩
theorem stepB_len {d : Dcd} {b : Int} : (stepB d b).out.length ≤ d.stack.length + 6 := by have := (stepB_gr d b).out; simp only [List.length_nil] at this; omega
theorem cloneLev (l : List Lev) (hp1 : l.length ≤ bigN) : Fun Tryz.prog 122 [.c (.seq .lev l)] [] (.v (vO 0)) [.lst .lev l] := by
 refine ⟨callable_of Tryz.func122 (by kernel_rfl) (by kernel_rfl), ?_⟩
 have key : Sm Tryz.prog 8 0 (regAt Tryz.f122 1) [(2, .v (.c .nil)), (0, .v (.c (.seq .lev l)))] [] .ret [(2, .v (.c (.own 0)))] [.lst .lev l] := by
  refine Sm.nilTest' (s := 0) (t3 := 3) (t4 := 4) (t := .lev) (l := l) rfl rfl rfl rfl rfl rfl rfl Tryz.underlying52 (by kernel_rfl) rfl rfl rfl fun p hp => ?_
  cases p with
  | true =>
   have hl := hp rfl
   subst hl
   exact .inr ⟨by decide, piece_sound (ds := [.br true, .at 0, .mkS 2 .lev, .keep [2], .sel [0]]) (ob := [true = true]) (by kernel_rfl) ⟨rfl, trivial⟩⟩
  | false =>
   exact .inl ⟨[(0, .v (.c (.seq .lev l)))], [], piece_sound (ds := [.br false, .at 0, .keep [0], .sel []]) (ob := [false = false]) (by kernel_rfl) ⟨rfl, trivial⟩,
    (piece_sound (tm' := [(2, .v (.c (.own 0)))]) (H' := [.lst .lev ([] ++ l)]) (ds := [.ty .lev, .ty .lev, .at 0, .keep [2], .sel [1]]) (ob := [List.length ([] : List Lev) + l.length ≤ bigN]) (by kernel_rfl) ⟨by simpa using hp1, trivial⟩).to (by rfl) (by rfl)⟩
 exact walk_sound Tryz.func122 (res := .v (.c (.own 0))) (L' := [.lst .lev l]) (ds := [.jump 1 .ret [(2, .v (.c (.own 0)))] [.lst .lev l]]) (σ := [0]) (ob := [Sm Tryz.prog 8 0 (regAt Tryz.f122 1) [(2, .v (.c .nil)), (0, .v (.c (.seq .lev l)))] [] .ret [(2, .v (.c (.own 0)))] [.lst .lev l]]) (by kernel_rfl) ⟨key, trivial⟩
theorem cloneFld (l : List Fld) (hp1 : l.length ≤ bigN) : Fun Tryz.prog 204 [.c (.seq .fld l)] [] (.v (vO 0)) [.lst .fld l] := by
 refine ⟨callable_of Tryz.func204 (by kernel_rfl) (by kernel_rfl), ?_⟩
 have key : Sm Tryz.prog 8 0 (regAt Tryz.f204 1) [(2, .v (.c .nil)), (0, .v (.c (.seq .fld l)))] [] .ret [(2, .v (.c (.own 0)))] [.lst .fld l] := by
  refine Sm.nilTest' (s := 0) (t3 := 3) (t4 := 4) (t := .fld) (l := l) rfl rfl rfl rfl rfl rfl rfl Tryz.underlying183 (by kernel_rfl) rfl rfl rfl fun p hp => ?_
  cases p with
  | true =>
   have hl := hp rfl
   subst hl
   exact .inr ⟨by decide, piece_sound (ds := [.br true, .at 0, .mkS 2 .fld, .keep [2], .sel [0]]) (ob := [true = true]) (by kernel_rfl) ⟨rfl, trivial⟩⟩
  | false =>
   exact .inl ⟨[(0, .v (.c (.seq .fld l)))], [], piece_sound (ds := [.br false, .at 0, .keep [0], .sel []]) (ob := [false = false]) (by kernel_rfl) ⟨rfl, trivial⟩,
    (piece_sound (tm' := [(2, .v (.c (.own 0)))]) (H' := [.lst .fld ([] ++ l)]) (ds := [.ty .fld, .ty .fld, .at 0, .keep [2], .sel [1]]) (ob := [List.length ([] : List Fld) + l.length ≤ bigN]) (by kernel_rfl) ⟨by simpa using hp1, trivial⟩).to (by rfl) (by rfl)⟩
 exact walk_sound Tryz.func204 (res := .v (.c (.own 0))) (L' := [.lst .fld l]) (ds := [.jump 1 .ret [(2, .v (.c (.own 0)))] [.lst .fld l]]) (σ := [0]) (ob := [Sm Tryz.prog 8 0 (regAt Tryz.f204 1) [(2, .v (.c .nil)), (0, .v (.c (.seq .fld l)))] [] .ret [(2, .v (.c (.own 0)))] [.lst .fld l]]) (by kernel_rfl) ⟨key, trivial⟩
structure copySch_i_V0 where
 sh : List Shp
 v : Nat
def copySch_i_F0 (s : List Shp) : Fam := ⟨copySch_i_V0, fun q1 => [(2, .v (vP 0)), (3, .v (vP 1)), (8, .v (.c (.seq .shp s))), (9, .v (vI (s.length : Int))), (10, .v (vI (q1.v : Int)))], fun q1 => [.cells [.nil], .cells [.own 2], .tree q1.sh], fun q1 => q1.v ≤ s.length ∧ q1.sh = List.take q1.v s, fun q1 => s.length - q1.v⟩
theorem copySch_i (s : List Shp) (hp1 : s.length ≤ 1048576) (hp2 : ∀ e ∈ s, e.fields.length ≤ 1048576) : Fun Tryz.prog 169 [.agg [.seq .shp s]] [] (.v (.agg [.own 0])) [.tree s] := by
 have hN : bigN = 274877906944 := rfl
 refine fun_ofw Tryz.func169 (by kernel_rfl) (by kernel_rfl) (w := let z2 := (s.length : Int); let z3 := copySch_i_F0 s; (.seg [.at 0, .mkT 2 0, .keep [2, 3, 8, 9, 10], .sel [1, 2, 3]] (.loop z3 fun q1 => .br (.intro (fun (x1 : Shp) => s[q1.v]? = some x1) fun x1 => .seg [.el .shp x1, .ord (os 12 [6, 8, 9, 11]) [2], .call [] (.v (vO 0)) [.lst .fld x1.fields], .tyT, .tyT, .as 25 (.v (vI ((q1.v : Int) + 1))), .at 0, .keep [2, 3, 8, 9, 10], .sel [0, 1, 6]] (.next)) (.leaf () [2])), z3.Has [(2, .v (vP 0)), (3, .v (vP 1)), (8, .v (.c (.seq .shp s))), (9, .v (vI z2)), (10, .v (vI 0))] [.cells [.nil], .cells [.own 2], .tree ([] : List Shp)] ∧ ∀ q1, z3.inv q1 → (let z1 := (q1.v : Int); ((decide (z1 < z2)) = true → (∃ (x1 : Shp), s[q1.v]? = some x1) ∧ ∀ (x1 : Shp), (s[q1.v]? = some x1) → ((s[q1.v]? = some x1) ∧ ((0 : Int) ≤ z1) ∧ (Fun Tryz.prog 204 [.c (.seq .fld x1.fields)] [] (.v (vO 0)) [.lst .fld x1.fields]) ∧ (q1.sh.length + List.length [(⟨x1.id, x1.fields⟩ : Shp)] ≤ bigN) ∧ ((.v (vI (IntKind.i64.wrap (z1 + 1))) : S) = .v (vI (z1 + 1))) ∧ z3.Nxt q1 [(2, .v (vP 0)), (3, .v (vP 1)), (8, .v (.c (.seq .shp s))), (9, .v (vI z2)), (10, .v (vI (z1 + 1)))] [.cells [.nil], .cells [.own 2], .tree (q1.sh ++ [(⟨x1.id, x1.fields⟩ : Shp)])])) ∧ ((decide (z1 < z2)) = false → (.v (.agg [.own 0]) : S) = .v (.agg [.own 0]) ∧ ([.tree q1.sh] : List Blk) = [.tree s])))) (by kernel_rfl) ?_
 refine ⟨has_of (j := (⟨([] : List Shp), 0⟩ : copySch_i_V0)) (by first | rfl | simp) rfl (by dsimp only [copySch_i_F0]; exact ⟨by omega, by simp⟩), fun (q1 : copySch_i_V0) hq_q1 => ?_⟩
 have hi_q1 : q1.v ≤ s.length ∧ q1.sh = List.take q1.v s := hq_q1
 obtain ⟨v1, v2⟩ := hi_q1
 have hsl := congrArg List.length v2
 rw [List.length_take] at hsl
 refine dsp (fun h1 p1 => ?_) fun h1 p1 => ?_
 refine ⟨(ax_get (l := s) (i := q1.v) (by omega)), fun x1 hx1 => ?_⟩
 have hfx := hp2 x1 (List.mem_of_getElem? hx1)
 exact ⟨hx1, (by omega), (cloneFld x1.fields (by omega)), (by simp only [List.length_cons, List.length_nil]; omega), (as_i64 (by omega) (by omega)), nxt_of (j := (⟨q1.sh ++ [(⟨x1.id, x1.fields⟩ : Shp)], q1.v + 1⟩ : copySch_i_V0)) (by first | rfl | simp) rfl (by dsimp only [copySch_i_F0]; exact ⟨by omega, by rw [v2, List.take_succ_eq_append_getElem (by omega)]; simp [(List.getElem?_eq_some_iff.1 hx1).2]⟩) (by dsimp only [copySch_i_F0]; omega)⟩
 refine ⟨rfl, (consE (congrArg Blk.tree ?_) rfl)⟩
 rotate_left
 all_goals first | (rfl) | ((rw [v2, List.take_of_length_le (by omega)]; done))
theorem copyPln_i (p : Pln) (hp1 : List.length (p).shapes ≤ 1048576) (hp2 : ∀ e ∈ (p).shapes, e.fields.length ≤ 1048576) : Fun Tryz.prog 121 [.agg (cPln p)] [] (.v (.agg (oPln0 0 p))) [.tree p.shapes] := by
 have hN : bigN = 274877906944 := rfl
 refine fun_ofw Tryz.func121 (by kernel_rfl) (by kernel_rfl) (w := (.seg [.call [] (.v (.agg [.own 0])) [.tree p.shapes]] (.leaf () [2]), (Fun Tryz.prog 169 [.agg [.seq .shp p.shapes]] [] (.v (.agg [.own 0])) [.tree p.shapes]) ∧ (.v (.agg (oPln0 0 p)) : S) = .v (.agg (oPln0 0 p)) ∧ ([.tree p.shapes] : List Blk) = [.tree p.shapes])) (by kernel_rfl) ?_
 exact ⟨(copySch_i p.shapes (by omega) (hp2)), rfl, rfl⟩
theorem copyDec_i (d : Dcd) (hp1 : List.length (d).plan.shapes ≤ 1048576) (hp2 : ∀ e ∈ (d).plan.shapes, e.fields.length ≤ 1048576) (hp3 : List.length (d).stack ≤ 1048576) : Fun Tryz.prog 70 [.agg (cDcd d)] [] (.v (.agg (oDcd0_5 0 1 d))) [.tree d.plan.shapes, .lst .lev d.stack] := by
 have hN : bigN = 274877906944 := rfl
 refine fun_ofw Tryz.func70 (by kernel_rfl) (by kernel_rfl) (w := let zi : Int → C := .int .i64; let z1 : List C := [.nil, zi 0, zi 0, zi 0, zi 0, .nil, .int .u64 0, zi 0, zi 0, zi 0, zi 0, zi 0, .bool false, .bool false, zi 0, zi 0, zi 0, zi 0, zi 0, zi 0, zi 0, zi 0, .int .u64 0, zi 0, .str [], zi 0, zi 0]; let z2 : List Blk := [.cells (oDcd0_5 1 2 d), .tree d.plan.shapes, .lst .lev d.stack, .cells z1]; let z3 := ([(1, .v (vP 0)), (2, .v (vP 3))] : List (Nat × S)) = [(1, .v (vP 0)), (2, .v (vP 3))]; let z4 : List Blk := [.lst .lev d.stack]; let z5 := oPln0 0 d.plan; (.seg [.tree (.first 0 (.first 3 (.two 1 (.two 2 (.one 4 (.first 6 (.one 5 (.one 7 (.first 8 (.one 9 (.done))))))) 4 (.one 2 (.first 6 (.one 5 (.one 7 (.first 8 (.one 9 (.done)))))))) 4 (.one 1 (.one 2 (.first 6 (.one 5 (.one 7 (.first 8 (.one 9 (.done))))))))))) 9 [0], .call [] (.v (.agg z5)) [.tree d.plan.shapes], .call [] (.v (vO 0)) z4, .at 0, .keep [1, 2], .sel [0, 2, 3, 1], .call [] (.v (.agg z5)) [.tree d.plan.shapes], .call [] (.v (vO 0)) z4, .at 0, .keep [1, 2], .sel [0, 2, 3, 1], .call [] (.v (.agg z5)) [.tree d.plan.shapes], .call [] (.v (vO 0)) z4, .at 0, .keep [1, 2], .sel [0, 2, 3, 1]] (.leaf () [1, 2]), (Fun Tryz.prog 121 [.agg (cPln d.plan)] [] (.v (.agg z5)) [.tree d.plan.shapes]) ∧ (Fun Tryz.prog 122 [.c (.seq .lev d.stack)] [] (.v (vO 0)) z4) ∧ (Fun Tryz.prog 121 [.agg (cPln d.plan)] [] (.v (.agg z5)) [.tree d.plan.shapes]) ∧ (Fun Tryz.prog 122 [.c (.seq .lev d.stack)] [] (.v (vO 0)) z4) ∧ ((z2 : List Blk) = z2) ∧ z3 ∧ (Fun Tryz.prog 121 [.agg (cPln d.plan)] [] (.v (.agg z5)) [.tree d.plan.shapes]) ∧ (Fun Tryz.prog 122 [.c (.seq .lev d.stack)] [] (.v (vO 0)) z4) ∧ ((z2 : List Blk) = z2) ∧ z3 ∧ (.v (.agg (oDcd0_5 0 1 d)) : S) = .v (.agg (oDcd0_5 0 1 d)) ∧ ([.tree d.plan.shapes, .lst .lev d.stack] : List Blk) = [.tree d.plan.shapes, .lst .lev d.stack])) (by kernel_rfl) ?_
 exact ⟨(copyPln_i d.plan (by omega) (hp2)), (cloneLev d.stack (by omega)), (copyPln_i d.plan (by omega) (hp2)), (cloneLev d.stack (by omega)), rfl, rfl, (copyPln_i d.plan (by omega) (hp2)), (cloneLev d.stack (by omega)), rfl, rfl, rfl, rfl⟩
structure copySch_s_V0 where
 sh : List Shp
 i : Nat
def copySch_s_F0 (s : List Shp) : Fam := ⟨copySch_s_V0, fun q1 => [(1, .v (vP 0)), (2, .v (vP 1)), (3, .v (vP 2)), (4, .v (vI (q1.i : Int)))], fun q1 => [.cells [.seq .shp s], .cells [.nil], .cells [.own 3], .tree q1.sh], fun q1 => q1.i ≤ s.length ∧ q1.sh = List.take q1.i s, fun q1 => s.length - q1.i⟩
theorem copySch_s (s : List Shp) (hp1 : s.length ≤ 1048576) (hp2 : ∀ e ∈ s, e.fields.length ≤ 1048576) : Fun Tryz.prog 103 [.agg [.seq .shp s]] [] (.v (.agg [.own 0])) [.tree s] := by
 have hN : bigN = 274877906944 := rfl
 refine fun_ofw Tryz.func103 (by kernel_rfl) (by kernel_rfl) (w := let z4 := copySch_s_F0 s; (.seg [.at 0, .mkT 2 0, .keep [1, 2, 3, 4], .sel [0, 1, 2, 3]] (.loop z4 fun q1 => .br (.intro (fun (x1 : Shp) => s[q1.i]? = some x1) fun x1 => .seg [.ord [(0, true), (1, true), (2, true), (3, true), (4, true), (5, true), (6, true), (7, true), (9, true), (10, true), (11, true), (12, true), (13, true), (14, true), (8, false), (15, false), (16, true), (17, false), (18, false), (19, true), (20, false)] [3], .el .shp x1, .el .shp x1, .ty .fld, .ty .fld, .tyT, .tyT, .as 12 (.v (vI ((q1.i : Int) + 1))), .at 0, .keep [1, 2, 3, 4], .sel [0, 1, 2, 7]] (.next)) (.leaf () [3])), z4.Has [(1, .v (vP 0)), (2, .v (vP 1)), (3, .v (vP 2)), (4, .v (vI 0))] [.cells [.seq .shp s], .cells [.nil], .cells [.own 3], .tree ([] : List Shp)] ∧ ∀ q1, z4.inv q1 → (let z3 := (q1.i : Int); ((decide (z3 < (s.length : Int))) = true → (∃ (x1 : Shp), s[q1.i]? = some x1) ∧ ∀ (x1 : Shp), (s[q1.i]? = some x1) → (let z1 := s[q1.i]? = some x1; let z2 := (⟨x1.id, ([] : List Fld) ++ x1.fields⟩ : Shp); z1 ∧ ((0 : Int) ≤ z3) ∧ z1 ∧ ((0 : Int) ≤ z3) ∧ z1 ∧ ((0 : Int) ≤ z3) ∧ z1 ∧ ((0 : Int) ≤ z3) ∧ (List.length ([] : List Fld) + x1.fields.length ≤ bigN) ∧ (q1.sh.length + List.length [z2] ≤ bigN) ∧ ((.v (vI (IntKind.i64.wrap (z3 + 1))) : S) = .v (vI (z3 + 1))) ∧ z4.Nxt q1 [(1, .v (vP 0)), (2, .v (vP 1)), (3, .v (vP 2)), (4, .v (vI (z3 + 1)))] [.cells [.seq .shp s], .cells [.nil], .cells [.own 3], .tree (q1.sh ++ [z2])])) ∧ ((decide (z3 < (s.length : Int))) = false → (.v (.agg [.own 0]) : S) = .v (.agg [.own 0]) ∧ ([.tree q1.sh] : List Blk) = [.tree s])))) (by kernel_rfl) ?_
 refine ⟨has_of (j := (⟨([] : List Shp), 0⟩ : copySch_s_V0)) (by first | rfl | simp) rfl (by dsimp only [copySch_s_F0]; exact ⟨by omega, by simp⟩), fun (q1 : copySch_s_V0) hq_q1 => ?_⟩
 have hi_q1 : q1.i ≤ s.length ∧ q1.sh = List.take q1.i s := hq_q1
 obtain ⟨v1, v2⟩ := hi_q1
 have hsl := congrArg List.length v2
 rw [List.length_take] at hsl
 refine dsp (fun h1 p1 => ?_) fun h1 p1 => ?_
 refine ⟨(ax_get (l := s) (i := q1.i) (by omega)), fun x1 hx1 => ?_⟩
 have hfx := hp2 x1 (List.mem_of_getElem? hx1)
 exact ⟨hx1, (by omega), hx1, (by omega), hx1, (by omega), hx1, (by omega), (by simp only [List.length_cons, List.length_nil]; omega), (by simp only [List.length_append, List.length_cons, List.length_nil]; omega), (as_i64 (by omega) (by omega)), nxt_of (j := (⟨q1.sh ++ [(⟨x1.id, ([] : List Fld) ++ x1.fields⟩ : Shp)], q1.i + 1⟩ : copySch_s_V0)) (by first | rfl | simp) rfl (by dsimp only [copySch_s_F0]; exact ⟨by omega, by rw [v2, List.take_succ_eq_append_getElem (by omega)]; simp [(List.getElem?_eq_some_iff.1 hx1).2]⟩) (by dsimp only [copySch_s_F0]; omega)⟩
 refine ⟨rfl, (consE (congrArg Blk.tree ?_) rfl)⟩
 rotate_left
 all_goals first | (rfl) | ((rw [v2, List.take_of_length_le (by omega)]; done))
theorem copyDec_s (d : Dcd) (hp1 : List.length (d).plan.shapes ≤ 1048576) (hp2 : ∀ e ∈ (d).plan.shapes, e.fields.length ≤ 1048576) (hp3 : List.length (d).stack ≤ 1048576) : Fun Tryz.prog 63 [.agg (cDcd d)] [] (.v (.agg (oDcd0_5 0 1 d))) [.tree d.plan.shapes, .lst .lev d.stack] := by
 have hN : bigN = 274877906944 := rfl
 refine fun_ofw Tryz.func63 (by kernel_rfl) (by kernel_rfl) (w := (.seg [.call [] (.v (.agg [.own 0])) [.tree d.plan.shapes], .ty .lev, .ty .lev] (.leaf () [2, 4]), (Fun Tryz.prog 103 [.agg [.seq .shp d.plan.shapes]] [] (.v (.agg [.own 0])) [.tree d.plan.shapes]) ∧ (List.length ([] : List Lev) + d.stack.length ≤ bigN) ∧ (.v (.agg (oDcd0_5 0 1 d)) : S) = .v (.agg (oDcd0_5 0 1 d)) ∧ ([.tree d.plan.shapes, .lst .lev (([] : List Lev) ++ d.stack)] : List Blk) = [.tree d.plan.shapes, .lst .lev d.stack])) (by kernel_rfl) ?_
 refine ⟨(copySch_s d.plan.shapes (by omega) (hp2)), (by simp only [List.length_cons, List.length_nil]; omega), ?_⟩
 have hm1 : d = (⟨d.plan, d.mode, ([] : List Lev) ++ d.stack, d.scan, d.start, d.at_, d.field, d.wire, d.want, d.utf, d.end_⟩ : Dcd) := by rfl
 exact ⟨(by rw [hm1] <;> rfl), (by rw [hm1] <;> rfl)⟩
end Go.Proofs.YtpchkcpcdbdhdaaGreat.Ax
