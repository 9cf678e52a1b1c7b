/- Whole inputs: what is said of them. Readings of own, comparisons. Draws of numbers, bytes, scripts. Drawn descriptions: checks. What drawn descriptions compile to. -/
import Derived.Test.YtaflinakodideaaGreatKS3
import Derived.Test.YtaflinakodideaaGreatKS2
import Derived.Test.YtaflinakodideaaGreatKS1
set_option linter.unusedSimpArgs false
set_option linter.unusedVariables false
namespace Go.Proofs.YtaflinakodideaaGreat.Ax
open Go.RowKit
theorem readMsg_s (p : Pln) (shape : Int) (s : List UInt8) (at_ : Int) (end_ : Int) (deep : Int) (hp1 : s.length ≤ 1048576) (hp2 : end_ ≤ 9223372036854775807) : Fun Tryz.prog 17 [.agg (cPln p), vI shape, vT s, vI at_, vI end_, vI deep] [] (.tup [vO 0, .agg (cEv (readMsg p shape s at_ end_ deep).fail)]) [.lst .ev (readMsg p shape s at_ end_ deep).out] := by
 have hN : bigN = 274877906944 := rfl
 refine fun_ofw Tryz.func17 (by kernel_rfl) (by kernel_rfl) (w := let zi : Int → C := .int .i64; let z1 : List C := [zi 0, zi 0, .int .u64 0, zi 0, .str [], zi 0, zi 0]; let z3 := readMsg p shape s at_ end_ deep; let z4 := (p.shapes.length : Int) - 1; let z6 := within at_ 0 (s.length : Int); let z7 : List V := [vO 0, .agg (cEv z3.fail)]; let z8 := (.tup [vO 0, .agg z1] : S); let z9 : List Blk := [.lst .ev z3.out]; let z11 := within deep 1 p.deep; let z12 := within shape 0 z4; let z13 := ([] : List Ev); let z5 := ([.lst .ev z13] : List Blk); let z10 := (⟨p, s, at_, z13, (⟨0, 0, 0, 0, [], 0, 0⟩ : Ev)⟩ : Mr); let z2 := msgN (Int.toNat ((z10).plan.deep - deep)) shape end_ z10; let z14 : List Blk := [.cells (oMr6 2 z2), .dead, .lst .ev z2.out]; (.seg [.call [] (.v (vB (planOk p))) []] (.br (.seg [.ty .ev] (.leaf () [2])) (.seg [.as 24 (.v (vI z4)), .call [] (.v (vB z12)) []] (.br (.seg [.ty .ev] (.leaf () [2])) (.seg [.call [] (.v (vB z6)) []] (.br (.seg [.ty .ev] (.leaf () [2])) (.br (.seg [.ty .ev] (.leaf () [2])) (.seg [.call [] (.v (vB z11)) []] (.br (.seg [.ty .ev] (.leaf () [2])) (.seg [.at 5, .mk 2 6 .ev, .call [2, 3] (.tup []) z14, .ord [(1, true), (2, true), (3, true), (4, true), (6, true), (7, true), (8, true), (9, true), (0, false), (5, false), (10, true), (11, false)] [4], .ty .ev, .ty .ev] (.leaf () [6])))))))))), (Fun Tryz.prog 18 [.agg (cPln p)] [] (.v (vB (planOk p))) []) ∧ ((!(planOk p)) = true → z8 = .tup z7 ∧ z5 = z9) ∧ ((!(planOk p)) = false → ((.v (vI (IntKind.i64.wrap z4)) : S) = .v (vI z4)) ∧ (Fun Tryz.prog 45 [vI shape, vI 0, vI z4] [] (.v (vB z12)) []) ∧ ((!z12) = true → z8 = .tup z7 ∧ z5 = z9) ∧ ((!z12) = false → (Fun Tryz.prog 45 [vI at_, vI 0, vI (s.length : Int)] [] (.v (vB z6)) []) ∧ ((!z6) = true → z8 = .tup z7 ∧ z5 = z9) ∧ ((!z6) = false → ((decide (end_ < at_)) = true → z8 = .tup z7 ∧ z5 = z9) ∧ ((decide (end_ < at_)) = false → (Fun Tryz.prog 45 [vI deep, vI 1, vI p.deep] [] (.v (vB z11)) []) ∧ ((!z11) = true → z8 = .tup z7 ∧ z5 = z9) ∧ ((!z11) = false → (Fun Tryz.prog 46 [vP 0, vI shape, vI end_, vI deep] [.cells (.seq .shp p.shapes :: zi p.root :: zi p.deep :: zi p.most :: .str s :: zi at_ :: .own 1 :: z1), .lst .ev z13] (.tup []) z14) ∧ (z13.length + z2.out.length ≤ bigN) ∧ (.tup [vO 0, .agg (cEv z2.fail)] : S) = .tup z7 ∧ ([.lst .ev (z13 ++ z2.out)] : List Blk) = z9))))))) (by kernel_rfl) ?_
 refine ⟨(planOk_s p), fun h1 => have q1 := bnot_t h1; ?_, fun h1 => have q1 := bnot_f h1; have p1 := planOk_t q1; ?_⟩
 refine have hm1 : (readMsg p shape s at_ end_ deep).fail = (⟨0, 0, 0, 0, [], 0, 0⟩ : Ev) := ?_; ?_
 rotate_left
 refine have hm2 : (readMsg p shape s at_ end_ deep).out = ([] : List Ev) := ?_; ?_
 rotate_left
 refine ⟨(congrArg S.tup (consE rfl (consE (congrArg V.agg (consE (congrArg (C.int .i64) ?_) (consE (congrArg (C.int .i64) ?_) (consE (congrArg (C.int .u64) ?_) (consE (congrArg (C.int .i64) ?_) (consE (congrArg C.str ?_) (consE (congrArg (C.int .i64) ?_) (consE (congrArg (C.int .i64) ?_) rfl)))))))) rfl))), (by rw [hm2] <;> rfl)⟩
 rotate_left 7
 have hpt := planOk_t q1
 refine ⟨(as_i64 (by omega) (by omega)), (within_s _ _ _), fun h2 => have q2 := bnot_t h2; have p2 := within_f q2; ?_, fun h2 => have q2 := bnot_f h2; have p2 := within_t q2; ?_⟩
 refine have hm1 : (readMsg p shape s at_ end_ deep).fail = (⟨0, 0, 0, 0, [], 0, 0⟩ : Ev) := ?_; ?_
 rotate_left
 refine have hm2 : (readMsg p shape s at_ end_ deep).out = ([] : List Ev) := ?_; ?_
 rotate_left
 refine ⟨(congrArg S.tup (consE rfl (consE (congrArg V.agg (consE (congrArg (C.int .i64) ?_) (consE (congrArg (C.int .i64) ?_) (consE (congrArg (C.int .u64) ?_) (consE (congrArg (C.int .i64) ?_) (consE (congrArg C.str ?_) (consE (congrArg (C.int .i64) ?_) (consE (congrArg (C.int .i64) ?_) rfl)))))))) rfl))), (by rw [hm2] <;> rfl)⟩
 rotate_left 7
 refine ⟨(within_s _ _ _), fun h3 => have q3 := bnot_t h3; have p3 := within_f q3; ?_, fun h3 => have q3 := bnot_f h3; have p3 := within_t q3; ?_⟩
 refine have hm1 : (readMsg p shape s at_ end_ deep).fail = (⟨0, 0, 0, 0, [], 0, 0⟩ : Ev) := ?_; ?_
 rotate_left
 refine have hm2 : (readMsg p shape s at_ end_ deep).out = ([] : List Ev) := ?_; ?_
 rotate_left
 refine ⟨(congrArg S.tup (consE rfl (consE (congrArg V.agg (consE (congrArg (C.int .i64) ?_) (consE (congrArg (C.int .i64) ?_) (consE (congrArg (C.int .u64) ?_) (consE (congrArg (C.int .i64) ?_) (consE (congrArg C.str ?_) (consE (congrArg (C.int .i64) ?_) (consE (congrArg (C.int .i64) ?_) rfl)))))))) rfl))), (by rw [hm2] <;> rfl)⟩
 rotate_left 7
 refine dsp (fun h4 p4 => ?_) fun h4 p4 => ?_
 refine have hm1 : (readMsg p shape s at_ end_ deep).fail = (⟨0, 0, 0, 0, [], 0, 0⟩ : Ev) := ?_; ?_
 rotate_left
 refine have hm2 : (readMsg p shape s at_ end_ deep).out = ([] : List Ev) := ?_; ?_
 rotate_left
 refine ⟨(congrArg S.tup (consE rfl (consE (congrArg V.agg (consE (congrArg (C.int .i64) ?_) (consE (congrArg (C.int .i64) ?_) (consE (congrArg (C.int .u64) ?_) (consE (congrArg (C.int .i64) ?_) (consE (congrArg C.str ?_) (consE (congrArg (C.int .i64) ?_) (consE (congrArg (C.int .i64) ?_) rfl)))))))) rfl))), (by rw [hm2] <;> rfl)⟩
 rotate_left 7
 refine ⟨(within_s _ _ _), fun h5 => have q5 := bnot_t h5; have p5 := within_f q5; ?_, fun h5 => have q5 := bnot_f h5; have p5 := within_t q5; ?_⟩
 refine have hm1 : (readMsg p shape s at_ end_ deep).fail = (⟨0, 0, 0, 0, [], 0, 0⟩ : Ev) := ?_; ?_
 rotate_left
 refine have hm2 : (readMsg p shape s at_ end_ deep).out = ([] : List Ev) := ?_; ?_
 rotate_left
 refine ⟨(congrArg S.tup (consE rfl (consE (congrArg V.agg (consE (congrArg (C.int .i64) ?_) (consE (congrArg (C.int .i64) ?_) (consE (congrArg (C.int .u64) ?_) (consE (congrArg (C.int .i64) ?_) (consE (congrArg C.str ?_) (consE (congrArg (C.int .i64) ?_) (consE (congrArg (C.int .i64) ?_) rfl)))))))) rfl))), (by rw [hm2] <;> rfl)⟩
 rotate_left 7
 refine ⟨(msg_s (⟨p, s, at_, ([] : List Ev), (⟨0, 0, 0, 0, [], 0, 0⟩ : Ev)⟩ : Mr) _ _ _ (by first | omega | (dsimp only; omega) | (simp only [List.length_nil]; omega) | assumption | rfl | (exact q1)) (by first | omega | (dsimp only; omega) | (simp only [List.length_nil]; omega) | assumption | rfl | (exact q1)) (by first | omega | (dsimp only; omega) | (simp only [List.length_nil]; omega) | assumption | rfl | (exact q1)) (by first | omega | (dsimp only; omega) | (simp only [List.length_nil]; omega) | assumption | rfl | (exact q1)) (by first | omega | (dsimp only; omega) | (simp only [List.length_nil]; omega) | assumption | rfl | (exact q1)) (by omega) (by simp_all) (by first | omega | (dsimp only; omega) | (simp only [List.length_nil]; omega) | assumption | rfl | (exact q1))), (Nat.le_trans (Nat.le_of_eq (Nat.zero_add _)) (msgN_room0 (by dsimp only; omega) (by simp only [List.length_nil]; omega))), ?_⟩
 refine have hm1 : (readMsg p shape s at_ end_ deep).fail = (msgN (Int.toNat (((⟨p, s, at_, ([] : List Ev), (⟨0, 0, 0, 0, [], 0, 0⟩ : Ev)⟩ : Mr)).plan.deep - deep)) shape end_ (⟨p, s, at_, ([] : List Ev), (⟨0, 0, 0, 0, [], 0, 0⟩ : Ev)⟩ : Mr)).fail := ?_; ?_
 rotate_left
 refine have hm2 : (readMsg p shape s at_ end_ deep).out = ([] : List Ev) ++ (msgN (Int.toNat (((⟨p, s, at_, ([] : List Ev), (⟨0, 0, 0, 0, [], 0, 0⟩ : Ev)⟩ : Mr)).plan.deep - deep)) shape end_ (⟨p, s, at_, ([] : List Ev), (⟨0, 0, 0, 0, [], 0, 0⟩ : Ev)⟩ : Mr)).out := ?_; ?_
 rotate_left
 refine ⟨(congrArg S.tup (consE rfl (consE (congrArg V.agg (consE (congrArg (C.int .i64) ?_) (consE (congrArg (C.int .i64) ?_) (consE (congrArg (C.int .u64) ?_) (consE (congrArg (C.int .i64) ?_) (consE (congrArg C.str ?_) (consE (congrArg (C.int .i64) ?_) (consE (congrArg (C.int .i64) ?_) rfl)))))))) rfl))), (by rw [hm2] <;> rfl)⟩
 rotate_left 7
 all_goals first | (simp_all [readMsg, readOk, mr0, ev0, within]; done) | (grind [readMsg, readOk, mr0, ev0]) | (grind [readMsg, readOk, mr0, ev0, within])
structure all_s_V0 where
 out : List Ev
 places : List Int
 at_ : Int
def all_s_F0 (p : Pln) (s : List UInt8) : Fam := ⟨all_s_V0, fun q1 => [(1, .v (vT s)), (2, .v (vP 0)), (6, .v (vO 1)), (7, .v (vO 2)), (8, .v (vI q1.at_))], fun q1 => [.cells (cPln p), .lst .ev q1.out, .lst .int q1.places], fun q1 => WInv (wh0 p s) ⟨⟨p, s, q1.at_, q1.out, ev0⟩, q1.places⟩, fun q1 => mrMu ⟨p, s, q1.at_, q1.out, ev0⟩⟩
theorem all_s (p : Pln) (s : List UInt8) (hp1 : planOk p = true) (hp2 : s.length ≤ 4000) : Fun Tryz.prog 52 [.agg (cPln p), vT s] [] (.tup [vO 0, vO 1]) [.lst .ev (wholeEv p s), .lst .int (whole p s).ends] := by
 have hN : bigN = 274877906944 := rfl
 have hpt := planOk_t hp1
 refine fun_ofw Tryz.func52 (by kernel_rfl) (by kernel_rfl) (w := let z6 : List Blk := [.lst .ev (wholeEv p s), .lst .int (whole p s).ends]; let z8 := (⟨9, 0, 0, 0, [], 0, (s.length : Int)⟩ : Ev); let z9 := all_s_F0 p s; let z10 : List V := [vO 0, vO 1]; let z7 := (.tup z10 : S); (.seg [.ty .ev, .ty .int, .at 0, .keep [1, 2, 6, 7, 8], .sel [0, 1, 2]] (.loop z9 fun q1 => let z1 := varWithin s q1.at_ 8000; .br (.seg [.call [] (.tup [.c (.int .u64 z1.1), vI z1.2.1, vI z1.2.2]) []] (.br (.seg [.call [] (.v (.agg (cEv (failEv z1.2.2 z1.2.1)))) [], .ty .ev, .ty .ev] (.leaf () [4, 2])) (.seg [.as 40 (.v (.c (.int .u64 p.most)))] (.br (.seg [.call [] (.v (.agg (cEv (failEv 7 q1.at_)))) [], .ty .ev, .ty .ev] (.leaf () [4, 2])) (.seg [.as 49 (.v (vI z1.1)), .ty .ev, .ty .ev, .as 63 (.v (vI (z1.2.1 + z1.1))), .call [] (.tup [vO 0, .agg (cEv (readMsg p p.root s z1.2.1 (z1.2.1 + z1.1) 1).fail)]) [.lst .ev (readMsg p p.root s z1.2.1 (z1.2.1 + z1.1) 1).out], .ty .ev] (.br (.seg [.ty .ev, .ty .ev] (.leaf () [9, 2])) (.seg [.ty .ev, .ty .ev, .as 84 (.v (vI (z1.2.1 + z1.1))), .ty .int, .ty .int, .at 0, .keep [1, 2, 6, 7, 8], .sel [0, 9, 11]] (.next)))))))) (.seg [.ty .ev, .ty .ev] (.leaf () [4, 2]))), z9.Has [(1, .v (vT s)), (2, .v (vP 0)), (6, .v (vO 1)), (7, .v (vO 2)), (8, .v (vI 0))] [.cells (cPln p), .lst .ev ([] : List Ev), .lst .int [0]] ∧ ∀ q1, z9.inv q1 → (let z2 := varWithin s q1.at_ 8000; let z4 := decide (q1.at_ < (s.length : Int)); let z5 := q1.out ++ [(⟨1, 0, 0, z2.1, [], 0, 0⟩ : Ev)]; let z3 := z5 ++ (readMsg p p.root s z2.2.1 (z2.2.1 + z2.1) 1).out; (z4 = true → (Fun Tryz.prog 92 [vT s, vI q1.at_, vI 8000] [] (.tup [.c (.int .u64 z2.1), vI z2.2.1, vI z2.2.2]) []) ∧ ((!decide (z2.2.2 = 0)) = true → (Fun Tryz.prog 85 [vI z2.2.2, vI z2.2.1] [] (.v (.agg (cEv (failEv z2.2.2 z2.2.1)))) []) ∧ (q1.out.length + List.length [(failEv z2.2.2 z2.2.1)] ≤ bigN) ∧ z7 = .tup z10 ∧ ([.lst .ev (q1.out ++ [(failEv z2.2.2 z2.2.1)]), .lst .int q1.places] : List Blk) = z6) ∧ ((!decide (z2.2.2 = 0)) = false → ((.v (.c (.int .u64 (IntKind.u64.wrap (p.most)))) : S) = .v (.c (.int .u64 p.most))) ∧ ((decide (p.most < z2.1)) = true → (Fun Tryz.prog 85 [vI 7, vI q1.at_] [] (.v (.agg (cEv (failEv 7 q1.at_)))) []) ∧ (q1.out.length + List.length [(failEv 7 q1.at_)] ≤ bigN) ∧ z7 = .tup z10 ∧ ([.lst .ev (q1.out ++ [(failEv 7 q1.at_)]), .lst .int q1.places] : List Blk) = z6) ∧ ((decide (p.most < z2.1)) = false → ((.v (vI (IntKind.i64.wrap (z2.1))) : S) = .v (vI z2.1)) ∧ (q1.out.length + List.length [(⟨1, 0, 0, z2.1, [], 0, 0⟩ : Ev)] ≤ bigN) ∧ ((.v (vI (IntKind.i64.wrap (z2.2.1 + z2.1))) : S) = .v (vI (z2.2.1 + z2.1))) ∧ (Fun Tryz.prog 17 [.agg (cPln p), vI p.root, vT s, vI z2.2.1, vI (z2.2.1 + z2.1), vI 1] [] (.tup [vO 0, .agg (cEv (readMsg p p.root s z2.2.1 (z2.2.1 + z2.1) 1).fail)]) [.lst .ev (readMsg p p.root s z2.2.1 (z2.2.1 + z2.1) 1).out]) ∧ (z5.length + List.length (readMsg p p.root s z2.2.1 (z2.2.1 + z2.1) 1).out ≤ bigN) ∧ ((!decide ((readMsg p p.root s z2.2.1 (z2.2.1 + z2.1) 1).fail.kind = 0)) = true → (z3.length + List.length [(readMsg p p.root s z2.2.1 (z2.2.1 + z2.1) 1).fail] ≤ bigN) ∧ z7 = .tup z10 ∧ ([.lst .ev (z3 ++ [(readMsg p p.root s z2.2.1 (z2.2.1 + z2.1) 1).fail]), .lst .int q1.places] : List Blk) = z6) ∧ ((!decide ((readMsg p p.root s z2.2.1 (z2.2.1 + z2.1) 1).fail.kind = 0)) = false → (z3.length + List.length [(⟨8, 0, 0, 0, [], 0, 0⟩ : Ev)] ≤ bigN) ∧ ((.v (vI (IntKind.i64.wrap (z2.2.1 + z2.1))) : S) = .v (vI (z2.2.1 + z2.1))) ∧ (q1.places.length + List.length [z2.2.1 + z2.1] ≤ bigN) ∧ z9.Nxt q1 [(1, .v (vT s)), (2, .v (vP 0)), (6, .v (vO 1)), (7, .v (vO 2)), (8, .v (vI (z2.2.1 + z2.1)))] [.cells (cPln p), .lst .ev (z3 ++ [(⟨8, 0, 0, 0, [], 0, 0⟩ : Ev)]), .lst .int (q1.places ++ [z2.2.1 + z2.1])])))) ∧ (z4 = false → (q1.out.length + List.length [z8] ≤ bigN) ∧ z7 = .tup z10 ∧ ([.lst .ev (q1.out ++ [z8]), .lst .int q1.places] : List Blk) = z6)))) (by kernel_rfl) ?_
 refine ⟨has_of (j := (⟨([] : List Ev), [0], 0⟩ : all_s_V0)) rfl rfl (by dsimp only [all_s_F0]; exact WInv.refl), fun (q1 : all_s_V0) hq_q1 => ?_⟩
 have hi_q1 : WInv (wh0 p s) ⟨⟨p, s, q1.at_, q1.out, ev0⟩, q1.places⟩ := hq_q1
 have hrm := hi_q1.room rfl
 dsimp only at hrm
 have hen := hi_q1.ends rfl
 dsimp only at hen
 have hvb := varWithin_b s q1.at_ 8000
 refine dsp (fun h1 p1 => ?_) fun h1 p1 => ?_
 refine ⟨(varWithin_s _ _ _ (by omega)), fun h2 => have q2 := bnot_t h2; have p2 := of_decide_eq_false q2; ?_, fun h2 => have q2 := bnot_f h2; have p2 := of_decide_eq_true q2; ?_⟩
 refine ⟨(failure_s _ _), (by simp only [List.length_cons, List.length_nil]; omega), rfl, (consE (congrArg (Blk.lst .ev) ?_) (consE (congrArg (Blk.lst .int) ?_) rfl))⟩
 rotate_left 2
 have hw := varWithin_at p2
 have hra : ((readMsg p p.root s (varWithin s q1.at_ 8000).2.1 ((varWithin s q1.at_ 8000).2.1 + (varWithin s q1.at_ 8000).1) 1).out.length : Int) ≤ 4 * 4000 := by have := (readMsg_adv (p := p) (shape := p.root) (s := s) (a := (varWithin s q1.at_ 8000).2.1) (e := (varWithin s q1.at_ 8000).2.1 + (varWithin s q1.at_ 8000).1) (d := 1) (by omega)).most; simp only [mr0, List.length_nil] at this; omega
 refine ⟨(as_u64 (by omega) (by omega)), dsp (fun h3 p3 => ?_) fun h3 p3 => ?_⟩
 refine ⟨(failure_s _ _), (by simp only [List.length_cons, List.length_nil]; omega), rfl, (consE (congrArg (Blk.lst .ev) ?_) (consE (congrArg (Blk.lst .int) ?_) rfl))⟩
 rotate_left 2
 refine ⟨(as_i64 (by omega) (by omega)), (by simp only [List.length_cons, List.length_nil]; omega), (as_i64 (by omega) (by omega)), (readMsg_s p _ _ _ _ _ (by omega) (by omega)), (by simp only [List.length_append, List.length_cons, List.length_nil]; omega), fun h4 => have q4 := bnot_t h4; have p4 := of_decide_eq_false q4; ?_, fun h4 => have q4 := bnot_f h4; have p4 := of_decide_eq_true q4; ?_⟩
 refine ⟨(by simp only [List.length_append, List.length_cons, List.length_nil]; omega), rfl, (consE (congrArg (Blk.lst .ev) ?_) (consE (congrArg (Blk.lst .int) ?_) rfl))⟩
 rotate_left 2
 exact ⟨(by simp only [List.length_append, List.length_cons, List.length_nil]; omega), (as_i64 (by omega) (by omega)), (by simp only [List.length_cons, List.length_nil]; omega), nxt_of (j := (⟨((q1.out ++ [(⟨1, 0, 0, (varWithin s q1.at_ 8000).1, [], 0, 0⟩ : Ev)]) ++ (readMsg p p.root s (varWithin s q1.at_ 8000).2.1 ((varWithin s q1.at_ 8000).2.1 + (varWithin s q1.at_ 8000).1) 1).out) ++ [(⟨8, 0, 0, 0, [], 0, 0⟩ : Ev)], q1.places ++ [(varWithin s q1.at_ 8000).2.1 + (varWithin s q1.at_ 8000).1], _⟩ : all_s_V0)) rfl rfl (by dsimp only [all_s_F0]; exact (hi_q1.next (by show q1.at_ < _; omega) rfl (wh_ok hp1 hp2 (by assumption) (by assumption) (by assumption))).1) (by dsimp only [all_s_F0]; exact (hi_q1.next (by show q1.at_ < _; omega) rfl (wh_ok hp1 hp2 (by assumption) (by assumption) (by assumption))).2)⟩
 refine ⟨(by simp only [List.length_cons, List.length_nil]; omega), rfl, (consE (congrArg (Blk.lst .ev) ?_) (consE (congrArg (Blk.lst .int) ?_) rfl))⟩
 rotate_left 2
 all_goals first | ((have hw := hi_q1.end_ (by show ¬ q1.at_ < _; omega); first | (rw [wholeEv, hw]; simp [ev0, doneEv]; done) | (rw [hw]; done))) | ((have hw := hi_q1.leave (by show q1.at_ < _; omega) rfl (wh_var hp2 (by assumption)) (by first | assumption | simp [failEv]); first | (rw [wholeEv, hw]; simp [failEv, ahead, frameEv, *]; done) | (rw [hw]; done))) | ((have hw := hi_q1.leave (by show q1.at_ < _; omega) rfl (wh_most hp2 (by assumption) (by assumption)) (by first | assumption | simp [failEv]); first | (rw [wholeEv, hw]; simp [failEv, ahead, frameEv, *]; done) | (rw [hw]; done))) | ((have hw := hi_q1.leave (by show q1.at_ < _; omega) rfl (wh_bad hp1 hp2 (by assumption) (by assumption) (by assumption)) (by first | assumption | simp [failEv]); first | (rw [wholeEv, hw]; simp [failEv, ahead, frameEv, *]; done) | (rw [hw]; done)))
theorem whole_s (p : Pln) (s : List UInt8) (hp1 : s.length ≤ 1048576) : Fun Tryz.prog 22 [.agg (cPln p), vT s] [] (.v (vO 0)) [.lst .ev (wholeL p s)] := by
 have hN : bigN = 274877906944 := rfl
 refine fun_ofw Tryz.func22 (by kernel_rfl) (by kernel_rfl) (w := let z1 := decide (4000 < (s.length : Int)); let z2 : List Blk := [.lst .ev (wholeEv p s), .lst .int (whole p s).ends]; let z3 := ([.lst .ev ([] : List Ev)] : List Blk); let z4 : List Blk := [.lst .ev (wholeL p s)]; (.seg [.call [] (.v (vB (planOk p))) []] (.br (.seg [.ty .ev] (.leaf () [1])) (.br (.seg [.ty .ev] (.leaf () [1])) (.seg [.call [] (.tup [vO 0, vO 1]) z2] (.leaf () [1])))), (Fun Tryz.prog 18 [.agg (cPln p)] [] (.v (vB (planOk p))) []) ∧ ((!(planOk p)) = true → (.v (vO 0) : S) = .v (vO 0) ∧ z3 = z4) ∧ ((!(planOk p)) = false → (z1 = true → (.v (vO 0) : S) = .v (vO 0) ∧ z3 = z4) ∧ (z1 = false → (Fun Tryz.prog 52 [.agg (cPln p), vT s] [] (.tup [vO 0, vO 1]) z2) ∧ (.v (vO 0) : S) = .v (vO 0) ∧ ([.lst .ev (wholeEv p s)] : List Blk) = z4)))) (by kernel_rfl) ?_
 refine ⟨(planOk_s p), fun h1 => have q1 := bnot_t h1; ?_, fun h1 => have q1 := bnot_f h1; have p1 := planOk_t q1; ?_⟩
 refine ⟨rfl, (consE (congrArg (Blk.lst .ev) ?_) rfl)⟩
 rotate_left
 refine dsp (fun h2 p2 => ?_) fun h2 p2 => ?_
 refine ⟨rfl, (consE (congrArg (Blk.lst .ev) ?_) rfl)⟩
 rotate_left
 have hwl : wholeL p s = wholeEv p s := by unfold wholeL; rw [if_pos ⟨by simp_all, by omega⟩]
 refine ⟨(all_s p _ (by omega) (by omega)), rfl, (consE (congrArg (Blk.lst .ev) ?_) rfl)⟩
 rotate_left
 all_goals first | (simp_all [wholeL]; done) | (grind [wholeL])
theorem readMsg_len {p : Pln} {shape : Int} {s : List UInt8} {a e d : Int} (hs : s.length ≤ 1048576) : (readMsg p shape s a e d).out.length ≤ 4194304 := by
 by_cases h : readOk p shape s a e d = true
 ·have ha : 0 ≤ a ∧ a ≤ (s.length : Int) := by
   simp only [readOk, Bool.and_eq_true] at h
   have := h
   simp only [within, Bool.and_eq_true, decide_eq_true_eq] at this
   omega
  have := (readMsg_adv (p := p) (shape := shape) (s := s) (a := a) (e := e) (d := d) ha.2).most
  simp only [mr0, List.length_nil] at this
  omega
 ·unfold readMsg; rw [if_neg h]; simp [mr0]
theorem wholeL_len {p : Pln} {s : List UInt8} : (wholeL p s).length ≤ 16001 := by unfold wholeL; split; exact whole_most (by omega); simp
theorem ev_ext {x y : Ev} (h : x.kind = y.kind ∧ x.field = y.field ∧ x.bits = y.bits ∧ x.len = y.len ∧ x.text = y.text ∧ x.code = y.code ∧ x.at_ = y.at_) : x = y := by
 cases x; cases y; simp at h ⊢; exact h
theorem take_both {a b : List Ev} {i : Nat} {x y : Ev} (h : a.take i = b.take i) (hx : a[i]? = some x) (hy : b[i]? = some y) (e : x = y) : a.take (i + 1) = b.take (i + 1) := by
 rw [List.take_add_one, List.take_add_one, h, hx, hy, e]
theorem take_all {a b : List Ev} {i : Nat} (h : a.take i = b.take i) (hl : a.length = b.length) (hi : a.length ≤ i) : a = b := by
 rwa [List.take_of_length_le hi, List.take_of_length_le (by omega)] at h
structure sameEv_ok_V0 where
 i : Nat
def sameEv_ok_F0 (a : List Ev) (b : List Ev) : Fam := ⟨sameEv_ok_V0, fun q1 => [(0, .v (.c (.seq .ev a))), (1, .v (.c (.seq .ev b))), (5, .v (vI ((q1.i : Nat) : Int)))], fun _ => [], fun q1 => q1.i ≤ List.length a ∧ List.length a = List.length b ∧ List.take q1.i a = List.take q1.i b, fun q1 => List.length a - q1.i⟩
theorem sameEv_ok (a : List Ev) (b : List Ev) (hp1 : List.length a ≤ bigN) (hp2 : List.length b ≤ bigN) : Fun Tryz.prog 19 [.c (.seq .ev a), .c (.seq .ev b)] [] (.v (vB (decide (a = b)))) [] := by
 have hN : bigN = 274877906944 := rfl
 refine fun_ofw Tryz.func19 (by kernel_rfl) (by kernel_rfl) (w := let z3 := ((List.length a : Nat) : Int); let z4 := sameEv_ok_F0 a b; let z5 := !decide (z3 = ((List.length b : Nat) : Int)); let z6 := vB (decide (a = b)); (.br (.leaf () []) (.seg [.at 0, .keep [0, 1, 5], .sel []] (.loop z4 fun q1 => .br (.intro (fun (x1 : Ev) => a[q1.i]? = some x1) fun x1 => .intro (fun (x2 : Ev) => b[q1.i]? = some x2) fun x2 => .seg [.ord (os 9 []) [], .el .ev x1, .el .ev x2] (.br (.leaf () []) (.seg [.as 16 (.v (vI (((q1.i : Nat) : Int) + 1))), .at 0, .keep [0, 1, 5], .sel []] (.next)))) (.leaf () []))), (z5 = true → (.v (vB false) : S) = .v z6 ∧ ([] : List Blk) = []) ∧ (z5 = false → z4.Has [(0, .v (.c (.seq .ev a))), (1, .v (.c (.seq .ev b))), (5, .v (vI 0))] [] ∧ ∀ q1, z4.inv q1 → (let z2 := ((q1.i : Nat) : Int); ((decide (z2 < z3)) = true → (∃ (x1 : Ev), a[q1.i]? = some x1) ∧ ∀ (x1 : Ev), (a[q1.i]? = some x1) → ((∃ (x2 : Ev), b[q1.i]? = some x2) ∧ ∀ (x2 : Ev), (b[q1.i]? = some x2) → (let z1 := !(decide (x1.kind = x2.kind) && (decide (x1.field = x2.field) && (decide (x1.bits = x2.bits) && (decide (x1.len = x2.len) && (decide (x1.text = x2.text) && (decide (x1.code = x2.code) && decide (x1.at_ = x2.at_))))))); (a[q1.i]? = some x1) ∧ ((0 : Int) ≤ z2) ∧ (a[q1.i]? = some x1) ∧ ((0 : Int) ≤ z2) ∧ (b[q1.i]? = some x2) ∧ ((0 : Int) ≤ z2) ∧ (b[q1.i]? = some x2) ∧ ((0 : Int) ≤ z2) ∧ (z1 = true → (.v (vB false) : S) = .v z6 ∧ ([] : List Blk) = []) ∧ (z1 = false → ((.v (vI (IntKind.i64.wrap (z2 + 1))) : S) = .v (vI (z2 + 1))) ∧ z4.Nxt q1 [(0, .v (.c (.seq .ev a))), (1, .v (.c (.seq .ev b))), (5, .v (vI (z2 + 1)))] [])))) ∧ ((decide (z2 < z3)) = false → (.v (vB true) : S) = .v z6 ∧ ([] : List Blk) = []))))) (by kernel_rfl) ?_
 refine ⟨fun h1 => have q1 := bnot_t h1; have p1 := of_decide_eq_false q1; ?_, fun h1 => have q1 := bnot_f h1; have p1 := of_decide_eq_true q1; ?_⟩
 refine ⟨(sB ?_), rfl⟩
 rotate_left
 refine ⟨has_of (j := (⟨0⟩ : sameEv_ok_V0)) (by first | rfl | simp) rfl (by dsimp only [sameEv_ok_F0]; exact ⟨by omega, by omega, by simp⟩), fun (q1 : sameEv_ok_V0) hq_q1 => ?_⟩
 have hi_q1 : q1.i ≤ List.length a ∧ List.length a = List.length b ∧ List.take q1.i a = List.take q1.i b := hq_q1
 obtain ⟨v1, v2, v3⟩ := hi_q1
 refine dsp (fun h2 p2 => ?_) fun h2 p2 => ?_
 refine ⟨(ax_get (l := a) (i := q1.i) (by omega)), fun x1 hx1 => ?_⟩
 refine ⟨(ax_get (l := b) (i := q1.i) (by omega)), fun x2 hx2 => ?_⟩
 refine ⟨hx1, (by omega), hx1, (by omega), hx2, (by omega), hx2, (by omega), fun h3 => have q3 := bnot_t h3; have p3 := (andF dT (andF dT (andF dT (andF dT (andF dT (andF dT dF)))))).1 q3; ?_, fun h3 => have q3 := bnot_f h3; have p3 := (andT dT (andT dT (andT dT (andT dT (andT dT (andT dT dT)))))).1 q3; ?_⟩
 refine ⟨(sB ?_), rfl⟩
 rotate_left
 exact ⟨(as_i64 (by omega) (by omega)), nxt_of (j := (⟨q1.i + 1⟩ : sameEv_ok_V0)) (by first | rfl | simp) rfl (by dsimp only [sameEv_ok_F0]; exact ⟨by omega, v2, take_both v3 hx1 hx2 (ev_ext p3)⟩) (by dsimp only [sameEv_ok_F0]; omega)⟩
 refine ⟨(sB ?_), rfl⟩
 rotate_left
 all_goals first | (exact (decide_eq_true (take_all v3 v2 (by omega))).symm) | (exact (decide_eq_false (fun h => by subst h; omega)).symm) | (exact (decide_eq_false (fun h => by subst h; rw [hx1] at hx2; cases hx2; simp at p3)).symm)
theorem big_ok (l : List Int) (hp1 : ((List.length l : Nat) : Int) ≤ 9223372036854775807) : Fun Tryz.prog 8 [.c (.seq .u8 l)] [] (.v (vB (decide (1048576 < ((List.length l : Nat) : Int))))) [] := by
 have hN : bigN = 274877906944 := rfl
 refine fun_ofw Tryz.func8 (by kernel_rfl) (by kernel_rfl) (w := let z1 := vB (decide (1048576 < ((List.length l : Nat) : Int))); (.leaf () [], (.v z1 : S) = .v z1 ∧ ([] : List Blk) = [])) (by kernel_rfl) ?_
 exact ⟨rfl, rfl⟩
theorem readMsg_i (p : Pln) (shape : Int) (s : List UInt8) (at_ : Int) (end_ : Int) (deep : Int) (hp1 : List.length s ≤ 1048576) (hp2 : end_ ≤ 9223372036854775807) : Fun Tryz.prog 16 [.agg (cPln p), vI shape, vT s, vI at_, vI end_, vI deep] [] (.tup [vO 0, .agg (cEv (readMsg p shape s at_ end_ deep).fail)]) [.lst .ev (readMsg p shape s at_ end_ deep).out] := by
 have hN : bigN = 274877906944 := rfl
 refine fun_ofw Tryz.func16 (by kernel_rfl) (by kernel_rfl) (w := let zi : Int → C := .int .i64; let z1 : List C := [zi 0, zi 0, .int .u64 0, zi 0, .str [], zi 0, zi 0]; let z3 := readMsg p shape s at_ end_ deep; let z4 := ((List.length p.shapes : Nat) : Int) - 1; let z5 := ([.lst .ev ([] : List Ev)] : List Blk); let z6 := within at_ 0 ((List.length s : Nat) : Int); let z7 : List V := [vO 0, .agg (cEv z3.fail)]; let z8 := (.tup [vO 0, .agg z1] : S); let z9 : List Blk := [.lst .ev z3.out]; let z10 := (⟨p, s, at_, ([] : List Ev), (⟨0, 0, 0, 0, [], 0, 0⟩ : Ev)⟩ : Mr); let z2 := msgN (Int.toNat ((z10).plan.deep - deep)) shape end_ z10; let z11 := within deep 1 p.deep; let z12 := within shape 0 z4; let z13 : List Blk := [.cells (oMr6 2 z2), .dead, .lst .ev z2.out]; let z14 := vB (decide (z2.fail.kind = 0)); (.seg [.call [] (.v (vB (planOk p))) []] (.br (.seg [.at 0, .mkS 12 .ev] (.leaf () [2])) (.seg [.as 24 (.v (vI z4)), .call [] (.v (vB z12)) []] (.br (.seg [.at 0, .mkS 12 .ev] (.leaf () [2])) (.seg [.call [] (.v (vB z6)) []] (.br (.seg [.at 0, .mkS 12 .ev] (.leaf () [2])) (.br (.seg [.at 0, .mkS 12 .ev] (.leaf () [2])) (.seg [.call [] (.v (vB z11)) []] (.br (.seg [.at 0, .mkS 12 .ev] (.leaf () [2])) (.seg [.at 5, .mk 2 6 .ev, .call [2, 3] (.v z14) z13, .ord (os 10 [9]) []] (.leaf () [4])))))))))), (Fun Tryz.prog 23 [.agg (cPln p)] [] (.v (vB (planOk p))) []) ∧ ((!(planOk p)) = true → z8 = .tup z7 ∧ z5 = z9) ∧ ((!(planOk p)) = false → ((.v (vI (IntKind.i64.wrap z4)) : S) = .v (vI z4)) ∧ (Fun Tryz.prog 43 [vI shape, vI 0, vI z4] [] (.v (vB z12)) []) ∧ ((!z12) = true → z8 = .tup z7 ∧ z5 = z9) ∧ ((!z12) = false → (Fun Tryz.prog 43 [vI at_, vI 0, vI ((List.length s : Nat) : Int)] [] (.v (vB z6)) []) ∧ ((!z6) = true → z8 = .tup z7 ∧ z5 = z9) ∧ ((!z6) = false → ((decide (end_ < at_)) = true → z8 = .tup z7 ∧ z5 = z9) ∧ ((decide (end_ < at_)) = false → (Fun Tryz.prog 43 [vI deep, vI 1, vI p.deep] [] (.v (vB z11)) []) ∧ ((!z11) = true → z8 = .tup z7 ∧ z5 = z9) ∧ ((!z11) = false → (Fun Tryz.prog 44 [vP 0, vI shape, vI end_, vI deep] [.cells (.seq .shp p.shapes :: zi p.root :: zi p.deep :: zi p.most :: .str s :: zi at_ :: .own 1 :: z1), .lst .ev ([] : List Ev)] (.v z14) z13) ∧ (.tup [vO 0, .agg (cEv z2.fail)] : S) = .tup z7 ∧ ([.lst .ev z2.out] : List Blk) = z9))))))) (by kernel_rfl) ?_
 refine ⟨(planOk_i p), fun h1 => have q1 := bnot_t h1; ?_, fun h1 => have q1 := bnot_f h1; have p1 := planOk_t q1; ?_⟩
 refine have hm1 : (readMsg p shape s at_ end_ deep).fail = (⟨0, 0, 0, 0, [], 0, 0⟩ : Ev) := ?_; ?_
 rotate_left
 refine have hm2 : (readMsg p shape s at_ end_ deep).out = ([] : List Ev) := ?_; ?_
 rotate_left
 exact ⟨(by rw [hm1] <;> rfl), (by rw [hm2] <;> rfl)⟩
 have hpt := planOk_t q1
 refine ⟨(as_i64 (by omega) (by omega)), (within_i _ _ _), fun h2 => have q2 := bnot_t h2; have p2 := within_f q2; ?_, fun h2 => have q2 := bnot_f h2; have p2 := within_t q2; ?_⟩
 refine have hm1 : (readMsg p shape s at_ end_ deep).fail = (⟨0, 0, 0, 0, [], 0, 0⟩ : Ev) := ?_; ?_
 rotate_left
 refine have hm2 : (readMsg p shape s at_ end_ deep).out = ([] : List Ev) := ?_; ?_
 rotate_left
 exact ⟨(by rw [hm1] <;> rfl), (by rw [hm2] <;> rfl)⟩
 refine ⟨(within_i _ _ _), fun h3 => have q3 := bnot_t h3; have p3 := within_f q3; ?_, fun h3 => have q3 := bnot_f h3; have p3 := within_t q3; ?_⟩
 refine have hm1 : (readMsg p shape s at_ end_ deep).fail = (⟨0, 0, 0, 0, [], 0, 0⟩ : Ev) := ?_; ?_
 rotate_left
 refine have hm2 : (readMsg p shape s at_ end_ deep).out = ([] : List Ev) := ?_; ?_
 rotate_left
 exact ⟨(by rw [hm1] <;> rfl), (by rw [hm2] <;> rfl)⟩
 refine dsp (fun h4 p4 => ?_) fun h4 p4 => ?_
 refine have hm1 : (readMsg p shape s at_ end_ deep).fail = (⟨0, 0, 0, 0, [], 0, 0⟩ : Ev) := ?_; ?_
 rotate_left
 refine have hm2 : (readMsg p shape s at_ end_ deep).out = ([] : List Ev) := ?_; ?_
 rotate_left
 exact ⟨(by rw [hm1] <;> rfl), (by rw [hm2] <;> rfl)⟩
 refine ⟨(within_i _ _ _), fun h5 => have q5 := bnot_t h5; have p5 := within_f q5; ?_, fun h5 => have q5 := bnot_f h5; have p5 := within_t q5; ?_⟩
 refine have hm1 : (readMsg p shape s at_ end_ deep).fail = (⟨0, 0, 0, 0, [], 0, 0⟩ : Ev) := ?_; ?_
 rotate_left
 refine have hm2 : (readMsg p shape s at_ end_ deep).out = ([] : List Ev) := ?_; ?_
 rotate_left
 exact ⟨(by rw [hm1] <;> rfl), (by rw [hm2] <;> rfl)⟩
 refine ⟨(msg_i (⟨p, s, at_, ([] : List Ev), (⟨0, 0, 0, 0, [], 0, 0⟩ : Ev)⟩ : Mr) _ _ _ (by first | omega | (dsimp only; omega) | (simp only [List.length_nil]; omega) | assumption | rfl | (exact q1)) (by first | omega | (dsimp only; omega) | (simp only [List.length_nil]; omega) | assumption | rfl | (exact q1)) (by first | omega | (dsimp only; omega) | (simp only [List.length_nil]; omega) | assumption | rfl | (exact q1)) (by first | omega | (dsimp only; omega) | (simp only [List.length_nil]; omega) | assumption | rfl | (exact q1)) (by first | omega | (dsimp only; omega) | (simp only [List.length_nil]; omega) | assumption | rfl | (exact q1)) (by omega) (by simp_all) (by first | omega | (dsimp only; omega) | (simp only [List.length_nil]; omega) | assumption | rfl | (exact q1))), ?_⟩
 refine have hm1 : (readMsg p shape s at_ end_ deep).fail = (msgN (Int.toNat (((⟨p, s, at_, ([] : List Ev), (⟨0, 0, 0, 0, [], 0, 0⟩ : Ev)⟩ : Mr)).plan.deep - deep)) shape end_ (⟨p, s, at_, ([] : List Ev), (⟨0, 0, 0, 0, [], 0, 0⟩ : Ev)⟩ : Mr)).fail := ?_; ?_
 rotate_left
 refine have hm2 : (readMsg p shape s at_ end_ deep).out = (msgN (Int.toNat (((⟨p, s, at_, ([] : List Ev), (⟨0, 0, 0, 0, [], 0, 0⟩ : Ev)⟩ : Mr)).plan.deep - deep)) shape end_ (⟨p, s, at_, ([] : List Ev), (⟨0, 0, 0, 0, [], 0, 0⟩ : Ev)⟩ : Mr)).out := ?_; ?_
 rotate_left
 exact ⟨(by rw [hm1] <;> rfl), (by rw [hm2] <;> rfl)⟩
 all_goals first | (simp_all [readMsg, readOk, mr0, ev0, within]; done) | (grind [readMsg, readOk, mr0, ev0]) | (grind [readMsg, readOk, mr0, ev0, within])
structure Cur where
 b : List Int
 i : Int
 h : Int
def CurOk (c : Cur) : Prop := 0 ≤ c.i ∧ c.b.length ≤ 1048576
def cCur (x : Cur) : List C := [.seq .u8 x.b, .int .i64 x.i, .int .i64 x.h]
structure l1Byte_o_O where
 x : Int
 c1 : Cur
def l1Byte_o_f (c : Cur) (o : l1Byte_o_O) : Prop := Fun Tryz.prog 68 [vP 0] [.cells (cCur c)] (.v (vI o.x)) [.cells (cCur o.c1)]
def l1Byte_o_p (c : Cur) (o : l1Byte_o_O) : Prop := (((0 : Int) ≤ o.x ∧ o.x ≤ 255) ∧ (CurOk o.c1)) ∧ l1Byte_o_f c o
theorem l1Byte_o (c : Cur) (hp1 : CurOk c) : ∃ o : l1Byte_o_O, l1Byte_o_p c o := by
 have hN : bigN = 274877906944 := rfl
 have hcb := hp1.1
 have hcl := hp1.2
 refine funs_ofw Tryz.func68 (by kernel_rfl) (by kernel_rfl) (w := let z5 := (IntKind.i64.wrap (c.h * 6364136223846793005)) + 1442695040888963407; let z3 := IntKind.i64.wrap z5; let z8 := (.v (vI (Int.fdiv z3 (2 ^ 33))) : S) = .v (vI (z3 / 8589934592)); let z10 : List Blk := [.cells [.seq .u8 c.b, .int .i64 (c.i + 1), .int .i64 z3]]; let z11 := decide (c.i < ((List.length c.b : Nat) : Int)); let z12 : List Blk := [.cells [.seq .u8 c.b, .int .i64 c.i, .int .i64 z3]]; let z13 := z3 / 35184372088832; let z4 := IntKind.i64.wrap (((BitVec.ofInt 64 (z3 / 8589934592) ^^^ BitVec.ofInt 64 z13).toNat : Nat)); let z7 := (.v (vI (Int.fdiv z3 (2 ^ 45))) : S) = .v (vI z13); let z9 := z4 % 256; let z6 := (.v (vI (IntKind.i64.wrap (((BitVec.ofInt 64 z4 &&& BitVec.ofInt 64 255).toNat : Nat)))) : S) = .v (vI z9); (.seg [.ord (os 13 []) [], .as 17 (.v (vI (z3 / 8589934592))), .as 22 (.v (vI z13)), .as 24 (.v (vI z9)), .ord (os 10 []) []] (.br (.intro (fun (x1 : Int) => c.b[Int.toNat c.i]? = some x1) fun x1 => let z1 := IntKind.i64.wrap (z9 + (IntKind.i64.wrap (x1))); .seg [.ord (os 15 []) [], .el .u8 x1, .as 48 (.v (vI (z1 % 256))), .as 54 (.v (vI (c.i + 1)))] (.leaf (⟨z1 % 256, (⟨c.b, c.i + 1, IntKind.i64.wrap z5⟩ : Cur)⟩ : l1Byte_o_O) [0])) (.leaf (⟨z4 % 256, (⟨c.b, c.i, IntKind.i64.wrap z5⟩ : Cur)⟩ : l1Byte_o_O) [0])), ((0 : Int) ≤ 33) ∧ ((0 : Int) ≤ 33) ∧ z8 ∧ z8 ∧ ((0 : Int) ≤ 45) ∧ ((0 : Int) ≤ 45) ∧ z7 ∧ z7 ∧ z6 ∧ z6 ∧ (z11 = true → (∃ (x1 : Int), c.b[Int.toNat c.i]? = some x1) ∧ ∀ (x1 : Int), (c.b[Int.toNat c.i]? = some x1) → (let z2 := IntKind.i64.wrap (z9 + (IntKind.i64.wrap (x1))); (c.b[Int.toNat c.i]? = some x1) ∧ ((0 : Int) ≤ c.i) ∧ (c.b[Int.toNat c.i]? = some x1) ∧ ((0 : Int) ≤ c.i) ∧ ((.v (vI (IntKind.i64.wrap (((BitVec.ofInt 64 z2 &&& BitVec.ofInt 64 255).toNat : Nat)))) : S) = .v (vI (z2 % 256))) ∧ ((.v (vI (IntKind.i64.wrap (((BitVec.ofInt 64 z2 &&& BitVec.ofInt 64 255).toNat : Nat)))) : S) = .v (vI (z2 % 256))) ∧ ((.v (vI (IntKind.i64.wrap (c.i + 1))) : S) = .v (vI (c.i + 1))) ∧ (((0 : Int) ≤ (z2 % 256) ∧ (z2 % 256) ≤ 255) ∧ (CurOk (⟨c.b, c.i + 1, IntKind.i64.wrap z5⟩ : Cur))) ∧ (.v (vI (z2 % 256)) : S) = .v (vI (z2 % 256)) ∧ (z10 : List Blk) = z10)) ∧ (z11 = false → (((0 : Int) ≤ z9 ∧ z9 ≤ 255) ∧ (CurOk (⟨c.b, c.i, IntKind.i64.wrap z5⟩ : Cur))) ∧ (.v (vI z9) : S) = .v (vI z9) ∧ (z12 : List Blk) = z12))) (by kernel_rfl) ?_
 refine ⟨(by decide), (by decide), (as_shr (k := 33) (by decide) (by decide)), (as_shr (k := 33) (by decide) (by decide)), (by decide), (by decide), (as_shr (k := 45) (by decide) (by decide)), (as_shr (k := 45) (by decide) (by decide)), (as_mask_i64 (k := 8) (by decide) (by decide)), (as_mask_i64 (k := 8) (by decide) (by decide)), dsp (fun h1 p1 => ?_) fun h1 p1 => ?_⟩
 refine ⟨(ax_get (l := c.b) (i := Int.toNat c.i) (by omega)), fun x1 hx1 => ?_⟩
 exact ⟨hx1, (by omega), hx1, (by omega), (as_mask_i64 (k := 8) (by decide) (by decide)), (as_mask_i64 (k := 8) (by decide) (by decide)), (as_i64 (by omega) (by omega)), ⟨(by omega), (by first | assumption | (exact ⟨by dsimp only; first | omega | (have := hp1.1; omega), hp1.2⟩))⟩, rfl, rfl⟩
 exact ⟨⟨(by omega), (by first | assumption | (exact ⟨by dsimp only; first | omega | (have := hp1.1; omega), hp1.2⟩))⟩, rfl, rfl⟩
structure l1Below_o_O where
 x : Int
 c1 : Cur
def l1Below_o_f (c : Cur) (n : Int) (o : l1Below_o_O) : Prop := Fun Tryz.prog 37 [vP 0, vI n] [.cells (cCur c)] (.v (vI o.x)) [.cells (cCur o.c1)]
def l1Below_o_p (c : Cur) (n : Int) (o : l1Below_o_O) : Prop := (((0 : Int) ≤ o.x) ∧ ((1 : Int) ≤ n → o.x < n) ∧ (n ≤ (0 : Int) → o.x = (0 : Int)) ∧ (CurOk o.c1)) ∧ l1Below_o_f c n o
theorem l1Below_o (c : Cur) (n : Int) (hp1 : CurOk c) : ∃ o : l1Below_o_O, l1Below_o_p c n o := by
 have hN : bigN = 274877906944 := rfl
 refine funs_ofw Tryz.func37 (by kernel_rfl) (by kernel_rfl) (w := let z8 := l1Byte_o_p c; (.br (.leaf (⟨0, c⟩ : l1Below_o_O) [0]) (.br (.intro z8 fun o1 => .seg [.call [0] (.v (vI o1.x)) [.cells (cCur o1.c1)]] (.leaf (⟨Int.tmod o1.x n, o1.c1⟩ : l1Below_o_O) [0])) (.intro z8 fun o1 => .seg [.call [0] (.v (vI o1.x)) [.cells (cCur o1.c1)]] (.intro (l1Byte_o_p o1.c1) fun o2 => let z6 := (o1.x * 16777216) + (o2.x * 65536); .seg [.call [0] (.v (vI o2.x)) [.cells (cCur o2.c1)]] (.intro (l1Byte_o_p o2.c1) fun o3 => let z4 := z6 + (o3.x * 256); .seg [.call [0] (.v (vI o3.x)) [.cells (cCur o3.c1)]] (.intro (l1Byte_o_p o3.c1) fun o4 => let z2 := z4 + o4.x; .seg [.call [0] (.v (vI o4.x)) [.cells (cCur o4.c1)], .as 26 (.v (vI (o1.x * 16777216))), .as 28 (.v (vI (o2.x * 65536))), .as 29 (.v (vI z6)), .as 31 (.v (vI (o3.x * 256))), .as 32 (.v (vI z4)), .as 34 (.v (vI z2))] (.leaf (⟨Int.tmod z2 n, o4.c1⟩ : l1Below_o_O) [0])))))), ((decide (n ≤ 0)) = true → (((0 : Int) ≤ 0) ∧ ((1 : Int) ≤ n → 0 < n) ∧ (n ≤ (0 : Int) → 0 = (0 : Int)) ∧ (CurOk c)) ∧ (.v (vI 0) : S) = .v (vI 0) ∧ ([.cells (cCur c)] : List Blk) = [.cells (cCur c)]) ∧ ((decide (n ≤ 0)) = false → ((decide (n ≤ 256)) = true → In z8 fun o1 => (let z1 := Int.tmod o1.x n; (l1Byte_o_f c o1) ∧ (n ≠ 0) ∧ (((0 : Int) ≤ z1) ∧ ((1 : Int) ≤ n → z1 < n) ∧ (n ≤ (0 : Int) → z1 = (0 : Int)) ∧ (CurOk o1.c1)) ∧ (.v (vI z1) : S) = .v (vI z1) ∧ ([.cells (cCur o1.c1)] : List Blk) = [.cells (cCur o1.c1)])) ∧ ((decide (n ≤ 256)) = false → In z8 fun o1 => ((l1Byte_o_f c o1) ∧ In (l1Byte_o_p o1.c1) fun o2 => (let z7 := (o1.x * 16777216) + (o2.x * 65536); (l1Byte_o_f o1.c1 o2) ∧ In (l1Byte_o_p o2.c1) fun o3 => (let z5 := z7 + (o3.x * 256); (l1Byte_o_f o2.c1 o3) ∧ In (l1Byte_o_p o3.c1) fun o4 => (let z3 := z5 + o4.x; (l1Byte_o_f o3.c1 o4) ∧ ((.v (vI (IntKind.i64.wrap (o1.x * 16777216))) : S) = .v (vI (o1.x * 16777216))) ∧ ((.v (vI (IntKind.i64.wrap (o2.x * 65536))) : S) = .v (vI (o2.x * 65536))) ∧ ((.v (vI (IntKind.i64.wrap z7)) : S) = .v (vI z7)) ∧ ((.v (vI (IntKind.i64.wrap (o3.x * 256))) : S) = .v (vI (o3.x * 256))) ∧ ((.v (vI (IntKind.i64.wrap z5)) : S) = .v (vI z5)) ∧ ((.v (vI (IntKind.i64.wrap z3)) : S) = .v (vI z3)) ∧ (n ≠ 0) ∧ (((0 : Int) ≤ (Int.tmod z3 n)) ∧ ((1 : Int) ≤ n → (Int.tmod z3 n) < n) ∧ (n ≤ (0 : Int) → (Int.tmod z3 n) = (0 : Int)) ∧ (CurOk o4.c1)) ∧ (.v (vI (Int.tmod z3 n)) : S) = .v (vI (Int.tmod z3 n)) ∧ ([.cells (cCur o4.c1)] : List Blk) = [.cells (cCur o4.c1)])))))))) (by kernel_rfl) ?_
 refine dsp (fun h1 p1 => ?_) fun h1 p1 => ?_
 exact ⟨⟨(by omega), (by omega), (by omega), (by first | assumption | (exact ⟨by dsimp only; first | omega | (have := hp1.1; omega), hp1.2⟩))⟩, rfl, rfl⟩
 refine dsp (fun h2 p2 => ?_) fun h2 p2 => ?_
 refine ⟨(l1Byte_o c (by first | assumption | (exact ⟨by dsimp only; first | omega | (have := hp1.1; omega), hp1.2⟩))), fun o1 ho_o1 => ?_⟩
 obtain ⟨⟨hp_o1_0, hp_o1_1⟩, hf_o1⟩ := ho_o1
 exact ⟨hf_o1, (by omega), ⟨(by have := tmod_b o1.x n; omega), (by have := tmod_b o1.x n; omega), (by have := tmod_b o1.x n; omega), (by first | assumption | (exact ⟨by dsimp only; first | omega | (have := hp1.1; omega), hp1.2⟩))⟩, rfl, rfl⟩
 refine ⟨(l1Byte_o c (by first | assumption | (exact ⟨by dsimp only; first | omega | (have := hp1.1; omega), hp1.2⟩))), fun o1 ho_o1 => ?_⟩
 obtain ⟨⟨hp_o1_0, hp_o1_1⟩, hf_o1⟩ := ho_o1
 refine ⟨hf_o1, (l1Byte_o o1.c1 (by first | assumption | (exact ⟨by dsimp only; first | omega | (have := hp1.1; omega), hp1.2⟩))), fun o2 ho_o2 => ?_⟩
 obtain ⟨⟨hp_o2_0, hp_o2_1⟩, hf_o2⟩ := ho_o2
 refine ⟨hf_o2, (l1Byte_o o2.c1 (by first | assumption | (exact ⟨by dsimp only; first | omega | (have := hp1.1; omega), hp1.2⟩))), fun o3 ho_o3 => ?_⟩
 obtain ⟨⟨hp_o3_0, hp_o3_1⟩, hf_o3⟩ := ho_o3
 refine ⟨hf_o3, (l1Byte_o o3.c1 (by first | assumption | (exact ⟨by dsimp only; first | omega | (have := hp1.1; omega), hp1.2⟩))), fun o4 ho_o4 => ?_⟩
 obtain ⟨⟨hp_o4_0, hp_o4_1⟩, hf_o4⟩ := ho_o4
 exact ⟨hf_o4, (as_i64 (by omega) (by omega)), (as_i64 (by omega) (by omega)), (as_i64 (by omega) (by omega)), (as_i64 (by omega) (by omega)), (as_i64 (by omega) (by omega)), (as_i64 (by omega) (by omega)), (by omega), ⟨(by have := tmod_b ((((o1.x * 16777216) + (o2.x * 65536)) + (o3.x * 256)) + o4.x) n; omega), (by have := tmod_b ((((o1.x * 16777216) + (o2.x * 65536)) + (o3.x * 256)) + o4.x) n; omega), (by have := tmod_b ((((o1.x * 16777216) + (o2.x * 65536)) + (o3.x * 256)) + o4.x) n; omega), (by first | assumption | (exact ⟨by dsimp only; first | omega | (have := hp1.1; omega), hp1.2⟩))⟩, rfl, rfl⟩
structure l1Once_o_O where
 p : Bool
 c1 : Cur
def l1Once_o_f (c : Cur) (n : Int) (o : l1Once_o_O) : Prop := Fun Tryz.prog 49 [vP 0, vI n] [.cells (cCur c)] (.v (vB o.p)) [.cells (cCur o.c1)]
def l1Once_o_p (c : Cur) (n : Int) (o : l1Once_o_O) : Prop := ((CurOk o.c1)) ∧ l1Once_o_f c n o
theorem l1Once_o (c : Cur) (n : Int) (hp1 : CurOk c) : ∃ o : l1Once_o_O, l1Once_o_p c n o := by
 have hN : bigN = 274877906944 := rfl
 refine funs_ofw Tryz.func49 (by kernel_rfl) (by kernel_rfl) (w := (.intro (l1Below_o_p c n) fun o1 => .seg [.call [0] (.v (vI o1.x)) [.cells (cCur o1.c1)]] (.leaf (⟨decide (o1.x = 0), o1.c1⟩ : l1Once_o_O) [0]), In (l1Below_o_p c n) fun o1 => ((l1Below_o_f c n o1) ∧ ((CurOk o1.c1)) ∧ (.v (vB (decide (o1.x = 0))) : S) = .v (vB (decide (o1.x = 0))) ∧ ([.cells (cCur o1.c1)] : List Blk) = [.cells (cCur o1.c1)]))) (by kernel_rfl) ?_
 refine ⟨(l1Below_o c n (by first | assumption | (exact ⟨by dsimp only; first | omega | (have := hp1.1; omega), hp1.2⟩))), fun o1 ho_o1 => ?_⟩
 obtain ⟨⟨hp_o1_0, hp_o1_1, hp_o1_2, hp_o1_3⟩, hf_o1⟩ := ho_o1
 exact ⟨hf_o1, (by first | assumption | (exact ⟨by dsimp only; first | omega | (have := hp1.1; omega), hp1.2⟩)), rfl, rfl⟩
structure l1PickInt_o_O where
 x : Int
 c1 : Cur
def l1PickInt_o_f (c : Cur) (l : List Int) (o : l1PickInt_o_O) : Prop := Fun Tryz.prog 41 [vP 0, .c (.seq .int l)] [.cells (cCur c)] (.v (vI o.x)) [.cells (cCur o.c1)]
def l1PickInt_o_p (c : Cur) (l : List Int) (o : l1PickInt_o_O) : Prop := ((o.x ∈ l) ∧ (CurOk o.c1)) ∧ l1PickInt_o_f c l o
theorem l1PickInt_o (c : Cur) (l : List Int) (hp1 : CurOk c) (hp2 : 1 ≤ List.length l) (hp3 : List.length l ≤ 1000) : ∃ o : l1PickInt_o_O, l1PickInt_o_p c l o := by
 have hN : bigN = 274877906944 := rfl
 refine funs_ofw Tryz.func41 (by kernel_rfl) (by kernel_rfl) (w := let z1 := ((List.length l : Nat) : Int); (.intro (l1Below_o_p c z1) fun o1 => .seg [.call [0] (.v (vI o1.x)) [.cells (cCur o1.c1)]] (.intro (fun (x1 : Int) => l[Int.toNat o1.x]? = some x1) fun x1 => .seg [.el .int x1] (.leaf (⟨x1, o1.c1⟩ : l1PickInt_o_O) [0])), In (l1Below_o_p c z1) fun o1 => ((l1Below_o_f c z1 o1) ∧ (∃ (x1 : Int), l[Int.toNat o1.x]? = some x1) ∧ ∀ (x1 : Int), (l[Int.toNat o1.x]? = some x1) → ((l[Int.toNat o1.x]? = some x1) ∧ ((0 : Int) ≤ o1.x) ∧ ((x1 ∈ l) ∧ (CurOk o1.c1)) ∧ (.v (vI x1) : S) = .v (vI x1) ∧ ([.cells (cCur o1.c1)] : List Blk) = [.cells (cCur o1.c1)])))) (by kernel_rfl) ?_
 refine ⟨(l1Below_o c ((List.length l : Nat) : Int) (by first | assumption | (exact ⟨by dsimp only; first | omega | (have := hp1.1; omega), hp1.2⟩))), fun o1 ho_o1 => ?_⟩
 obtain ⟨⟨hp_o1_0, hp_o1_1, hp_o1_2, hp_o1_3⟩, hf_o1⟩ := ho_o1
 refine ⟨hf_o1, (ax_get (l := l) (i := Int.toNat o1.x) (by omega)), fun x1 hx1 => ?_⟩
 exact ⟨hx1, (by omega), ⟨(List.mem_of_getElem? hx1), (by first | assumption | (exact ⟨by dsimp only; first | omega | (have := hp1.1; omega), hp1.2⟩))⟩, rfl, rfl⟩
structure l1Whole_o_O where
 x : Int
 c1 : Cur
structure l1New_o_O where
 c1 : Cur
def l1New_o_f (b : List Int) (o : l1New_o_O) : Prop := Fun Tryz.prog 35 [.c (.seq .u8 b)] [] (.v (vP 0)) [.cells (cCur o.c1)]
def l1New_o_p (b : List Int) (o : l1New_o_O) : Prop := ((CurOk o.c1)) ∧ l1New_o_f b o
structure l1New_o_V0 where
 h : Int
 i : Nat
def l1New_o_F0 (b : List Int) : Fam := ⟨l1New_o_V0, fun q1 => [(0, .v (.c (.seq .u8 b))), (3, .v (vI q1.h)), (4, .v (vI ((q1.i : Nat) : Int)))], fun _ => [], fun q1 => q1.i ≤ List.length b ∧ (0 : Int) ≤ q1.h ∧ q1.h ≤ 1073741823, fun q1 => List.length b - q1.i⟩
theorem l1New_o (b : List Int) (hp1 : List.length b ≤ 1048576) : ∃ o : l1New_o_O, l1New_o_p b o := by
 have hN : bigN = 274877906944 := rfl
 refine funs_ofw Tryz.func35 (by kernel_rfl) (by kernel_rfl) (w := let z4 := ((List.length b : Nat) : Int); let z5 := l1New_o_F0 b; (.seg [.as 7 (.v (vI (28433 + z4))), .at 0, .keep [0, 3, 4], .sel []] (.loop z5 fun q1 => .br (.br (.seg [.as 19 (.v (vI (q1.h * 131)))] (.intro (fun (x1 : Int) => b[q1.i]? = some x1) fun x1 => .seg [.el .u8 x1, .as 27 (.v (vI ((IntKind.i64.wrap ((IntKind.i64.wrap ((q1.h * 131) + (IntKind.i64.wrap (x1)))) + 7)) % 1073741824))), .as 17 (.v (vI (((q1.i : Nat) : Int) + 1))), .at 0, .keep [0, 3, 4], .sel []] (.next))) (.leaf (⟨(⟨b, 0, q1.h⟩ : Cur)⟩ : l1New_o_O) [0])) (.leaf (⟨(⟨b, 0, q1.h⟩ : Cur)⟩ : l1New_o_O) [0])), ((.v (vI (IntKind.i64.wrap (28433 + z4))) : S) = .v (vI (28433 + z4))) ∧ z5.Has [(0, .v (.c (.seq .u8 b))), (3, .v (vI (28433 + z4))), (4, .v (vI 0))] [] ∧ ∀ q1, z5.inv q1 → (let z2 : List Blk := [.cells [.seq .u8 b, .int .i64 0, .int .i64 q1.h]]; let z3 := ((q1.i : Nat) : Int); ((decide (z3 < z4)) = true → ((decide (z3 < 4000)) = true → ((.v (vI (IntKind.i64.wrap (q1.h * 131))) : S) = .v (vI (q1.h * 131))) ∧ (∃ (x1 : Int), b[q1.i]? = some x1) ∧ ∀ (x1 : Int), (b[q1.i]? = some x1) → (let z1 := IntKind.i64.wrap ((IntKind.i64.wrap ((q1.h * 131) + (IntKind.i64.wrap (x1)))) + 7); (b[q1.i]? = some x1) ∧ ((0 : Int) ≤ z3) ∧ ((.v (vI (IntKind.i64.wrap (((BitVec.ofInt 64 z1 &&& BitVec.ofInt 64 1073741823).toNat : Nat)))) : S) = .v (vI (z1 % 1073741824))) ∧ ((.v (vI (IntKind.i64.wrap (z3 + 1))) : S) = .v (vI (z3 + 1))) ∧ z5.Nxt q1 [(0, .v (.c (.seq .u8 b))), (3, .v (vI (z1 % 1073741824))), (4, .v (vI (z3 + 1)))] [])) ∧ ((decide (z3 < 4000)) = false → ((CurOk (⟨b, 0, q1.h⟩ : Cur))) ∧ (.v (vP 0) : S) = .v (vP 0) ∧ (z2 : List Blk) = z2)) ∧ ((decide (z3 < z4)) = false → ((CurOk (⟨b, 0, q1.h⟩ : Cur))) ∧ (.v (vP 0) : S) = .v (vP 0) ∧ (z2 : List Blk) = z2)))) (by kernel_rfl) ?_
 refine ⟨(as_i64 (by omega) (by omega)), has_of (j := (⟨28433 + ((List.length b : Nat) : Int), 0⟩ : l1New_o_V0)) (by first | rfl | simp) rfl (by dsimp only [l1New_o_F0]; exact ⟨by omega, by omega, by omega⟩), fun (q1 : l1New_o_V0) hq_q1 => ?_⟩
 have hi_q1 : q1.i ≤ List.length b ∧ (0 : Int) ≤ q1.h ∧ q1.h ≤ 1073741823 := hq_q1
 obtain ⟨v1, v2, v3⟩ := hi_q1
 refine dsp (fun h1 p1 => ?_) fun h1 p1 => ?_
 refine dsp (fun h2 p2 => ?_) fun h2 p2 => ?_
 refine ⟨(as_i64 (by omega) (by omega)), (ax_get (l := b) (i := q1.i) (by omega)), fun x1 hx1 => ?_⟩
 exact ⟨hx1, (by omega), (as_mask_i64 (k := 30) (by decide) (by decide)), (as_i64 (by omega) (by omega)), nxt_of (j := (⟨(IntKind.i64.wrap ((IntKind.i64.wrap ((q1.h * 131) + (IntKind.i64.wrap (x1)))) + 7)) % 1073741824, q1.i + 1⟩ : l1New_o_V0)) (by first | rfl | simp) rfl (by dsimp only [l1New_o_F0]; exact ⟨by omega, by omega, by omega⟩) (by dsimp only [l1New_o_F0]; omega)⟩
 exact ⟨(⟨by dsimp only; omega, hp1⟩), rfl, rfl⟩
 exact ⟨(⟨by dsimp only; omega, hp1⟩), rfl, rfl⟩
structure l1Bytes_o_O where
 l : List Int
 c1 : Cur
def l1Bytes_o_f (c : Cur) (n : Int) (o : l1Bytes_o_O) : Prop := Fun Tryz.prog 39 [vP 0, vI n] [.cells (cCur c)] (.v (vO 1)) [.cells (cCur o.c1), .lst .u8 o.l]
def l1Bytes_o_p (c : Cur) (n : Int) (o : l1Bytes_o_O) : Prop := ((List.length o.l ≤ Int.toNat n) ∧ (CurOk o.c1)) ∧ l1Bytes_o_f c n o
structure l1Bytes_o_V0 where
 c : Cur
 b : List Int
 i : Nat
def l1Bytes_o_F0 (n : Int) : Fam := ⟨l1Bytes_o_V0, fun q1 => [(0, .v (vP 0)), (1, .v (vI n)), (5, .v (vO 1)), (6, .v (vI ((q1.i : Nat) : Int)))], fun q1 => [.cells (cCur q1.c), .lst .u8 q1.b], fun q1 => CurOk q1.c ∧ List.length q1.b = q1.i ∧ (q1.i = 0 ∨ ((q1.i : Nat) : Int) ≤ n), fun q1 => Int.toNat n - q1.i⟩
theorem l1Bytes_o (c : Cur) (n : Int) (hp1 : CurOk c) (hp2 : n ≤ 100000) : ∃ o : l1Bytes_o_O, l1Bytes_o_p c n o := by
 have hN : bigN = 274877906944 := rfl
 refine funs_ofw Tryz.func39 (by kernel_rfl) (by kernel_rfl) (w := let z2 := l1Bytes_o_F0 n; (.seg [.ty .u8, .at 0, .keep [0, 1, 5, 6], .sel [0, 1]] (.loop z2 fun q1 => .br (.intro (l1Byte_o_p q1.c) fun o1 => .seg [.call [0] (.v (vI o1.x)) [.cells (cCur o1.c1)], .as 16 (.v (.c (.int .u8 o1.x))), .ty .u8, .ty .u8, .as 12 (.v (vI (((q1.i : Nat) : Int) + 1))), .at 0, .keep [0, 1, 5, 6], .sel [0, 3]] (.next)) (.leaf (⟨q1.b, q1.c⟩ : l1Bytes_o_O) [0, 1])), z2.Has [(0, .v (vP 0)), (1, .v (vI n)), (5, .v (vO 1)), (6, .v (vI 0))] [.cells (cCur c), .lst .u8 ([] : List Int)] ∧ ∀ q1, z2.inv q1 → (let z1 := ((q1.i : Nat) : Int); ((decide (z1 < n)) = true → In (l1Byte_o_p q1.c) fun o1 => ((l1Byte_o_f q1.c o1) ∧ ((.v (.c (.int .u8 (IntKind.u8.wrap (o1.x)))) : S) = .v (.c (.int .u8 o1.x))) ∧ (List.length q1.b + List.length [o1.x] ≤ bigN) ∧ ((.v (vI (IntKind.i64.wrap (z1 + 1))) : S) = .v (vI (z1 + 1))) ∧ z2.Nxt q1 [(0, .v (vP 0)), (1, .v (vI n)), (5, .v (vO 1)), (6, .v (vI (z1 + 1)))] [.cells (cCur o1.c1), .lst .u8 (q1.b ++ [o1.x])])) ∧ ((decide (z1 < n)) = false → ((List.length q1.b ≤ Int.toNat n) ∧ (CurOk q1.c)) ∧ (.v (vO 1) : S) = .v (vO 1) ∧ ([.cells (cCur q1.c), .lst .u8 q1.b] : List Blk) = [.cells (cCur q1.c), .lst .u8 q1.b])))) (by kernel_rfl) ?_
 refine ⟨has_of (j := (⟨c, ([] : List Int), 0⟩ : l1Bytes_o_V0)) (by first | rfl | simp) rfl (by dsimp only [l1Bytes_o_F0]; exact ⟨hp1, rfl, .inl rfl⟩), fun (q1 : l1Bytes_o_V0) hq_q1 => ?_⟩
 have hi_q1 : CurOk q1.c ∧ List.length q1.b = q1.i ∧ (q1.i = 0 ∨ ((q1.i : Nat) : Int) ≤ n) := hq_q1
 obtain ⟨v1, v2, v3⟩ := hi_q1
 refine dsp (fun h1 p1 => ?_) fun h1 p1 => ?_
 refine ⟨(l1Byte_o q1.c (by first | assumption | (exact ⟨by dsimp only; first | omega | (have := hp1.1; omega), hp1.2⟩))), fun o1 ho_o1 => ?_⟩
 obtain ⟨⟨hp_o1_0, hp_o1_1⟩, hf_o1⟩ := ho_o1
 exact ⟨hf_o1, (as_u8 (by omega) (by omega)), (by simp only [List.length_cons, List.length_nil]; omega), (as_i64 (by omega) (by omega)), nxt_of (j := (⟨o1.c1, q1.b ++ [o1.x], q1.i + 1⟩ : l1Bytes_o_V0)) (by first | rfl | simp) rfl (by dsimp only [l1Bytes_o_F0]; exact ⟨by assumption, by simp; omega, by omega⟩) (by dsimp only [l1Bytes_o_F0]; omega)⟩
 exact ⟨⟨(by omega), (by first | assumption | (exact ⟨by dsimp only; first | omega | (have := hp1.1; omega), hp1.2⟩))⟩, rfl, rfl⟩
structure Raw where
 msgs : List Shp
structure Vio where
 code : Int
 msg : Int
 field : Int
structure FldG (ids : List Int) (f : Fld) : Prop where
 num : numberOk f.number = true
 kd : 1 ≤ f.kind ∧ f.kind ≤ 8
 pk : f.packed = true → f.rep = true ∧ f.kind ≤ 5
 ref : f.kind = 8 → f.msg ∈ ids
 no : f.kind ≠ 8 → f.msg = 0
def nums (fs : List Fld) : List Int := fs.map fun f => f.number
def idsOf (l : List Shp) : List Int := l.map fun m => m.id
def hasId (l : List Shp) (id : Int) : Bool := l.any fun m => decide (m.id = id)
def hasNum (l : List Fld) (n : Int) : Bool := l.any fun f => decide (f.number = n)
structure FldsG (ids : List Int) (fs : List Fld) : Prop where
 len : fs.length ≤ 5
 num : (nums fs).Nodup
 all : ∀ f ∈ fs, FldG ids f
structure RawK (n : Nat) (l : List Shp) : Prop where
 len : l.length = n
 pos : 1 ≤ n ∧ n ≤ 3
 ids : idsOf l = [5, 1, 99].take n
 flds : ∀ m ∈ l, FldsG (idsOf l) m.fields
theorem hasNum_f {l : List Fld} {n : Int} : hasNum l n = false ↔ ∀ f ∈ l, f.number ≠ n := by
 simp [hasNum]
theorem hasId_t {l : List Shp} {x : Int} : hasId l x = true ↔ x ∈ idsOf l := by
 simp [hasId, idsOf]
theorem nodup_take {l : List Int} (h : l.Nodup) {i : Nat} {x : Int} (hx : l[i]? = some x) : x ∉ l.take i := by
 intro hm
 obtain ⟨j, hj, he⟩ := List.mem_take_iff_getElem.1 hm
 have hi := (List.getElem?_eq_some_iff.1 hx)
 obtain ⟨hi1, hi2⟩ := hi
 exact List.pairwise_iff_getElem.1 h j i (by omega) hi1 (by omega) (by rw [hi2, he])
theorem RawK.nodup {n : Nat} {l : List Shp} (h : RawK n l) : (idsOf l).Nodup := by
 rw [h.ids]
 have h2 := h.pos
 have : n = 1 ∨ n = 2 ∨ n = 3 := by omega
 rcases this with rfl | rfl | rfl <;> decide
theorem RawK.noId {n : Nat} {l : List Shp} (h : RawK n l) {i : Nat} {m : Shp} (hm : l[i]? = some m) : hasId (l.take i) m.id = false := by
 cases hc : hasId (l.take i) m.id with
 | false => rfl
 | true =>
  have := hasId_t.1 hc
  unfold idsOf at this
  rw [List.map_take] at this
  exact absurd this (nodup_take (l := idsOf l) h.nodup (by unfold idsOf; rw [List.getElem?_map, hm]; rfl))
theorem FldsG.noNum {ids : List Int} {fs : List Fld} (h : FldsG ids fs) {i : Nat} {f : Fld} (hf : fs[i]? = some f) : hasNum (fs.take i) f.number = false := by
 rw [hasNum_f]
 intro g hg he
 have : f.number ∈ (nums fs).take i := by
  unfold nums
  rw [← List.map_take]
  exact List.mem_map.2 ⟨g, hg, he⟩
 exact absurd this (nodup_take (l := nums fs) h.num (by unfold nums; rw [List.getElem?_map, hf]; rfl))
theorem RawK.id_ok {n : Nat} {l : List Shp} (h : RawK n l) {m : Shp} (hm : m ∈ l) : 1 ≤ m.id ∧ m.id ≤ 99 := by
 have hx : m.id ∈ idsOf l := List.mem_map.2 ⟨m, hm, rfl⟩
 rw [h.ids] at hx
 have := List.mem_of_mem_take hx
 simp at this
 omega
theorem ids_set {l : List Shp} {i : Nat} {m : Shp} {fs : List Fld} (h : l[i]? = some m) : idsOf (l.set i ⟨m.id, fs⟩) = idsOf l := by
 unfold idsOf
 apply List.ext_getElem?
 intro j
 rw [List.getElem?_map, List.getElem?_map, List.getElem?_set]
 split
 ·rename_i hij
  subst hij
  have hl := (List.getElem?_eq_some_iff.1 h).1
  rw [if_pos hl, h]
  rfl
 ·rfl
theorem nums_app (fs : List Fld) (f : Fld) : nums (fs ++ [f]) = nums fs ++ [f.number] := by simp [nums]
theorem RawK.add {n : Nat} {l : List Shp} (h : RawK n l) {i : Nat} {m : Shp} {f : Fld} (hm : l[i]? = some m) (hf : FldG (idsOf l) f) (hn : hasNum m.fields f.number = false) (hk : m.fields.length ≤ 4) : RawK n (l.set i ⟨m.id, m.fields ++ [f]⟩) := by
 have hM := h.flds m (List.mem_of_getElem? hm)
 refine ⟨by rw [List.length_set]; exact h.len, h.pos, by rw [ids_set hm]; exact h.ids, fun x hx => ?_⟩
 rw [ids_set hm]
 rcases List.mem_or_eq_of_mem_set hx with hx | rfl
 ·exact h.flds x hx
 ·refine ⟨by rw [List.length_append]; simp; omega, ?_, fun g hg => ?_⟩
  ·show (nums (m.fields ++ [f])).Nodup
   rw [nums_app, List.nodup_append]
   refine ⟨hM.num, by simp, fun a ha b hb => ?_⟩
   simp at hb
   subst hb
   intro e
   subst e
   obtain ⟨g, hg, he⟩ := List.mem_map.1 ha
   exact hasNum_f.1 hn g hg he
  ·rcases List.mem_append.1 hg with hg | hg
   ·exact hM.all g hg
   ·simp at hg; subst hg; exact hf
def rank (l : List Shp) (id : Int) : Nat := (l.filter fun m => decide (m.id < id)).length
theorem rank_take {l : List Shp} {i : Nat} {m : Shp} {id : Int} (h : l[i]? = some m) : rank (l.take (i + 1)) id = rank (l.take i) id + (if m.id < id then 1 else 0) := by
 have ht : l.take (i + 1) = l.take i ++ [m] := by rw [List.take_add_one, h]; rfl
 unfold rank
 rw [ht, List.filter_append, List.length_append]
 split <;> simp [*]
theorem rank_le (l : List Shp) (id : Int) : rank l id ≤ l.length := List.length_filter_le _ _
theorem rank_lt {l : List Shp} {id : Int} (h : id ∈ idsOf l) : rank l id < l.length := by
 obtain ⟨m, hm, rfl⟩ := List.mem_map.1 h
 unfold rank
 rcases Nat.lt_or_ge (l.filter fun x => decide (x.id < m.id)).length l.length with h | h
 ·exact h
 ·have := List.length_filter_eq_length_iff.1 (Nat.le_antisymm (List.length_filter_le _ _) h) m hm
  simp at this
def ShpG (n : Nat) (fs : List Fld) : Prop := fs.length ≤ 5 ∧ ∀ f ∈ fs, 1 ≤ f.kind ∧ f.kind ≤ 8 ∧ (f.kind = 8 → 0 ≤ f.msg ∧ f.msg < (n : Int))
def SchG (l : List Shp) : Prop := (1 ≤ l.length ∧ l.length ≤ 3) ∧ ∀ e ∈ l, ShpG l.length e.fields
structure PlnG (p : Pln) : Prop where
 sch : SchG p.shapes
 root : 0 ≤ p.root ∧ p.root < (p.shapes.length : Int)
 deep : 1 ≤ p.deep ∧ p.deep ≤ 4
 most : 0 ≤ p.most ∧ p.most ≤ 2000
def PlnB (p : Pln) : Prop := p.shapes.length ≤ 7 ∧ ∀ e ∈ p.shapes, e.fields.length ≤ 6
theorem PlnG.b {p : Pln} (h : PlnG p) : PlnB p := ⟨by have := h.sch.1; omega, fun e he => by have := (h.sch.2 e he).1; omega⟩
theorem take_add1 {α : Type} {l : List α} {i : Nat} {x : α} (h : l[i]? = some x) : l.take (i + 1) = l.take i ++ [x] := by rw [List.take_add_one, h]; rfl
theorem hasId_take {l : List Shp} {i : Nat} {m : Shp} {id : Int} (h : l[i]? = some m) : hasId (l.take (i + 1)) id = (hasId (l.take i) id || decide (m.id = id)) := by
 rw [take_add1 h]; simp [hasId]
theorem hasNum_take {l : List Fld} {i : Nat} {f : Fld} {n : Int} (h : l[i]? = some f) : hasNum (l.take (i + 1)) n = (hasNum (l.take i) n || decide (f.number = n)) := by
 rw [take_add1 h]; simp [hasNum]
theorem hasId_here {l : List Shp} {i : Nat} {m : Shp} {id : Int} {k : Nat} (h : l[i]? = some m) (hi : i < k) (he : m.id = id) : hasId (l.take k) id = true := by
 rw [hasId, List.any_eq_true]
 exact ⟨m, List.mem_of_getElem? (by rw [List.getElem?_take, if_pos hi]; exact h), by simpa using he⟩
theorem hasNum_here {l : List Fld} {i : Nat} {f : Fld} {n : Int} (h : l[i]? = some f) (he : f.number = n) : hasNum l n = true := by
 rw [hasNum, List.any_eq_true]
 exact ⟨f, List.mem_of_getElem? h, by simpa using he⟩
structure hasId_s_V0 where
 i : Nat
def hasId_s_F0 (r : Raw) (id : Int) (n : Int) : Fam := ⟨hasId_s_V0, fun q1 => [(1, .v (vI id)), (2, .v (vI n)), (3, .v (vP 0)), (7, .v (vI ((q1.i : Nat) : Int)))], fun _ => [.cells [.seq .shp r.msgs]], fun q1 => ((q1.i : Nat) : Int) ≤ n ∧ hasId (List.take q1.i r.msgs) id = false, fun q1 => Int.toNat n - q1.i⟩
theorem hasId_s (r : Raw) (id : Int) (n : Int) (hp1 : (0 : Int) ≤ n ∧ n ≤ ((List.length (r).msgs : Nat) : Int)) (hp2 : List.length (r).msgs ≤ 1000) : Fun Tryz.prog 176 [.agg [.seq .shp r.msgs], vI id, vI n] [] (.v (vB (hasId (List.take (Int.toNat n) (r).msgs) id))) [] := by
 have hN : bigN = 274877906944 := rfl
 refine fun_ofw Tryz.func176 (by kernel_rfl) (by kernel_rfl) (w := let z2 := hasId_s_F0 r id n; let z3 := vB (hasId (List.take (Int.toNat n) (r).msgs) id); (.seg [.at 0, .keep [1, 2, 3, 7], .sel [0]] (.loop z2 fun q1 => .br (.intro (fun (x1 : Shp) => r.msgs[q1.i]? = some x1) fun x1 => .seg [.el .shp x1] (.br (.leaf () []) (.seg [.as 12 (.v (vI (((q1.i : Nat) : Int) + 1))), .at 0, .keep [1, 2, 3, 7], .sel [0]] (.next)))) (.leaf () [])), z2.Has [(1, .v (vI id)), (2, .v (vI n)), (3, .v (vP 0)), (7, .v (vI 0))] [.cells [.seq .shp r.msgs]] ∧ ∀ q1, z2.inv q1 → (let z1 := ((q1.i : Nat) : Int); ((decide (z1 < n)) = true → (∃ (x1 : Shp), r.msgs[q1.i]? = some x1) ∧ ∀ (x1 : Shp), (r.msgs[q1.i]? = some x1) → ((r.msgs[q1.i]? = some x1) ∧ ((0 : Int) ≤ z1) ∧ ((decide (x1.id = id)) = true → (.v (vB true) : S) = .v z3 ∧ ([] : List Blk) = []) ∧ ((decide (x1.id = id)) = false → ((.v (vI (IntKind.i64.wrap (z1 + 1))) : S) = .v (vI (z1 + 1))) ∧ z2.Nxt q1 [(1, .v (vI id)), (2, .v (vI n)), (3, .v (vP 0)), (7, .v (vI (z1 + 1)))] [.cells [.seq .shp r.msgs]]))) ∧ ((decide (z1 < n)) = false → (.v (vB false) : S) = .v z3 ∧ ([] : List Blk) = [])))) (by kernel_rfl) ?_
 refine ⟨has_of (j := (⟨0⟩ : hasId_s_V0)) (by first | rfl | simp) rfl (by dsimp only [hasId_s_F0]; exact ⟨by omega, rfl⟩), fun (q1 : hasId_s_V0) hq_q1 => ?_⟩
 have hi_q1 : ((q1.i : Nat) : Int) ≤ n ∧ hasId (List.take q1.i r.msgs) id = false := hq_q1
 obtain ⟨v1, v2⟩ := hi_q1
 refine dsp (fun h1 p1 => ?_) fun h1 p1 => ?_
 refine ⟨(ax_get (l := r.msgs) (i := q1.i) (by omega)), fun x1 hx1 => ?_⟩
 refine ⟨hx1, (by omega), dsp (fun h2 p2 => ?_) fun h2 p2 => ?_⟩
 refine ⟨(sB ?_), rfl⟩
 rotate_left
 exact ⟨(as_i64 (by omega) (by omega)), nxt_of (j := (⟨q1.i + 1⟩ : hasId_s_V0)) (by first | rfl | simp) rfl (by dsimp only [hasId_s_F0]; exact ⟨by omega, by rw [hasId_take hx1, v2]; simpa using by assumption⟩) (by dsimp only [hasId_s_F0]; omega)⟩
 have hin : Int.toNat n = q1.i := by omega
 refine ⟨(sB ?_), rfl⟩
 rotate_left
 all_goals first | ((rw [hin, v2]; done)) | ((rw [hasId_here hx1 (by omega) (by assumption)]; done)) | (grind)
structure hasNum_s_V0 where
 i : Nat
def hasNum_s_F0 (l : List Fld) (n : Int) : Fam := ⟨hasNum_s_V0, fun q1 => [(0, .v (.c (.seq .fld l))), (1, .v (vI n)), (5, .v (vI ((q1.i : Nat) : Int)))], fun _ => [], fun q1 => q1.i ≤ List.length l ∧ hasNum (List.take q1.i l) n = false, fun q1 => List.length l - q1.i⟩
theorem hasNum_s (l : List Fld) (n : Int) (hp1 : List.length l ≤ 1000) : Fun Tryz.prog 158 [.c (.seq .fld l), vI n] [] (.v (vB (hasNum l n))) [] := by
 have hN : bigN = 274877906944 := rfl
 refine fun_ofw Tryz.func158 (by kernel_rfl) (by kernel_rfl) (w := let z2 := hasNum_s_F0 l n; (.seg [.at 0, .keep [0, 1, 5], .sel []] (.loop z2 fun q1 => .br (.intro (fun (x1 : Fld) => l[q1.i]? = some x1) fun x1 => .seg [.el .fld x1] (.br (.leaf () []) (.seg [.as 11 (.v (vI (((q1.i : Nat) : Int) + 1))), .at 0, .keep [0, 1, 5], .sel []] (.next)))) (.leaf () [])), z2.Has [(0, .v (.c (.seq .fld l))), (1, .v (vI n)), (5, .v (vI 0))] [] ∧ ∀ q1, z2.inv q1 → (let z1 := ((q1.i : Nat) : Int); ((decide (z1 < ((List.length l : Nat) : Int))) = true → (∃ (x1 : Fld), l[q1.i]? = some x1) ∧ ∀ (x1 : Fld), (l[q1.i]? = some x1) → ((l[q1.i]? = some x1) ∧ ((0 : Int) ≤ z1) ∧ ((decide (x1.number = n)) = true → (.v (vB true) : S) = .v (vB (hasNum l n)) ∧ ([] : List Blk) = []) ∧ ((decide (x1.number = n)) = false → ((.v (vI (IntKind.i64.wrap (z1 + 1))) : S) = .v (vI (z1 + 1))) ∧ z2.Nxt q1 [(0, .v (.c (.seq .fld l))), (1, .v (vI n)), (5, .v (vI (z1 + 1)))] []))) ∧ ((decide (z1 < ((List.length l : Nat) : Int))) = false → (.v (vB false) : S) = .v (vB (hasNum l n)) ∧ ([] : List Blk) = [])))) (by kernel_rfl) ?_
 refine ⟨has_of (j := (⟨0⟩ : hasNum_s_V0)) (by first | rfl | simp) rfl (by dsimp only [hasNum_s_F0]; exact ⟨by omega, rfl⟩), fun (q1 : hasNum_s_V0) hq_q1 => ?_⟩
 have hi_q1 : q1.i ≤ List.length l ∧ hasNum (List.take q1.i l) n = false := hq_q1
 obtain ⟨v1, v2⟩ := hi_q1
 refine dsp (fun h1 p1 => ?_) fun h1 p1 => ?_
 refine ⟨(ax_get (l := l) (i := q1.i) (by omega)), fun x1 hx1 => ?_⟩
 refine ⟨hx1, (by omega), dsp (fun h2 p2 => ?_) fun h2 p2 => ?_⟩
 refine ⟨(sB ?_), rfl⟩
 rotate_left
 exact ⟨(as_i64 (by omega) (by omega)), nxt_of (j := (⟨q1.i + 1⟩ : hasNum_s_V0)) (by first | rfl | simp) rfl (by dsimp only [hasNum_s_F0]; exact ⟨by omega, by rw [hasNum_take hx1, v2]; simpa using by assumption⟩) (by dsimp only [hasNum_s_F0]; omega)⟩
 have hin : List.take q1.i l = l := List.take_of_length_le (by omega)
 rw [hin] at v2
 refine ⟨(sB ?_), rfl⟩
 rotate_left
 all_goals first | ((rw [v2]; done)) | ((rw [hasNum_here hx1 (by assumption)]; done)) | (grind)
theorem msgCode_s (r : Raw) (msg : Int) (hp1 : RawK (List.length (r).msgs) (r).msgs) (hp2 : (0 : Int) ≤ msg ∧ msg < ((List.length (r).msgs : Nat) : Int)) : Fun Tryz.prog 171 [.agg [.seq .shp r.msgs], vI msg] [] (.v (vI 0)) [] := by
 have hN : bigN = 274877906944 := rfl
 have hpos := hp1.pos
 refine fun_ofw Tryz.func171 (by kernel_rfl) (by kernel_rfl) (w := let z3 := ((List.length r.msgs : Nat) : Int) - 1; let z4 := within msg 0 z3; let z5 := List.take (Int.toNat msg) (r).msgs; (.seg [.as 10 (.v (vI z3)), .call [] (.v (vB z4)) []] (.br (.leaf () []) (.intro (fun (x1 : Shp) => r.msgs[Int.toNat msg]? = some x1) fun x1 => .seg [.el .shp x1, .call [] (.v (vB (within x1.id 1 99))) []] (.br (.leaf () []) (.seg [.call [] (.v (vB (hasId z5 x1.id))) [], .br false, .br false] (.leaf () []))))), ((.v (vI (IntKind.i64.wrap z3)) : S) = .v (vI z3)) ∧ (Fun Tryz.prog 45 [vI msg, vI 0, vI z3] [] (.v (vB z4)) []) ∧ ((!z4) = true → (.v (vI 0) : S) = .v (vI 0) ∧ ([] : List Blk) = []) ∧ ((!z4) = false → (∃ (x1 : Shp), r.msgs[Int.toNat msg]? = some x1) ∧ ∀ (x1 : Shp), (r.msgs[Int.toNat msg]? = some x1) → (let z1 := hasId z5 x1.id; let z2 := within x1.id 1 99; (r.msgs[Int.toNat msg]? = some x1) ∧ ((0 : Int) ≤ msg) ∧ (Fun Tryz.prog 45 [vI x1.id, vI 1, vI 99] [] (.v (vB z2)) []) ∧ ((!z2) = true → (.v (vI 2) : S) = .v (vI 0) ∧ ([] : List Blk) = []) ∧ ((!z2) = false → (Fun Tryz.prog 176 [.agg [.seq .shp r.msgs], vI x1.id, vI msg] [] (.v (vB z1)) []) ∧ (z1 = false) ∧ ((decide (8 < ((List.length x1.fields : Nat) : Int))) = false) ∧ (.v (vI 0) : S) = .v (vI 0) ∧ ([] : List Blk) = []))))) (by kernel_rfl) ?_
 refine ⟨(as_i64 (by omega) (by omega)), (within_s _ _ _), fun h1 => have q1 := bnot_t h1; have p1 := within_f q1; ?_, fun h1 => have q1 := bnot_f h1; have p1 := within_t q1; ?_⟩
 exact ⟨rfl, rfl⟩
 refine ⟨(ax_get (l := r.msgs) (i := Int.toNat msg) (by omega)), fun x1 hx1 => ?_⟩
 have hid := hp1.id_ok (List.mem_of_getElem? hx1)
 have hfl := (hp1.flds _ (List.mem_of_getElem? hx1)).len
 have hno := hp1.noId hx1
 refine ⟨hx1, (by omega), (within_s _ _ _), fun h2 => have q2 := bnot_t h2; have p2 := within_f q2; ?_, fun h2 => have q2 := bnot_f h2; have p2 := within_t q2; ?_⟩
 refine ⟨(sI ?_), rfl⟩
 rotate_left
 exact ⟨(hasId_s r _ _ (by omega) (by omega)), hno, (decide_eq_false (by omega)), rfl, rfl⟩
 all_goals first | (rfl) | ((exfalso; omega)) | ((exfalso; simp_all; done)) | (grind)
theorem fieldCode_s (r : Raw) (msg : Int) (field : Int) (hp1 : RawK (List.length (r).msgs) (r).msgs) (hp2 : (0 : Int) ≤ msg ∧ msg < ((List.length (r).msgs : Nat) : Int)) (hp3 : ∀ m, (r).msgs[Int.toNat msg]? = some m → (0 : Int) ≤ field ∧ field < ((List.length m.fields : Nat) : Int)) : Fun Tryz.prog 172 [.agg [.seq .shp r.msgs], vI msg, vI field] [] (.v (vI 0)) [] := by
 have hN : bigN = 274877906944 := rfl
 have hpos := hp1.pos
 refine fun_ofw Tryz.func172 (by kernel_rfl) (by kernel_rfl) (w := let z12 := ((List.length r.msgs : Nat) : Int); let z13 := ([] : List Blk); let z14 := within msg 0 (z12 - 1); let z15 := (.v (vI 0) : S); let z16 := List.take (Int.toNat z12) (r).msgs; let z17 := (0 : Int) ≤ field; (.seg [.as 13 (.v (vI (z12 - 1))), .call [] (.v (vB z14)) []] (.br (.leaf () []) (.intro (fun (x1 : Shp) => r.msgs[Int.toNat msg]? = some x1) fun x1 => let z8 := ((List.length x1.fields : Nat) : Int) - 1; .seg [.el .shp x1, .as 25 (.v (vI z8)), .call [] (.v (vB (within field 0 z8))) []] (.br (.leaf () []) (.seg [.el .shp x1] (.intro (fun (x2 : Fld) => x1.fields[Int.toNat field]? = some x2) fun x2 => let z1 := vB (hasId z16 x2.msg); .seg [.el .fld x2, .call [] (.v (vB (numberOk x2.number))) []] (.br (.leaf () []) (.seg [.ord (os 7 [5]) [], .call [] (.v (vB (hasNum (List.take (Int.toNat field) x1.fields) x2.number))) [], .br false, .call [] (.v (vB (kindOk x2.kind))) []] (.br (.leaf () []) (.br (.br (.leaf () []) (.seg [.call [] (.v (vB (numeric x2.kind))) []] (.br (.leaf () []) (.br (.seg [.call [] (.v z1) []] (.br (.leaf () []) (.br (.br (.leaf () []) (.leaf () [])) (.leaf () [])))) (.br (.br (.leaf () []) (.leaf () [])) (.leaf () [])))))) (.br (.seg [.call [] (.v z1) []] (.br (.leaf () []) (.br (.br (.leaf () []) (.leaf () [])) (.leaf () [])))) (.br (.br (.leaf () []) (.leaf () [])) (.leaf () [])))))))))))), ((.v (vI (IntKind.i64.wrap (z12 - 1))) : S) = .v (vI (z12 - 1))) ∧ (Fun Tryz.prog 45 [vI msg, vI 0, vI (z12 - 1)] [] (.v (vB z14)) []) ∧ ((!z14) = true → z15 = .v (vI 0) ∧ z13 = []) ∧ ((!z14) = false → (∃ (x1 : Shp), r.msgs[Int.toNat msg]? = some x1) ∧ ∀ (x1 : Shp), (r.msgs[Int.toNat msg]? = some x1) → (let z9 := ((List.length x1.fields : Nat) : Int); let z10 := List.take (Int.toNat field) x1.fields; let z11 := r.msgs[Int.toNat msg]? = some x1; z11 ∧ ((0 : Int) ≤ msg) ∧ ((.v (vI (IntKind.i64.wrap (z9 - 1))) : S) = .v (vI (z9 - 1))) ∧ (Fun Tryz.prog 45 [vI field, vI 0, vI (z9 - 1)] [] (.v (vB (within field 0 (z9 - 1)))) []) ∧ ((!(within field 0 (z9 - 1))) = true → z15 = .v (vI 0) ∧ z13 = []) ∧ ((!(within field 0 (z9 - 1))) = false → z11 ∧ ((0 : Int) ≤ msg) ∧ (∃ (x2 : Fld), x1.fields[Int.toNat field]? = some x2) ∧ ∀ (x2 : Fld), (x1.fields[Int.toNat field]? = some x2) → (let z2 := (!decide (x2.kind = 8)) = true → ((!decide (x2.msg = 0)) = true → (.v (vI 9) : S) = .v (vI 0) ∧ z13 = []) ∧ ((!decide (x2.msg = 0)) = false → z15 = .v (vI 0) ∧ z13 = []); let z3 := hasId z16 x2.msg; let z4 := (!decide (x2.kind = 8)) = false → z15 = .v (vI 0) ∧ z13 = []; let z5 := decide (x2.kind = 8); let z6 := hasNum z10 x2.number; let z7 := numberOk x2.number; (x1.fields[Int.toNat field]? = some x2) ∧ z17 ∧ (Fun Tryz.prog 140 [vI x2.number] [] (.v (vB z7)) []) ∧ ((!z7) = true → (.v (vI 5) : S) = .v (vI 0) ∧ z13 = []) ∧ ((!z7) = false → (field ≤ z9) ∧ z17 ∧ (field ≤ z9) ∧ z17 ∧ (Fun Tryz.prog 158 [.c (.seq .fld z10), vI x2.number] [] (.v (vB z6)) []) ∧ (z6 = false) ∧ (Fun Tryz.prog 135 [vI x2.kind] [] (.v (vB (kindOk x2.kind))) []) ∧ ((!(kindOk x2.kind)) = true → (.v (vI 7) : S) = .v (vI 0) ∧ z13 = []) ∧ ((!(kindOk x2.kind)) = false → (x2.packed = true → ((!x2.rep) = true → (.v (vI 8) : S) = .v (vI 0) ∧ z13 = []) ∧ ((!x2.rep) = false → (Fun Tryz.prog 141 [vI x2.kind] [] (.v (vB (numeric x2.kind))) []) ∧ ((!(numeric x2.kind)) = true → (.v (vI 8) : S) = .v (vI 0) ∧ z13 = []) ∧ ((!(numeric x2.kind)) = false → (z5 = true → (Fun Tryz.prog 176 [.agg [.seq .shp r.msgs], vI x2.msg, vI z12] [] (.v (vB z3)) []) ∧ ((!z3) = true → (.v (vI 9) : S) = .v (vI 0) ∧ z13 = []) ∧ ((!z3) = false → z2 ∧ z4)) ∧ (z5 = false → z2 ∧ z4)))) ∧ (x2.packed = false → (z5 = true → (Fun Tryz.prog 176 [.agg [.seq .shp r.msgs], vI x2.msg, vI z12] [] (.v (vB z3)) []) ∧ ((!z3) = true → (.v (vI 9) : S) = .v (vI 0) ∧ z13 = []) ∧ ((!z3) = false → z2 ∧ z4)) ∧ (z5 = false → z2 ∧ z4)))))))))) (by kernel_rfl) ?_
 refine ⟨(as_i64 (by omega) (by omega)), (within_s _ _ _), fun h1 => have q1 := bnot_t h1; have p1 := within_f q1; ?_, fun h1 => have q1 := bnot_f h1; have p1 := within_t q1; ?_⟩
 exact ⟨rfl, rfl⟩
 refine ⟨(ax_get (l := r.msgs) (i := Int.toNat msg) (by omega)), fun x1 hx1 => ?_⟩
 have hfb := hp3 _ hx1
 have hfg := hp1.flds _ (List.mem_of_getElem? hx1)
 have hfl := hfg.len
 refine ⟨hx1, (by omega), (as_i64 (by omega) (by omega)), (within_s _ _ _), fun h2 => have q2 := bnot_t h2; have p2 := within_f q2; ?_, fun h2 => have q2 := bnot_f h2; have p2 := within_t q2; ?_⟩
 exact ⟨rfl, rfl⟩
 refine ⟨hx1, (by omega), (ax_get (l := x1.fields) (i := Int.toNat field) (by omega)), fun x2 hx2 => ?_⟩
 have hg := hfg.all _ (List.mem_of_getElem? hx2)
 have hnn := hfg.noNum hx2
 have hgk := hg.kd
 have hgm := hg.num
 have hgo : kindOk x2.kind = true := by simp only [kindOk, within, Bool.and_eq_true, decide_eq_true_eq]; omega
 have hgp := hg.pk
 have hgn := hg.no
 refine ⟨hx2, (by omega), (numberOk_s _), fun h3 => have q3 := bnot_t h3; ?_, fun h3 => have q3 := bnot_f h3; ?_⟩
 refine ⟨(sI ?_), rfl⟩
 rotate_left
 refine ⟨(by omega), (by omega), (by omega), (by omega), (hasNum_s _ _ (by simp only [List.length_take]; omega)), hnn, (kindOk_s _), fun h4 => have q4 := bnot_t h4; have p4 := within_f q4; ?_, fun h4 => have q4 := bnot_f h4; have p4 := within_t q4; ?_⟩
 refine ⟨(sI ?_), rfl⟩
 rotate_left
 refine ⟨fun h5 => ?_, fun h5 => ?_⟩
 refine ⟨fun h6 => have q6 := bnot_t h6; ?_, fun h6 => have q6 := bnot_f h6; ?_⟩
 refine ⟨(sI ?_), rfl⟩
 rotate_left
 refine ⟨(numeric_s _), fun h7 => have q7 := bnot_t h7; have p7 := within_f q7; ?_, fun h7 => have q7 := bnot_f h7; have p7 := within_t q7; ?_⟩
 refine ⟨(sI ?_), rfl⟩
 rotate_left
 refine dsp (fun h8 p8 => ?_) fun h8 p8 => ?_
 have hir := (hasId_t (l := r.msgs)).2 (hg.ref (by omega))
 refine ⟨(hasId_s r _ _ (by omega) (by omega)), fun h9 => have q9 := bnot_t h9; ?_, fun h9 => have q9 := bnot_f h9; ?_⟩
 refine ⟨(sI ?_), rfl⟩
 rotate_left
 refine ⟨fun h10 => have q10 := bnot_t h10; have p10 := of_decide_eq_false q10; ?_, fun h10 => have q10 := bnot_f h10; have p10 := of_decide_eq_true q10; ?_⟩
 refine ⟨fun h11 => have q11 := bnot_t h11; have p11 := of_decide_eq_false q11; ?_, fun h11 => have q11 := bnot_f h11; have p11 := of_decide_eq_true q11; ?_⟩
 refine ⟨(sI ?_), rfl⟩
 rotate_left
 exact ⟨rfl, rfl⟩
 exact ⟨rfl, rfl⟩
 refine ⟨fun h9 => have q9 := bnot_t h9; have p9 := of_decide_eq_false q9; ?_, fun h9 => have q9 := bnot_f h9; have p9 := of_decide_eq_true q9; ?_⟩
 refine ⟨fun h10 => have q10 := bnot_t h10; have p10 := of_decide_eq_false q10; ?_, fun h10 => have q10 := bnot_f h10; have p10 := of_decide_eq_true q10; ?_⟩
 refine ⟨(sI ?_), rfl⟩
 rotate_left
 exact ⟨rfl, rfl⟩
 exact ⟨rfl, rfl⟩
 refine dsp (fun h6 p6 => ?_) fun h6 p6 => ?_
 have hir := (hasId_t (l := r.msgs)).2 (hg.ref (by omega))
 refine ⟨(hasId_s r _ _ (by omega) (by omega)), fun h7 => have q7 := bnot_t h7; ?_, fun h7 => have q7 := bnot_f h7; ?_⟩
 refine ⟨(sI ?_), rfl⟩
 rotate_left
 refine ⟨fun h8 => have q8 := bnot_t h8; have p8 := of_decide_eq_false q8; ?_, fun h8 => have q8 := bnot_f h8; have p8 := of_decide_eq_true q8; ?_⟩
 refine ⟨fun h9 => have q9 := bnot_t h9; have p9 := of_decide_eq_false q9; ?_, fun h9 => have q9 := bnot_f h9; have p9 := of_decide_eq_true q9; ?_⟩
 refine ⟨(sI ?_), rfl⟩
 rotate_left
 exact ⟨rfl, rfl⟩
 exact ⟨rfl, rfl⟩
 refine ⟨fun h7 => have q7 := bnot_t h7; have p7 := of_decide_eq_false q7; ?_, fun h7 => have q7 := bnot_f h7; have p7 := of_decide_eq_true q7; ?_⟩
 refine ⟨fun h8 => have q8 := bnot_t h8; have p8 := of_decide_eq_false q8; ?_, fun h8 => have q8 := bnot_f h8; have p8 := of_decide_eq_true q8; ?_⟩
 refine ⟨(sI ?_), rfl⟩
 rotate_left
 exact ⟨rfl, rfl⟩
 exact ⟨rfl, rfl⟩
 all_goals first | (rfl) | ((exfalso; simp_all [numeric, within]; omega)) | ((exfalso; simp_all [numeric, within]; done)) | ((exfalso; omega)) | (grind)
structure first_s_V0 where
 i : Nat
def first_s_F0 (r : Raw) : Fam := ⟨first_s_V0, fun q1 => [(1, .v (vP 0)), (2, .v (vP 1)), (3, .v (vI ((q1.i : Nat) : Int)))], fun _ => [.cells [.seq .shp r.msgs], .cells [.int .i64 0, .int .i64 0, .int .i64 0]], fun q1 => q1.i ≤ List.length r.msgs, fun q1 => List.length r.msgs - q1.i⟩
structure first_s_V1 where
 k : Nat
def first_s_F1 (r : Raw) (q1 : first_s_V0) : Fam := ⟨first_s_V1, fun q2 => [(1, .v (vP 0)), (2, .v (vP 1)), (3, .v (vI ((q1.i : Nat) : Int))), (5, .v (vI ((q2.k : Nat) : Int)))], fun _ => [.cells [.seq .shp r.msgs], .cells [.int .i64 0, .int .i64 0, .int .i64 0]], fun q2 => q2.k ≤ 5, fun q2 => 5 - q2.k⟩
theorem first_s (r : Raw) (hp1 : RawK (List.length (r).msgs) (r).msgs) : Fun Tryz.prog 155 [.agg [.seq .shp r.msgs]] [] (.v (.agg [.int .i64 0, .int .i64 0, .int .i64 0])) [] := by
 have hN : bigN = 274877906944 := rfl
 have hpos := hp1.pos
 refine fun_ofw Tryz.func155 (by kernel_rfl) (by kernel_rfl) (w := let zi : Int → C := .int .i64; let z4 : List Blk := [.cells [.seq .shp r.msgs], .cells [zi 0, zi 0, zi 0]]; let z5 := ((List.length r.msgs : Nat) : Int); let z6 := first_s_F0 r; (.br (.leaf () []) (.seg [.at 0, .keep [1, 2, 3], .sel [0, 1]] (.loop z6 fun q1 => .br (.seg [.call [] (.v (vI 0)) [], .br false, .at 0, .keep [1, 2, 3, 5], .sel [0, 1]] (.loop (first_s_F1 r q1) fun q2 => .intro (fun (x1 : Shp) => r.msgs[q1.i]? = some x1) fun x1 => .seg [.el .shp x1] (.br (.seg [.call [] (.v (vI 0)) [], .br false, .as 36 (.v (vI (((q2.k : Nat) : Int) + 1))), .at 0, .keep [1, 2, 3, 5], .sel [0, 1]] (.next)) (.seg [.as 17 (.v (vI (((q1.i : Nat) : Int) + 1))), .at 0, .keep [1, 2, 3], .sel [0, 1]] (.next))))) (.leaf () []))), ((decide (6 < z5)) = true → (.v (.agg [zi 1, zi 6, zi (-1)]) : S) = .v (.agg [zi 0, zi 0, zi 0]) ∧ ([] : List Blk) = []) ∧ ((decide (6 < z5)) = false → z6.Has [(1, .v (vP 0)), (2, .v (vP 1)), (3, .v (vI 0))] z4 ∧ ∀ q1, z6.inv q1 → (let z3 := ((q1.i : Nat) : Int); ((decide (z3 < z5)) = true → (Fun Tryz.prog 171 [.agg [.seq .shp r.msgs], vI z3] [] (.v (vI 0)) []) ∧ ((!decide (0 = 0)) = false) ∧ (first_s_F1 r q1).Has [(1, .v (vP 0)), (2, .v (vP 1)), (3, .v (vI z3)), (5, .v (vI 0))] z4 ∧ ∀ q2, (first_s_F1 r q1).inv q2 → (let z2 := ((q2.k : Nat) : Int); (∃ (x1 : Shp), r.msgs[q1.i]? = some x1) ∧ ∀ (x1 : Shp), (r.msgs[q1.i]? = some x1) → (let z1 := decide (z2 < ((List.length x1.fields : Nat) : Int)); (r.msgs[q1.i]? = some x1) ∧ ((0 : Int) ≤ z3) ∧ (z1 = true → (Fun Tryz.prog 172 [.agg [.seq .shp r.msgs], vI z3, vI z2] [] (.v (vI 0)) []) ∧ ((!decide (0 = 0)) = false) ∧ ((.v (vI (IntKind.i64.wrap (z2 + 1))) : S) = .v (vI (z2 + 1))) ∧ (first_s_F1 r q1).Nxt q2 [(1, .v (vP 0)), (2, .v (vP 1)), (3, .v (vI z3)), (5, .v (vI (z2 + 1)))] z4) ∧ (z1 = false → ((.v (vI (IntKind.i64.wrap (z3 + 1))) : S) = .v (vI (z3 + 1))) ∧ z6.Nxt q1 [(1, .v (vP 0)), (2, .v (vP 1)), (3, .v (vI (z3 + 1)))] z4)))) ∧ ((decide (z3 < z5)) = false → (.v (.agg [zi 0, zi 0, zi 0]) : S) = .v (.agg [zi 0, zi 0, zi 0]) ∧ ([] : List Blk) = []))))) (by kernel_rfl) ?_
 refine dsp (fun h1 p1 => ?_) fun h1 p1 => ?_
 refine ⟨(congrArg S.v (congrArg V.agg (consE (congrArg (C.int .i64) ?_) (consE (congrArg (C.int .i64) ?_) (consE (congrArg (C.int .i64) ?_) rfl))))), rfl⟩
 rotate_left 3
 refine ⟨has_of (j := (⟨0⟩ : first_s_V0)) (by first | rfl | simp) rfl (by dsimp only [first_s_F0]; omega), fun (q1 : first_s_V0) hq_q1 => ?_⟩
 have hi_q1 : q1.i ≤ List.length r.msgs := hq_q1
 have v1 := hi_q1
 refine dsp (fun h2 p2 => ?_) fun h2 p2 => ?_
 refine ⟨(msgCode_s r _ (by omega) (by omega)), (by decide), has_of (j := (⟨0⟩ : first_s_V1)) (by first | rfl | simp) rfl (by dsimp only [first_s_F1]; omega), fun (q2 : first_s_V1) hq_q2 => ?_⟩
 have hi_q2 : q2.k ≤ 5 := hq_q2
 have w1 := hi_q2
 refine ⟨(ax_get (l := r.msgs) (i := q1.i) (by omega)), fun x1 hx1 => ?_⟩
 have hfl := (hp1.flds _ (List.mem_of_getElem? hx1)).len
 refine ⟨hx1, (by omega), dsp (fun h3 p3 => ?_) fun h3 p3 => ?_⟩
 exact ⟨(fieldCode_s r _ _ (by omega) (by omega) (fun m hm => by (try simp only [Int.toNat_natCast] at hm); rw [hx1] at hm; cases hm; omega)), (by decide), (as_i64 (by omega) (by omega)), nxt_of (j := (⟨q2.k + 1⟩ : first_s_V1)) (by first | rfl | simp) rfl (by dsimp only [first_s_F1]; omega) (by dsimp only [first_s_F1]; omega)⟩
 exact ⟨(as_i64 (by omega) (by omega)), nxt_of (j := (⟨q1.i + 1⟩ : first_s_V0)) (by first | rfl | simp) rfl (by dsimp only [first_s_F0]; omega) (by dsimp only [first_s_F0]; omega)⟩
 exact ⟨rfl, rfl⟩
 all_goals first | (rfl) | ((exfalso; simp_all [numeric, within]; omega)) | ((exfalso; simp_all [numeric, within]; done)) | ((exfalso; omega)) | (grind)
structure rank_s_V0 where
 n : Int
 i : Nat
def rank_s_F0 (r : Raw) (id : Int) : Fam := ⟨rank_s_V0, fun q1 => [(1, .v (vI id)), (2, .v (vP 0)), (5, .v (vI q1.n)), (6, .v (vI ((q1.i : Nat) : Int)))], fun _ => [.cells [.seq .shp r.msgs]], fun q1 => q1.i ≤ List.length r.msgs ∧ q1.n = ((rank (List.take q1.i r.msgs) id : Nat) : Int), fun q1 => List.length r.msgs - q1.i⟩
theorem rank_s (r : Raw) (id : Int) (hp1 : List.length (r).msgs ≤ 1000) : Fun Tryz.prog 156 [.agg [.seq .shp r.msgs], vI id] [] (.v (vI ((rank (r).msgs id : Nat) : Int))) [] := by
 have hN : bigN = 274877906944 := rfl
 refine fun_ofw Tryz.func156 (by kernel_rfl) (by kernel_rfl) (w := let z2 := rank_s_F0 r id; let z3 : List Blk := [.cells [.seq .shp r.msgs]]; let z4 := ((List.length r.msgs : Nat) : Int); (.seg [.at 0, .keep [1, 2, 5, 6], .sel [0]] (.loop z2 fun q1 => .br (.intro (fun (x1 : Shp) => r.msgs[q1.i]? = some x1) fun x1 => .seg [.el .shp x1] (.br (.seg [.as 23 (.v (vI (q1.n + 1))), .as 13 (.v (vI (((q1.i : Nat) : Int) + 1))), .at 0, .keep [1, 2, 5, 6], .sel [0]] (.next)) (.seg [.as 13 (.v (vI (((q1.i : Nat) : Int) + 1))), .at 0, .keep [1, 2, 5, 6], .sel [0]] (.next)))) (.leaf () [])), z2.Has [(1, .v (vI id)), (2, .v (vP 0)), (5, .v (vI 0)), (6, .v (vI 0))] z3 ∧ ∀ q1, z2.inv q1 → (let z1 := ((q1.i : Nat) : Int); ((decide (z1 < z4)) = true → (∃ (x1 : Shp), r.msgs[q1.i]? = some x1) ∧ ∀ (x1 : Shp), (r.msgs[q1.i]? = some x1) → ((r.msgs[q1.i]? = some x1) ∧ ((0 : Int) ≤ z1) ∧ ((decide (x1.id < id)) = true → ((.v (vI (IntKind.i64.wrap (q1.n + 1))) : S) = .v (vI (q1.n + 1))) ∧ ((.v (vI (IntKind.i64.wrap (z1 + 1))) : S) = .v (vI (z1 + 1))) ∧ z2.Nxt q1 [(1, .v (vI id)), (2, .v (vP 0)), (5, .v (vI (q1.n + 1))), (6, .v (vI (z1 + 1)))] z3) ∧ ((decide (x1.id < id)) = false → ((.v (vI (IntKind.i64.wrap (z1 + 1))) : S) = .v (vI (z1 + 1))) ∧ z2.Nxt q1 [(1, .v (vI id)), (2, .v (vP 0)), (5, .v (vI q1.n)), (6, .v (vI (z1 + 1)))] z3))) ∧ ((decide (z1 < z4)) = false → (.v (vI q1.n) : S) = .v (vI ((rank (r).msgs id : Nat) : Int)) ∧ ([] : List Blk) = [])))) (by kernel_rfl) ?_
 refine ⟨has_of (j := (⟨0, 0⟩ : rank_s_V0)) (by first | rfl | simp) rfl (by dsimp only [rank_s_F0]; exact ⟨by omega, by simp [rank]⟩), fun (q1 : rank_s_V0) hq_q1 => ?_⟩
 have hi_q1 : q1.i ≤ List.length r.msgs ∧ q1.n = ((rank (List.take q1.i r.msgs) id : Nat) : Int) := hq_q1
 obtain ⟨v1, v2⟩ := hi_q1
 refine dsp (fun h1 p1 => ?_) fun h1 p1 => ?_
 refine ⟨(ax_get (l := r.msgs) (i := q1.i) (by omega)), fun x1 hx1 => ?_⟩
 have hrk := rank_le (List.take q1.i r.msgs) id
 have hrl : (List.take q1.i r.msgs).length ≤ q1.i := by rw [List.length_take]; omega
 refine ⟨hx1, (by omega), dsp (fun h2 p2 => ?_) fun h2 p2 => ?_⟩
 exact ⟨(as_i64 (by omega) (by omega)), (as_i64 (by omega) (by omega)), nxt_of (j := (⟨q1.n + 1, q1.i + 1⟩ : rank_s_V0)) (by first | rfl | simp) rfl (by dsimp only [rank_s_F0]; exact ⟨by omega, by rw [rank_take hx1]; split <;> omega⟩) (by dsimp only [rank_s_F0]; omega)⟩
 exact ⟨(as_i64 (by omega) (by omega)), nxt_of (j := (⟨q1.n, q1.i + 1⟩ : rank_s_V0)) (by first | rfl | simp) rfl (by dsimp only [rank_s_F0]; exact ⟨by omega, by rw [rank_take hx1]; split <;> omega⟩) (by dsimp only [rank_s_F0]; omega)⟩
 have hin : List.take q1.i r.msgs = r.msgs := List.take_of_length_le (by omega)
 rw [hin] at v2
 refine ⟨(sI ?_), rfl⟩
 rotate_left
 all_goals first | ((rw [v2]; done)) | ((exact v2)) | (omega)
theorem put_mem {l : List Fld} {f g : Fld} {k : Nat} (h : g ∈ (([] ++ List.take k l) ++ [f]) ++ List.drop k l) : g = f ∨ g ∈ l := by
 simp only [List.nil_append, List.mem_append, List.mem_singleton] at h
 rcases h with (h | h) | h
 ·exact .inr (List.mem_of_mem_take h)
 ·exact .inl h
 ·exact .inr (List.mem_of_mem_drop h)
structure put_o_O where
 o : List Fld
def put_o_f (l : List Fld) (f : Fld) (o : put_o_O) : Prop := Fun Tryz.prog 157 [.c (.seq .fld l), .agg (cFld f)] [] (.v (vO 0)) [.lst .fld o.o]
def put_o_p (l : List Fld) (f : Fld) (o : put_o_O) : Prop := ((List.length o.o = List.length l + 1) ∧ (∀ g ∈ o.o, g = f ∨ g ∈ l)) ∧ put_o_f l f o
structure put_o_V0 where
 k : Nat
def put_o_F0 (l : List Fld) (f : Fld) : Fam := ⟨put_o_V0, fun q1 => [(0, .v (.c (.seq .fld l))), (3, .v (vP 0)), (5, .v (vI ((q1.k : Nat) : Int)))], fun _ => [.cells (cFld f)], fun q1 => q1.k ≤ List.length l, fun q1 => List.length l - q1.k⟩
theorem put_o (l : List Fld) (f : Fld) (hp1 : List.length l ≤ 1000) : ∃ o : put_o_O, put_o_p l f o := by
 have hN : bigN = 274877906944 := rfl
 refine funs_ofw Tryz.func157 (by kernel_rfl) (by kernel_rfl) (w := let z7 := ((List.length l : Nat) : Int); let z8 := put_o_F0 l f; (.seg [.at 0, .keep [0, 3, 5], .sel [0]] (.loop z8 fun q1 => let z1 := (([] : List Fld) ++ (List.take q1.k l)) ++ [f]; .case (decide (((q1.k : Nat) : Int) < z7)) (.intro (fun (x1 : Fld) => l[q1.k]? = some x1) fun x1 => .seg [.ord (os 14 []) [], .br true, .el .fld x1] (.br (.seg [.as 22 (.v (vI (((q1.k : Nat) : Int) + 1))), .at 0, .keep [0, 3, 5], .sel [0]] (.next)) (.seg [.ty .fld, .ty .fld, .ord [(0, true), (1, true), (4, true), (5, true), (6, true), (2, false), (3, false), (7, false), (8, true)] [2], .ty .fld, .ty .fld, .ty .fld] (.leaf (⟨z1 ++ (List.drop q1.k l)⟩ : put_o_O) [5])))) (.seg [.ord (os 14 []) [], .br false, .ty .fld, .ty .fld, .ord [(0, true), (1, true), (4, true), (5, true), (6, true), (2, false), (3, false), (7, false), (8, true)] [2], .ty .fld, .ty .fld, .ty .fld] (.leaf (⟨z1 ++ (List.drop q1.k l)⟩ : put_o_O) [5]))), z8.Has [(0, .v (.c (.seq .fld l))), (3, .v (vP 0)), (5, .v (vI 0))] [.cells (cFld f)] ∧ ∀ q1, z8.inv q1 → (let z3 := ((q1.k : Nat) : Int); let z4 := ([] : List Fld) ++ (List.take q1.k l); let z2 := (z4 ++ [f]) ++ (List.drop q1.k l); let z5 := List.length ([] : List Fld) + List.length (List.take q1.k l) ≤ bigN; let z6 := List.length (z4 ++ [f]) + List.length (List.drop q1.k l) ≤ bigN; ((decide (z3 < z7)) = true → (∃ (x1 : Fld), l[q1.k]? = some x1) ∧ ∀ (x1 : Fld), (l[q1.k]? = some x1) → (((decide (z3 < z7)) = true) ∧ (l[q1.k]? = some x1) ∧ ((0 : Int) ≤ z3) ∧ (l[q1.k]? = some x1) ∧ ((0 : Int) ≤ z3) ∧ ((decide (x1.number < f.number)) = true → ((.v (vI (IntKind.i64.wrap (z3 + 1))) : S) = .v (vI (z3 + 1))) ∧ z8.Nxt q1 [(0, .v (.c (.seq .fld l))), (3, .v (vP 0)), (5, .v (vI (z3 + 1)))] [.cells (cFld f)]) ∧ ((decide (x1.number < f.number)) = false → (z3 ≤ z7) ∧ ((0 : Int) ≤ z3) ∧ z5 ∧ (z3 ≤ z7) ∧ ((0 : Int) ≤ z3) ∧ (z3 ≤ z7) ∧ ((0 : Int) ≤ z3) ∧ (List.length z4 + List.length [f] ≤ bigN) ∧ z6 ∧ ((List.length z2 = List.length l + 1) ∧ (∀ g ∈ z2, g = f ∨ g ∈ l)) ∧ (.v (vO 0) : S) = .v (vO 0) ∧ ([.lst .fld z2] : List Blk) = [.lst .fld z2]))) ∧ ((decide (z3 < z7)) = false → ((decide (z3 < z7)) = false) ∧ (z3 ≤ z7) ∧ ((0 : Int) ≤ z3) ∧ z5 ∧ (z3 ≤ z7) ∧ ((0 : Int) ≤ z3) ∧ (z3 ≤ z7) ∧ ((0 : Int) ≤ z3) ∧ (List.length z4 + List.length [f] ≤ bigN) ∧ z6 ∧ ((List.length z2 = List.length l + 1) ∧ (∀ g ∈ z2, g = f ∨ g ∈ l)) ∧ (.v (vO 0) : S) = .v (vO 0) ∧ ([.lst .fld z2] : List Blk) = [.lst .fld z2])))) (by kernel_rfl) ?_
 refine ⟨has_of (j := (⟨0⟩ : put_o_V0)) (by first | rfl | simp) rfl (by dsimp only [put_o_F0]; omega), fun (q1 : put_o_V0) hq_q1 => ?_⟩
 have hi_q1 : q1.k ≤ List.length l := hq_q1
 have v1 := hi_q1
 refine dsp (fun h1 p1 => ?_) fun h1 p1 => ?_
 refine ⟨(ax_get (l := l) (i := q1.k) (by omega)), fun x1 hx1 => ?_⟩
 refine ⟨h1, hx1, (by omega), hx1, (by omega), dsp (fun h2 p2 => ?_) fun h2 p2 => ?_⟩
 exact ⟨(as_i64 (by omega) (by omega)), nxt_of (j := (⟨q1.k + 1⟩ : put_o_V0)) (by first | rfl | simp) rfl (by dsimp only [put_o_F0]; omega) (by dsimp only [put_o_F0]; omega)⟩
 exact ⟨(by omega), (by omega), (by simp only [List.length_take, List.length_cons, List.length_nil]; omega), (by omega), (by omega), (by omega), (by omega), (by simp; omega), (by simp; omega), ⟨(by simp; omega), (fun g hg => put_mem hg)⟩, rfl, rfl⟩
 exact ⟨h1, (by omega), (by omega), (by simp only [List.length_take, List.length_cons, List.length_nil]; omega), (by omega), (by omega), (by omega), (by omega), (by simp; omega), (by simp; omega), ⟨(by simp; omega), (fun g hg => put_mem hg)⟩, rfl, rfl⟩
def FldC (n : Nat) (f : Fld) : Prop := 1 ≤ f.kind ∧ f.kind ≤ 8 ∧ (f.kind = 8 → 0 ≤ f.msg ∧ f.msg < (n : Int))
theorem rep_good {n m : Nat} {e : Shp} (h : e ∈ List.replicate m (⟨0, []⟩ : Shp)) : ShpG n e.fields := by
 rw [List.eq_of_mem_replicate h]
 exact ⟨by simp, fun f hf => by cases hf⟩
theorem set_good {n k : Nat} {l : List Shp} {x e : Shp} (h : ∀ e ∈ l, ShpG n e.fields) (hx : ShpG n x.fields) (he : e ∈ l.set k x) : ShpG n e.fields := by
 rcases List.mem_or_eq_of_mem_set he with he | rfl
 ·exact h e he
 ·exact hx
theorem set_same {l : List Shp} {i : Nat} {x : Shp} (h : l[i]? = some x) : l.set i ⟨x.id, x.fields⟩ = l := by
 apply List.ext_getElem?
 intro j
 rw [List.getElem?_set]
 split
 ·rename_i hij
  subst hij
  rw [if_pos (List.getElem?_eq_some_iff.1 h).1, h]
 ·rfl
theorem ids3_next {l : List Shp} {i : Nat} {x : Int} (hl : idsOf l = List.take i [5, 1, 99]) (hi : i < 3) (hx : ([5, 1, 99, 7] : List Int)[i]? = some x) : idsOf (l ++ [⟨x, []⟩]) = List.take (i + 1) [5, 1, 99] := by
 have : idsOf (l ++ [⟨x, []⟩]) = idsOf l ++ [x] := by simp [idsOf]
 rw [this, hl]
 have h3 : i = 0 ∨ i = 1 ∨ i = 2 := by omega
 rcases h3 with rfl | rfl | rfl <;> simp at hx <;> subst hx <;> rfl
theorem raw_start {n : Nat} {l : List Shp} (h1 : l.length = n) (h2 : 1 ≤ n ∧ n ≤ 3) (h3 : idsOf l = List.take n [5, 1, 99]) (h4 : ∀ m ∈ l, m.fields = []) : RawK n l :=
 ⟨h1, h2, h3, fun m hm => by rw [h4 m hm]; exact ⟨by simp, by simp [nums], fun f hf => by cases hf⟩⟩
theorem set_far {l : List Shp} {i j : Nat} {x m : Shp} (h : ∀ j m, i < j → l[j]? = some m → m.fields = []) (hj : i < j) (hm : (l.set i x)[j]? = some m) : m.fields = [] := by
 rw [List.getElem?_set_ne (by omega)] at hm
 exact h j m hj hm
structure compile_o_O where
 l : List Shp
def compile_o_f (r : Raw) (o : compile_o_O) : Prop := Fun Tryz.prog 114 [.agg [.seq .shp r.msgs]] [] (.tup [.agg [.own 0], .agg [.int .i64 0, .int .i64 0, .int .i64 0]]) [.tree o.l]
def compile_o_p (r : Raw) (o : compile_o_O) : Prop := ((SchG o.l)) ∧ compile_o_f r o
structure compile_o_V0 where
 shapes : List Shp
 i : Nat
def compile_o_F0 (r : Raw) : Fam := ⟨compile_o_V0, fun q1 => [(1, .v (vP 0)), (2, .v (vP 1)), (3, .v (vP 2)), (4, .v (vP 3)), (5, .v (vP 4)), (6, .v (vI ((q1.i : Nat) : Int)))], fun q1 => [.cells [.seq .shp r.msgs], .cells [.nil], .cells [.int .i64 0, .int .i64 0, .int .i64 0], .cells [.int .i64 0, .int .i64 0, .int .i64 0], .cells [.own 5], .tree q1.shapes], fun q1 => q1.i ≤ List.length r.msgs ∧ List.length q1.shapes = List.length r.msgs ∧ ∀ e ∈ q1.shapes, ShpG (List.length r.msgs) e.fields, fun q1 => List.length r.msgs - q1.i⟩
structure compile_o_V1 where
 x : Shp
 k : Nat
def compile_o_F1 (r : Raw) (q1 : compile_o_V0) (x1 : Shp) : Fam := ⟨compile_o_V1, fun q2 => [(1, .v (vP 0)), (2, .v (vP 1)), (3, .v (vP 2)), (4, .v (vP 3)), (5, .v (vP 4)), (6, .v (vI ((q1.i : Nat) : Int))), (7, .v (vP 6)), (8, .v (vI ((q2.k : Nat) : Int)))], fun q2 => [.cells [.seq .shp r.msgs], .cells [.nil], .cells [.int .i64 0, .int .i64 0, .int .i64 0], .cells [.int .i64 0, .int .i64 0, .int .i64 0], .cells [.own 5], .tree q1.shapes, .cells [.int .i64 q2.x.id, .own 7], .lst .fld q2.x.fields], fun q2 => q2.k ≤ List.length x1.fields ∧ (q2.x).id = x1.id ∧ List.length (q2.x).fields = q2.k ∧ ∀ f ∈ (q2.x).fields, FldC (List.length r.msgs) f, fun q2 => List.length x1.fields - q2.k⟩
theorem compile_o (r : Raw) (hp1 : RawK (List.length (r).msgs) (r).msgs) : ∃ o : compile_o_O, compile_o_p r o := by
 have hN : bigN = 274877906944 := rfl
 have hpos := hp1.pos
 refine funs_ofw Tryz.func114 (by kernel_rfl) (by kernel_rfl) (w := let zi : Int → C := .int .i64; let z11 := ((List.length r.msgs : Nat) : Int); let z12 := compile_o_F0 r; (.seg [.call [] (.v (.agg [zi 0, zi 0, zi 0])) [], .br false, .tyT, .at 0, .keep [1, 2, 3, 4, 5, 6], .sel [0, 1, 2, 3, 5, 4]] (.loop z12 fun q1 => .br (.intro (fun (x1 : Shp) => r.msgs[q1.i]? = some x1) fun x1 => .seg [.el .shp x1, .at 0, .mk 6 1 .fld, .keep [1, 2, 3, 4, 5, 6, 7, 8], .sel [0, 1, 2, 3, 4, 5, 6, 7]] (.loop (compile_o_F1 r q1 x1) fun q2 => .seg [.el .shp x1] (.br (.seg [.el .shp x1] (.intro (fun (x2 : Fld) => x1.fields[q2.k]? = some x2) fun x2 => let z1 := ((rank (r).msgs x2.msg : Nat) : Int); .seg [.el .fld x2] (.br (.seg [.call [] (.v (vI z1)) []] (.intro (put_o_p q2.x.fields (⟨x2.number, x2.kind, x2.rep, x2.packed, z1⟩ : Fld)) fun o1 => .seg [.call [] (.v (vO 0)) [.lst .fld o1.o], .as 47 (.v (vI (((q2.k : Nat) : Int) + 1))), .at 0, .keep [1, 2, 3, 4, 5, 6, 7, 8], .sel [0, 1, 2, 3, 4, 5, 6, 10]] (.next))) (.intro (put_o_p q2.x.fields (⟨x2.number, x2.kind, x2.rep, x2.packed, (-1)⟩ : Fld)) fun o1 => .seg [.call [] (.v (vO 0)) [.lst .fld o1.o], .as 47 (.v (vI (((q2.k : Nat) : Int) + 1))), .at 0, .keep [1, 2, 3, 4, 5, 6, 7, 8], .sel [0, 1, 2, 3, 4, 5, 6, 10]] (.next))))) (.intro (fun (x2 : Shp) => q1.shapes[rank (r).msgs q2.x.id]? = some x2) fun x2 => .seg [.ord [(0, true), (1, true), (2, true), (3, true), (4, true), (6, true), (5, false), (7, true), (8, false)] [], .call [] (.v (vI ((rank (r).msgs q2.x.id : Nat) : Int))) [], .el .shp x2, .as 29 (.v (vI (((q1.i : Nat) : Int) + 1))), .at 0, .keep [1, 2, 3, 4, 5, 6], .sel [0, 1, 2, 3, 4, 5]] (.next))))) (.seg [.ord (os 4 [2, 3]) [1]] (.leaf (⟨q1.shapes⟩ : compile_o_O) [5]))), (Fun Tryz.prog 155 [.agg [.seq .shp r.msgs]] [] (.v (.agg [zi 0, zi 0, zi 0])) []) ∧ ((!decide (0 = 0)) = false) ∧ (z11 ≤ 9223372036854775807) ∧ (((32 : Nat) : Int) * z11 ≤ 281474976710656) ∧ (z11 ≤ z11) ∧ ((0 : Int) ≤ z11) ∧ z12.Has [(1, .v (vP 0)), (2, .v (vP 1)), (3, .v (vP 2)), (4, .v (vP 3)), (5, .v (vP 4)), (6, .v (vI 0))] [.cells [.seq .shp r.msgs], .cells [.nil], .cells [zi 0, zi 0, zi 0], .cells [zi 0, zi 0, zi 0], .cells [.own 5], .tree (List.replicate (List.length r.msgs) (⟨0, ([] : List Fld)⟩ : Shp))] ∧ ∀ q1, z12.inv q1 → (let z10 := ((q1.i : Nat) : Int); ((decide (z10 < z11)) = true → (∃ (x1 : Shp), r.msgs[q1.i]? = some x1) ∧ ∀ (x1 : Shp), (r.msgs[q1.i]? = some x1) → (let z7 := compile_o_F1 r q1 x1; let z8 := r.msgs[q1.i]? = some x1; let z9 := ((List.length x1.fields : Nat) : Int); z8 ∧ ((0 : Int) ≤ z10) ∧ z7.Has [(1, .v (vP 0)), (2, .v (vP 1)), (3, .v (vP 2)), (4, .v (vP 3)), (5, .v (vP 4)), (6, .v (vI z10)), (7, .v (vP 6)), (8, .v (vI 0))] [.cells [.seq .shp r.msgs], .cells [.nil], .cells [zi 0, zi 0, zi 0], .cells [zi 0, zi 0, zi 0], .cells [.own 5], .tree q1.shapes, .cells [zi x1.id, .own 7], .lst .fld ([] : List Fld)] ∧ ∀ q2, z7.inv q2 → (let z5 := ((q2.k : Nat) : Int); let z6 := ((rank (r).msgs q2.x.id : Nat) : Int); z8 ∧ ((0 : Int) ≤ z10) ∧ ((decide (z5 < z9)) = true → z8 ∧ ((0 : Int) ≤ z10) ∧ (∃ (x2 : Fld), x1.fields[q2.k]? = some x2) ∧ ∀ (x2 : Fld), (x1.fields[q2.k]? = some x2) → (let z3 := (⟨x2.number, x2.kind, x2.rep, x2.packed, (-1)⟩ : Fld); let z4 := ((rank (r).msgs x2.msg : Nat) : Int); let z2 := (⟨x2.number, x2.kind, x2.rep, x2.packed, z4⟩ : Fld); (x1.fields[q2.k]? = some x2) ∧ ((0 : Int) ≤ z5) ∧ ((decide (x2.kind = 8)) = true → (Fun Tryz.prog 156 [.agg [.seq .shp r.msgs], vI x2.msg] [] (.v (vI z4)) []) ∧ In (put_o_p q2.x.fields z2) fun o1 => ((put_o_f q2.x.fields z2 o1) ∧ ((.v (vI (IntKind.i64.wrap (z5 + 1))) : S) = .v (vI (z5 + 1))) ∧ z7.Nxt q2 [(1, .v (vP 0)), (2, .v (vP 1)), (3, .v (vP 2)), (4, .v (vP 3)), (5, .v (vP 4)), (6, .v (vI z10)), (7, .v (vP 6)), (8, .v (vI (z5 + 1)))] [.cells [.seq .shp r.msgs], .cells [.nil], .cells [zi 0, zi 0, zi 0], .cells [zi 0, zi 0, zi 0], .cells [.own 5], .tree q1.shapes, .cells [zi q2.x.id, .own 7], .lst .fld o1.o])) ∧ ((decide (x2.kind = 8)) = false → In (put_o_p q2.x.fields z3) fun o1 => ((put_o_f q2.x.fields z3 o1) ∧ ((.v (vI (IntKind.i64.wrap (z5 + 1))) : S) = .v (vI (z5 + 1))) ∧ z7.Nxt q2 [(1, .v (vP 0)), (2, .v (vP 1)), (3, .v (vP 2)), (4, .v (vP 3)), (5, .v (vP 4)), (6, .v (vI z10)), (7, .v (vP 6)), (8, .v (vI (z5 + 1)))] [.cells [.seq .shp r.msgs], .cells [.nil], .cells [zi 0, zi 0, zi 0], .cells [zi 0, zi 0, zi 0], .cells [.own 5], .tree q1.shapes, .cells [zi q2.x.id, .own 7], .lst .fld o1.o])))) ∧ ((decide (z5 < z9)) = false → (∃ (x2 : Shp), q1.shapes[rank (r).msgs q2.x.id]? = some x2) ∧ ∀ (x2 : Shp), (q1.shapes[rank (r).msgs q2.x.id]? = some x2) → ((Fun Tryz.prog 156 [.agg [.seq .shp r.msgs], vI q2.x.id] [] (.v (vI z6)) []) ∧ (z6 < ((List.length q1.shapes : Nat) : Int)) ∧ ((0 : Int) ≤ z6) ∧ (q1.shapes[rank (r).msgs q2.x.id]? = some x2) ∧ ((.v (vI (IntKind.i64.wrap (z10 + 1))) : S) = .v (vI (z10 + 1))) ∧ z12.Nxt q1 [(1, .v (vP 0)), (2, .v (vP 1)), (3, .v (vP 2)), (4, .v (vP 3)), (5, .v (vP 4)), (6, .v (vI (z10 + 1)))] [.cells [.seq .shp r.msgs], .cells [.nil], .cells [zi 0, zi 0, zi 0], .cells [zi 0, zi 0, zi 0], .cells [.own 5], .tree (List.set q1.shapes (rank (r).msgs q2.x.id) (⟨q2.x.id, q2.x.fields⟩ : Shp))]))))) ∧ ((decide (z10 < z11)) = false → ((SchG q1.shapes)) ∧ (.tup [.agg [.own 0], .agg [zi 0, zi 0, zi 0]] : S) = .tup [.agg [.own 0], .agg [zi 0, zi 0, zi 0]] ∧ ([.tree q1.shapes] : List Blk) = [.tree q1.shapes])))) (by kernel_rfl) ?_
 refine ⟨(first_s r (by omega)), (by decide), (by omega), (by omega), (by omega), (by omega), has_of (j := (⟨List.replicate (List.length r.msgs) (⟨0, ([] : List Fld)⟩ : Shp), 0⟩ : compile_o_V0)) (by first | rfl | simp) rfl (by dsimp only [compile_o_F0]; exact ⟨by omega, by simp, fun e he => rep_good he⟩), fun (q1 : compile_o_V0) hq_q1 => ?_⟩
 have hi_q1 : q1.i ≤ List.length r.msgs ∧ List.length q1.shapes = List.length r.msgs ∧ ∀ e ∈ q1.shapes, ShpG (List.length r.msgs) e.fields := hq_q1
 obtain ⟨v1, v2, v3⟩ := hi_q1
 refine dsp (fun h1 p1 => ?_) fun h1 p1 => ?_
 refine ⟨(ax_get (l := r.msgs) (i := q1.i) (by omega)), fun x1 hx1 => ?_⟩
 have hfg := hp1.flds _ (List.mem_of_getElem? hx1)
 have hfl := hfg.len
 have hmi : x1.id ∈ idsOf r.msgs := List.mem_map.2 ⟨_, List.mem_of_getElem? hx1, rfl⟩
 have hrl := rank_lt hmi
 refine ⟨hx1, (by omega), has_of (j := (⟨(⟨x1.id, ([] : List Fld)⟩ : Shp), 0⟩ : compile_o_V1)) (by first | rfl | simp) (by first | rfl | simp) (by dsimp only [compile_o_F1]; exact ⟨by omega, rfl, rfl, fun f hf => by cases hf⟩), fun (q2 : compile_o_V1) hq_q2 => ?_⟩
 have hi_q2 : q2.k ≤ List.length x1.fields ∧ (q2.x).id = x1.id ∧ List.length (q2.x).fields = q2.k ∧ ∀ f ∈ (q2.x).fields, FldC (List.length r.msgs) f := hq_q2
 obtain ⟨w1, w2, w3, w4⟩ := hi_q2
 refine ⟨hx1, (by omega), dsp (fun h2 p2 => ?_) fun h2 p2 => ?_⟩
 refine ⟨hx1, (by omega), (ax_get (l := x1.fields) (i := q2.k) (by omega)), fun x2 hx2 => ?_⟩
 have hg := hfg.all _ (List.mem_of_getElem? hx2)
 have hgk := hg.kd
 refine ⟨hx2, (by omega), dsp (fun h3 p3 => ?_) fun h3 p3 => ?_⟩
 have hir := rank_lt (hg.ref (by omega))
 refine ⟨(rank_s r _ (by omega)), (put_o q2.x.fields (⟨x2.number, x2.kind, x2.rep, x2.packed, ((rank (r).msgs x2.msg : Nat) : Int)⟩ : Fld) (by omega)), fun o1 ho_o1 => ?_⟩
 obtain ⟨⟨hp_o1_0, hp_o1_1⟩, hf_o1⟩ := ho_o1
 exact ⟨hf_o1, (as_i64 (by omega) (by omega)), nxt_of (j := (⟨(⟨q2.x.id, o1.o⟩ : Shp), q2.k + 1⟩ : compile_o_V1)) (by first | rfl | simp) (by first | rfl | simp) (by dsimp only [compile_o_F1]; exact ⟨by omega, w2, by omega, fun f hf => by
           rcases hp_o1_1 f hf with rfl | hf
           ·exact ⟨by dsimp only; omega, by dsimp only; omega, fun h8 => by dsimp only at h8 ⊢; omega⟩
           ·exact w4 f hf⟩) (by dsimp only [compile_o_F1]; omega)⟩
 refine ⟨(put_o q2.x.fields (⟨x2.number, x2.kind, x2.rep, x2.packed, (-1)⟩ : Fld) (by omega)), fun o1 ho_o1 => ?_⟩
 obtain ⟨⟨hp_o1_0, hp_o1_1⟩, hf_o1⟩ := ho_o1
 exact ⟨hf_o1, (as_i64 (by omega) (by omega)), nxt_of (j := (⟨(⟨q2.x.id, o1.o⟩ : Shp), q2.k + 1⟩ : compile_o_V1)) (by first | rfl | simp) (by first | rfl | simp) (by dsimp only [compile_o_F1]; exact ⟨by omega, w2, by omega, fun f hf => by
           rcases hp_o1_1 f hf with rfl | hf
           ·exact ⟨by dsimp only; omega, by dsimp only; omega, fun h8 => by dsimp only at h8 ⊢; omega⟩
           ·exact w4 f hf⟩) (by dsimp only [compile_o_F1]; omega)⟩
 have hxg : ShpG (List.length r.msgs) q2.x.fields := ⟨by omega, w4⟩
 have hrx : rank r.msgs q2.x.id < List.length r.msgs := by rw [w2]; exact hrl
 refine ⟨(ax_get (l := q1.shapes) (i := rank (r).msgs q2.x.id) (by omega)), fun x2 hx2 => ?_⟩
 exact ⟨(rank_s r _ (by omega)), (by omega), (by omega), hx2, (as_i64 (by omega) (by omega)), nxt_of (j := (⟨List.set q1.shapes (rank (r).msgs q2.x.id) (⟨q2.x.id, q2.x.fields⟩ : Shp), q1.i + 1⟩ : compile_o_V0)) (by first | rfl | simp) rfl (by dsimp only [compile_o_F0]; exact ⟨by omega, by rw [List.length_set]; exact v2, fun e he => set_good v3 hxg he⟩) (by dsimp only [compile_o_F0]; omega)⟩
 have hsg : SchG q1.shapes := ⟨by omega, fun e he => by rw [v2]; exact v3 e he⟩
 exact ⟨(hsg), rfl, rfl⟩
end Go.Proofs.YtaflinakodideaaGreat.Ax
