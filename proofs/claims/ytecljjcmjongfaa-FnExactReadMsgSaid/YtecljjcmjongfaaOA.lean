/- The grammar: numbers, runs, texts. -/
import Derived.Test.YtecljjcmjongfaaM2
import Derived.Test.YtecljjcmjongfaaNF
namespace Go.Proofs.Ytecljjcmjongfaa.Ax
open Go.RowKit
set_option linter.unusedSimpArgs false
set_option linter.unusedVariables false
theorem stop_i (r : Mr) (c : Int) (a : Int) : Fun Try.prog 76 [vP 0, vI c, vI a] [.cells (oMr6 1 r), .lst .ev r.out] (.v (vB false)) [.cells (oMr6 1 (mrFail r c a)), .lst .ev (mrFail r c a).out] := by
  have hN : bigN = 274877906944 := rfl
  refine fun_ofw Try.func76 (by kernel_rfl) (by kernel_rfl) (w := let z1 := failEv c a; (.seg [.call [] (.v (.agg (cEv z1))) []] (.leaf () [0, 1]), (Fun Try.prog 120 [vI c, vI a] [] (.v (.agg (cEv z1))) []) ∧ (.v (vB false) : S) = .v (vB false) ∧ ([.cells [.seq .shp r.plan.shapes, .int .i64 r.plan.root, .int .i64 r.plan.deep, .int .i64 r.plan.most, .str r.s, .int .i64 r.at_, .own 1, .int .i64 z1.kind, .int .i64 z1.field, .int .u64 z1.bits, .int .i64 z1.len, .str z1.text, .int .i64 z1.code, .int .i64 z1.at_], .lst .ev r.out] : List Blk) = [.cells (oMr6 1 (mrFail r c a)), .lst .ev (mrFail r c a).out])) (by kernel_rfl) ?_
  refine ⟨(failure_i _ _), ?_⟩
  have hm1 : mrFail r c a = (⟨r.plan, r.s, r.at_, r.out, (failEv c a)⟩ : Mr) := by rfl
  exact ⟨rfl, (by rw [hm1] <;> rfl)⟩
theorem variable_i (r : Mr) (end_ : Int) (hp1 : List.length (r).s ≤ bigN) : Fun Try.prog 75 [vP 0, vI end_] [.cells (oMr6 1 r), .lst .ev r.out] (.tup [.c (.int .u64 (mrVarU r end_)), vB (mrVarOk r end_)]) [.cells (oMr6 1 (mrVar r end_)), .lst .ev (mrVar r end_).out] := by
  have hN : bigN = 274877906944 := rfl
  refine fun_ofw Try.func75 (by kernel_rfl) (by kernel_rfl) (w := let z1 := varWithin r.s r.at_ end_; let z2 : List Blk := [.cells (oMr6 1 (mrFail r z1.2.2 z1.2.1)), .lst .ev (mrFail r z1.2.2 z1.2.1).out]; let z3 : List Blk := [.cells (oMr6 1 (mrVar r end_)), .lst .ev (mrVar r end_).out]; (.seg [.ord (os 17 [9]) [], .call [] (.tup [.c (.int .u64 z1.1), vI z1.2.1, vI z1.2.2]) []] (.br (.seg [.call [0, 1] (.v (vB false)) z2] (.leaf () [0, 1])) (.leaf () [0, 1])), (Fun Try.prog 119 [vT r.s, vI r.at_, vI end_] [] (.tup [.c (.int .u64 z1.1), vI z1.2.1, vI z1.2.2]) []) ∧ ((!decide (z1.2.2 = 0)) = true → (Fun Try.prog 76 [vP 0, vI z1.2.2, vI z1.2.1] [.cells (oMr6 1 r), .lst .ev r.out] (.v (vB false)) z2) ∧ (.tup [.c (.int .u64 0), vB false] : S) = .tup [.c (.int .u64 (mrVarU r end_)), vB (mrVarOk r end_)] ∧ (z2 : List Blk) = z3) ∧ ((!decide (z1.2.2 = 0)) = false → (.tup [.c (.int .u64 z1.1), vB true] : S) = .tup [.c (.int .u64 (mrVarU r end_)), vB (mrVarOk r end_)] ∧ ([.cells [.seq .shp r.plan.shapes, .int .i64 r.plan.root, .int .i64 r.plan.deep, .int .i64 r.plan.most, .str r.s, .int .i64 z1.2.1, .own 1, .int .i64 r.fail.kind, .int .i64 r.fail.field, .int .u64 r.fail.bits, .int .i64 r.fail.len, .str r.fail.text, .int .i64 r.fail.code, .int .i64 r.fail.at_], .lst .ev r.out] : List Blk) = z3))) (by kernel_rfl) ?_
  refine ⟨(varWithin_i _ _ _ (by omega)), fun h1 => have q1 := bnot_t h1; have p1 := of_decide_eq_false q1; ?_, fun h1 => have q1 := bnot_f h1; have p1 := of_decide_eq_true q1; ?_⟩
  refine ⟨(stop_i r _ _), ?_⟩
  refine have hm1 : mrVar r end_ = (mrFail r (varWithin r.s r.at_ end_).2.2 (varWithin r.s r.at_ end_).2.1) := ?_; ?_
  rotate_left
  refine ⟨(congrArg S.tup (consE (congrArg V.c (congrArg (C.int .u64) ?_)) (consE (congrArg V.c (congrArg C.bool ?_)) rfl))), (by rw [hm1] <;> rfl)⟩
  rotate_left 2
  refine have hm1 : mrVar r end_ = (⟨r.plan, r.s, (varWithin r.s r.at_ end_).2.1, r.out, r.fail⟩ : Mr) := ?_; ?_
  rotate_left
  refine ⟨(congrArg S.tup (consE (congrArg V.c (congrArg (C.int .u64) ?_)) (consE (congrArg V.c (congrArg C.bool ?_)) rfl))), (by rw [hm1] <;> rfl)⟩
  rotate_left 2
  all_goals first | (simp_all [mrVar, mrVarOk, mrVarU, mrFail, mrAt]; done) | (grind [mrVar, mrVarOk, mrVarU, mrFail, mrAt])
theorem variable_s (r : Mr) (end_ : Int) (hp1 : List.length (r).s ≤ bigN) : Fun Try.prog 79 [vP 0, vI end_] [.cells (oMr6 1 r), .lst .ev r.out] (.v (.c (.int .u64 (mrVarU r end_)))) [.cells (oMr6 1 (mrVar r end_)), .lst .ev (mrVar r end_).out] := by
  have hN : bigN = 274877906944 := rfl
  refine fun_ofw Try.func79 (by kernel_rfl) (by kernel_rfl) (w := let z1 := varWithin r.s r.at_ end_; let z2 := failEv z1.2.2 z1.2.1; let z3 : List Blk := [.cells (oMr6 1 (mrVar r end_)), .lst .ev (mrVar r end_).out]; (.seg [.ord (os 17 [9]) [], .call [] (.tup [.c (.int .u64 z1.1), vI z1.2.1, vI z1.2.2]) []] (.br (.seg [.call [] (.v (.agg (cEv z2))) []] (.leaf () [0, 1])) (.leaf () [0, 1])), (Fun Try.prog 71 [vT r.s, vI r.at_, vI end_] [] (.tup [.c (.int .u64 z1.1), vI z1.2.1, vI z1.2.2]) []) ∧ ((!decide (z1.2.2 = 0)) = true → (Fun Try.prog 72 [vI z1.2.2, vI z1.2.1] [] (.v (.agg (cEv z2))) []) ∧ (.v (.c (.int .u64 0)) : S) = .v (.c (.int .u64 (mrVarU r end_))) ∧ ([.cells [.seq .shp r.plan.shapes, .int .i64 r.plan.root, .int .i64 r.plan.deep, .int .i64 r.plan.most, .str r.s, .int .i64 r.at_, .own 1, .int .i64 z2.kind, .int .i64 z2.field, .int .u64 z2.bits, .int .i64 z2.len, .str z2.text, .int .i64 z2.code, .int .i64 z2.at_], .lst .ev r.out] : List Blk) = z3) ∧ ((!decide (z1.2.2 = 0)) = false → (.v (.c (.int .u64 z1.1)) : S) = .v (.c (.int .u64 (mrVarU r end_))) ∧ ([.cells [.seq .shp r.plan.shapes, .int .i64 r.plan.root, .int .i64 r.plan.deep, .int .i64 r.plan.most, .str r.s, .int .i64 z1.2.1, .own 1, .int .i64 r.fail.kind, .int .i64 r.fail.field, .int .u64 r.fail.bits, .int .i64 r.fail.len, .str r.fail.text, .int .i64 r.fail.code, .int .i64 r.fail.at_], .lst .ev r.out] : List Blk) = z3))) (by kernel_rfl) ?_
  refine ⟨(varWithin_s _ _ _ (by omega)), fun h1 => have q1 := bnot_t h1; have p1 := of_decide_eq_false q1; ?_, fun h1 => have q1 := bnot_f h1; have p1 := of_decide_eq_true q1; ?_⟩
  refine ⟨(failure_s _ _), ?_⟩
  refine have hm1 : mrVar r end_ = (⟨r.plan, r.s, r.at_, r.out, (failEv (varWithin r.s r.at_ end_).2.2 (varWithin r.s r.at_ end_).2.1)⟩ : Mr) := ?_; ?_
  rotate_left
  refine ⟨(congrArg S.v (congrArg V.c (congrArg (C.int .u64) ?_))), (by rw [hm1] <;> rfl)⟩
  rotate_left
  refine have hm1 : mrVar r end_ = (⟨r.plan, r.s, (varWithin r.s r.at_ end_).2.1, r.out, r.fail⟩ : Mr) := ?_; ?_
  rotate_left
  refine ⟨(congrArg S.v (congrArg V.c (congrArg (C.int .u64) ?_))), (by rw [hm1] <;> rfl)⟩
  rotate_left
  all_goals first | (simp_all [mrVar, mrVarOk, mrVarU, mrFail, mrAt]; done) | (grind [mrVar, mrVarOk, mrVarU, mrFail, mrAt])
theorem fixed_i (r : Mr) (w : Int) (end_ : Int) (hp1 : List.length (r).s ≤ bigN) (hp2 : (0 : Int) ≤ (r).at_ ∧ (r).at_ ≤ ((List.length (r).s : Nat) : Int)) (hp3 : (0 : Int) ≤ w ∧ w ≤ 8) (hp4 : -1000000000 ≤ end_ ∧ end_ ≤ 9223372036854775807) : Fun Try.prog 137 [vP 0, vI w, vI end_] [.cells (oMr6 1 r), .lst .ev r.out] (.tup [.c (.int .u64 (mrFixU r w end_)), vB (mrFixOk r w end_)]) [.cells (oMr6 1 (mrFix r w end_)), .lst .ev (mrFix r w end_).out] := by
  have hN : bigN = 274877906944 := rfl
  refine fun_ofw Try.func137 (by kernel_rfl) (by kernel_rfl) (w := let z2 : List Blk := [.cells (oMr6 1 (mrFail r 9 r.at_)), .lst .ev (mrFail r 9 r.at_).out]; let z3 : List Blk := [.cells (oMr6 1 (mrFix r w end_)), .lst .ev (mrFix r w end_).out]; let z4 := getFixOk r.s r.at_ w; let z5 := (r.s.length : Int); let z1 : List Blk := [.cells (oMr6 1 (mrFail r 10 z5)), .lst .ev (mrFail r 10 z5).out]; let z6 := (.tup [.c (.int .u64 0), vB false] : S); let z7 := getFix r.s r.at_ w; let z8 := mrFixOk r w end_; (.seg [.as 15 (.v (vI (end_ - r.at_)))] (.br (.seg [.call [0, 1] (.v (vB false)) z2] (.leaf () [0, 1])) (.seg [.ord (os 15 [9]) [], .call [] (.tup [.c (.int .u64 z7), vB z4]) []] (.br (.seg [.call [0, 1] (.v (vB false)) z1] (.leaf () [0, 1])) (.seg [.as 51 (.v (vI (r.at_ + w)))] (.leaf () [0, 1]))))), ((.v (vI (IntKind.i64.wrap (end_ - r.at_))) : S) = .v (vI (end_ - r.at_))) ∧ ((decide (end_ - r.at_ < w)) = true → (Fun Try.prog 76 [vP 0, vI 9, vI r.at_] [.cells (oMr6 1 r), .lst .ev r.out] (.v (vB false)) z2) ∧ z6 = .tup [.c (.int .u64 (mrFixU r w end_)), vB z8] ∧ (z2 : List Blk) = z3) ∧ ((decide (end_ - r.at_ < w)) = false → (Fun Try.prog 164 [vT r.s, vI r.at_, vI w] [] (.tup [.c (.int .u64 z7), vB z4]) []) ∧ ((!z4) = true → (Fun Try.prog 76 [vP 0, vI 10, vI z5] [.cells (oMr6 1 r), .lst .ev r.out] (.v (vB false)) z1) ∧ z6 = .tup [.c (.int .u64 (mrFixU r w end_)), vB z8] ∧ (z1 : List Blk) = z3) ∧ ((!z4) = false → ((.v (vI (IntKind.i64.wrap (r.at_ + w))) : S) = .v (vI (r.at_ + w))) ∧ (.tup [.c (.int .u64 z7), vB true] : S) = .tup [.c (.int .u64 (mrFixU r w end_)), vB z8] ∧ ([.cells [.seq .shp r.plan.shapes, .int .i64 r.plan.root, .int .i64 r.plan.deep, .int .i64 r.plan.most, .str r.s, .int .i64 (r.at_ + w), .own 1, .int .i64 r.fail.kind, .int .i64 r.fail.field, .int .u64 r.fail.bits, .int .i64 r.fail.len, .str r.fail.text, .int .i64 r.fail.code, .int .i64 r.fail.at_], .lst .ev r.out] : List Blk) = z3)))) (by kernel_rfl) ?_
  refine ⟨(as_i64 (by omega) (by omega)), fun h1 => have p1 := of_decide_eq_true h1; ?_, fun h1 => have p1 := of_decide_eq_false h1; ?_⟩
  refine ⟨(stop_i r _ _), ?_⟩
  refine have hm1 : mrFix r w end_ = (mrFail r 9 r.at_) := ?_; ?_
  rotate_left
  refine ⟨(congrArg S.tup (consE (congrArg V.c (congrArg (C.int .u64) ?_)) (consE (congrArg V.c (congrArg C.bool ?_)) rfl))), (by rw [hm1] <;> rfl)⟩
  rotate_left 2
  refine ⟨(getFix_i _ _ _ (by omega)), fun h2 => have q2 := bnot_t h2; ?_, fun h2 => have q2 := bnot_f h2; ?_⟩
  refine ⟨(stop_i r _ _), ?_⟩
  refine have hm1 : mrFix r w end_ = (mrFail r 10 (r.s.length : Int)) := ?_; ?_
  rotate_left
  refine ⟨(congrArg S.tup (consE (congrArg V.c (congrArg (C.int .u64) ?_)) (consE (congrArg V.c (congrArg C.bool ?_)) rfl))), (by rw [hm1] <;> rfl)⟩
  rotate_left 2
  have hfx := getFixOk_t q2
  refine ⟨(as_i64 (by omega) (by omega)), ?_⟩
  refine have hm1 : mrFix r w end_ = (⟨r.plan, r.s, r.at_ + w, r.out, r.fail⟩ : Mr) := ?_; ?_
  rotate_left
  refine ⟨(congrArg S.tup (consE (congrArg V.c (congrArg (C.int .u64) ?_)) (consE (congrArg V.c (congrArg C.bool ?_)) rfl))), (by rw [hm1] <;> rfl)⟩
  rotate_left 2
  all_goals first | (simp_all [mrFix, mrFixOk, mrFixU, mrFail, mrAt]; done) | (grind [mrFix, mrFixOk, mrFixU, mrFail, mrAt])
theorem fixed_s (r : Mr) (w : Int) (end_ : Int) (hp1 : List.length (r).s ≤ bigN) (hp2 : (0 : Int) ≤ (r).at_ ∧ (r).at_ ≤ ((List.length (r).s : Nat) : Int)) (hp3 : (0 : Int) ≤ w ∧ w ≤ 8) (hp4 : -1000000000 ≤ end_ ∧ end_ ≤ 9223372036854775807) : Fun Try.prog 128 [vP 0, vI w, vI end_] [.cells (oMr6 1 r), .lst .ev r.out] (.v (.c (.int .u64 (mrFixU r w end_)))) [.cells (oMr6 1 (mrFix r w end_)), .lst .ev (mrFix r w end_).out] := by
  have hN : bigN = 274877906944 := rfl
  refine fun_ofw Try.func128 (by kernel_rfl) (by kernel_rfl) (w := let z1 := failEv 10 (r.s.length : Int); let z2 : List Blk := [.cells (oMr6 1 (mrFix r w end_)), .lst .ev (mrFix r w end_).out]; let z3 := failEv 9 r.at_; let z4 := getFixOk r.s r.at_ w; let z5 := getFix r.s r.at_ w; (.seg [.as 14 (.v (vI (end_ - r.at_)))] (.br (.seg [.call [] (.v (.agg (cEv z3))) []] (.leaf () [0, 1])) (.seg [.ord (os 15 [9]) [], .call [] (.tup [.c (.int .u64 z5), vB z4]) []] (.br (.seg [.call [] (.v (.agg (cEv z1))) []] (.leaf () [0, 1])) (.seg [.as 55 (.v (vI (r.at_ + w)))] (.leaf () [0, 1]))))), ((.v (vI (IntKind.i64.wrap (end_ - r.at_))) : S) = .v (vI (end_ - r.at_))) ∧ ((decide (end_ - r.at_ < w)) = true → (Fun Try.prog 72 [vI 9, vI r.at_] [] (.v (.agg (cEv z3))) []) ∧ (.v (.c (.int .u64 0)) : S) = .v (.c (.int .u64 (mrFixU r w end_))) ∧ ([.cells [.seq .shp r.plan.shapes, .int .i64 r.plan.root, .int .i64 r.plan.deep, .int .i64 r.plan.most, .str r.s, .int .i64 r.at_, .own 1, .int .i64 z3.kind, .int .i64 z3.field, .int .u64 z3.bits, .int .i64 z3.len, .str z3.text, .int .i64 z3.code, .int .i64 z3.at_], .lst .ev r.out] : List Blk) = z2) ∧ ((decide (end_ - r.at_ < w)) = false → (Fun Try.prog 162 [vT r.s, vI r.at_, vI w] [] (.tup [.c (.int .u64 z5), vB z4]) []) ∧ ((!z4) = true → (Fun Try.prog 72 [vI 10, vI (r.s.length : Int)] [] (.v (.agg (cEv z1))) []) ∧ (.v (.c (.int .u64 0)) : S) = .v (.c (.int .u64 (mrFixU r w end_))) ∧ ([.cells [.seq .shp r.plan.shapes, .int .i64 r.plan.root, .int .i64 r.plan.deep, .int .i64 r.plan.most, .str r.s, .int .i64 r.at_, .own 1, .int .i64 z1.kind, .int .i64 z1.field, .int .u64 z1.bits, .int .i64 z1.len, .str z1.text, .int .i64 z1.code, .int .i64 z1.at_], .lst .ev r.out] : List Blk) = z2) ∧ ((!z4) = false → ((.v (vI (IntKind.i64.wrap (r.at_ + w))) : S) = .v (vI (r.at_ + w))) ∧ (.v (.c (.int .u64 z5)) : S) = .v (.c (.int .u64 (mrFixU r w end_))) ∧ ([.cells [.seq .shp r.plan.shapes, .int .i64 r.plan.root, .int .i64 r.plan.deep, .int .i64 r.plan.most, .str r.s, .int .i64 (r.at_ + w), .own 1, .int .i64 r.fail.kind, .int .i64 r.fail.field, .int .u64 r.fail.bits, .int .i64 r.fail.len, .str r.fail.text, .int .i64 r.fail.code, .int .i64 r.fail.at_], .lst .ev r.out] : List Blk) = z2)))) (by kernel_rfl) ?_
  refine ⟨(as_i64 (by omega) (by omega)), fun h1 => have p1 := of_decide_eq_true h1; ?_, fun h1 => have p1 := of_decide_eq_false h1; ?_⟩
  refine ⟨(failure_s _ _), ?_⟩
  refine have hm1 : mrFix r w end_ = (⟨r.plan, r.s, r.at_, r.out, (failEv 9 r.at_)⟩ : Mr) := ?_; ?_
  rotate_left
  refine ⟨(congrArg S.v (congrArg V.c (congrArg (C.int .u64) ?_))), (by rw [hm1] <;> rfl)⟩
  rotate_left
  refine ⟨(getFix_s _ _ _ (by omega)), fun h2 => have q2 := bnot_t h2; ?_, fun h2 => have q2 := bnot_f h2; ?_⟩
  refine ⟨(failure_s _ _), ?_⟩
  refine have hm1 : mrFix r w end_ = (⟨r.plan, r.s, r.at_, r.out, (failEv 10 (r.s.length : Int))⟩ : Mr) := ?_; ?_
  rotate_left
  refine ⟨(congrArg S.v (congrArg V.c (congrArg (C.int .u64) ?_))), (by rw [hm1] <;> rfl)⟩
  rotate_left
  have hfx := getFixOk_t q2
  refine ⟨(as_i64 (by omega) (by omega)), ?_⟩
  refine have hm1 : mrFix r w end_ = (⟨r.plan, r.s, r.at_ + w, r.out, r.fail⟩ : Mr) := ?_; ?_
  rotate_left
  refine ⟨(congrArg S.v (congrArg V.c (congrArg (C.int .u64) ?_))), (by rw [hm1] <;> rfl)⟩
  rotate_left
  all_goals first | (simp_all [mrFix, mrFixOk, mrFixU, mrFail, mrAt]; done) | (grind [mrFix, mrFixOk, mrFixU, mrFail, mrAt])
theorem val_i (r : Mr) (w : Int) (end_ : Int) (hp1 : List.length (r).s ≤ bigN) (hp2 : (0 : Int) ≤ (r).at_ ∧ (r).at_ ≤ ((List.length (r).s : Nat) : Int)) (hp3 : -1000000000 ≤ end_ ∧ end_ ≤ 9223372036854775807) : Fun Try.prog 91 [vP 0, vI w, vI end_] [.cells (oMr6 1 r), .lst .ev r.out] (.tup [.c (.int .u64 (mrValU r w end_)), vB (mrValOk r w end_)]) [.cells (oMr6 1 (mrVal r w end_)), .lst .ev (mrVal r w end_).out] := by
  have hN : bigN = 274877906944 := rfl
  have hwb := widthOf_b w
  refine fun_ofw Try.func91 (by kernel_rfl) (by kernel_rfl) (w := let z2 : List Blk := [.cells (oMr6 1 (mrVar r end_)), .lst .ev (mrVar r end_).out]; let z3 := widthOf w; let z1 : List Blk := [.cells (oMr6 1 (mrFix r z3 end_)), .lst .ev (mrFix r z3 end_).out]; let z4 : List Blk := [.cells (oMr6 1 (mrVal r w end_)), .lst .ev (mrVal r w end_).out]; let z5 := mrFixOk r z3 end_; let z6 := mrFixU r z3 end_; (.seg [.call [] (.v (vI z3)) []] (.br (.seg [.call [0, 1] (.tup [.c (.int .u64 z6), vB z5]) z1] (.leaf () [0, 1])) (.seg [.call [0, 1] (.tup [.c (.int .u64 (mrVarU r end_)), vB (mrVarOk r end_)]) z2] (.leaf () [0, 1]))), (Fun Try.prog 136 [vI w] [] (.v (vI z3)) []) ∧ ((decide (0 < widthOf w)) = true → (Fun Try.prog 137 [vP 0, vI z3, vI end_] [.cells (oMr6 1 r), .lst .ev r.out] (.tup [.c (.int .u64 z6), vB z5]) z1) ∧ (.tup [.c (.int .u64 z6), vB z5] : S) = .tup [.c (.int .u64 (mrValU r w end_)), vB (mrValOk r w end_)] ∧ (z1 : List Blk) = z4) ∧ ((decide (0 < widthOf w)) = false → (Fun Try.prog 75 [vP 0, vI end_] [.cells (oMr6 1 r), .lst .ev r.out] (.tup [.c (.int .u64 (mrVarU r end_)), vB (mrVarOk r end_)]) z2) ∧ (.tup [.c (.int .u64 (mrVarU r end_)), vB (mrVarOk r end_)] : S) = .tup [.c (.int .u64 (mrValU r w end_)), vB (mrValOk r w end_)] ∧ (z2 : List Blk) = z4))) (by kernel_rfl) ?_
  refine ⟨(widthOf_i _), fun h1 => have p1 := of_decide_eq_true h1; ?_, fun h1 => have p1 := of_decide_eq_false h1; ?_⟩
  refine ⟨(fixed_i r _ _ (by omega) (by omega) (by omega) (by omega)), ?_⟩
  refine have hm1 : mrVal r w end_ = (mrFix r (widthOf w) end_) := ?_; ?_
  rotate_left
  refine ⟨(congrArg S.tup (consE (congrArg V.c (congrArg (C.int .u64) ?_)) (consE (congrArg V.c (congrArg C.bool ?_)) rfl))), (by rw [hm1] <;> rfl)⟩
  rotate_left 2
  refine ⟨(variable_i r _ (by omega)), ?_⟩
  refine have hm1 : mrVal r w end_ = (mrVar r end_) := ?_; ?_
  rotate_left
  refine ⟨(congrArg S.tup (consE (congrArg V.c (congrArg (C.int .u64) ?_)) (consE (congrArg V.c (congrArg C.bool ?_)) rfl))), (by rw [hm1] <;> rfl)⟩
  rotate_left 2
  all_goals first | (simp_all [mrVal, mrValOk, mrValU]; done) | (grind [mrVal, mrValOk, mrValU])
theorem tell_s (r : Mr) (e : Ev) (hp1 : List.length (r).out ≤ 100000000) : Fun Try.prog 126 [vP 0, .agg (cEv e)] [.cells (oMr6 1 r), .lst .ev r.out] (.tup []) [.cells (oMr6 2 (mrTell r e)), .dead, .lst .ev (mrTell r e).out] := by
  have hN : bigN = 274877906944 := rfl
  refine fun_ofw Try.func126 (by kernel_rfl) (by kernel_rfl) (w := (.seg [.ord (os 11 [6, 7, 10]) [1], .ty .ev, .ty .ev] (.leaf () [0, 1, 4]), (r.out.length + List.length [e] ≤ bigN) ∧ (.tup [] : S) = .tup [] ∧ ([.cells (oMr6 2 r), .dead, .lst .ev (r.out ++ [e])] : List Blk) = [.cells (oMr6 2 (mrTell r e)), .dead, .lst .ev (mrTell r e).out])) (by kernel_rfl) ?_
  refine ⟨(by simp only [List.length_cons, List.length_nil]; omega), ?_⟩
  have hm1 : mrTell r e = (⟨r.plan, r.s, r.at_, r.out ++ [e], r.fail⟩ : Mr) := by rfl
  exact ⟨rfl, (by rw [hm1] <;> rfl)⟩
theorem num_s (r : Mr) (f : Fld) (w : Int) (end_ : Int) (hp1 : List.length (r).s ≤ 1048576) (hp2 : (r).at_ ≤ ((List.length (r).s : Nat) : Int)) (hp3 : (r).fail.kind = 0) (hp4 : ((List.length (r).out : Nat) : Int) + 4 * (((List.length (r).s : Nat) : Int) - (r).at_) ≤ 100000000) (hp5 : -1000000000 ≤ end_ ∧ end_ ≤ 9223372036854775807) (hp6 : (0 : Int) ≤ (r).at_) (hp7 : (w = 0 ∨ w = 1 ∨ w = 5)) : Fun Try.prog 85 [vP 0, .agg (cFld f), vI w, vI end_] [.cells (oMr6 1 r), .lst .ev r.out] (.tup []) [.cells (oMr6 2 (numStep r f w end_)), .dead, .lst .ev (numStep r f w end_).out] := by
  have hN : bigN = 274877906944 := rfl
  have hwb := widthOf_b w
  have hu1 := mrVarU_b r end_
  have hu2 := mrFixU_b r (widthOf w) end_
  have hl1 := congrArg List.length (mrVar_adv (e := end_) hp2).2.2
  have hl2 := congrArg List.length (mrFix_adv (w := widthOf w) (e := end_) hp2).2
  refine fun_ofw Try.func85 (by kernel_rfl) (by kernel_rfl) (w := let z2 : List Blk := [.cells (oMr6 2 (numStep r f w end_)), .dead, .lst .ev (numStep r f w end_).out]; let z5 := mrVar r end_; let z9 : List Blk := [.cells (oMr6 1 z5), .lst .ev z5.out]; let z11 := decide (0 < f.number); let z12 := ([.cells (oMr6 2 z5), .dead, .lst .ev z5.out] : List Blk); let z14 := (.tup [] : S); let z15 := mrVarU r end_; let z7 := numEv f z15; let z4 : List Blk := [.cells (oMr6 2 (mrTell z5 z7)), .dead, .lst .ev (mrTell z5 z7).out]; let z16 := widthOf w; let z1 := mrFix r z16 end_; let z8 := mrFixU r z16 end_; let z3 := numEv f z8; let z6 : List Blk := [.cells (oMr6 2 (mrTell z1 z3)), .dead, .lst .ev (mrTell z1 z3).out]; let z10 : List Blk := [.cells (oMr6 1 z1), .lst .ev z1.out]; let z13 := ([.cells (oMr6 2 z1), .dead, .lst .ev z1.out] : List Blk); (.br (.seg [.call [0, 1] (.v (.c (.int .u64 z15))) z9] (.br (.br (.seg [.call [] (.v (.agg (cEv z7))) [], .call [0, 1] (.tup []) z4] (.leaf () [0, 1, 3])) (.seg [.at 0, .cut 0 6] (.leaf () [0, 1, 3]))) (.seg [.at 0, .cut 0 6] (.leaf () [0, 1, 3])))) (.seg [.call [] (.v (vI z16)) [], .call [0, 1] (.v (.c (.int .u64 z8))) z10] (.br (.br (.seg [.call [] (.v (.agg (cEv z3))) [], .call [0, 1] (.tup []) z6] (.leaf () [0, 1, 3])) (.seg [.at 0, .cut 0 6] (.leaf () [0, 1, 3]))) (.seg [.at 0, .cut 0 6] (.leaf () [0, 1, 3])))), ((decide (w = 0)) = true → (Fun Try.prog 79 [vP 0, vI end_] [.cells (oMr6 1 r), .lst .ev r.out] (.v (.c (.int .u64 z15))) z9) ∧ ((decide (z5.fail.kind = 0)) = true → (z11 = true → (Fun Try.prog 130 [.agg (cFld f), .c (.int .u64 z15)] [] (.v (.agg (cEv z7))) []) ∧ (Fun Try.prog 126 [vP 0, .agg (cEv z7)] z9 (.tup []) z4) ∧ z14 = .tup [] ∧ (z4 : List Blk) = z2) ∧ (z11 = false → z14 = .tup [] ∧ z12 = z2)) ∧ ((decide (z5.fail.kind = 0)) = false → z14 = .tup [] ∧ z12 = z2)) ∧ ((decide (w = 0)) = false → (Fun Try.prog 129 [vI w] [] (.v (vI z16)) []) ∧ (Fun Try.prog 128 [vP 0, vI z16, vI end_] [.cells (oMr6 1 r), .lst .ev r.out] (.v (.c (.int .u64 z8))) z10) ∧ ((decide (z1.fail.kind = 0)) = true → (z11 = true → (Fun Try.prog 130 [.agg (cFld f), .c (.int .u64 z8)] [] (.v (.agg (cEv z3))) []) ∧ (Fun Try.prog 126 [vP 0, .agg (cEv z3)] z10 (.tup []) z6) ∧ z14 = .tup [] ∧ (z6 : List Blk) = z2) ∧ (z11 = false → z14 = .tup [] ∧ z13 = z2)) ∧ ((decide (z1.fail.kind = 0)) = false → z14 = .tup [] ∧ z13 = z2)))) (by kernel_rfl) ?_
  refine ⟨fun h1 => have p1 := of_decide_eq_true h1; ?_, fun h1 => have p1 := of_decide_eq_false h1; ?_⟩
  refine ⟨(variable_s r _ (by omega)), fun h2 => have p2 := of_decide_eq_true h2; ?_, fun h2 => have p2 := of_decide_eq_false h2; ?_⟩
  have hvo := mrValOk_kind (r := r) (w := w) (e := end_) hp3
  have hwv : mrVal r w end_ = (mrVar r end_) := by unfold mrVal; grind [widthOf]
  refine ⟨fun h3 => have p3 := of_decide_eq_true h3; ?_, fun h3 => have p3 := of_decide_eq_false h3; ?_⟩
  refine ⟨(numEvent_s f _ (by omega)), (tell_s (mrVar r end_) (numEv f (mrVarU r end_)) (by omega)), ?_⟩
  refine have hm1 : numStep r f w end_ = (mrTell (mrVar r end_) (numEv f (mrVarU r end_))) := ?_; ?_
  rotate_left
  exact ⟨rfl, (by rw [hm1] <;> rfl)⟩
  refine have hm1 : numStep r f w end_ = (mrVar r end_) := ?_; ?_
  rotate_left
  exact ⟨rfl, (by rw [hm1] <;> rfl)⟩
  have hvo := mrValOk_kind (r := r) (w := w) (e := end_) hp3
  have hwv : mrVal r w end_ = (mrVar r end_) := by unfold mrVal; grind [widthOf]
  refine have hm1 : numStep r f w end_ = (mrVar r end_) := ?_; ?_
  rotate_left
  exact ⟨rfl, (by rw [hm1] <;> rfl)⟩
  refine ⟨(widthOf_s _), (fixed_s r _ _ (by omega) (by omega) (by omega) (by omega)), fun h2 => have p2 := of_decide_eq_true h2; ?_, fun h2 => have p2 := of_decide_eq_false h2; ?_⟩
  have hvo := mrValOk_kind (r := r) (w := w) (e := end_) hp3
  have hwv : mrVal r w end_ = (mrFix r (widthOf w) end_) := by unfold mrVal; grind [widthOf]
  refine ⟨fun h3 => have p3 := of_decide_eq_true h3; ?_, fun h3 => have p3 := of_decide_eq_false h3; ?_⟩
  refine ⟨(numEvent_s f _ (by omega)), (tell_s (mrFix r (widthOf w) end_) (numEv f (mrFixU r (widthOf w) end_)) (by omega)), ?_⟩
  refine have hm1 : numStep r f w end_ = (mrTell (mrFix r (widthOf w) end_) (numEv f (mrFixU r (widthOf w) end_))) := ?_; ?_
  rotate_left
  exact ⟨rfl, (by rw [hm1] <;> rfl)⟩
  refine have hm1 : numStep r f w end_ = (mrFix r (widthOf w) end_) := ?_; ?_
  rotate_left
  exact ⟨rfl, (by rw [hm1] <;> rfl)⟩
  have hvo := mrValOk_kind (r := r) (w := w) (e := end_) hp3
  have hwv : mrVal r w end_ = (mrFix r (widthOf w) end_) := by unfold mrVal; grind [widthOf]
  refine have hm1 : numStep r f w end_ = (mrFix r (widthOf w) end_) := ?_; ?_
  rotate_left
  exact ⟨rfl, (by rw [hm1] <;> rfl)⟩
  all_goals first | (simp_all [numStep, mrVal, mrValOk, mrValU, mrTell]; done) | (grind [numStep, mrVal, mrValOk, mrValU, mrTell, widthOf])
structure run_i_V0 where
  r : Mr
def run_i_F0 (r : Mr) (f : Fld) (end_ : Int) : Fam := ⟨run_i_V0, fun q1 => [(0, .v (vP 0)), (2, .v (vI end_)), (4, .v (vP 3))], fun q1 => [.cells (oMr6 2 q1.r), .dead, .lst .ev q1.r.out, .cells (cFld f)], fun q1 => RunInv r f end_ q1.r, fun q1 => mrMu q1.r⟩

theorem run_i (r : Mr) (f : Fld) (end_ : Int) (hp1 : List.length (r).s ≤ 1048576) (hp2 : (r).at_ ≤ ((List.length (r).s : Nat) : Int)) (hp3 : (r).fail.kind = 0) (hp4 : ((List.length (r).out : Nat) : Int) + 4 * (((List.length (r).s : Nat) : Int) - (r).at_) ≤ 100000000) (hp5 : -1000000000 ≤ end_ ∧ end_ ≤ 9223372036854775807) (hp6 : (0 : Int) ≤ (r).at_) (hp7 : 1 ≤ (f).number) : Fun Try.prog 134 [vP 0, .agg (cFld f), vI end_] [.cells (oMr6 1 r), .lst .ev r.out] (.v (vB (decide ((mrRun r f end_).fail.kind = 0)))) [.cells (oMr6 2 (mrRun r f end_)), .dead, .lst .ev (mrRun r f end_).out] := by
  have hN : bigN = 274877906944 := rfl
  refine fun_ofw Try.func134 (by kernel_rfl) (by kernel_rfl) (w := let z6 := wireOf f.kind; let z7 := mrRun r f end_; let z8 := run_i_F0 r f end_; let z9 : List Blk := [.cells (oMr6 2 z7), .dead, .lst .ev z7.out]; let z10 := vB (decide (z7.fail.kind = 0)); (.seg [.at 0, .cut 0 6, .keep [0, 2, 4], .sel [0, 1, 3, 2]] (.loop z8 fun q1 => let z1 := mrValU q1.r z6 end_; let z2 := mrVal q1.r z6 end_; .br (.seg [.call [] (.v (vI z6)) [], .call [0, 2] (.tup [.c (.int .u64 z1), vB (mrValOk q1.r z6 end_)]) [.cells (oMr6 1 z2), .lst .ev z2.out]] (.br (.leaf () [0, 1, 2]) (.seg [.ord (os 13 [7, 8, 9, 12]) [2], .call [] (.v (.agg (cEv (numEv f z1)))) [], .ty .ev, .ty .ev, .at 0, .keep [0, 2, 4], .sel [0, 1, 5, 3]] (.next)))) (.leaf () [0, 1, 2])), z8.Has [(0, .v (vP 0)), (2, .v (vI end_)), (4, .v (vP 3))] [.cells (oMr6 2 r), .dead, .lst .ev r.out, .cells (cFld f)] ∧ ∀ q1, z8.inv q1 → (let z3 := mrVal q1.r z6 end_; let z4 := mrValU q1.r z6 end_; let z5 := mrValOk q1.r z6 end_; ((decide (q1.r.at_ < end_)) = true → (Fun Try.prog 131 [vI f.kind] [] (.v (vI z6)) []) ∧ (Fun Try.prog 91 [vP 0, vI z6, vI end_] [.cells (oMr6 1 q1.r), .lst .ev q1.r.out] (.tup [.c (.int .u64 z4), vB z5]) [.cells (oMr6 1 z3), .lst .ev z3.out]) ∧ ((!z5) = true → (.v (vB false) : S) = .v z10 ∧ ([.cells (oMr6 2 z3), .dead, .lst .ev z3.out] : List Blk) = z9) ∧ ((!z5) = false → (Fun Try.prog 92 [.agg (cFld f), .c (.int .u64 z4)] [] (.v (.agg (cEv (numEv f z4)))) []) ∧ (z3.out.length + List.length [(numEv f z4)] ≤ bigN) ∧ z8.Nxt q1 [(0, .v (vP 0)), (2, .v (vI end_)), (4, .v (vP 3))] [.cells (oMr6 2 z3), .dead, .lst .ev (z3.out ++ [(numEv f z4)]), .cells (cFld f)])) ∧ ((decide (q1.r.at_ < end_)) = false → (.v (vB true) : S) = .v z10 ∧ ([.cells (oMr6 2 q1.r), .dead, .lst .ev q1.r.out] : List Blk) = z9)))) (by kernel_rfl) ?_
  refine ⟨has_of (j := (⟨r⟩ : run_i_V0)) rfl rfl (by dsimp only [run_i_F0]; exact RunInv.refl hp2 hp3), fun (q1 : run_i_V0) hq_q1 => ?_⟩
  have hi_q1 : RunInv r f end_ q1.r := hq_q1
  have hrm := hi_q1.room
  have hat := hi_q1.at_
  have hfl := hi_q1.fail
  have hsl := congrArg List.length hrm.1
  refine ⟨fun h1 => have p1 := of_decide_eq_true h1; ?_, fun h1 => have p1 := of_decide_eq_false h1; ?_⟩
  refine ⟨(wireOf_i _), (val_i q1.r _ _ (by omega) (by omega) (by omega)), fun h2 => have q2 := bnot_t h2; ?_, fun h2 => have q2 := bnot_f h2; ?_⟩
  have hbad := hi_q1.bad (by omega) q2
  refine have hm1 : mrRun r f end_ = (mrVal q1.r (wireOf f.kind) end_) := ?_; ?_
  rotate_left
  refine ⟨(sB ?_), (by rw [hm1] <;> rfl)⟩
  rotate_left
  have hvb := mrValU_b q1.r (wireOf f.kind) end_
  have hvo := congrArg List.length (mrVal_adv (r := q1.r) (w := wireOf f.kind) (e := end_) hat).2
  exact ⟨(numEvent_i f _ (by omega)), (by simp only [List.length_cons, List.length_nil]; omega), nxt_of (j := (⟨(⟨(mrVal q1.r (wireOf f.kind) end_).plan, (mrVal q1.r (wireOf f.kind) end_).s, (mrVal q1.r (wireOf f.kind) end_).at_, (mrVal q1.r (wireOf f.kind) end_).out ++ [(numEv f (mrValU q1.r (wireOf f.kind) end_))], (mrVal q1.r (wireOf f.kind) end_).fail⟩ : Mr)⟩ : run_i_V0)) rfl (by first | rfl | simp) (by dsimp only [run_i_F0]; exact RunInv.next hi_q1 (by omega) (by simpa using q2) (by omega)) (by dsimp only [run_i_F0]; have := mrMu_dec hat hfl (numStep_adv (f := f) (w := wireOf f.kind) (e := end_) hat hfl); rw [numStep_ok (by simpa using q2) (by omega)] at this; exact this)⟩
  have hend := hi_q1.end_ p1
  refine have hm1 : mrRun r f end_ = q1.r := ?_; ?_
  rotate_left
  refine ⟨(sB ?_), (by rw [hm1] <;> rfl)⟩
  rotate_left
  all_goals first | (exact hend) | (exact hbad) | (rw [hend]; simp [hfl]) | (rw [hbad]; rw [mrValOk_kind hfl] at q2; exact q2.symm) | (rfl)
end Go.Proofs.Ytecljjcmjongfaa.Ax
