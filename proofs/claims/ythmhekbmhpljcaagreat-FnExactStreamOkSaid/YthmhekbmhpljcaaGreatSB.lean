/- Decoders: what is valid, more. -/
import Derived.Test.YthmhekbmhpljcaaGreatSA
namespace Go.Proofs.YthmhekbmhpljcaaGreat.Ax
open Go.RowKit
set_option linter.unusedSimpArgs false
set_option linter.unusedVariables false
theorem isEvent_i (k : Int) : Fun Tryz.prog 127 [vI k] [] (.v (vB (isEvent k))) [] := by
  have hN : bigN = 274877906944 := rfl
  refine fun_ofw Tryz.func127 (by kernel_rfl) (by kernel_rfl) (w := let z1 := vB (within k 1 10); (.seg [.call [] (.v z1) []] (.leaf () []), (Fun Tryz.prog 76 [vI k, vI 1, vI 10] [] (.v z1) []) ∧ (.v z1 : S) = .v (vB (isEvent k)) ∧ ([] : List Blk) = [])) (by kernel_rfl) ?_
  exact ⟨(within_i _ _ _), (congrArg S.v (congrArg V.c (congrArg C.bool (by rfl)))), rfl⟩
theorem bareEv_i (e : Ev) : Fun Tryz.prog 128 [.agg (cEv e)] [] (.v (.agg (cEv (bareEv e)))) [] := by
  have hN : bigN = 274877906944 := rfl
  refine fun_ofw Tryz.func128 (by kernel_rfl) (by kernel_rfl) (w := let z1 := (.v (.agg [.int .i64 e.kind, .int .i64 e.field, .int .u64 0, .int .i64 e.len, .str [], .int .i64 0, .int .i64 0]) : S); let z2 := cEv (bareEv e); let z3 := ([] : List Blk); let z4 := decide (e.kind = 3); let z5 := os 8 [5, 7]; (.br (.leaf () []) (.br (.seg [.ord z5 [2]] (.leaf () [])) (.br (.seg [.br true, .ord z5 [2]] (.leaf () [])) (.br (.seg [.ord z5 [2]] (.leaf () [])) (.br (.leaf () []) (.br (.leaf () []) (.br (.seg [.ord z5 [2]] (.leaf () [])) (.leaf () []))))))), ((decide (e.kind = 1)) = true → (.v (.agg [.int .i64 e.kind, .int .i64 0, .int .u64 0, .int .i64 e.len, .str [], .int .i64 0, .int .i64 0]) : S) = .v (.agg z2) ∧ z3 = []) ∧ ((decide (e.kind = 1)) = false → ((decide (e.kind = 2)) = true → (.v (.agg [.int .i64 e.kind, .int .i64 e.field, .int .u64 e.bits, .int .i64 0, .str [], .int .i64 0, .int .i64 0]) : S) = .v (.agg z2) ∧ z3 = []) ∧ ((decide (e.kind = 2)) = false → (z4 = true → (z4 = true) ∧ z1 = .v (.agg z2) ∧ z3 = []) ∧ (z4 = false → ((decide (e.kind = 6)) = true → z1 = .v (.agg z2) ∧ z3 = []) ∧ ((decide (e.kind = 6)) = false → ((decide (e.kind = 4)) = true → (.v (.agg [.int .i64 e.kind, .int .i64 0, .int .u64 0, .int .i64 0, .str e.text, .int .i64 0, .int .i64 0]) : S) = .v (.agg z2) ∧ z3 = []) ∧ ((decide (e.kind = 4)) = false → ((decide (e.kind = 9)) = true → (.v (.agg [.int .i64 e.kind, .int .i64 0, .int .u64 0, .int .i64 0, .str [], .int .i64 0, .int .i64 e.at_]) : S) = .v (.agg z2) ∧ z3 = []) ∧ ((decide (e.kind = 9)) = false → ((decide (e.kind = 10)) = true → (.v (.agg [.int .i64 e.kind, .int .i64 0, .int .u64 0, .int .i64 0, .str [], .int .i64 e.code, .int .i64 e.at_]) : S) = .v (.agg z2) ∧ z3 = []) ∧ ((decide (e.kind = 10)) = false → (.v (.agg [.int .i64 e.kind, .int .i64 0, .int .u64 0, .int .i64 0, .str [], .int .i64 0, .int .i64 0]) : S) = .v (.agg z2) ∧ z3 = []))))))))) (by kernel_rfl) ?_
  refine ⟨fun h1 => have p1 := of_decide_eq_true h1; ?_, fun h1 => have p1 := of_decide_eq_false h1; ?_⟩
  refine have hm1 : bareEv e = (⟨e.kind, 0, 0, e.len, [], 0, 0⟩ : Ev) := ?_; ?_
  rotate_left
  refine ⟨(congrArg S.v (congrArg V.agg (consE (congrArg (C.int .i64) ?_) (consE (congrArg (C.int .i64) ?_) (consE (congrArg (C.int .u64) ?_) (consE (congrArg (C.int .i64) ?_) (consE (congrArg C.str ?_) (consE (congrArg (C.int .i64) ?_) (consE (congrArg (C.int .i64) ?_) rfl))))))))), rfl⟩
  rotate_left 7
  refine ⟨fun h2 => have p2 := of_decide_eq_true h2; ?_, fun h2 => have p2 := of_decide_eq_false h2; ?_⟩
  refine have hm1 : bareEv e = (⟨e.kind, e.field, e.bits, 0, [], 0, 0⟩ : Ev) := ?_; ?_
  rotate_left
  refine ⟨(congrArg S.v (congrArg V.agg (consE (congrArg (C.int .i64) ?_) (consE (congrArg (C.int .i64) ?_) (consE (congrArg (C.int .u64) ?_) (consE (congrArg (C.int .i64) ?_) (consE (congrArg C.str ?_) (consE (congrArg (C.int .i64) ?_) (consE (congrArg (C.int .i64) ?_) rfl))))))))), rfl⟩
  rotate_left 7
  refine ⟨fun h3 => have p3 := of_decide_eq_true h3; ?_, fun h3 => have p3 := of_decide_eq_false h3; ?_⟩
  refine ⟨h3, ?_⟩
  refine have hm1 : bareEv e = (⟨e.kind, e.field, 0, e.len, [], 0, 0⟩ : Ev) := ?_; ?_
  rotate_left
  refine ⟨(congrArg S.v (congrArg V.agg (consE (congrArg (C.int .i64) ?_) (consE (congrArg (C.int .i64) ?_) (consE (congrArg (C.int .u64) ?_) (consE (congrArg (C.int .i64) ?_) (consE (congrArg C.str ?_) (consE (congrArg (C.int .i64) ?_) (consE (congrArg (C.int .i64) ?_) rfl))))))))), rfl⟩
  rotate_left 7
  refine ⟨fun h4 => have p4 := of_decide_eq_true h4; ?_, fun h4 => have p4 := of_decide_eq_false h4; ?_⟩
  refine have hm1 : bareEv e = (⟨e.kind, e.field, 0, e.len, [], 0, 0⟩ : Ev) := ?_; ?_
  rotate_left
  refine ⟨(congrArg S.v (congrArg V.agg (consE (congrArg (C.int .i64) ?_) (consE (congrArg (C.int .i64) ?_) (consE (congrArg (C.int .u64) ?_) (consE (congrArg (C.int .i64) ?_) (consE (congrArg C.str ?_) (consE (congrArg (C.int .i64) ?_) (consE (congrArg (C.int .i64) ?_) rfl))))))))), rfl⟩
  rotate_left 7
  refine ⟨fun h5 => have p5 := of_decide_eq_true h5; ?_, fun h5 => have p5 := of_decide_eq_false h5; ?_⟩
  refine have hm1 : bareEv e = (⟨e.kind, 0, 0, 0, e.text, 0, 0⟩ : Ev) := ?_; ?_
  rotate_left
  refine ⟨(congrArg S.v (congrArg V.agg (consE (congrArg (C.int .i64) ?_) (consE (congrArg (C.int .i64) ?_) (consE (congrArg (C.int .u64) ?_) (consE (congrArg (C.int .i64) ?_) (consE (congrArg C.str ?_) (consE (congrArg (C.int .i64) ?_) (consE (congrArg (C.int .i64) ?_) rfl))))))))), rfl⟩
  rotate_left 7
  refine ⟨fun h6 => have p6 := of_decide_eq_true h6; ?_, fun h6 => have p6 := of_decide_eq_false h6; ?_⟩
  refine have hm1 : bareEv e = (⟨e.kind, 0, 0, 0, [], 0, e.at_⟩ : Ev) := ?_; ?_
  rotate_left
  refine ⟨(congrArg S.v (congrArg V.agg (consE (congrArg (C.int .i64) ?_) (consE (congrArg (C.int .i64) ?_) (consE (congrArg (C.int .u64) ?_) (consE (congrArg (C.int .i64) ?_) (consE (congrArg C.str ?_) (consE (congrArg (C.int .i64) ?_) (consE (congrArg (C.int .i64) ?_) rfl))))))))), rfl⟩
  rotate_left 7
  refine ⟨fun h7 => have p7 := of_decide_eq_true h7; ?_, fun h7 => have p7 := of_decide_eq_false h7; ?_⟩
  refine have hm1 : bareEv e = (⟨e.kind, 0, 0, 0, [], e.code, e.at_⟩ : Ev) := ?_; ?_
  rotate_left
  refine ⟨(congrArg S.v (congrArg V.agg (consE (congrArg (C.int .i64) ?_) (consE (congrArg (C.int .i64) ?_) (consE (congrArg (C.int .u64) ?_) (consE (congrArg (C.int .i64) ?_) (consE (congrArg C.str ?_) (consE (congrArg (C.int .i64) ?_) (consE (congrArg (C.int .i64) ?_) rfl))))))))), rfl⟩
  rotate_left 7
  refine have hm1 : bareEv e = (⟨e.kind, 0, 0, 0, [], 0, 0⟩ : Ev) := ?_; ?_
  rotate_left
  refine ⟨(congrArg S.v (congrArg V.agg (consE (congrArg (C.int .i64) ?_) (consE (congrArg (C.int .i64) ?_) (consE (congrArg (C.int .u64) ?_) (consE (congrArg (C.int .i64) ?_) (consE (congrArg C.str ?_) (consE (congrArg (C.int .i64) ?_) (consE (congrArg (C.int .i64) ?_) rfl))))))))), rfl⟩
  rotate_left 7
  all_goals first | (simp_all [bareEv]; done) | (grind [bareEv])
theorem terminal_i (e : Ev) : Fun Tryz.prog 82 [.agg (cEv e)] [] (.v (vB (terminal e))) [] := by
  have hN : bigN = 274877906944 := rfl
  refine fun_ofw Tryz.func82 (by kernel_rfl) (by kernel_rfl) (w := (.br (.leaf () []) (.leaf () []), ((decide (e.kind = 9)) = true → (.v (vB true) : S) = .v (vB (terminal e)) ∧ ([] : List Blk) = []) ∧ ((decide (e.kind = 9)) = false → (.v (vB (decide (e.kind = 10))) : S) = .v (vB (terminal e)) ∧ ([] : List Blk) = []))) (by kernel_rfl) ?_
  refine ⟨fun h1 => have p1 := of_decide_eq_true h1; ?_, fun h1 => have p1 := of_decide_eq_false h1; ?_⟩
  refine ⟨(sB ?_), rfl⟩
  rotate_left
  refine ⟨(sB ?_), rfl⟩
  rotate_left
  all_goals first | (simp_all [terminal]; done) | (grind [terminal])
theorem terminal_s (e : Ev) : Fun Tryz.prog 65 [.agg (cEv e)] [] (.v (vB (terminal e))) [] := by
  have hN : bigN = 274877906944 := rfl
  refine fun_ofw Tryz.func65 (by kernel_rfl) (by kernel_rfl) (w := (.br (.leaf () []) (.leaf () []), ((decide (e.kind = 9)) = true → (.v (vB true) : S) = .v (vB (terminal e)) ∧ ([] : List Blk) = []) ∧ ((decide (e.kind = 9)) = false → (.v (vB (decide (e.kind = 10))) : S) = .v (vB (terminal e)) ∧ ([] : List Blk) = []))) (by kernel_rfl) ?_
  refine ⟨fun h1 => have p1 := of_decide_eq_true h1; ?_, fun h1 => have p1 := of_decide_eq_false h1; ?_⟩
  refine ⟨(sB ?_), rfl⟩
  rotate_left
  refine ⟨(sB ?_), rfl⟩
  rotate_left
  all_goals first | (simp_all [terminal]; done) | (grind [terminal])
theorem eventOk_i (e : Ev) : Fun Tryz.prog 81 [.agg (cEv e)] [] (.v (vB (eventOk e))) [] := by
  have hN : bigN = 274877906944 := rfl
  refine fun_ofw Tryz.func81 (by kernel_rfl) (by kernel_rfl) (w := let z2 := isEvent e.kind; let z3 := vB (eventOk e); let z4 := bareEv e; let z1 := !(decide (e.kind = z4.kind) && (decide (e.field = z4.field) && (decide (e.bits = z4.bits) && (decide (e.len = z4.len) && (decide (e.text = z4.text) && (decide (e.code = z4.code) && decide (e.at_ = z4.at_))))))); let z5 := ([] : List Blk); let z6 := decide (e.len < 0); let z7 := vB (within e.field 1 536870911); let z8 := (.v (vB false) : S); let z9 := hasField e.kind; let z10 := os 21 [2, 7]; (.case (!z2) (.seg [.ord z10 [], .call [] (.v (vB z2)) [], .br true] (.leaf () [])) (.case z1 (.seg [.ord z10 [], .call [] (.v (vB z2)) [], .br false, .call [] (.v (.agg (cEv z4))) [], .br true] (.leaf () [])) (.case z6 (.seg [.ord z10 [], .call [] (.v (vB z2)) [], .br false, .call [] (.v (.agg (cEv z4))) [], .br false, .br true] (.leaf () [])) (.seg [.ord z10 [], .call [] (.v (vB z2)) [], .br false, .call [] (.v (.agg (cEv z4))) [], .br false, .br false] (.br (.leaf () []) (.seg [.call [] (.v (vB z9)) []] (.br (.seg [.call [] (.v z7) []] (.leaf () [])) (.br (.leaf () []) (.br (.leaf () []) (.leaf () []))))))))), ((!z2) = true → (Fun Tryz.prog 127 [vI e.kind] [] (.v (vB z2)) []) ∧ ((!z2) = true) ∧ z8 = .v z3 ∧ z5 = []) ∧ ((!z2) = false → (z1 = true → (Fun Tryz.prog 127 [vI e.kind] [] (.v (vB z2)) []) ∧ ((!z2) = false) ∧ (Fun Tryz.prog 128 [.agg (cEv e)] [] (.v (.agg (cEv z4))) []) ∧ (z1 = true) ∧ z8 = .v z3 ∧ z5 = []) ∧ (z1 = false → (z6 = true → (Fun Tryz.prog 127 [vI e.kind] [] (.v (vB z2)) []) ∧ ((!z2) = false) ∧ (Fun Tryz.prog 128 [.agg (cEv e)] [] (.v (.agg (cEv z4))) []) ∧ (z1 = false) ∧ (z6 = true) ∧ z8 = .v z3 ∧ z5 = []) ∧ (z6 = false → (Fun Tryz.prog 127 [vI e.kind] [] (.v (vB z2)) []) ∧ ((!z2) = false) ∧ (Fun Tryz.prog 128 [.agg (cEv e)] [] (.v (.agg (cEv z4))) []) ∧ (z1 = false) ∧ (z6 = false) ∧ ((decide (e.at_ < 0)) = true → z8 = .v z3 ∧ z5 = []) ∧ ((decide (e.at_ < 0)) = false → (Fun Tryz.prog 129 [vI e.kind] [] (.v (vB z9)) []) ∧ (z9 = true → (Fun Tryz.prog 76 [vI e.field, vI 1, vI 536870911] [] (.v z7) []) ∧ (.v z7 : S) = .v z3 ∧ z5 = []) ∧ (z9 = false → ((decide (e.kind = 4)) = true → (.v (vB (!decide (e.text = []))) : S) = .v z3 ∧ z5 = []) ∧ ((decide (e.kind = 4)) = false → ((decide (e.kind = 10)) = true → (.v (vB (decide (1 ≤ e.code))) : S) = .v z3 ∧ z5 = []) ∧ ((decide (e.kind = 10)) = false → (.v (vB true) : S) = .v z3 ∧ z5 = []))))))))) (by kernel_rfl) ?_
  refine ⟨fun h1 => have q1 := bnot_t h1; ?_, fun h1 => have q1 := bnot_f h1; ?_⟩
  refine ⟨(isEvent_i _), h1, (sB ?_), rfl⟩
  rotate_left
  refine ⟨fun h2 => have q2 := bnot_t h2; have p2 := (andF dT (andF dT (andF dT (andF dT (andF dT (andF dT dF)))))).1 q2; ?_, fun h2 => have q2 := bnot_f h2; have p2 := (andT dT (andT dT (andT dT (andT dT (andT dT (andT dT dT)))))).1 q2; ?_⟩
  have hib : isBare e = false := by rw [isBare_eq rfl]; exact q2
  refine ⟨(isEvent_i _), h1, (bareEv_i e), h2, (sB ?_), rfl⟩
  rotate_left
  have hib : isBare e = true := by rw [isBare_eq rfl]; exact q2
  refine ⟨fun h3 => have p3 := of_decide_eq_true h3; ?_, fun h3 => have p3 := of_decide_eq_false h3; ?_⟩
  refine ⟨(isEvent_i _), h1, (bareEv_i e), h2, h3, (sB ?_), rfl⟩
  rotate_left
  refine ⟨(isEvent_i _), h1, (bareEv_i e), h2, h3, fun h4 => have p4 := of_decide_eq_true h4; ?_, fun h4 => have p4 := of_decide_eq_false h4; ?_⟩
  refine ⟨(sB ?_), rfl⟩
  rotate_left
  refine ⟨(hasField_i _), fun h5 => ?_, fun h5 => ?_⟩
  refine ⟨(within_i _ _ _), (sB ?_), rfl⟩
  rotate_left
  refine ⟨fun h6 => have p6 := of_decide_eq_true h6; ?_, fun h6 => have p6 := of_decide_eq_false h6; ?_⟩
  refine ⟨(sB ?_), rfl⟩
  rotate_left
  refine ⟨fun h7 => have p7 := of_decide_eq_true h7; ?_, fun h7 => have p7 := of_decide_eq_false h7; ?_⟩
  refine ⟨(sB ?_), rfl⟩
  rotate_left
  refine ⟨(sB ?_), rfl⟩
  rotate_left
  all_goals first | ((simp only [eventOk, hib]; simp [isEvent, hasField, *]; done)) | (grind [eventOk, hasField, isEvent])
structure eventOk_s_J0_V where
  want : Ev
def eventOk_s_J0_F (e : Ev) : Fam := ⟨eventOk_s_J0_V, fun j0 => [(1, .v (vP 0)), (3, .v (vP 1))], fun j0 => [.cells (cEv e), .cells (cEv j0.want)], fun j0 => j0.want = bareEv e, fun _ => 0⟩

theorem eventOk_s (e : Ev) : Fun Tryz.prog 64 [.agg (cEv e)] [] (.v (vB (eventOk e))) [] := by
  have hN : bigN = 274877906944 := rfl
  refine fun_ofw Tryz.func64 (by kernel_rfl) (by kernel_rfl) (w := let z2 := vB (within e.field 1 536870911); let z3 := eventOk_s_J0_F e; let z4 := vB (eventOk e); let z5 : List Blk := [.cells (cEv e), .cells [.int .i64 e.kind, .int .i64 e.field, .int .u64 0, .int .i64 e.len, .str [], .int .i64 0, .int .i64 0]]; let z6 := ([] : List Blk); let z7 := decide (e.kind = 3); let z8 := decide (e.kind = 2); let z9 := decide (e.kind = 10); let z10 := decide (e.kind = 6); let z11 := decide (e.kind = 4); let z12 : List V := [vI e.field, vI 1, vI 536870911]; let z13 := within e.kind 1 10; let z14 := (.v (vB false) : S); (.join 0 z3 (.br (.seg [.at 0, .keep [1, 3], .sel [0, 1]] (.next)) (.br (.seg [.at 0, .keep [1, 3], .sel [0, 1]] (.next)) (.br (.seg [.br true, .at 0, .keep [1, 3], .sel [0, 1]] (.next)) (.br (.seg [.at 0, .keep [1, 3], .sel [0, 1]] (.next)) (.br (.seg [.at 0, .keep [1, 3], .sel [0, 1]] (.next)) (.br (.seg [.at 0, .keep [1, 3], .sel [0, 1]] (.next)) (.br (.seg [.at 0, .keep [1, 3], .sel [0, 1]] (.next)) (.seg [.at 0, .keep [1, 3], .sel [0, 1]] (.next))))))))) fun j0 => .br (.leaf () []) (.seg [.call [] (.v (vB z13)) []] (.br (.leaf () []) (.br (.leaf () []) (.br (.leaf () []) (.br (.seg [.br true, .call [] (.v z2) []] (.leaf () [])) (.br (.seg [.br true, .call [] (.v z2) []] (.leaf () [])) (.br (.seg [.call [] (.v z2) []] (.leaf () [])) (.br (.leaf () []) (.br (.leaf () []) (.leaf () [])))))))))), (((decide (e.kind = 1)) = true → z3.Has [(1, .v (vP 0)), (3, .v (vP 1))] [.cells (cEv e), .cells [.int .i64 e.kind, .int .i64 0, .int .u64 0, .int .i64 e.len, .str [], .int .i64 0, .int .i64 0]]) ∧ ((decide (e.kind = 1)) = false → (z8 = true → z3.Has [(1, .v (vP 0)), (3, .v (vP 1))] [.cells (cEv e), .cells [.int .i64 e.kind, .int .i64 e.field, .int .u64 e.bits, .int .i64 0, .str [], .int .i64 0, .int .i64 0]]) ∧ (z8 = false → (z7 = true → (z7 = true) ∧ z3.Has [(1, .v (vP 0)), (3, .v (vP 1))] z5) ∧ (z7 = false → (z10 = true → z3.Has [(1, .v (vP 0)), (3, .v (vP 1))] z5) ∧ (z10 = false → (z11 = true → z3.Has [(1, .v (vP 0)), (3, .v (vP 1))] [.cells (cEv e), .cells [.int .i64 e.kind, .int .i64 0, .int .u64 0, .int .i64 0, .str e.text, .int .i64 0, .int .i64 0]]) ∧ (z11 = false → ((decide (e.kind = 9)) = true → z3.Has [(1, .v (vP 0)), (3, .v (vP 1))] [.cells (cEv e), .cells [.int .i64 e.kind, .int .i64 0, .int .u64 0, .int .i64 0, .str [], .int .i64 0, .int .i64 e.at_]]) ∧ ((decide (e.kind = 9)) = false → (z9 = true → z3.Has [(1, .v (vP 0)), (3, .v (vP 1))] [.cells (cEv e), .cells [.int .i64 e.kind, .int .i64 0, .int .u64 0, .int .i64 0, .str [], .int .i64 e.code, .int .i64 e.at_]]) ∧ (z9 = false → z3.Has [(1, .v (vP 0)), (3, .v (vP 1))] [.cells (cEv e), .cells [.int .i64 e.kind, .int .i64 0, .int .u64 0, .int .i64 0, .str [], .int .i64 0, .int .i64 0]])))))))) ∧ ∀ j0, z3.inv j0 → (let z1 := !(decide (e.kind = j0.want.kind) && (decide (e.field = j0.want.field) && (decide (e.bits = j0.want.bits) && (decide (e.len = j0.want.len) && (decide (e.text = j0.want.text) && (decide (e.code = j0.want.code) && decide (e.at_ = j0.want.at_))))))); (z1 = true → z14 = .v z4 ∧ z6 = []) ∧ (z1 = false → (Fun Tryz.prog 58 [vI e.kind, vI 1, vI 10] [] (.v (vB z13)) []) ∧ ((!z13) = true → z14 = .v z4 ∧ z6 = []) ∧ ((!z13) = false → ((decide (e.len < 0)) = true → z14 = .v z4 ∧ z6 = []) ∧ ((decide (e.len < 0)) = false → ((decide (e.at_ < 0)) = true → z14 = .v z4 ∧ z6 = []) ∧ ((decide (e.at_ < 0)) = false → (z8 = true → (z8 = true) ∧ (Fun Tryz.prog 58 z12 [] (.v z2) []) ∧ (.v z2 : S) = .v z4 ∧ z6 = []) ∧ (z8 = false → (z7 = true → (z7 = true) ∧ (Fun Tryz.prog 58 z12 [] (.v z2) []) ∧ (.v z2 : S) = .v z4 ∧ z6 = []) ∧ (z7 = false → (z10 = true → (Fun Tryz.prog 58 z12 [] (.v z2) []) ∧ (.v z2 : S) = .v z4 ∧ z6 = []) ∧ (z10 = false → (z11 = true → (.v (vB (!decide (e.text = []))) : S) = .v z4 ∧ z6 = []) ∧ (z11 = false → (z9 = true → (.v (vB (decide (1 ≤ e.code))) : S) = .v z4 ∧ z6 = []) ∧ (z9 = false → (.v (vB true) : S) = .v z4 ∧ z6 = [])))))))))))) (by kernel_rfl) ?_
  refine ⟨?_, fun (j0 : eventOk_s_J0_V) hq_j0 => ?_⟩
  refine ⟨fun h2 => have p2 := of_decide_eq_true h2; ?_, fun h2 => have p2 := of_decide_eq_false h2; ?_⟩
  exact has_of (j := (⟨(⟨e.kind, 0, 0, e.len, [], 0, 0⟩ : Ev)⟩ : eventOk_s_J0_V)) rfl (by first | rfl | simp) (by dsimp only [eventOk_s_J0_F]; first | ((simp_all [bareEv]; done)) | (grind [bareEv]))
  refine ⟨fun h3 => have p3 := of_decide_eq_true h3; ?_, fun h3 => have p3 := of_decide_eq_false h3; ?_⟩
  exact has_of (j := (⟨(⟨e.kind, e.field, e.bits, 0, [], 0, 0⟩ : Ev)⟩ : eventOk_s_J0_V)) rfl (by first | rfl | simp) (by dsimp only [eventOk_s_J0_F]; first | ((simp_all [bareEv]; done)) | (grind [bareEv]))
  refine ⟨fun h4 => have p4 := of_decide_eq_true h4; ?_, fun h4 => have p4 := of_decide_eq_false h4; ?_⟩
  exact ⟨h4, has_of (j := (⟨(⟨e.kind, e.field, 0, e.len, [], 0, 0⟩ : Ev)⟩ : eventOk_s_J0_V)) rfl (by first | rfl | simp) (by dsimp only [eventOk_s_J0_F]; first | ((simp_all [bareEv]; done)) | (grind [bareEv]))⟩
  refine ⟨fun h5 => have p5 := of_decide_eq_true h5; ?_, fun h5 => have p5 := of_decide_eq_false h5; ?_⟩
  exact has_of (j := (⟨(⟨e.kind, e.field, 0, e.len, [], 0, 0⟩ : Ev)⟩ : eventOk_s_J0_V)) rfl (by first | rfl | simp) (by dsimp only [eventOk_s_J0_F]; first | ((simp_all [bareEv]; done)) | (grind [bareEv]))
  refine ⟨fun h6 => have p6 := of_decide_eq_true h6; ?_, fun h6 => have p6 := of_decide_eq_false h6; ?_⟩
  exact has_of (j := (⟨(⟨e.kind, 0, 0, 0, e.text, 0, 0⟩ : Ev)⟩ : eventOk_s_J0_V)) rfl (by first | rfl | simp) (by dsimp only [eventOk_s_J0_F]; first | ((simp_all [bareEv]; done)) | (grind [bareEv]))
  refine ⟨fun h7 => have p7 := of_decide_eq_true h7; ?_, fun h7 => have p7 := of_decide_eq_false h7; ?_⟩
  exact has_of (j := (⟨(⟨e.kind, 0, 0, 0, [], 0, e.at_⟩ : Ev)⟩ : eventOk_s_J0_V)) rfl (by first | rfl | simp) (by dsimp only [eventOk_s_J0_F]; first | ((simp_all [bareEv]; done)) | (grind [bareEv]))
  refine ⟨fun h8 => have p8 := of_decide_eq_true h8; ?_, fun h8 => have p8 := of_decide_eq_false h8; ?_⟩
  exact has_of (j := (⟨(⟨e.kind, 0, 0, 0, [], e.code, e.at_⟩ : Ev)⟩ : eventOk_s_J0_V)) rfl (by first | rfl | simp) (by dsimp only [eventOk_s_J0_F]; first | ((simp_all [bareEv]; done)) | (grind [bareEv]))
  exact has_of (j := (⟨(⟨e.kind, 0, 0, 0, [], 0, 0⟩ : Ev)⟩ : eventOk_s_J0_V)) rfl (by first | rfl | simp) (by dsimp only [eventOk_s_J0_F]; first | ((simp_all [bareEv]; done)) | (grind [bareEv]))
  have hi_j0 : j0.want = bareEv e := hq_j0
  refine ⟨fun h2 => have q2 := bnot_t h2; have p2 := (andF dT (andF dT (andF dT (andF dT (andF dT (andF dT dF)))))).1 q2; ?_, fun h2 => have q2 := bnot_f h2; have p2 := (andT dT (andT dT (andT dT (andT dT (andT dT (andT dT dT)))))).1 q2; ?_⟩
  have hib : isBare e = false := by rw [isBare_eq hi_j0.symm]; exact q2
  refine ⟨(sB ?_), rfl⟩
  rotate_left
  have hib : isBare e = true := by rw [isBare_eq hi_j0.symm]; exact q2
  refine ⟨(within_s _ _ _), fun h3 => have q3 := bnot_t h3; have p3 := within_f q3; ?_, fun h3 => have q3 := bnot_f h3; have p3 := within_t q3; ?_⟩
  refine ⟨(sB ?_), rfl⟩
  rotate_left
  refine ⟨fun h4 => have p4 := of_decide_eq_true h4; ?_, fun h4 => have p4 := of_decide_eq_false h4; ?_⟩
  refine ⟨(sB ?_), rfl⟩
  rotate_left
  refine ⟨fun h5 => have p5 := of_decide_eq_true h5; ?_, fun h5 => have p5 := of_decide_eq_false h5; ?_⟩
  refine ⟨(sB ?_), rfl⟩
  rotate_left
  refine ⟨fun h6 => have p6 := of_decide_eq_true h6; ?_, fun h6 => have p6 := of_decide_eq_false h6; ?_⟩
  refine ⟨h6, (within_s _ _ _), (sB ?_), rfl⟩
  rotate_left
  refine ⟨fun h7 => have p7 := of_decide_eq_true h7; ?_, fun h7 => have p7 := of_decide_eq_false h7; ?_⟩
  refine ⟨h7, (within_s _ _ _), (sB ?_), rfl⟩
  rotate_left
  refine ⟨fun h8 => have p8 := of_decide_eq_true h8; ?_, fun h8 => have p8 := of_decide_eq_false h8; ?_⟩
  refine ⟨(within_s _ _ _), (sB ?_), rfl⟩
  rotate_left
  refine ⟨fun h9 => have p9 := of_decide_eq_true h9; ?_, fun h9 => have p9 := of_decide_eq_false h9; ?_⟩
  refine ⟨(sB ?_), rfl⟩
  rotate_left
  refine ⟨fun h10 => have p10 := of_decide_eq_true h10; ?_, fun h10 => have p10 := of_decide_eq_false h10; ?_⟩
  refine ⟨(sB ?_), rfl⟩
  rotate_left
  refine ⟨(sB ?_), rfl⟩
  rotate_left
  all_goals first | ((simp only [eventOk, hib]; simp [isEvent, hasField, *]; done)) | (grind [eventOk, hasField, isEvent])
theorem scanOk_i (s : Scn) : Fun Tryz.prog 134 [.agg (cScn s)] [] (.v (vB (scanOk s))) [] := by
  have hN : bigN = 274877906944 := rfl
  refine fun_ofw Tryz.func134 (by kernel_rfl) (by kernel_rfl) (w := let z1 := 7 * s.have_; let z2 := within s.have_ 0 9; (.seg [.call [] (.v (vB z2)) []] (.br (.seg [.as 11 (.v (vI z1)), .as 12 (.v (.c (.int .u64 z1)))] (.leaf () [])) (.leaf () [])), (Fun Tryz.prog 76 [vI s.have_, vI 0, vI 9] [] (.v (vB z2)) []) ∧ (z2 = true → ((.v (vI (IntKind.i64.wrap z1)) : S) = .v (vI z1)) ∧ ((.v (.c (.int .u64 (IntKind.u64.wrap z1))) : S) = .v (.c (.int .u64 z1))) ∧ ((0 : Int) ≤ 7 * s.have_) ∧ (.v (vB (decide (Int.fdiv s.bits (2 ^ min (z1.toNat) 64) = 0))) : S) = .v (vB (scanOk s)) ∧ ([] : List Blk) = []) ∧ (z2 = false → (.v (vB false) : S) = .v (vB (scanOk s)) ∧ ([] : List Blk) = []))) (by kernel_rfl) ?_
  refine ⟨(within_i _ _ _), fun h1 => have p1 := within_t h1; ?_, fun h1 => have p1 := within_f h1; ?_⟩
  refine ⟨(as_i64 (by omega) (by omega)), (as_u64 (by omega) (by omega)), (by omega), (sB ?_), rfl⟩
  rotate_left
  refine ⟨(sB ?_), rfl⟩
  rotate_left
  all_goals first | (simp_all [scanOk]; done) | (grind [scanOk])
theorem scanOk_s (s : Scn) : Fun Tryz.prog 120 [.agg (cScn s)] [] (.v (vB (scanOk s))) [] := by
  have hN : bigN = 274877906944 := rfl
  refine fun_ofw Tryz.func120 (by kernel_rfl) (by kernel_rfl) (w := let z1 := 7 * s.have_; let z2 := within s.have_ 0 9; (.seg [.call [] (.v (vB z2)) []] (.br (.seg [.as 11 (.v (vI z1)), .as 12 (.v (.c (.int .u64 z1)))] (.leaf () [])) (.leaf () [])), (Fun Tryz.prog 58 [vI s.have_, vI 0, vI 9] [] (.v (vB z2)) []) ∧ (z2 = true → ((.v (vI (IntKind.i64.wrap z1)) : S) = .v (vI z1)) ∧ ((.v (.c (.int .u64 (IntKind.u64.wrap z1))) : S) = .v (.c (.int .u64 z1))) ∧ ((0 : Int) ≤ 7 * s.have_) ∧ (.v (vB (decide (Int.fdiv s.bits (2 ^ min (z1.toNat) 64) = 0))) : S) = .v (vB (scanOk s)) ∧ ([] : List Blk) = []) ∧ (z2 = false → (.v (vB false) : S) = .v (vB (scanOk s)) ∧ ([] : List Blk) = []))) (by kernel_rfl) ?_
  refine ⟨(within_s _ _ _), fun h1 => have p1 := within_t h1; ?_, fun h1 => have p1 := within_f h1; ?_⟩
  refine ⟨(as_i64 (by omega) (by omega)), (as_u64 (by omega) (by omega)), (by omega), (sB ?_), rfl⟩
  rotate_left
  refine ⟨(sB ?_), rfl⟩
  rotate_left
  all_goals first | (simp_all [scanOk]; done) | (grind [scanOk])
theorem widthD_i (d : Dcd) : Fun Tryz.prog 133 [.agg (cDcd d)] [] (.v (vI (widthD d))) [] := by
  have hN : bigN = 274877906944 := rfl
  refine fun_ofw Tryz.func133 (by kernel_rfl) (by kernel_rfl) (w := let z1 := wireOf d.field.kind; let z2 := vI (widthOf d.wire); (.br (.seg [.call [] (.v z2) []] (.leaf () [])) (.br (.seg [.call [] (.v (vI z1)) [], .call [] (.v (vI (widthOf z1))) []] (.leaf () [])) (.leaf () [])), ((decide (d.mode = 5)) = true → (Fun Tryz.prog 132 [vI d.wire] [] (.v z2) []) ∧ (.v z2 : S) = .v (vI (widthD d)) ∧ ([] : List Blk) = []) ∧ ((decide (d.mode = 5)) = false → ((decide (d.mode = 8)) = true → (Fun Tryz.prog 169 [vI d.field.kind] [] (.v (vI z1)) []) ∧ (Fun Tryz.prog 132 [vI z1] [] (.v (vI (widthOf z1))) []) ∧ (.v (vI (widthOf z1)) : S) = .v (vI (widthD d)) ∧ ([] : List Blk) = []) ∧ ((decide (d.mode = 8)) = false → (.v (vI 0) : S) = .v (vI (widthD d)) ∧ ([] : List Blk) = [])))) (by kernel_rfl) ?_
  refine ⟨fun h1 => have p1 := of_decide_eq_true h1; ?_, fun h1 => have p1 := of_decide_eq_false h1; ?_⟩
  refine ⟨(widthOf_i _), (sI ?_), rfl⟩
  rotate_left
  refine ⟨fun h2 => have p2 := of_decide_eq_true h2; ?_, fun h2 => have p2 := of_decide_eq_false h2; ?_⟩
  refine ⟨(wireOf_i _), (widthOf_i _), (sI ?_), rfl⟩
  rotate_left
  refine ⟨(sI ?_), rfl⟩
  rotate_left
  all_goals first | (simp_all [widthD]; done) | (grind [widthD])
theorem widthD_s (d : Dcd) : Fun Tryz.prog 105 [.agg (cDcd d)] [] (.v (vI (widthD d))) [] := by
  have hN : bigN = 274877906944 := rfl
  refine fun_ofw Tryz.func105 (by kernel_rfl) (by kernel_rfl) (w := let z1 := wireOf d.field.kind; let z2 := vI (widthOf d.wire); (.br (.seg [.call [] (.v z2) []] (.leaf () [])) (.br (.seg [.call [] (.v (vI z1)) [], .call [] (.v (vI (widthOf z1))) []] (.leaf () [])) (.leaf () [])), ((decide (d.mode = 5)) = true → (Fun Tryz.prog 67 [vI d.wire] [] (.v z2) []) ∧ (.v z2 : S) = .v (vI (widthD d)) ∧ ([] : List Blk) = []) ∧ ((decide (d.mode = 5)) = false → ((decide (d.mode = 8)) = true → (Fun Tryz.prog 118 [vI d.field.kind] [] (.v (vI z1)) []) ∧ (Fun Tryz.prog 67 [vI z1] [] (.v (vI (widthOf z1))) []) ∧ (.v (vI (widthOf z1)) : S) = .v (vI (widthD d)) ∧ ([] : List Blk) = []) ∧ ((decide (d.mode = 8)) = false → (.v (vI 0) : S) = .v (vI (widthD d)) ∧ ([] : List Blk) = [])))) (by kernel_rfl) ?_
  refine ⟨fun h1 => have p1 := of_decide_eq_true h1; ?_, fun h1 => have p1 := of_decide_eq_false h1; ?_⟩
  refine ⟨(widthOf_s _), (sI ?_), rfl⟩
  rotate_left
  refine ⟨fun h2 => have p2 := of_decide_eq_true h2; ?_, fun h2 => have p2 := of_decide_eq_false h2; ?_⟩
  refine ⟨(wireOf_s _), (widthOf_s _), (sI ?_), rfl⟩
  rotate_left
  refine ⟨(sI ?_), rfl⟩
  rotate_left
  all_goals first | (simp_all [widthD]; done) | (grind [widthD])
end Go.Proofs.YthmhekbmhpljcaaGreat.Ax
