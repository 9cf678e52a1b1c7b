/- Decoders: what is valid, more. Opening what the laws are handed. -/
import Derived.Test.YtecljjcmjongfaaGreatKS4
import Derived.Test.YtecljjcmjongfaaGreatKS1
import Derived.Test.YtecljjcmjongfaaGreatKB4
set_option linter.unusedSimpArgs false
set_option linter.unusedVariables false
namespace Go.Proofs.YtecljjcmjongfaaGreat.Ax
open Go.RowKit
theorem bareEv_i (e : Ev) : Fun Tryz.prog 55 [.agg (cEv e)] [] (.v (.agg (cEv (bareEv e)))) [] := by
  have hN : bigN = 274877906944 := rfl
  refine fun_ofw Tryz.func55 (by kernel_rfl) (by kernel_rfl) (w := let zi : Int → C := .int .i64; let z1 : List C := [.int .u64 0, zi e.len, .str [], zi 0, zi 0]; let z2 := cEv (bareEv e); let z3 := ([] : List Blk); let z4 := (.v (.agg (zi e.kind :: zi e.field :: z1)) : S); let z5 := decide (e.kind = 3); let z6 := os 8 [5, 7]; (.br (.leaf () []) (.br (.seg [.ord z6 [2]] (.leaf () [])) (.br (.seg [.br true, .ord z6 [2]] (.leaf () [])) (.br (.seg [.ord z6 [2]] (.leaf () [])) (.br (.leaf () []) (.br (.leaf () []) (.br (.seg [.ord z6 [2]] (.leaf () [])) (.leaf () []))))))), ((decide (e.kind = 1)) = true → (.v (.agg (zi e.kind :: zi 0 :: z1)) : S) = .v (.agg z2) ∧ z3 = []) ∧ ((decide (e.kind = 1)) = false → ((decide (e.kind = 2)) = true → (.v (.agg [zi e.kind, zi e.field, .int .u64 e.bits, zi 0, .str [], zi 0, zi 0]) : S) = .v (.agg z2) ∧ z3 = []) ∧ ((decide (e.kind = 2)) = false → (z5 = true → (z5 = true) ∧ z4 = .v (.agg z2) ∧ z3 = []) ∧ (z5 = false → ((decide (e.kind = 6)) = true → z4 = .v (.agg z2) ∧ z3 = []) ∧ ((decide (e.kind = 6)) = false → ((decide (e.kind = 4)) = true → (.v (.agg [zi e.kind, zi 0, .int .u64 0, zi 0, .str e.text, zi 0, zi 0]) : S) = .v (.agg z2) ∧ z3 = []) ∧ ((decide (e.kind = 4)) = false → ((decide (e.kind = 9)) = true → (.v (.agg [zi e.kind, zi 0, .int .u64 0, zi 0, .str [], zi 0, zi e.at_]) : S) = .v (.agg z2) ∧ z3 = []) ∧ ((decide (e.kind = 9)) = false → ((decide (e.kind = 10)) = true → (.v (.agg [zi e.kind, zi 0, .int .u64 0, zi 0, .str [], zi e.code, zi e.at_]) : S) = .v (.agg z2) ∧ z3 = []) ∧ ((decide (e.kind = 10)) = false → (.v (.agg [zi e.kind, zi 0, .int .u64 0, zi 0, .str [], zi 0, zi 0]) : S) = .v (.agg z2) ∧ z3 = []))))))))) (by kernel_rfl) ?_
  refine dsp (fun h1 p1 => ?_) fun h1 p1 => ?_
  refine have hm1 : bareEv e = (⟨e.kind, 0, 0, e.len, [], 0, 0⟩ : Ev) := ?_; ?_
  rotate_left
  refine ⟨(congrArg S.v (congrArg V.agg (consE (congrArg (C.int .i64) ?_) (consE (congrArg (C.int .i64) ?_) (consE (congrArg (C.int .u64) ?_) (consE (congrArg (C.int .i64) ?_) (consE (congrArg C.str ?_) (consE (congrArg (C.int .i64) ?_) (consE (congrArg (C.int .i64) ?_) rfl))))))))), rfl⟩
  rotate_left 7
  refine dsp (fun h2 p2 => ?_) fun h2 p2 => ?_
  refine have hm1 : bareEv e = (⟨e.kind, e.field, e.bits, 0, [], 0, 0⟩ : Ev) := ?_; ?_
  rotate_left
  refine ⟨(congrArg S.v (congrArg V.agg (consE (congrArg (C.int .i64) ?_) (consE (congrArg (C.int .i64) ?_) (consE (congrArg (C.int .u64) ?_) (consE (congrArg (C.int .i64) ?_) (consE (congrArg C.str ?_) (consE (congrArg (C.int .i64) ?_) (consE (congrArg (C.int .i64) ?_) rfl))))))))), rfl⟩
  rotate_left 7
  refine dsp (fun h3 p3 => ?_) fun h3 p3 => ?_
  refine ⟨h3, ?_⟩
  refine have hm1 : bareEv e = (⟨e.kind, e.field, 0, e.len, [], 0, 0⟩ : Ev) := ?_; ?_
  rotate_left
  refine ⟨(congrArg S.v (congrArg V.agg (consE (congrArg (C.int .i64) ?_) (consE (congrArg (C.int .i64) ?_) (consE (congrArg (C.int .u64) ?_) (consE (congrArg (C.int .i64) ?_) (consE (congrArg C.str ?_) (consE (congrArg (C.int .i64) ?_) (consE (congrArg (C.int .i64) ?_) rfl))))))))), rfl⟩
  rotate_left 7
  refine dsp (fun h4 p4 => ?_) fun h4 p4 => ?_
  refine have hm1 : bareEv e = (⟨e.kind, e.field, 0, e.len, [], 0, 0⟩ : Ev) := ?_; ?_
  rotate_left
  refine ⟨(congrArg S.v (congrArg V.agg (consE (congrArg (C.int .i64) ?_) (consE (congrArg (C.int .i64) ?_) (consE (congrArg (C.int .u64) ?_) (consE (congrArg (C.int .i64) ?_) (consE (congrArg C.str ?_) (consE (congrArg (C.int .i64) ?_) (consE (congrArg (C.int .i64) ?_) rfl))))))))), rfl⟩
  rotate_left 7
  refine dsp (fun h5 p5 => ?_) fun h5 p5 => ?_
  refine have hm1 : bareEv e = (⟨e.kind, 0, 0, 0, e.text, 0, 0⟩ : Ev) := ?_; ?_
  rotate_left
  refine ⟨(congrArg S.v (congrArg V.agg (consE (congrArg (C.int .i64) ?_) (consE (congrArg (C.int .i64) ?_) (consE (congrArg (C.int .u64) ?_) (consE (congrArg (C.int .i64) ?_) (consE (congrArg C.str ?_) (consE (congrArg (C.int .i64) ?_) (consE (congrArg (C.int .i64) ?_) rfl))))))))), rfl⟩
  rotate_left 7
  refine dsp (fun h6 p6 => ?_) fun h6 p6 => ?_
  refine have hm1 : bareEv e = (⟨e.kind, 0, 0, 0, [], 0, e.at_⟩ : Ev) := ?_; ?_
  rotate_left
  refine ⟨(congrArg S.v (congrArg V.agg (consE (congrArg (C.int .i64) ?_) (consE (congrArg (C.int .i64) ?_) (consE (congrArg (C.int .u64) ?_) (consE (congrArg (C.int .i64) ?_) (consE (congrArg C.str ?_) (consE (congrArg (C.int .i64) ?_) (consE (congrArg (C.int .i64) ?_) rfl))))))))), rfl⟩
  rotate_left 7
  refine dsp (fun h7 p7 => ?_) fun h7 p7 => ?_
  refine have hm1 : bareEv e = (⟨e.kind, 0, 0, 0, [], e.code, e.at_⟩ : Ev) := ?_; ?_
  rotate_left
  refine ⟨(congrArg S.v (congrArg V.agg (consE (congrArg (C.int .i64) ?_) (consE (congrArg (C.int .i64) ?_) (consE (congrArg (C.int .u64) ?_) (consE (congrArg (C.int .i64) ?_) (consE (congrArg C.str ?_) (consE (congrArg (C.int .i64) ?_) (consE (congrArg (C.int .i64) ?_) rfl))))))))), rfl⟩
  rotate_left 7
  refine have hm1 : bareEv e = (⟨e.kind, 0, 0, 0, [], 0, 0⟩ : Ev) := ?_; ?_
  rotate_left
  refine ⟨(congrArg S.v (congrArg V.agg (consE (congrArg (C.int .i64) ?_) (consE (congrArg (C.int .i64) ?_) (consE (congrArg (C.int .u64) ?_) (consE (congrArg (C.int .i64) ?_) (consE (congrArg C.str ?_) (consE (congrArg (C.int .i64) ?_) (consE (congrArg (C.int .i64) ?_) rfl))))))))), rfl⟩
  rotate_left 7
  all_goals first | (simp_all [bareEv]; done) | (grind [bareEv])
theorem terminal_s (e : Ev) : Fun Tryz.prog 124 [.agg (cEv e)] [] (.v (vB (terminal e))) [] := by
  have hN : bigN = 274877906944 := rfl
  refine fun_ofw Tryz.func124 (by kernel_rfl) (by kernel_rfl) (w := (.br (.leaf () []) (.leaf () []), ((decide (e.kind = 9)) = true → (.v (vB true) : S) = .v (vB (terminal e)) ∧ ([] : List Blk) = []) ∧ ((decide (e.kind = 9)) = false → (.v (vB (decide (e.kind = 10))) : S) = .v (vB (terminal e)) ∧ ([] : List Blk) = []))) (by kernel_rfl) ?_
  refine dsp (fun h1 p1 => ?_) fun h1 p1 => ?_
  refine ⟨(sB ?_), rfl⟩
  rotate_left
  refine ⟨(sB ?_), rfl⟩
  rotate_left
  all_goals first | (simp_all [terminal]; done) | (grind [terminal])
structure eventOk_s_J0_V where
  want : Ev
def eventOk_s_J0_F (e : Ev) : Fam := ⟨eventOk_s_J0_V, fun j0 => [(1, .v (vP 0)), (3, .v (vP 1))], fun j0 => [.cells (cEv e), .cells (cEv j0.want)], fun j0 => j0.want = bareEv e, fun _ => 0⟩
theorem eventOk_s (e : Ev) : Fun Tryz.prog 123 [.agg (cEv e)] [] (.v (vB (eventOk e))) [] := by
  have hN : bigN = 274877906944 := rfl
  refine fun_ofw Tryz.func123 (by kernel_rfl) (by kernel_rfl) (w := let zi : Int → C := .int .i64; let z2 : List C := [.int .u64 0, zi e.len, .str [], zi 0, zi 0]; let z3 := vB (within e.field 1 536870911); let z4 := eventOk_s_J0_F e; let z5 := vB (eventOk e); let z6 := ([] : List Blk); let z7 := decide (e.kind = 3); let z8 := decide (e.kind = 2); let z9 : List Blk := [.cells (cEv e), .cells (zi e.kind :: zi e.field :: z2)]; let z10 := decide (e.kind = 10); let z11 := decide (e.kind = 6); let z12 := decide (e.kind = 4); let z13 : List V := [vI e.field, vI 1, vI 536870911]; let z14 := within e.kind 1 10; let z15 := (.v (vB false) : S); (.join 0 z4 (.br (.seg [.at 0, .keep [1, 3], .sel [0, 1]] (.next)) (.br (.seg [.at 0, .keep [1, 3], .sel [0, 1]] (.next)) (.br (.seg [.br true, .at 0, .keep [1, 3], .sel [0, 1]] (.next)) (.br (.seg [.at 0, .keep [1, 3], .sel [0, 1]] (.next)) (.br (.seg [.at 0, .keep [1, 3], .sel [0, 1]] (.next)) (.br (.seg [.at 0, .keep [1, 3], .sel [0, 1]] (.next)) (.br (.seg [.at 0, .keep [1, 3], .sel [0, 1]] (.next)) (.seg [.at 0, .keep [1, 3], .sel [0, 1]] (.next))))))))) fun j0 => .br (.leaf () []) (.seg [.call [] (.v (vB z14)) []] (.br (.leaf () []) (.br (.leaf () []) (.br (.leaf () []) (.br (.seg [.br true, .call [] (.v z3) []] (.leaf () [])) (.br (.seg [.br true, .call [] (.v z3) []] (.leaf () [])) (.br (.seg [.call [] (.v z3) []] (.leaf () [])) (.br (.leaf () []) (.br (.leaf () []) (.leaf () [])))))))))), (((decide (e.kind = 1)) = true → z4.Has [(1, .v (vP 0)), (3, .v (vP 1))] [.cells (cEv e), .cells (zi e.kind :: zi 0 :: z2)]) ∧ ((decide (e.kind = 1)) = false → (z8 = true → z4.Has [(1, .v (vP 0)), (3, .v (vP 1))] [.cells (cEv e), .cells [zi e.kind, zi e.field, .int .u64 e.bits, zi 0, .str [], zi 0, zi 0]]) ∧ (z8 = false → (z7 = true → (z7 = true) ∧ z4.Has [(1, .v (vP 0)), (3, .v (vP 1))] z9) ∧ (z7 = false → (z11 = true → z4.Has [(1, .v (vP 0)), (3, .v (vP 1))] z9) ∧ (z11 = false → (z12 = true → z4.Has [(1, .v (vP 0)), (3, .v (vP 1))] [.cells (cEv e), .cells [zi e.kind, zi 0, .int .u64 0, zi 0, .str e.text, zi 0, zi 0]]) ∧ (z12 = false → ((decide (e.kind = 9)) = true → z4.Has [(1, .v (vP 0)), (3, .v (vP 1))] [.cells (cEv e), .cells [zi e.kind, zi 0, .int .u64 0, zi 0, .str [], zi 0, zi e.at_]]) ∧ ((decide (e.kind = 9)) = false → (z10 = true → z4.Has [(1, .v (vP 0)), (3, .v (vP 1))] [.cells (cEv e), .cells [zi e.kind, zi 0, .int .u64 0, zi 0, .str [], zi e.code, zi e.at_]]) ∧ (z10 = false → z4.Has [(1, .v (vP 0)), (3, .v (vP 1))] [.cells (cEv e), .cells [zi e.kind, zi 0, .int .u64 0, zi 0, .str [], zi 0, zi 0]])))))))) ∧ ∀ j0, z4.inv j0 → (let z1 := !(decide (e.kind = j0.want.kind) && (decide (e.field = j0.want.field) && (decide (e.bits = j0.want.bits) && (decide (e.len = j0.want.len) && (decide (e.text = j0.want.text) && (decide (e.code = j0.want.code) && decide (e.at_ = j0.want.at_))))))); (z1 = true → z15 = .v z5 ∧ z6 = []) ∧ (z1 = false → (Fun Tryz.prog 72 [vI e.kind, vI 1, vI 10] [] (.v (vB z14)) []) ∧ ((!z14) = true → z15 = .v z5 ∧ z6 = []) ∧ ((!z14) = false → ((decide (e.len < 0)) = true → z15 = .v z5 ∧ z6 = []) ∧ ((decide (e.len < 0)) = false → ((decide (e.at_ < 0)) = true → z15 = .v z5 ∧ z6 = []) ∧ ((decide (e.at_ < 0)) = false → (z8 = true → (z8 = true) ∧ (Fun Tryz.prog 72 z13 [] (.v z3) []) ∧ (.v z3 : S) = .v z5 ∧ z6 = []) ∧ (z8 = false → (z7 = true → (z7 = true) ∧ (Fun Tryz.prog 72 z13 [] (.v z3) []) ∧ (.v z3 : S) = .v z5 ∧ z6 = []) ∧ (z7 = false → (z11 = true → (Fun Tryz.prog 72 z13 [] (.v z3) []) ∧ (.v z3 : S) = .v z5 ∧ z6 = []) ∧ (z11 = false → (z12 = true → (.v (vB (!decide (e.text = []))) : S) = .v z5 ∧ z6 = []) ∧ (z12 = false → (z10 = true → (.v (vB (decide (1 ≤ e.code))) : S) = .v z5 ∧ z6 = []) ∧ (z10 = false → (.v (vB true) : S) = .v z5 ∧ z6 = [])))))))))))) (by kernel_rfl) ?_
  refine ⟨?_, fun (j0 : eventOk_s_J0_V) hq_j0 => ?_⟩
  refine dsp (fun h2 p2 => ?_) fun h2 p2 => ?_
  exact has_of (j := (⟨(⟨e.kind, 0, 0, e.len, [], 0, 0⟩ : Ev)⟩ : eventOk_s_J0_V)) rfl (by first | rfl | simp) (by dsimp only [eventOk_s_J0_F]; first | ((simp_all [bareEv]; done)) | (grind [bareEv]))
  refine dsp (fun h3 p3 => ?_) fun h3 p3 => ?_
  exact has_of (j := (⟨(⟨e.kind, e.field, e.bits, 0, [], 0, 0⟩ : Ev)⟩ : eventOk_s_J0_V)) rfl (by first | rfl | simp) (by dsimp only [eventOk_s_J0_F]; first | ((simp_all [bareEv]; done)) | (grind [bareEv]))
  refine dsp (fun h4 p4 => ?_) fun h4 p4 => ?_
  exact ⟨h4, has_of (j := (⟨(⟨e.kind, e.field, 0, e.len, [], 0, 0⟩ : Ev)⟩ : eventOk_s_J0_V)) rfl (by first | rfl | simp) (by dsimp only [eventOk_s_J0_F]; first | ((simp_all [bareEv]; done)) | (grind [bareEv]))⟩
  refine dsp (fun h5 p5 => ?_) fun h5 p5 => ?_
  exact has_of (j := (⟨(⟨e.kind, e.field, 0, e.len, [], 0, 0⟩ : Ev)⟩ : eventOk_s_J0_V)) rfl (by first | rfl | simp) (by dsimp only [eventOk_s_J0_F]; first | ((simp_all [bareEv]; done)) | (grind [bareEv]))
  refine dsp (fun h6 p6 => ?_) fun h6 p6 => ?_
  exact has_of (j := (⟨(⟨e.kind, 0, 0, 0, e.text, 0, 0⟩ : Ev)⟩ : eventOk_s_J0_V)) rfl (by first | rfl | simp) (by dsimp only [eventOk_s_J0_F]; first | ((simp_all [bareEv]; done)) | (grind [bareEv]))
  refine dsp (fun h7 p7 => ?_) fun h7 p7 => ?_
  exact has_of (j := (⟨(⟨e.kind, 0, 0, 0, [], 0, e.at_⟩ : Ev)⟩ : eventOk_s_J0_V)) rfl (by first | rfl | simp) (by dsimp only [eventOk_s_J0_F]; first | ((simp_all [bareEv]; done)) | (grind [bareEv]))
  refine dsp (fun h8 p8 => ?_) fun h8 p8 => ?_
  exact has_of (j := (⟨(⟨e.kind, 0, 0, 0, [], e.code, e.at_⟩ : Ev)⟩ : eventOk_s_J0_V)) rfl (by first | rfl | simp) (by dsimp only [eventOk_s_J0_F]; first | ((simp_all [bareEv]; done)) | (grind [bareEv]))
  exact has_of (j := (⟨(⟨e.kind, 0, 0, 0, [], 0, 0⟩ : Ev)⟩ : eventOk_s_J0_V)) rfl (by first | rfl | simp) (by dsimp only [eventOk_s_J0_F]; first | ((simp_all [bareEv]; done)) | (grind [bareEv]))
  have hi_j0 : j0.want = bareEv e := hq_j0
  refine ⟨fun h2 => have q2 := bnot_t h2; have p2 := (andF dT (andF dT (andF dT (andF dT (andF dT (andF dT dF)))))).1 q2; ?_, fun h2 => have q2 := bnot_f h2; have p2 := (andT dT (andT dT (andT dT (andT dT (andT dT (andT dT dT)))))).1 q2; ?_⟩
  have hib : isBare e = false := by rw [isBare_eq hi_j0.symm]; exact q2
  refine ⟨(sB ?_), rfl⟩
  rotate_left
  have hib : isBare e = true := by rw [isBare_eq hi_j0.symm]; exact q2
  refine ⟨(within_s _ _ _), fun h3 => have q3 := bnot_t h3; have p3 := within_f q3; ?_, fun h3 => have q3 := bnot_f h3; have p3 := within_t q3; ?_⟩
  refine ⟨(sB ?_), rfl⟩
  rotate_left
  refine dsp (fun h4 p4 => ?_) fun h4 p4 => ?_
  refine ⟨(sB ?_), rfl⟩
  rotate_left
  refine dsp (fun h5 p5 => ?_) fun h5 p5 => ?_
  refine ⟨(sB ?_), rfl⟩
  rotate_left
  refine dsp (fun h6 p6 => ?_) fun h6 p6 => ?_
  refine ⟨h6, (within_s _ _ _), (sB ?_), rfl⟩
  rotate_left
  refine dsp (fun h7 p7 => ?_) fun h7 p7 => ?_
  refine ⟨h7, (within_s _ _ _), (sB ?_), rfl⟩
  rotate_left
  refine dsp (fun h8 p8 => ?_) fun h8 p8 => ?_
  refine ⟨(within_s _ _ _), (sB ?_), rfl⟩
  rotate_left
  refine dsp (fun h9 p9 => ?_) fun h9 p9 => ?_
  refine ⟨(sB ?_), rfl⟩
  rotate_left
  refine dsp (fun h10 p10 => ?_) fun h10 p10 => ?_
  refine ⟨(sB ?_), rfl⟩
  rotate_left
  refine ⟨(sB ?_), rfl⟩
  rotate_left
  all_goals first | ((simp only [eventOk, hib]; simp [isEvent, hasField, *]; done)) | (grind [eventOk, hasField, isEvent])
theorem scanOk_i (s : Scn) : Fun Tryz.prog 189 [.agg (cScn s)] [] (.v (vB (scanOk s))) [] := by
  have hN : bigN = 274877906944 := rfl
  refine fun_ofw Tryz.func189 (by kernel_rfl) (by kernel_rfl) (w := let z1 := 7 * s.have_; let z2 := within s.have_ 0 9; (.seg [.call [] (.v (vB z2)) []] (.br (.seg [.as 11 (.v (vI z1)), .as 12 (.v (.c (.int .u64 z1)))] (.leaf () [])) (.leaf () [])), (Fun Tryz.prog 143 [vI s.have_, vI 0, vI 9] [] (.v (vB z2)) []) ∧ (z2 = true → ((.v (vI (IntKind.i64.wrap z1)) : S) = .v (vI z1)) ∧ ((.v (.c (.int .u64 (IntKind.u64.wrap z1))) : S) = .v (.c (.int .u64 z1))) ∧ ((0 : Int) ≤ 7 * s.have_) ∧ (.v (vB (decide (Int.fdiv s.bits (2 ^ min (z1.toNat) 64) = 0))) : S) = .v (vB (scanOk s)) ∧ ([] : List Blk) = []) ∧ (z2 = false → (.v (vB false) : S) = .v (vB (scanOk s)) ∧ ([] : List Blk) = []))) (by kernel_rfl) ?_
  refine ⟨(within_i _ _ _), fun h1 => have p1 := within_t h1; ?_, fun h1 => have p1 := within_f h1; ?_⟩
  refine ⟨(as_i64 (by omega) (by omega)), (as_u64 (by omega) (by omega)), (by omega), (sB ?_), rfl⟩
  rotate_left
  refine ⟨(sB ?_), rfl⟩
  rotate_left
  all_goals first | (simp_all [scanOk]; done) | (grind [scanOk])
theorem scanOk_s (s : Scn) : Fun Tryz.prog 177 [.agg (cScn s)] [] (.v (vB (scanOk s))) [] := by
  have hN : bigN = 274877906944 := rfl
  refine fun_ofw Tryz.func177 (by kernel_rfl) (by kernel_rfl) (w := let z1 := 7 * s.have_; let z2 := within s.have_ 0 9; (.seg [.call [] (.v (vB z2)) []] (.br (.seg [.as 11 (.v (vI z1)), .as 12 (.v (.c (.int .u64 z1)))] (.leaf () [])) (.leaf () [])), (Fun Tryz.prog 72 [vI s.have_, vI 0, vI 9] [] (.v (vB z2)) []) ∧ (z2 = true → ((.v (vI (IntKind.i64.wrap z1)) : S) = .v (vI z1)) ∧ ((.v (.c (.int .u64 (IntKind.u64.wrap z1))) : S) = .v (.c (.int .u64 z1))) ∧ ((0 : Int) ≤ 7 * s.have_) ∧ (.v (vB (decide (Int.fdiv s.bits (2 ^ min (z1.toNat) 64) = 0))) : S) = .v (vB (scanOk s)) ∧ ([] : List Blk) = []) ∧ (z2 = false → (.v (vB false) : S) = .v (vB (scanOk s)) ∧ ([] : List Blk) = []))) (by kernel_rfl) ?_
  refine ⟨(within_s _ _ _), fun h1 => have p1 := within_t h1; ?_, fun h1 => have p1 := within_f h1; ?_⟩
  refine ⟨(as_i64 (by omega) (by omega)), (as_u64 (by omega) (by omega)), (by omega), (sB ?_), rfl⟩
  rotate_left
  refine ⟨(sB ?_), rfl⟩
  rotate_left
  all_goals first | (simp_all [scanOk]; done) | (grind [scanOk])
theorem widthD_i (d : Dcd) : Fun Tryz.prog 154 [.agg (cDcd d)] [] (.v (vI (widthD d))) [] := by
  have hN : bigN = 274877906944 := rfl
  refine fun_ofw Tryz.func154 (by kernel_rfl) (by kernel_rfl) (w := let z1 := wireOf d.field.kind; let z2 := vI (widthOf d.wire); (.br (.seg [.call [] (.v z2) []] (.leaf () [])) (.br (.seg [.call [] (.v (vI z1)) [], .call [] (.v (vI (widthOf z1))) []] (.leaf () [])) (.leaf () [])), ((decide (d.mode = 5)) = true → (Fun Tryz.prog 188 [vI d.wire] [] (.v z2) []) ∧ (.v z2 : S) = .v (vI (widthD d)) ∧ ([] : List Blk) = []) ∧ ((decide (d.mode = 5)) = false → ((decide (d.mode = 8)) = true → (Fun Tryz.prog 192 [vI d.field.kind] [] (.v (vI z1)) []) ∧ (Fun Tryz.prog 188 [vI z1] [] (.v (vI (widthOf z1))) []) ∧ (.v (vI (widthOf z1)) : S) = .v (vI (widthD d)) ∧ ([] : List Blk) = []) ∧ ((decide (d.mode = 8)) = false → (.v (vI 0) : S) = .v (vI (widthD d)) ∧ ([] : List Blk) = [])))) (by kernel_rfl) ?_
  refine dsp (fun h1 p1 => ?_) fun h1 p1 => ?_
  refine ⟨(widthOf_i _), (sI ?_), rfl⟩
  rotate_left
  refine dsp (fun h2 p2 => ?_) fun h2 p2 => ?_
  refine ⟨(wireOf_i _), (widthOf_i _), (sI ?_), rfl⟩
  rotate_left
  refine ⟨(sI ?_), rfl⟩
  rotate_left
  all_goals first | (simp_all [widthD]; done) | (grind [widthD])
theorem widthD_s (d : Dcd) : Fun Tryz.prog 73 [.agg (cDcd d)] [] (.v (vI (widthD d))) [] := by
  have hN : bigN = 274877906944 := rfl
  refine fun_ofw Tryz.func73 (by kernel_rfl) (by kernel_rfl) (w := let z1 := wireOf d.field.kind; let z2 := vI (widthOf d.wire); (.br (.seg [.call [] (.v z2) []] (.leaf () [])) (.br (.seg [.call [] (.v (vI z1)) [], .call [] (.v (vI (widthOf z1))) []] (.leaf () [])) (.leaf () [])), ((decide (d.mode = 5)) = true → (Fun Tryz.prog 126 [vI d.wire] [] (.v z2) []) ∧ (.v z2 : S) = .v (vI (widthD d)) ∧ ([] : List Blk) = []) ∧ ((decide (d.mode = 5)) = false → ((decide (d.mode = 8)) = true → (Fun Tryz.prog 130 [vI d.field.kind] [] (.v (vI z1)) []) ∧ (Fun Tryz.prog 126 [vI z1] [] (.v (vI (widthOf z1))) []) ∧ (.v (vI (widthOf z1)) : S) = .v (vI (widthD d)) ∧ ([] : List Blk) = []) ∧ ((decide (d.mode = 8)) = false → (.v (vI 0) : S) = .v (vI (widthD d)) ∧ ([] : List Blk) = [])))) (by kernel_rfl) ?_
  refine dsp (fun h1 p1 => ?_) fun h1 p1 => ?_
  refine ⟨(widthOf_s _), (sI ?_), rfl⟩
  rotate_left
  refine dsp (fun h2 p2 => ?_) fun h2 p2 => ?_
  refine ⟨(wireOf_s _), (widthOf_s _), (sI ?_), rfl⟩
  rotate_left
  refine ⟨(sI ?_), rfl⟩
  rotate_left
  all_goals first | (simp_all [widthD]; done) | (grind [widthD])
end Go.Proofs.YtecljjcmjongfaaGreat.Ax
namespace Go.Proofs.YtecljjcmjongfaaGreat.Ax
open Go.ChangeShapes Go.WideShapes Go.ChangeAt Go.RowKit
theorem cof___laws_Shape : Tryz.prog.cellsOf 22 = 1 := by kernel_rfl
theorem cof_int : Tryz.prog.cellsOf 3 = 1 := by kernel_rfl
theorem cof_bool : Tryz.prog.cellsOf 4 = 1 := by kernel_rfl
def okFld (y : Fld) : Prop := I64 y.number ∧ I64 y.kind ∧ True ∧ True ∧ I64 y.msg
theorem e_fld {H : Type} {tok : TypeId × Value → H} {w : World} {sp : Nat → Bool} {held : Bool} (fuel : Nat) (cs : List Value) (x : DataW H × List MemPlace) (hl : cs.length = 5) (h : DataW.trod tok Tryz.prog w 0 sp held fuel 61 cs = some x) : ∃ y : Fld, All2 Rep0 (enc .fld y) cs ∧ okFld y := by
  match cs, hl with
  | [c0, c1, c2, c3, c4], _ =>
    obtain ⟨xs, n, _, rfl, _, hxl, hf⟩ := DataW.trod_struct Tryz.underlying61 h
    match xs, hxl with
    | [y0, y1, y2, y3, y4], _ =>
      have f0 : DataW.trod tok Tryz.prog w 0 sp held n 3 [c0] = some y0 := by simpa [cof_int] using hf 0 _ rfl
      obtain ⟨i0, e0, _, w0⟩ := DataW.trod_int Tryz.underlying3 f0
      simp only [List.cons.injEq, and_true] at e0
      subst e0
      have f1 : DataW.trod tok Tryz.prog w 0 sp held n 3 [c1] = some y1 := by simpa [cof_int] using hf 1 _ rfl
      obtain ⟨i1, e1, _, w1⟩ := DataW.trod_int Tryz.underlying3 f1
      simp only [List.cons.injEq, and_true] at e1
      subst e1
      have f2 : DataW.trod tok Tryz.prog w 0 sp held n 4 [c2] = some y2 := by simpa [cof_bool] using hf 2 _ rfl
      obtain ⟨i2, e2⟩ := bool_trod Tryz.underlying4 f2
      simp only [List.cons.injEq, and_true] at e2
      subst e2
      have f3 : DataW.trod tok Tryz.prog w 0 sp held n 4 [c3] = some y3 := by simpa [cof_bool] using hf 3 _ rfl
      obtain ⟨i3, e3⟩ := bool_trod Tryz.underlying4 f3
      simp only [List.cons.injEq, and_true] at e3
      subst e3
      have f4 : DataW.trod tok Tryz.prog w 0 sp held n 3 [c4] = some y4 := by simpa [cof_int] using hf 4 _ rfl
      obtain ⟨i4, e4, _, w4⟩ := DataW.trod_int Tryz.underlying3 f4
      simp only [List.cons.injEq, and_true] at e4
      subst e4
      exact ⟨⟨i0, i1, i2, i3, i4⟩, .cons (show Rep0 (.int .i64 i0) _ from rfl) (.cons (show Rep0 (.int .i64 i1) _ from rfl) (.cons (show Rep0 (.bool i2) _ from rfl) (.cons (show Rep0 (.bool i3) _ from rfl) (.cons (show Rep0 (.int .i64 i4) _ from rfl) .nil)))), ⟨bounds_i64 w0, bounds_i64 w1, trivial, trivial, bounds_i64 w4⟩⟩
theorem cof___laws_Field : Tryz.prog.cellsOf 164 = 1 := by kernel_rfl
def okShp (y : Shp) : Prop := I64 y.id ∧ (Le63 y.fields.length ∧ ∀ e ∈ y.fields, okFld e)
theorem cof_laws_Field : Tryz.prog.cellsOf 61 = 5 := by kernel_rfl
theorem e_shp {H : Type} {tok : TypeId × Value → H} {w : World} {sp : Nat → Bool} {held : Bool} (fuel : Nat) (cs : List Value) (x : DataW H × List MemPlace) (hl : cs.length = 2) (h : DataW.trod tok Tryz.prog w 0 sp held fuel 166 cs = some x) : ∃ y : Shp, All2 (Rep1 w (RR w)) (enc .shp y) cs ∧ okShp y := by
  match cs, hl with
  | [c0, c1], _ =>
    obtain ⟨xs, n, _, rfl, _, hxl, hf⟩ := DataW.trod_struct Tryz.underlying166 h
    match xs, hxl with
    | [y0, y1], _ =>
      have f0 : DataW.trod tok Tryz.prog w 0 sp held n 3 [c0] = some y0 := by simpa [cof_int] using hf 0 _ rfl
      obtain ⟨i0, e0, _, w0⟩ := DataW.trod_int Tryz.underlying3 f0
      simp only [List.cons.injEq, and_true] at e0
      subst e0
      have f1 : DataW.trod tok Tryz.prog w 0 sp held n 164 [c1] = some y1 := by simpa [cof___laws_Field] using hf 1 _ rfl
      obtain ⟨i1, s1, l1, k1⟩ := open_sq (cr := Rep0) (t := .fld) (Q := fun e => okFld e) Tryz.underlying164 cof_laws_Field (by decide) e_fld f1
      exact ⟨⟨i0, i1⟩, .cons (rep0_1 (show Rep0 (.int .i64 i0) _ from rfl)) (.cons s1 .nil), ⟨bounds_i64 w0, ⟨l1, k1⟩⟩⟩
theorem cof_laws_Schema : Tryz.prog.cellsOf 24 = 1 := by kernel_rfl
def okPln (y : Pln) : Prop := (Le63 y.shapes.length ∧ ∀ e ∈ y.shapes, okShp e) ∧ I64 y.root ∧ I64 y.deep ∧ I64 y.most
theorem cof_laws_Shape : Tryz.prog.cellsOf 166 = 2 := by kernel_rfl
theorem o_Pln {H : Type} {tok : TypeId × Value → H} {w : World} {sp : Nat → Bool} {held : Bool} {fuel : Nat} {cs : List Value} {x : DataW H × List MemPlace} (hl : cs.length = 4) (h : DataW.trod tok Tryz.prog w 0 sp held fuel 26 cs = some x) : ∃ y : Pln, All2 (RepC [] P0 w (RR w)) ([.seq .shp y.shapes, .int .i64 y.root, .int .i64 y.deep, .int .i64 y.most]) cs ∧ okPln y := by
  match cs, hl with
  | [c0, c1, c2, c3], _ =>
    obtain ⟨xs, n, _, rfl, _, hxl, hf⟩ := DataW.trod_struct Tryz.underlying26 h
    match xs, hxl with
    | [y0, y1, y2, y3], _ =>
      have f0 : DataW.trod tok Tryz.prog w 0 sp held n 24 [c0] = some y0 := by simpa [cof_laws_Schema] using hf 0 _ rfl
      obtain ⟨xs0, n0, _, rfl, _, hxl0, hf0⟩ := DataW.trod_struct Tryz.underlying24 f0
      obtain ⟨z0, rfl⟩ := List.length_eq_one_iff.1 hxl0
      have g0 : DataW.trod tok Tryz.prog w 0 sp held n0 22 [c0] = some z0 := by simpa [cof___laws_Shape] using hf0 0 _ rfl
      obtain ⟨i0, s0, l0, k0⟩ := open_sq (cr := (Rep1 w (RR w))) (t := .shp) (Q := fun e => okShp e) Tryz.underlying22 cof_laws_Shape (by decide) e_shp g0
      have f1 : DataW.trod tok Tryz.prog w 0 sp held n 3 [c1] = some y1 := by simpa [cof_int] using hf 1 _ rfl
      obtain ⟨i1, e1, _, w1⟩ := DataW.trod_int Tryz.underlying3 f1
      simp only [List.cons.injEq, and_true] at e1
      subst e1
      have f2 : DataW.trod tok Tryz.prog w 0 sp held n 3 [c2] = some y2 := by simpa [cof_int] using hf 2 _ rfl
      obtain ⟨i2, e2, _, w2⟩ := DataW.trod_int Tryz.underlying3 f2
      simp only [List.cons.injEq, and_true] at e2
      subst e2
      have f3 : DataW.trod tok Tryz.prog w 0 sp held n 3 [c3] = some y3 := by simpa [cof_int] using hf 3 _ rfl
      obtain ⟨i3, e3, _, w3⟩ := DataW.trod_int Tryz.underlying3 f3
      simp only [List.cons.injEq, and_true] at e3
      subst e3
      exact ⟨⟨i0, i1, i2, i3⟩, .cons s0 (.cons (rep0_C (show Rep0 (.int .i64 i1) _ from rfl)) (.cons (rep0_C (show Rep0 (.int .i64 i2) _ from rfl)) (.cons (rep0_C (show Rep0 (.int .i64 i3) _ from rfl)) .nil))), ⟨⟨l0, k0⟩, bounds_i64 w1, bounds_i64 w2, bounds_i64 w3⟩⟩
theorem cof_laws_Plan : Tryz.prog.cellsOf 26 = 4 := by kernel_rfl
theorem cof_uint64 : Tryz.prog.cellsOf 57 = 1 := by kernel_rfl
theorem cof_string : Tryz.prog.cellsOf 9 = 1 := by kernel_rfl
def okEv (y : Ev) : Prop := I64 y.kind ∧ I64 y.field ∧ U64 y.bits ∧ I64 y.len ∧ Le63 y.text.length ∧ I64 y.code ∧ I64 y.at_
theorem cof_laws_Event : Tryz.prog.cellsOf 65 = 7 := by kernel_rfl
theorem e_ev {H : Type} {tok : TypeId × Value → H} {w : World} {sp : Nat → Bool} {held : Bool} (fuel : Nat) (cs : List Value) (x : DataW H × List MemPlace) (hl : cs.length = 7) (h : DataW.trod tok Tryz.prog w 0 sp held fuel 65 cs = some x) : ∃ y : Ev, All2 Rep0 (enc .ev y) cs ∧ okEv y := by
  match cs, hl with
  | [c0, c1, c2, c3, c4, c5, c6], _ =>
    obtain ⟨xs, n, _, rfl, _, hxl, hf⟩ := DataW.trod_struct Tryz.underlying65 h
    match xs, hxl with
    | [y0, y1, y2, y3, y4, y5, y6], _ =>
      have f0 : DataW.trod tok Tryz.prog w 0 sp held n 3 [c0] = some y0 := by simpa [cof_int] using hf 0 _ rfl
      obtain ⟨i0, e0, _, w0⟩ := DataW.trod_int Tryz.underlying3 f0
      simp only [List.cons.injEq, and_true] at e0
      subst e0
      have f1 : DataW.trod tok Tryz.prog w 0 sp held n 3 [c1] = some y1 := by simpa [cof_int] using hf 1 _ rfl
      obtain ⟨i1, e1, _, w1⟩ := DataW.trod_int Tryz.underlying3 f1
      simp only [List.cons.injEq, and_true] at e1
      subst e1
      have f2 : DataW.trod tok Tryz.prog w 0 sp held n 57 [c2] = some y2 := by simpa [cof_uint64] using hf 2 _ rfl
      obtain ⟨i2, e2, _, w2⟩ := DataW.trod_int Tryz.underlying57 f2
      simp only [List.cons.injEq, and_true] at e2
      subst e2
      have f3 : DataW.trod tok Tryz.prog w 0 sp held n 3 [c3] = some y3 := by simpa [cof_int] using hf 3 _ rfl
      obtain ⟨i3, e3, _, w3⟩ := DataW.trod_int Tryz.underlying3 f3
      simp only [List.cons.injEq, and_true] at e3
      subst e3
      have f4 : DataW.trod tok Tryz.prog w 0 sp held n 9 [c4] = some y4 := by simpa [cof_string] using hf 4 _ rfl
      obtain ⟨i4, e4, _, w4⟩ := DataW.trod_string Tryz.underlying9 f4
      simp only [List.cons.injEq, and_true] at e4
      subst e4
      have f5 : DataW.trod tok Tryz.prog w 0 sp held n 3 [c5] = some y5 := by simpa [cof_int] using hf 5 _ rfl
      obtain ⟨i5, e5, _, w5⟩ := DataW.trod_int Tryz.underlying3 f5
      simp only [List.cons.injEq, and_true] at e5
      subst e5
      have f6 : DataW.trod tok Tryz.prog w 0 sp held n 3 [c6] = some y6 := by simpa [cof_int] using hf 6 _ rfl
      obtain ⟨i6, e6, _, w6⟩ := DataW.trod_int Tryz.underlying3 f6
      simp only [List.cons.injEq, and_true] at e6
      subst e6
      exact ⟨⟨i0, i1, i2, i3, i4.data.toList, i5, i6⟩, .cons (show Rep0 (.int .i64 i0) _ from rfl) (.cons (show Rep0 (.int .i64 i1) _ from rfl) (.cons (show Rep0 (.int .u64 i2) _ from rfl) (.cons (show Rep0 (.int .i64 i3) _ from rfl) (.cons (show Rep0 (.str i4.data.toList) _ from str_rep) (.cons (show Rep0 (.int .i64 i5) _ from rfl) (.cons (show Rep0 (.int .i64 i6) _ from rfl) .nil)))))), ⟨bounds_i64 w0, bounds_i64 w1, bounds_u64 w2, bounds_i64 w3, str_le w4, bounds_i64 w5, bounds_i64 w6⟩⟩
end Go.Proofs.YtecljjcmjongfaaGreat.Ax
