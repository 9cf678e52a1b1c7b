/- A message: results of its own. -/
import Derived.Test.YtecljjcmjongfaaVC
namespace Go.Proofs.Ytecljjcmjongfaa.Ax
open Go.RowKit
set_option linter.unusedSimpArgs false
set_option linter.unusedVariables false
theorem loop_ends : ∀ (k : Nat) (w : Wh), (loopM whGo whStep k w).ends.length ≤ w.ends.length + k
  | 0, w => by simp [loopM]
  | k + 1, w => by
    unfold loopM
    split
    · have h := loop_ends k (whStep w)
      have : (whStep w).ends.length ≤ w.ends.length + 1 := by
        unfold whStep; simp only; split
        · simp
        · omega
      omega
    · omega
theorem bounds_len {p : Pln} {s : List UInt8} : (boundsL p s).length ≤ 4003 := by
  unfold boundsL
  split
  · rename_i h
    have := loop_ends (mrMu (wh0 p s).r) (wh0 p s)
    have e : whole p s = loopM whGo whStep (mrMu (wh0 p s).r) (wh0 p s) := rfl
    rw [e]
    have hm : mrMu (wh0 p s).r ≤ 4001 := by unfold mrMu; rw [if_pos (show (wh0 p s).r.fail.kind = 0 from rfl)]; show Int.toNat (1 + (s.length : Int) - 0) ≤ 4001; omega
    have h1 : (wh0 p s).ends.length = 1 := rfl
    omega
  · simp
theorem wholeL_len {p : Pln} {s : List UInt8} : (wholeL p s).length ≤ 16001 := by unfold wholeL; split; exact whole_most (by omega); simp
theorem readMsg_len {p : Pln} {shape : Int} {s : List UInt8} {a e d : Int} (hs : s.length ≤ 1048576) : (readMsg p shape s a e d).out.length ≤ 4194304 := by
  by_cases h : readOk p shape s a e d = true
  · have ha : 0 ≤ a ∧ a ≤ (s.length : Int) := by
      simp only [readOk, Bool.and_eq_true] at h
      have := h
      simp only [within, Bool.and_eq_true, decide_eq_true_eq] at this
      omega
    have := (readMsg_adv (p := p) (shape := shape) (s := s) (a := a) (e := e) (d := d) ha.2).most
    simp only [mr0, List.length_nil] at this
    omega
  · unfold readMsg; rw [if_neg h]; simp [mr0]
theorem readMsg_i (p : Pln) (shape : Int) (s : List UInt8) (at_ : Int) (end_ : Int) (deep : Int) (hp1 : s.length ≤ 1048576) (hp2 : end_ ≤ 9223372036854775807) : Fun Try.prog 23 [.agg (cPln p), vI shape, vT s, vI at_, vI end_, vI deep] [] (.tup [vO 0, .agg (cEv (readMsg p shape s at_ end_ deep).fail)]) [.lst .ev (readMsg p shape s at_ end_ deep).out] := by
  have hN : bigN = 274877906944 := rfl
  refine fun_ofw Try.func23 (by kernel_rfl) (by kernel_rfl) (w := let z2 := (.tup [vO 0, .agg [.int .i64 0, .int .i64 0, .int .u64 0, .int .i64 0, .str [], .int .i64 0, .int .i64 0]] : S); let z3 := readMsg p shape s at_ end_ deep; let z4 := (p.shapes.length : Int) - 1; let z5 := ([.lst .ev ([] : List Ev)] : List Blk); let z6 := within at_ 0 (s.length : Int); let z7 : List V := [vO 0, .agg (cEv z3.fail)]; let z8 : List Blk := [.lst .ev z3.out]; let z9 := (⟨p, s, at_, ([] : List Ev), (⟨0, 0, 0, 0, [], 0, 0⟩ : Ev)⟩ : Mr); let z1 := msgN (Int.toNat ((z9).plan.deep - deep)) shape end_ z9; let z10 := within deep 1 p.deep; let z11 := within shape 0 z4; let z12 : List Blk := [.cells (oMr6 2 z1), .dead, .lst .ev z1.out]; let z13 := vB (decide (z1.fail.kind = 0)); (.seg [.call [] (.v (vB (planOk p))) []] (.br (.seg [.at 0, .mkS 12 .ev] (.leaf () [2])) (.seg [.as 24 (.v (vI z4)), .call [] (.v (vB z11)) []] (.br (.seg [.at 0, .mkS 12 .ev] (.leaf () [2])) (.seg [.call [] (.v (vB z6)) []] (.br (.seg [.at 0, .mkS 12 .ev] (.leaf () [2])) (.br (.seg [.at 0, .mkS 12 .ev] (.leaf () [2])) (.seg [.call [] (.v (vB z10)) []] (.br (.seg [.at 0, .mkS 12 .ev] (.leaf () [2])) (.seg [.at 5, .mk 2 6 .ev, .call [2, 3] (.v z13) z12, .ord (os 10 [9]) []] (.leaf () [4])))))))))), (Fun Try.prog 42 [.agg (cPln p)] [] (.v (vB (planOk p))) []) ∧ ((!(planOk p)) = true → z2 = .tup z7 ∧ z5 = z8) ∧ ((!(planOk p)) = false → ((.v (vI (IntKind.i64.wrap z4)) : S) = .v (vI z4)) ∧ (Fun Try.prog 49 [vI shape, vI 0, vI z4] [] (.v (vB z11)) []) ∧ ((!z11) = true → z2 = .tup z7 ∧ z5 = z8) ∧ ((!z11) = false → (Fun Try.prog 49 [vI at_, vI 0, vI (s.length : Int)] [] (.v (vB z6)) []) ∧ ((!z6) = true → z2 = .tup z7 ∧ z5 = z8) ∧ ((!z6) = false → ((decide (end_ < at_)) = true → z2 = .tup z7 ∧ z5 = z8) ∧ ((decide (end_ < at_)) = false → (Fun Try.prog 49 [vI deep, vI 1, vI p.deep] [] (.v (vB z10)) []) ∧ ((!z10) = true → z2 = .tup z7 ∧ z5 = z8) ∧ ((!z10) = false → (Fun Try.prog 50 [vP 0, vI shape, vI end_, vI deep] [.cells [.seq .shp p.shapes, .int .i64 p.root, .int .i64 p.deep, .int .i64 p.most, .str s, .int .i64 at_, .own 1, .int .i64 0, .int .i64 0, .int .u64 0, .int .i64 0, .str [], .int .i64 0, .int .i64 0], .lst .ev ([] : List Ev)] (.v z13) z12) ∧ (.tup [vO 0, .agg (cEv z1.fail)] : S) = .tup z7 ∧ ([.lst .ev z1.out] : List Blk) = z8))))))) (by kernel_rfl) ?_
  refine ⟨(planOk_i p), fun h1 => have q1 := bnot_t h1; ?_, fun h1 => have q1 := bnot_f h1; have p1 := planOk_t q1; ?_⟩
  refine have hm1 : (readMsg p shape s at_ end_ deep).fail = (⟨0, 0, 0, 0, [], 0, 0⟩ : Ev) := ?_; ?_
  rotate_left
  refine ⟨(congrArg S.tup (consE rfl (consE (congrArg V.agg (consE (congrArg (C.int .i64) ?_) (consE (congrArg (C.int .i64) ?_) (consE (congrArg (C.int .u64) ?_) (consE (congrArg (C.int .i64) ?_) (consE (congrArg C.str ?_) (consE (congrArg (C.int .i64) ?_) (consE (congrArg (C.int .i64) ?_) rfl)))))))) rfl))), (consE (congrArg (Blk.lst .ev) ?_) rfl)⟩
  rotate_left 8
  have hpt := planOk_t q1
  refine ⟨(as_i64 (by omega) (by omega)), (within_i _ _ _), fun h2 => have q2 := bnot_t h2; have p2 := within_f q2; ?_, fun h2 => have q2 := bnot_f h2; have p2 := within_t q2; ?_⟩
  refine have hm1 : (readMsg p shape s at_ end_ deep).fail = (⟨0, 0, 0, 0, [], 0, 0⟩ : Ev) := ?_; ?_
  rotate_left
  refine ⟨(congrArg S.tup (consE rfl (consE (congrArg V.agg (consE (congrArg (C.int .i64) ?_) (consE (congrArg (C.int .i64) ?_) (consE (congrArg (C.int .u64) ?_) (consE (congrArg (C.int .i64) ?_) (consE (congrArg C.str ?_) (consE (congrArg (C.int .i64) ?_) (consE (congrArg (C.int .i64) ?_) rfl)))))))) rfl))), (consE (congrArg (Blk.lst .ev) ?_) rfl)⟩
  rotate_left 8
  refine ⟨(within_i _ _ _), fun h3 => have q3 := bnot_t h3; have p3 := within_f q3; ?_, fun h3 => have q3 := bnot_f h3; have p3 := within_t q3; ?_⟩
  refine have hm1 : (readMsg p shape s at_ end_ deep).fail = (⟨0, 0, 0, 0, [], 0, 0⟩ : Ev) := ?_; ?_
  rotate_left
  refine ⟨(congrArg S.tup (consE rfl (consE (congrArg V.agg (consE (congrArg (C.int .i64) ?_) (consE (congrArg (C.int .i64) ?_) (consE (congrArg (C.int .u64) ?_) (consE (congrArg (C.int .i64) ?_) (consE (congrArg C.str ?_) (consE (congrArg (C.int .i64) ?_) (consE (congrArg (C.int .i64) ?_) rfl)))))))) rfl))), (consE (congrArg (Blk.lst .ev) ?_) rfl)⟩
  rotate_left 8
  refine ⟨fun h4 => have p4 := of_decide_eq_true h4; ?_, fun h4 => have p4 := of_decide_eq_false h4; ?_⟩
  refine have hm1 : (readMsg p shape s at_ end_ deep).fail = (⟨0, 0, 0, 0, [], 0, 0⟩ : Ev) := ?_; ?_
  rotate_left
  refine ⟨(congrArg S.tup (consE rfl (consE (congrArg V.agg (consE (congrArg (C.int .i64) ?_) (consE (congrArg (C.int .i64) ?_) (consE (congrArg (C.int .u64) ?_) (consE (congrArg (C.int .i64) ?_) (consE (congrArg C.str ?_) (consE (congrArg (C.int .i64) ?_) (consE (congrArg (C.int .i64) ?_) rfl)))))))) rfl))), (consE (congrArg (Blk.lst .ev) ?_) rfl)⟩
  rotate_left 8
  refine ⟨(within_i _ _ _), fun h5 => have q5 := bnot_t h5; have p5 := within_f q5; ?_, fun h5 => have q5 := bnot_f h5; have p5 := within_t q5; ?_⟩
  refine have hm1 : (readMsg p shape s at_ end_ deep).fail = (⟨0, 0, 0, 0, [], 0, 0⟩ : Ev) := ?_; ?_
  rotate_left
  refine ⟨(congrArg S.tup (consE rfl (consE (congrArg V.agg (consE (congrArg (C.int .i64) ?_) (consE (congrArg (C.int .i64) ?_) (consE (congrArg (C.int .u64) ?_) (consE (congrArg (C.int .i64) ?_) (consE (congrArg C.str ?_) (consE (congrArg (C.int .i64) ?_) (consE (congrArg (C.int .i64) ?_) rfl)))))))) rfl))), (consE (congrArg (Blk.lst .ev) ?_) rfl)⟩
  rotate_left 8
  refine ⟨(msg_i (⟨p, s, at_, ([] : List Ev), (⟨0, 0, 0, 0, [], 0, 0⟩ : Ev)⟩ : Mr) _ _ _ (by first | omega | (dsimp only; omega) | (simp only [List.length_nil]; omega) | assumption | rfl | (exact q1)) (by first | omega | (dsimp only; omega) | (simp only [List.length_nil]; omega) | assumption | rfl | (exact q1)) (by first | omega | (dsimp only; omega) | (simp only [List.length_nil]; omega) | assumption | rfl | (exact q1)) (by first | omega | (dsimp only; omega) | (simp only [List.length_nil]; omega) | assumption | rfl | (exact q1)) (by first | omega | (dsimp only; omega) | (simp only [List.length_nil]; omega) | assumption | rfl | (exact q1)) (by omega) (by simp_all) (by first | omega | (dsimp only; omega) | (simp only [List.length_nil]; omega) | assumption | rfl | (exact q1))), ?_⟩
  refine have hm1 : (readMsg p shape s at_ end_ deep).fail = (msgN (Int.toNat (((⟨p, s, at_, ([] : List Ev), (⟨0, 0, 0, 0, [], 0, 0⟩ : Ev)⟩ : Mr)).plan.deep - deep)) shape end_ (⟨p, s, at_, ([] : List Ev), (⟨0, 0, 0, 0, [], 0, 0⟩ : Ev)⟩ : Mr)).fail := ?_; ?_
  rotate_left
  refine ⟨(congrArg S.tup (consE rfl (consE (congrArg V.agg (consE (congrArg (C.int .i64) ?_) (consE (congrArg (C.int .i64) ?_) (consE (congrArg (C.int .u64) ?_) (consE (congrArg (C.int .i64) ?_) (consE (congrArg C.str ?_) (consE (congrArg (C.int .i64) ?_) (consE (congrArg (C.int .i64) ?_) rfl)))))))) rfl))), (consE (congrArg (Blk.lst .ev) ?_) rfl)⟩
  rotate_left 8
  all_goals first | (simp_all [readMsg, readOk, mr0, ev0, within]; done) | (grind [readMsg, readOk, mr0, ev0]) | (grind [readMsg, readOk, mr0, ev0, within])
end Go.Proofs.Ytecljjcmjongfaa.Ax
