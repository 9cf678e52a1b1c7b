/- Whole inputs: results of their own. -/
import Derived.Test.YtecljjcmjongfaaOF
namespace Go.Proofs.Ytecljjcmjongfaa.Ax
open Go.RowKit
set_option linter.unusedSimpArgs false
set_option linter.unusedVariables false
def boundsL (p : Pln) (s : List UInt8) : List Int := if planOk p = true ∧ (s.length : Int) ≤ 4000 then (whole p s).ends else []
theorem whole_o (p : Pln) (s : List UInt8) (hp1 : s.length ≤ 1048576) : Fun Try.prog 11 [.agg (cPln p), vT s] [] (.v (vO 0)) [.lst .ev (wholeL p s)] := by
  have hN : bigN = 274877906944 := rfl
  refine fun_ofw Try.func11 (by kernel_rfl) (by kernel_rfl) (w := let z1 := decide (4000 < (s.length : Int)); let z2 : List Blk := [.lst .ev (wholeEv p s), .lst .int (whole p s).ends]; let z3 := ([.lst .ev ([] : List Ev)] : List Blk); let z4 : List Blk := [.lst .ev (wholeL p s)]; (.seg [.call [] (.v (vB (planOk p))) []] (.br (.seg [.at 0, .mkS 4 .ev] (.leaf () [1])) (.br (.seg [.at 0, .mkS 4 .ev] (.leaf () [1])) (.seg [.call [] (.tup [vO 0, vO 1]) z2] (.leaf () [1])))), (Fun Try.prog 42 [.agg (cPln p)] [] (.v (vB (planOk p))) []) ∧ ((!(planOk p)) = true → (.v (vO 0) : S) = .v (vO 0) ∧ z3 = z4) ∧ ((!(planOk p)) = false → (z1 = true → (.v (vO 0) : S) = .v (vO 0) ∧ z3 = z4) ∧ (z1 = false → (Fun Try.prog 43 [.agg (cPln p), vT s] [] (.tup [vO 0, vO 1]) z2) ∧ (.v (vO 0) : S) = .v (vO 0) ∧ ([.lst .ev (wholeEv p s)] : List Blk) = z4)))) (by kernel_rfl) ?_
  refine ⟨(planOk_i p), fun h1 => have q1 := bnot_t h1; ?_, fun h1 => have q1 := bnot_f h1; have p1 := planOk_t q1; ?_⟩
  refine ⟨rfl, (consE (congrArg (Blk.lst .ev) ?_) rfl)⟩
  rotate_left
  refine ⟨fun h2 => have p2 := of_decide_eq_true h2; ?_, fun h2 => have p2 := of_decide_eq_false h2; ?_⟩
  refine ⟨rfl, (consE (congrArg (Blk.lst .ev) ?_) rfl)⟩
  rotate_left
  have hwl : wholeL p s = wholeEv p s := by unfold wholeL; rw [if_pos ⟨by simp_all, by omega⟩]
  have hbl : boundsL p s = (whole p s).ends := by unfold boundsL; rw [if_pos ⟨by simp_all, by omega⟩]
  refine ⟨(parsed_i p _ (by omega) (by omega)), rfl, (consE (congrArg (Blk.lst .ev) ?_) rfl)⟩
  rotate_left
  all_goals first | (simp_all [wholeL, boundsL]; done) | (grind [wholeL, boundsL])
theorem bounds_i (p : Pln) (s : List UInt8) (hp1 : s.length ≤ 1048576) : Fun Try.prog 18 [.agg (cPln p), vT s] [] (.v (vO 0)) [.lst .int (boundsL p s)] := by
  have hN : bigN = 274877906944 := rfl
  refine fun_ofw Try.func18 (by kernel_rfl) (by kernel_rfl) (w := let z1 := decide (4000 < (s.length : Int)); let z2 : List Blk := [.lst .ev (wholeEv p s), .lst .int (whole p s).ends]; let z3 := ([.lst .int ([] : List Int)] : List Blk); let z4 : List Blk := [.lst .int (boundsL p s)]; (.seg [.call [] (.v (vB (planOk p))) []] (.br (.seg [.at 0, .mkS 4 .int] (.leaf () [1])) (.br (.seg [.at 0, .mkS 4 .int] (.leaf () [1])) (.seg [.call [] (.tup [vO 0, vO 1]) z2] (.leaf () [2])))), (Fun Try.prog 42 [.agg (cPln p)] [] (.v (vB (planOk p))) []) ∧ ((!(planOk p)) = true → (.v (vO 0) : S) = .v (vO 0) ∧ z3 = z4) ∧ ((!(planOk p)) = false → (z1 = true → (.v (vO 0) : S) = .v (vO 0) ∧ z3 = z4) ∧ (z1 = false → (Fun Try.prog 43 [.agg (cPln p), vT s] [] (.tup [vO 0, vO 1]) z2) ∧ (.v (vO 0) : S) = .v (vO 0) ∧ ([.lst .int (whole p s).ends] : List Blk) = z4)))) (by kernel_rfl) ?_
  refine ⟨(planOk_i p), fun h1 => have q1 := bnot_t h1; ?_, fun h1 => have q1 := bnot_f h1; have p1 := planOk_t q1; ?_⟩
  refine ⟨rfl, (consE (congrArg (Blk.lst .int) ?_) rfl)⟩
  rotate_left
  refine ⟨fun h2 => have p2 := of_decide_eq_true h2; ?_, fun h2 => have p2 := of_decide_eq_false h2; ?_⟩
  refine ⟨rfl, (consE (congrArg (Blk.lst .int) ?_) rfl)⟩
  rotate_left
  have hwl : wholeL p s = wholeEv p s := by unfold wholeL; rw [if_pos ⟨by simp_all, by omega⟩]
  have hbl : boundsL p s = (whole p s).ends := by unfold boundsL; rw [if_pos ⟨by simp_all, by omega⟩]
  refine ⟨(parsed_i p _ (by omega) (by omega)), rfl, (consE (congrArg (Blk.lst .int) ?_) rfl)⟩
  rotate_left
  all_goals first | (simp_all [wholeL, boundsL]; done) | (grind [wholeL, boundsL])
theorem bounds_s (p : Pln) (s : List UInt8) (hp1 : s.length ≤ 1048576) : Fun Try.prog 17 [.agg (cPln p), vT s] [] (.v (vO 0)) [.lst .int (boundsL p s)] := by
  have hN : bigN = 274877906944 := rfl
  refine fun_ofw Try.func17 (by kernel_rfl) (by kernel_rfl) (w := let z1 := decide (4000 < (s.length : Int)); let z2 : List Blk := [.lst .ev (wholeEv p s), .lst .int (whole p s).ends]; let z3 := ([.lst .int ([] : List Int)] : List Blk); let z4 : List Blk := [.lst .int (boundsL p s)]; (.seg [.call [] (.v (vB (planOk p))) []] (.br (.seg [.ty .int] (.leaf () [1])) (.br (.seg [.ty .int] (.leaf () [1])) (.seg [.call [] (.tup [vO 0, vO 1]) z2] (.leaf () [2])))), (Fun Try.prog 39 [.agg (cPln p)] [] (.v (vB (planOk p))) []) ∧ ((!(planOk p)) = true → (.v (vO 0) : S) = .v (vO 0) ∧ z3 = z4) ∧ ((!(planOk p)) = false → (z1 = true → (.v (vO 0) : S) = .v (vO 0) ∧ z3 = z4) ∧ (z1 = false → (Fun Try.prog 40 [.agg (cPln p), vT s] [] (.tup [vO 0, vO 1]) z2) ∧ (.v (vO 0) : S) = .v (vO 0) ∧ ([.lst .int (whole p s).ends] : List Blk) = z4)))) (by kernel_rfl) ?_
  refine ⟨(planOk_s p), fun h1 => have q1 := bnot_t h1; ?_, fun h1 => have q1 := bnot_f h1; have p1 := planOk_t q1; ?_⟩
  refine ⟨rfl, (consE (congrArg (Blk.lst .int) ?_) rfl)⟩
  rotate_left
  refine ⟨fun h2 => have p2 := of_decide_eq_true h2; ?_, fun h2 => have p2 := of_decide_eq_false h2; ?_⟩
  refine ⟨rfl, (consE (congrArg (Blk.lst .int) ?_) rfl)⟩
  rotate_left
  have hwl : wholeL p s = wholeEv p s := by unfold wholeL; rw [if_pos ⟨by simp_all, by omega⟩]
  have hbl : boundsL p s = (whole p s).ends := by unfold boundsL; rw [if_pos ⟨by simp_all, by omega⟩]
  refine ⟨(all_s p _ (by omega) (by omega)), rfl, (consE (congrArg (Blk.lst .int) ?_) rfl)⟩
  rotate_left
  all_goals first | (simp_all [wholeL, boundsL]; done) | (grind [wholeL, boundsL])
end Go.Proofs.Ytecljjcmjongfaa.Ax
