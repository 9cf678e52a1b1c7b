/- The law FramesIn. -/
import Derived.Test.YthmhekbmhpljcaaOF
import Derived.Test.YthmhekbmhpljcaaNJ
namespace Go.Proofs.Ythmhekbmhpljcaa.Ax
open Go.RowKit
set_option linter.unusedSimpArgs false
set_option linter.unusedVariables false
theorem law_FramesIn (p : Pln) (s : List UInt8) (hp1 : ((List.length (p).shapes : Nat) : Int) ≤ 9223372036854775807) (hp2 : ∀ e ∈ (p).shapes, (e.fields.length : Int) ≤ 9223372036854775807) : Fun Try.prog 4 [.agg (cPln p), vT s] [] (.v (vB true)) [] := by
  have hN : bigN = 274877906944 := rfl
  refine fun_of Try.func4 (by kernel_rfl) (by kernel_rfl) (d := .br (.leaf () []) (.seg [.call [] (.v (vI (szShS 1048576 (p).shapes))) []] (.br (.leaf () []) (.seg [.call [] (.v (.agg (cPln p))) [], .call [] (.v (vI (framesIn p s))) [], .call [] (.v (.agg (cPln p))) [], .call [] (.v (vI (framesIn p s))) [], .br false, .ord (os 5 [2, 3]) [], .call [] (.v (.agg (cPln p))) [], .call [] (.v (vB true)) [], .br false] (.leaf () [])))))
    (vc := ((decide (1048576 < (s.length : Int))) = true → (.v (vB true) : S) = .v (vB true) ∧ ([] : List Blk) = []) ∧ ((decide (1048576 < (s.length : Int))) = false → (Fun Try.prog 10 [.agg (cPln p), vI 1048576] [] (.v (vI (szShS 1048576 (p).shapes))) []) ∧ ((decide (szShS 1048576 (p).shapes < 0)) = true → (.v (vB true) : S) = .v (vB true) ∧ ([] : List Blk) = []) ∧ ((decide (szShS 1048576 (p).shapes < 0)) = false → (Fun Try.prog 13 [.agg (cPln p)] [] (.v (.agg (cPln p))) []) ∧ (Fun Try.prog 18 [.agg (cPln p), vT s] [] (.v (vI (framesIn p s))) []) ∧ (Fun Try.prog 13 [.agg (cPln p)] [] (.v (.agg (cPln p))) []) ∧ (Fun Try.prog 19 [.agg (cPln p), vT s] [] (.v (vI (framesIn p s))) []) ∧ ((!decide (framesIn p s = framesIn p s)) = false) ∧ (Fun Try.prog 13 [.agg (cPln p)] [] (.v (.agg (cPln p))) []) ∧ (Fun Try.prog 16 [.agg (cPln p), .agg (cPln p)] [] (.v (vB true)) []) ∧ ((!true) = false) ∧ (.v (vB true) : S) = .v (vB true) ∧ ([] : List Blk) = []))) (by kernel_rfl) ?_
  refine ⟨fun h1 => ?_, fun h1 => ?_⟩
  · have p1 := of_decide_eq_true h1
    exact ⟨rfl, rfl⟩
  · have p1 := of_decide_eq_false h1
    refine ⟨(szPlan_ok p _ (by omega) (by omega) (hp2)), fun h2 => ?_, fun h2 => ?_⟩
    · have p2 := of_decide_eq_true h2
      have zb := szShS_b (l := p.shapes) (left := 1048576) (by decide) (by decide)
      exact ⟨rfl, rfl⟩
    · have p2 := of_decide_eq_false h2
      have zb := szShS_b (l := p.shapes) (left := 1048576) (by decide) (by decide)
      have zp := zb.2.2 (by omega)
      have zf : ∀ e ∈ p.shapes, e.fields.length ≤ bigN := fun e he => by have := zp.2 e he; omega
      exact ⟨(toPlan_ok p (by omega) (zp.2)), (framesIn_s p _ (by omega)), (toPlan_ok p (by omega) (zp.2)), (framesIn_i p _ (by omega)), (by simp), (toPlan_ok p (by omega) (zp.2)), (eqPlan_ok p (by omega) (zf)), (by decide), rfl, rfl⟩
end Go.Proofs.Ythmhekbmhpljcaa.Ax
