/- The law FrameCode. -/
import Derived.Test.YthmhekbmhpljcaaNJ
namespace Go.Proofs.Ythmhekbmhpljcaa.Ax
open Go.RowKit
set_option linter.unusedSimpArgs false
set_option linter.unusedVariables false
theorem law_FrameCode (p : Pln) (l : List Ev) (hp1 : ((List.length (p).shapes : Nat) : Int) ≤ 9223372036854775807) (hp2 : ∀ e ∈ (p).shapes, (e.fields.length : Int) ≤ 9223372036854775807) (hp3 : (l.length : Int) ≤ 9223372036854775807) (hp4 : ∀ e ∈ l, (e.text.length : Int) ≤ 9223372036854775807) (hp5 : ∀ e ∈ l, (0 : Int) ≤ e.bits ∧ e.bits ≤ 18446744073709551615) : Fun Try.prog 3 [.agg (cPln p), .c (.seq .ev l)] [] (.v (vB true)) [] := by
  have hN : bigN = 274877906944 := rfl
  refine fun_of Try.func3 (by kernel_rfl) (by kernel_rfl) (d := .seg [.call [] (.v (vI (szShS 1048576 (p).shapes))) []] (.br (.leaf () []) (.seg [.call [] (.v (vI (szEvS (szShS 1048576 (p).shapes) l))) []] (.br (.leaf () []) (.seg [.call [] (.v (.agg (cPln p))) [], .call [] (.v (vO 0)) [.lst .ev l], .call [] (.tup [vI ((frameCode p l).1), vI ((frameCode p l).2)]) [], .call [] (.v (.agg (cPln p))) [], .call [] (.v (vO 0)) [.lst .ev l], .call [] (.tup [vI ((frameCode p l).1), vI ((frameCode p l).2)]) [], .br false, .br false, .ord (os 5 [2, 3]) [], .call [] (.v (.agg (cPln p))) [], .call [] (.v (vB true)) [], .br false, .call [] (.v (vO 0)) [.lst .ev l], .call [] (.v (vB true)) [], .br false] (.leaf () []))))))
    (vc := (Fun Try.prog 10 [.agg (cPln p), vI 1048576] [] (.v (vI (szShS 1048576 (p).shapes))) []) ∧ ((decide (szShS 1048576 (p).shapes < 0)) = true → (.v (vB true) : S) = .v (vB true) ∧ ([] : List Blk) = []) ∧ ((decide (szShS 1048576 (p).shapes < 0)) = false → (Fun Try.prog 11 [.c (.seq .ev l), vI (szShS 1048576 (p).shapes)] [] (.v (vI (szEvS (szShS 1048576 (p).shapes) l))) []) ∧ ((decide (szEvS (szShS 1048576 (p).shapes) l < 0)) = true → (.v (vB true) : S) = .v (vB true) ∧ ([] : List Blk) = []) ∧ ((decide (szEvS (szShS 1048576 (p).shapes) l < 0)) = false → (Fun Try.prog 13 [.agg (cPln p)] [] (.v (.agg (cPln p))) []) ∧ (Fun Try.prog 14 [.c (.seq .ev l)] [] (.v (vO 0)) [.lst .ev l]) ∧ (Fun Try.prog 12 [.agg (cPln p), .c (.seq .ev l)] [] (.tup [vI ((frameCode p l).1), vI ((frameCode p l).2)]) []) ∧ (Fun Try.prog 13 [.agg (cPln p)] [] (.v (.agg (cPln p))) []) ∧ (Fun Try.prog 14 [.c (.seq .ev l)] [] (.v (vO 0)) [.lst .ev l]) ∧ (Fun Try.prog 15 [.agg (cPln p), .c (.seq .ev l)] [] (.tup [vI ((frameCode p l).1), vI ((frameCode p l).2)]) []) ∧ ((!decide ((frameCode p l).1 = (frameCode p l).1)) = false) ∧ ((!decide ((frameCode p l).2 = (frameCode p l).2)) = false) ∧ (Fun Try.prog 13 [.agg (cPln p)] [] (.v (.agg (cPln p))) []) ∧ (Fun Try.prog 16 [.agg (cPln p), .agg (cPln p)] [] (.v (vB true)) []) ∧ ((!true) = false) ∧ (Fun Try.prog 14 [.c (.seq .ev l)] [] (.v (vO 0)) [.lst .ev l]) ∧ (Fun Try.prog 17 [.c (.seq .ev l), .c (.seq .ev l)] [] (.v (vB true)) []) ∧ ((!true) = false) ∧ (.v (vB true) : S) = .v (vB true) ∧ ([] : List Blk) = []))) (by kernel_rfl) ?_
  refine ⟨(szPlan_ok p _ (by omega) (by omega) (hp2)), fun h1 => ?_, fun h1 => ?_⟩
  · have p1 := of_decide_eq_true h1
    have zb := szShS_b (l := p.shapes) (left := 1048576) (by decide) (by decide)
    exact ⟨rfl, rfl⟩
  · have p1 := of_decide_eq_false h1
    have zb := szShS_b (l := p.shapes) (left := 1048576) (by decide) (by decide)
    have zp := zb.2.2 (by omega)
    have zf : ∀ e ∈ p.shapes, e.fields.length ≤ bigN := fun e he => by have := zp.2 e he; omega
    refine ⟨(szEventS_ok _ _ (by omega) (by omega) (hp4)), fun h2 => ?_, fun h2 => ?_⟩
    · have p2 := of_decide_eq_true h2
      have ze := szEvS_b (l := l) (left := szShS 1048576 p.shapes) (by omega) (by omega)
      exact ⟨rfl, rfl⟩
    · have p2 := of_decide_eq_false h2
      have ze := szEvS_b (l := l) (left := szShS 1048576 p.shapes) (by omega) (by omega)
      have zl := ze.2.2 (by omega)
      have zE : ∀ e ∈ l, EvB e := fun e he => ⟨by have := zl.2 e he; omega, hp5 e he⟩
      exact ⟨(toPlan_ok p (by omega) (zp.2)), (toEventS_ok _ (by omega)), (frameCode_s p _ (by omega) (zE)), (toPlan_ok p (by omega) (zp.2)), (toEventS_ok _ (by omega)), (frameCode_i p _ (by omega) (zE)), (by simp), (by simp), (toPlan_ok p (by omega) (zp.2)), (eqPlan_ok p (by omega) (zf)), (by decide), (toEventS_ok _ (by omega)), (eqEventS_ok _ (by omega)), (by decide), rfl, rfl⟩
end Go.Proofs.Ythmhekbmhpljcaa.Ax
