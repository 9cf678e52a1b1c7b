/- The laws of sizes. -/
import Derived.Test.YthmhekbmhpljcaaGreatQA
import Derived.Test.YthmhekbmhpljcaaGreatNJ
namespace Go.Proofs.YthmhekbmhpljcaaGreat.Ax
open Go.RowKit
set_option linter.unusedSimpArgs false
set_option linter.unusedVariables false
theorem szEvL_txt : ∀ {l : List Ev} {left : Int}, 0 ≤ left → left ≤ 1048576 → 0 ≤ szEvL left l → (txtN l : Int) ≤ left
  | [], left, h, _, _ => by simp [txtN]; exact h
  | e :: r, left, h, h2, h3 => by
    rw [szEvL_cons] at h3
    split at h3
    · omega
    · have := szEvL_txt (l := r) (left := left - (e.text.length : Int)) (by omega) (by omega) h3
      rw [txtN]; omega
theorem szEvS_txt {l : List Ev} {left : Int} (h : 0 ≤ left) (h2 : left ≤ 1048576) (h3 : 0 ≤ szEvS left l) : (txtN l : Int) ≤ 1048576 := by
  unfold szEvS at h3
  split at h3
  · omega
  · have := szEvL_txt (l := l) (left := left - (l.length : Int)) (by omega) (by omega) h3; omega
theorem law_Encode (p : Pln) (l : List Ev) (hp1 : ((List.length (p).shapes : Nat) : Int) ≤ 9223372036854775807) (hp2 : ∀ e ∈ (p).shapes, (e.fields.length : Int) ≤ 9223372036854775807) (hp3 : (l.length : Int) ≤ 9223372036854775807) (hp4 : ∀ e ∈ l, (e.text.length : Int) ≤ 9223372036854775807) (hp5 : ∀ e ∈ l, (0 : Int) ≤ e.bits ∧ e.bits ≤ 18446744073709551615) : Fun Tryz.prog 4 [.agg (cPln p), .c (.seq .ev l)] [] (.v (vB true)) [] := by
  have hN : bigN = 274877906944 := rfl
  refine fun_ofw Tryz.func4 (by kernel_rfl) (by kernel_rfl) (w := let z2 := szShS 1048576 (p).shapes; let z3 := List.flatten (goodL p (divM l)); let z4 := formed p l; let z1 : List V := [vT z3, vI z4.1, vI z4.2]; let z5 : List Blk := [.lst .ev l]; let z6 := decide (szShS 1048576 (p).shapes < 0); let z7 := (.v (vB true) : S); (.seg [.call [] (.v (vI z2)) []] (.br (.leaf () []) (.seg [.call [] (.v (vI (szEvS z2 l))) []] (.br (.leaf () []) (.seg [.call [] (.v (.agg (cPln p))) [], .call [] (.v (vO 0)) z5, .call [] (.tup z1) [], .call [] (.v (.agg (cPln p))) [], .call [] (.v (vO 0)) z5, .call [] (.tup z1) [], .br false, .br false, .br false, .ord (os 5 [2, 3]) [], .call [] (.v (.agg (cPln p))) [], .call [] (.v (vB true)) [], .br false, .call [] (.v (vO 0)) z5, .call [] (.v (vB true)) [], .br false] (.leaf () []))))), (Fun Tryz.prog 13 [.agg (cPln p), vI 1048576] [] (.v (vI z2)) []) ∧ (z6 = true → z7 = .v (vB true) ∧ ([] : List Blk) = []) ∧ (z6 = false → (Fun Tryz.prog 14 [.c (.seq .ev l), vI z2] [] (.v (vI (szEvS z2 l))) []) ∧ ((decide (szEvS z2 l < 0)) = true → z7 = .v (vB true) ∧ ([] : List Blk) = []) ∧ ((decide (szEvS z2 l < 0)) = false → (Fun Tryz.prog 16 [.agg (cPln p)] [] (.v (.agg (cPln p))) []) ∧ (Fun Tryz.prog 17 [.c (.seq .ev l)] [] (.v (vO 0)) z5) ∧ (Fun Tryz.prog 15 [.agg (cPln p), .c (.seq .ev l)] [] (.tup z1) []) ∧ (Fun Tryz.prog 16 [.agg (cPln p)] [] (.v (.agg (cPln p))) []) ∧ (Fun Tryz.prog 17 [.c (.seq .ev l)] [] (.v (vO 0)) z5) ∧ (Fun Tryz.prog 18 [.agg (cPln p), .c (.seq .ev l)] [] (.tup z1) []) ∧ ((!decide (z3 = z3)) = false) ∧ ((!decide (z4.1 = z4.1)) = false) ∧ ((!decide (z4.2 = z4.2)) = false) ∧ (Fun Tryz.prog 16 [.agg (cPln p)] [] (.v (.agg (cPln p))) []) ∧ (Fun Tryz.prog 19 [.agg (cPln p), .agg (cPln p)] [] (.v (vB true)) []) ∧ ((!true) = false) ∧ (Fun Tryz.prog 17 [.c (.seq .ev l)] [] (.v (vO 0)) z5) ∧ (Fun Tryz.prog 20 [.c (.seq .ev l), .c (.seq .ev l)] [] (.v (vB true)) []) ∧ ((!true) = false) ∧ z7 = .v (vB true) ∧ ([] : List Blk) = [])))) (by kernel_rfl) ?_
  refine ⟨(szPlan_ok p _ (by omega) (by omega) (hp2)), fun h1 => have p1 := of_decide_eq_true h1; ?_, fun h1 => have p1 := of_decide_eq_false h1; ?_⟩
  have zb := szShS_b (l := p.shapes) (left := 1048576) (by decide) (by decide)
  exact ⟨rfl, rfl⟩
  have zb := szShS_b (l := p.shapes) (left := 1048576) (by decide) (by decide)
  have zp := zb.2.2 (by omega)
  have zf : ∀ e ∈ p.shapes, e.fields.length ≤ bigN := fun e he => by have := zp.2 e he; omega
  refine ⟨(szEventS_ok _ _ (by omega) (by omega) (hp4)), fun h2 => have p2 := of_decide_eq_true h2; ?_, fun h2 => have p2 := of_decide_eq_false h2; ?_⟩
  have ze := szEvS_b (l := l) (left := szShS 1048576 p.shapes) (by omega) (by omega)
  exact ⟨rfl, rfl⟩
  have ze := szEvS_b (l := l) (left := szShS 1048576 p.shapes) (by omega) (by omega)
  have zl := ze.2.2 (by omega)
  have zt := szEvS_txt (l := l) (left := szShS 1048576 p.shapes) (by omega) (by omega) (by omega)
  have zE : EvsB l := ⟨zl.1, by omega, fun e he => ⟨by have := zl.2 e he; omega, hp5 e he⟩⟩
  exact ⟨(toPlan_ok p (by omega) (zp.2)), (toEventS_ok _ (by omega)), (encode_s p _ (zE)), (toPlan_ok p (by omega) (zp.2)), (toEventS_ok _ (by omega)), (encode_i p _ (zE)), (by simp), (by simp), (by simp), (toPlan_ok p (by omega) (zp.2)), (eqPlan_ok p (by omega) (zf)), (by decide), (toEventS_ok _ (by omega)), (eqEventS_ok _ (by omega)), (by decide), rfl, rfl⟩
theorem law_Encoded (p : Pln) (l : List Ev) (hp1 : ((List.length (p).shapes : Nat) : Int) ≤ 9223372036854775807) (hp2 : ∀ e ∈ (p).shapes, (e.fields.length : Int) ≤ 9223372036854775807) (hp3 : (l.length : Int) ≤ 9223372036854775807) (hp4 : ∀ e ∈ l, (e.text.length : Int) ≤ 9223372036854775807) (hp5 : ∀ e ∈ l, (0 : Int) ≤ e.bits ∧ e.bits ≤ 18446744073709551615) : Fun Tryz.prog 5 [.agg (cPln p), .c (.seq .ev l)] [] (.v (vB true)) [] := by
  have hN : bigN = 274877906944 := rfl
  refine fun_ofw Tryz.func5 (by kernel_rfl) (by kernel_rfl) (w := let z1 := szShS 1048576 (p).shapes; let z2 := vB (encOk p l); let z3 : List Blk := [.lst .ev l]; let z4 := decide (szShS 1048576 (p).shapes < 0); let z5 := (.v (vB true) : S); (.seg [.call [] (.v (vI z1)) []] (.br (.leaf () []) (.seg [.call [] (.v (vI (szEvS z1 l))) []] (.br (.leaf () []) (.seg [.call [] (.v (.agg (cPln p))) [], .call [] (.v (vO 0)) z3, .call [] (.v z2) [], .call [] (.v (.agg (cPln p))) [], .call [] (.v (vO 0)) z3, .call [] (.v z2) [], .br false, .ord (os 5 [2, 3]) [], .call [] (.v (.agg (cPln p))) [], .call [] (.v (vB true)) [], .br false, .call [] (.v (vO 0)) z3, .call [] (.v (vB true)) [], .br false] (.leaf () []))))), (Fun Tryz.prog 13 [.agg (cPln p), vI 1048576] [] (.v (vI z1)) []) ∧ (z4 = true → z5 = .v (vB true) ∧ ([] : List Blk) = []) ∧ (z4 = false → (Fun Tryz.prog 14 [.c (.seq .ev l), vI z1] [] (.v (vI (szEvS z1 l))) []) ∧ ((decide (szEvS z1 l < 0)) = true → z5 = .v (vB true) ∧ ([] : List Blk) = []) ∧ ((decide (szEvS z1 l < 0)) = false → (Fun Tryz.prog 16 [.agg (cPln p)] [] (.v (.agg (cPln p))) []) ∧ (Fun Tryz.prog 17 [.c (.seq .ev l)] [] (.v (vO 0)) z3) ∧ (Fun Tryz.prog 21 [.agg (cPln p), .c (.seq .ev l)] [] (.v z2) []) ∧ (Fun Tryz.prog 16 [.agg (cPln p)] [] (.v (.agg (cPln p))) []) ∧ (Fun Tryz.prog 17 [.c (.seq .ev l)] [] (.v (vO 0)) z3) ∧ (Fun Tryz.prog 22 [.agg (cPln p), .c (.seq .ev l)] [] (.v z2) []) ∧ ((!decide (encOk p l = encOk p l)) = false) ∧ (Fun Tryz.prog 16 [.agg (cPln p)] [] (.v (.agg (cPln p))) []) ∧ (Fun Tryz.prog 19 [.agg (cPln p), .agg (cPln p)] [] (.v (vB true)) []) ∧ ((!true) = false) ∧ (Fun Tryz.prog 17 [.c (.seq .ev l)] [] (.v (vO 0)) z3) ∧ (Fun Tryz.prog 20 [.c (.seq .ev l), .c (.seq .ev l)] [] (.v (vB true)) []) ∧ ((!true) = false) ∧ z5 = .v (vB true) ∧ ([] : List Blk) = [])))) (by kernel_rfl) ?_
  refine ⟨(szPlan_ok p _ (by omega) (by omega) (hp2)), fun h1 => have p1 := of_decide_eq_true h1; ?_, fun h1 => have p1 := of_decide_eq_false h1; ?_⟩
  have zb := szShS_b (l := p.shapes) (left := 1048576) (by decide) (by decide)
  exact ⟨rfl, rfl⟩
  have zb := szShS_b (l := p.shapes) (left := 1048576) (by decide) (by decide)
  have zp := zb.2.2 (by omega)
  have zf : ∀ e ∈ p.shapes, e.fields.length ≤ bigN := fun e he => by have := zp.2 e he; omega
  refine ⟨(szEventS_ok _ _ (by omega) (by omega) (hp4)), fun h2 => have p2 := of_decide_eq_true h2; ?_, fun h2 => have p2 := of_decide_eq_false h2; ?_⟩
  have ze := szEvS_b (l := l) (left := szShS 1048576 p.shapes) (by omega) (by omega)
  exact ⟨rfl, rfl⟩
  have ze := szEvS_b (l := l) (left := szShS 1048576 p.shapes) (by omega) (by omega)
  have zl := ze.2.2 (by omega)
  have zt := szEvS_txt (l := l) (left := szShS 1048576 p.shapes) (by omega) (by omega) (by omega)
  have zE : EvsB l := ⟨zl.1, by omega, fun e he => ⟨by have := zl.2 e he; omega, hp5 e he⟩⟩
  exact ⟨(toPlan_ok p (by omega) (zp.2)), (toEventS_ok _ (by omega)), (encoded_s p _ (zE)), (toPlan_ok p (by omega) (zp.2)), (toEventS_ok _ (by omega)), (encoded_i p _ (zE)), (by simp), (toPlan_ok p (by omega) (zp.2)), (eqPlan_ok p (by omega) (zf)), (by decide), (toEventS_ok _ (by omega)), (eqEventS_ok _ (by omega)), (by decide), rfl, rfl⟩
end Go.Proofs.YthmhekbmhpljcaaGreat.Ax
