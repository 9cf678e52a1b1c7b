/- The law SizesOf. -/
import Derived.Test.YtecljjcmjongfaaVT
namespace Go.Proofs.Ytecljjcmjongfaa.Ax
open Go.RowKit
set_option linter.unusedSimpArgs false
set_option linter.unusedVariables false
theorem szEvL_txt : ∀ {l : List Ev} {left : Int}, 0 ≤ left → left ≤ 1048576 → 0 ≤ szEvL left l → (txtN l : Int) ≤ left
  | [], left, h, _, _ => by simp [txtN]; exact h
  | e :: r, left, h, h2, h3 => by
    rw [szEvL_cons] at h3
    split at h3
    · omega
    · have := szEvL_txt (l := r) (left := left - (e.text.length : Int)) (by omega) (by omega) h3
      rw [txtN]; omega
theorem szEvS_txt {l : List Ev} {left : Int} (h : 0 ≤ left) (h2 : left ≤ 1048576) (h3 : 0 ≤ szEvS left l) : (txtN l : Int) ≤ 1048576 := by
  unfold szEvS at h3
  split at h3
  · omega
  · have := szEvL_txt (l := l) (left := left - (l.length : Int)) (by omega) (by omega) h3; omega
theorem law_SizesOf (p : Pln) (l : List Ev) (hp1 : ((List.length (p).shapes : Nat) : Int) ≤ 9223372036854775807) (hp2 : ∀ e ∈ (p).shapes, (e.fields.length : Int) ≤ 9223372036854775807) (hp3 : (l.length : Int) ≤ 9223372036854775807) (hp4 : ∀ e ∈ l, (e.text.length : Int) ≤ 9223372036854775807) (hp5 : ∀ e ∈ l, (0 : Int) ≤ e.bits ∧ e.bits ≤ 18446744073709551615) : Fun Try.prog 6 [.agg (cPln p), .c (.seq .ev l)] [] (.v (vB true)) [] := by
  have hN : bigN = 274877906944 := rfl
  refine fun_ofw Try.func6 (by kernel_rfl) (by kernel_rfl) (w := let z1 := 1 + ((List.length (p).shapes : Nat) : Int) + 5 * ((shF (p).shapes : Nat) : Int); let z2 := sizesOf p l; let z3 := (((z2.length) : Nat) : Int); let z4 := szShS 1048576 (p).shapes; let z5 := markL mkI 1 1 (z2.length); let z6 := (z2.length : Int); let z7 := oPln0 0 p; let z8 : List Blk := [.lst .ev l]; let z9 : List Blk := [.lst .int z2]; let z10 := (!true) = false; let z11 := (l.length : Int); let z12 := vI (1 + 1 * z3); let z13 := (!decide (1 + 1 * z3 = 1 + 1 * z6)) = false; let z14 := decide (szShS 1048576 (p).shapes < 0); let z15 : List Blk := [.lst .ev (markL mkEv 7 z1 (l.length))]; let z16 := (decide (1 + 1 * z3 < 0)) = false; let z17 := (.v (vB true) : S); (.seg [.call [] (.v (vI z4)) []] (.br (.leaf () []) (.seg [.call [] (.v (vI (szEvS z4 l))) []] (.br (.leaf () []) (.seg [.call [] (.v (.agg z7)) [.tree p.shapes], .call [] (.v (vO 0)) z8, .call [] (.v (vO 0)) z9, .call [] (.v (.agg z7)) [.tree p.shapes], .call [] (.v (vO 0)) z8, .call [] (.v (vO 0)) z9, .call [] (.v (vB true)) [], .br false, .ord (os 5 [2, 3]) [], .call [] (.v (.agg z7)) [.tree p.shapes], .call [] (.v (vB true)) [], .br false, .call [] (.v (vO 0)) z8, .call [] (.v (vB true)) [], .br false, .call [4] (.v (vI z1)) [.tree (markSh 1 (p).shapes)], .call [6] (.v (vI (z1 + 7 * z11))) z15, .br false, .call [] (.v (vB true)) [], .br false, .call [7] (.v (vI (1 + 1 * z6))) [.lst .int z5], .call [] (.v z12) [], .br false, .br false, .call [] (.v (.agg z7)) [.tree p.shapes], .call [] (.v (vO 0)) z8, .call [] (.v (vO 0)) z9, .call [] (.v (vB true)) [], .br false, .call [] (.v z12) [], .br false, .br false] (.leaf () []))))), (Fun Try.prog 8 [.agg (cPln p), vI 1048576] [] (.v (vI z4)) []) ∧ (z14 = true → z17 = .v (vB true) ∧ ([] : List Blk) = []) ∧ (z14 = false → (Fun Try.prog 25 [.c (.seq .ev l), vI z4] [] (.v (vI (szEvS z4 l))) []) ∧ ((decide (szEvS z4 l < 0)) = true → z17 = .v (vB true) ∧ ([] : List Blk) = []) ∧ ((decide (szEvS z4 l < 0)) = false → (Fun Try.prog 10 [.agg (cPln p)] [] (.v (.agg z7)) [.tree p.shapes]) ∧ (Fun Try.prog 27 [.c (.seq .ev l)] [] (.v (vO 0)) z8) ∧ (Fun Try.prog 26 [.agg (cPln p), .c (.seq .ev l)] [] (.v (vO 0)) z9) ∧ (Fun Try.prog 10 [.agg (cPln p)] [] (.v (.agg z7)) [.tree p.shapes]) ∧ (Fun Try.prog 27 [.c (.seq .ev l)] [] (.v (vO 0)) z8) ∧ (Fun Try.prog 28 [.agg (cPln p), .c (.seq .ev l)] [] (.v (vO 0)) z9) ∧ (Fun Try.prog 19 [.c (.seq .int z2), .c (.seq .int z2)] [] (.v (vB true)) []) ∧ z10 ∧ (Fun Try.prog 10 [.agg (cPln p)] [] (.v (.agg z7)) [.tree p.shapes]) ∧ (Fun Try.prog 13 [.agg (cPln p), .agg (cPln p)] [] (.v (vB true)) []) ∧ z10 ∧ (Fun Try.prog 27 [.c (.seq .ev l)] [] (.v (vO 0)) z8) ∧ (Fun Try.prog 12 [.c (.seq .ev l), .c (.seq .ev l)] [] (.v (vB true)) []) ∧ z10 ∧ (Fun Try.prog 14 [.agg z7, vI 1] [.tree p.shapes] (.v (vI z1)) [.tree (markSh 1 (p).shapes)]) ∧ (Fun Try.prog 15 [vO 0, vI z1] z8 (.v (vI (z1 + 7 * z11))) z15) ∧ ((decide (z1 + 7 * z11 < 0)) = false) ∧ (Fun Try.prog 19 [.c (.seq .int z2), .c (.seq .int z2)] [] (.v (vB true)) []) ∧ z10 ∧ (Fun Try.prog 20 [vO 0, vI 1] z9 (.v (vI (1 + 1 * z6))) [.lst .int z5]) ∧ (Fun Try.prog 21 [.c (.seq .int z5), vI 1] [] (.v z12) []) ∧ z16 ∧ z13 ∧ (Fun Try.prog 10 [.agg (cPln p)] [] (.v (.agg z7)) [.tree p.shapes]) ∧ (Fun Try.prog 27 [.c (.seq .ev l)] [] (.v (vO 0)) z8) ∧ (Fun Try.prog 28 [.agg (cPln p), .c (.seq .ev l)] [] (.v (vO 0)) z9) ∧ (Fun Try.prog 19 [.c (.seq .int z2), .c (.seq .int z2)] [] (.v (vB true)) []) ∧ z10 ∧ (Fun Try.prog 21 [.c (.seq .int z5), vI 1] [] (.v z12) []) ∧ z16 ∧ z13 ∧ z17 = .v (vB true) ∧ ([] : List Blk) = [])))) (by kernel_rfl) ?_
  refine ⟨(szPlan_ok p _ (by omega) (by omega) (hp2)), fun h1 => have p1 := of_decide_eq_true h1; ?_, fun h1 => have p1 := of_decide_eq_false h1; ?_⟩
  have zb := szShS_b (l := p.shapes) (left := 1048576) (by decide) (by decide)
  exact ⟨rfl, rfl⟩
  have zb := szShS_b (l := p.shapes) (left := 1048576) (by decide) (by decide)
  have zp := zb.2.2 (by omega)
  have zf : ∀ e ∈ p.shapes, e.fields.length ≤ bigN := fun e he => by have := zp.2 e he; omega
  have zs := shF_S (l := p.shapes) (left := 1048576) (by decide) (by omega)
  refine ⟨(szEventS_ok _ _ (by omega) (by omega) (hp4)), fun h2 => have p2 := of_decide_eq_true h2; ?_, fun h2 => have p2 := of_decide_eq_false h2; ?_⟩
  have ze := szEvS_b (l := l) (left := szShS 1048576 p.shapes) (by omega) (by omega)
  exact ⟨rfl, rfl⟩
  have ze := szEvS_b (l := l) (left := szShS 1048576 p.shapes) (by omega) (by omega)
  have zl := ze.2.2 (by omega)
  have zt := szEvS_txt (l := l) (left := szShS 1048576 p.shapes) (by omega) (by omega) (by omega)
  have zE : EvsB l := ⟨zl.1, by omega, fun e he => ⟨by have := zl.2 e he; omega, hp5 e he⟩⟩
  have zz := sizesOf_len (p := p) zl.1
  exact ⟨(toPlan_ok p (by omega) (zp.2)), (toEventS_ok _ (by omega)), (sizesOf_s p _ (zE)), (toPlan_ok p (by omega) (zp.2)), (toEventS_ok _ (by omega)), (sizesOf_i p _ (zE)), (eqIntS_ok _ (by omega)), (by decide), (toPlan_ok p (by omega) (zp.2)), (eqPlan_ok p (by omega) (zf)), (by decide), (toEventS_ok _ (by omega)), (eqEventS_ok _ (by omega)), (by decide), (markPlan_ok p _ (by omega) (by omega) (by omega)), (markEventS_ok l (1 + ((List.length (p).shapes : Nat) : Int) + 5 * ((shF (p).shapes : Nat) : Int)) (by omega) (by omega)), (decide_eq_false (by omega)), (eqIntS_ok _ (by omega)), (by decide), (markIntS_ok (sizesOf p l) 1 (by omega) (by omega)), (heldIntS_ok (List.length (sizesOf p l)) 1 (by omega) (by omega)), (decide_eq_false (by omega)), (by simp), (toPlan_ok p (by omega) (zp.2)), (toEventS_ok _ (by omega)), (sizesOf_i p _ (zE)), (eqIntS_ok _ (by omega)), (by decide), (heldIntS_ok (List.length (sizesOf p l)) 1 (by omega) (by omega)), (decide_eq_false (by omega)), (by simp), rfl, rfl⟩
end Go.Proofs.Ytecljjcmjongfaa.Ax
