/- Lists of sizes: both sides. -/
import Derived.Test.YtecljjcmjongfaaVS
import Derived.Test.YtecljjcmjongfaaVA
import Derived.Test.YtecljjcmjongfaaVB
namespace Go.Proofs.Ytecljjcmjongfaa.Ax
open Go.RowKit
set_option linter.unusedSimpArgs false
set_option linter.unusedVariables false
theorem sizesOf_ok {p : Pln} {l : List Ev} (h : (frameCode p l).1 = 0) : sizesOf p l = ((bodyOf p l).length : Int) :: (sT p p.root (List.drop 1 (List.take (Int.toNat ((l.length : Int) - 1)) l)) ++ [-1]) := by
  obtain ⟨hp, e, b, u, hl, hb, hu⟩ := frame_bd h
  have hb1 : bodyOf p l = mT p p.root (l.drop 1) := by unfold bodyOf; rw [if_pos h]
  have ht : tl (sz0 p l) = b ++ [u] := by show l.drop 1 = _; rw [hl]; rfl
  have hc : List.drop 1 (List.take (Int.toNat ((l.length : Int) - 1)) l) = b := by
    rw [frame_cut, hl]; simp
  have hs : (msgZ p.root (sz0 p l)).sizes = -1 :: (sT p p.root b ++ [-1]) := by
    have h1 : sT p p.root (b ++ [u]) = sT p p.root b := (mT_tail (.inr hu) _ (Nat.le_refl _) hb).2
    have h2 : upL (-1) 1 (b ++ [u]) = b.length := upT hb (.inr hu)
    have h3 : (sz0 p l).sizes = List.replicate (b.length + 2) (-1) := by simp [sz0, hl]
    have h4 : (sz0 p l).at_ = 1 := rfl
    have h5 : (sz0 p l).plan = p := rfl
    unfold msgZ
    simp only [ht, h3, h4, h5, h1, h2]
    rw [List.take_replicate, List.length_replicate, show min (Int.toNat 1) (b.length + 2) = 1 by simp, show b.length + 2 - (Int.toNat 1 + b.length) = 1 by simp; omega]
    rfl
  unfold sizesOf
  rw [if_pos h, hs, hb1, hc]
  rfl
theorem sizesOf_len {p : Pln} {l : List Ev} (hv : l.length ≤ 1048576) : (sizesOf p l).length ≤ 1048576 := by
  by_cases h : (frameCode p l).1 = 0
  · obtain ⟨hp, e, b, u, hl, hb, hu⟩ := frame_bd h
    have hc : List.drop 1 (List.take (Int.toNat ((l.length : Int) - 1)) l) = b := by
      rw [frame_cut, hl]; simp
    rw [sizesOf_ok h, hc, List.length_cons, List.length_append, sT_len _ (Nat.le_refl _) hb]
    rw [hl] at hv
    simp at hv ⊢
    omega
  · unfold sizesOf; rw [if_neg h]; simp
theorem sizesOf_i (p : Pln) (l : List Ev) (hp1 : EvsB l) : Fun Try.prog 28 [.agg (cPln p), .c (.seq .ev l)] [] (.v (vO 0)) [.lst .int (sizesOf p l)] := by
  have hN : bigN = 274877906944 := rfl
  refine fun_ofw Try.func28 (by kernel_rfl) (by kernel_rfl) (w := let z1 : List Blk := [.lst .int (sizesOf p l)]; (.seg [.call [] (.tup [vT (bodyOf p l), vO 0]) z1] (.leaf () [1]), (Fun Try.prog 56 [.agg (cPln p), .c (.seq .ev l)] [] (.tup [vT (bodyOf p l), vO 0]) z1) ∧ (.v (vO 0) : S) = .v (vO 0) ∧ (z1 : List Blk) = z1)) (by kernel_rfl) ?_
  exact ⟨(sized_i p _ (by omega)), rfl, rfl⟩
theorem sizesOf_s (p : Pln) (l : List Ev) (hp1 : EvsB l) : Fun Try.prog 26 [.agg (cPln p), .c (.seq .ev l)] [] (.v (vO 0)) [.lst .int (sizesOf p l)] := by
  have hN : bigN = 274877906944 := rfl
  have hvl := hp1.1
  refine fun_ofw Try.func26 (by kernel_rfl) (by kernel_rfl) (w := let z1 := (l.length : Int); let z2 := ((List.length (bodyOf p l) : Nat) : Int); let z3 := List.drop 1 (List.take (Int.toNat (z1 - 1)) l); let z4 := frameCode p l; let z5 := (.v (vI (IntKind.i64.wrap (z1 - 1))) : S) = .v (vI (z1 - 1)); let z6 : List Blk := [.dead, .lst .int ([z2] ++ sT p p.root z3)]; (.seg [.call [] (.tup [vI z4.1, vI z4.2]) []] (.br (.seg [.ty .int] (.leaf () [1])) (.seg [.call [] (.v (vI z2)) [], .ty .int, .tree (fr (.one 9 (.first 10 (.done))) 0 9) 9 [], .as 27 (.v (vI (z1 - 1))), .call [1] (.v (vO 1)) z6, .ty .int, .ty .int] (.leaf () [4]))), (Fun Try.prog 52 [.agg (cPln p), .c (.seq .ev l)] [] (.tup [vI z4.1, vI z4.2]) []) ∧ ((!decide (z4.1 = 0)) = true → (.v (vO 0) : S) = .v (vO 0) ∧ ([.lst .int ([] : List Int)] : List Blk) = [.lst .int (sizesOf p l)]) ∧ ((!decide (z4.1 = 0)) = false → (Fun Try.prog 53 [.agg (cPln p), .c (.seq .ev l)] [] (.v (vI z2)) []) ∧ z5 ∧ z5 ∧ (z1 - 1 ≤ z1) ∧ ((1 : Int) ≤ z1 - 1) ∧ ((0 : Int) ≤ 1) ∧ (z1 - 1 ≤ z1) ∧ ((1 : Int) ≤ z1 - 1) ∧ ((0 : Int) ≤ 1) ∧ (Fun Try.prog 54 [.agg (cPln p), vI p.root, .c (.seq .ev z3), vO 0] [.lst .int [z2]] (.v (vO 1)) z6) ∧ (List.length ([z2] ++ sT p p.root z3) + List.length [(-1)] ≤ bigN) ∧ (.v (vO 0) : S) = .v (vO 0) ∧ ([.lst .int (([z2] ++ sT p p.root z3) ++ [(-1)])] : List Blk) = [.lst .int (sizesOf p l)]))) (by kernel_rfl) ?_
  refine ⟨(frameCode_s p _ (by first | omega | (simp only [List.length_append, List.length_cons, List.length_nil]; omega)) (hp1.2.2)), fun h1 => have q1 := bnot_t h1; have p1 := of_decide_eq_false q1; ?_, fun h1 => have q1 := bnot_f h1; have p1 := of_decide_eq_true q1; ?_⟩
  refine ⟨rfl, (consE (congrArg (Blk.lst .int) ?_) rfl)⟩
  rotate_left
  have hz := sizesOf_ok (p := p) (l := l) (by omega)
  have hc := bodyOf_cut (p := p) (l := l) (by omega) hp1
  have hcl := sT_len (p := p) (sh := p.root) _ (Nat.le_refl _) hc.1
  have hcd : List.length (List.drop 1 (List.take (Int.toNat ((l.length : Int) - 1)) l)) ≤ 1048576 := by simp only [List.length_drop, List.length_take]; omega
  refine ⟨(frameSize_s p _ (hp1)), (as_i64 (by omega) (by omega)), (as_i64 (by omega) (by omega)), (by first | omega | (simp only [List.length_append, List.length_cons, List.length_nil]; omega)), (by first | omega | (simp only [List.length_append, List.length_cons, List.length_nil]; omega)), (by decide), (by first | omega | (simp only [List.length_append, List.length_cons, List.length_nil]; omega)), (by first | omega | (simp only [List.length_append, List.length_cons, List.length_nil]; omega)), (by decide), (size_z p _ _ _ (hc.1) ((hp1.take _).drop _) (hc.2.2.2) (by first | omega | (simp only [List.length_append, List.length_cons, List.length_nil]; omega))), (by first | omega | (simp only [List.length_append, List.length_cons, List.length_nil]; omega)), rfl, (consE (congrArg (Blk.lst .int) ?_) rfl)⟩
  rotate_left
  all_goals first | ((rw [hz]; simp; done)) | (simp_all [sizesOf]; done) | (grind [sizesOf])
end Go.Proofs.Ytecljjcmjongfaa.Ax
