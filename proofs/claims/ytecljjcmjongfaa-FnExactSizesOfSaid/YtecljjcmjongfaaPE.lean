/- Sizes of frames. -/
import Derived.Test.YtecljjcmjongfaaPB
import Derived.Test.YtecljjcmjongfaaPD
import Derived.Test.YtecljjcmjongfaaNH
namespace Go.Proofs.Ytecljjcmjongfaa.Ax
open Go.RowKit
set_option linter.unusedSimpArgs false
set_option linter.unusedVariables false
def frB (p : Pln) (l : List Ev) : List UInt8 := if (frErr p l).1 = 0 then frameOf (bodyOf p l) else []
def frP (p : Pln) (l : List Ev) : Int := if (frErr p l).1 = 0 then 0 else (frErr p l).2
theorem msgZ_len {sh : Int} {z : Sz} (h : MB sh z) : (msgZ sh z).sizes.length = z.list.length := by
  obtain ⟨b, u, t, hl, hb, hu⟩ := h.bd
  have h1 : (sT z.plan sh (tl z)).length = upL (-1) 1 (tl z) := by rw [hl, (mT_tail hu _ (Nat.le_refl _) hb).2, upT hb hu, sT_len _ (Nat.le_refl _) hb]
  have h2 := bdT_ne h.bd
  rw [tl_len] at h2
  have h3 := h.len; have h4 := h.at_
  unfold msgZ
  simp only [List.length_append, List.length_take, List.length_replicate, h1]; omega
structure sized_i_V0 where
  sizes : List Int
  v : Nat
def sized_i_F0 (p : Pln) (l : List Ev) : Fam := ⟨sized_i_V0, fun q1 => [(2, .v (vP 0)), (8, .v (vP 1)), (23, .v (vI (l.length : Int))), (24, .v (vI (q1.v : Int)))], fun q1 => [.cells (cPln p), .cells [.seq .shp p.shapes, .int .i64 p.root, .int .i64 p.deep, .int .i64 p.most, .seq .ev l, .int .i64 1, .own 2], .lst .int q1.sizes], fun q1 => q1.v ≤ l.length ∧ q1.sizes = List.replicate q1.v (-1), fun q1 => l.length - q1.v⟩

theorem sized_i (p : Pln) (l : List Ev) (hp1 : EvsB l) : Fun Try.prog 56 [.agg (cPln p), .c (.seq .ev l)] [] (.tup [vT (bodyOf p l), vO 0]) [.lst .int (sizesOf p l)] := by
  have hN : bigN = 274877906944 := rfl
  have hvl := hp1.1
  have h64 : i64max = 9223372036854775807 := rfl
  refine fun_ofw Try.func56 (by kernel_rfl) (by kernel_rfl) (w := let z4 := (l.length : Int); let z5 := frameCode p l; let z6 := sized_i_F0 p l; (.seg [.call [] (.tup [vI z5.1, vI z5.2]) []] (.br (.seg [.at 0, .mkS 5 .int] (.leaf () [1])) (.seg [.at 0, .mk 1 6 .int, .keep [2, 8, 23, 24], .sel [0, 1, 2]] (.loop z6 fun q1 => let z1 := (⟨p, l, 1, q1.sizes⟩ : Sz); .br (.seg [.ty .int, .ty .int, .as 35 (.v (vI ((q1.v : Int) + 1))), .at 0, .keep [2, 8, 23, 24], .sel [0, 1, 4]] (.next)) (.seg [.call [1, 2] (.v (vT (mT (z1).plan p.root (tl z1)))) [.cells (oSz6 1 (msgZ p.root z1)), .lst .int (msgZ p.root z1).sizes]] (.intro (fun (x1 : Int) => (msgZ p.root z1).sizes[0]? = some x1) fun x1 => .seg [.el .int x1, .ord (os 7 []) []] (.leaf () [2])))))), (Fun Try.prog 100 [.agg (cPln p), .c (.seq .ev l)] [] (.tup [vI z5.1, vI z5.2]) []) ∧ ((!decide (z5.1 = 0)) = true → (.tup [vT [], vO 0] : S) = .tup [vT (bodyOf p l), vO 0] ∧ ([.lst .int ([] : List Int)] : List Blk) = [.lst .int (sizesOf p l)]) ∧ ((!decide (z5.1 = 0)) = false → z6.Has [(2, .v (vP 0)), (8, .v (vP 1)), (23, .v (vI z4)), (24, .v (vI 0))] [.cells (cPln p), .cells [.seq .shp p.shapes, .int .i64 p.root, .int .i64 p.deep, .int .i64 p.most, .seq .ev l, .int .i64 1, .own 2], .lst .int ([] : List Int)] ∧ ∀ q1, z6.inv q1 → (let z2 := (⟨p, l, 1, q1.sizes⟩ : Sz); let z3 := (q1.v : Int); ((decide (z3 < z4)) = true → (q1.sizes.length + List.length [(-1)] ≤ bigN) ∧ ((.v (vI (IntKind.i64.wrap (z3 + 1))) : S) = .v (vI (z3 + 1))) ∧ z6.Nxt q1 [(2, .v (vP 0)), (8, .v (vP 1)), (23, .v (vI z4)), (24, .v (vI (z3 + 1)))] [.cells (cPln p), .cells [.seq .shp p.shapes, .int .i64 p.root, .int .i64 p.deep, .int .i64 p.most, .seq .ev l, .int .i64 1, .own 2], .lst .int (q1.sizes ++ [(-1)])]) ∧ ((decide (z3 < z4)) = false → (Fun Try.prog 101 [vP 0, vI p.root] [.cells [.seq .shp p.shapes, .int .i64 p.root, .int .i64 p.deep, .int .i64 p.most, .seq .ev l, .int .i64 1, .own 1], .lst .int q1.sizes] (.v (vT (mT (z2).plan p.root (tl z2)))) [.cells (oSz6 1 (msgZ p.root z2)), .lst .int (msgZ p.root z2).sizes]) ∧ (∃ (x1 : Int), (msgZ p.root z2).sizes[0]? = some x1) ∧ ∀ (x1 : Int), ((msgZ p.root z2).sizes[0]? = some x1) → ((0 < ((List.length (msgZ p.root z2).sizes : Nat) : Int)) ∧ ((0 : Int) ≤ 0) ∧ ((msgZ p.root z2).sizes[0]? = some x1) ∧ (.tup [vT (mT (z2).plan p.root (tl z2)), vO 0] : S) = .tup [vT (bodyOf p l), vO 0] ∧ ([.lst .int (List.set (msgZ p.root z2).sizes 0 ((List.length (mT (z2).plan p.root (tl z2)) : Nat) : Int))] : List Blk) = [.lst .int (sizesOf p l)])))))) (by kernel_rfl) ?_
  refine ⟨(frameCode_i p _ (by omega) (hp1.2.2)), fun h1 => have q1 := bnot_t h1; have p1 := of_decide_eq_false q1; ?_, fun h1 => have q1 := bnot_f h1; have p1 := of_decide_eq_true q1; ?_⟩
  refine ⟨(congrArg S.tup (consE (congrArg V.c (congrArg C.str ?_)) rfl)), (consE (congrArg (Blk.lst .int) ?_) rfl)⟩
  rotate_left 2
  have hfc := p1
  refine ⟨has_of (j := (⟨([] : List Int), 0⟩ : sized_i_V0)) (by first | rfl | simp) rfl (by dsimp only [sized_i_F0]; exact ⟨by omega, rfl⟩), fun (q1 : sized_i_V0) hq_q1 => ?_⟩
  have hi_q1 : q1.v ≤ l.length ∧ q1.sizes = List.replicate q1.v (-1) := hq_q1
  obtain ⟨v1, v2⟩ := hi_q1
  have vl := congrArg List.length v2
  rw [List.length_replicate] at vl
  refine ⟨fun h2 => have p2 := of_decide_eq_true h2; ?_, fun h2 => have p2 := of_decide_eq_false h2; ?_⟩
  exact ⟨(by simp only [List.length_cons, List.length_nil]; omega), (as_i64 (by omega) (by omega)), nxt_of (j := (⟨q1.sizes ++ [(-1)], q1.v + 1⟩ : sized_i_V0)) (by first | rfl | simp) rfl (by dsimp only [sized_i_F0]; exact ⟨by omega, by rw [v2, List.replicate_succ']⟩) (by dsimp only [sized_i_F0]; omega)⟩
  have hz : (⟨p, l, 1, q1.sizes⟩ : Sz) = sz0 p l := by unfold sz0; rw [v2, show q1.v = l.length by omega]
  have hmb := frame_mb (p := p) (l := l) hfc hp1
  have hzm : MB p.root (⟨p, l, 1, q1.sizes⟩ : Sz) := by rw [hz]; exact hmb.1
  have hzl : List.length (msgZ p.root (⟨p, l, 1, q1.sizes⟩ : Sz)).sizes = l.length := by rw [hz]; exact msgZ_len hmb.1
  have hzt := bdT_mT_len hzm.bd (hzm.ev.drop _)
  refine ⟨(msg_z (⟨p, l, 1, q1.sizes⟩ : Sz) _ (hzm)), (ax_get (l := (msgZ p.root (⟨p, l, 1, q1.sizes⟩ : Sz)).sizes) (i := 0) (by omega)), fun x1 hx1 => ?_⟩
  refine ⟨(by omega), (by decide), hx1, (congrArg S.tup (consE (congrArg V.c (congrArg C.str ?_)) rfl)), (consE (congrArg (Blk.lst .int) ?_) rfl)⟩
  rotate_left 2
  all_goals first | (simp_all [bodyOf, sizesOf]; done) | (grind [bodyOf, sizesOf])
theorem bodyOf_s (p : Pln) (l : List Ev) (hp1 : EvsB l) : Fun Try.prog 94 [.agg (cPln p), .c (.seq .ev l)] [] (.v (vT (bodyOf p l))) [] := by
  have hN : bigN = 274877906944 := rfl
  have hvl := hp1.1
  refine fun_ofw Try.func94 (by kernel_rfl) (by kernel_rfl) (w := let z1 := (l.length : Int); let z2 := List.drop 1 (List.take (Int.toNat (z1 - 1)) l); let z3 := frameCode p l; let z4 := (.v (vI (IntKind.i64.wrap (z1 - 1))) : S) = .v (vI (z1 - 1)); let z5 := vT (mT p p.root z2); (.seg [.call [] (.tup [vI z3.1, vI z3.2]) []] (.br (.leaf () []) (.seg [.ord (os 10 [8]) [], .as 21 (.v (vI (z1 - 1))), .call [] (.v z5) []] (.leaf () []))), (Fun Try.prog 52 [.agg (cPln p), .c (.seq .ev l)] [] (.tup [vI z3.1, vI z3.2]) []) ∧ ((!decide (z3.1 = 0)) = true → (.v (vT []) : S) = .v (vT (bodyOf p l)) ∧ ([] : List Blk) = []) ∧ ((!decide (z3.1 = 0)) = false → z4 ∧ z4 ∧ (z1 - 1 ≤ z1) ∧ ((1 : Int) ≤ z1 - 1) ∧ ((0 : Int) ≤ 1) ∧ (z1 - 1 ≤ z1) ∧ ((1 : Int) ≤ z1 - 1) ∧ ((0 : Int) ≤ 1) ∧ (Fun Try.prog 99 [.agg (cPln p), vI p.root, .c (.seq .ev z2)] [] (.v z5) []) ∧ (.v z5 : S) = .v (vT (bodyOf p l)) ∧ ([] : List Blk) = []))) (by kernel_rfl) ?_
  refine ⟨(frameCode_s p _ (by omega) (hp1.2.2)), fun h1 => have q1 := bnot_t h1; have p1 := of_decide_eq_false q1; ?_, fun h1 => have q1 := bnot_f h1; have p1 := of_decide_eq_true q1; ?_⟩
  refine ⟨(congrArg S.v (congrArg V.c (congrArg C.str ?_))), rfl⟩
  rotate_left
  have hc := bodyOf_cut (p := p) (l := l) (by omega) hp1
  refine ⟨(as_i64 (by omega) (by omega)), (as_i64 (by omega) (by omega)), (by omega), (by omega), (by decide), (by omega), (by omega), (by decide), (body_z p _ _ (hc.1) ((hp1.take _).drop _) (hc.2.2.2)), (congrArg S.v (congrArg V.c (congrArg C.str ?_))), rfl⟩
  rotate_left
  all_goals first | (exact hc.2.1.symm) | (simp_all [bodyOf]; done) | (grind [bodyOf])
theorem frameSize_s (p : Pln) (l : List Ev) (hp1 : EvsB l) : Fun Try.prog 53 [.agg (cPln p), .c (.seq .ev l)] [] (.v (vI ((List.length (bodyOf p l) : Nat) : Int))) [] := by
  have hN : bigN = 274877906944 := rfl
  refine fun_ofw Try.func53 (by kernel_rfl) (by kernel_rfl) (w := let z1 := vI ((List.length (bodyOf p l) : Nat) : Int); (.seg [.call [] (.v (vT (bodyOf p l))) []] (.leaf () []), (Fun Try.prog 94 [.agg (cPln p), .c (.seq .ev l)] [] (.v (vT (bodyOf p l))) []) ∧ (.v z1 : S) = .v z1 ∧ ([] : List Blk) = [])) (by kernel_rfl) ?_
  exact ⟨(bodyOf_s p _ (by omega)), rfl, rfl⟩
end Go.Proofs.Ytecljjcmjongfaa.Ax
