/- Chunks of an input. What the laws do with texts. The law FeedAll. Opening what the laws are handed. -/
import Derived.Test.YtpchkcpcdbdhdaaGreatKFeedAll7
import Derived.Test.YtpchkcpcdbdhdaaGreatKFeedAll2
import Derived.Test.YtpchkcpcdbdhdaaGreatKFeedAll3
import Derived.Test.YtpchkcpcdbdhdaaGreatKFeedAll1
import Derived.Test.YtpchkcpcdbdhdaaGreatKB4
set_option linter.unusedSimpArgs false
set_option linter.unusedVariables false
namespace Go.Proofs.YtpchkcpcdbdhdaaGreat.Ax
open Go.RowKit
structure feedAll_i_V0 where
 next : Dcd
 out : List Ev
 v : Nat
def feedAll_i_F0 (d : Dcd) (l : List (List UInt8)) : Fam := ⟨feedAll_i_V0, fun q1 => [(4, .v (vP 0)), (6, .v (vP 1)), (7, .v (vO 4)), (15, .v (.c (.seq .str l))), (16, .v (vI (l.length : Int))), (17, .v (vI (q1.v : Int)))], fun q1 => [.cells [.nil, .int .i64 0, .int .i64 0, .int .i64 0, .int .i64 0, .nil, .int .u64 0, .int .i64 0, .int .i64 0, .int .i64 0, .int .i64 0, .int .i64 0, .bool false, .bool false, .int .i64 0, .int .i64 0, .int .i64 0, .int .i64 0, .int .i64 0, .int .i64 0, .int .i64 0, .int .i64 0, .int .u64 0, .int .i64 0, .str [], .int .i64 0, .int .i64 0], .cells (oDcd0_5 2 3 q1.next), .tree q1.next.plan.shapes, .lst .lev q1.next.stack, .lst .ev q1.out], fun q1 => q1.v ≤ l.length ∧ chunksM ⟨q1.next, q1.out⟩ (List.drop q1.v l) = chunksM ⟨d, []⟩ l ∧ (q1.next).plan = d.plan ∧ List.length (q1.next).stack ≤ 1048576 ∧ ((0 : Int) ≤ (q1.next).scan.bits ∧ (q1.next).scan.bits ≤ 18446744073709551615) ∧ q1.out.length + 14 * bsum (List.drop q1.v l) ≤ 14 * bsum l, fun q1 => l.length - q1.v⟩
theorem feedAll_i (d : Dcd) (l : List (List UInt8)) (hp1 : List.length (d).plan.shapes ≤ 1048576) (hp2 : ∀ e ∈ (d).plan.shapes, e.fields.length ≤ 1048576) (hp3 : List.length (d).stack ≤ 1048576) (hp4 : (0 : Int) ≤ (d).scan.bits ∧ (d).scan.bits ≤ 18446744073709551615) (hp5 : l.length ≤ 1048576) (hp6 : bsum l ≤ 1048576) : Fun Tryz.prog 22 [.agg (cDcd d), .c (.seq .str l)] [] (.tup [.agg (oDcd0_5 0 1 (chunksM ⟨d, []⟩ l).d), vO 2]) [.tree (chunksM ⟨d, []⟩ l).d.plan.shapes, .lst .lev (chunksM ⟨d, []⟩ l).d.stack, .lst .ev (chunksM ⟨d, []⟩ l).out] := by
 have hN : bigN = 274877906944 := rfl
 refine fun_ofw Tryz.func22 (by kernel_rfl) (by kernel_rfl) (w := let zi : Int → C := .int .i64; let z4 : List C := [.nil, zi 0, zi 0, zi 0, zi 0, .nil, .int .u64 0, zi 0, zi 0, zi 0, zi 0, zi 0, .bool false, .bool false, zi 0, zi 0, zi 0, zi 0, zi 0, zi 0, zi 0, zi 0, .int .u64 0, zi 0, .str [], zi 0, zi 0]; let z5 := (l.length : Int); let z6 := chunksM ⟨d, []⟩ l; let z7 := feedAll_i_F0 d l; (.seg [.call [] (.v (.agg (oDcd0_5 0 1 d))) [.tree d.plan.shapes, .lst .lev d.stack], .ty .ev, .at 0, .keep [4, 6, 7, 15, 16, 17], .sel [1, 5, 2, 3, 4]] (.loop z7 fun q1 => .br (.intro (fun (x1 : List UInt8) => l[q1.v]? = some x1) fun x1 => let z1 := chunkM q1.next x1; .seg [.el .str x1, .call [] (.tup [.agg (oDcd0_5 0 1 z1.d), vO 2]) [.tree z1.d.plan.shapes, .lst .lev z1.d.stack, .lst .ev z1.out], .tree (fr (.one 3 (.one 4 (.first 5 (.done)))) 0 3) 4 [4, 7], .ty .ev, .as 31 (.v (vI ((q1.v : Int) + 1))), .at 0, .keep [4, 6, 7, 15, 16, 17], .sel [0, 1, 5, 6, 9]] (.next)) (.leaf () [2, 3, 4])), (Fun Tryz.prog 70 [.agg (cDcd d)] [] (.v (.agg (oDcd0_5 0 1 d))) [.tree d.plan.shapes, .lst .lev d.stack]) ∧ z7.Has [(4, .v (vP 0)), (6, .v (vP 1)), (7, .v (vO 4)), (15, .v (.c (.seq .str l))), (16, .v (vI z5)), (17, .v (vI 0))] [.cells z4, .cells (oDcd0_5 2 3 d), .tree d.plan.shapes, .lst .lev d.stack, .lst .ev ([] : List Ev)] ∧ ∀ q1, z7.inv q1 → (let z3 := (q1.v : Int); ((decide (z3 < z5)) = true → (∃ (x1 : List UInt8), l[q1.v]? = some x1) ∧ ∀ (x1 : List UInt8), (l[q1.v]? = some x1) → (let z2 := chunkM q1.next x1; (l[q1.v]? = some x1) ∧ ((0 : Int) ≤ z3) ∧ (Fun Tryz.prog 71 [.agg (cDcd q1.next), vT x1] [] (.tup [.agg (oDcd0_5 0 1 z2.d), vO 2]) [.tree z2.d.plan.shapes, .lst .lev z2.d.stack, .lst .ev z2.out]) ∧ (q1.out.length + z2.out.length ≤ bigN) ∧ ((.v (vI (IntKind.i64.wrap (z3 + 1))) : S) = .v (vI (z3 + 1))) ∧ z7.Nxt q1 [(4, .v (vP 0)), (6, .v (vP 1)), (7, .v (vO 4)), (15, .v (.c (.seq .str l))), (16, .v (vI z5)), (17, .v (vI (z3 + 1)))] [.cells z4, .cells (oDcd0_5 2 3 z2.d), .tree z2.d.plan.shapes, .lst .lev z2.d.stack, .lst .ev (q1.out ++ z2.out)])) ∧ ((decide (z3 < z5)) = false → (.tup [.agg (oDcd0_5 0 1 q1.next), vO 2] : S) = .tup [.agg (oDcd0_5 0 1 z6.d), vO 2] ∧ ([.tree q1.next.plan.shapes, .lst .lev q1.next.stack, .lst .ev q1.out] : List Blk) = [.tree z6.d.plan.shapes, .lst .lev z6.d.stack, .lst .ev z6.out])))) (by kernel_rfl) ?_
 refine ⟨(copyDec_i d (by omega) ((by first | (exact hsf) | (exact hp2))) (by omega)), has_of (j := (⟨d, ([] : List Ev), 0⟩ : feedAll_i_V0)) (by first | rfl | simp) rfl (by dsimp only [feedAll_i_F0]; exact ⟨by omega, rfl, rfl, hp3, hp4, by simp⟩), fun (q1 : feedAll_i_V0) hq_q1 => ?_⟩
 have hi_q1 : q1.v ≤ l.length ∧ chunksM ⟨q1.next, q1.out⟩ (List.drop q1.v l) = chunksM ⟨d, []⟩ l ∧ (q1.next).plan = d.plan ∧ List.length (q1.next).stack ≤ 1048576 ∧ ((0 : Int) ≤ (q1.next).scan.bits ∧ (q1.next).scan.bits ≤ 18446744073709551615) ∧ q1.out.length + 14 * bsum (List.drop q1.v l) ≤ 14 * bsum l := hq_q1
 obtain ⟨v1, v2, v3, v4, v5, v6⟩ := hi_q1
 have hsl : q1.next.plan.shapes.length = d.plan.shapes.length := by rw [v3]
 have hsf : ∀ e ∈ q1.next.plan.shapes, e.fields.length ≤ 1048576 := by rw [v3]; exact hp2
 have hbd := bsum_drop l q1.v
 refine dsp (fun h1 p1 => ?_) fun h1 p1 => ?_
 refine ⟨(ax_get (l := l) (i := q1.v) (by omega)), fun x1 hx1 => ?_⟩
 rw [drop_el hx1, chunksM_cons] at v2
 have hdb : bsum (List.drop q1.v l) = x1.length + bsum (List.drop (q1.v + 1) l) := by rw [drop_el hx1, bsum]
 have hl := chunk_lim q1.next x1
 exact ⟨hx1, (by omega), (feed_i q1.next _ (by omega) ((by first | (exact hsf) | (exact hp2))) (by omega) (by omega) (by omega)), (by omega), (as_i64 (by omega) (by omega)), nxt_of (j := (⟨(chunkM q1.next x1).d, q1.out ++ (chunkM q1.next x1).out, q1.v + 1⟩ : feedAll_i_V0)) (by first | rfl | simp) rfl (by dsimp only [feedAll_i_F0]; exact ⟨by omega, v2, hl.1.trans v3, by omega, hl.2.2.2 v5, by rw [List.length_append]; omega⟩) (by dsimp only [feedAll_i_F0]; omega)⟩
 rw [List.drop_eq_nil_of_le (by omega), chunksM_nil] at v2
 refine have hm1 : (chunksM ⟨d, []⟩ l).d = q1.next := ?_; ?_
 rotate_left
 refine have hm2 : (chunksM ⟨d, []⟩ l).out = q1.out := ?_; ?_
 rotate_left
 exact ⟨(by rw [hm1] <;> rfl), (by rw [hm1, hm2] <;> rfl)⟩
 all_goals first | ((rw [← v2]; done)) | (rfl) | (grind)
structure feedAll_s_V0 where
 d : Dcd
 out : List Ev
 i : Nat
def feedAll_s_F0 (d : Dcd) (l : List (List UInt8)) : Fam := ⟨feedAll_s_V0, fun q1 => [(1, .v (.c (.seq .str l))), (2, .v (vP 0)), (4, .v (vP 3)), (6, .v (vO 4)), (7, .v (vI (q1.i : Int)))], fun q1 => [.cells (oDcd0_5 1 2 q1.d), .tree q1.d.plan.shapes, .lst .lev q1.d.stack, .cells [.nil, .int .i64 0, .int .i64 0, .int .i64 0, .int .i64 0, .nil, .int .u64 0, .int .i64 0, .int .i64 0, .int .i64 0, .int .i64 0, .int .i64 0, .bool false, .bool false, .int .i64 0, .int .i64 0, .int .i64 0, .int .i64 0, .int .i64 0, .int .i64 0, .int .i64 0, .int .i64 0, .int .u64 0, .int .i64 0, .str [], .int .i64 0, .int .i64 0], .lst .ev q1.out], fun q1 => q1.i ≤ l.length ∧ chunksM ⟨q1.d, q1.out⟩ (List.drop q1.i l) = chunksM ⟨d, []⟩ l ∧ (q1.d).plan = d.plan ∧ List.length (q1.d).stack ≤ 1048576 ∧ ((0 : Int) ≤ (q1.d).scan.bits ∧ (q1.d).scan.bits ≤ 18446744073709551615) ∧ q1.out.length + 14 * bsum (List.drop q1.i l) ≤ 14 * bsum l, fun q1 => l.length - q1.i⟩
theorem feedAll_s (d : Dcd) (l : List (List UInt8)) (hp1 : List.length (d).plan.shapes ≤ 1048576) (hp2 : ∀ e ∈ (d).plan.shapes, e.fields.length ≤ 1048576) (hp3 : List.length (d).stack ≤ 1048576) (hp4 : (0 : Int) ≤ (d).scan.bits ∧ (d).scan.bits ≤ 18446744073709551615) (hp5 : l.length ≤ 1048576) (hp6 : bsum l ≤ 1048576) : Fun Tryz.prog 19 [.agg (cDcd d), .c (.seq .str l)] [] (.tup [.agg (oDcd0_5 0 1 (chunksM ⟨d, []⟩ l).d), vO 2]) [.tree (chunksM ⟨d, []⟩ l).d.plan.shapes, .lst .lev (chunksM ⟨d, []⟩ l).d.stack, .lst .ev (chunksM ⟨d, []⟩ l).out] := by
 have hN : bigN = 274877906944 := rfl
 refine fun_ofw Tryz.func19 (by kernel_rfl) (by kernel_rfl) (w := let zi : Int → C := .int .i64; let z5 : List C := [.nil, zi 0, zi 0, zi 0, zi 0, .nil, .int .u64 0, zi 0, zi 0, zi 0, zi 0, zi 0, .bool false, .bool false, zi 0, zi 0, zi 0, zi 0, zi 0, zi 0, zi 0, zi 0, .int .u64 0, zi 0, .str [], zi 0, zi 0]; let z6 := chunksM ⟨d, []⟩ l; let z7 := feedAll_s_F0 d l; (.seg [.call [] (.v (.agg (oDcd0_5 0 1 d))) [.tree d.plan.shapes, .lst .lev d.stack], .ty .ev, .at 0, .keep [1, 2, 4, 6, 7], .sel [0, 2, 3, 1, 4]] (.loop z7 fun q1 => .br (.intro (fun (x1 : List UInt8) => l[q1.i]? = some x1) fun x1 => let z1 := chunkM q1.d x1; .seg [.tree (fr (.two 5 (fr (.one 9 (.one 10 (.first 11 (.done)))) 6 3) 9 (.one 5 (fr (.one 10 (.first 11 (.done))) 6 3))) 0 5) 12 [], .el .str x1, .call [] (.tup [.agg (oDcd0_5 0 1 z1.d), vO 2]) [.tree z1.d.plan.shapes, .lst .lev z1.d.stack, .lst .ev z1.out], .at 0, .keep [1, 2, 4, 6, 7, 8, 9], .sel [0, 1, 2, 3, 4, 8, 5, 6, 7], .call [] (.tup [.agg (oDcd0_5 0 1 z1.d), vO 2]) [.tree z1.d.plan.shapes, .lst .lev z1.d.stack, .lst .ev z1.out], .at 0, .keep [1, 2, 4, 6, 7, 8, 9], .sel [0, 1, 2, 3, 4, 5, 6, 7, 8], .ty .ev, .as 18 (.v (vI ((q1.i : Int) + 1))), .at 0, .keep [1, 2, 4, 6, 7], .sel [0, 6, 7, 3, 9]] (.next)) (.leaf () [1, 2, 4])), (Fun Tryz.prog 63 [.agg (cDcd d)] [] (.v (.agg (oDcd0_5 0 1 d))) [.tree d.plan.shapes, .lst .lev d.stack]) ∧ z7.Has [(1, .v (.c (.seq .str l))), (2, .v (vP 0)), (4, .v (vP 3)), (6, .v (vO 4)), (7, .v (vI 0))] [.cells (oDcd0_5 1 2 d), .tree d.plan.shapes, .lst .lev d.stack, .cells z5, .lst .ev ([] : List Ev)] ∧ ∀ q1, z7.inv q1 → (let z4 := (q1.i : Int); ((decide (z4 < (l.length : Int))) = true → (∃ (x1 : List UInt8), l[q1.i]? = some x1) ∧ ∀ (x1 : List UInt8), (l[q1.i]? = some x1) → (let z3 := chunkM q1.d x1; let z2 : List Blk := [.cells (oDcd0_5 1 2 q1.d), .tree q1.d.plan.shapes, .lst .lev q1.d.stack, .cells z5, .lst .ev q1.out, .cells (oDcd0_5 6 7 z3.d), .tree z3.d.plan.shapes, .lst .lev z3.d.stack, .lst .ev z3.out]; (l[q1.i]? = some x1) ∧ ((0 : Int) ≤ z4) ∧ (l[q1.i]? = some x1) ∧ ((0 : Int) ≤ z4) ∧ (Fun Tryz.prog 64 [.agg (cDcd q1.d), vT x1] [] (.tup [.agg (oDcd0_5 0 1 z3.d), vO 2]) [.tree z3.d.plan.shapes, .lst .lev z3.d.stack, .lst .ev z3.out]) ∧ (Fun Tryz.prog 64 [.agg (cDcd q1.d), vT x1] [] (.tup [.agg (oDcd0_5 0 1 z3.d), vO 2]) [.tree z3.d.plan.shapes, .lst .lev z3.d.stack, .lst .ev z3.out]) ∧ ((z2 : List Blk) = z2) ∧ (([(1, .v (.c (.seq .str l))), (2, .v (vP 0)), (4, .v (vP 3)), (6, .v (vO 4)), (7, .v (vI z4)), (8, .v (vP 5)), (9, .v (vO 8))] : List (Nat × S)) = [(1, .v (.c (.seq .str l))), (2, .v (vP 0)), (4, .v (vP 3)), (6, .v (vO 4)), (7, .v (vI z4)), (8, .v (vP 5)), (9, .v (vO 8))]) ∧ (q1.out.length + z3.out.length ≤ bigN) ∧ ((.v (vI (IntKind.i64.wrap (z4 + 1))) : S) = .v (vI (z4 + 1))) ∧ z7.Nxt q1 [(1, .v (.c (.seq .str l))), (2, .v (vP 0)), (4, .v (vP 3)), (6, .v (vO 4)), (7, .v (vI (z4 + 1)))] [.cells (oDcd0_5 1 2 z3.d), .tree z3.d.plan.shapes, .lst .lev z3.d.stack, .cells z5, .lst .ev (q1.out ++ z3.out)])) ∧ ((decide (z4 < (l.length : Int))) = false → (.tup [.agg (oDcd0_5 0 1 q1.d), vO 2] : S) = .tup [.agg (oDcd0_5 0 1 z6.d), vO 2] ∧ ([.tree q1.d.plan.shapes, .lst .lev q1.d.stack, .lst .ev q1.out] : List Blk) = [.tree z6.d.plan.shapes, .lst .lev z6.d.stack, .lst .ev z6.out])))) (by kernel_rfl) ?_
 refine ⟨(copyDec_s d (by omega) ((by first | (exact hsf) | (exact hp2))) (by omega)), has_of (j := (⟨d, ([] : List Ev), 0⟩ : feedAll_s_V0)) (by first | rfl | simp) rfl (by dsimp only [feedAll_s_F0]; exact ⟨by omega, rfl, rfl, hp3, hp4, by simp⟩), fun (q1 : feedAll_s_V0) hq_q1 => ?_⟩
 have hi_q1 : q1.i ≤ l.length ∧ chunksM ⟨q1.d, q1.out⟩ (List.drop q1.i l) = chunksM ⟨d, []⟩ l ∧ (q1.d).plan = d.plan ∧ List.length (q1.d).stack ≤ 1048576 ∧ ((0 : Int) ≤ (q1.d).scan.bits ∧ (q1.d).scan.bits ≤ 18446744073709551615) ∧ q1.out.length + 14 * bsum (List.drop q1.i l) ≤ 14 * bsum l := hq_q1
 obtain ⟨v1, v2, v3, v4, v5, v6⟩ := hi_q1
 have hsl : q1.d.plan.shapes.length = d.plan.shapes.length := by rw [v3]
 have hsf : ∀ e ∈ q1.d.plan.shapes, e.fields.length ≤ 1048576 := by rw [v3]; exact hp2
 have hbd := bsum_drop l q1.i
 refine dsp (fun h1 p1 => ?_) fun h1 p1 => ?_
 refine ⟨(ax_get (l := l) (i := q1.i) (by omega)), fun x1 hx1 => ?_⟩
 rw [drop_el hx1, chunksM_cons] at v2
 have hdb : bsum (List.drop q1.i l) = x1.length + bsum (List.drop (q1.i + 1) l) := by rw [drop_el hx1, bsum]
 have hl := chunk_lim q1.d x1
 exact ⟨hx1, (by omega), hx1, (by omega), (feed_s q1.d _ (by omega) ((by first | (exact hsf) | (exact hp2))) (by omega) (by omega) (by omega)), (feed_s q1.d _ (by omega) ((by first | (exact hsf) | (exact hp2))) (by omega) (by omega) (by omega)), rfl, rfl, (by omega), (as_i64 (by omega) (by omega)), nxt_of (j := (⟨(chunkM q1.d x1).d, q1.out ++ (chunkM q1.d x1).out, q1.i + 1⟩ : feedAll_s_V0)) (by first | rfl | simp) rfl (by dsimp only [feedAll_s_F0]; exact ⟨by omega, v2, hl.1.trans v3, by omega, hl.2.2.2 v5, by rw [List.length_append]; omega⟩) (by dsimp only [feedAll_s_F0]; omega)⟩
 rw [List.drop_eq_nil_of_le (by omega), chunksM_nil] at v2
 refine have hm1 : (chunksM ⟨d, []⟩ l).d = q1.d := ?_; ?_
 rotate_left
 refine have hm2 : (chunksM ⟨d, []⟩ l).out = q1.out := ?_; ?_
 rotate_left
 exact ⟨(by rw [hm1] <;> rfl), (by rw [hm1, hm2] <;> rfl)⟩
 all_goals first | ((rw [← v2]; done)) | (rfl) | (grind)
def strF (left : Int) : List (List UInt8) → Int
 | [] => left
 | c :: r => if left - (c.length : Int) < 0 then -1 else strF (left - (c.length : Int)) r
def szStrS (left : Int) (l : List (List UInt8)) : Int := if left - (l.length : Int) < 0 then -1 else strF (left - (l.length : Int)) l
theorem strF_b : ∀ {l : List (List UInt8)} {left : Int}, 0 ≤ left → -1 ≤ strF left l ∧ strF left l ≤ left ∧ (0 ≤ strF left l → (bsum l : Int) ≤ left)
 | [], left, h => ⟨by show -1 ≤ left; omega, Int.le_refl _, fun _ => h⟩
 | c :: r, left, h => by
  rw [strF, bsum]
  split
  ·exact ⟨by omega, by omega, fun h => by omega⟩
  ·have := strF_b (l := r) (left := left - (c.length : Int)) (by omega)
   exact ⟨this.1, by omega, fun h => by have := this.2.2 h; omega⟩
theorem szStrS_b {l : List (List UInt8)} {left : Int} (h : 0 ≤ left) (h2 : left ≤ 1048576) : -1 ≤ szStrS left l ∧ szStrS left l ≤ left ∧ (0 ≤ szStrS left l → l.length ≤ 1048576 ∧ bsum l ≤ 1048576) := by
 unfold szStrS
 split
 ·exact ⟨by omega, by omega, fun h => by omega⟩
 ·have := strF_b (l := l) (left := left - (l.length : Int)) (by omega)
  exact ⟨this.1, by omega, fun h => by have := this.2.2 h; omega⟩
structure eqStringS_ok_V0 where
 i : Nat
def eqStringS_ok_F0 (l : List (List UInt8)) : Fam := ⟨eqStringS_ok_V0, fun q1 => [(0, .v (.c (.seq .str l))), (1, .v (.c (.seq .str l))), (5, .v (vI (q1.i : Int)))], fun _ => [], fun q1 => q1.i ≤ l.length, fun q1 => l.length - q1.i⟩
theorem eqStringS_ok (l : List (List UInt8)) (hp1 : l.length ≤ bigN) : Fun Tryz.prog 25 [.c (.seq .str l), .c (.seq .str l)] [] (.v (vB true)) [] := by
 have hN : bigN = 274877906944 := rfl
 refine fun_ofw Tryz.func25 (by kernel_rfl) (by kernel_rfl) (w := let z3 := (l.length : Int); let z4 := eqStringS_ok_F0 l; (.seg [.br false, .at 0, .keep [0, 1, 5], .sel []] (.loop z4 fun q1 => .br (.intro (fun (x1 : List UInt8) => l[q1.i]? = some x1) fun x1 => .seg [.ord (os 9 []) [], .el .str x1, .el .str x1, .br false, .as 16 (.v (vI ((q1.i : Int) + 1))), .at 0, .keep [0, 1, 5], .sel []] (.next)) (.leaf () [])), ((!decide (z3 = z3)) = false) ∧ z4.Has [(0, .v (.c (.seq .str l))), (1, .v (.c (.seq .str l))), (5, .v (vI 0))] [] ∧ ∀ q1, z4.inv q1 → (let z2 := (q1.i : Int); ((decide (z2 < z3)) = true → (∃ (x1 : List UInt8), l[q1.i]? = some x1) ∧ ∀ (x1 : List UInt8), (l[q1.i]? = some x1) → (let z1 := l[q1.i]? = some x1; z1 ∧ ((0 : Int) ≤ z2) ∧ z1 ∧ ((0 : Int) ≤ z2) ∧ z1 ∧ ((0 : Int) ≤ z2) ∧ z1 ∧ ((0 : Int) ≤ z2) ∧ ((!decide (x1 = x1)) = false) ∧ ((.v (vI (IntKind.i64.wrap (z2 + 1))) : S) = .v (vI (z2 + 1))) ∧ z4.Nxt q1 [(0, .v (.c (.seq .str l))), (1, .v (.c (.seq .str l))), (5, .v (vI (z2 + 1)))] [])) ∧ ((decide (z2 < z3)) = false → (.v (vB true) : S) = .v (vB true) ∧ ([] : List Blk) = [])))) (by kernel_rfl) ?_
 refine ⟨(by simp), has_of (j := (⟨0⟩ : eqStringS_ok_V0)) (by first | rfl | simp) rfl (by dsimp only [eqStringS_ok_F0]; omega), fun (q1 : eqStringS_ok_V0) hq_q1 => ?_⟩
 have hi_q1 : q1.i ≤ l.length := hq_q1
 refine dsp (fun h1 p1 => ?_) fun h1 p1 => ?_
 refine ⟨(ax_get (l := l) (i := q1.i) (by omega)), fun x1 hx1 => ?_⟩
 exact ⟨hx1, (by omega), hx1, (by omega), hx1, (by omega), hx1, (by omega), (by simp), (as_i64 (by omega) (by omega)), nxt_of (j := (⟨q1.i + 1⟩ : eqStringS_ok_V0)) (by first | rfl | simp) rfl (by dsimp only [eqStringS_ok_F0]; omega) (by dsimp only [eqStringS_ok_F0]; omega)⟩
 exact ⟨rfl, rfl⟩
theorem markStringS_ok_l (n : Nat) (k : Int) (hp1 : (0 : Int) ≤ k ∧ k ≤ 1125899906842624) (hp2 : n ≤ bigN) (i : Nat) (m : List (List UInt8)) (hinv : i ≤ n ∧ m.length = n ∧ List.take i m = List.take i (markL mtext 1 k n)) : Sm Tryz.prog 20 1 (.loop (loopAt Tryz.f27 0)) [(0, .v (vO 0)), (1, .v (vI (k + 1 * (i : Int)))), (5, .v (vI (i : Int)))] [.lst .str m] (.ext 0) [(1, .v (vI (k + 1 * (n : Int))))] [.lst .str (markL mtext 1 k n)] := by
 refine Sm.loop (ι := Nat × List (List UInt8)) (fun (q_ : Nat × List (List UInt8)) => match q_ with | (i, m) => [(0, .v (vO 0)), (1, .v (vI (k + 1 * (i : Int)))), (5, .v (vI (i : Int)))]) (fun (q_ : Nat × List (List UInt8)) => match q_ with | (i, m) => [.lst .str m]) (fun (q_ : Nat × List (List UInt8)) => match q_ with | (i, m) => i ≤ n ∧ m.length = n ∧ List.take i m = List.take i (markL mtext 1 k n)) (fun (q_ : Nat × List (List UInt8)) => match q_ with | (i, m) => n - i) (by decide) ?_ (i, m) hinv
 clear hinv
 clear m i
 rintro ⟨i, m⟩ hinv
 dsimp only at hinv ⊢
 have hN : bigN = 274877906944 := rfl
 obtain ⟨hv1, hv2, hv3⟩ := hinv
 cases h1 : (decide ((i : Int) < (m.length : Int))) with
 | true =>
  have p1 := of_decide_eq_true h1
  obtain ⟨x1, hx1⟩ := ax_get (l := m) (i := i) (by omega)
  exact .inl ⟨(i + 1, List.set m i (mtext (k + 1 * (i : Int)))), (by dsimp only; exact ⟨by omega, by simp [hv2], fill_set hv3 (by rw [hv2, markL_len]) (markL_get (by omega))⟩), (by omega), (piece_sound (e := .nrm) (tm' := [(0, .v (vO 0)), (1, .v (vI (k + 1 * (i : Int) + 1))), (5, .v (vI ((i : Int) + 1)))]) (H' := [.lst .str (List.set m i (mtext (k + 1 * (i : Int))))]) (ds := [.br true, .call [] (.v (vT (mtext (k + 1 * (i : Int))))) [], .el .str x1, .as 18 (.v (vI (k + 1 * (i : Int) + 1))), .as 11 (.v (vI ((i : Int) + 1))), .at 0, .keep [0, 1, 5], .sel [0]]) (ob := [(.v (vI (IntKind.i64.wrap ((i : Int) + 1))) : S) = .v (vI ((i : Int) + 1)), (.v (vI (IntKind.i64.wrap ((k + 1 * (i : Int)) + 1))) : S) = .v (vI (k + 1 * (i : Int) + 1)), m[i]? = some x1, (0 : Int) ≤ (i : Int), (i : Int) < (m.length : Int), Fun Tryz.prog 77 [vI (k + 1 * (i : Int))] [] (.v (vT (mtext (k + 1 * (i : Int))))) [], (decide ((i : Int) < (m.length : Int))) = true]) (by kernel_rfl) ⟨as_i64 (by omega) (by omega), as_i64 (by omega) (by omega), hx1, by omega, by omega, markText_ok (k + 1 * (i : Int)) (by omega), h1, trivial⟩).to (by simp [vI, vO, vB, vT] <;> omega) (by simp [vI, vO, vB, vT] <;> omega)⟩
 | false =>
  have p1 := of_decide_eq_false h1
  exact .inr ((piece_sound (e := (.ext 0)) (tm' := [(1, .v (vI (k + 1 * (i : Int))))]) (H' := [.lst .str m]) (ds := [.br false, .at 0, .keep [1], .sel [0]]) (ob := [(decide ((i : Int) < (m.length : Int))) = false]) (by kernel_rfl) ⟨h1, trivial⟩).to (by first | rfl | (rw [fill_done hv3 (by rw [hv2, markL_len]) (by rw [markL_len]; omega)]) | (rw [show i = n by omega])) (by first | rfl | (rw [fill_done hv3 (by rw [hv2, markL_len]) (by rw [markL_len]; omega)]) | (rw [show i = n by omega])))
theorem markStringS_ok (m : List (List UInt8)) (k : Int) (hp1 : (0 : Int) ≤ k ∧ k ≤ 1125899906842624) (hp2 : m.length ≤ bigN) : Fun Tryz.prog 27 [vO 0, vI k] [.lst .str m] (.v (vI (k + 1 * (m.length : Int)))) [.lst .str (markL mtext 1 k (m.length))] := by
 have hN : bigN = 274877906944 := rfl
 refine ⟨callable_of Tryz.func27 (by kernel_rfl) (by kernel_rfl), ?_⟩
 exact (walk_sound Tryz.func27 (res := .v (vI (k + 1 * (m.length : Int)))) (L' := [.lst .str (markL mtext 1 k (m.length))]) (ds := [.at 0, .keep [0, 1, 5], .sel [0], .loop (.ext 0) [(1, .v (vI (k + 1 * (m.length : Int))))] [.lst .str (markL mtext 1 k (m.length))]]) (σ := [0]) (ob := [Sm Tryz.prog 20 1 (.loop (loopAt Tryz.f27 0)) [(0, .v (vO 0)), (1, .v (vI k)), (5, .v (vI 0))] [.lst .str m] (.ext 0) [(1, .v (vI (k + 1 * (m.length : Int))))] [.lst .str (markL mtext 1 k (m.length))]]) (by kernel_rfl) ⟨Sm.fr (markStringS_ok_l (m.length) k hp1 hp2 0 m (⟨by simp, by simp, by simp⟩)) (by simp) (by rfl), trivial⟩).to (by simp) (by simp)
structure toStringS_ok_V0 where
 out : List (List UInt8)
 i : Nat
def toStringS_ok_F0 (l : List (List UInt8)) : Fam := ⟨toStringS_ok_V0, fun q1 => [(0, .v (.c (.seq .str l))), (3, .v (vO 0)), (4, .v (vI (q1.i : Int)))], fun q1 => [.lst .str q1.out], fun q1 => q1.i ≤ l.length ∧ q1.out.length = l.length ∧ List.take q1.i q1.out = List.take q1.i l, fun q1 => l.length - q1.i⟩
theorem toStringS_ok (l : List (List UInt8)) (hp1 : l.length ≤ 1048576) : Fun Tryz.prog 21 [.c (.seq .str l)] [] (.v (vO 0)) [.lst .str l] := by
 have hN : bigN = 274877906944 := rfl
 refine fun_ofw Tryz.func21 (by kernel_rfl) (by kernel_rfl) (w := let z2 := (l.length : Int); let z3 := toStringS_ok_F0 l; (.seg [.ty .str, .at 0, .keep [0, 3, 4], .sel [0]] (.loop z3 fun q1 => .br (.intro (fun (x1 : List UInt8) => l[q1.i]? = some x1) fun x1 => .seg [.el .str x1] (.intro (fun (x2 : List UInt8) => q1.out[q1.i]? = some x2) fun x2 => .seg [.el .str x2, .as 13 (.v (vI ((q1.i : Int) + 1))), .at 0, .keep [0, 3, 4], .sel [0]] (.next))) (.leaf () [0])), (z2 ≤ 9223372036854775807) ∧ (((16 : Nat) : Int) * z2 ≤ 281474976710656) ∧ (z2 ≤ z2) ∧ ((0 : Int) ≤ z2) ∧ z3.Has [(0, .v (.c (.seq .str l))), (3, .v (vO 0)), (4, .v (vI 0))] [.lst .str (List.replicate (l.length) [])] ∧ ∀ q1, z3.inv q1 → (let z1 := (q1.i : Int); ((decide (z1 < z2)) = true → (∃ (x1 : List UInt8), l[q1.i]? = some x1) ∧ ∀ (x1 : List UInt8), (l[q1.i]? = some x1) → ((l[q1.i]? = some x1) ∧ ((0 : Int) ≤ z1) ∧ (∃ (x2 : List UInt8), q1.out[q1.i]? = some x2) ∧ ∀ (x2 : List UInt8), (q1.out[q1.i]? = some x2) → ((z1 < (q1.out.length : Int)) ∧ ((0 : Int) ≤ z1) ∧ (q1.out[q1.i]? = some x2) ∧ ((.v (vI (IntKind.i64.wrap (z1 + 1))) : S) = .v (vI (z1 + 1))) ∧ z3.Nxt q1 [(0, .v (.c (.seq .str l))), (3, .v (vO 0)), (4, .v (vI (z1 + 1)))] [.lst .str (List.set q1.out q1.i x1)]))) ∧ ((decide (z1 < z2)) = false → (.v (vO 0) : S) = .v (vO 0) ∧ ([.lst .str q1.out] : List Blk) = [.lst .str l])))) (by kernel_rfl) ?_
 refine ⟨(by omega), (by omega), (by omega), (by omega), has_of (j := (⟨List.replicate (l.length) [], 0⟩ : toStringS_ok_V0)) (by first | rfl | simp) rfl (by dsimp only [toStringS_ok_F0]; exact ⟨by omega, by simp, by simp⟩), fun (q1 : toStringS_ok_V0) hq_q1 => ?_⟩
 have hi_q1 : q1.i ≤ l.length ∧ q1.out.length = l.length ∧ List.take q1.i q1.out = List.take q1.i l := hq_q1
 obtain ⟨v1, v2, v3⟩ := hi_q1
 refine dsp (fun h1 p1 => ?_) fun h1 p1 => ?_
 refine ⟨(ax_get (l := l) (i := q1.i) (by omega)), fun x1 hx1 => ?_⟩
 refine ⟨hx1, (by omega), (ax_get (l := q1.out) (i := q1.i) (by omega)), fun x2 hx2 => ?_⟩
 exact ⟨(by omega), (by omega), hx2, (as_i64 (by omega) (by omega)), nxt_of (j := (⟨List.set q1.out q1.i x1, q1.i + 1⟩ : toStringS_ok_V0)) (by first | rfl | simp) rfl (by dsimp only [toStringS_ok_F0]; exact ⟨by omega, by simp [v2], fill_set v3 v2 hx1⟩) (by dsimp only [toStringS_ok_F0]; omega)⟩
 refine ⟨rfl, (consE (congrArg (Blk.lst .str) ?_) rfl)⟩
 rotate_left
 all_goals exact fill_done v3 v2 (by omega)
structure szStrS_ok_V0 where
 left : Int
 i : Nat
def szStrS_ok_F0 (l : List (List UInt8)) (left : Int) : Fam := ⟨szStrS_ok_V0, fun q1 => [(0, .v (.c (.seq .str l))), (1, .v (vI q1.left)), (5, .v (vI (q1.i : Int)))], fun _ => [], fun q1 => q1.i ≤ l.length ∧ strF q1.left (List.drop q1.i l) = strF (left - (l.length : Int)) l ∧ (0 : Int) ≤ q1.left ∧ q1.left ≤ 1048576, fun q1 => l.length - q1.i⟩
theorem szStrS_ok (l : List (List UInt8)) (left : Int) (hp1 : (0 : Int) ≤ left ∧ left ≤ 1048576) (hp2 : (l.length : Int) ≤ 9223372036854775807) (hp3 : ∀ c ∈ l, (c.length : Int) ≤ 9223372036854775807) : Fun Tryz.prog 18 [.c (.seq .str l), vI left] [] (.v (vI (szStrS left l))) [] := by
 have hN : bigN = 274877906944 := rfl
 refine fun_ofw Tryz.func18 (by kernel_rfl) (by kernel_rfl) (w := let z3 := (l.length : Int); let z4 := szStrS_ok_F0 l left; let z5 := vI (szStrS left l); (.seg [.as 9 (.v (vI (left - z3)))] (.br (.leaf () []) (.seg [.at 0, .keep [0, 1, 5], .sel []] (.loop z4 fun q1 => .br (.intro (fun (x1 : List UInt8) => l[q1.i]? = some x1) fun x1 => .seg [.el .str x1, .as 24 (.v (vI (q1.left - (x1.length : Int))))] (.br (.leaf () []) (.seg [.as 17 (.v (vI ((q1.i : Int) + 1))), .at 0, .keep [0, 1, 5], .sel []] (.next)))) (.leaf () [])))), ((.v (vI (IntKind.i64.wrap (left - z3))) : S) = .v (vI (left - z3))) ∧ ((decide (left - z3 < 0)) = true → (.v (vI (-1)) : S) = .v z5 ∧ ([] : List Blk) = []) ∧ ((decide (left - z3 < 0)) = false → z4.Has [(0, .v (.c (.seq .str l))), (1, .v (vI (left - z3))), (5, .v (vI 0))] [] ∧ ∀ q1, z4.inv q1 → (let z2 := (q1.i : Int); ((decide (z2 < z3)) = true → (∃ (x1 : List UInt8), l[q1.i]? = some x1) ∧ ∀ (x1 : List UInt8), (l[q1.i]? = some x1) → (let z1 := (x1.length : Int); (l[q1.i]? = some x1) ∧ ((0 : Int) ≤ z2) ∧ ((.v (vI (IntKind.i64.wrap (q1.left - z1))) : S) = .v (vI (q1.left - z1))) ∧ ((decide (q1.left - z1 < 0)) = true → (.v (vI (-1)) : S) = .v z5 ∧ ([] : List Blk) = []) ∧ ((decide (q1.left - z1 < 0)) = false → ((.v (vI (IntKind.i64.wrap (z2 + 1))) : S) = .v (vI (z2 + 1))) ∧ z4.Nxt q1 [(0, .v (.c (.seq .str l))), (1, .v (vI (q1.left - z1))), (5, .v (vI (z2 + 1)))] []))) ∧ ((decide (z2 < z3)) = false → (.v (vI q1.left) : S) = .v z5 ∧ ([] : List Blk) = []))))) (by kernel_rfl) ?_
 refine ⟨(as_i64 (by omega) (by omega)), dsp (fun h1 p1 => ?_) fun h1 p1 => ?_⟩
 refine ⟨(sI ?_), rfl⟩
 rotate_left
 refine ⟨has_of (j := (⟨left - (l.length : Int), 0⟩ : szStrS_ok_V0)) (by first | rfl | simp) rfl (by dsimp only [szStrS_ok_F0]; exact ⟨by omega, rfl, by omega, by omega⟩), fun (q1 : szStrS_ok_V0) hq_q1 => ?_⟩
 have hi_q1 : q1.i ≤ l.length ∧ strF q1.left (List.drop q1.i l) = strF (left - (l.length : Int)) l ∧ (0 : Int) ≤ q1.left ∧ q1.left ≤ 1048576 := hq_q1
 obtain ⟨v1, v2, v3, v4⟩ := hi_q1
 refine dsp (fun h2 p2 => ?_) fun h2 p2 => ?_
 refine ⟨(ax_get (l := l) (i := q1.i) (by omega)), fun x1 hx1 => ?_⟩
 rw [drop_el hx1, strF] at v2
 have hcl := hp3 x1 (List.mem_of_getElem? hx1)
 refine ⟨hx1, (by omega), (as_i64 (by omega) (by omega)), dsp (fun h3 p3 => ?_) fun h3 p3 => ?_⟩
 rw [if_pos (by omega)] at v2
 have hzz : szStrS left l = -1 := by unfold szStrS; rw [if_neg (by omega)]; exact v2.symm
 refine ⟨(sI ?_), rfl⟩
 rotate_left
 exact ⟨(as_i64 (by omega) (by omega)), nxt_of (j := (⟨q1.left - (x1.length : Int), q1.i + 1⟩ : szStrS_ok_V0)) (by first | rfl | simp) rfl (by dsimp only [szStrS_ok_F0]; exact ⟨by omega, by rw [if_neg (by omega)] at v2; exact v2, by omega, by omega⟩) (by dsimp only [szStrS_ok_F0]; omega)⟩
 rw [List.drop_eq_nil_of_le (by omega), strF] at v2
 have hzz : szStrS left l = q1.left := by unfold szStrS; rw [if_neg (by omega)]; exact v2.symm
 refine ⟨(sI ?_), rfl⟩
 rotate_left
 all_goals first | ((rw [hzz]; done)) | (simp [szStrS, *]; done) | (grind [szStrS])
theorem law_FeedAll (d : Dcd) (l : List (List UInt8)) (hp1 : ((List.length (d).plan.shapes : Nat) : Int) ≤ 9223372036854775807) (hp2 : ∀ e ∈ (d).plan.shapes, (e.fields.length : Int) ≤ 9223372036854775807) (hp3 : ((List.length (d).stack : Nat) : Int) ≤ 9223372036854775807) (hp4 : ((List.length (d).end_.text : Nat) : Int) ≤ 9223372036854775807) (hp5 : (0 : Int) ≤ (d).scan.bits ∧ (d).scan.bits ≤ 18446744073709551615) (hp6 : (l.length : Int) ≤ 9223372036854775807) (hp7 : ∀ c ∈ l, (c.length : Int) ≤ 9223372036854775807) : Fun Tryz.prog 5 [.agg (cDcd d), .c (.seq .str l)] [] (.v (vB true)) [] := by
 have hN : bigN = 274877906944 := rfl
 refine fun_ofw Tryz.func5 (by kernel_rfl) (by kernel_rfl) (w := let zi : Int → C := .int .i64; let z3 := chunksM ⟨d, []⟩ l; let z2 := 1 + ((List.length (z3.d).plan.shapes : Nat) : Int) + 5 * ((shF (z3.d).plan.shapes : Nat) : Int); let z5 := z2 + 2 * ((List.length (z3.d).stack : Nat) : Int); let z6 := (((List.length (z3.d).stack) : Nat) : Int); let z7 := (((z3.out.length) : Nat) : Int); let z8 := 1 + ((List.length (d).plan.shapes : Nat) : Int) + 5 * ((shF (d).plan.shapes : Nat) : Int); let z4 := z8 + 2 * ((List.length (d).stack : Nat) : Int); let z9 := markL mkEv 7 z5 (z3.out.length); let z10 := (!true) = false; let z11 := oDcd0_5 0 1 d; let z12 := (z3.out.length : Int); let z13 := oDcd0_5 0 1 z3.d; let z14 := szDcd 1048576 d; let z15 := markL mkLev 2 z2 (List.length (z3.d).stack); let z16 : List Blk := [.lst .str l]; let z17 := (l.length : Int); let z18 := markSh 1 (z3.d).plan.shapes; let z1 : List C := [.seq .shp z18, zi z3.d.plan.root, zi z3.d.plan.deep, zi z3.d.plan.most, zi z3.d.mode, .seq .lev z15, .int .u64 z3.d.scan.bits, zi z3.d.scan.have_, zi z3.d.start, zi z3.d.at_, zi z3.d.field.number, zi z3.d.field.kind, .bool z3.d.field.rep, .bool z3.d.field.packed, zi z3.d.field.msg, zi z3.d.wire, zi z3.d.want, zi z3.d.utf.want, zi z3.d.utf.low, zi z3.d.utf.high, zi z3.d.end_.kind, zi z3.d.end_.field, .int .u64 z3.d.end_.bits, zi z3.d.end_.len, .str z3.d.end_.text, zi z3.d.end_.code, zi z3.d.end_.at_]; let z19 := z2 + 2 * z6; let z20 := vI (z5 + 7 * z7); let z21 := (!decide (z5 + 7 * z7 = z5 + 7 * z12)) = false; let z22 := cDcd z3.d; let z23 := markL mkLev 2 z8 (List.length (d).stack); let z24 : List Blk := [.lst .str (markL mtext 1 z4 (l.length))]; let z25 := (decide (z2 + 2 * z6 < 0)) = false; let z26 := (decide (z5 + 7 * z7 < 0)) = false; let z27 := (.v (vB true) : S); (.seg [.call [] (.v (vI z14)) []] (.br (.leaf () []) (.seg [.call [] (.v (vI (szStrS z14 l))) []] (.br (.leaf () []) (.seg [.call [] (.v (.agg z11)) [.tree d.plan.shapes, .lst .lev d.stack], .call [] (.v (vO 0)) z16, .call [] (.tup [.agg z13, vO 2]) [.tree z3.d.plan.shapes, .lst .lev z3.d.stack, .lst .ev z3.out], .call [] (.v (.agg z11)) [.tree d.plan.shapes, .lst .lev d.stack], .call [] (.v (vO 0)) z16, .call [] (.tup [.agg z13, vO 2]) [.tree z3.d.plan.shapes, .lst .lev z3.d.stack, .lst .ev z3.out], .call [] (.v (vB true)) [], .br false, .call [] (.v (vB true)) [], .br false, .ord (os 5 [2, 3]) [], .call [] (.v (.agg z11)) [.tree d.plan.shapes, .lst .lev d.stack], .call [] (.v (vB true)) [], .br false, .call [] (.v (vO 0)) z16, .call [] (.v (vB true)) [], .br false, .call [8, 9] (.v (vI z4)) [.tree (markSh 1 (d).plan.shapes), .lst .lev z23], .call [11] (.v (vI (z4 + 1 * z17))) z24, .br false, .call [] (.v (vB true)) [], .br false, .call [] (.v (vB true)) [], .br false, .call [12, 13] (.v (vI z5)) [.tree z18, .lst .lev z15], .call [14] (.v (vI (z5 + 7 * z12))) [.lst .ev z9], .call [] (.v (vI z19)) [], .br false, .call [] (.v z20) [], .br false, .br false, .call [] (.v (.agg z11)) [.tree d.plan.shapes, .lst .lev d.stack], .call [] (.v (vO 0)) z16, .call [] (.tup [.agg z13, vO 2]) [.tree z3.d.plan.shapes, .lst .lev z3.d.stack, .lst .ev z3.out], .call [] (.v (vB true)) [], .br false, .call [] (.v (vB true)) [], .br false, .call [] (.v (vI z19)) [], .br false, .call [] (.v z20) [], .br false, .br false] (.leaf () []))))), (Fun Tryz.prog 17 [.agg (cDcd d), vI 1048576] [] (.v (vI z14)) []) ∧ ((decide (szDcd 1048576 d < 0)) = true → z27 = .v (vB true) ∧ ([] : List Blk) = []) ∧ ((decide (szDcd 1048576 d < 0)) = false → (Fun Tryz.prog 18 [.c (.seq .str l), vI z14] [] (.v (vI (szStrS z14 l))) []) ∧ ((decide (szStrS z14 l < 0)) = true → z27 = .v (vB true) ∧ ([] : List Blk) = []) ∧ ((decide (szStrS z14 l < 0)) = false → (Fun Tryz.prog 20 [.agg (cDcd d)] [] (.v (.agg z11)) [.tree d.plan.shapes, .lst .lev d.stack]) ∧ (Fun Tryz.prog 21 [.c (.seq .str l)] [] (.v (vO 0)) z16) ∧ (Fun Tryz.prog 19 [.agg (cDcd d), .c (.seq .str l)] [] (.tup [.agg z13, vO 2]) [.tree z3.d.plan.shapes, .lst .lev z3.d.stack, .lst .ev z3.out]) ∧ (Fun Tryz.prog 20 [.agg (cDcd d)] [] (.v (.agg z11)) [.tree d.plan.shapes, .lst .lev d.stack]) ∧ (Fun Tryz.prog 21 [.c (.seq .str l)] [] (.v (vO 0)) z16) ∧ (Fun Tryz.prog 22 [.agg (cDcd d), .c (.seq .str l)] [] (.tup [.agg z13, vO 2]) [.tree z3.d.plan.shapes, .lst .lev z3.d.stack, .lst .ev z3.out]) ∧ (Fun Tryz.prog 23 [.agg z22, .agg z22] [] (.v (vB true)) []) ∧ z10 ∧ (Fun Tryz.prog 24 [.c (.seq .ev z3.out), .c (.seq .ev z3.out)] [] (.v (vB true)) []) ∧ z10 ∧ (Fun Tryz.prog 20 [.agg (cDcd d)] [] (.v (.agg z11)) [.tree d.plan.shapes, .lst .lev d.stack]) ∧ (Fun Tryz.prog 23 [.agg (cDcd d), .agg (cDcd d)] [] (.v (vB true)) []) ∧ z10 ∧ (Fun Tryz.prog 21 [.c (.seq .str l)] [] (.v (vO 0)) z16) ∧ (Fun Tryz.prog 25 [.c (.seq .str l), .c (.seq .str l)] [] (.v (vB true)) []) ∧ z10 ∧ (Fun Tryz.prog 26 [.agg z11, vI 1] [.tree d.plan.shapes, .lst .lev d.stack] (.v (vI z4)) [.tree (markSh 1 (d).plan.shapes), .lst .lev z23]) ∧ (Fun Tryz.prog 27 [vO 0, vI z4] z16 (.v (vI (z4 + 1 * z17))) z24) ∧ ((decide (z4 + 1 * z17 < 0)) = false) ∧ (Fun Tryz.prog 23 [.agg z22, .agg z22] [] (.v (vB true)) []) ∧ z10 ∧ (Fun Tryz.prog 24 [.c (.seq .ev z3.out), .c (.seq .ev z3.out)] [] (.v (vB true)) []) ∧ z10 ∧ (Fun Tryz.prog 26 [.agg z13, vI 1] [.tree z3.d.plan.shapes, .lst .lev z3.d.stack] (.v (vI z5)) [.tree z18, .lst .lev z15]) ∧ (Fun Tryz.prog 28 [vO 0, vI z5] [.lst .ev z3.out] (.v (vI (z5 + 7 * z12))) [.lst .ev z9]) ∧ (Fun Tryz.prog 29 [.agg z1, vI 1] [] (.v (vI z19)) []) ∧ z25 ∧ (Fun Tryz.prog 30 [.c (.seq .ev z9), vI z19] [] (.v z20) []) ∧ z26 ∧ z21 ∧ (Fun Tryz.prog 20 [.agg (cDcd d)] [] (.v (.agg z11)) [.tree d.plan.shapes, .lst .lev d.stack]) ∧ (Fun Tryz.prog 21 [.c (.seq .str l)] [] (.v (vO 0)) z16) ∧ (Fun Tryz.prog 22 [.agg (cDcd d), .c (.seq .str l)] [] (.tup [.agg z13, vO 2]) [.tree z3.d.plan.shapes, .lst .lev z3.d.stack, .lst .ev z3.out]) ∧ (Fun Tryz.prog 23 [.agg z22, .agg z22] [] (.v (vB true)) []) ∧ z10 ∧ (Fun Tryz.prog 24 [.c (.seq .ev z3.out), .c (.seq .ev z3.out)] [] (.v (vB true)) []) ∧ z10 ∧ (Fun Tryz.prog 29 [.agg z1, vI 1] [] (.v (vI z19)) []) ∧ z25 ∧ (Fun Tryz.prog 30 [.c (.seq .ev z9), vI z19] [] (.v z20) []) ∧ z26 ∧ z21 ∧ z27 = .v (vB true) ∧ ([] : List Blk) = [])))) (by kernel_rfl) ?_
 refine ⟨(szDcd_ok d _ (by omega) (by omega) (hp2) (by omega) (by omega)), dsp (fun h1 p1 => ?_) fun h1 p1 => ?_⟩
 have zy := szDcd_b (left := 1048576) (d := d) (by decide) (by decide)
 exact ⟨rfl, rfl⟩
 have zy := szDcd_b (left := 1048576) (d := d) (by decide) (by decide)
 have zd := zy.2.2 (by omega)
 have zf : ∀ e ∈ d.plan.shapes, e.fields.length ≤ bigN := fun e he => by have := zd.2.1 e he; omega
 refine ⟨(szStrS_ok _ _ (by omega) (by omega) (hp7)), dsp (fun h2 p2 => ?_) fun h2 p2 => ?_⟩
 have zc := szStrS_b (l := l) (left := szDcd 1048576 d) (by omega) (by omega)
 exact ⟨rfl, rfl⟩
 have zc := szStrS_b (l := l) (left := szDcd 1048576 d) (by omega) (by omega)
 have ze := zc.2.2 (by omega)
 have zs := chunks_lim l ⟨d, []⟩
 simp only [List.length_nil] at zs
 have zb := zs.2.2.2 hp5
 have zh : shF (chunksM ⟨d, []⟩ l).d.plan.shapes = shF d.plan.shapes := by rw [zs.1]
 have zsf : ∀ e ∈ (chunksM ⟨d, []⟩ l).d.plan.shapes, e.fields.length ≤ bigN := by rw [zs.1]; exact zf
 have zsl : List.length (chunksM ⟨d, []⟩ l).d.plan.shapes = d.plan.shapes.length := by rw [zs.1]
 exact ⟨(toDcd_ok d (by omega) (zd.2.1) (by omega)), (toStringS_ok _ (by omega)), (feedAll_s d _ (by omega) (zd.2.1) (by omega) (by omega) (by omega) (by omega)), (toDcd_ok d (by omega) (zd.2.1) (by omega)), (toStringS_ok _ (by omega)), (feedAll_i d _ (by omega) (zd.2.1) (by omega) (by omega) (by omega) (by omega)), (eqDcd_ok (chunksM ⟨d, []⟩ l).d (by omega) (zsf) (by omega)), (by decide), (eqEventS_ok _ (by omega)), (by decide), (toDcd_ok d (by omega) (zd.2.1) (by omega)), (eqDcd_ok d (by omega) (zf) (by omega)), (by decide), (toStringS_ok _ (by omega)), (eqStringS_ok _ (by omega)), (by decide), (markDcd_ok d _ (by omega) (by omega) (by omega) (by omega)), (markStringS_ok l ((1 + ((List.length (d).plan.shapes : Nat) : Int) + 5 * ((shF (d).plan.shapes : Nat) : Int)) + 2 * ((List.length (d).stack : Nat) : Int)) (by omega) (by omega)), (decide_eq_false (by omega)), (eqDcd_ok (chunksM ⟨d, []⟩ l).d (by omega) (zsf) (by omega)), (by decide), (eqEventS_ok _ (by omega)), (by decide), (markDcd_ok (chunksM ⟨d, []⟩ l).d _ (by omega) (by omega) (by omega) (by omega)), (markEventS_ok (chunksM ⟨d, []⟩ l).out ((1 + ((List.length ((chunksM ⟨d, []⟩ l).d).plan.shapes : Nat) : Int) + 5 * ((shF ((chunksM ⟨d, []⟩ l).d).plan.shapes : Nat) : Int)) + 2 * ((List.length ((chunksM ⟨d, []⟩ l).d).stack : Nat) : Int)) (by omega) (by omega)), (heldDcd_ok (⟨(⟨([] : List Shp), (chunksM ⟨d, []⟩ l).d.plan.root, (chunksM ⟨d, []⟩ l).d.plan.deep, (chunksM ⟨d, []⟩ l).d.plan.most⟩ : Pln), (chunksM ⟨d, []⟩ l).d.mode, ([] : List Lev), (chunksM ⟨d, []⟩ l).d.scan, (chunksM ⟨d, []⟩ l).d.start, (chunksM ⟨d, []⟩ l).d.at_, (chunksM ⟨d, []⟩ l).d.field, (chunksM ⟨d, []⟩ l).d.wire, (chunksM ⟨d, []⟩ l).d.want, (chunksM ⟨d, []⟩ l).d.utf, (chunksM ⟨d, []⟩ l).d.end_⟩ : Dcd) ((chunksM ⟨d, []⟩ l).d).plan.shapes (List.length ((chunksM ⟨d, []⟩ l).d).stack) _ (1 + ((List.length ((chunksM ⟨d, []⟩ l).d).plan.shapes : Nat) : Int) + 5 * ((shF ((chunksM ⟨d, []⟩ l).d).plan.shapes : Nat) : Int)) (by omega) (by omega) (by omega) (by omega) (by omega)), (decide_eq_false (by omega)), (heldEventS_ok (List.length (chunksM ⟨d, []⟩ l).out) ((1 + ((List.length ((chunksM ⟨d, []⟩ l).d).plan.shapes : Nat) : Int) + 5 * ((shF ((chunksM ⟨d, []⟩ l).d).plan.shapes : Nat) : Int)) + 2 * ((List.length ((chunksM ⟨d, []⟩ l).d).stack : Nat) : Int)) (by omega) (by omega)), (decide_eq_false (by omega)), (by simp), (toDcd_ok d (by omega) (zd.2.1) (by omega)), (toStringS_ok _ (by omega)), (feedAll_i d _ (by omega) (zd.2.1) (by omega) (by omega) (by omega) (by omega)), (eqDcd_ok (chunksM ⟨d, []⟩ l).d (by omega) (zsf) (by omega)), (by decide), (eqEventS_ok _ (by omega)), (by decide), (heldDcd_ok (⟨(⟨([] : List Shp), (chunksM ⟨d, []⟩ l).d.plan.root, (chunksM ⟨d, []⟩ l).d.plan.deep, (chunksM ⟨d, []⟩ l).d.plan.most⟩ : Pln), (chunksM ⟨d, []⟩ l).d.mode, ([] : List Lev), (chunksM ⟨d, []⟩ l).d.scan, (chunksM ⟨d, []⟩ l).d.start, (chunksM ⟨d, []⟩ l).d.at_, (chunksM ⟨d, []⟩ l).d.field, (chunksM ⟨d, []⟩ l).d.wire, (chunksM ⟨d, []⟩ l).d.want, (chunksM ⟨d, []⟩ l).d.utf, (chunksM ⟨d, []⟩ l).d.end_⟩ : Dcd) ((chunksM ⟨d, []⟩ l).d).plan.shapes (List.length ((chunksM ⟨d, []⟩ l).d).stack) _ (1 + ((List.length ((chunksM ⟨d, []⟩ l).d).plan.shapes : Nat) : Int) + 5 * ((shF ((chunksM ⟨d, []⟩ l).d).plan.shapes : Nat) : Int)) (by omega) (by omega) (by omega) (by omega) (by omega)), (decide_eq_false (by omega)), (heldEventS_ok (List.length (chunksM ⟨d, []⟩ l).out) ((1 + ((List.length ((chunksM ⟨d, []⟩ l).d).plan.shapes : Nat) : Int) + 5 * ((shF ((chunksM ⟨d, []⟩ l).d).plan.shapes : Nat) : Int)) + 2 * ((List.length ((chunksM ⟨d, []⟩ l).d).stack : Nat) : Int)) (by omega) (by omega)), (decide_eq_false (by omega)), (by simp), rfl, rfl⟩
end Go.Proofs.YtpchkcpcdbdhdaaGreat.Ax
namespace Go.Proofs.YtpchkcpcdbdhdaaGreat.Ax
open Go.ChangeShapes Go.WideShapes Go.ChangeAt Go.RowKit
theorem cof___laws_Shape : Tryz.prog.cellsOf 22 = 1 := by kernel_rfl
theorem cof_int : Tryz.prog.cellsOf 3 = 1 := by kernel_rfl
theorem cof_bool : Tryz.prog.cellsOf 4 = 1 := by kernel_rfl
def okFld (y : Fld) : Prop := I64 y.number ∧ I64 y.kind ∧ True ∧ True ∧ I64 y.msg
theorem e_fld {H : Type} {tok : TypeId × Value → H} {w : World} {sp : Nat → Bool} {held : Bool} (fuel : Nat) (cs : List Value) (x : DataW H × List MemPlace) (hl : cs.length = 5) (h : DataW.trod tok Tryz.prog w 0 sp held fuel 42 cs = some x) : ∃ y : Fld, All2 Rep0 (enc .fld y) cs ∧ okFld y := by
 match cs, hl with
 | [c0, c1, c2, c3, c4], _ =>
  obtain ⟨xs, n, _, rfl, _, hxl, hf⟩ := DataW.trod_struct Tryz.underlying42 h
  match xs, hxl with
  | [y0, y1, y2, y3, y4], _ =>
   have f0 : DataW.trod tok Tryz.prog w 0 sp held n 3 [c0] = some y0 := by simpa [cof_int] using hf 0 _ rfl
   obtain ⟨i0, e0, _, w0⟩ := DataW.trod_int Tryz.underlying3 f0
   simp only [List.cons.injEq, and_true] at e0
   subst e0
   have f1 : DataW.trod tok Tryz.prog w 0 sp held n 3 [c1] = some y1 := by simpa [cof_int] using hf 1 _ rfl
   obtain ⟨i1, e1, _, w1⟩ := DataW.trod_int Tryz.underlying3 f1
   simp only [List.cons.injEq, and_true] at e1
   subst e1
   have f2 : DataW.trod tok Tryz.prog w 0 sp held n 4 [c2] = some y2 := by simpa [cof_bool] using hf 2 _ rfl
   obtain ⟨i2, e2⟩ := bool_trod Tryz.underlying4 f2
   simp only [List.cons.injEq, and_true] at e2
   subst e2
   have f3 : DataW.trod tok Tryz.prog w 0 sp held n 4 [c3] = some y3 := by simpa [cof_bool] using hf 3 _ rfl
   obtain ⟨i3, e3⟩ := bool_trod Tryz.underlying4 f3
   simp only [List.cons.injEq, and_true] at e3
   subst e3
   have f4 : DataW.trod tok Tryz.prog w 0 sp held n 3 [c4] = some y4 := by simpa [cof_int] using hf 4 _ rfl
   obtain ⟨i4, e4, _, w4⟩ := DataW.trod_int Tryz.underlying3 f4
   simp only [List.cons.injEq, and_true] at e4
   subst e4
   exact ⟨⟨i0, i1, i2, i3, i4⟩, .cons (show Rep0 (.int .i64 i0) _ from rfl) (.cons (show Rep0 (.int .i64 i1) _ from rfl) (.cons (show Rep0 (.bool i2) _ from rfl) (.cons (show Rep0 (.bool i3) _ from rfl) (.cons (show Rep0 (.int .i64 i4) _ from rfl) .nil)))), ⟨bounds_i64 w0, bounds_i64 w1, trivial, trivial, bounds_i64 w4⟩⟩
theorem cof___laws_Field : Tryz.prog.cellsOf 179 = 1 := by kernel_rfl
def okShp (y : Shp) : Prop := I64 y.id ∧ (Le63 y.fields.length ∧ ∀ e ∈ y.fields, okFld e)
theorem cof_laws_Field : Tryz.prog.cellsOf 42 = 5 := by kernel_rfl
theorem e_shp {H : Type} {tok : TypeId × Value → H} {w : World} {sp : Nat → Bool} {held : Bool} (fuel : Nat) (cs : List Value) (x : DataW H × List MemPlace) (hl : cs.length = 2) (h : DataW.trod tok Tryz.prog w 0 sp held fuel 181 cs = some x) : ∃ y : Shp, All2 (Rep1 w (RR w)) (enc .shp y) cs ∧ okShp y := by
 match cs, hl with
 | [c0, c1], _ =>
  obtain ⟨xs, n, _, rfl, _, hxl, hf⟩ := DataW.trod_struct Tryz.underlying181 h
  match xs, hxl with
  | [y0, y1], _ =>
   have f0 : DataW.trod tok Tryz.prog w 0 sp held n 3 [c0] = some y0 := by simpa [cof_int] using hf 0 _ rfl
   obtain ⟨i0, e0, _, w0⟩ := DataW.trod_int Tryz.underlying3 f0
   simp only [List.cons.injEq, and_true] at e0
   subst e0
   have f1 : DataW.trod tok Tryz.prog w 0 sp held n 179 [c1] = some y1 := by simpa [cof___laws_Field] using hf 1 _ rfl
   obtain ⟨i1, s1, l1, k1⟩ := open_sq (cr := Rep0) (t := .fld) (Q := fun e => okFld e) Tryz.underlying179 cof_laws_Field (by decide) e_fld f1
   exact ⟨⟨i0, i1⟩, .cons (rep0_1 (show Rep0 (.int .i64 i0) _ from rfl)) (.cons s1 .nil), ⟨bounds_i64 w0, ⟨l1, k1⟩⟩⟩
theorem cof_laws_Schema : Tryz.prog.cellsOf 24 = 1 := by kernel_rfl
def okPln (y : Pln) : Prop := (Le63 y.shapes.length ∧ ∀ e ∈ y.shapes, okShp e) ∧ I64 y.root ∧ I64 y.deep ∧ I64 y.most
theorem cof_laws_Shape : Tryz.prog.cellsOf 181 = 2 := by kernel_rfl
theorem o_Pln {H : Type} {tok : TypeId × Value → H} {w : World} {sp : Nat → Bool} {held : Bool} {fuel : Nat} {cs : List Value} {x : DataW H × List MemPlace} (hl : cs.length = 4) (h : DataW.trod tok Tryz.prog w 0 sp held fuel 26 cs = some x) : ∃ y : Pln, All2 (RepC [] P0 w (RR w)) ([.seq .shp y.shapes, .int .i64 y.root, .int .i64 y.deep, .int .i64 y.most]) cs ∧ okPln y := by
 match cs, hl with
 | [c0, c1, c2, c3], _ =>
  obtain ⟨xs, n, _, rfl, _, hxl, hf⟩ := DataW.trod_struct Tryz.underlying26 h
  match xs, hxl with
  | [y0, y1, y2, y3], _ =>
   have f0 : DataW.trod tok Tryz.prog w 0 sp held n 24 [c0] = some y0 := by simpa [cof_laws_Schema] using hf 0 _ rfl
   obtain ⟨xs0, n0, _, rfl, _, hxl0, hf0⟩ := DataW.trod_struct Tryz.underlying24 f0
   obtain ⟨z0, rfl⟩ := List.length_eq_one_iff.1 hxl0
   have g0 : DataW.trod tok Tryz.prog w 0 sp held n0 22 [c0] = some z0 := by simpa [cof___laws_Shape] using hf0 0 _ rfl
   obtain ⟨i0, s0, l0, k0⟩ := open_sq (cr := (Rep1 w (RR w))) (t := .shp) (Q := fun e => okShp e) Tryz.underlying22 cof_laws_Shape (by decide) e_shp g0
   have f1 : DataW.trod tok Tryz.prog w 0 sp held n 3 [c1] = some y1 := by simpa [cof_int] using hf 1 _ rfl
   obtain ⟨i1, e1, _, w1⟩ := DataW.trod_int Tryz.underlying3 f1
   simp only [List.cons.injEq, and_true] at e1
   subst e1
   have f2 : DataW.trod tok Tryz.prog w 0 sp held n 3 [c2] = some y2 := by simpa [cof_int] using hf 2 _ rfl
   obtain ⟨i2, e2, _, w2⟩ := DataW.trod_int Tryz.underlying3 f2
   simp only [List.cons.injEq, and_true] at e2
   subst e2
   have f3 : DataW.trod tok Tryz.prog w 0 sp held n 3 [c3] = some y3 := by simpa [cof_int] using hf 3 _ rfl
   obtain ⟨i3, e3, _, w3⟩ := DataW.trod_int Tryz.underlying3 f3
   simp only [List.cons.injEq, and_true] at e3
   subst e3
   exact ⟨⟨i0, i1, i2, i3⟩, .cons s0 (.cons (rep0_C (show Rep0 (.int .i64 i1) _ from rfl)) (.cons (rep0_C (show Rep0 (.int .i64 i2) _ from rfl)) (.cons (rep0_C (show Rep0 (.int .i64 i3) _ from rfl)) .nil))), ⟨⟨l0, k0⟩, bounds_i64 w1, bounds_i64 w2, bounds_i64 w3⟩⟩
theorem cof_laws_Plan : Tryz.prog.cellsOf 26 = 4 := by kernel_rfl
def okLev (y : Lev) : Prop := I64 y.msg ∧ I64 y.left
theorem e_lev {H : Type} {tok : TypeId × Value → H} {w : World} {sp : Nat → Bool} {held : Bool} (fuel : Nat) (cs : List Value) (x : DataW H × List MemPlace) (hl : cs.length = 2) (h : DataW.trod tok Tryz.prog w 0 sp held fuel 165 cs = some x) : ∃ y : Lev, All2 Rep0 (enc .lev y) cs ∧ okLev y := by
 match cs, hl with
 | [c0, c1], _ =>
  obtain ⟨xs, n, _, rfl, _, hxl, hf⟩ := DataW.trod_struct Tryz.underlying165 h
  match xs, hxl with
  | [y0, y1], _ =>
   have f0 : DataW.trod tok Tryz.prog w 0 sp held n 3 [c0] = some y0 := by simpa [cof_int] using hf 0 _ rfl
   obtain ⟨i0, e0, _, w0⟩ := DataW.trod_int Tryz.underlying3 f0
   simp only [List.cons.injEq, and_true] at e0
   subst e0
   have f1 : DataW.trod tok Tryz.prog w 0 sp held n 3 [c1] = some y1 := by simpa [cof_int] using hf 1 _ rfl
   obtain ⟨i1, e1, _, w1⟩ := DataW.trod_int Tryz.underlying3 f1
   simp only [List.cons.injEq, and_true] at e1
   subst e1
   exact ⟨⟨i0, i1⟩, .cons (show Rep0 (.int .i64 i0) _ from rfl) (.cons (show Rep0 (.int .i64 i1) _ from rfl) .nil), ⟨bounds_i64 w0, bounds_i64 w1⟩⟩
theorem cof___laws_Level : Tryz.prog.cellsOf 37 = 1 := by kernel_rfl
theorem cof_uint64 : Tryz.prog.cellsOf 38 = 1 := by kernel_rfl
def okScn (y : Scn) : Prop := U64 y.bits ∧ I64 y.have_
theorem o_Scn {H : Type} {tok : TypeId × Value → H} {w : World} {sp : Nat → Bool} {held : Bool} {fuel : Nat} {cs : List Value} {x : DataW H × List MemPlace} (hl : cs.length = 2) (h : DataW.trod tok Tryz.prog w 0 sp held fuel 40 cs = some x) : ∃ y : Scn, All2 (RepC [] P0 w (RR w)) ([.int .u64 y.bits, .int .i64 y.have_]) cs ∧ okScn y := by
 match cs, hl with
 | [c0, c1], _ =>
  obtain ⟨xs, n, _, rfl, _, hxl, hf⟩ := DataW.trod_struct Tryz.underlying40 h
  match xs, hxl with
  | [y0, y1], _ =>
   have f0 : DataW.trod tok Tryz.prog w 0 sp held n 38 [c0] = some y0 := by simpa [cof_uint64] using hf 0 _ rfl
   obtain ⟨i0, e0, _, w0⟩ := DataW.trod_int Tryz.underlying38 f0
   simp only [List.cons.injEq, and_true] at e0
   subst e0
   have f1 : DataW.trod tok Tryz.prog w 0 sp held n 3 [c1] = some y1 := by simpa [cof_int] using hf 1 _ rfl
   obtain ⟨i1, e1, _, w1⟩ := DataW.trod_int Tryz.underlying3 f1
   simp only [List.cons.injEq, and_true] at e1
   subst e1
   exact ⟨⟨i0, i1⟩, .cons (rep0_C (show Rep0 (.int .u64 i0) _ from rfl)) (.cons (rep0_C (show Rep0 (.int .i64 i1) _ from rfl)) .nil), ⟨bounds_u64 w0, bounds_i64 w1⟩⟩
theorem cof_laws_Scan : Tryz.prog.cellsOf 40 = 2 := by kernel_rfl
theorem o_Fld {H : Type} {tok : TypeId × Value → H} {w : World} {sp : Nat → Bool} {held : Bool} {fuel : Nat} {cs : List Value} {x : DataW H × List MemPlace} (hl : cs.length = 5) (h : DataW.trod tok Tryz.prog w 0 sp held fuel 42 cs = some x) : ∃ y : Fld, All2 (RepC [] P0 w (RR w)) ([.int .i64 y.number, .int .i64 y.kind, .bool y.rep, .bool y.packed, .int .i64 y.msg]) cs ∧ okFld y := by
 match cs, hl with
 | [c0, c1, c2, c3, c4], _ =>
  obtain ⟨xs, n, _, rfl, _, hxl, hf⟩ := DataW.trod_struct Tryz.underlying42 h
  match xs, hxl with
  | [y0, y1, y2, y3, y4], _ =>
   have f0 : DataW.trod tok Tryz.prog w 0 sp held n 3 [c0] = some y0 := by simpa [cof_int] using hf 0 _ rfl
   obtain ⟨i0, e0, _, w0⟩ := DataW.trod_int Tryz.underlying3 f0
   simp only [List.cons.injEq, and_true] at e0
   subst e0
   have f1 : DataW.trod tok Tryz.prog w 0 sp held n 3 [c1] = some y1 := by simpa [cof_int] using hf 1 _ rfl
   obtain ⟨i1, e1, _, w1⟩ := DataW.trod_int Tryz.underlying3 f1
   simp only [List.cons.injEq, and_true] at e1
   subst e1
   have f2 : DataW.trod tok Tryz.prog w 0 sp held n 4 [c2] = some y2 := by simpa [cof_bool] using hf 2 _ rfl
   obtain ⟨i2, e2⟩ := bool_trod Tryz.underlying4 f2
   simp only [List.cons.injEq, and_true] at e2
   subst e2
   have f3 : DataW.trod tok Tryz.prog w 0 sp held n 4 [c3] = some y3 := by simpa [cof_bool] using hf 3 _ rfl
   obtain ⟨i3, e3⟩ := bool_trod Tryz.underlying4 f3
   simp only [List.cons.injEq, and_true] at e3
   subst e3
   have f4 : DataW.trod tok Tryz.prog w 0 sp held n 3 [c4] = some y4 := by simpa [cof_int] using hf 4 _ rfl
   obtain ⟨i4, e4, _, w4⟩ := DataW.trod_int Tryz.underlying3 f4
   simp only [List.cons.injEq, and_true] at e4
   subst e4
   exact ⟨⟨i0, i1, i2, i3, i4⟩, .cons (rep0_C (show Rep0 (.int .i64 i0) _ from rfl)) (.cons (rep0_C (show Rep0 (.int .i64 i1) _ from rfl)) (.cons (rep0_C (show Rep0 (.bool i2) _ from rfl)) (.cons (rep0_C (show Rep0 (.bool i3) _ from rfl)) (.cons (rep0_C (show Rep0 (.int .i64 i4) _ from rfl)) .nil)))), ⟨bounds_i64 w0, bounds_i64 w1, trivial, trivial, bounds_i64 w4⟩⟩
def okUtf (y : Utf) : Prop := I64 y.want ∧ I64 y.low ∧ I64 y.high
theorem o_Utf {H : Type} {tok : TypeId × Value → H} {w : World} {sp : Nat → Bool} {held : Bool} {fuel : Nat} {cs : List Value} {x : DataW H × List MemPlace} (hl : cs.length = 3) (h : DataW.trod tok Tryz.prog w 0 sp held fuel 44 cs = some x) : ∃ y : Utf, All2 (RepC [] P0 w (RR w)) ([.int .i64 y.want, .int .i64 y.low, .int .i64 y.high]) cs ∧ okUtf y := by
 match cs, hl with
 | [c0, c1, c2], _ =>
  obtain ⟨xs, n, _, rfl, _, hxl, hf⟩ := DataW.trod_struct Tryz.underlying44 h
  match xs, hxl with
  | [y0, y1, y2], _ =>
   have f0 : DataW.trod tok Tryz.prog w 0 sp held n 3 [c0] = some y0 := by simpa [cof_int] using hf 0 _ rfl
   obtain ⟨i0, e0, _, w0⟩ := DataW.trod_int Tryz.underlying3 f0
   simp only [List.cons.injEq, and_true] at e0
   subst e0
   have f1 : DataW.trod tok Tryz.prog w 0 sp held n 3 [c1] = some y1 := by simpa [cof_int] using hf 1 _ rfl
   obtain ⟨i1, e1, _, w1⟩ := DataW.trod_int Tryz.underlying3 f1
   simp only [List.cons.injEq, and_true] at e1
   subst e1
   have f2 : DataW.trod tok Tryz.prog w 0 sp held n 3 [c2] = some y2 := by simpa [cof_int] using hf 2 _ rfl
   obtain ⟨i2, e2, _, w2⟩ := DataW.trod_int Tryz.underlying3 f2
   simp only [List.cons.injEq, and_true] at e2
   subst e2
   exact ⟨⟨i0, i1, i2⟩, .cons (rep0_C (show Rep0 (.int .i64 i0) _ from rfl)) (.cons (rep0_C (show Rep0 (.int .i64 i1) _ from rfl)) (.cons (rep0_C (show Rep0 (.int .i64 i2) _ from rfl)) .nil)), ⟨bounds_i64 w0, bounds_i64 w1, bounds_i64 w2⟩⟩
theorem cof_laws_Utf : Tryz.prog.cellsOf 44 = 3 := by kernel_rfl
theorem cof_string : Tryz.prog.cellsOf 9 = 1 := by kernel_rfl
def okEv (y : Ev) : Prop := I64 y.kind ∧ I64 y.field ∧ U64 y.bits ∧ I64 y.len ∧ Le63 y.text.length ∧ I64 y.code ∧ I64 y.at_
theorem o_Ev {H : Type} {tok : TypeId × Value → H} {w : World} {sp : Nat → Bool} {held : Bool} {fuel : Nat} {cs : List Value} {x : DataW H × List MemPlace} (hl : cs.length = 7) (h : DataW.trod tok Tryz.prog w 0 sp held fuel 46 cs = some x) : ∃ y : Ev, All2 (RepC [] P0 w (RR w)) ([.int .i64 y.kind, .int .i64 y.field, .int .u64 y.bits, .int .i64 y.len, .str y.text, .int .i64 y.code, .int .i64 y.at_]) cs ∧ okEv y := by
 match cs, hl with
 | [c0, c1, c2, c3, c4, c5, c6], _ =>
  obtain ⟨xs, n, _, rfl, _, hxl, hf⟩ := DataW.trod_struct Tryz.underlying46 h
  match xs, hxl with
  | [y0, y1, y2, y3, y4, y5, y6], _ =>
   have f0 : DataW.trod tok Tryz.prog w 0 sp held n 3 [c0] = some y0 := by simpa [cof_int] using hf 0 _ rfl
   obtain ⟨i0, e0, _, w0⟩ := DataW.trod_int Tryz.underlying3 f0
   simp only [List.cons.injEq, and_true] at e0
   subst e0
   have f1 : DataW.trod tok Tryz.prog w 0 sp held n 3 [c1] = some y1 := by simpa [cof_int] using hf 1 _ rfl
   obtain ⟨i1, e1, _, w1⟩ := DataW.trod_int Tryz.underlying3 f1
   simp only [List.cons.injEq, and_true] at e1
   subst e1
   have f2 : DataW.trod tok Tryz.prog w 0 sp held n 38 [c2] = some y2 := by simpa [cof_uint64] using hf 2 _ rfl
   obtain ⟨i2, e2, _, w2⟩ := DataW.trod_int Tryz.underlying38 f2
   simp only [List.cons.injEq, and_true] at e2
   subst e2
   have f3 : DataW.trod tok Tryz.prog w 0 sp held n 3 [c3] = some y3 := by simpa [cof_int] using hf 3 _ rfl
   obtain ⟨i3, e3, _, w3⟩ := DataW.trod_int Tryz.underlying3 f3
   simp only [List.cons.injEq, and_true] at e3
   subst e3
   have f4 : DataW.trod tok Tryz.prog w 0 sp held n 9 [c4] = some y4 := by simpa [cof_string] using hf 4 _ rfl
   obtain ⟨i4, e4, _, w4⟩ := DataW.trod_string Tryz.underlying9 f4
   simp only [List.cons.injEq, and_true] at e4
   subst e4
   have f5 : DataW.trod tok Tryz.prog w 0 sp held n 3 [c5] = some y5 := by simpa [cof_int] using hf 5 _ rfl
   obtain ⟨i5, e5, _, w5⟩ := DataW.trod_int Tryz.underlying3 f5
   simp only [List.cons.injEq, and_true] at e5
   subst e5
   have f6 : DataW.trod tok Tryz.prog w 0 sp held n 3 [c6] = some y6 := by simpa [cof_int] using hf 6 _ rfl
   obtain ⟨i6, e6, _, w6⟩ := DataW.trod_int Tryz.underlying3 f6
   simp only [List.cons.injEq, and_true] at e6
   subst e6
   exact ⟨⟨i0, i1, i2, i3, i4.data.toList, i5, i6⟩, .cons (rep0_C (show Rep0 (.int .i64 i0) _ from rfl)) (.cons (rep0_C (show Rep0 (.int .i64 i1) _ from rfl)) (.cons (rep0_C (show Rep0 (.int .u64 i2) _ from rfl)) (.cons (rep0_C (show Rep0 (.int .i64 i3) _ from rfl)) (.cons (rep0_C (show Rep0 (.str i4.data.toList) _ from str_rep)) (.cons (rep0_C (show Rep0 (.int .i64 i5) _ from rfl)) (.cons (rep0_C (show Rep0 (.int .i64 i6) _ from rfl)) .nil)))))), ⟨bounds_i64 w0, bounds_i64 w1, bounds_u64 w2, bounds_i64 w3, str_le w4, bounds_i64 w5, bounds_i64 w6⟩⟩
theorem cof_laws_Event : Tryz.prog.cellsOf 46 = 7 := by kernel_rfl
def okDcd (y : Dcd) : Prop := okPln y.plan ∧ I64 y.mode ∧ (Le63 y.stack.length ∧ ∀ e ∈ y.stack, okLev e) ∧ okScn y.scan ∧ I64 y.start ∧ I64 y.at_ ∧ okFld y.field ∧ I64 y.wire ∧ I64 y.want ∧ okUtf y.utf ∧ okEv y.end_
theorem cof_laws_Level : Tryz.prog.cellsOf 165 = 2 := by kernel_rfl
theorem o_Dcd {H : Type} {tok : TypeId × Value → H} {w : World} {sp : Nat → Bool} {held : Bool} {fuel : Nat} {cs : List Value} {x : DataW H × List MemPlace} (hl : cs.length = 27) (h : DataW.trod tok Tryz.prog w 0 sp held fuel 48 cs = some x) : ∃ y : Dcd, All2 (RepC [] P0 w (RR w)) ([.seq .shp y.plan.shapes, .int .i64 y.plan.root, .int .i64 y.plan.deep, .int .i64 y.plan.most, .int .i64 y.mode, .seq .lev y.stack, .int .u64 y.scan.bits, .int .i64 y.scan.have_, .int .i64 y.start, .int .i64 y.at_, .int .i64 y.field.number, .int .i64 y.field.kind, .bool y.field.rep, .bool y.field.packed, .int .i64 y.field.msg, .int .i64 y.wire, .int .i64 y.want, .int .i64 y.utf.want, .int .i64 y.utf.low, .int .i64 y.utf.high, .int .i64 y.end_.kind, .int .i64 y.end_.field, .int .u64 y.end_.bits, .int .i64 y.end_.len, .str y.end_.text, .int .i64 y.end_.code, .int .i64 y.end_.at_]) cs ∧ okDcd y := by
 match cs, hl with
 | [c0, c1, c2, c3, c4, c5, c6, c7, c8, c9, c10, c11, c12, c13, c14, c15, c16, c17, c18, c19, c20, c21, c22, c23, c24, c25, c26], _ =>
  obtain ⟨xs, n, _, rfl, _, hxl, hf⟩ := DataW.trod_struct Tryz.underlying48 h
  match xs, hxl with
  | [y0, y1, y2, y3, y4, y5, y6, y7, y8, y9, y10], _ =>
   have f0 : DataW.trod tok Tryz.prog w 0 sp held n 26 [c0, c1, c2, c3] = some y0 := by simpa [cof_laws_Plan] using hf 0 _ rfl
   obtain ⟨i0, s0, k0⟩ := o_Pln rfl f0
   obtain ⟨a0_0, t0_0⟩ := s0.inv
   obtain ⟨a0_1, t0_1⟩ := t0_0.inv
   obtain ⟨a0_2, t0_2⟩ := t0_1.inv
   obtain ⟨a0_3, t0_3⟩ := t0_2.inv
   have f1 : DataW.trod tok Tryz.prog w 0 sp held n 3 [c4] = some y1 := by simpa [cof_int] using hf 1 _ rfl
   obtain ⟨i1, e1, _, w1⟩ := DataW.trod_int Tryz.underlying3 f1
   simp only [List.cons.injEq, and_true] at e1
   subst e1
   have f2 : DataW.trod tok Tryz.prog w 0 sp held n 37 [c5] = some y2 := by simpa [cof___laws_Level] using hf 2 _ rfl
   obtain ⟨i2, s2, l2, k2⟩ := open_sq (cr := (Rep1 w (RR w))) (t := .lev) (Q := fun e => okLev e) Tryz.underlying37 cof_laws_Level (by decide) (fun fuel cs x hl h => by obtain ⟨y, h1, h2⟩ := e_lev fuel cs x hl h; exact ⟨y, all_rep0_1 h1, h2⟩) f2
   have f3 : DataW.trod tok Tryz.prog w 0 sp held n 40 [c6, c7] = some y3 := by simpa [cof_laws_Scan] using hf 3 _ rfl
   obtain ⟨i3, s3, k3⟩ := o_Scn rfl f3
   obtain ⟨a3_0, t3_0⟩ := s3.inv
   obtain ⟨a3_1, t3_1⟩ := t3_0.inv
   have f4 : DataW.trod tok Tryz.prog w 0 sp held n 3 [c8] = some y4 := by simpa [cof_int] using hf 4 _ rfl
   obtain ⟨i4, e4, _, w4⟩ := DataW.trod_int Tryz.underlying3 f4
   simp only [List.cons.injEq, and_true] at e4
   subst e4
   have f5 : DataW.trod tok Tryz.prog w 0 sp held n 3 [c9] = some y5 := by simpa [cof_int] using hf 5 _ rfl
   obtain ⟨i5, e5, _, w5⟩ := DataW.trod_int Tryz.underlying3 f5
   simp only [List.cons.injEq, and_true] at e5
   subst e5
   have f6 : DataW.trod tok Tryz.prog w 0 sp held n 42 [c10, c11, c12, c13, c14] = some y6 := by simpa [cof_laws_Field] using hf 6 _ rfl
   obtain ⟨i6, s6, k6⟩ := o_Fld rfl f6
   obtain ⟨a6_0, t6_0⟩ := s6.inv
   obtain ⟨a6_1, t6_1⟩ := t6_0.inv
   obtain ⟨a6_2, t6_2⟩ := t6_1.inv
   obtain ⟨a6_3, t6_3⟩ := t6_2.inv
   obtain ⟨a6_4, t6_4⟩ := t6_3.inv
   have f7 : DataW.trod tok Tryz.prog w 0 sp held n 3 [c15] = some y7 := by simpa [cof_int] using hf 7 _ rfl
   obtain ⟨i7, e7, _, w7⟩ := DataW.trod_int Tryz.underlying3 f7
   simp only [List.cons.injEq, and_true] at e7
   subst e7
   have f8 : DataW.trod tok Tryz.prog w 0 sp held n 3 [c16] = some y8 := by simpa [cof_int] using hf 8 _ rfl
   obtain ⟨i8, e8, _, w8⟩ := DataW.trod_int Tryz.underlying3 f8
   simp only [List.cons.injEq, and_true] at e8
   subst e8
   have f9 : DataW.trod tok Tryz.prog w 0 sp held n 44 [c17, c18, c19] = some y9 := by simpa [cof_laws_Utf] using hf 9 _ rfl
   obtain ⟨i9, s9, k9⟩ := o_Utf rfl f9
   obtain ⟨a9_0, t9_0⟩ := s9.inv
   obtain ⟨a9_1, t9_1⟩ := t9_0.inv
   obtain ⟨a9_2, t9_2⟩ := t9_1.inv
   have f10 : DataW.trod tok Tryz.prog w 0 sp held n 46 [c20, c21, c22, c23, c24, c25, c26] = some y10 := by simpa [cof_laws_Event] using hf 10 _ rfl
   obtain ⟨i10, s10, k10⟩ := o_Ev rfl f10
   obtain ⟨a10_0, t10_0⟩ := s10.inv
   obtain ⟨a10_1, t10_1⟩ := t10_0.inv
   obtain ⟨a10_2, t10_2⟩ := t10_1.inv
   obtain ⟨a10_3, t10_3⟩ := t10_2.inv
   obtain ⟨a10_4, t10_4⟩ := t10_3.inv
   obtain ⟨a10_5, t10_5⟩ := t10_4.inv
   obtain ⟨a10_6, t10_6⟩ := t10_5.inv
   exact ⟨⟨i0, i1, i2, i3, i4, i5, i6, i7, i8, i9, i10⟩, .cons a0_0 (.cons a0_1 (.cons a0_2 (.cons a0_3 (.cons (rep0_C (show Rep0 (.int .i64 i1) _ from rfl)) (.cons s2 (.cons a3_0 (.cons a3_1 (.cons (rep0_C (show Rep0 (.int .i64 i4) _ from rfl)) (.cons (rep0_C (show Rep0 (.int .i64 i5) _ from rfl)) (.cons a6_0 (.cons a6_1 (.cons a6_2 (.cons a6_3 (.cons a6_4 (.cons (rep0_C (show Rep0 (.int .i64 i7) _ from rfl)) (.cons (rep0_C (show Rep0 (.int .i64 i8) _ from rfl)) (.cons a9_0 (.cons a9_1 (.cons a9_2 (.cons a10_0 (.cons a10_1 (.cons a10_2 (.cons a10_3 (.cons a10_4 (.cons a10_5 (.cons a10_6 .nil)))))))))))))))))))))))))), ⟨k0, bounds_i64 w1, ⟨l2, k2⟩, k3, bounds_i64 w4, bounds_i64 w5, k6, bounds_i64 w7, bounds_i64 w8, k9, k10⟩⟩
theorem cof_laws_Dec : Tryz.prog.cellsOf 48 = 27 := by kernel_rfl
theorem e_str {H : Type} {tok : TypeId × Value → H} {w : World} {sp : Nat → Bool} {held : Bool} (fuel : Nat) (cs : List Value) (x : DataW H × List MemPlace) (hl : cs.length = 1) (h : DataW.trod tok Tryz.prog w 0 sp held fuel 9 cs = some x) : ∃ y : List UInt8, All2 Rep0 (enc .str y) cs ∧ Le63 y.length := by
 obtain ⟨i, rfl, _, hw⟩ := DataW.trod_string Tryz.underlying9 h
 exact ⟨i.data.toList, .cons str_rep .nil, str_le hw⟩
end Go.Proofs.YtpchkcpcdbdhdaaGreat.Ax
