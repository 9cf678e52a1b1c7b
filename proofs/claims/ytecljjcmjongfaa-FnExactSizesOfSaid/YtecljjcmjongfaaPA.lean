/- Sizes: the program. -/
import Derived.Test.YtecljjcmjongfaaM4
import Derived.Test.YtecljjcmjongfaaNF
namespace Go.Proofs.Ytecljjcmjongfaa.Ax
open Go.RowKit
set_option linter.unusedSimpArgs false
set_option linter.unusedVariables false
structure nums_i_V0 where
  z : Sz
  out : List UInt8
def nums_i_F0 (z : Sz) (f : Fld) : Fam := ⟨nums_i_V0, fun q1 => [(0, .v (vP 0)), (3, .v (vP 2)), (5, .v (vI z.at_)), (6, .v (vI (wireOf f.kind))), (7, .v (vT q1.out))], fun q1 => [.cells (oSz6 1 q1.z), .lst .int q1.z.sizes, .cells (cFld f)], fun q1 => NInv f z q1.z q1.out, fun q1 => runL f (tl q1.z)⟩

theorem nums_i (z : Sz) (f : Fld) (hp1 : (0 : Int) ≤ (z).at_) (hp2 : EvsB (z).list) (hp3 : List.length (z).sizes = List.length (z).list) (hp4 : 1 ≤ runL f (tl z)) (hp5 : runL f (tl z) < List.length (tl z)) : Fun Try.prog 145 [vP 0, .agg (cFld f)] [.cells (oSz6 1 z), .lst .int z.sizes] (.v (vT (numsM f (tl z)))) [.cells (oSz6 1 (numsZ z f)), .lst .int (numsZ z f).sizes] := by
  have hN : bigN = 274877906944 := rfl
  have hwo := wireOf_b f.kind
  have h64 : i64max = 9223372036854775807 := rfl
  have ht1 := tagOf_b f.number (wireOf f.kind)
  have ht2 := tagOf_b f.number 2
  have hq1 := putVar_len (u := tagOf f.number (wireOf f.kind)) (by omega)
  have hq2 := putVar_len (u := tagOf f.number 2) (by omega)
  have hfo := fun (b : List UInt8) (h : b.length ≤ 10485760) => frameOf_len (b := b) (by omega)
  refine fun_ofw Try.func145 (by kernel_rfl) (by kernel_rfl) (w := let z17 := wireOf f.kind; let z16 := tagOf f.number z17; let z18 := tagOf f.number 2; let z19 : List Blk := [.cells (oSz6 1 (numsZ z f)), .lst .int (numsZ z f).sizes]; let z20 := putVar z16; let z21 := vT (numsM f (tl z)); let z22 := nums_i_F0 z f; let z23 := putVar z18; let z24 := widthOf z17; (.seg [.ord (os 9 [6]) [], .call [] (.v (vI z17)) [], .at 0, .keep [0, 3, 5, 6, 7], .sel [0, 1, 2]] (.loop z22 fun q1 => .intro (fun (x1 : Ev) => q1.z.list[q1.z.at_.toNat]? = some x1) fun x1 => .case (decide (x1.kind = 2)) (.seg [.ord (os 28 []) [], .el .ev x1, .br true, .el .ev x1] (.br (.seg [.ord (os 12 []) [], .el .ev x1, .call [] (.v (vI z24)) []] (.br (.seg [.call [] (.v (vT (putFix x1.bits z24))) [], .as 73 (.v (vI (q1.z.at_ + 1)))] (.br (.seg [.call [] (.v (.c (.int .u64 z16))) [], .call [] (.v (vT z20)) []] (.leaf () [0, 1])) (.seg [.at 0, .keep [0, 3, 5, 6, 7], .sel [0, 1, 2]] (.next)))) (.seg [.call [] (.v (vT (putVar x1.bits))) [], .as 73 (.v (vI (q1.z.at_ + 1)))] (.br (.seg [.call [] (.v (.c (.int .u64 z16))) [], .call [] (.v (vT z20)) []] (.leaf () [0, 1])) (.seg [.at 0, .keep [0, 3, 5, 6, 7], .sel [0, 1, 2]] (.next)))))) (.intro (fun (x2 : Int) => q1.z.sizes[z.at_.toNat]? = some x2) fun x2 => .seg [.el .int x2, .call [] (.v (.c (.int .u64 z18))) [], .call [] (.v (vT z23)) [], .call [] (.v (vT (frameOf q1.out))) []] (.leaf () [0, 1])))) (.seg [.ord (os 28 []) [], .el .ev x1, .br false] (.intro (fun (x2 : Int) => q1.z.sizes[z.at_.toNat]? = some x2) fun x2 => .seg [.el .int x2, .call [] (.v (.c (.int .u64 z18))) [], .call [] (.v (vT z23)) [], .call [] (.v (vT (frameOf q1.out))) []] (.leaf () [0, 1])))), (Fun Try.prog 131 [vI f.kind] [] (.v (vI z17)) []) ∧ z22.Has [(0, .v (vP 0)), (3, .v (vP 2)), (5, .v (vI z.at_)), (6, .v (vI z17)), (7, .v (vT []))] [.cells (oSz6 1 z), .lst .int z.sizes, .cells (cFld f)] ∧ ∀ q1, z22.inv q1 → (let z7 := (0 : Int) ≤ q1.z.at_; let z8 := ([.cells (oSz6 1 q1.z), .lst .int (List.set q1.z.sizes (z.at_.toNat) (q1.out.length : Int))] : List Blk); let z12 := ∃ (x2 : Int), q1.z.sizes[z.at_.toNat]? = some x2; let z13 := z.at_ < (q1.z.sizes.length : Int); let z14 := frameOf q1.out; let z9 := ((z23.length + z14.length : Nat) : Int) ≤ i64max; let z11 := (.v (vT (z23 ++ z14)) : S); let z15 := q1.z.at_ + 1; let z5 := ([.cells [.seq .shp q1.z.plan.shapes, .int .i64 q1.z.plan.root, .int .i64 q1.z.plan.deep, .int .i64 q1.z.plan.most, .seq .ev q1.z.list, .int .i64 z15, .own 1], .lst .int q1.z.sizes] : List Blk); let z6 : List Blk := [.cells [.seq .shp q1.z.plan.shapes, .int .i64 q1.z.plan.root, .int .i64 q1.z.plan.deep, .int .i64 q1.z.plan.most, .seq .ev q1.z.list, .int .i64 z15, .own 1], .lst .int q1.z.sizes, .cells (cFld f)]; let z10 := (.v (vI (IntKind.i64.wrap z15)) : S) = .v (vI z15); (∃ (x1 : Ev), q1.z.list[q1.z.at_.toNat]? = some x1) ∧ ∀ (x1 : Ev), (q1.z.list[q1.z.at_.toNat]? = some x1) → (let z1 := q1.z.list[q1.z.at_.toNat]? = some x1; let z2 := putFix x1.bits z24; let z3 := decide (x1.kind = 2); let z4 := putVar x1.bits; (z3 = true → z1 ∧ z7 ∧ z1 ∧ z7 ∧ (z3 = true) ∧ z1 ∧ z7 ∧ z1 ∧ z7 ∧ ((decide (x1.field = f.number)) = true → z1 ∧ z7 ∧ z1 ∧ z7 ∧ (Fun Try.prog 136 [vI z17] [] (.v (vI z24)) []) ∧ ((decide (0 < widthOf z17)) = true → (Fun Try.prog 171 [.c (.int .u64 x1.bits), vI z24] [] (.v (vT z2)) []) ∧ (((q1.out.length + z2.length : Nat) : Int) ≤ i64max) ∧ z10 ∧ ((!f.packed) = true → (Fun Try.prog 148 [vI f.number, vI z17] [] (.v (.c (.int .u64 z16))) []) ∧ (Fun Try.prog 147 [.c (.int .u64 z16)] [] (.v (vT z20)) []) ∧ (((z20.length + List.length (q1.out ++ z2) : Nat) : Int) ≤ i64max) ∧ (.v (vT (z20 ++ (q1.out ++ z2))) : S) = .v z21 ∧ z5 = z19) ∧ ((!f.packed) = false → z22.Nxt q1 [(0, .v (vP 0)), (3, .v (vP 2)), (5, .v (vI z.at_)), (6, .v (vI z17)), (7, .v (vT (q1.out ++ z2)))] z6)) ∧ ((decide (0 < widthOf z17)) = false → (Fun Try.prog 147 [.c (.int .u64 x1.bits)] [] (.v (vT z4)) []) ∧ (((q1.out.length + z4.length : Nat) : Int) ≤ i64max) ∧ z10 ∧ ((!f.packed) = true → (Fun Try.prog 148 [vI f.number, vI z17] [] (.v (.c (.int .u64 z16))) []) ∧ (Fun Try.prog 147 [.c (.int .u64 z16)] [] (.v (vT z20)) []) ∧ (((z20.length + List.length (q1.out ++ z4) : Nat) : Int) ≤ i64max) ∧ (.v (vT (z20 ++ (q1.out ++ z4))) : S) = .v z21 ∧ z5 = z19) ∧ ((!f.packed) = false → z22.Nxt q1 [(0, .v (vP 0)), (3, .v (vP 2)), (5, .v (vI z.at_)), (6, .v (vI z17)), (7, .v (vT (q1.out ++ z4)))] z6))) ∧ ((decide (x1.field = f.number)) = false → z12 ∧ ∀ (x2 : Int), (q1.z.sizes[z.at_.toNat]? = some x2) → (z13 ∧ ((0 : Int) ≤ z.at_) ∧ (q1.z.sizes[z.at_.toNat]? = some x2) ∧ (Fun Try.prog 148 [vI f.number, vI 2] [] (.v (.c (.int .u64 z18))) []) ∧ (Fun Try.prog 147 [.c (.int .u64 z18)] [] (.v (vT z23)) []) ∧ (Fun Try.prog 149 [vT q1.out] [] (.v (vT z14)) []) ∧ z9 ∧ z11 = .v z21 ∧ z8 = z19))) ∧ (z3 = false → z1 ∧ z7 ∧ z1 ∧ z7 ∧ (z3 = false) ∧ z12 ∧ ∀ (x2 : Int), (q1.z.sizes[z.at_.toNat]? = some x2) → (z13 ∧ ((0 : Int) ≤ z.at_) ∧ (q1.z.sizes[z.at_.toNat]? = some x2) ∧ (Fun Try.prog 148 [vI f.number, vI 2] [] (.v (.c (.int .u64 z18))) []) ∧ (Fun Try.prog 147 [.c (.int .u64 z18)] [] (.v (vT z23)) []) ∧ (Fun Try.prog 149 [vT q1.out] [] (.v (vT z14)) []) ∧ z9 ∧ z11 = .v z21 ∧ z8 = z19)))))) (by kernel_rfl) ?_
  refine ⟨(wireOf_i _), has_of (j := (⟨z, []⟩ : nums_i_V0)) rfl rfl (by dsimp only [nums_i_F0]; exact NInv.refl hp5), fun (q1 : nums_i_V0) hq_q1 => ?_⟩
  have hi_q1 : NInv f z q1.z q1.out := hq_q1
  have hin := hi_q1.in_ hp1
  have hlo := hi_q1.lo
  have hrm := nums_room hi_q1 hp2
  have hl1 := hp2.1
  have hli := congrArg List.length hi_q1.li
  have hsz := congrArg List.length hi_q1.sz
  refine ⟨(ax_get (l := q1.z.list) (i := q1.z.at_.toNat) (by omega)), fun x1 hx1 => ?_⟩
  have he := hp2.2.2 x1 (by rw [← hi_q1.li]; exact List.mem_of_getElem? hx1)
  have hbu := he.2
  have hwb := widthOf_b (wireOf f.kind)
  refine ⟨fun h1 => have p1 := of_decide_eq_true h1; ?_, fun h1 => have p1 := of_decide_eq_false h1; ?_⟩
  refine ⟨hx1, (by omega), hx1, (by omega), h1, hx1, (by omega), hx1, (by omega), fun h2 => have p2 := of_decide_eq_true h2; ?_, fun h2 => have p2 := of_decide_eq_false h2; ?_⟩
  refine ⟨hx1, (by omega), hx1, (by omega), (widthOf_i _), fun h3 => have p3 := of_decide_eq_true h3; ?_, fun h3 => have p3 := of_decide_eq_false h3; ?_⟩
  have hbb : putNum f x1.bits = putFix x1.bits (widthOf (wireOf f.kind)) := by unfold putNum; rw [if_pos p3]
  have hpl := putNum_len (f := f) (u := x1.bits) hbu.2
  rw [hbb] at hpl
  refine ⟨(putFix_i _ _ (by omega)), (by omega), (as_i64 (by omega) (by omega)), fun h4 => have q4 := bnot_t h4; ?_, fun h4 => have q4 := bnot_f h4; ?_⟩
  have hpk : f.packed = false := bnot_t h4
  obtain ⟨ho1, ho2, ho3, ho4⟩ := hi_q1.only hpk hx1
  rw [hbb] at ho3
  refine ⟨(tagOf_i _ _), (putVar_i _ (by omega)), (by simp only [List.length_append]; omega), ?_⟩
  refine have hm1 : numsZ z f = (⟨q1.z.plan, q1.z.list, q1.z.at_ + 1, q1.z.sizes⟩ : Sz) := ?_; ?_
  rotate_left
  refine ⟨(congrArg S.v (congrArg V.c (congrArg C.str ?_))), (by rw [hm1] <;> rfl)⟩
  rotate_left
  have hpk : f.packed = true := bnot_f h4
  have hnx := hi_q1.next hp1 hx1 (by omega) (by omega) hpk hbb.symm
  exact nxt_of (j := (⟨(⟨q1.z.plan, q1.z.list, q1.z.at_ + 1, q1.z.sizes⟩ : Sz), q1.out ++ (putFix x1.bits (widthOf (wireOf f.kind)))⟩ : nums_i_V0)) rfl (by first | rfl | simp) (by dsimp only [nums_i_F0]; exact hnx.1) (by dsimp only [nums_i_F0]; exact hnx.2)
  have hbb : putNum f x1.bits = putVar x1.bits := by unfold putNum; rw [if_neg p3]
  have hpl := putNum_len (f := f) (u := x1.bits) hbu.2
  rw [hbb] at hpl
  refine ⟨(putVar_i _ (by omega)), (by omega), (as_i64 (by omega) (by omega)), fun h4 => have q4 := bnot_t h4; ?_, fun h4 => have q4 := bnot_f h4; ?_⟩
  have hpk : f.packed = false := bnot_t h4
  obtain ⟨ho1, ho2, ho3, ho4⟩ := hi_q1.only hpk hx1
  rw [hbb] at ho3
  refine ⟨(tagOf_i _ _), (putVar_i _ (by omega)), (by simp only [List.length_append]; omega), ?_⟩
  refine have hm1 : numsZ z f = (⟨q1.z.plan, q1.z.list, q1.z.at_ + 1, q1.z.sizes⟩ : Sz) := ?_; ?_
  rotate_left
  refine ⟨(congrArg S.v (congrArg V.c (congrArg C.str ?_))), (by rw [hm1] <;> rfl)⟩
  rotate_left
  have hpk : f.packed = true := bnot_f h4
  have hnx := hi_q1.next hp1 hx1 (by omega) (by omega) hpk hbb.symm
  exact nxt_of (j := (⟨(⟨q1.z.plan, q1.z.list, q1.z.at_ + 1, q1.z.sizes⟩ : Sz), q1.out ++ (putVar x1.bits)⟩ : nums_i_V0)) rfl (by first | rfl | simp) (by dsimp only [nums_i_F0]; exact hnx.1) (by dsimp only [nums_i_F0]; exact hnx.2)
  have hst := hi_q1.stop hx1 (by omega) hp4
  have hvr := vals_room (f := f) hp2 (numsN f (tl z))
  rw [← hst.2.1] at hvr
  have hfq := hfo q1.out hvr
  refine ⟨(ax_get (l := q1.z.sizes) (i := z.at_.toNat) (by omega)), fun x2 hx2 => ?_⟩
  refine ⟨(by omega), (by omega), hx2, (tagOf_i _ _), (putVar_i _ (by omega)), (frameOf_i _ (by omega)), (by omega), ?_⟩
  refine have hm1 : numsZ z f = (⟨q1.z.plan, q1.z.list, q1.z.at_, List.set q1.z.sizes (z.at_.toNat) (q1.out.length : Int)⟩ : Sz) := ?_; ?_
  rotate_left
  refine ⟨(congrArg S.v (congrArg V.c (congrArg C.str ?_))), (by rw [hm1] <;> rfl)⟩
  rotate_left
  have hst := hi_q1.stop hx1 (by omega) hp4
  have hvr := vals_room (f := f) hp2 (numsN f (tl z))
  rw [← hst.2.1] at hvr
  have hfq := hfo q1.out hvr
  refine ⟨hx1, (by omega), hx1, (by omega), h1, (ax_get (l := q1.z.sizes) (i := z.at_.toNat) (by omega)), fun x2 hx2 => ?_⟩
  refine ⟨(by omega), (by omega), hx2, (tagOf_i _ _), (putVar_i _ (by omega)), (frameOf_i _ (by omega)), (by omega), ?_⟩
  refine have hm1 : numsZ z f = (⟨q1.z.plan, q1.z.list, q1.z.at_, List.set q1.z.sizes (z.at_.toNat) (q1.out.length : Int)⟩ : Sz) := ?_; ?_
  rotate_left
  refine ⟨(congrArg S.v (congrArg V.c (congrArg C.str ?_))), (by rw [hm1] <;> rfl)⟩
  rotate_left
  all_goals first | (simp_all [numsM, tagP]; done) | (grind [numsM, tagP, numsZ])
structure text_z_V0 where
  z : Sz
  out : List UInt8
def text_z_F0 (z : Sz) : Fam := ⟨text_z_V0, fun q1 => [(0, .v (vP 0)), (3, .v (vT q1.out))], fun q1 => [.cells (oSz6 1 q1.z), .lst .int q1.z.sizes], fun q1 => TInv z q1.z q1.out, fun q1 => ptL (tl q1.z)⟩

theorem text_z (z : Sz) (hp1 : (0 : Int) ≤ (z).at_) (hp2 : EvsB (z).list) (hp3 : (z).at_ + 1 ≤ ((List.length (z).list : Nat) : Int)) (hp4 : ptL (List.drop 1 (tl z)) < List.length (List.drop 1 (tl z))) : Fun Try.prog 146 [vP 0] [.cells (oSz6 1 z), .lst .int z.sizes] (.v (vT (txt z))) [.cells (oSz6 1 (textZ z)), .lst .int (textZ z).sizes] := by
  have hN : bigN = 274877906944 := rfl
  have hl0 := hp2.1
  have h64 : i64max = 9223372036854775807 := rfl
  refine fun_ofw Try.func146 (by kernel_rfl) (by kernel_rfl) (w := let z6 := text_z_F0 z; (.seg [.as 8 (.v (vI (z.at_ + 1))), .at 0, .keep [0, 3], .sel [0, 1]] (.loop z6 fun q1 => .intro (fun (x1 : Ev) => q1.z.list[q1.z.at_.toNat]? = some x1) fun x1 => .seg [.ord (os 12 []) [], .el .ev x1] (.br (.seg [.ord (os 14 []) [], .el .ev x1, .as 27 (.v (vI (q1.z.at_ + 1))), .at 0, .keep [0, 3], .sel [0, 1]] (.next)) (.seg [.as 47 (.v (vI (q1.z.at_ + 1)))] (.leaf () [0, 1])))), ((.v (vI (IntKind.i64.wrap (z.at_ + 1))) : S) = .v (vI (z.at_ + 1))) ∧ z6.Has [(0, .v (vP 0)), (3, .v (vT []))] [.cells [.seq .shp z.plan.shapes, .int .i64 z.plan.root, .int .i64 z.plan.deep, .int .i64 z.plan.most, .seq .ev z.list, .int .i64 (z.at_ + 1), .own 1], .lst .int z.sizes] ∧ ∀ q1, z6.inv q1 → (let z3 : List Blk := [.cells [.seq .shp q1.z.plan.shapes, .int .i64 q1.z.plan.root, .int .i64 q1.z.plan.deep, .int .i64 q1.z.plan.most, .seq .ev q1.z.list, .int .i64 (q1.z.at_ + 1), .own 1], .lst .int q1.z.sizes]; let z4 := (.v (vI (IntKind.i64.wrap (q1.z.at_ + 1))) : S) = .v (vI (q1.z.at_ + 1)); let z5 := (0 : Int) ≤ q1.z.at_; (∃ (x1 : Ev), q1.z.list[q1.z.at_.toNat]? = some x1) ∧ ∀ (x1 : Ev), (q1.z.list[q1.z.at_.toNat]? = some x1) → (let z1 := q1.z.list[q1.z.at_.toNat]? = some x1; let z2 := ((q1.out.length + x1.text.length : Nat) : Int) ≤ i64max; z1 ∧ z5 ∧ z1 ∧ z5 ∧ ((decide (x1.kind = 4)) = true → z1 ∧ z5 ∧ z1 ∧ z5 ∧ z2 ∧ z2 ∧ z4 ∧ z6.Nxt q1 [(0, .v (vP 0)), (3, .v (vT (q1.out ++ x1.text)))] z3) ∧ ((decide (x1.kind = 4)) = false → z4 ∧ (.v (vT q1.out) : S) = .v (vT (txt z)) ∧ (z3 : List Blk) = [.cells (oSz6 1 (textZ z)), .lst .int (textZ z).sizes]))))) (by kernel_rfl) ?_
  refine ⟨(as_i64 (by omega) (by omega)), has_of (j := (⟨(⟨z.plan, z.list, z.at_ + 1, z.sizes⟩ : Sz), []⟩ : text_z_V0)) rfl (by first | rfl | simp) (by dsimp only [text_z_F0]; exact TInv.refl hp1 hp4), fun (q1 : text_z_V0) hq_q1 => ?_⟩
  have hi_q1 : TInv z q1.z q1.out := hq_q1
  have hin := hi_q1.in_ hp1
  have hlo := hi_q1.lo
  have hl1 := hp2.1
  have hli := congrArg List.length hi_q1.li
  refine ⟨(ax_get (l := q1.z.list) (i := q1.z.at_.toNat) (by omega)), fun x1 hx1 => ?_⟩
  refine ⟨hx1, (by omega), hx1, (by omega), fun h1 => have p1 := of_decide_eq_true h1; ?_, fun h1 => have p1 := of_decide_eq_false h1; ?_⟩
  have hnx := hi_q1.next hp1 hx1 p1
  have hrx := txt_room hnx.1 hp2
  rw [List.length_append] at hrx
  exact ⟨hx1, (by omega), hx1, (by omega), (by omega), (by omega), (as_i64 (by omega) (by omega)), nxt_of (j := (⟨(⟨q1.z.plan, q1.z.list, q1.z.at_ + 1, q1.z.sizes⟩ : Sz), q1.out ++ x1.text⟩ : text_z_V0)) rfl (by first | rfl | simp) (by dsimp only [text_z_F0]; exact hnx.1) (by dsimp only [text_z_F0]; exact hnx.2)⟩
  have hst := hi_q1.stop hx1 p1
  refine ⟨(as_i64 (by omega) (by omega)), ?_⟩
  refine have hm1 : textZ z = (⟨q1.z.plan, q1.z.list, q1.z.at_ + 1, q1.z.sizes⟩ : Sz) := ?_; ?_
  rotate_left
  refine ⟨(congrArg S.v (congrArg V.c (congrArg C.str ?_))), (by rw [hm1] <;> rfl)⟩
  rotate_left
  all_goals first | (exact hst.1) | (exact hst.2) | (exact hst.2.symm) | (grind)
end Go.Proofs.Ytecljjcmjongfaa.Ax
