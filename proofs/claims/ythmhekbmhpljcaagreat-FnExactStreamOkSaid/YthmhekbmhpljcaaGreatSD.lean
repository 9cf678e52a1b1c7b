/- Decoders: what is valid, at last. -/
import Derived.Test.YthmhekbmhpljcaaGreatSC
namespace Go.Proofs.YthmhekbmhpljcaaGreat.Ax
open Go.RowKit
set_option linter.unusedSimpArgs false
set_option linter.unusedVariables false
theorem scn_zero {s : Scn} : s = scn0 ↔ s.bits = 0 ∧ s.have_ = 0 := ⟨fun h => by subst h; exact ⟨rfl, rfl⟩, fun h => by cases s; simp_all [scn0]⟩
theorem fld_zeroI {f : Fld} : f = fld0 ↔ f.number = 0 ∧ f.kind = 0 ∧ f.rep = false ∧ f.packed = false ∧ f.msg = 0 := ⟨fun h => by subst h; exact ⟨rfl, rfl, rfl, rfl, rfl⟩, fld_zero⟩
theorem ev_zero {e : Ev} : e = ev0 ↔ e.kind = 0 ∧ e.field = 0 ∧ e.bits = 0 ∧ e.len = 0 ∧ e.text = [] ∧ e.code = 0 ∧ e.at_ = 0 := ⟨fun h => by subst h; exact ⟨rfl, rfl, rfl, rfl, rfl, rfl, rfl⟩, fun h => ev_eq h⟩
theorem widthD_b (d : Dcd) : 0 ≤ widthD d ∧ widthD d ≤ 8 := by
  unfold widthD
  have h1 := widthOf_b d.wire
  have h2 := widthOf_b (wireOf d.field.kind)
  split
  · exact h1
  · split
    · exact h2
    · omega
structure stackS_s_V0 where
  i : Nat
def stackS_s_F0 (d : Dcd) : Fam := ⟨stackS_s_V0, fun q1 => [(1, .v (vP 0)), (3, .v (vI (d.stack.length : Int))), (4, .v (vI (q1.i : Int)))], fun _ => [.cells (cDcd d)], fun q1 => q1.i ≤ d.stack.length ∧ levN (d.plan.shapes.length : Int) (List.drop q1.i d.stack) + q1.i = levN (d.plan.shapes.length : Int) d.stack, fun q1 => d.stack.length - q1.i⟩

theorem stackS_s (d : Dcd) (hp1 : List.length (d).stack ≤ bigN) (hp2 : List.length (d).plan.shapes ≤ 1000) : Fun Tryz.prog 63 [.agg (cDcd d)] [] (.v (vB (stackS d))) [] := by
  have hN : bigN = 274877906944 := rfl
  refine fun_ofw Tryz.func63 (by kernel_rfl) (by kernel_rfl) (w := let z7 := (d.plan.shapes.length : Int) - 1; let z8 := (d.stack.length : Int); let z9 := (.v (vI (IntKind.i64.wrap z7)) : S) = .v (vI z7); let z10 := within z8 1 d.plan.deep; let z11 := vB (stackS d); let z12 := ([] : List Blk); let z13 := stackS_s_F0 d; let z14 := (.v (vB false) : S); (.seg [.at 0, .keep [1, 3, 4], .sel [0]] (.loop z13 fun q1 => .br (.intro (fun (x1 : Lev) => d.stack[q1.i]? = some x1) fun x1 => let z1 := within x1.msg 0 z7; .case (!z1) (.seg [.ord (os 24 [12, 21]) [], .el .lev x1, .as 24 (.v (vI z7)), .call [] (.v (vB z1)) [], .br true] (.leaf () [])) (.seg [.ord (os 24 [12, 21]) [], .el .lev x1, .as 24 (.v (vI z7)), .call [] (.v (vB z1)) [], .br false, .el .lev x1, .call [] (.v (vB (within x1.left 0 2000))) []] (.br (.leaf () []) (.seg [.as 12 (.v (vI ((q1.i : Int) + 1))), .at 0, .keep [1, 3, 4], .sel [0]] (.next))))) (.br (.leaf () []) (.br (.leaf () []) (.seg [.call [] (.v (vB z10)) []] (.br (.seg [.call [] (.v (vI (topL d))) []] (.leaf () [])) (.leaf () [])))))), z13.Has [(1, .v (vP 0)), (3, .v (vI z8)), (4, .v (vI 0))] [.cells (cDcd d)] ∧ ∀ q1, z13.inv q1 → (let z6 := (q1.i : Int); ((decide (z6 < z8)) = true → (∃ (x1 : Lev), d.stack[q1.i]? = some x1) ∧ ∀ (x1 : Lev), (d.stack[q1.i]? = some x1) → (let z2 := within x1.msg 0 z7; let z3 := d.stack[q1.i]? = some x1; let z4 : List V := [vI x1.msg, vI 0, vI z7]; let z5 := within x1.left 0 2000; ((!z2) = true → z3 ∧ ((0 : Int) ≤ z6) ∧ z3 ∧ ((0 : Int) ≤ z6) ∧ z9 ∧ z9 ∧ (Fun Tryz.prog 58 z4 [] (.v (vB z2)) []) ∧ ((!z2) = true) ∧ z14 = .v z11 ∧ z12 = []) ∧ ((!z2) = false → z3 ∧ ((0 : Int) ≤ z6) ∧ z3 ∧ ((0 : Int) ≤ z6) ∧ z9 ∧ z9 ∧ (Fun Tryz.prog 58 z4 [] (.v (vB z2)) []) ∧ ((!z2) = false) ∧ z3 ∧ ((0 : Int) ≤ z6) ∧ z3 ∧ ((0 : Int) ≤ z6) ∧ (Fun Tryz.prog 58 [vI x1.left, vI 0, vI 2000] [] (.v (vB z5)) []) ∧ ((!z5) = true → z14 = .v z11 ∧ z12 = []) ∧ ((!z5) = false → ((.v (vI (IntKind.i64.wrap (z6 + 1))) : S) = .v (vI (z6 + 1))) ∧ z13.Nxt q1 [(1, .v (vP 0)), (3, .v (vI z8)), (4, .v (vI (z6 + 1)))] [.cells (cDcd d)])))) ∧ ((decide (z6 < z8)) = false → ((decide (d.mode = 1)) = true → (.v (vB (decide (z8 = 0))) : S) = .v z11 ∧ z12 = []) ∧ ((decide (d.mode = 1)) = false → ((decide (d.mode = 9)) = true → (.v (vB (decide (z8 ≤ d.plan.deep))) : S) = .v z11 ∧ z12 = []) ∧ ((decide (d.mode = 9)) = false → (Fun Tryz.prog 58 [vI z8, vI 1, vI d.plan.deep] [] (.v (vB z10)) []) ∧ (z10 = true → (Fun Tryz.prog 66 [.agg (cDcd d)] [] (.v (vI (topL d))) []) ∧ (.v (vB (decide (1 ≤ topL d))) : S) = .v z11 ∧ z12 = []) ∧ (z10 = false → z14 = .v z11 ∧ z12 = []))))))) (by kernel_rfl) ?_
  refine ⟨has_of (j := (⟨0⟩ : stackS_s_V0)) (by first | rfl | simp) rfl (by dsimp only [stackS_s_F0]; exact ⟨by omega, rfl⟩), fun (q1 : stackS_s_V0) hq_q1 => ?_⟩
  have hi_q1 : q1.i ≤ d.stack.length ∧ levN (d.plan.shapes.length : Int) (List.drop q1.i d.stack) + q1.i = levN (d.plan.shapes.length : Int) d.stack := hq_q1
  obtain ⟨v1, v2⟩ := hi_q1
  refine ⟨fun h1 => have p1 := of_decide_eq_true h1; ?_, fun h1 => have p1 := of_decide_eq_false h1; ?_⟩
  refine ⟨(ax_get (l := d.stack) (i := q1.i) (by omega)), fun x1 hx1 => ?_⟩
  rw [drop_el hx1, levN_cons] at v2
  refine ⟨fun h2 => have q2 := bnot_t h2; have p2 := within_f q2; ?_, fun h2 => have q2 := bnot_f h2; have p2 := within_t q2; ?_⟩
  refine ⟨hx1, (by omega), hx1, (by omega), (as_i64 (by omega) (by omega)), (as_i64 (by omega) (by omega)), (within_s _ _ _), h2, (sB ?_), rfl⟩
  rotate_left
  refine ⟨hx1, (by omega), hx1, (by omega), (as_i64 (by omega) (by omega)), (as_i64 (by omega) (by omega)), (within_s _ _ _), h2, hx1, (by omega), hx1, (by omega), (within_s _ _ _), fun h3 => have q3 := bnot_t h3; have p3 := within_f q3; ?_, fun h3 => have q3 := bnot_f h3; have p3 := within_t q3; ?_⟩
  refine ⟨(sB ?_), rfl⟩
  rotate_left
  exact ⟨(as_i64 (by omega) (by omega)), nxt_of (j := (⟨q1.i + 1⟩ : stackS_s_V0)) (by first | rfl | simp) rfl (by dsimp only [stackS_s_F0]; exact ⟨by omega, by simp_all [levOk]; omega⟩) (by dsimp only [stackS_s_F0]; omega)⟩
  have hal : List.all d.stack (levOk (d.plan.shapes.length : Int)) = true := by rw [levN_all]; rw [List.drop_eq_nil_of_le (by omega)] at v2; simp only [levN] at v2; exact decide_eq_true (by omega)
  refine ⟨fun h2 => have p2 := of_decide_eq_true h2; ?_, fun h2 => have p2 := of_decide_eq_false h2; ?_⟩
  refine ⟨(sB ?_), rfl⟩
  rotate_left
  refine ⟨fun h3 => have p3 := of_decide_eq_true h3; ?_, fun h3 => have p3 := of_decide_eq_false h3; ?_⟩
  refine ⟨(sB ?_), rfl⟩
  rotate_left
  refine ⟨(within_s _ _ _), fun h4 => have p4 := within_t h4; ?_, fun h4 => have p4 := within_f h4; ?_⟩
  refine ⟨(topL_s d (by omega)), (sB ?_), rfl⟩
  rotate_left
  refine ⟨(sB ?_), rfl⟩
  rotate_left
  all_goals first | (simp_all [stackS]; done) | ((have hal : List.all d.stack (levOk (d.plan.shapes.length : Int)) = false := (by rw [levN_all]; rw [if_neg (by simp_all [levOk])] at v2; exact decide_eq_false (by have := congrArg List.length (drop_el hx1); simp only [List.length_drop, List.length_cons] at this; omega)); simp [stackS, hal]; done)) | (grind [stackS])
theorem scanS_s (d : Dcd) (hp1 : List.length (d).stack ≤ bigN) : Fun Tryz.prog 70 [.agg (cDcd d)] [] (.v (vB (scanS d))) [] := by
  have hN : bigN = 274877906944 := rfl
  have hwd := widthD_b d
  refine fun_ofw Tryz.func70 (by kernel_rfl) (by kernel_rfl) (w := let z3 := 8 * d.scan.have_; let z4 := decide (Int.fdiv d.scan.bits (2 ^ min (z3.toNat) 64) = 0); let z8 := vB (scanOk d.scan); let z9 := (.v (vB (decide (d.scan.bits = 0) && decide (d.scan.have_ = 0))) : S); let z10 := decide (d.mode = 8); let z11 := ([] : List Blk); let z12 := vB (scanS d); let z13 := widthD d - 1; let z2 := within d.scan.have_ 0 z13; let z5 := z2 = false → (.v (vB false) : S) = .v z12 ∧ z11 = []; let z14 := (.v (.c (.int .u64 (IntKind.u64.wrap z3))) : S) = .v (.c (.int .u64 z3)); let z15 := decide (widthD d = 0); let z16 := z4 = false → (.v (vB false) : S) = .v z12 ∧ z11 = []; let z17 := vI (topL d); let z18 : List V := [vI d.scan.have_, vI 0, vI z13]; let z19 := (.v (vI (IntKind.i64.wrap z3)) : S) = .v (vI z3); let z21 := decide (d.mode = 6); let z22 := decide (d.mode = 7); let z23 := decide (d.mode = 5); let z24 := widthD d; let z6 := (.v (vI (IntKind.i64.wrap (z24 - 1))) : S) = .v (vI z13); let z7 := z24 - d.scan.have_; let z20 := (.v (vI (IntKind.i64.wrap z7)) : S) = .v (vI z7); let z1 := z2 = true → z19 ∧ z14 ∧ ((0 : Int) ≤ 8 * d.scan.have_) ∧ (z4 = true → z20 ∧ (.v (vB (decide (z24 - d.scan.have_ ≤ d.want))) : S) = .v z12 ∧ z11 = []) ∧ z16; (.seg [.call [] (.v (vI z24)) []] (.br (.seg [.br true] (.leaf () [])) (.br (.seg [.br true] (.leaf () [])) (.br (.leaf () []) (.br (.seg [.br true] (.br (.br (.seg [.call [] (.v z8) []] (.leaf () [])) (.seg [.call [] (.v z17) [], .br true, .as 41 (.v (vI z13)), .call [] (.v (vB z2)) []] (.br (.seg [.as 50 (.v (vI z3)), .as 51 (.v (.c (.int .u64 z3)))] (.br (.seg [.as 60 (.v (vI z7))] (.leaf () [])) (.leaf () []))) (.leaf () [])))) (.seg [.call [] (.v z17) [], .br false, .as 41 (.v (vI z13)), .call [] (.v (vB z2)) []] (.br (.seg [.as 50 (.v (vI z3)), .as 51 (.v (.c (.int .u64 z3)))] (.br (.seg [.as 60 (.v (vI z7))] (.leaf () [])) (.leaf () []))) (.leaf () []))))) (.br (.seg [.br true] (.br (.seg [.call [] (.v z8) []] (.leaf () [])) (.seg [.call [] (.v z17) [], .br true, .as 41 (.v (vI z13)), .call [] (.v (vB z2)) []] (.br (.seg [.as 50 (.v (vI z3)), .as 51 (.v (.c (.int .u64 z3)))] (.br (.seg [.as 60 (.v (vI z7))] (.leaf () [])) (.leaf () []))) (.leaf () []))))) (.seg [.call [] (.v z8) []] (.leaf () []))))))), (Fun Tryz.prog 105 [.agg (cDcd d)] [] (.v (vI z24)) []) ∧ (z21 = true → (z21 = true) ∧ z9 = .v z12 ∧ z11 = []) ∧ (z21 = false → (z22 = true → (z22 = true) ∧ z9 = .v z12 ∧ z11 = []) ∧ (z22 = false → ((decide (d.mode = 9)) = true → z9 = .v z12 ∧ z11 = []) ∧ ((decide (d.mode = 9)) = false → (z23 = true → (z23 = true) ∧ (z10 = true → (z15 = true → (Fun Tryz.prog 120 [.agg (cScn d.scan)] [] (.v z8) []) ∧ (.v z8 : S) = .v z12 ∧ z11 = []) ∧ (z15 = false → (Fun Tryz.prog 66 [.agg (cDcd d)] [] (.v z17) []) ∧ (z10 = true) ∧ z6 ∧ (Fun Tryz.prog 58 z18 [] (.v (vB z2)) []) ∧ z1 ∧ z5)) ∧ (z10 = false → (Fun Tryz.prog 66 [.agg (cDcd d)] [] (.v z17) []) ∧ (z10 = false) ∧ z6 ∧ (Fun Tryz.prog 58 z18 [] (.v (vB z2)) []) ∧ (z2 = true → z19 ∧ z14 ∧ ((0 : Int) ≤ 8 * d.scan.have_) ∧ (z4 = true → z20 ∧ (.v (vB (decide (z24 - d.scan.have_ ≤ topL d))) : S) = .v z12 ∧ z11 = []) ∧ z16) ∧ z5)) ∧ (z23 = false → (z10 = true → (z10 = true) ∧ (z15 = true → (Fun Tryz.prog 120 [.agg (cScn d.scan)] [] (.v z8) []) ∧ (.v z8 : S) = .v z12 ∧ z11 = []) ∧ (z15 = false → (Fun Tryz.prog 66 [.agg (cDcd d)] [] (.v z17) []) ∧ (z10 = true) ∧ z6 ∧ (Fun Tryz.prog 58 z18 [] (.v (vB z2)) []) ∧ z1 ∧ z5)) ∧ (z10 = false → (Fun Tryz.prog 120 [.agg (cScn d.scan)] [] (.v z8) []) ∧ (.v z8 : S) = .v z12 ∧ z11 = []))))))) (by kernel_rfl) ?_
  refine ⟨(widthD_s d), fun h1 => have p1 := of_decide_eq_true h1; ?_, fun h1 => have p1 := of_decide_eq_false h1; ?_⟩
  refine ⟨h1, (sB ?_), rfl⟩
  rotate_left
  refine ⟨fun h2 => have p2 := of_decide_eq_true h2; ?_, fun h2 => have p2 := of_decide_eq_false h2; ?_⟩
  refine ⟨h2, (sB ?_), rfl⟩
  rotate_left
  refine ⟨fun h3 => have p3 := of_decide_eq_true h3; ?_, fun h3 => have p3 := of_decide_eq_false h3; ?_⟩
  refine ⟨(sB ?_), rfl⟩
  rotate_left
  refine ⟨fun h4 => have p4 := of_decide_eq_true h4; ?_, fun h4 => have p4 := of_decide_eq_false h4; ?_⟩
  refine ⟨h4, fun h5 => have p5 := of_decide_eq_true h5; ?_, fun h5 => have p5 := of_decide_eq_false h5; ?_⟩
  refine ⟨fun h6 => have p6 := of_decide_eq_true h6; ?_, fun h6 => have p6 := of_decide_eq_false h6; ?_⟩
  refine ⟨(scanOk_s d.scan), (sB ?_), rfl⟩
  rotate_left
  refine ⟨(topL_s d (by omega)), h5, (as_i64 (by omega) (by omega)), (within_s _ _ _), fun h7 => have p7 := within_t h7; ?_, fun h7 => have p7 := within_f h7; ?_⟩
  refine ⟨(as_i64 (by omega) (by omega)), (as_u64 (by omega) (by omega)), (by omega), fun h8 => have p8 := of_decide_eq_true h8; ?_, fun h8 => have p8 := of_decide_eq_false h8; ?_⟩
  refine ⟨(as_i64 (by omega) (by omega)), (sB ?_), rfl⟩
  rotate_left
  refine ⟨(sB ?_), rfl⟩
  rotate_left
  refine ⟨(sB ?_), rfl⟩
  rotate_left
  refine ⟨(topL_s d (by omega)), h5, (as_i64 (by omega) (by omega)), (within_s _ _ _), fun h6 => have p6 := within_t h6; ?_, fun h6 => have p6 := within_f h6; ?_⟩
  refine ⟨(as_i64 (by omega) (by omega)), (as_u64 (by omega) (by omega)), (by omega), fun h7 => have p7 := of_decide_eq_true h7; ?_, fun h7 => have p7 := of_decide_eq_false h7; ?_⟩
  refine ⟨(as_i64 (by omega) (by omega)), (sB ?_), rfl⟩
  rotate_left
  refine ⟨(sB ?_), rfl⟩
  rotate_left
  refine ⟨(sB ?_), rfl⟩
  rotate_left
  refine ⟨fun h5 => have p5 := of_decide_eq_true h5; ?_, fun h5 => have p5 := of_decide_eq_false h5; ?_⟩
  refine ⟨h5, fun h6 => have p6 := of_decide_eq_true h6; ?_, fun h6 => have p6 := of_decide_eq_false h6; ?_⟩
  refine ⟨(scanOk_s d.scan), (sB ?_), rfl⟩
  rotate_left
  refine ⟨(topL_s d (by omega)), h5, (as_i64 (by omega) (by omega)), (within_s _ _ _), fun h7 => have p7 := within_t h7; ?_, fun h7 => have p7 := within_f h7; ?_⟩
  refine ⟨(as_i64 (by omega) (by omega)), (as_u64 (by omega) (by omega)), (by omega), fun h8 => have p8 := of_decide_eq_true h8; ?_, fun h8 => have p8 := of_decide_eq_false h8; ?_⟩
  refine ⟨(as_i64 (by omega) (by omega)), (sB ?_), rfl⟩
  rotate_left
  refine ⟨(sB ?_), rfl⟩
  rotate_left
  refine ⟨(sB ?_), rfl⟩
  rotate_left
  refine ⟨(scanOk_s d.scan), (sB ?_), rfl⟩
  rotate_left
  all_goals first | (simp_all [scanS, fixS, roomD, scn_zero]; done) | (grind [scanS, fixS, roomD, scn_zero])
theorem scanD_i (d : Dcd) (hp1 : List.length (d).stack ≤ bigN) : Fun Tryz.prog 85 [.agg (cDcd d)] [] (.v (vB (scanD d))) [] := by
  have hN : bigN = 274877906944 := rfl
  have hwd := widthD_b d
  refine fun_ofw Tryz.func85 (by kernel_rfl) (by kernel_rfl) (w := let z3 := 8 * d.scan.have_; let z2 := decide (Int.fdiv d.scan.bits (2 ^ min (z3.toNat) 64) = 0); let z4 := (.v (vB (decide (d.scan.bits = 0) && decide (d.scan.have_ = 0))) : S); let z6 := ([] : List Blk); let z7 := vB (scanD d); let z9 := (.v (.c (.int .u64 (IntKind.u64.wrap z3))) : S) = .v (.c (.int .u64 z3)); let z10 := widthD d - 1; let z1 := within d.scan.have_ 0 z10; let z11 := z2 = false → (.v (vB false) : S) = .v z7 ∧ z6 = []; let z12 := z1 = false → (.v (vB false) : S) = .v z7 ∧ z6 = []; let z13 := (.v (vI (IntKind.i64.wrap z3)) : S) = .v (vI z3); let z15 := widthD d; let z5 := z15 - d.scan.have_; let z8 := (.v (vI (IntKind.i64.wrap (z15 - 1))) : S) = .v (vI z10); let z14 := (.v (vI (IntKind.i64.wrap z5)) : S) = .v (vI z5); let z16 := vB (scanOk d.scan); (.seg [.call [] (.v (vI z15)) []] (.br (.seg [.call [] (.v (vI (topL d))) []] (.br (.seg [.as 21 (.v (vI z10)), .call [] (.v (vB z1)) []] (.br (.seg [.as 30 (.v (vI z3)), .as 31 (.v (.c (.int .u64 z3)))] (.br (.seg [.as 40 (.v (vI z5))] (.leaf () [])) (.leaf () []))) (.leaf () []))) (.seg [.as 21 (.v (vI z10)), .call [] (.v (vB z1)) []] (.br (.seg [.as 30 (.v (vI z3)), .as 31 (.v (.c (.int .u64 z3)))] (.br (.seg [.as 40 (.v (vI z5))] (.leaf () [])) (.leaf () []))) (.leaf () []))))) (.br (.leaf () []) (.br (.leaf () []) (.br (.leaf () []) (.seg [.call [] (.v z16) []] (.leaf () [])))))), (Fun Tryz.prog 133 [.agg (cDcd d)] [] (.v (vI z15)) []) ∧ ((decide (0 < widthD d)) = true → (Fun Tryz.prog 83 [.agg (cDcd d)] [] (.v (vI (topL d))) []) ∧ ((decide (d.mode = 8)) = true → z8 ∧ (Fun Tryz.prog 76 [vI d.scan.have_, vI 0, vI z10] [] (.v (vB z1)) []) ∧ (z1 = true → z13 ∧ z9 ∧ ((0 : Int) ≤ 8 * d.scan.have_) ∧ (z2 = true → z14 ∧ (.v (vB (decide (z15 - d.scan.have_ ≤ d.want))) : S) = .v z7 ∧ z6 = []) ∧ z11) ∧ z12) ∧ ((decide (d.mode = 8)) = false → z8 ∧ (Fun Tryz.prog 76 [vI d.scan.have_, vI 0, vI z10] [] (.v (vB z1)) []) ∧ (z1 = true → z13 ∧ z9 ∧ ((0 : Int) ≤ 8 * d.scan.have_) ∧ (z2 = true → z14 ∧ (.v (vB (decide (z15 - d.scan.have_ ≤ topL d))) : S) = .v z7 ∧ z6 = []) ∧ z11) ∧ z12)) ∧ ((decide (0 < widthD d)) = false → ((decide (d.mode = 6)) = true → z4 = .v z7 ∧ z6 = []) ∧ ((decide (d.mode = 6)) = false → ((decide (d.mode = 7)) = true → z4 = .v z7 ∧ z6 = []) ∧ ((decide (d.mode = 7)) = false → ((decide (d.mode = 9)) = true → z4 = .v z7 ∧ z6 = []) ∧ ((decide (d.mode = 9)) = false → (Fun Tryz.prog 134 [.agg (cScn d.scan)] [] (.v z16) []) ∧ (.v z16 : S) = .v z7 ∧ z6 = [])))))) (by kernel_rfl) ?_
  refine ⟨(widthD_i d), fun h1 => have p1 := of_decide_eq_true h1; ?_, fun h1 => have p1 := of_decide_eq_false h1; ?_⟩
  refine ⟨(topL_i d (by omega)), fun h2 => have p2 := of_decide_eq_true h2; ?_, fun h2 => have p2 := of_decide_eq_false h2; ?_⟩
  refine ⟨(as_i64 (by omega) (by omega)), (within_i _ _ _), fun h3 => have p3 := within_t h3; ?_, fun h3 => have p3 := within_f h3; ?_⟩
  refine ⟨(as_i64 (by omega) (by omega)), (as_u64 (by omega) (by omega)), (by omega), fun h4 => have p4 := of_decide_eq_true h4; ?_, fun h4 => have p4 := of_decide_eq_false h4; ?_⟩
  refine ⟨(as_i64 (by omega) (by omega)), (sB ?_), rfl⟩
  rotate_left
  refine ⟨(sB ?_), rfl⟩
  rotate_left
  refine ⟨(sB ?_), rfl⟩
  rotate_left
  refine ⟨(as_i64 (by omega) (by omega)), (within_i _ _ _), fun h3 => have p3 := within_t h3; ?_, fun h3 => have p3 := within_f h3; ?_⟩
  refine ⟨(as_i64 (by omega) (by omega)), (as_u64 (by omega) (by omega)), (by omega), fun h4 => have p4 := of_decide_eq_true h4; ?_, fun h4 => have p4 := of_decide_eq_false h4; ?_⟩
  refine ⟨(as_i64 (by omega) (by omega)), (sB ?_), rfl⟩
  rotate_left
  refine ⟨(sB ?_), rfl⟩
  rotate_left
  refine ⟨(sB ?_), rfl⟩
  rotate_left
  refine ⟨fun h2 => have p2 := of_decide_eq_true h2; ?_, fun h2 => have p2 := of_decide_eq_false h2; ?_⟩
  refine ⟨(sB ?_), rfl⟩
  rotate_left
  refine ⟨fun h3 => have p3 := of_decide_eq_true h3; ?_, fun h3 => have p3 := of_decide_eq_false h3; ?_⟩
  refine ⟨(sB ?_), rfl⟩
  rotate_left
  refine ⟨fun h4 => have p4 := of_decide_eq_true h4; ?_, fun h4 => have p4 := of_decide_eq_false h4; ?_⟩
  refine ⟨(sB ?_), rfl⟩
  rotate_left
  refine ⟨(scanOk_i d.scan), (sB ?_), rfl⟩
  rotate_left
  all_goals first | (simp_all [scanD, roomD, scn_zero]; done) | (grind [scanD, roomD, scn_zero])
theorem modeD_i (d : Dcd) (hp1 : List.length (d).stack ≤ bigN) : Fun Tryz.prog 84 [.agg (cDcd d)] [] (.v (vB (wantD d && kindD d))) [] := by
  have hN : bigN = 274877906944 := rfl
  have hww : widthOf d.wire = 0 ∨ 0 ≤ d.wire := by unfold widthOf; split <;> (try split) <;> omega
  refine fun_ofw Tryz.func84 (by kernel_rfl) (by kernel_rfl) (w := let z1 := !(!(decide (d.field.number = 0) && (decide (d.field.kind = 0) && (decide (d.field.rep = false) && (decide (d.field.packed = false) && decide (d.field.msg = 0)))))); let z2 := vB (wantD d && kindD d); let z3 := vB (allowed d.field d.wire); let z4 := ([] : List Blk); let z5 := within d.want 1 (topL d); let z7 := (.v (vB false) : S); let z8 := decide (d.mode = 6); let z9 := decide (d.mode = 8); let z10 := vB (runs d.field); let z11 := decide (0 < widthOf d.wire); let z12 := cFld d.field; let z13 := (!z5) = true → z7 = .v z2 ∧ z4 = []; let z15 := vI (widthOf d.wire); let z16 := decide (d.mode = 3); let z17 := decide (d.wire = 0); let z18 := decide (d.mode = 4); let z19 := decide (d.wire = 2); let z20 := vI (topL d); let z21 : List V := [vI d.want, vI 1, vI (topL d)]; let z22 := (.v z3 : S); let z23 := decide (d.mode = 7); let z24 := decide (d.mode = 5); let z25 := z17 = false → z7 = .v z2 ∧ z4 = []; let z26 := z19 = false → z7 = .v z2 ∧ z4 = []; let z27 := z11 = false → z7 = .v z2 ∧ z4 = []; let z28 := (.v (vB true) : S); let z6 := z1 = true → z28 = .v z2 ∧ z4 = []; let z14 := z24 = false → z28 = .v z2 ∧ z4 = []; (.br (.seg [.br true, .ord (os 6 [3, 4]) [], .call [] (.v z20) [], .call [] (.v (vB z5)) []] (.br (.leaf () []) (.seg [.br true] (.br (.leaf () []) (.leaf () []))))) (.br (.seg [.br true, .ord (os 6 [3, 4]) [], .call [] (.v z20) [], .call [] (.v (vB z5)) []] (.br (.leaf () []) (.seg [.br false] (.br (.seg [.call [] (.v z10) []] (.leaf () [])) (.br (.br (.br (.leaf () []) (.seg [.call [] (.v z3) []] (.leaf () []))) (.leaf () [])) (.br (.br (.br (.leaf () []) (.seg [.call [] (.v z3) []] (.leaf () []))) (.leaf () [])) (.br (.seg [.call [] (.v z15) []] (.br (.br (.leaf () []) (.seg [.call [] (.v z3) []] (.leaf () []))) (.leaf () []))) (.leaf () [])))))))) (.br (.seg [.ord (os 6 [3, 4]) [], .call [] (.v z20) [], .call [] (.v (vB z5)) []] (.br (.leaf () []) (.seg [.br false, .br true, .call [] (.v z10) []] (.leaf () [])))) (.br (.leaf () []) (.seg [.br false, .br false] (.br (.br (.br (.leaf () []) (.seg [.call [] (.v z3) []] (.leaf () []))) (.leaf () [])) (.br (.br (.br (.leaf () []) (.seg [.call [] (.v z3) []] (.leaf () []))) (.leaf () [])) (.br (.seg [.call [] (.v z15) []] (.br (.br (.leaf () []) (.seg [.call [] (.v z3) []] (.leaf () []))) (.leaf () []))) (.leaf () [])))))))), (z8 = true → (z8 = true) ∧ (Fun Tryz.prog 83 [.agg (cDcd d)] [] (.v z20) []) ∧ (Fun Tryz.prog 76 z21 [] (.v (vB z5)) []) ∧ z13 ∧ ((!z5) = false → (z8 = true) ∧ ((decide (d.field.kind = 6)) = true → z28 = .v z2 ∧ z4 = []) ∧ ((decide (d.field.kind = 6)) = false → (.v (vB (decide (d.field.kind = 7))) : S) = .v z2 ∧ z4 = []))) ∧ (z8 = false → (z23 = true → (z23 = true) ∧ (Fun Tryz.prog 83 [.agg (cDcd d)] [] (.v z20) []) ∧ (Fun Tryz.prog 76 z21 [] (.v (vB z5)) []) ∧ z13 ∧ ((!z5) = false → (z8 = false) ∧ (z9 = true → (Fun Tryz.prog 130 [.agg z12] [] (.v z10) []) ∧ (.v z10 : S) = .v z2 ∧ z4 = []) ∧ (z9 = false → (z16 = true → (z17 = true → z6 ∧ (z1 = false → (Fun Tryz.prog 131 [.agg z12, vI d.wire] [] (.v z3) []) ∧ z22 = .v z2 ∧ z4 = [])) ∧ z25) ∧ (z16 = false → (z18 = true → (z19 = true → z6 ∧ (z1 = false → (Fun Tryz.prog 131 [.agg z12, vI d.wire] [] (.v z3) []) ∧ z22 = .v z2 ∧ z4 = [])) ∧ z26) ∧ (z18 = false → (z24 = true → (Fun Tryz.prog 132 [vI d.wire] [] (.v z15) []) ∧ (z11 = true → z6 ∧ (z1 = false → (Fun Tryz.prog 131 [.agg z12, vI d.wire] [] (.v z3) []) ∧ z22 = .v z2 ∧ z4 = [])) ∧ z27) ∧ z14))))) ∧ (z23 = false → (z9 = true → (Fun Tryz.prog 83 [.agg (cDcd d)] [] (.v z20) []) ∧ (Fun Tryz.prog 76 z21 [] (.v (vB z5)) []) ∧ z13 ∧ ((!z5) = false → (z8 = false) ∧ (z9 = true) ∧ (Fun Tryz.prog 130 [.agg z12] [] (.v z10) []) ∧ (.v z10 : S) = .v z2 ∧ z4 = [])) ∧ (z9 = false → ((!decide (d.want = 0)) = true → z7 = .v z2 ∧ z4 = []) ∧ ((!decide (d.want = 0)) = false → (z8 = false) ∧ (z9 = false) ∧ (z16 = true → (z17 = true → z6 ∧ (z1 = false → (Fun Tryz.prog 131 [.agg z12, vI d.wire] [] (.v z3) []) ∧ z22 = .v z2 ∧ z4 = [])) ∧ z25) ∧ (z16 = false → (z18 = true → (z19 = true → z6 ∧ (z1 = false → (Fun Tryz.prog 131 [.agg z12, vI d.wire] [] (.v z3) []) ∧ z22 = .v z2 ∧ z4 = [])) ∧ z26) ∧ (z18 = false → (z24 = true → (Fun Tryz.prog 132 [vI d.wire] [] (.v z15) []) ∧ (z11 = true → z6 ∧ (z1 = false → (Fun Tryz.prog 131 [.agg z12, vI d.wire] [] (.v z3) []) ∧ z22 = .v z2 ∧ z4 = [])) ∧ z27) ∧ z14)))))))) (by kernel_rfl) ?_
  refine ⟨fun h1 => have p1 := of_decide_eq_true h1; ?_, fun h1 => have p1 := of_decide_eq_false h1; ?_⟩
  refine ⟨h1, (topL_i d (by omega)), (within_i _ _ _), fun h2 => have q2 := bnot_t h2; have p2 := within_f q2; ?_, fun h2 => have q2 := bnot_f h2; have p2 := within_t q2; ?_⟩
  refine ⟨(sB ?_), rfl⟩
  rotate_left
  refine ⟨h1, fun h3 => have p3 := of_decide_eq_true h3; ?_, fun h3 => have p3 := of_decide_eq_false h3; ?_⟩
  refine ⟨(sB ?_), rfl⟩
  rotate_left
  refine ⟨(sB ?_), rfl⟩
  rotate_left
  refine ⟨fun h2 => have p2 := of_decide_eq_true h2; ?_, fun h2 => have p2 := of_decide_eq_false h2; ?_⟩
  refine ⟨h2, (topL_i d (by omega)), (within_i _ _ _), fun h3 => have q3 := bnot_t h3; have p3 := within_f q3; ?_, fun h3 => have q3 := bnot_f h3; have p3 := within_t q3; ?_⟩
  refine ⟨(sB ?_), rfl⟩
  rotate_left
  refine ⟨h1, fun h4 => have p4 := of_decide_eq_true h4; ?_, fun h4 => have p4 := of_decide_eq_false h4; ?_⟩
  refine ⟨(runs_i d.field), (sB ?_), rfl⟩
  rotate_left
  refine ⟨fun h5 => have p5 := of_decide_eq_true h5; ?_, fun h5 => have p5 := of_decide_eq_false h5; ?_⟩
  refine ⟨fun h6 => have p6 := of_decide_eq_true h6; ?_, fun h6 => have p6 := of_decide_eq_false h6; ?_⟩
  refine ⟨fun h7 => have q7 := bnot_t h7; have q7' := bnot_f q7; have p7 := (andT dT (andT dT (andT dT (andT dT dT)))).1 q7'; ?_, fun h7 => have q7 := bnot_f h7; have q7' := bnot_t q7; have p7 := (andF dT (andF dT (andF dT (andF dT dF)))).1 q7'; ?_⟩
  refine ⟨(sB ?_), rfl⟩
  rotate_left
  refine ⟨(allowed_i d.field _ (by omega)), (sB ?_), rfl⟩
  rotate_left
  refine ⟨(sB ?_), rfl⟩
  rotate_left
  refine ⟨fun h6 => have p6 := of_decide_eq_true h6; ?_, fun h6 => have p6 := of_decide_eq_false h6; ?_⟩
  refine ⟨fun h7 => have p7 := of_decide_eq_true h7; ?_, fun h7 => have p7 := of_decide_eq_false h7; ?_⟩
  refine ⟨fun h8 => have q8 := bnot_t h8; have q8' := bnot_f q8; have p8 := (andT dT (andT dT (andT dT (andT dT dT)))).1 q8'; ?_, fun h8 => have q8 := bnot_f h8; have q8' := bnot_t q8; have p8 := (andF dT (andF dT (andF dT (andF dT dF)))).1 q8'; ?_⟩
  refine ⟨(sB ?_), rfl⟩
  rotate_left
  refine ⟨(allowed_i d.field _ (by omega)), (sB ?_), rfl⟩
  rotate_left
  refine ⟨(sB ?_), rfl⟩
  rotate_left
  refine ⟨fun h7 => have p7 := of_decide_eq_true h7; ?_, fun h7 => have p7 := of_decide_eq_false h7; ?_⟩
  refine ⟨(widthOf_i _), fun h8 => have p8 := of_decide_eq_true h8; ?_, fun h8 => have p8 := of_decide_eq_false h8; ?_⟩
  refine ⟨fun h9 => have q9 := bnot_t h9; have q9' := bnot_f q9; have p9 := (andT dT (andT dT (andT dT (andT dT dT)))).1 q9'; ?_, fun h9 => have q9 := bnot_f h9; have q9' := bnot_t q9; have p9 := (andF dT (andF dT (andF dT (andF dT dF)))).1 q9'; ?_⟩
  refine ⟨(sB ?_), rfl⟩
  rotate_left
  refine ⟨(allowed_i d.field _ (by omega)), (sB ?_), rfl⟩
  rotate_left
  refine ⟨(sB ?_), rfl⟩
  rotate_left
  refine ⟨(sB ?_), rfl⟩
  rotate_left
  refine ⟨fun h3 => have p3 := of_decide_eq_true h3; ?_, fun h3 => have p3 := of_decide_eq_false h3; ?_⟩
  refine ⟨(topL_i d (by omega)), (within_i _ _ _), fun h4 => have q4 := bnot_t h4; have p4 := within_f q4; ?_, fun h4 => have q4 := bnot_f h4; have p4 := within_t q4; ?_⟩
  refine ⟨(sB ?_), rfl⟩
  rotate_left
  refine ⟨h1, h3, (runs_i d.field), (sB ?_), rfl⟩
  rotate_left
  refine ⟨fun h4 => have q4 := bnot_t h4; have p4 := of_decide_eq_false q4; ?_, fun h4 => have q4 := bnot_f h4; have p4 := of_decide_eq_true q4; ?_⟩
  refine ⟨(sB ?_), rfl⟩
  rotate_left
  refine ⟨h1, h3, fun h5 => have p5 := of_decide_eq_true h5; ?_, fun h5 => have p5 := of_decide_eq_false h5; ?_⟩
  refine ⟨fun h6 => have p6 := of_decide_eq_true h6; ?_, fun h6 => have p6 := of_decide_eq_false h6; ?_⟩
  refine ⟨fun h7 => have q7 := bnot_t h7; have q7' := bnot_f q7; have p7 := (andT dT (andT dT (andT dT (andT dT dT)))).1 q7'; ?_, fun h7 => have q7 := bnot_f h7; have q7' := bnot_t q7; have p7 := (andF dT (andF dT (andF dT (andF dT dF)))).1 q7'; ?_⟩
  refine ⟨(sB ?_), rfl⟩
  rotate_left
  refine ⟨(allowed_i d.field _ (by omega)), (sB ?_), rfl⟩
  rotate_left
  refine ⟨(sB ?_), rfl⟩
  rotate_left
  refine ⟨fun h6 => have p6 := of_decide_eq_true h6; ?_, fun h6 => have p6 := of_decide_eq_false h6; ?_⟩
  refine ⟨fun h7 => have p7 := of_decide_eq_true h7; ?_, fun h7 => have p7 := of_decide_eq_false h7; ?_⟩
  refine ⟨fun h8 => have q8 := bnot_t h8; have q8' := bnot_f q8; have p8 := (andT dT (andT dT (andT dT (andT dT dT)))).1 q8'; ?_, fun h8 => have q8 := bnot_f h8; have q8' := bnot_t q8; have p8 := (andF dT (andF dT (andF dT (andF dT dF)))).1 q8'; ?_⟩
  refine ⟨(sB ?_), rfl⟩
  rotate_left
  refine ⟨(allowed_i d.field _ (by omega)), (sB ?_), rfl⟩
  rotate_left
  refine ⟨(sB ?_), rfl⟩
  rotate_left
  refine ⟨fun h7 => have p7 := of_decide_eq_true h7; ?_, fun h7 => have p7 := of_decide_eq_false h7; ?_⟩
  refine ⟨(widthOf_i _), fun h8 => have p8 := of_decide_eq_true h8; ?_, fun h8 => have p8 := of_decide_eq_false h8; ?_⟩
  refine ⟨fun h9 => have q9 := bnot_t h9; have q9' := bnot_f q9; have p9 := (andT dT (andT dT (andT dT (andT dT dT)))).1 q9'; ?_, fun h9 => have q9 := bnot_f h9; have q9' := bnot_t q9; have p9 := (andF dT (andF dT (andF dT (andF dT dF)))).1 q9'; ?_⟩
  refine ⟨(sB ?_), rfl⟩
  rotate_left
  refine ⟨(allowed_i d.field _ (by omega)), (sB ?_), rfl⟩
  rotate_left
  refine ⟨(sB ?_), rfl⟩
  rotate_left
  refine ⟨(sB ?_), rfl⟩
  rotate_left
  all_goals first | (simp_all [wantD, kindD, fitD, fld_zeroI, isBytes]; done) | (grind [wantD, kindD, fitD, fld_zeroI, isBytes])
end Go.Proofs.YthmhekbmhpljcaaGreat.Ax
