/- The reference: settling. The reference: frames, tags, lengths. The machine: closing. -/
import Derived.Test.YtecljjcmjongfaaGreatKStepByte3
import Derived.Test.YtecljjcmjongfaaGreatKStepByte1
set_option linter.unusedSimpArgs false
set_option linter.unusedVariables false
namespace Go.Proofs.YtecljjcmjongfaaGreat.Ax
open Go.RowKit
set_option linter.unusedSimpArgs false
set_option linter.unusedVariables false
theorem settleM_pre (a : List Ev) : ∀ (k : Nat) (d : Dcd) (o : List Ev), wM ⟨d, o⟩ ≤ k → settleM ⟨d, a ++ o⟩ = ⟨(settleM ⟨d, o⟩).d, a ++ (settleM ⟨d, o⟩).out⟩ := by
  have hc : ∀ (d : Dcd) (o : List Ev), closeM ⟨d, a ++ o⟩ = (closeM ⟨d, o⟩).map fun q => ⟨q.d, a ++ q.out⟩ := by
    intro d o
    unfold closeM mFail
    simp only
    split
    · split <;> simp
    · split
      · rfl
      · split
        · split <;> simp
        · rfl
  intro k
  induction k with
  | zero =>
    intro d o hk
    cases h : closeM ⟨d, o⟩ with
    | none => rw [settleM_none h, settleM_none (by rw [hc, h]; rfl)]
    | some q => have := (closeM_dec h).1; omega
  | succ k ih =>
    intro d o hk
    cases h : closeM ⟨d, o⟩ with
    | none => rw [settleM_none h, settleM_none (by rw [hc, h]; rfl)]
    | some q =>
      have h2 : closeM ⟨d, a ++ o⟩ = some ⟨q.d, a ++ q.out⟩ := by rw [hc, h]; rfl
      rw [settleM_some h, settleM_some h2]
      have h3 := (closeM_dec h).1
      exact ih q.d q.out (by have : wM (⟨q.d, q.out⟩ : Mac) = wM q := rfl; omega)
theorem settleM_one (d : Dcd) (e : Ev) : settleM ⟨d, [e]⟩ = ⟨(settleM ⟨d, []⟩).d, e :: (settleM ⟨d, []⟩).out⟩ := settleM_pre [e] _ d [] (Nat.le_refl _)
structure levelsOk_s_V0 where
  i : Nat
def levelsOk_s_F0 (d : Dcd) : Fam := ⟨levelsOk_s_V0, fun q1 => [(1, .v (vP 0)), (3, .v (vI (q1.i : Int)))], fun _ => [.cells (cDcd d)], fun q1 => q1.i ≤ d.stack.length ∧ levN (d.plan.shapes.length : Int) (List.drop q1.i d.stack) + q1.i = levN (d.plan.shapes.length : Int) d.stack, fun q1 => d.stack.length - q1.i⟩

theorem levelsOk_s (d : Dcd) (hp1 : List.length (d).stack ≤ bigN) (hp2 : List.length (d).plan.shapes ≤ bigN) : Fun Tryz.prog 178 [.agg (cDcd d)] [] (.v (vB (levelsOk d))) [] := by
  have hN : bigN = 274877906944 := rfl
  refine fun_ofw Tryz.func178 (by kernel_rfl) (by kernel_rfl) (w := let z7 := (d.plan.shapes.length : Int) - 1; let z8 := (.v (vI (IntKind.i64.wrap z7)) : S) = .v (vI z7); let z9 := (d.stack.length : Int); let z10 := vB (levelsOk d); let z11 := (.v (vB false) : S); let z12 := ([] : List Blk); let z13 := levelsOk_s_F0 d; let z14 := planOk d.plan; (.seg [.call [] (.v (vB z14)) []] (.br (.leaf () []) (.br (.leaf () []) (.seg [.at 0, .keep [1, 3], .sel [0]] (.loop z13 fun q1 => .br (.intro (fun (x1 : Lev) => d.stack[q1.i]? = some x1) fun x1 => let z1 := within x1.msg 0 z7; .case (!z1) (.seg [.ord (os 24 [12, 21]) [], .el .lev x1, .as 35 (.v (vI z7)), .call [] (.v (vB z1)) [], .br true] (.leaf () [])) (.seg [.ord (os 24 [12, 21]) [], .el .lev x1, .as 35 (.v (vI z7)), .call [] (.v (vB z1)) [], .br false, .el .lev x1, .call [] (.v (vB (within x1.left 0 2000))) []] (.br (.leaf () []) (.seg [.as 23 (.v (vI ((q1.i : Int) + 1))), .at 0, .keep [1, 3], .sel [0]] (.next))))) (.leaf () []))))), (Fun Tryz.prog 100 [.agg (cPln d.plan)] [] (.v (vB z14)) []) ∧ ((!z14) = true → z11 = .v z10 ∧ z12 = []) ∧ ((!z14) = false → ((decide (d.plan.deep < z9)) = true → z11 = .v z10 ∧ z12 = []) ∧ ((decide (d.plan.deep < z9)) = false → z13.Has [(1, .v (vP 0)), (3, .v (vI 0))] [.cells (cDcd d)] ∧ ∀ q1, z13.inv q1 → (let z6 := (q1.i : Int); ((decide (z6 < z9)) = true → (∃ (x1 : Lev), d.stack[q1.i]? = some x1) ∧ ∀ (x1 : Lev), (d.stack[q1.i]? = some x1) → (let z2 := within x1.msg 0 z7; let z3 := d.stack[q1.i]? = some x1; let z4 : List V := [vI x1.msg, vI 0, vI z7]; let z5 := within x1.left 0 2000; ((!z2) = true → z3 ∧ ((0 : Int) ≤ z6) ∧ z3 ∧ ((0 : Int) ≤ z6) ∧ z8 ∧ z8 ∧ (Fun Tryz.prog 72 z4 [] (.v (vB z2)) []) ∧ ((!z2) = true) ∧ z11 = .v z10 ∧ z12 = []) ∧ ((!z2) = false → z3 ∧ ((0 : Int) ≤ z6) ∧ z3 ∧ ((0 : Int) ≤ z6) ∧ z8 ∧ z8 ∧ (Fun Tryz.prog 72 z4 [] (.v (vB z2)) []) ∧ ((!z2) = false) ∧ z3 ∧ ((0 : Int) ≤ z6) ∧ z3 ∧ ((0 : Int) ≤ z6) ∧ (Fun Tryz.prog 72 [vI x1.left, vI 0, vI 2000] [] (.v (vB z5)) []) ∧ ((!z5) = true → z11 = .v z10 ∧ z12 = []) ∧ ((!z5) = false → ((.v (vI (IntKind.i64.wrap (z6 + 1))) : S) = .v (vI (z6 + 1))) ∧ z13.Nxt q1 [(1, .v (vP 0)), (3, .v (vI (z6 + 1)))] [.cells (cDcd d)])))) ∧ ((decide (z6 < z9)) = false → (.v (vB true) : S) = .v z10 ∧ z12 = [])))))) (by kernel_rfl) ?_
  refine ⟨(planOk_s d.plan), fun h1 => have q1 := bnot_t h1; ?_, fun h1 => have q1 := bnot_f h1; have p1 := planOk_t q1; ?_⟩
  refine ⟨(sB ?_), rfl⟩
  rotate_left
  refine ⟨fun h2 => have p2 := of_decide_eq_true h2; ?_, fun h2 => have p2 := of_decide_eq_false h2; ?_⟩
  refine ⟨(sB ?_), rfl⟩
  rotate_left
  refine ⟨has_of (j := (⟨0⟩ : levelsOk_s_V0)) (by first | rfl | simp) rfl (by dsimp only [levelsOk_s_F0]; exact ⟨by omega, rfl⟩), fun (q1 : levelsOk_s_V0) hq_q1 => ?_⟩
  have hi_q1 : q1.i ≤ d.stack.length ∧ levN (d.plan.shapes.length : Int) (List.drop q1.i d.stack) + q1.i = levN (d.plan.shapes.length : Int) d.stack := hq_q1
  obtain ⟨v1, v2⟩ := hi_q1
  refine ⟨fun h3 => have p3 := of_decide_eq_true h3; ?_, fun h3 => have p3 := of_decide_eq_false h3; ?_⟩
  refine ⟨(ax_get (l := d.stack) (i := q1.i) (by omega)), fun x1 hx1 => ?_⟩
  rw [drop_el hx1, levN_cons] at v2
  have hll := congrArg List.length (drop_el hx1)
  rw [List.length_drop, List.length_cons, List.length_drop] at hll
  refine ⟨fun h4 => have q4 := bnot_t h4; have p4 := within_f q4; ?_, fun h4 => have q4 := bnot_f h4; have p4 := within_t q4; ?_⟩
  refine ⟨hx1, (by omega), hx1, (by omega), (as_i64 (by omega) (by omega)), (as_i64 (by omega) (by omega)), (within_s _ _ _), h4, (sB ?_), rfl⟩
  rotate_left
  refine ⟨hx1, (by omega), hx1, (by omega), (as_i64 (by omega) (by omega)), (as_i64 (by omega) (by omega)), (within_s _ _ _), h4, hx1, (by omega), hx1, (by omega), (within_s _ _ _), fun h5 => have q5 := bnot_t h5; have p5 := within_f q5; ?_, fun h5 => have q5 := bnot_f h5; have p5 := within_t q5; ?_⟩
  refine ⟨(sB ?_), rfl⟩
  rotate_left
  exact ⟨(as_i64 (by omega) (by omega)), nxt_of (j := (⟨q1.i + 1⟩ : levelsOk_s_V0)) (by first | rfl | simp) rfl (by dsimp only [levelsOk_s_F0]; exact ⟨by omega, by simp_all [levOk]; omega⟩) (by dsimp only [levelsOk_s_F0]; omega)⟩
  have hal : List.all d.stack (levOk (d.plan.shapes.length : Int)) = true := by rw [levN_all]; rw [List.drop_eq_nil_of_le (by omega)] at v2; simp only [levN] at v2; exact decide_eq_true (by omega)
  refine ⟨(sB ?_), rfl⟩
  rotate_left
  all_goals first | (simp_all [levelsOk]; done) | ((have hal : List.all d.stack (levOk (d.plan.shapes.length : Int)) = false := (by rw [levN_all]; rw [if_neg (by simp_all [levOk])] at v2; exact decide_eq_false (by omega)); simp [levelsOk, hal]; done)) | (grind [levelsOk])
theorem fail_s (d : Dcd) (c : Int) (a : Int) : Fun Tryz.prog 76 [.agg (oDcd0_5 0 1 d), vI c, vI a] [.tree d.plan.shapes, .lst .lev d.stack] (.tup [.agg (oDcd0_5 2 3 (dFail d c a)), vO 4]) [.dead, .dead, .tree (dFail d c a).plan.shapes, .lst .lev (dFail d c a).stack, .lst .ev [failEv c a]] := by
  have hN : bigN = 274877906944 := rfl
  refine fun_ofw Tryz.func76 (by kernel_rfl) (by kernel_rfl) (w := let z1 := failEv c a; (.seg [.call [] (.v (.agg (cEv z1))) [], .tree (fr (.two 3 (.one 4 (.first 5 (.done))) 4 (.one 3 (.first 5 (.done)))) 0 3) 6 [3], .ty .ev, .at 0, .keep [6, 7], .sel [0, 1, 3, 4], .ty .ev, .at 0, .keep [6, 7], .sel [0, 1, 3, 4], .at 0, .cut 2 0, .cut 2 5] (.leaf () [0, 1, 4, 5, 3]), (Fun Tryz.prog 132 [vI c, vI a] [] (.v (.agg (cEv z1))) []) ∧ (([.tree d.plan.shapes, .lst .lev d.stack, .cells [.own 0, .int .i64 d.plan.root, .int .i64 d.plan.deep, .int .i64 d.plan.most, .int .i64 9, .own 1, .int .u64 0, .int .i64 0, .int .i64 d.start, .int .i64 d.at_, .int .i64 d.field.number, .int .i64 d.field.kind, .bool d.field.rep, .bool d.field.packed, .int .i64 d.field.msg, .int .i64 d.wire, .int .i64 0, .int .i64 d.utf.want, .int .i64 d.utf.low, .int .i64 d.utf.high, .int .i64 z1.kind, .int .i64 z1.field, .int .u64 z1.bits, .int .i64 z1.len, .str z1.text, .int .i64 z1.code, .int .i64 z1.at_], .lst .ev [z1]] : List Blk) = [.tree d.plan.shapes, .lst .lev d.stack, .cells [.own 0, .int .i64 d.plan.root, .int .i64 d.plan.deep, .int .i64 d.plan.most, .int .i64 9, .own 1, .int .u64 0, .int .i64 0, .int .i64 d.start, .int .i64 d.at_, .int .i64 d.field.number, .int .i64 d.field.kind, .bool d.field.rep, .bool d.field.packed, .int .i64 d.field.msg, .int .i64 d.wire, .int .i64 0, .int .i64 d.utf.want, .int .i64 d.utf.low, .int .i64 d.utf.high, .int .i64 z1.kind, .int .i64 z1.field, .int .u64 z1.bits, .int .i64 z1.len, .str z1.text, .int .i64 z1.code, .int .i64 z1.at_], .lst .ev [z1]]) ∧ (([(6, .v (vP 2)), (7, .v (vO 3))] : List (Nat × S)) = [(6, .v (vP 2)), (7, .v (vO 3))]) ∧ (.tup [.agg [.own 2, .int .i64 d.plan.root, .int .i64 d.plan.deep, .int .i64 d.plan.most, .int .i64 9, .own 3, .int .u64 0, .int .i64 0, .int .i64 d.start, .int .i64 d.at_, .int .i64 d.field.number, .int .i64 d.field.kind, .bool d.field.rep, .bool d.field.packed, .int .i64 d.field.msg, .int .i64 d.wire, .int .i64 0, .int .i64 d.utf.want, .int .i64 d.utf.low, .int .i64 d.utf.high, .int .i64 z1.kind, .int .i64 z1.field, .int .u64 z1.bits, .int .i64 z1.len, .str z1.text, .int .i64 z1.code, .int .i64 z1.at_], vO 4] : S) = .tup [.agg (oDcd0_5 2 3 (dFail d c a)), vO 4] ∧ ([.dead, .dead, .tree d.plan.shapes, .lst .lev d.stack, .lst .ev [z1]] : List Blk) = [.dead, .dead, .tree (dFail d c a).plan.shapes, .lst .lev (dFail d c a).stack, .lst .ev [failEv c a]])) (by kernel_rfl) ?_
  refine ⟨(failure_s _ _), rfl, rfl, ?_⟩
  refine have hm1 : dFail d c a = (⟨d.plan, 9, d.stack, (⟨0, 0⟩ : Scn), d.start, d.at_, d.field, d.wire, 0, d.utf, (failEv c a)⟩ : Dcd) := ?_; ?_
  rotate_left
  refine have hm2 : [failEv c a] = [(failEv c a)] := ?_; ?_
  rotate_left
  exact ⟨(by rw [hm1] <;> rfl), (by rw [hm1, hm2] <;> rfl)⟩
  all_goals first | (rfl) | (simp_all [dFail])
structure settle_s_V0 where
  d : Dcd
  out : List Ev
def settle_s_F0 (d : Dcd) : Fam := ⟨settle_s_V0, fun q1 => [(1, .v (vP 2)), (2, .v (vP 5)), (4, .v (vO 6))], fun q1 => [.dead, .dead, .cells (oDcd0_5 3 4 q1.d), .tree q1.d.plan.shapes, .lst .lev q1.d.stack, .cells [.nil, .int .i64 0, .int .i64 0, .int .i64 0, .int .i64 0, .nil, .int .u64 0, .int .i64 0, .int .i64 0, .int .i64 0, .int .i64 0, .int .i64 0, .bool false, .bool false, .int .i64 0, .int .i64 0, .int .i64 0, .int .i64 0, .int .i64 0, .int .i64 0, .int .i64 0, .int .i64 0, .int .u64 0, .int .i64 0, .str [], .int .i64 0, .int .i64 0], .lst .ev q1.out], fun q1 => settleM ⟨q1.d, q1.out⟩ = settleM ⟨d, []⟩ ∧ q1.out.length + wM ⟨q1.d, q1.out⟩ ≤ wM ⟨d, []⟩ ∧ List.length (q1.d).stack ≤ d.stack.length, fun q1 => wM ⟨q1.d, q1.out⟩⟩

theorem settle_s (d : Dcd) (hp1 : List.length (d).stack ≤ 1000) : Fun Tryz.prog 74 [.agg (oDcd0_5 0 1 d)] [.tree d.plan.shapes, .lst .lev d.stack] (.tup [.agg (oDcd0_5 2 3 (settleM ⟨d, []⟩).d), vO 4]) [.dead, .dead, .tree (settleM ⟨d, []⟩).d.plan.shapes, .lst .lev (settleM ⟨d, []⟩).d.stack, .lst .ev (settleM ⟨d, []⟩).out] := by
  have hN : bigN = 274877906944 := rfl
  have hwd := wM_b ⟨d, []⟩
  simp only at hwd
  refine fun_ofw Tryz.func74 (by kernel_rfl) (by kernel_rfl) (w := let z16 := settle_s_F0 d; let z17 := settleM ⟨d, []⟩; let z14 : List Blk := [.dead, .dead, .tree z17.d.plan.shapes, .lst .lev z17.d.stack, .lst .ev z17.out]; let z15 := oDcd0_5 2 3 z17.d; (.seg [.ty .ev, .at 0, .cut 2 0, .cut 2 5, .keep [1, 2, 4], .sel [0, 1, 2, 5, 6, 3, 4]] (.loop z16 fun q1 => let z1 := (q1.d.stack.length : Int) - 1; let z2 := dFail q1.d 5 q1.d.at_; .br (.br (.br (.seg [.call [3, 4] (.tup [.agg (oDcd0_5 2 3 z2), vO 4]) [.dead, .dead, .tree z2.plan.shapes, .lst .lev z2.stack, .lst .ev [failEv 5 q1.d.at_]], .tree (fr (.one 3 (.one 4 (.first 5 (.done)))) 0 3) 4 [6, 9], .ty .ev] (.leaf () [0, 1, 7, 8, 11])) (.seg [.ty .ev, .ty .ev, .at 0, .keep [1, 2, 4], .sel [0, 1, 2, 3, 4, 5, 8]] (.next))) (.seg [.br false] (.br (.br (.br (.seg [.as 86 (.v (vI z1))] (.intro (fun (x1 : Lev) => q1.d.stack[z1.toNat]? = some x1) fun x1 => .seg [.el .lev x1] (.br (.seg [.ty .lev, .as 96 (.v (vI z1)), .ty .lev] (.br (.seg [.ty .ev, .ty .ev, .at 0, .keep [1, 2, 4], .sel [0, 1, 2, 3, 8, 5, 10]] (.next)) (.seg [.ty .ev, .ty .ev, .at 0, .keep [1, 2, 4], .sel [0, 1, 2, 3, 8, 5, 10]] (.next)))) (.leaf () [0, 1, 3, 4, 6])))) (.leaf () [0, 1, 3, 4, 6])) (.leaf () [0, 1, 3, 4, 6])) (.leaf () [0, 1, 3, 4, 6])))) (.br (.br (.seg [.at 0, .keep [1, 2, 4], .sel [0, 1, 2, 3, 4, 5, 6]] (.next)) (.br (.br (.seg [.at 0, .keep [1, 2, 4], .sel [0, 1, 2, 3, 4, 5, 6]] (.next)) (.br (.seg [.br false] (.leaf () [0, 1, 3, 4, 6])) (.leaf () [0, 1, 3, 4, 6]))) (.br (.br (.br (.seg [.as 86 (.v (vI z1))] (.intro (fun (x1 : Lev) => q1.d.stack[z1.toNat]? = some x1) fun x1 => .seg [.el .lev x1] (.br (.seg [.ty .lev, .as 96 (.v (vI z1)), .ty .lev] (.br (.seg [.ty .ev, .ty .ev, .at 0, .keep [1, 2, 4], .sel [0, 1, 2, 3, 8, 5, 10]] (.next)) (.seg [.ty .ev, .ty .ev, .at 0, .keep [1, 2, 4], .sel [0, 1, 2, 3, 8, 5, 10]] (.next)))) (.leaf () [0, 1, 3, 4, 6])))) (.leaf () [0, 1, 3, 4, 6])) (.leaf () [0, 1, 3, 4, 6])) (.leaf () [0, 1, 3, 4, 6])))) (.br (.br (.br (.seg [.as 86 (.v (vI z1))] (.intro (fun (x1 : Lev) => q1.d.stack[z1.toNat]? = some x1) fun x1 => .seg [.el .lev x1] (.br (.seg [.ty .lev, .as 96 (.v (vI z1)), .ty .lev] (.br (.seg [.ty .ev, .ty .ev, .at 0, .keep [1, 2, 4], .sel [0, 1, 2, 3, 8, 5, 10]] (.next)) (.seg [.ty .ev, .ty .ev, .at 0, .keep [1, 2, 4], .sel [0, 1, 2, 3, 8, 5, 10]] (.next)))) (.leaf () [0, 1, 3, 4, 6])))) (.leaf () [0, 1, 3, 4, 6])) (.leaf () [0, 1, 3, 4, 6])) (.leaf () [0, 1, 3, 4, 6])))), z16.Has [(1, .v (vP 2)), (2, .v (vP 5)), (4, .v (vO 6))] [.dead, .dead, .cells (oDcd0_5 3 4 d), .tree d.plan.shapes, .lst .lev d.stack, .cells [.nil, .int .i64 0, .int .i64 0, .int .i64 0, .int .i64 0, .nil, .int .u64 0, .int .i64 0, .int .i64 0, .int .i64 0, .int .i64 0, .int .i64 0, .bool false, .bool false, .int .i64 0, .int .i64 0, .int .i64 0, .int .i64 0, .int .i64 0, .int .i64 0, .int .i64 0, .int .i64 0, .int .u64 0, .int .i64 0, .str [], .int .i64 0, .int .i64 0], .lst .ev ([] : List Ev)] ∧ ∀ q1, z16.inv q1 → (let z5 : List Blk := [.dead, .dead, .cells [.own 3, .int .i64 q1.d.plan.root, .int .i64 q1.d.plan.deep, .int .i64 q1.d.plan.most, .int .i64 2, .own 4, .int .u64 q1.d.scan.bits, .int .i64 q1.d.scan.have_, .int .i64 q1.d.start, .int .i64 q1.d.at_, .int .i64 q1.d.field.number, .int .i64 q1.d.field.kind, .bool q1.d.field.rep, .bool q1.d.field.packed, .int .i64 q1.d.field.msg, .int .i64 q1.d.wire, .int .i64 0, .int .i64 q1.d.utf.want, .int .i64 q1.d.utf.low, .int .i64 q1.d.utf.high, .int .i64 q1.d.end_.kind, .int .i64 q1.d.end_.field, .int .u64 q1.d.end_.bits, .int .i64 q1.d.end_.len, .str q1.d.end_.text, .int .i64 q1.d.end_.code, .int .i64 q1.d.end_.at_], .tree q1.d.plan.shapes, .lst .lev q1.d.stack, .cells [.nil, .int .i64 0, .int .i64 0, .int .i64 0, .int .i64 0, .nil, .int .u64 0, .int .i64 0, .int .i64 0, .int .i64 0, .int .i64 0, .int .i64 0, .bool false, .bool false, .int .i64 0, .int .i64 0, .int .i64 0, .int .i64 0, .int .i64 0, .int .i64 0, .int .i64 0, .int .i64 0, .int .u64 0, .int .i64 0, .str [], .int .i64 0, .int .i64 0], .lst .ev q1.out]; let z6 := (q1.d.stack.length : Int); let z7 := ([.dead, .dead, .tree q1.d.plan.shapes, .lst .lev q1.d.stack, .lst .ev q1.out] : List Blk); let z8 := (.tup [.agg (oDcd0_5 2 3 q1.d), vO 4] : S); let z9 := List.take ((Int.toNat (z6 - 1)) - 0) (List.drop 0 q1.d.stack); let z10 := decide (q1.d.scan.have_ = 0); let z11 := dFail q1.d 5 q1.d.at_; let z12 := decide (q1.d.want < 1); let z13 := decide (q1.d.mode = 2); let z3 := z13 = true → (z10 = true → ((decide (0 < z6)) = true → ((.v (vI (IntKind.i64.wrap (z6 - 1))) : S) = .v (vI (z6 - 1))) ∧ (∃ (x1 : Lev), q1.d.stack[Int.toNat (z6 - 1)]? = some x1) ∧ ∀ (x1 : Lev), (q1.d.stack[Int.toNat (z6 - 1)]? = some x1) → ((z6 - 1 < z6) ∧ ((0 : Int) ≤ z6 - 1) ∧ (q1.d.stack[Int.toNat (z6 - 1)]? = some x1) ∧ ((decide (x1.left = 0)) = true → ((.v (vI (IntKind.i64.wrap (z6 - 1))) : S) = .v (vI (z6 - 1))) ∧ (z6 - 1 ≤ z6) ∧ ((0 : Int) ≤ z6 - 1) ∧ (List.length ([] : List Lev) + z9.length ≤ bigN) ∧ ((decide (z6 = 1)) = true → (q1.out.length + List.length [(⟨8, 0, 0, 0, [], 0, 0⟩ : Ev)] ≤ bigN) ∧ z16.Nxt q1 [(1, .v (vP 2)), (2, .v (vP 5)), (4, .v (vO 6))] [.dead, .dead, .cells [.own 3, .int .i64 q1.d.plan.root, .int .i64 q1.d.plan.deep, .int .i64 q1.d.plan.most, .int .i64 1, .own 4, .int .u64 q1.d.scan.bits, .int .i64 q1.d.scan.have_, .int .i64 q1.d.start, .int .i64 q1.d.at_, .int .i64 q1.d.field.number, .int .i64 q1.d.field.kind, .bool q1.d.field.rep, .bool q1.d.field.packed, .int .i64 q1.d.field.msg, .int .i64 q1.d.wire, .int .i64 q1.d.want, .int .i64 q1.d.utf.want, .int .i64 q1.d.utf.low, .int .i64 q1.d.utf.high, .int .i64 q1.d.end_.kind, .int .i64 q1.d.end_.field, .int .u64 q1.d.end_.bits, .int .i64 q1.d.end_.len, .str q1.d.end_.text, .int .i64 q1.d.end_.code, .int .i64 q1.d.end_.at_], .tree q1.d.plan.shapes, .lst .lev (([] : List Lev) ++ z9), .cells [.nil, .int .i64 0, .int .i64 0, .int .i64 0, .int .i64 0, .nil, .int .u64 0, .int .i64 0, .int .i64 0, .int .i64 0, .int .i64 0, .int .i64 0, .bool false, .bool false, .int .i64 0, .int .i64 0, .int .i64 0, .int .i64 0, .int .i64 0, .int .i64 0, .int .i64 0, .int .i64 0, .int .u64 0, .int .i64 0, .str [], .int .i64 0, .int .i64 0], .lst .ev (q1.out ++ [(⟨8, 0, 0, 0, [], 0, 0⟩ : Ev)])]) ∧ ((decide (z6 = 1)) = false → (q1.out.length + List.length [(⟨7, 0, 0, 0, [], 0, 0⟩ : Ev)] ≤ bigN) ∧ z16.Nxt q1 [(1, .v (vP 2)), (2, .v (vP 5)), (4, .v (vO 6))] [.dead, .dead, .cells (oDcd0_5 3 4 q1.d), .tree q1.d.plan.shapes, .lst .lev (([] : List Lev) ++ z9), .cells [.nil, .int .i64 0, .int .i64 0, .int .i64 0, .int .i64 0, .nil, .int .u64 0, .int .i64 0, .int .i64 0, .int .i64 0, .int .i64 0, .int .i64 0, .bool false, .bool false, .int .i64 0, .int .i64 0, .int .i64 0, .int .i64 0, .int .i64 0, .int .i64 0, .int .i64 0, .int .i64 0, .int .u64 0, .int .i64 0, .str [], .int .i64 0, .int .i64 0], .lst .ev (q1.out ++ [(⟨7, 0, 0, 0, [], 0, 0⟩ : Ev)])])) ∧ ((decide (x1.left = 0)) = false → z8 = .tup [.agg z15, vO 4] ∧ z7 = z14))) ∧ ((decide (0 < z6)) = false → z8 = .tup [.agg z15, vO 4] ∧ z7 = z14)) ∧ (z10 = false → z8 = .tup [.agg z15, vO 4] ∧ z7 = z14); let z4 := z13 = false → z8 = .tup [.agg z15, vO 4] ∧ z7 = z14; ((decide (q1.d.mode = 6)) = true → (z12 = true → ((decide (0 < q1.d.utf.want)) = true → (Fun Tryz.prog 76 [.agg (oDcd0_5 0 1 q1.d), vI 5, vI q1.d.at_] [.tree q1.d.plan.shapes, .lst .lev q1.d.stack] (.tup [.agg (oDcd0_5 2 3 z11), vO 4]) [.dead, .dead, .tree z11.plan.shapes, .lst .lev z11.stack, .lst .ev [failEv 5 q1.d.at_]]) ∧ (q1.out.length + List.length [failEv 5 q1.d.at_] ≤ bigN) ∧ (.tup [.agg (oDcd0_5 2 3 z11), vO 4] : S) = .tup [.agg z15, vO 4] ∧ ([.dead, .dead, .tree z11.plan.shapes, .lst .lev z11.stack, .lst .ev (q1.out ++ [failEv 5 q1.d.at_])] : List Blk) = z14) ∧ ((decide (0 < q1.d.utf.want)) = false → (q1.out.length + List.length [(⟨5, 0, 0, 0, [], 0, 0⟩ : Ev)] ≤ bigN) ∧ z16.Nxt q1 [(1, .v (vP 2)), (2, .v (vP 5)), (4, .v (vO 6))] [.dead, .dead, .cells [.own 3, .int .i64 q1.d.plan.root, .int .i64 q1.d.plan.deep, .int .i64 q1.d.plan.most, .int .i64 2, .own 4, .int .u64 q1.d.scan.bits, .int .i64 q1.d.scan.have_, .int .i64 q1.d.start, .int .i64 q1.d.at_, .int .i64 q1.d.field.number, .int .i64 q1.d.field.kind, .bool q1.d.field.rep, .bool q1.d.field.packed, .int .i64 q1.d.field.msg, .int .i64 q1.d.wire, .int .i64 0, .int .i64 0, .int .i64 0, .int .i64 0, .int .i64 q1.d.end_.kind, .int .i64 q1.d.end_.field, .int .u64 q1.d.end_.bits, .int .i64 q1.d.end_.len, .str q1.d.end_.text, .int .i64 q1.d.end_.code, .int .i64 q1.d.end_.at_], .tree q1.d.plan.shapes, .lst .lev q1.d.stack, .cells [.nil, .int .i64 0, .int .i64 0, .int .i64 0, .int .i64 0, .nil, .int .u64 0, .int .i64 0, .int .i64 0, .int .i64 0, .int .i64 0, .int .i64 0, .bool false, .bool false, .int .i64 0, .int .i64 0, .int .i64 0, .int .i64 0, .int .i64 0, .int .i64 0, .int .i64 0, .int .i64 0, .int .u64 0, .int .i64 0, .str [], .int .i64 0, .int .i64 0], .lst .ev (q1.out ++ [(⟨5, 0, 0, 0, [], 0, 0⟩ : Ev)])])) ∧ (z12 = false → (z12 = false) ∧ z3 ∧ z4)) ∧ ((decide (q1.d.mode = 6)) = false → (z12 = true → ((decide (q1.d.mode = 7)) = true → z16.Nxt q1 [(1, .v (vP 2)), (2, .v (vP 5)), (4, .v (vO 6))] z5) ∧ ((decide (q1.d.mode = 7)) = false → ((decide (q1.d.mode = 8)) = true → (z10 = true → z16.Nxt q1 [(1, .v (vP 2)), (2, .v (vP 5)), (4, .v (vO 6))] z5) ∧ (z10 = false → (z13 = true → (z10 = false) ∧ z8 = .tup [.agg z15, vO 4] ∧ z7 = z14) ∧ z4)) ∧ ((decide (q1.d.mode = 8)) = false → z3 ∧ z4))) ∧ (z12 = false → z3 ∧ z4))))) (by kernel_rfl) ?_
  refine ⟨has_of (j := (⟨d, ([] : List Ev)⟩ : settle_s_V0)) rfl rfl (by dsimp only [settle_s_F0]; exact ⟨rfl, by simp, Nat.le_refl _⟩), fun (q1 : settle_s_V0) hq_q1 => ?_⟩
  have hi_q1 : settleM ⟨q1.d, q1.out⟩ = settleM ⟨d, []⟩ ∧ q1.out.length + wM ⟨q1.d, q1.out⟩ ≤ wM ⟨d, []⟩ ∧ List.length (q1.d).stack ≤ d.stack.length := hq_q1
  obtain ⟨v1, v2, v3⟩ := hi_q1
  have hwq := wM_b ⟨q1.d, q1.out⟩
  refine ⟨fun h1 => have p1 := of_decide_eq_true h1; ?_, fun h1 => have p1 := of_decide_eq_false h1; ?_⟩
  refine ⟨fun h2 => have p2 := of_decide_eq_true h2; ?_, fun h2 => have p2 := of_decide_eq_false h2; ?_⟩
  refine ⟨fun h3 => have p3 := of_decide_eq_true h3; ?_, fun h3 => have p3 := of_decide_eq_false h3; ?_⟩
  have hst : settleM ⟨d, []⟩ = mFail ⟨q1.d, q1.out⟩ 5 q1.d.at_ := by rw [← v1]; exact settleM_fail (by assumption) (by assumption) (by assumption)
  refine ⟨(fail_s q1.d _ _), (by simp only [List.length_cons, List.length_nil]; omega), ?_⟩
  refine have hm1 : (settleM ⟨d, []⟩).d = (dFail q1.d 5 q1.d.at_) := ?_; ?_
  rotate_left
  refine have hm2 : (settleM ⟨d, []⟩).out = q1.out ++ [failEv 5 q1.d.at_] := ?_; ?_
  rotate_left
  exact ⟨(by rw [hm1] <;> rfl), (by rw [hm1, hm2] <;> rfl)⟩
  exact ⟨(by simp only [List.length_cons, List.length_nil]; omega), nxt_of (j := (⟨(⟨q1.d.plan, 2, q1.d.stack, q1.d.scan, q1.d.start, q1.d.at_, q1.d.field, q1.d.wire, 0, utf0, q1.d.end_⟩ : Dcd), q1.out ++ [(⟨5, 0, 0, 0, [], 0, 0⟩ : Ev)]⟩ : settle_s_V0)) rfl (by first | rfl | simp) (by dsimp only [settle_s_F0]; have hcl : closeM ⟨q1.d, q1.out⟩ = some ⟨(⟨q1.d.plan, 2, q1.d.stack, q1.d.scan, q1.d.start, q1.d.at_, q1.d.field, q1.d.wire, 0, utf0, q1.d.end_⟩ : Dcd), q1.out ++ [(⟨5, 0, 0, 0, [], 0, 0⟩ : Ev)]⟩ := (by first | ((simp_all [closeM, evShut, evUp, evFrmEnd, utf0]; done)) | (grind [closeM, evShut, evUp, evFrmEnd, utf0])); exact ⟨by rw [← v1]; exact (settleM_some hcl).symm, by have := closeM_dec hcl; simp only at this; omega, by have := (closeM_len hcl).1; simp only at this; omega⟩) (by dsimp only [settle_s_F0]; have hcl : closeM ⟨q1.d, q1.out⟩ = some ⟨(⟨q1.d.plan, 2, q1.d.stack, q1.d.scan, q1.d.start, q1.d.at_, q1.d.field, q1.d.wire, 0, utf0, q1.d.end_⟩ : Dcd), q1.out ++ [(⟨5, 0, 0, 0, [], 0, 0⟩ : Ev)]⟩ := (by first | ((simp_all [closeM, evShut, evUp, evFrmEnd, utf0]; done)) | (grind [closeM, evShut, evUp, evFrmEnd, utf0])); exact (closeM_dec hcl).1)⟩
  refine ⟨h2, fun h3 => have p3 := of_decide_eq_true h3; ?_, fun h3 => have p3 := of_decide_eq_false h3; ?_⟩
  refine ⟨fun h4 => have p4 := of_decide_eq_true h4; ?_, fun h4 => have p4 := of_decide_eq_false h4; ?_⟩
  refine ⟨fun h5 => have p5 := of_decide_eq_true h5; ?_, fun h5 => have p5 := of_decide_eq_false h5; ?_⟩
  refine ⟨(as_i64 (by omega) (by omega)), (ax_get (l := q1.d.stack) (i := Int.toNat ((q1.d.stack.length : Int) - 1)) (by omega)), fun x1 hx1 => ?_⟩
  refine ⟨(by omega), (by omega), ?_⟩
  have hll := lastL_el (d := q1.d) (by rw [← hx1]; congr 1; omega)
  have hix : Int.toNat ((q1.d.stack.length : Int) - 1) = q1.d.stack.length - 1 := by omega
  refine ⟨hx1, fun h6 => have p6 := of_decide_eq_true h6; ?_, fun h6 => have p6 := of_decide_eq_false h6; ?_⟩
  refine ⟨(as_i64 (by omega) (by omega)), (by omega), (by omega), (by simp only [List.length_take, List.length_drop, List.length_cons, List.length_nil]; omega), fun h7 => have p7 := of_decide_eq_true h7; ?_, fun h7 => have p7 := of_decide_eq_false h7; ?_⟩
  exact ⟨(by simp only [List.length_cons, List.length_nil]; omega), nxt_of (j := (⟨(⟨q1.d.plan, 1, ([] : List Lev) ++ (List.take ((Int.toNat ((q1.d.stack.length : Int) - 1)) - 0) (List.drop 0 q1.d.stack)), q1.d.scan, q1.d.start, q1.d.at_, q1.d.field, q1.d.wire, q1.d.want, q1.d.utf, q1.d.end_⟩ : Dcd), q1.out ++ [(⟨8, 0, 0, 0, [], 0, 0⟩ : Ev)]⟩ : settle_s_V0)) rfl (by first | rfl | simp) (by dsimp only [settle_s_F0]; have hcl : closeM ⟨q1.d, q1.out⟩ = some ⟨(⟨q1.d.plan, 1, ([] : List Lev) ++ (List.take ((Int.toNat ((q1.d.stack.length : Int) - 1)) - 0) (List.drop 0 q1.d.stack)), q1.d.scan, q1.d.start, q1.d.at_, q1.d.field, q1.d.wire, q1.d.want, q1.d.utf, q1.d.end_⟩ : Dcd), q1.out ++ [(⟨8, 0, 0, 0, [], 0, 0⟩ : Ev)]⟩ := (by simp only [List.nil_append, List.drop_zero, hix]; first | exact closeM_pop1 (by assumption) (by assumption) (by omega) (by rw [hll.2]; assumption) (by omega) | exact closeM_popn (by assumption) (by assumption) (by omega) (by rw [hll.2]; assumption) (by omega)); exact ⟨by rw [← v1]; exact (settleM_some hcl).symm, by have := closeM_dec hcl; simp only at this; omega, by have := (closeM_len hcl).1; simp only at this; omega⟩) (by dsimp only [settle_s_F0]; have hcl : closeM ⟨q1.d, q1.out⟩ = some ⟨(⟨q1.d.plan, 1, ([] : List Lev) ++ (List.take ((Int.toNat ((q1.d.stack.length : Int) - 1)) - 0) (List.drop 0 q1.d.stack)), q1.d.scan, q1.d.start, q1.d.at_, q1.d.field, q1.d.wire, q1.d.want, q1.d.utf, q1.d.end_⟩ : Dcd), q1.out ++ [(⟨8, 0, 0, 0, [], 0, 0⟩ : Ev)]⟩ := (by simp only [List.nil_append, List.drop_zero, hix]; first | exact closeM_pop1 (by assumption) (by assumption) (by omega) (by rw [hll.2]; assumption) (by omega) | exact closeM_popn (by assumption) (by assumption) (by omega) (by rw [hll.2]; assumption) (by omega)); exact (closeM_dec hcl).1)⟩
  exact ⟨(by simp only [List.length_cons, List.length_nil]; omega), nxt_of (j := (⟨(⟨q1.d.plan, q1.d.mode, ([] : List Lev) ++ (List.take ((Int.toNat ((q1.d.stack.length : Int) - 1)) - 0) (List.drop 0 q1.d.stack)), q1.d.scan, q1.d.start, q1.d.at_, q1.d.field, q1.d.wire, q1.d.want, q1.d.utf, q1.d.end_⟩ : Dcd), q1.out ++ [(⟨7, 0, 0, 0, [], 0, 0⟩ : Ev)]⟩ : settle_s_V0)) rfl (by first | rfl | simp) (by dsimp only [settle_s_F0]; have hcl : closeM ⟨q1.d, q1.out⟩ = some ⟨(⟨q1.d.plan, q1.d.mode, ([] : List Lev) ++ (List.take ((Int.toNat ((q1.d.stack.length : Int) - 1)) - 0) (List.drop 0 q1.d.stack)), q1.d.scan, q1.d.start, q1.d.at_, q1.d.field, q1.d.wire, q1.d.want, q1.d.utf, q1.d.end_⟩ : Dcd), q1.out ++ [(⟨7, 0, 0, 0, [], 0, 0⟩ : Ev)]⟩ := (by simp only [List.nil_append, List.drop_zero, hix]; first | exact closeM_pop1 (by assumption) (by assumption) (by omega) (by rw [hll.2]; assumption) (by omega) | exact closeM_popn (by assumption) (by assumption) (by omega) (by rw [hll.2]; assumption) (by omega)); exact ⟨by rw [← v1]; exact (settleM_some hcl).symm, by have := closeM_dec hcl; simp only at this; omega, by have := (closeM_len hcl).1; simp only at this; omega⟩) (by dsimp only [settle_s_F0]; have hcl : closeM ⟨q1.d, q1.out⟩ = some ⟨(⟨q1.d.plan, q1.d.mode, ([] : List Lev) ++ (List.take ((Int.toNat ((q1.d.stack.length : Int) - 1)) - 0) (List.drop 0 q1.d.stack)), q1.d.scan, q1.d.start, q1.d.at_, q1.d.field, q1.d.wire, q1.d.want, q1.d.utf, q1.d.end_⟩ : Dcd), q1.out ++ [(⟨7, 0, 0, 0, [], 0, 0⟩ : Ev)]⟩ := (by simp only [List.nil_append, List.drop_zero, hix]; first | exact closeM_pop1 (by assumption) (by assumption) (by omega) (by rw [hll.2]; assumption) (by omega) | exact closeM_popn (by assumption) (by assumption) (by omega) (by rw [hll.2]; assumption) (by omega)); exact (closeM_dec hcl).1)⟩
  refine have hm1 : (settleM ⟨d, []⟩).d = q1.d := ?_; ?_
  rotate_left
  refine have hm2 : (settleM ⟨d, []⟩).out = q1.out := ?_; ?_
  rotate_left
  exact ⟨(by rw [hm1] <;> rfl), (by rw [hm1, hm2] <;> rfl)⟩
  refine have hm1 : (settleM ⟨d, []⟩).d = q1.d := ?_; ?_
  rotate_left
  refine have hm2 : (settleM ⟨d, []⟩).out = q1.out := ?_; ?_
  rotate_left
  exact ⟨(by rw [hm1] <;> rfl), (by rw [hm1, hm2] <;> rfl)⟩
  refine have hm1 : (settleM ⟨d, []⟩).d = q1.d := ?_; ?_
  rotate_left
  refine have hm2 : (settleM ⟨d, []⟩).out = q1.out := ?_; ?_
  rotate_left
  exact ⟨(by rw [hm1] <;> rfl), (by rw [hm1, hm2] <;> rfl)⟩
  refine have hm1 : (settleM ⟨d, []⟩).d = q1.d := ?_; ?_
  rotate_left
  refine have hm2 : (settleM ⟨d, []⟩).out = q1.out := ?_; ?_
  rotate_left
  exact ⟨(by rw [hm1] <;> rfl), (by rw [hm1, hm2] <;> rfl)⟩
  refine ⟨fun h2 => have p2 := of_decide_eq_true h2; ?_, fun h2 => have p2 := of_decide_eq_false h2; ?_⟩
  refine ⟨fun h3 => have p3 := of_decide_eq_true h3; ?_, fun h3 => have p3 := of_decide_eq_false h3; ?_⟩
  exact nxt_of (j := (⟨(⟨q1.d.plan, 2, q1.d.stack, q1.d.scan, q1.d.start, q1.d.at_, q1.d.field, q1.d.wire, 0, q1.d.utf, q1.d.end_⟩ : Dcd), q1.out⟩ : settle_s_V0)) rfl (by first | rfl | simp) (by dsimp only [settle_s_F0]; have hcl : closeM ⟨q1.d, q1.out⟩ = some ⟨(⟨q1.d.plan, 2, q1.d.stack, q1.d.scan, q1.d.start, q1.d.at_, q1.d.field, q1.d.wire, 0, q1.d.utf, q1.d.end_⟩ : Dcd), q1.out⟩ := (by first | ((simp_all [closeM, evShut, evUp, evFrmEnd, utf0]; done)) | (grind [closeM, evShut, evUp, evFrmEnd, utf0])); exact ⟨by rw [← v1]; exact (settleM_some hcl).symm, by have := closeM_dec hcl; simp only at this; omega, by have := (closeM_len hcl).1; simp only at this; omega⟩) (by dsimp only [settle_s_F0]; have hcl : closeM ⟨q1.d, q1.out⟩ = some ⟨(⟨q1.d.plan, 2, q1.d.stack, q1.d.scan, q1.d.start, q1.d.at_, q1.d.field, q1.d.wire, 0, q1.d.utf, q1.d.end_⟩ : Dcd), q1.out⟩ := (by first | ((simp_all [closeM, evShut, evUp, evFrmEnd, utf0]; done)) | (grind [closeM, evShut, evUp, evFrmEnd, utf0])); exact (closeM_dec hcl).1)
  refine ⟨fun h4 => have p4 := of_decide_eq_true h4; ?_, fun h4 => have p4 := of_decide_eq_false h4; ?_⟩
  refine ⟨fun h5 => have p5 := of_decide_eq_true h5; ?_, fun h5 => have p5 := of_decide_eq_false h5; ?_⟩
  exact nxt_of (j := (⟨(⟨q1.d.plan, 2, q1.d.stack, q1.d.scan, q1.d.start, q1.d.at_, q1.d.field, q1.d.wire, 0, q1.d.utf, q1.d.end_⟩ : Dcd), q1.out⟩ : settle_s_V0)) rfl (by first | rfl | simp) (by dsimp only [settle_s_F0]; have hcl : closeM ⟨q1.d, q1.out⟩ = some ⟨(⟨q1.d.plan, 2, q1.d.stack, q1.d.scan, q1.d.start, q1.d.at_, q1.d.field, q1.d.wire, 0, q1.d.utf, q1.d.end_⟩ : Dcd), q1.out⟩ := (by first | ((simp_all [closeM, evShut, evUp, evFrmEnd, utf0]; done)) | (grind [closeM, evShut, evUp, evFrmEnd, utf0])); exact ⟨by rw [← v1]; exact (settleM_some hcl).symm, by have := closeM_dec hcl; simp only at this; omega, by have := (closeM_len hcl).1; simp only at this; omega⟩) (by dsimp only [settle_s_F0]; have hcl : closeM ⟨q1.d, q1.out⟩ = some ⟨(⟨q1.d.plan, 2, q1.d.stack, q1.d.scan, q1.d.start, q1.d.at_, q1.d.field, q1.d.wire, 0, q1.d.utf, q1.d.end_⟩ : Dcd), q1.out⟩ := (by first | ((simp_all [closeM, evShut, evUp, evFrmEnd, utf0]; done)) | (grind [closeM, evShut, evUp, evFrmEnd, utf0])); exact (closeM_dec hcl).1)
  refine ⟨fun h6 => have p6 := of_decide_eq_true h6; ?_, fun h6 => have p6 := of_decide_eq_false h6; ?_⟩
  refine ⟨h5, ?_⟩
  refine have hm1 : (settleM ⟨d, []⟩).d = q1.d := ?_; ?_
  rotate_left
  refine have hm2 : (settleM ⟨d, []⟩).out = q1.out := ?_; ?_
  rotate_left
  exact ⟨(by rw [hm1] <;> rfl), (by rw [hm1, hm2] <;> rfl)⟩
  refine have hm1 : (settleM ⟨d, []⟩).d = q1.d := ?_; ?_
  rotate_left
  refine have hm2 : (settleM ⟨d, []⟩).out = q1.out := ?_; ?_
  rotate_left
  exact ⟨(by rw [hm1] <;> rfl), (by rw [hm1, hm2] <;> rfl)⟩
  refine ⟨fun h5 => have p5 := of_decide_eq_true h5; ?_, fun h5 => have p5 := of_decide_eq_false h5; ?_⟩
  refine ⟨fun h6 => have p6 := of_decide_eq_true h6; ?_, fun h6 => have p6 := of_decide_eq_false h6; ?_⟩
  refine ⟨fun h7 => have p7 := of_decide_eq_true h7; ?_, fun h7 => have p7 := of_decide_eq_false h7; ?_⟩
  refine ⟨(as_i64 (by omega) (by omega)), (ax_get (l := q1.d.stack) (i := Int.toNat ((q1.d.stack.length : Int) - 1)) (by omega)), fun x1 hx1 => ?_⟩
  refine ⟨(by omega), (by omega), ?_⟩
  have hll := lastL_el (d := q1.d) (by rw [← hx1]; congr 1; omega)
  have hix : Int.toNat ((q1.d.stack.length : Int) - 1) = q1.d.stack.length - 1 := by omega
  refine ⟨hx1, fun h8 => have p8 := of_decide_eq_true h8; ?_, fun h8 => have p8 := of_decide_eq_false h8; ?_⟩
  refine ⟨(as_i64 (by omega) (by omega)), (by omega), (by omega), (by simp only [List.length_take, List.length_drop, List.length_cons, List.length_nil]; omega), fun h9 => have p9 := of_decide_eq_true h9; ?_, fun h9 => have p9 := of_decide_eq_false h9; ?_⟩
  exact ⟨(by simp only [List.length_cons, List.length_nil]; omega), nxt_of (j := (⟨(⟨q1.d.plan, 1, ([] : List Lev) ++ (List.take ((Int.toNat ((q1.d.stack.length : Int) - 1)) - 0) (List.drop 0 q1.d.stack)), q1.d.scan, q1.d.start, q1.d.at_, q1.d.field, q1.d.wire, q1.d.want, q1.d.utf, q1.d.end_⟩ : Dcd), q1.out ++ [(⟨8, 0, 0, 0, [], 0, 0⟩ : Ev)]⟩ : settle_s_V0)) rfl (by first | rfl | simp) (by dsimp only [settle_s_F0]; have hcl : closeM ⟨q1.d, q1.out⟩ = some ⟨(⟨q1.d.plan, 1, ([] : List Lev) ++ (List.take ((Int.toNat ((q1.d.stack.length : Int) - 1)) - 0) (List.drop 0 q1.d.stack)), q1.d.scan, q1.d.start, q1.d.at_, q1.d.field, q1.d.wire, q1.d.want, q1.d.utf, q1.d.end_⟩ : Dcd), q1.out ++ [(⟨8, 0, 0, 0, [], 0, 0⟩ : Ev)]⟩ := (by simp only [List.nil_append, List.drop_zero, hix]; first | exact closeM_pop1 (by assumption) (by assumption) (by omega) (by rw [hll.2]; assumption) (by omega) | exact closeM_popn (by assumption) (by assumption) (by omega) (by rw [hll.2]; assumption) (by omega)); exact ⟨by rw [← v1]; exact (settleM_some hcl).symm, by have := closeM_dec hcl; simp only at this; omega, by have := (closeM_len hcl).1; simp only at this; omega⟩) (by dsimp only [settle_s_F0]; have hcl : closeM ⟨q1.d, q1.out⟩ = some ⟨(⟨q1.d.plan, 1, ([] : List Lev) ++ (List.take ((Int.toNat ((q1.d.stack.length : Int) - 1)) - 0) (List.drop 0 q1.d.stack)), q1.d.scan, q1.d.start, q1.d.at_, q1.d.field, q1.d.wire, q1.d.want, q1.d.utf, q1.d.end_⟩ : Dcd), q1.out ++ [(⟨8, 0, 0, 0, [], 0, 0⟩ : Ev)]⟩ := (by simp only [List.nil_append, List.drop_zero, hix]; first | exact closeM_pop1 (by assumption) (by assumption) (by omega) (by rw [hll.2]; assumption) (by omega) | exact closeM_popn (by assumption) (by assumption) (by omega) (by rw [hll.2]; assumption) (by omega)); exact (closeM_dec hcl).1)⟩
  exact ⟨(by simp only [List.length_cons, List.length_nil]; omega), nxt_of (j := (⟨(⟨q1.d.plan, q1.d.mode, ([] : List Lev) ++ (List.take ((Int.toNat ((q1.d.stack.length : Int) - 1)) - 0) (List.drop 0 q1.d.stack)), q1.d.scan, q1.d.start, q1.d.at_, q1.d.field, q1.d.wire, q1.d.want, q1.d.utf, q1.d.end_⟩ : Dcd), q1.out ++ [(⟨7, 0, 0, 0, [], 0, 0⟩ : Ev)]⟩ : settle_s_V0)) rfl (by first | rfl | simp) (by dsimp only [settle_s_F0]; have hcl : closeM ⟨q1.d, q1.out⟩ = some ⟨(⟨q1.d.plan, q1.d.mode, ([] : List Lev) ++ (List.take ((Int.toNat ((q1.d.stack.length : Int) - 1)) - 0) (List.drop 0 q1.d.stack)), q1.d.scan, q1.d.start, q1.d.at_, q1.d.field, q1.d.wire, q1.d.want, q1.d.utf, q1.d.end_⟩ : Dcd), q1.out ++ [(⟨7, 0, 0, 0, [], 0, 0⟩ : Ev)]⟩ := (by simp only [List.nil_append, List.drop_zero, hix]; first | exact closeM_pop1 (by assumption) (by assumption) (by omega) (by rw [hll.2]; assumption) (by omega) | exact closeM_popn (by assumption) (by assumption) (by omega) (by rw [hll.2]; assumption) (by omega)); exact ⟨by rw [← v1]; exact (settleM_some hcl).symm, by have := closeM_dec hcl; simp only at this; omega, by have := (closeM_len hcl).1; simp only at this; omega⟩) (by dsimp only [settle_s_F0]; have hcl : closeM ⟨q1.d, q1.out⟩ = some ⟨(⟨q1.d.plan, q1.d.mode, ([] : List Lev) ++ (List.take ((Int.toNat ((q1.d.stack.length : Int) - 1)) - 0) (List.drop 0 q1.d.stack)), q1.d.scan, q1.d.start, q1.d.at_, q1.d.field, q1.d.wire, q1.d.want, q1.d.utf, q1.d.end_⟩ : Dcd), q1.out ++ [(⟨7, 0, 0, 0, [], 0, 0⟩ : Ev)]⟩ := (by simp only [List.nil_append, List.drop_zero, hix]; first | exact closeM_pop1 (by assumption) (by assumption) (by omega) (by rw [hll.2]; assumption) (by omega) | exact closeM_popn (by assumption) (by assumption) (by omega) (by rw [hll.2]; assumption) (by omega)); exact (closeM_dec hcl).1)⟩
  refine have hm1 : (settleM ⟨d, []⟩).d = q1.d := ?_; ?_
  rotate_left
  refine have hm2 : (settleM ⟨d, []⟩).out = q1.out := ?_; ?_
  rotate_left
  exact ⟨(by rw [hm1] <;> rfl), (by rw [hm1, hm2] <;> rfl)⟩
  refine have hm1 : (settleM ⟨d, []⟩).d = q1.d := ?_; ?_
  rotate_left
  refine have hm2 : (settleM ⟨d, []⟩).out = q1.out := ?_; ?_
  rotate_left
  exact ⟨(by rw [hm1] <;> rfl), (by rw [hm1, hm2] <;> rfl)⟩
  refine have hm1 : (settleM ⟨d, []⟩).d = q1.d := ?_; ?_
  rotate_left
  refine have hm2 : (settleM ⟨d, []⟩).out = q1.out := ?_; ?_
  rotate_left
  exact ⟨(by rw [hm1] <;> rfl), (by rw [hm1, hm2] <;> rfl)⟩
  refine have hm1 : (settleM ⟨d, []⟩).d = q1.d := ?_; ?_
  rotate_left
  refine have hm2 : (settleM ⟨d, []⟩).out = q1.out := ?_; ?_
  rotate_left
  exact ⟨(by rw [hm1] <;> rfl), (by rw [hm1, hm2] <;> rfl)⟩
  refine ⟨fun h3 => have p3 := of_decide_eq_true h3; ?_, fun h3 => have p3 := of_decide_eq_false h3; ?_⟩
  refine ⟨fun h4 => have p4 := of_decide_eq_true h4; ?_, fun h4 => have p4 := of_decide_eq_false h4; ?_⟩
  refine ⟨fun h5 => have p5 := of_decide_eq_true h5; ?_, fun h5 => have p5 := of_decide_eq_false h5; ?_⟩
  refine ⟨(as_i64 (by omega) (by omega)), (ax_get (l := q1.d.stack) (i := Int.toNat ((q1.d.stack.length : Int) - 1)) (by omega)), fun x1 hx1 => ?_⟩
  refine ⟨(by omega), (by omega), ?_⟩
  have hll := lastL_el (d := q1.d) (by rw [← hx1]; congr 1; omega)
  have hix : Int.toNat ((q1.d.stack.length : Int) - 1) = q1.d.stack.length - 1 := by omega
  refine ⟨hx1, fun h6 => have p6 := of_decide_eq_true h6; ?_, fun h6 => have p6 := of_decide_eq_false h6; ?_⟩
  refine ⟨(as_i64 (by omega) (by omega)), (by omega), (by omega), (by simp only [List.length_take, List.length_drop, List.length_cons, List.length_nil]; omega), fun h7 => have p7 := of_decide_eq_true h7; ?_, fun h7 => have p7 := of_decide_eq_false h7; ?_⟩
  exact ⟨(by simp only [List.length_cons, List.length_nil]; omega), nxt_of (j := (⟨(⟨q1.d.plan, 1, ([] : List Lev) ++ (List.take ((Int.toNat ((q1.d.stack.length : Int) - 1)) - 0) (List.drop 0 q1.d.stack)), q1.d.scan, q1.d.start, q1.d.at_, q1.d.field, q1.d.wire, q1.d.want, q1.d.utf, q1.d.end_⟩ : Dcd), q1.out ++ [(⟨8, 0, 0, 0, [], 0, 0⟩ : Ev)]⟩ : settle_s_V0)) rfl (by first | rfl | simp) (by dsimp only [settle_s_F0]; have hcl : closeM ⟨q1.d, q1.out⟩ = some ⟨(⟨q1.d.plan, 1, ([] : List Lev) ++ (List.take ((Int.toNat ((q1.d.stack.length : Int) - 1)) - 0) (List.drop 0 q1.d.stack)), q1.d.scan, q1.d.start, q1.d.at_, q1.d.field, q1.d.wire, q1.d.want, q1.d.utf, q1.d.end_⟩ : Dcd), q1.out ++ [(⟨8, 0, 0, 0, [], 0, 0⟩ : Ev)]⟩ := (by simp only [List.nil_append, List.drop_zero, hix]; first | exact closeM_pop1 (by assumption) (by assumption) (by omega) (by rw [hll.2]; assumption) (by omega) | exact closeM_popn (by assumption) (by assumption) (by omega) (by rw [hll.2]; assumption) (by omega)); exact ⟨by rw [← v1]; exact (settleM_some hcl).symm, by have := closeM_dec hcl; simp only at this; omega, by have := (closeM_len hcl).1; simp only at this; omega⟩) (by dsimp only [settle_s_F0]; have hcl : closeM ⟨q1.d, q1.out⟩ = some ⟨(⟨q1.d.plan, 1, ([] : List Lev) ++ (List.take ((Int.toNat ((q1.d.stack.length : Int) - 1)) - 0) (List.drop 0 q1.d.stack)), q1.d.scan, q1.d.start, q1.d.at_, q1.d.field, q1.d.wire, q1.d.want, q1.d.utf, q1.d.end_⟩ : Dcd), q1.out ++ [(⟨8, 0, 0, 0, [], 0, 0⟩ : Ev)]⟩ := (by simp only [List.nil_append, List.drop_zero, hix]; first | exact closeM_pop1 (by assumption) (by assumption) (by omega) (by rw [hll.2]; assumption) (by omega) | exact closeM_popn (by assumption) (by assumption) (by omega) (by rw [hll.2]; assumption) (by omega)); exact (closeM_dec hcl).1)⟩
  exact ⟨(by simp only [List.length_cons, List.length_nil]; omega), nxt_of (j := (⟨(⟨q1.d.plan, q1.d.mode, ([] : List Lev) ++ (List.take ((Int.toNat ((q1.d.stack.length : Int) - 1)) - 0) (List.drop 0 q1.d.stack)), q1.d.scan, q1.d.start, q1.d.at_, q1.d.field, q1.d.wire, q1.d.want, q1.d.utf, q1.d.end_⟩ : Dcd), q1.out ++ [(⟨7, 0, 0, 0, [], 0, 0⟩ : Ev)]⟩ : settle_s_V0)) rfl (by first | rfl | simp) (by dsimp only [settle_s_F0]; have hcl : closeM ⟨q1.d, q1.out⟩ = some ⟨(⟨q1.d.plan, q1.d.mode, ([] : List Lev) ++ (List.take ((Int.toNat ((q1.d.stack.length : Int) - 1)) - 0) (List.drop 0 q1.d.stack)), q1.d.scan, q1.d.start, q1.d.at_, q1.d.field, q1.d.wire, q1.d.want, q1.d.utf, q1.d.end_⟩ : Dcd), q1.out ++ [(⟨7, 0, 0, 0, [], 0, 0⟩ : Ev)]⟩ := (by simp only [List.nil_append, List.drop_zero, hix]; first | exact closeM_pop1 (by assumption) (by assumption) (by omega) (by rw [hll.2]; assumption) (by omega) | exact closeM_popn (by assumption) (by assumption) (by omega) (by rw [hll.2]; assumption) (by omega)); exact ⟨by rw [← v1]; exact (settleM_some hcl).symm, by have := closeM_dec hcl; simp only at this; omega, by have := (closeM_len hcl).1; simp only at this; omega⟩) (by dsimp only [settle_s_F0]; have hcl : closeM ⟨q1.d, q1.out⟩ = some ⟨(⟨q1.d.plan, q1.d.mode, ([] : List Lev) ++ (List.take ((Int.toNat ((q1.d.stack.length : Int) - 1)) - 0) (List.drop 0 q1.d.stack)), q1.d.scan, q1.d.start, q1.d.at_, q1.d.field, q1.d.wire, q1.d.want, q1.d.utf, q1.d.end_⟩ : Dcd), q1.out ++ [(⟨7, 0, 0, 0, [], 0, 0⟩ : Ev)]⟩ := (by simp only [List.nil_append, List.drop_zero, hix]; first | exact closeM_pop1 (by assumption) (by assumption) (by omega) (by rw [hll.2]; assumption) (by omega) | exact closeM_popn (by assumption) (by assumption) (by omega) (by rw [hll.2]; assumption) (by omega)); exact (closeM_dec hcl).1)⟩
  refine have hm1 : (settleM ⟨d, []⟩).d = q1.d := ?_; ?_
  rotate_left
  refine have hm2 : (settleM ⟨d, []⟩).out = q1.out := ?_; ?_
  rotate_left
  exact ⟨(by rw [hm1] <;> rfl), (by rw [hm1, hm2] <;> rfl)⟩
  refine have hm1 : (settleM ⟨d, []⟩).d = q1.d := ?_; ?_
  rotate_left
  refine have hm2 : (settleM ⟨d, []⟩).out = q1.out := ?_; ?_
  rotate_left
  exact ⟨(by rw [hm1] <;> rfl), (by rw [hm1, hm2] <;> rfl)⟩
  refine have hm1 : (settleM ⟨d, []⟩).d = q1.d := ?_; ?_
  rotate_left
  refine have hm2 : (settleM ⟨d, []⟩).out = q1.out := ?_; ?_
  rotate_left
  exact ⟨(by rw [hm1] <;> rfl), (by rw [hm1, hm2] <;> rfl)⟩
  refine have hm1 : (settleM ⟨d, []⟩).d = q1.d := ?_; ?_
  rotate_left
  refine have hm2 : (settleM ⟨d, []⟩).out = q1.out := ?_; ?_
  rotate_left
  exact ⟨(by rw [hm1] <;> rfl), (by rw [hm1, hm2] <;> rfl)⟩
  all_goals first | ((rw [hst]; rfl)) | ((rw [← v1, settleM_none (by first | ((simp_all [closeM, evShut, evUp, evFrmEnd, utf0]; done)) | (grind [closeM, evShut, evUp, evFrmEnd, utf0]))]))
end Go.Proofs.YtecljjcmjongfaaGreat.Ax
namespace Go.Proofs.YtecljjcmjongfaaGreat.Ax
open Go.RowKit
set_option linter.unusedSimpArgs false
set_option linter.unusedVariables false
theorem tell_s (d : Dcd) (e : Ev) (hp1 : List.length (d).stack ≤ 1000) : Fun Tryz.prog 77 [.agg (oDcd0_5 0 1 d), .agg (cEv e)] [.tree d.plan.shapes, .lst .lev d.stack] (.tup [.agg (oDcd0_5 2 3 (settleM ⟨d, []⟩).d), vO 4]) [.dead, .dead, .tree (settleM ⟨d, []⟩).d.plan.shapes, .lst .lev (settleM ⟨d, []⟩).d.stack, .lst .ev (e :: (settleM ⟨d, []⟩).out)] := by
  have hN : bigN = 274877906944 := rfl
  have hso := settleM_out ⟨d, []⟩
  have hwd := wM_b ⟨d, []⟩
  simp only [List.length_nil] at hwd hso
  refine fun_ofw Tryz.func77 (by kernel_rfl) (by kernel_rfl) (w := let z1 := settleM ⟨d, []⟩; let z2 : List Blk := [.dead, .dead, .tree z1.d.plan.shapes, .lst .lev z1.d.stack, .lst .ev z1.out]; let z3 := oDcd0_5 2 3 z1.d; (.seg [.call [0, 1] (.tup [.agg z3, vO 4]) z2, .tree (.first 0 (.first 1 (.first 3 (.one 2 (.one 4 (.one 5 (.first 6 (.done)))))))) 5 [7], .ty .ev, .ty .ev] (.leaf () [0, 1, 5, 6, 10]), (Fun Tryz.prog 74 [.agg (oDcd0_5 0 1 d)] [.tree d.plan.shapes, .lst .lev d.stack] (.tup [.agg z3, vO 4]) z2) ∧ (List.length [e] + z1.out.length ≤ bigN) ∧ (.tup [.agg z3, vO 4] : S) = .tup [.agg z3, vO 4] ∧ ([.dead, .dead, .tree z1.d.plan.shapes, .lst .lev z1.d.stack, .lst .ev ([e] ++ z1.out)] : List Blk) = [.dead, .dead, .tree z1.d.plan.shapes, .lst .lev z1.d.stack, .lst .ev (e :: z1.out)])) (by kernel_rfl) ?_
  exact ⟨(settle_s d (by omega)), (by simp only [List.length_cons, List.length_nil]; omega), rfl, (consE rfl (consE rfl (consE rfl (consE rfl (consE (congrArg (Blk.lst .ev) (by rfl)) rfl)))))⟩
theorem frame_s (d : Dcd) (u : Int) (hp1 : levelsOk d = true) (hp2 : (0 : Int) ≤ u ∧ u ≤ 18446744073709551615) : Fun Tryz.prog 137 [.agg (cDcd d), .c (.int .u64 u)] [] (.tup [.agg (oDcd0_5 0 1 (frameM ⟨d, []⟩ u).d), vO 2]) [.tree (frameM ⟨d, []⟩ u).d.plan.shapes, .lst .lev (frameM ⟨d, []⟩ u).d.stack, .lst .ev (frameM ⟨d, []⟩ u).out] := by
  have hN : bigN = 274877906944 := rfl
  have hlv := levelsOk_b hp1
  have hpt := planOk_t hlv.1
  have htb := topL_b hp1
  refine fun_ofw Tryz.func137 (by kernel_rfl) (by kernel_rfl) (w := let z1 := settleM ⟨(⟨d.plan, 2, [(⟨d.plan.root, u⟩ : Lev)], (⟨0, 0⟩ : Scn), d.start, d.at_, d.field, d.wire, d.want, d.utf, d.end_⟩ : Dcd), []⟩; let z2 := dFail (⟨d.plan, d.mode, d.stack, (⟨0, 0⟩ : Scn), d.start, d.at_, d.field, d.wire, d.want, d.utf, d.end_⟩ : Dcd) 7 d.start; let z3 := frameM ⟨d, []⟩ u; let z5 : List Blk := [.dead, .dead, .tree z2.plan.shapes, .lst .lev z2.stack, .lst .ev [failEv 7 d.start]]; let z6 := (.v (vI (IntKind.i64.wrap (u))) : S) = .v (vI u); let z7 := (⟨1, 0, 0, u, [], 0, 0⟩ : Ev) :: z1.out; let z4 : List Blk := [.dead, .dead, .tree z1.d.plan.shapes, .lst .lev z1.d.stack, .lst .ev z7]; (.seg [.call [] (.v (.agg (oDcd0_5 0 1 d))) [.tree d.plan.shapes, .lst .lev d.stack], .call [] (.v (vB (levelsOk d))) [], .br false, .as 20 (.v (.c (.int .u64 d.plan.most)))] (.br (.seg [.call [2, 3] (.tup [.agg (oDcd0_5 2 3 z2), vO 4]) z5] (.leaf () [5, 6, 7])) (.seg [.as 32 (.v (vI u)), .ty .lev, .as 39 (.v (vI u)), .call [2, 5] (.tup [.agg (oDcd0_5 2 3 z1.d), vO 4]) z4] (.leaf () [6, 7, 8]))), (Fun Tryz.prog 70 [.agg (cDcd d)] [] (.v (.agg (oDcd0_5 0 1 d))) [.tree d.plan.shapes, .lst .lev d.stack]) ∧ (Fun Tryz.prog 178 [.agg (cDcd d)] [] (.v (vB (levelsOk d))) []) ∧ ((!(levelsOk d)) = false) ∧ ((.v (.c (.int .u64 (IntKind.u64.wrap (d.plan.most)))) : S) = .v (.c (.int .u64 d.plan.most))) ∧ ((decide (d.plan.most < u)) = true → (Fun Tryz.prog 76 [.agg [.own 0, .int .i64 d.plan.root, .int .i64 d.plan.deep, .int .i64 d.plan.most, .int .i64 d.mode, .own 1, .int .u64 0, .int .i64 0, .int .i64 d.start, .int .i64 d.at_, .int .i64 d.field.number, .int .i64 d.field.kind, .bool d.field.rep, .bool d.field.packed, .int .i64 d.field.msg, .int .i64 d.wire, .int .i64 d.want, .int .i64 d.utf.want, .int .i64 d.utf.low, .int .i64 d.utf.high, .int .i64 d.end_.kind, .int .i64 d.end_.field, .int .u64 d.end_.bits, .int .i64 d.end_.len, .str d.end_.text, .int .i64 d.end_.code, .int .i64 d.end_.at_], vI 7, vI d.start] [.tree d.plan.shapes, .lst .lev d.stack] (.tup [.agg (oDcd0_5 2 3 z2), vO 4]) z5) ∧ (.tup [.agg (oDcd0_5 0 1 z2), vO 2] : S) = .tup [.agg (oDcd0_5 0 1 z3.d), vO 2] ∧ ([.tree z2.plan.shapes, .lst .lev z2.stack, .lst .ev [failEv 7 d.start]] : List Blk) = [.tree z3.d.plan.shapes, .lst .lev z3.d.stack, .lst .ev z3.out]) ∧ ((decide (d.plan.most < u)) = false → z6 ∧ z6 ∧ (Fun Tryz.prog 77 [.agg [.own 0, .int .i64 d.plan.root, .int .i64 d.plan.deep, .int .i64 d.plan.most, .int .i64 2, .own 1, .int .u64 0, .int .i64 0, .int .i64 d.start, .int .i64 d.at_, .int .i64 d.field.number, .int .i64 d.field.kind, .bool d.field.rep, .bool d.field.packed, .int .i64 d.field.msg, .int .i64 d.wire, .int .i64 d.want, .int .i64 d.utf.want, .int .i64 d.utf.low, .int .i64 d.utf.high, .int .i64 d.end_.kind, .int .i64 d.end_.field, .int .u64 d.end_.bits, .int .i64 d.end_.len, .str d.end_.text, .int .i64 d.end_.code, .int .i64 d.end_.at_], .agg [.int .i64 1, .int .i64 0, .int .u64 0, .int .i64 u, .str [], .int .i64 0, .int .i64 0]] [.tree d.plan.shapes, .lst .lev [(⟨d.plan.root, u⟩ : Lev)]] (.tup [.agg (oDcd0_5 2 3 z1.d), vO 4]) z4) ∧ (.tup [.agg (oDcd0_5 0 1 z1.d), vO 2] : S) = .tup [.agg (oDcd0_5 0 1 z3.d), vO 2] ∧ ([.tree z1.d.plan.shapes, .lst .lev z1.d.stack, .lst .ev z7] : List Blk) = [.tree z3.d.plan.shapes, .lst .lev z3.d.stack, .lst .ev z3.out]))) (by kernel_rfl) ?_
  refine ⟨(copyDec_s d (by omega) (schemaOk_fields20 hpt.2.1) (by omega)), (levelsOk_s d (by omega) (by omega)), (by simp [hp1]), (as_u64 (by omega) (by omega)), fun h1 => have p1 := of_decide_eq_true h1; ?_, fun h1 => have p1 := of_decide_eq_false h1; ?_⟩
  refine ⟨(fail_s (⟨d.plan, d.mode, d.stack, (⟨0, 0⟩ : Scn), d.start, d.at_, d.field, d.wire, d.want, d.utf, d.end_⟩ : Dcd) _ _), ?_⟩
  refine have hm1 : (frameM ⟨d, []⟩ u).d = (dFail (⟨d.plan, d.mode, d.stack, (⟨0, 0⟩ : Scn), d.start, d.at_, d.field, d.wire, d.want, d.utf, d.end_⟩ : Dcd) 7 d.start) := ?_; ?_
  rotate_left
  refine have hm2 : (frameM ⟨d, []⟩ u).out = [failEv 7 d.start] := ?_; ?_
  rotate_left
  exact ⟨(by rw [hm1] <;> rfl), (by rw [hm1, hm2] <;> rfl)⟩
  refine ⟨(as_i64 (by omega) (by omega)), (as_i64 (by omega) (by omega)), (tell_s (⟨d.plan, 2, [(⟨d.plan.root, u⟩ : Lev)], (⟨0, 0⟩ : Scn), d.start, d.at_, d.field, d.wire, d.want, d.utf, d.end_⟩ : Dcd) (⟨1, 0, 0, u, [], 0, 0⟩ : Ev) (by simp only [List.length_append, List.length_cons, List.length_nil, List.length_set, List.length_take]; omega)), ?_⟩
  refine have hm1 : (frameM ⟨d, []⟩ u).d = (settleM ⟨(⟨d.plan, 2, [(⟨d.plan.root, u⟩ : Lev)], (⟨0, 0⟩ : Scn), d.start, d.at_, d.field, d.wire, d.want, d.utf, d.end_⟩ : Dcd), []⟩).d := ?_; ?_
  rotate_left
  refine have hm2 : (frameM ⟨d, []⟩ u).out = (⟨1, 0, 0, u, [], 0, 0⟩ : Ev) :: (settleM ⟨(⟨d.plan, 2, [(⟨d.plan.root, u⟩ : Lev)], (⟨0, 0⟩ : Scn), d.start, d.at_, d.field, d.wire, d.want, d.utf, d.end_⟩ : Dcd), []⟩).out := ?_; ?_
  rotate_left
  exact ⟨(by rw [hm1] <;> rfl), (by rw [hm1, hm2] <;> rfl)⟩
  all_goals first | (simp_all [frameM, evFrm, mFail, dFail, scn0, utf0, settleM_one]; done) | (grind [frameM, evFrm, mFail, dFail, scn0, utf0, settleM_one])
set_option maxHeartbeats 1600000 in
theorem tag_s (d : Dcd) (u : Int) (hp1 : levelsOk d = true) (hp2 : (0 : Int) ≤ u ∧ u ≤ 18446744073709551615) : Fun Tryz.prog 138 [.agg (cDcd d), .c (.int .u64 u)] [] (.tup [.agg (oDcd0_5 0 1 (tagM ⟨d, []⟩ u).d), vO 2]) [.tree (tagM ⟨d, []⟩ u).d.plan.shapes, .lst .lev (tagM ⟨d, []⟩ u).d.stack, .lst .ev (tagM ⟨d, []⟩ u).out] := by
  have hN : bigN = 274877906944 := rfl
  have hlv := levelsOk_b hp1
  have hpt := planOk_t hlv.1
  have htb := topL_b hp1
  have htw := tagW_b u
  have hwb := widthOf_b (tagWire u)
  have hmx : max (widthOf (tagWire u)) 1 = if 1 > widthOf (tagWire u) then 1 else widthOf (tagWire u) := by split <;> omega
  have hw1 : wireOk (tagWire u) = true → ¬ tagWire u = 0 → ¬ tagWire u = 2 → 1 ≤ widthOf (tagWire u) := by
    intro a b c
    simp [wireOk] at a
    unfold widthOf
    split <;> (try split) <;> omega
  refine fun_ofw Tryz.func138 (by kernel_rfl) (by kernel_rfl) (w := let z12 := (d.stack.length : Int); let z13 := tagM ⟨d, []⟩ u; let z14 := (⟨0, 0⟩ : Scn); let z11 := (⟨d.plan, d.mode, d.stack, z14, d.start, d.at_, d.field, d.wire, d.want, d.utf, d.end_⟩ : Dcd); let z17 := tagWire u; let z18 := dFail z11 2 d.start; let z16 : List Blk := [.dead, .dead, .tree z18.plan.shapes, .lst .lev z18.stack, .lst .ev [failEv 2 d.start]]; let z19 := oDcd0_5 0 1 z13.d; let z20 := ([.tree d.plan.shapes, .lst .lev d.stack, .lst .ev ([] : List Ev)] : List Blk); let z21 := dFail z11 3 d.start; let z22 := dFail z11 4 d.start; let z23 := (0 : Int) ≤ z12 - 1; let z24 := ([.tree z18.plan.shapes, .lst .lev z18.stack, .lst .ev [failEv 2 d.start]] : List Blk); let z25 := vI (z12 - 1); let z15 := (.v (vI (IntKind.i64.wrap (z12 - 1))) : S) = .v z25; let z26 : List Blk := [.dead, .dead, .tree z21.plan.shapes, .lst .lev z21.stack, .lst .ev [failEv 3 d.start]]; let z27 : List Blk := [.dead, .dead, .tree z22.plan.shapes, .lst .lev z22.stack, .lst .ev [failEv 4 d.start]]; let z28 := decide (tagWire u = 0); let z29 := decide (tagWire u = 2); let z30 := vI (widthOf z17); let z31 := oDcd0_5 2 3 z18; let z32 := (.tup [.agg (oDcd0_5 0 1 z18), vO 2] : S); let z33 := tagNum u; (.seg [.call [] (.v (.agg (oDcd0_5 0 1 d))) [.tree d.plan.shapes, .lst .lev d.stack], .call [] (.v (vB (levelsOk d))) [], .br false, .call [] (.tup [vI z33, vI z17, vB (tagOk u)]) []] (.br (.seg [.call [2, 3] (.tup [.agg z31, vO 4]) z16] (.leaf () [5, 6, 7])) (.br (.seg [.call [2, 3] (.tup [.agg z31, vO 4]) z16] (.leaf () [5, 6, 7])) (.intro (fun (x1 : Lev) => d.stack[Int.toNat (z12 - 1)]? = some x1) fun x1 => let z2 := fieldAt d.plan.shapes x1.msg z33; let z1 := z2.getD fld0; .seg [.tree (fr (.two 11 (fr (.one 15 (.one 16 (.first 17 (.done)))) 12 3) 15 (.one 11 (fr (.one 16 (.first 17 (.done))) 12 3))) 0 11) 18 [], .as 51 (.v z25), .el .lev x1, .call [] (.tup [.agg (cFld z1), vB z2.isSome]) [], .at 0, .keep [2, 4, 6, 8, 10, 11, 12], .sel [0, 1, 4, 2, 3, 5], .call [] (.tup [.agg (cFld z1), vB z2.isSome]) [], .at 0, .keep [2, 4, 6, 8, 10, 11, 12], .sel [0, 1, 4, 2, 3, 5], .call [] (.v (vB (wireOk z17))) []] (.br (.seg [.call [3, 4] (.tup [.agg (oDcd0_5 2 3 z21), vO 4]) z26] (.leaf () [6, 7, 8])) (.br (.seg [.call [] (.v (vB (allowed z1 z17))) []] (.br (.seg [.call [3, 4] (.tup [.agg (oDcd0_5 2 3 z22), vO 4]) z27] (.leaf () [6, 7, 8])) (.br (.seg [.as 98 (.v z25), .el .lev x1] (.br (.seg [.call [3, 4] (.tup [.agg (oDcd0_5 2 3 (dFail (⟨d.plan, 3, d.stack, z14, d.start, d.at_, z1, tagWire u, d.want, d.utf, d.end_⟩ : Dcd) 9 d.at_)), vO 4]) [.dead, .dead, .tree (dFail (⟨d.plan, 3, d.stack, z14, d.start, d.at_, z1, tagWire u, d.want, d.utf, d.end_⟩ : Dcd) 9 d.at_).plan.shapes, .lst .lev (dFail (⟨d.plan, 3, d.stack, z14, d.start, d.at_, z1, tagWire u, d.want, d.utf, d.end_⟩ : Dcd) 9 d.at_).stack, .lst .ev [failEv 9 d.at_]]] (.leaf () [6, 7, 8])) (.seg [.ty .ev] (.leaf () [3, 4, 6])))) (.br (.seg [.as 98 (.v z25), .el .lev x1] (.br (.seg [.call [3, 4] (.tup [.agg (oDcd0_5 2 3 (dFail (⟨d.plan, 4, d.stack, z14, d.start, d.at_, z1, tagWire u, d.want, d.utf, d.end_⟩ : Dcd) 9 d.at_)), vO 4]) [.dead, .dead, .tree (dFail (⟨d.plan, 4, d.stack, z14, d.start, d.at_, z1, tagWire u, d.want, d.utf, d.end_⟩ : Dcd) 9 d.at_).plan.shapes, .lst .lev (dFail (⟨d.plan, 4, d.stack, z14, d.start, d.at_, z1, tagWire u, d.want, d.utf, d.end_⟩ : Dcd) 9 d.at_).stack, .lst .ev [failEv 9 d.at_]]] (.leaf () [6, 7, 8])) (.seg [.ty .ev] (.leaf () [3, 4, 6])))) (.seg [.call [] (.v z30) [], .as 98 (.v z25), .el .lev x1] (.br (.seg [.call [3, 4] (.tup [.agg (oDcd0_5 2 3 (dFail (⟨d.plan, 5, d.stack, z14, d.start, d.at_, z1, tagWire u, d.want, d.utf, d.end_⟩ : Dcd) 9 d.at_)), vO 4]) [.dead, .dead, .tree (dFail (⟨d.plan, 5, d.stack, z14, d.start, d.at_, z1, tagWire u, d.want, d.utf, d.end_⟩ : Dcd) 9 d.at_).plan.shapes, .lst .lev (dFail (⟨d.plan, 5, d.stack, z14, d.start, d.at_, z1, tagWire u, d.want, d.utf, d.end_⟩ : Dcd) 9 d.at_).stack, .lst .ev [failEv 9 d.at_]]] (.leaf () [6, 7, 8])) (.seg [.ty .ev] (.leaf () [3, 4, 6])))))))) (.br (.seg [.as 98 (.v z25), .el .lev x1] (.br (.seg [.call [3, 4] (.tup [.agg (oDcd0_5 2 3 (dFail (⟨d.plan, 3, d.stack, z14, d.start, d.at_, z1, tagWire u, d.want, d.utf, d.end_⟩ : Dcd) 9 d.at_)), vO 4]) [.dead, .dead, .tree (dFail (⟨d.plan, 3, d.stack, z14, d.start, d.at_, z1, tagWire u, d.want, d.utf, d.end_⟩ : Dcd) 9 d.at_).plan.shapes, .lst .lev (dFail (⟨d.plan, 3, d.stack, z14, d.start, d.at_, z1, tagWire u, d.want, d.utf, d.end_⟩ : Dcd) 9 d.at_).stack, .lst .ev [failEv 9 d.at_]]] (.leaf () [6, 7, 8])) (.seg [.ty .ev] (.leaf () [3, 4, 6])))) (.br (.seg [.as 98 (.v z25), .el .lev x1] (.br (.seg [.call [3, 4] (.tup [.agg (oDcd0_5 2 3 (dFail (⟨d.plan, 4, d.stack, z14, d.start, d.at_, z1, tagWire u, d.want, d.utf, d.end_⟩ : Dcd) 9 d.at_)), vO 4]) [.dead, .dead, .tree (dFail (⟨d.plan, 4, d.stack, z14, d.start, d.at_, z1, tagWire u, d.want, d.utf, d.end_⟩ : Dcd) 9 d.at_).plan.shapes, .lst .lev (dFail (⟨d.plan, 4, d.stack, z14, d.start, d.at_, z1, tagWire u, d.want, d.utf, d.end_⟩ : Dcd) 9 d.at_).stack, .lst .ev [failEv 9 d.at_]]] (.leaf () [6, 7, 8])) (.seg [.ty .ev] (.leaf () [3, 4, 6])))) (.seg [.call [] (.v z30) [], .as 98 (.v z25), .el .lev x1] (.br (.seg [.call [3, 4] (.tup [.agg (oDcd0_5 2 3 (dFail (⟨d.plan, 5, d.stack, z14, d.start, d.at_, z1, tagWire u, d.want, d.utf, d.end_⟩ : Dcd) 9 d.at_)), vO 4]) [.dead, .dead, .tree (dFail (⟨d.plan, 5, d.stack, z14, d.start, d.at_, z1, tagWire u, d.want, d.utf, d.end_⟩ : Dcd) 9 d.at_).plan.shapes, .lst .lev (dFail (⟨d.plan, 5, d.stack, z14, d.start, d.at_, z1, tagWire u, d.want, d.utf, d.end_⟩ : Dcd) 9 d.at_).stack, .lst .ev [failEv 9 d.at_]]] (.leaf () [6, 7, 8])) (.seg [.ty .ev] (.leaf () [3, 4, 6]))))))))))), (Fun Tryz.prog 70 [.agg (cDcd d)] [] (.v (.agg (oDcd0_5 0 1 d))) [.tree d.plan.shapes, .lst .lev d.stack]) ∧ (Fun Tryz.prog 178 [.agg (cDcd d)] [] (.v (vB (levelsOk d))) []) ∧ ((!(levelsOk d)) = false) ∧ (Fun Tryz.prog 179 [.c (.int .u64 u)] [] (.tup [vI z33, vI z17, vB (tagOk u)]) []) ∧ ((!(tagOk u)) = true → (Fun Tryz.prog 76 [.agg [.own 0, .int .i64 d.plan.root, .int .i64 d.plan.deep, .int .i64 d.plan.most, .int .i64 d.mode, .own 1, .int .u64 0, .int .i64 0, .int .i64 d.start, .int .i64 d.at_, .int .i64 d.field.number, .int .i64 d.field.kind, .bool d.field.rep, .bool d.field.packed, .int .i64 d.field.msg, .int .i64 d.wire, .int .i64 d.want, .int .i64 d.utf.want, .int .i64 d.utf.low, .int .i64 d.utf.high, .int .i64 d.end_.kind, .int .i64 d.end_.field, .int .u64 d.end_.bits, .int .i64 d.end_.len, .str d.end_.text, .int .i64 d.end_.code, .int .i64 d.end_.at_], vI 2, vI d.start] [.tree d.plan.shapes, .lst .lev d.stack] (.tup [.agg z31, vO 4]) z16) ∧ z32 = .tup [.agg z19, vO 2] ∧ z24 = [.tree z13.d.plan.shapes, .lst .lev z13.d.stack, .lst .ev z13.out]) ∧ ((!(tagOk u)) = false → ((decide (z12 = 0)) = true → (Fun Tryz.prog 76 [.agg [.own 0, .int .i64 d.plan.root, .int .i64 d.plan.deep, .int .i64 d.plan.most, .int .i64 d.mode, .own 1, .int .u64 0, .int .i64 0, .int .i64 d.start, .int .i64 d.at_, .int .i64 d.field.number, .int .i64 d.field.kind, .bool d.field.rep, .bool d.field.packed, .int .i64 d.field.msg, .int .i64 d.wire, .int .i64 d.want, .int .i64 d.utf.want, .int .i64 d.utf.low, .int .i64 d.utf.high, .int .i64 d.end_.kind, .int .i64 d.end_.field, .int .u64 d.end_.bits, .int .i64 d.end_.len, .str d.end_.text, .int .i64 d.end_.code, .int .i64 d.end_.at_], vI 2, vI d.start] [.tree d.plan.shapes, .lst .lev d.stack] (.tup [.agg z31, vO 4]) z16) ∧ z32 = .tup [.agg z19, vO 2] ∧ z24 = [.tree z13.d.plan.shapes, .lst .lev z13.d.stack, .lst .ev z13.out]) ∧ ((decide (z12 = 0)) = false → (∃ (x1 : Lev), d.stack[Int.toNat (z12 - 1)]? = some x1) ∧ ∀ (x1 : Lev), (d.stack[Int.toNat (z12 - 1)]? = some x1) → (let z7 := d.stack[Int.toNat (z12 - 1)]? = some x1; let z8 := fieldAt d.plan.shapes x1.msg z33; let z3 := z8.getD fld0; let z9 := decide (x1.left < 1); let z5 := z9 = false → (.tup [.agg [.own 0, .int .i64 d.plan.root, .int .i64 d.plan.deep, .int .i64 d.plan.most, .int .i64 3, .own 1, .int .u64 0, .int .i64 0, .int .i64 d.start, .int .i64 d.at_, .int .i64 z3.number, .int .i64 z3.kind, .bool z3.rep, .bool z3.packed, .int .i64 z3.msg, .int .i64 z17, .int .i64 d.want, .int .i64 d.utf.want, .int .i64 d.utf.low, .int .i64 d.utf.high, .int .i64 d.end_.kind, .int .i64 d.end_.field, .int .u64 d.end_.bits, .int .i64 d.end_.len, .str d.end_.text, .int .i64 d.end_.code, .int .i64 d.end_.at_], vO 2] : S) = .tup [.agg z19, vO 2] ∧ z20 = [.tree z13.d.plan.shapes, .lst .lev z13.d.stack, .lst .ev z13.out]; let z6 := z9 = false → (.tup [.agg [.own 0, .int .i64 d.plan.root, .int .i64 d.plan.deep, .int .i64 d.plan.most, .int .i64 4, .own 1, .int .u64 0, .int .i64 0, .int .i64 d.start, .int .i64 d.at_, .int .i64 z3.number, .int .i64 z3.kind, .bool z3.rep, .bool z3.packed, .int .i64 z3.msg, .int .i64 z17, .int .i64 d.want, .int .i64 d.utf.want, .int .i64 d.utf.low, .int .i64 d.utf.high, .int .i64 d.end_.kind, .int .i64 d.end_.field, .int .u64 d.end_.bits, .int .i64 d.end_.len, .str d.end_.text, .int .i64 d.end_.code, .int .i64 d.end_.at_], vO 2] : S) = .tup [.agg z19, vO 2] ∧ z20 = [.tree z13.d.plan.shapes, .lst .lev z13.d.stack, .lst .ev z13.out]; let z10 := decide (x1.left < widthOf z17); let z4 := z10 = false → (.tup [.agg [.own 0, .int .i64 d.plan.root, .int .i64 d.plan.deep, .int .i64 d.plan.most, .int .i64 5, .own 1, .int .u64 0, .int .i64 0, .int .i64 d.start, .int .i64 d.at_, .int .i64 z3.number, .int .i64 z3.kind, .bool z3.rep, .bool z3.packed, .int .i64 z3.msg, .int .i64 z17, .int .i64 d.want, .int .i64 d.utf.want, .int .i64 d.utf.low, .int .i64 d.utf.high, .int .i64 d.end_.kind, .int .i64 d.end_.field, .int .u64 d.end_.bits, .int .i64 d.end_.len, .str d.end_.text, .int .i64 d.end_.code, .int .i64 d.end_.at_], vO 2] : S) = .tup [.agg z19, vO 2] ∧ z20 = [.tree z13.d.plan.shapes, .lst .lev z13.d.stack, .lst .ev z13.out]; z15 ∧ z15 ∧ z7 ∧ z23 ∧ z7 ∧ z23 ∧ (Fun Tryz.prog 174 [.agg [.seq .shp d.plan.shapes], vI x1.msg, vI z33] [] (.tup [.agg (cFld z3), vB z8.isSome]) []) ∧ (Fun Tryz.prog 174 [.agg [.seq .shp d.plan.shapes], vI x1.msg, vI z33] [] (.tup [.agg (cFld z3), vB z8.isSome]) []) ∧ (([.cells (cDcd d), .cells [.nil, .int .i64 0, .int .i64 0, .int .i64 0, .int .i64 0, .nil, .int .u64 0, .int .i64 0, .int .i64 0, .int .i64 0, .int .i64 0, .int .i64 0, .bool false, .bool false, .int .i64 0, .int .i64 0, .int .i64 0, .int .i64 0, .int .i64 0, .int .i64 0, .int .i64 0, .int .i64 0, .int .u64 0, .int .i64 0, .str [], .int .i64 0, .int .i64 0], .cells [.own 3, .int .i64 d.plan.root, .int .i64 d.plan.deep, .int .i64 d.plan.most, .int .i64 d.mode, .own 4, .int .u64 0, .int .i64 0, .int .i64 d.start, .int .i64 d.at_, .int .i64 d.field.number, .int .i64 d.field.kind, .bool d.field.rep, .bool d.field.packed, .int .i64 d.field.msg, .int .i64 d.wire, .int .i64 d.want, .int .i64 d.utf.want, .int .i64 d.utf.low, .int .i64 d.utf.high, .int .i64 d.end_.kind, .int .i64 d.end_.field, .int .u64 d.end_.bits, .int .i64 d.end_.len, .str d.end_.text, .int .i64 d.end_.code, .int .i64 d.end_.at_], .tree d.plan.shapes, .lst .lev d.stack, .cells (cFld z3)] : List Blk) = [.cells (cDcd d), .cells [.nil, .int .i64 0, .int .i64 0, .int .i64 0, .int .i64 0, .nil, .int .u64 0, .int .i64 0, .int .i64 0, .int .i64 0, .int .i64 0, .int .i64 0, .bool false, .bool false, .int .i64 0, .int .i64 0, .int .i64 0, .int .i64 0, .int .i64 0, .int .i64 0, .int .i64 0, .int .i64 0, .int .u64 0, .int .i64 0, .str [], .int .i64 0, .int .i64 0], .cells [.own 3, .int .i64 d.plan.root, .int .i64 d.plan.deep, .int .i64 d.plan.most, .int .i64 d.mode, .own 4, .int .u64 0, .int .i64 0, .int .i64 d.start, .int .i64 d.at_, .int .i64 d.field.number, .int .i64 d.field.kind, .bool d.field.rep, .bool d.field.packed, .int .i64 d.field.msg, .int .i64 d.wire, .int .i64 d.want, .int .i64 d.utf.want, .int .i64 d.utf.low, .int .i64 d.utf.high, .int .i64 d.end_.kind, .int .i64 d.end_.field, .int .u64 d.end_.bits, .int .i64 d.end_.len, .str d.end_.text, .int .i64 d.end_.code, .int .i64 d.end_.at_], .tree d.plan.shapes, .lst .lev d.stack, .cells (cFld z3)]) ∧ (([(2, .v (vP 0)), (4, .v (vP 1)), (6, .v (vP 2)), (8, .v (vI z17)), (10, .v (vI z12)), (11, .v (vP 5)), (12, .v (vB z8.isSome))] : List (Nat × S)) = [(2, .v (vP 0)), (4, .v (vP 1)), (6, .v (vP 2)), (8, .v (vI z17)), (10, .v (vI z12)), (11, .v (vP 5)), (12, .v (vB z8.isSome))]) ∧ (Fun Tryz.prog 120 [vI z17] [] (.v (vB (wireOk z17))) []) ∧ ((!(wireOk z17)) = true → (Fun Tryz.prog 76 [.agg [.own 0, .int .i64 d.plan.root, .int .i64 d.plan.deep, .int .i64 d.plan.most, .int .i64 d.mode, .own 1, .int .u64 0, .int .i64 0, .int .i64 d.start, .int .i64 d.at_, .int .i64 d.field.number, .int .i64 d.field.kind, .bool d.field.rep, .bool d.field.packed, .int .i64 d.field.msg, .int .i64 d.wire, .int .i64 d.want, .int .i64 d.utf.want, .int .i64 d.utf.low, .int .i64 d.utf.high, .int .i64 d.end_.kind, .int .i64 d.end_.field, .int .u64 d.end_.bits, .int .i64 d.end_.len, .str d.end_.text, .int .i64 d.end_.code, .int .i64 d.end_.at_], vI 3, vI d.start] [.tree d.plan.shapes, .lst .lev d.stack] (.tup [.agg (oDcd0_5 2 3 z21), vO 4]) z26) ∧ (.tup [.agg (oDcd0_5 0 1 z21), vO 2] : S) = .tup [.agg z19, vO 2] ∧ ([.tree z21.plan.shapes, .lst .lev z21.stack, .lst .ev [failEv 3 d.start]] : List Blk) = [.tree z13.d.plan.shapes, .lst .lev z13.d.stack, .lst .ev z13.out]) ∧ ((!(wireOk z17)) = false → (z8.isSome = true → (Fun Tryz.prog 127 [.agg (cFld z3), vI z17] [] (.v (vB (allowed z3 z17))) []) ∧ ((!(allowed z3 z17)) = true → (Fun Tryz.prog 76 [.agg [.own 0, .int .i64 d.plan.root, .int .i64 d.plan.deep, .int .i64 d.plan.most, .int .i64 d.mode, .own 1, .int .u64 0, .int .i64 0, .int .i64 d.start, .int .i64 d.at_, .int .i64 d.field.number, .int .i64 d.field.kind, .bool d.field.rep, .bool d.field.packed, .int .i64 d.field.msg, .int .i64 d.wire, .int .i64 d.want, .int .i64 d.utf.want, .int .i64 d.utf.low, .int .i64 d.utf.high, .int .i64 d.end_.kind, .int .i64 d.end_.field, .int .u64 d.end_.bits, .int .i64 d.end_.len, .str d.end_.text, .int .i64 d.end_.code, .int .i64 d.end_.at_], vI 4, vI d.start] [.tree d.plan.shapes, .lst .lev d.stack] (.tup [.agg (oDcd0_5 2 3 z22), vO 4]) z27) ∧ (.tup [.agg (oDcd0_5 0 1 z22), vO 2] : S) = .tup [.agg z19, vO 2] ∧ ([.tree z22.plan.shapes, .lst .lev z22.stack, .lst .ev [failEv 4 d.start]] : List Blk) = [.tree z13.d.plan.shapes, .lst .lev z13.d.stack, .lst .ev z13.out]) ∧ ((!(allowed z3 z17)) = false → (z28 = true → z15 ∧ z7 ∧ z23 ∧ (z9 = true → (Fun Tryz.prog 76 [.agg [.own 0, .int .i64 d.plan.root, .int .i64 d.plan.deep, .int .i64 d.plan.most, .int .i64 3, .own 1, .int .u64 0, .int .i64 0, .int .i64 d.start, .int .i64 d.at_, .int .i64 z3.number, .int .i64 z3.kind, .bool z3.rep, .bool z3.packed, .int .i64 z3.msg, .int .i64 z17, .int .i64 d.want, .int .i64 d.utf.want, .int .i64 d.utf.low, .int .i64 d.utf.high, .int .i64 d.end_.kind, .int .i64 d.end_.field, .int .u64 d.end_.bits, .int .i64 d.end_.len, .str d.end_.text, .int .i64 d.end_.code, .int .i64 d.end_.at_], vI 9, vI d.at_] [.tree d.plan.shapes, .lst .lev d.stack] (.tup [.agg (oDcd0_5 2 3 (dFail (⟨d.plan, 3, d.stack, z14, d.start, d.at_, z3, tagWire u, d.want, d.utf, d.end_⟩ : Dcd) 9 d.at_)), vO 4]) [.dead, .dead, .tree (dFail (⟨d.plan, 3, d.stack, z14, d.start, d.at_, z3, tagWire u, d.want, d.utf, d.end_⟩ : Dcd) 9 d.at_).plan.shapes, .lst .lev (dFail (⟨d.plan, 3, d.stack, z14, d.start, d.at_, z3, tagWire u, d.want, d.utf, d.end_⟩ : Dcd) 9 d.at_).stack, .lst .ev [failEv 9 d.at_]]) ∧ (.tup [.agg (oDcd0_5 0 1 (dFail (⟨d.plan, 3, d.stack, z14, d.start, d.at_, z3, tagWire u, d.want, d.utf, d.end_⟩ : Dcd) 9 d.at_)), vO 2] : S) = .tup [.agg z19, vO 2] ∧ ([.tree (dFail (⟨d.plan, 3, d.stack, z14, d.start, d.at_, z3, tagWire u, d.want, d.utf, d.end_⟩ : Dcd) 9 d.at_).plan.shapes, .lst .lev (dFail (⟨d.plan, 3, d.stack, z14, d.start, d.at_, z3, tagWire u, d.want, d.utf, d.end_⟩ : Dcd) 9 d.at_).stack, .lst .ev [failEv 9 d.at_]] : List Blk) = [.tree z13.d.plan.shapes, .lst .lev z13.d.stack, .lst .ev z13.out]) ∧ z5) ∧ (z28 = false → (z29 = true → z15 ∧ z7 ∧ z23 ∧ (z9 = true → (Fun Tryz.prog 76 [.agg [.own 0, .int .i64 d.plan.root, .int .i64 d.plan.deep, .int .i64 d.plan.most, .int .i64 4, .own 1, .int .u64 0, .int .i64 0, .int .i64 d.start, .int .i64 d.at_, .int .i64 z3.number, .int .i64 z3.kind, .bool z3.rep, .bool z3.packed, .int .i64 z3.msg, .int .i64 z17, .int .i64 d.want, .int .i64 d.utf.want, .int .i64 d.utf.low, .int .i64 d.utf.high, .int .i64 d.end_.kind, .int .i64 d.end_.field, .int .u64 d.end_.bits, .int .i64 d.end_.len, .str d.end_.text, .int .i64 d.end_.code, .int .i64 d.end_.at_], vI 9, vI d.at_] [.tree d.plan.shapes, .lst .lev d.stack] (.tup [.agg (oDcd0_5 2 3 (dFail (⟨d.plan, 4, d.stack, z14, d.start, d.at_, z3, tagWire u, d.want, d.utf, d.end_⟩ : Dcd) 9 d.at_)), vO 4]) [.dead, .dead, .tree (dFail (⟨d.plan, 4, d.stack, z14, d.start, d.at_, z3, tagWire u, d.want, d.utf, d.end_⟩ : Dcd) 9 d.at_).plan.shapes, .lst .lev (dFail (⟨d.plan, 4, d.stack, z14, d.start, d.at_, z3, tagWire u, d.want, d.utf, d.end_⟩ : Dcd) 9 d.at_).stack, .lst .ev [failEv 9 d.at_]]) ∧ (.tup [.agg (oDcd0_5 0 1 (dFail (⟨d.plan, 4, d.stack, z14, d.start, d.at_, z3, tagWire u, d.want, d.utf, d.end_⟩ : Dcd) 9 d.at_)), vO 2] : S) = .tup [.agg z19, vO 2] ∧ ([.tree (dFail (⟨d.plan, 4, d.stack, z14, d.start, d.at_, z3, tagWire u, d.want, d.utf, d.end_⟩ : Dcd) 9 d.at_).plan.shapes, .lst .lev (dFail (⟨d.plan, 4, d.stack, z14, d.start, d.at_, z3, tagWire u, d.want, d.utf, d.end_⟩ : Dcd) 9 d.at_).stack, .lst .ev [failEv 9 d.at_]] : List Blk) = [.tree z13.d.plan.shapes, .lst .lev z13.d.stack, .lst .ev z13.out]) ∧ z6) ∧ (z29 = false → (Fun Tryz.prog 126 [vI z17] [] (.v z30) []) ∧ z15 ∧ z7 ∧ z23 ∧ (z10 = true → (Fun Tryz.prog 76 [.agg [.own 0, .int .i64 d.plan.root, .int .i64 d.plan.deep, .int .i64 d.plan.most, .int .i64 5, .own 1, .int .u64 0, .int .i64 0, .int .i64 d.start, .int .i64 d.at_, .int .i64 z3.number, .int .i64 z3.kind, .bool z3.rep, .bool z3.packed, .int .i64 z3.msg, .int .i64 z17, .int .i64 d.want, .int .i64 d.utf.want, .int .i64 d.utf.low, .int .i64 d.utf.high, .int .i64 d.end_.kind, .int .i64 d.end_.field, .int .u64 d.end_.bits, .int .i64 d.end_.len, .str d.end_.text, .int .i64 d.end_.code, .int .i64 d.end_.at_], vI 9, vI d.at_] [.tree d.plan.shapes, .lst .lev d.stack] (.tup [.agg (oDcd0_5 2 3 (dFail (⟨d.plan, 5, d.stack, z14, d.start, d.at_, z3, tagWire u, d.want, d.utf, d.end_⟩ : Dcd) 9 d.at_)), vO 4]) [.dead, .dead, .tree (dFail (⟨d.plan, 5, d.stack, z14, d.start, d.at_, z3, tagWire u, d.want, d.utf, d.end_⟩ : Dcd) 9 d.at_).plan.shapes, .lst .lev (dFail (⟨d.plan, 5, d.stack, z14, d.start, d.at_, z3, tagWire u, d.want, d.utf, d.end_⟩ : Dcd) 9 d.at_).stack, .lst .ev [failEv 9 d.at_]]) ∧ (.tup [.agg (oDcd0_5 0 1 (dFail (⟨d.plan, 5, d.stack, z14, d.start, d.at_, z3, tagWire u, d.want, d.utf, d.end_⟩ : Dcd) 9 d.at_)), vO 2] : S) = .tup [.agg z19, vO 2] ∧ ([.tree (dFail (⟨d.plan, 5, d.stack, z14, d.start, d.at_, z3, tagWire u, d.want, d.utf, d.end_⟩ : Dcd) 9 d.at_).plan.shapes, .lst .lev (dFail (⟨d.plan, 5, d.stack, z14, d.start, d.at_, z3, tagWire u, d.want, d.utf, d.end_⟩ : Dcd) 9 d.at_).stack, .lst .ev [failEv 9 d.at_]] : List Blk) = [.tree z13.d.plan.shapes, .lst .lev z13.d.stack, .lst .ev z13.out]) ∧ z4)))) ∧ (z8.isSome = false → (z28 = true → z15 ∧ z7 ∧ z23 ∧ (z9 = true → (Fun Tryz.prog 76 [.agg [.own 0, .int .i64 d.plan.root, .int .i64 d.plan.deep, .int .i64 d.plan.most, .int .i64 3, .own 1, .int .u64 0, .int .i64 0, .int .i64 d.start, .int .i64 d.at_, .int .i64 z3.number, .int .i64 z3.kind, .bool z3.rep, .bool z3.packed, .int .i64 z3.msg, .int .i64 z17, .int .i64 d.want, .int .i64 d.utf.want, .int .i64 d.utf.low, .int .i64 d.utf.high, .int .i64 d.end_.kind, .int .i64 d.end_.field, .int .u64 d.end_.bits, .int .i64 d.end_.len, .str d.end_.text, .int .i64 d.end_.code, .int .i64 d.end_.at_], vI 9, vI d.at_] [.tree d.plan.shapes, .lst .lev d.stack] (.tup [.agg (oDcd0_5 2 3 (dFail (⟨d.plan, 3, d.stack, z14, d.start, d.at_, z3, tagWire u, d.want, d.utf, d.end_⟩ : Dcd) 9 d.at_)), vO 4]) [.dead, .dead, .tree (dFail (⟨d.plan, 3, d.stack, z14, d.start, d.at_, z3, tagWire u, d.want, d.utf, d.end_⟩ : Dcd) 9 d.at_).plan.shapes, .lst .lev (dFail (⟨d.plan, 3, d.stack, z14, d.start, d.at_, z3, tagWire u, d.want, d.utf, d.end_⟩ : Dcd) 9 d.at_).stack, .lst .ev [failEv 9 d.at_]]) ∧ (.tup [.agg (oDcd0_5 0 1 (dFail (⟨d.plan, 3, d.stack, z14, d.start, d.at_, z3, tagWire u, d.want, d.utf, d.end_⟩ : Dcd) 9 d.at_)), vO 2] : S) = .tup [.agg z19, vO 2] ∧ ([.tree (dFail (⟨d.plan, 3, d.stack, z14, d.start, d.at_, z3, tagWire u, d.want, d.utf, d.end_⟩ : Dcd) 9 d.at_).plan.shapes, .lst .lev (dFail (⟨d.plan, 3, d.stack, z14, d.start, d.at_, z3, tagWire u, d.want, d.utf, d.end_⟩ : Dcd) 9 d.at_).stack, .lst .ev [failEv 9 d.at_]] : List Blk) = [.tree z13.d.plan.shapes, .lst .lev z13.d.stack, .lst .ev z13.out]) ∧ z5) ∧ (z28 = false → (z29 = true → z15 ∧ z7 ∧ z23 ∧ (z9 = true → (Fun Tryz.prog 76 [.agg [.own 0, .int .i64 d.plan.root, .int .i64 d.plan.deep, .int .i64 d.plan.most, .int .i64 4, .own 1, .int .u64 0, .int .i64 0, .int .i64 d.start, .int .i64 d.at_, .int .i64 z3.number, .int .i64 z3.kind, .bool z3.rep, .bool z3.packed, .int .i64 z3.msg, .int .i64 z17, .int .i64 d.want, .int .i64 d.utf.want, .int .i64 d.utf.low, .int .i64 d.utf.high, .int .i64 d.end_.kind, .int .i64 d.end_.field, .int .u64 d.end_.bits, .int .i64 d.end_.len, .str d.end_.text, .int .i64 d.end_.code, .int .i64 d.end_.at_], vI 9, vI d.at_] [.tree d.plan.shapes, .lst .lev d.stack] (.tup [.agg (oDcd0_5 2 3 (dFail (⟨d.plan, 4, d.stack, z14, d.start, d.at_, z3, tagWire u, d.want, d.utf, d.end_⟩ : Dcd) 9 d.at_)), vO 4]) [.dead, .dead, .tree (dFail (⟨d.plan, 4, d.stack, z14, d.start, d.at_, z3, tagWire u, d.want, d.utf, d.end_⟩ : Dcd) 9 d.at_).plan.shapes, .lst .lev (dFail (⟨d.plan, 4, d.stack, z14, d.start, d.at_, z3, tagWire u, d.want, d.utf, d.end_⟩ : Dcd) 9 d.at_).stack, .lst .ev [failEv 9 d.at_]]) ∧ (.tup [.agg (oDcd0_5 0 1 (dFail (⟨d.plan, 4, d.stack, z14, d.start, d.at_, z3, tagWire u, d.want, d.utf, d.end_⟩ : Dcd) 9 d.at_)), vO 2] : S) = .tup [.agg z19, vO 2] ∧ ([.tree (dFail (⟨d.plan, 4, d.stack, z14, d.start, d.at_, z3, tagWire u, d.want, d.utf, d.end_⟩ : Dcd) 9 d.at_).plan.shapes, .lst .lev (dFail (⟨d.plan, 4, d.stack, z14, d.start, d.at_, z3, tagWire u, d.want, d.utf, d.end_⟩ : Dcd) 9 d.at_).stack, .lst .ev [failEv 9 d.at_]] : List Blk) = [.tree z13.d.plan.shapes, .lst .lev z13.d.stack, .lst .ev z13.out]) ∧ z6) ∧ (z29 = false → (Fun Tryz.prog 126 [vI z17] [] (.v z30) []) ∧ z15 ∧ z7 ∧ z23 ∧ (z10 = true → (Fun Tryz.prog 76 [.agg [.own 0, .int .i64 d.plan.root, .int .i64 d.plan.deep, .int .i64 d.plan.most, .int .i64 5, .own 1, .int .u64 0, .int .i64 0, .int .i64 d.start, .int .i64 d.at_, .int .i64 z3.number, .int .i64 z3.kind, .bool z3.rep, .bool z3.packed, .int .i64 z3.msg, .int .i64 z17, .int .i64 d.want, .int .i64 d.utf.want, .int .i64 d.utf.low, .int .i64 d.utf.high, .int .i64 d.end_.kind, .int .i64 d.end_.field, .int .u64 d.end_.bits, .int .i64 d.end_.len, .str d.end_.text, .int .i64 d.end_.code, .int .i64 d.end_.at_], vI 9, vI d.at_] [.tree d.plan.shapes, .lst .lev d.stack] (.tup [.agg (oDcd0_5 2 3 (dFail (⟨d.plan, 5, d.stack, z14, d.start, d.at_, z3, tagWire u, d.want, d.utf, d.end_⟩ : Dcd) 9 d.at_)), vO 4]) [.dead, .dead, .tree (dFail (⟨d.plan, 5, d.stack, z14, d.start, d.at_, z3, tagWire u, d.want, d.utf, d.end_⟩ : Dcd) 9 d.at_).plan.shapes, .lst .lev (dFail (⟨d.plan, 5, d.stack, z14, d.start, d.at_, z3, tagWire u, d.want, d.utf, d.end_⟩ : Dcd) 9 d.at_).stack, .lst .ev [failEv 9 d.at_]]) ∧ (.tup [.agg (oDcd0_5 0 1 (dFail (⟨d.plan, 5, d.stack, z14, d.start, d.at_, z3, tagWire u, d.want, d.utf, d.end_⟩ : Dcd) 9 d.at_)), vO 2] : S) = .tup [.agg z19, vO 2] ∧ ([.tree (dFail (⟨d.plan, 5, d.stack, z14, d.start, d.at_, z3, tagWire u, d.want, d.utf, d.end_⟩ : Dcd) 9 d.at_).plan.shapes, .lst .lev (dFail (⟨d.plan, 5, d.stack, z14, d.start, d.at_, z3, tagWire u, d.want, d.utf, d.end_⟩ : Dcd) 9 d.at_).stack, .lst .ev [failEv 9 d.at_]] : List Blk) = [.tree z13.d.plan.shapes, .lst .lev z13.d.stack, .lst .ev z13.out]) ∧ z4))))))))) (by kernel_rfl) ?_
  refine ⟨(copyDec_s d (by omega) (schemaOk_fields20 hpt.2.1) (by omega)), (levelsOk_s d (by omega) (by omega)), (by simp [hp1]), (tagIn_s _ (by omega)), fun h1 => have q1 := bnot_t h1; ?_, fun h1 => have q1 := bnot_f h1; ?_⟩
  refine ⟨(fail_s (⟨d.plan, d.mode, d.stack, (⟨0, 0⟩ : Scn), d.start, d.at_, d.field, d.wire, d.want, d.utf, d.end_⟩ : Dcd) _ _), ?_⟩
  refine have hm1 : (tagM ⟨d, []⟩ u).d = (dFail (⟨d.plan, d.mode, d.stack, (⟨0, 0⟩ : Scn), d.start, d.at_, d.field, d.wire, d.want, d.utf, d.end_⟩ : Dcd) 2 d.start) := ?_; ?_
  rotate_left
  refine have hm2 : (tagM ⟨d, []⟩ u).out = [failEv 2 d.start] := ?_; ?_
  rotate_left
  exact ⟨(by rw [hm1] <;> rfl), (by rw [hm1, hm2] <;> rfl)⟩
  refine ⟨fun h2 => have p2 := of_decide_eq_true h2; ?_, fun h2 => have p2 := of_decide_eq_false h2; ?_⟩
  refine ⟨(fail_s (⟨d.plan, d.mode, d.stack, (⟨0, 0⟩ : Scn), d.start, d.at_, d.field, d.wire, d.want, d.utf, d.end_⟩ : Dcd) _ _), ?_⟩
  refine have hm1 : (tagM ⟨d, []⟩ u).d = (dFail (⟨d.plan, d.mode, d.stack, (⟨0, 0⟩ : Scn), d.start, d.at_, d.field, d.wire, d.want, d.utf, d.end_⟩ : Dcd) 2 d.start) := ?_; ?_
  rotate_left
  refine have hm2 : (tagM ⟨d, []⟩ u).out = [failEv 2 d.start] := ?_; ?_
  rotate_left
  exact ⟨(by rw [hm1] <;> rfl), (by rw [hm1, hm2] <;> rfl)⟩
  refine ⟨(ax_get (l := d.stack) (i := Int.toNat ((d.stack.length : Int) - 1)) (by omega)), fun x1 hx1 => ?_⟩
  have hll := lastL_el (d := d) (by rw [← hx1]; congr 1; omega)
  have hix : Int.toNat ((d.stack.length : Int) - 1) = d.stack.length - 1 := by omega
  refine ⟨(as_i64 (by omega) (by omega)), (as_i64 (by omega) (by omega)), hx1, (by omega), hx1, (by omega), (fieldAt_s d.plan.shapes _ _ (by omega) (schemaOk_fields hpt.2.1)), (fieldAt_s d.plan.shapes _ _ (by omega) (schemaOk_fields hpt.2.1)), rfl, rfl, (wireOk_s _), fun h3 => have q3 := bnot_t h3; ?_, fun h3 => have q3 := bnot_f h3; ?_⟩
  refine ⟨(fail_s (⟨d.plan, d.mode, d.stack, (⟨0, 0⟩ : Scn), d.start, d.at_, d.field, d.wire, d.want, d.utf, d.end_⟩ : Dcd) _ _), ?_⟩
  refine have hm1 : (tagM ⟨d, []⟩ u).d = (dFail (⟨d.plan, d.mode, d.stack, (⟨0, 0⟩ : Scn), d.start, d.at_, d.field, d.wire, d.want, d.utf, d.end_⟩ : Dcd) 3 d.start) := ?_; ?_
  rotate_left
  refine have hm2 : (tagM ⟨d, []⟩ u).out = [failEv 3 d.start] := ?_; ?_
  rotate_left
  exact ⟨(by rw [hm1] <;> rfl), (by rw [hm1, hm2] <;> rfl)⟩
  refine ⟨fun h4 => ?_, fun h4 => ?_⟩
  refine ⟨(allowed_s ((fieldAt d.plan.shapes x1.msg (tagNum u)).getD fld0) _ (by omega)), fun h5 => have q5 := bnot_t h5; ?_, fun h5 => have q5 := bnot_f h5; ?_⟩
  refine ⟨(fail_s (⟨d.plan, d.mode, d.stack, (⟨0, 0⟩ : Scn), d.start, d.at_, d.field, d.wire, d.want, d.utf, d.end_⟩ : Dcd) _ _), ?_⟩
  refine have hm1 : (tagM ⟨d, []⟩ u).d = (dFail (⟨d.plan, d.mode, d.stack, (⟨0, 0⟩ : Scn), d.start, d.at_, d.field, d.wire, d.want, d.utf, d.end_⟩ : Dcd) 4 d.start) := ?_; ?_
  rotate_left
  refine have hm2 : (tagM ⟨d, []⟩ u).out = [failEv 4 d.start] := ?_; ?_
  rotate_left
  exact ⟨(by rw [hm1] <;> rfl), (by rw [hm1, hm2] <;> rfl)⟩
  refine ⟨fun h6 => have p6 := of_decide_eq_true h6; ?_, fun h6 => have p6 := of_decide_eq_false h6; ?_⟩
  refine ⟨(as_i64 (by omega) (by omega)), hx1, (by omega), fun h7 => have p7 := of_decide_eq_true h7; ?_, fun h7 => have p7 := of_decide_eq_false h7; ?_⟩
  refine ⟨(fail_s (⟨d.plan, 3, d.stack, (⟨0, 0⟩ : Scn), d.start, d.at_, ((fieldAt d.plan.shapes x1.msg (tagNum u)).getD fld0), tagWire u, d.want, d.utf, d.end_⟩ : Dcd) _ _), ?_⟩
  refine have hm1 : (tagM ⟨d, []⟩ u).d = (dFail (⟨d.plan, 3, d.stack, (⟨0, 0⟩ : Scn), d.start, d.at_, ((fieldAt d.plan.shapes x1.msg (tagNum u)).getD fld0), tagWire u, d.want, d.utf, d.end_⟩ : Dcd) 9 d.at_) := ?_; ?_
  rotate_left
  refine have hm2 : (tagM ⟨d, []⟩ u).out = [failEv 9 d.at_] := ?_; ?_
  rotate_left
  exact ⟨(by rw [hm1] <;> rfl), (by rw [hm1, hm2] <;> rfl)⟩
  refine have hm1 : (tagM ⟨d, []⟩ u).d = (⟨d.plan, 3, d.stack, (⟨0, 0⟩ : Scn), d.start, d.at_, ((fieldAt d.plan.shapes x1.msg (tagNum u)).getD fld0), tagWire u, d.want, d.utf, d.end_⟩ : Dcd) := ?_; ?_
  rotate_left
  refine have hm2 : (tagM ⟨d, []⟩ u).out = ([] : List Ev) := ?_; ?_
  rotate_left
  exact ⟨(by rw [hm1] <;> rfl), (by rw [hm1, hm2] <;> rfl)⟩
  refine ⟨fun h7 => have p7 := of_decide_eq_true h7; ?_, fun h7 => have p7 := of_decide_eq_false h7; ?_⟩
  refine ⟨(as_i64 (by omega) (by omega)), hx1, (by omega), fun h8 => have p8 := of_decide_eq_true h8; ?_, fun h8 => have p8 := of_decide_eq_false h8; ?_⟩
  refine ⟨(fail_s (⟨d.plan, 4, d.stack, (⟨0, 0⟩ : Scn), d.start, d.at_, ((fieldAt d.plan.shapes x1.msg (tagNum u)).getD fld0), tagWire u, d.want, d.utf, d.end_⟩ : Dcd) _ _), ?_⟩
  refine have hm1 : (tagM ⟨d, []⟩ u).d = (dFail (⟨d.plan, 4, d.stack, (⟨0, 0⟩ : Scn), d.start, d.at_, ((fieldAt d.plan.shapes x1.msg (tagNum u)).getD fld0), tagWire u, d.want, d.utf, d.end_⟩ : Dcd) 9 d.at_) := ?_; ?_
  rotate_left
  refine have hm2 : (tagM ⟨d, []⟩ u).out = [failEv 9 d.at_] := ?_; ?_
  rotate_left
  exact ⟨(by rw [hm1] <;> rfl), (by rw [hm1, hm2] <;> rfl)⟩
  refine have hm1 : (tagM ⟨d, []⟩ u).d = (⟨d.plan, 4, d.stack, (⟨0, 0⟩ : Scn), d.start, d.at_, ((fieldAt d.plan.shapes x1.msg (tagNum u)).getD fld0), tagWire u, d.want, d.utf, d.end_⟩ : Dcd) := ?_; ?_
  rotate_left
  refine have hm2 : (tagM ⟨d, []⟩ u).out = ([] : List Ev) := ?_; ?_
  rotate_left
  exact ⟨(by rw [hm1] <;> rfl), (by rw [hm1, hm2] <;> rfl)⟩
  refine ⟨(widthOf_s _), (as_i64 (by omega) (by omega)), hx1, (by omega), fun h8 => have p8 := of_decide_eq_true h8; ?_, fun h8 => have p8 := of_decide_eq_false h8; ?_⟩
  refine ⟨(fail_s (⟨d.plan, 5, d.stack, (⟨0, 0⟩ : Scn), d.start, d.at_, ((fieldAt d.plan.shapes x1.msg (tagNum u)).getD fld0), tagWire u, d.want, d.utf, d.end_⟩ : Dcd) _ _), ?_⟩
  refine have hm1 : (tagM ⟨d, []⟩ u).d = (dFail (⟨d.plan, 5, d.stack, (⟨0, 0⟩ : Scn), d.start, d.at_, ((fieldAt d.plan.shapes x1.msg (tagNum u)).getD fld0), tagWire u, d.want, d.utf, d.end_⟩ : Dcd) 9 d.at_) := ?_; ?_
  rotate_left
  refine have hm2 : (tagM ⟨d, []⟩ u).out = [failEv 9 d.at_] := ?_; ?_
  rotate_left
  exact ⟨(by rw [hm1] <;> rfl), (by rw [hm1, hm2] <;> rfl)⟩
  refine have hm1 : (tagM ⟨d, []⟩ u).d = (⟨d.plan, 5, d.stack, (⟨0, 0⟩ : Scn), d.start, d.at_, ((fieldAt d.plan.shapes x1.msg (tagNum u)).getD fld0), tagWire u, d.want, d.utf, d.end_⟩ : Dcd) := ?_; ?_
  rotate_left
  refine have hm2 : (tagM ⟨d, []⟩ u).out = ([] : List Ev) := ?_; ?_
  rotate_left
  exact ⟨(by rw [hm1] <;> rfl), (by rw [hm1, hm2] <;> rfl)⟩
  refine ⟨fun h5 => have p5 := of_decide_eq_true h5; ?_, fun h5 => have p5 := of_decide_eq_false h5; ?_⟩
  refine ⟨(as_i64 (by omega) (by omega)), hx1, (by omega), fun h6 => have p6 := of_decide_eq_true h6; ?_, fun h6 => have p6 := of_decide_eq_false h6; ?_⟩
  refine ⟨(fail_s (⟨d.plan, 3, d.stack, (⟨0, 0⟩ : Scn), d.start, d.at_, ((fieldAt d.plan.shapes x1.msg (tagNum u)).getD fld0), tagWire u, d.want, d.utf, d.end_⟩ : Dcd) _ _), ?_⟩
  refine have hm1 : (tagM ⟨d, []⟩ u).d = (dFail (⟨d.plan, 3, d.stack, (⟨0, 0⟩ : Scn), d.start, d.at_, ((fieldAt d.plan.shapes x1.msg (tagNum u)).getD fld0), tagWire u, d.want, d.utf, d.end_⟩ : Dcd) 9 d.at_) := ?_; ?_
  rotate_left
  refine have hm2 : (tagM ⟨d, []⟩ u).out = [failEv 9 d.at_] := ?_; ?_
  rotate_left
  exact ⟨(by rw [hm1] <;> rfl), (by rw [hm1, hm2] <;> rfl)⟩
  refine have hm1 : (tagM ⟨d, []⟩ u).d = (⟨d.plan, 3, d.stack, (⟨0, 0⟩ : Scn), d.start, d.at_, ((fieldAt d.plan.shapes x1.msg (tagNum u)).getD fld0), tagWire u, d.want, d.utf, d.end_⟩ : Dcd) := ?_; ?_
  rotate_left
  refine have hm2 : (tagM ⟨d, []⟩ u).out = ([] : List Ev) := ?_; ?_
  rotate_left
  exact ⟨(by rw [hm1] <;> rfl), (by rw [hm1, hm2] <;> rfl)⟩
  refine ⟨fun h6 => have p6 := of_decide_eq_true h6; ?_, fun h6 => have p6 := of_decide_eq_false h6; ?_⟩
  refine ⟨(as_i64 (by omega) (by omega)), hx1, (by omega), fun h7 => have p7 := of_decide_eq_true h7; ?_, fun h7 => have p7 := of_decide_eq_false h7; ?_⟩
  refine ⟨(fail_s (⟨d.plan, 4, d.stack, (⟨0, 0⟩ : Scn), d.start, d.at_, ((fieldAt d.plan.shapes x1.msg (tagNum u)).getD fld0), tagWire u, d.want, d.utf, d.end_⟩ : Dcd) _ _), ?_⟩
  refine have hm1 : (tagM ⟨d, []⟩ u).d = (dFail (⟨d.plan, 4, d.stack, (⟨0, 0⟩ : Scn), d.start, d.at_, ((fieldAt d.plan.shapes x1.msg (tagNum u)).getD fld0), tagWire u, d.want, d.utf, d.end_⟩ : Dcd) 9 d.at_) := ?_; ?_
  rotate_left
  refine have hm2 : (tagM ⟨d, []⟩ u).out = [failEv 9 d.at_] := ?_; ?_
  rotate_left
  exact ⟨(by rw [hm1] <;> rfl), (by rw [hm1, hm2] <;> rfl)⟩
  refine have hm1 : (tagM ⟨d, []⟩ u).d = (⟨d.plan, 4, d.stack, (⟨0, 0⟩ : Scn), d.start, d.at_, ((fieldAt d.plan.shapes x1.msg (tagNum u)).getD fld0), tagWire u, d.want, d.utf, d.end_⟩ : Dcd) := ?_; ?_
  rotate_left
  refine have hm2 : (tagM ⟨d, []⟩ u).out = ([] : List Ev) := ?_; ?_
  rotate_left
  exact ⟨(by rw [hm1] <;> rfl), (by rw [hm1, hm2] <;> rfl)⟩
  refine ⟨(widthOf_s _), (as_i64 (by omega) (by omega)), hx1, (by omega), fun h7 => have p7 := of_decide_eq_true h7; ?_, fun h7 => have p7 := of_decide_eq_false h7; ?_⟩
  refine ⟨(fail_s (⟨d.plan, 5, d.stack, (⟨0, 0⟩ : Scn), d.start, d.at_, ((fieldAt d.plan.shapes x1.msg (tagNum u)).getD fld0), tagWire u, d.want, d.utf, d.end_⟩ : Dcd) _ _), ?_⟩
  refine have hm1 : (tagM ⟨d, []⟩ u).d = (dFail (⟨d.plan, 5, d.stack, (⟨0, 0⟩ : Scn), d.start, d.at_, ((fieldAt d.plan.shapes x1.msg (tagNum u)).getD fld0), tagWire u, d.want, d.utf, d.end_⟩ : Dcd) 9 d.at_) := ?_; ?_
  rotate_left
  refine have hm2 : (tagM ⟨d, []⟩ u).out = [failEv 9 d.at_] := ?_; ?_
  rotate_left
  exact ⟨(by rw [hm1] <;> rfl), (by rw [hm1, hm2] <;> rfl)⟩
  refine have hm1 : (tagM ⟨d, []⟩ u).d = (⟨d.plan, 5, d.stack, (⟨0, 0⟩ : Scn), d.start, d.at_, ((fieldAt d.plan.shapes x1.msg (tagNum u)).getD fld0), tagWire u, d.want, d.utf, d.end_⟩ : Dcd) := ?_; ?_
  rotate_left
  refine have hm2 : (tagM ⟨d, []⟩ u).out = ([] : List Ev) := ?_; ?_
  rotate_left
  exact ⟨(by rw [hm1] <;> rfl), (by rw [hm1, hm2] <;> rfl)⟩
  all_goals first | ((unfold tagM; simp only [hll.1, hll.2]; (repeat' split) <;> first | (simp_all [widthOf, mFail, dFail, scn0]; done) | (exfalso; simp_all [widthOf]; omega) | grind [widthOf, mFail, dFail, scn0])) | (first | (simp_all [tagM, widthOf, mFail, dFail, scn0, utf0, settleM_one]; done) | (grind [tagM, widthOf, mFail, dFail, scn0, utf0, settleM_one]))
end Go.Proofs.YtecljjcmjongfaaGreat.Ax
namespace Go.Proofs.YtecljjcmjongfaaGreat.Ax
open Go.RowKit
set_option linter.unusedSimpArgs false
set_option linter.unusedVariables false
theorem emit_i (m : Mac) (e : Ev) (hp1 : List.length (m).out ≤ 200000000) : Fun Tryz.prog 117 [vP 0, .agg (cEv e)] [.cells (oMac0_5_27 1 2 3 m), .tree m.d.plan.shapes, .lst .lev m.d.stack, .lst .ev m.out] (.tup []) [.cells (oMac0_5_27 1 2 4 m), .tree (m).d.plan.shapes, .lst .lev (m).d.stack, .dead, .lst .ev ((m).out ++ [e])] := by
  have hN : bigN = 274877906944 := rfl
  refine fun_ofw Tryz.func117 (by kernel_rfl) (by kernel_rfl) (w := (.seg [.ord (os 11 [6, 7, 10]) [3], .ty .ev, .ty .ev] (.leaf () [0, 1, 2, 3, 6]), (m.out.length + List.length [e] ≤ bigN) ∧ (.tup [] : S) = .tup [] ∧ ([.cells (oMac0_5_27 1 2 4 m), .tree m.d.plan.shapes, .lst .lev m.d.stack, .dead, .lst .ev (m.out ++ [e])] : List Blk) = [.cells (oMac0_5_27 1 2 4 m), .tree (m).d.plan.shapes, .lst .lev (m).d.stack, .dead, .lst .ev ((m).out ++ [e])])) (by kernel_rfl) ?_
  exact ⟨(by simp only [List.length_cons, List.length_nil]; omega), rfl, (consE rfl (consE (congrArg Blk.tree (by rfl)) (consE (congrArg (Blk.lst .lev) (by rfl)) (consE rfl (consE (congrArg (Blk.lst .ev) (by rfl)) rfl)))))⟩
theorem fails_i (m : Mac) (c : Int) (a : Int) (hp1 : List.length (m).out ≤ 200000000) : Fun Tryz.prog 118 [vP 0, vI c, vI a] [.cells (oMac0_5_27 1 2 3 m), .tree m.d.plan.shapes, .lst .lev m.d.stack, .lst .ev m.out] (.tup []) [.cells (oMac0_5_27 1 2 4 (mFail m c a)), .tree (mFail m c a).d.plan.shapes, .lst .lev (mFail m c a).d.stack, .dead, .lst .ev (mFail m c a).out] := by
  have hN : bigN = 274877906944 := rfl
  refine fun_ofw Tryz.func118 (by kernel_rfl) (by kernel_rfl) (w := let z2 := failEv c a; let z1 : List Blk := [.cells [.own 1, .int .i64 m.d.plan.root, .int .i64 m.d.plan.deep, .int .i64 m.d.plan.most, .int .i64 9, .own 2, .int .u64 0, .int .i64 0, .int .i64 m.d.start, .int .i64 m.d.at_, .int .i64 m.d.field.number, .int .i64 m.d.field.kind, .bool m.d.field.rep, .bool m.d.field.packed, .int .i64 m.d.field.msg, .int .i64 m.d.wire, .int .i64 0, .int .i64 m.d.utf.want, .int .i64 m.d.utf.low, .int .i64 m.d.utf.high, .int .i64 z2.kind, .int .i64 z2.field, .int .u64 z2.bits, .int .i64 z2.len, .str z2.text, .int .i64 z2.code, .int .i64 z2.at_, .own 4], .tree m.d.plan.shapes, .lst .lev m.d.stack, .dead, .lst .ev (m.out ++ [z2])]; let z3 := mFail m c a; (.seg [.call [] (.v (.agg (cEv z2))) [], .call [0, 1, 2, 3] (.tup []) z1] (.leaf () [0, 1, 2, 3, 4]), (Fun Tryz.prog 173 [vI c, vI a] [] (.v (.agg (cEv z2))) []) ∧ (Fun Tryz.prog 117 [vP 0, .agg (cEv z2)] [.cells [.own 1, .int .i64 m.d.plan.root, .int .i64 m.d.plan.deep, .int .i64 m.d.plan.most, .int .i64 9, .own 2, .int .u64 0, .int .i64 0, .int .i64 m.d.start, .int .i64 m.d.at_, .int .i64 m.d.field.number, .int .i64 m.d.field.kind, .bool m.d.field.rep, .bool m.d.field.packed, .int .i64 m.d.field.msg, .int .i64 m.d.wire, .int .i64 0, .int .i64 m.d.utf.want, .int .i64 m.d.utf.low, .int .i64 m.d.utf.high, .int .i64 z2.kind, .int .i64 z2.field, .int .u64 z2.bits, .int .i64 z2.len, .str z2.text, .int .i64 z2.code, .int .i64 z2.at_, .own 3], .tree m.d.plan.shapes, .lst .lev m.d.stack, .lst .ev m.out] (.tup []) z1) ∧ (.tup [] : S) = .tup [] ∧ (z1 : List Blk) = [.cells (oMac0_5_27 1 2 4 z3), .tree z3.d.plan.shapes, .lst .lev z3.d.stack, .dead, .lst .ev z3.out])) (by kernel_rfl) ?_
  refine ⟨(failure_i _ _), (emit_i (⟨(⟨m.d.plan, 9, m.d.stack, (⟨0, 0⟩ : Scn), m.d.start, m.d.at_, m.d.field, m.d.wire, 0, m.d.utf, (failEv c a)⟩ : Dcd), m.out⟩ : Mac) (failEv c a) (by first | omega | (dsimp only; omega))), ?_⟩
  refine have hm1 : mFail m c a = (⟨(⟨m.d.plan, 9, m.d.stack, (⟨0, 0⟩ : Scn), m.d.start, m.d.at_, m.d.field, m.d.wire, 0, m.d.utf, (failEv c a)⟩ : Dcd), m.out ++ [(failEv c a)]⟩ : Mac) := ?_; ?_
  rotate_left
  exact ⟨rfl, (by rw [hm1] <;> rfl)⟩
  all_goals first | (rfl) | (simp_all [mFail, dFail])
theorem close_i (m : Mac) (hp1 : List.length (m).out ≤ 200000000) (hp2 : List.length (m).d.stack ≤ bigN) : Fun Tryz.prog 191 [vP 0] [.cells (oMac0_5_27 1 2 3 m), .tree m.d.plan.shapes, .lst .lev m.d.stack, .lst .ev m.out] (.v (vB (closeM m).isSome)) [.cells (oMac0_5_27 1 4 5 ((closeM m).getD m)), .tree ((closeM m).getD m).d.plan.shapes, .dead, .dead, .lst .lev ((closeM m).getD m).d.stack, .lst .ev ((closeM m).getD m).out] := by
  have hN : bigN = 274877906944 := rfl
  refine fun_ofw Tryz.func191 (by kernel_rfl) (by kernel_rfl) (w := let z3 := (m.d.stack.length : Int); let z6 := ([.cells (oMac0_5_27 1 4 5 m), .tree m.d.plan.shapes, .dead, .dead, .lst .lev m.d.stack, .lst .ev m.out] : List Blk); let z8 := List.take ((Int.toNat (z3 - 1)) - 0) m.d.stack; let z5 : List Blk := [.cells [.own 1, .int .i64 m.d.plan.root, .int .i64 m.d.plan.deep, .int .i64 m.d.plan.most, .int .i64 1, .own 2, .int .u64 m.d.scan.bits, .int .i64 m.d.scan.have_, .int .i64 m.d.start, .int .i64 m.d.at_, .int .i64 m.d.field.number, .int .i64 m.d.field.kind, .bool m.d.field.rep, .bool m.d.field.packed, .int .i64 m.d.field.msg, .int .i64 m.d.wire, .int .i64 m.d.want, .int .i64 m.d.utf.want, .int .i64 m.d.utf.low, .int .i64 m.d.utf.high, .int .i64 m.d.end_.kind, .int .i64 m.d.end_.field, .int .u64 m.d.end_.bits, .int .i64 m.d.end_.len, .str m.d.end_.text, .int .i64 m.d.end_.code, .int .i64 m.d.end_.at_, .own 3], .tree m.d.plan.shapes, .lst .lev z8, .lst .ev m.out]; let z10 := vB (closeM m).isSome; let z15 : List V := [vP 0, .agg [.int .i64 7, .int .i64 0, .int .u64 0, .int .i64 0, .str [], .int .i64 0, .int .i64 0]]; let z16 : List V := [vP 0, .agg [.int .i64 8, .int .i64 0, .int .u64 0, .int .i64 0, .str [], .int .i64 0, .int .i64 0]]; let z17 := decide (0 < (z8.length : Int)); let z18 := decide (m.d.scan.have_ = 0); let z19 : List Blk := [.cells (oMac0_5_27 1 2 3 m), .tree m.d.plan.shapes, .lst .lev z8, .lst .ev m.out]; let z22 := (.v (vB true) : S); let z23 := (0 : Int) ≤ z3 - 1; let z24 := mFail m 5 m.d.at_; let z25 := decide (m.d.mode = 2); let z27 := vI (topL m.d); let z28 := decide (m.d.want < 1); let z29 := decide (topL m.d = 0); let z30 := z3 - 1 ≤ z3; let z31 : List Blk := [.cells (oMac0_5_27 1 2 4 z24), .tree z24.d.plan.shapes, .lst .lev z24.d.stack, .dead, .lst .ev z24.out]; let z33 := decide (0 < z3); let z34 := (.v (vB false) : S); let z35 := vI (z3 - 1); let z13 := (.v (vI (IntKind.i64.wrap (z3 - 1))) : S) = .v z35; let z36 := decide (m.d.mode = 7); let z37 := decide (m.d.mode = 8); let z38 := (closeM m).getD m; let z2 : List Blk := [.cells (oMac0_5_27 1 4 5 z38), .tree z38.d.plan.shapes, .dead, .dead, .lst .lev z38.d.stack, .lst .ev z38.out]; let z9 := z28 = true → z22 = .v z10 ∧ ([.cells [.own 1, .int .i64 m.d.plan.root, .int .i64 m.d.plan.deep, .int .i64 m.d.plan.most, .int .i64 2, .own 4, .int .u64 m.d.scan.bits, .int .i64 m.d.scan.have_, .int .i64 m.d.start, .int .i64 m.d.at_, .int .i64 m.d.field.number, .int .i64 m.d.field.kind, .bool m.d.field.rep, .bool m.d.field.packed, .int .i64 m.d.field.msg, .int .i64 m.d.wire, .int .i64 0, .int .i64 m.d.utf.want, .int .i64 m.d.utf.low, .int .i64 m.d.utf.high, .int .i64 m.d.end_.kind, .int .i64 m.d.end_.field, .int .u64 m.d.end_.bits, .int .i64 m.d.end_.len, .str m.d.end_.text, .int .i64 m.d.end_.code, .int .i64 m.d.end_.at_, .own 5], .tree m.d.plan.shapes, .dead, .dead, .lst .lev m.d.stack, .lst .ev m.out] : List Blk) = z2; let z14 := z25 = false → z34 = .v z10 ∧ z6 = z2; let z20 := z29 = false → z34 = .v z10 ∧ z6 = z2; let z21 := z33 = false → z34 = .v z10 ∧ z6 = z2; let z26 := z18 = false → z34 = .v z10 ∧ z6 = z2; let z32 := z18 = false → (z25 = true → (z18 = false) ∧ z34 = .v z10 ∧ z6 = z2) ∧ z14; let z39 := os 18 [17]; let z40 := m.out ++ [(⟨5, 0, 0, 0, [], 0, 0⟩ : Ev)]; let z12 : List Blk := [.cells [.own 1, .int .i64 m.d.plan.root, .int .i64 m.d.plan.deep, .int .i64 m.d.plan.most, .int .i64 2, .own 2, .int .u64 m.d.scan.bits, .int .i64 m.d.scan.have_, .int .i64 m.d.start, .int .i64 m.d.at_, .int .i64 m.d.field.number, .int .i64 m.d.field.kind, .bool m.d.field.rep, .bool m.d.field.packed, .int .i64 m.d.field.msg, .int .i64 m.d.wire, .int .i64 0, .int .i64 0, .int .i64 0, .int .i64 0, .int .i64 m.d.end_.kind, .int .i64 m.d.end_.field, .int .u64 m.d.end_.bits, .int .i64 m.d.end_.len, .str m.d.end_.text, .int .i64 m.d.end_.code, .int .i64 m.d.end_.at_, .own 4], .tree m.d.plan.shapes, .lst .lev m.d.stack, .dead, .lst .ev z40]; let z41 := m.out ++ [(⟨8, 0, 0, 0, [], 0, 0⟩ : Ev)]; let z1 : List Blk := [.cells [.own 1, .int .i64 m.d.plan.root, .int .i64 m.d.plan.deep, .int .i64 m.d.plan.most, .int .i64 1, .own 2, .int .u64 m.d.scan.bits, .int .i64 m.d.scan.have_, .int .i64 m.d.start, .int .i64 m.d.at_, .int .i64 m.d.field.number, .int .i64 m.d.field.kind, .bool m.d.field.rep, .bool m.d.field.packed, .int .i64 m.d.field.msg, .int .i64 m.d.wire, .int .i64 m.d.want, .int .i64 m.d.utf.want, .int .i64 m.d.utf.low, .int .i64 m.d.utf.high, .int .i64 m.d.end_.kind, .int .i64 m.d.end_.field, .int .u64 m.d.end_.bits, .int .i64 m.d.end_.len, .str m.d.end_.text, .int .i64 m.d.end_.code, .int .i64 m.d.end_.at_, .own 4], .tree m.d.plan.shapes, .lst .lev z8, .dead, .lst .ev z41]; let z4 := ([.cells [.own 1, .int .i64 m.d.plan.root, .int .i64 m.d.plan.deep, .int .i64 m.d.plan.most, .int .i64 1, .own 4, .int .u64 m.d.scan.bits, .int .i64 m.d.scan.have_, .int .i64 m.d.start, .int .i64 m.d.at_, .int .i64 m.d.field.number, .int .i64 m.d.field.kind, .bool m.d.field.rep, .bool m.d.field.packed, .int .i64 m.d.field.msg, .int .i64 m.d.wire, .int .i64 m.d.want, .int .i64 m.d.utf.want, .int .i64 m.d.utf.low, .int .i64 m.d.utf.high, .int .i64 m.d.end_.kind, .int .i64 m.d.end_.field, .int .u64 m.d.end_.bits, .int .i64 m.d.end_.len, .str m.d.end_.text, .int .i64 m.d.end_.code, .int .i64 m.d.end_.at_, .own 5], .tree m.d.plan.shapes, .dead, .dead, .lst .lev z8, .lst .ev z41] : List Blk); let z42 := m.out ++ [(⟨7, 0, 0, 0, [], 0, 0⟩ : Ev)]; let z7 : List Blk := [.cells (oMac0_5_27 1 2 4 m), .tree m.d.plan.shapes, .lst .lev z8, .dead, .lst .ev z42]; let z11 := ([.cells (oMac0_5_27 1 4 5 m), .tree m.d.plan.shapes, .dead, .dead, .lst .lev z8, .lst .ev z42] : List Blk); let z43 := cDcd m.d; (.br (.br (.br (.seg [.call [0, 1, 2, 3] (.tup []) z31, .at 0, .cut 0 5] (.leaf () [0, 1, 2, 3, 5, 4])) (.seg [.call [0, 1, 2, 3] (.tup []) z12, .at 0, .cut 0 5] (.leaf () [0, 1, 2, 3, 5, 4]))) (.br (.seg [.br false] (.br (.br (.br (.seg [.call [] (.v z27) []] (.br (.seg [.ord z39 [], .as 133 (.v z35), .at 13, .cut 0 5] (.br (.seg [.call [0, 1, 4, 3] (.tup []) z7] (.leaf () [0, 1, 2, 3, 4, 5])) (.seg [.call [0, 1, 4, 3] (.tup []) z1] (.leaf () [0, 1, 2, 3, 4, 5])))) (.seg [.at 0, .cut 0 5, .cut 0 27] (.leaf () [0, 1, 2, 3, 4, 5])))) (.seg [.at 0, .cut 0 5, .cut 0 27] (.leaf () [0, 1, 2, 3, 4, 5]))) (.seg [.at 0, .cut 0 5, .cut 0 27] (.leaf () [0, 1, 2, 3, 4, 5]))) (.seg [.at 0, .cut 0 5, .cut 0 27] (.leaf () [0, 1, 2, 3, 4, 5])))) (.br (.br (.seg [.br false] (.br (.seg [.br true] (.br (.seg [.call [] (.v z27) []] (.br (.seg [.ord z39 [], .as 133 (.v z35), .at 13, .cut 0 5] (.br (.seg [.call [0, 1, 4, 3] (.tup []) z7] (.leaf () [0, 1, 2, 3, 4, 5])) (.seg [.call [0, 1, 4, 3] (.tup []) z1] (.leaf () [0, 1, 2, 3, 4, 5])))) (.seg [.at 0, .cut 0 5, .cut 0 27] (.leaf () [0, 1, 2, 3, 4, 5])))) (.seg [.at 0, .cut 0 5, .cut 0 27] (.leaf () [0, 1, 2, 3, 4, 5])))) (.seg [.at 0, .cut 0 5, .cut 0 27] (.leaf () [0, 1, 2, 3, 4, 5])))) (.br (.seg [.br false, .at 0, .cut 0 5, .cut 0 27] (.leaf () [0, 1, 2, 3, 4, 5])) (.seg [.at 0, .cut 0 5, .cut 0 27] (.leaf () [0, 1, 2, 3, 4, 5])))) (.br (.br (.br (.seg [.call [] (.v z27) []] (.br (.seg [.ord z39 [], .as 133 (.v z35), .at 13, .cut 0 5] (.br (.seg [.call [0, 1, 4, 3] (.tup []) z7] (.leaf () [0, 1, 2, 3, 4, 5])) (.seg [.call [0, 1, 4, 3] (.tup []) z1] (.leaf () [0, 1, 2, 3, 4, 5])))) (.seg [.at 0, .cut 0 5, .cut 0 27] (.leaf () [0, 1, 2, 3, 4, 5])))) (.seg [.at 0, .cut 0 5, .cut 0 27] (.leaf () [0, 1, 2, 3, 4, 5]))) (.seg [.at 0, .cut 0 5, .cut 0 27] (.leaf () [0, 1, 2, 3, 4, 5]))) (.seg [.at 0, .cut 0 5, .cut 0 27] (.leaf () [0, 1, 2, 3, 4, 5])))))) (.br (.br (.seg [.at 0, .cut 0 5, .cut 0 27] (.leaf () [0, 1, 2, 3, 4, 5])) (.br (.br (.br (.seg [.call [] (.v z27) []] (.br (.seg [.ord z39 [], .as 133 (.v z35), .at 13, .cut 0 5] (.br (.seg [.call [0, 1, 4, 3] (.tup []) z7] (.leaf () [0, 1, 2, 3, 4, 5])) (.seg [.call [0, 1, 4, 3] (.tup []) z1] (.leaf () [0, 1, 2, 3, 4, 5])))) (.seg [.at 0, .cut 0 5, .cut 0 27] (.leaf () [0, 1, 2, 3, 4, 5])))) (.seg [.at 0, .cut 0 5, .cut 0 27] (.leaf () [0, 1, 2, 3, 4, 5]))) (.seg [.at 0, .cut 0 5, .cut 0 27] (.leaf () [0, 1, 2, 3, 4, 5]))) (.seg [.at 0, .cut 0 5, .cut 0 27] (.leaf () [0, 1, 2, 3, 4, 5])))) (.br (.br (.br (.seg [.at 0, .cut 0 5, .cut 0 27] (.leaf () [0, 1, 2, 3, 4, 5])) (.br (.seg [.br true] (.br (.seg [.call [] (.v z27) []] (.br (.seg [.ord z39 [], .as 133 (.v z35), .at 13, .cut 0 5] (.br (.seg [.call [0, 1, 4, 3] (.tup []) z7] (.leaf () [0, 1, 2, 3, 4, 5])) (.seg [.call [0, 1, 4, 3] (.tup []) z1] (.leaf () [0, 1, 2, 3, 4, 5])))) (.seg [.at 0, .cut 0 5, .cut 0 27] (.leaf () [0, 1, 2, 3, 4, 5])))) (.seg [.at 0, .cut 0 5, .cut 0 27] (.leaf () [0, 1, 2, 3, 4, 5])))) (.seg [.at 0, .cut 0 5, .cut 0 27] (.leaf () [0, 1, 2, 3, 4, 5])))) (.br (.seg [.br false, .at 0, .cut 0 5, .cut 0 27] (.leaf () [0, 1, 2, 3, 4, 5])) (.seg [.at 0, .cut 0 5, .cut 0 27] (.leaf () [0, 1, 2, 3, 4, 5])))) (.br (.br (.br (.seg [.call [] (.v z27) []] (.br (.seg [.ord z39 [], .as 133 (.v z35), .at 13, .cut 0 5] (.br (.seg [.call [0, 1, 4, 3] (.tup []) z7] (.leaf () [0, 1, 2, 3, 4, 5])) (.seg [.call [0, 1, 4, 3] (.tup []) z1] (.leaf () [0, 1, 2, 3, 4, 5])))) (.seg [.at 0, .cut 0 5, .cut 0 27] (.leaf () [0, 1, 2, 3, 4, 5])))) (.seg [.at 0, .cut 0 5, .cut 0 27] (.leaf () [0, 1, 2, 3, 4, 5]))) (.seg [.at 0, .cut 0 5, .cut 0 27] (.leaf () [0, 1, 2, 3, 4, 5]))) (.seg [.at 0, .cut 0 5, .cut 0 27] (.leaf () [0, 1, 2, 3, 4, 5]))))), ((decide (m.d.mode = 6)) = true → (z28 = true → ((decide (0 < m.d.utf.want)) = true → (Fun Tryz.prog 118 [vP 0, vI 5, vI m.d.at_] [.cells (oMac0_5_27 1 2 3 m), .tree m.d.plan.shapes, .lst .lev m.d.stack, .lst .ev m.out] (.tup []) z31) ∧ z22 = .v z10 ∧ ([.cells (oMac0_5_27 1 4 5 z24), .tree z24.d.plan.shapes, .dead, .dead, .lst .lev z24.d.stack, .lst .ev z24.out] : List Blk) = z2) ∧ ((decide (0 < m.d.utf.want)) = false → (Fun Tryz.prog 117 [vP 0, .agg [.int .i64 5, .int .i64 0, .int .u64 0, .int .i64 0, .str [], .int .i64 0, .int .i64 0]] [.cells [.own 1, .int .i64 m.d.plan.root, .int .i64 m.d.plan.deep, .int .i64 m.d.plan.most, .int .i64 2, .own 2, .int .u64 m.d.scan.bits, .int .i64 m.d.scan.have_, .int .i64 m.d.start, .int .i64 m.d.at_, .int .i64 m.d.field.number, .int .i64 m.d.field.kind, .bool m.d.field.rep, .bool m.d.field.packed, .int .i64 m.d.field.msg, .int .i64 m.d.wire, .int .i64 0, .int .i64 0, .int .i64 0, .int .i64 0, .int .i64 m.d.end_.kind, .int .i64 m.d.end_.field, .int .u64 m.d.end_.bits, .int .i64 m.d.end_.len, .str m.d.end_.text, .int .i64 m.d.end_.code, .int .i64 m.d.end_.at_, .own 3], .tree m.d.plan.shapes, .lst .lev m.d.stack, .lst .ev m.out] (.tup []) z12) ∧ z22 = .v z10 ∧ ([.cells [.own 1, .int .i64 m.d.plan.root, .int .i64 m.d.plan.deep, .int .i64 m.d.plan.most, .int .i64 2, .own 4, .int .u64 m.d.scan.bits, .int .i64 m.d.scan.have_, .int .i64 m.d.start, .int .i64 m.d.at_, .int .i64 m.d.field.number, .int .i64 m.d.field.kind, .bool m.d.field.rep, .bool m.d.field.packed, .int .i64 m.d.field.msg, .int .i64 m.d.wire, .int .i64 0, .int .i64 0, .int .i64 0, .int .i64 0, .int .i64 m.d.end_.kind, .int .i64 m.d.end_.field, .int .u64 m.d.end_.bits, .int .i64 m.d.end_.len, .str m.d.end_.text, .int .i64 m.d.end_.code, .int .i64 m.d.end_.at_, .own 5], .tree m.d.plan.shapes, .dead, .dead, .lst .lev m.d.stack, .lst .ev z40] : List Blk) = z2)) ∧ (z28 = false → (z36 = true → (z28 = false) ∧ (z25 = true → (z18 = true → (z33 = true → (Fun Tryz.prog 149 [.agg z43] [] (.v z27) []) ∧ (z29 = true → z13 ∧ z13 ∧ z30 ∧ z23 ∧ z30 ∧ z23 ∧ (z17 = true → (Fun Tryz.prog 117 z15 z19 (.tup []) z7) ∧ z22 = .v z10 ∧ z11 = z2) ∧ (z17 = false → (Fun Tryz.prog 117 z16 z5 (.tup []) z1) ∧ z22 = .v z10 ∧ z4 = z2)) ∧ z20) ∧ z21) ∧ z26) ∧ z14) ∧ (z36 = false → (z37 = true → (z18 = true → (z28 = false) ∧ (z25 = true → (z18 = true) ∧ (z33 = true → (Fun Tryz.prog 149 [.agg z43] [] (.v z27) []) ∧ (z29 = true → z13 ∧ z13 ∧ z30 ∧ z23 ∧ z30 ∧ z23 ∧ (z17 = true → (Fun Tryz.prog 117 z15 z19 (.tup []) z7) ∧ z22 = .v z10 ∧ z11 = z2) ∧ (z17 = false → (Fun Tryz.prog 117 z16 z5 (.tup []) z1) ∧ z22 = .v z10 ∧ z4 = z2)) ∧ z20) ∧ z21) ∧ z14) ∧ z32) ∧ (z37 = false → (z25 = true → (z18 = true → (z33 = true → (Fun Tryz.prog 149 [.agg z43] [] (.v z27) []) ∧ (z29 = true → z13 ∧ z13 ∧ z30 ∧ z23 ∧ z30 ∧ z23 ∧ (z17 = true → (Fun Tryz.prog 117 z15 z19 (.tup []) z7) ∧ z22 = .v z10 ∧ z11 = z2) ∧ (z17 = false → (Fun Tryz.prog 117 z16 z5 (.tup []) z1) ∧ z22 = .v z10 ∧ z4 = z2)) ∧ z20) ∧ z21) ∧ z26) ∧ z14)))) ∧ ((decide (m.d.mode = 6)) = false → (z36 = true → z9 ∧ (z28 = false → (z25 = true → (z18 = true → (z33 = true → (Fun Tryz.prog 149 [.agg z43] [] (.v z27) []) ∧ (z29 = true → z13 ∧ z13 ∧ z30 ∧ z23 ∧ z30 ∧ z23 ∧ (z17 = true → (Fun Tryz.prog 117 z15 z19 (.tup []) z7) ∧ z22 = .v z10 ∧ z11 = z2) ∧ (z17 = false → (Fun Tryz.prog 117 z16 z5 (.tup []) z1) ∧ z22 = .v z10 ∧ z4 = z2)) ∧ z20) ∧ z21) ∧ z26) ∧ z14)) ∧ (z36 = false → (z37 = true → (z18 = true → z9 ∧ (z28 = false → (z25 = true → (z18 = true) ∧ (z33 = true → (Fun Tryz.prog 149 [.agg z43] [] (.v z27) []) ∧ (z29 = true → z13 ∧ z13 ∧ z30 ∧ z23 ∧ z30 ∧ z23 ∧ (z17 = true → (Fun Tryz.prog 117 z15 z19 (.tup []) z7) ∧ z22 = .v z10 ∧ z11 = z2) ∧ (z17 = false → (Fun Tryz.prog 117 z16 z5 (.tup []) z1) ∧ z22 = .v z10 ∧ z4 = z2)) ∧ z20) ∧ z21) ∧ z14)) ∧ z32) ∧ (z37 = false → (z25 = true → (z18 = true → (z33 = true → (Fun Tryz.prog 149 [.agg z43] [] (.v z27) []) ∧ (z29 = true → z13 ∧ z13 ∧ z30 ∧ z23 ∧ z30 ∧ z23 ∧ (z17 = true → (Fun Tryz.prog 117 z15 z19 (.tup []) z7) ∧ z22 = .v z10 ∧ z11 = z2) ∧ (z17 = false → (Fun Tryz.prog 117 z16 z5 (.tup []) z1) ∧ z22 = .v z10 ∧ z4 = z2)) ∧ z20) ∧ z21) ∧ z26) ∧ z14))))) (by kernel_rfl) ?_
  refine ⟨fun h1 => have p1 := of_decide_eq_true h1; ?_, fun h1 => have p1 := of_decide_eq_false h1; ?_⟩
  refine ⟨fun h2 => have p2 := of_decide_eq_true h2; ?_, fun h2 => have p2 := of_decide_eq_false h2; ?_⟩
  refine ⟨fun h3 => have p3 := of_decide_eq_true h3; ?_, fun h3 => have p3 := of_decide_eq_false h3; ?_⟩
  refine ⟨(fails_i m _ _ (by omega)), ?_⟩
  refine have hm1 : (closeM m).getD m = (mFail m 5 m.d.at_) := ?_; ?_
  rotate_left
  refine ⟨(sB ?_), (by rw [hm1] <;> rfl)⟩
  rotate_left
  refine ⟨(emit_i (⟨(⟨m.d.plan, 2, m.d.stack, m.d.scan, m.d.start, m.d.at_, m.d.field, m.d.wire, 0, utf0, m.d.end_⟩ : Dcd), m.out⟩ : Mac) (⟨5, 0, 0, 0, [], 0, 0⟩ : Ev) (by first | omega | (dsimp only; omega))), ?_⟩
  refine have hm1 : (closeM m).getD m = (⟨(⟨m.d.plan, 2, m.d.stack, m.d.scan, m.d.start, m.d.at_, m.d.field, m.d.wire, 0, utf0, m.d.end_⟩ : Dcd), m.out ++ [(⟨5, 0, 0, 0, [], 0, 0⟩ : Ev)]⟩ : Mac) := ?_; ?_
  rotate_left
  refine ⟨(sB ?_), (by rw [hm1] <;> rfl)⟩
  rotate_left
  refine ⟨fun h3 => have p3 := of_decide_eq_true h3; ?_, fun h3 => have p3 := of_decide_eq_false h3; ?_⟩
  refine ⟨h2, fun h4 => have p4 := of_decide_eq_true h4; ?_, fun h4 => have p4 := of_decide_eq_false h4; ?_⟩
  refine ⟨fun h5 => have p5 := of_decide_eq_true h5; ?_, fun h5 => have p5 := of_decide_eq_false h5; ?_⟩
  refine ⟨fun h6 => have p6 := of_decide_eq_true h6; ?_, fun h6 => have p6 := of_decide_eq_false h6; ?_⟩
  refine ⟨(topL_i m.d (by omega)), fun h7 => have p7 := of_decide_eq_true h7; ?_, fun h7 => have p7 := of_decide_eq_false h7; ?_⟩
  refine ⟨(as_i64 (by omega) (by omega)), (as_i64 (by omega) (by omega)), (by omega), (by omega), (by omega), (by omega), fun h8 => have p8 := of_decide_eq_true h8; ?_, fun h8 => have p8 := of_decide_eq_false h8; ?_⟩
  refine ⟨(emit_i (⟨(⟨m.d.plan, m.d.mode, List.take ((Int.toNat ((m.d.stack.length : Int) - 1)) - 0) m.d.stack, m.d.scan, m.d.start, m.d.at_, m.d.field, m.d.wire, m.d.want, m.d.utf, m.d.end_⟩ : Dcd), m.out⟩ : Mac) (⟨7, 0, 0, 0, [], 0, 0⟩ : Ev) (by first | omega | (dsimp only; omega))), ?_⟩
  refine have hm1 : (closeM m).getD m = (⟨(⟨m.d.plan, m.d.mode, List.take ((Int.toNat ((m.d.stack.length : Int) - 1)) - 0) m.d.stack, m.d.scan, m.d.start, m.d.at_, m.d.field, m.d.wire, m.d.want, m.d.utf, m.d.end_⟩ : Dcd), m.out ++ [(⟨7, 0, 0, 0, [], 0, 0⟩ : Ev)]⟩ : Mac) := ?_; ?_
  rotate_left
  refine ⟨(sB ?_), (by rw [hm1] <;> rfl)⟩
  rotate_left
  refine ⟨(emit_i (⟨(⟨m.d.plan, 1, List.take ((Int.toNat ((m.d.stack.length : Int) - 1)) - 0) m.d.stack, m.d.scan, m.d.start, m.d.at_, m.d.field, m.d.wire, m.d.want, m.d.utf, m.d.end_⟩ : Dcd), m.out⟩ : Mac) (⟨8, 0, 0, 0, [], 0, 0⟩ : Ev) (by first | omega | (dsimp only; omega))), ?_⟩
  refine have hm1 : (closeM m).getD m = (⟨(⟨m.d.plan, 1, List.take ((Int.toNat ((m.d.stack.length : Int) - 1)) - 0) m.d.stack, m.d.scan, m.d.start, m.d.at_, m.d.field, m.d.wire, m.d.want, m.d.utf, m.d.end_⟩ : Dcd), m.out ++ [(⟨8, 0, 0, 0, [], 0, 0⟩ : Ev)]⟩ : Mac) := ?_; ?_
  rotate_left
  refine ⟨(sB ?_), (by rw [hm1] <;> rfl)⟩
  rotate_left
  refine have hm1 : (closeM m).getD m = m := ?_; ?_
  rotate_left
  refine ⟨(sB ?_), (by rw [hm1] <;> rfl)⟩
  rotate_left
  refine have hm1 : (closeM m).getD m = m := ?_; ?_
  rotate_left
  refine ⟨(sB ?_), (by rw [hm1] <;> rfl)⟩
  rotate_left
  refine have hm1 : (closeM m).getD m = m := ?_; ?_
  rotate_left
  refine ⟨(sB ?_), (by rw [hm1] <;> rfl)⟩
  rotate_left
  refine have hm1 : (closeM m).getD m = m := ?_; ?_
  rotate_left
  refine ⟨(sB ?_), (by rw [hm1] <;> rfl)⟩
  rotate_left
  refine ⟨fun h4 => have p4 := of_decide_eq_true h4; ?_, fun h4 => have p4 := of_decide_eq_false h4; ?_⟩
  refine ⟨fun h5 => have p5 := of_decide_eq_true h5; ?_, fun h5 => have p5 := of_decide_eq_false h5; ?_⟩
  refine ⟨h2, fun h6 => have p6 := of_decide_eq_true h6; ?_, fun h6 => have p6 := of_decide_eq_false h6; ?_⟩
  refine ⟨h5, fun h7 => have p7 := of_decide_eq_true h7; ?_, fun h7 => have p7 := of_decide_eq_false h7; ?_⟩
  refine ⟨(topL_i m.d (by omega)), fun h8 => have p8 := of_decide_eq_true h8; ?_, fun h8 => have p8 := of_decide_eq_false h8; ?_⟩
  refine ⟨(as_i64 (by omega) (by omega)), (as_i64 (by omega) (by omega)), (by omega), (by omega), (by omega), (by omega), fun h9 => have p9 := of_decide_eq_true h9; ?_, fun h9 => have p9 := of_decide_eq_false h9; ?_⟩
  refine ⟨(emit_i (⟨(⟨m.d.plan, m.d.mode, List.take ((Int.toNat ((m.d.stack.length : Int) - 1)) - 0) m.d.stack, m.d.scan, m.d.start, m.d.at_, m.d.field, m.d.wire, m.d.want, m.d.utf, m.d.end_⟩ : Dcd), m.out⟩ : Mac) (⟨7, 0, 0, 0, [], 0, 0⟩ : Ev) (by first | omega | (dsimp only; omega))), ?_⟩
  refine have hm1 : (closeM m).getD m = (⟨(⟨m.d.plan, m.d.mode, List.take ((Int.toNat ((m.d.stack.length : Int) - 1)) - 0) m.d.stack, m.d.scan, m.d.start, m.d.at_, m.d.field, m.d.wire, m.d.want, m.d.utf, m.d.end_⟩ : Dcd), m.out ++ [(⟨7, 0, 0, 0, [], 0, 0⟩ : Ev)]⟩ : Mac) := ?_; ?_
  rotate_left
  refine ⟨(sB ?_), (by rw [hm1] <;> rfl)⟩
  rotate_left
  refine ⟨(emit_i (⟨(⟨m.d.plan, 1, List.take ((Int.toNat ((m.d.stack.length : Int) - 1)) - 0) m.d.stack, m.d.scan, m.d.start, m.d.at_, m.d.field, m.d.wire, m.d.want, m.d.utf, m.d.end_⟩ : Dcd), m.out⟩ : Mac) (⟨8, 0, 0, 0, [], 0, 0⟩ : Ev) (by first | omega | (dsimp only; omega))), ?_⟩
  refine have hm1 : (closeM m).getD m = (⟨(⟨m.d.plan, 1, List.take ((Int.toNat ((m.d.stack.length : Int) - 1)) - 0) m.d.stack, m.d.scan, m.d.start, m.d.at_, m.d.field, m.d.wire, m.d.want, m.d.utf, m.d.end_⟩ : Dcd), m.out ++ [(⟨8, 0, 0, 0, [], 0, 0⟩ : Ev)]⟩ : Mac) := ?_; ?_
  rotate_left
  refine ⟨(sB ?_), (by rw [hm1] <;> rfl)⟩
  rotate_left
  refine have hm1 : (closeM m).getD m = m := ?_; ?_
  rotate_left
  refine ⟨(sB ?_), (by rw [hm1] <;> rfl)⟩
  rotate_left
  refine have hm1 : (closeM m).getD m = m := ?_; ?_
  rotate_left
  refine ⟨(sB ?_), (by rw [hm1] <;> rfl)⟩
  rotate_left
  refine have hm1 : (closeM m).getD m = m := ?_; ?_
  rotate_left
  refine ⟨(sB ?_), (by rw [hm1] <;> rfl)⟩
  rotate_left
  refine ⟨fun h6 => have p6 := of_decide_eq_true h6; ?_, fun h6 => have p6 := of_decide_eq_false h6; ?_⟩
  refine ⟨h5, ?_⟩
  refine have hm1 : (closeM m).getD m = m := ?_; ?_
  rotate_left
  refine ⟨(sB ?_), (by rw [hm1] <;> rfl)⟩
  rotate_left
  refine have hm1 : (closeM m).getD m = m := ?_; ?_
  rotate_left
  refine ⟨(sB ?_), (by rw [hm1] <;> rfl)⟩
  rotate_left
  refine ⟨fun h5 => have p5 := of_decide_eq_true h5; ?_, fun h5 => have p5 := of_decide_eq_false h5; ?_⟩
  refine ⟨fun h6 => have p6 := of_decide_eq_true h6; ?_, fun h6 => have p6 := of_decide_eq_false h6; ?_⟩
  refine ⟨fun h7 => have p7 := of_decide_eq_true h7; ?_, fun h7 => have p7 := of_decide_eq_false h7; ?_⟩
  refine ⟨(topL_i m.d (by omega)), fun h8 => have p8 := of_decide_eq_true h8; ?_, fun h8 => have p8 := of_decide_eq_false h8; ?_⟩
  refine ⟨(as_i64 (by omega) (by omega)), (as_i64 (by omega) (by omega)), (by omega), (by omega), (by omega), (by omega), fun h9 => have p9 := of_decide_eq_true h9; ?_, fun h9 => have p9 := of_decide_eq_false h9; ?_⟩
  refine ⟨(emit_i (⟨(⟨m.d.plan, m.d.mode, List.take ((Int.toNat ((m.d.stack.length : Int) - 1)) - 0) m.d.stack, m.d.scan, m.d.start, m.d.at_, m.d.field, m.d.wire, m.d.want, m.d.utf, m.d.end_⟩ : Dcd), m.out⟩ : Mac) (⟨7, 0, 0, 0, [], 0, 0⟩ : Ev) (by first | omega | (dsimp only; omega))), ?_⟩
  refine have hm1 : (closeM m).getD m = (⟨(⟨m.d.plan, m.d.mode, List.take ((Int.toNat ((m.d.stack.length : Int) - 1)) - 0) m.d.stack, m.d.scan, m.d.start, m.d.at_, m.d.field, m.d.wire, m.d.want, m.d.utf, m.d.end_⟩ : Dcd), m.out ++ [(⟨7, 0, 0, 0, [], 0, 0⟩ : Ev)]⟩ : Mac) := ?_; ?_
  rotate_left
  refine ⟨(sB ?_), (by rw [hm1] <;> rfl)⟩
  rotate_left
  refine ⟨(emit_i (⟨(⟨m.d.plan, 1, List.take ((Int.toNat ((m.d.stack.length : Int) - 1)) - 0) m.d.stack, m.d.scan, m.d.start, m.d.at_, m.d.field, m.d.wire, m.d.want, m.d.utf, m.d.end_⟩ : Dcd), m.out⟩ : Mac) (⟨8, 0, 0, 0, [], 0, 0⟩ : Ev) (by first | omega | (dsimp only; omega))), ?_⟩
  refine have hm1 : (closeM m).getD m = (⟨(⟨m.d.plan, 1, List.take ((Int.toNat ((m.d.stack.length : Int) - 1)) - 0) m.d.stack, m.d.scan, m.d.start, m.d.at_, m.d.field, m.d.wire, m.d.want, m.d.utf, m.d.end_⟩ : Dcd), m.out ++ [(⟨8, 0, 0, 0, [], 0, 0⟩ : Ev)]⟩ : Mac) := ?_; ?_
  rotate_left
  refine ⟨(sB ?_), (by rw [hm1] <;> rfl)⟩
  rotate_left
  refine have hm1 : (closeM m).getD m = m := ?_; ?_
  rotate_left
  refine ⟨(sB ?_), (by rw [hm1] <;> rfl)⟩
  rotate_left
  refine have hm1 : (closeM m).getD m = m := ?_; ?_
  rotate_left
  refine ⟨(sB ?_), (by rw [hm1] <;> rfl)⟩
  rotate_left
  refine have hm1 : (closeM m).getD m = m := ?_; ?_
  rotate_left
  refine ⟨(sB ?_), (by rw [hm1] <;> rfl)⟩
  rotate_left
  refine have hm1 : (closeM m).getD m = m := ?_; ?_
  rotate_left
  refine ⟨(sB ?_), (by rw [hm1] <;> rfl)⟩
  rotate_left
  refine ⟨fun h2 => have p2 := of_decide_eq_true h2; ?_, fun h2 => have p2 := of_decide_eq_false h2; ?_⟩
  refine ⟨fun h3 => have p3 := of_decide_eq_true h3; ?_, fun h3 => have p3 := of_decide_eq_false h3; ?_⟩
  refine have hm1 : (closeM m).getD m = (⟨(⟨m.d.plan, 2, m.d.stack, m.d.scan, m.d.start, m.d.at_, m.d.field, m.d.wire, 0, m.d.utf, m.d.end_⟩ : Dcd), m.out⟩ : Mac) := ?_; ?_
  rotate_left
  refine ⟨(sB ?_), (by rw [hm1] <;> rfl)⟩
  rotate_left
  refine ⟨fun h4 => have p4 := of_decide_eq_true h4; ?_, fun h4 => have p4 := of_decide_eq_false h4; ?_⟩
  refine ⟨fun h5 => have p5 := of_decide_eq_true h5; ?_, fun h5 => have p5 := of_decide_eq_false h5; ?_⟩
  refine ⟨fun h6 => have p6 := of_decide_eq_true h6; ?_, fun h6 => have p6 := of_decide_eq_false h6; ?_⟩
  refine ⟨(topL_i m.d (by omega)), fun h7 => have p7 := of_decide_eq_true h7; ?_, fun h7 => have p7 := of_decide_eq_false h7; ?_⟩
  refine ⟨(as_i64 (by omega) (by omega)), (as_i64 (by omega) (by omega)), (by omega), (by omega), (by omega), (by omega), fun h8 => have p8 := of_decide_eq_true h8; ?_, fun h8 => have p8 := of_decide_eq_false h8; ?_⟩
  refine ⟨(emit_i (⟨(⟨m.d.plan, m.d.mode, List.take ((Int.toNat ((m.d.stack.length : Int) - 1)) - 0) m.d.stack, m.d.scan, m.d.start, m.d.at_, m.d.field, m.d.wire, m.d.want, m.d.utf, m.d.end_⟩ : Dcd), m.out⟩ : Mac) (⟨7, 0, 0, 0, [], 0, 0⟩ : Ev) (by first | omega | (dsimp only; omega))), ?_⟩
  refine have hm1 : (closeM m).getD m = (⟨(⟨m.d.plan, m.d.mode, List.take ((Int.toNat ((m.d.stack.length : Int) - 1)) - 0) m.d.stack, m.d.scan, m.d.start, m.d.at_, m.d.field, m.d.wire, m.d.want, m.d.utf, m.d.end_⟩ : Dcd), m.out ++ [(⟨7, 0, 0, 0, [], 0, 0⟩ : Ev)]⟩ : Mac) := ?_; ?_
  rotate_left
  refine ⟨(sB ?_), (by rw [hm1] <;> rfl)⟩
  rotate_left
  refine ⟨(emit_i (⟨(⟨m.d.plan, 1, List.take ((Int.toNat ((m.d.stack.length : Int) - 1)) - 0) m.d.stack, m.d.scan, m.d.start, m.d.at_, m.d.field, m.d.wire, m.d.want, m.d.utf, m.d.end_⟩ : Dcd), m.out⟩ : Mac) (⟨8, 0, 0, 0, [], 0, 0⟩ : Ev) (by first | omega | (dsimp only; omega))), ?_⟩
  refine have hm1 : (closeM m).getD m = (⟨(⟨m.d.plan, 1, List.take ((Int.toNat ((m.d.stack.length : Int) - 1)) - 0) m.d.stack, m.d.scan, m.d.start, m.d.at_, m.d.field, m.d.wire, m.d.want, m.d.utf, m.d.end_⟩ : Dcd), m.out ++ [(⟨8, 0, 0, 0, [], 0, 0⟩ : Ev)]⟩ : Mac) := ?_; ?_
  rotate_left
  refine ⟨(sB ?_), (by rw [hm1] <;> rfl)⟩
  rotate_left
  refine have hm1 : (closeM m).getD m = m := ?_; ?_
  rotate_left
  refine ⟨(sB ?_), (by rw [hm1] <;> rfl)⟩
  rotate_left
  refine have hm1 : (closeM m).getD m = m := ?_; ?_
  rotate_left
  refine ⟨(sB ?_), (by rw [hm1] <;> rfl)⟩
  rotate_left
  refine have hm1 : (closeM m).getD m = m := ?_; ?_
  rotate_left
  refine ⟨(sB ?_), (by rw [hm1] <;> rfl)⟩
  rotate_left
  refine have hm1 : (closeM m).getD m = m := ?_; ?_
  rotate_left
  refine ⟨(sB ?_), (by rw [hm1] <;> rfl)⟩
  rotate_left
  refine ⟨fun h3 => have p3 := of_decide_eq_true h3; ?_, fun h3 => have p3 := of_decide_eq_false h3; ?_⟩
  refine ⟨fun h4 => have p4 := of_decide_eq_true h4; ?_, fun h4 => have p4 := of_decide_eq_false h4; ?_⟩
  refine ⟨fun h5 => have p5 := of_decide_eq_true h5; ?_, fun h5 => have p5 := of_decide_eq_false h5; ?_⟩
  refine have hm1 : (closeM m).getD m = (⟨(⟨m.d.plan, 2, m.d.stack, m.d.scan, m.d.start, m.d.at_, m.d.field, m.d.wire, 0, m.d.utf, m.d.end_⟩ : Dcd), m.out⟩ : Mac) := ?_; ?_
  rotate_left
  refine ⟨(sB ?_), (by rw [hm1] <;> rfl)⟩
  rotate_left
  refine ⟨fun h6 => have p6 := of_decide_eq_true h6; ?_, fun h6 => have p6 := of_decide_eq_false h6; ?_⟩
  refine ⟨h4, fun h7 => have p7 := of_decide_eq_true h7; ?_, fun h7 => have p7 := of_decide_eq_false h7; ?_⟩
  refine ⟨(topL_i m.d (by omega)), fun h8 => have p8 := of_decide_eq_true h8; ?_, fun h8 => have p8 := of_decide_eq_false h8; ?_⟩
  refine ⟨(as_i64 (by omega) (by omega)), (as_i64 (by omega) (by omega)), (by omega), (by omega), (by omega), (by omega), fun h9 => have p9 := of_decide_eq_true h9; ?_, fun h9 => have p9 := of_decide_eq_false h9; ?_⟩
  refine ⟨(emit_i (⟨(⟨m.d.plan, m.d.mode, List.take ((Int.toNat ((m.d.stack.length : Int) - 1)) - 0) m.d.stack, m.d.scan, m.d.start, m.d.at_, m.d.field, m.d.wire, m.d.want, m.d.utf, m.d.end_⟩ : Dcd), m.out⟩ : Mac) (⟨7, 0, 0, 0, [], 0, 0⟩ : Ev) (by first | omega | (dsimp only; omega))), ?_⟩
  refine have hm1 : (closeM m).getD m = (⟨(⟨m.d.plan, m.d.mode, List.take ((Int.toNat ((m.d.stack.length : Int) - 1)) - 0) m.d.stack, m.d.scan, m.d.start, m.d.at_, m.d.field, m.d.wire, m.d.want, m.d.utf, m.d.end_⟩ : Dcd), m.out ++ [(⟨7, 0, 0, 0, [], 0, 0⟩ : Ev)]⟩ : Mac) := ?_; ?_
  rotate_left
  refine ⟨(sB ?_), (by rw [hm1] <;> rfl)⟩
  rotate_left
  refine ⟨(emit_i (⟨(⟨m.d.plan, 1, List.take ((Int.toNat ((m.d.stack.length : Int) - 1)) - 0) m.d.stack, m.d.scan, m.d.start, m.d.at_, m.d.field, m.d.wire, m.d.want, m.d.utf, m.d.end_⟩ : Dcd), m.out⟩ : Mac) (⟨8, 0, 0, 0, [], 0, 0⟩ : Ev) (by first | omega | (dsimp only; omega))), ?_⟩
  refine have hm1 : (closeM m).getD m = (⟨(⟨m.d.plan, 1, List.take ((Int.toNat ((m.d.stack.length : Int) - 1)) - 0) m.d.stack, m.d.scan, m.d.start, m.d.at_, m.d.field, m.d.wire, m.d.want, m.d.utf, m.d.end_⟩ : Dcd), m.out ++ [(⟨8, 0, 0, 0, [], 0, 0⟩ : Ev)]⟩ : Mac) := ?_; ?_
  rotate_left
  refine ⟨(sB ?_), (by rw [hm1] <;> rfl)⟩
  rotate_left
  refine have hm1 : (closeM m).getD m = m := ?_; ?_
  rotate_left
  refine ⟨(sB ?_), (by rw [hm1] <;> rfl)⟩
  rotate_left
  refine have hm1 : (closeM m).getD m = m := ?_; ?_
  rotate_left
  refine ⟨(sB ?_), (by rw [hm1] <;> rfl)⟩
  rotate_left
  refine have hm1 : (closeM m).getD m = m := ?_; ?_
  rotate_left
  refine ⟨(sB ?_), (by rw [hm1] <;> rfl)⟩
  rotate_left
  refine ⟨fun h5 => have p5 := of_decide_eq_true h5; ?_, fun h5 => have p5 := of_decide_eq_false h5; ?_⟩
  refine ⟨h4, ?_⟩
  refine have hm1 : (closeM m).getD m = m := ?_; ?_
  rotate_left
  refine ⟨(sB ?_), (by rw [hm1] <;> rfl)⟩
  rotate_left
  refine have hm1 : (closeM m).getD m = m := ?_; ?_
  rotate_left
  refine ⟨(sB ?_), (by rw [hm1] <;> rfl)⟩
  rotate_left
  refine ⟨fun h4 => have p4 := of_decide_eq_true h4; ?_, fun h4 => have p4 := of_decide_eq_false h4; ?_⟩
  refine ⟨fun h5 => have p5 := of_decide_eq_true h5; ?_, fun h5 => have p5 := of_decide_eq_false h5; ?_⟩
  refine ⟨fun h6 => have p6 := of_decide_eq_true h6; ?_, fun h6 => have p6 := of_decide_eq_false h6; ?_⟩
  refine ⟨(topL_i m.d (by omega)), fun h7 => have p7 := of_decide_eq_true h7; ?_, fun h7 => have p7 := of_decide_eq_false h7; ?_⟩
  refine ⟨(as_i64 (by omega) (by omega)), (as_i64 (by omega) (by omega)), (by omega), (by omega), (by omega), (by omega), fun h8 => have p8 := of_decide_eq_true h8; ?_, fun h8 => have p8 := of_decide_eq_false h8; ?_⟩
  refine ⟨(emit_i (⟨(⟨m.d.plan, m.d.mode, List.take ((Int.toNat ((m.d.stack.length : Int) - 1)) - 0) m.d.stack, m.d.scan, m.d.start, m.d.at_, m.d.field, m.d.wire, m.d.want, m.d.utf, m.d.end_⟩ : Dcd), m.out⟩ : Mac) (⟨7, 0, 0, 0, [], 0, 0⟩ : Ev) (by first | omega | (dsimp only; omega))), ?_⟩
  refine have hm1 : (closeM m).getD m = (⟨(⟨m.d.plan, m.d.mode, List.take ((Int.toNat ((m.d.stack.length : Int) - 1)) - 0) m.d.stack, m.d.scan, m.d.start, m.d.at_, m.d.field, m.d.wire, m.d.want, m.d.utf, m.d.end_⟩ : Dcd), m.out ++ [(⟨7, 0, 0, 0, [], 0, 0⟩ : Ev)]⟩ : Mac) := ?_; ?_
  rotate_left
  refine ⟨(sB ?_), (by rw [hm1] <;> rfl)⟩
  rotate_left
  refine ⟨(emit_i (⟨(⟨m.d.plan, 1, List.take ((Int.toNat ((m.d.stack.length : Int) - 1)) - 0) m.d.stack, m.d.scan, m.d.start, m.d.at_, m.d.field, m.d.wire, m.d.want, m.d.utf, m.d.end_⟩ : Dcd), m.out⟩ : Mac) (⟨8, 0, 0, 0, [], 0, 0⟩ : Ev) (by first | omega | (dsimp only; omega))), ?_⟩
  refine have hm1 : (closeM m).getD m = (⟨(⟨m.d.plan, 1, List.take ((Int.toNat ((m.d.stack.length : Int) - 1)) - 0) m.d.stack, m.d.scan, m.d.start, m.d.at_, m.d.field, m.d.wire, m.d.want, m.d.utf, m.d.end_⟩ : Dcd), m.out ++ [(⟨8, 0, 0, 0, [], 0, 0⟩ : Ev)]⟩ : Mac) := ?_; ?_
  rotate_left
  refine ⟨(sB ?_), (by rw [hm1] <;> rfl)⟩
  rotate_left
  refine have hm1 : (closeM m).getD m = m := ?_; ?_
  rotate_left
  refine ⟨(sB ?_), (by rw [hm1] <;> rfl)⟩
  rotate_left
  refine have hm1 : (closeM m).getD m = m := ?_; ?_
  rotate_left
  refine ⟨(sB ?_), (by rw [hm1] <;> rfl)⟩
  rotate_left
  refine have hm1 : (closeM m).getD m = m := ?_; ?_
  rotate_left
  refine ⟨(sB ?_), (by rw [hm1] <;> rfl)⟩
  rotate_left
  refine have hm1 : (closeM m).getD m = m := ?_; ?_
  rotate_left
  refine ⟨(sB ?_), (by rw [hm1] <;> rfl)⟩
  rotate_left
  all_goals first | (simp_all [closeM, mFail, dFail, evShut, evUp, evFrmEnd, utf0]; done) | (grind [closeM, mFail, dFail, evShut, evUp, evFrmEnd, utf0])
end Go.Proofs.YtecljjcmjongfaaGreat.Ax
