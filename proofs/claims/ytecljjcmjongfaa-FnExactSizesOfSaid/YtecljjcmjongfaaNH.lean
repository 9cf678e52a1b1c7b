/- Events as frames. -/
import Derived.Test.YtecljjcmjongfaaNG
namespace Go.Proofs.Ytecljjcmjongfaa.Ax
open Go.RowKit
set_option linter.unusedSimpArgs false
set_option linter.unusedVariables false
structure frameCode_i_V0 where
  f : Fmr
  v : Nat
def frameCode_i_F0 (p : Pln) (l : List Ev) : Fam := ⟨frameCode_i_V0, fun q1 => [(1, .v (.c (.seq .ev l))), (6, .v (vP 0)), (32, .v (.c (.seq .ev (List.drop 1 l)))), (33, .v (vI ((List.length (List.drop 1 l) : Nat) : Int))), (34, .v (vI (q1.v : Int)))], fun q1 => [.cells (oFmr4 1 q1.f), .lst .int q1.f.st.stack], fun q1 => q1.v + 1 ≤ l.length ∧ (q1.f).plan = p ∧ 1 ≤ List.length (q1.f).st.stack ∧ List.length (q1.f).st.stack ≤ 8 ∧ faRun p (q1.f).st (List.drop q1.v (List.drop 1 l)) ((q1.v : Int) + 1) = frameCode p l, fun q1 => l.length - q1.v⟩

theorem frameCode_i (p : Pln) (l : List Ev) (hp1 : l.length ≤ bigN) (hp2 : ∀ e ∈ l, EvB e) : Fun Try.prog 100 [.agg (cPln p), .c (.seq .ev l)] [] (.tup [vI (frameCode p l).1, vI (frameCode p l).2]) [] := by
  have hN : bigN = 274877906944 := rfl
  refine fun_ofw Try.func100 (by kernel_rfl) (by kernel_rfl) (w := let z6 : List V := [vI (frameCode p l).1, vI (frameCode p l).2]; let z8 := (l.length : Int); let z9 := List.drop 1 l; let z7 := (z9.length : Int); let z10 := ([] : List Blk); let z11 := frameCode_i_F0 p l; let z12 := (.tup [vI 1, vI 0] : S); (.seg [.call [] (.v (vB (planOk p))) []] (.br (.leaf () []) (.br (.leaf () []) (.intro (fun (x1 : Ev) => l[0]? = some x1) fun x1 => .seg [.el .ev x1] (.br (.leaf () []) (.seg [.ty .int, .at 0, .keep [1, 6, 32, 33, 34], .sel [2, 1]] (.loop z11 fun q1 => .br (.intro (fun (x2 : Ev) => z9[q1.v]? = some x2) fun x2 => let z1 := faStep (q1.f).plan (q1.f).st x2; .seg [.el .ev x2, .call [0, 1] (.v (vI (faCode (q1.f).plan (q1.f).st x2))) [.cells [.seq .shp (q1.f).plan.shapes, .int .i64 (q1.f).plan.root, .int .i64 (q1.f).plan.deep, .int .i64 (q1.f).plan.most, .own 2, .bool z1.inText, .bool z1.isText, .int .i64 z1.utf.want, .int .i64 z1.utf.low, .int .i64 z1.utf.high, .bool z1.ended], .dead, .lst .int z1.stack]] (.br (.seg [.as 46 (.v (vI ((q1.v : Int) + 1)))] (.leaf () [])) (.seg [.as 47 (.v (vI ((q1.v : Int) + 1))), .at 0, .keep [1, 6, 32, 33, 34], .sel [0, 3]] (.next)))) (.br (.leaf () []) (.leaf () [])))))))), (Fun Try.prog 42 [.agg (cPln p)] [] (.v (vB (planOk p))) []) ∧ ((!(planOk p)) = true → z12 = .tup z6 ∧ z10 = []) ∧ ((!(planOk p)) = false → ((decide (z8 = 0)) = true → z12 = .tup z6 ∧ z10 = []) ∧ ((decide (z8 = 0)) = false → (∃ (x1 : Ev), l[0]? = some x1) ∧ ∀ (x1 : Ev), (l[0]? = some x1) → ((l[0]? = some x1) ∧ ((0 : Int) ≤ 0) ∧ ((!decide (x1.kind = 1)) = true → z12 = .tup z6 ∧ z10 = []) ∧ ((!decide (x1.kind = 1)) = false → (1 ≤ z8) ∧ ((0 : Int) ≤ 1) ∧ z11.Has [(1, .v (.c (.seq .ev l))), (6, .v (vP 0)), (32, .v (.c (.seq .ev z9))), (33, .v (vI z7)), (34, .v (vI 0))] [.cells [.seq .shp p.shapes, .int .i64 p.root, .int .i64 p.deep, .int .i64 p.most, .own 1, .bool false, .bool false, .int .i64 0, .int .i64 0, .int .i64 0, .bool false], .lst .int [p.root]] ∧ ∀ q1, z11.inv q1 → (let z5 := (q1.v : Int); ((decide (z5 < z7)) = true → (∃ (x2 : Ev), z9[q1.v]? = some x2) ∧ ∀ (x2 : Ev), (z9[q1.v]? = some x2) → (let z2 := faStep (q1.f).plan (q1.f).st x2; let z3 := !decide (faCode (q1.f).plan (q1.f).st x2 = 0); let z4 := faCode (q1.f).plan (q1.f).st x2; (z9[q1.v]? = some x2) ∧ ((0 : Int) ≤ z5) ∧ (Fun Try.prog 143 [vP 0, .agg (cEv x2)] [.cells (oFmr4 1 q1.f), .lst .int q1.f.st.stack] (.v (vI z4)) [.cells [.seq .shp (q1.f).plan.shapes, .int .i64 (q1.f).plan.root, .int .i64 (q1.f).plan.deep, .int .i64 (q1.f).plan.most, .own 2, .bool z2.inText, .bool z2.isText, .int .i64 z2.utf.want, .int .i64 z2.utf.low, .int .i64 z2.utf.high, .bool z2.ended], .dead, .lst .int z2.stack]) ∧ (z3 = true → ((.v (vI (IntKind.i64.wrap (z5 + 1))) : S) = .v (vI (z5 + 1))) ∧ (.tup [vI z4, vI (z5 + 1)] : S) = .tup z6 ∧ z10 = []) ∧ (z3 = false → ((.v (vI (IntKind.i64.wrap (z5 + 1))) : S) = .v (vI (z5 + 1))) ∧ z11.Nxt q1 [(1, .v (.c (.seq .ev l))), (6, .v (vP 0)), (32, .v (.c (.seq .ev z9))), (33, .v (vI z7)), (34, .v (vI (z5 + 1)))] [.cells [.seq .shp (q1.f).plan.shapes, .int .i64 (q1.f).plan.root, .int .i64 (q1.f).plan.deep, .int .i64 (q1.f).plan.most, .own 1, .bool z2.inText, .bool z2.isText, .int .i64 z2.utf.want, .int .i64 z2.utf.low, .int .i64 z2.utf.high, .bool z2.ended], .lst .int z2.stack]))) ∧ ((decide (z5 < z7)) = false → ((!q1.f.st.ended) = true → (.tup [vI 7, vI z8] : S) = .tup z6 ∧ z10 = []) ∧ ((!q1.f.st.ended) = false → (.tup [vI 0, vI 0] : S) = .tup z6 ∧ z10 = []))))))))) (by kernel_rfl) ?_
  refine ⟨(planOk_i p), fun h1 => have q1 := bnot_t h1; ?_, fun h1 => have q1 := bnot_f h1; have p1 := planOk_t q1; ?_⟩
  refine ⟨(congrArg S.tup (consE (congrArg V.c (congrArg (C.int .i64) ?_)) (consE (congrArg V.c (congrArg (C.int .i64) ?_)) rfl))), rfl⟩
  rotate_left 2
  have hpl : planOk p = true := bnot_f h1
  have hpo := planOk_t hpl
  refine ⟨fun h2 => have p2 := of_decide_eq_true h2; ?_, fun h2 => have p2 := of_decide_eq_false h2; ?_⟩
  refine ⟨(congrArg S.tup (consE (congrArg V.c (congrArg (C.int .i64) ?_)) (consE (congrArg V.c (congrArg (C.int .i64) ?_)) rfl))), rfl⟩
  rotate_left 2
  refine ⟨(ax_get (l := l) (i := 0) (by omega)), fun x1 hx1 => ?_⟩
  refine ⟨hx1, (by decide), fun h3 => have q3 := bnot_t h3; have p3 := of_decide_eq_false q3; ?_, fun h3 => have q3 := bnot_f h3; have p3 := of_decide_eq_true q3; ?_⟩
  refine ⟨(congrArg S.tup (consE (congrArg V.c (congrArg (C.int .i64) ?_)) (consE (congrArg V.c (congrArg (C.int .i64) ?_)) rfl))), rfl⟩
  rotate_left 2
  refine ⟨(by omega), (by decide), has_of (j := (⟨(⟨p, (⟨[p.root], false, false, utf0, false⟩ : Fa)⟩ : Fmr), 0⟩ : frameCode_i_V0)) (by first | rfl | simp) (by first | rfl | simp) (by dsimp only [frameCode_i_F0]; exact ⟨by omega, rfl, by simp, by simp, (frameCode_cons hx1 hpl (by omega)).symm⟩), fun (q1 : frameCode_i_V0) hq_q1 => ?_⟩
  have hi_q1 : q1.v + 1 ≤ l.length ∧ (q1.f).plan = p ∧ 1 ≤ List.length (q1.f).st.stack ∧ List.length (q1.f).st.stack ≤ 8 ∧ faRun p (q1.f).st (List.drop q1.v (List.drop 1 l)) ((q1.v : Int) + 1) = frameCode p l := hq_q1
  obtain ⟨v1, v2, v3, v4, v5⟩ := hi_q1
  refine ⟨fun h4 => have p4 := of_decide_eq_true h4; ?_, fun h4 => have p4 := of_decide_eq_false h4; ?_⟩
  skip
  rw [List.length_drop] at p4
  refine ⟨(ax_get (l := List.drop 1 l) (i := q1.v) (by simp only [List.length_drop]; omega)), fun x2 hx2 => ?_⟩
  have he := hp2 x2 (List.mem_of_mem_drop (List.mem_of_getElem? hx2))
  have hst := faStep_stack (p := p) x2 v3 v4 (by omega)
  have hs : schemaOk q1.f.plan.shapes = true := by rw [v2]; exact hpo.2.1
  rw [drop_el hx2, faRun_cons] at v5
  refine ⟨hx2, (by omega), (next_i q1.f x2 (by omega) (by omega) (hs) (he.1) (he.2)), fun h5 => have q5 := bnot_t h5; have p5 := of_decide_eq_false q5; ?_, fun h5 => have q5 := bnot_f h5; have p5 := of_decide_eq_true q5; ?_⟩
  rw [v2] at p5
  rw [if_pos (by simpa using p5)] at v5
  refine ⟨(as_i64 (by omega) (by omega)), (congrArg S.tup (consE (congrArg V.c (congrArg (C.int .i64) ?_)) (consE (congrArg V.c (congrArg (C.int .i64) ?_)) rfl))), rfl⟩
  rotate_left 2
  rw [v2] at p5
  rw [if_neg (by simpa using p5)] at v5
  exact ⟨(as_i64 (by omega) (by omega)), nxt_of (j := (⟨(⟨(q1.f).plan, (faStep (q1.f).plan (q1.f).st x2)⟩ : Fmr), q1.v + 1⟩ : frameCode_i_V0)) (by first | rfl | simp) (by first | rfl | simp) (by dsimp only [frameCode_i_F0]; exact ⟨by simp only [List.length_drop] at *; omega, v2, by rw [v2]; exact hst.1, by rw [v2]; exact hst.2, by rw [v2, ← v5, show (((q1.v + 1 : Nat)) : Int) + 1 = (q1.v : Int) + 1 + 1 by omega]⟩) (by dsimp only [frameCode_i_F0]; omega)⟩
  rw [drop_end p4, faRun_nil] at v5
  rw [List.length_drop] at p4
  refine ⟨fun h5 => have q5 := bnot_t h5; ?_, fun h5 => have q5 := bnot_f h5; ?_⟩
  refine ⟨(congrArg S.tup (consE (congrArg V.c (congrArg (C.int .i64) ?_)) (consE (congrArg V.c (congrArg (C.int .i64) ?_)) rfl))), rfl⟩
  rotate_left 2
  refine ⟨(congrArg S.tup (consE (congrArg V.c (congrArg (C.int .i64) ?_)) (consE (congrArg V.c (congrArg (C.int .i64) ?_)) rfl))), rfl⟩
  rotate_left 2
  all_goals first | (rw [← v5]; done) | (rw [← v5, v2]; done) | (rw [← v5]; simp_all; done) | (rw [frameCode_plan (by simpa using h1)]; done) | (rw [frameCode_bad hx1 (by omega)]; done) | (rw [show l = [] from List.eq_nil_of_length_eq_zero (by omega)]; rfl) | (simp_all [List.length_drop]; omega) | (grind)
structure frameCode_s_V0 where
  r : Fs
  i : Nat
def frameCode_s_F0 (p : Pln) (l : List Ev) : Fam := ⟨frameCode_s_V0, fun q1 => [(1, .v (.c (.seq .ev l))), (2, .v (vP 0)), (6, .v (vP 1)), (7, .v (vI (q1.i : Int)))], fun q1 => [.cells (cPln p), .cells (oFs0 2 q1.r), .lst .int q1.r.stack], fun q1 => 1 ≤ q1.i ∧ q1.i ≤ l.length ∧ 1 ≤ List.length (q1.r).stack ∧ List.length (q1.r).stack ≤ 8 ∧ faRun p (absS q1.r) (List.drop q1.i l) (q1.i : Int) = frameCode p l ∧ utfOk (q1.r).utf = true, fun q1 => l.length - q1.i⟩

theorem frameCode_s (p : Pln) (l : List Ev) (hp1 : l.length ≤ bigN) (hp2 : ∀ e ∈ l, EvB e) : Fun Try.prog 52 [.agg (cPln p), .c (.seq .ev l)] [] (.tup [vI (frameCode p l).1, vI (frameCode p l).2]) [] := by
  have hN : bigN = 274877906944 := rfl
  refine fun_ofw Try.func52 (by kernel_rfl) (by kernel_rfl) (w := let z4 : List V := [vI (frameCode p l).1, vI (frameCode p l).2]; let z5 := (l.length : Int); let z6 := ([] : List Blk); let z7 := frameCode_s_F0 p l; let z8 := (.tup [vI 1, vI 0] : S); (.seg [.call [] (.v (vB (planOk p))) []] (.br (.leaf () []) (.br (.leaf () []) (.intro (fun (x1 : Ev) => l[0]? = some x1) fun x1 => .seg [.el .ev x1] (.br (.leaf () []) (.seg [.ty .int, .at 0, .keep [1, 2, 6, 7], .sel [0, 2, 1]] (.loop z7 fun q1 => .br (.intro (fun (x2 : Ev) => l[q1.i]? = some x2) fun x2 => .seg [.tree (fr (.one 6 (.first 7 (.done))) 0 6) 6 [], .el .ev x2, .call [1, 2] (.v (vI (faCode p (absS q1.r) x2))) [.cells (oFs0 2 (fsStep p q1.r x2)), .dead, .lst .int (fsStep p q1.r x2).stack]] (.br (.leaf () []) (.seg [.as 34 (.v (vI ((q1.i : Int) + 1))), .at 0, .keep [1, 2, 6, 7], .sel [0, 1, 3]] (.next)))) (.br (.leaf () []) (.leaf () [])))))))), (Fun Try.prog 39 [.agg (cPln p)] [] (.v (vB (planOk p))) []) ∧ ((!(planOk p)) = true → z8 = .tup z4 ∧ z6 = []) ∧ ((!(planOk p)) = false → ((decide (z5 = 0)) = true → z8 = .tup z4 ∧ z6 = []) ∧ ((decide (z5 = 0)) = false → (∃ (x1 : Ev), l[0]? = some x1) ∧ ∀ (x1 : Ev), (l[0]? = some x1) → ((l[0]? = some x1) ∧ ((0 : Int) ≤ 0) ∧ ((!decide (x1.kind = 1)) = true → z8 = .tup z4 ∧ z6 = []) ∧ ((!decide (x1.kind = 1)) = false → z7.Has [(1, .v (.c (.seq .ev l))), (2, .v (vP 0)), (6, .v (vP 1)), (7, .v (vI 1))] [.cells (cPln p), .cells [.own 2, .int .i64 0, .int .i64 0, .bool false, .bool false, .int .i64 0, .bool false, .int .i64 0, .int .i64 0, .int .i64 0, .bool false], .lst .int [p.root]] ∧ ∀ q1, z7.inv q1 → (let z3 := (q1.i : Int); ((decide (z3 < z5)) = true → (∃ (x2 : Ev), l[q1.i]? = some x2) ∧ ∀ (x2 : Ev), (l[q1.i]? = some x2) → (let z1 := fsStep p q1.r x2; let z2 := !decide (faCode p (absS q1.r) x2 = 0); (l[q1.i]? = some x2) ∧ ((0 : Int) ≤ z3) ∧ (l[q1.i]? = some x2) ∧ ((0 : Int) ≤ z3) ∧ (Fun Try.prog 93 [.agg (cPln p), vP 0, .agg (cEv x2)] [.cells (oFs0 1 q1.r), .lst .int q1.r.stack] (.v (vI (faCode p (absS q1.r) x2))) [.cells (oFs0 2 z1), .dead, .lst .int z1.stack]) ∧ (z2 = true → (.tup [vI (faCode p (absS q1.r) x2), vI z3] : S) = .tup z4 ∧ z6 = []) ∧ (z2 = false → ((.v (vI (IntKind.i64.wrap (z3 + 1))) : S) = .v (vI (z3 + 1))) ∧ z7.Nxt q1 [(1, .v (.c (.seq .ev l))), (2, .v (vP 0)), (6, .v (vP 1)), (7, .v (vI (z3 + 1)))] [.cells (cPln p), .cells (oFs0 2 z1), .lst .int z1.stack]))) ∧ ((decide (z3 < z5)) = false → ((!q1.r.ended) = true → (.tup [vI 7, vI z5] : S) = .tup z4 ∧ z6 = []) ∧ ((!q1.r.ended) = false → (.tup [vI 0, vI 0] : S) = .tup z4 ∧ z6 = []))))))))) (by kernel_rfl) ?_
  refine ⟨(planOk_s p), fun h1 => have q1 := bnot_t h1; ?_, fun h1 => have q1 := bnot_f h1; have p1 := planOk_t q1; ?_⟩
  refine ⟨(congrArg S.tup (consE (congrArg V.c (congrArg (C.int .i64) ?_)) (consE (congrArg V.c (congrArg (C.int .i64) ?_)) rfl))), rfl⟩
  rotate_left 2
  have hpl : planOk p = true := bnot_f h1
  have hpo := planOk_t hpl
  refine ⟨fun h2 => have p2 := of_decide_eq_true h2; ?_, fun h2 => have p2 := of_decide_eq_false h2; ?_⟩
  refine ⟨(congrArg S.tup (consE (congrArg V.c (congrArg (C.int .i64) ?_)) (consE (congrArg V.c (congrArg (C.int .i64) ?_)) rfl))), rfl⟩
  rotate_left 2
  refine ⟨(ax_get (l := l) (i := 0) (by omega)), fun x1 hx1 => ?_⟩
  refine ⟨hx1, (by decide), fun h3 => have q3 := bnot_t h3; have p3 := of_decide_eq_false q3; ?_, fun h3 => have q3 := bnot_f h3; have p3 := of_decide_eq_true q3; ?_⟩
  refine ⟨(congrArg S.tup (consE (congrArg V.c (congrArg (C.int .i64) ?_)) (consE (congrArg V.c (congrArg (C.int .i64) ?_)) rfl))), rfl⟩
  rotate_left 2
  refine ⟨has_of (j := (⟨(⟨[p.root], (⟨0, 0, false, false, 0⟩ : Fld), false, utf0, false⟩ : Fs), 1⟩ : frameCode_s_V0)) (by first | rfl | simp) (by first | rfl | simp) (by dsimp only [frameCode_s_F0]; exact ⟨by omega, by omega, by simp, by simp, (frameCode_cons hx1 hpl (by omega)).symm, by show utfOk utf0 = true; decide⟩), fun (q1 : frameCode_s_V0) hq_q1 => ?_⟩
  have hi_q1 : 1 ≤ q1.i ∧ q1.i ≤ l.length ∧ 1 ≤ List.length (q1.r).stack ∧ List.length (q1.r).stack ≤ 8 ∧ faRun p (absS q1.r) (List.drop q1.i l) (q1.i : Int) = frameCode p l ∧ utfOk (q1.r).utf = true := hq_q1
  obtain ⟨v1, v2, v3, v4, v5, v7⟩ := hi_q1
  refine ⟨fun h4 => have p4 := of_decide_eq_true h4; ?_, fun h4 => have p4 := of_decide_eq_false h4; ?_⟩
  refine ⟨(ax_get (l := l) (i := q1.i) (by omega)), fun x2 hx2 => ?_⟩
  have he := hp2 x2 (List.mem_of_getElem? hx2)
  have hst := faStep_stack (p := p) (a := absS q1.r) x2 v3 v4 (by omega)
  have hs : schemaOk p.shapes = true := hpo.2.1
  rw [drop_el hx2, faRun_cons] at v5
  refine ⟨hx2, (by omega), hx2, (by omega), (event_s p q1.r x2 (by omega) (by omega) (hs) (he.1) (he.2) (v7)), fun h5 => have q5 := bnot_t h5; have p5 := of_decide_eq_false q5; ?_, fun h5 => have q5 := bnot_f h5; have p5 := of_decide_eq_true q5; ?_⟩
  rw [if_pos (by simpa using p5)] at v5
  refine ⟨(congrArg S.tup (consE (congrArg V.c (congrArg (C.int .i64) ?_)) (consE (congrArg V.c (congrArg (C.int .i64) ?_)) rfl))), rfl⟩
  rotate_left 2
  rw [if_neg (by simpa using p5)] at v5
  exact ⟨(as_i64 (by omega) (by omega)), nxt_of (j := (⟨(fsStep p q1.r x2), q1.i + 1⟩ : frameCode_s_V0)) (by first | rfl | simp) rfl (by dsimp only [frameCode_s_F0]; exact ⟨by omega, by omega, by rw [fsStep_stack]; exact hst.1, by rw [fsStep_stack]; exact hst.2, by rw [absS_step, ← v5, show (((q1.i + 1 : Nat)) : Int) = (q1.i : Int) + 1 by omega], by rw [fsStep_utf]; exact faStep_utf v7⟩) (by dsimp only [frameCode_s_F0]; omega)⟩
  rw [drop_end p4, faRun_nil] at v5
  refine ⟨fun h5 => have q5 := bnot_t h5; ?_, fun h5 => have q5 := bnot_f h5; ?_⟩
  refine ⟨(congrArg S.tup (consE (congrArg V.c (congrArg (C.int .i64) ?_)) (consE (congrArg V.c (congrArg (C.int .i64) ?_)) rfl))), rfl⟩
  rotate_left 2
  refine ⟨(congrArg S.tup (consE (congrArg V.c (congrArg (C.int .i64) ?_)) (consE (congrArg V.c (congrArg (C.int .i64) ?_)) rfl))), rfl⟩
  rotate_left 2
  all_goals first | (rw [← v5]; done) | (rw [← v5]; simp_all [absS]; done) | (rw [frameCode_plan (by simpa using h1)]; done) | (rw [frameCode_bad hx1 (by omega)]; done) | (rw [show l = [] from List.eq_nil_of_length_eq_zero (by omega)]; rfl) | (simp_all [List.length_drop, absS]; omega) | (grind [absS])
end Go.Proofs.Ytecljjcmjongfaa.Ax
