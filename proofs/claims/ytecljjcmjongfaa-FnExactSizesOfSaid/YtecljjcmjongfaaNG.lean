/- Events as frames: the steps. -/
import Derived.Test.YtecljjcmjongfaaNF
namespace Go.Proofs.Ytecljjcmjongfaa.Ax
open Go.RowKit
set_option linter.unusedSimpArgs false
set_option linter.unusedVariables false
structure value_i_J1000002_V where
  isBytes : Bool
def value_i_J1000002_F (f : Fmr) (e : Ev) (x1 : Int) : Fam := ⟨value_i_J1000002_V, fun j1000002 => [(0, .v (vP 0)), (3, .v (vP 2)), (5, .v (vP 3)), (6, .v (vB (fieldAt f.plan.shapes x1 e.field).isSome)), (7, .v (vB j1000002.isBytes))], fun _ => [.cells (oFmr4 1 f), .lst .int f.st.stack, .cells (cEv e), .cells (cFld ((fieldAt f.plan.shapes x1 e.field).getD fld0))], fun j1000002 => j1000002.isBytes = isBytes ((fieldAt f.plan.shapes x1 e.field).getD fld0).kind, fun _ => 0⟩

theorem value_i (f : Fmr) (e : Ev) (hp1 : 1 ≤ List.length (f).st.stack) (hp2 : List.length (f).st.stack ≤ 1000) (hp3 : schemaOk (f).plan.shapes = true) (hp4 : List.length (e).text ≤ bigN) (hp5 : (0 : Int) ≤ (e).bits ∧ (e).bits ≤ 18446744073709551615) : Fun Try.prog 170 [vP 0, .agg (cEv e)] [.cells (oFmr4 1 f), .lst .int f.st.stack] (.v (vI (valCode (f).plan (f).st e))) [.cells [.seq .shp (f).plan.shapes, .int .i64 (f).plan.root, .int .i64 (f).plan.deep, .int .i64 (f).plan.most, .own 2, .bool (valStep (f).plan (f).st e).inText, .bool (valStep (f).plan (f).st e).isText, .int .i64 (valStep (f).plan (f).st e).utf.want, .int .i64 (valStep (f).plan (f).st e).utf.low, .int .i64 (valStep (f).plan (f).st e).utf.high, .bool (valStep (f).plan (f).st e).ended], .dead, .lst .int (valStep (f).plan (f).st e).stack] := by
  have hN : bigN = 274877906944 := rfl
  have hs6 := schemaOk_t hp3
  refine fun_ofw Try.func170 (by kernel_rfl) (by kernel_rfl) (w := let z12 := (f.st.stack.length : Int); let z13 := ([.cells (oFmr4 2 f), .dead, .lst .int f.st.stack] : List Blk); let z14 := vI (valCode (f).plan (f).st e); let z15 := decide (e.kind = 6); let z17 := decide (e.kind = 3); let z18 := decide (e.kind = 2); let z19 := valStep (f).plan (f).st e; let z11 : List Blk := [.cells [.seq .shp (f).plan.shapes, .int .i64 (f).plan.root, .int .i64 (f).plan.deep, .int .i64 (f).plan.most, .own 2, .bool z19.inText, .bool z19.isText, .int .i64 z19.utf.want, .int .i64 z19.utf.low, .int .i64 z19.utf.high, .bool z19.ended], .dead, .lst .int z19.stack]; let z20 := decide (f.plan.deep ≤ z12); let z16 := z20 = true → (.v (vI 6) : S) = .v z14 ∧ z13 = z11; let z21 := (.v (vI 0) : S); let z22 := (.v (vI (IntKind.i64.wrap (z12 - 1))) : S) = .v (vI (z12 - 1)); let z23 := z15 = false; let z24 := os 17 []; let z25 := os 16 [9, 12, 15]; let z26 := z15 = true; let z27 := z17 = false; let z28 := z18 = false; (.intro (fun (x1 : Int) => f.st.stack[Int.toNat (z12 - 1)]? = some x1) fun x1 => let z4 := fieldAt f.plan.shapes x1 e.field; let z3 := z4.getD fld0; .seg [.tree (fr (.two 19 (fr (.one 23 (.one 24 (.first 25 (.done)))) 20 3) 23 (.one 19 (fr (.one 24 (.first 25 (.done))) 20 3))) 0 19) 26 [], .as 23 (.v (vI (z12 - 1))), .el .int x1, .call [] (.tup [.agg (cFld z3), vB z4.isSome]) [], .at 0, .keep [0, 3, 5, 6], .sel [0, 1, 2, 3], .call [] (.tup [.agg (cFld z3), vB z4.isSome]) [], .at 0, .keep [0, 3, 5, 6], .sel [0, 1, 2, 3]] (.join 1000002 (value_i_J1000002_F f e x1) (.br (.seg [.at 0, .keep [0, 3, 5, 6, 7], .sel [0, 1, 2, 3]] (.next)) (.seg [.at 0, .keep [0, 3, 5, 6, 7], .sel [0, 1, 2, 3]] (.next))) fun j1000002 => .br (.seg [.at 0, .cut 0 4] (.leaf () [0, 1, 4])) (.br (.seg [.call [] (.v (vB (numeric z3.kind))) []] (.br (.seg [.at 0, .cut 0 4] (.leaf () [0, 1, 4])) (.br (.br (.seg [.at 0, .cut 0 4] (.leaf () [0, 1, 4])) (.br (.br (.seg [.at 0, .cut 0 4] (.leaf () [0, 1, 4])) (.seg [.br true, .call [] (.v (vB (bitsFit z3.kind e.bits))) []] (.br (.seg [.at 0, .cut 0 4] (.leaf () [0, 1, 4])) (.seg [.ord z24 [], .br true] (.br (.seg [.at 0, .cut 0 4] (.leaf () [0, 1, 4])) (.seg [.br true, .ord z25 [0], .at 0, .cut 0 4] (.leaf () [0, 1, 4]))))))) (.seg [.br true, .call [] (.v (vB (bitsFit z3.kind e.bits))) []] (.br (.seg [.at 0, .cut 0 4] (.leaf () [0, 1, 4])) (.seg [.ord z24 [], .br false, .br true, .ord z25 [0], .at 0, .cut 0 4] (.leaf () [0, 1, 4])))))) (.br (.br (.seg [.at 0, .cut 0 4] (.leaf () [0, 1, 4])) (.seg [.br true, .call [] (.v (vB (bitsFit z3.kind e.bits))) []] (.br (.seg [.at 0, .cut 0 4] (.leaf () [0, 1, 4])) (.seg [.ord z24 [], .br true] (.br (.seg [.at 0, .cut 0 4] (.leaf () [0, 1, 4])) (.seg [.br false, .br true, .ord (os 12 [7, 8, 11]) [1], .ty .int, .ty .int] (.leaf () [0, 1, 5]))))))) (.seg [.br true, .call [] (.v (vB (bitsFit z3.kind e.bits))) []] (.br (.seg [.at 0, .cut 0 4] (.leaf () [0, 1, 4])) (.seg [.ord z24 [], .br false, .br false, .br false, .at 0, .cut 0 4] (.leaf () [0, 1, 4])))))))) (.br (.br (.seg [.at 0, .cut 0 4] (.leaf () [0, 1, 4])) (.br (.br (.seg [.at 0, .cut 0 4] (.leaf () [0, 1, 4])) (.seg [.br false, .ord z24 [], .br true] (.br (.seg [.at 0, .cut 0 4] (.leaf () [0, 1, 4])) (.seg [.br true, .ord z25 [0], .at 0, .cut 0 4] (.leaf () [0, 1, 4]))))) (.seg [.br false, .ord z24 [], .br false, .br true, .ord z25 [0], .at 0, .cut 0 4] (.leaf () [0, 1, 4])))) (.br (.br (.seg [.at 0, .cut 0 4] (.leaf () [0, 1, 4])) (.seg [.br false, .ord z24 [], .br true] (.br (.seg [.at 0, .cut 0 4] (.leaf () [0, 1, 4])) (.seg [.br false, .br true, .ord (os 12 [7, 8, 11]) [1], .ty .int, .ty .int] (.leaf () [0, 1, 5]))))) (.seg [.br false, .ord z24 [], .br false, .br false, .br false, .at 0, .cut 0 4] (.leaf () [0, 1, 4])))))), (∃ (x1 : Int), f.st.stack[Int.toNat (z12 - 1)]? = some x1) ∧ ∀ (x1 : Int), (f.st.stack[Int.toNat (z12 - 1)]? = some x1) → (let z8 := fieldAt f.plan.shapes x1 e.field; let z7 := z8.getD fld0; let z5 := (!(bitsFit z7.kind e.bits)) = true → (.v (vI 4) : S) = .v z14 ∧ z13 = z11; let z6 := (!decide (z7.kind = 8)) = true → (.v (vI 2) : S) = .v z14 ∧ z13 = z11; let z9 := f.st.stack[Int.toNat (z12 - 1)]? = some x1; let z10 := value_i_J1000002_F f e x1; z22 ∧ z22 ∧ (z12 - 1 < z12) ∧ ((0 : Int) ≤ z12 - 1) ∧ (z12 - 1 < z12) ∧ ((0 : Int) ≤ z12 - 1) ∧ z9 ∧ z9 ∧ (Fun Try.prog 87 [.agg [.seq .shp f.plan.shapes], vI x1, vI e.field] [] (.tup [.agg (cFld z7), vB z8.isSome]) []) ∧ (Fun Try.prog 87 [.agg [.seq .shp f.plan.shapes], vI x1, vI e.field] [] (.tup [.agg (cFld z7), vB z8.isSome]) []) ∧ (([.cells (oFmr4 1 f), .lst .int f.st.stack, .cells (cEv e), .cells (cFld z7)] : List Blk) = [.cells (oFmr4 1 f), .lst .int f.st.stack, .cells (cEv e), .cells (cFld z7)]) ∧ (([(0, .v (vP 0)), (3, .v (vP 2)), (5, .v (vP 3)), (6, .v (vB z8.isSome))] : List (Nat × S)) = [(0, .v (vP 0)), (3, .v (vP 2)), (5, .v (vP 3)), (6, .v (vB z8.isSome))]) ∧ (((decide (z7.kind = 6)) = true → z10.Has [(0, .v (vP 0)), (3, .v (vP 2)), (5, .v (vP 3)), (6, .v (vB z8.isSome)), (7, .v (vB true))] [.cells (oFmr4 1 f), .lst .int f.st.stack, .cells (cEv e), .cells (cFld z7)]) ∧ ((decide (z7.kind = 6)) = false → z10.Has [(0, .v (vP 0)), (3, .v (vP 2)), (5, .v (vP 3)), (6, .v (vB z8.isSome)), (7, .v (vB (decide (z7.kind = 7))))] [.cells (oFmr4 1 f), .lst .int f.st.stack, .cells (cEv e), .cells (cFld z7)])) ∧ ∀ j1000002, z10.inv j1000002 → (let z2 := !j1000002.isBytes; let z1 := z2 = true → (.v (vI 2) : S) = .v z14 ∧ z13 = z11; ((!z8.isSome) = true → (.v (vI 3) : S) = .v z14 ∧ z13 = z11) ∧ ((!z8.isSome) = false → (z18 = true → (Fun Try.prog 133 [vI z7.kind] [] (.v (vB (numeric z7.kind))) []) ∧ ((!(numeric z7.kind)) = true → (.v (vI 2) : S) = .v z14 ∧ z13 = z11) ∧ ((!(numeric z7.kind)) = false → (z17 = true → z1 ∧ (z2 = false → (z15 = true → z6 ∧ ((!decide (z7.kind = 8)) = false → (z18 = true) ∧ (Fun Try.prog 180 [vI z7.kind, .c (.int .u64 e.bits)] [] (.v (vB (bitsFit z7.kind e.bits))) []) ∧ z5 ∧ ((!(bitsFit z7.kind e.bits)) = false → z26 ∧ z16 ∧ (z20 = false → (z17 = true) ∧ z21 = .v z14 ∧ ([.cells [.seq .shp f.plan.shapes, .int .i64 f.plan.root, .int .i64 f.plan.deep, .int .i64 f.plan.most, .own 2, .bool true, .bool (decide (z7.kind = 6)), .int .i64 0, .int .i64 0, .int .i64 0, .bool f.st.ended], .dead, .lst .int f.st.stack] : List Blk) = z11)))) ∧ (z15 = false → (z18 = true) ∧ (Fun Try.prog 180 [vI z7.kind, .c (.int .u64 e.bits)] [] (.v (vB (bitsFit z7.kind e.bits))) []) ∧ z5 ∧ ((!(bitsFit z7.kind e.bits)) = false → z23 ∧ (z17 = true) ∧ z21 = .v z14 ∧ ([.cells [.seq .shp f.plan.shapes, .int .i64 f.plan.root, .int .i64 f.plan.deep, .int .i64 f.plan.most, .own 2, .bool true, .bool (decide (z7.kind = 6)), .int .i64 0, .int .i64 0, .int .i64 0, .bool f.st.ended], .dead, .lst .int f.st.stack] : List Blk) = z11)))) ∧ (z17 = false → (z15 = true → z6 ∧ ((!decide (z7.kind = 8)) = false → (z18 = true) ∧ (Fun Try.prog 180 [vI z7.kind, .c (.int .u64 e.bits)] [] (.v (vB (bitsFit z7.kind e.bits))) []) ∧ z5 ∧ ((!(bitsFit z7.kind e.bits)) = false → z26 ∧ z16 ∧ (z20 = false → z27 ∧ z26 ∧ (f.st.stack.length + List.length [z7.msg] ≤ bigN) ∧ z21 = .v z14 ∧ ([.cells (oFmr4 2 f), .dead, .lst .int (f.st.stack ++ [z7.msg])] : List Blk) = z11)))) ∧ (z15 = false → (z18 = true) ∧ (Fun Try.prog 180 [vI z7.kind, .c (.int .u64 e.bits)] [] (.v (vB (bitsFit z7.kind e.bits))) []) ∧ z5 ∧ ((!(bitsFit z7.kind e.bits)) = false → z23 ∧ z27 ∧ z23 ∧ z21 = .v z14 ∧ z13 = z11))))) ∧ (z18 = false → (z17 = true → z1 ∧ (z2 = false → (z15 = true → z6 ∧ ((!decide (z7.kind = 8)) = false → z28 ∧ z26 ∧ z16 ∧ (z20 = false → (z17 = true) ∧ z21 = .v z14 ∧ ([.cells [.seq .shp f.plan.shapes, .int .i64 f.plan.root, .int .i64 f.plan.deep, .int .i64 f.plan.most, .own 2, .bool true, .bool (decide (z7.kind = 6)), .int .i64 0, .int .i64 0, .int .i64 0, .bool f.st.ended], .dead, .lst .int f.st.stack] : List Blk) = z11))) ∧ (z15 = false → z28 ∧ z23 ∧ (z17 = true) ∧ z21 = .v z14 ∧ ([.cells [.seq .shp f.plan.shapes, .int .i64 f.plan.root, .int .i64 f.plan.deep, .int .i64 f.plan.most, .own 2, .bool true, .bool (decide (z7.kind = 6)), .int .i64 0, .int .i64 0, .int .i64 0, .bool f.st.ended], .dead, .lst .int f.st.stack] : List Blk) = z11))) ∧ (z17 = false → (z15 = true → z6 ∧ ((!decide (z7.kind = 8)) = false → z28 ∧ z26 ∧ z16 ∧ (z20 = false → z27 ∧ z26 ∧ (f.st.stack.length + List.length [z7.msg] ≤ bigN) ∧ z21 = .v z14 ∧ ([.cells (oFmr4 2 f), .dead, .lst .int (f.st.stack ++ [z7.msg])] : List Blk) = z11))) ∧ (z15 = false → z28 ∧ z23 ∧ z27 ∧ z23 ∧ z21 = .v z14 ∧ z13 = z11)))))))) (by kernel_rfl) ?_
  refine ⟨(ax_get (l := f.st.stack) (i := Int.toNat ((f.st.stack.length : Int) - 1)) (by omega)), fun x1 hx1 => ?_⟩
  have hlast : lastD f.st.stack = x1 := by unfold lastD; exact getD_of (by rw [← hx1]; congr 1; omega)
  have hown : faOwn f.plan f.st e = (fieldAt f.plan.shapes x1 e.field) := by unfold faOwn; rw [hlast]
  refine ⟨(as_i64 (by omega) (by omega)), (as_i64 (by omega) (by omega)), (by omega), (by omega), (by omega), (by omega), hx1, hx1, (fieldAt_i f.plan.shapes _ _ (by omega) (schemaOk_fields hp3)), (fieldAt_i f.plan.shapes _ _ (by omega) (schemaOk_fields hp3)), rfl, rfl, ?_, fun (j1000002 : value_i_J1000002_V) hq_j1000002 => ?_⟩
  refine ⟨fun h2 => have p2 := of_decide_eq_true h2; ?_, fun h2 => have p2 := of_decide_eq_false h2; ?_⟩
  exact has_of (j := (⟨true⟩ : value_i_J1000002_V)) rfl rfl (by dsimp only [value_i_J1000002_F]; simp_all [isBytes])
  exact has_of (j := (⟨decide (((fieldAt f.plan.shapes x1 e.field).getD fld0).kind = 7)⟩ : value_i_J1000002_V)) rfl rfl (by dsimp only [value_i_J1000002_F]; simp_all [isBytes])
  have hi_j1000002 : j1000002.isBytes = isBytes ((fieldAt f.plan.shapes x1 e.field).getD fld0).kind := hq_j1000002
  refine ⟨fun h2 => have q2 := bnot_t h2; ?_, fun h2 => have q2 := bnot_f h2; ?_⟩
  have ho : (fieldAt f.plan.shapes x1 e.field) = none := by simpa using q2
  have hg : (fieldAt f.plan.shapes x1 e.field).getD fld0 = fld0 := by rw [ho]; rfl
  have hvc := valCode_none (hown.trans ho)
  have hvs := valStep_none (hown.trans ho)
  refine have hm1 : valStep (f).plan (f).st e = f.st := ?_; ?_
  rotate_left
  refine ⟨(sI ?_), (by rw [hm1] <;> rfl)⟩
  rotate_left
  obtain ⟨o, ho⟩ := Option.isSome_iff_exists.1 q2
  have hg : (fieldAt f.plan.shapes x1 e.field).getD fld0 = o := by rw [ho]; rfl
  have hvc := valCode_some (hown.trans ho)
  have hvs := valStep_some (hown.trans ho)
  have hB : isBytes o.kind = j1000002.isBytes := by rw [← hg]; exact hi_j1000002.symm
  refine ⟨fun h3 => have p3 := of_decide_eq_true h3; ?_, fun h3 => have p3 := of_decide_eq_false h3; ?_⟩
  refine ⟨(numeric_i _), fun h4 => have q4 := bnot_t h4; have p4 := within_f q4; ?_, fun h4 => have q4 := bnot_f h4; have p4 := within_t q4; ?_⟩
  refine have hm1 : valStep (f).plan (f).st e = f.st := ?_; ?_
  rotate_left
  refine ⟨(sI ?_), (by rw [hm1] <;> rfl)⟩
  rotate_left
  refine ⟨fun h5 => have p5 := of_decide_eq_true h5; ?_, fun h5 => have p5 := of_decide_eq_false h5; ?_⟩
  refine ⟨fun h6 => have q6 := bnot_t h6; ?_, fun h6 => have q6 := bnot_f h6; ?_⟩
  refine have hm1 : valStep (f).plan (f).st e = f.st := ?_; ?_
  rotate_left
  refine ⟨(sI ?_), (by rw [hm1] <;> rfl)⟩
  rotate_left
  refine ⟨fun h7 => have p7 := of_decide_eq_true h7; ?_, fun h7 => have p7 := of_decide_eq_false h7; ?_⟩
  refine ⟨fun h8 => have q8 := bnot_t h8; have p8 := of_decide_eq_false q8; ?_, fun h8 => have q8 := bnot_f h8; have p8 := of_decide_eq_true q8; ?_⟩
  refine have hm1 : valStep (f).plan (f).st e = f.st := ?_; ?_
  rotate_left
  refine ⟨(sI ?_), (by rw [hm1] <;> rfl)⟩
  rotate_left
  refine ⟨h3, (bitsFit_i _ _ (by omega)), fun h9 => have q9 := bnot_t h9; ?_, fun h9 => have q9 := bnot_f h9; ?_⟩
  refine have hm1 : valStep (f).plan (f).st e = f.st := ?_; ?_
  rotate_left
  refine ⟨(sI ?_), (by rw [hm1] <;> rfl)⟩
  rotate_left
  refine ⟨h7, fun h10 => have p10 := of_decide_eq_true h10; ?_, fun h10 => have p10 := of_decide_eq_false h10; ?_⟩
  refine have hm1 : valStep (f).plan (f).st e = f.st := ?_; ?_
  rotate_left
  refine ⟨(sI ?_), (by rw [hm1] <;> rfl)⟩
  rotate_left
  refine ⟨h5, ?_⟩
  refine have hm1 : valStep (f).plan (f).st e = (⟨f.st.stack, true, decide (((fieldAt f.plan.shapes x1 e.field).getD fld0).kind = 6), utf0, f.st.ended⟩ : Fa) := ?_; ?_
  rotate_left
  refine ⟨(sI ?_), (by rw [hm1] <;> rfl)⟩
  rotate_left
  refine ⟨h3, (bitsFit_i _ _ (by omega)), fun h8 => have q8 := bnot_t h8; ?_, fun h8 => have q8 := bnot_f h8; ?_⟩
  refine have hm1 : valStep (f).plan (f).st e = f.st := ?_; ?_
  rotate_left
  refine ⟨(sI ?_), (by rw [hm1] <;> rfl)⟩
  rotate_left
  refine ⟨h7, h5, ?_⟩
  refine have hm1 : valStep (f).plan (f).st e = (⟨f.st.stack, true, decide (((fieldAt f.plan.shapes x1 e.field).getD fld0).kind = 6), utf0, f.st.ended⟩ : Fa) := ?_; ?_
  rotate_left
  refine ⟨(sI ?_), (by rw [hm1] <;> rfl)⟩
  rotate_left
  refine ⟨fun h6 => have p6 := of_decide_eq_true h6; ?_, fun h6 => have p6 := of_decide_eq_false h6; ?_⟩
  refine ⟨fun h7 => have q7 := bnot_t h7; have p7 := of_decide_eq_false q7; ?_, fun h7 => have q7 := bnot_f h7; have p7 := of_decide_eq_true q7; ?_⟩
  refine have hm1 : valStep (f).plan (f).st e = f.st := ?_; ?_
  rotate_left
  refine ⟨(sI ?_), (by rw [hm1] <;> rfl)⟩
  rotate_left
  refine ⟨h3, (bitsFit_i _ _ (by omega)), fun h8 => have q8 := bnot_t h8; ?_, fun h8 => have q8 := bnot_f h8; ?_⟩
  refine have hm1 : valStep (f).plan (f).st e = f.st := ?_; ?_
  rotate_left
  refine ⟨(sI ?_), (by rw [hm1] <;> rfl)⟩
  rotate_left
  refine ⟨h6, fun h9 => have p9 := of_decide_eq_true h9; ?_, fun h9 => have p9 := of_decide_eq_false h9; ?_⟩
  refine have hm1 : valStep (f).plan (f).st e = f.st := ?_; ?_
  rotate_left
  refine ⟨(sI ?_), (by rw [hm1] <;> rfl)⟩
  rotate_left
  refine ⟨h5, h6, (by simp only [List.length_cons, List.length_nil]; omega), ?_⟩
  refine have hm1 : valStep (f).plan (f).st e = (⟨f.st.stack ++ [((fieldAt f.plan.shapes x1 e.field).getD fld0).msg], f.st.inText, f.st.isText, f.st.utf, f.st.ended⟩ : Fa) := ?_; ?_
  rotate_left
  refine ⟨(sI ?_), (by rw [hm1] <;> rfl)⟩
  rotate_left
  refine ⟨h3, (bitsFit_i _ _ (by omega)), fun h7 => have q7 := bnot_t h7; ?_, fun h7 => have q7 := bnot_f h7; ?_⟩
  refine have hm1 : valStep (f).plan (f).st e = f.st := ?_; ?_
  rotate_left
  refine ⟨(sI ?_), (by rw [hm1] <;> rfl)⟩
  rotate_left
  refine ⟨h6, h5, h6, ?_⟩
  refine have hm1 : valStep (f).plan (f).st e = f.st := ?_; ?_
  rotate_left
  refine ⟨(sI ?_), (by rw [hm1] <;> rfl)⟩
  rotate_left
  refine ⟨fun h4 => have p4 := of_decide_eq_true h4; ?_, fun h4 => have p4 := of_decide_eq_false h4; ?_⟩
  refine ⟨fun h5 => have q5 := bnot_t h5; ?_, fun h5 => have q5 := bnot_f h5; ?_⟩
  refine have hm1 : valStep (f).plan (f).st e = f.st := ?_; ?_
  rotate_left
  refine ⟨(sI ?_), (by rw [hm1] <;> rfl)⟩
  rotate_left
  refine ⟨fun h6 => have p6 := of_decide_eq_true h6; ?_, fun h6 => have p6 := of_decide_eq_false h6; ?_⟩
  refine ⟨fun h7 => have q7 := bnot_t h7; have p7 := of_decide_eq_false q7; ?_, fun h7 => have q7 := bnot_f h7; have p7 := of_decide_eq_true q7; ?_⟩
  refine have hm1 : valStep (f).plan (f).st e = f.st := ?_; ?_
  rotate_left
  refine ⟨(sI ?_), (by rw [hm1] <;> rfl)⟩
  rotate_left
  refine ⟨h3, h6, fun h8 => have p8 := of_decide_eq_true h8; ?_, fun h8 => have p8 := of_decide_eq_false h8; ?_⟩
  refine have hm1 : valStep (f).plan (f).st e = f.st := ?_; ?_
  rotate_left
  refine ⟨(sI ?_), (by rw [hm1] <;> rfl)⟩
  rotate_left
  refine ⟨h4, ?_⟩
  refine have hm1 : valStep (f).plan (f).st e = (⟨f.st.stack, true, decide (((fieldAt f.plan.shapes x1 e.field).getD fld0).kind = 6), utf0, f.st.ended⟩ : Fa) := ?_; ?_
  rotate_left
  refine ⟨(sI ?_), (by rw [hm1] <;> rfl)⟩
  rotate_left
  refine ⟨h3, h6, h4, ?_⟩
  refine have hm1 : valStep (f).plan (f).st e = (⟨f.st.stack, true, decide (((fieldAt f.plan.shapes x1 e.field).getD fld0).kind = 6), utf0, f.st.ended⟩ : Fa) := ?_; ?_
  rotate_left
  refine ⟨(sI ?_), (by rw [hm1] <;> rfl)⟩
  rotate_left
  refine ⟨fun h5 => have p5 := of_decide_eq_true h5; ?_, fun h5 => have p5 := of_decide_eq_false h5; ?_⟩
  refine ⟨fun h6 => have q6 := bnot_t h6; have p6 := of_decide_eq_false q6; ?_, fun h6 => have q6 := bnot_f h6; have p6 := of_decide_eq_true q6; ?_⟩
  refine have hm1 : valStep (f).plan (f).st e = f.st := ?_; ?_
  rotate_left
  refine ⟨(sI ?_), (by rw [hm1] <;> rfl)⟩
  rotate_left
  refine ⟨h3, h5, fun h7 => have p7 := of_decide_eq_true h7; ?_, fun h7 => have p7 := of_decide_eq_false h7; ?_⟩
  refine have hm1 : valStep (f).plan (f).st e = f.st := ?_; ?_
  rotate_left
  refine ⟨(sI ?_), (by rw [hm1] <;> rfl)⟩
  rotate_left
  refine ⟨h4, h5, (by simp only [List.length_cons, List.length_nil]; omega), ?_⟩
  refine have hm1 : valStep (f).plan (f).st e = (⟨f.st.stack ++ [((fieldAt f.plan.shapes x1 e.field).getD fld0).msg], f.st.inText, f.st.isText, f.st.utf, f.st.ended⟩ : Fa) := ?_; ?_
  rotate_left
  refine ⟨(sI ?_), (by rw [hm1] <;> rfl)⟩
  rotate_left
  refine ⟨h3, h5, h4, h5, ?_⟩
  refine have hm1 : valStep (f).plan (f).st e = f.st := ?_; ?_
  rotate_left
  refine ⟨(sI ?_), (by rw [hm1] <;> rfl)⟩
  rotate_left
  all_goals first | (rw [hvs, hvc, hB]; simp_all [utf0]; done) | (rw [hvc, hB]; simp_all; done) | (rw [hvs, hvc]; simp_all [isBytes, utf0]; done) | (rw [hvc]; simp_all [isBytes, utf0]; done) | (rw [hvs]; done) | (rw [hvc]; done) | (grind (splits := 25) [isBytes, fld0])
theorem part_i (f : Fmr) (e : Ev) (hp1 : List.length (e).text ≤ bigN) : Fun Try.prog 169 [vP 0, .agg (cEv e)] [.cells (oFmr4 1 f), .lst .int f.st.stack] (.v (vI (partCode (f).st e))) [.cells [.seq .shp (f).plan.shapes, .int .i64 (f).plan.root, .int .i64 (f).plan.deep, .int .i64 (f).plan.most, .own 1, .bool (partStep (f).st e).inText, .bool (partStep (f).st e).isText, .int .i64 (partStep (f).st e).utf.want, .int .i64 (partStep (f).st e).utf.low, .int .i64 (partStep (f).st e).utf.high, .bool (partStep (f).st e).ended], .lst .int (partStep (f).st e).stack] := by
  have hN : bigN = 274877906944 := rfl
  refine fun_ofw Try.func169 (by kernel_rfl) (by kernel_rfl) (w := let z2 := ([.cells [.seq .shp f.plan.shapes, .int .i64 f.plan.root, .int .i64 f.plan.deep, .int .i64 f.plan.most, .own 1, .bool false, .bool f.st.isText, .int .i64 f.st.utf.want, .int .i64 f.st.utf.low, .int .i64 f.st.utf.high, .bool f.st.ended], .lst .int f.st.stack] : List Blk); let z3 := utfSt f.st.utf e.text; let z4 := ([.cells (oFmr4 1 f), .lst .int f.st.stack] : List Blk); let z5 := vI (partCode (f).st e); let z6 := utfBad f.st.utf e.text; let z7 := partStep (f).st e; let z1 : List Blk := [.cells [.seq .shp (f).plan.shapes, .int .i64 (f).plan.root, .int .i64 (f).plan.deep, .int .i64 (f).plan.most, .own 1, .bool z7.inText, .bool z7.isText, .int .i64 z7.utf.want, .int .i64 z7.utf.low, .int .i64 z7.utf.high, .bool z7.ended], .lst .int z7.stack]; let z8 := !(decide (f.st.utf.want = 0) && (decide (f.st.utf.low = 0) && decide (f.st.utf.high = 0))); let z9 : List Blk := [.cells (oFmr4 1 f), .lst .int f.st.stack, .cells (cUtf z3)]; let z10 := (.v (vI 0) : S); let z11 := decide (0 ≤ utfBad f.st.utf e.text); (.br (.br (.seg [.tree (fr (.two 6 (fr (.one 10 (.one 11 (.first 12 (.done)))) 7 3) 10 (.one 6 (fr (.one 11 (.first 12 (.done))) 7 3))) 0 6) 13 [], .call [] (.tup [.agg (cUtf z3), vI z6]) [], .at 0, .keep [0, 5, 6], .sel [0, 1, 3], .call [] (.tup [.agg (cUtf z3), vI z6]) [], .at 0, .keep [0, 5, 6], .sel [0, 1, 3]] (.br (.leaf () [0, 1]) (.leaf () [0, 1]))) (.leaf () [0, 1])) (.br (.br (.br (.leaf () [0, 1]) (.leaf () [0, 1])) (.leaf () [0, 1])) (.leaf () [0, 1])), ((decide (e.kind = 4)) = true → (f.st.isText = true → (Fun Try.prog 163 [.agg (cUtf f.st.utf), vT e.text] [] (.tup [.agg (cUtf z3), vI z6]) []) ∧ (Fun Try.prog 163 [.agg (cUtf f.st.utf), vT e.text] [] (.tup [.agg (cUtf z3), vI z6]) []) ∧ ((z9 : List Blk) = z9) ∧ (([(0, .v (vP 0)), (5, .v (vP 2)), (6, .v (vI z6))] : List (Nat × S)) = [(0, .v (vP 0)), (5, .v (vP 2)), (6, .v (vI z6))]) ∧ (z11 = true → (.v (vI 5) : S) = .v z5 ∧ z4 = z1) ∧ (z11 = false → z10 = .v z5 ∧ ([.cells [.seq .shp f.plan.shapes, .int .i64 f.plan.root, .int .i64 f.plan.deep, .int .i64 f.plan.most, .own 1, .bool f.st.inText, .bool f.st.isText, .int .i64 z3.want, .int .i64 z3.low, .int .i64 z3.high, .bool f.st.ended], .lst .int f.st.stack] : List Blk) = z1)) ∧ (f.st.isText = false → z10 = .v z5 ∧ z4 = z1)) ∧ ((decide (e.kind = 4)) = false → ((decide (e.kind = 5)) = true → (f.st.isText = true → (z8 = true → (.v (vI 5) : S) = .v z5 ∧ z4 = z1) ∧ (z8 = false → z10 = .v z5 ∧ z2 = z1)) ∧ (f.st.isText = false → z10 = .v z5 ∧ z2 = z1)) ∧ ((decide (e.kind = 5)) = false → (.v (vI 2) : S) = .v z5 ∧ z4 = z1)))) (by kernel_rfl) ?_
  refine ⟨fun h1 => have p1 := of_decide_eq_true h1; ?_, fun h1 => have p1 := of_decide_eq_false h1; ?_⟩
  refine ⟨fun h2 => ?_, fun h2 => ?_⟩
  refine ⟨(utfText_i f.st.utf _ (by omega)), (utfText_i f.st.utf _ (by omega)), rfl, rfl, fun h3 => have p3 := of_decide_eq_true h3; ?_, fun h3 => have p3 := of_decide_eq_false h3; ?_⟩
  refine have hm1 : partStep (f).st e = f.st := ?_; ?_
  rotate_left
  refine ⟨(sI ?_), (by rw [hm1] <;> rfl)⟩
  rotate_left
  refine have hm1 : partStep (f).st e = (⟨f.st.stack, f.st.inText, f.st.isText, (utfSt f.st.utf e.text), f.st.ended⟩ : Fa) := ?_; ?_
  rotate_left
  refine ⟨(sI ?_), (by rw [hm1] <;> rfl)⟩
  rotate_left
  refine have hm1 : partStep (f).st e = f.st := ?_; ?_
  rotate_left
  refine ⟨(sI ?_), (by rw [hm1] <;> rfl)⟩
  rotate_left
  refine ⟨fun h2 => have p2 := of_decide_eq_true h2; ?_, fun h2 => have p2 := of_decide_eq_false h2; ?_⟩
  refine ⟨fun h3 => ?_, fun h3 => ?_⟩
  refine ⟨fun h4 => have q4 := bnot_t h4; have p4 := (andF dT (andF dT dF)).1 q4; ?_, fun h4 => have q4 := bnot_f h4; have p4 := (andT dT (andT dT dT)).1 q4; ?_⟩
  have hu : f.st.utf ≠ utf0 := utf_ne (by simpa using q4)
  refine have hm1 : partStep (f).st e = f.st := ?_; ?_
  rotate_left
  refine ⟨(sI ?_), (by rw [hm1] <;> rfl)⟩
  rotate_left
  have hu : f.st.utf = utf0 := utf_eq (by simpa using q4)
  refine have hm1 : partStep (f).st e = (⟨f.st.stack, false, f.st.isText, f.st.utf, f.st.ended⟩ : Fa) := ?_; ?_
  rotate_left
  refine ⟨(sI ?_), (by rw [hm1] <;> rfl)⟩
  rotate_left
  refine have hm1 : partStep (f).st e = (⟨f.st.stack, false, f.st.isText, f.st.utf, f.st.ended⟩ : Fa) := ?_; ?_
  rotate_left
  refine ⟨(sI ?_), (by rw [hm1] <;> rfl)⟩
  rotate_left
  refine have hm1 : partStep (f).st e = f.st := ?_; ?_
  rotate_left
  refine ⟨(sI ?_), (by rw [hm1] <;> rfl)⟩
  rotate_left
  all_goals first | (simp_all [partStep, partCode]; done) | (grind [partStep, partCode])
theorem next_i (f : Fmr) (e : Ev) (hp1 : 1 ≤ List.length (f).st.stack) (hp2 : List.length (f).st.stack ≤ 1000) (hp3 : schemaOk (f).plan.shapes = true) (hp4 : List.length (e).text ≤ bigN) (hp5 : (0 : Int) ≤ (e).bits ∧ (e).bits ≤ 18446744073709551615) : Fun Try.prog 143 [vP 0, .agg (cEv e)] [.cells (oFmr4 1 f), .lst .int f.st.stack] (.v (vI (faCode (f).plan (f).st e))) [.cells [.seq .shp (f).plan.shapes, .int .i64 (f).plan.root, .int .i64 (f).plan.deep, .int .i64 (f).plan.most, .own 2, .bool (faStep (f).plan (f).st e).inText, .bool (faStep (f).plan (f).st e).isText, .int .i64 (faStep (f).plan (f).st e).utf.want, .int .i64 (faStep (f).plan (f).st e).utf.low, .int .i64 (faStep (f).plan (f).st e).utf.high, .bool (faStep (f).plan (f).st e).ended], .dead, .lst .int (faStep (f).plan (f).st e).stack] := by
  have hN : bigN = 274877906944 := rfl
  refine fun_ofw Try.func143 (by kernel_rfl) (by kernel_rfl) (w := let z4 := (f.st.stack.length : Int); let z6 := partStep (f).st e; let z5 : List Blk := [.cells [.seq .shp (f).plan.shapes, .int .i64 (f).plan.root, .int .i64 (f).plan.deep, .int .i64 (f).plan.most, .own 1, .bool z6.inText, .bool z6.isText, .int .i64 z6.utf.want, .int .i64 z6.utf.low, .int .i64 z6.utf.high, .bool z6.ended], .lst .int z6.stack]; let z7 := vI (faCode (f).plan (f).st e); let z8 := ([.cells (oFmr4 2 f), .dead, .lst .int f.st.stack] : List Blk); let z9 := valStep (f).plan (f).st e; let z2 : List Blk := [.cells [.seq .shp (f).plan.shapes, .int .i64 (f).plan.root, .int .i64 (f).plan.deep, .int .i64 (f).plan.most, .own 2, .bool z9.inText, .bool z9.isText, .int .i64 z9.utf.want, .int .i64 z9.utf.low, .int .i64 z9.utf.high, .bool z9.ended], .dead, .lst .int z9.stack]; let z10 := faStep (f).plan (f).st e; let z1 : List Blk := [.cells [.seq .shp (f).plan.shapes, .int .i64 (f).plan.root, .int .i64 (f).plan.deep, .int .i64 (f).plan.most, .own 2, .bool z10.inText, .bool z10.isText, .int .i64 z10.utf.want, .int .i64 z10.utf.low, .int .i64 z10.utf.high, .bool z10.ended], .dead, .lst .int z10.stack]; let z3 := (decide (e.kind = 8)) = true → ((decide (z4 = 1)) = true → (.v (vI 0) : S) = .v z7 ∧ ([.cells [.seq .shp f.plan.shapes, .int .i64 f.plan.root, .int .i64 f.plan.deep, .int .i64 f.plan.most, .own 2, .bool f.st.inText, .bool f.st.isText, .int .i64 f.st.utf.want, .int .i64 f.st.utf.low, .int .i64 f.st.utf.high, .bool true], .dead, .lst .int f.st.stack] : List Blk) = z1) ∧ ((decide (z4 = 1)) = false → (.v (vI 2) : S) = .v z7 ∧ z8 = z1); let z11 := (decide (e.kind = 8)) = false → (.v (vI 2) : S) = .v z7 ∧ z8 = z1; let z12 := (.v (vI (IntKind.i64.wrap (z4 - 1))) : S) = .v (vI (z4 - 1)); let z13 := vI (valCode (f).plan (f).st e); let z14 := vI (partCode (f).st e); let z15 := hasField e.kind; let z16 : List Blk := [.cells (oFmr4 1 f), .lst .int f.st.stack]; (.br (.seg [.at 0, .cut 0 4] (.leaf () [0, 1, 3])) (.br (.seg [.call [0, 1] (.v z14) z5, .at 0, .cut 0 4] (.leaf () [0, 1, 3])) (.seg [.call [] (.v (vB z15)) []] (.br (.seg [.call [0, 1] (.v z13) z2] (.leaf () [0, 1, 3])) (.br (.br (.seg [.ord (os 15 [14]) [], .as 47 (.v (vI (z4 - 1))), .at 0, .cut 0 4] (.leaf () [0, 1, 3])) (.br (.br (.seg [.at 0, .cut 0 4] (.leaf () [0, 1, 3])) (.seg [.at 0, .cut 0 4] (.leaf () [0, 1, 3]))) (.seg [.at 0, .cut 0 4] (.leaf () [0, 1, 3])))) (.br (.br (.seg [.at 0, .cut 0 4] (.leaf () [0, 1, 3])) (.seg [.at 0, .cut 0 4] (.leaf () [0, 1, 3]))) (.seg [.at 0, .cut 0 4] (.leaf () [0, 1, 3]))))))), (f.st.ended = true → (.v (vI 2) : S) = .v z7 ∧ z8 = z1) ∧ (f.st.ended = false → (f.st.inText = true → (Fun Try.prog 169 [vP 0, .agg (cEv e)] z16 (.v z14) z5) ∧ (.v z14 : S) = .v z7 ∧ ([.cells [.seq .shp (f).plan.shapes, .int .i64 (f).plan.root, .int .i64 (f).plan.deep, .int .i64 (f).plan.most, .own 2, .bool z6.inText, .bool z6.isText, .int .i64 z6.utf.want, .int .i64 z6.utf.low, .int .i64 z6.utf.high, .bool z6.ended], .dead, .lst .int z6.stack] : List Blk) = z1) ∧ (f.st.inText = false → (Fun Try.prog 144 [vI e.kind] [] (.v (vB z15)) []) ∧ (z15 = true → (Fun Try.prog 170 [vP 0, .agg (cEv e)] z16 (.v z13) z2) ∧ (.v z13 : S) = .v z7 ∧ (z2 : List Blk) = z1) ∧ (z15 = false → ((decide (e.kind = 7)) = true → ((decide (1 < z4)) = true → z12 ∧ z12 ∧ (z4 - 1 ≤ z4) ∧ ((0 : Int) ≤ z4 - 1) ∧ (z4 - 1 ≤ z4) ∧ ((0 : Int) ≤ z4 - 1) ∧ (.v (vI 0) : S) = .v z7 ∧ ([.cells (oFmr4 2 f), .dead, .lst .int (List.take ((Int.toNat (z4 - 1)) - 0) f.st.stack)] : List Blk) = z1) ∧ ((decide (1 < z4)) = false → z3 ∧ z11)) ∧ ((decide (e.kind = 7)) = false → z3 ∧ z11)))))) (by kernel_rfl) ?_
  refine ⟨fun h1 => ?_, fun h1 => ?_⟩
  refine have hm1 : faStep (f).plan (f).st e = f.st := ?_; ?_
  rotate_left
  refine ⟨(sI ?_), (by rw [hm1] <;> rfl)⟩
  rotate_left
  refine ⟨fun h2 => ?_, fun h2 => ?_⟩
  refine ⟨(part_i f e (by omega)), ?_⟩
  refine have hm1 : faStep (f).plan (f).st e = (partStep (f).st e) := ?_; ?_
  rotate_left
  refine ⟨(sI ?_), (by rw [hm1] <;> rfl)⟩
  rotate_left
  refine ⟨(hasField_i _), fun h3 => ?_, fun h3 => ?_⟩
  refine ⟨(value_i f e (by omega) (by omega) (by omega) (by omega) (by omega)), ?_⟩
  refine have hm1 : faStep (f).plan (f).st e = (valStep (f).plan (f).st e) := ?_; ?_
  rotate_left
  refine ⟨(sI ?_), (by rw [hm1] <;> rfl)⟩
  rotate_left
  refine ⟨fun h4 => have p4 := of_decide_eq_true h4; ?_, fun h4 => have p4 := of_decide_eq_false h4; ?_⟩
  refine ⟨fun h5 => have p5 := of_decide_eq_true h5; ?_, fun h5 => have p5 := of_decide_eq_false h5; ?_⟩
  refine ⟨(as_i64 (by omega) (by omega)), (as_i64 (by omega) (by omega)), (by omega), (by omega), (by omega), (by omega), ?_⟩
  refine have hm1 : faStep (f).plan (f).st e = (⟨List.take ((Int.toNat ((f.st.stack.length : Int) - 1)) - 0) f.st.stack, f.st.inText, f.st.isText, f.st.utf, f.st.ended⟩ : Fa) := ?_; ?_
  rotate_left
  refine ⟨(sI ?_), (by rw [hm1] <;> rfl)⟩
  rotate_left
  refine ⟨fun h6 => have p6 := of_decide_eq_true h6; ?_, fun h6 => have p6 := of_decide_eq_false h6; ?_⟩
  refine ⟨fun h7 => have p7 := of_decide_eq_true h7; ?_, fun h7 => have p7 := of_decide_eq_false h7; ?_⟩
  refine have hm1 : faStep (f).plan (f).st e = (⟨f.st.stack, f.st.inText, f.st.isText, f.st.utf, true⟩ : Fa) := ?_; ?_
  rotate_left
  refine ⟨(sI ?_), (by rw [hm1] <;> rfl)⟩
  rotate_left
  refine have hm1 : faStep (f).plan (f).st e = f.st := ?_; ?_
  rotate_left
  refine ⟨(sI ?_), (by rw [hm1] <;> rfl)⟩
  rotate_left
  refine have hm1 : faStep (f).plan (f).st e = f.st := ?_; ?_
  rotate_left
  refine ⟨(sI ?_), (by rw [hm1] <;> rfl)⟩
  rotate_left
  refine ⟨fun h5 => have p5 := of_decide_eq_true h5; ?_, fun h5 => have p5 := of_decide_eq_false h5; ?_⟩
  refine ⟨fun h6 => have p6 := of_decide_eq_true h6; ?_, fun h6 => have p6 := of_decide_eq_false h6; ?_⟩
  refine have hm1 : faStep (f).plan (f).st e = (⟨f.st.stack, f.st.inText, f.st.isText, f.st.utf, true⟩ : Fa) := ?_; ?_
  rotate_left
  refine ⟨(sI ?_), (by rw [hm1] <;> rfl)⟩
  rotate_left
  refine have hm1 : faStep (f).plan (f).st e = f.st := ?_; ?_
  rotate_left
  refine ⟨(sI ?_), (by rw [hm1] <;> rfl)⟩
  rotate_left
  refine have hm1 : faStep (f).plan (f).st e = f.st := ?_; ?_
  rotate_left
  refine ⟨(sI ?_), (by rw [hm1] <;> rfl)⟩
  rotate_left
  all_goals first | (simp_all [faStep, faCode]; done) | (grind [faStep, faCode])
theorem payload_s (r : Fs) (e : Ev) (hp1 : List.length (e).text ≤ bigN) (hp2 : utfOk (r).utf = true) : Fun Try.prog 138 [vP 0, .agg (cEv e)] [.cells (oFs0 1 r), .lst .int r.stack] (.v (vI (partCode (absS r) e))) [.cells (oFs0 1 (fsPart r e)), .lst .int (fsPart r e).stack] := by
  have hN : bigN = 274877906944 := rfl
  refine fun_ofw Try.func138 (by kernel_rfl) (by kernel_rfl) (w := let z1 : List Blk := [.cells (oFs0 1 (fsPart r e)), .lst .int (fsPart r e).stack]; let z2 := ([.cells [.own 1, .int .i64 r.field.number, .int .i64 r.field.kind, .bool r.field.rep, .bool r.field.packed, .int .i64 r.field.msg, .bool false, .int .i64 r.utf.want, .int .i64 r.utf.low, .int .i64 r.utf.high, .bool r.ended], .lst .int r.stack] : List Blk); let z3 := decide (r.field.kind = 6); let z4 := ([.cells (oFs0 1 r), .lst .int r.stack] : List Blk); let z5 := vI (partCode (absS r) e); let z6 := utfSt r.utf e.text; let z7 := utfBad r.utf e.text; let z8 : List Blk := [.cells (oFs0 1 r), .lst .int r.stack, .cells (cUtf z6)]; let z9 := (.v (vI 0) : S); let z10 := decide (0 ≤ utfBad r.utf e.text); (.br (.seg [.tree (fr (.two 6 (fr (.one 10 (.one 11 (.first 12 (.done)))) 7 3) 10 (.one 6 (fr (.one 11 (.first 12 (.done))) 7 3))) 0 6) 13 [], .call [] (.tup [.agg (cUtf z6), vI z7]) [], .at 0, .keep [0, 5, 6, 7], .sel [0, 1, 3], .call [] (.tup [.agg (cUtf z6), vI z7]) [], .at 0, .keep [0, 5, 6, 7], .sel [0, 1, 3]] (.br (.br (.leaf () [0, 1]) (.seg [.br true] (.leaf () [0, 1]))) (.seg [.br false] (.leaf () [0, 1])))) (.br (.br (.br (.leaf () [0, 1]) (.leaf () [0, 1])) (.leaf () [0, 1])) (.leaf () [0, 1])), ((decide (e.kind = 4)) = true → (Fun Try.prog 161 [.agg (cUtf r.utf), vT e.text] [] (.tup [.agg (cUtf z6), vI z7]) []) ∧ (Fun Try.prog 161 [.agg (cUtf r.utf), vT e.text] [] (.tup [.agg (cUtf z6), vI z7]) []) ∧ ((z8 : List Blk) = z8) ∧ (([(0, .v (vP 0)), (5, .v (vB z3)), (6, .v (vP 2)), (7, .v (vI z7))] : List (Nat × S)) = [(0, .v (vP 0)), (5, .v (vB z3)), (6, .v (vP 2)), (7, .v (vI z7))]) ∧ (z3 = true → (z10 = true → (.v (vI 5) : S) = .v z5 ∧ z4 = z1) ∧ (z10 = false → (z3 = true) ∧ z9 = .v z5 ∧ ([.cells [.own 1, .int .i64 r.field.number, .int .i64 r.field.kind, .bool r.field.rep, .bool r.field.packed, .int .i64 r.field.msg, .bool r.open_, .int .i64 z6.want, .int .i64 z6.low, .int .i64 z6.high, .bool r.ended], .lst .int r.stack] : List Blk) = z1)) ∧ (z3 = false → (z3 = false) ∧ z9 = .v z5 ∧ z4 = z1)) ∧ ((decide (e.kind = 4)) = false → ((decide (e.kind = 5)) = true → (z3 = true → ((decide (0 < r.utf.want)) = true → (.v (vI 5) : S) = .v z5 ∧ z4 = z1) ∧ ((decide (0 < r.utf.want)) = false → z9 = .v z5 ∧ z2 = z1)) ∧ (z3 = false → z9 = .v z5 ∧ z2 = z1)) ∧ ((decide (e.kind = 5)) = false → (.v (vI 2) : S) = .v z5 ∧ z4 = z1)))) (by kernel_rfl) ?_
  refine ⟨fun h1 => have p1 := of_decide_eq_true h1; ?_, fun h1 => have p1 := of_decide_eq_false h1; ?_⟩
  refine ⟨(utfText_s r.utf _ (by omega)), (utfText_s r.utf _ (by omega)), rfl, rfl, fun h2 => have p2 := of_decide_eq_true h2; ?_, fun h2 => have p2 := of_decide_eq_false h2; ?_⟩
  refine ⟨fun h3 => have p3 := of_decide_eq_true h3; ?_, fun h3 => have p3 := of_decide_eq_false h3; ?_⟩
  refine have hm1 : fsPart r e = r := ?_; ?_
  rotate_left
  refine ⟨(sI ?_), (by rw [hm1] <;> rfl)⟩
  rotate_left
  refine ⟨h2, ?_⟩
  refine have hm1 : fsPart r e = (⟨r.stack, r.field, r.open_, (utfSt r.utf e.text), r.ended⟩ : Fs) := ?_; ?_
  rotate_left
  refine ⟨(sI ?_), (by rw [hm1] <;> rfl)⟩
  rotate_left
  refine ⟨h2, ?_⟩
  refine have hm1 : fsPart r e = r := ?_; ?_
  rotate_left
  refine ⟨(sI ?_), (by rw [hm1] <;> rfl)⟩
  rotate_left
  refine ⟨fun h2 => have p2 := of_decide_eq_true h2; ?_, fun h2 => have p2 := of_decide_eq_false h2; ?_⟩
  refine ⟨fun h3 => have p3 := of_decide_eq_true h3; ?_, fun h3 => have p3 := of_decide_eq_false h3; ?_⟩
  refine ⟨fun h4 => have p4 := of_decide_eq_true h4; ?_, fun h4 => have p4 := of_decide_eq_false h4; ?_⟩
  have hu : r.utf ≠ utf0 := fun e => by rw [e] at p4; exact absurd p4 (by decide)
  refine have hm1 : fsPart r e = r := ?_; ?_
  rotate_left
  refine ⟨(sI ?_), (by rw [hm1] <;> rfl)⟩
  rotate_left
  have hw := utfOk_want hp2
  have hu : r.utf = utf0 := utfOk_zero hp2 (by omega)
  refine have hm1 : fsPart r e = (⟨r.stack, r.field, false, r.utf, r.ended⟩ : Fs) := ?_; ?_
  rotate_left
  refine ⟨(sI ?_), (by rw [hm1] <;> rfl)⟩
  rotate_left
  refine have hm1 : fsPart r e = (⟨r.stack, r.field, false, r.utf, r.ended⟩ : Fs) := ?_; ?_
  rotate_left
  refine ⟨(sI ?_), (by rw [hm1] <;> rfl)⟩
  rotate_left
  refine have hm1 : fsPart r e = r := ?_; ?_
  rotate_left
  refine ⟨(sI ?_), (by rw [hm1] <;> rfl)⟩
  rotate_left
  all_goals first | (simp_all [fsPart, partStep, partCode, absS]; done) | (grind [fsPart, partStep, partCode, absS])
theorem field_s (p : Pln) (r : Fs) (e : Ev) (hp1 : 1 ≤ List.length (r).stack) (hp2 : List.length (r).stack ≤ 1000) (hp3 : schemaOk (p).shapes = true) (hp4 : List.length (e).text ≤ bigN) (hp5 : (0 : Int) ≤ (e).bits ∧ (e).bits ≤ 18446744073709551615) (hp6 : hasField (e).kind = true) : Fun Try.prog 139 [.agg (cPln p), vP 0, .agg (cEv e)] [.cells (oFs0 1 r), .lst .int r.stack] (.v (vI (valCode p (absS r) e))) [.cells (oFs0 2 (fsVal p r e)), .dead, .lst .int (fsVal p r e).stack] := by
  have hN : bigN = 274877906944 := rfl
  have hs6 := schemaOk_t hp3
  have hk := hp6
  simp only [hasField, Bool.or_eq_true, decide_eq_true_eq] at hk
  refine fun_ofw Try.func139 (by kernel_rfl) (by kernel_rfl) (w := let z6 : List Blk := [.cells (oFs0 2 (fsVal p r e)), .dead, .lst .int (fsVal p r e).stack]; let z7 := ([.cells (oFs0 2 r), .dead, .lst .int r.stack] : List Blk); let z8 := (r.stack.length : Int); let z9 := vI (valCode p (absS r) e); let z11 := (.v (vI 0) : S); let z12 := (.v (vI (IntKind.i64.wrap (z8 - 1))) : S) = .v (vI (z8 - 1)); let z13 := decide (e.kind = 2); let z14 := decide (e.kind = 3); let z15 := (.v (vI 2) : S); let z16 := decide (p.deep ≤ z8); let z10 := z16 = true → (.v (vI 6) : S) = .v z9 ∧ z7 = z6; (.intro (fun (x1 : Int) => r.stack[Int.toNat (z8 - 1)]? = some x1) fun x1 => let z2 := fieldAt p.shapes x1 e.field; let z1 := z2.getD fld0; .seg [.tree (fr (.two 16 (fr (.one 20 (.one 21 (.first 22 (.done)))) 17 3) 20 (.one 16 (fr (.one 21 (.first 22 (.done))) 17 3))) 0 16) 23 [], .as 22 (.v (vI (z8 - 1))), .el .int x1, .call [] (.tup [.agg (cFld z1), vB z2.isSome]) [], .at 0, .keep [1, 3, 5, 7, 8], .sel [0, 1, 2, 3, 4], .call [] (.tup [.agg (cFld z1), vB z2.isSome]) [], .at 0, .keep [1, 3, 5, 7, 8], .sel [0, 1, 2, 3, 4]] (.br (.seg [.at 0, .cut 0 0] (.leaf () [0, 1, 5])) (.br (.br (.seg [.call [] (.v (vB (numeric z1.kind))) []] (.br (.seg [.at 0, .cut 0 0] (.leaf () [0, 1, 5])) (.seg [.call [] (.v (vB (bitsFit z1.kind e.bits))) []] (.br (.seg [.at 0, .cut 0 0] (.leaf () [0, 1, 5])) (.seg [.at 0, .cut 0 0] (.leaf () [0, 1, 5])))))) (.br (.seg [.at 0, .cut 0 0] (.leaf () [0, 1, 5])) (.br (.seg [.at 0, .cut 0 0] (.leaf () [0, 1, 5])) (.seg [.ord (os 8 []) []] (.br (.seg [.at 0, .cut 0 0] (.leaf () [0, 1, 5])) (.seg [.ord (os 12 [7, 8, 11]) [1], .ty .int, .ty .int] (.leaf () [0, 1, 6]))))))) (.br (.seg [.call [] (.v (vB (numeric z1.kind))) []] (.br (.seg [.at 0, .cut 0 0] (.leaf () [0, 1, 5])) (.seg [.call [] (.v (vB (bitsFit z1.kind e.bits))) []] (.br (.seg [.at 0, .cut 0 0] (.leaf () [0, 1, 5])) (.seg [.at 0, .cut 0 0] (.leaf () [0, 1, 5])))))) (.br (.br (.seg [.at 0, .cut 0 0] (.leaf () [0, 1, 5])) (.seg [.at 0, .cut 0 0] (.leaf () [0, 1, 5]))) (.br (.seg [.at 0, .cut 0 0] (.leaf () [0, 1, 5])) (.seg [.ord (os 8 []) []] (.br (.seg [.at 0, .cut 0 0] (.leaf () [0, 1, 5])) (.seg [.ord (os 12 [7, 8, 11]) [1], .ty .int, .ty .int] (.leaf () [0, 1, 6]))))))))), (∃ (x1 : Int), r.stack[Int.toNat (z8 - 1)]? = some x1) ∧ ∀ (x1 : Int), (r.stack[Int.toNat (z8 - 1)]? = some x1) → (let z4 := fieldAt p.shapes x1 e.field; let z3 := z4.getD fld0; let z5 := r.stack[Int.toNat (z8 - 1)]? = some x1; z12 ∧ z12 ∧ (z8 - 1 < z8) ∧ ((0 : Int) ≤ z8 - 1) ∧ (z8 - 1 < z8) ∧ ((0 : Int) ≤ z8 - 1) ∧ z5 ∧ z5 ∧ (Fun Try.prog 81 [.agg [.seq .shp p.shapes], vI x1, vI e.field] [] (.tup [.agg (cFld z3), vB z4.isSome]) []) ∧ (Fun Try.prog 81 [.agg [.seq .shp p.shapes], vI x1, vI e.field] [] (.tup [.agg (cFld z3), vB z4.isSome]) []) ∧ (([.cells (oFs0 1 r), .lst .int r.stack, .cells (cPln p), .cells (cEv e), .cells (cFld z3)] : List Blk) = [.cells (oFs0 1 r), .lst .int r.stack, .cells (cPln p), .cells (cEv e), .cells (cFld z3)]) ∧ (([(1, .v (vP 0)), (3, .v (vP 2)), (5, .v (vP 3)), (7, .v (vP 4)), (8, .v (vB z4.isSome))] : List (Nat × S)) = [(1, .v (vP 0)), (3, .v (vP 2)), (5, .v (vP 3)), (7, .v (vP 4)), (8, .v (vB z4.isSome))]) ∧ ((!z4.isSome) = true → (.v (vI 3) : S) = .v z9 ∧ z7 = z6) ∧ ((!z4.isSome) = false → ((decide (z3.kind = 6)) = true → (z13 = true → (Fun Try.prog 155 [vI z3.kind] [] (.v (vB (numeric z3.kind))) []) ∧ ((!(numeric z3.kind)) = true → z15 = .v z9 ∧ z7 = z6) ∧ ((!(numeric z3.kind)) = false → (Fun Try.prog 165 [vI z3.kind, .c (.int .u64 e.bits)] [] (.v (vB (bitsFit z3.kind e.bits))) []) ∧ ((!(bitsFit z3.kind e.bits)) = true → (.v (vI 4) : S) = .v z9 ∧ z7 = z6) ∧ ((!(bitsFit z3.kind e.bits)) = false → z11 = .v z9 ∧ z7 = z6))) ∧ (z13 = false → (z14 = true → z11 = .v z9 ∧ ([.cells [.own 2, .int .i64 z3.number, .int .i64 z3.kind, .bool z3.rep, .bool z3.packed, .int .i64 z3.msg, .bool true, .int .i64 0, .int .i64 0, .int .i64 0, .bool r.ended], .dead, .lst .int r.stack] : List Blk) = z6) ∧ (z14 = false → ((!decide (z3.kind = 8)) = true → z15 = .v z9 ∧ z7 = z6) ∧ ((!decide (z3.kind = 8)) = false → z10 ∧ (z16 = false → (r.stack.length + List.length [z3.msg] ≤ bigN) ∧ z11 = .v z9 ∧ ([.cells (oFs0 2 r), .dead, .lst .int (r.stack ++ [z3.msg])] : List Blk) = z6))))) ∧ ((decide (z3.kind = 6)) = false → (z13 = true → (Fun Try.prog 155 [vI z3.kind] [] (.v (vB (numeric z3.kind))) []) ∧ ((!(numeric z3.kind)) = true → z15 = .v z9 ∧ z7 = z6) ∧ ((!(numeric z3.kind)) = false → (Fun Try.prog 165 [vI z3.kind, .c (.int .u64 e.bits)] [] (.v (vB (bitsFit z3.kind e.bits))) []) ∧ ((!(bitsFit z3.kind e.bits)) = true → (.v (vI 4) : S) = .v z9 ∧ z7 = z6) ∧ ((!(bitsFit z3.kind e.bits)) = false → z11 = .v z9 ∧ z7 = z6))) ∧ (z13 = false → (z14 = true → ((!(decide (z3.kind = 7))) = true → z15 = .v z9 ∧ z7 = z6) ∧ ((!(decide (z3.kind = 7))) = false → z11 = .v z9 ∧ ([.cells [.own 2, .int .i64 z3.number, .int .i64 z3.kind, .bool z3.rep, .bool z3.packed, .int .i64 z3.msg, .bool true, .int .i64 0, .int .i64 0, .int .i64 0, .bool r.ended], .dead, .lst .int r.stack] : List Blk) = z6)) ∧ (z14 = false → ((!decide (z3.kind = 8)) = true → z15 = .v z9 ∧ z7 = z6) ∧ ((!decide (z3.kind = 8)) = false → z10 ∧ (z16 = false → (r.stack.length + List.length [z3.msg] ≤ bigN) ∧ z11 = .v z9 ∧ ([.cells (oFs0 2 r), .dead, .lst .int (r.stack ++ [z3.msg])] : List Blk) = z6))))))))) (by kernel_rfl) ?_
  refine ⟨(ax_get (l := r.stack) (i := Int.toNat ((r.stack.length : Int) - 1)) (by omega)), fun x1 hx1 => ?_⟩
  have hlast : lastD r.stack = x1 := by unfold lastD; exact getD_of (by rw [← hx1]; congr 1; omega)
  have hown : faOwn p (absS r) e = (fieldAt p.shapes x1 e.field) := by unfold faOwn; rw [show lastD (absS r).stack = x1 from hlast]
  refine ⟨(as_i64 (by omega) (by omega)), (as_i64 (by omega) (by omega)), (by omega), (by omega), (by omega), (by omega), hx1, hx1, (fieldAt_s p.shapes _ _ (by omega) (schemaOk_fields hp3)), (fieldAt_s p.shapes _ _ (by omega) (schemaOk_fields hp3)), rfl, rfl, fun h1 => have q1 := bnot_t h1; ?_, fun h1 => have q1 := bnot_f h1; ?_⟩
  have ho : (fieldAt p.shapes x1 e.field) = none := by simpa using q1
  have hg : (fieldAt p.shapes x1 e.field).getD fld0 = fld0 := by rw [ho]; rfl
  have hvc := valCode_none (hown.trans ho)
  have hvs := valStep_none (hown.trans ho)
  refine have hm1 : fsVal p r e = r := ?_; ?_
  rotate_left
  refine ⟨(sI ?_), (by rw [hm1] <;> rfl)⟩
  rotate_left
  obtain ⟨o, ho⟩ := Option.isSome_iff_exists.1 q1
  have hg : (fieldAt p.shapes x1 e.field).getD fld0 = o := by rw [ho]; rfl
  have hvc := valCode_some (hown.trans ho)
  have hvs := valStep_some (hown.trans ho)
  refine ⟨fun h2 => have p2 := of_decide_eq_true h2; ?_, fun h2 => have p2 := of_decide_eq_false h2; ?_⟩
  refine ⟨fun h3 => have p3 := of_decide_eq_true h3; ?_, fun h3 => have p3 := of_decide_eq_false h3; ?_⟩
  refine ⟨(numeric_s _), fun h4 => have q4 := bnot_t h4; have p4 := within_f q4; ?_, fun h4 => have q4 := bnot_f h4; have p4 := within_t q4; ?_⟩
  refine have hm1 : fsVal p r e = r := ?_; ?_
  rotate_left
  refine ⟨(sI ?_), (by rw [hm1] <;> rfl)⟩
  rotate_left
  refine ⟨(bitsFit_s _ _ (by omega)), fun h5 => have q5 := bnot_t h5; ?_, fun h5 => have q5 := bnot_f h5; ?_⟩
  refine have hm1 : fsVal p r e = r := ?_; ?_
  rotate_left
  refine ⟨(sI ?_), (by rw [hm1] <;> rfl)⟩
  rotate_left
  refine have hm1 : fsVal p r e = r := ?_; ?_
  rotate_left
  refine ⟨(sI ?_), (by rw [hm1] <;> rfl)⟩
  rotate_left
  refine ⟨fun h4 => have p4 := of_decide_eq_true h4; ?_, fun h4 => have p4 := of_decide_eq_false h4; ?_⟩
  refine have hm1 : fsVal p r e = (⟨r.stack, ((fieldAt p.shapes x1 e.field).getD fld0), true, utf0, r.ended⟩ : Fs) := ?_; ?_
  rotate_left
  refine ⟨(sI ?_), (by rw [hm1] <;> rfl)⟩
  rotate_left
  refine ⟨fun h5 => have q5 := bnot_t h5; have p5 := of_decide_eq_false q5; ?_, fun h5 => have q5 := bnot_f h5; have p5 := of_decide_eq_true q5; ?_⟩
  refine have hm1 : fsVal p r e = r := ?_; ?_
  rotate_left
  refine ⟨(sI ?_), (by rw [hm1] <;> rfl)⟩
  rotate_left
  refine ⟨fun h6 => have p6 := of_decide_eq_true h6; ?_, fun h6 => have p6 := of_decide_eq_false h6; ?_⟩
  refine have hm1 : fsVal p r e = r := ?_; ?_
  rotate_left
  refine ⟨(sI ?_), (by rw [hm1] <;> rfl)⟩
  rotate_left
  refine ⟨(by simp only [List.length_cons, List.length_nil]; omega), ?_⟩
  refine have hm1 : fsVal p r e = (⟨r.stack ++ [((fieldAt p.shapes x1 e.field).getD fld0).msg], r.field, r.open_, r.utf, r.ended⟩ : Fs) := ?_; ?_
  rotate_left
  refine ⟨(sI ?_), (by rw [hm1] <;> rfl)⟩
  rotate_left
  refine ⟨fun h3 => have p3 := of_decide_eq_true h3; ?_, fun h3 => have p3 := of_decide_eq_false h3; ?_⟩
  refine ⟨(numeric_s _), fun h4 => have q4 := bnot_t h4; have p4 := within_f q4; ?_, fun h4 => have q4 := bnot_f h4; have p4 := within_t q4; ?_⟩
  refine have hm1 : fsVal p r e = r := ?_; ?_
  rotate_left
  refine ⟨(sI ?_), (by rw [hm1] <;> rfl)⟩
  rotate_left
  refine ⟨(bitsFit_s _ _ (by omega)), fun h5 => have q5 := bnot_t h5; ?_, fun h5 => have q5 := bnot_f h5; ?_⟩
  refine have hm1 : fsVal p r e = r := ?_; ?_
  rotate_left
  refine ⟨(sI ?_), (by rw [hm1] <;> rfl)⟩
  rotate_left
  refine have hm1 : fsVal p r e = r := ?_; ?_
  rotate_left
  refine ⟨(sI ?_), (by rw [hm1] <;> rfl)⟩
  rotate_left
  refine ⟨fun h4 => have p4 := of_decide_eq_true h4; ?_, fun h4 => have p4 := of_decide_eq_false h4; ?_⟩
  refine ⟨fun h5 => have q5 := bnot_t h5; have p5 := of_decide_eq_false q5; ?_, fun h5 => have q5 := bnot_f h5; have p5 := of_decide_eq_true q5; ?_⟩
  refine have hm1 : fsVal p r e = r := ?_; ?_
  rotate_left
  refine ⟨(sI ?_), (by rw [hm1] <;> rfl)⟩
  rotate_left
  refine have hm1 : fsVal p r e = (⟨r.stack, ((fieldAt p.shapes x1 e.field).getD fld0), true, utf0, r.ended⟩ : Fs) := ?_; ?_
  rotate_left
  refine ⟨(sI ?_), (by rw [hm1] <;> rfl)⟩
  rotate_left
  refine ⟨fun h5 => have q5 := bnot_t h5; have p5 := of_decide_eq_false q5; ?_, fun h5 => have q5 := bnot_f h5; have p5 := of_decide_eq_true q5; ?_⟩
  refine have hm1 : fsVal p r e = r := ?_; ?_
  rotate_left
  refine ⟨(sI ?_), (by rw [hm1] <;> rfl)⟩
  rotate_left
  refine ⟨fun h6 => have p6 := of_decide_eq_true h6; ?_, fun h6 => have p6 := of_decide_eq_false h6; ?_⟩
  refine have hm1 : fsVal p r e = r := ?_; ?_
  rotate_left
  refine ⟨(sI ?_), (by rw [hm1] <;> rfl)⟩
  rotate_left
  refine ⟨(by simp only [List.length_cons, List.length_nil]; omega), ?_⟩
  refine have hm1 : fsVal p r e = (⟨r.stack ++ [((fieldAt p.shapes x1 e.field).getD fld0).msg], r.field, r.open_, r.utf, r.ended⟩ : Fs) := ?_; ?_
  rotate_left
  refine ⟨(sI ?_), (by rw [hm1] <;> rfl)⟩
  rotate_left
  all_goals first | (rw [fsVal, hvs, hvc]; simp_all [isBytes, utf0, absS]; done) | (rw [hvc]; simp_all [isBytes, utf0, absS]; done) | (grind (splits := 25) [isBytes, fld0, absS, fsVal])
theorem event_s (p : Pln) (r : Fs) (e : Ev) (hp1 : 1 ≤ List.length (r).stack) (hp2 : List.length (r).stack ≤ 1000) (hp3 : schemaOk (p).shapes = true) (hp4 : List.length (e).text ≤ bigN) (hp5 : (0 : Int) ≤ (e).bits ∧ (e).bits ≤ 18446744073709551615) (hp6 : utfOk (r).utf = true) : Fun Try.prog 93 [.agg (cPln p), vP 0, .agg (cEv e)] [.cells (oFs0 1 r), .lst .int r.stack] (.v (vI (faCode p (absS r) e))) [.cells (oFs0 2 (fsStep p r e)), .dead, .lst .int (fsStep p r e).stack] := by
  have hN : bigN = 274877906944 := rfl
  refine fun_ofw Try.func93 (by kernel_rfl) (by kernel_rfl) (w := let z1 : List Blk := [.cells (oFs0 2 (fsStep p r e)), .dead, .lst .int (fsStep p r e).stack]; let z2 : List Blk := [.cells (oFs0 2 (fsVal p r e)), .dead, .lst .int (fsVal p r e).stack]; let z3 := (r.stack.length : Int); let z4 := vI (faCode p (absS r) e); let z5 := vI (valCode p (absS r) e); let z6 := ([.cells (oFs0 2 r), .dead, .lst .int r.stack] : List Blk); let z7 : List Blk := [.cells (oFs0 1 r), .lst .int r.stack]; let z8 : List Blk := [.cells (oFs0 1 (fsPart r e)), .lst .int (fsPart r e).stack]; let z9 := vI (partCode (absS r) e); let z10 := (.v (vI 2) : S); let z11 := decide (e.kind = 2); let z12 := decide (e.kind = 3); (.br (.seg [.at 0, .cut 0 0] (.leaf () [0, 1, 4])) (.br (.seg [.call [0, 1] (.v z9) z8, .at 0, .cut 0 0] (.leaf () [0, 1, 4])) (.br (.seg [.br true, .call [0, 1] (.v z5) z2] (.leaf () [0, 1, 4])) (.br (.seg [.br true, .call [0, 1] (.v z5) z2] (.leaf () [0, 1, 4])) (.br (.seg [.call [0, 1] (.v z5) z2] (.leaf () [0, 1, 4])) (.br (.br (.seg [.as 44 (.v (vI (z3 - 1))), .at 0, .cut 0 0] (.leaf () [0, 1, 4])) (.seg [.at 0, .cut 0 0] (.leaf () [0, 1, 4]))) (.br (.br (.seg [.at 0, .cut 0 0] (.leaf () [0, 1, 4])) (.seg [.at 0, .cut 0 0] (.leaf () [0, 1, 4]))) (.seg [.at 0, .cut 0 0] (.leaf () [0, 1, 4])))))))), (r.ended = true → z10 = .v z4 ∧ z6 = z1) ∧ (r.ended = false → (r.open_ = true → (Fun Try.prog 138 [vP 0, .agg (cEv e)] z7 (.v z9) z8) ∧ (.v z9 : S) = .v z4 ∧ ([.cells (oFs0 2 (fsPart r e)), .dead, .lst .int (fsPart r e).stack] : List Blk) = z1) ∧ (r.open_ = false → (z11 = true → (z11 = true) ∧ (Fun Try.prog 139 [.agg (cPln p), vP 0, .agg (cEv e)] z7 (.v z5) z2) ∧ (.v z5 : S) = .v z4 ∧ (z2 : List Blk) = z1) ∧ (z11 = false → (z12 = true → (z12 = true) ∧ (Fun Try.prog 139 [.agg (cPln p), vP 0, .agg (cEv e)] z7 (.v z5) z2) ∧ (.v z5 : S) = .v z4 ∧ (z2 : List Blk) = z1) ∧ (z12 = false → ((decide (e.kind = 6)) = true → (Fun Try.prog 139 [.agg (cPln p), vP 0, .agg (cEv e)] z7 (.v z5) z2) ∧ (.v z5 : S) = .v z4 ∧ (z2 : List Blk) = z1) ∧ ((decide (e.kind = 6)) = false → ((decide (e.kind = 7)) = true → ((decide (1 < z3)) = true → ((.v (vI (IntKind.i64.wrap (z3 - 1))) : S) = .v (vI (z3 - 1))) ∧ (z3 - 1 ≤ z3) ∧ ((0 : Int) ≤ z3 - 1) ∧ (.v (vI 0) : S) = .v z4 ∧ ([.cells (oFs0 2 r), .dead, .lst .int (List.take ((Int.toNat (z3 - 1)) - 0) r.stack)] : List Blk) = z1) ∧ ((decide (1 < z3)) = false → z10 = .v z4 ∧ z6 = z1)) ∧ ((decide (e.kind = 7)) = false → ((decide (e.kind = 8)) = true → ((decide (z3 = 1)) = true → (.v (vI 0) : S) = .v z4 ∧ ([.cells [.own 2, .int .i64 r.field.number, .int .i64 r.field.kind, .bool r.field.rep, .bool r.field.packed, .int .i64 r.field.msg, .bool r.open_, .int .i64 r.utf.want, .int .i64 r.utf.low, .int .i64 r.utf.high, .bool true], .dead, .lst .int r.stack] : List Blk) = z1) ∧ ((decide (z3 = 1)) = false → z10 = .v z4 ∧ z6 = z1)) ∧ ((decide (e.kind = 8)) = false → z10 = .v z4 ∧ z6 = z1))))))))) (by kernel_rfl) ?_
  refine ⟨fun h1 => ?_, fun h1 => ?_⟩
  refine have hm1 : fsStep p r e = r := ?_; ?_
  rotate_left
  refine ⟨(sI ?_), (by rw [hm1] <;> rfl)⟩
  rotate_left
  refine ⟨fun h2 => ?_, fun h2 => ?_⟩
  refine ⟨(payload_s r e (by omega) (by omega)), ?_⟩
  refine have hm1 : fsStep p r e = (fsPart r e) := ?_; ?_
  rotate_left
  refine ⟨(sI ?_), (by rw [hm1] <;> rfl)⟩
  rotate_left
  refine ⟨fun h3 => have p3 := of_decide_eq_true h3; ?_, fun h3 => have p3 := of_decide_eq_false h3; ?_⟩
  refine ⟨h3, (field_s p r e (by omega) (by omega) (by omega) (by omega) (by omega) (by simp_all [hasField])), ?_⟩
  refine have hm1 : fsStep p r e = (fsVal p r e) := ?_; ?_
  rotate_left
  refine ⟨(sI ?_), (by rw [hm1] <;> rfl)⟩
  rotate_left
  refine ⟨fun h4 => have p4 := of_decide_eq_true h4; ?_, fun h4 => have p4 := of_decide_eq_false h4; ?_⟩
  refine ⟨h4, (field_s p r e (by omega) (by omega) (by omega) (by omega) (by omega) (by simp_all [hasField])), ?_⟩
  refine have hm1 : fsStep p r e = (fsVal p r e) := ?_; ?_
  rotate_left
  refine ⟨(sI ?_), (by rw [hm1] <;> rfl)⟩
  rotate_left
  refine ⟨fun h5 => have p5 := of_decide_eq_true h5; ?_, fun h5 => have p5 := of_decide_eq_false h5; ?_⟩
  refine ⟨(field_s p r e (by omega) (by omega) (by omega) (by omega) (by omega) (by simp_all [hasField])), ?_⟩
  refine have hm1 : fsStep p r e = (fsVal p r e) := ?_; ?_
  rotate_left
  refine ⟨(sI ?_), (by rw [hm1] <;> rfl)⟩
  rotate_left
  refine ⟨fun h6 => have p6 := of_decide_eq_true h6; ?_, fun h6 => have p6 := of_decide_eq_false h6; ?_⟩
  refine ⟨fun h7 => have p7 := of_decide_eq_true h7; ?_, fun h7 => have p7 := of_decide_eq_false h7; ?_⟩
  refine ⟨(as_i64 (by omega) (by omega)), (by omega), (by omega), ?_⟩
  refine have hm1 : fsStep p r e = (⟨List.take ((Int.toNat ((r.stack.length : Int) - 1)) - 0) r.stack, r.field, r.open_, r.utf, r.ended⟩ : Fs) := ?_; ?_
  rotate_left
  refine ⟨(sI ?_), (by rw [hm1] <;> rfl)⟩
  rotate_left
  refine have hm1 : fsStep p r e = r := ?_; ?_
  rotate_left
  refine ⟨(sI ?_), (by rw [hm1] <;> rfl)⟩
  rotate_left
  refine ⟨fun h7 => have p7 := of_decide_eq_true h7; ?_, fun h7 => have p7 := of_decide_eq_false h7; ?_⟩
  refine ⟨fun h8 => have p8 := of_decide_eq_true h8; ?_, fun h8 => have p8 := of_decide_eq_false h8; ?_⟩
  refine have hm1 : fsStep p r e = (⟨r.stack, r.field, r.open_, r.utf, true⟩ : Fs) := ?_; ?_
  rotate_left
  refine ⟨(sI ?_), (by rw [hm1] <;> rfl)⟩
  rotate_left
  refine have hm1 : fsStep p r e = r := ?_; ?_
  rotate_left
  refine ⟨(sI ?_), (by rw [hm1] <;> rfl)⟩
  rotate_left
  refine have hm1 : fsStep p r e = r := ?_; ?_
  rotate_left
  refine ⟨(sI ?_), (by rw [hm1] <;> rfl)⟩
  rotate_left
  all_goals first | (simp_all [fsStep, faCode, absS, hasField]; done) | (grind [fsStep, faCode, absS, hasField])
end Go.Proofs.Ytecljjcmjongfaa.Ax
