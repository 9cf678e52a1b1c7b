/- The grammar: texts. The grammar: values with a length. The grammar: messages. Models: whole inputs. -/
import Derived.Test.YtaflinakodideaaGreatKS2
import Derived.Test.YtaflinakodideaaGreatKS1
set_option linter.unusedSimpArgs false
set_option linter.unusedVariables false
namespace Go.Proofs.YtaflinakodideaaGreat.Ax
open Go.RowKit
theorem text_i (r : Mr) (f : Fld) (n : Int) (hp1 : List.length (r).s ≤ 1048576) (hp2 : (r).at_ ≤ ((List.length (r).s : Nat) : Int)) (hp3 : (r).fail.kind = 0) (hp4 : ((List.length (r).out : Nat) : Int) + 4 * (((List.length (r).s : Nat) : Int) - (r).at_) ≤ 99999996) (hp5 : (0 : Int) ≤ (r).at_) (hp6 : (0 : Int) ≤ n ∧ (r).at_ + n ≤ 9223372036854775807) : Fun Tryz.prog 132 [vP 0, .agg (cFld f), vI n] [.cells (oMr6 1 r), .lst .ev r.out] (.v (vB (decide ((txtStep r f n).fail.kind = 0)))) [.cells (oMr6 2 (txtStep r f n)), .dead, .lst .ev (txtStep r f n).out] := by
 have hN : bigN = 274877906944 := rfl
 have htl := txtThere_len hp6.1 hp5 hp2
 have hub := utfBad_b utf0 (txtThere r n)
 have hu0 : utf0.want = 0 ∧ utf0.low = 0 ∧ utf0.high = 0 := ⟨rfl, rfl, rfl⟩
 have huw := utfOk_want (utfSt_ok (u := utf0) (s := txtThere r n) (by decide))
 have huz : (utfSt utf0 (txtThere r n)).want = 0 → (utfSt utf0 (txtThere r n)).low = 0 ∧ (utfSt utf0 (txtThere r n)).high = 0 := fun h0 => by rw [utfOk_zero (utfSt_ok (u := utf0) (s := txtThere r n) (by decide)) h0]; exact ⟨rfl, rfl⟩
 refine fun_ofw Tryz.func132 (by kernel_rfl) (by kernel_rfl) (w := let zi : Int → C := .int .i64; let z4 := (r.s.length : Int); let z7 : List Blk := [.cells (oMr6 2 (txtStep r f n)), .dead, .lst .ev (txtStep r f n).out]; let z10 := vB (decide ((txtStep r f n).fail.kind = 0)); let z13 := (⟨4, 0, 0, 0, txtThere r n, 0, 0⟩ : Ev); let z14 := r.at_ + n; let z1 : List C := [.seq .shp r.plan.shapes, zi r.plan.root, zi r.plan.deep, zi r.plan.most, .str r.s, zi z14, .own 2, zi r.fail.kind, zi r.fail.field, .int .u64 r.fail.bits, zi r.fail.len, .str r.fail.text, zi r.fail.code, zi r.fail.at_]; let z11 := (.v (vI (IntKind.i64.wrap z14)) : S) = .v (vI z14); let z16 := vB false; let z17 := txtThere r n; let z12 := decide ((z17.length : Int) < n); let z18 := if z4 < n then z4 else n; let z23 := shutEv; let z24 := !(decide (0 = 0) && (decide (0 = 0) && decide (0 = 0))); let z26 := utf0; let z8 := utfBad z26 z17; let z15 := decide (0 ≤ utfBad z26 z17); let z25 := r.at_ + z8; let z29 := (⟨4, 0, 0, 0, List.take (z8.toNat) z17, 0, 0⟩ : Ev); let z30 := if r.at_ + z18 < z4 then r.at_ + z18 else z4; let z35 := (.v z16 : S); let z36 := !decide (txtThere r n = []); let z38 := (openEv f n); let z3 := (⟨r.plan, r.s, r.at_, r.out ++ [z38], r.fail⟩ : Mr); let z6 := r.out ++ [z38]; let z2 := (⟨r.plan, r.s, r.at_, z6 ++ [z13], r.fail⟩ : Mr); let z5 := mrFail (⟨r.plan, r.s, r.at_, z6 ++ [z29], r.fail⟩ : Mr) 5 z25; let z27 : List Blk := [.cells (oMr6 1 r), .lst .ev (z6 ++ [z13])]; let z28 : List Blk := [.cells (oMr6 1 r), .lst .ev z6]; let z37 := mrFail z3 5 z25; let z39 := ([.cells z1, .dead, .lst .ev ((z6 ++ [z13]) ++ [z23])] : List Blk); let z40 := ([.cells z1, .dead, .lst .ev (z6 ++ [z23])] : List Blk); let z41 := (decide (0 ≤ (-1))) = false; let z42 := List.length (z6 ++ [z13]) + List.length [z23] ≤ bigN; let z43 := (.v (vI (IntKind.i64.wrap z25)) : S) = .v (vI z25); let z44 := utfSt z26 z17; let z9 := !(decide (z44.want = 0) && (decide (z44.low = 0) && decide (z44.high = 0))); let z45 : List V := [vP 0, vI 10, vI z4]; let z46 : List V := [vP 0, vI 5, vI z14]; let z47 := (.v (vB true) : S); let z48 := !decide (List.take (z8.toNat) z17 = []); let z49 := mrFail z2 10 z4; let z19 : List Blk := [.cells (oMr6 1 z49), .lst .ev z49.out]; let z31 := ([.cells (oMr6 2 z49), .dead, .lst .ev z49.out] : List Blk); let z50 := mrFail z2 5 z14; let z20 : List Blk := [.cells (oMr6 1 z50), .lst .ev z50.out]; let z32 := ([.cells (oMr6 2 z50), .dead, .lst .ev z50.out] : List Blk); let z51 := mrFail z3 10 z4; let z21 : List Blk := [.cells (oMr6 1 z51), .lst .ev z51.out]; let z33 := ([.cells (oMr6 2 z51), .dead, .lst .ev z51.out] : List Blk); let z52 := mrFail z3 5 z14; let z22 : List Blk := [.cells (oMr6 1 z52), .lst .ev z52.out]; let z34 := ([.cells (oMr6 2 z52), .dead, .lst .ev z52.out] : List Blk); let z53 := z6.length + List.length [z13] ≤ bigN; let z54 := z6.length + List.length [z23] ≤ bigN; (.seg [.ord (os 14 [9, 10, 13]) [1], .ty .ev, .ty .ev, .ord (os 22 [17, 19]) [], .as 47 (.v (vI (r.at_ + z18))), .as 49 (.v (vT z17))] (.br (.seg [.call [] (.tup [.agg (cUtf z44), vI z8]) []] (.br (.br (.seg [.ty .ev, .ty .ev, .br true, .as 85 (.v (vI z25)), .call [0, 7] (.v z16) [.cells (oMr6 1 z5), .lst .ev z5.out]] (.leaf () [0, 1, 7])) (.seg [.br true, .as 85 (.v (vI z25)), .call [0, 4] (.v z16) [.cells (oMr6 1 z37), .lst .ev z37.out]] (.leaf () [0, 1, 4]))) (.br (.seg [.ty .ev, .ty .ev, .br false] (.br (.seg [.call [0, 7] (.v z16) z19] (.leaf () [0, 1, 7])) (.br (.seg [.as 106 (.v (vI z14)), .call [0, 7] (.v z16) z20] (.leaf () [0, 1, 7])) (.seg [.as 111 (.v (vI z14)), .ty .ev, .ty .ev] (.leaf () [0, 1, 9]))))) (.seg [.br false] (.br (.seg [.call [0, 4] (.v z16) z21] (.leaf () [0, 1, 4])) (.br (.seg [.as 106 (.v (vI z14)), .call [0, 4] (.v z16) z22] (.leaf () [0, 1, 4])) (.seg [.as 111 (.v (vI z14)), .ty .ev, .ty .ev] (.leaf () [0, 1, 7])))))))) (.seg [.br false] (.br (.seg [.ty .ev, .ty .ev, .br false] (.br (.seg [.call [0, 7] (.v z16) z19] (.leaf () [0, 1, 7])) (.br (.seg [.as 106 (.v (vI z14)), .call [0, 7] (.v z16) z20] (.leaf () [0, 1, 7])) (.seg [.as 111 (.v (vI z14)), .ty .ev, .ty .ev] (.leaf () [0, 1, 9]))))) (.seg [.br false] (.br (.seg [.call [0, 4] (.v z16) z21] (.leaf () [0, 1, 4])) (.br (.seg [.as 106 (.v (vI z14)), .call [0, 4] (.v z16) z22] (.leaf () [0, 1, 4])) (.seg [.as 111 (.v (vI z14)), .ty .ev, .ty .ev] (.leaf () [0, 1, 7])))))))), (r.out.length + List.length [z38] ≤ bigN) ∧ ((.v (vI (IntKind.i64.wrap (r.at_ + z18))) : S) = .v (vI (r.at_ + z18))) ∧ (z30 ≤ z4) ∧ (r.at_ ≤ z30) ∧ ((0 : Int) ≤ r.at_) ∧ ((.v (vT (List.drop (r.at_.toNat) (List.take (z30.toNat) r.s))) : S) = .v (vT z17)) ∧ ((decide (f.kind = 6)) = true → (Fun Tryz.prog 162 [.agg [zi 0, zi 0, zi 0], vT z17] [] (.tup [.agg (cUtf z44), vI z8]) []) ∧ (z15 = true → (utfBad z26 z17 ≤ (z17.length : Int)) ∧ ((0 : Int) ≤ utfBad z26 z17) ∧ (z48 = true → (z6.length + List.length [z29] ≤ bigN) ∧ (z15 = true) ∧ z43 ∧ (Fun Tryz.prog 76 [vP 0, vI 5, vI z25] [.cells (oMr6 1 r), .lst .ev (z6 ++ [z29])] (.v z16) [.cells (oMr6 1 z5), .lst .ev z5.out]) ∧ z35 = .v z10 ∧ ([.cells (oMr6 2 z5), .dead, .lst .ev z5.out] : List Blk) = z7) ∧ (z48 = false → (z15 = true) ∧ z43 ∧ (Fun Tryz.prog 76 [vP 0, vI 5, vI z25] z28 (.v z16) [.cells (oMr6 1 z37), .lst .ev z37.out]) ∧ z35 = .v z10 ∧ ([.cells (oMr6 2 z37), .dead, .lst .ev z37.out] : List Blk) = z7)) ∧ (z15 = false → (z36 = true → z53 ∧ (z15 = false) ∧ (z12 = true → (Fun Tryz.prog 76 z45 z27 (.v z16) z19) ∧ z35 = .v z10 ∧ z31 = z7) ∧ (z12 = false → (z9 = true → z11 ∧ (Fun Tryz.prog 76 z46 z27 (.v z16) z20) ∧ z35 = .v z10 ∧ z32 = z7) ∧ (z9 = false → z11 ∧ z42 ∧ z47 = .v z10 ∧ z39 = z7))) ∧ (z36 = false → (z15 = false) ∧ (z12 = true → (Fun Tryz.prog 76 z45 z28 (.v z16) z21) ∧ z35 = .v z10 ∧ z33 = z7) ∧ (z12 = false → (z9 = true → z11 ∧ (Fun Tryz.prog 76 z46 z28 (.v z16) z22) ∧ z35 = .v z10 ∧ z34 = z7) ∧ (z9 = false → z11 ∧ z54 ∧ z47 = .v z10 ∧ z40 = z7))))) ∧ ((decide (f.kind = 6)) = false → z41 ∧ (z36 = true → z53 ∧ z41 ∧ (z12 = true → (Fun Tryz.prog 76 z45 z27 (.v z16) z19) ∧ z35 = .v z10 ∧ z31 = z7) ∧ (z12 = false → (z24 = true → z11 ∧ (Fun Tryz.prog 76 z46 z27 (.v z16) z20) ∧ z35 = .v z10 ∧ z32 = z7) ∧ (z24 = false → z11 ∧ z42 ∧ z47 = .v z10 ∧ z39 = z7))) ∧ (z36 = false → z41 ∧ (z12 = true → (Fun Tryz.prog 76 z45 z28 (.v z16) z21) ∧ z35 = .v z10 ∧ z33 = z7) ∧ (z12 = false → (z24 = true → z11 ∧ (Fun Tryz.prog 76 z46 z28 (.v z16) z22) ∧ z35 = .v z10 ∧ z34 = z7) ∧ (z24 = false → z11 ∧ z54 ∧ z47 = .v z10 ∧ z40 = z7)))))) (by kernel_rfl) ?_
 refine ⟨(by simp only [List.length_cons, List.length_nil]; omega), (as_i64 (by omega) (by omega)), (by omega), (by omega), (by omega), (as_str (txt_there (s := r.s) (a := r.at_) (n := n) (by omega) (by omega) (by omega) (by first | omega | (simp only [mrTell]; omega)))), dsp (fun h1 p1 => ?_) fun h1 p1 => ?_⟩
 refine ⟨(utfText_i utf0 _ (by omega)), dsp (fun h2 p2 => ?_) fun h2 p2 => ?_⟩
 refine ⟨(by omega), (by omega), fun h3 => have q3 := bnot_t h3; have p3 := of_decide_eq_false q3; ?_, fun h3 => have q3 := bnot_f h3; have p3 := of_decide_eq_true q3; ?_⟩
 refine ⟨(by simp only [List.length_append, List.length_take, List.length_cons, List.length_nil]; omega), h2, (as_i64 (by omega) (by omega)), (stop_i (⟨r.plan, r.s, r.at_, (r.out ++ [(openEv f n)]) ++ [(⟨4, 0, 0, 0, List.take (Int.toNat (utfBad utf0 (txtThere r n))) (txtThere r n), 0, 0⟩ : Ev)], r.fail⟩ : Mr) _ _), ?_⟩
 refine have hm1 : txtStep r f n = (mrFail (⟨r.plan, r.s, r.at_, (r.out ++ [(openEv f n)]) ++ [(⟨4, 0, 0, 0, List.take (Int.toNat (utfBad utf0 (txtThere r n))) (txtThere r n), 0, 0⟩ : Ev)], r.fail⟩ : Mr) 5 (r.at_ + (utfBad utf0 (txtThere r n)))) := ?_; ?_
 rotate_left
 refine ⟨(sB ?_), (by rw [hm1] <;> rfl)⟩
 rotate_left
 refine ⟨h2, (as_i64 (by omega) (by omega)), (stop_i (⟨r.plan, r.s, r.at_, r.out ++ [(openEv f n)], r.fail⟩ : Mr) _ _), ?_⟩
 refine have hm1 : txtStep r f n = (mrFail (⟨r.plan, r.s, r.at_, r.out ++ [(openEv f n)], r.fail⟩ : Mr) 5 (r.at_ + (utfBad utf0 (txtThere r n)))) := ?_; ?_
 rotate_left
 refine ⟨(sB ?_), (by rw [hm1] <;> rfl)⟩
 rotate_left
 refine ⟨fun h3 => have q3 := bnot_t h3; have p3 := of_decide_eq_false q3; ?_, fun h3 => have q3 := bnot_f h3; have p3 := of_decide_eq_true q3; ?_⟩
 refine ⟨(by simp only [List.length_append, List.length_cons, List.length_nil]; omega), h2, dsp (fun h4 p4 => ?_) fun h4 p4 => ?_⟩
 refine ⟨(stop_i (⟨r.plan, r.s, r.at_, (r.out ++ [(openEv f n)]) ++ [(⟨4, 0, 0, 0, txtThere r n, 0, 0⟩ : Ev)], r.fail⟩ : Mr) _ _), ?_⟩
 refine have hm1 : txtStep r f n = (mrFail (⟨r.plan, r.s, r.at_, (r.out ++ [(openEv f n)]) ++ [(⟨4, 0, 0, 0, txtThere r n, 0, 0⟩ : Ev)], r.fail⟩ : Mr) 10 (r.s.length : Int)) := ?_; ?_
 rotate_left
 refine ⟨(sB ?_), (by rw [hm1] <;> rfl)⟩
 rotate_left
 refine ⟨fun h5 => have q5 := bnot_t h5; have p5 := (andF dT (andF dT dF)).1 q5; ?_, fun h5 => have q5 := bnot_f h5; have p5 := (andT dT (andT dT dT)).1 q5; ?_⟩
 refine ⟨(as_i64 (by omega) (by omega)), (stop_i (⟨r.plan, r.s, r.at_, (r.out ++ [(openEv f n)]) ++ [(⟨4, 0, 0, 0, txtThere r n, 0, 0⟩ : Ev)], r.fail⟩ : Mr) _ _), ?_⟩
 refine have hm1 : txtStep r f n = (mrFail (⟨r.plan, r.s, r.at_, (r.out ++ [(openEv f n)]) ++ [(⟨4, 0, 0, 0, txtThere r n, 0, 0⟩ : Ev)], r.fail⟩ : Mr) 5 (r.at_ + n)) := ?_; ?_
 rotate_left
 refine ⟨(sB ?_), (by rw [hm1] <;> rfl)⟩
 rotate_left
 refine ⟨(as_i64 (by omega) (by omega)), (by simp only [List.length_append, List.length_cons, List.length_nil]; omega), ?_⟩
 refine have hm1 : txtStep r f n = (⟨r.plan, r.s, r.at_ + n, ((r.out ++ [(openEv f n)]) ++ [(⟨4, 0, 0, 0, txtThere r n, 0, 0⟩ : Ev)]) ++ [shutEv], r.fail⟩ : Mr) := ?_; ?_
 rotate_left
 refine ⟨(sB ?_), (by rw [hm1] <;> rfl)⟩
 rotate_left
 refine ⟨h2, dsp (fun h4 p4 => ?_) fun h4 p4 => ?_⟩
 refine ⟨(stop_i (⟨r.plan, r.s, r.at_, r.out ++ [(openEv f n)], r.fail⟩ : Mr) _ _), ?_⟩
 refine have hm1 : txtStep r f n = (mrFail (⟨r.plan, r.s, r.at_, r.out ++ [(openEv f n)], r.fail⟩ : Mr) 10 (r.s.length : Int)) := ?_; ?_
 rotate_left
 refine ⟨(sB ?_), (by rw [hm1] <;> rfl)⟩
 rotate_left
 refine ⟨fun h5 => have q5 := bnot_t h5; have p5 := (andF dT (andF dT dF)).1 q5; ?_, fun h5 => have q5 := bnot_f h5; have p5 := (andT dT (andT dT dT)).1 q5; ?_⟩
 refine ⟨(as_i64 (by omega) (by omega)), (stop_i (⟨r.plan, r.s, r.at_, r.out ++ [(openEv f n)], r.fail⟩ : Mr) _ _), ?_⟩
 refine have hm1 : txtStep r f n = (mrFail (⟨r.plan, r.s, r.at_, r.out ++ [(openEv f n)], r.fail⟩ : Mr) 5 (r.at_ + n)) := ?_; ?_
 rotate_left
 refine ⟨(sB ?_), (by rw [hm1] <;> rfl)⟩
 rotate_left
 refine ⟨(as_i64 (by omega) (by omega)), (by simp only [List.length_append, List.length_cons, List.length_nil]; omega), ?_⟩
 refine have hm1 : txtStep r f n = (⟨r.plan, r.s, r.at_ + n, (r.out ++ [(openEv f n)]) ++ [shutEv], r.fail⟩ : Mr) := ?_; ?_
 rotate_left
 refine ⟨(sB ?_), (by rw [hm1] <;> rfl)⟩
 rotate_left
 refine ⟨(by decide), fun h2 => have q2 := bnot_t h2; have p2 := of_decide_eq_false q2; ?_, fun h2 => have q2 := bnot_f h2; have p2 := of_decide_eq_true q2; ?_⟩
 refine ⟨(by simp only [List.length_append, List.length_cons, List.length_nil]; omega), (by decide), dsp (fun h3 p3 => ?_) fun h3 p3 => ?_⟩
 refine ⟨(stop_i (⟨r.plan, r.s, r.at_, (r.out ++ [(openEv f n)]) ++ [(⟨4, 0, 0, 0, txtThere r n, 0, 0⟩ : Ev)], r.fail⟩ : Mr) _ _), ?_⟩
 refine have hm1 : txtStep r f n = (mrFail (⟨r.plan, r.s, r.at_, (r.out ++ [(openEv f n)]) ++ [(⟨4, 0, 0, 0, txtThere r n, 0, 0⟩ : Ev)], r.fail⟩ : Mr) 10 (r.s.length : Int)) := ?_; ?_
 rotate_left
 refine ⟨(sB ?_), (by rw [hm1] <;> rfl)⟩
 rotate_left
 refine ⟨fun h4 => have q4 := bnot_t h4; have p4 := (andF dT (andF dT dF)).1 q4; ?_, fun h4 => have q4 := bnot_f h4; have p4 := (andT dT (andT dT dT)).1 q4; ?_⟩
 refine ⟨(as_i64 (by omega) (by omega)), (stop_i (⟨r.plan, r.s, r.at_, (r.out ++ [(openEv f n)]) ++ [(⟨4, 0, 0, 0, txtThere r n, 0, 0⟩ : Ev)], r.fail⟩ : Mr) _ _), ?_⟩
 refine have hm1 : txtStep r f n = (mrFail (⟨r.plan, r.s, r.at_, (r.out ++ [(openEv f n)]) ++ [(⟨4, 0, 0, 0, txtThere r n, 0, 0⟩ : Ev)], r.fail⟩ : Mr) 5 (r.at_ + n)) := ?_; ?_
 rotate_left
 refine ⟨(sB ?_), (by rw [hm1] <;> rfl)⟩
 rotate_left
 refine ⟨(as_i64 (by omega) (by omega)), (by simp only [List.length_append, List.length_cons, List.length_nil]; omega), ?_⟩
 refine have hm1 : txtStep r f n = (⟨r.plan, r.s, r.at_ + n, ((r.out ++ [(openEv f n)]) ++ [(⟨4, 0, 0, 0, txtThere r n, 0, 0⟩ : Ev)]) ++ [shutEv], r.fail⟩ : Mr) := ?_; ?_
 rotate_left
 refine ⟨(sB ?_), (by rw [hm1] <;> rfl)⟩
 rotate_left
 refine ⟨(by decide), dsp (fun h3 p3 => ?_) fun h3 p3 => ?_⟩
 refine ⟨(stop_i (⟨r.plan, r.s, r.at_, r.out ++ [(openEv f n)], r.fail⟩ : Mr) _ _), ?_⟩
 refine have hm1 : txtStep r f n = (mrFail (⟨r.plan, r.s, r.at_, r.out ++ [(openEv f n)], r.fail⟩ : Mr) 10 (r.s.length : Int)) := ?_; ?_
 rotate_left
 refine ⟨(sB ?_), (by rw [hm1] <;> rfl)⟩
 rotate_left
 refine ⟨fun h4 => have q4 := bnot_t h4; have p4 := (andF dT (andF dT dF)).1 q4; ?_, fun h4 => have q4 := bnot_f h4; have p4 := (andT dT (andT dT dT)).1 q4; ?_⟩
 refine ⟨(as_i64 (by omega) (by omega)), (stop_i (⟨r.plan, r.s, r.at_, r.out ++ [(openEv f n)], r.fail⟩ : Mr) _ _), ?_⟩
 refine have hm1 : txtStep r f n = (mrFail (⟨r.plan, r.s, r.at_, r.out ++ [(openEv f n)], r.fail⟩ : Mr) 5 (r.at_ + n)) := ?_; ?_
 rotate_left
 refine ⟨(sB ?_), (by rw [hm1] <;> rfl)⟩
 rotate_left
 refine ⟨(as_i64 (by omega) (by omega)), (by simp only [List.length_append, List.length_cons, List.length_nil]; omega), ?_⟩
 refine have hm1 : txtStep r f n = (⟨r.plan, r.s, r.at_ + n, (r.out ++ [(openEv f n)]) ++ [shutEv], r.fail⟩ : Mr) := ?_; ?_
 rotate_left
 refine ⟨(sB ?_), (by rw [hm1] <;> rfl)⟩
 rotate_left
 all_goals first | (simp [hm1, mrFail, failEv, hp3]; done) | (simp_all [txtStep, txtTold, txtGood, txtBad, txtSt, mrTell, mrAt, mrFail, openEv, partEv, shutEv]; done) | (grind (ematch := 20) (gen := 20) [txtStep, txtTold, txtGood, txtBad, txtSt, mrTell, mrAt, mrFail, openEv, partEv, shutEv])
theorem text_s (r : Mr) (f : Fld) (n : Int) (hp1 : List.length (r).s ≤ 1048576) (hp2 : (r).at_ ≤ ((List.length (r).s : Nat) : Int)) (hp3 : (r).fail.kind = 0) (hp4 : ((List.length (r).out : Nat) : Int) + 4 * (((List.length (r).s : Nat) : Int) - (r).at_) ≤ 99999996) (hp5 : (0 : Int) ≤ (r).at_) (hp6 : (0 : Int) ≤ n ∧ (r).at_ + n ≤ 9223372036854775807) : Fun Tryz.prog 137 [vP 0, .agg (cFld f), vI n] [.cells (oMr6 1 r), .lst .ev r.out] (.tup []) [.cells (oMr6 2 (txtStep r f n)), .dead, .lst .ev (txtStep r f n).out] := by
 have hN : bigN = 274877906944 := rfl
 have htl := txtThere_len hp6.1 hp5 hp2
 have hub := utfBad_b utf0 (txtThere r n)
 have hu0 : utf0.want = 0 ∧ utf0.low = 0 ∧ utf0.high = 0 := ⟨rfl, rfl, rfl⟩
 have huw := utfOk_want (utfSt_ok (u := utf0) (s := txtThere r n) (by decide))
 have huz : (utfSt utf0 (txtThere r n)).want = 0 → (utfSt utf0 (txtThere r n)).low = 0 ∧ (utfSt utf0 (txtThere r n)).high = 0 := fun h0 => by rw [utfOk_zero (utfSt_ok (u := utf0) (s := txtThere r n) (by decide)) h0]; exact ⟨rfl, rfl⟩
 refine fun_ofw Tryz.func137 (by kernel_rfl) (by kernel_rfl) (w := let zi : Int → C := .int .i64; let z6 : List C := [zi 5, zi 0, .int .u64 0, zi 0, .str [], zi 0, zi 0]; let z8 := mrTell r (openEv f n); let z9 := mrTell z8 (⟨4, 0, 0, 0, txtThere r n, 0, 0⟩ : Ev); let z14 : List Blk := [.cells (oMr6 2 (txtStep r f n)), .dead, .lst .ev (txtStep r f n).out]; let z15 := (z8.s.length : Int); let z18 := z8.at_ + n; let z4 : List C := [.seq .shp z8.plan.shapes, zi z8.plan.root, zi z8.plan.deep, zi z8.plan.most, .str z8.s, zi z18, .own 1, zi z8.fail.kind, zi z8.fail.field, .int .u64 z8.fail.bits, zi z8.fail.len, .str z8.fail.text, zi z8.fail.code, zi z8.fail.at_]; let z19 := txtThere r n; let z7 : List C := [zi 4, zi 0, .int .u64 0, zi 0, .str z19, zi 0, zi 0]; let z17 := decide ((z19.length : Int) < n); let z21 := (.v (vI (IntKind.i64.wrap z18)) : S) = .v (vI z18); let z22 := z9.at_ + n; let z2 : List C := [.seq .shp z9.plan.shapes, zi z9.plan.root, zi z9.plan.deep, zi z9.plan.most, .str z9.s, zi z22, .own 1, zi z9.fail.kind, zi z9.fail.field, .int .u64 z9.fail.bits, zi z9.fail.len, .str z9.fail.text, zi z9.fail.code, zi z9.fail.at_]; let z23 := utf0; let z13 := utfBad z23 z19; let z24 := failEv 10 z15; let z3 : List C := [.seq .shp z8.plan.shapes, zi z8.plan.root, zi z8.plan.deep, zi z8.plan.most, .str z8.s, zi z8.at_, .own 2, zi z24.kind, zi z24.field, .int .u64 z24.bits, zi z24.len, .str z24.text, zi z24.code, zi z24.at_]; let z25 : List Blk := [.cells (oMr6 2 z9), .dead, .lst .ev z9.out]; let z26 := (.tup [] : S); let z27 := (.v (vI (IntKind.i64.wrap z22)) : S) = .v (vI z22); let z28 := decide (0 < (utfSt z23 z19).want); let z29 := failEv 5 z22; let z30 := failEv 5 z18; let z31 := mrTell (⟨z9.plan, z9.s, z9.at_ + n, z9.out, z9.fail⟩ : Mr) shutEv; let z11 : List Blk := [.cells (oMr6 2 z31), .dead, .lst .ev z31.out]; let z32 := mrTell (⟨z8.plan, z8.s, z8.at_ + n, z8.out, z8.fail⟩ : Mr) shutEv; let z12 : List Blk := [.cells (oMr6 2 z32), .dead, .lst .ev z32.out]; let z34 := !decide (txtThere r n = []); let z35 := (z9.s.length : Int); let z16 := failEv 10 z35; let z1 : List C := [.seq .shp z9.plan.shapes, zi z9.plan.root, zi z9.plan.deep, zi z9.plan.most, .str z9.s, zi z9.at_, .own 2, zi z16.kind, zi z16.field, .int .u64 z16.bits, zi z16.len, .str z16.text, zi z16.code, zi z16.at_]; let z36 := ([.cells z1, .dead, .lst .ev z9.out] : List Blk); let z37 := ([.cells z3, .dead, .lst .ev z8.out] : List Blk); let z38 := z8.at_ + z13; let z20 := failEv 5 z38; let z5 : List C := [zi z20.kind, zi z20.field, .int .u64 z20.bits, zi z20.len, .str z20.text, zi z20.code, zi z20.at_]; let z10 := mrTell (⟨z8.plan, z8.s, z8.at_, z8.out, z20⟩ : Mr) (⟨4, 0, 0, 0, List.take (z13.toNat) z19, 0, 0⟩ : Ev); let z33 : List Blk := [.cells (oMr6 2 z10), .dead, .lst .ev z10.out]; let z39 := !decide (List.take (z13.toNat) z19 = []); let z40 := (!decide (z9.fail.kind = 0)) = false; let z41 := (!decide (z8.fail.kind = 0)) = false; let z42 : List Blk := [.cells (oMr6 2 z8), .dead, .lst .ev z8.out]; let z43 : List V := [vP 0, .agg z6]; (.seg [.call [0, 1] (.tup []) z42, .ord (os 22 [19]) [], .as 34 (.v (vI z18)), .call [] (.v (vI (min z15 z18))) [], .as 36 (.v (vT z19))] (.br (.seg [.call [] (.tup [.agg (cUtf (utfSt z23 z19)), vI z13]) []] (.br (.seg [.as 56 (.v (vI z38)), .call [] (.v (.agg (cEv z20))) []] (.br (.seg [.call [0, 3] (.tup []) z33, .br true] (.leaf () [0, 1, 6])) (.seg [.br true] (.leaf () [0, 1, 3])))) (.br (.seg [.call [0, 3] (.tup []) z25, .br false] (.br (.seg [.call [] (.v (.agg (cEv z16))) []] (.leaf () [0, 1, 6])) (.br (.seg [.as 112 (.v (vI z22)), .call [] (.v (.agg (cEv z29))) []] (.leaf () [0, 1, 6])) (.seg [.as 75 (.v (vI z22)), .call [0, 6] (.tup []) z11] (.leaf () [0, 1, 7]))))) (.seg [.br false] (.br (.seg [.call [] (.v (.agg (cEv z24))) []] (.leaf () [0, 1, 3])) (.br (.seg [.as 112 (.v (vI z18)), .call [] (.v (.agg (cEv z30))) []] (.leaf () [0, 1, 3])) (.seg [.as 75 (.v (vI z18)), .call [0, 3] (.tup []) z12] (.leaf () [0, 1, 6])))))))) (.br (.seg [.call [0, 3] (.tup []) z25, .br false] (.br (.seg [.call [] (.v (.agg (cEv z16))) []] (.leaf () [0, 1, 5])) (.seg [.br false, .as 75 (.v (vI z22)), .call [0, 5] (.tup []) z11] (.leaf () [0, 1, 6])))) (.seg [.br false] (.br (.seg [.call [] (.v (.agg (cEv z24))) []] (.leaf () [0, 1, 3])) (.seg [.br false, .as 75 (.v (vI z18)), .call [0, 3] (.tup []) z12] (.leaf () [0, 1, 5])))))), (Fun Tryz.prog 136 [vP 0, .agg [zi 3, zi f.number, .int .u64 0, zi n, .str [], zi 0, zi 0]] [.cells (oMr6 1 r), .lst .ev r.out] (.tup []) z42) ∧ z21 ∧ z21 ∧ (Fun Tryz.prog 50 [vI z15, vI z18] [] (.v (vI (min z15 z18))) []) ∧ (min z15 z18 ≤ z15) ∧ (z8.at_ ≤ min z15 z18) ∧ ((0 : Int) ≤ z8.at_) ∧ ((.v (vT (List.drop (z8.at_.toNat) (List.take (Int.toNat (min z15 z18)) z8.s))) : S) = .v (vT z19)) ∧ ((decide (f.kind = 6)) = true → (Fun Tryz.prog 149 [.agg [zi 0, zi 0, zi 0], vT z19] [] (.tup [.agg (cUtf (utfSt z23 z19)), vI z13]) []) ∧ ((decide (0 ≤ utfBad z23 z19)) = true → ((.v (vI (IntKind.i64.wrap z38)) : S) = .v (vI z38)) ∧ (Fun Tryz.prog 85 [vI 5, vI z38] [] (.v (.agg (cEv z20))) []) ∧ (utfBad z23 z19 ≤ (z19.length : Int)) ∧ ((0 : Int) ≤ utfBad z23 z19) ∧ (z39 = true → (Fun Tryz.prog 136 [vP 0, .agg [zi 4, zi 0, .int .u64 0, zi 0, .str (List.take (z13.toNat) z19), zi 0, zi 0]] [.cells (.seq .shp z8.plan.shapes :: zi z8.plan.root :: zi z8.plan.deep :: zi z8.plan.most :: .str z8.s :: zi z8.at_ :: .own 1 :: z5), .lst .ev z8.out] (.tup []) z33) ∧ ((!decide (z10.fail.kind = 0)) = true) ∧ z26 = .tup [] ∧ (z33 : List Blk) = z14) ∧ (z39 = false → ((!decide (z20.kind = 0)) = true) ∧ z26 = .tup [] ∧ ([.cells (.seq .shp z8.plan.shapes :: zi z8.plan.root :: zi z8.plan.deep :: zi z8.plan.most :: .str z8.s :: zi z8.at_ :: .own 2 :: z5), .dead, .lst .ev z8.out] : List Blk) = z14)) ∧ ((decide (0 ≤ utfBad z23 z19)) = false → (z34 = true → (Fun Tryz.prog 136 [vP 0, .agg z7] [.cells (oMr6 1 z8), .lst .ev z8.out] (.tup []) z25) ∧ z40 ∧ (z17 = true → (Fun Tryz.prog 85 [vI 10, vI z35] [] (.v (.agg (cEv z16))) []) ∧ z26 = .tup [] ∧ z36 = z14) ∧ (z17 = false → (z28 = true → z27 ∧ (Fun Tryz.prog 85 [vI 5, vI z22] [] (.v (.agg (cEv z29))) []) ∧ z26 = .tup [] ∧ ([.cells [.seq .shp z9.plan.shapes, zi z9.plan.root, zi z9.plan.deep, zi z9.plan.most, .str z9.s, zi z9.at_, .own 2, zi z29.kind, zi z29.field, .int .u64 z29.bits, zi z29.len, .str z29.text, zi z29.code, zi z29.at_], .dead, .lst .ev z9.out] : List Blk) = z14) ∧ (z28 = false → z27 ∧ (Fun Tryz.prog 136 z43 [.cells z2, .lst .ev z9.out] (.tup []) z11) ∧ z26 = .tup [] ∧ (z11 : List Blk) = z14))) ∧ (z34 = false → z41 ∧ (z17 = true → (Fun Tryz.prog 85 [vI 10, vI z15] [] (.v (.agg (cEv z24))) []) ∧ z26 = .tup [] ∧ z37 = z14) ∧ (z17 = false → (z28 = true → z21 ∧ (Fun Tryz.prog 85 [vI 5, vI z18] [] (.v (.agg (cEv z30))) []) ∧ z26 = .tup [] ∧ ([.cells [.seq .shp z8.plan.shapes, zi z8.plan.root, zi z8.plan.deep, zi z8.plan.most, .str z8.s, zi z8.at_, .own 2, zi z30.kind, zi z30.field, .int .u64 z30.bits, zi z30.len, .str z30.text, zi z30.code, zi z30.at_], .dead, .lst .ev z8.out] : List Blk) = z14) ∧ (z28 = false → z21 ∧ (Fun Tryz.prog 136 z43 [.cells z4, .lst .ev z8.out] (.tup []) z12) ∧ z26 = .tup [] ∧ (z12 : List Blk) = z14))))) ∧ ((decide (f.kind = 6)) = false → (z34 = true → (Fun Tryz.prog 136 [vP 0, .agg z7] [.cells (oMr6 1 z8), .lst .ev z8.out] (.tup []) z25) ∧ z40 ∧ (z17 = true → (Fun Tryz.prog 85 [vI 10, vI z35] [] (.v (.agg (cEv z16))) []) ∧ z26 = .tup [] ∧ z36 = z14) ∧ (z17 = false → ((decide (0 < 0)) = false) ∧ z27 ∧ (Fun Tryz.prog 136 z43 [.cells z2, .lst .ev z9.out] (.tup []) z11) ∧ z26 = .tup [] ∧ (z11 : List Blk) = z14)) ∧ (z34 = false → z41 ∧ (z17 = true → (Fun Tryz.prog 85 [vI 10, vI z15] [] (.v (.agg (cEv z24))) []) ∧ z26 = .tup [] ∧ z37 = z14) ∧ (z17 = false → ((decide (0 < 0)) = false) ∧ z21 ∧ (Fun Tryz.prog 136 z43 [.cells z4, .lst .ev z8.out] (.tup []) z12) ∧ z26 = .tup [] ∧ (z12 : List Blk) = z14))))) (by kernel_rfl) ?_
 refine ⟨(tell_s r (openEv f n) (by omega)), (as_i64 (by simp only [mrTell]; omega) (by simp only [mrTell]; omega)), (as_i64 (by simp only [mrTell]; omega) (by simp only [mrTell]; omega)), (l1min _ _), (by simp only [List.length_append, List.length_cons, List.length_nil, mrTell]; omega), (by simp only [List.length_append, List.length_cons, List.length_nil, mrTell]; omega), (by simp only [mrTell]; omega), (as_str (txt_there (s := r.s) (a := r.at_) (n := n) (by omega) (by omega) (by omega) (by first | omega | (simp only [mrTell]; omega)))), dsp (fun h1 p1 => ?_) fun h1 p1 => ?_⟩
 refine ⟨(utfText_s utf0 _ (by omega)), dsp (fun h2 p2 => ?_) fun h2 p2 => ?_⟩
 refine ⟨(as_i64 (by simp only [mrTell]; omega) (by simp only [mrTell]; omega)), (failure_s _ _), (by omega), (by omega), fun h3 => have q3 := bnot_t h3; have p3 := of_decide_eq_false q3; ?_, fun h3 => have q3 := bnot_f h3; have p3 := of_decide_eq_true q3; ?_⟩
 refine ⟨(tell_s (⟨(mrTell r (openEv f n)).plan, (mrTell r (openEv f n)).s, (mrTell r (openEv f n)).at_, (mrTell r (openEv f n)).out, (failEv 5 ((mrTell r (openEv f n)).at_ + (utfBad utf0 (txtThere r n))))⟩ : Mr) (⟨4, 0, 0, 0, List.take (Int.toNat (utfBad utf0 (txtThere r n))) (txtThere r n), 0, 0⟩ : Ev) (by simp only [List.length_append, List.length_cons, List.length_nil, mrTell]; omega)), (bnot_mkt (decide_eq_false (by simp [mrTell, failEv]))), ?_⟩
 refine have hm1 : txtStep r f n = (mrTell (⟨(mrTell r (openEv f n)).plan, (mrTell r (openEv f n)).s, (mrTell r (openEv f n)).at_, (mrTell r (openEv f n)).out, (failEv 5 ((mrTell r (openEv f n)).at_ + (utfBad utf0 (txtThere r n))))⟩ : Mr) (⟨4, 0, 0, 0, List.take (Int.toNat (utfBad utf0 (txtThere r n))) (txtThere r n), 0, 0⟩ : Ev)) := ?_; ?_
 rotate_left
 exact ⟨rfl, (by rw [hm1] <;> rfl)⟩
 refine ⟨(bnot_mkt (decide_eq_false (by simp [mrTell, failEv]))), ?_⟩
 refine have hm1 : txtStep r f n = (⟨(mrTell r (openEv f n)).plan, (mrTell r (openEv f n)).s, (mrTell r (openEv f n)).at_, (mrTell r (openEv f n)).out, (failEv 5 ((mrTell r (openEv f n)).at_ + (utfBad utf0 (txtThere r n))))⟩ : Mr) := ?_; ?_
 rotate_left
 exact ⟨rfl, (by rw [hm1] <;> rfl)⟩
 refine ⟨fun h3 => have q3 := bnot_t h3; have p3 := of_decide_eq_false q3; ?_, fun h3 => have q3 := bnot_f h3; have p3 := of_decide_eq_true q3; ?_⟩
 refine ⟨(tell_s (mrTell r (openEv f n)) (⟨4, 0, 0, 0, txtThere r n, 0, 0⟩ : Ev) (by simp only [List.length_append, List.length_cons, List.length_nil, mrTell]; omega)), (bnot_mkf (decide_eq_true hp3)), dsp (fun h4 p4 => ?_) fun h4 p4 => ?_⟩
 refine ⟨(failure_s _ _), ?_⟩
 refine have hm1 : txtStep r f n = (⟨(mrTell (mrTell r (openEv f n)) (⟨4, 0, 0, 0, txtThere r n, 0, 0⟩ : Ev)).plan, (mrTell (mrTell r (openEv f n)) (⟨4, 0, 0, 0, txtThere r n, 0, 0⟩ : Ev)).s, (mrTell (mrTell r (openEv f n)) (⟨4, 0, 0, 0, txtThere r n, 0, 0⟩ : Ev)).at_, (mrTell (mrTell r (openEv f n)) (⟨4, 0, 0, 0, txtThere r n, 0, 0⟩ : Ev)).out, (failEv 10 ((List.length (mrTell (mrTell r (openEv f n)) (⟨4, 0, 0, 0, txtThere r n, 0, 0⟩ : Ev)).s : Nat) : Int))⟩ : Mr) := ?_; ?_
 rotate_left
 exact ⟨rfl, (by rw [hm1] <;> rfl)⟩
 refine dsp (fun h5 p5 => ?_) fun h5 p5 => ?_
 refine ⟨(as_i64 (by simp only [mrTell]; omega) (by simp only [mrTell]; omega)), (failure_s _ _), ?_⟩
 refine have hm1 : txtStep r f n = (⟨(mrTell (mrTell r (openEv f n)) (⟨4, 0, 0, 0, txtThere r n, 0, 0⟩ : Ev)).plan, (mrTell (mrTell r (openEv f n)) (⟨4, 0, 0, 0, txtThere r n, 0, 0⟩ : Ev)).s, (mrTell (mrTell r (openEv f n)) (⟨4, 0, 0, 0, txtThere r n, 0, 0⟩ : Ev)).at_, (mrTell (mrTell r (openEv f n)) (⟨4, 0, 0, 0, txtThere r n, 0, 0⟩ : Ev)).out, (failEv 5 ((mrTell (mrTell r (openEv f n)) (⟨4, 0, 0, 0, txtThere r n, 0, 0⟩ : Ev)).at_ + n))⟩ : Mr) := ?_; ?_
 rotate_left
 exact ⟨rfl, (by rw [hm1] <;> rfl)⟩
 refine ⟨(as_i64 (by simp only [mrTell]; omega) (by simp only [mrTell]; omega)), (tell_s (⟨(mrTell (mrTell r (openEv f n)) (⟨4, 0, 0, 0, txtThere r n, 0, 0⟩ : Ev)).plan, (mrTell (mrTell r (openEv f n)) (⟨4, 0, 0, 0, txtThere r n, 0, 0⟩ : Ev)).s, (mrTell (mrTell r (openEv f n)) (⟨4, 0, 0, 0, txtThere r n, 0, 0⟩ : Ev)).at_ + n, (mrTell (mrTell r (openEv f n)) (⟨4, 0, 0, 0, txtThere r n, 0, 0⟩ : Ev)).out, (mrTell (mrTell r (openEv f n)) (⟨4, 0, 0, 0, txtThere r n, 0, 0⟩ : Ev)).fail⟩ : Mr) shutEv (by simp only [List.length_append, List.length_cons, List.length_nil, mrTell]; omega)), ?_⟩
 refine have hm1 : txtStep r f n = (mrTell (⟨(mrTell (mrTell r (openEv f n)) (⟨4, 0, 0, 0, txtThere r n, 0, 0⟩ : Ev)).plan, (mrTell (mrTell r (openEv f n)) (⟨4, 0, 0, 0, txtThere r n, 0, 0⟩ : Ev)).s, (mrTell (mrTell r (openEv f n)) (⟨4, 0, 0, 0, txtThere r n, 0, 0⟩ : Ev)).at_ + n, (mrTell (mrTell r (openEv f n)) (⟨4, 0, 0, 0, txtThere r n, 0, 0⟩ : Ev)).out, (mrTell (mrTell r (openEv f n)) (⟨4, 0, 0, 0, txtThere r n, 0, 0⟩ : Ev)).fail⟩ : Mr) shutEv) := ?_; ?_
 rotate_left
 exact ⟨rfl, (by rw [hm1] <;> rfl)⟩
 refine ⟨(bnot_mkf (decide_eq_true hp3)), dsp (fun h4 p4 => ?_) fun h4 p4 => ?_⟩
 refine ⟨(failure_s _ _), ?_⟩
 refine have hm1 : txtStep r f n = (⟨(mrTell r (openEv f n)).plan, (mrTell r (openEv f n)).s, (mrTell r (openEv f n)).at_, (mrTell r (openEv f n)).out, (failEv 10 ((List.length (mrTell r (openEv f n)).s : Nat) : Int))⟩ : Mr) := ?_; ?_
 rotate_left
 exact ⟨rfl, (by rw [hm1] <;> rfl)⟩
 refine dsp (fun h5 p5 => ?_) fun h5 p5 => ?_
 refine ⟨(as_i64 (by simp only [mrTell]; omega) (by simp only [mrTell]; omega)), (failure_s _ _), ?_⟩
 refine have hm1 : txtStep r f n = (⟨(mrTell r (openEv f n)).plan, (mrTell r (openEv f n)).s, (mrTell r (openEv f n)).at_, (mrTell r (openEv f n)).out, (failEv 5 ((mrTell r (openEv f n)).at_ + n))⟩ : Mr) := ?_; ?_
 rotate_left
 exact ⟨rfl, (by rw [hm1] <;> rfl)⟩
 refine ⟨(as_i64 (by simp only [mrTell]; omega) (by simp only [mrTell]; omega)), (tell_s (⟨(mrTell r (openEv f n)).plan, (mrTell r (openEv f n)).s, (mrTell r (openEv f n)).at_ + n, (mrTell r (openEv f n)).out, (mrTell r (openEv f n)).fail⟩ : Mr) shutEv (by simp only [List.length_append, List.length_cons, List.length_nil, mrTell]; omega)), ?_⟩
 refine have hm1 : txtStep r f n = (mrTell (⟨(mrTell r (openEv f n)).plan, (mrTell r (openEv f n)).s, (mrTell r (openEv f n)).at_ + n, (mrTell r (openEv f n)).out, (mrTell r (openEv f n)).fail⟩ : Mr) shutEv) := ?_; ?_
 rotate_left
 exact ⟨rfl, (by rw [hm1] <;> rfl)⟩
 refine ⟨fun h2 => have q2 := bnot_t h2; have p2 := of_decide_eq_false q2; ?_, fun h2 => have q2 := bnot_f h2; have p2 := of_decide_eq_true q2; ?_⟩
 refine ⟨(tell_s (mrTell r (openEv f n)) (⟨4, 0, 0, 0, txtThere r n, 0, 0⟩ : Ev) (by simp only [List.length_append, List.length_cons, List.length_nil, mrTell]; omega)), (bnot_mkf (decide_eq_true hp3)), dsp (fun h3 p3 => ?_) fun h3 p3 => ?_⟩
 refine ⟨(failure_s _ _), ?_⟩
 refine have hm1 : txtStep r f n = (⟨(mrTell (mrTell r (openEv f n)) (⟨4, 0, 0, 0, txtThere r n, 0, 0⟩ : Ev)).plan, (mrTell (mrTell r (openEv f n)) (⟨4, 0, 0, 0, txtThere r n, 0, 0⟩ : Ev)).s, (mrTell (mrTell r (openEv f n)) (⟨4, 0, 0, 0, txtThere r n, 0, 0⟩ : Ev)).at_, (mrTell (mrTell r (openEv f n)) (⟨4, 0, 0, 0, txtThere r n, 0, 0⟩ : Ev)).out, (failEv 10 ((List.length (mrTell (mrTell r (openEv f n)) (⟨4, 0, 0, 0, txtThere r n, 0, 0⟩ : Ev)).s : Nat) : Int))⟩ : Mr) := ?_; ?_
 rotate_left
 exact ⟨rfl, (by rw [hm1] <;> rfl)⟩
 refine ⟨(by decide), (as_i64 (by simp only [mrTell]; omega) (by simp only [mrTell]; omega)), (tell_s (⟨(mrTell (mrTell r (openEv f n)) (⟨4, 0, 0, 0, txtThere r n, 0, 0⟩ : Ev)).plan, (mrTell (mrTell r (openEv f n)) (⟨4, 0, 0, 0, txtThere r n, 0, 0⟩ : Ev)).s, (mrTell (mrTell r (openEv f n)) (⟨4, 0, 0, 0, txtThere r n, 0, 0⟩ : Ev)).at_ + n, (mrTell (mrTell r (openEv f n)) (⟨4, 0, 0, 0, txtThere r n, 0, 0⟩ : Ev)).out, (mrTell (mrTell r (openEv f n)) (⟨4, 0, 0, 0, txtThere r n, 0, 0⟩ : Ev)).fail⟩ : Mr) shutEv (by simp only [List.length_append, List.length_cons, List.length_nil, mrTell]; omega)), ?_⟩
 refine have hm1 : txtStep r f n = (mrTell (⟨(mrTell (mrTell r (openEv f n)) (⟨4, 0, 0, 0, txtThere r n, 0, 0⟩ : Ev)).plan, (mrTell (mrTell r (openEv f n)) (⟨4, 0, 0, 0, txtThere r n, 0, 0⟩ : Ev)).s, (mrTell (mrTell r (openEv f n)) (⟨4, 0, 0, 0, txtThere r n, 0, 0⟩ : Ev)).at_ + n, (mrTell (mrTell r (openEv f n)) (⟨4, 0, 0, 0, txtThere r n, 0, 0⟩ : Ev)).out, (mrTell (mrTell r (openEv f n)) (⟨4, 0, 0, 0, txtThere r n, 0, 0⟩ : Ev)).fail⟩ : Mr) shutEv) := ?_; ?_
 rotate_left
 exact ⟨rfl, (by rw [hm1] <;> rfl)⟩
 refine ⟨(bnot_mkf (decide_eq_true hp3)), dsp (fun h3 p3 => ?_) fun h3 p3 => ?_⟩
 refine ⟨(failure_s _ _), ?_⟩
 refine have hm1 : txtStep r f n = (⟨(mrTell r (openEv f n)).plan, (mrTell r (openEv f n)).s, (mrTell r (openEv f n)).at_, (mrTell r (openEv f n)).out, (failEv 10 ((List.length (mrTell r (openEv f n)).s : Nat) : Int))⟩ : Mr) := ?_; ?_
 rotate_left
 exact ⟨rfl, (by rw [hm1] <;> rfl)⟩
 refine ⟨(by decide), (as_i64 (by simp only [mrTell]; omega) (by simp only [mrTell]; omega)), (tell_s (⟨(mrTell r (openEv f n)).plan, (mrTell r (openEv f n)).s, (mrTell r (openEv f n)).at_ + n, (mrTell r (openEv f n)).out, (mrTell r (openEv f n)).fail⟩ : Mr) shutEv (by simp only [List.length_append, List.length_cons, List.length_nil, mrTell]; omega)), ?_⟩
 refine have hm1 : txtStep r f n = (mrTell (⟨(mrTell r (openEv f n)).plan, (mrTell r (openEv f n)).s, (mrTell r (openEv f n)).at_ + n, (mrTell r (openEv f n)).out, (mrTell r (openEv f n)).fail⟩ : Mr) shutEv) := ?_; ?_
 rotate_left
 exact ⟨rfl, (by rw [hm1] <;> rfl)⟩
 all_goals first | (simp [hm1, mrFail, failEv, hp3]; done) | (simp_all [txtStep, txtTold, txtGood, txtBad, txtSt, mrTell, mrAt, mrFail, openEv, partEv, shutEv]; done) | (grind (ematch := 20) (gen := 20) [txtStep, txtTold, txtGood, txtBad, txtSt, mrTell, mrAt, mrFail, openEv, partEv, shutEv])
def MsgC_i (K : Nat) : Prop := ∀ (r : Mr) (shape : Int) (end_ : Int) (deep : Int) (hp1 : List.length (r).s ≤ 1048576) (hp2 : (r).at_ ≤ ((List.length (r).s : Nat) : Int)) (hp3 : (r).fail.kind = 0) (hp4 : ((List.length (r).out : Nat) : Int) + 4 * (((List.length (r).s : Nat) : Int) - (r).at_) ≤ 100000000) (hp5 : (0 : Int) ≤ (r).at_) (hp6 : -1000000000 ≤ end_ ∧ end_ ≤ 9223372036854775807) (hp7 : planOk (r).plan = true) (hp8 : (1 : Int) ≤ deep ∧ deep ≤ (r).plan.deep) (hp9 : Int.toNat ((r).plan.deep - deep) < K), Fun Tryz.prog 44 [vP 0, vI shape, vI end_, vI deep] [.cells (oMr6 1 r), .lst .ev r.out] (.v (vB (decide ((msgN (Int.toNat ((r).plan.deep - deep)) shape end_ r).fail.kind = 0)))) [.cells (oMr6 2 (msgN (Int.toNat ((r).plan.deep - deep)) shape end_ r)), .dead, .lst .ev (msgN (Int.toNat ((r).plan.deep - deep)) shape end_ r).out]
theorem long_i (K : Nat) (hM : MsgC_i K) (r : Mr) (f : Fld) (known : Bool) (end_ : Int) (deep : Int) (hp1 : List.length (r).s ≤ 1048576) (hp2 : (r).at_ ≤ ((List.length (r).s : Nat) : Int)) (hp3 : (r).fail.kind = 0) (hp4 : ((List.length (r).out : Nat) : Int) + 4 * (((List.length (r).s : Nat) : Int) - (r).at_) ≤ 100000000) (hp5 : (0 : Int) ≤ (r).at_) (hp6 : -1000000000 ≤ end_ ∧ end_ ≤ 9223372036854775807) (hp7 : planOk (r).plan = true) (hp8 : (1 : Int) ≤ deep ∧ deep ≤ (r).plan.deep) (hp9 : known = true → 1 ≤ (f).number) (hp10 : known = true → 1 ≤ (f).kind ∧ (f).kind ≤ 8) (hp11 : Int.toNat ((r).plan.deep - deep) ≤ K) : Fun Tryz.prog 79 [vP 0, .agg (cFld f), vB known, vI end_, vI deep] [.cells (oMr6 1 r), .lst .ev r.out] (.v (vB (decide ((longStep (subN (Int.toNat ((r).plan.deep - deep))) r f (known) end_).fail.kind = 0)))) [.cells (oMr6 2 (longStep (subN (Int.toNat ((r).plan.deep - deep))) r f (known) end_)), .dead, .lst .ev (longStep (subN (Int.toNat ((r).plan.deep - deep))) r f (known) end_).out] := by
 have hN : bigN = 274877906944 := rfl
 have hpt := planOk_t hp7
 obtain ⟨hv, hv2, hv3⟩ := mrVar_adv (e := end_) hp2
 have hvk := mrVarOk_kind (r := r) (e := end_) hp3
 have hu := mrVarU_b r end_
 have hvs := congrArg List.length hv.1.s
 have hvo := congrArg List.length hv3
 have hvp := hv.1.plan
 have hvd : (mrVar r end_).plan.deep = r.plan.deep := by rw [hvp]
 have hnm : numeric f.kind = true ↔ 1 ≤ f.kind ∧ f.kind ≤ 5 := by simp [numeric, within]
 refine fun_ofw Tryz.func79 (by kernel_rfl) (by kernel_rfl) (w := let zi : Int → C := .int .i64; let z2 := longStep (subN (Int.toNat ((r).plan.deep - deep))) r f (known) end_; let z3 := mrVar r end_; let z5 := (z3.s.length : Int); let z6 : List Blk := [.cells (oMr6 2 z2), .dead, .lst .ev z2.out]; let z7 := vB (decide (z2.fail.kind = 0)); let z9 : List Blk := [.cells (oMr6 1 z3), .lst .ev z3.out]; let z11 := (⟨6, f.number, 0, mrVarU r end_, [], 0, 0⟩ : Ev); let z13 := mrVarU r end_; let z4 := z3.at_ + z13; let z8 := txtStep z3 f z13; let z10 := (.v (vI (IntKind.i64.wrap z4)) : S) = .v (vI z4); let z12 : List Blk := [.cells (oMr6 2 (mrRun z3 f z4)), .dead, .lst .ev (mrRun z3 f z4).out]; let z14 := vB (decide ((mrRun z3 f z4).fail.kind = 0)); let z15 := mrFail z3 8 r.at_; let z16 := mrFail z3 6 r.at_; let z18 : List Blk := [.cells (oMr6 2 z8), .dead, .lst .ev z8.out]; let z20 := vB false; let z21 := mrFail z3 10 z5; let z22 := (.v (vI (IntKind.i64.wrap (z5 - z3.at_))) : S) = .v (vI (z5 - z3.at_)); let z23 := (.v (vI (IntKind.i64.wrap (deep + 1))) : S) = .v (vI (deep + 1)); let z24 := end_ - z3.at_; let z25 := vB (decide (z8.fail.kind = 0)); let z26 := (⟨z3.plan, z3.s, z3.at_, z3.out ++ [z11], z3.fail⟩ : Mr); let z1 := msgN (Int.toNat ((z26).plan.deep - (deep + 1))) f.msg z4 z26; let z17 : List Blk := [.cells (oMr6 2 z1), .dead, .lst .ev z1.out]; let z19 := decide (z1.fail.kind = 0); let z27 := mrVarOk r end_; let z28 := numeric f.kind; let z29 := decide (end_ - z3.at_ < mrVarU r end_); let z30 := (.v z20 : S); let z31 := decide (z5 - z3.at_ < mrVarU r end_); (.seg [.call [0, 1] (.tup [.c (.int .u64 z13), vB z27]) z9] (.br (.seg [.at 0, .cut 0 6] (.leaf () [0, 1, 3])) (.seg [.as 35 (.v (vI z24)), .as 36 (.v (.c (.int .u64 z24)))] (.br (.seg [.call [0, 1] (.v z20) [.cells (oMr6 1 z15), .lst .ev z15.out], .at 0, .cut 0 6] (.leaf () [0, 1, 3])) (.seg [.as 42 (.v (vI z13))] (.br (.seg [.ord (os 12 []) [], .as 56 (.v (vI (z5 - z3.at_)))] (.br (.seg [.call [0, 1] (.v z20) [.cells (oMr6 1 z21), .lst .ev z21.out], .at 0, .cut 0 6] (.leaf () [0, 1, 3])) (.seg [.as 70 (.v (vI z4)), .at 0, .cut 0 6] (.leaf () [0, 1, 3])))) (.br (.br (.seg [.call [0, 1] (.v z20) [.cells (oMr6 1 z16), .lst .ev z16.out], .at 0, .cut 0 6] (.leaf () [0, 1, 3])) (.seg [.ord (os 14 [9, 10, 13]) [1], .ty .ev, .ty .ev, .tree (fr (.one 11 (.first 12 (.done))) 0 11) 11 [], .as 108 (.v (vI z4)), .as 110 (.v (vI (deep + 1))), .call [0, 4] (.v (vB z19)) z17] (.br (.leaf () [0, 1, 5]) (.seg [.ty .ev, .ty .ev] (.leaf () [0, 1, 7]))))) (.seg [.call [] (.v (vB z28)) []] (.br (.seg [.tree (fr (.one 8 (.first 9 (.done))) 0 8) 8 [], .as 134 (.v (vI z4)), .call [0, 1] (.v z14) z12] (.leaf () [0, 1, 3])) (.seg [.call [0, 1] (.v z25) z18] (.leaf () [0, 1, 3])))))))))), (Fun Tryz.prog 73 [vP 0, vI end_] [.cells (oMr6 1 r), .lst .ev r.out] (.tup [.c (.int .u64 z13), vB z27]) z9) ∧ ((!z27) = true → z30 = .v z7 ∧ ([.cells (oMr6 2 z3), .dead, .lst .ev z3.out] : List Blk) = z6) ∧ ((!z27) = false → ((.v (vI (IntKind.i64.wrap z24)) : S) = .v (vI z24)) ∧ ((.v (.c (.int .u64 (IntKind.u64.wrap z24))) : S) = .v (.c (.int .u64 z24))) ∧ (z29 = true → (Fun Tryz.prog 76 [vP 0, vI 8, vI r.at_] z9 (.v z20) [.cells (oMr6 1 z15), .lst .ev z15.out]) ∧ z30 = .v z7 ∧ ([.cells (oMr6 2 z15), .dead, .lst .ev z15.out] : List Blk) = z6) ∧ (z29 = false → ((.v (vI (IntKind.i64.wrap z13)) : S) = .v (vI z13)) ∧ ((!known) = true → z22 ∧ z22 ∧ (z31 = true → (Fun Tryz.prog 76 [vP 0, vI 10, vI z5] z9 (.v z20) [.cells (oMr6 1 z21), .lst .ev z21.out]) ∧ z30 = .v z7 ∧ ([.cells (oMr6 2 z21), .dead, .lst .ev z21.out] : List Blk) = z6) ∧ (z31 = false → z10 ∧ (.v (vB true) : S) = .v z7 ∧ ([.cells [.seq .shp z3.plan.shapes, zi z3.plan.root, zi z3.plan.deep, zi z3.plan.most, .str z3.s, zi z4, .own 2, zi z3.fail.kind, zi z3.fail.field, .int .u64 z3.fail.bits, zi z3.fail.len, .str z3.fail.text, zi z3.fail.code, zi z3.fail.at_], .dead, .lst .ev z3.out] : List Blk) = z6)) ∧ ((!known) = false → ((decide (f.kind = 8)) = true → ((decide (deep = z3.plan.deep)) = true → (Fun Tryz.prog 76 [vP 0, vI 6, vI r.at_] z9 (.v z20) [.cells (oMr6 1 z16), .lst .ev z16.out]) ∧ z30 = .v z7 ∧ ([.cells (oMr6 2 z16), .dead, .lst .ev z16.out] : List Blk) = z6) ∧ ((decide (deep = z3.plan.deep)) = false → (z3.out.length + List.length [z11] ≤ bigN) ∧ z10 ∧ z10 ∧ z23 ∧ z23 ∧ (Fun Tryz.prog 44 [vP 0, vI f.msg, vI z4, vI (deep + 1)] [.cells (oMr6 1 z3), .lst .ev (z3.out ++ [z11])] (.v (vB z19)) z17) ∧ ((!z19) = true → z30 = .v z7 ∧ (z17 : List Blk) = z6) ∧ ((!z19) = false → (z1.out.length + List.length [(⟨7, 0, 0, 0, [], 0, 0⟩ : Ev)] ≤ bigN) ∧ (.v (vB true) : S) = .v z7 ∧ ([.cells (oMr6 2 z1), .dead, .lst .ev (z1.out ++ [(⟨7, 0, 0, 0, [], 0, 0⟩ : Ev)])] : List Blk) = z6))) ∧ ((decide (f.kind = 8)) = false → (Fun Tryz.prog 130 [vI f.kind] [] (.v (vB z28)) []) ∧ (z28 = true → z10 ∧ z10 ∧ (Fun Tryz.prog 131 [vP 0, .agg (cFld f), vI z4] z9 (.v z14) z12) ∧ (.v z14 : S) = .v z7 ∧ (z12 : List Blk) = z6) ∧ (z28 = false → (Fun Tryz.prog 132 [vP 0, .agg (cFld f), vI z13] z9 (.v z25) z18) ∧ (.v z25 : S) = .v z7 ∧ (z18 : List Blk) = z6))))))) (by kernel_rfl) ?_
 refine ⟨(variable_i r _ (by omega)), fun h1 => have q1 := bnot_t h1; ?_, fun h1 => have q1 := bnot_f h1; ?_⟩
 have hok := q1
 refine have hm1 : longStep (subN (Int.toNat ((r).plan.deep - deep))) r f (known) end_ = (mrVar r end_) := ?_; ?_
 rotate_left
 refine ⟨(sB ?_), (by rw [hm1] <;> rfl)⟩
 rotate_left
 have hok := q1
 have hk : (mrVar r end_).fail.kind = 0 := by rw [hvk] at hok; simpa using hok
 have ha := hv.1.at_ hk
 have hb := hv.2 hk
 have h2 := hv2 hok
 refine ⟨(as_i64 (by omega) (by omega)), (as_u64 (by omega) (by omega)), dsp (fun h2 p2 => ?_) fun h2 p2 => ?_⟩
 refine ⟨(stop_i (mrVar r end_) _ _), ?_⟩
 refine have hm1 : longStep (subN (Int.toNat ((r).plan.deep - deep))) r f (known) end_ = (mrFail (mrVar r end_) 8 r.at_) := ?_; ?_
 rotate_left
 refine ⟨(sB ?_), (by rw [hm1] <;> rfl)⟩
 rotate_left
 refine ⟨(as_i64 (by omega) (by omega)), fun h3 => have q3 := bnot_t h3; ?_, fun h3 => have q3 := bnot_f h3; ?_⟩
 refine ⟨(as_i64 (by omega) (by omega)), (as_i64 (by omega) (by omega)), dsp (fun h4 p4 => ?_) fun h4 p4 => ?_⟩
 refine ⟨(stop_i (mrVar r end_) _ _), ?_⟩
 refine have hm1 : longStep (subN (Int.toNat ((r).plan.deep - deep))) r f (known) end_ = (mrFail (mrVar r end_) 10 ((List.length (mrVar r end_).s : Nat) : Int)) := ?_; ?_
 rotate_left
 refine ⟨(sB ?_), (by rw [hm1] <;> rfl)⟩
 rotate_left
 refine ⟨(as_i64 (by omega) (by omega)), ?_⟩
 refine have hm1 : longStep (subN (Int.toNat ((r).plan.deep - deep))) r f (known) end_ = (⟨(mrVar r end_).plan, (mrVar r end_).s, (mrVar r end_).at_ + (mrVarU r end_), (mrVar r end_).out, (mrVar r end_).fail⟩ : Mr) := ?_; ?_
 rotate_left
 refine ⟨(sB ?_), (by rw [hm1] <;> rfl)⟩
 rotate_left
 refine dsp (fun h4 p4 => ?_) fun h4 p4 => ?_
 refine dsp (fun h5 p5 => ?_) fun h5 p5 => ?_
 have hsub : ∀ (v : Mr) (n s : Int), subN (Int.toNat (r.plan.deep - deep)) v f n s = mrFail v 6 s := fun v n s => by rw [show Int.toNat (r.plan.deep - deep) = 0 by omega]; rfl
 refine ⟨(stop_i (mrVar r end_) _ _), ?_⟩
 refine have hm1 : longStep (subN (Int.toNat ((r).plan.deep - deep))) r f (known) end_ = (mrFail (mrVar r end_) 6 r.at_) := ?_; ?_
 rotate_left
 refine ⟨(sB ?_), (by rw [hm1] <;> rfl)⟩
 rotate_left
 have hsub : ∀ (v : Mr) (n s : Int), subN (Int.toNat (r.plan.deep - deep)) v f n s = if (msgN (Int.toNat (r.plan.deep - (deep + 1))) f.msg (v.at_ + n) (mrTell v (downEv f n))).fail.kind = 0 then mrTell (msgN (Int.toNat (r.plan.deep - (deep + 1))) f.msg (v.at_ + n) (mrTell v (downEv f n))) upEv else (msgN (Int.toNat (r.plan.deep - (deep + 1))) f.msg (v.at_ + n) (mrTell v (downEv f n))) := fun v n s => by rw [show Int.toNat (r.plan.deep - deep) = Int.toNat (r.plan.deep - (deep + 1)) + 1 by omega]; rfl
 refine ⟨(by first | omega | (dsimp only; omega) | (simp only [List.length_append, List.length_cons, List.length_nil, mrTell]; omega)), (as_i64 (by omega) (by omega)), (as_i64 (by omega) (by omega)), (as_i64 (by omega) (by omega)), (as_i64 (by omega) (by omega)), (hM (⟨(mrVar r end_).plan, (mrVar r end_).s, (mrVar r end_).at_, (mrVar r end_).out ++ [(⟨6, f.number, 0, mrVarU r end_, [], 0, 0⟩ : Ev)], (mrVar r end_).fail⟩ : Mr) _ _ _ (by first | omega | (dsimp only; omega) | (simp only [List.length_append, List.length_cons, List.length_nil, mrTell]; omega)) (by first | omega | (dsimp only; omega) | (simp only [List.length_append, List.length_cons, List.length_nil, mrTell]; omega)) (by first | assumption | simpa [mrTell] using hk) (by first | omega | (dsimp only; omega) | (simp only [List.length_append, List.length_cons, List.length_nil, mrTell]; omega)) (by first | omega | (dsimp only; omega) | (simp only [List.length_append, List.length_cons, List.length_nil, mrTell]; omega)) (by omega) (by simpa [mrTell, hvp] using hp7) (by simp only [mrTell, hvp]; omega) (by simp only [mrTell, hvp]; omega)), fun h6 => have q6 := bnot_t h6; have p6 := of_decide_eq_false q6; ?_, fun h6 => have q6 := bnot_f h6; have p6 := of_decide_eq_true q6; ?_⟩
 refine have hm1 : longStep (subN (Int.toNat ((r).plan.deep - deep))) r f (known) end_ = (msgN (Int.toNat (((⟨(mrVar r end_).plan, (mrVar r end_).s, (mrVar r end_).at_, (mrVar r end_).out ++ [(⟨6, f.number, 0, mrVarU r end_, [], 0, 0⟩ : Ev)], (mrVar r end_).fail⟩ : Mr)).plan.deep - (deep + 1))) f.msg ((mrVar r end_).at_ + (mrVarU r end_)) (⟨(mrVar r end_).plan, (mrVar r end_).s, (mrVar r end_).at_, (mrVar r end_).out ++ [(⟨6, f.number, 0, mrVarU r end_, [], 0, 0⟩ : Ev)], (mrVar r end_).fail⟩ : Mr)) := ?_; ?_
 rotate_left
 refine ⟨(sB ?_), (by rw [hm1] <;> rfl)⟩
 rotate_left
 refine ⟨(msgN_room (by first | omega | (dsimp only; omega) | (simp only [List.length_append, List.length_cons, List.length_nil, mrTell]; omega)) (by first | omega | (dsimp only; omega) | (simp only [List.length_append, List.length_cons, List.length_nil, mrTell]; omega))), ?_⟩
 refine have hm1 : longStep (subN (Int.toNat ((r).plan.deep - deep))) r f (known) end_ = (⟨(msgN (Int.toNat (((⟨(mrVar r end_).plan, (mrVar r end_).s, (mrVar r end_).at_, (mrVar r end_).out ++ [(⟨6, f.number, 0, mrVarU r end_, [], 0, 0⟩ : Ev)], (mrVar r end_).fail⟩ : Mr)).plan.deep - (deep + 1))) f.msg ((mrVar r end_).at_ + (mrVarU r end_)) (⟨(mrVar r end_).plan, (mrVar r end_).s, (mrVar r end_).at_, (mrVar r end_).out ++ [(⟨6, f.number, 0, mrVarU r end_, [], 0, 0⟩ : Ev)], (mrVar r end_).fail⟩ : Mr)).plan, (msgN (Int.toNat (((⟨(mrVar r end_).plan, (mrVar r end_).s, (mrVar r end_).at_, (mrVar r end_).out ++ [(⟨6, f.number, 0, mrVarU r end_, [], 0, 0⟩ : Ev)], (mrVar r end_).fail⟩ : Mr)).plan.deep - (deep + 1))) f.msg ((mrVar r end_).at_ + (mrVarU r end_)) (⟨(mrVar r end_).plan, (mrVar r end_).s, (mrVar r end_).at_, (mrVar r end_).out ++ [(⟨6, f.number, 0, mrVarU r end_, [], 0, 0⟩ : Ev)], (mrVar r end_).fail⟩ : Mr)).s, (msgN (Int.toNat (((⟨(mrVar r end_).plan, (mrVar r end_).s, (mrVar r end_).at_, (mrVar r end_).out ++ [(⟨6, f.number, 0, mrVarU r end_, [], 0, 0⟩ : Ev)], (mrVar r end_).fail⟩ : Mr)).plan.deep - (deep + 1))) f.msg ((mrVar r end_).at_ + (mrVarU r end_)) (⟨(mrVar r end_).plan, (mrVar r end_).s, (mrVar r end_).at_, (mrVar r end_).out ++ [(⟨6, f.number, 0, mrVarU r end_, [], 0, 0⟩ : Ev)], (mrVar r end_).fail⟩ : Mr)).at_, (msgN (Int.toNat (((⟨(mrVar r end_).plan, (mrVar r end_).s, (mrVar r end_).at_, (mrVar r end_).out ++ [(⟨6, f.number, 0, mrVarU r end_, [], 0, 0⟩ : Ev)], (mrVar r end_).fail⟩ : Mr)).plan.deep - (deep + 1))) f.msg ((mrVar r end_).at_ + (mrVarU r end_)) (⟨(mrVar r end_).plan, (mrVar r end_).s, (mrVar r end_).at_, (mrVar r end_).out ++ [(⟨6, f.number, 0, mrVarU r end_, [], 0, 0⟩ : Ev)], (mrVar r end_).fail⟩ : Mr)).out ++ [(⟨7, 0, 0, 0, [], 0, 0⟩ : Ev)], (msgN (Int.toNat (((⟨(mrVar r end_).plan, (mrVar r end_).s, (mrVar r end_).at_, (mrVar r end_).out ++ [(⟨6, f.number, 0, mrVarU r end_, [], 0, 0⟩ : Ev)], (mrVar r end_).fail⟩ : Mr)).plan.deep - (deep + 1))) f.msg ((mrVar r end_).at_ + (mrVarU r end_)) (⟨(mrVar r end_).plan, (mrVar r end_).s, (mrVar r end_).at_, (mrVar r end_).out ++ [(⟨6, f.number, 0, mrVarU r end_, [], 0, 0⟩ : Ev)], (mrVar r end_).fail⟩ : Mr)).fail⟩ : Mr) := ?_; ?_
 rotate_left
 refine ⟨(sB ?_), (by rw [hm1] <;> rfl)⟩
 rotate_left
 refine ⟨(numeric_i _), fun h5 => have p5 := within_t h5; ?_, fun h5 => have p5 := within_f h5; ?_⟩
 refine ⟨(as_i64 (by omega) (by omega)), (as_i64 (by omega) (by omega)), (run_i (mrVar r end_) f _ (by omega) (by omega) (by first | assumption | simpa [mrTell] using hk) (by omega) (by omega) (by omega) (by grind)), ?_⟩
 refine have hm1 : longStep (subN (Int.toNat ((r).plan.deep - deep))) r f (known) end_ = (mrRun (mrVar r end_) f ((mrVar r end_).at_ + (mrVarU r end_))) := ?_; ?_
 rotate_left
 refine ⟨(sB ?_), (by rw [hm1] <;> rfl)⟩
 rotate_left
 refine ⟨(text_i (mrVar r end_) f _ (by omega) (by omega) (by first | assumption | simpa [mrTell] using hk) (by omega) (by omega) (by omega)), ?_⟩
 refine have hm1 : longStep (subN (Int.toNat ((r).plan.deep - deep))) r f (known) end_ = (txtStep (mrVar r end_) f (mrVarU r end_)) := ?_; ?_
 rotate_left
 refine ⟨(sB ?_), (by rw [hm1] <;> rfl)⟩
 rotate_left
 all_goals first | (grind (ematch := 20) (gen := 20) [longStep, mrTell, mrAt, mrFail, downEv, upEv, failEv])
def MsgC_s (K : Nat) : Prop := ∀ (r : Mr) (shape : Int) (end_ : Int) (deep : Int) (hp1 : List.length (r).s ≤ 1048576) (hp2 : (r).at_ ≤ ((List.length (r).s : Nat) : Int)) (hp3 : (r).fail.kind = 0) (hp4 : ((List.length (r).out : Nat) : Int) + 4 * (((List.length (r).s : Nat) : Int) - (r).at_) ≤ 100000000) (hp5 : (0 : Int) ≤ (r).at_) (hp6 : -1000000000 ≤ end_ ∧ end_ ≤ 9223372036854775807) (hp7 : planOk (r).plan = true) (hp8 : (1 : Int) ≤ deep ∧ deep ≤ (r).plan.deep) (hp9 : Int.toNat ((r).plan.deep - deep) < K), Fun Tryz.prog 46 [vP 0, vI shape, vI end_, vI deep] [.cells (oMr6 1 r), .lst .ev r.out] (.tup []) [.cells (oMr6 2 (msgN (Int.toNat ((r).plan.deep - deep)) shape end_ r)), .dead, .lst .ev (msgN (Int.toNat ((r).plan.deep - deep)) shape end_ r).out]
structure long_s_V0 where
 r : Mr
def long_s_F0 (r : Mr) (f : Fld) (end_ : Int) : Fam := ⟨long_s_V0, fun q1 => [(0, .v (vP 0)), (5, .v (vP 3)), (11, .v (vI ((mrVar r end_).at_ + (mrVarU r end_))))], fun q1 => [.cells (oMr6 2 q1.r), .dead, .lst .ev q1.r.out, .cells (cFld f)], fun q1 => LInv (fun x => numStep x f (wireOf f.kind) ((mrVar r end_).at_ + mrVarU r end_)) ((mrVar r end_).at_ + mrVarU r end_) (mrVar r end_) q1.r, fun q1 => mrMu q1.r⟩
theorem long_s (K : Nat) (hM : MsgC_s K) (r : Mr) (f : Fld) (end_ : Int) (deep : Int) (hp1 : List.length (r).s ≤ 1048576) (hp2 : (r).at_ ≤ ((List.length (r).s : Nat) : Int)) (hp3 : (r).fail.kind = 0) (hp4 : ((List.length (r).out : Nat) : Int) + 4 * (((List.length (r).s : Nat) : Int) - (r).at_) ≤ 100000000) (hp5 : (0 : Int) ≤ (r).at_) (hp6 : -1000000000 ≤ end_ ∧ end_ ≤ 9223372036854775807) (hp7 : planOk (r).plan = true) (hp8 : (1 : Int) ≤ deep ∧ deep ≤ (r).plan.deep) (hp9 : (0 : Int) ≤ (f).number) (hp10 : (f).number = 0 ∨ 1 ≤ (f).kind ∧ (f).kind ≤ 8) (hp11 : Int.toNat ((r).plan.deep - deep) ≤ K) : Fun Tryz.prog 88 [vP 0, .agg (cFld f), vI end_, vI deep] [.cells (oMr6 1 r), .lst .ev r.out] (.tup []) [.cells (oMr6 2 (longStep (subN (Int.toNat ((r).plan.deep - deep))) r f (decide ((f).number ≠ 0)) end_)), .dead, .lst .ev (longStep (subN (Int.toNat ((r).plan.deep - deep))) r f (decide ((f).number ≠ 0)) end_).out] := by
 have hN : bigN = 274877906944 := rfl
 have hpt := planOk_t hp7
 obtain ⟨hv, hv2, hv3⟩ := mrVar_adv (e := end_) hp2
 have hvk := mrVarOk_kind (r := r) (e := end_) hp3
 have hu := mrVarU_b r end_
 have hvs := congrArg List.length hv.1.s
 have hvo := congrArg List.length hv3
 have hvp := hv.1.plan
 have hvd : (mrVar r end_).plan.deep = r.plan.deep := by rw [hvp]
 have hnm : numeric f.kind = true ↔ 1 ≤ f.kind ∧ f.kind ≤ 5 := by simp [numeric, within]
 refine fun_ofw Tryz.func88 (by kernel_rfl) (by kernel_rfl) (w := let zi : Int → C := .int .i64; let z7 := mrVar r end_; let z8 := mrTell z7 (⟨6, f.number, 0, mrVarU r end_, [], 0, 0⟩ : Ev); let z10 := (z7.s.length : Int); let z11 := mrVarU r end_; let z9 : List Blk := [.cells (oMr6 2 (txtStep z7 f z11)), .dead, .lst .ev (txtStep z7 f z11).out]; let z13 : List Blk := [.cells (oMr6 1 z7), .lst .ev z7.out]; let z14 := z7.at_ + z11; let z15 := failEv 8 r.at_; let z16 := failEv 6 r.at_; let z17 := (.tup [] : S); let z18 := failEv 10 z10; let z19 := longStep (subN (Int.toNat ((r).plan.deep - deep))) r f (decide ((f).number ≠ 0)) end_; let z6 : List Blk := [.cells (oMr6 2 z19), .dead, .lst .ev z19.out]; let z21 := (.v (vI (IntKind.i64.wrap (z10 - z7.at_))) : S) = .v (vI (z10 - z7.at_)); let z23 := (.v (vI (IntKind.i64.wrap (deep + 1))) : S) = .v (vI (deep + 1)); let z24 := end_ - z7.at_; let z25 := long_s_F0 r f end_; let z26 := (.v (vI (IntKind.i64.wrap z14)) : S) = .v (vI z14); let z27 := wireOf f.kind; let z28 := z8.at_ + z11; let z5 := msgN (Int.toNat ((z8).plan.deep - (deep + 1))) f.msg z28 z8; let z20 : List Blk := [.cells (oMr6 2 z5), .dead, .lst .ev z5.out]; let z22 := (.v (vI (IntKind.i64.wrap z28)) : S) = .v (vI z28); let z29 := mrTell z5 (⟨7, 0, 0, 0, [], 0, 0⟩ : Ev); let z12 : List Blk := [.cells (oMr6 2 z29), .dead, .lst .ev z29.out]; let z30 := decide (end_ - z7.at_ < mrVarU r end_); let z31 := decide (z10 - z7.at_ < mrVarU r end_); let z32 : List Blk := [.cells (oMr6 2 z8), .dead, .lst .ev z8.out]; (.seg [.call [0, 1] (.v (.c (.int .u64 z11))) z13] (.br (.seg [.at 0, .cut 0 6] (.leaf () [0, 1, 3])) (.seg [.as 31 (.v (vI z24)), .as 32 (.v (.c (.int .u64 z24)))] (.br (.seg [.call [] (.v (.agg (cEv z15))) [], .at 0, .cut 0 6] (.leaf () [0, 1, 3])) (.seg [.as 40 (.v (vI z11))] (.br (.seg [.ord (os 12 []) [], .as 81 (.v (vI (z10 - z7.at_)))] (.br (.seg [.call [] (.v (.agg (cEv z18))) [], .at 0, .cut 0 6] (.leaf () [0, 1, 3])) (.seg [.as 99 (.v (vI z14)), .at 0, .cut 0 6] (.leaf () [0, 1, 3])))) (.br (.br (.seg [.call [] (.v (.agg (cEv z16))) [], .at 0, .cut 0 6] (.leaf () [0, 1, 3])) (.seg [.call [0, 1] (.tup []) z32, .ord (os 12 [11]) [], .as 132 (.v (vI z28)), .as 134 (.v (vI (deep + 1))), .call [0, 3] (.tup []) z20] (.br (.seg [.call [0, 4] (.tup []) z12] (.leaf () [0, 1, 5])) (.leaf () [0, 1, 4])))) (.br (.seg [.call [0, 1] (.tup []) z9] (.leaf () [0, 1, 3])) (.br (.seg [.call [0, 1] (.tup []) z9] (.leaf () [0, 1, 3])) (.seg [.as 46 (.v (vI z14)), .at 0, .cut 0 6, .keep [0, 5, 11], .sel [0, 1, 3, 2]] (.loop z25 fun q1 => let z1 := numStep q1.r f z27 z14; .br (.br (.seg [.ord [(0, true), (1, true), (2, true), (3, true), (5, true), (4, false), (6, false)] [], .call [] (.v (vI z27)) [], .call [0, 2] (.tup []) [.cells (oMr6 2 z1), .dead, .lst .ev z1.out], .at 0, .keep [0, 5, 11], .sel [0, 1, 4, 3]] (.next)) (.leaf () [0, 1, 2])) (.leaf () [0, 1, 2]))))))))))), (Fun Tryz.prog 82 [vP 0, vI end_] [.cells (oMr6 1 r), .lst .ev r.out] (.v (.c (.int .u64 z11))) z13) ∧ ((!decide (z7.fail.kind = 0)) = true → z17 = .tup [] ∧ ([.cells (oMr6 2 z7), .dead, .lst .ev z7.out] : List Blk) = z6) ∧ ((!decide (z7.fail.kind = 0)) = false → ((.v (vI (IntKind.i64.wrap z24)) : S) = .v (vI z24)) ∧ ((.v (.c (.int .u64 (IntKind.u64.wrap z24))) : S) = .v (.c (.int .u64 z24))) ∧ (z30 = true → (Fun Tryz.prog 85 [vI 8, vI r.at_] [] (.v (.agg (cEv z15))) []) ∧ z17 = .tup [] ∧ ([.cells [.seq .shp z7.plan.shapes, zi z7.plan.root, zi z7.plan.deep, zi z7.plan.most, .str z7.s, zi z7.at_, .own 2, zi z15.kind, zi z15.field, .int .u64 z15.bits, zi z15.len, .str z15.text, zi z15.code, zi z15.at_], .dead, .lst .ev z7.out] : List Blk) = z6) ∧ (z30 = false → ((.v (vI (IntKind.i64.wrap z11)) : S) = .v (vI z11)) ∧ ((decide (f.number = 0)) = true → z21 ∧ z21 ∧ (z31 = true → (Fun Tryz.prog 85 [vI 10, vI z10] [] (.v (.agg (cEv z18))) []) ∧ z17 = .tup [] ∧ ([.cells [.seq .shp z7.plan.shapes, zi z7.plan.root, zi z7.plan.deep, zi z7.plan.most, .str z7.s, zi z7.at_, .own 2, zi z18.kind, zi z18.field, .int .u64 z18.bits, zi z18.len, .str z18.text, zi z18.code, zi z18.at_], .dead, .lst .ev z7.out] : List Blk) = z6) ∧ (z31 = false → z26 ∧ z17 = .tup [] ∧ ([.cells [.seq .shp z7.plan.shapes, zi z7.plan.root, zi z7.plan.deep, zi z7.plan.most, .str z7.s, zi z14, .own 2, zi z7.fail.kind, zi z7.fail.field, .int .u64 z7.fail.bits, zi z7.fail.len, .str z7.fail.text, zi z7.fail.code, zi z7.fail.at_], .dead, .lst .ev z7.out] : List Blk) = z6)) ∧ ((decide (f.number = 0)) = false → ((decide (f.kind = 8)) = true → ((decide (z7.plan.deep ≤ deep)) = true → (Fun Tryz.prog 85 [vI 6, vI r.at_] [] (.v (.agg (cEv z16))) []) ∧ z17 = .tup [] ∧ ([.cells [.seq .shp z7.plan.shapes, zi z7.plan.root, zi z7.plan.deep, zi z7.plan.most, .str z7.s, zi z7.at_, .own 2, zi z16.kind, zi z16.field, .int .u64 z16.bits, zi z16.len, .str z16.text, zi z16.code, zi z16.at_], .dead, .lst .ev z7.out] : List Blk) = z6) ∧ ((decide (z7.plan.deep ≤ deep)) = false → (Fun Tryz.prog 136 [vP 0, .agg [zi 6, zi f.number, .int .u64 0, zi z11, .str [], zi 0, zi 0]] z13 (.tup []) z32) ∧ z22 ∧ z22 ∧ z23 ∧ z23 ∧ (Fun Tryz.prog 46 [vP 0, vI f.msg, vI z28, vI (deep + 1)] [.cells (oMr6 1 z8), .lst .ev z8.out] (.tup []) z20) ∧ ((decide (z5.fail.kind = 0)) = true → (Fun Tryz.prog 136 [vP 0, .agg [zi 7, zi 0, .int .u64 0, zi 0, .str [], zi 0, zi 0]] [.cells (oMr6 1 z5), .lst .ev z5.out] (.tup []) z12) ∧ z17 = .tup [] ∧ (z12 : List Blk) = z6) ∧ ((decide (z5.fail.kind = 0)) = false → z17 = .tup [] ∧ (z20 : List Blk) = z6))) ∧ ((decide (f.kind = 8)) = false → ((decide (f.kind = 6)) = true → (Fun Tryz.prog 137 [vP 0, .agg (cFld f), vI z11] z13 (.tup []) z9) ∧ z17 = .tup [] ∧ (z9 : List Blk) = z6) ∧ ((decide (f.kind = 6)) = false → ((decide (f.kind = 7)) = true → (Fun Tryz.prog 137 [vP 0, .agg (cFld f), vI z11] z13 (.tup []) z9) ∧ z17 = .tup [] ∧ (z9 : List Blk) = z6) ∧ ((decide (f.kind = 7)) = false → z26 ∧ z25.Has [(0, .v (vP 0)), (5, .v (vP 3)), (11, .v (vI z14))] [.cells (oMr6 2 z7), .dead, .lst .ev z7.out, .cells (cFld f)] ∧ ∀ q1, z25.inv q1 → (let z2 := numStep q1.r f z27 z14; let z3 := ([.cells (oMr6 2 q1.r), .dead, .lst .ev q1.r.out] : List Blk); let z4 := decide (q1.r.at_ < z7.at_ + z11); (z4 = true → ((decide (q1.r.fail.kind = 0)) = true → (Fun Tryz.prog 103 [vI f.kind] [] (.v (vI z27)) []) ∧ (Fun Tryz.prog 89 [vP 0, .agg (cFld f), vI z27, vI z14] [.cells (oMr6 1 q1.r), .lst .ev q1.r.out] (.tup []) [.cells (oMr6 2 z2), .dead, .lst .ev z2.out]) ∧ z25.Nxt q1 [(0, .v (vP 0)), (5, .v (vP 3)), (11, .v (vI z14))] [.cells (oMr6 2 z2), .dead, .lst .ev z2.out, .cells (cFld f)]) ∧ ((decide (q1.r.fail.kind = 0)) = false → z17 = .tup [] ∧ z3 = z6)) ∧ (z4 = false → z17 = .tup [] ∧ z3 = z6)))))))))) (by kernel_rfl) ?_
 refine ⟨(variable_s r _ (by omega)), fun h1 => have q1 := bnot_t h1; have p1 := of_decide_eq_false q1; ?_, fun h1 => have q1 := bnot_f h1; have p1 := of_decide_eq_true q1; ?_⟩
 have hok : mrVarOk r end_ = false := by rw [hvk]; simpa using q1
 refine have hm1 : longStep (subN (Int.toNat ((r).plan.deep - deep))) r f (decide ((f).number ≠ 0)) end_ = (mrVar r end_) := ?_; ?_
 rotate_left
 exact ⟨rfl, (by rw [hm1] <;> rfl)⟩
 have hok : mrVarOk r end_ = true := by rw [hvk]; simpa using q1
 have hk : (mrVar r end_).fail.kind = 0 := by rw [hvk] at hok; simpa using hok
 have ha := hv.1.at_ hk
 have hb := hv.2 hk
 have h2 := hv2 hok
 refine ⟨(as_i64 (by omega) (by omega)), (as_u64 (by omega) (by omega)), dsp (fun h2 p2 => ?_) fun h2 p2 => ?_⟩
 refine ⟨(failure_s _ _), ?_⟩
 refine have hm1 : longStep (subN (Int.toNat ((r).plan.deep - deep))) r f (decide ((f).number ≠ 0)) end_ = (⟨(mrVar r end_).plan, (mrVar r end_).s, (mrVar r end_).at_, (mrVar r end_).out, (failEv 8 r.at_)⟩ : Mr) := ?_; ?_
 rotate_left
 exact ⟨rfl, (by rw [hm1] <;> rfl)⟩
 refine ⟨(as_i64 (by omega) (by omega)), dsp (fun h3 p3 => ?_) fun h3 p3 => ?_⟩
 refine ⟨(as_i64 (by omega) (by omega)), (as_i64 (by omega) (by omega)), dsp (fun h4 p4 => ?_) fun h4 p4 => ?_⟩
 refine ⟨(failure_s _ _), ?_⟩
 refine have hm1 : longStep (subN (Int.toNat ((r).plan.deep - deep))) r f (decide ((f).number ≠ 0)) end_ = (⟨(mrVar r end_).plan, (mrVar r end_).s, (mrVar r end_).at_, (mrVar r end_).out, (failEv 10 ((List.length (mrVar r end_).s : Nat) : Int))⟩ : Mr) := ?_; ?_
 rotate_left
 exact ⟨rfl, (by rw [hm1] <;> rfl)⟩
 refine ⟨(as_i64 (by omega) (by omega)), ?_⟩
 refine have hm1 : longStep (subN (Int.toNat ((r).plan.deep - deep))) r f (decide ((f).number ≠ 0)) end_ = (⟨(mrVar r end_).plan, (mrVar r end_).s, (mrVar r end_).at_ + (mrVarU r end_), (mrVar r end_).out, (mrVar r end_).fail⟩ : Mr) := ?_; ?_
 rotate_left
 exact ⟨rfl, (by rw [hm1] <;> rfl)⟩
 refine dsp (fun h4 p4 => ?_) fun h4 p4 => ?_
 refine dsp (fun h5 p5 => ?_) fun h5 p5 => ?_
 have hsub : ∀ (v : Mr) (n s : Int), subN (Int.toNat (r.plan.deep - deep)) v f n s = mrFail v 6 s := fun v n s => by rw [show Int.toNat (r.plan.deep - deep) = 0 by omega]; rfl
 refine ⟨(failure_s _ _), ?_⟩
 refine have hm1 : longStep (subN (Int.toNat ((r).plan.deep - deep))) r f (decide ((f).number ≠ 0)) end_ = (⟨(mrVar r end_).plan, (mrVar r end_).s, (mrVar r end_).at_, (mrVar r end_).out, (failEv 6 r.at_)⟩ : Mr) := ?_; ?_
 rotate_left
 exact ⟨rfl, (by rw [hm1] <;> rfl)⟩
 have hsub : ∀ (v : Mr) (n s : Int), subN (Int.toNat (r.plan.deep - deep)) v f n s = if (msgN (Int.toNat (r.plan.deep - (deep + 1))) f.msg (v.at_ + n) (mrTell v (downEv f n))).fail.kind = 0 then mrTell (msgN (Int.toNat (r.plan.deep - (deep + 1))) f.msg (v.at_ + n) (mrTell v (downEv f n))) upEv else (msgN (Int.toNat (r.plan.deep - (deep + 1))) f.msg (v.at_ + n) (mrTell v (downEv f n))) := fun v n s => by rw [show Int.toNat (r.plan.deep - deep) = Int.toNat (r.plan.deep - (deep + 1)) + 1 by omega]; rfl
 refine ⟨(tell_s (mrVar r end_) (⟨6, f.number, 0, mrVarU r end_, [], 0, 0⟩ : Ev) (by omega)), (as_i64 (by simp only [mrTell]; omega) (by simp only [mrTell]; omega)), (as_i64 (by simp only [mrTell]; omega) (by simp only [mrTell]; omega)), (as_i64 (by omega) (by omega)), (as_i64 (by omega) (by omega)), (hM (mrTell (mrVar r end_) (⟨6, f.number, 0, mrVarU r end_, [], 0, 0⟩ : Ev)) _ _ _ (by first | omega | (dsimp only; omega) | (simp only [List.length_append, List.length_cons, List.length_nil, mrTell]; omega)) (by first | omega | (dsimp only; omega) | (simp only [List.length_append, List.length_cons, List.length_nil, mrTell]; omega)) (by first | assumption | simpa [mrTell] using hk) (by first | omega | (dsimp only; omega) | (simp only [List.length_append, List.length_cons, List.length_nil, mrTell]; omega)) (by first | omega | (dsimp only; omega) | (simp only [List.length_append, List.length_cons, List.length_nil, mrTell]; omega)) (by first | omega | (dsimp only; omega) | (simp only [List.length_append, List.length_cons, List.length_nil, mrTell]; omega)) (by simpa [mrTell, hvp] using hp7) (by simp only [mrTell, hvp]; omega) (by simp only [mrTell, hvp]; omega)), dsp (fun h6 p6 => ?_) fun h6 p6 => ?_⟩
 refine ⟨(tell_s (msgN (Int.toNat (((mrTell (mrVar r end_) (⟨6, f.number, 0, mrVarU r end_, [], 0, 0⟩ : Ev))).plan.deep - (deep + 1))) f.msg ((mrTell (mrVar r end_) (⟨6, f.number, 0, mrVarU r end_, [], 0, 0⟩ : Ev)).at_ + (mrVarU r end_)) (mrTell (mrVar r end_) (⟨6, f.number, 0, mrVarU r end_, [], 0, 0⟩ : Ev))) (⟨7, 0, 0, 0, [], 0, 0⟩ : Ev) (msgN_room0 (by first | omega | (dsimp only; omega) | (simp only [List.length_append, List.length_cons, List.length_nil, mrTell]; omega)) (by first | omega | (dsimp only; omega) | (simp only [List.length_append, List.length_cons, List.length_nil, mrTell]; omega)))), ?_⟩
 refine have hm1 : longStep (subN (Int.toNat ((r).plan.deep - deep))) r f (decide ((f).number ≠ 0)) end_ = (mrTell (msgN (Int.toNat (((mrTell (mrVar r end_) (⟨6, f.number, 0, mrVarU r end_, [], 0, 0⟩ : Ev))).plan.deep - (deep + 1))) f.msg ((mrTell (mrVar r end_) (⟨6, f.number, 0, mrVarU r end_, [], 0, 0⟩ : Ev)).at_ + (mrVarU r end_)) (mrTell (mrVar r end_) (⟨6, f.number, 0, mrVarU r end_, [], 0, 0⟩ : Ev))) (⟨7, 0, 0, 0, [], 0, 0⟩ : Ev)) := ?_; ?_
 rotate_left
 exact ⟨rfl, (by rw [hm1] <;> rfl)⟩
 refine have hm1 : longStep (subN (Int.toNat ((r).plan.deep - deep))) r f (decide ((f).number ≠ 0)) end_ = (msgN (Int.toNat (((mrTell (mrVar r end_) (⟨6, f.number, 0, mrVarU r end_, [], 0, 0⟩ : Ev))).plan.deep - (deep + 1))) f.msg ((mrTell (mrVar r end_) (⟨6, f.number, 0, mrVarU r end_, [], 0, 0⟩ : Ev)).at_ + (mrVarU r end_)) (mrTell (mrVar r end_) (⟨6, f.number, 0, mrVarU r end_, [], 0, 0⟩ : Ev))) := ?_; ?_
 rotate_left
 exact ⟨rfl, (by rw [hm1] <;> rfl)⟩
 refine dsp (fun h5 p5 => ?_) fun h5 p5 => ?_
 refine ⟨(text_s (mrVar r end_) f _ (by omega) (by omega) (by first | assumption | simpa [mrTell] using hk) (by omega) (by omega) (by omega)), ?_⟩
 refine have hm1 : longStep (subN (Int.toNat ((r).plan.deep - deep))) r f (decide ((f).number ≠ 0)) end_ = (txtStep (mrVar r end_) f (mrVarU r end_)) := ?_; ?_
 rotate_left
 exact ⟨rfl, (by rw [hm1] <;> rfl)⟩
 refine dsp (fun h6 p6 => ?_) fun h6 p6 => ?_
 refine ⟨(text_s (mrVar r end_) f _ (by omega) (by omega) (by first | assumption | simpa [mrTell] using hk) (by omega) (by omega) (by omega)), ?_⟩
 refine have hm1 : longStep (subN (Int.toNat ((r).plan.deep - deep))) r f (decide ((f).number ≠ 0)) end_ = (txtStep (mrVar r end_) f (mrVarU r end_)) := ?_; ?_
 rotate_left
 exact ⟨rfl, (by rw [hm1] <;> rfl)⟩
 refine ⟨(as_i64 (by omega) (by omega)), has_of (j := (⟨(mrVar r end_)⟩ : long_s_V0)) rfl rfl (by dsimp only [long_s_F0]; exact LInv.refl (by omega)), fun (q1 : long_s_V0) hq_q1 => ?_⟩
 have hi_q1 : LInv (fun x => numStep x f (wireOf f.kind) ((mrVar r end_).at_ + mrVarU r end_)) ((mrVar r end_).at_ + mrVarU r end_) (mrVar r end_) q1.r := hq_q1
 have hwf := wireOf_num (k := f.kind) (by omega)
 have hlg := @LInv.go _ (numStep_loop f (wireOf f.kind) ((mrVar r end_).at_ + mrVarU r end_)) _ _ _ hi_q1
 refine dsp (fun h7 p7 => ?_) fun h7 p7 => ?_
 refine dsp (fun h8 p8 => ?_) fun h8 p8 => ?_
 have hrm := hi_q1.room p8
 have hat := hi_q1.at_ p8
 exact ⟨(wireOf_s _), (num_s q1.r f _ _ (by omega) (by omega) (by first | assumption | simpa [mrTell] using hk) (by omega) (by omega) (by omega) (by omega)), nxt_of (j := (⟨(numStep q1.r f (wireOf f.kind) ((mrVar r end_).at_ + (mrVarU r end_)))⟩ : long_s_V0)) rfl rfl (by dsimp only [long_s_F0]; exact (hlg (by omega) (by omega)).1) (by dsimp only [long_s_F0]; exact (hlg (by omega) (by omega)).2)⟩
 have hend : mrRun (mrVar r end_) f ((mrVar r end_).at_ + mrVarU r end_) = q1.r := hi_q1.bad p8
 refine have hm1 : longStep (subN (Int.toNat ((r).plan.deep - deep))) r f (decide ((f).number ≠ 0)) end_ = q1.r := ?_; ?_
 rotate_left
 exact ⟨rfl, (by rw [hm1] <;> rfl)⟩
 have hend : mrRun (mrVar r end_) f ((mrVar r end_).at_ + mrVarU r end_) = q1.r := hi_q1.end_ p7
 refine have hm1 : longStep (subN (Int.toNat ((r).plan.deep - deep))) r f (decide ((f).number ≠ 0)) end_ = q1.r := ?_; ?_
 rotate_left
 exact ⟨rfl, (by rw [hm1] <;> rfl)⟩
 all_goals first | (grind (ematch := 20) (gen := 20) [longStep, mrTell, mrAt, mrFail, downEv, upEv, failEv])
structure msg1_i_V0 where
 r : Mr
def msg1_i_F0 (r : Mr) (shape : Int) (end_ : Int) (deep : Int) : Fam := ⟨msg1_i_V0, fun q1 => [(0, .v (vP 0)), (1, .v (vI shape)), (2, .v (vI end_)), (3, .v (vI deep))], fun q1 => [.cells (oMr6 2 q1.r), .dead, .lst .ev q1.r.out], fun q1 => LInv (msgStep (subN (Int.toNat (r.plan.deep - deep))) shape end_) end_ r q1.r ∧ (q1.r).fail.kind = 0, fun q1 => mrMu q1.r⟩
theorem msg1_i (K : Nat) (hM : MsgC_i K) (r : Mr) (shape : Int) (end_ : Int) (deep : Int) (hp1 : List.length (r).s ≤ 1048576) (hp2 : (r).at_ ≤ ((List.length (r).s : Nat) : Int)) (hp3 : (r).fail.kind = 0) (hp4 : ((List.length (r).out : Nat) : Int) + 4 * (((List.length (r).s : Nat) : Int) - (r).at_) ≤ 100000000) (hp5 : (0 : Int) ≤ (r).at_) (hp6 : -1000000000 ≤ end_ ∧ end_ ≤ 9223372036854775807) (hp7 : planOk (r).plan = true) (hp8 : (1 : Int) ≤ deep ∧ deep ≤ (r).plan.deep) (hp9 : Int.toNat ((r).plan.deep - deep) ≤ K) : Fun Tryz.prog 44 [vP 0, vI shape, vI end_, vI deep] [.cells (oMr6 1 r), .lst .ev r.out] (.v (vB (decide ((msgN (Int.toNat ((r).plan.deep - deep)) shape end_ r).fail.kind = 0)))) [.cells (oMr6 2 (msgN (Int.toNat ((r).plan.deep - deep)) shape end_ r)), .dead, .lst .ev (msgN (Int.toNat ((r).plan.deep - deep)) shape end_ r).out] := by
 have hN : bigN = 274877906944 := rfl
 have hpt := planOk_t hp7
 refine fun_ofw Tryz.func44 (by kernel_rfl) (by kernel_rfl) (w := let z16 := msgN (Int.toNat ((r).plan.deep - deep)) shape end_ r; let z17 : List Blk := [.cells (oMr6 2 z16), .dead, .lst .ev z16.out]; let z18 := vB (decide (z16.fail.kind = 0)); let z19 := msg1_i_F0 r shape end_ deep; let z21 := vB false; let z20 := (.v z21 : S); (.seg [.at 0, .cut 0 6, .keep [0, 1, 2, 3], .sel [0, 1, 2]] (.loop z19 fun q1 => let z4 := mrVar q1.r end_; let z5 := mrVarU q1.r end_; let z2 := fieldAt z4.plan.shapes shape (tagNum z5); let z1 := longStep (subN (Int.toNat ((z4).plan.deep - deep))) z4 (z2.getD fld0) (z2.isSome) end_; let z3 := tagWire z5; .br (.seg [.call [0, 2] (.tup [.c (.int .u64 z5), vB (mrVarOk q1.r end_)]) [.cells (oMr6 1 z4), .lst .ev z4.out]] (.br (.leaf () [0, 1, 2]) (.seg [.call [] (.tup [vI (tagNum z5), vI z3, vB (tagOk z5)]) [], .call [] (.tup [.agg (cFld (z2.getD fld0)), vB z2.isSome]) []] (.br (.seg [.call [0, 2] (.v z21) [.cells (oMr6 1 (mrFail z4 2 q1.r.at_)), .lst .ev (mrFail z4 2 q1.r.at_).out]] (.leaf () [0, 1, 2])) (.seg [.call [] (.v (vB (wireOk z3))) []] (.br (.seg [.call [0, 2] (.v z21) [.cells (oMr6 1 (mrFail z4 3 q1.r.at_)), .lst .ev (mrFail z4 3 q1.r.at_).out]] (.leaf () [0, 1, 2])) (.br (.seg [.call [] (.v (vB (allowed (z2.getD fld0) z3))) []] (.br (.seg [.call [0, 2] (.v z21) [.cells (oMr6 1 (mrFail z4 4 q1.r.at_)), .lst .ev (mrFail z4 4 q1.r.at_).out]] (.leaf () [0, 1, 2])) (.br (.seg [.call [0, 2] (.v (vB (decide (z1.fail.kind = 0)))) [.cells (oMr6 2 z1), .dead, .lst .ev z1.out]] (.br (.leaf () [0, 1, 4]) (.seg [.at 0, .keep [0, 1, 2, 3], .sel [0, 1, 4]] (.next)))) (.seg [.call [0, 2] (.tup [.c (.int .u64 (mrValU z4 z3 end_)), vB (mrValOk z4 z3 end_)]) [.cells (oMr6 1 (mrVal z4 z3 end_)), .lst .ev (mrVal z4 z3 end_).out]] (.br (.leaf () [0, 1, 2]) (.seg [.br true, .ord (os 13 [7, 8, 9, 12]) [2], .call [] (.v (.agg (cEv (numEv (z2.getD fld0) (mrValU z4 z3 end_))))) [], .ty .ev, .ty .ev, .at 0, .keep [0, 1, 2, 3], .sel [0, 1, 5]] (.next))))))) (.br (.seg [.call [0, 2] (.v (vB (decide (z1.fail.kind = 0)))) [.cells (oMr6 2 z1), .dead, .lst .ev z1.out]] (.br (.leaf () [0, 1, 4]) (.seg [.at 0, .keep [0, 1, 2, 3], .sel [0, 1, 4]] (.next)))) (.seg [.call [0, 2] (.tup [.c (.int .u64 (mrValU z4 z3 end_)), vB (mrValOk z4 z3 end_)]) [.cells (oMr6 1 (mrVal z4 z3 end_)), .lst .ev (mrVal z4 z3 end_).out]] (.br (.leaf () [0, 1, 2]) (.seg [.br false, .at 0, .keep [0, 1, 2, 3], .sel [0, 1, 2]] (.next)))))))))))) (.leaf () [0, 1, 2])), z19.Has [(0, .v (vP 0)), (1, .v (vI shape)), (2, .v (vI end_)), (3, .v (vI deep))] [.cells (oMr6 2 r), .dead, .lst .ev r.out] ∧ ∀ q1, z19.inv q1 → (let z9 := mrVar q1.r end_; let z11 := mrVarU q1.r end_; let z7 := fieldAt z9.plan.shapes shape (tagNum z11); let z6 := longStep (subN (Int.toNat ((z9).plan.deep - deep))) z9 (z7.getD fld0) (z7.isSome) end_; let z8 := tagWire z11; let z10 := (!(decide (z6.fail.kind = 0))) = false → z19.Nxt q1 [(0, .v (vP 0)), (1, .v (vI shape)), (2, .v (vI end_)), (3, .v (vI deep))] [.cells (oMr6 2 z6), .dead, .lst .ev z6.out]; let z12 := mrFail z9 2 q1.r.at_; let z13 := mrFail z9 3 q1.r.at_; let z14 := mrFail z9 4 q1.r.at_; let z15 := mrVarOk q1.r end_; ((decide (q1.r.at_ < end_)) = true → (Fun Tryz.prog 73 [vP 0, vI end_] [.cells (oMr6 1 q1.r), .lst .ev q1.r.out] (.tup [.c (.int .u64 z11), vB z15]) [.cells (oMr6 1 z9), .lst .ev z9.out]) ∧ ((!z15) = true → z20 = .v z18 ∧ ([.cells (oMr6 2 z9), .dead, .lst .ev z9.out] : List Blk) = z17) ∧ ((!z15) = false → (Fun Tryz.prog 74 [.c (.int .u64 z11)] [] (.tup [vI (tagNum z11), vI z8, vB (tagOk z11)]) []) ∧ (Fun Tryz.prog 75 [.agg [.seq .shp z9.plan.shapes], vI shape, vI (tagNum z11)] [] (.tup [.agg (cFld (z7.getD fld0)), vB z7.isSome]) []) ∧ ((!(tagOk z11)) = true → (Fun Tryz.prog 76 [vP 0, vI 2, vI q1.r.at_] [.cells (oMr6 1 z9), .lst .ev z9.out] (.v z21) [.cells (oMr6 1 z12), .lst .ev z12.out]) ∧ z20 = .v z18 ∧ ([.cells (oMr6 2 z12), .dead, .lst .ev z12.out] : List Blk) = z17) ∧ ((!(tagOk z11)) = false → (Fun Tryz.prog 77 [vI z8] [] (.v (vB (wireOk z8))) []) ∧ ((!(wireOk z8)) = true → (Fun Tryz.prog 76 [vP 0, vI 3, vI q1.r.at_] [.cells (oMr6 1 z9), .lst .ev z9.out] (.v z21) [.cells (oMr6 1 z13), .lst .ev z13.out]) ∧ z20 = .v z18 ∧ ([.cells (oMr6 2 z13), .dead, .lst .ev z13.out] : List Blk) = z17) ∧ ((!(wireOk z8)) = false → (z7.isSome = true → (Fun Tryz.prog 78 [.agg (cFld (z7.getD fld0)), vI z8] [] (.v (vB (allowed (z7.getD fld0) z8))) []) ∧ ((!(allowed (z7.getD fld0) z8)) = true → (Fun Tryz.prog 76 [vP 0, vI 4, vI q1.r.at_] [.cells (oMr6 1 z9), .lst .ev z9.out] (.v z21) [.cells (oMr6 1 z14), .lst .ev z14.out]) ∧ z20 = .v z18 ∧ ([.cells (oMr6 2 z14), .dead, .lst .ev z14.out] : List Blk) = z17) ∧ ((!(allowed (z7.getD fld0) z8)) = false → ((decide (tagWire z11 = 2)) = true → (Fun Tryz.prog 79 [vP 0, .agg (cFld (z7.getD fld0)), vB z7.isSome, vI end_, vI deep] [.cells (oMr6 1 z9), .lst .ev z9.out] (.v (vB (decide (z6.fail.kind = 0)))) [.cells (oMr6 2 z6), .dead, .lst .ev z6.out]) ∧ ((!(decide (z6.fail.kind = 0))) = true → z20 = .v z18 ∧ ([.cells (oMr6 2 z6), .dead, .lst .ev z6.out] : List Blk) = z17) ∧ z10) ∧ ((decide (tagWire z11 = 2)) = false → (Fun Tryz.prog 80 [vP 0, vI z8, vI end_] [.cells (oMr6 1 z9), .lst .ev z9.out] (.tup [.c (.int .u64 (mrValU z9 z8 end_)), vB (mrValOk z9 z8 end_)]) [.cells (oMr6 1 (mrVal z9 z8 end_)), .lst .ev (mrVal z9 z8 end_).out]) ∧ ((!(mrValOk z9 z8 end_)) = true → z20 = .v z18 ∧ ([.cells (oMr6 2 (mrVal z9 z8 end_)), .dead, .lst .ev (mrVal z9 z8 end_).out] : List Blk) = z17) ∧ ((!(mrValOk z9 z8 end_)) = false → (z7.isSome = true) ∧ (Fun Tryz.prog 81 [.agg (cFld (z7.getD fld0)), .c (.int .u64 (mrValU z9 z8 end_))] [] (.v (.agg (cEv (numEv (z7.getD fld0) (mrValU z9 z8 end_))))) []) ∧ (List.length (mrVal z9 z8 end_).out + List.length [(numEv (z7.getD fld0) (mrValU z9 z8 end_))] ≤ bigN) ∧ z19.Nxt q1 [(0, .v (vP 0)), (1, .v (vI shape)), (2, .v (vI end_)), (3, .v (vI deep))] [.cells (oMr6 2 (mrVal z9 z8 end_)), .dead, .lst .ev ((mrVal z9 z8 end_).out ++ [(numEv (z7.getD fld0) (mrValU z9 z8 end_))])])))) ∧ (z7.isSome = false → ((decide (tagWire z11 = 2)) = true → (Fun Tryz.prog 79 [vP 0, .agg (cFld (z7.getD fld0)), vB z7.isSome, vI end_, vI deep] [.cells (oMr6 1 z9), .lst .ev z9.out] (.v (vB (decide (z6.fail.kind = 0)))) [.cells (oMr6 2 z6), .dead, .lst .ev z6.out]) ∧ ((!(decide (z6.fail.kind = 0))) = true → z20 = .v z18 ∧ ([.cells (oMr6 2 z6), .dead, .lst .ev z6.out] : List Blk) = z17) ∧ z10) ∧ ((decide (tagWire z11 = 2)) = false → (Fun Tryz.prog 80 [vP 0, vI z8, vI end_] [.cells (oMr6 1 z9), .lst .ev z9.out] (.tup [.c (.int .u64 (mrValU z9 z8 end_)), vB (mrValOk z9 z8 end_)]) [.cells (oMr6 1 (mrVal z9 z8 end_)), .lst .ev (mrVal z9 z8 end_).out]) ∧ ((!(mrValOk z9 z8 end_)) = true → z20 = .v z18 ∧ ([.cells (oMr6 2 (mrVal z9 z8 end_)), .dead, .lst .ev (mrVal z9 z8 end_).out] : List Blk) = z17) ∧ ((!(mrValOk z9 z8 end_)) = false → (z7.isSome = false) ∧ z19.Nxt q1 [(0, .v (vP 0)), (1, .v (vI shape)), (2, .v (vI end_)), (3, .v (vI deep))] [.cells (oMr6 2 (mrVal z9 z8 end_)), .dead, .lst .ev (mrVal z9 z8 end_).out]))))))) ∧ ((decide (q1.r.at_ < end_)) = false → (.v (vB true) : S) = .v z18 ∧ ([.cells (oMr6 2 q1.r), .dead, .lst .ev q1.r.out] : List Blk) = z17)))) (by kernel_rfl) ?_
 refine ⟨has_of (j := (⟨r⟩ : msg1_i_V0)) rfl rfl (by dsimp only [msg1_i_F0]; exact ⟨LInv.refl hp2, hp3⟩), fun (q1 : msg1_i_V0) hq_q1 => ?_⟩
 have hi_q1 : LInv (msgStep (subN (Int.toNat (r.plan.deep - deep))) shape end_) end_ r q1.r ∧ (q1.r).fail.kind = 0 := hq_q1
 have hfl := hi_q1.2
 have hat := hi_q1.1.at_ hfl
 have hrm := hi_q1.1.room hfl
 obtain ⟨hv, hv2, hv3⟩ := mrVar_adv (r := q1.r) (e := end_) hat.2
 have hvk := mrVarOk_kind (r := q1.r) (e := end_) hfl
 have hu := mrVarU_b q1.r end_
 have hvs := congrArg List.length hv.1.s
 have hvo := congrArg List.length hv3
 have hvp := hv.1.plan
 have hpl := hvp.trans hrm.2.1
 have hsk : schemaOk (mrVar q1.r end_).plan.shapes = true := by rw [hpl]; exact hpt.2.1
 have htw := tagWire_b (mrVarU q1.r end_)
 have hkn := field_known (s := shape) (n := tagNum (mrVarU q1.r end_)) hsk
 have hff := field_facts (s := shape) (n := tagNum (mrVarU q1.r end_)) hsk
 refine dsp (fun h1 p1 => ?_) fun h1 p1 => ?_
 refine ⟨(variable_i q1.r _ (by omega)), fun h2 => have q2 := bnot_t h2; ?_, fun h2 => have q2 := bnot_f h2; ?_⟩
 have hok := q2
 refine have hm1 : msgN (Int.toNat ((r).plan.deep - deep)) shape end_ r = (mrVar q1.r end_) := ?_; ?_
 rotate_left
 refine ⟨(sB ?_), (by rw [hm1] <;> rfl)⟩
 rotate_left
 have hok := q2
 have hk : (mrVar q1.r end_).fail.kind = 0 := by rw [hvk] at hok; simpa using hok
 have ha := hv.1.at_ hk
 have hb := hv.2 hk
 have h2 := hv2 hok
 have hvl := mrValOk_kind (r := mrVar q1.r end_) (w := tagWire (mrVarU q1.r end_)) (e := end_) hk
 have hvu := mrValU_b (mrVar q1.r end_) (tagWire (mrVarU q1.r end_)) end_
 have hvq := congrArg List.length (mrVal_adv (r := mrVar q1.r end_) (w := tagWire (mrVarU q1.r end_)) (e := end_) (by omega)).2
 refine ⟨(tagIn_i _ (by omega)), (fieldAt_i (mrVar q1.r end_).plan.shapes _ _ (by rw [hpl]; omega) (by rw [hpl]; exact schemaOk_fields hpt.2.1)), fun h3 => have q3 := bnot_t h3; ?_, fun h3 => have q3 := bnot_f h3; ?_⟩
 refine ⟨(stop_i (mrVar q1.r end_) _ _), ?_⟩
 refine have hm1 : msgN (Int.toNat ((r).plan.deep - deep)) shape end_ r = (mrFail (mrVar q1.r end_) 2 q1.r.at_) := ?_; ?_
 rotate_left
 refine ⟨(sB ?_), (by rw [hm1] <;> rfl)⟩
 rotate_left
 refine ⟨(wireOk_i _), fun h4 => have q4 := bnot_t h4; ?_, fun h4 => have q4 := bnot_f h4; ?_⟩
 refine ⟨(stop_i (mrVar q1.r end_) _ _), ?_⟩
 refine have hm1 : msgN (Int.toNat ((r).plan.deep - deep)) shape end_ r = (mrFail (mrVar q1.r end_) 3 q1.r.at_) := ?_; ?_
 rotate_left
 refine ⟨(sB ?_), (by rw [hm1] <;> rfl)⟩
 rotate_left
 refine ⟨fun h5 => ?_, fun h5 => ?_⟩
 refine ⟨(allowed_i ((fieldAt (mrVar q1.r end_).plan.shapes shape (tagNum (mrVarU q1.r end_))).getD fld0) _ (by omega)), fun h6 => have q6 := bnot_t h6; ?_, fun h6 => have q6 := bnot_f h6; ?_⟩
 refine ⟨(stop_i (mrVar q1.r end_) _ _), ?_⟩
 refine have hm1 : msgN (Int.toNat ((r).plan.deep - deep)) shape end_ r = (mrFail (mrVar q1.r end_) 4 q1.r.at_) := ?_; ?_
 rotate_left
 refine ⟨(sB ?_), (by rw [hm1] <;> rfl)⟩
 rotate_left
 refine dsp (fun h7 p7 => ?_) fun h7 p7 => ?_
 refine ⟨(long_i K hM (mrVar q1.r end_) ((fieldAt (mrVar q1.r end_).plan.shapes shape (tagNum (mrVarU q1.r end_))).getD fld0) _ _ _ (by omega) (by omega) (hk) (by omega) (by omega) (by omega) (by rw [hpl]; exact hp7) (by rw [hpl]; omega) (by grind) (by grind) (by rw [hpl]; omega)), fun h8 => have q8 := bnot_t h8; have p8 := of_decide_eq_false q8; ?_, fun h8 => have q8 := bnot_f h8; have p8 := of_decide_eq_true q8; ?_⟩
 refine have hm1 : msgN (Int.toNat ((r).plan.deep - deep)) shape end_ r = (longStep (subN (Int.toNat (((mrVar q1.r end_)).plan.deep - deep))) (mrVar q1.r end_) ((fieldAt (mrVar q1.r end_).plan.shapes shape (tagNum (mrVarU q1.r end_))).getD fld0) ((fieldAt (mrVar q1.r end_).plan.shapes shape (tagNum (mrVarU q1.r end_))).isSome) end_) := ?_; ?_
 rotate_left
 refine ⟨(sB ?_), (by rw [hm1] <;> rfl)⟩
 rotate_left
 exact nxt_of (j := (⟨(longStep (subN (Int.toNat (((mrVar q1.r end_)).plan.deep - deep))) (mrVar q1.r end_) ((fieldAt (mrVar q1.r end_).plan.shapes shape (tagNum (mrVarU q1.r end_))).getD fld0) ((fieldAt (mrVar q1.r end_).plan.shapes shape (tagNum (mrVarU q1.r end_))).isSome) end_)⟩ : msg1_i_V0)) rfl rfl (by dsimp only [msg1_i_F0]; exact ⟨(hi_q1.1.next (msgN_loop _ _ _) (by omega) hfl (by grind (ematch := 20) (gen := 20) [msgStep, numStep, mrTell, mrFail])).1, by first | (assumption) | (simp_all [mrTell]; done) | (grind [mrTell])⟩) (by dsimp only [msg1_i_F0]; exact (hi_q1.1.next (msgN_loop _ _ _) (by omega) hfl (by grind (ematch := 20) (gen := 20) [msgStep, numStep, mrTell, mrFail])).2)
 refine ⟨(val_i (mrVar q1.r end_) _ _ (by omega) (by omega) (by omega)), fun h8 => have q8 := bnot_t h8; ?_, fun h8 => have q8 := bnot_f h8; ?_⟩
 refine have hm1 : msgN (Int.toNat ((r).plan.deep - deep)) shape end_ r = (mrVal (mrVar q1.r end_) (tagWire (mrVarU q1.r end_)) end_) := ?_; ?_
 rotate_left
 refine ⟨(sB ?_), (by rw [hm1] <;> rfl)⟩
 rotate_left
 exact ⟨h5, (numEvent_i ((fieldAt (mrVar q1.r end_).plan.shapes shape (tagNum (mrVarU q1.r end_))).getD fld0) _ (by omega)), (by simp only [List.length_cons, List.length_nil]; omega), nxt_of (j := (⟨(⟨(mrVal (mrVar q1.r end_) (tagWire (mrVarU q1.r end_)) end_).plan, (mrVal (mrVar q1.r end_) (tagWire (mrVarU q1.r end_)) end_).s, (mrVal (mrVar q1.r end_) (tagWire (mrVarU q1.r end_)) end_).at_, (mrVal (mrVar q1.r end_) (tagWire (mrVarU q1.r end_)) end_).out ++ [(numEv ((fieldAt (mrVar q1.r end_).plan.shapes shape (tagNum (mrVarU q1.r end_))).getD fld0) (mrValU (mrVar q1.r end_) (tagWire (mrVarU q1.r end_)) end_))], (mrVal (mrVar q1.r end_) (tagWire (mrVarU q1.r end_)) end_).fail⟩ : Mr)⟩ : msg1_i_V0)) rfl (by first | rfl | simp) (by dsimp only [msg1_i_F0]; exact ⟨(hi_q1.1.next (msgN_loop _ _ _) (by omega) hfl (by grind (ematch := 20) (gen := 20) [msgStep, numStep, mrTell, mrFail])).1, by first | (assumption) | (simp_all [mrTell]; done) | (grind [mrTell])⟩) (by dsimp only [msg1_i_F0]; exact (hi_q1.1.next (msgN_loop _ _ _) (by omega) hfl (by grind (ematch := 20) (gen := 20) [msgStep, numStep, mrTell, mrFail])).2)⟩
 refine dsp (fun h6 p6 => ?_) fun h6 p6 => ?_
 refine ⟨(long_i K hM (mrVar q1.r end_) ((fieldAt (mrVar q1.r end_).plan.shapes shape (tagNum (mrVarU q1.r end_))).getD fld0) _ _ _ (by omega) (by omega) (hk) (by omega) (by omega) (by omega) (by rw [hpl]; exact hp7) (by rw [hpl]; omega) (by grind) (by grind) (by rw [hpl]; omega)), fun h7 => have q7 := bnot_t h7; have p7 := of_decide_eq_false q7; ?_, fun h7 => have q7 := bnot_f h7; have p7 := of_decide_eq_true q7; ?_⟩
 refine have hm1 : msgN (Int.toNat ((r).plan.deep - deep)) shape end_ r = (longStep (subN (Int.toNat (((mrVar q1.r end_)).plan.deep - deep))) (mrVar q1.r end_) ((fieldAt (mrVar q1.r end_).plan.shapes shape (tagNum (mrVarU q1.r end_))).getD fld0) ((fieldAt (mrVar q1.r end_).plan.shapes shape (tagNum (mrVarU q1.r end_))).isSome) end_) := ?_; ?_
 rotate_left
 refine ⟨(sB ?_), (by rw [hm1] <;> rfl)⟩
 rotate_left
 exact nxt_of (j := (⟨(longStep (subN (Int.toNat (((mrVar q1.r end_)).plan.deep - deep))) (mrVar q1.r end_) ((fieldAt (mrVar q1.r end_).plan.shapes shape (tagNum (mrVarU q1.r end_))).getD fld0) ((fieldAt (mrVar q1.r end_).plan.shapes shape (tagNum (mrVarU q1.r end_))).isSome) end_)⟩ : msg1_i_V0)) rfl rfl (by dsimp only [msg1_i_F0]; exact ⟨(hi_q1.1.next (msgN_loop _ _ _) (by omega) hfl (by grind (ematch := 20) (gen := 20) [msgStep, numStep, mrTell, mrFail])).1, by first | (assumption) | (simp_all [mrTell]; done) | (grind [mrTell])⟩) (by dsimp only [msg1_i_F0]; exact (hi_q1.1.next (msgN_loop _ _ _) (by omega) hfl (by grind (ematch := 20) (gen := 20) [msgStep, numStep, mrTell, mrFail])).2)
 refine ⟨(val_i (mrVar q1.r end_) _ _ (by omega) (by omega) (by omega)), fun h7 => have q7 := bnot_t h7; ?_, fun h7 => have q7 := bnot_f h7; ?_⟩
 refine have hm1 : msgN (Int.toNat ((r).plan.deep - deep)) shape end_ r = (mrVal (mrVar q1.r end_) (tagWire (mrVarU q1.r end_)) end_) := ?_; ?_
 rotate_left
 refine ⟨(sB ?_), (by rw [hm1] <;> rfl)⟩
 rotate_left
 exact ⟨h5, nxt_of (j := (⟨(mrVal (mrVar q1.r end_) (tagWire (mrVarU q1.r end_)) end_)⟩ : msg1_i_V0)) rfl rfl (by dsimp only [msg1_i_F0]; exact ⟨(hi_q1.1.next (msgN_loop _ _ _) (by omega) hfl (by grind (ematch := 20) (gen := 20) [msgStep, numStep, mrTell, mrFail])).1, by first | (assumption) | (simp_all [mrTell]; done) | (grind [mrTell])⟩) (by dsimp only [msg1_i_F0]; exact (hi_q1.1.next (msgN_loop _ _ _) (by omega) hfl (by grind (ematch := 20) (gen := 20) [msgStep, numStep, mrTell, mrFail])).2)⟩
 refine have hm1 : msgN (Int.toNat ((r).plan.deep - deep)) shape end_ r = q1.r := ?_; ?_
 rotate_left
 refine ⟨(sB ?_), (by rw [hm1] <;> rfl)⟩
 rotate_left
 all_goals first | (exact (msgN_eq _ _ _ _).trans (hi_q1.1.end_ (by omega))) | (exact (msgN_eq _ _ _ _).trans (hi_q1.1.bad (by assumption))) | (rw [hm1]; simp [mrFail, failEv, *]; done) | (exact (msgN_eq _ _ _ _).trans (hi_q1.1.leave (msgN_loop _ _ _) (by omega) hfl (by grind (ematch := 20) (gen := 20) [msgStep, numStep, mrTell, mrFail]) (by first | (exact mrFail_kind _ _ _) | (simp_all; done) | (grind)))) | (rw [hm1]; grind)
theorem msgC_i : ∀ K, MsgC_i K
 | 0 => fun r shape end_ deep hp1 hp2 hp3 hp4 hp5 hp6 hp7 hp8 hp9 => absurd hp9 (Nat.not_lt_zero _)
 | K + 1 => fun r shape end_ deep hp1 hp2 hp3 hp4 hp5 hp6 hp7 hp8 hp9 => msg1_i K (msgC_i K) r shape end_ deep hp1 hp2 hp3 hp4 hp5 hp6 hp7 hp8 (Nat.le_of_lt_succ hp9)
theorem msg_i (r : Mr) (shape : Int) (end_ : Int) (deep : Int) (hp1 : List.length (r).s ≤ 1048576) (hp2 : (r).at_ ≤ ((List.length (r).s : Nat) : Int)) (hp3 : (r).fail.kind = 0) (hp4 : ((List.length (r).out : Nat) : Int) + 4 * (((List.length (r).s : Nat) : Int) - (r).at_) ≤ 100000000) (hp5 : (0 : Int) ≤ (r).at_) (hp6 : -1000000000 ≤ end_ ∧ end_ ≤ 9223372036854775807) (hp7 : planOk (r).plan = true) (hp8 : (1 : Int) ≤ deep ∧ deep ≤ (r).plan.deep) : Fun Tryz.prog 44 [vP 0, vI shape, vI end_, vI deep] [.cells (oMr6 1 r), .lst .ev r.out] (.v (vB (decide ((msgN (Int.toNat ((r).plan.deep - deep)) shape end_ r).fail.kind = 0)))) [.cells (oMr6 2 (msgN (Int.toNat ((r).plan.deep - deep)) shape end_ r)), .dead, .lst .ev (msgN (Int.toNat ((r).plan.deep - deep)) shape end_ r).out] := msgC_i _ r shape end_ deep hp1 hp2 hp3 hp4 hp5 hp6 hp7 hp8 (Nat.lt_succ_self _)
structure msg1_s_V0 where
 r : Mr
def msg1_s_F0 (r : Mr) (shape : Int) (end_ : Int) (deep : Int) : Fam := ⟨msg1_s_V0, fun q1 => [(0, .v (vP 0)), (1, .v (vI shape)), (2, .v (vI end_)), (3, .v (vI deep))], fun q1 => [.cells (oMr6 2 q1.r), .dead, .lst .ev q1.r.out], fun q1 => LInv (msgStep (subN (Int.toNat (r.plan.deep - deep))) shape end_) end_ r q1.r, fun q1 => mrMu q1.r⟩
theorem msg1_s (K : Nat) (hM : MsgC_s K) (r : Mr) (shape : Int) (end_ : Int) (deep : Int) (hp1 : List.length (r).s ≤ 1048576) (hp2 : (r).at_ ≤ ((List.length (r).s : Nat) : Int)) (hp3 : (r).fail.kind = 0) (hp4 : ((List.length (r).out : Nat) : Int) + 4 * (((List.length (r).s : Nat) : Int) - (r).at_) ≤ 100000000) (hp5 : (0 : Int) ≤ (r).at_) (hp6 : -1000000000 ≤ end_ ∧ end_ ≤ 9223372036854775807) (hp7 : planOk (r).plan = true) (hp8 : (1 : Int) ≤ deep ∧ deep ≤ (r).plan.deep) (hp9 : Int.toNat ((r).plan.deep - deep) ≤ K) : Fun Tryz.prog 46 [vP 0, vI shape, vI end_, vI deep] [.cells (oMr6 1 r), .lst .ev r.out] (.tup []) [.cells (oMr6 2 (msgN (Int.toNat ((r).plan.deep - deep)) shape end_ r)), .dead, .lst .ev (msgN (Int.toNat ((r).plan.deep - deep)) shape end_ r).out] := by
 have hN : bigN = 274877906944 := rfl
 have hpt := planOk_t hp7
 refine fun_ofw Tryz.func46 (by kernel_rfl) (by kernel_rfl) (w := let zi : Int → C := .int .i64; let z14 := msg1_s_F0 r shape end_ deep; let z15 := msgN (Int.toNat ((r).plan.deep - deep)) shape end_ r; let z13 : List Blk := [.cells (oMr6 2 z15), .dead, .lst .ev z15.out]; let z16 := vI shape; (.seg [.at 0, .cut 0 6, .keep [0, 1, 2, 3], .sel [0, 1, 2]] (.loop z14 fun q1 => let z4 := mrVarU q1.r end_; let z5 := mrVar q1.r end_; let z1 := (fieldAt z5.plan.shapes shape (tagNum z4)).getD fld0; let z2 := longStep (subN (Int.toNat ((z5).plan.deep - deep))) z5 z1 (decide ((z1).number ≠ 0)) end_; let z3 := numStep z5 z1 (tagWire z4) end_; .br (.br (.seg [.call [0, 2] (.v (.c (.int .u64 z4))) [.cells (oMr6 1 z5), .lst .ev z5.out]] (.br (.leaf () [0, 1, 2]) (.seg [.call [] (.tup [vI (tagNum z4), vI (tagWire z4), vB (tagOk z4)]) [], .call [] (.tup [.agg (cFld z1), vB (fieldAt z5.plan.shapes shape (tagNum z4)).isSome]) []] (.br (.seg [.call [] (.v (.agg (cEv (failEv 2 q1.r.at_)))) [], .at 0, .keep [0, 1, 2, 3], .sel [0, 1, 2]] (.next)) (.seg [.call [] (.v (vB (wireOk (tagWire z4)))) []] (.br (.seg [.call [] (.v (.agg (cEv (failEv 3 q1.r.at_)))) [], .at 0, .keep [0, 1, 2, 3], .sel [0, 1, 2]] (.next)) (.br (.seg [.call [] (.v (vB (allowed z1 (tagWire z4)))) []] (.br (.seg [.call [] (.v (.agg (cEv (failEv 4 q1.r.at_)))) [], .at 0, .keep [0, 1, 2, 3], .sel [0, 1, 2]] (.next)) (.br (.seg [.call [0, 2] (.tup []) [.cells (oMr6 2 z2), .dead, .lst .ev z2.out], .at 0, .keep [0, 1, 2, 3], .sel [0, 1, 4]] (.next)) (.seg [.call [0, 2] (.tup []) [.cells (oMr6 2 z3), .dead, .lst .ev z3.out], .at 0, .keep [0, 1, 2, 3], .sel [0, 1, 4]] (.next))))) (.br (.seg [.call [0, 2] (.tup []) [.cells (oMr6 2 z2), .dead, .lst .ev z2.out], .at 0, .keep [0, 1, 2, 3], .sel [0, 1, 4]] (.next)) (.seg [.call [0, 2] (.tup []) [.cells (oMr6 2 z3), .dead, .lst .ev z3.out], .at 0, .keep [0, 1, 2, 3], .sel [0, 1, 4]] (.next)))))))))) (.leaf () [0, 1, 2])) (.leaf () [0, 1, 2])), z14.Has [(0, .v (vP 0)), (1, .v z16), (2, .v (vI end_)), (3, .v (vI deep))] [.cells (oMr6 2 r), .dead, .lst .ev r.out] ∧ ∀ q1, z14.inv q1 → (let z7 := mrVar q1.r end_; let z8 := mrVarU q1.r end_; let z6 := (fieldAt z7.plan.shapes shape (tagNum z8)).getD fld0; let z9 := failEv 2 q1.r.at_; let z10 := failEv 3 q1.r.at_; let z11 := failEv 4 q1.r.at_; let z12 := ([.cells (oMr6 2 q1.r), .dead, .lst .ev q1.r.out] : List Blk); ((decide (q1.r.at_ < end_)) = true → ((decide (q1.r.fail.kind = 0)) = true → (Fun Tryz.prog 82 [vP 0, vI end_] [.cells (oMr6 1 q1.r), .lst .ev q1.r.out] (.v (.c (.int .u64 z8))) [.cells (oMr6 1 z7), .lst .ev z7.out]) ∧ ((!decide (z7.fail.kind = 0)) = true → (.tup [] : S) = .tup [] ∧ ([.cells (oMr6 2 z7), .dead, .lst .ev z7.out] : List Blk) = z13) ∧ ((!decide (z7.fail.kind = 0)) = false → (Fun Tryz.prog 83 [.c (.int .u64 z8)] [] (.tup [vI (tagNum z8), vI (tagWire z8), vB (tagOk z8)]) []) ∧ (Fun Tryz.prog 84 [.agg [.seq .shp z7.plan.shapes], vI shape, vI (tagNum z8)] [] (.tup [.agg (cFld z6), vB (fieldAt z7.plan.shapes shape (tagNum z8)).isSome]) []) ∧ ((!(tagOk z8)) = true → (Fun Tryz.prog 85 [vI 2, vI q1.r.at_] [] (.v (.agg (cEv z9))) []) ∧ z14.Nxt q1 [(0, .v (vP 0)), (1, .v z16), (2, .v (vI end_)), (3, .v (vI deep))] [.cells [.seq .shp z7.plan.shapes, zi z7.plan.root, zi z7.plan.deep, zi z7.plan.most, .str z7.s, zi z7.at_, .own 2, zi z9.kind, zi z9.field, .int .u64 z9.bits, zi z9.len, .str z9.text, zi z9.code, zi z9.at_], .dead, .lst .ev z7.out]) ∧ ((!(tagOk z8)) = false → (Fun Tryz.prog 86 [vI (tagWire z8)] [] (.v (vB (wireOk (tagWire z8)))) []) ∧ ((!(wireOk (tagWire z8))) = true → (Fun Tryz.prog 85 [vI 3, vI q1.r.at_] [] (.v (.agg (cEv z10))) []) ∧ z14.Nxt q1 [(0, .v (vP 0)), (1, .v z16), (2, .v (vI end_)), (3, .v (vI deep))] [.cells [.seq .shp z7.plan.shapes, zi z7.plan.root, zi z7.plan.deep, zi z7.plan.most, .str z7.s, zi z7.at_, .own 2, zi z10.kind, zi z10.field, .int .u64 z10.bits, zi z10.len, .str z10.text, zi z10.code, zi z10.at_], .dead, .lst .ev z7.out]) ∧ ((!(wireOk (tagWire z8))) = false → ((fieldAt z7.plan.shapes shape (tagNum z8)).isSome = true → (Fun Tryz.prog 87 [.agg (cFld z6), vI (tagWire z8)] [] (.v (vB (allowed z6 (tagWire z8)))) []) ∧ ((!(allowed z6 (tagWire z8))) = true → (Fun Tryz.prog 85 [vI 4, vI q1.r.at_] [] (.v (.agg (cEv z11))) []) ∧ z14.Nxt q1 [(0, .v (vP 0)), (1, .v z16), (2, .v (vI end_)), (3, .v (vI deep))] [.cells [.seq .shp z7.plan.shapes, zi z7.plan.root, zi z7.plan.deep, zi z7.plan.most, .str z7.s, zi z7.at_, .own 2, zi z11.kind, zi z11.field, .int .u64 z11.bits, zi z11.len, .str z11.text, zi z11.code, zi z11.at_], .dead, .lst .ev z7.out]) ∧ ((!(allowed z6 (tagWire z8))) = false → ((decide (tagWire z8 = 2)) = true → (Fun Tryz.prog 88 [vP 0, .agg (cFld z6), vI end_, vI deep] [.cells (oMr6 1 z7), .lst .ev z7.out] (.tup []) [.cells (oMr6 2 (longStep (subN (Int.toNat ((z7).plan.deep - deep))) z7 z6 (decide ((z6).number ≠ 0)) end_)), .dead, .lst .ev (longStep (subN (Int.toNat ((z7).plan.deep - deep))) z7 z6 (decide ((z6).number ≠ 0)) end_).out]) ∧ z14.Nxt q1 [(0, .v (vP 0)), (1, .v z16), (2, .v (vI end_)), (3, .v (vI deep))] [.cells (oMr6 2 (longStep (subN (Int.toNat ((z7).plan.deep - deep))) z7 z6 (decide ((z6).number ≠ 0)) end_)), .dead, .lst .ev (longStep (subN (Int.toNat ((z7).plan.deep - deep))) z7 z6 (decide ((z6).number ≠ 0)) end_).out]) ∧ ((decide (tagWire z8 = 2)) = false → (Fun Tryz.prog 89 [vP 0, .agg (cFld z6), vI (tagWire z8), vI end_] [.cells (oMr6 1 z7), .lst .ev z7.out] (.tup []) [.cells (oMr6 2 (numStep z7 z6 (tagWire z8) end_)), .dead, .lst .ev (numStep z7 z6 (tagWire z8) end_).out]) ∧ z14.Nxt q1 [(0, .v (vP 0)), (1, .v z16), (2, .v (vI end_)), (3, .v (vI deep))] [.cells (oMr6 2 (numStep z7 z6 (tagWire z8) end_)), .dead, .lst .ev (numStep z7 z6 (tagWire z8) end_).out]))) ∧ ((fieldAt z7.plan.shapes shape (tagNum z8)).isSome = false → ((decide (tagWire z8 = 2)) = true → (Fun Tryz.prog 88 [vP 0, .agg (cFld z6), vI end_, vI deep] [.cells (oMr6 1 z7), .lst .ev z7.out] (.tup []) [.cells (oMr6 2 (longStep (subN (Int.toNat ((z7).plan.deep - deep))) z7 z6 (decide ((z6).number ≠ 0)) end_)), .dead, .lst .ev (longStep (subN (Int.toNat ((z7).plan.deep - deep))) z7 z6 (decide ((z6).number ≠ 0)) end_).out]) ∧ z14.Nxt q1 [(0, .v (vP 0)), (1, .v z16), (2, .v (vI end_)), (3, .v (vI deep))] [.cells (oMr6 2 (longStep (subN (Int.toNat ((z7).plan.deep - deep))) z7 z6 (decide ((z6).number ≠ 0)) end_)), .dead, .lst .ev (longStep (subN (Int.toNat ((z7).plan.deep - deep))) z7 z6 (decide ((z6).number ≠ 0)) end_).out]) ∧ ((decide (tagWire z8 = 2)) = false → (Fun Tryz.prog 89 [vP 0, .agg (cFld z6), vI (tagWire z8), vI end_] [.cells (oMr6 1 z7), .lst .ev z7.out] (.tup []) [.cells (oMr6 2 (numStep z7 z6 (tagWire z8) end_)), .dead, .lst .ev (numStep z7 z6 (tagWire z8) end_).out]) ∧ z14.Nxt q1 [(0, .v (vP 0)), (1, .v z16), (2, .v (vI end_)), (3, .v (vI deep))] [.cells (oMr6 2 (numStep z7 z6 (tagWire z8) end_)), .dead, .lst .ev (numStep z7 z6 (tagWire z8) end_).out])))))) ∧ ((decide (q1.r.fail.kind = 0)) = false → (.tup [] : S) = .tup [] ∧ z12 = z13)) ∧ ((decide (q1.r.at_ < end_)) = false → (.tup [] : S) = .tup [] ∧ z12 = z13)))) (by kernel_rfl) ?_
 refine ⟨has_of (j := (⟨r⟩ : msg1_s_V0)) rfl rfl (by dsimp only [msg1_s_F0]; exact LInv.refl hp2), fun (q1 : msg1_s_V0) hq_q1 => ?_⟩
 have hi_q1 : LInv (msgStep (subN (Int.toNat (r.plan.deep - deep))) shape end_) end_ r q1.r := hq_q1
 refine dsp (fun h1 p1 => ?_) fun h1 p1 => ?_
 refine dsp (fun h2 p2 => ?_) fun h2 p2 => ?_
 have hfl := p2
 have hat := hi_q1.at_ hfl
 have hrm := hi_q1.room hfl
 obtain ⟨hv, hv2, hv3⟩ := mrVar_adv (r := q1.r) (e := end_) hat.2
 have hvk := mrVarOk_kind (r := q1.r) (e := end_) hfl
 have hu := mrVarU_b q1.r end_
 have hvs := congrArg List.length hv.1.s
 have hvo := congrArg List.length hv3
 have hvp := hv.1.plan
 have hpl := hvp.trans hrm.2.1
 have hsk : schemaOk (mrVar q1.r end_).plan.shapes = true := by rw [hpl]; exact hpt.2.1
 have htw := tagWire_b (mrVarU q1.r end_)
 have hkn := field_known (s := shape) (n := tagNum (mrVarU q1.r end_)) hsk
 have hff := field_facts (s := shape) (n := tagNum (mrVarU q1.r end_)) hsk
 refine ⟨(variable_s q1.r _ (by omega)), fun h3 => have q3 := bnot_t h3; have p3 := of_decide_eq_false q3; ?_, fun h3 => have q3 := bnot_f h3; have p3 := of_decide_eq_true q3; ?_⟩
 have hok : mrVarOk q1.r end_ = false := by rw [hvk]; simpa using q3
 refine have hm1 : msgN (Int.toNat ((r).plan.deep - deep)) shape end_ r = (mrVar q1.r end_) := ?_; ?_
 rotate_left
 exact ⟨rfl, (by rw [hm1] <;> rfl)⟩
 have hok : mrVarOk q1.r end_ = true := by rw [hvk]; simpa using q3
 have hk : (mrVar q1.r end_).fail.kind = 0 := by rw [hvk] at hok; simpa using hok
 have ha := hv.1.at_ hk
 have hb := hv.2 hk
 have h2 := hv2 hok
 have hvl := mrValOk_kind (r := mrVar q1.r end_) (w := tagWire (mrVarU q1.r end_)) (e := end_) hk
 have hvu := mrValU_b (mrVar q1.r end_) (tagWire (mrVarU q1.r end_)) end_
 have hvq := congrArg List.length (mrVal_adv (r := mrVar q1.r end_) (w := tagWire (mrVarU q1.r end_)) (e := end_) (by omega)).2
 refine ⟨(tagIn_s _ (by omega)), (fieldAt_s (mrVar q1.r end_).plan.shapes _ _ (by rw [hpl]; omega) (by rw [hpl]; exact schemaOk_fields hpt.2.1)), fun h4 => have q4 := bnot_t h4; ?_, fun h4 => have q4 := bnot_f h4; ?_⟩
 exact ⟨(failure_s _ _), nxt_of (j := (⟨(⟨(mrVar q1.r end_).plan, (mrVar q1.r end_).s, (mrVar q1.r end_).at_, (mrVar q1.r end_).out, (failEv 2 q1.r.at_)⟩ : Mr)⟩ : msg1_s_V0)) rfl (by first | rfl | simp) (by dsimp only [msg1_s_F0]; exact (hi_q1.next (msgN_loop _ _ _) (by omega) hfl (by grind (ematch := 20) (gen := 20) [msgStep, numStep, mrTell, mrFail])).1) (by dsimp only [msg1_s_F0]; exact (hi_q1.next (msgN_loop _ _ _) (by omega) hfl (by grind (ematch := 20) (gen := 20) [msgStep, numStep, mrTell, mrFail])).2)⟩
 refine ⟨(wireOk_s _), fun h5 => have q5 := bnot_t h5; ?_, fun h5 => have q5 := bnot_f h5; ?_⟩
 exact ⟨(failure_s _ _), nxt_of (j := (⟨(⟨(mrVar q1.r end_).plan, (mrVar q1.r end_).s, (mrVar q1.r end_).at_, (mrVar q1.r end_).out, (failEv 3 q1.r.at_)⟩ : Mr)⟩ : msg1_s_V0)) rfl (by first | rfl | simp) (by dsimp only [msg1_s_F0]; exact (hi_q1.next (msgN_loop _ _ _) (by omega) hfl (by grind (ematch := 20) (gen := 20) [msgStep, numStep, mrTell, mrFail])).1) (by dsimp only [msg1_s_F0]; exact (hi_q1.next (msgN_loop _ _ _) (by omega) hfl (by grind (ematch := 20) (gen := 20) [msgStep, numStep, mrTell, mrFail])).2)⟩
 refine ⟨fun h6 => ?_, fun h6 => ?_⟩
 refine ⟨(allowed_s ((fieldAt (mrVar q1.r end_).plan.shapes shape (tagNum (mrVarU q1.r end_))).getD fld0) _ (by omega)), fun h7 => have q7 := bnot_t h7; ?_, fun h7 => have q7 := bnot_f h7; ?_⟩
 exact ⟨(failure_s _ _), nxt_of (j := (⟨(⟨(mrVar q1.r end_).plan, (mrVar q1.r end_).s, (mrVar q1.r end_).at_, (mrVar q1.r end_).out, (failEv 4 q1.r.at_)⟩ : Mr)⟩ : msg1_s_V0)) rfl (by first | rfl | simp) (by dsimp only [msg1_s_F0]; exact (hi_q1.next (msgN_loop _ _ _) (by omega) hfl (by grind (ematch := 20) (gen := 20) [msgStep, numStep, mrTell, mrFail])).1) (by dsimp only [msg1_s_F0]; exact (hi_q1.next (msgN_loop _ _ _) (by omega) hfl (by grind (ematch := 20) (gen := 20) [msgStep, numStep, mrTell, mrFail])).2)⟩
 refine dsp (fun h8 p8 => ?_) fun h8 p8 => ?_
 exact ⟨(long_s K hM (mrVar q1.r end_) ((fieldAt (mrVar q1.r end_).plan.shapes shape (tagNum (mrVarU q1.r end_))).getD fld0) _ _ (by omega) (by omega) (hk) (by omega) (by omega) (by omega) (by rw [hpl]; exact hp7) (by rw [hpl]; omega) (by grind) (by grind [wireOk]) (by rw [hpl]; omega)), nxt_of (j := (⟨(longStep (subN (Int.toNat (((mrVar q1.r end_)).plan.deep - deep))) (mrVar q1.r end_) ((fieldAt (mrVar q1.r end_).plan.shapes shape (tagNum (mrVarU q1.r end_))).getD fld0) (decide ((((fieldAt (mrVar q1.r end_).plan.shapes shape (tagNum (mrVarU q1.r end_))).getD fld0)).number ≠ 0)) end_)⟩ : msg1_s_V0)) rfl rfl (by dsimp only [msg1_s_F0]; exact (hi_q1.next (msgN_loop _ _ _) (by omega) hfl (by grind (ematch := 20) (gen := 20) [msgStep, numStep, mrTell, mrFail])).1) (by dsimp only [msg1_s_F0]; exact (hi_q1.next (msgN_loop _ _ _) (by omega) hfl (by grind (ematch := 20) (gen := 20) [msgStep, numStep, mrTell, mrFail])).2)⟩
 exact ⟨(num_s (mrVar q1.r end_) ((fieldAt (mrVar q1.r end_).plan.shapes shape (tagNum (mrVarU q1.r end_))).getD fld0) _ _ (by omega) (by omega) (hk) (by omega) (by omega) (by omega) (by grind [wireOk])), nxt_of (j := (⟨(numStep (mrVar q1.r end_) ((fieldAt (mrVar q1.r end_).plan.shapes shape (tagNum (mrVarU q1.r end_))).getD fld0) (tagWire (mrVarU q1.r end_)) end_)⟩ : msg1_s_V0)) rfl rfl (by dsimp only [msg1_s_F0]; exact (hi_q1.next (msgN_loop _ _ _) (by omega) hfl (by grind (ematch := 20) (gen := 20) [msgStep, numStep, mrTell, mrFail])).1) (by dsimp only [msg1_s_F0]; exact (hi_q1.next (msgN_loop _ _ _) (by omega) hfl (by grind (ematch := 20) (gen := 20) [msgStep, numStep, mrTell, mrFail])).2)⟩
 refine dsp (fun h7 p7 => ?_) fun h7 p7 => ?_
 exact ⟨(long_s K hM (mrVar q1.r end_) ((fieldAt (mrVar q1.r end_).plan.shapes shape (tagNum (mrVarU q1.r end_))).getD fld0) _ _ (by omega) (by omega) (hk) (by omega) (by omega) (by omega) (by rw [hpl]; exact hp7) (by rw [hpl]; omega) (by grind) (by grind [wireOk]) (by rw [hpl]; omega)), nxt_of (j := (⟨(longStep (subN (Int.toNat (((mrVar q1.r end_)).plan.deep - deep))) (mrVar q1.r end_) ((fieldAt (mrVar q1.r end_).plan.shapes shape (tagNum (mrVarU q1.r end_))).getD fld0) (decide ((((fieldAt (mrVar q1.r end_).plan.shapes shape (tagNum (mrVarU q1.r end_))).getD fld0)).number ≠ 0)) end_)⟩ : msg1_s_V0)) rfl rfl (by dsimp only [msg1_s_F0]; exact (hi_q1.next (msgN_loop _ _ _) (by omega) hfl (by grind (ematch := 20) (gen := 20) [msgStep, numStep, mrTell, mrFail])).1) (by dsimp only [msg1_s_F0]; exact (hi_q1.next (msgN_loop _ _ _) (by omega) hfl (by grind (ematch := 20) (gen := 20) [msgStep, numStep, mrTell, mrFail])).2)⟩
 exact ⟨(num_s (mrVar q1.r end_) ((fieldAt (mrVar q1.r end_).plan.shapes shape (tagNum (mrVarU q1.r end_))).getD fld0) _ _ (by omega) (by omega) (hk) (by omega) (by omega) (by omega) (by grind [wireOk])), nxt_of (j := (⟨(numStep (mrVar q1.r end_) ((fieldAt (mrVar q1.r end_).plan.shapes shape (tagNum (mrVarU q1.r end_))).getD fld0) (tagWire (mrVarU q1.r end_)) end_)⟩ : msg1_s_V0)) rfl rfl (by dsimp only [msg1_s_F0]; exact (hi_q1.next (msgN_loop _ _ _) (by omega) hfl (by grind (ematch := 20) (gen := 20) [msgStep, numStep, mrTell, mrFail])).1) (by dsimp only [msg1_s_F0]; exact (hi_q1.next (msgN_loop _ _ _) (by omega) hfl (by grind (ematch := 20) (gen := 20) [msgStep, numStep, mrTell, mrFail])).2)⟩
 refine have hm1 : msgN (Int.toNat ((r).plan.deep - deep)) shape end_ r = q1.r := ?_; ?_
 rotate_left
 exact ⟨rfl, (by rw [hm1] <;> rfl)⟩
 refine have hm1 : msgN (Int.toNat ((r).plan.deep - deep)) shape end_ r = q1.r := ?_; ?_
 rotate_left
 exact ⟨rfl, (by rw [hm1] <;> rfl)⟩
 all_goals first | (exact (msgN_eq _ _ _ _).trans (hi_q1.end_ (by omega))) | (exact (msgN_eq _ _ _ _).trans (hi_q1.bad (by assumption))) | (rw [hm1]; simp [mrFail, failEv, *]; done) | (exact (msgN_eq _ _ _ _).trans (hi_q1.leave (msgN_loop _ _ _) (by omega) hfl (by grind (ematch := 20) (gen := 20) [msgStep, numStep, mrTell, mrFail]) (by first | (exact mrFail_kind _ _ _) | (simp_all; done) | (grind)))) | (rw [hm1]; grind)
theorem msgC_s : ∀ K, MsgC_s K
 | 0 => fun r shape end_ deep hp1 hp2 hp3 hp4 hp5 hp6 hp7 hp8 hp9 => absurd hp9 (Nat.not_lt_zero _)
 | K + 1 => fun r shape end_ deep hp1 hp2 hp3 hp4 hp5 hp6 hp7 hp8 hp9 => msg1_s K (msgC_s K) r shape end_ deep hp1 hp2 hp3 hp4 hp5 hp6 hp7 hp8 (Nat.le_of_lt_succ hp9)
theorem msg_s (r : Mr) (shape : Int) (end_ : Int) (deep : Int) (hp1 : List.length (r).s ≤ 1048576) (hp2 : (r).at_ ≤ ((List.length (r).s : Nat) : Int)) (hp3 : (r).fail.kind = 0) (hp4 : ((List.length (r).out : Nat) : Int) + 4 * (((List.length (r).s : Nat) : Int) - (r).at_) ≤ 100000000) (hp5 : (0 : Int) ≤ (r).at_) (hp6 : -1000000000 ≤ end_ ∧ end_ ≤ 9223372036854775807) (hp7 : planOk (r).plan = true) (hp8 : (1 : Int) ≤ deep ∧ deep ≤ (r).plan.deep) : Fun Tryz.prog 46 [vP 0, vI shape, vI end_, vI deep] [.cells (oMr6 1 r), .lst .ev r.out] (.tup []) [.cells (oMr6 2 (msgN (Int.toNat ((r).plan.deep - deep)) shape end_ r)), .dead, .lst .ev (msgN (Int.toNat ((r).plan.deep - deep)) shape end_ r).out] := msgC_s _ r shape end_ deep hp1 hp2 hp3 hp4 hp5 hp6 hp7 hp8 (Nat.lt_succ_self _)
/-! ### More told ahead -/
def ahead (o : List Ev) (r : Mr) : Mr := ⟨r.plan, r.s, r.at_, o ++ r.out, r.fail⟩
theorem ahead_tell (o : List Ev) (r : Mr) (e : Ev) : mrTell (ahead o r) e = ahead o (mrTell r e) := by simp [mrTell, ahead]
theorem ahead_var (o : List Ev) (r : Mr) (e : Int) : mrVar (ahead o r) e = ahead o (mrVar r e) := by
 unfold mrVar; rw [show mrVarOk (ahead o r) e = mrVarOk r e from rfl]; split <;> rfl
theorem ahead_fix (o : List Ev) (r : Mr) (w e : Int) : mrFix (ahead o r) w e = ahead o (mrFix r w e) := by
 unfold mrFix
 rw [show (ahead o r).at_ = r.at_ from rfl, show (ahead o r).s = r.s from rfl]
 split
 ·rfl
 ·split <;> rfl
theorem ahead_val (o : List Ev) (r : Mr) (w e : Int) : mrVal (ahead o r) w e = ahead o (mrVal r w e) := by
 unfold mrVal; split
 ·exact ahead_fix o r _ e
 ·exact ahead_var o r e
theorem ahead_num (o : List Ev) (r : Mr) (f : Fld) (w e : Int) : numStep (ahead o r) f w e = ahead o (numStep r f w e) := by
 unfold numStep
 rw [show mrValOk (ahead o r) w e = mrValOk r w e from rfl, show mrValU (ahead o r) w e = mrValU r w e from rfl, ahead_val]
 split
 ·exact ahead_tell o _ _
 ·rfl
theorem ahead_loop (o : List Ev) {step : Mr → Mr} (hs : ∀ r, step (ahead o r) = ahead o (step r)) (e : Int) : ∀ (k : Nat) (r : Mr), loopM (mrGo e) step k (ahead o r) = ahead o (loopM (mrGo e) step k r)
 | 0, r => rfl
 | k + 1, r => by
  simp only [loopM]
  rw [show mrGo e (ahead o r) = mrGo e r from rfl]
  split
  ·rw [hs, ahead_loop o hs e k]
  ·rfl
theorem ahead_run (o : List Ev) (r : Mr) (f : Fld) (e : Int) : mrRun (ahead o r) f e = ahead o (mrRun r f e) := ahead_loop o (fun r => ahead_num o r f _ e) e _ r
theorem ahead_told (o : List Ev) (r : Mr) (f : Fld) (n : Int) : txtTold (ahead o r) f n = ahead o (txtTold r f n) := by
 unfold txtTold
 rw [show txtGood (ahead o r) f n = txtGood r f n from rfl]
 split <;> simp only [ahead_tell]
theorem ahead_txt (o : List Ev) (r : Mr) (f : Fld) (n : Int) : txtStep (ahead o r) f n = ahead o (txtStep r f n) := by
 unfold txtStep
 rw [show txtBad (ahead o r) f n = txtBad r f n from rfl, show txtThere (ahead o r) n = txtThere r n from rfl, show txtSt (ahead o r) f n = txtSt r f n from rfl, ahead_told, show (ahead o r).s = r.s from rfl, show (ahead o r).at_ = r.at_ from rfl]
 split
 ·rfl
 split
 ·rfl
 split
 ·rfl
 ·exact ahead_tell o (mrAt (txtTold r f n) (r.at_ + n)) shutEv
def SubAhead (o : List Ev) (sub : Mr → Fld → Int → Int → Mr) : Prop := ∀ (v : Mr) (f : Fld) (n s : Int), sub (ahead o v) f n s = ahead o (sub v f n s)
theorem ahead_long {o : List Ev} {sub : Mr → Fld → Int → Int → Mr} (hs : SubAhead o sub) (r : Mr) (f : Fld) (known : Bool) (e : Int) : longStep sub (ahead o r) f known e = ahead o (longStep sub r f known e) := by
 unfold longStep
 rw [show mrVarOk (ahead o r) e = mrVarOk r e from rfl, show mrVarU (ahead o r) e = mrVarU r e from rfl, ahead_var]
 simp only [show ∀ x, (ahead o x).at_ = x.at_ from fun _ => rfl, show ∀ x, (ahead o x).s = x.s from fun _ => rfl]
 split
 ·rfl
 split
 ·rfl
 split
 ·split <;> rfl
 split
 ·exact hs _ _ _ _
 split
 ·exact ahead_run o _ _ _
 ·exact ahead_txt o _ _ _
theorem ahead_msg {o : List Ev} {sub : Mr → Fld → Int → Int → Mr} (hs : SubAhead o sub) (shape e : Int) (r : Mr) : msgStep sub shape e (ahead o r) = ahead o (msgStep sub shape e r) := by
 unfold msgStep
 rw [show mrVarOk (ahead o r) e = mrVarOk r e from rfl, show mrVarU (ahead o r) e = mrVarU r e from rfl, ahead_var]
 simp only [show ∀ x, (ahead o x).at_ = x.at_ from fun _ => rfl, show ∀ x, (ahead o x).plan = x.plan from fun _ => rfl]
 split
 ·rfl
 split
 ·rfl
 split
 ·rfl
 split
 ·rfl
 split
 ·exact ahead_long hs _ _ _ _
 ·exact ahead_num o _ _ _ _
theorem ahead_msgN' {o : List Ev} {D : Nat} (hs : SubAhead o (subN D)) (shape e : Int) (r : Mr) : msgN D shape e (ahead o r) = ahead o (msgN D shape e r) := by
 rw [msgN_eq, msgN_eq]
 exact ahead_loop o (fun r => ahead_msg hs shape e r) e _ r
theorem ahead_sub (o : List Ev) : ∀ D, SubAhead o (subN D)
 | 0 => fun _ _ _ _ => rfl
 | D + 1 => fun v f n s => by
  simp only [subN]
  rw [show (ahead o v).at_ = v.at_ from rfl, ahead_tell, ahead_msgN' (ahead_sub o D)]
  split <;> rename_i h
  ·rw [if_pos (show (msgN D f.msg (v.at_ + n) (mrTell v (downEv f n))).fail.kind = 0 from h), ahead_tell]
  ·rw [if_neg (show ¬ (msgN D f.msg (v.at_ + n) (mrTell v (downEv f n))).fail.kind = 0 from h)]
theorem ahead_msgN (o : List Ev) (D : Nat) (shape e : Int) (r : Mr) : msgN D shape e (ahead o r) = ahead o (msgN D shape e r) := ahead_msgN' (ahead_sub o D) shape e r
/-! ### Where a message ends -/
theorem loop_end {step : Mr → Mr} (hs : StepAdv step) {e : Int} (ht : ∀ r : Mr, r.at_ ≤ (r.s.length : Int) → r.fail.kind = 0 → (step r).fail.kind = 0 → (step r).at_ ≤ e) : ∀ (n : Nat) (r : Mr), mrMu r ≤ n → r.at_ ≤ (r.s.length : Int) → r.at_ ≤ e → r.fail.kind = 0 → (loopM (mrGo e) step (mrMu r) r).fail.kind = 0 → (loopM (mrGo e) step (mrMu r) r).at_ = e := by
 intro n
 induction n with
 | zero => intro r hn hl _ h0; simp only [mrMu, if_pos h0] at hn; omega
 | succ n ih =>
  intro r hn hl he h0 hk
  by_cases hg : r.at_ < e
  ·have hi := (LInv.refl (step := step) (e := e) hl).go hs hg h0
   rw [← hi.1.run] at hk ⊢
   by_cases h1 : (step r).fail.kind = 0
   ·have ha := hi.1.at_ h1
    exact ih _ (by omega) ha.2 (ht r hl h0 h1) h1 hk
   ·rw [loopM_stop (by simp [mrGo, h1])] at hk
    exact (h1 hk).elim
  ·rw [loopM_stop (by simp [mrGo]; omega)]; omega
theorem mrVar_to {r : Mr} {e : Int} (h0 : r.fail.kind = 0) (hl : r.at_ ≤ (r.s.length : Int)) (hk : (mrVar r e).fail.kind = 0) : (mrVar r e).at_ ≤ e := by
 have := mrVarOk_kind (e := e) h0
 rw [hk] at this
 exact ((mrVar_adv hl).2.1 (by simpa using this)).2
theorem numStep_to {r : Mr} {f : Fld} {w e : Int} (h0 : r.fail.kind = 0) (hl : r.at_ ≤ (r.s.length : Int)) (hk : (numStep r f w e).fail.kind = 0) : (numStep r f w e).at_ ≤ e := by
 have hv : (mrVal r w e).fail.kind = 0 → (mrVal r w e).at_ ≤ e := fun h => by
  unfold mrVal at h ⊢
  split
  ·rename_i hw
   rw [if_pos hw] at h
   unfold mrFix at h ⊢
   split
   ·rename_i h2; rw [if_pos h2] at h; exact (mrFail_kind _ _ _ h).elim
   ·rename_i h2
    rw [if_neg h2] at h
    split
    ·show r.at_ + widthOf w ≤ e; omega
    ·rename_i h3; rw [if_neg h3] at h; exact (mrFail_kind _ _ _ h).elim
  ·rename_i hw
   rw [if_neg hw] at h
   exact mrVar_to h0 hl h
 unfold numStep at hk ⊢
 split
 ·rename_i h; rw [if_pos h] at hk; exact hv hk
 ·rename_i h; rw [if_neg h] at hk; exact hv hk
def SubTo (sub : Mr → Fld → Int → Int → Mr) : Prop := ∀ (v : Mr) (f : Fld) (n s : Int), v.at_ ≤ (v.s.length : Int) → v.fail.kind = 0 → 0 ≤ n → (sub v f n s).fail.kind = 0 → (sub v f n s).at_ = v.at_ + n
theorem txtStep_to {r : Mr} {f : Fld} {n : Int} (hk : (txtStep r f n).fail.kind = 0) : (txtStep r f n).at_ = r.at_ + n := by
 unfold txtStep at hk ⊢
 split
 ·rename_i h; rw [if_pos h] at hk; exact (mrFail_kind _ _ _ hk).elim
 rename_i h; rw [if_neg h] at hk
 split
 ·rename_i h; rw [if_pos h] at hk; exact (mrFail_kind _ _ _ hk).elim
 rename_i h; rw [if_neg h] at hk
 split
 ·rename_i h; rw [if_pos h] at hk; exact (mrFail_kind _ _ _ hk).elim
 ·rfl
theorem longStep_to {sub : Mr → Fld → Int → Int → Mr} (ht : SubTo sub) {r : Mr} {f : Fld} {known : Bool} {e : Int} (h0 : r.fail.kind = 0) (hl : r.at_ ≤ (r.s.length : Int)) (hk : (longStep sub r f known e).fail.kind = 0) : (longStep sub r f known e).at_ ≤ e := by
 have hv := mrVar_adv (e := e) hl
 have hu := mrVarU_b r e
 unfold longStep at hk ⊢
 split
 ·rename_i h; rw [if_pos h] at hk; exact mrVar_to h0 hl hk
 rename_i hok; rw [if_neg hok] at hk
 have hok : mrVarOk r e = true := by simpa using hok
 have hvk : (mrVar r e).fail.kind = 0 := by rw [mrVarOk_kind h0] at hok; simpa using hok
 have ha := hv.1.1.at_ hvk
 have hs := congrArg List.length hv.1.1.s
 split
 ·rename_i h; rw [if_pos h] at hk; exact (mrFail_kind _ _ _ hk).elim
 rename_i hn; rw [if_neg hn] at hk
 split
 ·rename_i h; rw [if_pos h] at hk
  split
  ·rename_i h2; rw [if_pos h2] at hk; exact (mrFail_kind _ _ _ hk).elim
  ·show (mrVar r e).at_ + mrVarU r e ≤ e; omega
 rename_i h; rw [if_neg h] at hk
 split
 ·rename_i h2; rw [if_pos h2] at hk
  rw [ht _ _ _ _ (by omega) hvk hu.1 hk]; omega
 rename_i h2; rw [if_neg h2] at hk
 split
 ·rename_i h3; rw [if_pos h3] at hk
  have := loop_end (numStep_loop f (wireOf f.kind) ((mrVar r e).at_ + mrVarU r e)) (fun r hl h0 hk => numStep_to h0 hl hk) _ (mrVar r e) (Nat.le_refl _) (by omega) (by omega) hvk hk
  show (mrRun (mrVar r e) f ((mrVar r e).at_ + mrVarU r e)).at_ ≤ e
  unfold mrRun; rw [this]; omega
 ·rename_i h3; rw [if_neg h3] at hk
  rw [txtStep_to hk]; omega
theorem msgStep_to {sub : Mr → Fld → Int → Int → Mr} (ht : SubTo sub) {shape e : Int} {r : Mr} (h0 : r.fail.kind = 0) (hl : r.at_ ≤ (r.s.length : Int)) (hk : (msgStep sub shape e r).fail.kind = 0) : (msgStep sub shape e r).at_ ≤ e := by
 have hv := mrVar_adv (e := e) hl
 unfold msgStep at hk ⊢
 split
 ·rename_i h; rw [if_pos h] at hk; exact mrVar_to h0 hl hk
 rename_i hok; rw [if_neg hok] at hk
 have hok : mrVarOk r e = true := by simpa using hok
 have hvk : (mrVar r e).fail.kind = 0 := by rw [mrVarOk_kind h0] at hok; simpa using hok
 have ha := hv.1.1.at_ hvk
 have hs := congrArg List.length hv.1.1.s
 split
 ·rename_i h; rw [if_pos h] at hk; exact (mrFail_kind _ _ _ hk).elim
 rename_i h; rw [if_neg h] at hk
 split
 ·rename_i h; rw [if_pos h] at hk; exact (mrFail_kind _ _ _ hk).elim
 rename_i h; rw [if_neg h] at hk
 split
 ·rename_i h; rw [if_pos h] at hk; exact (mrFail_kind _ _ _ hk).elim
 rename_i h; rw [if_neg h] at hk
 split
 ·rename_i h; rw [if_pos h] at hk; exact longStep_to ht hvk (by omega) hk
 ·rename_i h; rw [if_neg h] at hk; exact numStep_to hvk (by omega) hk
theorem msgN_to {D : Nat} (ht : SubTo (subN D)) {shape e : Int} {r : Mr} (hl : r.at_ ≤ (r.s.length : Int)) (he : r.at_ ≤ e) (h0 : r.fail.kind = 0) (hk : (msgN D shape e r).fail.kind = 0) : (msgN D shape e r).at_ = e := by
 rw [msgN_eq] at hk ⊢
 exact loop_end (msgN_loop D shape e) (fun r hl h0 hk => msgStep_to ht h0 hl hk) _ r (Nat.le_refl _) hl he h0 hk
theorem subN_to : ∀ D, SubTo (subN D)
 | 0 => fun v f n s _ _ _ hk => (mrFail_kind _ _ _ hk).elim
 | D + 1 => fun v f n s hl h0 hn hk => by
  have hm := msgN_to (subN_to D) (shape := f.msg) (e := v.at_ + n) (r := mrTell v (downEv f n)) hl (by show v.at_ ≤ v.at_ + n; omega) h0
  simp only [subN] at hk ⊢
  split
  ·rename_i h; exact hm h
  ·rename_i h; rw [if_neg h] at hk; exact hm hk
theorem msgN_end {D : Nat} {shape e : Int} {r : Mr} (hl : r.at_ ≤ (r.s.length : Int)) (he : r.at_ ≤ e) (h0 : r.fail.kind = 0) (hk : (msgN D shape e r).fail.kind = 0) : (msgN D shape e r).at_ = e := msgN_to (subN_to D) hl he h0 hk
/-! ### Whole inputs -/
def mr0 (p : Pln) (s : List UInt8) (a : Int) : Mr := ⟨p, s, a, [], ev0⟩
def frameEv (n : Int) : Ev := ⟨1, 0, 0, n, [], 0, 0⟩
def frameEndEv : Ev := ⟨8, 0, 0, 0, [], 0, 0⟩
def doneEv (a : Int) : Ev := ⟨9, 0, 0, 0, [], 0, a⟩
def maxI : Int := 9223372036854775807
def frmMsg (r : Mr) : Mr := msgN (Int.toNat (r.plan.deep - 1)) r.plan.root ((mrVar r maxI).at_ + mrVarU r maxI) (mrTell (mrVar r maxI) (frameEv (mrVarU r maxI)))
def frmStep (r : Mr) : Mr :=
 if mrVarOk r maxI = false then mrVar r maxI
 else if r.plan.most < mrVarU r maxI then mrFail (mrVar r maxI) 7 r.at_
 else if (frmMsg r).fail.kind = 0 then mrTell (frmMsg r) frameEndEv else frmMsg r
theorem frmStep_adv {r : Mr} (hl : r.at_ ≤ (r.s.length : Int)) (h0 : r.fail.kind = 0) : Adv1 r (frmStep r) := by
 obtain ⟨hv, hv2, hv3⟩ := mrVar_adv (e := maxI) hl
 unfold frmStep
 split
 ·exact hv
 ·rename_i hok
  have hok : mrVarOk r maxI = true := by simpa using hok
  have hk : (mrVar r maxI).fail.kind = 0 := by rw [mrVarOk_kind h0] at hok; simpa using hok
  have ha := hv.1.at_ hk
  have hs := congrArg List.length hv.1.s
  have hl' : (mrVar r maxI).at_ ≤ ((mrVar r maxI).s.length : Int) := by omega
  have hr := (Adv.refl (mrVar r maxI) hl').b
  have hm0 : AdvB 0 (mrTell (mrVar r maxI) (frameEv (mrVarU r maxI))) (frmMsg r) := (msgN_adv (r := mrTell (mrVar r maxI) (frameEv (mrVarU r maxI))) hl').b
  have hm : AdvB (0 + 1 + 0) (mrVar r maxI) (frmMsg r) := (hr.tell (frameEv (mrVarU r maxI))).trans hk hm0
  split
  ·exact hv.after hv3 hk (hr.failed _ _) (by decide)
  split
  ·exact hv.after hv3 hk (hm.tell _) (by decide)
  ·exact hv.after hv3 hk hm (by decide)
structure Wh where
 r : Mr
 ends : List Int
def whGo (w : Wh) : Bool := mrGo (w.r.s.length : Int) w.r
def whStep (w : Wh) : Wh := ⟨frmStep w.r, if (frmStep w.r).fail.kind = 0 then w.ends ++ [(frmStep w.r).at_] else w.ends⟩
def whRun (w : Wh) : Wh := loopM whGo whStep (mrMu w.r) w
def wh0 (p : Pln) (s : List UInt8) : Wh := ⟨mr0 p s 0, [0]⟩
def whole (p : Pln) (s : List UInt8) : Wh := whRun (wh0 p s)
def wholeEv (p : Pln) (s : List UInt8) : List Ev := (whole p s).r.out ++ [if (whole p s).r.fail.kind = 0 then doneEv (s.length : Int) else (whole p s).r.fail]
structure WInv (w0 q : Wh) : Prop where
 adv : Adv w0.r q.r
 ends : q.r.fail.kind = 0 → (q.ends.length : Int) ≤ 1 + q.r.at_
 run : whRun q = whRun w0
theorem WInv.refl {p : Pln} {s : List UInt8} : WInv (wh0 p s) (wh0 p s) := ⟨Adv.refl _ (by simp [wh0, mr0]), fun _ => by simp [wh0, mr0], rfl⟩
theorem WInv.room {p : Pln} {s : List UInt8} {q : Wh} (h : WInv (wh0 p s) q) (hk : q.r.fail.kind = 0) : q.r.s = s ∧ q.r.plan = p ∧ 0 ≤ q.r.at_ ∧ q.r.at_ ≤ (s.length : Int) ∧ (q.r.out.length : Int) + 4 * ((s.length : Int) - q.r.at_) ≤ 4 * (s.length : Int) ∧ q.r.fail = ev0 := by
 have := h.adv.at_ hk
 have hr := h.adv.room hk
 refine ⟨h.adv.s, h.adv.plan, this.1, this.2, ?_, h.adv.fail hk⟩
 simpa [wh0, mr0] using hr
theorem WInv.next {p : Pln} {s : List UInt8} {q x : Wh} (h : WInv (wh0 p s) q) (hg : q.r.at_ < (s.length : Int)) (hk : q.r.fail.kind = 0) (hx : whStep q = x) : WInv (wh0 p s) x ∧ mrMu x.r < mrMu q.r := by
 subst hx
 obtain ⟨h1, h2, h3, h4, h5, _⟩ := h.room hk
 have hl : q.r.at_ ≤ (q.r.s.length : Int) := by rw [h1]; exact h4
 have hf := frmStep_adv hl hk
 have hgo : whGo q = true := by simp [whGo, mrGo, h1, hg, hk]
 refine ⟨⟨h.adv.trans hk hf.1, fun hk2 => ?_, ?_⟩, mrMu_dec hl hk hf⟩
 ·have := h.ends hk
  have := hf.2 hk2
  have hk3 : (frmStep q.r).fail.kind = 0 := hk2
  simp only [whStep, if_pos hk3, List.length_append, List.length_cons, List.length_nil]; omega
 ·rw [← h.run]
  refine (loopM_go (fun w : Wh => w.r.at_ ≤ (w.r.s.length : Int) ∨ w.r.fail.kind ≠ 0) (fun w => mrMu w.r) (fun a hi hg => ?_) (.inl hl) hgo).symm
  have hk' : a.r.fail.kind = 0 := mrGo_kind hg
  have hl : a.r.at_ ≤ (a.r.s.length : Int) := hi.resolve_right (fun h => h hk')
  have hf := frmStep_adv hl hk'
  refine ⟨?_, mrMu_dec hl hk' hf⟩
  by_cases hk2 : (frmStep a.r).fail.kind = 0
  ·left
   show (frmStep a.r).at_ ≤ ((frmStep a.r).s.length : Int)
   rw [hf.1.s]; exact (hf.1.at_ hk2).2
  ·exact .inr hk2
theorem WInv.stop {w0 q : Wh} (h : WInv w0 q) (hg : whGo q = false) : whRun w0 = q := by rw [← h.run]; exact loopM_stop hg
theorem WInv.end_ {p : Pln} {s : List UInt8} {q : Wh} (h : WInv (wh0 p s) q) (hg : ¬ q.r.at_ < (s.length : Int)) : whole p s = q := h.stop (by
 have : q.r.s = s := h.adv.s
 simp [whGo, mrGo, this]; omega)
theorem WInv.leave {p : Pln} {s : List UInt8} {q x : Wh} (h : WInv (wh0 p s) q) (hg : q.r.at_ < (s.length : Int)) (hk : q.r.fail.kind = 0) (hx : whStep q = x) (hx2 : x.r.fail.kind ≠ 0) : whole p s = x :=
 (h.next hg hk hx).1.stop (by simp [whGo, mrGo, hx2])
theorem vwA_far {s : List UInt8} {a e e' : Int} (he : (s.length : Int) < e) (he' : (s.length : Int) < e') : ∀ (f : Nat) (k u : Int), a + k ≤ (s.length : Int) → vwA s a e f k u = vwA s a e' f k u
 | 0, k, u, _ => rfl
 | f + 1, k, u, h => by
  rw [vwA, vwA, if_neg (show ¬ e ≤ a + k by omega), if_neg (show ¬ e' ≤ a + k by omega)]
  split
  ·rfl
  split
  ·rfl
  split
  ·rfl
  ·exact vwA_far he he' f (k + 1) _ (by omega)
theorem varWithin_far {s : List UInt8} {a e e' : Int} (he : (s.length : Int) < e) (he' : (s.length : Int) < e') : varWithin s a e = varWithin s a e' := by
 unfold varWithin
 split
 ·rename_i hw
  have := within_t hw
  rw [vwA_far he he' 10 0 0 (by omega)]
 ·rfl
def readOk (p : Pln) (shape : Int) (s : List UInt8) (a e deep : Int) : Bool := planOk p && within shape 0 ((p.shapes.length : Int) - 1) && within a 0 (s.length : Int) && decide (a ≤ e) && within deep 1 p.deep
def readMsg (p : Pln) (shape : Int) (s : List UInt8) (a e deep : Int) : Mr := if readOk p shape s a e deep then msgN (Int.toNat (p.deep - deep)) shape e (mr0 p s a) else mr0 p s a
theorem far8 {s : List UInt8} (hl : s.length ≤ 4000) (a : Int) : varWithin s a 8000 = varWithin s a maxI := varWithin_far (by omega) (by unfold maxI; omega)
theorem mrVarOk_far {p : Pln} {s : List UInt8} {a : Int} {o : List Ev} (hl : s.length ≤ 4000) : mrVarOk ⟨p, s, a, o, ev0⟩ maxI = decide ((varWithin s a 8000).2.2 = 0) := by rw [far8 hl]; rfl
theorem mrVar_far {p : Pln} {s : List UInt8} {a : Int} {o : List Ev} (hl : s.length ≤ 4000) (h : (varWithin s a 8000).2.2 = 0) : mrVarOk ⟨p, s, a, o, ev0⟩ maxI = true ∧ mrVar ⟨p, s, a, o, ev0⟩ maxI = ⟨p, s, (varWithin s a 8000).2.1, o, ev0⟩ ∧ mrVarU ⟨p, s, a, o, ev0⟩ maxI = (varWithin s a 8000).1 := by
 have hok : mrVarOk ⟨p, s, a, o, ev0⟩ maxI = true := by rw [mrVarOk_far hl]; simpa using h
 refine ⟨hok, ?_, ?_⟩
 ·rw [mrVar_ok hok, far8 hl]; rfl
 ·unfold mrVarU; rw [if_pos hok, far8 hl]
theorem wh_var {p : Pln} {s : List UInt8} {a : Int} {o : List Ev} {e : List Int} (hl : s.length ≤ 4000) (h : ¬ (varWithin s a 8000).2.2 = 0) : whStep ⟨⟨p, s, a, o, ev0⟩, e⟩ = ⟨⟨p, s, a, o, failEv (varWithin s a 8000).2.2 (varWithin s a 8000).2.1⟩, e⟩ := by
 have hok : mrVarOk ⟨p, s, a, o, ev0⟩ maxI = false := by rw [mrVarOk_far hl]; simpa using h
 have hv := mrVar_bad hok
 have hf : frmStep ⟨p, s, a, o, ev0⟩ = mrVar ⟨p, s, a, o, ev0⟩ maxI := by unfold frmStep; rw [if_pos hok]
 unfold whStep
 simp only [hf, hv]
 rw [if_neg (mrFail_kind _ _ _), far8 hl]
 rfl
theorem wh_most {p : Pln} {s : List UInt8} {a : Int} {o : List Ev} {e : List Int} (hl : s.length ≤ 4000) (h : (varWithin s a 8000).2.2 = 0) (hm : p.most < (varWithin s a 8000).1) : whStep ⟨⟨p, s, a, o, ev0⟩, e⟩ = ⟨⟨p, s, (varWithin s a 8000).2.1, o, failEv 7 a⟩, e⟩ := by
 obtain ⟨h1, h2, h3⟩ := mrVar_far (p := p) (o := o) hl h
 have hf : frmStep ⟨p, s, a, o, ev0⟩ = mrFail ⟨p, s, (varWithin s a 8000).2.1, o, ev0⟩ 7 a := by
  unfold frmStep; rw [if_neg (by simp [h1]), h3, if_pos hm, h2]
 unfold whStep
 simp only [hf]
 rw [if_neg (mrFail_kind _ _ _)]
 rfl
theorem frm_read {p : Pln} {s : List UInt8} {a : Int} {o : List Ev} (hp : planOk p = true) (hl : s.length ≤ 4000) (h : (varWithin s a 8000).2.2 = 0) : frmMsg ⟨p, s, a, o, ev0⟩ = ahead (o ++ [frameEv (varWithin s a 8000).1]) (readMsg p p.root s (varWithin s a 8000).2.1 ((varWithin s a 8000).2.1 + (varWithin s a 8000).1) 1) := by
 obtain ⟨h1, h2, h3⟩ := mrVar_far (p := p) (o := o) hl h
 have hw := varWithin_at h
 have hb := varWithin_b s a 8000
 have ht := planOk_t hp
 have hr : readOk p p.root s (varWithin s a 8000).2.1 ((varWithin s a 8000).2.1 + (varWithin s a 8000).1) 1 = true := by
  simp only [readOk, within, Bool.and_eq_true, decide_eq_true_eq]
  exact ⟨⟨⟨⟨hp, by omega, by omega⟩, by omega, by omega⟩, by omega⟩, by omega, by omega⟩
 unfold frmMsg readMsg
 rw [if_pos hr, h2, h3, ← ahead_msgN]
 simp [mrTell, ahead, mr0]
theorem wh_bad {p : Pln} {s : List UInt8} {a : Int} {o : List Ev} {e : List Int} (hp : planOk p = true) (hl : s.length ≤ 4000) (h : (varWithin s a 8000).2.2 = 0) (hm : ¬ p.most < (varWithin s a 8000).1) (hk : ¬ (readMsg p p.root s (varWithin s a 8000).2.1 ((varWithin s a 8000).2.1 + (varWithin s a 8000).1) 1).fail.kind = 0) :
  whStep ⟨⟨p, s, a, o, ev0⟩, e⟩ = ⟨ahead (o ++ [frameEv (varWithin s a 8000).1]) (readMsg p p.root s (varWithin s a 8000).2.1 ((varWithin s a 8000).2.1 + (varWithin s a 8000).1) 1), e⟩ := by
 obtain ⟨h1, h2, h3⟩ := mrVar_far (p := p) (o := o) hl h
 have hf : frmStep ⟨p, s, a, o, ev0⟩ = frmMsg ⟨p, s, a, o, ev0⟩ := by
  unfold frmStep; rw [if_neg (by simp [h1]), h3, if_neg hm, frm_read hp hl h, if_neg (show ¬ (ahead (o ++ [frameEv (varWithin s a 8000).1]) (readMsg p p.root s (varWithin s a 8000).2.1 ((varWithin s a 8000).2.1 + (varWithin s a 8000).1) 1)).fail.kind = 0 from hk)]
 unfold whStep
 simp only [hf, frm_read hp hl h]
 rw [if_neg (show ¬ (ahead (o ++ [frameEv (varWithin s a 8000).1]) (readMsg p p.root s (varWithin s a 8000).2.1 ((varWithin s a 8000).2.1 + (varWithin s a 8000).1) 1)).fail.kind = 0 from hk)]
theorem readMsg_adv {p : Pln} {shape : Int} {s : List UInt8} {a e d : Int} (hl : a ≤ (s.length : Int)) : Adv (mr0 p s a) (readMsg p shape s a e d) := by
 unfold readMsg; split
 ·exact msgN_adv (r := mr0 p s a) hl
 ·exact Adv.refl (mr0 p s a) hl
theorem wh_ok {p : Pln} {s : List UInt8} {a : Int} {o : List Ev} {e : List Int} (hp : planOk p = true) (hl : s.length ≤ 4000) (h : (varWithin s a 8000).2.2 = 0) (hm : ¬ p.most < (varWithin s a 8000).1) (hk : (readMsg p p.root s (varWithin s a 8000).2.1 ((varWithin s a 8000).2.1 + (varWithin s a 8000).1) 1).fail.kind = 0) :
  whStep ⟨⟨p, s, a, o, ev0⟩, e⟩ = ⟨⟨p, s, (varWithin s a 8000).2.1 + (varWithin s a 8000).1, ((o ++ [frameEv (varWithin s a 8000).1]) ++ (readMsg p p.root s (varWithin s a 8000).2.1 ((varWithin s a 8000).2.1 + (varWithin s a 8000).1) 1).out) ++ [frameEndEv], ev0⟩, e ++ [(varWithin s a 8000).2.1 + (varWithin s a 8000).1]⟩ := by
 obtain ⟨h1, h2, h3⟩ := mrVar_far (p := p) (o := o) hl h
 have hw := varWithin_at h
 have hb := varWithin_b s a 8000
 have hf : frmStep ⟨p, s, a, o, ev0⟩ = mrTell (frmMsg ⟨p, s, a, o, ev0⟩) frameEndEv := by
  unfold frmStep; rw [if_neg (by simp [h1]), h3, if_neg hm, frm_read hp hl h, if_pos (show (ahead (o ++ [frameEv (varWithin s a 8000).1]) (readMsg p p.root s (varWithin s a 8000).2.1 ((varWithin s a 8000).2.1 + (varWithin s a 8000).1) 1)).fail.kind = 0 from hk)]
 have hadv := readMsg_adv (p := p) (shape := p.root) (s := s) (a := (varWithin s a 8000).2.1) (e := (varWithin s a 8000).2.1 + (varWithin s a 8000).1) (d := 1) (by omega)
 have hat : (readMsg p p.root s (varWithin s a 8000).2.1 ((varWithin s a 8000).2.1 + (varWithin s a 8000).1) 1).at_ = (varWithin s a 8000).2.1 + (varWithin s a 8000).1 := by
  have hfr := frm_read (o := o) hp hl h
  have hk2 : (frmMsg ⟨p, s, a, o, ev0⟩).fail.kind = 0 := by rw [hfr]; exact hk
  have hat2 : (frmMsg ⟨p, s, a, o, ev0⟩).at_ = (mrVar ⟨p, s, a, o, ev0⟩ maxI).at_ + mrVarU ⟨p, s, a, o, ev0⟩ maxI := by
   refine msgN_end ?_ ?_ ?_ hk2
   ·rw [h2]; show (varWithin s a 8000).2.1 ≤ (s.length : Int); omega
   ·rw [h2, h3]; show (varWithin s a 8000).2.1 ≤ (varWithin s a 8000).2.1 + (varWithin s a 8000).1; omega
   ·rw [h2]; rfl
  rw [hfr, h2, h3] at hat2
  exact hat2
 have hfa : (readMsg p p.root s (varWithin s a 8000).2.1 ((varWithin s a 8000).2.1 + (varWithin s a 8000).1) 1).fail = ev0 := hadv.fail hk
 have hpl : (readMsg p p.root s (varWithin s a 8000).2.1 ((varWithin s a 8000).2.1 + (varWithin s a 8000).1) 1).plan = p := hadv.plan
 have hs : (readMsg p p.root s (varWithin s a 8000).2.1 ((varWithin s a 8000).2.1 + (varWithin s a 8000).1) 1).s = s := hadv.s
 unfold whStep
 simp only [hf, frm_read hp hl h]
 rw [if_pos (show (mrTell (ahead (o ++ [frameEv (varWithin s a 8000).1]) (readMsg p p.root s (varWithin s a 8000).2.1 ((varWithin s a 8000).2.1 + (varWithin s a 8000).1) 1)) frameEndEv).fail.kind = 0 from hk)]
 simp only [mrTell, ahead, hat, hfa, hpl, hs]
def wholeL (p : Pln) (s : List UInt8) : List Ev := if planOk p = true ∧ s.length ≤ 4000 then wholeEv p s else []
theorem whole_most {p : Pln} {s : List UInt8} (hs : s.length ≤ 4000) : (wholeEv p s).length ≤ 16001 := by
 suffices h : ((whole p s).r.out.length : Int) ≤ 16000 by
  unfold wholeEv; rw [List.length_append]; simp only [List.length_cons, List.length_nil]; omega
 have key : ∀ (k : Nat) (w : Wh), w.r.at_ ≤ (w.r.s.length : Int) → Adv w.r (loopM whGo whStep k w).r := by
  intro k
  induction k with
  | zero => intro w h; exact Adv.refl _ h
  | succ k ih =>
   intro w h
   unfold loopM
   cases hg : whGo w with
   | false => exact Adv.refl _ h
   | true =>
    have hk : w.r.fail.kind = 0 := mrGo_kind hg
    have hf := frmStep_adv h hk
    simp only [if_true]
    by_cases hk2 : (frmStep w.r).fail.kind = 0
    ·exact hf.1.trans hk2 (ih (whStep w) (by show (frmStep w.r).at_ ≤ ((frmStep w.r).s.length : Int); rw [hf.1.s]; exact (hf.1.at_ hk2).2))
    ·have : loopM whGo whStep k (whStep w) = whStep w := loopM_stop (by
      cases hg' : whGo (whStep w) with
      | false => rfl
      | true => exact (hk2 (mrGo_kind hg')).elim)
     rw [this]; exact hf.1
 have := (key (mrMu (wh0 p s).r) (wh0 p s) (by simp [wh0, mr0])).most
 have e : (whole p s) = loopM whGo whStep (mrMu (wh0 p s).r) (wh0 p s) := rfl
 rw [e]
 simp only [wh0, mr0, List.length_nil] at this ⊢
 omega
theorem frmStep_eq (r : Mr) : frmStep r = if mrVarOk r 9223372036854775807 = false then mrVar r 9223372036854775807 else if r.plan.most < mrVarU r 9223372036854775807 then mrFail (mrVar r 9223372036854775807) 7 r.at_ else if (frmMsg r).fail.kind = 0 then mrTell (frmMsg r) frameEndEv else frmMsg r := rfl
theorem frmMsg_eq (r : Mr) : frmMsg r = msgN (Int.toNat (r.plan.deep - 1)) r.plan.root ((mrVar r 9223372036854775807).at_ + mrVarU r 9223372036854775807) (mrTell (mrVar r 9223372036854775807) (frameEv (mrVarU r 9223372036854775807))) := rfl
end Go.Proofs.YtaflinakodideaaGreat.Ax
