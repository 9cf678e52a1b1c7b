/- The law FnStreamNew. Opening what the laws are handed. -/
import Derived.Test.YtnamhappoaplcaaGreatKFnStreamNew5
import Derived.Test.YtnamhappoaplcaaGreatKFnStreamNew6
import Derived.Test.YtnamhappoaplcaaGreatKFnStreamNew1
import Derived.Test.YtnamhappoaplcaaGreatKB4
set_option linter.unusedSimpArgs false
set_option linter.unusedVariables false
namespace Go.Proofs.YtnamhappoaplcaaGreat.Ax
open Go.RowKit
theorem decOk_mk {d : Dcd} (lv : levelsOk d = true) (hm : 1 ≤ d.mode ∧ d.mode ≤ 9) (at_ : 0 ≤ d.at_ ∧ d.at_ ≤ 1000000000) (st : 0 ≤ d.start ∧ d.start ≤ d.at_) (ut : utfOk d.utf = true) (wi : wireOk d.wire = true) (fl : d.field = fld0 ∨ known d.plan.shapes d.field = true)
  (h8 : endD d = true) (h9 : stackD d = true) (h10 : wantD d = true) (h11 : kindD d = true) (h12 : scanD d = true) : decOk d = true := by
 simp only [decOk, Bool.and_eq_true, Bool.or_eq_true, decide_eq_true_eq]
 refine ⟨⟨⟨⟨⟨⟨⟨⟨⟨⟨⟨lv, ?_⟩, ?_⟩, ?_⟩, ut⟩, wi⟩, fl⟩, h8⟩, h9⟩, h10⟩, h11⟩, h12⟩ <;> simp only [within, Bool.and_eq_true, decide_eq_true_eq] <;> assumption
theorem utf0_ok : utfOk ⟨0, 0, 0⟩ = true := by decide
theorem decNew_ok {p : Pln} (h : planOk p = true) : decOk (decNew p) = true := by
 have ht := planOk_t h
 unfold decNew
 rw [if_pos h]
 refine decOk_mk (levelsOk_mk h (by show (0 : Int) ≤ p.deep; omega) (fun l hl => by cases hl)) (show (1 : Int) ≤ 1 ∧ (1 : Int) ≤ 9 by decide) (show (0 : Int) ≤ 0 ∧ (0 : Int) ≤ 1000000000 by decide) (show (0 : Int) ≤ 0 ∧ (0 : Int) ≤ 0 by decide) utf0_ok ?_ (.inl rfl) ?_ ?_ ?_ ?_ ?_
 ·simp [wireOk]
 ·simp [endD, ev0]
 ·simp [stackD]
 ·simp [wantD]
 ·simp [kindD]
 ·simp [scanD, widthD, scanOk, within]
def strmOk (s : Strm) : Bool := readerOk s.reader && decOk s.dec && decide (0 ≤ s.reads)
theorem strmNew_at {p : Pln} {data : List UInt8} {script : List Rd} (h : strmNewOk p data script = true) : strmNew p data script = ⟨⟨data, 0, script, 0, 0⟩, decNew p, [], 0⟩ ∧ strmOk (strmNew p data script) = true ∧ leftOf (strmNew p data script).reader = (data.length : Int) := by
 have h2 : rdrNewOk data script = true ∧ planOk p = true := by simpa [strmNewOk] using h
 have hr : rdrNew data script = ⟨data, 0, script, 0, 0⟩ := by unfold rdrNew; rw [if_pos (show readerOk _ = true from h2.1)]
 have he : strmNew p data script = ⟨⟨data, 0, script, 0, 0⟩, decNew p, [], 0⟩ := by unfold strmNew; rw [if_pos h, hr]
 have h3 : readerOk ⟨data, 0, script, 0, 0⟩ = true := h2.1
 rw [he]
 refine ⟨rfl, ?_, ?_⟩
 ·simp [strmOk, h3, decNew_ok h2.2]
 ·unfold leftOf
  rw [if_pos h3]
  simp
theorem strmNewOk_is (p : Pln) (data : List UInt8) (script : List Rd) : strmNewOk p data script = (rdrNewOk data script && planOk p) := rfl
theorem rdrNew_i (data : List UInt8) (script : List Rd) (hp1 : List.length data ≤ 1048576) (hp2 : List.length script ≤ 1048576) : Fun Tryz.prog 8 [vT data, .c (.seq .rd script)] [] (.tup [.agg (oRdr2 0 (rdrNew data script)), vB (rdrNewOk data script)]) [.lst .rd (rdrNew data script).script] := by
 have hN : bigN = 274877906944 := rfl
 refine fun_ofw Tryz.func8 (by kernel_rfl) (by kernel_rfl) (w := let zi : Int → C := .int .i64; let z1 := readerOk (⟨data, 0, script, 0, 0⟩ : Rdr); let z2 := rdrNew data script; (.seg [.call [] (.v (vO 0)) [.lst .rd script], .call [] (.v (vB z1)) []] (.br (.seg [.at 0, .mk 0 2 .rd] (.leaf () [3])) (.leaf () [1])), (Fun Tryz.prog 18 [.c (.seq .rd script)] [] (.v (vO 0)) [.lst .rd script]) ∧ (Fun Tryz.prog 19 [.agg [.str data, zi 0, .seq .rd script, zi 0, zi 0]] [] (.v (vB z1)) []) ∧ ((!z1) = true → (.tup [.agg [.str [], zi 0, .own 0, zi 0, zi 0], vB false] : S) = .tup [.agg (oRdr2 0 z2), vB (rdrNewOk data script)] ∧ ([.lst .rd ([] : List Rd)] : List Blk) = [.lst .rd z2.script]) ∧ ((!z1) = false → (.tup [.agg [.str data, zi 0, .own 0, zi 0, zi 0], vB true] : S) = .tup [.agg (oRdr2 0 z2), vB (rdrNewOk data script)] ∧ ([.lst .rd script] : List Blk) = [.lst .rd z2.script]))) (by kernel_rfl) ?_
 refine ⟨(cloneRd script (by omega)), (readerOk_i (⟨data, 0, script, 0, 0⟩ : Rdr) (by first | omega | rfl | (dsimp only; omega)) (by first | omega | rfl | (dsimp only; omega))), fun h1 => have q1 := bnot_t h1; ?_, fun h1 => have q1 := bnot_f h1; have p1 := readerOk_t q1; ?_⟩
 refine have hm1 : rdrNew data script = (⟨[], 0, ([] : List Rd), 0, 0⟩ : Rdr) := ?_; ?_
 rotate_left
 refine ⟨(congrArg S.tup (consE (congrArg V.agg (consE (congrArg C.str ?_) (consE (congrArg (C.int .i64) ?_) (consE rfl (consE (congrArg (C.int .i64) ?_) (consE (congrArg (C.int .i64) ?_) rfl)))))) (consE (congrArg V.c (congrArg C.bool ?_)) rfl))), (by rw [hm1] <;> rfl)⟩
 rotate_left 5
 refine have hm1 : rdrNew data script = (⟨data, 0, script, 0, 0⟩ : Rdr) := ?_; ?_
 rotate_left
 refine ⟨(congrArg S.tup (consE (congrArg V.agg (consE (congrArg C.str ?_) (consE (congrArg (C.int .i64) ?_) (consE rfl (consE (congrArg (C.int .i64) ?_) (consE (congrArg (C.int .i64) ?_) rfl)))))) (consE (congrArg V.c (congrArg C.bool ?_)) rfl))), (by rw [hm1] <;> rfl)⟩
 rotate_left 5
 all_goals first | (simp_all [rdrNew, rdrNewOk]; done) | (grind [rdrNew, rdrNewOk])
theorem rdrNew_s (data : List UInt8) (script : List Rd) (hp1 : List.length data ≤ 1048576) (hp2 : List.length script ≤ 1048576) : Fun Tryz.prog 16 [vT data, .c (.seq .rd script)] [] (.tup [.agg (oRdr2 0 (rdrNew data script)), vB (rdrNewOk data script)]) [.lst .rd (rdrNew data script).script] := by
 have hN : bigN = 274877906944 := rfl
 refine fun_ofw Tryz.func16 (by kernel_rfl) (by kernel_rfl) (w := let zi : Int → C := .int .i64; let z2 := rdrNew data script; let z3 := ([] : List Rd); let z1 := readerOk (⟨data, 0, z3 ++ script, 0, 0⟩ : Rdr); (.seg [.ty .rd, .ty .rd, .call [] (.v (vB z1)) []] (.br (.seg [.at 0, .mk 0 2 .rd] (.leaf () [4])) (.leaf () [2])), (List.length z3 + List.length script ≤ bigN) ∧ (Fun Tryz.prog 32 [.agg [.str data, zi 0, .seq .rd (z3 ++ script), zi 0, zi 0]] [] (.v (vB z1)) []) ∧ ((!z1) = true → (.tup [.agg [.str [], zi 0, .own 0, zi 0, zi 0], vB false] : S) = .tup [.agg (oRdr2 0 z2), vB (rdrNewOk data script)] ∧ ([.lst .rd z3] : List Blk) = [.lst .rd z2.script]) ∧ ((!z1) = false → (.tup [.agg [.str data, zi 0, .own 0, zi 0, zi 0], vB true] : S) = .tup [.agg (oRdr2 0 z2), vB (rdrNewOk data script)] ∧ ([.lst .rd (z3 ++ script)] : List Blk) = [.lst .rd z2.script]))) (by kernel_rfl) ?_
 refine ⟨(by simp only [List.length_cons, List.length_nil]; omega), (readerOk_s (⟨data, 0, ([] : List Rd) ++ script, 0, 0⟩ : Rdr) (by first | omega | rfl | (dsimp only; omega)) (by simp only [List.length_append, List.length_cons, List.length_nil, List.length_set, List.length_take]; omega)), fun h1 => have q1 := bnot_t h1; ?_, fun h1 => have q1 := bnot_f h1; have p1 := readerOk_t q1; ?_⟩
 refine have hm1 : rdrNew data script = (⟨[], 0, ([] : List Rd), 0, 0⟩ : Rdr) := ?_; ?_
 rotate_left
 refine ⟨(congrArg S.tup (consE (congrArg V.agg (consE (congrArg C.str ?_) (consE (congrArg (C.int .i64) ?_) (consE rfl (consE (congrArg (C.int .i64) ?_) (consE (congrArg (C.int .i64) ?_) rfl)))))) (consE (congrArg V.c (congrArg C.bool ?_)) rfl))), (by rw [hm1] <;> rfl)⟩
 rotate_left 5
 refine have hm1 : rdrNew data script = (⟨data, 0, ([] : List Rd) ++ script, 0, 0⟩ : Rdr) := ?_; ?_
 rotate_left
 refine ⟨(congrArg S.tup (consE (congrArg V.agg (consE (congrArg C.str ?_) (consE (congrArg (C.int .i64) ?_) (consE rfl (consE (congrArg (C.int .i64) ?_) (consE (congrArg (C.int .i64) ?_) rfl)))))) (consE (congrArg V.c (congrArg C.bool ?_)) rfl))), (by rw [hm1] <;> rfl)⟩
 rotate_left 5
 all_goals first | (simp_all [rdrNew, rdrNewOk]; done) | (grind [rdrNew, rdrNewOk])
theorem strmNew_i (p : Pln) (data : List UInt8) (script : List Rd) (hp1 : List.length data ≤ 1048576) (hp2 : List.length script ≤ 1048576) (hp3 : List.length (p).shapes ≤ bigN) : Fun Tryz.prog 6 [.agg (cPln p), vT data, .c (.seq .rd script)] [] (.tup [.agg (oStrm2_5_10_32 0 1 2 3 (strmNew p data script)), vB (strmNewOk p data script)]) [.lst .rd (strmNew p data script).reader.script, .tree (strmNew p data script).dec.plan.shapes, .lst .lev (strmNew p data script).dec.stack, .lst .ev (strmNew p data script).queue] := by
 have hN : bigN = 274877906944 := rfl
 refine fun_ofw Tryz.func6 (by kernel_rfl) (by kernel_rfl) (w := let zi : Int → C := .int .i64; let z1 : List C := [.str [], zi 0, .own 0, zi 0, zi 0, .own 1, zi 0, zi 0, zi 0, zi 0, .own 2, .int .u64 0, zi 0, zi 0, zi 0, zi 0, zi 0, .bool false, .bool false, zi 0, zi 0, zi 0, zi 0, zi 0, zi 0, zi 0, zi 0, .int .u64 0, zi 0, .str [], zi 0, zi 0, .own 3, zi 0]; let z3 := decNew p; let z4 := rdrNew data script; let z5 := strmNew p data script; let z2 : List Blk := [.lst .rd z5.reader.script, .tree z5.dec.plan.shapes, .lst .lev z5.dec.stack, .lst .ev z5.queue]; let z6 := ([.lst .rd ([] : List Rd), .tree ([] : List Shp), .lst .lev ([] : List Lev), .lst .ev ([] : List Ev)] : List Blk); let z7 := rdrNewOk data script; let z8 := oStrm2_5_10_32 0 1 2 3 z5; let z9 := strmNewOk p data script; (.seg [.call [] (.tup [.agg (oRdr2 0 z4), vB z7]) [.lst .rd z4.script], .call [] (.tup [.agg (oDcd0_5 0 1 z3), vB (planOk p)]) [.tree z3.plan.shapes, .lst .lev z3.stack]] (.br (.seg [.at 0, .mk 1 2 .rd, .mkT 1 5, .mk 1 10 .lev, .mk 1 32 .ev] (.leaf () [7, 8, 9, 10])) (.br (.seg [.at 0, .mk 1 2 .rd, .mkT 1 5, .mk 1 10 .lev, .mk 1 32 .ev] (.leaf () [7, 8, 9, 10])) (.seg [.at 0, .mk 1 32 .ev] (.leaf () [2, 4, 5, 7])))), (Fun Tryz.prog 8 [vT data, .c (.seq .rd script)] [] (.tup [.agg (oRdr2 0 z4), vB z7]) [.lst .rd z4.script]) ∧ (Fun Tryz.prog 9 [.agg (cPln p)] [] (.tup [.agg (oDcd0_5 0 1 z3), vB (planOk p)]) [.tree z3.plan.shapes, .lst .lev z3.stack]) ∧ ((!z7) = true → (.tup [.agg z1, vB false] : S) = .tup [.agg z8, vB z9] ∧ z6 = z2) ∧ ((!z7) = false → ((!(planOk p)) = true → (.tup [.agg z1, vB false] : S) = .tup [.agg z8, vB z9] ∧ z6 = z2) ∧ ((!(planOk p)) = false → (.tup [.agg [.str z4.data, zi z4.at_, .own 0, zi z4.next, zi z4.code, .own 1, zi z3.plan.root, zi z3.plan.deep, zi z3.plan.most, zi z3.mode, .own 2, .int .u64 z3.scan.bits, zi z3.scan.have_, zi z3.start, zi z3.at_, zi z3.field.number, zi z3.field.kind, .bool z3.field.rep, .bool z3.field.packed, zi z3.field.msg, zi z3.wire, zi z3.want, zi z3.utf.want, zi z3.utf.low, zi z3.utf.high, zi z3.end_.kind, zi z3.end_.field, .int .u64 z3.end_.bits, zi z3.end_.len, .str z3.end_.text, zi z3.end_.code, zi z3.end_.at_, .own 3, zi 0], vB true] : S) = .tup [.agg z8, vB z9] ∧ ([.lst .rd z4.script, .tree z3.plan.shapes, .lst .lev z3.stack, .lst .ev ([] : List Ev)] : List Blk) = z2)))) (by kernel_rfl) ?_
 refine ⟨(rdrNew_i _ _ (by omega) (by omega)), (decNew_i p (by omega)), fun h1 => have q1 := bnot_t h1; ?_, fun h1 => have q1 := bnot_f h1; ?_⟩
 refine have hm1 : strmNew p data script = (⟨(⟨[], 0, ([] : List Rd), 0, 0⟩ : Rdr), (⟨(⟨([] : List Shp), 0, 0, 0⟩ : Pln), 0, ([] : List Lev), (⟨0, 0⟩ : Scn), 0, 0, (⟨0, 0, false, false, 0⟩ : Fld), 0, 0, (⟨0, 0, 0⟩ : Utf), (⟨0, 0, 0, 0, [], 0, 0⟩ : Ev)⟩ : Dcd), ([] : List Ev), 0⟩ : Strm) := ?_; ?_
 rotate_left
 refine ⟨(congrArg S.tup (consE (congrArg V.agg (consE (congrArg C.str ?_) (consE (congrArg (C.int .i64) ?_) (consE rfl (consE (congrArg (C.int .i64) ?_) (consE (congrArg (C.int .i64) ?_) (consE rfl (consE (congrArg (C.int .i64) ?_) (consE (congrArg (C.int .i64) ?_) (consE (congrArg (C.int .i64) ?_) (consE (congrArg (C.int .i64) ?_) (consE rfl (consE (congrArg (C.int .u64) ?_) (consE (congrArg (C.int .i64) ?_) (consE (congrArg (C.int .i64) ?_) (consE (congrArg (C.int .i64) ?_) (consE (congrArg (C.int .i64) ?_) (consE (congrArg (C.int .i64) ?_) (consE (congrArg C.bool ?_) (consE (congrArg C.bool ?_) (consE (congrArg (C.int .i64) ?_) (consE (congrArg (C.int .i64) ?_) (consE (congrArg (C.int .i64) ?_) (consE (congrArg (C.int .i64) ?_) (consE (congrArg (C.int .i64) ?_) (consE (congrArg (C.int .i64) ?_) (consE (congrArg (C.int .i64) ?_) (consE (congrArg (C.int .i64) ?_) (consE (congrArg (C.int .u64) ?_) (consE (congrArg (C.int .i64) ?_) (consE (congrArg C.str ?_) (consE (congrArg (C.int .i64) ?_) (consE (congrArg (C.int .i64) ?_) (consE rfl (consE (congrArg (C.int .i64) ?_) rfl))))))))))))))))))))))))))))))))))) (consE (congrArg V.c (congrArg C.bool ?_)) rfl))), (by rw [hm1] <;> rfl)⟩
 rotate_left 31
 refine ⟨fun h2 => have q2 := bnot_t h2; ?_, fun h2 => have q2 := bnot_f h2; have p2 := planOk_t q2; ?_⟩
 refine have hm1 : strmNew p data script = (⟨(⟨[], 0, ([] : List Rd), 0, 0⟩ : Rdr), (⟨(⟨([] : List Shp), 0, 0, 0⟩ : Pln), 0, ([] : List Lev), (⟨0, 0⟩ : Scn), 0, 0, (⟨0, 0, false, false, 0⟩ : Fld), 0, 0, (⟨0, 0, 0⟩ : Utf), (⟨0, 0, 0, 0, [], 0, 0⟩ : Ev)⟩ : Dcd), ([] : List Ev), 0⟩ : Strm) := ?_; ?_
 rotate_left
 refine ⟨(congrArg S.tup (consE (congrArg V.agg (consE (congrArg C.str ?_) (consE (congrArg (C.int .i64) ?_) (consE rfl (consE (congrArg (C.int .i64) ?_) (consE (congrArg (C.int .i64) ?_) (consE rfl (consE (congrArg (C.int .i64) ?_) (consE (congrArg (C.int .i64) ?_) (consE (congrArg (C.int .i64) ?_) (consE (congrArg (C.int .i64) ?_) (consE rfl (consE (congrArg (C.int .u64) ?_) (consE (congrArg (C.int .i64) ?_) (consE (congrArg (C.int .i64) ?_) (consE (congrArg (C.int .i64) ?_) (consE (congrArg (C.int .i64) ?_) (consE (congrArg (C.int .i64) ?_) (consE (congrArg C.bool ?_) (consE (congrArg C.bool ?_) (consE (congrArg (C.int .i64) ?_) (consE (congrArg (C.int .i64) ?_) (consE (congrArg (C.int .i64) ?_) (consE (congrArg (C.int .i64) ?_) (consE (congrArg (C.int .i64) ?_) (consE (congrArg (C.int .i64) ?_) (consE (congrArg (C.int .i64) ?_) (consE (congrArg (C.int .i64) ?_) (consE (congrArg (C.int .u64) ?_) (consE (congrArg (C.int .i64) ?_) (consE (congrArg C.str ?_) (consE (congrArg (C.int .i64) ?_) (consE (congrArg (C.int .i64) ?_) (consE rfl (consE (congrArg (C.int .i64) ?_) rfl))))))))))))))))))))))))))))))))))) (consE (congrArg V.c (congrArg C.bool ?_)) rfl))), (by rw [hm1] <;> rfl)⟩
 rotate_left 31
 refine have hm1 : strmNew p data script = (⟨(rdrNew data script), (decNew p), ([] : List Ev), 0⟩ : Strm) := ?_; ?_
 rotate_left
 refine ⟨(congrArg S.tup (consE (congrArg V.agg (consE (congrArg C.str ?_) (consE (congrArg (C.int .i64) ?_) (consE rfl (consE (congrArg (C.int .i64) ?_) (consE (congrArg (C.int .i64) ?_) (consE rfl (consE (congrArg (C.int .i64) ?_) (consE (congrArg (C.int .i64) ?_) (consE (congrArg (C.int .i64) ?_) (consE (congrArg (C.int .i64) ?_) (consE rfl (consE (congrArg (C.int .u64) ?_) (consE (congrArg (C.int .i64) ?_) (consE (congrArg (C.int .i64) ?_) (consE (congrArg (C.int .i64) ?_) (consE (congrArg (C.int .i64) ?_) (consE (congrArg (C.int .i64) ?_) (consE (congrArg C.bool ?_) (consE (congrArg C.bool ?_) (consE (congrArg (C.int .i64) ?_) (consE (congrArg (C.int .i64) ?_) (consE (congrArg (C.int .i64) ?_) (consE (congrArg (C.int .i64) ?_) (consE (congrArg (C.int .i64) ?_) (consE (congrArg (C.int .i64) ?_) (consE (congrArg (C.int .i64) ?_) (consE (congrArg (C.int .i64) ?_) (consE (congrArg (C.int .u64) ?_) (consE (congrArg (C.int .i64) ?_) (consE (congrArg C.str ?_) (consE (congrArg (C.int .i64) ?_) (consE (congrArg (C.int .i64) ?_) (consE rfl (consE (congrArg (C.int .i64) ?_) rfl))))))))))))))))))))))))))))))))))) (consE (congrArg V.c (congrArg C.bool ?_)) rfl))), (by rw [hm1] <;> rfl)⟩
 rotate_left 31
 all_goals first | (simp_all [strmNew, strmNewOk, rdr0, dcd0, utf0]; done) | (grind [strmNew, strmNewOk, rdr0, dcd0, utf0])
theorem strmNew_s (p : Pln) (data : List UInt8) (script : List Rd) (hp1 : List.length data ≤ 1048576) (hp2 : List.length script ≤ 1048576) (hp3 : List.length (p).shapes ≤ bigN) : Fun Tryz.prog 7 [.agg (cPln p), vT data, .c (.seq .rd script)] [] (.tup [.agg (oStrm2_5_10_32 0 1 2 3 (strmNew p data script)), vB (strmNewOk p data script)]) [.lst .rd (strmNew p data script).reader.script, .tree (strmNew p data script).dec.plan.shapes, .lst .lev (strmNew p data script).dec.stack, .lst .ev (strmNew p data script).queue] := by
 have hN : bigN = 274877906944 := rfl
 refine fun_ofw Tryz.func7 (by kernel_rfl) (by kernel_rfl) (w := let zi : Int → C := .int .i64; let z1 : List C := [.str [], zi 0, .own 0, zi 0, zi 0, .own 1, zi 0, zi 0, zi 0, zi 0, .own 2, .int .u64 0, zi 0, zi 0, zi 0, zi 0, zi 0, .bool false, .bool false, zi 0, zi 0, zi 0, zi 0, zi 0, zi 0, zi 0, zi 0, .int .u64 0, zi 0, .str [], zi 0, zi 0, .own 3, zi 0]; let z3 := decNew p; let z4 := rdrNew data script; let z5 := strmNew p data script; let z2 : List Blk := [.lst .rd z5.reader.script, .tree z5.dec.plan.shapes, .lst .lev z5.dec.stack, .lst .ev z5.queue]; let z6 := ([.lst .rd ([] : List Rd), .tree ([] : List Shp), .lst .lev ([] : List Lev), .lst .ev ([] : List Ev)] : List Blk); let z7 := rdrNewOk data script; let z8 := oStrm2_5_10_32 0 1 2 3 z5; let z9 := strmNewOk p data script; (.seg [.call [] (.tup [.agg (oRdr2 0 z4), vB z7]) [.lst .rd z4.script], .call [] (.tup [.agg (oDcd0_5 0 1 z3), vB (planOk p)]) [.tree z3.plan.shapes, .lst .lev z3.stack]] (.br (.seg [.at 0, .mk 1 2 .rd, .mkT 1 5, .mk 1 10 .lev, .mk 1 32 .ev] (.leaf () [7, 8, 9, 10])) (.br (.seg [.at 0, .mk 1 2 .rd, .mkT 1 5, .mk 1 10 .lev, .mk 1 32 .ev] (.leaf () [7, 8, 9, 10])) (.seg [.at 0, .mk 1 32 .ev] (.leaf () [2, 4, 5, 7])))), (Fun Tryz.prog 16 [vT data, .c (.seq .rd script)] [] (.tup [.agg (oRdr2 0 z4), vB z7]) [.lst .rd z4.script]) ∧ (Fun Tryz.prog 17 [.agg (cPln p)] [] (.tup [.agg (oDcd0_5 0 1 z3), vB (planOk p)]) [.tree z3.plan.shapes, .lst .lev z3.stack]) ∧ ((!z7) = true → (.tup [.agg z1, vB false] : S) = .tup [.agg z8, vB z9] ∧ z6 = z2) ∧ ((!z7) = false → ((!(planOk p)) = true → (.tup [.agg z1, vB false] : S) = .tup [.agg z8, vB z9] ∧ z6 = z2) ∧ ((!(planOk p)) = false → (.tup [.agg [.str z4.data, zi z4.at_, .own 0, zi z4.next, zi z4.code, .own 1, zi z3.plan.root, zi z3.plan.deep, zi z3.plan.most, zi z3.mode, .own 2, .int .u64 z3.scan.bits, zi z3.scan.have_, zi z3.start, zi z3.at_, zi z3.field.number, zi z3.field.kind, .bool z3.field.rep, .bool z3.field.packed, zi z3.field.msg, zi z3.wire, zi z3.want, zi z3.utf.want, zi z3.utf.low, zi z3.utf.high, zi z3.end_.kind, zi z3.end_.field, .int .u64 z3.end_.bits, zi z3.end_.len, .str z3.end_.text, zi z3.end_.code, zi z3.end_.at_, .own 3, zi 0], vB true] : S) = .tup [.agg z8, vB z9] ∧ ([.lst .rd z4.script, .tree z3.plan.shapes, .lst .lev z3.stack, .lst .ev ([] : List Ev)] : List Blk) = z2)))) (by kernel_rfl) ?_
 refine ⟨(rdrNew_s _ _ (by omega) (by omega)), (decNew_s p (by omega)), fun h1 => have q1 := bnot_t h1; ?_, fun h1 => have q1 := bnot_f h1; ?_⟩
 refine have hm1 : strmNew p data script = (⟨(⟨[], 0, ([] : List Rd), 0, 0⟩ : Rdr), (⟨(⟨([] : List Shp), 0, 0, 0⟩ : Pln), 0, ([] : List Lev), (⟨0, 0⟩ : Scn), 0, 0, (⟨0, 0, false, false, 0⟩ : Fld), 0, 0, (⟨0, 0, 0⟩ : Utf), (⟨0, 0, 0, 0, [], 0, 0⟩ : Ev)⟩ : Dcd), ([] : List Ev), 0⟩ : Strm) := ?_; ?_
 rotate_left
 refine ⟨(congrArg S.tup (consE (congrArg V.agg (consE (congrArg C.str ?_) (consE (congrArg (C.int .i64) ?_) (consE rfl (consE (congrArg (C.int .i64) ?_) (consE (congrArg (C.int .i64) ?_) (consE rfl (consE (congrArg (C.int .i64) ?_) (consE (congrArg (C.int .i64) ?_) (consE (congrArg (C.int .i64) ?_) (consE (congrArg (C.int .i64) ?_) (consE rfl (consE (congrArg (C.int .u64) ?_) (consE (congrArg (C.int .i64) ?_) (consE (congrArg (C.int .i64) ?_) (consE (congrArg (C.int .i64) ?_) (consE (congrArg (C.int .i64) ?_) (consE (congrArg (C.int .i64) ?_) (consE (congrArg C.bool ?_) (consE (congrArg C.bool ?_) (consE (congrArg (C.int .i64) ?_) (consE (congrArg (C.int .i64) ?_) (consE (congrArg (C.int .i64) ?_) (consE (congrArg (C.int .i64) ?_) (consE (congrArg (C.int .i64) ?_) (consE (congrArg (C.int .i64) ?_) (consE (congrArg (C.int .i64) ?_) (consE (congrArg (C.int .i64) ?_) (consE (congrArg (C.int .u64) ?_) (consE (congrArg (C.int .i64) ?_) (consE (congrArg C.str ?_) (consE (congrArg (C.int .i64) ?_) (consE (congrArg (C.int .i64) ?_) (consE rfl (consE (congrArg (C.int .i64) ?_) rfl))))))))))))))))))))))))))))))))))) (consE (congrArg V.c (congrArg C.bool ?_)) rfl))), (by rw [hm1] <;> rfl)⟩
 rotate_left 31
 refine ⟨fun h2 => have q2 := bnot_t h2; ?_, fun h2 => have q2 := bnot_f h2; have p2 := planOk_t q2; ?_⟩
 refine have hm1 : strmNew p data script = (⟨(⟨[], 0, ([] : List Rd), 0, 0⟩ : Rdr), (⟨(⟨([] : List Shp), 0, 0, 0⟩ : Pln), 0, ([] : List Lev), (⟨0, 0⟩ : Scn), 0, 0, (⟨0, 0, false, false, 0⟩ : Fld), 0, 0, (⟨0, 0, 0⟩ : Utf), (⟨0, 0, 0, 0, [], 0, 0⟩ : Ev)⟩ : Dcd), ([] : List Ev), 0⟩ : Strm) := ?_; ?_
 rotate_left
 refine ⟨(congrArg S.tup (consE (congrArg V.agg (consE (congrArg C.str ?_) (consE (congrArg (C.int .i64) ?_) (consE rfl (consE (congrArg (C.int .i64) ?_) (consE (congrArg (C.int .i64) ?_) (consE rfl (consE (congrArg (C.int .i64) ?_) (consE (congrArg (C.int .i64) ?_) (consE (congrArg (C.int .i64) ?_) (consE (congrArg (C.int .i64) ?_) (consE rfl (consE (congrArg (C.int .u64) ?_) (consE (congrArg (C.int .i64) ?_) (consE (congrArg (C.int .i64) ?_) (consE (congrArg (C.int .i64) ?_) (consE (congrArg (C.int .i64) ?_) (consE (congrArg (C.int .i64) ?_) (consE (congrArg C.bool ?_) (consE (congrArg C.bool ?_) (consE (congrArg (C.int .i64) ?_) (consE (congrArg (C.int .i64) ?_) (consE (congrArg (C.int .i64) ?_) (consE (congrArg (C.int .i64) ?_) (consE (congrArg (C.int .i64) ?_) (consE (congrArg (C.int .i64) ?_) (consE (congrArg (C.int .i64) ?_) (consE (congrArg (C.int .i64) ?_) (consE (congrArg (C.int .u64) ?_) (consE (congrArg (C.int .i64) ?_) (consE (congrArg C.str ?_) (consE (congrArg (C.int .i64) ?_) (consE (congrArg (C.int .i64) ?_) (consE rfl (consE (congrArg (C.int .i64) ?_) rfl))))))))))))))))))))))))))))))))))) (consE (congrArg V.c (congrArg C.bool ?_)) rfl))), (by rw [hm1] <;> rfl)⟩
 rotate_left 31
 refine have hm1 : strmNew p data script = (⟨(rdrNew data script), (decNew p), ([] : List Ev), 0⟩ : Strm) := ?_; ?_
 rotate_left
 refine ⟨(congrArg S.tup (consE (congrArg V.agg (consE (congrArg C.str ?_) (consE (congrArg (C.int .i64) ?_) (consE rfl (consE (congrArg (C.int .i64) ?_) (consE (congrArg (C.int .i64) ?_) (consE rfl (consE (congrArg (C.int .i64) ?_) (consE (congrArg (C.int .i64) ?_) (consE (congrArg (C.int .i64) ?_) (consE (congrArg (C.int .i64) ?_) (consE rfl (consE (congrArg (C.int .u64) ?_) (consE (congrArg (C.int .i64) ?_) (consE (congrArg (C.int .i64) ?_) (consE (congrArg (C.int .i64) ?_) (consE (congrArg (C.int .i64) ?_) (consE (congrArg (C.int .i64) ?_) (consE (congrArg C.bool ?_) (consE (congrArg C.bool ?_) (consE (congrArg (C.int .i64) ?_) (consE (congrArg (C.int .i64) ?_) (consE (congrArg (C.int .i64) ?_) (consE (congrArg (C.int .i64) ?_) (consE (congrArg (C.int .i64) ?_) (consE (congrArg (C.int .i64) ?_) (consE (congrArg (C.int .i64) ?_) (consE (congrArg (C.int .i64) ?_) (consE (congrArg (C.int .u64) ?_) (consE (congrArg (C.int .i64) ?_) (consE (congrArg C.str ?_) (consE (congrArg (C.int .i64) ?_) (consE (congrArg (C.int .i64) ?_) (consE rfl (consE (congrArg (C.int .i64) ?_) rfl))))))))))))))))))))))))))))))))))) (consE (congrArg V.c (congrArg C.bool ?_)) rfl))), (by rw [hm1] <;> rfl)⟩
 rotate_left 31
 all_goals first | (simp_all [strmNew, strmNewOk, rdr0, dcd0, utf0]; done) | (grind [strmNew, strmNewOk, rdr0, dcd0, utf0])
theorem strmOk_i (s : Strm) (hp1 : List.length (s).reader.data ≤ bigN) (hp2 : List.length (s).reader.script ≤ bigN) (hp3 : List.length (s).dec.stack ≤ bigN) (hp4 : List.length (s).dec.plan.shapes ≤ bigN) : Fun Tryz.prog 10 [.agg (cStrm s)] [] (.v (vB (strmOk s))) [] := by
 have hN : bigN = 274877906944 := rfl
 refine fun_ofw Tryz.func10 (by kernel_rfl) (by kernel_rfl) (w := let z1 := readerOk s.reader; let z2 := decOk s.dec; (.seg [.call [] (.v (vB z1)) []] (.br (.seg [.call [] (.v (vB z2)) []] (.br (.leaf () []) (.leaf () []))) (.leaf () [])), (Fun Tryz.prog 19 [.agg (cRdr s.reader)] [] (.v (vB z1)) []) ∧ (z1 = true → (Fun Tryz.prog 22 [.agg (cDcd s.dec)] [] (.v (vB z2)) []) ∧ (z2 = true → (.v (vB (decide (0 ≤ s.reads))) : S) = .v (vB (strmOk s)) ∧ ([] : List Blk) = []) ∧ (z2 = false → (.v (vB false) : S) = .v (vB (strmOk s)) ∧ ([] : List Blk) = [])) ∧ (z1 = false → (.v (vB false) : S) = .v (vB (strmOk s)) ∧ ([] : List Blk) = []))) (by kernel_rfl) ?_
 refine ⟨(readerOk_i s.reader (by omega) (by omega)), fun h1 => have p1 := readerOk_t h1; ?_, fun h1 => ?_⟩
 refine ⟨(decOk_i s.dec (by omega) (by omega)), fun h2 => ?_, fun h2 => ?_⟩
 refine ⟨(sB ?_), rfl⟩
 rotate_left
 refine ⟨(sB ?_), rfl⟩
 rotate_left
 refine ⟨(sB ?_), rfl⟩
 rotate_left
 all_goals first | (simp_all [strmOk]; done) | (grind [strmOk])
theorem law_StreamNew (code : List Int) (hp1 : ((List.length code : Nat) : Int) ≤ 9223372036854775807) : Fun Tryz.prog 3 [.c (.seq .u8 code)] [] (.v (vB true)) [] := by
 have hN : bigN = 274877906944 := rfl
 refine fun_ofw Tryz.func3 (by kernel_rfl) (by kernel_rfl) (w := let z8 := decide (1048576 < ((List.length code : Nat) : Int)); let z9 := ([] : List Blk); let z10 := (.v (vB false) : S); let z11 := (.v (vB true) : S); (.seg [.call [] (.v (vB z8)) []] (.br (.leaf () []) (.intro (fun (o1 : drawStreamNew_o_O) => ((PlnB o1.p) ∧ (List.length (o1.t : List UInt8) ≤ 200000) ∧ (List.length o1.l ≤ 201)) ∧ Fun Tryz.prog 5 [.c (.seq .u8 code)] [] (.tup [.agg (cPln o1.p), vT o1.t, vO 0]) [.lst .rd o1.l]) fun o1 => let z1 := strmNew o1.p o1.t o1.l; .seg [.call [] (.tup [.agg (cPln o1.p), vT o1.t, vO 0]) [.lst .rd o1.l], .call [] (.tup [.agg (oStrm2_5_10_32 0 1 2 3 z1), vB (strmNewOk o1.p o1.t o1.l)]) [.lst .rd z1.reader.script, .tree z1.dec.plan.shapes, .lst .lev z1.dec.stack, .lst .ev z1.queue], .call [] (.tup [.agg (oStrm2_5_10_32 0 1 2 3 z1), vB (strmNewOk o1.p o1.t o1.l)]) [.lst .rd z1.reader.script, .tree z1.dec.plan.shapes, .lst .lev z1.dec.stack, .lst .ev z1.queue], .call [] (.tup [.agg (oRdr2 0 (rdrNew o1.t o1.l)), vB (rdrNewOk o1.t o1.l)]) [.lst .rd (rdrNew o1.t o1.l).script], .call [] (.tup [.agg (oDcd0_5 0 1 (decNew o1.p)), vB (planOk o1.p)]) [.tree (decNew o1.p).plan.shapes, .lst .lev (decNew o1.p).stack], .br false] (.br (.br (.leaf () []) (.br (.leaf () []) (.seg [.call [] (.v (vB (strmOk z1))) []] (.br (.br (.seg [.call [] (.v (vI (leftOf z1.reader))) []] (.br (.leaf () []) (.leaf () []))) (.leaf () [])) (.leaf () []))))) (.br (.leaf () []) (.br (.leaf () []) (.seg [.call [] (.v (vB (strmOk z1))) []] (.br (.br (.seg [.call [] (.v (vI (leftOf z1.reader))) []] (.br (.leaf () []) (.leaf () []))) (.leaf () [])) (.leaf () [])))))))), (Fun Tryz.prog 4 [.c (.seq .u8 code)] [] (.v (vB z8)) []) ∧ (z8 = true → z11 = .v (vB true) ∧ z9 = []) ∧ (z8 = false → (∃ (o1 : drawStreamNew_o_O), ((PlnB o1.p) ∧ (List.length (o1.t : List UInt8) ≤ 200000) ∧ (List.length o1.l ≤ 201)) ∧ Fun Tryz.prog 5 [.c (.seq .u8 code)] [] (.tup [.agg (cPln o1.p), vT o1.t, vO 0]) [.lst .rd o1.l]) ∧ ∀ (o1 : drawStreamNew_o_O), (((PlnB o1.p) ∧ (List.length (o1.t : List UInt8) ≤ 200000) ∧ (List.length o1.l ≤ 201)) ∧ Fun Tryz.prog 5 [.c (.seq .u8 code)] [] (.tup [.agg (cPln o1.p), vT o1.t, vO 0]) [.lst .rd o1.l]) → (let z2 := strmNew o1.p o1.t o1.l; let z3 := decide (leftOf z2.reader = ((List.length o1.t : Nat) : Int)); let z4 := strmNewOk o1.p o1.t o1.l; let z5 := !decide (strmNewOk o1.p o1.t o1.l = planOk o1.p); let z6 := !decide (strmNewOk o1.p o1.t o1.l = false); let z7 := rdrNewOk o1.t o1.l; (Fun Tryz.prog 5 [.c (.seq .u8 code)] [] (.tup [.agg (cPln o1.p), vT o1.t, vO 0]) [.lst .rd o1.l]) ∧ (Fun Tryz.prog 6 [.agg (cPln o1.p), vT o1.t, .c (.seq .rd o1.l)] [] (.tup [.agg (oStrm2_5_10_32 0 1 2 3 z2), vB z4]) [.lst .rd z2.reader.script, .tree z2.dec.plan.shapes, .lst .lev z2.dec.stack, .lst .ev z2.queue]) ∧ (Fun Tryz.prog 7 [.agg (cPln o1.p), vT o1.t, .c (.seq .rd o1.l)] [] (.tup [.agg (oStrm2_5_10_32 0 1 2 3 z2), vB z4]) [.lst .rd z2.reader.script, .tree z2.dec.plan.shapes, .lst .lev z2.dec.stack, .lst .ev z2.queue]) ∧ (Fun Tryz.prog 8 [vT o1.t, .c (.seq .rd o1.l)] [] (.tup [.agg (oRdr2 0 (rdrNew o1.t o1.l)), vB z7]) [.lst .rd (rdrNew o1.t o1.l).script]) ∧ (Fun Tryz.prog 9 [.agg (cPln o1.p)] [] (.tup [.agg (oDcd0_5 0 1 (decNew o1.p)), vB (planOk o1.p)]) [.tree (decNew o1.p).plan.shapes, .lst .lev (decNew o1.p).stack]) ∧ ((!decide (strmNewOk o1.p o1.t o1.l = strmNewOk o1.p o1.t o1.l)) = false) ∧ (z7 = true → (z5 = true → z10 = .v (vB true) ∧ z9 = []) ∧ (z5 = false → ((!z4) = true → z11 = .v (vB true) ∧ z9 = []) ∧ ((!z4) = false → (Fun Tryz.prog 10 [.agg (cStrm z2)] [] (.v (vB (strmOk z2))) []) ∧ ((strmOk z2) = true → ((decide (z2.reads = 0)) = true → (Fun Tryz.prog 11 [.agg (cRdr z2.reader)] [] (.v (vI (leftOf z2.reader))) []) ∧ (z3 = true → (.v (vB (decide (((List.length z2.queue : Nat) : Int) = 0))) : S) = .v (vB true) ∧ z9 = []) ∧ (z3 = false → z10 = .v (vB true) ∧ z9 = [])) ∧ ((decide (z2.reads = 0)) = false → z10 = .v (vB true) ∧ z9 = [])) ∧ ((strmOk z2) = false → z10 = .v (vB true) ∧ z9 = [])))) ∧ (z7 = false → (z6 = true → z10 = .v (vB true) ∧ z9 = []) ∧ (z6 = false → ((!z4) = true → z11 = .v (vB true) ∧ z9 = []) ∧ ((!z4) = false → (Fun Tryz.prog 10 [.agg (cStrm z2)] [] (.v (vB (strmOk z2))) []) ∧ ((strmOk z2) = true → ((decide (z2.reads = 0)) = true → (Fun Tryz.prog 11 [.agg (cRdr z2.reader)] [] (.v (vI (leftOf z2.reader))) []) ∧ (z3 = true → (.v (vB (decide (((List.length z2.queue : Nat) : Int) = 0))) : S) = .v (vB true) ∧ z9 = []) ∧ (z3 = false → z10 = .v (vB true) ∧ z9 = [])) ∧ ((decide (z2.reads = 0)) = false → z10 = .v (vB true) ∧ z9 = [])) ∧ ((strmOk z2) = false → z10 = .v (vB true) ∧ z9 = [])))))))) (by kernel_rfl) ?_
 refine ⟨(big_ok _ (by omega)), dsp (fun h1 p1 => ?_) fun h1 p1 => ?_⟩
 exact ⟨rfl, rfl⟩
 refine ⟨(drawStreamNew_o code (by omega)), fun o1 ho_o1 => ?_⟩
 obtain ⟨⟨hp_o1_0, hp_o1_1, hp_o1_2⟩, hf_o1⟩ := ho_o1
 refine ⟨hf_o1, (strmNew_i o1.p _ _ (by omega) (by omega) (by have := hp_o1_0.1; omega)), (strmNew_s o1.p _ _ (by omega) (by omega) (by have := hp_o1_0.1; omega)), (rdrNew_i _ _ (by omega) (by omega)), (decNew_i o1.p (by have := hp_o1_0.1; omega)), (by simp), fun h2 => ?_, fun h2 => ?_⟩
 refine ⟨fun h3 => have q3 := bnot_t h3; have p3 := of_decide_eq_false q3; ?_, fun h3 => have q3 := bnot_f h3; have p3 := of_decide_eq_true q3; ?_⟩
 refine ⟨(sB ?_), rfl⟩
 rotate_left
 refine ⟨fun h4 => have q4 := bnot_t h4; ?_, fun h4 => have q4 := bnot_f h4; ?_⟩
 exact ⟨rfl, rfl⟩
 have hpb := hp_o1_0.1
 have hx := strmNew_at q4
 have h2 : rdrNewOk o1.t o1.l = true ∧ planOk o1.p = true := by simpa [strmNewOk] using q4
 have hdn := decNew_t h2.2
 have hxd : List.length (strmNew o1.p o1.t o1.l).reader.data = List.length o1.t := by rw [hx.1]
 have hxs : List.length (strmNew o1.p o1.t o1.l).reader.script = List.length o1.l := by rw [hx.1]
 have hxp : List.length (strmNew o1.p o1.t o1.l).dec.plan.shapes = List.length o1.p.shapes := by rw [hx.1, hdn.1]
 have hxk : List.length (strmNew o1.p o1.t o1.l).dec.stack = 0 := by rw [hx.1, hdn.2.1]; rfl
 have hxr : (strmNew o1.p o1.t o1.l).reads = 0 := by rw [hx.1]
 have hxq : (strmNew o1.p o1.t o1.l).queue = [] := by rw [hx.1]
 refine ⟨(strmOk_i (strmNew o1.p o1.t o1.l) (by omega) (by omega) (by omega) (by omega)), fun h5 => ?_, fun h5 => ?_⟩
 refine dsp (fun h6 p6 => ?_) fun h6 p6 => ?_
 refine ⟨(leftOf_i (strmNew o1.p o1.t o1.l).reader (by omega) (by omega)), dsp (fun h7 p7 => ?_) fun h7 p7 => ?_⟩
 refine ⟨(sB ?_), rfl⟩
 rotate_left
 refine ⟨(sB ?_), rfl⟩
 rotate_left
 refine ⟨(sB ?_), rfl⟩
 rotate_left
 refine ⟨(sB ?_), rfl⟩
 rotate_left
 refine ⟨fun h3 => have q3 := bnot_t h3; have p3 := of_decide_eq_false q3; ?_, fun h3 => have q3 := bnot_f h3; have p3 := of_decide_eq_true q3; ?_⟩
 refine ⟨(sB ?_), rfl⟩
 rotate_left
 refine ⟨fun h4 => have q4 := bnot_t h4; ?_, fun h4 => have q4 := bnot_f h4; ?_⟩
 exact ⟨rfl, rfl⟩
 have hpb := hp_o1_0.1
 have hx := strmNew_at q4
 have h2 : rdrNewOk o1.t o1.l = true ∧ planOk o1.p = true := by simpa [strmNewOk] using q4
 have hdn := decNew_t h2.2
 have hxd : List.length (strmNew o1.p o1.t o1.l).reader.data = List.length o1.t := by rw [hx.1]
 have hxs : List.length (strmNew o1.p o1.t o1.l).reader.script = List.length o1.l := by rw [hx.1]
 have hxp : List.length (strmNew o1.p o1.t o1.l).dec.plan.shapes = List.length o1.p.shapes := by rw [hx.1, hdn.1]
 have hxk : List.length (strmNew o1.p o1.t o1.l).dec.stack = 0 := by rw [hx.1, hdn.2.1]; rfl
 have hxr : (strmNew o1.p o1.t o1.l).reads = 0 := by rw [hx.1]
 have hxq : (strmNew o1.p o1.t o1.l).queue = [] := by rw [hx.1]
 refine ⟨(strmOk_i (strmNew o1.p o1.t o1.l) (by omega) (by omega) (by omega) (by omega)), fun h5 => ?_, fun h5 => ?_⟩
 refine dsp (fun h6 p6 => ?_) fun h6 p6 => ?_
 refine ⟨(leftOf_i (strmNew o1.p o1.t o1.l).reader (by omega) (by omega)), dsp (fun h7 p7 => ?_) fun h7 p7 => ?_⟩
 refine ⟨(sB ?_), rfl⟩
 rotate_left
 refine ⟨(sB ?_), rfl⟩
 rotate_left
 refine ⟨(sB ?_), rfl⟩
 rotate_left
 refine ⟨(sB ?_), rfl⟩
 rotate_left
 all_goals first | (rfl) | ((simp [*]; done)) | ((simp_all [strmNewOk_is]; done)) | (grind [strmNewOk_is])
end Go.Proofs.YtnamhappoaplcaaGreat.Ax
namespace Go.Proofs.YtnamhappoaplcaaGreat.Ax
open Go.ChangeShapes Go.WideShapes Go.ChangeAt Go.RowKit
theorem cof_uint8 : Tryz.prog.cellsOf 5 = 1 := by kernel_rfl
theorem e_u8 {H : Type} {tok : TypeId × Value → H} {w : World} {sp : Nat → Bool} {held : Bool} (fuel : Nat) (cs : List Value) (x : DataW H × List MemPlace) (hl : cs.length = 1) (h : DataW.trod tok Tryz.prog w 0 sp held fuel 5 cs = some x) : ∃ y : Int, All2 Rep0 (enc .u8 y) cs ∧ (0 ≤ y ∧ y ≤ 255) := by
 obtain ⟨i, rfl, _, hw⟩ := DataW.trod_int Tryz.underlying5 h
 exact ⟨i, .cons rfl .nil, bounds_u8 hw⟩
end Go.Proofs.YtnamhappoaplcaaGreat.Ax
