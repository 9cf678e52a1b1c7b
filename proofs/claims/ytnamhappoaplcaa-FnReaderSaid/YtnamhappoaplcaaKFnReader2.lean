/- ReadAll, Joined, LeftOf. The law FnReader. Opening what the laws are handed. -/
import Derived.Test.YtnamhappoaplcaaKFnReader1
import Derived.Test.YtnamhappoaplcaaKB4
set_option linter.unusedSimpArgs false
set_option linter.unusedVariables false
namespace Go.Proofs.Ytnamhappoaplcaa.Ax
open Go.RowKit
def leftOf (r : Rdr) : Int := if readerOk r = true then (r.data.length : Int) - r.at_ else 0
structure readAll_i_V0 where
 r : Rdr
 out : List (List UInt8)
def readAll_i_F0 (r : Rdr) (room : Int) : Fam := ⟨readAll_i_V0, fun q1 => [(1, .v (vI room)), (2, .v (vP 0)), (6, .v (vO 1))], fun q1 => [.cells (cRdr q1.r), .lst .str q1.out], fun q1 => readerOk q1.r = true ∧ q1.out ++ (readAllM room (rleft q1.r + 1) q1.r).1 = (readAll r room).1 ∧ (readAllM room (rleft q1.r + 1) q1.r).2 = (readAll r room).2 ∧ List.length q1.out + rleft q1.r ≤ 4200, fun q1 => rleft q1.r⟩
theorem readAll_i (r : Rdr) (room : Int) (hp1 : List.length (r).script ≤ bigN) (hp2 : List.length (r).data ≤ bigN) : Fun Try.prog 11 [.agg (cRdr r), vI room] [] (.tup [vO 0, vI (readAll r room).2]) [.lst .str (readAll r room).1] := by
 have hN : bigN = 274877906944 := rfl
 refine fun_ofw Try.func11 (by kernel_rfl) (by kernel_rfl) (w := let z3 := readAll r room; let z4 := readAll_i_F0 r room; let z5 := ([.lst .str ([] : List (List UInt8))] : List Blk); (.seg [.call [] (.v (vB (readerOk r))) []] (.br (.seg [.at 0, .mkS 4 .str] (.leaf () [1])) (.br (.seg [.at 0, .mkS 4 .str] (.leaf () [1])) (.seg [.ty .str, .at 0, .keep [1, 2, 6], .sel [0, 1]] (.loop z4 fun q1 => .seg [.call [] (.tup [.agg (oRdr2 0 (readSome q1.r room)), vT (readTxt q1.r room), vI (readCode q1.r room)]) [.lst .rd (readSome q1.r room).script], .tree (fr (.one 3 (.one 4 (.one 5 (.first 6 (.done))))) 0 3) 5 [1], .ty .str, .ty .str] (.br (.leaf () [5]) (.seg [.at 0, .pub 0 2, .keep [1, 2, 6], .sel [0, 5]] (.next))))))), (Fun Try.prog 9 [.agg (cRdr r)] [] (.v (vB (readerOk r))) []) ∧ ((!(readerOk r)) = true → (.tup [vO 0, vI 1] : S) = .tup [vO 0, vI z3.2] ∧ z5 = [.lst .str z3.1]) ∧ ((!(readerOk r)) = false → ((decide (room < 1)) = true → (.tup [vO 0, vI 1] : S) = .tup [vO 0, vI z3.2] ∧ z5 = [.lst .str z3.1]) ∧ ((decide (room < 1)) = false → z4.Has [(1, .v (vI room)), (2, .v (vP 0)), (6, .v (vO 1))] [.cells (cRdr r), .lst .str ([] : List (List UInt8))] ∧ ∀ q1, z4.inv q1 → (let z1 := readSome q1.r room; let z2 := !decide (readCode q1.r room = 0); (Fun Try.prog 7 [.agg (cRdr q1.r), vI room] [] (.tup [.agg (oRdr2 0 z1), vT (readTxt q1.r room), vI (readCode q1.r room)]) [.lst .rd z1.script]) ∧ (List.length q1.out + List.length [readTxt q1.r room] ≤ bigN) ∧ (z2 = true → (.tup [vO 0, vI (readCode q1.r room)] : S) = .tup [vO 0, vI z3.2] ∧ ([.lst .str (q1.out ++ [readTxt q1.r room])] : List Blk) = [.lst .str z3.1]) ∧ (z2 = false → z4.Nxt q1 [(1, .v (vI room)), (2, .v (vP 0)), (6, .v (vO 1))] [.cells (cRdr z1), .lst .str (q1.out ++ [readTxt q1.r room])])))))) (by kernel_rfl) ?_
 refine ⟨(readerOk_i r (by omega) (by omega)), fun h1 => have q1 := bnot_t h1; ?_, fun h1 => have q1 := bnot_f h1; have p1 := readerOk_t q1; ?_⟩
 have hra := readAll_no (r := r) (room := room) (fun hh => by rw [hh.1] at q1; cases q1)
 refine ⟨(congrArg S.tup (consE rfl (consE (congrArg V.c (congrArg (C.int .i64) ?_)) rfl))), (consE (congrArg (Blk.lst .str) ?_) rfl)⟩
 rotate_left 2
 have hro : readerOk r = true := q1
 refine dsp (fun h2 p2 => ?_) fun h2 p2 => ?_
 have hra := readAll_no (r := r) (room := room) (fun hh => by omega)
 refine ⟨(congrArg S.tup (consE rfl (consE (congrArg V.c (congrArg (C.int .i64) ?_)) rfl))), (consE (congrArg (Blk.lst .str) ?_) rfl)⟩
 rotate_left 2
 have hok : readerOk r = true ∧ 1 ≤ room := ⟨hro, by omega⟩
 have hra := readAll_if hok.1 hok.2
 refine ⟨has_of (j := (⟨r, ([] : List (List UInt8))⟩ : readAll_i_V0)) rfl rfl (by dsimp only [readAll_i_F0]; exact ⟨hok.1, by rw [hra]; rfl, by rw [hra], by simpa using rleft_most hok.1⟩), fun (q1 : readAll_i_V0) hq_q1 => ?_⟩
 have hi_q1 : readerOk q1.r = true ∧ q1.out ++ (readAllM room (rleft q1.r + 1) q1.r).1 = (readAll r room).1 ∧ (readAllM room (rleft q1.r + 1) q1.r).2 = (readAll r room).2 ∧ List.length q1.out + rleft q1.r ≤ 4200 := hq_q1
 obtain ⟨v1, v2, v3, v4⟩ := hi_q1
 have htr := readerOk_t v1
 refine ⟨(readSome_i q1.r _ (by omega) (by omega)), (by simp only [List.length_cons, List.length_nil]; omega), fun h3 => have q3 := bnot_t h3; have p3 := of_decide_eq_false q3; ?_, fun h3 => have q3 := bnot_f h3; have p3 := of_decide_eq_true q3; ?_⟩
 have hc0 : readCode q1.r room ≠ 0 := by omega
 rw [readAllM_last hc0] at v2 v3
 refine ⟨(congrArg S.tup (consE rfl (consE (congrArg V.c (congrArg (C.int .i64) ?_)) rfl))), (consE (congrArg (Blk.lst .str) ?_) rfl)⟩
 rotate_left 2
 have hc0 : readCode q1.r room = 0 := by omega
 have hlt := rleft_next v1 hok.2 hc0
 rw [readAllM_step v1 hok.2 hc0] at v2 v3
 exact nxt_of (j := (⟨(readSome q1.r room), q1.out ++ [readTxt q1.r room]⟩ : readAll_i_V0)) rfl rfl (by dsimp only [readAll_i_F0]; exact ⟨readSome_right v1, by rw [List.append_assoc]; exact v2, v3, by simp; omega⟩) (by dsimp only [readAll_i_F0]; exact hlt)
 all_goals first | (exact v2) | (exact v3) | ((rw [hra]; done)) | ((rw [← v2]; done)) | ((rw [← v3]; done)) | (grind)
structure readAll_s_V0 where
 r : Rdr
 out : List (List UInt8)
def readAll_s_F0 (r : Rdr) (room : Int) : Fam := ⟨readAll_s_V0, fun q1 => [(1, .v (vI room)), (2, .v (vP 0)), (6, .v (vO 1))], fun q1 => [.cells (cRdr q1.r), .lst .str q1.out], fun q1 => readerOk q1.r = true ∧ q1.out ++ (readAllM room (rleft q1.r + 1) q1.r).1 = (readAll r room).1 ∧ (readAllM room (rleft q1.r + 1) q1.r).2 = (readAll r room).2 ∧ List.length q1.out + rleft q1.r ≤ 4200, fun q1 => rleft q1.r⟩
theorem readAll_s (r : Rdr) (room : Int) (hp1 : List.length (r).script ≤ bigN) (hp2 : List.length (r).data ≤ bigN) : Fun Try.prog 12 [.agg (cRdr r), vI room] [] (.tup [vO 0, vI (readAll r room).2]) [.lst .str (readAll r room).1] := by
 have hN : bigN = 274877906944 := rfl
 refine fun_ofw Try.func12 (by kernel_rfl) (by kernel_rfl) (w := let z3 := readAll r room; let z4 := readAll_s_F0 r room; let z5 := ([.lst .str ([] : List (List UInt8))] : List Blk); (.seg [.ty .str, .call [] (.v (vB (readerOk r))) []] (.br (.leaf () [1]) (.br (.leaf () [1]) (.seg [.at 0, .keep [1, 2, 6], .sel [0, 1]] (.loop z4 fun q1 => .seg [.call [] (.tup [.agg (oRdr2 0 (readSome q1.r room)), vT (readTxt q1.r room), vI (readCode q1.r room)]) [.lst .rd (readSome q1.r room).script], .ty .str, .ty .str] (.br (.leaf () [5]) (.seg [.at 0, .pub 0 2, .keep [1, 2, 6], .sel [0, 5]] (.next))))))), (Fun Try.prog 13 [.agg (cRdr r)] [] (.v (vB (readerOk r))) []) ∧ ((!(readerOk r)) = true → (.tup [vO 0, vI 1] : S) = .tup [vO 0, vI z3.2] ∧ z5 = [.lst .str z3.1]) ∧ ((!(readerOk r)) = false → ((decide (room < 1)) = true → (.tup [vO 0, vI 1] : S) = .tup [vO 0, vI z3.2] ∧ z5 = [.lst .str z3.1]) ∧ ((decide (room < 1)) = false → z4.Has [(1, .v (vI room)), (2, .v (vP 0)), (6, .v (vO 1))] [.cells (cRdr r), .lst .str ([] : List (List UInt8))] ∧ ∀ q1, z4.inv q1 → (let z1 := readSome q1.r room; let z2 := !decide (readCode q1.r room = 0); (Fun Try.prog 8 [.agg (cRdr q1.r), vI room] [] (.tup [.agg (oRdr2 0 z1), vT (readTxt q1.r room), vI (readCode q1.r room)]) [.lst .rd z1.script]) ∧ (List.length q1.out + List.length [readTxt q1.r room] ≤ bigN) ∧ (z2 = true → (.tup [vO 0, vI (readCode q1.r room)] : S) = .tup [vO 0, vI z3.2] ∧ ([.lst .str (q1.out ++ [readTxt q1.r room])] : List Blk) = [.lst .str z3.1]) ∧ (z2 = false → z4.Nxt q1 [(1, .v (vI room)), (2, .v (vP 0)), (6, .v (vO 1))] [.cells (cRdr z1), .lst .str (q1.out ++ [readTxt q1.r room])])))))) (by kernel_rfl) ?_
 refine ⟨(readerOk_s r (by omega) (by omega)), fun h1 => have q1 := bnot_t h1; ?_, fun h1 => have q1 := bnot_f h1; have p1 := readerOk_t q1; ?_⟩
 have hra := readAll_no (r := r) (room := room) (fun hh => by rw [hh.1] at q1; cases q1)
 refine ⟨(congrArg S.tup (consE rfl (consE (congrArg V.c (congrArg (C.int .i64) ?_)) rfl))), (consE (congrArg (Blk.lst .str) ?_) rfl)⟩
 rotate_left 2
 have hro : readerOk r = true := q1
 refine dsp (fun h2 p2 => ?_) fun h2 p2 => ?_
 have hra := readAll_no (r := r) (room := room) (fun hh => by omega)
 refine ⟨(congrArg S.tup (consE rfl (consE (congrArg V.c (congrArg (C.int .i64) ?_)) rfl))), (consE (congrArg (Blk.lst .str) ?_) rfl)⟩
 rotate_left 2
 have hok : readerOk r = true ∧ 1 ≤ room := ⟨hro, by omega⟩
 have hra := readAll_if hok.1 hok.2
 refine ⟨has_of (j := (⟨r, ([] : List (List UInt8))⟩ : readAll_s_V0)) rfl rfl (by dsimp only [readAll_s_F0]; exact ⟨hok.1, by rw [hra]; rfl, by rw [hra], by simpa using rleft_most hok.1⟩), fun (q1 : readAll_s_V0) hq_q1 => ?_⟩
 have hi_q1 : readerOk q1.r = true ∧ q1.out ++ (readAllM room (rleft q1.r + 1) q1.r).1 = (readAll r room).1 ∧ (readAllM room (rleft q1.r + 1) q1.r).2 = (readAll r room).2 ∧ List.length q1.out + rleft q1.r ≤ 4200 := hq_q1
 obtain ⟨v1, v2, v3, v4⟩ := hi_q1
 have htr := readerOk_t v1
 refine ⟨(readSome_s q1.r _ (by omega) (by omega)), (by simp only [List.length_cons, List.length_nil]; omega), fun h3 => have q3 := bnot_t h3; have p3 := of_decide_eq_false q3; ?_, fun h3 => have q3 := bnot_f h3; have p3 := of_decide_eq_true q3; ?_⟩
 have hc0 : readCode q1.r room ≠ 0 := by omega
 rw [readAllM_last hc0] at v2 v3
 refine ⟨(congrArg S.tup (consE rfl (consE (congrArg V.c (congrArg (C.int .i64) ?_)) rfl))), (consE (congrArg (Blk.lst .str) ?_) rfl)⟩
 rotate_left 2
 have hc0 : readCode q1.r room = 0 := by omega
 have hlt := rleft_next v1 hok.2 hc0
 rw [readAllM_step v1 hok.2 hc0] at v2 v3
 exact nxt_of (j := (⟨(readSome q1.r room), q1.out ++ [readTxt q1.r room]⟩ : readAll_s_V0)) rfl rfl (by dsimp only [readAll_s_F0]; exact ⟨readSome_right v1, by rw [List.append_assoc]; exact v2, v3, by simp; omega⟩) (by dsimp only [readAll_s_F0]; exact hlt)
 all_goals first | (exact v2) | (exact v3) | ((rw [hra]; done)) | ((rw [← v2]; done)) | ((rw [← v3]; done)) | (grind)
structure joined_s_V0 where
 out : List Int
 i : Nat
def joined_s_F0 (l : List (List UInt8)) : Fam := ⟨joined_s_V0, fun q1 => [(0, .v (.c (.seq .str l))), (3, .v (vO 0)), (4, .v (vI ((q1.i : Nat) : Int)))], fun q1 => [.lst .u8 q1.out], fun q1 => q1.i ≤ List.length l ∧ List.map toByte q1.out ++ List.flatten (List.drop q1.i l) = List.flatten l, fun q1 => List.length l - q1.i⟩
theorem joined_s (l : List (List UInt8)) (hp1 : List.length l ≤ 1000000) (hp2 : List.length (List.flatten l) ≤ 1000000) : Fun Try.prog 14 [.c (.seq .str l)] [] (.v (vT (List.flatten l))) [] := by
 have hN : bigN = 274877906944 := rfl
 refine fun_ofw Try.func14 (by kernel_rfl) (by kernel_rfl) (w := let z3 := joined_s_F0 l; (.seg [.ty .u8, .at 0, .keep [0, 3, 4], .sel [0]] (.loop z3 fun q1 => .br (.intro (fun (x1 : List UInt8) => l[q1.i]? = some x1) fun x1 => .seg [.el .str x1, .ty .u8, .as 11 (.v (vI (((q1.i : Nat) : Int) + 1))), .at 0, .keep [0, 3, 4], .sel [1]] (.next)) (.leaf () [])), z3.Has [(0, .v (.c (.seq .str l))), (3, .v (vO 0)), (4, .v (vI 0))] [.lst .u8 ([] : List Int)] ∧ ∀ q1, z3.inv q1 → (let z2 := ((q1.i : Nat) : Int); ((decide (z2 < ((List.length l : Nat) : Int))) = true → (∃ (x1 : List UInt8), l[q1.i]? = some x1) ∧ ∀ (x1 : List UInt8), (l[q1.i]? = some x1) → (let z1 := List.map (fun b => (UInt8.toNat b : Int)) x1; (l[q1.i]? = some x1) ∧ ((0 : Int) ≤ z2) ∧ (List.length q1.out + List.length z1 ≤ bigN) ∧ ((.v (vI (IntKind.i64.wrap (z2 + 1))) : S) = .v (vI (z2 + 1))) ∧ z3.Nxt q1 [(0, .v (.c (.seq .str l))), (3, .v (vO 0)), (4, .v (vI (z2 + 1)))] [.lst .u8 (q1.out ++ z1)])) ∧ ((decide (z2 < ((List.length l : Nat) : Int))) = false → (.v (vT (List.map toByte q1.out)) : S) = .v (vT (List.flatten l)) ∧ ([] : List Blk) = [])))) (by kernel_rfl) ?_
 refine ⟨has_of (j := (⟨([] : List Int), 0⟩ : joined_s_V0)) (by first | rfl | simp) rfl (by dsimp only [joined_s_F0]; exact ⟨by omega, rfl⟩), fun (q1 : joined_s_V0) hq_q1 => ?_⟩
 have hi_q1 : q1.i ≤ List.length l ∧ List.map toByte q1.out ++ List.flatten (List.drop q1.i l) = List.flatten l := hq_q1
 obtain ⟨v1, v2⟩ := hi_q1
 have hol := congrArg List.length v2
 rw [List.length_append, List.length_map] at hol
 refine dsp (fun h1 p1 => ?_) fun h1 p1 => ?_
 refine ⟨(ax_get (l := l) (i := q1.i) (by omega)), fun x1 hx1 => ?_⟩
 rw [drop_el hx1, List.flatten_cons] at v2 hol
 rw [List.length_append] at hol
 exact ⟨hx1, (by omega), (by simp only [List.length_map]; omega), (as_i64 (by omega) (by omega)), nxt_of (j := (⟨q1.out ++ (List.map (fun b => (UInt8.toNat b : Int)) x1), q1.i + 1⟩ : joined_s_V0)) (by first | rfl | simp) rfl (by dsimp only [joined_s_F0]; exact ⟨by omega, by rw [List.map_append, map_toByte_toNat, List.append_assoc]; exact v2⟩) (by dsimp only [joined_s_F0]; omega)⟩
 rw [List.drop_eq_nil_of_le (by omega), List.flatten_nil, List.append_nil] at v2
 refine ⟨(congrArg S.v (congrArg V.c (congrArg C.str ?_))), rfl⟩
 rotate_left
 all_goals first | (exact v2) | ((rw [v2]; done))
theorem leftOf_i (r : Rdr) (hp1 : List.length (r).script ≤ bigN) (hp2 : List.length (r).data ≤ bigN) : Fun Try.prog 15 [.agg (cRdr r)] [] (.v (vI (leftOf r))) [] := by
 have hN : bigN = 274877906944 := rfl
 refine fun_ofw Try.func15 (by kernel_rfl) (by kernel_rfl) (w := let z1 := ((List.length r.data : Nat) : Int) - r.at_; (.seg [.call [] (.v (vB (readerOk r))) []] (.br (.leaf () []) (.seg [.as 11 (.v (vI z1))] (.leaf () []))), (Fun Try.prog 9 [.agg (cRdr r)] [] (.v (vB (readerOk r))) []) ∧ ((!(readerOk r)) = true → (.v (vI 0) : S) = .v (vI (leftOf r)) ∧ ([] : List Blk) = []) ∧ ((!(readerOk r)) = false → ((.v (vI (IntKind.i64.wrap z1)) : S) = .v (vI z1)) ∧ (.v (vI z1) : S) = .v (vI (leftOf r)) ∧ ([] : List Blk) = []))) (by kernel_rfl) ?_
 refine ⟨(readerOk_i r (by omega) (by omega)), fun h1 => have q1 := bnot_t h1; ?_, fun h1 => have q1 := bnot_f h1; have p1 := readerOk_t q1; ?_⟩
 refine ⟨(sI ?_), rfl⟩
 rotate_left
 have htr := readerOk_t (by simpa using h1)
 refine ⟨(as_i64 (by omega) (by omega)), (sI ?_), rfl⟩
 rotate_left
 all_goals first | (simp_all [leftOf]; done) | (grind [leftOf])
structure law_Reader_V0 where
 i : Nat
def law_Reader_F0 (o1 : drawReadAll_o_O) : Fam := ⟨law_Reader_V0, fun q1 => [(3, .v (vP 0)), (4, .v (vI o1.x)), (5, .v (vO 2)), (6, .v (vI (readAll o1.r o1.x).2)), (9, .v (vT (List.flatten (readAll o1.r o1.x).1))), (10, .v (vI ((q1.i : Nat) : Int)))], fun _ => [.cells (oRdr2 1 o1.r), .lst .rd o1.r.script, .lst .str (readAll o1.r o1.x).1], fun q1 => q1.i ≤ List.length (readAll o1.r o1.x).1, fun q1 => List.length (readAll o1.r o1.x).1 - q1.i⟩
theorem law_Reader (code : List Int) (hp1 : ((List.length code : Nat) : Int) ≤ 9223372036854775807) : Fun Try.prog 4 [.c (.seq .u8 code)] [] (.v (vB true)) [] := by
 have hN : bigN = 274877906944 := rfl
 refine fun_ofw Try.func4 (by kernel_rfl) (by kernel_rfl) (w := let z15 := decide (1048576 < ((List.length code : Nat) : Int)); let z16 := ([] : List Blk); let z17 := (.v (vB false) : S); (.seg [.call [] (.v (vB z15)) []] (.br (.leaf () []) (.intro (fun (o1 : drawReadAll_o_O) => ((List.length (o1.r).script ≤ 201) ∧ (List.length (o1.r).data ≤ 23)) ∧ Fun Try.prog 10 [.c (.seq .u8 code)] [] (.tup [.agg (oRdr2 0 o1.r), vI o1.x]) [.lst .rd o1.r.script]) fun o1 => let z3 := readAll o1.r o1.x; let z4 := vB (readerOk o1.r); .seg [.call [] (.tup [.agg (oRdr2 0 o1.r), vI o1.x]) [.lst .rd o1.r.script], .call [] (.tup [vO 0, vI z3.2]) [.lst .str z3.1], .call [] (.tup [vO 0, vI z3.2]) [.lst .str z3.1], .ord [(0, true), (1, true), (2, true), (3, true), (4, true), (5, true), (6, true), (7, true), (8, true), (9, true), (10, true), (11, true), (13, true), (12, false), (14, false), (15, true), (16, true)] [], .br false, .br false, .call [] (.v z4) [], .call [] (.v z4) [], .br false, .call [] (.v z4) []] (.br (.br (.leaf () []) (.leaf () [])) (.br (.br (.leaf () []) (.leaf () [])) (.seg [.call [] (.v (vT (List.flatten z3.1))) [], .at 0, .keep [3, 4, 5, 6, 9, 10], .sel [1, 0, 2]] (.loop (law_Reader_F0 o1) fun q1 => .br (.intro (fun (x1 : List UInt8) => z3.1[q1.i]? = some x1) fun x1 => .seg [.el .str x1, .br false, .as 69 (.v (vI (((q1.i : Nat) : Int) + 1))), .at 0, .keep [3, 4, 5, 6, 9, 10], .sel [0, 1, 2]] (.next)) (.br (.br (.leaf () []) (.leaf () [])) (.br (.br (.br (.seg [.call [] (.v (vI (leftOf o1.r))) []] (.leaf () [])) (.br (.seg [.call [] (.v (vI (leftOf o1.r))) []] (.leaf () [])) (.leaf () []))) (.leaf () [])) (.leaf () []))))))))), (Fun Try.prog 5 [.c (.seq .u8 code)] [] (.v (vB z15)) []) ∧ (z15 = true → (.v (vB true) : S) = .v (vB true) ∧ z16 = []) ∧ (z15 = false → (∃ (o1 : drawReadAll_o_O), ((List.length (o1.r).script ≤ 201) ∧ (List.length (o1.r).data ≤ 23)) ∧ Fun Try.prog 10 [.c (.seq .u8 code)] [] (.tup [.agg (oRdr2 0 o1.r), vI o1.x]) [.lst .rd o1.r.script]) ∧ ∀ (o1 : drawReadAll_o_O), (((List.length (o1.r).script ≤ 201) ∧ (List.length (o1.r).data ≤ 23)) ∧ Fun Try.prog 10 [.c (.seq .u8 code)] [] (.tup [.agg (oRdr2 0 o1.r), vI o1.x]) [.lst .rd o1.r.script]) → (let z5 := readAll o1.r o1.x; let z8 := decide (List.flatten z5.1 = List.drop (Int.toNat o1.r.at_) o1.r.data); let z9 : List Blk := [.cells (oRdr2 1 o1.r), .lst .rd o1.r.script, .lst .str z5.1]; let z10 := cRdr o1.r; let z11 := readerOk o1.r; let z12 := List.drop (Int.toNat o1.r.at_) o1.r.data; let z6 := ((List.length z12 : Nat) : Int); let z7 := decide (List.take (List.length (List.flatten z5.1)) z12 = List.flatten z5.1); let z13 := (.v (vB (decide (leftOf o1.r = z6))) : S); let z14 := law_Reader_F0 o1; (Fun Try.prog 10 [.c (.seq .u8 code)] [] (.tup [.agg (oRdr2 0 o1.r), vI o1.x]) [.lst .rd o1.r.script]) ∧ (Fun Try.prog 11 [.agg z10, vI o1.x] [] (.tup [vO 0, vI z5.2]) [.lst .str z5.1]) ∧ (Fun Try.prog 12 [.agg z10, vI o1.x] [] (.tup [vO 0, vI z5.2]) [.lst .str z5.1]) ∧ ((!decide (((List.length z5.1 : Nat) : Int) = ((List.length z5.1 : Nat) : Int))) = false) ∧ ((!decide (z5.2 = z5.2)) = false) ∧ (Fun Try.prog 9 [.agg z10] [] (.v (vB z11)) []) ∧ (Fun Try.prog 13 [.agg z10] [] (.v (vB z11)) []) ∧ ((!decide (readerOk o1.r = readerOk o1.r)) = false) ∧ (Fun Try.prog 13 [.agg z10] [] (.v (vB z11)) []) ∧ ((!z11) = true → ((decide (((List.length z5.1 : Nat) : Int) = 0)) = true → (.v (vB (decide (z5.2 = 1))) : S) = .v (vB true) ∧ z16 = []) ∧ ((decide (((List.length z5.1 : Nat) : Int) = 0)) = false → z17 = .v (vB true) ∧ z16 = [])) ∧ ((!z11) = false → ((decide (o1.x < 1)) = true → ((decide (((List.length z5.1 : Nat) : Int) = 0)) = true → (.v (vB (decide (z5.2 = 1))) : S) = .v (vB true) ∧ z16 = []) ∧ ((decide (((List.length z5.1 : Nat) : Int) = 0)) = false → z17 = .v (vB true) ∧ z16 = [])) ∧ ((decide (o1.x < 1)) = false → (Fun Try.prog 14 [.c (.seq .str z5.1)] [] (.v (vT (List.flatten z5.1))) []) ∧ z14.Has [(3, .v (vP 0)), (4, .v (vI o1.x)), (5, .v (vO 2)), (6, .v (vI z5.2)), (9, .v (vT (List.flatten z5.1))), (10, .v (vI 0))] z9 ∧ ∀ q1, z14.inv q1 → (let z2 := ((q1.i : Nat) : Int); let z1 := z2 < ((List.length z5.1 : Nat) : Int); ((decide z1) = true → (∃ (x1 : List UInt8), z5.1[q1.i]? = some x1) ∧ ∀ (x1 : List UInt8), (z5.1[q1.i]? = some x1) → (z1 ∧ ((0 : Int) ≤ z2) ∧ (z5.1[q1.i]? = some x1) ∧ ((decide (o1.x < ((List.length x1 : Nat) : Int))) = false) ∧ ((.v (vI (IntKind.i64.wrap (z2 + 1))) : S) = .v (vI (z2 + 1))) ∧ z14.Nxt q1 [(3, .v (vP 0)), (4, .v (vI o1.x)), (5, .v (vO 2)), (6, .v (vI z5.2)), (9, .v (vT (List.flatten z5.1))), (10, .v (vI (z2 + 1)))] z9)) ∧ ((decide z1) = false → (o1.r.at_ ≤ ((List.length o1.r.data : Nat) : Int)) ∧ ((0 : Int) ≤ o1.r.at_) ∧ ((!decide (o1.r.code = 0)) = true → ((decide (List.flatten z5.1 = [])) = true → (.v (vB (decide (z5.2 = o1.r.code))) : S) = .v (vB true) ∧ z16 = []) ∧ ((decide (List.flatten z5.1 = [])) = false → z17 = .v (vB true) ∧ z16 = [])) ∧ ((!decide (o1.r.code = 0)) = false → ((decide (((List.length (List.flatten z5.1) : Nat) : Int) ≤ z6)) = true → (((List.length (List.flatten z5.1) : Nat) : Int) ≤ z6) ∧ ((0 : Int) ≤ ((List.length (List.flatten z5.1) : Nat) : Int)) ∧ (z7 = true → ((!decide (z5.2 = 1)) = true → (Fun Try.prog 15 [.agg z10] [] (.v (vI (leftOf o1.r))) []) ∧ z13 = .v (vB true) ∧ z16 = []) ∧ ((!decide (z5.2 = 1)) = false → (z8 = true → (Fun Try.prog 15 [.agg z10] [] (.v (vI (leftOf o1.r))) []) ∧ z13 = .v (vB true) ∧ z16 = []) ∧ (z8 = false → z17 = .v (vB true) ∧ z16 = []))) ∧ (z7 = false → z17 = .v (vB true) ∧ z16 = [])) ∧ ((decide (((List.length (List.flatten z5.1) : Nat) : Int) ≤ z6)) = false → z17 = .v (vB true) ∧ z16 = [])))))))))) (by kernel_rfl) ?_
 refine ⟨(big_ok _ (by omega)), dsp (fun h1 p1 => ?_) fun h1 p1 => ?_⟩
 exact ⟨rfl, rfl⟩
 refine ⟨(drawReadAll_o code (by omega)), fun o1 ho_o1 => ?_⟩
 obtain ⟨⟨hp_o1_0, hp_o1_1⟩, hf_o1⟩ := ho_o1
 refine ⟨hf_o1, (readAll_i o1.r _ (by omega) (by omega)), (readAll_s o1.r _ (by omega) (by omega)), (by simp), (by simp), (readerOk_i o1.r (by omega) (by omega)), (readerOk_s o1.r (by omega) (by omega)), (by simp), (readerOk_s o1.r (by omega) (by omega)), fun h2 => have q2 := bnot_t h2; ?_, fun h2 => have q2 := bnot_f h2; have p2 := readerOk_t q2; ?_⟩
 have hra : readAll o1.r o1.x = ([], 1) := readAll_no (fun hh => by rw [hh.1] at q2; cases q2)
 refine dsp (fun h3 p3 => ?_) fun h3 p3 => ?_
 refine ⟨(sB ?_), rfl⟩
 rotate_left
 refine ⟨(sB ?_), rfl⟩
 rotate_left
 have hro : readerOk o1.r = true := q2
 have htr := readerOk_t hro
 have hlf : leftOf o1.r = (List.length o1.r.data : Int) - o1.r.at_ := by unfold leftOf; rw [if_pos hro]
 refine dsp (fun h3 p3 => ?_) fun h3 p3 => ?_
 have hra : readAll o1.r o1.x = ([], 1) := readAll_no (fun hh => by omega)
 refine dsp (fun h4 p4 => ?_) fun h4 p4 => ?_
 refine ⟨(sB ?_), rfl⟩
 rotate_left
 refine ⟨(sB ?_), rfl⟩
 rotate_left
 have hf := readAll_facts hro (room := o1.x) (by omega)
 have hfl := hf.1
 have hfc := hf.2.1
 have hff := hf.2.2.1
 refine ⟨(joined_s _ (by omega) (by omega)), has_of (j := (⟨0⟩ : law_Reader_V0)) (by first | rfl | simp) rfl (by dsimp only [law_Reader_F0]; omega), fun (q1 : law_Reader_V0) hq_q1 => ?_⟩
 have hi_q1 : q1.i ≤ List.length (readAll o1.r o1.x).1 := hq_q1
 have v1 := hi_q1
 refine dsp (fun h4 p4 => ?_) fun h4 p4 => ?_
 refine ⟨(ax_get (l := (readAll o1.r o1.x).1) (i := q1.i) (by omega)), fun x1 hx1 => ?_⟩
 exact ⟨(by omega), (by omega), hx1, (decide_eq_false (by have := hfc _ (List.mem_of_getElem? hx1); omega)), (as_i64 (by omega) (by omega)), nxt_of (j := (⟨q1.i + 1⟩ : law_Reader_V0)) (by first | rfl | simp) rfl (by dsimp only [law_Reader_F0]; omega) (by dsimp only [law_Reader_F0]; omega)⟩
 refine ⟨(by omega), (by omega), fun h5 => have q5 := bnot_t h5; have p5 := of_decide_eq_false q5; ?_, fun h5 => have q5 := bnot_f h5; have p5 := of_decide_eq_true q5; ?_⟩
 have hf1 := hf.2.2.2.1 (by omega)
 refine dsp (fun h6 p6 => ?_) fun h6 p6 => ?_
 refine ⟨(sB ?_), rfl⟩
 rotate_left
 refine ⟨(sB ?_), rfl⟩
 rotate_left
 have hf2 := hf.2.2.2.2 (by omega)
 have hdl : List.length (List.drop o1.r.at_.toNat o1.r.data) = o1.r.data.length - o1.r.at_.toNat := List.length_drop
 refine dsp (fun h6 p6 => ?_) fun h6 p6 => ?_
 refine ⟨(by simp only [List.length_drop]; omega), (by omega), dsp (fun h7 p7 => ?_) fun h7 p7 => ?_⟩
 refine ⟨fun h8 => have q8 := bnot_t h8; have p8 := of_decide_eq_false q8; ?_, fun h8 => have q8 := bnot_f h8; have p8 := of_decide_eq_true q8; ?_⟩
 refine ⟨(leftOf_i o1.r (by omega) (by omega)), (sB ?_), rfl⟩
 rotate_left
 refine dsp (fun h9 p9 => ?_) fun h9 p9 => ?_
 refine ⟨(leftOf_i o1.r (by omega) (by omega)), (sB ?_), rfl⟩
 rotate_left
 refine ⟨(sB ?_), rfl⟩
 rotate_left
 refine ⟨(sB ?_), rfl⟩
 rotate_left
 refine ⟨(sB ?_), rfl⟩
 rotate_left
 all_goals first | (rfl) | ((simp [*]; done)) | ((simp_all; done)) | ((exfalso; simp_all; done)) | (grind)
end Go.Proofs.Ytnamhappoaplcaa.Ax
namespace Go.Proofs.Ytnamhappoaplcaa.Ax
open Go.ChangeShapes Go.WideShapes Go.ChangeAt Go.RowKit
theorem cof_uint8 : Try.prog.cellsOf 5 = 1 := by kernel_rfl
theorem e_u8 {H : Type} {tok : TypeId × Value → H} {w : World} {sp : Nat → Bool} {held : Bool} (fuel : Nat) (cs : List Value) (x : DataW H × List MemPlace) (hl : cs.length = 1) (h : DataW.trod tok Try.prog w 0 sp held fuel 5 cs = some x) : ∃ y : Int, All2 Rep0 (enc .u8 y) cs ∧ (0 ≤ y ∧ y ≤ 255) := by
 obtain ⟨i, rfl, _, hw⟩ := DataW.trod_int Try.underlying5 h
 exact ⟨i, .cons rfl .nil, bounds_u8 hw⟩
end Go.Proofs.Ytnamhappoaplcaa.Ax
