/- Numbers of so many bytes; tags. -/
import Derived.Test.YthmhekbmhpljcaaGreatNB
namespace Go.Proofs.YthmhekbmhpljcaaGreat.Ax
open Go.RowKit
set_option linter.unusedSimpArgs false
set_option linter.unusedVariables false
theorem widthOk_i (w : Int) : Fun Tryz.prog 232 [vI w] [] (.v (vB (widthOk w))) [] := by
  have hN : bigN = 274877906944 := rfl
  refine fun_ofw Tryz.func232 (by kernel_rfl) (by kernel_rfl) (w := (.br (.leaf () []) (.leaf () []), ((decide (w = 4)) = true → (.v (vB true) : S) = .v (vB (widthOk w)) ∧ ([] : List Blk) = []) ∧ ((decide (w = 4)) = false → (.v (vB (decide (w = 8))) : S) = .v (vB (widthOk w)) ∧ ([] : List Blk) = []))) (by kernel_rfl) ?_
  refine ⟨fun h1 => have p1 := of_decide_eq_true h1; ?_, fun h1 => have p1 := of_decide_eq_false h1; ?_⟩
  exact ⟨(congrArg S.v (congrArg V.c (congrArg C.bool (by simp [widthOk, *])))), rfl⟩
  exact ⟨(congrArg S.v (congrArg V.c (congrArg C.bool (by simp [widthOk, *])))), rfl⟩
structure putFix_i_V0 where
  u : Int
  out : List Int
  v : Nat
def putFix_i_F0 (u : Int) (w : Int) : Fam := ⟨putFix_i_V0, fun q1 => [(0, .v (.c (.int .u64 q1.u))), (5, .v (vO 0)), (22, .v (vI w)), (23, .v (vI (q1.v : Int)))], fun q1 => [.lst .u8 q1.out], fun q1 => q1.v ≤ (w.toNat) ∧ q1.out.length = (w.toNat) ∧ List.take q1.v q1.out = List.take q1.v (fixL (u.toNat) (w.toNat)) ∧ q1.u = ((u.toNat / 256 ^ q1.v : Nat) : Int), fun q1 => (w.toNat) - q1.v⟩

theorem putFix_i (u : Int) (w : Int) (hp1 : (0 : Int) ≤ u ∧ u ≤ 18446744073709551615) : Fun Tryz.prog 231 [.c (.int .u64 u), vI w] [] (.v (vT (putFix u w))) [] := by
  have hN : bigN = 274877906944 := rfl
  refine fun_ofw Tryz.func231 (by kernel_rfl) (by kernel_rfl) (w := let z3 := List.replicate (w.toNat) (0 : Int); let z4 := putFix_i_F0 u w; let z5 := (.v (vI (z3.length : Int)) : S) = .v (vI w); let z6 := vT (putFix u w); let z7 := ((1 : Nat) : Int) * w ≤ 281474976710656; let z8 := ([] : List Blk); (.seg [.call [] (.v (vB (widthOk w))) []] (.br (.leaf () []) (.br (.seg [.as 15 (.v (.c (.int .u64 (u / 4294967296))))] (.br (.leaf () []) (.seg [.ty .u8, .as 22 (.v (vI w)), .at 0, .keep [0, 5, 22, 23], .sel [0]] (.loop z4 fun q1 => .br (.seg [.as 29 (.v (.c (.int .u8 (q1.u % 256))))] (.intro (fun (x1 : Int) => q1.out[q1.v]? = some x1) fun x1 => .seg [.el .u8 x1, .as 32 (.v (.c (.int .u64 (q1.u / 256)))), .as 33 (.v (vI ((q1.v : Int) + 1))), .at 0, .keep [0, 5, 22, 23], .sel [0]] (.next))) (.leaf () []))))) (.seg [.ty .u8, .as 22 (.v (vI w)), .at 0, .keep [0, 5, 22, 23], .sel [0]] (.loop z4 fun q1 => .br (.seg [.as 29 (.v (.c (.int .u8 (q1.u % 256))))] (.intro (fun (x1 : Int) => q1.out[q1.v]? = some x1) fun x1 => .seg [.el .u8 x1, .as 32 (.v (.c (.int .u64 (q1.u / 256)))), .as 33 (.v (vI ((q1.v : Int) + 1))), .at 0, .keep [0, 5, 22, 23], .sel [0]] (.next))) (.leaf () []))))), (Fun Tryz.prog 232 [vI w] [] (.v (vB (widthOk w))) []) ∧ ((!(widthOk w)) = true → (.v (vT []) : S) = .v z6 ∧ z8 = []) ∧ ((!(widthOk w)) = false → ((decide (w = 4)) = true → ((0 : Int) ≤ 32) ∧ ((.v (.c (.int .u64 (Int.fdiv u (2 ^ 32)))) : S) = .v (.c (.int .u64 (u / 4294967296)))) ∧ ((!decide (u / 4294967296 = 0)) = true → (.v (vT []) : S) = .v z6 ∧ z8 = []) ∧ ((!decide (u / 4294967296 = 0)) = false → (w ≤ 9223372036854775807) ∧ z7 ∧ (w ≤ w) ∧ ((0 : Int) ≤ w) ∧ z5 ∧ z4.Has [(0, .v (.c (.int .u64 u))), (5, .v (vO 0)), (22, .v (vI w)), (23, .v (vI 0))] [.lst .u8 z3] ∧ ∀ q1, z4.inv q1 → (let z1 := (q1.v : Int); ((decide (z1 < w)) = true → ((.v (.c (.int .u8 (IntKind.u8.wrap (q1.u)))) : S) = .v (.c (.int .u8 (q1.u % 256)))) ∧ (∃ (x1 : Int), q1.out[q1.v]? = some x1) ∧ ∀ (x1 : Int), (q1.out[q1.v]? = some x1) → ((z1 < (q1.out.length : Int)) ∧ ((0 : Int) ≤ z1) ∧ (q1.out[q1.v]? = some x1) ∧ ((0 : Int) ≤ 8) ∧ ((.v (.c (.int .u64 (Int.fdiv q1.u (2 ^ 8)))) : S) = .v (.c (.int .u64 (q1.u / 256)))) ∧ ((.v (vI (IntKind.i64.wrap (z1 + 1))) : S) = .v (vI (z1 + 1))) ∧ z4.Nxt q1 [(0, .v (.c (.int .u64 (q1.u / 256)))), (5, .v (vO 0)), (22, .v (vI w)), (23, .v (vI (z1 + 1)))] [.lst .u8 (List.set q1.out q1.v (q1.u % 256))])) ∧ ((decide (z1 < w)) = false → (.v (vT (List.map toByte q1.out)) : S) = .v z6 ∧ z8 = [])))) ∧ ((decide (w = 4)) = false → (w ≤ 9223372036854775807) ∧ z7 ∧ (w ≤ w) ∧ ((0 : Int) ≤ w) ∧ z5 ∧ z4.Has [(0, .v (.c (.int .u64 u))), (5, .v (vO 0)), (22, .v (vI w)), (23, .v (vI 0))] [.lst .u8 z3] ∧ ∀ q1, z4.inv q1 → (let z2 := (q1.v : Int); ((decide (z2 < w)) = true → ((.v (.c (.int .u8 (IntKind.u8.wrap (q1.u)))) : S) = .v (.c (.int .u8 (q1.u % 256)))) ∧ (∃ (x1 : Int), q1.out[q1.v]? = some x1) ∧ ∀ (x1 : Int), (q1.out[q1.v]? = some x1) → ((z2 < (q1.out.length : Int)) ∧ ((0 : Int) ≤ z2) ∧ (q1.out[q1.v]? = some x1) ∧ ((0 : Int) ≤ 8) ∧ ((.v (.c (.int .u64 (Int.fdiv q1.u (2 ^ 8)))) : S) = .v (.c (.int .u64 (q1.u / 256)))) ∧ ((.v (vI (IntKind.i64.wrap (z2 + 1))) : S) = .v (vI (z2 + 1))) ∧ z4.Nxt q1 [(0, .v (.c (.int .u64 (q1.u / 256)))), (5, .v (vO 0)), (22, .v (vI w)), (23, .v (vI (z2 + 1)))] [.lst .u8 (List.set q1.out q1.v (q1.u % 256))])) ∧ ((decide (z2 < w)) = false → (.v (vT (List.map toByte q1.out)) : S) = .v z6 ∧ z8 = [])))))) (by kernel_rfl) ?_
  refine ⟨(widthOk_i _), fun h1 => have q1 := bnot_t h1; have p1 := widthOk_f q1; ?_, fun h1 => have q1 := bnot_f h1; have p1 := widthOk_t q1; ?_⟩
  refine ⟨(congrArg S.v (congrArg V.c (congrArg C.str ?_))), rfl⟩
  rotate_left
  have hw8 := widthOk_t (by simpa using h1)
  refine ⟨fun h2 => have p2 := of_decide_eq_true h2; ?_, fun h2 => have p2 := of_decide_eq_false h2; ?_⟩
  refine ⟨(by decide), (as_shr (k := 32) (by decide) (by decide)), fun h3 => have q3 := bnot_t h3; have p3 := of_decide_eq_false q3; ?_, fun h3 => have q3 := bnot_f h3; have p3 := of_decide_eq_true q3; ?_⟩
  refine ⟨(congrArg S.v (congrArg V.c (congrArg C.str ?_))), rfl⟩
  rotate_left
  refine ⟨(by omega), (by omega), (by omega), (by omega), (as_int (by rw [List.length_replicate]; omega)), has_of (j := (⟨u, List.replicate (w.toNat) (0 : Int), 0⟩ : putFix_i_V0)) (by first | rfl | simp) rfl (by dsimp only [putFix_i_F0]; exact ⟨by omega, by simp, by simp, by simp; omega⟩), fun (q1 : putFix_i_V0) hq_q1 => ?_⟩
  have hi_q1 : q1.v ≤ (w.toNat) ∧ q1.out.length = (w.toNat) ∧ List.take q1.v q1.out = List.take q1.v (fixL (u.toNat) (w.toNat)) ∧ q1.u = ((u.toNat / 256 ^ q1.v : Nat) : Int) := hq_q1
  obtain ⟨v1, v2, v3, v4⟩ := hi_q1
  have hu0 : (0 : Int) ≤ q1.u := by rw [v4]; exact Int.natCast_nonneg _
  have hu1 : q1.u ≤ 18446744073709551615 := by rw [v4]; have := Nat.div_le_self (u.toNat) (256 ^ q1.v); omega
  refine ⟨fun h4 => have p4 := of_decide_eq_true h4; ?_, fun h4 => have p4 := of_decide_eq_false h4; ?_⟩
  refine ⟨(as_mod8 (by omega)), (ax_get (l := q1.out) (i := q1.v) (by omega)), fun x1 hx1 => ?_⟩
  exact ⟨(by omega), (by omega), hx1, (by decide), (as_shr (k := 8) (by decide) (by decide)), (as_i64 (by omega) (by omega)), nxt_of (j := (⟨q1.u / 256, List.set q1.out q1.v (q1.u % 256), q1.v + 1⟩ : putFix_i_V0)) (by first | rfl | simp) rfl (by dsimp only [putFix_i_F0]; exact ⟨by omega, by simp [v2], fill_set v3 (by rw [v2, fixL_len]) (by rw [fixL_get (by omega), v4]; simp <;> omega), by rw [v4, fixU_step]⟩) (by dsimp only [putFix_i_F0]; omega)⟩
  have hq := fill_done v3 (by rw [v2, fixL_len]) (by rw [fixL_len]; omega)
  refine ⟨(congrArg S.v (congrArg V.c (congrArg C.str ?_))), rfl⟩
  rotate_left
  refine ⟨(by omega), (by omega), (by omega), (by omega), (as_int (by rw [List.length_replicate]; omega)), has_of (j := (⟨u, List.replicate (w.toNat) (0 : Int), 0⟩ : putFix_i_V0)) (by first | rfl | simp) rfl (by dsimp only [putFix_i_F0]; exact ⟨by omega, by simp, by simp, by simp; omega⟩), fun (q1 : putFix_i_V0) hq_q1 => ?_⟩
  have hi_q1 : q1.v ≤ (w.toNat) ∧ q1.out.length = (w.toNat) ∧ List.take q1.v q1.out = List.take q1.v (fixL (u.toNat) (w.toNat)) ∧ q1.u = ((u.toNat / 256 ^ q1.v : Nat) : Int) := hq_q1
  obtain ⟨v1, v2, v3, v4⟩ := hi_q1
  have hu0 : (0 : Int) ≤ q1.u := by rw [v4]; exact Int.natCast_nonneg _
  have hu1 : q1.u ≤ 18446744073709551615 := by rw [v4]; have := Nat.div_le_self (u.toNat) (256 ^ q1.v); omega
  refine ⟨fun h3 => have p3 := of_decide_eq_true h3; ?_, fun h3 => have p3 := of_decide_eq_false h3; ?_⟩
  refine ⟨(as_mod8 (by omega)), (ax_get (l := q1.out) (i := q1.v) (by omega)), fun x1 hx1 => ?_⟩
  exact ⟨(by omega), (by omega), hx1, (by decide), (as_shr (k := 8) (by decide) (by decide)), (as_i64 (by omega) (by omega)), nxt_of (j := (⟨q1.u / 256, List.set q1.out q1.v (q1.u % 256), q1.v + 1⟩ : putFix_i_V0)) (by first | rfl | simp) rfl (by dsimp only [putFix_i_F0]; exact ⟨by omega, by simp [v2], fill_set v3 (by rw [v2, fixL_len]) (by rw [fixL_get (by omega), v4]; simp <;> omega), by rw [v4, fixU_step]⟩) (by dsimp only [putFix_i_F0]; omega)⟩
  have hq := fill_done v3 (by rw [v2, fixL_len]) (by rw [fixL_len]; omega)
  refine ⟨(congrArg S.v (congrArg V.c (congrArg C.str ?_))), rfl⟩
  rotate_left
  all_goals first | (rw [hq, fixL_put]; simp_all [putFix, widthOk]; omega) | (rw [hq, fixL_put]; simp_all [putFix, widthOk]) | (simp_all [putFix, widthOk]; done) | (simp_all [putFix, widthOk]; omega)
structure putFix_s_V0 where
  u : Int
  out : List Int
  i : Nat
def putFix_s_F0 (u : Int) (w : Int) : Fam := ⟨putFix_s_V0, fun q1 => [(0, .v (.c (.int .u64 q1.u))), (1, .v (vI w)), (5, .v (vO 0)), (6, .v (vI (q1.i : Int)))], fun q1 => [.lst .u8 q1.out], fun q1 => (q1.i : Int) ≤ w ∧ (0 : Int) ≤ q1.u ∧ q1.u ≤ 18446744073709551615 ∧ List.map toByte q1.out ++ putFixN (w.toNat - q1.i) (q1.u.toNat) = putFixN (w.toNat) (u.toNat) ∧ q1.out.length = q1.i, fun q1 => w.toNat - q1.i⟩

theorem putFix_s (u : Int) (w : Int) (hp1 : (0 : Int) ≤ u ∧ u ≤ 18446744073709551615) : Fun Tryz.prog 230 [.c (.int .u64 u), vI w] [] (.v (vT (putFix u w))) [] := by
  have hN : bigN = 274877906944 := rfl
  refine fun_ofw Tryz.func230 (by kernel_rfl) (by kernel_rfl) (w := let z5 := putFix_s_F0 u w; let z6 := (256 : Int) ≠ 0; let z8 := vT (putFix u w); let z9 : List Blk := [.lst .u8 ([] : List Int)]; let z10 := ([] : List Blk); let z11 := decide (4294967295 < u); let z7 := z11 = true → (.v (vT []) : S) = .v z8 ∧ z10 = []; let z12 := decide (w = 4); (.br (.br (.leaf () []) (.br (.br (.leaf () []) (.seg [.ty .u8, .at 0, .keep [0, 1, 5, 6], .sel [0]] (.loop z5 fun q1 => .br (.seg [.as 29 (.v (.c (.int .u64 (q1.u % 256)))), .as 30 (.v (.c (.int .u8 (q1.u % 256)))), .ty .u8, .ty .u8, .as 34 (.v (.c (.int .u64 (q1.u / 256)))), .as 26 (.v (vI ((q1.i : Int) + 1))), .at 0, .keep [0, 1, 5, 6], .sel [2]] (.next)) (.leaf () [])))) (.seg [.ty .u8, .at 0, .keep [0, 1, 5, 6], .sel [0]] (.loop z5 fun q1 => .br (.seg [.as 29 (.v (.c (.int .u64 (q1.u % 256)))), .as 30 (.v (.c (.int .u8 (q1.u % 256)))), .ty .u8, .ty .u8, .as 34 (.v (.c (.int .u64 (q1.u / 256)))), .as 26 (.v (vI ((q1.i : Int) + 1))), .at 0, .keep [0, 1, 5, 6], .sel [2]] (.next)) (.leaf () []))))) (.br (.br (.leaf () []) (.seg [.ty .u8, .at 0, .keep [0, 1, 5, 6], .sel [0]] (.loop z5 fun q1 => .br (.seg [.as 29 (.v (.c (.int .u64 (q1.u % 256)))), .as 30 (.v (.c (.int .u8 (q1.u % 256)))), .ty .u8, .ty .u8, .as 34 (.v (.c (.int .u64 (q1.u / 256)))), .as 26 (.v (vI ((q1.i : Int) + 1))), .at 0, .keep [0, 1, 5, 6], .sel [2]] (.next)) (.leaf () [])))) (.seg [.ty .u8, .at 0, .keep [0, 1, 5, 6], .sel [0]] (.loop z5 fun q1 => .br (.seg [.as 29 (.v (.c (.int .u64 (q1.u % 256)))), .as 30 (.v (.c (.int .u8 (q1.u % 256)))), .ty .u8, .ty .u8, .as 34 (.v (.c (.int .u64 (q1.u / 256)))), .as 26 (.v (vI ((q1.i : Int) + 1))), .at 0, .keep [0, 1, 5, 6], .sel [2]] (.next)) (.leaf () [])))), ((!decide (w = 4)) = true → ((!decide (w = 8)) = true → (.v (vT []) : S) = .v z8 ∧ z10 = []) ∧ ((!decide (w = 8)) = false → (z12 = true → z7 ∧ (z11 = false → z5.Has [(0, .v (.c (.int .u64 u))), (1, .v (vI w)), (5, .v (vO 0)), (6, .v (vI 0))] z9 ∧ ∀ q1, z5.inv q1 → (let z1 := (q1.i : Int); ((decide (z1 < w)) = true → z6 ∧ ((.v (.c (.int .u64 (Int.tmod q1.u 256))) : S) = .v (.c (.int .u64 (q1.u % 256)))) ∧ ((.v (.c (.int .u8 (IntKind.u8.wrap (q1.u % 256)))) : S) = .v (.c (.int .u8 (q1.u % 256)))) ∧ (q1.out.length + List.length [q1.u % 256] ≤ bigN) ∧ z6 ∧ ((.v (.c (.int .u64 (IntKind.u64.wrap (Int.tdiv q1.u 256)))) : S) = .v (.c (.int .u64 (q1.u / 256)))) ∧ ((.v (vI (IntKind.i64.wrap (z1 + 1))) : S) = .v (vI (z1 + 1))) ∧ z5.Nxt q1 [(0, .v (.c (.int .u64 (q1.u / 256)))), (1, .v (vI w)), (5, .v (vO 0)), (6, .v (vI (z1 + 1)))] [.lst .u8 (q1.out ++ [q1.u % 256])]) ∧ ((decide (z1 < w)) = false → (.v (vT (List.map toByte q1.out)) : S) = .v z8 ∧ z10 = [])))) ∧ (z12 = false → z5.Has [(0, .v (.c (.int .u64 u))), (1, .v (vI w)), (5, .v (vO 0)), (6, .v (vI 0))] z9 ∧ ∀ q1, z5.inv q1 → (let z2 := (q1.i : Int); ((decide (z2 < w)) = true → z6 ∧ ((.v (.c (.int .u64 (Int.tmod q1.u 256))) : S) = .v (.c (.int .u64 (q1.u % 256)))) ∧ ((.v (.c (.int .u8 (IntKind.u8.wrap (q1.u % 256)))) : S) = .v (.c (.int .u8 (q1.u % 256)))) ∧ (q1.out.length + List.length [q1.u % 256] ≤ bigN) ∧ z6 ∧ ((.v (.c (.int .u64 (IntKind.u64.wrap (Int.tdiv q1.u 256)))) : S) = .v (.c (.int .u64 (q1.u / 256)))) ∧ ((.v (vI (IntKind.i64.wrap (z2 + 1))) : S) = .v (vI (z2 + 1))) ∧ z5.Nxt q1 [(0, .v (.c (.int .u64 (q1.u / 256)))), (1, .v (vI w)), (5, .v (vO 0)), (6, .v (vI (z2 + 1)))] [.lst .u8 (q1.out ++ [q1.u % 256])]) ∧ ((decide (z2 < w)) = false → (.v (vT (List.map toByte q1.out)) : S) = .v z8 ∧ z10 = []))))) ∧ ((!decide (w = 4)) = false → (z12 = true → z7 ∧ (z11 = false → z5.Has [(0, .v (.c (.int .u64 u))), (1, .v (vI w)), (5, .v (vO 0)), (6, .v (vI 0))] z9 ∧ ∀ q1, z5.inv q1 → (let z3 := (q1.i : Int); ((decide (z3 < w)) = true → z6 ∧ ((.v (.c (.int .u64 (Int.tmod q1.u 256))) : S) = .v (.c (.int .u64 (q1.u % 256)))) ∧ ((.v (.c (.int .u8 (IntKind.u8.wrap (q1.u % 256)))) : S) = .v (.c (.int .u8 (q1.u % 256)))) ∧ (q1.out.length + List.length [q1.u % 256] ≤ bigN) ∧ z6 ∧ ((.v (.c (.int .u64 (IntKind.u64.wrap (Int.tdiv q1.u 256)))) : S) = .v (.c (.int .u64 (q1.u / 256)))) ∧ ((.v (vI (IntKind.i64.wrap (z3 + 1))) : S) = .v (vI (z3 + 1))) ∧ z5.Nxt q1 [(0, .v (.c (.int .u64 (q1.u / 256)))), (1, .v (vI w)), (5, .v (vO 0)), (6, .v (vI (z3 + 1)))] [.lst .u8 (q1.out ++ [q1.u % 256])]) ∧ ((decide (z3 < w)) = false → (.v (vT (List.map toByte q1.out)) : S) = .v z8 ∧ z10 = [])))) ∧ (z12 = false → z5.Has [(0, .v (.c (.int .u64 u))), (1, .v (vI w)), (5, .v (vO 0)), (6, .v (vI 0))] z9 ∧ ∀ q1, z5.inv q1 → (let z4 := (q1.i : Int); ((decide (z4 < w)) = true → z6 ∧ ((.v (.c (.int .u64 (Int.tmod q1.u 256))) : S) = .v (.c (.int .u64 (q1.u % 256)))) ∧ ((.v (.c (.int .u8 (IntKind.u8.wrap (q1.u % 256)))) : S) = .v (.c (.int .u8 (q1.u % 256)))) ∧ (q1.out.length + List.length [q1.u % 256] ≤ bigN) ∧ z6 ∧ ((.v (.c (.int .u64 (IntKind.u64.wrap (Int.tdiv q1.u 256)))) : S) = .v (.c (.int .u64 (q1.u / 256)))) ∧ ((.v (vI (IntKind.i64.wrap (z4 + 1))) : S) = .v (vI (z4 + 1))) ∧ z5.Nxt q1 [(0, .v (.c (.int .u64 (q1.u / 256)))), (1, .v (vI w)), (5, .v (vO 0)), (6, .v (vI (z4 + 1)))] [.lst .u8 (q1.out ++ [q1.u % 256])]) ∧ ((decide (z4 < w)) = false → (.v (vT (List.map toByte q1.out)) : S) = .v z8 ∧ z10 = [])))))) (by kernel_rfl) ?_
  refine ⟨fun h1 => have q1 := bnot_t h1; have p1 := of_decide_eq_false q1; ?_, fun h1 => have q1 := bnot_f h1; have p1 := of_decide_eq_true q1; ?_⟩
  refine ⟨fun h2 => have q2 := bnot_t h2; have p2 := of_decide_eq_false q2; ?_, fun h2 => have q2 := bnot_f h2; have p2 := of_decide_eq_true q2; ?_⟩
  refine ⟨(congrArg S.v (congrArg V.c (congrArg C.str ?_))), rfl⟩
  rotate_left
  refine ⟨fun h3 => have p3 := of_decide_eq_true h3; ?_, fun h3 => have p3 := of_decide_eq_false h3; ?_⟩
  refine ⟨fun h4 => have p4 := of_decide_eq_true h4; ?_, fun h4 => have p4 := of_decide_eq_false h4; ?_⟩
  refine ⟨(congrArg S.v (congrArg V.c (congrArg C.str ?_))), rfl⟩
  rotate_left
  refine ⟨has_of (j := (⟨u, ([] : List Int), 0⟩ : putFix_s_V0)) (by first | rfl | simp) rfl (by dsimp only [putFix_s_F0]; exact ⟨by omega, by omega, by omega, by simp, by simp⟩), fun (q1 : putFix_s_V0) hq_q1 => ?_⟩
  have hi_q1 : (q1.i : Int) ≤ w ∧ (0 : Int) ≤ q1.u ∧ q1.u ≤ 18446744073709551615 ∧ List.map toByte q1.out ++ putFixN (w.toNat - q1.i) (q1.u.toNat) = putFixN (w.toNat) (u.toNat) ∧ q1.out.length = q1.i := hq_q1
  obtain ⟨v1, v2, v3, v4, v5⟩ := hi_q1
  refine ⟨fun h5 => have p5 := of_decide_eq_true h5; ?_, fun h5 => have p5 := of_decide_eq_false h5; ?_⟩
  exact ⟨(by decide), (as_tmod (by omega)), (as_u8 (by omega) (by omega)), (by simp only [List.length_cons, List.length_nil]; omega), (by decide), (as_tdiv_u64 (by omega) (by omega) (by decide)), (as_i64 (by omega) (by omega)), nxt_of (j := (⟨q1.u / 256, q1.out ++ [q1.u % 256], q1.i + 1⟩ : putFix_s_V0)) (by first | rfl | simp) rfl (by dsimp only [putFix_s_F0]; exact ⟨by omega, by omega, by omega, by rw [← v4, show w.toNat - q1.i = (w.toNat - (q1.i + 1)) + 1 by omega, putFixN, show Int.toNat (q1.u / 256) = q1.u.toNat / 256 by omega]; simp only [List.map_append, List.map_cons, List.map_nil, List.append_assoc, List.cons_append, List.nil_append, toByte]; rw [show Int.toNat (q1.u % 256) = q1.u.toNat % 256 by omega], by simp [v5]⟩) (by dsimp only [putFix_s_F0]; omega)⟩
  have hz : w.toNat - q1.i = 0 := by omega
  rw [hz] at v4
  simp only [putFixN, List.append_nil] at v4
  refine ⟨(congrArg S.v (congrArg V.c (congrArg C.str ?_))), rfl⟩
  rotate_left
  refine ⟨has_of (j := (⟨u, ([] : List Int), 0⟩ : putFix_s_V0)) (by first | rfl | simp) rfl (by dsimp only [putFix_s_F0]; exact ⟨by omega, by omega, by omega, by simp, by simp⟩), fun (q1 : putFix_s_V0) hq_q1 => ?_⟩
  have hi_q1 : (q1.i : Int) ≤ w ∧ (0 : Int) ≤ q1.u ∧ q1.u ≤ 18446744073709551615 ∧ List.map toByte q1.out ++ putFixN (w.toNat - q1.i) (q1.u.toNat) = putFixN (w.toNat) (u.toNat) ∧ q1.out.length = q1.i := hq_q1
  obtain ⟨v1, v2, v3, v4, v5⟩ := hi_q1
  refine ⟨fun h4 => have p4 := of_decide_eq_true h4; ?_, fun h4 => have p4 := of_decide_eq_false h4; ?_⟩
  exact ⟨(by decide), (as_tmod (by omega)), (as_u8 (by omega) (by omega)), (by simp only [List.length_cons, List.length_nil]; omega), (by decide), (as_tdiv_u64 (by omega) (by omega) (by decide)), (as_i64 (by omega) (by omega)), nxt_of (j := (⟨q1.u / 256, q1.out ++ [q1.u % 256], q1.i + 1⟩ : putFix_s_V0)) (by first | rfl | simp) rfl (by dsimp only [putFix_s_F0]; exact ⟨by omega, by omega, by omega, by rw [← v4, show w.toNat - q1.i = (w.toNat - (q1.i + 1)) + 1 by omega, putFixN, show Int.toNat (q1.u / 256) = q1.u.toNat / 256 by omega]; simp only [List.map_append, List.map_cons, List.map_nil, List.append_assoc, List.cons_append, List.nil_append, toByte]; rw [show Int.toNat (q1.u % 256) = q1.u.toNat % 256 by omega], by simp [v5]⟩) (by dsimp only [putFix_s_F0]; omega)⟩
  have hz : w.toNat - q1.i = 0 := by omega
  rw [hz] at v4
  simp only [putFixN, List.append_nil] at v4
  refine ⟨(congrArg S.v (congrArg V.c (congrArg C.str ?_))), rfl⟩
  rotate_left
  refine ⟨fun h2 => have p2 := of_decide_eq_true h2; ?_, fun h2 => have p2 := of_decide_eq_false h2; ?_⟩
  refine ⟨fun h3 => have p3 := of_decide_eq_true h3; ?_, fun h3 => have p3 := of_decide_eq_false h3; ?_⟩
  refine ⟨(congrArg S.v (congrArg V.c (congrArg C.str ?_))), rfl⟩
  rotate_left
  refine ⟨has_of (j := (⟨u, ([] : List Int), 0⟩ : putFix_s_V0)) (by first | rfl | simp) rfl (by dsimp only [putFix_s_F0]; exact ⟨by omega, by omega, by omega, by simp, by simp⟩), fun (q1 : putFix_s_V0) hq_q1 => ?_⟩
  have hi_q1 : (q1.i : Int) ≤ w ∧ (0 : Int) ≤ q1.u ∧ q1.u ≤ 18446744073709551615 ∧ List.map toByte q1.out ++ putFixN (w.toNat - q1.i) (q1.u.toNat) = putFixN (w.toNat) (u.toNat) ∧ q1.out.length = q1.i := hq_q1
  obtain ⟨v1, v2, v3, v4, v5⟩ := hi_q1
  refine ⟨fun h4 => have p4 := of_decide_eq_true h4; ?_, fun h4 => have p4 := of_decide_eq_false h4; ?_⟩
  exact ⟨(by decide), (as_tmod (by omega)), (as_u8 (by omega) (by omega)), (by simp only [List.length_cons, List.length_nil]; omega), (by decide), (as_tdiv_u64 (by omega) (by omega) (by decide)), (as_i64 (by omega) (by omega)), nxt_of (j := (⟨q1.u / 256, q1.out ++ [q1.u % 256], q1.i + 1⟩ : putFix_s_V0)) (by first | rfl | simp) rfl (by dsimp only [putFix_s_F0]; exact ⟨by omega, by omega, by omega, by rw [← v4, show w.toNat - q1.i = (w.toNat - (q1.i + 1)) + 1 by omega, putFixN, show Int.toNat (q1.u / 256) = q1.u.toNat / 256 by omega]; simp only [List.map_append, List.map_cons, List.map_nil, List.append_assoc, List.cons_append, List.nil_append, toByte]; rw [show Int.toNat (q1.u % 256) = q1.u.toNat % 256 by omega], by simp [v5]⟩) (by dsimp only [putFix_s_F0]; omega)⟩
  have hz : w.toNat - q1.i = 0 := by omega
  rw [hz] at v4
  simp only [putFixN, List.append_nil] at v4
  refine ⟨(congrArg S.v (congrArg V.c (congrArg C.str ?_))), rfl⟩
  rotate_left
  refine ⟨has_of (j := (⟨u, ([] : List Int), 0⟩ : putFix_s_V0)) (by first | rfl | simp) rfl (by dsimp only [putFix_s_F0]; exact ⟨by omega, by omega, by omega, by simp, by simp⟩), fun (q1 : putFix_s_V0) hq_q1 => ?_⟩
  have hi_q1 : (q1.i : Int) ≤ w ∧ (0 : Int) ≤ q1.u ∧ q1.u ≤ 18446744073709551615 ∧ List.map toByte q1.out ++ putFixN (w.toNat - q1.i) (q1.u.toNat) = putFixN (w.toNat) (u.toNat) ∧ q1.out.length = q1.i := hq_q1
  obtain ⟨v1, v2, v3, v4, v5⟩ := hi_q1
  refine ⟨fun h3 => have p3 := of_decide_eq_true h3; ?_, fun h3 => have p3 := of_decide_eq_false h3; ?_⟩
  exact ⟨(by decide), (as_tmod (by omega)), (as_u8 (by omega) (by omega)), (by simp only [List.length_cons, List.length_nil]; omega), (by decide), (as_tdiv_u64 (by omega) (by omega) (by decide)), (as_i64 (by omega) (by omega)), nxt_of (j := (⟨q1.u / 256, q1.out ++ [q1.u % 256], q1.i + 1⟩ : putFix_s_V0)) (by first | rfl | simp) rfl (by dsimp only [putFix_s_F0]; exact ⟨by omega, by omega, by omega, by rw [← v4, show w.toNat - q1.i = (w.toNat - (q1.i + 1)) + 1 by omega, putFixN, show Int.toNat (q1.u / 256) = q1.u.toNat / 256 by omega]; simp only [List.map_append, List.map_cons, List.map_nil, List.append_assoc, List.cons_append, List.nil_append, toByte]; rw [show Int.toNat (q1.u % 256) = q1.u.toNat % 256 by omega], by simp [v5]⟩) (by dsimp only [putFix_s_F0]; omega)⟩
  have hz : w.toNat - q1.i = 0 := by omega
  rw [hz] at v4
  simp only [putFixN, List.append_nil] at v4
  refine ⟨(congrArg S.v (congrArg V.c (congrArg C.str ?_))), rfl⟩
  rotate_left
  all_goals first | (rw [v4]; simp_all [putFix, widthOk]; done) | (rw [v4]; simp_all [putFix, widthOk]; omega) | (simp_all [putFix, widthOk]; done) | (simp_all [putFix, widthOk]; omega)
theorem tagOf_i (n : Int) (w : Int) : Fun Tryz.prog 224 [vI n, vI w] [] (.v (.c (.int .u64 (tagOf n w)))) [] := by
  have hN : bigN = 274877906944 := rfl
  refine fun_ofw Tryz.func224 (by kernel_rfl) (by kernel_rfl) (w := let z1 := within n 1 536870911; let z2 := within w 0 7; let z3 := (8 * n) + w; (.seg [.call [] (.v (vB z1)) []] (.br (.leaf () []) (.seg [.call [] (.v (vB z2)) []] (.br (.leaf () []) (.seg [.as 14 (.v (.c (.int .u64 n))), .as 15 (.v (.c (.int .u64 (8 * n)))), .as 17 (.v (.c (.int .u64 w))), .as 18 (.v (.c (.int .u64 z3)))] (.leaf () []))))), (Fun Tryz.prog 76 [vI n, vI 1, vI 536870911] [] (.v (vB z1)) []) ∧ ((!z1) = true → (.v (.c (.int .u64 0)) : S) = .v (.c (.int .u64 (tagOf n w))) ∧ ([] : List Blk) = []) ∧ ((!z1) = false → (Fun Tryz.prog 76 [vI w, vI 0, vI 7] [] (.v (vB z2)) []) ∧ ((!z2) = true → (.v (.c (.int .u64 0)) : S) = .v (.c (.int .u64 (tagOf n w))) ∧ ([] : List Blk) = []) ∧ ((!z2) = false → ((.v (.c (.int .u64 (IntKind.u64.wrap (n)))) : S) = .v (.c (.int .u64 n))) ∧ ((.v (.c (.int .u64 (IntKind.u64.wrap (8 * n)))) : S) = .v (.c (.int .u64 (8 * n)))) ∧ ((.v (.c (.int .u64 (IntKind.u64.wrap (w)))) : S) = .v (.c (.int .u64 w))) ∧ ((.v (.c (.int .u64 (IntKind.u64.wrap z3))) : S) = .v (.c (.int .u64 z3))) ∧ (.v (.c (.int .u64 z3)) : S) = .v (.c (.int .u64 (tagOf n w))) ∧ ([] : List Blk) = [])))) (by kernel_rfl) ?_
  refine ⟨(within_i _ _ _), fun h1 => have q1 := bnot_t h1; have p1 := within_f q1; ?_, fun h1 => have q1 := bnot_f h1; have p1 := within_t q1; ?_⟩
  exact ⟨(congrArg S.v (congrArg V.c (congrArg (C.int .u64) (by simp [tagOf, *])))), rfl⟩
  refine ⟨(within_i _ _ _), fun h2 => have q2 := bnot_t h2; have p2 := within_f q2; ?_, fun h2 => have q2 := bnot_f h2; have p2 := within_t q2; ?_⟩
  exact ⟨(congrArg S.v (congrArg V.c (congrArg (C.int .u64) (by simp [tagOf, *])))), rfl⟩
  exact ⟨(as_u64 (by omega) (by omega)), (as_u64 (by omega) (by omega)), (as_u64 (by omega) (by omega)), (as_u64 (by omega) (by omega)), (congrArg S.v (congrArg V.c (congrArg (C.int .u64) (by simp [tagOf, *])))), rfl⟩
theorem tagOf_s (n : Int) (w : Int) : Fun Tryz.prog 219 [vI n, vI w] [] (.v (.c (.int .u64 (tagOf n w)))) [] := by
  have hN : bigN = 274877906944 := rfl
  refine fun_ofw Tryz.func219 (by kernel_rfl) (by kernel_rfl) (w := let z1 := (8 * n) + w; let z2 := within n 1 536870911; let z3 := within w 0 7; (.seg [.call [] (.v (vB z2)) []] (.br (.leaf () []) (.seg [.call [] (.v (vB z3)) []] (.br (.leaf () []) (.seg [.as 14 (.v (vI (8 * n))), .as 16 (.v (vI z1)), .as 17 (.v (.c (.int .u64 z1)))] (.leaf () []))))), (Fun Tryz.prog 58 [vI n, vI 1, vI 536870911] [] (.v (vB z2)) []) ∧ ((!z2) = true → (.v (.c (.int .u64 0)) : S) = .v (.c (.int .u64 (tagOf n w))) ∧ ([] : List Blk) = []) ∧ ((!z2) = false → (Fun Tryz.prog 58 [vI w, vI 0, vI 7] [] (.v (vB z3)) []) ∧ ((!z3) = true → (.v (.c (.int .u64 0)) : S) = .v (.c (.int .u64 (tagOf n w))) ∧ ([] : List Blk) = []) ∧ ((!z3) = false → ((.v (vI (IntKind.i64.wrap (8 * n))) : S) = .v (vI (8 * n))) ∧ ((.v (vI (IntKind.i64.wrap z1)) : S) = .v (vI z1)) ∧ ((.v (.c (.int .u64 (IntKind.u64.wrap z1))) : S) = .v (.c (.int .u64 z1))) ∧ (.v (.c (.int .u64 z1)) : S) = .v (.c (.int .u64 (tagOf n w))) ∧ ([] : List Blk) = [])))) (by kernel_rfl) ?_
  refine ⟨(within_s _ _ _), fun h1 => have q1 := bnot_t h1; have p1 := within_f q1; ?_, fun h1 => have q1 := bnot_f h1; have p1 := within_t q1; ?_⟩
  exact ⟨(congrArg S.v (congrArg V.c (congrArg (C.int .u64) (by simp [tagOf, *])))), rfl⟩
  refine ⟨(within_s _ _ _), fun h2 => have q2 := bnot_t h2; have p2 := within_f q2; ?_, fun h2 => have q2 := bnot_f h2; have p2 := within_t q2; ?_⟩
  exact ⟨(congrArg S.v (congrArg V.c (congrArg (C.int .u64) (by simp [tagOf, *])))), rfl⟩
  exact ⟨(as_i64 (by omega) (by omega)), (as_i64 (by omega) (by omega)), (as_u64 (by omega) (by omega)), (congrArg S.v (congrArg V.c (congrArg (C.int .u64) (by simp [tagOf, *])))), rfl⟩
theorem tagIn_i (u : Int) (hp1 : (0 : Int) ≤ u ∧ u ≤ 18446744073709551615) : Fun Tryz.prog 229 [.c (.int .u64 u)] [] (.tup [vI (tagNum u), vI (tagWire u), vB (tagOk u)]) [] := by
  have hN : bigN = 274877906944 := rfl
  refine fun_ofw Tryz.func229 (by kernel_rfl) (by kernel_rfl) (w := let z1 : List V := [vI (tagNum u), vI (tagWire u), vB (tagOk u)]; let z2 := (.v (.c (.int .u64 (Int.fdiv u (2 ^ 3)))) : S) = .v (.c (.int .u64 (u / 8))); let z3 := (.tup [vI 0, vI 0, vB false] : S); (.br (.leaf () []) (.seg [.as 9 (.v (.c (.int .u64 (u / 8))))] (.br (.leaf () []) (.seg [.as 13 (.v (.c (.int .u64 (u / 8)))), .as 14 (.v (vI (u / 8))), .as 16 (.v (.c (.int .u64 (u % 8)))), .as 17 (.v (vI (u % 8)))] (.leaf () [])))), ((decide (u < 8)) = true → z3 = .tup z1 ∧ ([] : List Blk) = []) ∧ ((decide (u < 8)) = false → ((0 : Int) ≤ 3) ∧ z2 ∧ ((decide (536870911 < u / 8)) = true → z3 = .tup z1 ∧ ([] : List Blk) = []) ∧ ((decide (536870911 < u / 8)) = false → ((0 : Int) ≤ 3) ∧ z2 ∧ ((.v (vI (IntKind.i64.wrap (u / 8))) : S) = .v (vI (u / 8))) ∧ ((.v (.c (.int .u64 (IntKind.u64.wrap (((BitVec.ofInt 64 u &&& BitVec.ofInt 64 7).toNat : Nat))))) : S) = .v (.c (.int .u64 (u % 8)))) ∧ ((.v (vI (IntKind.i64.wrap (u % 8))) : S) = .v (vI (u % 8))) ∧ (.tup [vI (u / 8), vI (u % 8), vB true] : S) = .tup z1 ∧ ([] : List Blk) = [])))) (by kernel_rfl) ?_
  refine ⟨fun h1 => have p1 := of_decide_eq_true h1; ?_, fun h1 => have p1 := of_decide_eq_false h1; ?_⟩
  refine ⟨(congrArg S.tup (consE (congrArg V.c (congrArg (C.int .i64) ?_)) (consE (congrArg V.c (congrArg (C.int .i64) ?_)) (consE (congrArg V.c (congrArg C.bool ?_)) rfl)))), rfl⟩
  rotate_left 3
  refine ⟨(by decide), (as_shr (k := 3) (by decide) (by decide)), fun h2 => have p2 := of_decide_eq_true h2; ?_, fun h2 => have p2 := of_decide_eq_false h2; ?_⟩
  refine ⟨(congrArg S.tup (consE (congrArg V.c (congrArg (C.int .i64) ?_)) (consE (congrArg V.c (congrArg (C.int .i64) ?_)) (consE (congrArg V.c (congrArg C.bool ?_)) rfl)))), rfl⟩
  rotate_left 3
  refine ⟨(by decide), (as_shr (k := 3) (by decide) (by decide)), (as_i64 (by omega) (by omega)), (as_mask_u64 (k := 3) (by decide) (by decide)), (as_i64 (by omega) (by omega)), (congrArg S.tup (consE (congrArg V.c (congrArg (C.int .i64) ?_)) (consE (congrArg V.c (congrArg (C.int .i64) ?_)) (consE (congrArg V.c (congrArg C.bool ?_)) rfl)))), rfl⟩
  rotate_left 3
  all_goals first | ((have ht : tagOk u = true := by (simp [tagOk, within]; omega)); simp [tagNum, tagWire, ht]) | ((have ht : tagOk u = false := by (simp [tagOk, within]; omega)); simp [tagNum, tagWire, ht])
theorem tagIn_s (u : Int) (hp1 : (0 : Int) ≤ u ∧ u ≤ 18446744073709551615) : Fun Tryz.prog 184 [.c (.int .u64 u)] [] (.tup [vI (tagNum u), vI (tagWire u), vB (tagOk u)]) [] := by
  have hN : bigN = 274877906944 := rfl
  refine fun_ofw Tryz.func184 (by kernel_rfl) (by kernel_rfl) (w := let z1 : List V := [vI (tagNum u), vI (tagWire u), vB (tagOk u)]; let z2 := (.tup [vI 0, vI 0, vB false] : S); (.br (.leaf () []) (.br (.leaf () []) (.seg [.as 12 (.v (.c (.int .u64 (u / 8)))), .as 13 (.v (vI (u / 8))), .as 15 (.v (.c (.int .u64 (u % 8)))), .as 16 (.v (vI (u % 8)))] (.leaf () []))), ((decide (u < 8)) = true → z2 = .tup z1 ∧ ([] : List Blk) = []) ∧ ((decide (u < 8)) = false → ((decide (4294967295 < u)) = true → z2 = .tup z1 ∧ ([] : List Blk) = []) ∧ ((decide (4294967295 < u)) = false → ((8 : Int) ≠ 0) ∧ ((.v (.c (.int .u64 (IntKind.u64.wrap (Int.tdiv u 8)))) : S) = .v (.c (.int .u64 (u / 8)))) ∧ ((.v (vI (IntKind.i64.wrap (u / 8))) : S) = .v (vI (u / 8))) ∧ ((8 : Int) ≠ 0) ∧ ((.v (.c (.int .u64 (Int.tmod u 8))) : S) = .v (.c (.int .u64 (u % 8)))) ∧ ((.v (vI (IntKind.i64.wrap (u % 8))) : S) = .v (vI (u % 8))) ∧ (.tup [vI (u / 8), vI (u % 8), vB true] : S) = .tup z1 ∧ ([] : List Blk) = [])))) (by kernel_rfl) ?_
  refine ⟨fun h1 => have p1 := of_decide_eq_true h1; ?_, fun h1 => have p1 := of_decide_eq_false h1; ?_⟩
  refine ⟨(congrArg S.tup (consE (congrArg V.c (congrArg (C.int .i64) ?_)) (consE (congrArg V.c (congrArg (C.int .i64) ?_)) (consE (congrArg V.c (congrArg C.bool ?_)) rfl)))), rfl⟩
  rotate_left 3
  refine ⟨fun h2 => have p2 := of_decide_eq_true h2; ?_, fun h2 => have p2 := of_decide_eq_false h2; ?_⟩
  refine ⟨(congrArg S.tup (consE (congrArg V.c (congrArg (C.int .i64) ?_)) (consE (congrArg V.c (congrArg (C.int .i64) ?_)) (consE (congrArg V.c (congrArg C.bool ?_)) rfl)))), rfl⟩
  rotate_left 3
  refine ⟨(by decide), (as_tdiv_u64 (by omega) (by omega) (by decide)), (as_i64 (by omega) (by omega)), (by decide), (as_tmod (by omega)), (as_i64 (by omega) (by omega)), (congrArg S.tup (consE (congrArg V.c (congrArg (C.int .i64) ?_)) (consE (congrArg V.c (congrArg (C.int .i64) ?_)) (consE (congrArg V.c (congrArg C.bool ?_)) rfl)))), rfl⟩
  rotate_left 3
  all_goals first | ((have ht : tagOk u = true := by (simp [tagOk, within]; omega)); simp [tagNum, tagWire, ht]) | ((have ht : tagOk u = false := by (simp [tagOk, within]; omega)); simp [tagNum, tagWire, ht])
theorem failure_i (c : Int) (a : Int) : Fun Tryz.prog 226 [vI c, vI a] [] (.v (.agg (cEv (failEv c a)))) [] := by
  have hN : bigN = 274877906944 := rfl
  refine fun_ofw Tryz.func226 (by kernel_rfl) (by kernel_rfl) (w := (.leaf () [], (.v (.agg [.int .i64 10, .int .i64 0, .int .u64 0, .int .i64 0, .str [], .int .i64 c, .int .i64 a]) : S) = .v (.agg (cEv (failEv c a))) ∧ ([] : List Blk) = [])) (by kernel_rfl) ?_
  have hm1 : failEv c a = (⟨10, 0, 0, 0, [], c, a⟩ : Ev) := by rfl
  exact ⟨(congrArg S.v (congrArg V.agg (consE (congrArg (C.int .i64) (by rfl)) (consE (congrArg (C.int .i64) (by rfl)) (consE (congrArg (C.int .u64) (by rfl)) (consE (congrArg (C.int .i64) (by rfl)) (consE (congrArg C.str (by rfl)) (consE (congrArg (C.int .i64) (by rfl)) (consE (congrArg (C.int .i64) (by rfl)) rfl))))))))), rfl⟩
theorem failure_s (c : Int) (a : Int) : Fun Tryz.prog 154 [vI c, vI a] [] (.v (.agg (cEv (failEv c a)))) [] := by
  have hN : bigN = 274877906944 := rfl
  refine fun_ofw Tryz.func154 (by kernel_rfl) (by kernel_rfl) (w := (.leaf () [], (.v (.agg [.int .i64 10, .int .i64 0, .int .u64 0, .int .i64 0, .str [], .int .i64 c, .int .i64 a]) : S) = .v (.agg (cEv (failEv c a))) ∧ ([] : List Blk) = [])) (by kernel_rfl) ?_
  have hm1 : failEv c a = (⟨10, 0, 0, 0, [], c, a⟩ : Ev) := by rfl
  exact ⟨(congrArg S.v (congrArg V.agg (consE (congrArg (C.int .i64) (by rfl)) (consE (congrArg (C.int .i64) (by rfl)) (consE (congrArg (C.int .u64) (by rfl)) (consE (congrArg (C.int .i64) (by rfl)) (consE (congrArg C.str (by rfl)) (consE (congrArg (C.int .i64) (by rfl)) (consE (congrArg (C.int .i64) (by rfl)) rfl))))))))), rfl⟩
theorem numEvent_i (f : Fld) (u : Int) (hp1 : (0 : Int) ≤ u) : Fun Tryz.prog 228 [.agg (cFld f), .c (.int .u64 u)] [] (.v (.agg (cEv (numEv f u)))) [] := by
  have hN : bigN = 274877906944 := rfl
  refine fun_ofw Tryz.func228 (by kernel_rfl) (by kernel_rfl) (w := let z1 := (.v (.agg [.int .i64 2, .int .i64 f.number, .int .u64 u, .int .i64 0, .str [], .int .i64 0, .int .i64 0]) : S); (.br (.br (.leaf () []) (.leaf () [])) (.leaf () []), ((decide (f.kind = 3)) = true → ((!decide (u = 0)) = true → (.v (.agg [.int .i64 2, .int .i64 f.number, .int .u64 1, .int .i64 0, .str [], .int .i64 0, .int .i64 0]) : S) = .v (.agg (cEv (numEv f u))) ∧ ([] : List Blk) = []) ∧ ((!decide (u = 0)) = false → z1 = .v (.agg (cEv (numEv f u))) ∧ ([] : List Blk) = [])) ∧ ((decide (f.kind = 3)) = false → z1 = .v (.agg (cEv (numEv f u))) ∧ ([] : List Blk) = []))) (by kernel_rfl) ?_
  refine ⟨fun h1 => have p1 := of_decide_eq_true h1; ?_, fun h1 => have p1 := of_decide_eq_false h1; ?_⟩
  refine ⟨fun h2 => have q2 := bnot_t h2; have p2 := of_decide_eq_false q2; ?_, fun h2 => have q2 := bnot_f h2; have p2 := of_decide_eq_true q2; ?_⟩
  refine have hm1 : numEv f u = (⟨2, f.number, 1, 0, [], 0, 0⟩ : Ev) := ?_; ?_
  rotate_left
  refine ⟨(congrArg S.v (congrArg V.agg (consE (congrArg (C.int .i64) ?_) (consE (congrArg (C.int .i64) ?_) (consE (congrArg (C.int .u64) ?_) (consE (congrArg (C.int .i64) ?_) (consE (congrArg C.str ?_) (consE (congrArg (C.int .i64) ?_) (consE (congrArg (C.int .i64) ?_) rfl))))))))), rfl⟩
  rotate_left 7
  refine have hm1 : numEv f u = (⟨2, f.number, u, 0, [], 0, 0⟩ : Ev) := ?_; ?_
  rotate_left
  refine ⟨(congrArg S.v (congrArg V.agg (consE (congrArg (C.int .i64) ?_) (consE (congrArg (C.int .i64) ?_) (consE (congrArg (C.int .u64) ?_) (consE (congrArg (C.int .i64) ?_) (consE (congrArg C.str ?_) (consE (congrArg (C.int .i64) ?_) (consE (congrArg (C.int .i64) ?_) rfl))))))))), rfl⟩
  rotate_left 7
  refine have hm1 : numEv f u = (⟨2, f.number, u, 0, [], 0, 0⟩ : Ev) := ?_; ?_
  rotate_left
  refine ⟨(congrArg S.v (congrArg V.agg (consE (congrArg (C.int .i64) ?_) (consE (congrArg (C.int .i64) ?_) (consE (congrArg (C.int .u64) ?_) (consE (congrArg (C.int .i64) ?_) (consE (congrArg C.str ?_) (consE (congrArg (C.int .i64) ?_) (consE (congrArg (C.int .i64) ?_) rfl))))))))), rfl⟩
  rotate_left 7
  all_goals simp [numEv, *] <;> omega
theorem numEvent_s (f : Fld) (u : Int) (hp1 : (0 : Int) ≤ u) : Fun Tryz.prog 156 [.agg (cFld f), .c (.int .u64 u)] [] (.v (.agg (cEv (numEv f u)))) [] := by
  have hN : bigN = 274877906944 := rfl
  refine fun_ofw Tryz.func156 (by kernel_rfl) (by kernel_rfl) (w := let z1 := (.v (.agg [.int .i64 2, .int .i64 f.number, .int .u64 u, .int .i64 0, .str [], .int .i64 0, .int .i64 0]) : S); (.br (.br (.leaf () []) (.leaf () [])) (.leaf () []), ((decide (f.kind = 3)) = true → ((decide (1 < u)) = true → (.v (.agg [.int .i64 2, .int .i64 f.number, .int .u64 1, .int .i64 0, .str [], .int .i64 0, .int .i64 0]) : S) = .v (.agg (cEv (numEv f u))) ∧ ([] : List Blk) = []) ∧ ((decide (1 < u)) = false → z1 = .v (.agg (cEv (numEv f u))) ∧ ([] : List Blk) = [])) ∧ ((decide (f.kind = 3)) = false → z1 = .v (.agg (cEv (numEv f u))) ∧ ([] : List Blk) = []))) (by kernel_rfl) ?_
  refine ⟨fun h1 => have p1 := of_decide_eq_true h1; ?_, fun h1 => have p1 := of_decide_eq_false h1; ?_⟩
  refine ⟨fun h2 => have p2 := of_decide_eq_true h2; ?_, fun h2 => have p2 := of_decide_eq_false h2; ?_⟩
  refine have hm1 : numEv f u = (⟨2, f.number, 1, 0, [], 0, 0⟩ : Ev) := ?_; ?_
  rotate_left
  refine ⟨(congrArg S.v (congrArg V.agg (consE (congrArg (C.int .i64) ?_) (consE (congrArg (C.int .i64) ?_) (consE (congrArg (C.int .u64) ?_) (consE (congrArg (C.int .i64) ?_) (consE (congrArg C.str ?_) (consE (congrArg (C.int .i64) ?_) (consE (congrArg (C.int .i64) ?_) rfl))))))))), rfl⟩
  rotate_left 7
  refine have hm1 : numEv f u = (⟨2, f.number, u, 0, [], 0, 0⟩ : Ev) := ?_; ?_
  rotate_left
  refine ⟨(congrArg S.v (congrArg V.agg (consE (congrArg (C.int .i64) ?_) (consE (congrArg (C.int .i64) ?_) (consE (congrArg (C.int .u64) ?_) (consE (congrArg (C.int .i64) ?_) (consE (congrArg C.str ?_) (consE (congrArg (C.int .i64) ?_) (consE (congrArg (C.int .i64) ?_) rfl))))))))), rfl⟩
  rotate_left 7
  refine have hm1 : numEv f u = (⟨2, f.number, u, 0, [], 0, 0⟩ : Ev) := ?_; ?_
  rotate_left
  refine ⟨(congrArg S.v (congrArg V.agg (consE (congrArg (C.int .i64) ?_) (consE (congrArg (C.int .i64) ?_) (consE (congrArg (C.int .u64) ?_) (consE (congrArg (C.int .i64) ?_) (consE (congrArg C.str ?_) (consE (congrArg (C.int .i64) ?_) (consE (congrArg (C.int .i64) ?_) rfl))))))))), rfl⟩
  rotate_left 7
  all_goals simp [numEv, *] <;> omega
theorem frameOf_i (b : List UInt8) (hp1 : b.length ≤ bigN) : Fun Tryz.prog 150 [vT b] [] (.v (vT (frameOf b))) [] := by
  have hN : bigN = 274877906944 := rfl
  refine fun_ofw Tryz.func150 (by kernel_rfl) (by kernel_rfl) (w := let z1 := (b.length : Int); (.seg [.as 5 (.v (.c (.int .u64 z1))), .call [] (.v (vT (putVar z1))) []] (.leaf () []), ((.v (.c (.int .u64 (IntKind.u64.wrap (z1)))) : S) = .v (.c (.int .u64 z1))) ∧ (Fun Tryz.prog 180 [.c (.int .u64 z1)] [] (.v (vT (putVar z1))) []) ∧ (((List.length (putVar z1) + b.length : Nat) : Int) ≤ i64max) ∧ (.v (vT ((putVar z1) ++ b)) : S) = .v (vT (frameOf b)) ∧ ([] : List Blk) = [])) (by kernel_rfl) ?_
  exact ⟨(as_u64 (by omega) (by omega)), (putVar_i _ (by omega)), (by have := putVar_len (u := (b.length : Int)) (by omega); simp only [i64max]; omega), (congrArg S.v (congrArg V.c (congrArg C.str (by rfl)))), rfl⟩
theorem frameOf_s (b : List UInt8) (hp1 : b.length ≤ bigN) : Fun Tryz.prog 140 [vT b] [] (.v (vT (frameOf b))) [] := by
  have hN : bigN = 274877906944 := rfl
  refine fun_ofw Tryz.func140 (by kernel_rfl) (by kernel_rfl) (w := let z1 := (b.length : Int); (.seg [.as 5 (.v (.c (.int .u64 z1))), .call [] (.v (vT (putVar z1))) []] (.leaf () []), ((.v (.c (.int .u64 (IntKind.u64.wrap (z1)))) : S) = .v (.c (.int .u64 z1))) ∧ (Fun Tryz.prog 172 [.c (.int .u64 z1)] [] (.v (vT (putVar z1))) []) ∧ (((List.length (putVar z1) + b.length : Nat) : Int) ≤ i64max) ∧ (.v (vT ((putVar z1) ++ b)) : S) = .v (vT (frameOf b)) ∧ ([] : List Blk) = [])) (by kernel_rfl) ?_
  exact ⟨(as_u64 (by omega) (by omega)), (putVar_s _ (by omega)), (by have := putVar_len (u := (b.length : Int)) (by omega); simp only [i64max]; omega), (congrArg S.v (congrArg V.c (congrArg C.str (by rfl)))), rfl⟩
end Go.Proofs.YthmhekbmhpljcaaGreat.Ax
