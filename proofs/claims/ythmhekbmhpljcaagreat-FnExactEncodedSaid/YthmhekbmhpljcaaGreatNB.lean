/- Varints. -/
import Derived.Test.YthmhekbmhpljcaaGreatNA
namespace Go.Proofs.YthmhekbmhpljcaaGreat.Ax
open Go.RowKit
set_option linter.unusedSimpArgs false
set_option linter.unusedVariables false
structure putVar_s_V0 where
  u : Int
  out : List Int
def putVar_s_F0 (u : Int) : Fam := ⟨putVar_s_V0, fun q1 => [(0, .v (.c (.int .u64 q1.u))), (3, .v (vO 0))], fun q1 => [.lst .u8 q1.out], fun q1 => (0 : Int) ≤ q1.u ∧ q1.u ≤ 18446744073709551615 ∧ List.map toByte q1.out ++ putVar q1.u = putVar u ∧ q1.out.length + List.length (putVar q1.u) ≤ 10, fun q1 => q1.u.toNat⟩

theorem putVar_s (u : Int) (hp1 : (0 : Int) ≤ u ∧ u ≤ 18446744073709551615) : Fun Tryz.prog 172 [.c (.int .u64 u)] [] (.v (vT (putVar u))) [] := by
  have hN : bigN = 274877906944 := rfl
  refine fun_ofw Tryz.func172 (by kernel_rfl) (by kernel_rfl) (w := let z2 := putVar_s_F0 u; (.seg [.ty .u8, .at 0, .keep [0, 3], .sel [0]] (.loop z2 fun q1 => .br (.seg [.as 9 (.v (.c (.int .u64 (q1.u % 128)))), .as 10 (.v (.c (.int .u64 (q1.u % 128 + 128)))), .as 11 (.v (.c (.int .u8 (q1.u % 128 + 128)))), .ty .u8, .ty .u8, .as 15 (.v (.c (.int .u64 (q1.u / 128)))), .at 0, .keep [0, 3], .sel [2]] (.next)) (.seg [.as 18 (.v (.c (.int .u8 q1.u))), .ty .u8, .ty .u8] (.leaf () []))), z2.Has [(0, .v (.c (.int .u64 u))), (3, .v (vO 0))] [.lst .u8 ([] : List Int)] ∧ ∀ q1, z2.inv q1 → (let z1 := q1.u % 128 + 128; ((decide (127 < q1.u)) = true → ((128 : Int) ≠ 0) ∧ ((.v (.c (.int .u64 (Int.tmod q1.u 128))) : S) = .v (.c (.int .u64 (q1.u % 128)))) ∧ ((.v (.c (.int .u64 (IntKind.u64.wrap ((q1.u % 128) + 128)))) : S) = .v (.c (.int .u64 z1))) ∧ ((.v (.c (.int .u8 (IntKind.u8.wrap z1))) : S) = .v (.c (.int .u8 z1))) ∧ (q1.out.length + List.length [q1.u % 128 + 128] ≤ bigN) ∧ ((128 : Int) ≠ 0) ∧ ((.v (.c (.int .u64 (IntKind.u64.wrap (Int.tdiv q1.u 128)))) : S) = .v (.c (.int .u64 (q1.u / 128)))) ∧ z2.Nxt q1 [(0, .v (.c (.int .u64 (q1.u / 128)))), (3, .v (vO 0))] [.lst .u8 (q1.out ++ [q1.u % 128 + 128])]) ∧ ((decide (127 < q1.u)) = false → ((.v (.c (.int .u8 (IntKind.u8.wrap (q1.u)))) : S) = .v (.c (.int .u8 q1.u))) ∧ (q1.out.length + List.length [q1.u] ≤ bigN) ∧ (.v (vT (List.map toByte (q1.out ++ [q1.u]))) : S) = .v (vT (putVar u)) ∧ ([] : List Blk) = [])))) (by kernel_rfl) ?_
  refine ⟨has_of (j := (⟨u, ([] : List Int)⟩ : putVar_s_V0)) rfl rfl (by dsimp only [putVar_s_F0]; exact ⟨by omega, by omega, by simp, by have := varLen_b (u := u) (by omega); unfold varLen at this; simp; omega⟩), fun (q1 : putVar_s_V0) hq_q1 => ?_⟩
  have hi_q1 : (0 : Int) ≤ q1.u ∧ q1.u ≤ 18446744073709551615 ∧ List.map toByte q1.out ++ putVar q1.u = putVar u ∧ q1.out.length + List.length (putVar q1.u) ≤ 10 := hq_q1
  obtain ⟨v1, v2, v3, v4⟩ := hi_q1
  refine ⟨fun h1 => have p1 := of_decide_eq_true h1; ?_, fun h1 => have p1 := of_decide_eq_false h1; ?_⟩
  exact ⟨(by decide), (as_tmod (by omega)), (as_u64 (by omega) (by omega)), (as_u8 (by omega) (by omega)), (by have := putVar_pos q1.u; simp; omega), (by decide), (as_tdiv_u64 (by omega) (by omega) (by decide)), nxt_of (j := (⟨q1.u / 128, q1.out ++ [q1.u % 128 + 128]⟩ : putVar_s_V0)) rfl rfl (by dsimp only [putVar_s_F0]; exact ⟨by omega, by omega, by rw [← v3, putVar_big (u := q1.u) (by omega) (by omega)]; simp [toByte], by rw [putVar_big (u := q1.u) (by omega) (by omega)] at v4; simp at v4 ⊢; omega⟩) (by dsimp only [putVar_s_F0]; omega)⟩
  refine ⟨(as_u8 (by omega) (by omega)), (by have := putVar_pos q1.u; simp; omega), (congrArg S.v (congrArg V.c (congrArg C.str ?_))), rfl⟩
  rotate_left
  all_goals rw [← v3, putVar_small (u := q1.u) (by omega) (by omega)]; simp [toByte]
structure varLen_i_V0 where
  u : Int
  n : Int
def varLen_i_F0 (u : Int) : Fam := ⟨varLen_i_V0, fun q1 => [(0, .v (.c (.int .u64 q1.u))), (3, .v (vI q1.n))], fun _ => [], fun q1 => (0 : Int) ≤ q1.u ∧ q1.u ≤ 18446744073709551615 ∧ ((List.length (putVar q1.u) : Nat) : Int) + q1.n = varLen u + 1 ∧ 1 ≤ q1.n, fun q1 => q1.u.toNat⟩

theorem varLen_i (u : Int) (hp1 : (0 : Int) ≤ u ∧ u ≤ 18446744073709551615) : Fun Tryz.prog 205 [.c (.int .u64 u)] [] (.v (vI (varLen u))) [] := by
  have hN : bigN = 274877906944 := rfl
  refine fun_ofw Tryz.func205 (by kernel_rfl) (by kernel_rfl) (w := let z1 := varLen_i_F0 u; (.seg [.at 0, .keep [0, 3], .sel []] (.loop z1 fun q1 => .br (.seg [.as 9 (.v (vI (q1.n + 1))), .as 7 (.v (.c (.int .u64 (q1.u / 128)))), .at 0, .keep [0, 3], .sel []] (.next)) (.leaf () [])), z1.Has [(0, .v (.c (.int .u64 u))), (3, .v (vI 1))] [] ∧ ∀ q1, z1.inv q1 → (((decide (127 < q1.u)) = true → ((.v (vI (IntKind.i64.wrap (q1.n + 1))) : S) = .v (vI (q1.n + 1))) ∧ ((0 : Int) ≤ 7) ∧ ((.v (.c (.int .u64 (Int.fdiv q1.u (2 ^ 7)))) : S) = .v (.c (.int .u64 (q1.u / 128)))) ∧ z1.Nxt q1 [(0, .v (.c (.int .u64 (q1.u / 128)))), (3, .v (vI (q1.n + 1)))] []) ∧ ((decide (127 < q1.u)) = false → (.v (vI q1.n) : S) = .v (vI (varLen u)) ∧ ([] : List Blk) = [])))) (by kernel_rfl) ?_
  refine ⟨has_of (j := (⟨u, 1⟩ : varLen_i_V0)) rfl rfl (by dsimp only [varLen_i_F0]; exact ⟨by omega, by omega, by unfold varLen; omega, by omega⟩), fun (q1 : varLen_i_V0) hq_q1 => ?_⟩
  have hi_q1 : (0 : Int) ≤ q1.u ∧ q1.u ≤ 18446744073709551615 ∧ ((List.length (putVar q1.u) : Nat) : Int) + q1.n = varLen u + 1 ∧ 1 ≤ q1.n := hq_q1
  obtain ⟨v1, v2, v3, v4⟩ := hi_q1
  have hb := varLen_b (u := u) (by omega)
  have hc := putVar_pos q1.u
  refine ⟨fun h1 => have p1 := of_decide_eq_true h1; ?_, fun h1 => have p1 := of_decide_eq_false h1; ?_⟩
  exact ⟨(as_i64 (by omega) (by omega)), (by decide), (as_shr (k := 7) (by decide) (by decide)), nxt_of (j := (⟨q1.u / 128, q1.n + 1⟩ : varLen_i_V0)) rfl rfl (by dsimp only [varLen_i_F0]; exact ⟨by omega, by omega, by rw [putVar_big (u := q1.u) (by omega) (by omega)] at v3; simp at v3 ⊢; omega, by omega⟩) (by dsimp only [varLen_i_F0]; omega)⟩
  refine ⟨(sI ?_), rfl⟩
  rotate_left
  all_goals rw [putVar_small (u := q1.u) (by omega) (by omega)] at v3; simp at v3; omega
structure padVar_i_V0 where
  u : Int
  out : List Int
  v : Nat
def padVar_i_F0 (u : Int) : Fam := ⟨padVar_i_V0, fun q1 => [(0, .v (.c (.int .u64 q1.u))), (1, .v (vI (varLen u))), (5, .v (vO 0)), (15, .v (vI (varLen u))), (16, .v (vI (q1.v : Int)))], fun q1 => [.lst .u8 q1.out], fun q1 => q1.v ≤ (List.length (putVar u)) ∧ q1.out.length = (List.length (putVar u)) ∧ List.take q1.v q1.out = List.take q1.v (padL (u.toNat) (List.length (putVar u))) ∧ q1.u = ((u.toNat / 128 ^ q1.v : Nat) : Int), fun q1 => (List.length (putVar u)) - q1.v⟩

theorem padVar_i (u : Int) (hp1 : (0 : Int) ≤ u ∧ u ≤ 18446744073709551615) : Fun Tryz.prog 204 [.c (.int .u64 u), vI (varLen u)] [] (.v (vT (putVar u))) [] := by
  have hN : bigN = 274877906944 := rfl
  have hb := varLen_b (u := u) (by omega)
  have hl : varLen u = (((putVar u).length : Nat) : Int) := rfl
  refine fun_ofw Tryz.func204 (by kernel_rfl) (by kernel_rfl) (w := let z4 := varLen u; let z5 := varLen u - 1; let z6 := List.replicate (z4.toNat) (0 : Int); let z7 := padVar_i_F0 u; (.seg [.call [] (.v (vI z4)) [], .call [] (.v (vB (within z4 z4 10))) [], .br false, .ty .u8, .as 15 (.v (vI z4)), .at 0, .keep [0, 1, 5, 15, 16], .sel [0]] (.loop z7 fun q1 => .br (.seg [.as 22 (.v (.c (.int .u64 (q1.u % 128)))), .as 23 (.v (.c (.int .u64 ((q1.u % 128) + 128)))), .as 24 (.v (.c (.int .u8 (q1.u % 128 + 128))))] (.intro (fun (x1 : Int) => q1.out[q1.v]? = some x1) fun x1 => .seg [.el .u8 x1, .as 27 (.v (.c (.int .u64 (q1.u / 128)))), .as 28 (.v (vI ((q1.v : Int) + 1))), .at 0, .keep [0, 1, 5, 15, 16], .sel [0]] (.next))) (.seg [.as 31 (.v (vI z5))] (.intro (fun (x1 : Int) => q1.out[z5.toNat]? = some x1) fun x1 => .seg [.el .u8 x1, .as 34 (.v (.c (.int .u8 (x1 % 128)))), .el .u8 x1] (.leaf () [])))), (Fun Tryz.prog 205 [.c (.int .u64 u)] [] (.v (vI z4)) []) ∧ (Fun Tryz.prog 76 [vI z4, vI z4, vI 10] [] (.v (vB (within z4 z4 10))) []) ∧ ((!(within z4 z4 10)) = false) ∧ (varLen u ≤ 9223372036854775807) ∧ (((1 : Nat) : Int) * z4 ≤ 281474976710656) ∧ (varLen u ≤ varLen u) ∧ ((0 : Int) ≤ varLen u) ∧ ((.v (vI (z6.length : Int)) : S) = .v (vI z4)) ∧ z7.Has [(0, .v (.c (.int .u64 u))), (1, .v (vI z4)), (5, .v (vO 0)), (15, .v (vI z4)), (16, .v (vI 0))] [.lst .u8 z6] ∧ ∀ q1, z7.inv q1 → (let z2 := (q1.v : Int); let z3 := (q1.out.length : Int); ((decide (z2 < varLen u)) = true → ((.v (.c (.int .u64 (IntKind.u64.wrap (((BitVec.ofInt 64 q1.u &&& BitVec.ofInt 64 127).toNat : Nat))))) : S) = .v (.c (.int .u64 (q1.u % 128)))) ∧ ((.v (.c (.int .u64 (IntKind.u64.wrap (((BitVec.ofInt 64 (q1.u % 128) ||| BitVec.ofInt 64 128).toNat : Nat))))) : S) = .v (.c (.int .u64 ((q1.u % 128) + 128)))) ∧ ((.v (.c (.int .u8 (IntKind.u8.wrap ((q1.u % 128) + 128)))) : S) = .v (.c (.int .u8 (q1.u % 128 + 128)))) ∧ (∃ (x1 : Int), q1.out[q1.v]? = some x1) ∧ ∀ (x1 : Int), (q1.out[q1.v]? = some x1) → ((z2 < z3) ∧ ((0 : Int) ≤ z2) ∧ (q1.out[q1.v]? = some x1) ∧ ((0 : Int) ≤ 7) ∧ ((.v (.c (.int .u64 (Int.fdiv q1.u (2 ^ 7)))) : S) = .v (.c (.int .u64 (q1.u / 128)))) ∧ ((.v (vI (IntKind.i64.wrap (z2 + 1))) : S) = .v (vI (z2 + 1))) ∧ z7.Nxt q1 [(0, .v (.c (.int .u64 (q1.u / 128)))), (1, .v (vI z4)), (5, .v (vO 0)), (15, .v (vI z4)), (16, .v (vI (z2 + 1)))] [.lst .u8 (List.set q1.out q1.v (q1.u % 128 + 128))])) ∧ ((decide (z2 < varLen u)) = false → ((.v (vI (IntKind.i64.wrap (z4 - 1))) : S) = .v (vI z5)) ∧ (∃ (x1 : Int), q1.out[z5.toNat]? = some x1) ∧ ∀ (x1 : Int), (q1.out[z5.toNat]? = some x1) → (let z1 := q1.out[z5.toNat]? = some x1; (varLen u - 1 < z3) ∧ ((0 : Int) ≤ varLen u - 1) ∧ z1 ∧ ((.v (.c (.int .u8 (IntKind.u8.wrap (((BitVec.ofInt 8 x1 &&& BitVec.ofInt 8 127).toNat : Nat))))) : S) = .v (.c (.int .u8 (x1 % 128)))) ∧ (varLen u - 1 < z3) ∧ ((0 : Int) ≤ varLen u - 1) ∧ z1 ∧ (.v (vT (List.map toByte (List.set q1.out (z5.toNat) (x1 % 128)))) : S) = .v (vT (putVar u)) ∧ ([] : List Blk) = []))))) (by kernel_rfl) ?_
  refine ⟨(varLen_i _ (by omega)), (within_i _ _ _), (by simp [within]; omega), (by omega), (by omega), (by omega), (by omega), (as_int (by rw [List.length_replicate]; omega)), has_of (j := (⟨u, List.replicate (Int.toNat (varLen u)) (0 : Int), 0⟩ : padVar_i_V0)) (by first | rfl | simp) rfl (by dsimp only [padVar_i_F0]; exact ⟨by omega, by unfold varLen; simp, by simp, by simp; omega⟩), fun (q1 : padVar_i_V0) hq_q1 => ?_⟩
  have hi_q1 : q1.v ≤ (List.length (putVar u)) ∧ q1.out.length = (List.length (putVar u)) ∧ List.take q1.v q1.out = List.take q1.v (padL (u.toNat) (List.length (putVar u))) ∧ q1.u = ((u.toNat / 128 ^ q1.v : Nat) : Int) := hq_q1
  obtain ⟨v1, v2, v3, v4⟩ := hi_q1
  have hb := varLen_b (u := u) (by omega)
  have hu0 : (0 : Int) ≤ q1.u := by rw [v4]; exact Int.natCast_nonneg _
  have hu1 : q1.u ≤ 18446744073709551615 := by rw [v4]; have := Nat.div_le_self (u.toNat) (128 ^ q1.v); omega
  refine ⟨fun h1 => have p1 := of_decide_eq_true h1; ?_, fun h1 => have p1 := of_decide_eq_false h1; ?_⟩
  refine ⟨(as_mask_u64 (k := 7) (by decide) (by decide)), (or_128 (by omega) (by omega)), (as_u8 (by omega) (by omega)), (ax_get (l := q1.out) (i := q1.v) (by omega)), fun x1 hx1 => ?_⟩
  exact ⟨(by omega), (by omega), hx1, (by decide), (as_shr (k := 7) (by decide) (by decide)), (as_i64 (by omega) (by omega)), nxt_of (j := (⟨q1.u / 128, List.set q1.out q1.v (q1.u % 128 + 128), q1.v + 1⟩ : padVar_i_V0)) (by first | rfl | simp) rfl (by dsimp only [padVar_i_F0]; exact ⟨by omega, by simp [v2], fill_set v3 (by rw [v2, padL_len]) (by rw [padL_get (by omega), v4]; simp <;> omega), by rw [v4, padU_step]⟩) (by dsimp only [padVar_i_F0]; omega)⟩
  refine ⟨(as_i64 (by omega) (by omega)), (ax_get (l := q1.out) (i := Int.toNat (varLen u - 1)) (by omega)), fun x1 hx1 => ?_⟩
  refine ⟨(by omega), (by omega), ?_⟩
  have hq := fill_done v3 (by rw [v2, padL_len]) (by rw [padL_len]; omega)
  have hxe := hx1
  rw [hq, padL_get (by omega)] at hxe
  have hxe := Option.some.inj hxe
  have hxb : 0 ≤ x1 ∧ x1 ≤ 255 := by rw [← hxe]; omega
  refine ⟨hx1, (mask_u8 (by omega) (by omega)), (by omega), (by omega), hx1, (congrArg S.v (congrArg V.c (congrArg C.str ?_))), rfl⟩
  rotate_left
  all_goals rw [hq] at hx1 ⊢; rw [show Int.toNat (varLen u - 1) = List.length (putVar u) - 1 by omega] at hx1 ⊢; exact padL_fix rfl hx1
theorem putVar_i (u : Int) (hp1 : (0 : Int) ≤ u ∧ u ≤ 18446744073709551615) : Fun Tryz.prog 180 [.c (.int .u64 u)] [] (.v (vT (putVar u))) [] := by
  have hN : bigN = 274877906944 := rfl
  refine fun_ofw Tryz.func180 (by kernel_rfl) (by kernel_rfl) (w := let z1 := vT (putVar u); (.seg [.call [] (.v (vI (varLen u))) [], .call [] (.v z1) []] (.leaf () []), (Fun Tryz.prog 205 [.c (.int .u64 u)] [] (.v (vI (varLen u))) []) ∧ (Fun Tryz.prog 204 [.c (.int .u64 u), vI (varLen u)] [] (.v z1) []) ∧ (.v z1 : S) = .v z1 ∧ ([] : List Blk) = [])) (by kernel_rfl) ?_
  exact ⟨(varLen_i _ (by omega)), (padVar_i _ (by omega)), rfl, rfl⟩
end Go.Proofs.YthmhekbmhpljcaaGreat.Ax
