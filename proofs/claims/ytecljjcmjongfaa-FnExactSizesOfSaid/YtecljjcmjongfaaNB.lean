/- Varints. -/
import Derived.Test.YtecljjcmjongfaaNA
namespace Go.Proofs.Ytecljjcmjongfaa.Ax
open Go.RowKit
set_option linter.unusedSimpArgs false
set_option linter.unusedVariables false
structure putVar_s_V0 where
  u : Int
  out : List Int
def putVar_s_F0 (u : Int) : Fam := ⟨putVar_s_V0, fun q1 => [(0, .v (.c (.int .u64 q1.u))), (3, .v (vO 0))], fun q1 => [.lst .u8 q1.out], fun q1 => (0 : Int) ≤ q1.u ∧ q1.u ≤ 18446744073709551615 ∧ List.map toByte q1.out ++ putVar q1.u = putVar u ∧ q1.out.length + List.length (putVar q1.u) ≤ 10, fun q1 => q1.u.toNat⟩

theorem putVar_s (u : Int) (hp1 : (0 : Int) ≤ u ∧ u ≤ 18446744073709551615) : Fun Try.prog 167 [.c (.int .u64 u)] [] (.v (vT (putVar u))) [] := by
  have hN : bigN = 274877906944 := rfl
  refine fun_ofw Try.func167 (by kernel_rfl) (by kernel_rfl) (w := let z2 := putVar_s_F0 u; (.seg [.ty .u8, .at 0, .keep [0, 3], .sel [0]] (.loop z2 fun q1 => .br (.seg [.as 9 (.v (.c (.int .u64 (q1.u % 128)))), .as 10 (.v (.c (.int .u64 (q1.u % 128 + 128)))), .as 11 (.v (.c (.int .u8 (q1.u % 128 + 128)))), .ty .u8, .ty .u8, .as 15 (.v (.c (.int .u64 (q1.u / 128)))), .at 0, .keep [0, 3], .sel [2]] (.next)) (.seg [.as 18 (.v (.c (.int .u8 q1.u))), .ty .u8, .ty .u8] (.leaf () []))), z2.Has [(0, .v (.c (.int .u64 u))), (3, .v (vO 0))] [.lst .u8 ([] : List Int)] ∧ ∀ q1, z2.inv q1 → (let z1 := q1.u % 128 + 128; ((decide (127 < q1.u)) = true → ((128 : Int) ≠ 0) ∧ ((.v (.c (.int .u64 (Int.tmod q1.u 128))) : S) = .v (.c (.int .u64 (q1.u % 128)))) ∧ ((.v (.c (.int .u64 (IntKind.u64.wrap ((q1.u % 128) + 128)))) : S) = .v (.c (.int .u64 z1))) ∧ ((.v (.c (.int .u8 (IntKind.u8.wrap z1))) : S) = .v (.c (.int .u8 z1))) ∧ (q1.out.length + List.length [q1.u % 128 + 128] ≤ bigN) ∧ ((128 : Int) ≠ 0) ∧ ((.v (.c (.int .u64 (IntKind.u64.wrap (Int.tdiv q1.u 128)))) : S) = .v (.c (.int .u64 (q1.u / 128)))) ∧ z2.Nxt q1 [(0, .v (.c (.int .u64 (q1.u / 128)))), (3, .v (vO 0))] [.lst .u8 (q1.out ++ [q1.u % 128 + 128])]) ∧ ((decide (127 < q1.u)) = false → ((.v (.c (.int .u8 (IntKind.u8.wrap (q1.u)))) : S) = .v (.c (.int .u8 q1.u))) ∧ (q1.out.length + List.length [q1.u] ≤ bigN) ∧ (.v (vT (List.map toByte (q1.out ++ [q1.u]))) : S) = .v (vT (putVar u)) ∧ ([] : List Blk) = [])))) (by kernel_rfl) ?_
  refine ⟨has_of (j := (⟨u, ([] : List Int)⟩ : putVar_s_V0)) rfl rfl (by dsimp only [putVar_s_F0]; exact ⟨by omega, by omega, by simp, by have := varLen_b (u := u) (by omega); unfold varLen at this; simp; omega⟩), fun (q1 : putVar_s_V0) hq_q1 => ?_⟩
  have hi_q1 : (0 : Int) ≤ q1.u ∧ q1.u ≤ 18446744073709551615 ∧ List.map toByte q1.out ++ putVar q1.u = putVar u ∧ q1.out.length + List.length (putVar q1.u) ≤ 10 := hq_q1
  obtain ⟨v1, v2, v3, v4⟩ := hi_q1
  refine ⟨fun h1 => have p1 := of_decide_eq_true h1; ?_, fun h1 => have p1 := of_decide_eq_false h1; ?_⟩
  exact ⟨(by decide), (as_tmod (by omega)), (as_u64 (by omega) (by omega)), (as_u8 (by omega) (by omega)), (by have := putVar_pos q1.u; simp; omega), (by decide), (as_tdiv_u64 (by omega) (by omega) (by decide)), nxt_of (j := (⟨q1.u / 128, q1.out ++ [q1.u % 128 + 128]⟩ : putVar_s_V0)) rfl rfl (by dsimp only [putVar_s_F0]; exact ⟨by omega, by omega, by rw [← v3, putVar_big (u := q1.u) (by omega) (by omega)]; simp [toByte], by rw [putVar_big (u := q1.u) (by omega) (by omega)] at v4; simp at v4 ⊢; omega⟩) (by dsimp only [putVar_s_F0]; omega)⟩
  refine ⟨(as_u8 (by omega) (by omega)), (by have := putVar_pos q1.u; simp; omega), (congrArg S.v (congrArg V.c (congrArg C.str ?_))), rfl⟩
  rotate_left
  all_goals rw [← v3, putVar_small (u := q1.u) (by omega) (by omega)]; simp [toByte]
structure varLen_i_V0 where
  u : Int
  n : Int
def varLen_i_F0 (u : Int) : Fam := ⟨varLen_i_V0, fun q1 => [(0, .v (.c (.int .u64 q1.u))), (3, .v (vI q1.n))], fun _ => [], fun q1 => (0 : Int) ≤ q1.u ∧ q1.u ≤ 18446744073709551615 ∧ ((List.length (putVar q1.u) : Nat) : Int) + q1.n = varLen u + 1 ∧ 1 ≤ q1.n, fun q1 => q1.u.toNat⟩

theorem varLen_i (u : Int) (hp1 : (0 : Int) ≤ u ∧ u ≤ 18446744073709551615) : Fun Try.prog 173 [.c (.int .u64 u)] [] (.v (vI (varLen u))) [] := by
  have hN : bigN = 274877906944 := rfl
  refine fun_ofw Try.func173 (by kernel_rfl) (by kernel_rfl) (w := let z1 := varLen_i_F0 u; (.seg [.at 0, .keep [0, 3], .sel []] (.loop z1 fun q1 => .br (.seg [.as 9 (.v (vI (q1.n + 1))), .as 7 (.v (.c (.int .u64 (q1.u / 128)))), .at 0, .keep [0, 3], .sel []] (.next)) (.leaf () [])), z1.Has [(0, .v (.c (.int .u64 u))), (3, .v (vI 1))] [] ∧ ∀ q1, z1.inv q1 → (((decide (127 < q1.u)) = true → ((.v (vI (IntKind.i64.wrap (q1.n + 1))) : S) = .v (vI (q1.n + 1))) ∧ ((0 : Int) ≤ 7) ∧ ((.v (.c (.int .u64 (Int.fdiv q1.u (2 ^ 7)))) : S) = .v (.c (.int .u64 (q1.u / 128)))) ∧ z1.Nxt q1 [(0, .v (.c (.int .u64 (q1.u / 128)))), (3, .v (vI (q1.n + 1)))] []) ∧ ((decide (127 < q1.u)) = false → (.v (vI q1.n) : S) = .v (vI (varLen u)) ∧ ([] : List Blk) = [])))) (by kernel_rfl) ?_
  refine ⟨has_of (j := (⟨u, 1⟩ : varLen_i_V0)) rfl rfl (by dsimp only [varLen_i_F0]; exact ⟨by omega, by omega, by unfold varLen; omega, by omega⟩), fun (q1 : varLen_i_V0) hq_q1 => ?_⟩
  have hi_q1 : (0 : Int) ≤ q1.u ∧ q1.u ≤ 18446744073709551615 ∧ ((List.length (putVar q1.u) : Nat) : Int) + q1.n = varLen u + 1 ∧ 1 ≤ q1.n := hq_q1
  obtain ⟨v1, v2, v3, v4⟩ := hi_q1
  have hb := varLen_b (u := u) (by omega)
  have hc := putVar_pos q1.u
  refine ⟨fun h1 => have p1 := of_decide_eq_true h1; ?_, fun h1 => have p1 := of_decide_eq_false h1; ?_⟩
  exact ⟨(as_i64 (by omega) (by omega)), (by decide), (as_shr (k := 7) (by decide) (by decide)), nxt_of (j := (⟨q1.u / 128, q1.n + 1⟩ : varLen_i_V0)) rfl rfl (by dsimp only [varLen_i_F0]; exact ⟨by omega, by omega, by rw [putVar_big (u := q1.u) (by omega) (by omega)] at v3; simp at v3 ⊢; omega, by omega⟩) (by dsimp only [varLen_i_F0]; omega)⟩
  refine ⟨(sI ?_), rfl⟩
  rotate_left
  all_goals rw [putVar_small (u := q1.u) (by omega) (by omega)] at v3; simp at v3; omega
structure padVar_i_V0 where
  u : Int
  out : List Int
  v : Nat
def padVar_i_F0 (u : Int) : Fam := ⟨padVar_i_V0, fun q1 => [(0, .v (.c (.int .u64 q1.u))), (1, .v (vI (varLen u))), (5, .v (vO 0)), (15, .v (vI (varLen u))), (16, .v (vI (q1.v : Int)))], fun q1 => [.lst .u8 q1.out], fun q1 => q1.v ≤ (List.length (putVar u)) ∧ q1.out.length = (List.length (putVar u)) ∧ List.take q1.v q1.out = List.take q1.v (padL (u.toNat) (List.length (putVar u))) ∧ q1.u = ((u.toNat / 128 ^ q1.v : Nat) : Int), fun q1 => (List.length (putVar u)) - q1.v⟩

theorem padVar_i (u : Int) (hp1 : (0 : Int) ≤ u ∧ u ≤ 18446744073709551615) : Fun Try.prog 172 [.c (.int .u64 u), vI (varLen u)] [] (.v (vT (putVar u))) [] := by
  have hN : bigN = 274877906944 := rfl
  have hb := varLen_b (u := u) (by omega)
  have hl : varLen u = (((putVar u).length : Nat) : Int) := rfl
  refine fun_ofw Try.func172 (by kernel_rfl) (by kernel_rfl) (w := let z4 := varLen u; let z5 := varLen u - 1; let z6 := List.replicate (z4.toNat) (0 : Int); let z7 := padVar_i_F0 u; (.seg [.call [] (.v (vI z4)) [], .call [] (.v (vB (within z4 z4 10))) [], .br false, .ty .u8, .as 15 (.v (vI z4)), .at 0, .keep [0, 1, 5, 15, 16], .sel [0]] (.loop z7 fun q1 => .br (.seg [.as 22 (.v (.c (.int .u64 (q1.u % 128)))), .as 23 (.v (.c (.int .u64 ((q1.u % 128) + 128)))), .as 24 (.v (.c (.int .u8 (q1.u % 128 + 128))))] (.intro (fun (x1 : Int) => q1.out[q1.v]? = some x1) fun x1 => .seg [.el .u8 x1, .as 27 (.v (.c (.int .u64 (q1.u / 128)))), .as 28 (.v (vI ((q1.v : Int) + 1))), .at 0, .keep [0, 1, 5, 15, 16], .sel [0]] (.next))) (.seg [.as 31 (.v (vI z5))] (.intro (fun (x1 : Int) => q1.out[z5.toNat]? = some x1) fun x1 => .seg [.el .u8 x1, .as 34 (.v (.c (.int .u8 (x1 % 128)))), .el .u8 x1] (.leaf () [])))), (Fun Try.prog 173 [.c (.int .u64 u)] [] (.v (vI z4)) []) ∧ (Fun Try.prog 49 [vI z4, vI z4, vI 10] [] (.v (vB (within z4 z4 10))) []) ∧ ((!(within z4 z4 10)) = false) ∧ (varLen u ≤ 9223372036854775807) ∧ (((1 : Nat) : Int) * z4 ≤ 281474976710656) ∧ (varLen u ≤ varLen u) ∧ ((0 : Int) ≤ varLen u) ∧ ((.v (vI (z6.length : Int)) : S) = .v (vI z4)) ∧ z7.Has [(0, .v (.c (.int .u64 u))), (1, .v (vI z4)), (5, .v (vO 0)), (15, .v (vI z4)), (16, .v (vI 0))] [.lst .u8 z6] ∧ ∀ q1, z7.inv q1 → (let z2 := (q1.v : Int); let z3 := (q1.out.length : Int); ((decide (z2 < varLen u)) = true → ((.v (.c (.int .u64 (IntKind.u64.wrap (((BitVec.ofInt 64 q1.u &&& BitVec.ofInt 64 127).toNat : Nat))))) : S) = .v (.c (.int .u64 (q1.u % 128)))) ∧ ((.v (.c (.int .u64 (IntKind.u64.wrap (((BitVec.ofInt 64 (q1.u % 128) ||| BitVec.ofInt 64 128).toNat : Nat))))) : S) = .v (.c (.int .u64 ((q1.u % 128) + 128)))) ∧ ((.v (.c (.int .u8 (IntKind.u8.wrap ((q1.u % 128) + 128)))) : S) = .v (.c (.int .u8 (q1.u % 128 + 128)))) ∧ (∃ (x1 : Int), q1.out[q1.v]? = some x1) ∧ ∀ (x1 : Int), (q1.out[q1.v]? = some x1) → ((z2 < z3) ∧ ((0 : Int) ≤ z2) ∧ (q1.out[q1.v]? = some x1) ∧ ((0 : Int) ≤ 7) ∧ ((.v (.c (.int .u64 (Int.fdiv q1.u (2 ^ 7)))) : S) = .v (.c (.int .u64 (q1.u / 128)))) ∧ ((.v (vI (IntKind.i64.wrap (z2 + 1))) : S) = .v (vI (z2 + 1))) ∧ z7.Nxt q1 [(0, .v (.c (.int .u64 (q1.u / 128)))), (1, .v (vI z4)), (5, .v (vO 0)), (15, .v (vI z4)), (16, .v (vI (z2 + 1)))] [.lst .u8 (List.set q1.out q1.v (q1.u % 128 + 128))])) ∧ ((decide (z2 < varLen u)) = false → ((.v (vI (IntKind.i64.wrap (z4 - 1))) : S) = .v (vI z5)) ∧ (∃ (x1 : Int), q1.out[z5.toNat]? = some x1) ∧ ∀ (x1 : Int), (q1.out[z5.toNat]? = some x1) → (let z1 := q1.out[z5.toNat]? = some x1; (varLen u - 1 < z3) ∧ ((0 : Int) ≤ varLen u - 1) ∧ z1 ∧ ((.v (.c (.int .u8 (IntKind.u8.wrap (((BitVec.ofInt 8 x1 &&& BitVec.ofInt 8 127).toNat : Nat))))) : S) = .v (.c (.int .u8 (x1 % 128)))) ∧ (varLen u - 1 < z3) ∧ ((0 : Int) ≤ varLen u - 1) ∧ z1 ∧ (.v (vT (List.map toByte (List.set q1.out (z5.toNat) (x1 % 128)))) : S) = .v (vT (putVar u)) ∧ ([] : List Blk) = []))))) (by kernel_rfl) ?_
  refine ⟨(varLen_i _ (by omega)), (within_i _ _ _), (by simp [within]; omega), (by omega), (by omega), (by omega), (by omega), (as_int (by rw [List.length_replicate]; omega)), has_of (j := (⟨u, List.replicate (Int.toNat (varLen u)) (0 : Int), 0⟩ : padVar_i_V0)) (by first | rfl | simp) rfl (by dsimp only [padVar_i_F0]; exact ⟨by omega, by unfold varLen; simp, by simp, by simp; omega⟩), fun (q1 : padVar_i_V0) hq_q1 => ?_⟩
  have hi_q1 : q1.v ≤ (List.length (putVar u)) ∧ q1.out.length = (List.length (putVar u)) ∧ List.take q1.v q1.out = List.take q1.v (padL (u.toNat) (List.length (putVar u))) ∧ q1.u = ((u.toNat / 128 ^ q1.v : Nat) : Int) := hq_q1
  obtain ⟨v1, v2, v3, v4⟩ := hi_q1
  have hb := varLen_b (u := u) (by omega)
  have hu0 : (0 : Int) ≤ q1.u := by rw [v4]; exact Int.natCast_nonneg _
  have hu1 : q1.u ≤ 18446744073709551615 := by rw [v4]; have := Nat.div_le_self (u.toNat) (128 ^ q1.v); omega
  refine ⟨fun h1 => have p1 := of_decide_eq_true h1; ?_, fun h1 => have p1 := of_decide_eq_false h1; ?_⟩
  refine ⟨(as_mask_u64 (k := 7) (by decide) (by decide)), (or_128 (by omega) (by omega)), (as_u8 (by omega) (by omega)), (ax_get (l := q1.out) (i := q1.v) (by omega)), fun x1 hx1 => ?_⟩
  exact ⟨(by omega), (by omega), hx1, (by decide), (as_shr (k := 7) (by decide) (by decide)), (as_i64 (by omega) (by omega)), nxt_of (j := (⟨q1.u / 128, List.set q1.out q1.v (q1.u % 128 + 128), q1.v + 1⟩ : padVar_i_V0)) (by first | rfl | simp) rfl (by dsimp only [padVar_i_F0]; exact ⟨by omega, by simp [v2], fill_set v3 (by rw [v2, padL_len]) (by rw [padL_get (by omega), v4]; simp <;> omega), by rw [v4, padU_step]⟩) (by dsimp only [padVar_i_F0]; omega)⟩
  refine ⟨(as_i64 (by omega) (by omega)), (ax_get (l := q1.out) (i := Int.toNat (varLen u - 1)) (by omega)), fun x1 hx1 => ?_⟩
  refine ⟨(by omega), (by omega), ?_⟩
  have hq := fill_done v3 (by rw [v2, padL_len]) (by rw [padL_len]; omega)
  have hxe := hx1
  rw [hq, padL_get (by omega)] at hxe
  have hxe := Option.some.inj hxe
  have hxb : 0 ≤ x1 ∧ x1 ≤ 255 := by rw [← hxe]; omega
  refine ⟨hx1, (mask_u8 (by omega) (by omega)), (by omega), (by omega), hx1, (congrArg S.v (congrArg V.c (congrArg C.str ?_))), rfl⟩
  rotate_left
  all_goals rw [hq] at hx1 ⊢; rw [show Int.toNat (varLen u - 1) = List.length (putVar u) - 1 by omega] at hx1 ⊢; exact padL_fix rfl hx1
theorem putVar_i (u : Int) (hp1 : (0 : Int) ≤ u ∧ u ≤ 18446744073709551615) : Fun Try.prog 147 [.c (.int .u64 u)] [] (.v (vT (putVar u))) [] := by
  have hN : bigN = 274877906944 := rfl
  refine fun_ofw Try.func147 (by kernel_rfl) (by kernel_rfl) (w := let z1 := vT (putVar u); (.seg [.call [] (.v (vI (varLen u))) [], .call [] (.v z1) []] (.leaf () []), (Fun Try.prog 173 [.c (.int .u64 u)] [] (.v (vI (varLen u))) []) ∧ (Fun Try.prog 172 [.c (.int .u64 u), vI (varLen u)] [] (.v z1) []) ∧ (.v z1 : S) = .v z1 ∧ ([] : List Blk) = [])) (by kernel_rfl) ?_
  exact ⟨(varLen_i _ (by omega)), (padVar_i _ (by omega)), rfl, rfl⟩
structure varWithin_i_V0 where
  u : Int
  k : Nat
def varWithin_i_F0 (s : List UInt8) (at_ : Int) (end_ : Int) : Fam := ⟨varWithin_i_V0, fun q1 => [(0, .v (vT s)), (1, .v (vI at_)), (2, .v (vI end_)), (9, .v (.c (.int .u64 q1.u))), (10, .v (vI (q1.k : Int)))], fun _ => [], fun q1 => q1.k ≤ 9 ∧ (0 : Int) ≤ q1.u ∧ q1.u < 2 ^ (7 * q1.k) ∧ vwA s at_ end_ (10 - q1.k) (((q1.k : Nat)) : Int) q1.u = varWithin s at_ end_, fun q1 => 10 - q1.k⟩

theorem varWithin_i (s : List UInt8) (at_ : Int) (end_ : Int) (hp1 : s.length ≤ bigN) : Fun Try.prog 119 [vT s, vI at_, vI end_] [] (.tup [.c (.int .u64 (varWithin s at_ end_).1), vI (varWithin s at_ end_).2.1, vI (varWithin s at_ end_).2.2]) [] := by
  have hN : bigN = 274877906944 := rfl
  refine fun_ofw Try.func119 (by kernel_rfl) (by kernel_rfl) (w := let z9 := varWithin s at_ end_; let z10 := (s.length : Int); let z11 := varWithin_i_F0 s at_ end_; let z12 := ([] : List Blk); let z13 := within at_ 0 z10; let z14 := (.tup [.c (.int .u64 0), vI z10, vI 10] : S); (.seg [.call [] (.v (vB z13)) []] (.br (.leaf () []) (.seg [.at 0, .keep [0, 1, 2, 9, 10], .sel []] (.loop z11 fun q1 => let z6 := (q1.k : Int); .seg [.as 24 (.v (vI (at_ + z6)))] (.br (.leaf () []) (.seg [.as 31 (.v (vI (at_ + z6)))] (.br (.leaf () []) (.br (.seg [.as 44 (.v (vI (at_ + z6)))] (.intro (fun (x1 : UInt8) => s[Int.toNat (at_ + z6)]? = some x1) fun x1 => let z1 := ((UInt8.toNat x1 : Nat) : Int) % 128; .seg [.ch x1] (.br (.seg [.as 50 (.v (vI (at_ + z6)))] (.leaf () [])) (.seg [.as 54 (.v (vI (at_ + z6))), .ch x1, .as 58 (.v (.c (.int .u8 z1))), .as 59 (.v (.c (.int .u64 z1))), .as 61 (.v (vI (7 * z6))), .as 62 (.v (.c (.int .u64 (7 * z6)))), .as 63 (.v (.c (.int .u64 (z1 * 2 ^ (7 * q1.k))))), .as 64 (.v (.c (.int .u64 (q1.u + z1 * 2 ^ (7 * q1.k)))))] (.br (.seg [.as 70 (.v (vI (at_ + z6))), .as 71 (.v (vI (at_ + z6 + 1)))] (.leaf () [])) (.seg [.as 20 (.v (vI (z6 + 1))), .at 0, .keep [0, 1, 2, 9, 10], .sel []] (.next))))))) (.seg [.as 54 (.v (vI (at_ + z6)))] (.intro (fun (x1 : UInt8) => s[Int.toNat (at_ + z6)]? = some x1) fun x1 => let z4 := ((UInt8.toNat x1 : Nat) : Int) % 128; .seg [.ch x1, .as 58 (.v (.c (.int .u8 z4))), .as 59 (.v (.c (.int .u64 z4))), .as 61 (.v (vI (7 * z6))), .as 62 (.v (.c (.int .u64 (7 * z6)))), .as 63 (.v (.c (.int .u64 (z4 * 2 ^ (7 * q1.k))))), .as 64 (.v (.c (.int .u64 (q1.u + z4 * 2 ^ (7 * q1.k)))))] (.br (.seg [.as 70 (.v (vI (at_ + z6))), .as 71 (.v (vI (at_ + z6 + 1)))] (.leaf () [])) (.seg [.as 20 (.v (vI (z6 + 1))), .at 0, .keep [0, 1, 2, 9, 10], .sel []] (.next)))))))))))), (Fun Try.prog 49 [vI at_, vI 0, vI z10] [] (.v (vB z13)) []) ∧ ((!z13) = true → z14 = .tup [.c (.int .u64 z9.1), vI z9.2.1, vI z9.2.2] ∧ z12 = []) ∧ ((!z13) = false → z11.Has [(0, .v (vT s)), (1, .v (vI at_)), (2, .v (vI end_)), (9, .v (.c (.int .u64 0))), (10, .v (vI 0))] [] ∧ ∀ q1, z11.inv q1 → (let z7 := (q1.k : Int); let z8 := 7 * q1.k; ((.v (vI (IntKind.i64.wrap (at_ + z7))) : S) = .v (vI (at_ + z7))) ∧ ((decide (end_ ≤ at_ + z7)) = true → (.tup [.c (.int .u64 0), vI end_, vI 9] : S) = .tup [.c (.int .u64 z9.1), vI z9.2.1, vI z9.2.2] ∧ z12 = []) ∧ ((decide (end_ ≤ at_ + z7)) = false → ((.v (vI (IntKind.i64.wrap (at_ + z7))) : S) = .v (vI (at_ + z7))) ∧ ((decide (z10 ≤ at_ + z7)) = true → z14 = .tup [.c (.int .u64 z9.1), vI z9.2.1, vI z9.2.2] ∧ z12 = []) ∧ ((decide (z10 ≤ at_ + z7)) = false → ((decide (z7 = 9)) = true → ((.v (vI (IntKind.i64.wrap (at_ + z7))) : S) = .v (vI (at_ + z7))) ∧ (∃ (x1 : UInt8), s[Int.toNat (at_ + z7)]? = some x1) ∧ ∀ (x1 : UInt8), (s[Int.toNat (at_ + z7)]? = some x1) → (let z2 := ((UInt8.toNat x1 : Nat) : Int); let z3 := s[Int.toNat (at_ + z7)]? = some x1; z3 ∧ ((0 : Int) ≤ at_ + z7) ∧ ((decide (1 < z2)) = true → ((.v (vI (IntKind.i64.wrap (at_ + z7))) : S) = .v (vI (at_ + z7))) ∧ (.tup [.c (.int .u64 0), vI (at_ + z7), vI 1] : S) = .tup [.c (.int .u64 z9.1), vI z9.2.1, vI z9.2.2] ∧ z12 = []) ∧ ((decide (1 < z2)) = false → ((.v (vI (IntKind.i64.wrap (at_ + z7))) : S) = .v (vI (at_ + z7))) ∧ z3 ∧ ((0 : Int) ≤ at_ + z7) ∧ ((.v (.c (.int .u8 (IntKind.u8.wrap (((BitVec.ofInt 8 z2 &&& BitVec.ofInt 8 127).toNat : Nat))))) : S) = .v (.c (.int .u8 (z2 % 128)))) ∧ ((.v (.c (.int .u64 (IntKind.u64.wrap (z2 % 128)))) : S) = .v (.c (.int .u64 (z2 % 128)))) ∧ ((.v (vI (IntKind.i64.wrap (7 * z7))) : S) = .v (vI (7 * z7))) ∧ ((.v (.c (.int .u64 (IntKind.u64.wrap (7 * z7)))) : S) = .v (.c (.int .u64 (7 * z7)))) ∧ ((0 : Int) ≤ 7 * z7) ∧ ((.v (.c (.int .u64 (IntKind.u64.wrap ((z2 % 128) * 2 ^ min (Int.toNat (7 * z7)) 64)))) : S) = .v (.c (.int .u64 ((z2 % 128) * 2 ^ z8)))) ∧ ((.v (.c (.int .u64 (IntKind.u64.wrap (((BitVec.ofInt 64 q1.u ||| BitVec.ofInt 64 ((z2 % 128) * 2 ^ z8)).toNat : Nat))))) : S) = .v (.c (.int .u64 (q1.u + (z2 % 128) * 2 ^ z8)))) ∧ ((decide (z2 < 128)) = true → ((.v (vI (IntKind.i64.wrap (at_ + z7))) : S) = .v (vI (at_ + z7))) ∧ ((.v (vI (IntKind.i64.wrap ((at_ + z7) + 1))) : S) = .v (vI (at_ + z7 + 1))) ∧ (.tup [.c (.int .u64 (q1.u + (z2 % 128) * 2 ^ z8)), vI (at_ + z7 + 1), vI 0] : S) = .tup [.c (.int .u64 z9.1), vI z9.2.1, vI z9.2.2] ∧ z12 = []) ∧ ((decide (z2 < 128)) = false → ((.v (vI (IntKind.i64.wrap (z7 + 1))) : S) = .v (vI (z7 + 1))) ∧ z11.Nxt q1 [(0, .v (vT s)), (1, .v (vI at_)), (2, .v (vI end_)), (9, .v (.c (.int .u64 (q1.u + (z2 % 128) * 2 ^ z8)))), (10, .v (vI (z7 + 1)))] [])))) ∧ ((decide (z7 = 9)) = false → ((.v (vI (IntKind.i64.wrap (at_ + z7))) : S) = .v (vI (at_ + z7))) ∧ (∃ (x1 : UInt8), s[Int.toNat (at_ + z7)]? = some x1) ∧ ∀ (x1 : UInt8), (s[Int.toNat (at_ + z7)]? = some x1) → (let z5 := ((UInt8.toNat x1 : Nat) : Int); (s[Int.toNat (at_ + z7)]? = some x1) ∧ ((0 : Int) ≤ at_ + z7) ∧ ((.v (.c (.int .u8 (IntKind.u8.wrap (((BitVec.ofInt 8 z5 &&& BitVec.ofInt 8 127).toNat : Nat))))) : S) = .v (.c (.int .u8 (z5 % 128)))) ∧ ((.v (.c (.int .u64 (IntKind.u64.wrap (z5 % 128)))) : S) = .v (.c (.int .u64 (z5 % 128)))) ∧ ((.v (vI (IntKind.i64.wrap (7 * z7))) : S) = .v (vI (7 * z7))) ∧ ((.v (.c (.int .u64 (IntKind.u64.wrap (7 * z7)))) : S) = .v (.c (.int .u64 (7 * z7)))) ∧ ((0 : Int) ≤ 7 * z7) ∧ ((.v (.c (.int .u64 (IntKind.u64.wrap ((z5 % 128) * 2 ^ min (Int.toNat (7 * z7)) 64)))) : S) = .v (.c (.int .u64 ((z5 % 128) * 2 ^ z8)))) ∧ ((.v (.c (.int .u64 (IntKind.u64.wrap (((BitVec.ofInt 64 q1.u ||| BitVec.ofInt 64 ((z5 % 128) * 2 ^ z8)).toNat : Nat))))) : S) = .v (.c (.int .u64 (q1.u + (z5 % 128) * 2 ^ z8)))) ∧ ((decide (z5 < 128)) = true → ((.v (vI (IntKind.i64.wrap (at_ + z7))) : S) = .v (vI (at_ + z7))) ∧ ((.v (vI (IntKind.i64.wrap ((at_ + z7) + 1))) : S) = .v (vI (at_ + z7 + 1))) ∧ (.tup [.c (.int .u64 (q1.u + (z5 % 128) * 2 ^ z8)), vI (at_ + z7 + 1), vI 0] : S) = .tup [.c (.int .u64 z9.1), vI z9.2.1, vI z9.2.2] ∧ z12 = []) ∧ ((decide (z5 < 128)) = false → ((.v (vI (IntKind.i64.wrap (z7 + 1))) : S) = .v (vI (z7 + 1))) ∧ z11.Nxt q1 [(0, .v (vT s)), (1, .v (vI at_)), (2, .v (vI end_)), (9, .v (.c (.int .u64 (q1.u + (z5 % 128) * 2 ^ z8)))), (10, .v (vI (z7 + 1)))] []))))))))) (by kernel_rfl) ?_
  refine ⟨(within_i _ _ _), fun h1 => have q1 := bnot_t h1; have p1 := within_f q1; ?_, fun h1 => have q1 := bnot_f h1; have p1 := within_t q1; ?_⟩
  refine ⟨(congrArg S.tup (consE (congrArg V.c (congrArg (C.int .u64) ?_)) (consE (congrArg V.c (congrArg (C.int .i64) ?_)) (consE (congrArg V.c (congrArg (C.int .i64) ?_)) rfl)))), rfl⟩
  rotate_left 3
  have hw : within at_ 0 (s.length : Int) = true := by simpa using h1
  refine ⟨has_of (j := (⟨0, 0⟩ : varWithin_i_V0)) (by first | rfl | simp) rfl (by dsimp only [varWithin_i_F0]; exact ⟨by omega, by omega, by decide, by simp [varWithin, hw]⟩), fun (q1 : varWithin_i_V0) hq_q1 => ?_⟩
  have hi_q1 : q1.k ≤ 9 ∧ (0 : Int) ≤ q1.u ∧ q1.u < 2 ^ (7 * q1.k) ∧ vwA s at_ end_ (10 - q1.k) (((q1.k : Nat)) : Int) q1.u = varWithin s at_ end_ := hq_q1
  obtain ⟨v1, v2, v3, v4⟩ := hi_q1
  obtain ⟨f, hf⟩ : ∃ f, 10 - q1.k = f + 1 := ⟨9 - q1.k, by omega⟩
  rw [hf, vwA] at v4
  have e7 : Int.toNat (7 * (q1.k : Int)) = 7 * q1.k := by omega
  refine ⟨(as_i64 (by omega) (by omega)), fun h2 => have p2 := of_decide_eq_true h2; ?_, fun h2 => have p2 := of_decide_eq_false h2; ?_⟩
  rw [if_pos p2] at v4
  refine ⟨(congrArg S.tup (consE (congrArg V.c (congrArg (C.int .u64) ?_)) (consE (congrArg V.c (congrArg (C.int .i64) ?_)) (consE (congrArg V.c (congrArg (C.int .i64) ?_)) rfl)))), rfl⟩
  rotate_left 3
  rw [if_neg p2] at v4
  refine ⟨(as_i64 (by omega) (by omega)), fun h3 => have p3 := of_decide_eq_true h3; ?_, fun h3 => have p3 := of_decide_eq_false h3; ?_⟩
  rw [if_pos p3] at v4
  refine ⟨(congrArg S.tup (consE (congrArg V.c (congrArg (C.int .u64) ?_)) (consE (congrArg V.c (congrArg (C.int .i64) ?_)) (consE (congrArg V.c (congrArg (C.int .i64) ?_)) rfl)))), rfl⟩
  rotate_left 3
  rw [if_neg p3] at v4
  refine ⟨fun h4 => have p4 := of_decide_eq_true h4; ?_, fun h4 => have p4 := of_decide_eq_false h4; ?_⟩
  refine ⟨(as_i64 (by omega) (by omega)), (ax_get (l := s) (i := Int.toNat (at_ + (q1.k : Int))) (by omega)), fun x1 hx1 => ?_⟩
  have hb_x1 := UInt8.toNat_lt x1
  have he := getD_of (d := 0) hx1
  have hv := fun h9 => vb_shl (c := (x1.toNat : Int) % 128) (k := q1.k) (by omega) (by omega) (by omega) h9
  refine ⟨hx1, (by omega), fun h5 => have p5 := of_decide_eq_true h5; ?_, fun h5 => have p5 := of_decide_eq_false h5; ?_⟩
  rw [if_pos ⟨by omega, by rw [he]; omega⟩] at v4
  refine ⟨(as_i64 (by omega) (by omega)), (congrArg S.tup (consE (congrArg V.c (congrArg (C.int .u64) ?_)) (consE (congrArg V.c (congrArg (C.int .i64) ?_)) (consE (congrArg V.c (congrArg (C.int .i64) ?_)) rfl)))), rfl⟩
  rotate_left 3
  rw [if_neg (by rw [he]; omega)] at v4
  refine ⟨(as_i64 (by omega) (by omega)), hx1, (by omega), (mask_u8 (by omega) (by omega)), (as_u64 (by omega) (by omega)), (as_i64 (by omega) (by omega)), (as_u64 (by omega) (by omega)), (by omega), (as_shl_vb (by omega) (by omega) (by omega) (by intro h; omega)), (as_or_vb (by omega) (by omega) (by omega) (by intro h; omega) (by omega) (by omega)), fun h6 => have p6 := of_decide_eq_true h6; ?_, fun h6 => have p6 := of_decide_eq_false h6; ?_⟩
  have hv := hv (by intro h; omega)
  rw [he, e7] at v4
  rw [if_pos p6] at v4
  refine ⟨(as_i64 (by omega) (by omega)), (as_i64 (by omega) (by omega)), (congrArg S.tup (consE (congrArg V.c (congrArg (C.int .u64) ?_)) (consE (congrArg V.c (congrArg (C.int .i64) ?_)) (consE (congrArg V.c (congrArg (C.int .i64) ?_)) rfl)))), rfl⟩
  rotate_left 3
  have hv := hv (by intro h; omega)
  rw [he, e7] at v4
  rw [if_neg p6] at v4
  exact ⟨(as_i64 (by omega) (by omega)), nxt_of (j := (⟨q1.u + (((UInt8.toNat x1 : Nat) : Int) % 128) * 2 ^ (7 * q1.k), q1.k + 1⟩ : varWithin_i_V0)) (by first | rfl | simp) rfl (by dsimp only [varWithin_i_F0]; exact ⟨by omega, by omega, by omega, by rw [show 10 - (q1.k + 1) = f by omega, show (((q1.k + 1) : Nat) : Int) = (q1.k : Int) + 1 by simp]; exact v4⟩) (by dsimp only [varWithin_i_F0]; omega)⟩
  rw [if_neg (by omega)] at v4
  refine ⟨(as_i64 (by omega) (by omega)), (ax_get (l := s) (i := Int.toNat (at_ + (q1.k : Int))) (by omega)), fun x1 hx1 => ?_⟩
  have hb_x1 := UInt8.toNat_lt x1
  have he := getD_of (d := 0) hx1
  have hv := fun h9 => vb_shl (c := (x1.toNat : Int) % 128) (k := q1.k) (by omega) (by omega) (by omega) h9
  refine ⟨hx1, (by omega), (mask_u8 (by omega) (by omega)), (as_u64 (by omega) (by omega)), (as_i64 (by omega) (by omega)), (as_u64 (by omega) (by omega)), (by omega), (as_shl_vb (by omega) (by omega) (by omega) (by intro h; omega)), (as_or_vb (by omega) (by omega) (by omega) (by intro h; omega) (by omega) (by omega)), fun h5 => have p5 := of_decide_eq_true h5; ?_, fun h5 => have p5 := of_decide_eq_false h5; ?_⟩
  have hv := hv (by intro h; omega)
  rw [he, e7] at v4
  rw [if_pos p5] at v4
  refine ⟨(as_i64 (by omega) (by omega)), (as_i64 (by omega) (by omega)), (congrArg S.tup (consE (congrArg V.c (congrArg (C.int .u64) ?_)) (consE (congrArg V.c (congrArg (C.int .i64) ?_)) (consE (congrArg V.c (congrArg (C.int .i64) ?_)) rfl)))), rfl⟩
  rotate_left 3
  have hv := hv (by intro h; omega)
  rw [he, e7] at v4
  rw [if_neg p5] at v4
  exact ⟨(as_i64 (by omega) (by omega)), nxt_of (j := (⟨q1.u + (((UInt8.toNat x1 : Nat) : Int) % 128) * 2 ^ (7 * q1.k), q1.k + 1⟩ : varWithin_i_V0)) (by first | rfl | simp) rfl (by dsimp only [varWithin_i_F0]; exact ⟨by omega, by omega, by omega, by rw [show 10 - (q1.k + 1) = f by omega, show (((q1.k + 1) : Nat) : Int) = (q1.k : Int) + 1 by simp]; exact v4⟩) (by dsimp only [varWithin_i_F0]; omega)⟩
  all_goals first | (rw [← v4]) | (simp [varWithin, *]; done)
structure varWithin_s_V0 where
  u : Int
  k : Nat
def varWithin_s_F0 (s : List UInt8) (at_ : Int) (end_ : Int) : Fam := ⟨varWithin_s_V0, fun q1 => [(0, .v (vT s)), (1, .v (vI at_)), (2, .v (vI end_)), (9, .v (.c (.int .u64 q1.u))), (10, .v (vI (q1.k : Int)))], fun _ => [], fun q1 => q1.k ≤ 9 ∧ (0 : Int) ≤ q1.u ∧ q1.u < 2 ^ (7 * q1.k) ∧ vwA s at_ end_ (10 - q1.k) (((q1.k : Nat)) : Int) q1.u = varWithin s at_ end_, fun q1 => 10 - q1.k⟩

theorem varWithin_s (s : List UInt8) (at_ : Int) (end_ : Int) (hp1 : s.length ≤ bigN) : Fun Try.prog 71 [vT s, vI at_, vI end_] [] (.tup [.c (.int .u64 (varWithin s at_ end_).1), vI (varWithin s at_ end_).2.1, vI (varWithin s at_ end_).2.2]) [] := by
  have hN : bigN = 274877906944 := rfl
  refine fun_ofw Try.func71 (by kernel_rfl) (by kernel_rfl) (w := let z6 := varWithin s at_ end_; let z7 := (s.length : Int); let z8 := varWithin_s_F0 s at_ end_; let z9 := ([] : List Blk); let z10 := within at_ 0 z7; let z11 := (.tup [.c (.int .u64 0), vI z7, vI 10] : S); (.seg [.call [] (.v (vB z10)) []] (.br (.leaf () []) (.seg [.at 0, .keep [0, 1, 2, 9, 10], .sel []] (.loop z8 fun q1 => let z3 := (q1.k : Int); .seg [.br true, .as 26 (.v (vI (at_ + z3)))] (.br (.leaf () []) (.seg [.as 33 (.v (vI (at_ + z3)))] (.br (.leaf () []) (.seg [.as 42 (.v (vI (at_ + z3)))] (.intro (fun (x1 : UInt8) => s[Int.toNat (at_ + z3)]? = some x1) fun x1 => let z1 := ((UInt8.toNat x1 : Nat) : Int) % 128; .seg [.ch x1, .as 44 (.v (.c (.int .u64 ((UInt8.toNat x1 : Nat) : Int))))] (.br (.br (.seg [.as 53 (.v (vI (at_ + z3)))] (.leaf () [])) (.seg [.as 56 (.v (.c (.int .u64 z1))), .as 58 (.v (vI (7 * z3))), .as 59 (.v (.c (.int .u64 (7 * z3)))), .as 60 (.v (.c (.int .u64 (z1 * 2 ^ (7 * q1.k))))), .as 61 (.v (.c (.int .u64 (q1.u + (z1 * 2 ^ (7 * q1.k))))))] (.br (.seg [.as 67 (.v (vI (at_ + z3))), .as 68 (.v (vI (at_ + z3 + 1)))] (.leaf () [])) (.seg [.as 22 (.v (vI (z3 + 1))), .at 0, .keep [0, 1, 2, 9, 10], .sel []] (.next))))) (.seg [.as 56 (.v (.c (.int .u64 z1))), .as 58 (.v (vI (7 * z3))), .as 59 (.v (.c (.int .u64 (7 * z3)))), .as 60 (.v (.c (.int .u64 (z1 * 2 ^ (7 * q1.k))))), .as 61 (.v (.c (.int .u64 (q1.u + (z1 * 2 ^ (7 * q1.k))))))] (.br (.seg [.as 67 (.v (vI (at_ + z3))), .as 68 (.v (vI (at_ + z3 + 1)))] (.leaf () [])) (.seg [.as 22 (.v (vI (z3 + 1))), .at 0, .keep [0, 1, 2, 9, 10], .sel []] (.next))))))))))))), (Fun Try.prog 47 [vI at_, vI 0, vI z7] [] (.v (vB z10)) []) ∧ ((!z10) = true → z11 = .tup [.c (.int .u64 z6.1), vI z6.2.1, vI z6.2.2] ∧ z9 = []) ∧ ((!z10) = false → z8.Has [(0, .v (vT s)), (1, .v (vI at_)), (2, .v (vI end_)), (9, .v (.c (.int .u64 0))), (10, .v (vI 0))] [] ∧ ∀ q1, z8.inv q1 → (let z4 := (q1.k : Int); let z5 := 7 * q1.k; ((decide (z4 < 10)) = true) ∧ ((.v (vI (IntKind.i64.wrap (at_ + z4))) : S) = .v (vI (at_ + z4))) ∧ ((decide (end_ ≤ at_ + z4)) = true → (.tup [.c (.int .u64 0), vI end_, vI 9] : S) = .tup [.c (.int .u64 z6.1), vI z6.2.1, vI z6.2.2] ∧ z9 = []) ∧ ((decide (end_ ≤ at_ + z4)) = false → ((.v (vI (IntKind.i64.wrap (at_ + z4))) : S) = .v (vI (at_ + z4))) ∧ ((decide (z7 ≤ at_ + z4)) = true → z11 = .tup [.c (.int .u64 z6.1), vI z6.2.1, vI z6.2.2] ∧ z9 = []) ∧ ((decide (z7 ≤ at_ + z4)) = false → ((.v (vI (IntKind.i64.wrap (at_ + z4))) : S) = .v (vI (at_ + z4))) ∧ (∃ (x1 : UInt8), s[Int.toNat (at_ + z4)]? = some x1) ∧ ∀ (x1 : UInt8), (s[Int.toNat (at_ + z4)]? = some x1) → (let z2 := ((UInt8.toNat x1 : Nat) : Int); (s[Int.toNat (at_ + z4)]? = some x1) ∧ ((0 : Int) ≤ at_ + z4) ∧ ((.v (.c (.int .u64 (IntKind.u64.wrap (z2)))) : S) = .v (.c (.int .u64 z2))) ∧ ((decide (z4 = 9)) = true → ((decide (1 < z2)) = true → ((.v (vI (IntKind.i64.wrap (at_ + z4))) : S) = .v (vI (at_ + z4))) ∧ (.tup [.c (.int .u64 0), vI (at_ + z4), vI 1] : S) = .tup [.c (.int .u64 z6.1), vI z6.2.1, vI z6.2.2] ∧ z9 = []) ∧ ((decide (1 < z2)) = false → ((128 : Int) ≠ 0) ∧ ((.v (.c (.int .u64 (Int.tmod z2 128))) : S) = .v (.c (.int .u64 (z2 % 128)))) ∧ ((.v (vI (IntKind.i64.wrap (7 * z4))) : S) = .v (vI (7 * z4))) ∧ ((.v (.c (.int .u64 (IntKind.u64.wrap (7 * z4)))) : S) = .v (.c (.int .u64 (7 * z4)))) ∧ ((0 : Int) ≤ 7 * z4) ∧ ((.v (.c (.int .u64 (IntKind.u64.wrap ((z2 % 128) * 2 ^ min (Int.toNat (7 * z4)) 64)))) : S) = .v (.c (.int .u64 ((z2 % 128) * 2 ^ z5)))) ∧ ((.v (.c (.int .u64 (IntKind.u64.wrap (q1.u + ((z2 % 128) * 2 ^ z5))))) : S) = .v (.c (.int .u64 (q1.u + ((z2 % 128) * 2 ^ z5))))) ∧ ((decide (z2 < 128)) = true → ((.v (vI (IntKind.i64.wrap (at_ + z4))) : S) = .v (vI (at_ + z4))) ∧ ((.v (vI (IntKind.i64.wrap ((at_ + z4) + 1))) : S) = .v (vI (at_ + z4 + 1))) ∧ (.tup [.c (.int .u64 (q1.u + ((z2 % 128) * 2 ^ z5))), vI (at_ + z4 + 1), vI 0] : S) = .tup [.c (.int .u64 z6.1), vI z6.2.1, vI z6.2.2] ∧ z9 = []) ∧ ((decide (z2 < 128)) = false → ((.v (vI (IntKind.i64.wrap (z4 + 1))) : S) = .v (vI (z4 + 1))) ∧ z8.Nxt q1 [(0, .v (vT s)), (1, .v (vI at_)), (2, .v (vI end_)), (9, .v (.c (.int .u64 (q1.u + ((z2 % 128) * 2 ^ z5))))), (10, .v (vI (z4 + 1)))] []))) ∧ ((decide (z4 = 9)) = false → ((128 : Int) ≠ 0) ∧ ((.v (.c (.int .u64 (Int.tmod z2 128))) : S) = .v (.c (.int .u64 (z2 % 128)))) ∧ ((.v (vI (IntKind.i64.wrap (7 * z4))) : S) = .v (vI (7 * z4))) ∧ ((.v (.c (.int .u64 (IntKind.u64.wrap (7 * z4)))) : S) = .v (.c (.int .u64 (7 * z4)))) ∧ ((0 : Int) ≤ 7 * z4) ∧ ((.v (.c (.int .u64 (IntKind.u64.wrap ((z2 % 128) * 2 ^ min (Int.toNat (7 * z4)) 64)))) : S) = .v (.c (.int .u64 ((z2 % 128) * 2 ^ z5)))) ∧ ((.v (.c (.int .u64 (IntKind.u64.wrap (q1.u + ((z2 % 128) * 2 ^ z5))))) : S) = .v (.c (.int .u64 (q1.u + ((z2 % 128) * 2 ^ z5))))) ∧ ((decide (z2 < 128)) = true → ((.v (vI (IntKind.i64.wrap (at_ + z4))) : S) = .v (vI (at_ + z4))) ∧ ((.v (vI (IntKind.i64.wrap ((at_ + z4) + 1))) : S) = .v (vI (at_ + z4 + 1))) ∧ (.tup [.c (.int .u64 (q1.u + ((z2 % 128) * 2 ^ z5))), vI (at_ + z4 + 1), vI 0] : S) = .tup [.c (.int .u64 z6.1), vI z6.2.1, vI z6.2.2] ∧ z9 = []) ∧ ((decide (z2 < 128)) = false → ((.v (vI (IntKind.i64.wrap (z4 + 1))) : S) = .v (vI (z4 + 1))) ∧ z8.Nxt q1 [(0, .v (vT s)), (1, .v (vI at_)), (2, .v (vI end_)), (9, .v (.c (.int .u64 (q1.u + ((z2 % 128) * 2 ^ z5))))), (10, .v (vI (z4 + 1)))] []))))))))) (by kernel_rfl) ?_
  refine ⟨(within_s _ _ _), fun h1 => have q1 := bnot_t h1; have p1 := within_f q1; ?_, fun h1 => have q1 := bnot_f h1; have p1 := within_t q1; ?_⟩
  refine ⟨(congrArg S.tup (consE (congrArg V.c (congrArg (C.int .u64) ?_)) (consE (congrArg V.c (congrArg (C.int .i64) ?_)) (consE (congrArg V.c (congrArg (C.int .i64) ?_)) rfl)))), rfl⟩
  rotate_left 3
  have hw : within at_ 0 (s.length : Int) = true := by simpa using h1
  refine ⟨has_of (j := (⟨0, 0⟩ : varWithin_s_V0)) (by first | rfl | simp) rfl (by dsimp only [varWithin_s_F0]; exact ⟨by omega, by omega, by decide, by simp [varWithin, hw]⟩), fun (q1 : varWithin_s_V0) hq_q1 => ?_⟩
  have hi_q1 : q1.k ≤ 9 ∧ (0 : Int) ≤ q1.u ∧ q1.u < 2 ^ (7 * q1.k) ∧ vwA s at_ end_ (10 - q1.k) (((q1.k : Nat)) : Int) q1.u = varWithin s at_ end_ := hq_q1
  obtain ⟨v1, v2, v3, v4⟩ := hi_q1
  obtain ⟨f, hf⟩ : ∃ f, 10 - q1.k = f + 1 := ⟨9 - q1.k, by omega⟩
  rw [hf, vwA] at v4
  have e7 : Int.toNat (7 * (q1.k : Int)) = 7 * q1.k := by omega
  refine ⟨(by simp; omega), (as_i64 (by omega) (by omega)), fun h2 => have p2 := of_decide_eq_true h2; ?_, fun h2 => have p2 := of_decide_eq_false h2; ?_⟩
  rw [if_pos p2] at v4
  refine ⟨(congrArg S.tup (consE (congrArg V.c (congrArg (C.int .u64) ?_)) (consE (congrArg V.c (congrArg (C.int .i64) ?_)) (consE (congrArg V.c (congrArg (C.int .i64) ?_)) rfl)))), rfl⟩
  rotate_left 3
  rw [if_neg p2] at v4
  refine ⟨(as_i64 (by omega) (by omega)), fun h3 => have p3 := of_decide_eq_true h3; ?_, fun h3 => have p3 := of_decide_eq_false h3; ?_⟩
  rw [if_pos p3] at v4
  refine ⟨(congrArg S.tup (consE (congrArg V.c (congrArg (C.int .u64) ?_)) (consE (congrArg V.c (congrArg (C.int .i64) ?_)) (consE (congrArg V.c (congrArg (C.int .i64) ?_)) rfl)))), rfl⟩
  rotate_left 3
  rw [if_neg p3] at v4
  refine ⟨(as_i64 (by omega) (by omega)), (ax_get (l := s) (i := Int.toNat (at_ + (q1.k : Int))) (by omega)), fun x1 hx1 => ?_⟩
  have hb_x1 := UInt8.toNat_lt x1
  have he := getD_of (d := 0) hx1
  have hv := fun h9 => vb_shl (c := (x1.toNat : Int) % 128) (k := q1.k) (by omega) (by omega) (by omega) h9
  refine ⟨hx1, (by omega), (as_u64 (by omega) (by omega)), fun h4 => have p4 := of_decide_eq_true h4; ?_, fun h4 => have p4 := of_decide_eq_false h4; ?_⟩
  refine ⟨fun h5 => have p5 := of_decide_eq_true h5; ?_, fun h5 => have p5 := of_decide_eq_false h5; ?_⟩
  rw [if_pos ⟨by omega, by rw [he]; omega⟩] at v4
  refine ⟨(as_i64 (by omega) (by omega)), (congrArg S.tup (consE (congrArg V.c (congrArg (C.int .u64) ?_)) (consE (congrArg V.c (congrArg (C.int .i64) ?_)) (consE (congrArg V.c (congrArg (C.int .i64) ?_)) rfl)))), rfl⟩
  rotate_left 3
  rw [if_neg (by rw [he]; omega)] at v4
  refine ⟨(by decide), (as_tmod (by omega)), (as_i64 (by omega) (by omega)), (as_u64 (by omega) (by omega)), (by omega), (as_shl_vb (by omega) (by omega) (by omega) (by intro h; omega)), (as_u64 (by omega) (by omega)), fun h6 => have p6 := of_decide_eq_true h6; ?_, fun h6 => have p6 := of_decide_eq_false h6; ?_⟩
  have hv := hv (by intro h; omega)
  rw [he, e7] at v4
  rw [if_pos p6] at v4
  refine ⟨(as_i64 (by omega) (by omega)), (as_i64 (by omega) (by omega)), (congrArg S.tup (consE (congrArg V.c (congrArg (C.int .u64) ?_)) (consE (congrArg V.c (congrArg (C.int .i64) ?_)) (consE (congrArg V.c (congrArg (C.int .i64) ?_)) rfl)))), rfl⟩
  rotate_left 3
  have hv := hv (by intro h; omega)
  rw [he, e7] at v4
  rw [if_neg p6] at v4
  exact ⟨(as_i64 (by omega) (by omega)), nxt_of (j := (⟨q1.u + ((((UInt8.toNat x1 : Nat) : Int) % 128) * 2 ^ (7 * q1.k)), q1.k + 1⟩ : varWithin_s_V0)) (by first | rfl | simp) rfl (by dsimp only [varWithin_s_F0]; exact ⟨by omega, by omega, by omega, by rw [show 10 - (q1.k + 1) = f by omega, show (((q1.k + 1) : Nat) : Int) = (q1.k : Int) + 1 by simp]; exact v4⟩) (by dsimp only [varWithin_s_F0]; omega)⟩
  rw [if_neg (by omega)] at v4
  refine ⟨(by decide), (as_tmod (by omega)), (as_i64 (by omega) (by omega)), (as_u64 (by omega) (by omega)), (by omega), (as_shl_vb (by omega) (by omega) (by omega) (by intro h; omega)), (as_u64 (by omega) (by omega)), fun h5 => have p5 := of_decide_eq_true h5; ?_, fun h5 => have p5 := of_decide_eq_false h5; ?_⟩
  have hv := hv (by intro h; omega)
  rw [he, e7] at v4
  rw [if_pos p5] at v4
  refine ⟨(as_i64 (by omega) (by omega)), (as_i64 (by omega) (by omega)), (congrArg S.tup (consE (congrArg V.c (congrArg (C.int .u64) ?_)) (consE (congrArg V.c (congrArg (C.int .i64) ?_)) (consE (congrArg V.c (congrArg (C.int .i64) ?_)) rfl)))), rfl⟩
  rotate_left 3
  have hv := hv (by intro h; omega)
  rw [he, e7] at v4
  rw [if_neg p5] at v4
  exact ⟨(as_i64 (by omega) (by omega)), nxt_of (j := (⟨q1.u + ((((UInt8.toNat x1 : Nat) : Int) % 128) * 2 ^ (7 * q1.k)), q1.k + 1⟩ : varWithin_s_V0)) (by first | rfl | simp) rfl (by dsimp only [varWithin_s_F0]; exact ⟨by omega, by omega, by omega, by rw [show 10 - (q1.k + 1) = f by omega, show (((q1.k + 1) : Nat) : Int) = (q1.k : Int) + 1 by simp]; exact v4⟩) (by dsimp only [varWithin_s_F0]; omega)⟩
  all_goals first | (rw [← v4]) | (simp [varWithin, *]; done)
end Go.Proofs.Ytecljjcmjongfaa.Ax
