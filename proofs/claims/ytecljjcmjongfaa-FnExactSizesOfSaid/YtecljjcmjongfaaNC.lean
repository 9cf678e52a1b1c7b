/- Numbers of so many bytes; tags. -/
import Derived.Test.YtecljjcmjongfaaNB
namespace Go.Proofs.Ytecljjcmjongfaa.Ax
open Go.RowKit
set_option linter.unusedSimpArgs false
set_option linter.unusedVariables false
theorem widthOk_i (w : Int) : Fun Try.prog 179 [vI w] [] (.v (vB (widthOk w))) [] := by
  have hN : bigN = 274877906944 := rfl
  refine fun_ofw Try.func179 (by kernel_rfl) (by kernel_rfl) (w := (.br (.leaf () []) (.leaf () []), ((decide (w = 4)) = true → (.v (vB true) : S) = .v (vB (widthOk w)) ∧ ([] : List Blk) = []) ∧ ((decide (w = 4)) = false → (.v (vB (decide (w = 8))) : S) = .v (vB (widthOk w)) ∧ ([] : List Blk) = []))) (by kernel_rfl) ?_
  refine ⟨fun h1 => have p1 := of_decide_eq_true h1; ?_, fun h1 => have p1 := of_decide_eq_false h1; ?_⟩
  exact ⟨(congrArg S.v (congrArg V.c (congrArg C.bool (by simp [widthOk, *])))), rfl⟩
  exact ⟨(congrArg S.v (congrArg V.c (congrArg C.bool (by simp [widthOk, *])))), rfl⟩
structure getFix_i_V0 where
  u : Int
  v : Nat
def getFix_i_F0 (s : List UInt8) (at_ : Int) (w : Int) : Fam := ⟨getFix_i_V0, fun q1 => [(0, .v (vT s)), (1, .v (vI at_)), (8, .v (.c (.int .u64 q1.u))), (22, .v (vI w)), (23, .v (vI (q1.v : Int)))], fun _ => [], fun q1 => (q1.v : Int) ≤ w ∧ q1.u = ((getFixN (List.take q1.v (List.drop (at_.toNat) s)) : Nat) : Int), fun q1 => w.toNat - q1.v⟩

theorem getFix_i (s : List UInt8) (at_ : Int) (w : Int) (hp1 : s.length ≤ bigN) : Fun Try.prog 164 [vT s, vI at_, vI w] [] (.tup [.c (.int .u64 (getFix s at_ w)), vB (getFixOk s at_ w)]) [] := by
  have hN : bigN = 274877906944 := rfl
  refine fun_ofw Try.func164 (by kernel_rfl) (by kernel_rfl) (w := let z5 := (s.length : Int) - w; let z6 := getFix_i_F0 s at_ w; let z7 := within at_ 0 z5; let z8 := (.tup [.c (.int .u64 0), vB false] : S); let z9 := getFixOk s at_ w; (.seg [.call [] (.v (vB (widthOk w))) []] (.br (.leaf () []) (.seg [.as 18 (.v (vI z5)), .call [] (.v (vB z7)) []] (.br (.leaf () []) (.seg [.at 0, .keep [0, 1, 8, 22, 23], .sel []] (.loop z6 fun q1 => let z3 := (q1.v : Int); .br (.seg [.as 30 (.v (vI (at_ + z3)))] (.intro (fun (x1 : UInt8) => s[Int.toNat (at_ + z3)]? = some x1) fun x1 => let z1 := ((UInt8.toNat x1 : Nat) : Int); .seg [.ch x1, .as 32 (.v (.c (.int .u64 z1))), .as 34 (.v (vI (8 * z3))), .as 35 (.v (.c (.int .u64 (8 * z3)))), .as 36 (.v (.c (.int .u64 (z1 * 2 ^ (8 * q1.v))))), .as 37 (.v (.c (.int .u64 (q1.u + z1 * 2 ^ (8 * q1.v))))), .as 38 (.v (vI (z3 + 1))), .at 0, .keep [0, 1, 8, 22, 23], .sel []] (.next))) (.leaf () [])))))), (Fun Try.prog 179 [vI w] [] (.v (vB (widthOk w))) []) ∧ ((!(widthOk w)) = true → z8 = .tup [.c (.int .u64 (getFix s at_ w)), vB z9] ∧ ([] : List Blk) = []) ∧ ((!(widthOk w)) = false → ((.v (vI (IntKind.i64.wrap z5)) : S) = .v (vI z5)) ∧ (Fun Try.prog 49 [vI at_, vI 0, vI z5] [] (.v (vB z7)) []) ∧ ((!z7) = true → z8 = .tup [.c (.int .u64 (getFix s at_ w)), vB z9] ∧ ([] : List Blk) = []) ∧ ((!z7) = false → z6.Has [(0, .v (vT s)), (1, .v (vI at_)), (8, .v (.c (.int .u64 0))), (22, .v (vI w)), (23, .v (vI 0))] [] ∧ ∀ q1, z6.inv q1 → (let z4 := (q1.v : Int); ((decide (z4 < w)) = true → ((.v (vI (IntKind.i64.wrap (at_ + z4))) : S) = .v (vI (at_ + z4))) ∧ (∃ (x1 : UInt8), s[Int.toNat (at_ + z4)]? = some x1) ∧ ∀ (x1 : UInt8), (s[Int.toNat (at_ + z4)]? = some x1) → (let z2 := ((UInt8.toNat x1 : Nat) : Int); (s[Int.toNat (at_ + z4)]? = some x1) ∧ ((0 : Int) ≤ at_ + z4) ∧ ((.v (.c (.int .u64 (IntKind.u64.wrap (z2)))) : S) = .v (.c (.int .u64 z2))) ∧ ((.v (vI (IntKind.i64.wrap (8 * z4))) : S) = .v (vI (8 * z4))) ∧ ((.v (.c (.int .u64 (IntKind.u64.wrap (8 * z4)))) : S) = .v (.c (.int .u64 (8 * z4)))) ∧ ((0 : Int) ≤ 8 * z4) ∧ ((.v (.c (.int .u64 (IntKind.u64.wrap (z2 * 2 ^ min (Int.toNat (8 * z4)) 64)))) : S) = .v (.c (.int .u64 (z2 * 2 ^ (8 * q1.v))))) ∧ ((.v (.c (.int .u64 (IntKind.u64.wrap (((BitVec.ofInt 64 q1.u ||| BitVec.ofInt 64 (z2 * 2 ^ (8 * q1.v))).toNat : Nat))))) : S) = .v (.c (.int .u64 (q1.u + z2 * 2 ^ (8 * q1.v))))) ∧ ((.v (vI (IntKind.i64.wrap (z4 + 1))) : S) = .v (vI (z4 + 1))) ∧ z6.Nxt q1 [(0, .v (vT s)), (1, .v (vI at_)), (8, .v (.c (.int .u64 (q1.u + z2 * 2 ^ (8 * q1.v))))), (22, .v (vI w)), (23, .v (vI (z4 + 1)))] [])) ∧ ((decide (z4 < w)) = false → (.tup [.c (.int .u64 q1.u), vB true] : S) = .tup [.c (.int .u64 (getFix s at_ w)), vB z9] ∧ ([] : List Blk) = [])))))) (by kernel_rfl) ?_
  refine ⟨(widthOk_i _), fun h1 => have q1 := bnot_t h1; have p1 := widthOk_f q1; ?_, fun h1 => have q1 := bnot_f h1; have p1 := widthOk_t q1; ?_⟩
  refine ⟨(congrArg S.tup (consE (congrArg V.c (congrArg (C.int .u64) ?_)) (consE (congrArg V.c (congrArg C.bool ?_)) rfl))), rfl⟩
  rotate_left 2
  refine ⟨(as_i64 (by omega) (by omega)), (within_i _ _ _), fun h2 => have q2 := bnot_t h2; have p2 := within_f q2; ?_, fun h2 => have q2 := bnot_f h2; have p2 := within_t q2; ?_⟩
  refine ⟨(congrArg S.tup (consE (congrArg V.c (congrArg (C.int .u64) ?_)) (consE (congrArg V.c (congrArg C.bool ?_)) rfl))), rfl⟩
  rotate_left 2
  refine ⟨has_of (j := (⟨0, 0⟩ : getFix_i_V0)) (by first | rfl | simp) rfl (by dsimp only [getFix_i_F0]; exact ⟨by omega, by simp [getFixN]⟩), fun (q1 : getFix_i_V0) hq_q1 => ?_⟩
  have hi_q1 : (q1.v : Int) ≤ w ∧ q1.u = ((getFixN (List.take q1.v (List.drop (at_.toNat) s)) : Nat) : Int) := hq_q1
  obtain ⟨v1, v2⟩ := hi_q1
  have hw8 : w = 4 ∨ w = 8 := by omega
  have hlt := getFixN_le (l := List.take q1.v (List.drop (at_.toNat) s)) (k := q1.v) (by simp; omega)
  have hlt2 : q1.u < 2 ^ (8 * q1.v) := by rw [v2]; exact_mod_cast hlt
  have hu0 : (0 : Int) ≤ q1.u := by rw [v2]; exact Int.natCast_nonneg _
  refine ⟨fun h3 => have p3 := of_decide_eq_true h3; ?_, fun h3 => have p3 := of_decide_eq_false h3; ?_⟩
  refine ⟨(as_i64 (by omega) (by omega)), (ax_get (l := s) (i := Int.toNat (at_ + (q1.v : Int))) (by omega)), fun x1 hx1 => ?_⟩
  have hb_x1 := UInt8.toNat_lt x1
  exact ⟨hx1, (by omega), (as_u64 (by omega) (by omega)), (as_i64 (by omega) (by omega)), (as_u64 (by omega) (by omega)), (by omega), (as_shl_fb (by omega) (by omega) (by omega)), (as_or_fb (by omega) (by omega) (by omega) (by omega) (by omega)), (as_i64 (by omega) (by omega)), nxt_of (j := (⟨q1.u + ((UInt8.toNat x1 : Nat) : Int) * 2 ^ (8 * q1.v), q1.v + 1⟩ : getFix_i_V0)) (by first | rfl | simp) rfl (by dsimp only [getFix_i_F0]; exact ⟨by omega, by rw [take_snoc (x := x1) (by rw [← hx1]; congr 1; omega), getFixN_snoc, v2, show List.length (List.take q1.v (List.drop (at_.toNat) s)) = q1.v by simp; omega]; simp⟩) (by dsimp only [getFix_i_F0]; omega)⟩
  have hok : getFixOk s at_ w = true := by simp [getFixOk, widthOk, within]; omega
  have hvw : q1.v = w.toNat := by omega
  rw [hvw] at v2
  have hr : q1.u = getFix s at_ w := by rw [getFix, if_pos hok, v2]
  refine ⟨(congrArg S.tup (consE (congrArg V.c (congrArg (C.int .u64) ?_)) (consE (congrArg V.c (congrArg C.bool ?_)) rfl))), rfl⟩
  rotate_left 2
  all_goals first | (exact hr) | (exact hok.symm) | (simp_all [getFixOk, getFix, widthOk]; done)
structure getFix_s_V0 where
  u : Int
  i : Int
def getFix_s_F0 (s : List UInt8) (at_ : Int) (w : Int) : Fam := ⟨getFix_s_V0, fun q1 => [(0, .v (vT s)), (1, .v (vI at_)), (8, .v (.c (.int .u64 q1.u))), (9, .v (vI q1.i))], fun _ => [], fun q1 => (-1 : Int) ≤ q1.i ∧ q1.i < w ∧ q1.u = ((getFixN (List.take (Int.toNat (w - 1 - q1.i)) (List.drop (Int.toNat (at_ + q1.i + 1)) s)) : Nat) : Int), fun q1 => Int.toNat (q1.i + 1)⟩

theorem getFix_s (s : List UInt8) (at_ : Int) (w : Int) (hp1 : s.length ≤ bigN) : Fun Try.prog 162 [vT s, vI at_, vI w] [] (.tup [.c (.int .u64 (getFix s at_ w)), vB (getFixOk s at_ w)]) [] := by
  have hN : bigN = 274877906944 := rfl
  refine fun_ofw Try.func162 (by kernel_rfl) (by kernel_rfl) (w := let z7 := (s.length : Int) - w; let z9 := getFix_s_F0 s at_ w; let z10 := within at_ 0 z7; let z12 := (.v (vI (IntKind.i64.wrap z7)) : S) = .v (vI z7); let z13 := getFixOk s at_ w; let z14 := getFix s at_ w; let z15 := vI (w - 1); let z11 := (.v (vI (IntKind.i64.wrap (w - 1))) : S) = .v z15; let z16 := (.tup [.c (.int .u64 0), vB false] : S); let z17 := ([] : List Blk); let z8 := (!z10) = true → z16 = .tup [.c (.int .u64 z14), vB z13] ∧ z17 = []; (.br (.br (.leaf () []) (.seg [.as 21 (.v (vI z7)), .call [] (.v (vB z10)) []] (.br (.leaf () []) (.seg [.as 26 (.v z15), .at 0, .keep [0, 1, 8, 9], .sel []] (.loop z9 fun q1 => .br (.seg [.as 32 (.v (.c (.int .u64 (256 * q1.u)))), .as 36 (.v (vI (at_ + q1.i)))] (.intro (fun (x1 : UInt8) => s[Int.toNat (at_ + q1.i)]? = some x1) fun x1 => .seg [.ch x1, .as 38 (.v (.c (.int .u64 ((UInt8.toNat x1 : Nat) : Int)))), .as 39 (.v (.c (.int .u64 ((256 * q1.u) + ((UInt8.toNat x1 : Nat) : Int))))), .as 30 (.v (vI (q1.i - 1))), .at 0, .keep [0, 1, 8, 9], .sel []] (.next))) (.leaf () [])))))) (.seg [.as 21 (.v (vI z7)), .call [] (.v (vB z10)) []] (.br (.leaf () []) (.seg [.as 26 (.v z15), .at 0, .keep [0, 1, 8, 9], .sel []] (.loop z9 fun q1 => .br (.seg [.as 32 (.v (.c (.int .u64 (256 * q1.u)))), .as 36 (.v (vI (at_ + q1.i)))] (.intro (fun (x1 : UInt8) => s[Int.toNat (at_ + q1.i)]? = some x1) fun x1 => .seg [.ch x1, .as 38 (.v (.c (.int .u64 ((UInt8.toNat x1 : Nat) : Int)))), .as 39 (.v (.c (.int .u64 ((256 * q1.u) + ((UInt8.toNat x1 : Nat) : Int))))), .as 30 (.v (vI (q1.i - 1))), .at 0, .keep [0, 1, 8, 9], .sel []] (.next))) (.leaf () []))))), ((!decide (w = 4)) = true → ((!decide (w = 8)) = true → z16 = .tup [.c (.int .u64 z14), vB z13] ∧ z17 = []) ∧ ((!decide (w = 8)) = false → z12 ∧ (Fun Try.prog 47 [vI at_, vI 0, vI z7] [] (.v (vB z10)) []) ∧ z8 ∧ ((!z10) = false → z11 ∧ z9.Has [(0, .v (vT s)), (1, .v (vI at_)), (8, .v (.c (.int .u64 0))), (9, .v z15)] [] ∧ ∀ q1, z9.inv q1 → (let z2 := 256 * q1.u; let z3 := at_ + q1.i; ((decide (0 ≤ q1.i)) = true → ((.v (.c (.int .u64 (IntKind.u64.wrap z2))) : S) = .v (.c (.int .u64 z2))) ∧ ((.v (vI (IntKind.i64.wrap z3)) : S) = .v (vI z3)) ∧ (∃ (x1 : UInt8), s[z3.toNat]? = some x1) ∧ ∀ (x1 : UInt8), (s[z3.toNat]? = some x1) → (let z1 := ((UInt8.toNat x1 : Nat) : Int); (s[z3.toNat]? = some x1) ∧ ((0 : Int) ≤ at_ + q1.i) ∧ ((.v (.c (.int .u64 (IntKind.u64.wrap (z1)))) : S) = .v (.c (.int .u64 z1))) ∧ ((.v (.c (.int .u64 (IntKind.u64.wrap (z2 + z1)))) : S) = .v (.c (.int .u64 (z2 + z1)))) ∧ ((.v (vI (IntKind.i64.wrap (q1.i - 1))) : S) = .v (vI (q1.i - 1))) ∧ z9.Nxt q1 [(0, .v (vT s)), (1, .v (vI at_)), (8, .v (.c (.int .u64 (z2 + z1)))), (9, .v (vI (q1.i - 1)))] [])) ∧ ((decide (0 ≤ q1.i)) = false → (.tup [.c (.int .u64 q1.u), vB true] : S) = .tup [.c (.int .u64 z14), vB z13] ∧ z17 = []))))) ∧ ((!decide (w = 4)) = false → z12 ∧ (Fun Try.prog 47 [vI at_, vI 0, vI z7] [] (.v (vB z10)) []) ∧ z8 ∧ ((!z10) = false → z11 ∧ z9.Has [(0, .v (vT s)), (1, .v (vI at_)), (8, .v (.c (.int .u64 0))), (9, .v z15)] [] ∧ ∀ q1, z9.inv q1 → (let z5 := 256 * q1.u; let z6 := at_ + q1.i; ((decide (0 ≤ q1.i)) = true → ((.v (.c (.int .u64 (IntKind.u64.wrap z5))) : S) = .v (.c (.int .u64 z5))) ∧ ((.v (vI (IntKind.i64.wrap z6)) : S) = .v (vI z6)) ∧ (∃ (x1 : UInt8), s[z6.toNat]? = some x1) ∧ ∀ (x1 : UInt8), (s[z6.toNat]? = some x1) → (let z4 := ((UInt8.toNat x1 : Nat) : Int); (s[z6.toNat]? = some x1) ∧ ((0 : Int) ≤ at_ + q1.i) ∧ ((.v (.c (.int .u64 (IntKind.u64.wrap (z4)))) : S) = .v (.c (.int .u64 z4))) ∧ ((.v (.c (.int .u64 (IntKind.u64.wrap (z5 + z4)))) : S) = .v (.c (.int .u64 (z5 + z4)))) ∧ ((.v (vI (IntKind.i64.wrap (q1.i - 1))) : S) = .v (vI (q1.i - 1))) ∧ z9.Nxt q1 [(0, .v (vT s)), (1, .v (vI at_)), (8, .v (.c (.int .u64 (z5 + z4)))), (9, .v (vI (q1.i - 1)))] [])) ∧ ((decide (0 ≤ q1.i)) = false → (.tup [.c (.int .u64 q1.u), vB true] : S) = .tup [.c (.int .u64 z14), vB z13] ∧ z17 = [])))))) (by kernel_rfl) ?_
  refine ⟨fun h1 => have q1 := bnot_t h1; have p1 := of_decide_eq_false q1; ?_, fun h1 => have q1 := bnot_f h1; have p1 := of_decide_eq_true q1; ?_⟩
  refine ⟨fun h2 => have q2 := bnot_t h2; have p2 := of_decide_eq_false q2; ?_, fun h2 => have q2 := bnot_f h2; have p2 := of_decide_eq_true q2; ?_⟩
  refine ⟨(congrArg S.tup (consE (congrArg V.c (congrArg (C.int .u64) ?_)) (consE (congrArg V.c (congrArg C.bool ?_)) rfl))), rfl⟩
  rotate_left 2
  refine ⟨(as_i64 (by omega) (by omega)), (within_s _ _ _), fun h3 => have q3 := bnot_t h3; have p3 := within_f q3; ?_, fun h3 => have q3 := bnot_f h3; have p3 := within_t q3; ?_⟩
  refine ⟨(congrArg S.tup (consE (congrArg V.c (congrArg (C.int .u64) ?_)) (consE (congrArg V.c (congrArg C.bool ?_)) rfl))), rfl⟩
  rotate_left 2
  refine ⟨(as_i64 (by omega) (by omega)), has_of (j := (⟨0, w - 1⟩ : getFix_s_V0)) rfl rfl (by dsimp only [getFix_s_F0]; exact ⟨by omega, by omega, by simp [getFixN]⟩), fun (q1 : getFix_s_V0) hq_q1 => ?_⟩
  have hi_q1 : (-1 : Int) ≤ q1.i ∧ q1.i < w ∧ q1.u = ((getFixN (List.take (Int.toNat (w - 1 - q1.i)) (List.drop (Int.toNat (at_ + q1.i + 1)) s)) : Nat) : Int) := hq_q1
  obtain ⟨v1, v2, v3⟩ := hi_q1
  have hw8 : w = 4 ∨ w = 8 := by omega
  have hlt := getFixN_le (l := List.take (Int.toNat (w - 1 - q1.i)) (List.drop (Int.toNat (at_ + q1.i + 1)) s)) (k := Int.toNat (w - 1 - q1.i)) (by rw [List.length_take]; omega)
  have hu0 : (0 : Int) ≤ q1.u := by rw [v3]; exact Int.natCast_nonneg _
  refine ⟨fun h4 => have p4 := of_decide_eq_true h4; ?_, fun h4 => have p4 := of_decide_eq_false h4; ?_⟩
  have hle : getFixN (List.take (Int.toNat (w - 1 - q1.i)) (List.drop (Int.toNat (at_ + q1.i + 1)) s)) < 2 ^ 56 := Nat.lt_of_lt_of_le hlt (Nat.pow_le_pow_right (by decide) (by omega))
  have hu1 : q1.u < 72057594037927936 := by rw [v3]; omega
  refine ⟨(as_u64 (by omega) (by omega)), (as_i64 (by omega) (by omega)), (ax_get (l := s) (i := Int.toNat (at_ + q1.i)) (by omega)), fun x1 hx1 => ?_⟩
  have hb_x1 := UInt8.toNat_lt x1
  exact ⟨hx1, (by omega), (as_u64 (by omega) (by omega)), (as_u64 (by omega) (by omega)), (as_i64 (by omega) (by omega)), nxt_of (j := (⟨(256 * q1.u) + ((UInt8.toNat x1 : Nat) : Int), q1.i - 1⟩ : getFix_s_V0)) rfl rfl (by dsimp only [getFix_s_F0]; exact ⟨by omega, by omega, by rw [show Int.toNat (w - 1 - (q1.i - 1)) = Int.toNat (w - 1 - q1.i) + 1 by omega, show Int.toNat (at_ + (q1.i - 1) + 1) = Int.toNat (at_ + q1.i) by omega, drop_el hx1, List.take_succ_cons, getFixN, v3, show Int.toNat (at_ + q1.i) + 1 = Int.toNat (at_ + q1.i + 1) by omega]; omega⟩) (by dsimp only [getFix_s_F0]; omega)⟩
  have hok : getFixOk s at_ w = true := by simp [getFixOk, widthOk, within]; omega
  have hvw : q1.i = -1 := by omega
  rw [hvw] at v3
  have hr : q1.u = getFix s at_ w := by rw [getFix, if_pos hok, v3, show Int.toNat (w - 1 - -1) = w.toNat by omega, show Int.toNat (at_ + -1 + 1) = at_.toNat by omega]
  refine ⟨(congrArg S.tup (consE (congrArg V.c (congrArg (C.int .u64) ?_)) (consE (congrArg V.c (congrArg C.bool ?_)) rfl))), rfl⟩
  rotate_left 2
  refine ⟨(as_i64 (by omega) (by omega)), (within_s _ _ _), fun h2 => have q2 := bnot_t h2; have p2 := within_f q2; ?_, fun h2 => have q2 := bnot_f h2; have p2 := within_t q2; ?_⟩
  refine ⟨(congrArg S.tup (consE (congrArg V.c (congrArg (C.int .u64) ?_)) (consE (congrArg V.c (congrArg C.bool ?_)) rfl))), rfl⟩
  rotate_left 2
  refine ⟨(as_i64 (by omega) (by omega)), has_of (j := (⟨0, w - 1⟩ : getFix_s_V0)) rfl rfl (by dsimp only [getFix_s_F0]; exact ⟨by omega, by omega, by simp [getFixN]⟩), fun (q1 : getFix_s_V0) hq_q1 => ?_⟩
  have hi_q1 : (-1 : Int) ≤ q1.i ∧ q1.i < w ∧ q1.u = ((getFixN (List.take (Int.toNat (w - 1 - q1.i)) (List.drop (Int.toNat (at_ + q1.i + 1)) s)) : Nat) : Int) := hq_q1
  obtain ⟨v1, v2, v3⟩ := hi_q1
  have hw8 : w = 4 ∨ w = 8 := by omega
  have hlt := getFixN_le (l := List.take (Int.toNat (w - 1 - q1.i)) (List.drop (Int.toNat (at_ + q1.i + 1)) s)) (k := Int.toNat (w - 1 - q1.i)) (by rw [List.length_take]; omega)
  have hu0 : (0 : Int) ≤ q1.u := by rw [v3]; exact Int.natCast_nonneg _
  refine ⟨fun h3 => have p3 := of_decide_eq_true h3; ?_, fun h3 => have p3 := of_decide_eq_false h3; ?_⟩
  have hle : getFixN (List.take (Int.toNat (w - 1 - q1.i)) (List.drop (Int.toNat (at_ + q1.i + 1)) s)) < 2 ^ 56 := Nat.lt_of_lt_of_le hlt (Nat.pow_le_pow_right (by decide) (by omega))
  have hu1 : q1.u < 72057594037927936 := by rw [v3]; omega
  refine ⟨(as_u64 (by omega) (by omega)), (as_i64 (by omega) (by omega)), (ax_get (l := s) (i := Int.toNat (at_ + q1.i)) (by omega)), fun x1 hx1 => ?_⟩
  have hb_x1 := UInt8.toNat_lt x1
  exact ⟨hx1, (by omega), (as_u64 (by omega) (by omega)), (as_u64 (by omega) (by omega)), (as_i64 (by omega) (by omega)), nxt_of (j := (⟨(256 * q1.u) + ((UInt8.toNat x1 : Nat) : Int), q1.i - 1⟩ : getFix_s_V0)) rfl rfl (by dsimp only [getFix_s_F0]; exact ⟨by omega, by omega, by rw [show Int.toNat (w - 1 - (q1.i - 1)) = Int.toNat (w - 1 - q1.i) + 1 by omega, show Int.toNat (at_ + (q1.i - 1) + 1) = Int.toNat (at_ + q1.i) by omega, drop_el hx1, List.take_succ_cons, getFixN, v3, show Int.toNat (at_ + q1.i) + 1 = Int.toNat (at_ + q1.i + 1) by omega]; omega⟩) (by dsimp only [getFix_s_F0]; omega)⟩
  have hok : getFixOk s at_ w = true := by simp [getFixOk, widthOk, within]; omega
  have hvw : q1.i = -1 := by omega
  rw [hvw] at v3
  have hr : q1.u = getFix s at_ w := by rw [getFix, if_pos hok, v3, show Int.toNat (w - 1 - -1) = w.toNat by omega, show Int.toNat (at_ + -1 + 1) = at_.toNat by omega]
  refine ⟨(congrArg S.tup (consE (congrArg V.c (congrArg (C.int .u64) ?_)) (consE (congrArg V.c (congrArg C.bool ?_)) rfl))), rfl⟩
  rotate_left 2
  all_goals first | (exact hr) | (exact hok.symm) | (simp_all [getFixOk, getFix, widthOk]; done)
structure putFix_i_V0 where
  u : Int
  out : List Int
  v : Nat
def putFix_i_F0 (u : Int) (w : Int) : Fam := ⟨putFix_i_V0, fun q1 => [(0, .v (.c (.int .u64 q1.u))), (5, .v (vO 0)), (22, .v (vI w)), (23, .v (vI (q1.v : Int)))], fun q1 => [.lst .u8 q1.out], fun q1 => q1.v ≤ (w.toNat) ∧ q1.out.length = (w.toNat) ∧ List.take q1.v q1.out = List.take q1.v (fixL (u.toNat) (w.toNat)) ∧ q1.u = ((u.toNat / 256 ^ q1.v : Nat) : Int), fun q1 => (w.toNat) - q1.v⟩

theorem putFix_i (u : Int) (w : Int) (hp1 : (0 : Int) ≤ u ∧ u ≤ 18446744073709551615) : Fun Try.prog 171 [.c (.int .u64 u), vI w] [] (.v (vT (putFix u w))) [] := by
  have hN : bigN = 274877906944 := rfl
  refine fun_ofw Try.func171 (by kernel_rfl) (by kernel_rfl) (w := let z3 := List.replicate (w.toNat) (0 : Int); let z4 := putFix_i_F0 u w; let z5 := (.v (vI (z3.length : Int)) : S) = .v (vI w); let z6 := vT (putFix u w); let z7 := ((1 : Nat) : Int) * w ≤ 281474976710656; let z8 := ([] : List Blk); (.seg [.call [] (.v (vB (widthOk w))) []] (.br (.leaf () []) (.br (.seg [.as 15 (.v (.c (.int .u64 (u / 4294967296))))] (.br (.leaf () []) (.seg [.ty .u8, .as 22 (.v (vI w)), .at 0, .keep [0, 5, 22, 23], .sel [0]] (.loop z4 fun q1 => .br (.seg [.as 29 (.v (.c (.int .u8 (q1.u % 256))))] (.intro (fun (x1 : Int) => q1.out[q1.v]? = some x1) fun x1 => .seg [.el .u8 x1, .as 32 (.v (.c (.int .u64 (q1.u / 256)))), .as 33 (.v (vI ((q1.v : Int) + 1))), .at 0, .keep [0, 5, 22, 23], .sel [0]] (.next))) (.leaf () []))))) (.seg [.ty .u8, .as 22 (.v (vI w)), .at 0, .keep [0, 5, 22, 23], .sel [0]] (.loop z4 fun q1 => .br (.seg [.as 29 (.v (.c (.int .u8 (q1.u % 256))))] (.intro (fun (x1 : Int) => q1.out[q1.v]? = some x1) fun x1 => .seg [.el .u8 x1, .as 32 (.v (.c (.int .u64 (q1.u / 256)))), .as 33 (.v (vI ((q1.v : Int) + 1))), .at 0, .keep [0, 5, 22, 23], .sel [0]] (.next))) (.leaf () []))))), (Fun Try.prog 179 [vI w] [] (.v (vB (widthOk w))) []) ∧ ((!(widthOk w)) = true → (.v (vT []) : S) = .v z6 ∧ z8 = []) ∧ ((!(widthOk w)) = false → ((decide (w = 4)) = true → ((0 : Int) ≤ 32) ∧ ((.v (.c (.int .u64 (Int.fdiv u (2 ^ 32)))) : S) = .v (.c (.int .u64 (u / 4294967296)))) ∧ ((!decide (u / 4294967296 = 0)) = true → (.v (vT []) : S) = .v z6 ∧ z8 = []) ∧ ((!decide (u / 4294967296 = 0)) = false → (w ≤ 9223372036854775807) ∧ z7 ∧ (w ≤ w) ∧ ((0 : Int) ≤ w) ∧ z5 ∧ z4.Has [(0, .v (.c (.int .u64 u))), (5, .v (vO 0)), (22, .v (vI w)), (23, .v (vI 0))] [.lst .u8 z3] ∧ ∀ q1, z4.inv q1 → (let z1 := (q1.v : Int); ((decide (z1 < w)) = true → ((.v (.c (.int .u8 (IntKind.u8.wrap (q1.u)))) : S) = .v (.c (.int .u8 (q1.u % 256)))) ∧ (∃ (x1 : Int), q1.out[q1.v]? = some x1) ∧ ∀ (x1 : Int), (q1.out[q1.v]? = some x1) → ((z1 < (q1.out.length : Int)) ∧ ((0 : Int) ≤ z1) ∧ (q1.out[q1.v]? = some x1) ∧ ((0 : Int) ≤ 8) ∧ ((.v (.c (.int .u64 (Int.fdiv q1.u (2 ^ 8)))) : S) = .v (.c (.int .u64 (q1.u / 256)))) ∧ ((.v (vI (IntKind.i64.wrap (z1 + 1))) : S) = .v (vI (z1 + 1))) ∧ z4.Nxt q1 [(0, .v (.c (.int .u64 (q1.u / 256)))), (5, .v (vO 0)), (22, .v (vI w)), (23, .v (vI (z1 + 1)))] [.lst .u8 (List.set q1.out q1.v (q1.u % 256))])) ∧ ((decide (z1 < w)) = false → (.v (vT (List.map toByte q1.out)) : S) = .v z6 ∧ z8 = [])))) ∧ ((decide (w = 4)) = false → (w ≤ 9223372036854775807) ∧ z7 ∧ (w ≤ w) ∧ ((0 : Int) ≤ w) ∧ z5 ∧ z4.Has [(0, .v (.c (.int .u64 u))), (5, .v (vO 0)), (22, .v (vI w)), (23, .v (vI 0))] [.lst .u8 z3] ∧ ∀ q1, z4.inv q1 → (let z2 := (q1.v : Int); ((decide (z2 < w)) = true → ((.v (.c (.int .u8 (IntKind.u8.wrap (q1.u)))) : S) = .v (.c (.int .u8 (q1.u % 256)))) ∧ (∃ (x1 : Int), q1.out[q1.v]? = some x1) ∧ ∀ (x1 : Int), (q1.out[q1.v]? = some x1) → ((z2 < (q1.out.length : Int)) ∧ ((0 : Int) ≤ z2) ∧ (q1.out[q1.v]? = some x1) ∧ ((0 : Int) ≤ 8) ∧ ((.v (.c (.int .u64 (Int.fdiv q1.u (2 ^ 8)))) : S) = .v (.c (.int .u64 (q1.u / 256)))) ∧ ((.v (vI (IntKind.i64.wrap (z2 + 1))) : S) = .v (vI (z2 + 1))) ∧ z4.Nxt q1 [(0, .v (.c (.int .u64 (q1.u / 256)))), (5, .v (vO 0)), (22, .v (vI w)), (23, .v (vI (z2 + 1)))] [.lst .u8 (List.set q1.out q1.v (q1.u % 256))])) ∧ ((decide (z2 < w)) = false → (.v (vT (List.map toByte q1.out)) : S) = .v z6 ∧ z8 = [])))))) (by kernel_rfl) ?_
  refine ⟨(widthOk_i _), fun h1 => have q1 := bnot_t h1; have p1 := widthOk_f q1; ?_, fun h1 => have q1 := bnot_f h1; have p1 := widthOk_t q1; ?_⟩
  refine ⟨(congrArg S.v (congrArg V.c (congrArg C.str ?_))), rfl⟩
  rotate_left
  have hw8 := widthOk_t (by simpa using h1)
  refine ⟨fun h2 => have p2 := of_decide_eq_true h2; ?_, fun h2 => have p2 := of_decide_eq_false h2; ?_⟩
  refine ⟨(by decide), (as_shr (k := 32) (by decide) (by decide)), fun h3 => have q3 := bnot_t h3; have p3 := of_decide_eq_false q3; ?_, fun h3 => have q3 := bnot_f h3; have p3 := of_decide_eq_true q3; ?_⟩
  refine ⟨(congrArg S.v (congrArg V.c (congrArg C.str ?_))), rfl⟩
  rotate_left
  refine ⟨(by omega), (by omega), (by omega), (by omega), (as_int (by rw [List.length_replicate]; omega)), has_of (j := (⟨u, List.replicate (w.toNat) (0 : Int), 0⟩ : putFix_i_V0)) (by first | rfl | simp) rfl (by dsimp only [putFix_i_F0]; exact ⟨by omega, by simp, by simp, by simp; omega⟩), fun (q1 : putFix_i_V0) hq_q1 => ?_⟩
  have hi_q1 : q1.v ≤ (w.toNat) ∧ q1.out.length = (w.toNat) ∧ List.take q1.v q1.out = List.take q1.v (fixL (u.toNat) (w.toNat)) ∧ q1.u = ((u.toNat / 256 ^ q1.v : Nat) : Int) := hq_q1
  obtain ⟨v1, v2, v3, v4⟩ := hi_q1
  have hu0 : (0 : Int) ≤ q1.u := by rw [v4]; exact Int.natCast_nonneg _
  have hu1 : q1.u ≤ 18446744073709551615 := by rw [v4]; have := Nat.div_le_self (u.toNat) (256 ^ q1.v); omega
  refine ⟨fun h4 => have p4 := of_decide_eq_true h4; ?_, fun h4 => have p4 := of_decide_eq_false h4; ?_⟩
  refine ⟨(as_mod8 (by omega)), (ax_get (l := q1.out) (i := q1.v) (by omega)), fun x1 hx1 => ?_⟩
  exact ⟨(by omega), (by omega), hx1, (by decide), (as_shr (k := 8) (by decide) (by decide)), (as_i64 (by omega) (by omega)), nxt_of (j := (⟨q1.u / 256, List.set q1.out q1.v (q1.u % 256), q1.v + 1⟩ : putFix_i_V0)) (by first | rfl | simp) rfl (by dsimp only [putFix_i_F0]; exact ⟨by omega, by simp [v2], fill_set v3 (by rw [v2, fixL_len]) (by rw [fixL_get (by omega), v4]; simp <;> omega), by rw [v4, fixU_step]⟩) (by dsimp only [putFix_i_F0]; omega)⟩
  have hq := fill_done v3 (by rw [v2, fixL_len]) (by rw [fixL_len]; omega)
  refine ⟨(congrArg S.v (congrArg V.c (congrArg C.str ?_))), rfl⟩
  rotate_left
  refine ⟨(by omega), (by omega), (by omega), (by omega), (as_int (by rw [List.length_replicate]; omega)), has_of (j := (⟨u, List.replicate (w.toNat) (0 : Int), 0⟩ : putFix_i_V0)) (by first | rfl | simp) rfl (by dsimp only [putFix_i_F0]; exact ⟨by omega, by simp, by simp, by simp; omega⟩), fun (q1 : putFix_i_V0) hq_q1 => ?_⟩
  have hi_q1 : q1.v ≤ (w.toNat) ∧ q1.out.length = (w.toNat) ∧ List.take q1.v q1.out = List.take q1.v (fixL (u.toNat) (w.toNat)) ∧ q1.u = ((u.toNat / 256 ^ q1.v : Nat) : Int) := hq_q1
  obtain ⟨v1, v2, v3, v4⟩ := hi_q1
  have hu0 : (0 : Int) ≤ q1.u := by rw [v4]; exact Int.natCast_nonneg _
  have hu1 : q1.u ≤ 18446744073709551615 := by rw [v4]; have := Nat.div_le_self (u.toNat) (256 ^ q1.v); omega
  refine ⟨fun h3 => have p3 := of_decide_eq_true h3; ?_, fun h3 => have p3 := of_decide_eq_false h3; ?_⟩
  refine ⟨(as_mod8 (by omega)), (ax_get (l := q1.out) (i := q1.v) (by omega)), fun x1 hx1 => ?_⟩
  exact ⟨(by omega), (by omega), hx1, (by decide), (as_shr (k := 8) (by decide) (by decide)), (as_i64 (by omega) (by omega)), nxt_of (j := (⟨q1.u / 256, List.set q1.out q1.v (q1.u % 256), q1.v + 1⟩ : putFix_i_V0)) (by first | rfl | simp) rfl (by dsimp only [putFix_i_F0]; exact ⟨by omega, by simp [v2], fill_set v3 (by rw [v2, fixL_len]) (by rw [fixL_get (by omega), v4]; simp <;> omega), by rw [v4, fixU_step]⟩) (by dsimp only [putFix_i_F0]; omega)⟩
  have hq := fill_done v3 (by rw [v2, fixL_len]) (by rw [fixL_len]; omega)
  refine ⟨(congrArg S.v (congrArg V.c (congrArg C.str ?_))), rfl⟩
  rotate_left
  all_goals first | (rw [hq, fixL_put]; simp_all [putFix, widthOk]; omega) | (rw [hq, fixL_put]; simp_all [putFix, widthOk]) | (simp_all [putFix, widthOk]; done) | (simp_all [putFix, widthOk]; omega)
structure putFix_s_V0 where
  u : Int
  out : List Int
  i : Nat
def putFix_s_F0 (u : Int) (w : Int) : Fam := ⟨putFix_s_V0, fun q1 => [(0, .v (.c (.int .u64 q1.u))), (1, .v (vI w)), (5, .v (vO 0)), (6, .v (vI (q1.i : Int)))], fun q1 => [.lst .u8 q1.out], fun q1 => (q1.i : Int) ≤ w ∧ (0 : Int) ≤ q1.u ∧ q1.u ≤ 18446744073709551615 ∧ List.map toByte q1.out ++ putFixN (w.toNat - q1.i) (q1.u.toNat) = putFixN (w.toNat) (u.toNat) ∧ q1.out.length = q1.i, fun q1 => w.toNat - q1.i⟩

theorem putFix_s (u : Int) (w : Int) (hp1 : (0 : Int) ≤ u ∧ u ≤ 18446744073709551615) : Fun Try.prog 166 [.c (.int .u64 u), vI w] [] (.v (vT (putFix u w))) [] := by
  have hN : bigN = 274877906944 := rfl
  refine fun_ofw Try.func166 (by kernel_rfl) (by kernel_rfl) (w := let z5 := putFix_s_F0 u w; let z6 := (256 : Int) ≠ 0; let z8 := vT (putFix u w); let z9 : List Blk := [.lst .u8 ([] : List Int)]; let z10 := ([] : List Blk); let z11 := decide (4294967295 < u); let z7 := z11 = true → (.v (vT []) : S) = .v z8 ∧ z10 = []; let z12 := decide (w = 4); (.br (.br (.leaf () []) (.br (.br (.leaf () []) (.seg [.ty .u8, .at 0, .keep [0, 1, 5, 6], .sel [0]] (.loop z5 fun q1 => .br (.seg [.as 29 (.v (.c (.int .u64 (q1.u % 256)))), .as 30 (.v (.c (.int .u8 (q1.u % 256)))), .ty .u8, .ty .u8, .as 34 (.v (.c (.int .u64 (q1.u / 256)))), .as 26 (.v (vI ((q1.i : Int) + 1))), .at 0, .keep [0, 1, 5, 6], .sel [2]] (.next)) (.leaf () [])))) (.seg [.ty .u8, .at 0, .keep [0, 1, 5, 6], .sel [0]] (.loop z5 fun q1 => .br (.seg [.as 29 (.v (.c (.int .u64 (q1.u % 256)))), .as 30 (.v (.c (.int .u8 (q1.u % 256)))), .ty .u8, .ty .u8, .as 34 (.v (.c (.int .u64 (q1.u / 256)))), .as 26 (.v (vI ((q1.i : Int) + 1))), .at 0, .keep [0, 1, 5, 6], .sel [2]] (.next)) (.leaf () []))))) (.br (.br (.leaf () []) (.seg [.ty .u8, .at 0, .keep [0, 1, 5, 6], .sel [0]] (.loop z5 fun q1 => .br (.seg [.as 29 (.v (.c (.int .u64 (q1.u % 256)))), .as 30 (.v (.c (.int .u8 (q1.u % 256)))), .ty .u8, .ty .u8, .as 34 (.v (.c (.int .u64 (q1.u / 256)))), .as 26 (.v (vI ((q1.i : Int) + 1))), .at 0, .keep [0, 1, 5, 6], .sel [2]] (.next)) (.leaf () [])))) (.seg [.ty .u8, .at 0, .keep [0, 1, 5, 6], .sel [0]] (.loop z5 fun q1 => .br (.seg [.as 29 (.v (.c (.int .u64 (q1.u % 256)))), .as 30 (.v (.c (.int .u8 (q1.u % 256)))), .ty .u8, .ty .u8, .as 34 (.v (.c (.int .u64 (q1.u / 256)))), .as 26 (.v (vI ((q1.i : Int) + 1))), .at 0, .keep [0, 1, 5, 6], .sel [2]] (.next)) (.leaf () [])))), ((!decide (w = 4)) = true → ((!decide (w = 8)) = true → (.v (vT []) : S) = .v z8 ∧ z10 = []) ∧ ((!decide (w = 8)) = false → (z12 = true → z7 ∧ (z11 = false → z5.Has [(0, .v (.c (.int .u64 u))), (1, .v (vI w)), (5, .v (vO 0)), (6, .v (vI 0))] z9 ∧ ∀ q1, z5.inv q1 → (let z1 := (q1.i : Int); ((decide (z1 < w)) = true → z6 ∧ ((.v (.c (.int .u64 (Int.tmod q1.u 256))) : S) = .v (.c (.int .u64 (q1.u % 256)))) ∧ ((.v (.c (.int .u8 (IntKind.u8.wrap (q1.u % 256)))) : S) = .v (.c (.int .u8 (q1.u % 256)))) ∧ (q1.out.length + List.length [q1.u % 256] ≤ bigN) ∧ z6 ∧ ((.v (.c (.int .u64 (IntKind.u64.wrap (Int.tdiv q1.u 256)))) : S) = .v (.c (.int .u64 (q1.u / 256)))) ∧ ((.v (vI (IntKind.i64.wrap (z1 + 1))) : S) = .v (vI (z1 + 1))) ∧ z5.Nxt q1 [(0, .v (.c (.int .u64 (q1.u / 256)))), (1, .v (vI w)), (5, .v (vO 0)), (6, .v (vI (z1 + 1)))] [.lst .u8 (q1.out ++ [q1.u % 256])]) ∧ ((decide (z1 < w)) = false → (.v (vT (List.map toByte q1.out)) : S) = .v z8 ∧ z10 = [])))) ∧ (z12 = false → z5.Has [(0, .v (.c (.int .u64 u))), (1, .v (vI w)), (5, .v (vO 0)), (6, .v (vI 0))] z9 ∧ ∀ q1, z5.inv q1 → (let z2 := (q1.i : Int); ((decide (z2 < w)) = true → z6 ∧ ((.v (.c (.int .u64 (Int.tmod q1.u 256))) : S) = .v (.c (.int .u64 (q1.u % 256)))) ∧ ((.v (.c (.int .u8 (IntKind.u8.wrap (q1.u % 256)))) : S) = .v (.c (.int .u8 (q1.u % 256)))) ∧ (q1.out.length + List.length [q1.u % 256] ≤ bigN) ∧ z6 ∧ ((.v (.c (.int .u64 (IntKind.u64.wrap (Int.tdiv q1.u 256)))) : S) = .v (.c (.int .u64 (q1.u / 256)))) ∧ ((.v (vI (IntKind.i64.wrap (z2 + 1))) : S) = .v (vI (z2 + 1))) ∧ z5.Nxt q1 [(0, .v (.c (.int .u64 (q1.u / 256)))), (1, .v (vI w)), (5, .v (vO 0)), (6, .v (vI (z2 + 1)))] [.lst .u8 (q1.out ++ [q1.u % 256])]) ∧ ((decide (z2 < w)) = false → (.v (vT (List.map toByte q1.out)) : S) = .v z8 ∧ z10 = []))))) ∧ ((!decide (w = 4)) = false → (z12 = true → z7 ∧ (z11 = false → z5.Has [(0, .v (.c (.int .u64 u))), (1, .v (vI w)), (5, .v (vO 0)), (6, .v (vI 0))] z9 ∧ ∀ q1, z5.inv q1 → (let z3 := (q1.i : Int); ((decide (z3 < w)) = true → z6 ∧ ((.v (.c (.int .u64 (Int.tmod q1.u 256))) : S) = .v (.c (.int .u64 (q1.u % 256)))) ∧ ((.v (.c (.int .u8 (IntKind.u8.wrap (q1.u % 256)))) : S) = .v (.c (.int .u8 (q1.u % 256)))) ∧ (q1.out.length + List.length [q1.u % 256] ≤ bigN) ∧ z6 ∧ ((.v (.c (.int .u64 (IntKind.u64.wrap (Int.tdiv q1.u 256)))) : S) = .v (.c (.int .u64 (q1.u / 256)))) ∧ ((.v (vI (IntKind.i64.wrap (z3 + 1))) : S) = .v (vI (z3 + 1))) ∧ z5.Nxt q1 [(0, .v (.c (.int .u64 (q1.u / 256)))), (1, .v (vI w)), (5, .v (vO 0)), (6, .v (vI (z3 + 1)))] [.lst .u8 (q1.out ++ [q1.u % 256])]) ∧ ((decide (z3 < w)) = false → (.v (vT (List.map toByte q1.out)) : S) = .v z8 ∧ z10 = [])))) ∧ (z12 = false → z5.Has [(0, .v (.c (.int .u64 u))), (1, .v (vI w)), (5, .v (vO 0)), (6, .v (vI 0))] z9 ∧ ∀ q1, z5.inv q1 → (let z4 := (q1.i : Int); ((decide (z4 < w)) = true → z6 ∧ ((.v (.c (.int .u64 (Int.tmod q1.u 256))) : S) = .v (.c (.int .u64 (q1.u % 256)))) ∧ ((.v (.c (.int .u8 (IntKind.u8.wrap (q1.u % 256)))) : S) = .v (.c (.int .u8 (q1.u % 256)))) ∧ (q1.out.length + List.length [q1.u % 256] ≤ bigN) ∧ z6 ∧ ((.v (.c (.int .u64 (IntKind.u64.wrap (Int.tdiv q1.u 256)))) : S) = .v (.c (.int .u64 (q1.u / 256)))) ∧ ((.v (vI (IntKind.i64.wrap (z4 + 1))) : S) = .v (vI (z4 + 1))) ∧ z5.Nxt q1 [(0, .v (.c (.int .u64 (q1.u / 256)))), (1, .v (vI w)), (5, .v (vO 0)), (6, .v (vI (z4 + 1)))] [.lst .u8 (q1.out ++ [q1.u % 256])]) ∧ ((decide (z4 < w)) = false → (.v (vT (List.map toByte q1.out)) : S) = .v z8 ∧ z10 = [])))))) (by kernel_rfl) ?_
  refine ⟨fun h1 => have q1 := bnot_t h1; have p1 := of_decide_eq_false q1; ?_, fun h1 => have q1 := bnot_f h1; have p1 := of_decide_eq_true q1; ?_⟩
  refine ⟨fun h2 => have q2 := bnot_t h2; have p2 := of_decide_eq_false q2; ?_, fun h2 => have q2 := bnot_f h2; have p2 := of_decide_eq_true q2; ?_⟩
  refine ⟨(congrArg S.v (congrArg V.c (congrArg C.str ?_))), rfl⟩
  rotate_left
  refine ⟨fun h3 => have p3 := of_decide_eq_true h3; ?_, fun h3 => have p3 := of_decide_eq_false h3; ?_⟩
  refine ⟨fun h4 => have p4 := of_decide_eq_true h4; ?_, fun h4 => have p4 := of_decide_eq_false h4; ?_⟩
  refine ⟨(congrArg S.v (congrArg V.c (congrArg C.str ?_))), rfl⟩
  rotate_left
  refine ⟨has_of (j := (⟨u, ([] : List Int), 0⟩ : putFix_s_V0)) (by first | rfl | simp) rfl (by dsimp only [putFix_s_F0]; exact ⟨by omega, by omega, by omega, by simp, by simp⟩), fun (q1 : putFix_s_V0) hq_q1 => ?_⟩
  have hi_q1 : (q1.i : Int) ≤ w ∧ (0 : Int) ≤ q1.u ∧ q1.u ≤ 18446744073709551615 ∧ List.map toByte q1.out ++ putFixN (w.toNat - q1.i) (q1.u.toNat) = putFixN (w.toNat) (u.toNat) ∧ q1.out.length = q1.i := hq_q1
  obtain ⟨v1, v2, v3, v4, v5⟩ := hi_q1
  refine ⟨fun h5 => have p5 := of_decide_eq_true h5; ?_, fun h5 => have p5 := of_decide_eq_false h5; ?_⟩
  exact ⟨(by decide), (as_tmod (by omega)), (as_u8 (by omega) (by omega)), (by simp only [List.length_cons, List.length_nil]; omega), (by decide), (as_tdiv_u64 (by omega) (by omega) (by decide)), (as_i64 (by omega) (by omega)), nxt_of (j := (⟨q1.u / 256, q1.out ++ [q1.u % 256], q1.i + 1⟩ : putFix_s_V0)) (by first | rfl | simp) rfl (by dsimp only [putFix_s_F0]; exact ⟨by omega, by omega, by omega, by rw [← v4, show w.toNat - q1.i = (w.toNat - (q1.i + 1)) + 1 by omega, putFixN, show Int.toNat (q1.u / 256) = q1.u.toNat / 256 by omega]; simp only [List.map_append, List.map_cons, List.map_nil, List.append_assoc, List.cons_append, List.nil_append, toByte]; rw [show Int.toNat (q1.u % 256) = q1.u.toNat % 256 by omega], by simp [v5]⟩) (by dsimp only [putFix_s_F0]; omega)⟩
  have hz : w.toNat - q1.i = 0 := by omega
  rw [hz] at v4
  simp only [putFixN, List.append_nil] at v4
  refine ⟨(congrArg S.v (congrArg V.c (congrArg C.str ?_))), rfl⟩
  rotate_left
  refine ⟨has_of (j := (⟨u, ([] : List Int), 0⟩ : putFix_s_V0)) (by first | rfl | simp) rfl (by dsimp only [putFix_s_F0]; exact ⟨by omega, by omega, by omega, by simp, by simp⟩), fun (q1 : putFix_s_V0) hq_q1 => ?_⟩
  have hi_q1 : (q1.i : Int) ≤ w ∧ (0 : Int) ≤ q1.u ∧ q1.u ≤ 18446744073709551615 ∧ List.map toByte q1.out ++ putFixN (w.toNat - q1.i) (q1.u.toNat) = putFixN (w.toNat) (u.toNat) ∧ q1.out.length = q1.i := hq_q1
  obtain ⟨v1, v2, v3, v4, v5⟩ := hi_q1
  refine ⟨fun h4 => have p4 := of_decide_eq_true h4; ?_, fun h4 => have p4 := of_decide_eq_false h4; ?_⟩
  exact ⟨(by decide), (as_tmod (by omega)), (as_u8 (by omega) (by omega)), (by simp only [List.length_cons, List.length_nil]; omega), (by decide), (as_tdiv_u64 (by omega) (by omega) (by decide)), (as_i64 (by omega) (by omega)), nxt_of (j := (⟨q1.u / 256, q1.out ++ [q1.u % 256], q1.i + 1⟩ : putFix_s_V0)) (by first | rfl | simp) rfl (by dsimp only [putFix_s_F0]; exact ⟨by omega, by omega, by omega, by rw [← v4, show w.toNat - q1.i = (w.toNat - (q1.i + 1)) + 1 by omega, putFixN, show Int.toNat (q1.u / 256) = q1.u.toNat / 256 by omega]; simp only [List.map_append, List.map_cons, List.map_nil, List.append_assoc, List.cons_append, List.nil_append, toByte]; rw [show Int.toNat (q1.u % 256) = q1.u.toNat % 256 by omega], by simp [v5]⟩) (by dsimp only [putFix_s_F0]; omega)⟩
  have hz : w.toNat - q1.i = 0 := by omega
  rw [hz] at v4
  simp only [putFixN, List.append_nil] at v4
  refine ⟨(congrArg S.v (congrArg V.c (congrArg C.str ?_))), rfl⟩
  rotate_left
  refine ⟨fun h2 => have p2 := of_decide_eq_true h2; ?_, fun h2 => have p2 := of_decide_eq_false h2; ?_⟩
  refine ⟨fun h3 => have p3 := of_decide_eq_true h3; ?_, fun h3 => have p3 := of_decide_eq_false h3; ?_⟩
  refine ⟨(congrArg S.v (congrArg V.c (congrArg C.str ?_))), rfl⟩
  rotate_left
  refine ⟨has_of (j := (⟨u, ([] : List Int), 0⟩ : putFix_s_V0)) (by first | rfl | simp) rfl (by dsimp only [putFix_s_F0]; exact ⟨by omega, by omega, by omega, by simp, by simp⟩), fun (q1 : putFix_s_V0) hq_q1 => ?_⟩
  have hi_q1 : (q1.i : Int) ≤ w ∧ (0 : Int) ≤ q1.u ∧ q1.u ≤ 18446744073709551615 ∧ List.map toByte q1.out ++ putFixN (w.toNat - q1.i) (q1.u.toNat) = putFixN (w.toNat) (u.toNat) ∧ q1.out.length = q1.i := hq_q1
  obtain ⟨v1, v2, v3, v4, v5⟩ := hi_q1
  refine ⟨fun h4 => have p4 := of_decide_eq_true h4; ?_, fun h4 => have p4 := of_decide_eq_false h4; ?_⟩
  exact ⟨(by decide), (as_tmod (by omega)), (as_u8 (by omega) (by omega)), (by simp only [List.length_cons, List.length_nil]; omega), (by decide), (as_tdiv_u64 (by omega) (by omega) (by decide)), (as_i64 (by omega) (by omega)), nxt_of (j := (⟨q1.u / 256, q1.out ++ [q1.u % 256], q1.i + 1⟩ : putFix_s_V0)) (by first | rfl | simp) rfl (by dsimp only [putFix_s_F0]; exact ⟨by omega, by omega, by omega, by rw [← v4, show w.toNat - q1.i = (w.toNat - (q1.i + 1)) + 1 by omega, putFixN, show Int.toNat (q1.u / 256) = q1.u.toNat / 256 by omega]; simp only [List.map_append, List.map_cons, List.map_nil, List.append_assoc, List.cons_append, List.nil_append, toByte]; rw [show Int.toNat (q1.u % 256) = q1.u.toNat % 256 by omega], by simp [v5]⟩) (by dsimp only [putFix_s_F0]; omega)⟩
  have hz : w.toNat - q1.i = 0 := by omega
  rw [hz] at v4
  simp only [putFixN, List.append_nil] at v4
  refine ⟨(congrArg S.v (congrArg V.c (congrArg C.str ?_))), rfl⟩
  rotate_left
  refine ⟨has_of (j := (⟨u, ([] : List Int), 0⟩ : putFix_s_V0)) (by first | rfl | simp) rfl (by dsimp only [putFix_s_F0]; exact ⟨by omega, by omega, by omega, by simp, by simp⟩), fun (q1 : putFix_s_V0) hq_q1 => ?_⟩
  have hi_q1 : (q1.i : Int) ≤ w ∧ (0 : Int) ≤ q1.u ∧ q1.u ≤ 18446744073709551615 ∧ List.map toByte q1.out ++ putFixN (w.toNat - q1.i) (q1.u.toNat) = putFixN (w.toNat) (u.toNat) ∧ q1.out.length = q1.i := hq_q1
  obtain ⟨v1, v2, v3, v4, v5⟩ := hi_q1
  refine ⟨fun h3 => have p3 := of_decide_eq_true h3; ?_, fun h3 => have p3 := of_decide_eq_false h3; ?_⟩
  exact ⟨(by decide), (as_tmod (by omega)), (as_u8 (by omega) (by omega)), (by simp only [List.length_cons, List.length_nil]; omega), (by decide), (as_tdiv_u64 (by omega) (by omega) (by decide)), (as_i64 (by omega) (by omega)), nxt_of (j := (⟨q1.u / 256, q1.out ++ [q1.u % 256], q1.i + 1⟩ : putFix_s_V0)) (by first | rfl | simp) rfl (by dsimp only [putFix_s_F0]; exact ⟨by omega, by omega, by omega, by rw [← v4, show w.toNat - q1.i = (w.toNat - (q1.i + 1)) + 1 by omega, putFixN, show Int.toNat (q1.u / 256) = q1.u.toNat / 256 by omega]; simp only [List.map_append, List.map_cons, List.map_nil, List.append_assoc, List.cons_append, List.nil_append, toByte]; rw [show Int.toNat (q1.u % 256) = q1.u.toNat % 256 by omega], by simp [v5]⟩) (by dsimp only [putFix_s_F0]; omega)⟩
  have hz : w.toNat - q1.i = 0 := by omega
  rw [hz] at v4
  simp only [putFixN, List.append_nil] at v4
  refine ⟨(congrArg S.v (congrArg V.c (congrArg C.str ?_))), rfl⟩
  rotate_left
  all_goals first | (rw [v4]; simp_all [putFix, widthOk]; done) | (rw [v4]; simp_all [putFix, widthOk]; omega) | (simp_all [putFix, widthOk]; done) | (simp_all [putFix, widthOk]; omega)
theorem tagOf_i (n : Int) (w : Int) : Fun Try.prog 148 [vI n, vI w] [] (.v (.c (.int .u64 (tagOf n w)))) [] := by
  have hN : bigN = 274877906944 := rfl
  refine fun_ofw Try.func148 (by kernel_rfl) (by kernel_rfl) (w := let z1 := within n 1 536870911; let z2 := within w 0 7; let z3 := (8 * n) + w; (.seg [.call [] (.v (vB z1)) []] (.br (.leaf () []) (.seg [.call [] (.v (vB z2)) []] (.br (.leaf () []) (.seg [.as 14 (.v (.c (.int .u64 n))), .as 15 (.v (.c (.int .u64 (8 * n)))), .as 17 (.v (.c (.int .u64 w))), .as 18 (.v (.c (.int .u64 z3)))] (.leaf () []))))), (Fun Try.prog 49 [vI n, vI 1, vI 536870911] [] (.v (vB z1)) []) ∧ ((!z1) = true → (.v (.c (.int .u64 0)) : S) = .v (.c (.int .u64 (tagOf n w))) ∧ ([] : List Blk) = []) ∧ ((!z1) = false → (Fun Try.prog 49 [vI w, vI 0, vI 7] [] (.v (vB z2)) []) ∧ ((!z2) = true → (.v (.c (.int .u64 0)) : S) = .v (.c (.int .u64 (tagOf n w))) ∧ ([] : List Blk) = []) ∧ ((!z2) = false → ((.v (.c (.int .u64 (IntKind.u64.wrap (n)))) : S) = .v (.c (.int .u64 n))) ∧ ((.v (.c (.int .u64 (IntKind.u64.wrap (8 * n)))) : S) = .v (.c (.int .u64 (8 * n)))) ∧ ((.v (.c (.int .u64 (IntKind.u64.wrap (w)))) : S) = .v (.c (.int .u64 w))) ∧ ((.v (.c (.int .u64 (IntKind.u64.wrap z3))) : S) = .v (.c (.int .u64 z3))) ∧ (.v (.c (.int .u64 z3)) : S) = .v (.c (.int .u64 (tagOf n w))) ∧ ([] : List Blk) = [])))) (by kernel_rfl) ?_
  refine ⟨(within_i _ _ _), fun h1 => have q1 := bnot_t h1; have p1 := within_f q1; ?_, fun h1 => have q1 := bnot_f h1; have p1 := within_t q1; ?_⟩
  exact ⟨(congrArg S.v (congrArg V.c (congrArg (C.int .u64) (by simp [tagOf, *])))), rfl⟩
  refine ⟨(within_i _ _ _), fun h2 => have q2 := bnot_t h2; have p2 := within_f q2; ?_, fun h2 => have q2 := bnot_f h2; have p2 := within_t q2; ?_⟩
  exact ⟨(congrArg S.v (congrArg V.c (congrArg (C.int .u64) (by simp [tagOf, *])))), rfl⟩
  exact ⟨(as_u64 (by omega) (by omega)), (as_u64 (by omega) (by omega)), (as_u64 (by omega) (by omega)), (as_u64 (by omega) (by omega)), (congrArg S.v (congrArg V.c (congrArg (C.int .u64) (by simp [tagOf, *])))), rfl⟩
theorem tagOf_s (n : Int) (w : Int) : Fun Try.prog 168 [vI n, vI w] [] (.v (.c (.int .u64 (tagOf n w)))) [] := by
  have hN : bigN = 274877906944 := rfl
  refine fun_ofw Try.func168 (by kernel_rfl) (by kernel_rfl) (w := let z1 := (8 * n) + w; let z2 := within n 1 536870911; let z3 := within w 0 7; (.seg [.call [] (.v (vB z2)) []] (.br (.leaf () []) (.seg [.call [] (.v (vB z3)) []] (.br (.leaf () []) (.seg [.as 14 (.v (vI (8 * n))), .as 16 (.v (vI z1)), .as 17 (.v (.c (.int .u64 z1)))] (.leaf () []))))), (Fun Try.prog 47 [vI n, vI 1, vI 536870911] [] (.v (vB z2)) []) ∧ ((!z2) = true → (.v (.c (.int .u64 0)) : S) = .v (.c (.int .u64 (tagOf n w))) ∧ ([] : List Blk) = []) ∧ ((!z2) = false → (Fun Try.prog 47 [vI w, vI 0, vI 7] [] (.v (vB z3)) []) ∧ ((!z3) = true → (.v (.c (.int .u64 0)) : S) = .v (.c (.int .u64 (tagOf n w))) ∧ ([] : List Blk) = []) ∧ ((!z3) = false → ((.v (vI (IntKind.i64.wrap (8 * n))) : S) = .v (vI (8 * n))) ∧ ((.v (vI (IntKind.i64.wrap z1)) : S) = .v (vI z1)) ∧ ((.v (.c (.int .u64 (IntKind.u64.wrap z1))) : S) = .v (.c (.int .u64 z1))) ∧ (.v (.c (.int .u64 z1)) : S) = .v (.c (.int .u64 (tagOf n w))) ∧ ([] : List Blk) = [])))) (by kernel_rfl) ?_
  refine ⟨(within_s _ _ _), fun h1 => have q1 := bnot_t h1; have p1 := within_f q1; ?_, fun h1 => have q1 := bnot_f h1; have p1 := within_t q1; ?_⟩
  exact ⟨(congrArg S.v (congrArg V.c (congrArg (C.int .u64) (by simp [tagOf, *])))), rfl⟩
  refine ⟨(within_s _ _ _), fun h2 => have q2 := bnot_t h2; have p2 := within_f q2; ?_, fun h2 => have q2 := bnot_f h2; have p2 := within_t q2; ?_⟩
  exact ⟨(congrArg S.v (congrArg V.c (congrArg (C.int .u64) (by simp [tagOf, *])))), rfl⟩
  exact ⟨(as_i64 (by omega) (by omega)), (as_i64 (by omega) (by omega)), (as_u64 (by omega) (by omega)), (congrArg S.v (congrArg V.c (congrArg (C.int .u64) (by simp [tagOf, *])))), rfl⟩
theorem tagIn_i (u : Int) (hp1 : (0 : Int) ≤ u ∧ u ≤ 18446744073709551615) : Fun Try.prog 86 [.c (.int .u64 u)] [] (.tup [vI (tagNum u), vI (tagWire u), vB (tagOk u)]) [] := by
  have hN : bigN = 274877906944 := rfl
  refine fun_ofw Try.func86 (by kernel_rfl) (by kernel_rfl) (w := let z1 : List V := [vI (tagNum u), vI (tagWire u), vB (tagOk u)]; let z2 := (.v (.c (.int .u64 (Int.fdiv u (2 ^ 3)))) : S) = .v (.c (.int .u64 (u / 8))); let z3 := (.tup [vI 0, vI 0, vB false] : S); (.br (.leaf () []) (.seg [.as 9 (.v (.c (.int .u64 (u / 8))))] (.br (.leaf () []) (.seg [.as 13 (.v (.c (.int .u64 (u / 8)))), .as 14 (.v (vI (u / 8))), .as 16 (.v (.c (.int .u64 (u % 8)))), .as 17 (.v (vI (u % 8)))] (.leaf () [])))), ((decide (u < 8)) = true → z3 = .tup z1 ∧ ([] : List Blk) = []) ∧ ((decide (u < 8)) = false → ((0 : Int) ≤ 3) ∧ z2 ∧ ((decide (536870911 < u / 8)) = true → z3 = .tup z1 ∧ ([] : List Blk) = []) ∧ ((decide (536870911 < u / 8)) = false → ((0 : Int) ≤ 3) ∧ z2 ∧ ((.v (vI (IntKind.i64.wrap (u / 8))) : S) = .v (vI (u / 8))) ∧ ((.v (.c (.int .u64 (IntKind.u64.wrap (((BitVec.ofInt 64 u &&& BitVec.ofInt 64 7).toNat : Nat))))) : S) = .v (.c (.int .u64 (u % 8)))) ∧ ((.v (vI (IntKind.i64.wrap (u % 8))) : S) = .v (vI (u % 8))) ∧ (.tup [vI (u / 8), vI (u % 8), vB true] : S) = .tup z1 ∧ ([] : List Blk) = [])))) (by kernel_rfl) ?_
  refine ⟨fun h1 => have p1 := of_decide_eq_true h1; ?_, fun h1 => have p1 := of_decide_eq_false h1; ?_⟩
  refine ⟨(congrArg S.tup (consE (congrArg V.c (congrArg (C.int .i64) ?_)) (consE (congrArg V.c (congrArg (C.int .i64) ?_)) (consE (congrArg V.c (congrArg C.bool ?_)) rfl)))), rfl⟩
  rotate_left 3
  refine ⟨(by decide), (as_shr (k := 3) (by decide) (by decide)), fun h2 => have p2 := of_decide_eq_true h2; ?_, fun h2 => have p2 := of_decide_eq_false h2; ?_⟩
  refine ⟨(congrArg S.tup (consE (congrArg V.c (congrArg (C.int .i64) ?_)) (consE (congrArg V.c (congrArg (C.int .i64) ?_)) (consE (congrArg V.c (congrArg C.bool ?_)) rfl)))), rfl⟩
  rotate_left 3
  refine ⟨(by decide), (as_shr (k := 3) (by decide) (by decide)), (as_i64 (by omega) (by omega)), (as_mask_u64 (k := 3) (by decide) (by decide)), (as_i64 (by omega) (by omega)), (congrArg S.tup (consE (congrArg V.c (congrArg (C.int .i64) ?_)) (consE (congrArg V.c (congrArg (C.int .i64) ?_)) (consE (congrArg V.c (congrArg C.bool ?_)) rfl)))), rfl⟩
  rotate_left 3
  all_goals first | ((have ht : tagOk u = true := by (simp [tagOk, within]; omega)); simp [tagNum, tagWire, ht]) | ((have ht : tagOk u = false := by (simp [tagOk, within]; omega)); simp [tagNum, tagWire, ht])
theorem tagIn_s (u : Int) (hp1 : (0 : Int) ≤ u ∧ u ≤ 18446744073709551615) : Fun Try.prog 80 [.c (.int .u64 u)] [] (.tup [vI (tagNum u), vI (tagWire u), vB (tagOk u)]) [] := by
  have hN : bigN = 274877906944 := rfl
  refine fun_ofw Try.func80 (by kernel_rfl) (by kernel_rfl) (w := let z1 : List V := [vI (tagNum u), vI (tagWire u), vB (tagOk u)]; let z2 := (.tup [vI 0, vI 0, vB false] : S); (.br (.leaf () []) (.br (.leaf () []) (.seg [.as 12 (.v (.c (.int .u64 (u / 8)))), .as 13 (.v (vI (u / 8))), .as 15 (.v (.c (.int .u64 (u % 8)))), .as 16 (.v (vI (u % 8)))] (.leaf () []))), ((decide (u < 8)) = true → z2 = .tup z1 ∧ ([] : List Blk) = []) ∧ ((decide (u < 8)) = false → ((decide (4294967295 < u)) = true → z2 = .tup z1 ∧ ([] : List Blk) = []) ∧ ((decide (4294967295 < u)) = false → ((8 : Int) ≠ 0) ∧ ((.v (.c (.int .u64 (IntKind.u64.wrap (Int.tdiv u 8)))) : S) = .v (.c (.int .u64 (u / 8)))) ∧ ((.v (vI (IntKind.i64.wrap (u / 8))) : S) = .v (vI (u / 8))) ∧ ((8 : Int) ≠ 0) ∧ ((.v (.c (.int .u64 (Int.tmod u 8))) : S) = .v (.c (.int .u64 (u % 8)))) ∧ ((.v (vI (IntKind.i64.wrap (u % 8))) : S) = .v (vI (u % 8))) ∧ (.tup [vI (u / 8), vI (u % 8), vB true] : S) = .tup z1 ∧ ([] : List Blk) = [])))) (by kernel_rfl) ?_
  refine ⟨fun h1 => have p1 := of_decide_eq_true h1; ?_, fun h1 => have p1 := of_decide_eq_false h1; ?_⟩
  refine ⟨(congrArg S.tup (consE (congrArg V.c (congrArg (C.int .i64) ?_)) (consE (congrArg V.c (congrArg (C.int .i64) ?_)) (consE (congrArg V.c (congrArg C.bool ?_)) rfl)))), rfl⟩
  rotate_left 3
  refine ⟨fun h2 => have p2 := of_decide_eq_true h2; ?_, fun h2 => have p2 := of_decide_eq_false h2; ?_⟩
  refine ⟨(congrArg S.tup (consE (congrArg V.c (congrArg (C.int .i64) ?_)) (consE (congrArg V.c (congrArg (C.int .i64) ?_)) (consE (congrArg V.c (congrArg C.bool ?_)) rfl)))), rfl⟩
  rotate_left 3
  refine ⟨(by decide), (as_tdiv_u64 (by omega) (by omega) (by decide)), (as_i64 (by omega) (by omega)), (by decide), (as_tmod (by omega)), (as_i64 (by omega) (by omega)), (congrArg S.tup (consE (congrArg V.c (congrArg (C.int .i64) ?_)) (consE (congrArg V.c (congrArg (C.int .i64) ?_)) (consE (congrArg V.c (congrArg C.bool ?_)) rfl)))), rfl⟩
  rotate_left 3
  all_goals first | ((have ht : tagOk u = true := by (simp [tagOk, within]; omega)); simp [tagNum, tagWire, ht]) | ((have ht : tagOk u = false := by (simp [tagOk, within]; omega)); simp [tagNum, tagWire, ht])
theorem failure_i (c : Int) (a : Int) : Fun Try.prog 120 [vI c, vI a] [] (.v (.agg (cEv (failEv c a)))) [] := by
  have hN : bigN = 274877906944 := rfl
  refine fun_ofw Try.func120 (by kernel_rfl) (by kernel_rfl) (w := (.leaf () [], (.v (.agg [.int .i64 10, .int .i64 0, .int .u64 0, .int .i64 0, .str [], .int .i64 c, .int .i64 a]) : S) = .v (.agg (cEv (failEv c a))) ∧ ([] : List Blk) = [])) (by kernel_rfl) ?_
  have hm1 : failEv c a = (⟨10, 0, 0, 0, [], c, a⟩ : Ev) := by rfl
  exact ⟨(congrArg S.v (congrArg V.agg (consE (congrArg (C.int .i64) (by rfl)) (consE (congrArg (C.int .i64) (by rfl)) (consE (congrArg (C.int .u64) (by rfl)) (consE (congrArg (C.int .i64) (by rfl)) (consE (congrArg C.str (by rfl)) (consE (congrArg (C.int .i64) (by rfl)) (consE (congrArg (C.int .i64) (by rfl)) rfl))))))))), rfl⟩
theorem failure_s (c : Int) (a : Int) : Fun Try.prog 72 [vI c, vI a] [] (.v (.agg (cEv (failEv c a)))) [] := by
  have hN : bigN = 274877906944 := rfl
  refine fun_ofw Try.func72 (by kernel_rfl) (by kernel_rfl) (w := (.leaf () [], (.v (.agg [.int .i64 10, .int .i64 0, .int .u64 0, .int .i64 0, .str [], .int .i64 c, .int .i64 a]) : S) = .v (.agg (cEv (failEv c a))) ∧ ([] : List Blk) = [])) (by kernel_rfl) ?_
  have hm1 : failEv c a = (⟨10, 0, 0, 0, [], c, a⟩ : Ev) := by rfl
  exact ⟨(congrArg S.v (congrArg V.agg (consE (congrArg (C.int .i64) (by rfl)) (consE (congrArg (C.int .i64) (by rfl)) (consE (congrArg (C.int .u64) (by rfl)) (consE (congrArg (C.int .i64) (by rfl)) (consE (congrArg C.str (by rfl)) (consE (congrArg (C.int .i64) (by rfl)) (consE (congrArg (C.int .i64) (by rfl)) rfl))))))))), rfl⟩
theorem numEvent_i (f : Fld) (u : Int) (hp1 : (0 : Int) ≤ u) : Fun Try.prog 92 [.agg (cFld f), .c (.int .u64 u)] [] (.v (.agg (cEv (numEv f u)))) [] := by
  have hN : bigN = 274877906944 := rfl
  refine fun_ofw Try.func92 (by kernel_rfl) (by kernel_rfl) (w := let z1 := (.v (.agg [.int .i64 2, .int .i64 f.number, .int .u64 u, .int .i64 0, .str [], .int .i64 0, .int .i64 0]) : S); (.br (.br (.leaf () []) (.leaf () [])) (.leaf () []), ((decide (f.kind = 3)) = true → ((!decide (u = 0)) = true → (.v (.agg [.int .i64 2, .int .i64 f.number, .int .u64 1, .int .i64 0, .str [], .int .i64 0, .int .i64 0]) : S) = .v (.agg (cEv (numEv f u))) ∧ ([] : List Blk) = []) ∧ ((!decide (u = 0)) = false → z1 = .v (.agg (cEv (numEv f u))) ∧ ([] : List Blk) = [])) ∧ ((decide (f.kind = 3)) = false → z1 = .v (.agg (cEv (numEv f u))) ∧ ([] : List Blk) = []))) (by kernel_rfl) ?_
  refine ⟨fun h1 => have p1 := of_decide_eq_true h1; ?_, fun h1 => have p1 := of_decide_eq_false h1; ?_⟩
  refine ⟨fun h2 => have q2 := bnot_t h2; have p2 := of_decide_eq_false q2; ?_, fun h2 => have q2 := bnot_f h2; have p2 := of_decide_eq_true q2; ?_⟩
  refine have hm1 : numEv f u = (⟨2, f.number, 1, 0, [], 0, 0⟩ : Ev) := ?_; ?_
  rotate_left
  refine ⟨(congrArg S.v (congrArg V.agg (consE (congrArg (C.int .i64) ?_) (consE (congrArg (C.int .i64) ?_) (consE (congrArg (C.int .u64) ?_) (consE (congrArg (C.int .i64) ?_) (consE (congrArg C.str ?_) (consE (congrArg (C.int .i64) ?_) (consE (congrArg (C.int .i64) ?_) rfl))))))))), rfl⟩
  rotate_left 7
  refine have hm1 : numEv f u = (⟨2, f.number, u, 0, [], 0, 0⟩ : Ev) := ?_; ?_
  rotate_left
  refine ⟨(congrArg S.v (congrArg V.agg (consE (congrArg (C.int .i64) ?_) (consE (congrArg (C.int .i64) ?_) (consE (congrArg (C.int .u64) ?_) (consE (congrArg (C.int .i64) ?_) (consE (congrArg C.str ?_) (consE (congrArg (C.int .i64) ?_) (consE (congrArg (C.int .i64) ?_) rfl))))))))), rfl⟩
  rotate_left 7
  refine have hm1 : numEv f u = (⟨2, f.number, u, 0, [], 0, 0⟩ : Ev) := ?_; ?_
  rotate_left
  refine ⟨(congrArg S.v (congrArg V.agg (consE (congrArg (C.int .i64) ?_) (consE (congrArg (C.int .i64) ?_) (consE (congrArg (C.int .u64) ?_) (consE (congrArg (C.int .i64) ?_) (consE (congrArg C.str ?_) (consE (congrArg (C.int .i64) ?_) (consE (congrArg (C.int .i64) ?_) rfl))))))))), rfl⟩
  rotate_left 7
  all_goals simp [numEv, *] <;> omega
theorem numEvent_s (f : Fld) (u : Int) (hp1 : (0 : Int) ≤ u) : Fun Try.prog 130 [.agg (cFld f), .c (.int .u64 u)] [] (.v (.agg (cEv (numEv f u)))) [] := by
  have hN : bigN = 274877906944 := rfl
  refine fun_ofw Try.func130 (by kernel_rfl) (by kernel_rfl) (w := let z1 := (.v (.agg [.int .i64 2, .int .i64 f.number, .int .u64 u, .int .i64 0, .str [], .int .i64 0, .int .i64 0]) : S); (.br (.br (.leaf () []) (.leaf () [])) (.leaf () []), ((decide (f.kind = 3)) = true → ((decide (1 < u)) = true → (.v (.agg [.int .i64 2, .int .i64 f.number, .int .u64 1, .int .i64 0, .str [], .int .i64 0, .int .i64 0]) : S) = .v (.agg (cEv (numEv f u))) ∧ ([] : List Blk) = []) ∧ ((decide (1 < u)) = false → z1 = .v (.agg (cEv (numEv f u))) ∧ ([] : List Blk) = [])) ∧ ((decide (f.kind = 3)) = false → z1 = .v (.agg (cEv (numEv f u))) ∧ ([] : List Blk) = []))) (by kernel_rfl) ?_
  refine ⟨fun h1 => have p1 := of_decide_eq_true h1; ?_, fun h1 => have p1 := of_decide_eq_false h1; ?_⟩
  refine ⟨fun h2 => have p2 := of_decide_eq_true h2; ?_, fun h2 => have p2 := of_decide_eq_false h2; ?_⟩
  refine have hm1 : numEv f u = (⟨2, f.number, 1, 0, [], 0, 0⟩ : Ev) := ?_; ?_
  rotate_left
  refine ⟨(congrArg S.v (congrArg V.agg (consE (congrArg (C.int .i64) ?_) (consE (congrArg (C.int .i64) ?_) (consE (congrArg (C.int .u64) ?_) (consE (congrArg (C.int .i64) ?_) (consE (congrArg C.str ?_) (consE (congrArg (C.int .i64) ?_) (consE (congrArg (C.int .i64) ?_) rfl))))))))), rfl⟩
  rotate_left 7
  refine have hm1 : numEv f u = (⟨2, f.number, u, 0, [], 0, 0⟩ : Ev) := ?_; ?_
  rotate_left
  refine ⟨(congrArg S.v (congrArg V.agg (consE (congrArg (C.int .i64) ?_) (consE (congrArg (C.int .i64) ?_) (consE (congrArg (C.int .u64) ?_) (consE (congrArg (C.int .i64) ?_) (consE (congrArg C.str ?_) (consE (congrArg (C.int .i64) ?_) (consE (congrArg (C.int .i64) ?_) rfl))))))))), rfl⟩
  rotate_left 7
  refine have hm1 : numEv f u = (⟨2, f.number, u, 0, [], 0, 0⟩ : Ev) := ?_; ?_
  rotate_left
  refine ⟨(congrArg S.v (congrArg V.agg (consE (congrArg (C.int .i64) ?_) (consE (congrArg (C.int .i64) ?_) (consE (congrArg (C.int .u64) ?_) (consE (congrArg (C.int .i64) ?_) (consE (congrArg C.str ?_) (consE (congrArg (C.int .i64) ?_) (consE (congrArg (C.int .i64) ?_) rfl))))))))), rfl⟩
  rotate_left 7
  all_goals simp [numEv, *] <;> omega
theorem frameOf_i (b : List UInt8) (hp1 : b.length ≤ bigN) : Fun Try.prog 149 [vT b] [] (.v (vT (frameOf b))) [] := by
  have hN : bigN = 274877906944 := rfl
  refine fun_ofw Try.func149 (by kernel_rfl) (by kernel_rfl) (w := let z1 := (b.length : Int); (.seg [.as 5 (.v (.c (.int .u64 z1))), .call [] (.v (vT (putVar z1))) []] (.leaf () []), ((.v (.c (.int .u64 (IntKind.u64.wrap (z1)))) : S) = .v (.c (.int .u64 z1))) ∧ (Fun Try.prog 147 [.c (.int .u64 z1)] [] (.v (vT (putVar z1))) []) ∧ (((List.length (putVar z1) + b.length : Nat) : Int) ≤ i64max) ∧ (.v (vT ((putVar z1) ++ b)) : S) = .v (vT (frameOf b)) ∧ ([] : List Blk) = [])) (by kernel_rfl) ?_
  exact ⟨(as_u64 (by omega) (by omega)), (putVar_i _ (by omega)), (by have := putVar_len (u := (b.length : Int)) (by omega); simp only [i64max]; omega), (congrArg S.v (congrArg V.c (congrArg C.str (by rfl)))), rfl⟩
theorem frameOf_s (b : List UInt8) (hp1 : b.length ≤ bigN) : Fun Try.prog 142 [vT b] [] (.v (vT (frameOf b))) [] := by
  have hN : bigN = 274877906944 := rfl
  refine fun_ofw Try.func142 (by kernel_rfl) (by kernel_rfl) (w := let z1 := (b.length : Int); (.seg [.as 5 (.v (.c (.int .u64 z1))), .call [] (.v (vT (putVar z1))) []] (.leaf () []), ((.v (.c (.int .u64 (IntKind.u64.wrap (z1)))) : S) = .v (.c (.int .u64 z1))) ∧ (Fun Try.prog 167 [.c (.int .u64 z1)] [] (.v (vT (putVar z1))) []) ∧ (((List.length (putVar z1) + b.length : Nat) : Int) ≤ i64max) ∧ (.v (vT ((putVar z1) ++ b)) : S) = .v (vT (frameOf b)) ∧ ([] : List Blk) = [])) (by kernel_rfl) ?_
  exact ⟨(as_u64 (by omega) (by omega)), (putVar_s _ (by omega)), (by have := putVar_len (u := (b.length : Int)) (by omega); simp only [i64max]; omega), (congrArg S.v (congrArg V.c (congrArg C.str (by rfl)))), rfl⟩
end Go.Proofs.Ytecljjcmjongfaa.Ax
