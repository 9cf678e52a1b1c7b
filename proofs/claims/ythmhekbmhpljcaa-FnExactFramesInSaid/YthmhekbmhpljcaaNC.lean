/- Numbers of so many bytes; tags. -/
import Derived.Test.YthmhekbmhpljcaaNB
namespace Go.Proofs.Ythmhekbmhpljcaa.Ax
open Go.RowKit
set_option linter.unusedSimpArgs false
set_option linter.unusedVariables false
theorem widthOk_i (w : Int) : Fun Try.prog 144 [vI w] [] (.v (vB (widthOk w))) [] := by
  have hN : bigN = 274877906944 := rfl
  refine fun_of Try.func144 (by kernel_rfl) (by kernel_rfl) (d := .br (.leaf () []) (.leaf () []))
    (vc := ((decide (w = 4)) = true → (.v (vB true) : S) = .v (vB (widthOk w)) ∧ ([] : List Blk) = []) ∧ ((decide (w = 4)) = false → (.v (vB (decide (w = 8))) : S) = .v (vB (widthOk w)) ∧ ([] : List Blk) = [])) (by kernel_rfl) ?_
  refine ⟨fun h1 => ?_, fun h1 => ?_⟩
  · have p1 := of_decide_eq_true h1
    exact ⟨(congrArg S.v (congrArg V.c (congrArg C.bool (by simp [widthOk, *])))), rfl⟩
  · have p1 := of_decide_eq_false h1
    exact ⟨(congrArg S.v (congrArg V.c (congrArg C.bool (by simp [widthOk, *])))), rfl⟩
structure getFix_i_V0 where
  u : Int
  v : Nat
def getFix_i_F0 (s : List UInt8) (at_ : Int) (w : Int) : Fam := ⟨getFix_i_V0, fun q1 => [(0, .v (vT s)), (1, .v (vI at_)), (8, .v (.c (.int .u64 q1.u))), (22, .v (vI w)), (23, .v (vI (q1.v : Int)))], fun _ => [], fun q1 => (q1.v : Int) ≤ w ∧ q1.u = ((getFixN (List.take q1.v (List.drop (at_.toNat) s)) : Nat) : Int), fun q1 => w.toNat - q1.v⟩

theorem getFix_i (s : List UInt8) (at_ : Int) (w : Int) (hp1 : s.length ≤ bigN) : Fun Try.prog 150 [vT s, vI at_, vI w] [] (.tup [.c (.int .u64 (getFix s at_ w)), vB (getFixOk s at_ w)]) [] := by
  have hN : bigN = 274877906944 := rfl
  refine fun_of Try.func150 (by kernel_rfl) (by kernel_rfl) (d := .seg [.call [] (.v (vB (widthOk w))) []] (.br (.leaf () []) (.seg [.as 18 (.v (vI ((s.length : Int) - w))), .call [] (.v (vB (within at_ 0 ((s.length : Int) - w)))) []] (.br (.leaf () []) (.seg [.at 0, .keep [0, 1, 8, 22, 23], .sel []] (.loop (getFix_i_F0 s at_ w) fun q1 => .br (.seg [.as 30 (.v (vI (at_ + (q1.v : Int))))] (.intro (fun (x1 : UInt8) => s[Int.toNat (at_ + (q1.v : Int))]? = some x1) fun x1 => .seg [.ch x1, .as 32 (.v (.c (.int .u64 ((UInt8.toNat x1 : Nat) : Int)))), .as 34 (.v (vI (8 * (q1.v : Int)))), .as 35 (.v (.c (.int .u64 (8 * (q1.v : Int))))), .as 36 (.v (.c (.int .u64 (((UInt8.toNat x1 : Nat) : Int) * 2 ^ (8 * q1.v))))), .as 37 (.v (.c (.int .u64 (q1.u + ((UInt8.toNat x1 : Nat) : Int) * 2 ^ (8 * q1.v))))), .as 38 (.v (vI ((q1.v : Int) + 1))), .at 0, .keep [0, 1, 8, 22, 23], .sel []] (.next))) (.leaf () [])))))))
    (vc := (Fun Try.prog 144 [vI w] [] (.v (vB (widthOk w))) []) ∧ ((!(widthOk w)) = true → (.tup [.c (.int .u64 0), vB false] : S) = .tup [.c (.int .u64 (getFix s at_ w)), vB (getFixOk s at_ w)] ∧ ([] : List Blk) = []) ∧ ((!(widthOk w)) = false → ((.v (vI (IntKind.i64.wrap ((s.length : Int) - w))) : S) = .v (vI ((s.length : Int) - w))) ∧ (Fun Try.prog 60 [vI at_, vI 0, vI ((s.length : Int) - w)] [] (.v (vB (within at_ 0 ((s.length : Int) - w)))) []) ∧ ((!(within at_ 0 ((s.length : Int) - w))) = true → (.tup [.c (.int .u64 0), vB false] : S) = .tup [.c (.int .u64 (getFix s at_ w)), vB (getFixOk s at_ w)] ∧ ([] : List Blk) = []) ∧ ((!(within at_ 0 ((s.length : Int) - w))) = false → (getFix_i_F0 s at_ w).Has [(0, .v (vT s)), (1, .v (vI at_)), (8, .v (.c (.int .u64 0))), (22, .v (vI w)), (23, .v (vI 0))] [] ∧ ∀ q1, (getFix_i_F0 s at_ w).inv q1 → (((decide ((q1.v : Int) < w)) = true → ((.v (vI (IntKind.i64.wrap (at_ + (q1.v : Int)))) : S) = .v (vI (at_ + (q1.v : Int)))) ∧ (∃ (x1 : UInt8), s[Int.toNat (at_ + (q1.v : Int))]? = some x1) ∧ ∀ (x1 : UInt8), (s[Int.toNat (at_ + (q1.v : Int))]? = some x1) → ((s[Int.toNat (at_ + (q1.v : Int))]? = some x1) ∧ ((0 : Int) ≤ at_ + (q1.v : Int)) ∧ ((.v (.c (.int .u64 (IntKind.u64.wrap (((UInt8.toNat x1 : Nat) : Int))))) : S) = .v (.c (.int .u64 ((UInt8.toNat x1 : Nat) : Int)))) ∧ ((.v (vI (IntKind.i64.wrap (8 * (q1.v : Int)))) : S) = .v (vI (8 * (q1.v : Int)))) ∧ ((.v (.c (.int .u64 (IntKind.u64.wrap (8 * (q1.v : Int))))) : S) = .v (.c (.int .u64 (8 * (q1.v : Int))))) ∧ ((0 : Int) ≤ 8 * (q1.v : Int)) ∧ ((.v (.c (.int .u64 (IntKind.u64.wrap (((UInt8.toNat x1 : Nat) : Int) * 2 ^ min (Int.toNat (8 * (q1.v : Int))) 64)))) : S) = .v (.c (.int .u64 (((UInt8.toNat x1 : Nat) : Int) * 2 ^ (8 * q1.v))))) ∧ ((.v (.c (.int .u64 (IntKind.u64.wrap (((BitVec.ofInt 64 q1.u ||| BitVec.ofInt 64 (((UInt8.toNat x1 : Nat) : Int) * 2 ^ (8 * q1.v))).toNat : Nat))))) : S) = .v (.c (.int .u64 (q1.u + ((UInt8.toNat x1 : Nat) : Int) * 2 ^ (8 * q1.v))))) ∧ ((.v (vI (IntKind.i64.wrap ((q1.v : Int) + 1))) : S) = .v (vI ((q1.v : Int) + 1))) ∧ (getFix_i_F0 s at_ w).Nxt q1 [(0, .v (vT s)), (1, .v (vI at_)), (8, .v (.c (.int .u64 (q1.u + ((UInt8.toNat x1 : Nat) : Int) * 2 ^ (8 * q1.v))))), (22, .v (vI w)), (23, .v (vI ((q1.v : Int) + 1)))] [])) ∧ ((decide ((q1.v : Int) < w)) = false → (.tup [.c (.int .u64 q1.u), vB true] : S) = .tup [.c (.int .u64 (getFix s at_ w)), vB (getFixOk s at_ w)] ∧ ([] : List Blk) = []))))) (by kernel_rfl) ?_
  refine ⟨(widthOk_i _), fun h1 => ?_, fun h1 => ?_⟩
  · have q1 := bnot_t h1
    have p1 := widthOk_f q1
    exact ⟨(congrArg S.tup (consE (congrArg V.c (congrArg (C.int .u64) (by first | (exact hr) | (exact hok.symm) | (simp_all [getFixOk, getFix, widthOk]; done)))) (consE (congrArg V.c (congrArg C.bool (by first | (exact hr) | (exact hok.symm) | (simp_all [getFixOk, getFix, widthOk]; done)))) rfl))), rfl⟩
  · have q1 := bnot_f h1
    have p1 := widthOk_t q1
    refine ⟨(as_i64 (by omega) (by omega)), (within_i _ _ _), fun h2 => ?_, fun h2 => ?_⟩
    · have q2 := bnot_t h2
      have p2 := within_f q2
      exact ⟨(congrArg S.tup (consE (congrArg V.c (congrArg (C.int .u64) (by first | (exact hr) | (exact hok.symm) | (simp_all [getFixOk, getFix, widthOk]; done)))) (consE (congrArg V.c (congrArg C.bool (by first | (exact hr) | (exact hok.symm) | (simp_all [getFixOk, getFix, widthOk]; done)))) rfl))), rfl⟩
    · have q2 := bnot_f h2
      have p2 := within_t q2
      refine ⟨⟨⟨0, 0⟩, (show ((0 : Nat) : Int) ≤ w ∧ 0 = ((getFixN (List.take 0 (List.drop (at_.toNat) s)) : Nat) : Int) from ⟨by omega, by simp [getFixN]⟩), (by first | rfl | simp), (by first | rfl | simp)⟩, fun (q1 : getFix_i_V0) hq_q1 => ?_⟩
      have hi_q1 : (q1.v : Int) ≤ w ∧ q1.u = ((getFixN (List.take q1.v (List.drop (at_.toNat) s)) : Nat) : Int) := hq_q1
      obtain ⟨v1, v2⟩ := hi_q1
      have hw8 : w = 4 ∨ w = 8 := by omega
      have hlt := getFixN_le (l := List.take q1.v (List.drop (at_.toNat) s)) (k := q1.v) (by simp; omega)
      have hlt2 : q1.u < 2 ^ (8 * q1.v) := by rw [v2]; exact_mod_cast hlt
      have hu0 : (0 : Int) ≤ q1.u := by rw [v2]; exact Int.natCast_nonneg _
      refine ⟨fun h3 => ?_, fun h3 => ?_⟩
      · have p3 := of_decide_eq_true h3
        refine ⟨(as_i64 (by omega) (by omega)), (ax_get (l := s) (i := Int.toNat (at_ + (q1.v : Int))) (by omega)), fun x1 hx1 => ?_⟩
        have hb_x1 := UInt8.toNat_lt x1
        exact ⟨hx1, (by omega), (as_u64 (by omega) (by omega)), (as_i64 (by omega) (by omega)), (as_u64 (by omega) (by omega)), (by omega), (as_shl_fb (by omega) (by omega) (by omega)), (as_or_fb (by omega) (by omega) (by omega) (by omega) (by omega)), (as_i64 (by omega) (by omega)), ⟨⟨q1.u + ((UInt8.toNat x1 : Nat) : Int) * 2 ^ (8 * q1.v), q1.v + 1⟩, ⟨(show (((q1.v + 1) : Nat) : Int) ≤ w ∧ (q1.u + ((UInt8.toNat x1 : Nat) : Int) * 2 ^ (8 * q1.v)) = ((getFixN (List.take (q1.v + 1) (List.drop (at_.toNat) s)) : Nat) : Int) from ⟨by omega, by rw [take_snoc (x := x1) (by rw [← hx1]; congr 1; omega), getFixN_snoc, v2, show List.length (List.take q1.v (List.drop (at_.toNat) s)) = q1.v by simp; omega]; simp⟩), (show w.toNat - (q1.v + 1) < w.toNat - q1.v from by omega)⟩, (by first | rfl | simp), (by first | rfl | simp)⟩⟩
      · have p3 := of_decide_eq_false h3
        have hok : getFixOk s at_ w = true := by simp [getFixOk, widthOk, within]; omega
        have hvw : q1.v = w.toNat := by omega
        rw [hvw] at v2
        have hr : q1.u = getFix s at_ w := by rw [getFix, if_pos hok, v2]
        exact ⟨(congrArg S.tup (consE (congrArg V.c (congrArg (C.int .u64) (by first | (exact hr) | (exact hok.symm) | (simp_all [getFixOk, getFix, widthOk]; done)))) (consE (congrArg V.c (congrArg C.bool (by first | (exact hr) | (exact hok.symm) | (simp_all [getFixOk, getFix, widthOk]; done)))) rfl))), rfl⟩
structure getFix_s_V0 where
  u : Int
  i : Int
def getFix_s_F0 (s : List UInt8) (at_ : Int) (w : Int) : Fam := ⟨getFix_s_V0, fun q1 => [(0, .v (vT s)), (1, .v (vI at_)), (8, .v (.c (.int .u64 q1.u))), (9, .v (vI q1.i))], fun _ => [], fun q1 => (-1 : Int) ≤ q1.i ∧ q1.i < w ∧ q1.u = ((getFixN (List.take (Int.toNat (w - 1 - q1.i)) (List.drop (Int.toNat (at_ + q1.i + 1)) s)) : Nat) : Int), fun q1 => Int.toNat (q1.i + 1)⟩

theorem getFix_s (s : List UInt8) (at_ : Int) (w : Int) (hp1 : s.length ≤ bigN) : Fun Try.prog 152 [vT s, vI at_, vI w] [] (.tup [.c (.int .u64 (getFix s at_ w)), vB (getFixOk s at_ w)]) [] := by
  have hN : bigN = 274877906944 := rfl
  refine fun_of Try.func152 (by kernel_rfl) (by kernel_rfl) (d := .br (.br (.leaf () []) (.seg [.as 21 (.v (vI ((s.length : Int) - w))), .call [] (.v (vB (within at_ 0 ((s.length : Int) - w)))) []] (.br (.leaf () []) (.seg [.as 26 (.v (vI (w - 1))), .at 0, .keep [0, 1, 8, 9], .sel []] (.loop (getFix_s_F0 s at_ w) fun q1 => .br (.seg [.as 32 (.v (.c (.int .u64 (256 * q1.u)))), .as 36 (.v (vI (at_ + q1.i)))] (.intro (fun (x1 : UInt8) => s[Int.toNat (at_ + q1.i)]? = some x1) fun x1 => .seg [.ch x1, .as 38 (.v (.c (.int .u64 ((UInt8.toNat x1 : Nat) : Int)))), .as 39 (.v (.c (.int .u64 ((256 * q1.u) + ((UInt8.toNat x1 : Nat) : Int))))), .as 30 (.v (vI (q1.i - 1))), .at 0, .keep [0, 1, 8, 9], .sel []] (.next))) (.leaf () [])))))) (.seg [.as 21 (.v (vI ((s.length : Int) - w))), .call [] (.v (vB (within at_ 0 ((s.length : Int) - w)))) []] (.br (.leaf () []) (.seg [.as 26 (.v (vI (w - 1))), .at 0, .keep [0, 1, 8, 9], .sel []] (.loop (getFix_s_F0 s at_ w) fun q1 => .br (.seg [.as 32 (.v (.c (.int .u64 (256 * q1.u)))), .as 36 (.v (vI (at_ + q1.i)))] (.intro (fun (x1 : UInt8) => s[Int.toNat (at_ + q1.i)]? = some x1) fun x1 => .seg [.ch x1, .as 38 (.v (.c (.int .u64 ((UInt8.toNat x1 : Nat) : Int)))), .as 39 (.v (.c (.int .u64 ((256 * q1.u) + ((UInt8.toNat x1 : Nat) : Int))))), .as 30 (.v (vI (q1.i - 1))), .at 0, .keep [0, 1, 8, 9], .sel []] (.next))) (.leaf () []))))))
    (vc := ((!decide (w = 4)) = true → ((!decide (w = 8)) = true → (.tup [.c (.int .u64 0), vB false] : S) = .tup [.c (.int .u64 (getFix s at_ w)), vB (getFixOk s at_ w)] ∧ ([] : List Blk) = []) ∧ ((!decide (w = 8)) = false → ((.v (vI (IntKind.i64.wrap ((s.length : Int) - w))) : S) = .v (vI ((s.length : Int) - w))) ∧ (Fun Try.prog 55 [vI at_, vI 0, vI ((s.length : Int) - w)] [] (.v (vB (within at_ 0 ((s.length : Int) - w)))) []) ∧ ((!(within at_ 0 ((s.length : Int) - w))) = true → (.tup [.c (.int .u64 0), vB false] : S) = .tup [.c (.int .u64 (getFix s at_ w)), vB (getFixOk s at_ w)] ∧ ([] : List Blk) = []) ∧ ((!(within at_ 0 ((s.length : Int) - w))) = false → ((.v (vI (IntKind.i64.wrap (w - 1))) : S) = .v (vI (w - 1))) ∧ (getFix_s_F0 s at_ w).Has [(0, .v (vT s)), (1, .v (vI at_)), (8, .v (.c (.int .u64 0))), (9, .v (vI (w - 1)))] [] ∧ ∀ q1, (getFix_s_F0 s at_ w).inv q1 → (((decide (0 ≤ q1.i)) = true → ((.v (.c (.int .u64 (IntKind.u64.wrap (256 * q1.u)))) : S) = .v (.c (.int .u64 (256 * q1.u)))) ∧ ((.v (vI (IntKind.i64.wrap (at_ + q1.i))) : S) = .v (vI (at_ + q1.i))) ∧ (∃ (x1 : UInt8), s[Int.toNat (at_ + q1.i)]? = some x1) ∧ ∀ (x1 : UInt8), (s[Int.toNat (at_ + q1.i)]? = some x1) → ((s[Int.toNat (at_ + q1.i)]? = some x1) ∧ ((0 : Int) ≤ at_ + q1.i) ∧ ((.v (.c (.int .u64 (IntKind.u64.wrap (((UInt8.toNat x1 : Nat) : Int))))) : S) = .v (.c (.int .u64 ((UInt8.toNat x1 : Nat) : Int)))) ∧ ((.v (.c (.int .u64 (IntKind.u64.wrap ((256 * q1.u) + ((UInt8.toNat x1 : Nat) : Int))))) : S) = .v (.c (.int .u64 ((256 * q1.u) + ((UInt8.toNat x1 : Nat) : Int))))) ∧ ((.v (vI (IntKind.i64.wrap (q1.i - 1))) : S) = .v (vI (q1.i - 1))) ∧ (getFix_s_F0 s at_ w).Nxt q1 [(0, .v (vT s)), (1, .v (vI at_)), (8, .v (.c (.int .u64 ((256 * q1.u) + ((UInt8.toNat x1 : Nat) : Int))))), (9, .v (vI (q1.i - 1)))] [])) ∧ ((decide (0 ≤ q1.i)) = false → (.tup [.c (.int .u64 q1.u), vB true] : S) = .tup [.c (.int .u64 (getFix s at_ w)), vB (getFixOk s at_ w)] ∧ ([] : List Blk) = []))))) ∧ ((!decide (w = 4)) = false → ((.v (vI (IntKind.i64.wrap ((s.length : Int) - w))) : S) = .v (vI ((s.length : Int) - w))) ∧ (Fun Try.prog 55 [vI at_, vI 0, vI ((s.length : Int) - w)] [] (.v (vB (within at_ 0 ((s.length : Int) - w)))) []) ∧ ((!(within at_ 0 ((s.length : Int) - w))) = true → (.tup [.c (.int .u64 0), vB false] : S) = .tup [.c (.int .u64 (getFix s at_ w)), vB (getFixOk s at_ w)] ∧ ([] : List Blk) = []) ∧ ((!(within at_ 0 ((s.length : Int) - w))) = false → ((.v (vI (IntKind.i64.wrap (w - 1))) : S) = .v (vI (w - 1))) ∧ (getFix_s_F0 s at_ w).Has [(0, .v (vT s)), (1, .v (vI at_)), (8, .v (.c (.int .u64 0))), (9, .v (vI (w - 1)))] [] ∧ ∀ q1, (getFix_s_F0 s at_ w).inv q1 → (((decide (0 ≤ q1.i)) = true → ((.v (.c (.int .u64 (IntKind.u64.wrap (256 * q1.u)))) : S) = .v (.c (.int .u64 (256 * q1.u)))) ∧ ((.v (vI (IntKind.i64.wrap (at_ + q1.i))) : S) = .v (vI (at_ + q1.i))) ∧ (∃ (x1 : UInt8), s[Int.toNat (at_ + q1.i)]? = some x1) ∧ ∀ (x1 : UInt8), (s[Int.toNat (at_ + q1.i)]? = some x1) → ((s[Int.toNat (at_ + q1.i)]? = some x1) ∧ ((0 : Int) ≤ at_ + q1.i) ∧ ((.v (.c (.int .u64 (IntKind.u64.wrap (((UInt8.toNat x1 : Nat) : Int))))) : S) = .v (.c (.int .u64 ((UInt8.toNat x1 : Nat) : Int)))) ∧ ((.v (.c (.int .u64 (IntKind.u64.wrap ((256 * q1.u) + ((UInt8.toNat x1 : Nat) : Int))))) : S) = .v (.c (.int .u64 ((256 * q1.u) + ((UInt8.toNat x1 : Nat) : Int))))) ∧ ((.v (vI (IntKind.i64.wrap (q1.i - 1))) : S) = .v (vI (q1.i - 1))) ∧ (getFix_s_F0 s at_ w).Nxt q1 [(0, .v (vT s)), (1, .v (vI at_)), (8, .v (.c (.int .u64 ((256 * q1.u) + ((UInt8.toNat x1 : Nat) : Int))))), (9, .v (vI (q1.i - 1)))] [])) ∧ ((decide (0 ≤ q1.i)) = false → (.tup [.c (.int .u64 q1.u), vB true] : S) = .tup [.c (.int .u64 (getFix s at_ w)), vB (getFixOk s at_ w)] ∧ ([] : List Blk) = []))))) (by kernel_rfl) ?_
  refine ⟨fun h1 => ?_, fun h1 => ?_⟩
  · have q1 := bnot_t h1
    have p1 := of_decide_eq_false q1
    refine ⟨fun h2 => ?_, fun h2 => ?_⟩
    · have q2 := bnot_t h2
      have p2 := of_decide_eq_false q2
      exact ⟨(congrArg S.tup (consE (congrArg V.c (congrArg (C.int .u64) (by first | (exact hr) | (exact hok.symm) | (simp_all [getFixOk, getFix, widthOk]; done)))) (consE (congrArg V.c (congrArg C.bool (by first | (exact hr) | (exact hok.symm) | (simp_all [getFixOk, getFix, widthOk]; done)))) rfl))), rfl⟩
    · have q2 := bnot_f h2
      have p2 := of_decide_eq_true q2
      refine ⟨(as_i64 (by omega) (by omega)), (within_s _ _ _), fun h3 => ?_, fun h3 => ?_⟩
      · have q3 := bnot_t h3
        have p3 := within_f q3
        exact ⟨(congrArg S.tup (consE (congrArg V.c (congrArg (C.int .u64) (by first | (exact hr) | (exact hok.symm) | (simp_all [getFixOk, getFix, widthOk]; done)))) (consE (congrArg V.c (congrArg C.bool (by first | (exact hr) | (exact hok.symm) | (simp_all [getFixOk, getFix, widthOk]; done)))) rfl))), rfl⟩
      · have q3 := bnot_f h3
        have p3 := within_t q3
        refine ⟨(as_i64 (by omega) (by omega)), ⟨⟨0, w - 1⟩, (show (-1 : Int) ≤ (w - 1) ∧ (w - 1) < w ∧ 0 = ((getFixN (List.take (Int.toNat (w - 1 - (w - 1))) (List.drop (Int.toNat (at_ + (w - 1) + 1)) s)) : Nat) : Int) from ⟨by omega, by omega, by simp [getFixN]⟩), (by first | rfl | simp), (by first | rfl | simp)⟩, fun (q1 : getFix_s_V0) hq_q1 => ?_⟩
        have hi_q1 : (-1 : Int) ≤ q1.i ∧ q1.i < w ∧ q1.u = ((getFixN (List.take (Int.toNat (w - 1 - q1.i)) (List.drop (Int.toNat (at_ + q1.i + 1)) s)) : Nat) : Int) := hq_q1
        obtain ⟨v1, v2, v3⟩ := hi_q1
        have hw8 : w = 4 ∨ w = 8 := by omega
        have hlt := getFixN_le (l := List.take (Int.toNat (w - 1 - q1.i)) (List.drop (Int.toNat (at_ + q1.i + 1)) s)) (k := Int.toNat (w - 1 - q1.i)) (by rw [List.length_take]; omega)
        have hu0 : (0 : Int) ≤ q1.u := by rw [v3]; exact Int.natCast_nonneg _
        refine ⟨fun h4 => ?_, fun h4 => ?_⟩
        · have p4 := of_decide_eq_true h4
          have hle : getFixN (List.take (Int.toNat (w - 1 - q1.i)) (List.drop (Int.toNat (at_ + q1.i + 1)) s)) < 2 ^ 56 := Nat.lt_of_lt_of_le hlt (Nat.pow_le_pow_right (by decide) (by omega))
          have hu1 : q1.u < 72057594037927936 := by rw [v3]; omega
          refine ⟨(as_u64 (by omega) (by omega)), (as_i64 (by omega) (by omega)), (ax_get (l := s) (i := Int.toNat (at_ + q1.i)) (by omega)), fun x1 hx1 => ?_⟩
          have hb_x1 := UInt8.toNat_lt x1
          exact ⟨hx1, (by omega), (as_u64 (by omega) (by omega)), (as_u64 (by omega) (by omega)), (as_i64 (by omega) (by omega)), ⟨⟨(256 * q1.u) + ((UInt8.toNat x1 : Nat) : Int), q1.i - 1⟩, ⟨(show (-1 : Int) ≤ (q1.i - 1) ∧ (q1.i - 1) < w ∧ ((256 * q1.u) + ((UInt8.toNat x1 : Nat) : Int)) = ((getFixN (List.take (Int.toNat (w - 1 - (q1.i - 1))) (List.drop (Int.toNat (at_ + (q1.i - 1) + 1)) s)) : Nat) : Int) from ⟨by omega, by omega, by rw [show Int.toNat (w - 1 - (q1.i - 1)) = Int.toNat (w - 1 - q1.i) + 1 by omega, show Int.toNat (at_ + (q1.i - 1) + 1) = Int.toNat (at_ + q1.i) by omega, drop_el hx1, List.take_succ_cons, getFixN, v3, show Int.toNat (at_ + q1.i) + 1 = Int.toNat (at_ + q1.i + 1) by omega]; omega⟩), (show Int.toNat ((q1.i - 1) + 1) < Int.toNat (q1.i + 1) from by omega)⟩, (by first | rfl | simp), (by first | rfl | simp)⟩⟩
        · have p4 := of_decide_eq_false h4
          have hok : getFixOk s at_ w = true := by simp [getFixOk, widthOk, within]; omega
          have hvw : q1.i = -1 := by omega
          rw [hvw] at v3
          have hr : q1.u = getFix s at_ w := by rw [getFix, if_pos hok, v3, show Int.toNat (w - 1 - -1) = w.toNat by omega, show Int.toNat (at_ + -1 + 1) = at_.toNat by omega]
          exact ⟨(congrArg S.tup (consE (congrArg V.c (congrArg (C.int .u64) (by first | (exact hr) | (exact hok.symm) | (simp_all [getFixOk, getFix, widthOk]; done)))) (consE (congrArg V.c (congrArg C.bool (by first | (exact hr) | (exact hok.symm) | (simp_all [getFixOk, getFix, widthOk]; done)))) rfl))), rfl⟩
  · have q1 := bnot_f h1
    have p1 := of_decide_eq_true q1
    refine ⟨(as_i64 (by omega) (by omega)), (within_s _ _ _), fun h2 => ?_, fun h2 => ?_⟩
    · have q2 := bnot_t h2
      have p2 := within_f q2
      exact ⟨(congrArg S.tup (consE (congrArg V.c (congrArg (C.int .u64) (by first | (exact hr) | (exact hok.symm) | (simp_all [getFixOk, getFix, widthOk]; done)))) (consE (congrArg V.c (congrArg C.bool (by first | (exact hr) | (exact hok.symm) | (simp_all [getFixOk, getFix, widthOk]; done)))) rfl))), rfl⟩
    · have q2 := bnot_f h2
      have p2 := within_t q2
      refine ⟨(as_i64 (by omega) (by omega)), ⟨⟨0, w - 1⟩, (show (-1 : Int) ≤ (w - 1) ∧ (w - 1) < w ∧ 0 = ((getFixN (List.take (Int.toNat (w - 1 - (w - 1))) (List.drop (Int.toNat (at_ + (w - 1) + 1)) s)) : Nat) : Int) from ⟨by omega, by omega, by simp [getFixN]⟩), (by first | rfl | simp), (by first | rfl | simp)⟩, fun (q1 : getFix_s_V0) hq_q1 => ?_⟩
      have hi_q1 : (-1 : Int) ≤ q1.i ∧ q1.i < w ∧ q1.u = ((getFixN (List.take (Int.toNat (w - 1 - q1.i)) (List.drop (Int.toNat (at_ + q1.i + 1)) s)) : Nat) : Int) := hq_q1
      obtain ⟨v1, v2, v3⟩ := hi_q1
      have hw8 : w = 4 ∨ w = 8 := by omega
      have hlt := getFixN_le (l := List.take (Int.toNat (w - 1 - q1.i)) (List.drop (Int.toNat (at_ + q1.i + 1)) s)) (k := Int.toNat (w - 1 - q1.i)) (by rw [List.length_take]; omega)
      have hu0 : (0 : Int) ≤ q1.u := by rw [v3]; exact Int.natCast_nonneg _
      refine ⟨fun h3 => ?_, fun h3 => ?_⟩
      · have p3 := of_decide_eq_true h3
        have hle : getFixN (List.take (Int.toNat (w - 1 - q1.i)) (List.drop (Int.toNat (at_ + q1.i + 1)) s)) < 2 ^ 56 := Nat.lt_of_lt_of_le hlt (Nat.pow_le_pow_right (by decide) (by omega))
        have hu1 : q1.u < 72057594037927936 := by rw [v3]; omega
        refine ⟨(as_u64 (by omega) (by omega)), (as_i64 (by omega) (by omega)), (ax_get (l := s) (i := Int.toNat (at_ + q1.i)) (by omega)), fun x1 hx1 => ?_⟩
        have hb_x1 := UInt8.toNat_lt x1
        exact ⟨hx1, (by omega), (as_u64 (by omega) (by omega)), (as_u64 (by omega) (by omega)), (as_i64 (by omega) (by omega)), ⟨⟨(256 * q1.u) + ((UInt8.toNat x1 : Nat) : Int), q1.i - 1⟩, ⟨(show (-1 : Int) ≤ (q1.i - 1) ∧ (q1.i - 1) < w ∧ ((256 * q1.u) + ((UInt8.toNat x1 : Nat) : Int)) = ((getFixN (List.take (Int.toNat (w - 1 - (q1.i - 1))) (List.drop (Int.toNat (at_ + (q1.i - 1) + 1)) s)) : Nat) : Int) from ⟨by omega, by omega, by rw [show Int.toNat (w - 1 - (q1.i - 1)) = Int.toNat (w - 1 - q1.i) + 1 by omega, show Int.toNat (at_ + (q1.i - 1) + 1) = Int.toNat (at_ + q1.i) by omega, drop_el hx1, List.take_succ_cons, getFixN, v3, show Int.toNat (at_ + q1.i) + 1 = Int.toNat (at_ + q1.i + 1) by omega]; omega⟩), (show Int.toNat ((q1.i - 1) + 1) < Int.toNat (q1.i + 1) from by omega)⟩, (by first | rfl | simp), (by first | rfl | simp)⟩⟩
      · have p3 := of_decide_eq_false h3
        have hok : getFixOk s at_ w = true := by simp [getFixOk, widthOk, within]; omega
        have hvw : q1.i = -1 := by omega
        rw [hvw] at v3
        have hr : q1.u = getFix s at_ w := by rw [getFix, if_pos hok, v3, show Int.toNat (w - 1 - -1) = w.toNat by omega, show Int.toNat (at_ + -1 + 1) = at_.toNat by omega]
        exact ⟨(congrArg S.tup (consE (congrArg V.c (congrArg (C.int .u64) (by first | (exact hr) | (exact hok.symm) | (simp_all [getFixOk, getFix, widthOk]; done)))) (consE (congrArg V.c (congrArg C.bool (by first | (exact hr) | (exact hok.symm) | (simp_all [getFixOk, getFix, widthOk]; done)))) rfl))), rfl⟩
structure putFix_i_V0 where
  u : Int
  out : List Int
  v : Nat
def putFix_i_F0 (u : Int) (w : Int) : Fam := ⟨putFix_i_V0, fun q1 => [(0, .v (.c (.int .u64 q1.u))), (5, .v (vO 0)), (22, .v (vI w)), (23, .v (vI (q1.v : Int)))], fun q1 => [.lst .u8 q1.out], fun q1 => q1.v ≤ (w.toNat) ∧ q1.out.length = (w.toNat) ∧ List.take q1.v q1.out = List.take q1.v (fixL (u.toNat) (w.toNat)) ∧ q1.u = ((u.toNat / 256 ^ q1.v : Nat) : Int), fun q1 => (w.toNat) - q1.v⟩

theorem putFix_i (u : Int) (w : Int) (hp1 : (0 : Int) ≤ u ∧ u ≤ 18446744073709551615) : Fun Try.prog 127 [.c (.int .u64 u), vI w] [] (.v (vT (putFix u w))) [] := by
  have hN : bigN = 274877906944 := rfl
  refine fun_of Try.func127 (by kernel_rfl) (by kernel_rfl) (d := .seg [.call [] (.v (vB (widthOk w))) []] (.br (.leaf () []) (.br (.seg [.as 15 (.v (.c (.int .u64 (u / 4294967296))))] (.br (.leaf () []) (.seg [.ty .u8, .as 22 (.v (vI w)), .at 0, .keep [0, 5, 22, 23], .sel [0]] (.loop (putFix_i_F0 u w) fun q1 => .br (.seg [.as 29 (.v (.c (.int .u8 (q1.u % 256))))] (.intro (fun (x1 : Int) => q1.out[q1.v]? = some x1) fun x1 => .seg [.el .u8 x1, .as 32 (.v (.c (.int .u64 (q1.u / 256)))), .as 33 (.v (vI ((q1.v : Int) + 1))), .at 0, .keep [0, 5, 22, 23], .sel [0]] (.next))) (.leaf () []))))) (.seg [.ty .u8, .as 22 (.v (vI w)), .at 0, .keep [0, 5, 22, 23], .sel [0]] (.loop (putFix_i_F0 u w) fun q1 => .br (.seg [.as 29 (.v (.c (.int .u8 (q1.u % 256))))] (.intro (fun (x1 : Int) => q1.out[q1.v]? = some x1) fun x1 => .seg [.el .u8 x1, .as 32 (.v (.c (.int .u64 (q1.u / 256)))), .as 33 (.v (vI ((q1.v : Int) + 1))), .at 0, .keep [0, 5, 22, 23], .sel [0]] (.next))) (.leaf () []))))))
    (vc := (Fun Try.prog 144 [vI w] [] (.v (vB (widthOk w))) []) ∧ ((!(widthOk w)) = true → (.v (vT []) : S) = .v (vT (putFix u w)) ∧ ([] : List Blk) = []) ∧ ((!(widthOk w)) = false → ((decide (w = 4)) = true → ((0 : Int) ≤ 32) ∧ ((.v (.c (.int .u64 (Int.fdiv u (2 ^ 32)))) : S) = .v (.c (.int .u64 (u / 4294967296)))) ∧ ((!decide (u / 4294967296 = 0)) = true → (.v (vT []) : S) = .v (vT (putFix u w)) ∧ ([] : List Blk) = []) ∧ ((!decide (u / 4294967296 = 0)) = false → (w ≤ 9223372036854775807) ∧ (((1 : Nat) : Int) * w ≤ 281474976710656) ∧ (w ≤ w) ∧ ((0 : Int) ≤ w) ∧ ((.v (vI ((List.length (List.replicate (w.toNat) (0 : Int)) : Nat) : Int)) : S) = .v (vI w)) ∧ (putFix_i_F0 u w).Has [(0, .v (.c (.int .u64 u))), (5, .v (vO 0)), (22, .v (vI w)), (23, .v (vI 0))] [.lst .u8 (List.replicate (w.toNat) (0 : Int))] ∧ ∀ q1, (putFix_i_F0 u w).inv q1 → (((decide ((q1.v : Int) < w)) = true → ((.v (.c (.int .u8 (IntKind.u8.wrap (q1.u)))) : S) = .v (.c (.int .u8 (q1.u % 256)))) ∧ (∃ (x1 : Int), q1.out[q1.v]? = some x1) ∧ ∀ (x1 : Int), (q1.out[q1.v]? = some x1) → (((q1.v : Int) < (q1.out.length : Int)) ∧ ((0 : Int) ≤ (q1.v : Int)) ∧ (q1.out[q1.v]? = some x1) ∧ ((0 : Int) ≤ 8) ∧ ((.v (.c (.int .u64 (Int.fdiv q1.u (2 ^ 8)))) : S) = .v (.c (.int .u64 (q1.u / 256)))) ∧ ((.v (vI (IntKind.i64.wrap ((q1.v : Int) + 1))) : S) = .v (vI ((q1.v : Int) + 1))) ∧ (putFix_i_F0 u w).Nxt q1 [(0, .v (.c (.int .u64 (q1.u / 256)))), (5, .v (vO 0)), (22, .v (vI w)), (23, .v (vI ((q1.v : Int) + 1)))] [.lst .u8 (List.set q1.out q1.v (q1.u % 256))])) ∧ ((decide ((q1.v : Int) < w)) = false → (.v (vT (List.map toByte q1.out)) : S) = .v (vT (putFix u w)) ∧ ([] : List Blk) = [])))) ∧ ((decide (w = 4)) = false → (w ≤ 9223372036854775807) ∧ (((1 : Nat) : Int) * w ≤ 281474976710656) ∧ (w ≤ w) ∧ ((0 : Int) ≤ w) ∧ ((.v (vI ((List.length (List.replicate (w.toNat) (0 : Int)) : Nat) : Int)) : S) = .v (vI w)) ∧ (putFix_i_F0 u w).Has [(0, .v (.c (.int .u64 u))), (5, .v (vO 0)), (22, .v (vI w)), (23, .v (vI 0))] [.lst .u8 (List.replicate (w.toNat) (0 : Int))] ∧ ∀ q1, (putFix_i_F0 u w).inv q1 → (((decide ((q1.v : Int) < w)) = true → ((.v (.c (.int .u8 (IntKind.u8.wrap (q1.u)))) : S) = .v (.c (.int .u8 (q1.u % 256)))) ∧ (∃ (x1 : Int), q1.out[q1.v]? = some x1) ∧ ∀ (x1 : Int), (q1.out[q1.v]? = some x1) → (((q1.v : Int) < (q1.out.length : Int)) ∧ ((0 : Int) ≤ (q1.v : Int)) ∧ (q1.out[q1.v]? = some x1) ∧ ((0 : Int) ≤ 8) ∧ ((.v (.c (.int .u64 (Int.fdiv q1.u (2 ^ 8)))) : S) = .v (.c (.int .u64 (q1.u / 256)))) ∧ ((.v (vI (IntKind.i64.wrap ((q1.v : Int) + 1))) : S) = .v (vI ((q1.v : Int) + 1))) ∧ (putFix_i_F0 u w).Nxt q1 [(0, .v (.c (.int .u64 (q1.u / 256)))), (5, .v (vO 0)), (22, .v (vI w)), (23, .v (vI ((q1.v : Int) + 1)))] [.lst .u8 (List.set q1.out q1.v (q1.u % 256))])) ∧ ((decide ((q1.v : Int) < w)) = false → (.v (vT (List.map toByte q1.out)) : S) = .v (vT (putFix u w)) ∧ ([] : List Blk) = []))))) (by kernel_rfl) ?_
  refine ⟨(widthOk_i _), fun h1 => ?_, fun h1 => ?_⟩
  · have q1 := bnot_t h1
    have p1 := widthOk_f q1
    exact ⟨(congrArg S.v (congrArg V.c (congrArg C.str (by first | (rw [hq, fixL_put]; simp_all [putFix, widthOk]; omega) | (rw [hq, fixL_put]; simp_all [putFix, widthOk]) | (simp_all [putFix, widthOk]; done) | (simp_all [putFix, widthOk]; omega))))), rfl⟩
  · have q1 := bnot_f h1
    have p1 := widthOk_t q1
    have hw8 := widthOk_t (by simpa using h1)
    refine ⟨fun h2 => ?_, fun h2 => ?_⟩
    · have p2 := of_decide_eq_true h2
      refine ⟨(by decide), (as_shr (k := 32) (by decide) (by decide)), fun h3 => ?_, fun h3 => ?_⟩
      · have q3 := bnot_t h3
        have p3 := of_decide_eq_false q3
        exact ⟨(congrArg S.v (congrArg V.c (congrArg C.str (by first | (rw [hq, fixL_put]; simp_all [putFix, widthOk]; omega) | (rw [hq, fixL_put]; simp_all [putFix, widthOk]) | (simp_all [putFix, widthOk]; done) | (simp_all [putFix, widthOk]; omega))))), rfl⟩
      · have q3 := bnot_f h3
        have p3 := of_decide_eq_true q3
        refine ⟨(by omega), (by omega), (by omega), (by omega), (as_int (by rw [List.length_replicate]; omega)), ⟨⟨u, List.replicate (w.toNat) (0 : Int), 0⟩, (show 0 ≤ (w.toNat) ∧ List.length (List.replicate (w.toNat) (0 : Int)) = (w.toNat) ∧ List.take 0 (List.replicate (w.toNat) (0 : Int)) = List.take 0 (fixL (u.toNat) (w.toNat)) ∧ u = ((u.toNat / 256 ^ 0 : Nat) : Int) from ⟨by omega, by simp, by simp, by simp; omega⟩), (by first | rfl | simp), (by first | rfl | simp)⟩, fun (q1 : putFix_i_V0) hq_q1 => ?_⟩
        have hi_q1 : q1.v ≤ (w.toNat) ∧ q1.out.length = (w.toNat) ∧ List.take q1.v q1.out = List.take q1.v (fixL (u.toNat) (w.toNat)) ∧ q1.u = ((u.toNat / 256 ^ q1.v : Nat) : Int) := hq_q1
        obtain ⟨v1, v2, v3, v4⟩ := hi_q1
        have hu0 : (0 : Int) ≤ q1.u := by rw [v4]; exact Int.natCast_nonneg _
        have hu1 : q1.u ≤ 18446744073709551615 := by rw [v4]; have := Nat.div_le_self (u.toNat) (256 ^ q1.v); omega
        refine ⟨fun h4 => ?_, fun h4 => ?_⟩
        · have p4 := of_decide_eq_true h4
          refine ⟨(as_mod8 (by omega)), (ax_get (l := q1.out) (i := q1.v) (by omega)), fun x1 hx1 => ?_⟩
          exact ⟨(by omega), (by omega), hx1, (by decide), (as_shr (k := 8) (by decide) (by decide)), (as_i64 (by omega) (by omega)), ⟨⟨q1.u / 256, List.set q1.out q1.v (q1.u % 256), q1.v + 1⟩, ⟨(show (q1.v + 1) ≤ (w.toNat) ∧ List.length (List.set q1.out q1.v (q1.u % 256)) = (w.toNat) ∧ List.take (q1.v + 1) (List.set q1.out q1.v (q1.u % 256)) = List.take (q1.v + 1) (fixL (u.toNat) (w.toNat)) ∧ (q1.u / 256) = ((u.toNat / 256 ^ (q1.v + 1) : Nat) : Int) from ⟨by omega, by simp [v2], fill_set v3 (by rw [v2, fixL_len]) (by rw [fixL_get (by omega), v4]; simp <;> omega), by rw [v4, fixU_step]⟩), (show (w.toNat) - (q1.v + 1) < (w.toNat) - q1.v from by omega)⟩, (by first | rfl | simp), (by first | rfl | simp)⟩⟩
        · have p4 := of_decide_eq_false h4
          have hq := fill_done v3 (by rw [v2, fixL_len]) (by rw [fixL_len]; omega)
          exact ⟨(congrArg S.v (congrArg V.c (congrArg C.str (by first | (rw [hq, fixL_put]; simp_all [putFix, widthOk]; omega) | (rw [hq, fixL_put]; simp_all [putFix, widthOk]) | (simp_all [putFix, widthOk]; done) | (simp_all [putFix, widthOk]; omega))))), rfl⟩
    · have p2 := of_decide_eq_false h2
      refine ⟨(by omega), (by omega), (by omega), (by omega), (as_int (by rw [List.length_replicate]; omega)), ⟨⟨u, List.replicate (w.toNat) (0 : Int), 0⟩, (show 0 ≤ (w.toNat) ∧ List.length (List.replicate (w.toNat) (0 : Int)) = (w.toNat) ∧ List.take 0 (List.replicate (w.toNat) (0 : Int)) = List.take 0 (fixL (u.toNat) (w.toNat)) ∧ u = ((u.toNat / 256 ^ 0 : Nat) : Int) from ⟨by omega, by simp, by simp, by simp; omega⟩), (by first | rfl | simp), (by first | rfl | simp)⟩, fun (q1 : putFix_i_V0) hq_q1 => ?_⟩
      have hi_q1 : q1.v ≤ (w.toNat) ∧ q1.out.length = (w.toNat) ∧ List.take q1.v q1.out = List.take q1.v (fixL (u.toNat) (w.toNat)) ∧ q1.u = ((u.toNat / 256 ^ q1.v : Nat) : Int) := hq_q1
      obtain ⟨v1, v2, v3, v4⟩ := hi_q1
      have hu0 : (0 : Int) ≤ q1.u := by rw [v4]; exact Int.natCast_nonneg _
      have hu1 : q1.u ≤ 18446744073709551615 := by rw [v4]; have := Nat.div_le_self (u.toNat) (256 ^ q1.v); omega
      refine ⟨fun h3 => ?_, fun h3 => ?_⟩
      · have p3 := of_decide_eq_true h3
        refine ⟨(as_mod8 (by omega)), (ax_get (l := q1.out) (i := q1.v) (by omega)), fun x1 hx1 => ?_⟩
        exact ⟨(by omega), (by omega), hx1, (by decide), (as_shr (k := 8) (by decide) (by decide)), (as_i64 (by omega) (by omega)), ⟨⟨q1.u / 256, List.set q1.out q1.v (q1.u % 256), q1.v + 1⟩, ⟨(show (q1.v + 1) ≤ (w.toNat) ∧ List.length (List.set q1.out q1.v (q1.u % 256)) = (w.toNat) ∧ List.take (q1.v + 1) (List.set q1.out q1.v (q1.u % 256)) = List.take (q1.v + 1) (fixL (u.toNat) (w.toNat)) ∧ (q1.u / 256) = ((u.toNat / 256 ^ (q1.v + 1) : Nat) : Int) from ⟨by omega, by simp [v2], fill_set v3 (by rw [v2, fixL_len]) (by rw [fixL_get (by omega), v4]; simp <;> omega), by rw [v4, fixU_step]⟩), (show (w.toNat) - (q1.v + 1) < (w.toNat) - q1.v from by omega)⟩, (by first | rfl | simp), (by first | rfl | simp)⟩⟩
      · have p3 := of_decide_eq_false h3
        have hq := fill_done v3 (by rw [v2, fixL_len]) (by rw [fixL_len]; omega)
        exact ⟨(congrArg S.v (congrArg V.c (congrArg C.str (by first | (rw [hq, fixL_put]; simp_all [putFix, widthOk]; omega) | (rw [hq, fixL_put]; simp_all [putFix, widthOk]) | (simp_all [putFix, widthOk]; done) | (simp_all [putFix, widthOk]; omega))))), rfl⟩
structure putFix_s_V0 where
  u : Int
  out : List Int
  i : Nat
def putFix_s_F0 (u : Int) (w : Int) : Fam := ⟨putFix_s_V0, fun q1 => [(0, .v (.c (.int .u64 q1.u))), (1, .v (vI w)), (5, .v (vO 0)), (6, .v (vI (q1.i : Int)))], fun q1 => [.lst .u8 q1.out], fun q1 => (q1.i : Int) ≤ w ∧ (0 : Int) ≤ q1.u ∧ q1.u ≤ 18446744073709551615 ∧ List.map toByte q1.out ++ putFixN (w.toNat - q1.i) (q1.u.toNat) = putFixN (w.toNat) (u.toNat) ∧ q1.out.length = q1.i, fun q1 => w.toNat - q1.i⟩

theorem putFix_s (u : Int) (w : Int) (hp1 : (0 : Int) ≤ u ∧ u ≤ 18446744073709551615) : Fun Try.prog 124 [.c (.int .u64 u), vI w] [] (.v (vT (putFix u w))) [] := by
  have hN : bigN = 274877906944 := rfl
  refine fun_of Try.func124 (by kernel_rfl) (by kernel_rfl) (d := .br (.br (.leaf () []) (.br (.br (.leaf () []) (.seg [.ty .u8, .at 0, .keep [0, 1, 5, 6], .sel [0]] (.loop (putFix_s_F0 u w) fun q1 => .br (.seg [.as 29 (.v (.c (.int .u64 (q1.u % 256)))), .as 30 (.v (.c (.int .u8 (q1.u % 256)))), .ty .u8, .ty .u8, .as 34 (.v (.c (.int .u64 (q1.u / 256)))), .as 26 (.v (vI ((q1.i : Int) + 1))), .at 0, .keep [0, 1, 5, 6], .sel [2]] (.next)) (.leaf () [])))) (.seg [.ty .u8, .at 0, .keep [0, 1, 5, 6], .sel [0]] (.loop (putFix_s_F0 u w) fun q1 => .br (.seg [.as 29 (.v (.c (.int .u64 (q1.u % 256)))), .as 30 (.v (.c (.int .u8 (q1.u % 256)))), .ty .u8, .ty .u8, .as 34 (.v (.c (.int .u64 (q1.u / 256)))), .as 26 (.v (vI ((q1.i : Int) + 1))), .at 0, .keep [0, 1, 5, 6], .sel [2]] (.next)) (.leaf () []))))) (.br (.br (.leaf () []) (.seg [.ty .u8, .at 0, .keep [0, 1, 5, 6], .sel [0]] (.loop (putFix_s_F0 u w) fun q1 => .br (.seg [.as 29 (.v (.c (.int .u64 (q1.u % 256)))), .as 30 (.v (.c (.int .u8 (q1.u % 256)))), .ty .u8, .ty .u8, .as 34 (.v (.c (.int .u64 (q1.u / 256)))), .as 26 (.v (vI ((q1.i : Int) + 1))), .at 0, .keep [0, 1, 5, 6], .sel [2]] (.next)) (.leaf () [])))) (.seg [.ty .u8, .at 0, .keep [0, 1, 5, 6], .sel [0]] (.loop (putFix_s_F0 u w) fun q1 => .br (.seg [.as 29 (.v (.c (.int .u64 (q1.u % 256)))), .as 30 (.v (.c (.int .u8 (q1.u % 256)))), .ty .u8, .ty .u8, .as 34 (.v (.c (.int .u64 (q1.u / 256)))), .as 26 (.v (vI ((q1.i : Int) + 1))), .at 0, .keep [0, 1, 5, 6], .sel [2]] (.next)) (.leaf () [])))))
    (vc := ((!decide (w = 4)) = true → ((!decide (w = 8)) = true → (.v (vT []) : S) = .v (vT (putFix u w)) ∧ ([] : List Blk) = []) ∧ ((!decide (w = 8)) = false → ((decide (w = 4)) = true → ((decide (4294967295 < u)) = true → (.v (vT []) : S) = .v (vT (putFix u w)) ∧ ([] : List Blk) = []) ∧ ((decide (4294967295 < u)) = false → (putFix_s_F0 u w).Has [(0, .v (.c (.int .u64 u))), (1, .v (vI w)), (5, .v (vO 0)), (6, .v (vI 0))] [.lst .u8 ([] : List Int)] ∧ ∀ q1, (putFix_s_F0 u w).inv q1 → (((decide ((q1.i : Int) < w)) = true → ((256 : Int) ≠ 0) ∧ ((.v (.c (.int .u64 (Int.tmod q1.u 256))) : S) = .v (.c (.int .u64 (q1.u % 256)))) ∧ ((.v (.c (.int .u8 (IntKind.u8.wrap (q1.u % 256)))) : S) = .v (.c (.int .u8 (q1.u % 256)))) ∧ (q1.out.length + List.length [q1.u % 256] ≤ bigN) ∧ ((256 : Int) ≠ 0) ∧ ((.v (.c (.int .u64 (IntKind.u64.wrap (Int.tdiv q1.u 256)))) : S) = .v (.c (.int .u64 (q1.u / 256)))) ∧ ((.v (vI (IntKind.i64.wrap ((q1.i : Int) + 1))) : S) = .v (vI ((q1.i : Int) + 1))) ∧ (putFix_s_F0 u w).Nxt q1 [(0, .v (.c (.int .u64 (q1.u / 256)))), (1, .v (vI w)), (5, .v (vO 0)), (6, .v (vI ((q1.i : Int) + 1)))] [.lst .u8 (q1.out ++ [q1.u % 256])]) ∧ ((decide ((q1.i : Int) < w)) = false → (.v (vT (List.map toByte q1.out)) : S) = .v (vT (putFix u w)) ∧ ([] : List Blk) = [])))) ∧ ((decide (w = 4)) = false → (putFix_s_F0 u w).Has [(0, .v (.c (.int .u64 u))), (1, .v (vI w)), (5, .v (vO 0)), (6, .v (vI 0))] [.lst .u8 ([] : List Int)] ∧ ∀ q1, (putFix_s_F0 u w).inv q1 → (((decide ((q1.i : Int) < w)) = true → ((256 : Int) ≠ 0) ∧ ((.v (.c (.int .u64 (Int.tmod q1.u 256))) : S) = .v (.c (.int .u64 (q1.u % 256)))) ∧ ((.v (.c (.int .u8 (IntKind.u8.wrap (q1.u % 256)))) : S) = .v (.c (.int .u8 (q1.u % 256)))) ∧ (q1.out.length + List.length [q1.u % 256] ≤ bigN) ∧ ((256 : Int) ≠ 0) ∧ ((.v (.c (.int .u64 (IntKind.u64.wrap (Int.tdiv q1.u 256)))) : S) = .v (.c (.int .u64 (q1.u / 256)))) ∧ ((.v (vI (IntKind.i64.wrap ((q1.i : Int) + 1))) : S) = .v (vI ((q1.i : Int) + 1))) ∧ (putFix_s_F0 u w).Nxt q1 [(0, .v (.c (.int .u64 (q1.u / 256)))), (1, .v (vI w)), (5, .v (vO 0)), (6, .v (vI ((q1.i : Int) + 1)))] [.lst .u8 (q1.out ++ [q1.u % 256])]) ∧ ((decide ((q1.i : Int) < w)) = false → (.v (vT (List.map toByte q1.out)) : S) = .v (vT (putFix u w)) ∧ ([] : List Blk) = []))))) ∧ ((!decide (w = 4)) = false → ((decide (w = 4)) = true → ((decide (4294967295 < u)) = true → (.v (vT []) : S) = .v (vT (putFix u w)) ∧ ([] : List Blk) = []) ∧ ((decide (4294967295 < u)) = false → (putFix_s_F0 u w).Has [(0, .v (.c (.int .u64 u))), (1, .v (vI w)), (5, .v (vO 0)), (6, .v (vI 0))] [.lst .u8 ([] : List Int)] ∧ ∀ q1, (putFix_s_F0 u w).inv q1 → (((decide ((q1.i : Int) < w)) = true → ((256 : Int) ≠ 0) ∧ ((.v (.c (.int .u64 (Int.tmod q1.u 256))) : S) = .v (.c (.int .u64 (q1.u % 256)))) ∧ ((.v (.c (.int .u8 (IntKind.u8.wrap (q1.u % 256)))) : S) = .v (.c (.int .u8 (q1.u % 256)))) ∧ (q1.out.length + List.length [q1.u % 256] ≤ bigN) ∧ ((256 : Int) ≠ 0) ∧ ((.v (.c (.int .u64 (IntKind.u64.wrap (Int.tdiv q1.u 256)))) : S) = .v (.c (.int .u64 (q1.u / 256)))) ∧ ((.v (vI (IntKind.i64.wrap ((q1.i : Int) + 1))) : S) = .v (vI ((q1.i : Int) + 1))) ∧ (putFix_s_F0 u w).Nxt q1 [(0, .v (.c (.int .u64 (q1.u / 256)))), (1, .v (vI w)), (5, .v (vO 0)), (6, .v (vI ((q1.i : Int) + 1)))] [.lst .u8 (q1.out ++ [q1.u % 256])]) ∧ ((decide ((q1.i : Int) < w)) = false → (.v (vT (List.map toByte q1.out)) : S) = .v (vT (putFix u w)) ∧ ([] : List Blk) = [])))) ∧ ((decide (w = 4)) = false → (putFix_s_F0 u w).Has [(0, .v (.c (.int .u64 u))), (1, .v (vI w)), (5, .v (vO 0)), (6, .v (vI 0))] [.lst .u8 ([] : List Int)] ∧ ∀ q1, (putFix_s_F0 u w).inv q1 → (((decide ((q1.i : Int) < w)) = true → ((256 : Int) ≠ 0) ∧ ((.v (.c (.int .u64 (Int.tmod q1.u 256))) : S) = .v (.c (.int .u64 (q1.u % 256)))) ∧ ((.v (.c (.int .u8 (IntKind.u8.wrap (q1.u % 256)))) : S) = .v (.c (.int .u8 (q1.u % 256)))) ∧ (q1.out.length + List.length [q1.u % 256] ≤ bigN) ∧ ((256 : Int) ≠ 0) ∧ ((.v (.c (.int .u64 (IntKind.u64.wrap (Int.tdiv q1.u 256)))) : S) = .v (.c (.int .u64 (q1.u / 256)))) ∧ ((.v (vI (IntKind.i64.wrap ((q1.i : Int) + 1))) : S) = .v (vI ((q1.i : Int) + 1))) ∧ (putFix_s_F0 u w).Nxt q1 [(0, .v (.c (.int .u64 (q1.u / 256)))), (1, .v (vI w)), (5, .v (vO 0)), (6, .v (vI ((q1.i : Int) + 1)))] [.lst .u8 (q1.out ++ [q1.u % 256])]) ∧ ((decide ((q1.i : Int) < w)) = false → (.v (vT (List.map toByte q1.out)) : S) = .v (vT (putFix u w)) ∧ ([] : List Blk) = []))))) (by kernel_rfl) ?_
  refine ⟨fun h1 => ?_, fun h1 => ?_⟩
  · have q1 := bnot_t h1
    have p1 := of_decide_eq_false q1
    refine ⟨fun h2 => ?_, fun h2 => ?_⟩
    · have q2 := bnot_t h2
      have p2 := of_decide_eq_false q2
      exact ⟨(congrArg S.v (congrArg V.c (congrArg C.str (by first | (rw [v4]; simp_all [putFix, widthOk]; done) | (rw [v4]; simp_all [putFix, widthOk]; omega) | (simp_all [putFix, widthOk]; done) | (simp_all [putFix, widthOk]; omega))))), rfl⟩
    · have q2 := bnot_f h2
      have p2 := of_decide_eq_true q2
      refine ⟨fun h3 => ?_, fun h3 => ?_⟩
      · have p3 := of_decide_eq_true h3
        refine ⟨fun h4 => ?_, fun h4 => ?_⟩
        · have p4 := of_decide_eq_true h4
          exact ⟨(congrArg S.v (congrArg V.c (congrArg C.str (by first | (rw [v4]; simp_all [putFix, widthOk]; done) | (rw [v4]; simp_all [putFix, widthOk]; omega) | (simp_all [putFix, widthOk]; done) | (simp_all [putFix, widthOk]; omega))))), rfl⟩
        · have p4 := of_decide_eq_false h4
          refine ⟨⟨⟨u, ([] : List Int), 0⟩, (show ((0 : Nat) : Int) ≤ w ∧ (0 : Int) ≤ u ∧ u ≤ 18446744073709551615 ∧ List.map toByte ([] : List Int) ++ putFixN (w.toNat - 0) (u.toNat) = putFixN (w.toNat) (u.toNat) ∧ List.length ([] : List Int) = 0 from ⟨by omega, by omega, by omega, by simp, by simp⟩), (by first | rfl | simp), (by first | rfl | simp)⟩, fun (q1 : putFix_s_V0) hq_q1 => ?_⟩
          have hi_q1 : (q1.i : Int) ≤ w ∧ (0 : Int) ≤ q1.u ∧ q1.u ≤ 18446744073709551615 ∧ List.map toByte q1.out ++ putFixN (w.toNat - q1.i) (q1.u.toNat) = putFixN (w.toNat) (u.toNat) ∧ q1.out.length = q1.i := hq_q1
          obtain ⟨v1, v2, v3, v4, v5⟩ := hi_q1
          refine ⟨fun h5 => ?_, fun h5 => ?_⟩
          · have p5 := of_decide_eq_true h5
            exact ⟨(by decide), (as_tmod (by omega)), (as_u8 (by omega) (by omega)), (by simp only [List.length_cons, List.length_nil]; omega), (by decide), (as_tdiv_u64 (by omega) (by omega) (by decide)), (as_i64 (by omega) (by omega)), ⟨⟨q1.u / 256, q1.out ++ [q1.u % 256], q1.i + 1⟩, ⟨(show (((q1.i + 1) : Nat) : Int) ≤ w ∧ (0 : Int) ≤ (q1.u / 256) ∧ (q1.u / 256) ≤ 18446744073709551615 ∧ List.map toByte (q1.out ++ [q1.u % 256]) ++ putFixN (w.toNat - (q1.i + 1)) (Int.toNat (q1.u / 256)) = putFixN (w.toNat) (u.toNat) ∧ List.length (q1.out ++ [q1.u % 256]) = (q1.i + 1) from ⟨by omega, by omega, by omega, by rw [← v4, show w.toNat - q1.i = (w.toNat - (q1.i + 1)) + 1 by omega, putFixN, show Int.toNat (q1.u / 256) = q1.u.toNat / 256 by omega]; simp only [List.map_append, List.map_cons, List.map_nil, List.append_assoc, List.cons_append, List.nil_append, toByte]; rw [show Int.toNat (q1.u % 256) = q1.u.toNat % 256 by omega], by simp [v5]⟩), (show w.toNat - (q1.i + 1) < w.toNat - q1.i from by omega)⟩, (by first | rfl | simp), (by first | rfl | simp)⟩⟩
          · have p5 := of_decide_eq_false h5
            have hz : w.toNat - q1.i = 0 := by omega
            rw [hz] at v4
            simp only [putFixN, List.append_nil] at v4
            exact ⟨(congrArg S.v (congrArg V.c (congrArg C.str (by first | (rw [v4]; simp_all [putFix, widthOk]; done) | (rw [v4]; simp_all [putFix, widthOk]; omega) | (simp_all [putFix, widthOk]; done) | (simp_all [putFix, widthOk]; omega))))), rfl⟩
      · have p3 := of_decide_eq_false h3
        refine ⟨⟨⟨u, ([] : List Int), 0⟩, (show ((0 : Nat) : Int) ≤ w ∧ (0 : Int) ≤ u ∧ u ≤ 18446744073709551615 ∧ List.map toByte ([] : List Int) ++ putFixN (w.toNat - 0) (u.toNat) = putFixN (w.toNat) (u.toNat) ∧ List.length ([] : List Int) = 0 from ⟨by omega, by omega, by omega, by simp, by simp⟩), (by first | rfl | simp), (by first | rfl | simp)⟩, fun (q1 : putFix_s_V0) hq_q1 => ?_⟩
        have hi_q1 : (q1.i : Int) ≤ w ∧ (0 : Int) ≤ q1.u ∧ q1.u ≤ 18446744073709551615 ∧ List.map toByte q1.out ++ putFixN (w.toNat - q1.i) (q1.u.toNat) = putFixN (w.toNat) (u.toNat) ∧ q1.out.length = q1.i := hq_q1
        obtain ⟨v1, v2, v3, v4, v5⟩ := hi_q1
        refine ⟨fun h4 => ?_, fun h4 => ?_⟩
        · have p4 := of_decide_eq_true h4
          exact ⟨(by decide), (as_tmod (by omega)), (as_u8 (by omega) (by omega)), (by simp only [List.length_cons, List.length_nil]; omega), (by decide), (as_tdiv_u64 (by omega) (by omega) (by decide)), (as_i64 (by omega) (by omega)), ⟨⟨q1.u / 256, q1.out ++ [q1.u % 256], q1.i + 1⟩, ⟨(show (((q1.i + 1) : Nat) : Int) ≤ w ∧ (0 : Int) ≤ (q1.u / 256) ∧ (q1.u / 256) ≤ 18446744073709551615 ∧ List.map toByte (q1.out ++ [q1.u % 256]) ++ putFixN (w.toNat - (q1.i + 1)) (Int.toNat (q1.u / 256)) = putFixN (w.toNat) (u.toNat) ∧ List.length (q1.out ++ [q1.u % 256]) = (q1.i + 1) from ⟨by omega, by omega, by omega, by rw [← v4, show w.toNat - q1.i = (w.toNat - (q1.i + 1)) + 1 by omega, putFixN, show Int.toNat (q1.u / 256) = q1.u.toNat / 256 by omega]; simp only [List.map_append, List.map_cons, List.map_nil, List.append_assoc, List.cons_append, List.nil_append, toByte]; rw [show Int.toNat (q1.u % 256) = q1.u.toNat % 256 by omega], by simp [v5]⟩), (show w.toNat - (q1.i + 1) < w.toNat - q1.i from by omega)⟩, (by first | rfl | simp), (by first | rfl | simp)⟩⟩
        · have p4 := of_decide_eq_false h4
          have hz : w.toNat - q1.i = 0 := by omega
          rw [hz] at v4
          simp only [putFixN, List.append_nil] at v4
          exact ⟨(congrArg S.v (congrArg V.c (congrArg C.str (by first | (rw [v4]; simp_all [putFix, widthOk]; done) | (rw [v4]; simp_all [putFix, widthOk]; omega) | (simp_all [putFix, widthOk]; done) | (simp_all [putFix, widthOk]; omega))))), rfl⟩
  · have q1 := bnot_f h1
    have p1 := of_decide_eq_true q1
    refine ⟨fun h2 => ?_, fun h2 => ?_⟩
    · have p2 := of_decide_eq_true h2
      refine ⟨fun h3 => ?_, fun h3 => ?_⟩
      · have p3 := of_decide_eq_true h3
        exact ⟨(congrArg S.v (congrArg V.c (congrArg C.str (by first | (rw [v4]; simp_all [putFix, widthOk]; done) | (rw [v4]; simp_all [putFix, widthOk]; omega) | (simp_all [putFix, widthOk]; done) | (simp_all [putFix, widthOk]; omega))))), rfl⟩
      · have p3 := of_decide_eq_false h3
        refine ⟨⟨⟨u, ([] : List Int), 0⟩, (show ((0 : Nat) : Int) ≤ w ∧ (0 : Int) ≤ u ∧ u ≤ 18446744073709551615 ∧ List.map toByte ([] : List Int) ++ putFixN (w.toNat - 0) (u.toNat) = putFixN (w.toNat) (u.toNat) ∧ List.length ([] : List Int) = 0 from ⟨by omega, by omega, by omega, by simp, by simp⟩), (by first | rfl | simp), (by first | rfl | simp)⟩, fun (q1 : putFix_s_V0) hq_q1 => ?_⟩
        have hi_q1 : (q1.i : Int) ≤ w ∧ (0 : Int) ≤ q1.u ∧ q1.u ≤ 18446744073709551615 ∧ List.map toByte q1.out ++ putFixN (w.toNat - q1.i) (q1.u.toNat) = putFixN (w.toNat) (u.toNat) ∧ q1.out.length = q1.i := hq_q1
        obtain ⟨v1, v2, v3, v4, v5⟩ := hi_q1
        refine ⟨fun h4 => ?_, fun h4 => ?_⟩
        · have p4 := of_decide_eq_true h4
          exact ⟨(by decide), (as_tmod (by omega)), (as_u8 (by omega) (by omega)), (by simp only [List.length_cons, List.length_nil]; omega), (by decide), (as_tdiv_u64 (by omega) (by omega) (by decide)), (as_i64 (by omega) (by omega)), ⟨⟨q1.u / 256, q1.out ++ [q1.u % 256], q1.i + 1⟩, ⟨(show (((q1.i + 1) : Nat) : Int) ≤ w ∧ (0 : Int) ≤ (q1.u / 256) ∧ (q1.u / 256) ≤ 18446744073709551615 ∧ List.map toByte (q1.out ++ [q1.u % 256]) ++ putFixN (w.toNat - (q1.i + 1)) (Int.toNat (q1.u / 256)) = putFixN (w.toNat) (u.toNat) ∧ List.length (q1.out ++ [q1.u % 256]) = (q1.i + 1) from ⟨by omega, by omega, by omega, by rw [← v4, show w.toNat - q1.i = (w.toNat - (q1.i + 1)) + 1 by omega, putFixN, show Int.toNat (q1.u / 256) = q1.u.toNat / 256 by omega]; simp only [List.map_append, List.map_cons, List.map_nil, List.append_assoc, List.cons_append, List.nil_append, toByte]; rw [show Int.toNat (q1.u % 256) = q1.u.toNat % 256 by omega], by simp [v5]⟩), (show w.toNat - (q1.i + 1) < w.toNat - q1.i from by omega)⟩, (by first | rfl | simp), (by first | rfl | simp)⟩⟩
        · have p4 := of_decide_eq_false h4
          have hz : w.toNat - q1.i = 0 := by omega
          rw [hz] at v4
          simp only [putFixN, List.append_nil] at v4
          exact ⟨(congrArg S.v (congrArg V.c (congrArg C.str (by first | (rw [v4]; simp_all [putFix, widthOk]; done) | (rw [v4]; simp_all [putFix, widthOk]; omega) | (simp_all [putFix, widthOk]; done) | (simp_all [putFix, widthOk]; omega))))), rfl⟩
    · have p2 := of_decide_eq_false h2
      refine ⟨⟨⟨u, ([] : List Int), 0⟩, (show ((0 : Nat) : Int) ≤ w ∧ (0 : Int) ≤ u ∧ u ≤ 18446744073709551615 ∧ List.map toByte ([] : List Int) ++ putFixN (w.toNat - 0) (u.toNat) = putFixN (w.toNat) (u.toNat) ∧ List.length ([] : List Int) = 0 from ⟨by omega, by omega, by omega, by simp, by simp⟩), (by first | rfl | simp), (by first | rfl | simp)⟩, fun (q1 : putFix_s_V0) hq_q1 => ?_⟩
      have hi_q1 : (q1.i : Int) ≤ w ∧ (0 : Int) ≤ q1.u ∧ q1.u ≤ 18446744073709551615 ∧ List.map toByte q1.out ++ putFixN (w.toNat - q1.i) (q1.u.toNat) = putFixN (w.toNat) (u.toNat) ∧ q1.out.length = q1.i := hq_q1
      obtain ⟨v1, v2, v3, v4, v5⟩ := hi_q1
      refine ⟨fun h3 => ?_, fun h3 => ?_⟩
      · have p3 := of_decide_eq_true h3
        exact ⟨(by decide), (as_tmod (by omega)), (as_u8 (by omega) (by omega)), (by simp only [List.length_cons, List.length_nil]; omega), (by decide), (as_tdiv_u64 (by omega) (by omega) (by decide)), (as_i64 (by omega) (by omega)), ⟨⟨q1.u / 256, q1.out ++ [q1.u % 256], q1.i + 1⟩, ⟨(show (((q1.i + 1) : Nat) : Int) ≤ w ∧ (0 : Int) ≤ (q1.u / 256) ∧ (q1.u / 256) ≤ 18446744073709551615 ∧ List.map toByte (q1.out ++ [q1.u % 256]) ++ putFixN (w.toNat - (q1.i + 1)) (Int.toNat (q1.u / 256)) = putFixN (w.toNat) (u.toNat) ∧ List.length (q1.out ++ [q1.u % 256]) = (q1.i + 1) from ⟨by omega, by omega, by omega, by rw [← v4, show w.toNat - q1.i = (w.toNat - (q1.i + 1)) + 1 by omega, putFixN, show Int.toNat (q1.u / 256) = q1.u.toNat / 256 by omega]; simp only [List.map_append, List.map_cons, List.map_nil, List.append_assoc, List.cons_append, List.nil_append, toByte]; rw [show Int.toNat (q1.u % 256) = q1.u.toNat % 256 by omega], by simp [v5]⟩), (show w.toNat - (q1.i + 1) < w.toNat - q1.i from by omega)⟩, (by first | rfl | simp), (by first | rfl | simp)⟩⟩
      · have p3 := of_decide_eq_false h3
        have hz : w.toNat - q1.i = 0 := by omega
        rw [hz] at v4
        simp only [putFixN, List.append_nil] at v4
        exact ⟨(congrArg S.v (congrArg V.c (congrArg C.str (by first | (rw [v4]; simp_all [putFix, widthOk]; done) | (rw [v4]; simp_all [putFix, widthOk]; omega) | (simp_all [putFix, widthOk]; done) | (simp_all [putFix, widthOk]; omega))))), rfl⟩
theorem tagOf_i (n : Int) (w : Int) : Fun Try.prog 102 [vI n, vI w] [] (.v (.c (.int .u64 (tagOf n w)))) [] := by
  have hN : bigN = 274877906944 := rfl
  refine fun_of Try.func102 (by kernel_rfl) (by kernel_rfl) (d := .seg [.call [] (.v (vB (within n 1 536870911))) []] (.br (.leaf () []) (.seg [.call [] (.v (vB (within w 0 7))) []] (.br (.leaf () []) (.seg [.as 14 (.v (.c (.int .u64 n))), .as 15 (.v (.c (.int .u64 (8 * n)))), .as 17 (.v (.c (.int .u64 w))), .as 18 (.v (.c (.int .u64 ((8 * n) + w))))] (.leaf () []))))))
    (vc := (Fun Try.prog 60 [vI n, vI 1, vI 536870911] [] (.v (vB (within n 1 536870911))) []) ∧ ((!(within n 1 536870911)) = true → (.v (.c (.int .u64 0)) : S) = .v (.c (.int .u64 (tagOf n w))) ∧ ([] : List Blk) = []) ∧ ((!(within n 1 536870911)) = false → (Fun Try.prog 60 [vI w, vI 0, vI 7] [] (.v (vB (within w 0 7))) []) ∧ ((!(within w 0 7)) = true → (.v (.c (.int .u64 0)) : S) = .v (.c (.int .u64 (tagOf n w))) ∧ ([] : List Blk) = []) ∧ ((!(within w 0 7)) = false → ((.v (.c (.int .u64 (IntKind.u64.wrap (n)))) : S) = .v (.c (.int .u64 n))) ∧ ((.v (.c (.int .u64 (IntKind.u64.wrap (8 * n)))) : S) = .v (.c (.int .u64 (8 * n)))) ∧ ((.v (.c (.int .u64 (IntKind.u64.wrap (w)))) : S) = .v (.c (.int .u64 w))) ∧ ((.v (.c (.int .u64 (IntKind.u64.wrap ((8 * n) + w)))) : S) = .v (.c (.int .u64 ((8 * n) + w)))) ∧ (.v (.c (.int .u64 ((8 * n) + w))) : S) = .v (.c (.int .u64 (tagOf n w))) ∧ ([] : List Blk) = []))) (by kernel_rfl) ?_
  refine ⟨(within_i _ _ _), fun h1 => ?_, fun h1 => ?_⟩
  · have q1 := bnot_t h1
    have p1 := within_f q1
    exact ⟨(congrArg S.v (congrArg V.c (congrArg (C.int .u64) (by simp [tagOf, *])))), rfl⟩
  · have q1 := bnot_f h1
    have p1 := within_t q1
    refine ⟨(within_i _ _ _), fun h2 => ?_, fun h2 => ?_⟩
    · have q2 := bnot_t h2
      have p2 := within_f q2
      exact ⟨(congrArg S.v (congrArg V.c (congrArg (C.int .u64) (by simp [tagOf, *])))), rfl⟩
    · have q2 := bnot_f h2
      have p2 := within_t q2
      exact ⟨(as_u64 (by omega) (by omega)), (as_u64 (by omega) (by omega)), (as_u64 (by omega) (by omega)), (as_u64 (by omega) (by omega)), (congrArg S.v (congrArg V.c (congrArg (C.int .u64) (by simp [tagOf, *])))), rfl⟩
theorem tagOf_s (n : Int) (w : Int) : Fun Try.prog 98 [vI n, vI w] [] (.v (.c (.int .u64 (tagOf n w)))) [] := by
  have hN : bigN = 274877906944 := rfl
  refine fun_of Try.func98 (by kernel_rfl) (by kernel_rfl) (d := .seg [.call [] (.v (vB (within n 1 536870911))) []] (.br (.leaf () []) (.seg [.call [] (.v (vB (within w 0 7))) []] (.br (.leaf () []) (.seg [.as 14 (.v (vI (8 * n))), .as 16 (.v (vI ((8 * n) + w))), .as 17 (.v (.c (.int .u64 ((8 * n) + w))))] (.leaf () []))))))
    (vc := (Fun Try.prog 55 [vI n, vI 1, vI 536870911] [] (.v (vB (within n 1 536870911))) []) ∧ ((!(within n 1 536870911)) = true → (.v (.c (.int .u64 0)) : S) = .v (.c (.int .u64 (tagOf n w))) ∧ ([] : List Blk) = []) ∧ ((!(within n 1 536870911)) = false → (Fun Try.prog 55 [vI w, vI 0, vI 7] [] (.v (vB (within w 0 7))) []) ∧ ((!(within w 0 7)) = true → (.v (.c (.int .u64 0)) : S) = .v (.c (.int .u64 (tagOf n w))) ∧ ([] : List Blk) = []) ∧ ((!(within w 0 7)) = false → ((.v (vI (IntKind.i64.wrap (8 * n))) : S) = .v (vI (8 * n))) ∧ ((.v (vI (IntKind.i64.wrap ((8 * n) + w))) : S) = .v (vI ((8 * n) + w))) ∧ ((.v (.c (.int .u64 (IntKind.u64.wrap ((8 * n) + w)))) : S) = .v (.c (.int .u64 ((8 * n) + w)))) ∧ (.v (.c (.int .u64 ((8 * n) + w))) : S) = .v (.c (.int .u64 (tagOf n w))) ∧ ([] : List Blk) = []))) (by kernel_rfl) ?_
  refine ⟨(within_s _ _ _), fun h1 => ?_, fun h1 => ?_⟩
  · have q1 := bnot_t h1
    have p1 := within_f q1
    exact ⟨(congrArg S.v (congrArg V.c (congrArg (C.int .u64) (by simp [tagOf, *])))), rfl⟩
  · have q1 := bnot_f h1
    have p1 := within_t q1
    refine ⟨(within_s _ _ _), fun h2 => ?_, fun h2 => ?_⟩
    · have q2 := bnot_t h2
      have p2 := within_f q2
      exact ⟨(congrArg S.v (congrArg V.c (congrArg (C.int .u64) (by simp [tagOf, *])))), rfl⟩
    · have q2 := bnot_f h2
      have p2 := within_t q2
      exact ⟨(as_i64 (by omega) (by omega)), (as_i64 (by omega) (by omega)), (as_u64 (by omega) (by omega)), (congrArg S.v (congrArg V.c (congrArg (C.int .u64) (by simp [tagOf, *])))), rfl⟩
theorem tagIn_i (u : Int) (hp1 : (0 : Int) ≤ u ∧ u ≤ 18446744073709551615) : Fun Try.prog 117 [.c (.int .u64 u)] [] (.tup [vI (tagNum u), vI (tagWire u), vB (tagOk u)]) [] := by
  have hN : bigN = 274877906944 := rfl
  refine fun_of Try.func117 (by kernel_rfl) (by kernel_rfl) (d := .br (.leaf () []) (.seg [.as 9 (.v (.c (.int .u64 (u / 8))))] (.br (.leaf () []) (.seg [.as 13 (.v (.c (.int .u64 (u / 8)))), .as 14 (.v (vI (u / 8))), .as 16 (.v (.c (.int .u64 (u % 8)))), .as 17 (.v (vI (u % 8)))] (.leaf () [])))))
    (vc := ((decide (u < 8)) = true → (.tup [vI 0, vI 0, vB false] : S) = .tup [vI (tagNum u), vI (tagWire u), vB (tagOk u)] ∧ ([] : List Blk) = []) ∧ ((decide (u < 8)) = false → ((0 : Int) ≤ 3) ∧ ((.v (.c (.int .u64 (Int.fdiv u (2 ^ 3)))) : S) = .v (.c (.int .u64 (u / 8)))) ∧ ((decide (536870911 < u / 8)) = true → (.tup [vI 0, vI 0, vB false] : S) = .tup [vI (tagNum u), vI (tagWire u), vB (tagOk u)] ∧ ([] : List Blk) = []) ∧ ((decide (536870911 < u / 8)) = false → ((0 : Int) ≤ 3) ∧ ((.v (.c (.int .u64 (Int.fdiv u (2 ^ 3)))) : S) = .v (.c (.int .u64 (u / 8)))) ∧ ((.v (vI (IntKind.i64.wrap (u / 8))) : S) = .v (vI (u / 8))) ∧ ((.v (.c (.int .u64 (IntKind.u64.wrap (((BitVec.ofInt 64 u &&& BitVec.ofInt 64 7).toNat : Nat))))) : S) = .v (.c (.int .u64 (u % 8)))) ∧ ((.v (vI (IntKind.i64.wrap (u % 8))) : S) = .v (vI (u % 8))) ∧ (.tup [vI (u / 8), vI (u % 8), vB true] : S) = .tup [vI (tagNum u), vI (tagWire u), vB (tagOk u)] ∧ ([] : List Blk) = []))) (by kernel_rfl) ?_
  refine ⟨fun h1 => ?_, fun h1 => ?_⟩
  · have p1 := of_decide_eq_true h1
    exact ⟨(congrArg S.tup (consE (congrArg V.c (congrArg (C.int .i64) (by first | ((have ht : tagOk u = true := by (simp [tagOk, within]; omega)); simp [tagNum, tagWire, ht]) | ((have ht : tagOk u = false := by (simp [tagOk, within]; omega)); simp [tagNum, tagWire, ht])))) (consE (congrArg V.c (congrArg (C.int .i64) (by first | ((have ht : tagOk u = true := by (simp [tagOk, within]; omega)); simp [tagNum, tagWire, ht]) | ((have ht : tagOk u = false := by (simp [tagOk, within]; omega)); simp [tagNum, tagWire, ht])))) (consE (congrArg V.c (congrArg C.bool (by first | ((have ht : tagOk u = true := by (simp [tagOk, within]; omega)); simp [tagNum, tagWire, ht]) | ((have ht : tagOk u = false := by (simp [tagOk, within]; omega)); simp [tagNum, tagWire, ht])))) rfl)))), rfl⟩
  · have p1 := of_decide_eq_false h1
    refine ⟨(by decide), (as_shr (k := 3) (by decide) (by decide)), fun h2 => ?_, fun h2 => ?_⟩
    · have p2 := of_decide_eq_true h2
      exact ⟨(congrArg S.tup (consE (congrArg V.c (congrArg (C.int .i64) (by first | ((have ht : tagOk u = true := by (simp [tagOk, within]; omega)); simp [tagNum, tagWire, ht]) | ((have ht : tagOk u = false := by (simp [tagOk, within]; omega)); simp [tagNum, tagWire, ht])))) (consE (congrArg V.c (congrArg (C.int .i64) (by first | ((have ht : tagOk u = true := by (simp [tagOk, within]; omega)); simp [tagNum, tagWire, ht]) | ((have ht : tagOk u = false := by (simp [tagOk, within]; omega)); simp [tagNum, tagWire, ht])))) (consE (congrArg V.c (congrArg C.bool (by first | ((have ht : tagOk u = true := by (simp [tagOk, within]; omega)); simp [tagNum, tagWire, ht]) | ((have ht : tagOk u = false := by (simp [tagOk, within]; omega)); simp [tagNum, tagWire, ht])))) rfl)))), rfl⟩
    · have p2 := of_decide_eq_false h2
      exact ⟨(by decide), (as_shr (k := 3) (by decide) (by decide)), (as_i64 (by omega) (by omega)), (as_mask_u64 (k := 3) (by decide) (by decide)), (as_i64 (by omega) (by omega)), (congrArg S.tup (consE (congrArg V.c (congrArg (C.int .i64) (by first | ((have ht : tagOk u = true := by (simp [tagOk, within]; omega)); simp [tagNum, tagWire, ht]) | ((have ht : tagOk u = false := by (simp [tagOk, within]; omega)); simp [tagNum, tagWire, ht])))) (consE (congrArg V.c (congrArg (C.int .i64) (by first | ((have ht : tagOk u = true := by (simp [tagOk, within]; omega)); simp [tagNum, tagWire, ht]) | ((have ht : tagOk u = false := by (simp [tagOk, within]; omega)); simp [tagNum, tagWire, ht])))) (consE (congrArg V.c (congrArg C.bool (by first | ((have ht : tagOk u = true := by (simp [tagOk, within]; omega)); simp [tagNum, tagWire, ht]) | ((have ht : tagOk u = false := by (simp [tagOk, within]; omega)); simp [tagNum, tagWire, ht])))) rfl)))), rfl⟩
theorem tagIn_s (u : Int) (hp1 : (0 : Int) ≤ u ∧ u ≤ 18446744073709551615) : Fun Try.prog 135 [.c (.int .u64 u)] [] (.tup [vI (tagNum u), vI (tagWire u), vB (tagOk u)]) [] := by
  have hN : bigN = 274877906944 := rfl
  refine fun_of Try.func135 (by kernel_rfl) (by kernel_rfl) (d := .br (.leaf () []) (.br (.leaf () []) (.seg [.as 12 (.v (.c (.int .u64 (u / 8)))), .as 13 (.v (vI (u / 8))), .as 15 (.v (.c (.int .u64 (u % 8)))), .as 16 (.v (vI (u % 8)))] (.leaf () []))))
    (vc := ((decide (u < 8)) = true → (.tup [vI 0, vI 0, vB false] : S) = .tup [vI (tagNum u), vI (tagWire u), vB (tagOk u)] ∧ ([] : List Blk) = []) ∧ ((decide (u < 8)) = false → ((decide (4294967295 < u)) = true → (.tup [vI 0, vI 0, vB false] : S) = .tup [vI (tagNum u), vI (tagWire u), vB (tagOk u)] ∧ ([] : List Blk) = []) ∧ ((decide (4294967295 < u)) = false → ((8 : Int) ≠ 0) ∧ ((.v (.c (.int .u64 (IntKind.u64.wrap (Int.tdiv u 8)))) : S) = .v (.c (.int .u64 (u / 8)))) ∧ ((.v (vI (IntKind.i64.wrap (u / 8))) : S) = .v (vI (u / 8))) ∧ ((8 : Int) ≠ 0) ∧ ((.v (.c (.int .u64 (Int.tmod u 8))) : S) = .v (.c (.int .u64 (u % 8)))) ∧ ((.v (vI (IntKind.i64.wrap (u % 8))) : S) = .v (vI (u % 8))) ∧ (.tup [vI (u / 8), vI (u % 8), vB true] : S) = .tup [vI (tagNum u), vI (tagWire u), vB (tagOk u)] ∧ ([] : List Blk) = []))) (by kernel_rfl) ?_
  refine ⟨fun h1 => ?_, fun h1 => ?_⟩
  · have p1 := of_decide_eq_true h1
    exact ⟨(congrArg S.tup (consE (congrArg V.c (congrArg (C.int .i64) (by first | ((have ht : tagOk u = true := by (simp [tagOk, within]; omega)); simp [tagNum, tagWire, ht]) | ((have ht : tagOk u = false := by (simp [tagOk, within]; omega)); simp [tagNum, tagWire, ht])))) (consE (congrArg V.c (congrArg (C.int .i64) (by first | ((have ht : tagOk u = true := by (simp [tagOk, within]; omega)); simp [tagNum, tagWire, ht]) | ((have ht : tagOk u = false := by (simp [tagOk, within]; omega)); simp [tagNum, tagWire, ht])))) (consE (congrArg V.c (congrArg C.bool (by first | ((have ht : tagOk u = true := by (simp [tagOk, within]; omega)); simp [tagNum, tagWire, ht]) | ((have ht : tagOk u = false := by (simp [tagOk, within]; omega)); simp [tagNum, tagWire, ht])))) rfl)))), rfl⟩
  · have p1 := of_decide_eq_false h1
    refine ⟨fun h2 => ?_, fun h2 => ?_⟩
    · have p2 := of_decide_eq_true h2
      exact ⟨(congrArg S.tup (consE (congrArg V.c (congrArg (C.int .i64) (by first | ((have ht : tagOk u = true := by (simp [tagOk, within]; omega)); simp [tagNum, tagWire, ht]) | ((have ht : tagOk u = false := by (simp [tagOk, within]; omega)); simp [tagNum, tagWire, ht])))) (consE (congrArg V.c (congrArg (C.int .i64) (by first | ((have ht : tagOk u = true := by (simp [tagOk, within]; omega)); simp [tagNum, tagWire, ht]) | ((have ht : tagOk u = false := by (simp [tagOk, within]; omega)); simp [tagNum, tagWire, ht])))) (consE (congrArg V.c (congrArg C.bool (by first | ((have ht : tagOk u = true := by (simp [tagOk, within]; omega)); simp [tagNum, tagWire, ht]) | ((have ht : tagOk u = false := by (simp [tagOk, within]; omega)); simp [tagNum, tagWire, ht])))) rfl)))), rfl⟩
    · have p2 := of_decide_eq_false h2
      exact ⟨(by decide), (as_tdiv_u64 (by omega) (by omega) (by decide)), (as_i64 (by omega) (by omega)), (by decide), (as_tmod (by omega)), (as_i64 (by omega) (by omega)), (congrArg S.tup (consE (congrArg V.c (congrArg (C.int .i64) (by first | ((have ht : tagOk u = true := by (simp [tagOk, within]; omega)); simp [tagNum, tagWire, ht]) | ((have ht : tagOk u = false := by (simp [tagOk, within]; omega)); simp [tagNum, tagWire, ht])))) (consE (congrArg V.c (congrArg (C.int .i64) (by first | ((have ht : tagOk u = true := by (simp [tagOk, within]; omega)); simp [tagNum, tagWire, ht]) | ((have ht : tagOk u = false := by (simp [tagOk, within]; omega)); simp [tagNum, tagWire, ht])))) (consE (congrArg V.c (congrArg C.bool (by first | ((have ht : tagOk u = true := by (simp [tagOk, within]; omega)); simp [tagNum, tagWire, ht]) | ((have ht : tagOk u = false := by (simp [tagOk, within]; omega)); simp [tagNum, tagWire, ht])))) rfl)))), rfl⟩
theorem failure_i (c : Int) (a : Int) : Fun Try.prog 116 [vI c, vI a] [] (.v (.agg (cEv (failEv c a)))) [] := by
  have hN : bigN = 274877906944 := rfl
  refine fun_of Try.func116 (by kernel_rfl) (by kernel_rfl) (d := .leaf () [])
    (vc := (.v (.agg [.int .i64 10, .int .i64 0, .int .u64 0, .int .i64 0, .str [], .int .i64 c, .int .i64 a]) : S) = .v (.agg (cEv (failEv c a))) ∧ ([] : List Blk) = []) (by kernel_rfl) ?_
  have hm1 : failEv c a = (⟨10, 0, 0, 0, [], c, a⟩ : Ev) := by rfl
  exact ⟨(congrArg S.v (congrArg V.agg (consE (congrArg (C.int .i64) (by rfl)) (consE (congrArg (C.int .i64) (by rfl)) (consE (congrArg (C.int .u64) (by rfl)) (consE (congrArg (C.int .i64) (by rfl)) (consE (congrArg C.str (by rfl)) (consE (congrArg (C.int .i64) (by rfl)) (consE (congrArg (C.int .i64) (by rfl)) rfl))))))))), rfl⟩
theorem failure_s (c : Int) (a : Int) : Fun Try.prog 92 [vI c, vI a] [] (.v (.agg (cEv (failEv c a)))) [] := by
  have hN : bigN = 274877906944 := rfl
  refine fun_of Try.func92 (by kernel_rfl) (by kernel_rfl) (d := .leaf () [])
    (vc := (.v (.agg [.int .i64 10, .int .i64 0, .int .u64 0, .int .i64 0, .str [], .int .i64 c, .int .i64 a]) : S) = .v (.agg (cEv (failEv c a))) ∧ ([] : List Blk) = []) (by kernel_rfl) ?_
  have hm1 : failEv c a = (⟨10, 0, 0, 0, [], c, a⟩ : Ev) := by rfl
  exact ⟨(congrArg S.v (congrArg V.agg (consE (congrArg (C.int .i64) (by rfl)) (consE (congrArg (C.int .i64) (by rfl)) (consE (congrArg (C.int .u64) (by rfl)) (consE (congrArg (C.int .i64) (by rfl)) (consE (congrArg C.str (by rfl)) (consE (congrArg (C.int .i64) (by rfl)) (consE (congrArg (C.int .i64) (by rfl)) rfl))))))))), rfl⟩
theorem numEvent_i (f : Fld) (u : Int) (hp1 : (0 : Int) ≤ u) : Fun Try.prog 122 [.agg (cFld f), .c (.int .u64 u)] [] (.v (.agg (cEv (numEv f u)))) [] := by
  have hN : bigN = 274877906944 := rfl
  refine fun_of Try.func122 (by kernel_rfl) (by kernel_rfl) (d := .br (.br (.leaf () []) (.leaf () [])) (.leaf () []))
    (vc := ((decide (f.kind = 3)) = true → ((!decide (u = 0)) = true → (.v (.agg [.int .i64 2, .int .i64 f.number, .int .u64 1, .int .i64 0, .str [], .int .i64 0, .int .i64 0]) : S) = .v (.agg (cEv (numEv f u))) ∧ ([] : List Blk) = []) ∧ ((!decide (u = 0)) = false → (.v (.agg [.int .i64 2, .int .i64 f.number, .int .u64 u, .int .i64 0, .str [], .int .i64 0, .int .i64 0]) : S) = .v (.agg (cEv (numEv f u))) ∧ ([] : List Blk) = [])) ∧ ((decide (f.kind = 3)) = false → (.v (.agg [.int .i64 2, .int .i64 f.number, .int .u64 u, .int .i64 0, .str [], .int .i64 0, .int .i64 0]) : S) = .v (.agg (cEv (numEv f u))) ∧ ([] : List Blk) = [])) (by kernel_rfl) ?_
  refine ⟨fun h1 => ?_, fun h1 => ?_⟩
  · have p1 := of_decide_eq_true h1
    refine ⟨fun h2 => ?_, fun h2 => ?_⟩
    · have q2 := bnot_t h2
      have p2 := of_decide_eq_false q2
      have hm1 : numEv f u = (⟨2, f.number, 1, 0, [], 0, 0⟩ : Ev) := by simp [numEv, *] <;> omega
      exact ⟨(congrArg S.v (congrArg V.agg (consE (congrArg (C.int .i64) (by simp [numEv, *] <;> omega)) (consE (congrArg (C.int .i64) (by simp [numEv, *] <;> omega)) (consE (congrArg (C.int .u64) (by simp [numEv, *] <;> omega)) (consE (congrArg (C.int .i64) (by simp [numEv, *] <;> omega)) (consE (congrArg C.str (by simp [numEv, *] <;> omega)) (consE (congrArg (C.int .i64) (by simp [numEv, *] <;> omega)) (consE (congrArg (C.int .i64) (by simp [numEv, *] <;> omega)) rfl))))))))), rfl⟩
    · have q2 := bnot_f h2
      have p2 := of_decide_eq_true q2
      have hm1 : numEv f u = (⟨2, f.number, u, 0, [], 0, 0⟩ : Ev) := by simp [numEv, *] <;> omega
      exact ⟨(congrArg S.v (congrArg V.agg (consE (congrArg (C.int .i64) (by simp [numEv, *] <;> omega)) (consE (congrArg (C.int .i64) (by simp [numEv, *] <;> omega)) (consE (congrArg (C.int .u64) (by simp [numEv, *] <;> omega)) (consE (congrArg (C.int .i64) (by simp [numEv, *] <;> omega)) (consE (congrArg C.str (by simp [numEv, *] <;> omega)) (consE (congrArg (C.int .i64) (by simp [numEv, *] <;> omega)) (consE (congrArg (C.int .i64) (by simp [numEv, *] <;> omega)) rfl))))))))), rfl⟩
  · have p1 := of_decide_eq_false h1
    have hm1 : numEv f u = (⟨2, f.number, u, 0, [], 0, 0⟩ : Ev) := by simp [numEv, *] <;> omega
    exact ⟨(congrArg S.v (congrArg V.agg (consE (congrArg (C.int .i64) (by simp [numEv, *] <;> omega)) (consE (congrArg (C.int .i64) (by simp [numEv, *] <;> omega)) (consE (congrArg (C.int .u64) (by simp [numEv, *] <;> omega)) (consE (congrArg (C.int .i64) (by simp [numEv, *] <;> omega)) (consE (congrArg C.str (by simp [numEv, *] <;> omega)) (consE (congrArg (C.int .i64) (by simp [numEv, *] <;> omega)) (consE (congrArg (C.int .i64) (by simp [numEv, *] <;> omega)) rfl))))))))), rfl⟩
theorem numEvent_s (f : Fld) (u : Int) (hp1 : (0 : Int) ≤ u) : Fun Try.prog 149 [.agg (cFld f), .c (.int .u64 u)] [] (.v (.agg (cEv (numEv f u)))) [] := by
  have hN : bigN = 274877906944 := rfl
  refine fun_of Try.func149 (by kernel_rfl) (by kernel_rfl) (d := .br (.br (.leaf () []) (.leaf () [])) (.leaf () []))
    (vc := ((decide (f.kind = 3)) = true → ((decide (1 < u)) = true → (.v (.agg [.int .i64 2, .int .i64 f.number, .int .u64 1, .int .i64 0, .str [], .int .i64 0, .int .i64 0]) : S) = .v (.agg (cEv (numEv f u))) ∧ ([] : List Blk) = []) ∧ ((decide (1 < u)) = false → (.v (.agg [.int .i64 2, .int .i64 f.number, .int .u64 u, .int .i64 0, .str [], .int .i64 0, .int .i64 0]) : S) = .v (.agg (cEv (numEv f u))) ∧ ([] : List Blk) = [])) ∧ ((decide (f.kind = 3)) = false → (.v (.agg [.int .i64 2, .int .i64 f.number, .int .u64 u, .int .i64 0, .str [], .int .i64 0, .int .i64 0]) : S) = .v (.agg (cEv (numEv f u))) ∧ ([] : List Blk) = [])) (by kernel_rfl) ?_
  refine ⟨fun h1 => ?_, fun h1 => ?_⟩
  · have p1 := of_decide_eq_true h1
    refine ⟨fun h2 => ?_, fun h2 => ?_⟩
    · have p2 := of_decide_eq_true h2
      have hm1 : numEv f u = (⟨2, f.number, 1, 0, [], 0, 0⟩ : Ev) := by simp [numEv, *] <;> omega
      exact ⟨(congrArg S.v (congrArg V.agg (consE (congrArg (C.int .i64) (by simp [numEv, *] <;> omega)) (consE (congrArg (C.int .i64) (by simp [numEv, *] <;> omega)) (consE (congrArg (C.int .u64) (by simp [numEv, *] <;> omega)) (consE (congrArg (C.int .i64) (by simp [numEv, *] <;> omega)) (consE (congrArg C.str (by simp [numEv, *] <;> omega)) (consE (congrArg (C.int .i64) (by simp [numEv, *] <;> omega)) (consE (congrArg (C.int .i64) (by simp [numEv, *] <;> omega)) rfl))))))))), rfl⟩
    · have p2 := of_decide_eq_false h2
      have hm1 : numEv f u = (⟨2, f.number, u, 0, [], 0, 0⟩ : Ev) := by simp [numEv, *] <;> omega
      exact ⟨(congrArg S.v (congrArg V.agg (consE (congrArg (C.int .i64) (by simp [numEv, *] <;> omega)) (consE (congrArg (C.int .i64) (by simp [numEv, *] <;> omega)) (consE (congrArg (C.int .u64) (by simp [numEv, *] <;> omega)) (consE (congrArg (C.int .i64) (by simp [numEv, *] <;> omega)) (consE (congrArg C.str (by simp [numEv, *] <;> omega)) (consE (congrArg (C.int .i64) (by simp [numEv, *] <;> omega)) (consE (congrArg (C.int .i64) (by simp [numEv, *] <;> omega)) rfl))))))))), rfl⟩
  · have p1 := of_decide_eq_false h1
    have hm1 : numEv f u = (⟨2, f.number, u, 0, [], 0, 0⟩ : Ev) := by simp [numEv, *] <;> omega
    exact ⟨(congrArg S.v (congrArg V.agg (consE (congrArg (C.int .i64) (by simp [numEv, *] <;> omega)) (consE (congrArg (C.int .i64) (by simp [numEv, *] <;> omega)) (consE (congrArg (C.int .u64) (by simp [numEv, *] <;> omega)) (consE (congrArg (C.int .i64) (by simp [numEv, *] <;> omega)) (consE (congrArg C.str (by simp [numEv, *] <;> omega)) (consE (congrArg (C.int .i64) (by simp [numEv, *] <;> omega)) (consE (congrArg (C.int .i64) (by simp [numEv, *] <;> omega)) rfl))))))))), rfl⟩
theorem frameOf_i (b : List UInt8) (hp1 : b.length ≤ bigN) : Fun Try.prog 48 [vT b] [] (.v (vT (frameOf b))) [] := by
  have hN : bigN = 274877906944 := rfl
  refine fun_of Try.func48 (by kernel_rfl) (by kernel_rfl) (d := .seg [.as 5 (.v (.c (.int .u64 (b.length : Int)))), .call [] (.v (vT (putVar (b.length : Int)))) []] (.leaf () []))
    (vc := ((.v (.c (.int .u64 (IntKind.u64.wrap ((b.length : Int))))) : S) = .v (.c (.int .u64 (b.length : Int)))) ∧ (Fun Try.prog 76 [.c (.int .u64 (b.length : Int))] [] (.v (vT (putVar (b.length : Int)))) []) ∧ (((List.length (putVar (b.length : Int)) + b.length : Nat) : Int) ≤ i64max) ∧ (.v (vT ((putVar (b.length : Int)) ++ b)) : S) = .v (vT (frameOf b)) ∧ ([] : List Blk) = []) (by kernel_rfl) ?_
  exact ⟨(as_u64 (by omega) (by omega)), (putVar_i _ (by omega)), (by have := putVar_len (u := (b.length : Int)) (by omega); simp only [i64max]; omega), (congrArg S.v (congrArg V.c (congrArg C.str (by rfl)))), rfl⟩
theorem frameOf_s (b : List UInt8) (hp1 : b.length ≤ bigN) : Fun Try.prog 46 [vT b] [] (.v (vT (frameOf b))) [] := by
  have hN : bigN = 274877906944 := rfl
  refine fun_of Try.func46 (by kernel_rfl) (by kernel_rfl) (d := .seg [.as 5 (.v (.c (.int .u64 (b.length : Int)))), .call [] (.v (vT (putVar (b.length : Int)))) []] (.leaf () []))
    (vc := ((.v (.c (.int .u64 (IntKind.u64.wrap ((b.length : Int))))) : S) = .v (.c (.int .u64 (b.length : Int)))) ∧ (Fun Try.prog 75 [.c (.int .u64 (b.length : Int))] [] (.v (vT (putVar (b.length : Int)))) []) ∧ (((List.length (putVar (b.length : Int)) + b.length : Nat) : Int) ≤ i64max) ∧ (.v (vT ((putVar (b.length : Int)) ++ b)) : S) = .v (vT (frameOf b)) ∧ ([] : List Blk) = []) (by kernel_rfl) ?_
  exact ⟨(as_u64 (by omega) (by omega)), (putVar_s _ (by omega)), (by have := putVar_len (u := (b.length : Int)) (by omega); simp only [i64max]; omega), (congrArg S.v (congrArg V.c (congrArg C.str (by rfl)))), rfl⟩
end Go.Proofs.Ythmhekbmhpljcaa.Ax
