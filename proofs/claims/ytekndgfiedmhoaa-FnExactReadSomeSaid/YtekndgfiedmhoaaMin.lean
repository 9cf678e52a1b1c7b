/- l1Min. -/
import Derived.Test.YtekndgfiedmhoaaRsM
import Derived.Test.YtekndgfiedmhoaaFrameStop
namespace Go.Proofs.Ytekndgfiedmhoaa
open Go.RowKit
set_option maxHeartbeats 400000 in
theorem l1Min_c (a b : Int) (w : World) :
    Calls Try.prog 59 #[.int .i64 a, .int .i64 b] w fun e w' => e = .returned (.int .i64 (if a < b then a else b)) ∧ w = w' := by
  by_cases h : a < b
  all_goals
    have hh : (if a < b then a else b) = _ := rfl
    first | rw [if_pos h] | rw [if_neg h]
    clear hh
    go_enter Try.func59, Try.ntmps59
    go_wp2
    go_ret
    exact ⟨rfl, rfl⟩
theorem l1Min_m {a b m : Int} (h : (if a < b then a else b) = m) (w : World) : Calls Try.prog 59 #[.int .i64 a, .int .i64 b] w fun e w' => e = .returned (.int .i64 m) ∧ w = w' := h ▸ l1Min_c a b w
theorem l1Max_m {a b m : Int} (h : (if b < a then a else b) = m) (w : World) : Calls Try.prog 47 #[.int .i64 a, .int .i64 b] w fun e w' => e = .returned (.int .i64 m) ∧ w = w' := h ▸ l1Max_c a b w
theorem clampS {n room s m1 m2 m : Int} (h1 : (if room < s then room else s) = m1) (h2 : (if n < m1 then n else m1) = m2) (h3 : (if m2 < 0 then 0 else m2) = m) : m = max 0 (min n (min room s)) := by
  split at h1 <;> split at h2 <;> split at h3 <;> omega
end Go.Proofs.Ytekndgfiedmhoaa
