/- Contracts of both FormWord functions: the word of each code. -/
import Derived.Test.YtekndgfiedmhoaaBase
namespace Go.Proofs.Ytekndgfiedmhoaa
open Go.RowKit
def fword : Int → ByteArray
  | 0 => ⟨#[111, 107]⟩
  | 1 => ⟨#[102, 114, 97, 109, 101]⟩
  | 2 => ⟨#[101, 118, 101, 110, 116]⟩
  | 3 => ⟨#[102, 105, 101, 108, 100]⟩
  | 4 => ⟨#[98, 105, 116, 115]⟩
  | 5 => ⟨#[117, 116, 102]⟩
  | 6 => ⟨#[100, 101, 101, 112]⟩
  | 7 => ⟨#[111, 112, 101, 110]⟩
  | 8 => ⟨#[115, 105, 122, 101]⟩
  | _ => ⟨#[63]⟩

theorem fw_i0 (w : World) : Calls Try.prog 12 #[.int .i64 0] w fun e w' => e = .returned (.string ⟨#[111, 107]⟩) ∧ Below w.heap.size w w' := by
  have ix : ∀ W : World, (Instr.index 65 (.agg #[.string ⟨#[111, 107]⟩, .string ⟨#[102, 114, 97, 109, 101]⟩, .string ⟨#[101, 118, 101, 110, 116]⟩, .string ⟨#[102, 105, 101, 108, 100]⟩, .string ⟨#[98, 105, 116, 115]⟩, .string ⟨#[117, 116, 102]⟩, .string ⟨#[100, 101, 101, 112]⟩, .string ⟨#[111, 112, 101, 110]⟩, .string ⟨#[115, 105, 122, 101]⟩]) (.int .i64 0)).run Try.prog W = .ok (.string ⟨#[111, 107]⟩) W := fun _ => by kernel_rfl
  have hr : inR 0 0 8 = true := rfl
  go_enter Try.func12, Try.ntmps12
  go_wp2_with (go_at_call 45; refine (within_c _ _ _ _).mono ?_; rintro e w' ⟨rfl, rfl⟩)
  go_ret
  exact ⟨rfl, Below.refl _ _⟩
theorem fw_s0 (w : World) : Calls Try.prog 11 #[.int .i64 0] w fun e w' => e = .returned (.string ⟨#[111, 107]⟩) ∧ Below w.heap.size w w' := by
  have hr : inR 0 0 8 = true := rfl
  go_enter Try.func11, Try.ntmps11
  go_wp2_with (go_at_call 44; refine (l1In_c _ _ _ _).mono ?_; rintro e w' ⟨rfl, rfl⟩)
  go_ret
  exact ⟨rfl, (Below.refl _ _).alloc (Nat.le_refl _) _⟩
theorem fw_i1 (w : World) : Calls Try.prog 12 #[.int .i64 1] w fun e w' => e = .returned (.string ⟨#[102, 114, 97, 109, 101]⟩) ∧ Below w.heap.size w w' := by
  have ix : ∀ W : World, (Instr.index 65 (.agg #[.string ⟨#[111, 107]⟩, .string ⟨#[102, 114, 97, 109, 101]⟩, .string ⟨#[101, 118, 101, 110, 116]⟩, .string ⟨#[102, 105, 101, 108, 100]⟩, .string ⟨#[98, 105, 116, 115]⟩, .string ⟨#[117, 116, 102]⟩, .string ⟨#[100, 101, 101, 112]⟩, .string ⟨#[111, 112, 101, 110]⟩, .string ⟨#[115, 105, 122, 101]⟩]) (.int .i64 1)).run Try.prog W = .ok (.string ⟨#[102, 114, 97, 109, 101]⟩) W := fun _ => by kernel_rfl
  have hr : inR 1 0 8 = true := rfl
  go_enter Try.func12, Try.ntmps12
  go_wp2_with (go_at_call 45; refine (within_c _ _ _ _).mono ?_; rintro e w' ⟨rfl, rfl⟩)
  go_ret
  exact ⟨rfl, Below.refl _ _⟩
theorem fw_s1 (w : World) : Calls Try.prog 11 #[.int .i64 1] w fun e w' => e = .returned (.string ⟨#[102, 114, 97, 109, 101]⟩) ∧ Below w.heap.size w w' := by
  have hr : inR 1 0 8 = true := rfl
  go_enter Try.func11, Try.ntmps11
  go_wp2_with (go_at_call 44; refine (l1In_c _ _ _ _).mono ?_; rintro e w' ⟨rfl, rfl⟩)
  go_ret
  exact ⟨rfl, (Below.refl _ _).alloc (Nat.le_refl _) _⟩
theorem fw_i2 (w : World) : Calls Try.prog 12 #[.int .i64 2] w fun e w' => e = .returned (.string ⟨#[101, 118, 101, 110, 116]⟩) ∧ Below w.heap.size w w' := by
  have ix : ∀ W : World, (Instr.index 65 (.agg #[.string ⟨#[111, 107]⟩, .string ⟨#[102, 114, 97, 109, 101]⟩, .string ⟨#[101, 118, 101, 110, 116]⟩, .string ⟨#[102, 105, 101, 108, 100]⟩, .string ⟨#[98, 105, 116, 115]⟩, .string ⟨#[117, 116, 102]⟩, .string ⟨#[100, 101, 101, 112]⟩, .string ⟨#[111, 112, 101, 110]⟩, .string ⟨#[115, 105, 122, 101]⟩]) (.int .i64 2)).run Try.prog W = .ok (.string ⟨#[101, 118, 101, 110, 116]⟩) W := fun _ => by kernel_rfl
  have hr : inR 2 0 8 = true := rfl
  go_enter Try.func12, Try.ntmps12
  go_wp2_with (go_at_call 45; refine (within_c _ _ _ _).mono ?_; rintro e w' ⟨rfl, rfl⟩)
  go_ret
  exact ⟨rfl, Below.refl _ _⟩
theorem fw_s2 (w : World) : Calls Try.prog 11 #[.int .i64 2] w fun e w' => e = .returned (.string ⟨#[101, 118, 101, 110, 116]⟩) ∧ Below w.heap.size w w' := by
  have hr : inR 2 0 8 = true := rfl
  go_enter Try.func11, Try.ntmps11
  go_wp2_with (go_at_call 44; refine (l1In_c _ _ _ _).mono ?_; rintro e w' ⟨rfl, rfl⟩)
  go_ret
  exact ⟨rfl, (Below.refl _ _).alloc (Nat.le_refl _) _⟩
theorem fw_i3 (w : World) : Calls Try.prog 12 #[.int .i64 3] w fun e w' => e = .returned (.string ⟨#[102, 105, 101, 108, 100]⟩) ∧ Below w.heap.size w w' := by
  have ix : ∀ W : World, (Instr.index 65 (.agg #[.string ⟨#[111, 107]⟩, .string ⟨#[102, 114, 97, 109, 101]⟩, .string ⟨#[101, 118, 101, 110, 116]⟩, .string ⟨#[102, 105, 101, 108, 100]⟩, .string ⟨#[98, 105, 116, 115]⟩, .string ⟨#[117, 116, 102]⟩, .string ⟨#[100, 101, 101, 112]⟩, .string ⟨#[111, 112, 101, 110]⟩, .string ⟨#[115, 105, 122, 101]⟩]) (.int .i64 3)).run Try.prog W = .ok (.string ⟨#[102, 105, 101, 108, 100]⟩) W := fun _ => by kernel_rfl
  have hr : inR 3 0 8 = true := rfl
  go_enter Try.func12, Try.ntmps12
  go_wp2_with (go_at_call 45; refine (within_c _ _ _ _).mono ?_; rintro e w' ⟨rfl, rfl⟩)
  go_ret
  exact ⟨rfl, Below.refl _ _⟩
theorem fw_s3 (w : World) : Calls Try.prog 11 #[.int .i64 3] w fun e w' => e = .returned (.string ⟨#[102, 105, 101, 108, 100]⟩) ∧ Below w.heap.size w w' := by
  have hr : inR 3 0 8 = true := rfl
  go_enter Try.func11, Try.ntmps11
  go_wp2_with (go_at_call 44; refine (l1In_c _ _ _ _).mono ?_; rintro e w' ⟨rfl, rfl⟩)
  go_ret
  exact ⟨rfl, (Below.refl _ _).alloc (Nat.le_refl _) _⟩
theorem fw_i4 (w : World) : Calls Try.prog 12 #[.int .i64 4] w fun e w' => e = .returned (.string ⟨#[98, 105, 116, 115]⟩) ∧ Below w.heap.size w w' := by
  have ix : ∀ W : World, (Instr.index 65 (.agg #[.string ⟨#[111, 107]⟩, .string ⟨#[102, 114, 97, 109, 101]⟩, .string ⟨#[101, 118, 101, 110, 116]⟩, .string ⟨#[102, 105, 101, 108, 100]⟩, .string ⟨#[98, 105, 116, 115]⟩, .string ⟨#[117, 116, 102]⟩, .string ⟨#[100, 101, 101, 112]⟩, .string ⟨#[111, 112, 101, 110]⟩, .string ⟨#[115, 105, 122, 101]⟩]) (.int .i64 4)).run Try.prog W = .ok (.string ⟨#[98, 105, 116, 115]⟩) W := fun _ => by kernel_rfl
  have hr : inR 4 0 8 = true := rfl
  go_enter Try.func12, Try.ntmps12
  go_wp2_with (go_at_call 45; refine (within_c _ _ _ _).mono ?_; rintro e w' ⟨rfl, rfl⟩)
  go_ret
  exact ⟨rfl, Below.refl _ _⟩
theorem fw_s4 (w : World) : Calls Try.prog 11 #[.int .i64 4] w fun e w' => e = .returned (.string ⟨#[98, 105, 116, 115]⟩) ∧ Below w.heap.size w w' := by
  have hr : inR 4 0 8 = true := rfl
  go_enter Try.func11, Try.ntmps11
  go_wp2_with (go_at_call 44; refine (l1In_c _ _ _ _).mono ?_; rintro e w' ⟨rfl, rfl⟩)
  go_ret
  exact ⟨rfl, (Below.refl _ _).alloc (Nat.le_refl _) _⟩
theorem fw_i5 (w : World) : Calls Try.prog 12 #[.int .i64 5] w fun e w' => e = .returned (.string ⟨#[117, 116, 102]⟩) ∧ Below w.heap.size w w' := by
  have ix : ∀ W : World, (Instr.index 65 (.agg #[.string ⟨#[111, 107]⟩, .string ⟨#[102, 114, 97, 109, 101]⟩, .string ⟨#[101, 118, 101, 110, 116]⟩, .string ⟨#[102, 105, 101, 108, 100]⟩, .string ⟨#[98, 105, 116, 115]⟩, .string ⟨#[117, 116, 102]⟩, .string ⟨#[100, 101, 101, 112]⟩, .string ⟨#[111, 112, 101, 110]⟩, .string ⟨#[115, 105, 122, 101]⟩]) (.int .i64 5)).run Try.prog W = .ok (.string ⟨#[117, 116, 102]⟩) W := fun _ => by kernel_rfl
  have hr : inR 5 0 8 = true := rfl
  go_enter Try.func12, Try.ntmps12
  go_wp2_with (go_at_call 45; refine (within_c _ _ _ _).mono ?_; rintro e w' ⟨rfl, rfl⟩)
  go_ret
  exact ⟨rfl, Below.refl _ _⟩
theorem fw_s5 (w : World) : Calls Try.prog 11 #[.int .i64 5] w fun e w' => e = .returned (.string ⟨#[117, 116, 102]⟩) ∧ Below w.heap.size w w' := by
  have hr : inR 5 0 8 = true := rfl
  go_enter Try.func11, Try.ntmps11
  go_wp2_with (go_at_call 44; refine (l1In_c _ _ _ _).mono ?_; rintro e w' ⟨rfl, rfl⟩)
  go_ret
  exact ⟨rfl, (Below.refl _ _).alloc (Nat.le_refl _) _⟩
theorem fw_i6 (w : World) : Calls Try.prog 12 #[.int .i64 6] w fun e w' => e = .returned (.string ⟨#[100, 101, 101, 112]⟩) ∧ Below w.heap.size w w' := by
  have ix : ∀ W : World, (Instr.index 65 (.agg #[.string ⟨#[111, 107]⟩, .string ⟨#[102, 114, 97, 109, 101]⟩, .string ⟨#[101, 118, 101, 110, 116]⟩, .string ⟨#[102, 105, 101, 108, 100]⟩, .string ⟨#[98, 105, 116, 115]⟩, .string ⟨#[117, 116, 102]⟩, .string ⟨#[100, 101, 101, 112]⟩, .string ⟨#[111, 112, 101, 110]⟩, .string ⟨#[115, 105, 122, 101]⟩]) (.int .i64 6)).run Try.prog W = .ok (.string ⟨#[100, 101, 101, 112]⟩) W := fun _ => by kernel_rfl
  have hr : inR 6 0 8 = true := rfl
  go_enter Try.func12, Try.ntmps12
  go_wp2_with (go_at_call 45; refine (within_c _ _ _ _).mono ?_; rintro e w' ⟨rfl, rfl⟩)
  go_ret
  exact ⟨rfl, Below.refl _ _⟩
theorem fw_s6 (w : World) : Calls Try.prog 11 #[.int .i64 6] w fun e w' => e = .returned (.string ⟨#[100, 101, 101, 112]⟩) ∧ Below w.heap.size w w' := by
  have hr : inR 6 0 8 = true := rfl
  go_enter Try.func11, Try.ntmps11
  go_wp2_with (go_at_call 44; refine (l1In_c _ _ _ _).mono ?_; rintro e w' ⟨rfl, rfl⟩)
  go_ret
  exact ⟨rfl, (Below.refl _ _).alloc (Nat.le_refl _) _⟩
theorem fw_i7 (w : World) : Calls Try.prog 12 #[.int .i64 7] w fun e w' => e = .returned (.string ⟨#[111, 112, 101, 110]⟩) ∧ Below w.heap.size w w' := by
  have ix : ∀ W : World, (Instr.index 65 (.agg #[.string ⟨#[111, 107]⟩, .string ⟨#[102, 114, 97, 109, 101]⟩, .string ⟨#[101, 118, 101, 110, 116]⟩, .string ⟨#[102, 105, 101, 108, 100]⟩, .string ⟨#[98, 105, 116, 115]⟩, .string ⟨#[117, 116, 102]⟩, .string ⟨#[100, 101, 101, 112]⟩, .string ⟨#[111, 112, 101, 110]⟩, .string ⟨#[115, 105, 122, 101]⟩]) (.int .i64 7)).run Try.prog W = .ok (.string ⟨#[111, 112, 101, 110]⟩) W := fun _ => by kernel_rfl
  have hr : inR 7 0 8 = true := rfl
  go_enter Try.func12, Try.ntmps12
  go_wp2_with (go_at_call 45; refine (within_c _ _ _ _).mono ?_; rintro e w' ⟨rfl, rfl⟩)
  go_ret
  exact ⟨rfl, Below.refl _ _⟩
theorem fw_s7 (w : World) : Calls Try.prog 11 #[.int .i64 7] w fun e w' => e = .returned (.string ⟨#[111, 112, 101, 110]⟩) ∧ Below w.heap.size w w' := by
  have hr : inR 7 0 8 = true := rfl
  go_enter Try.func11, Try.ntmps11
  go_wp2_with (go_at_call 44; refine (l1In_c _ _ _ _).mono ?_; rintro e w' ⟨rfl, rfl⟩)
  go_ret
  exact ⟨rfl, (Below.refl _ _).alloc (Nat.le_refl _) _⟩
theorem fw_i8 (w : World) : Calls Try.prog 12 #[.int .i64 8] w fun e w' => e = .returned (.string ⟨#[115, 105, 122, 101]⟩) ∧ Below w.heap.size w w' := by
  have ix : ∀ W : World, (Instr.index 65 (.agg #[.string ⟨#[111, 107]⟩, .string ⟨#[102, 114, 97, 109, 101]⟩, .string ⟨#[101, 118, 101, 110, 116]⟩, .string ⟨#[102, 105, 101, 108, 100]⟩, .string ⟨#[98, 105, 116, 115]⟩, .string ⟨#[117, 116, 102]⟩, .string ⟨#[100, 101, 101, 112]⟩, .string ⟨#[111, 112, 101, 110]⟩, .string ⟨#[115, 105, 122, 101]⟩]) (.int .i64 8)).run Try.prog W = .ok (.string ⟨#[115, 105, 122, 101]⟩) W := fun _ => by kernel_rfl
  have hr : inR 8 0 8 = true := rfl
  go_enter Try.func12, Try.ntmps12
  go_wp2_with (go_at_call 45; refine (within_c _ _ _ _).mono ?_; rintro e w' ⟨rfl, rfl⟩)
  go_ret
  exact ⟨rfl, Below.refl _ _⟩
theorem fw_s8 (w : World) : Calls Try.prog 11 #[.int .i64 8] w fun e w' => e = .returned (.string ⟨#[115, 105, 122, 101]⟩) ∧ Below w.heap.size w w' := by
  have hr : inR 8 0 8 = true := rfl
  go_enter Try.func11, Try.ntmps11
  go_wp2_with (go_at_call 44; refine (l1In_c _ _ _ _).mono ?_; rintro e w' ⟨rfl, rfl⟩)
  go_ret
  exact ⟨rfl, (Below.refl _ _).alloc (Nat.le_refl _) _⟩
theorem fw_i (n : Int) (w : World) : Calls Try.prog 12 #[.int .i64 n] w fun e w' => e = .returned (.string (fword n)) ∧ Below w.heap.size w w' := by
  by_cases h : 0 ≤ n ∧ n ≤ 8
  · have hc : n = 0 ∨ n = 1 ∨ n = 2 ∨ n = 3 ∨ n = 4 ∨ n = 5 ∨ n = 6 ∨ n = 7 ∨ n = 8 := by omega
    rcases hc with rfl | rfl | rfl | rfl | rfl | rfl | rfl | rfl | rfl
    · exact fw_i0 w
    · exact fw_i1 w
    · exact fw_i2 w
    · exact fw_i3 w
    · exact fw_i4 w
    · exact fw_i5 w
    · exact fw_i6 w
    · exact fw_i7 w
    · exact fw_i8 w
  · have hr : inR n 0 8 = false := by
      by_cases h0 : 0 ≤ n
      · have h8 : ¬ n ≤ 8 := fun h8 => h ⟨h0, h8⟩
        simp [inR, h8]
      · simp [inR, h0]
    have hf : fword n = ⟨#[63]⟩ := by
      unfold fword
      split <;> first | rfl | (exfalso; omega)
    rw [hf]
    clear hf h
    go_enter Try.func12, Try.ntmps12
    go_wp2_with (go_at_call 45; refine (within_c _ _ _ _).mono ?_; rintro e w' ⟨rfl, rfl⟩)
    go_ret
    exact ⟨rfl, Below.refl _ _⟩
theorem fw_s (n : Int) (w : World) : Calls Try.prog 11 #[.int .i64 n] w fun e w' => e = .returned (.string (fword n)) ∧ Below w.heap.size w w' := by
  by_cases h : 0 ≤ n ∧ n ≤ 8
  · have hc : n = 0 ∨ n = 1 ∨ n = 2 ∨ n = 3 ∨ n = 4 ∨ n = 5 ∨ n = 6 ∨ n = 7 ∨ n = 8 := by omega
    rcases hc with rfl | rfl | rfl | rfl | rfl | rfl | rfl | rfl | rfl
    · exact fw_s0 w
    · exact fw_s1 w
    · exact fw_s2 w
    · exact fw_s3 w
    · exact fw_s4 w
    · exact fw_s5 w
    · exact fw_s6 w
    · exact fw_s7 w
    · exact fw_s8 w
  · have hr : inR n 0 8 = false := by
      by_cases h0 : 0 ≤ n
      · have h8 : ¬ n ≤ 8 := fun h8 => h ⟨h0, h8⟩
        simp [inR, h8]
      · simp [inR, h0]
    have hf : fword n = ⟨#[63]⟩ := by
      unfold fword
      split <;> first | rfl | (exfalso; omega)
    rw [hf]
    clear hf h
    go_enter Try.func11, Try.ntmps11
    go_wp2_with (go_at_call 44; refine (l1In_c _ _ _ _).mono ?_; rintro e w' ⟨rfl, rfl⟩)
    go_ret
    exact ⟨rfl, Below.refl _ _⟩
end Go.Proofs.Ytekndgfiedmhoaa
