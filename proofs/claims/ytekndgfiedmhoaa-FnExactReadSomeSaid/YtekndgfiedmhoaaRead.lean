/- Read: the model of its values, and the laws' helpers on them. -/
import Derived.Test.YtekndgfiedmhoaaBase
import Derived.Test.YtekndgfiedmhoaaMem
namespace Go.Proofs.Ytekndgfiedmhoaa
open Go.RowKit
structure Rd where
  n : Int
  code : Int

def encRd (y : Rd) : List Value := [.int .i64 y.n, .int .i64 y.code]
theorem encRd_one (y : Rd) : ∀ v ∈ encRd y, v.oneCell' = true := by
  intro v hv
  simp only [encRd, List.mem_cons, List.not_mem_nil, or_false] at hv
  rcases hv with rfl | rfl <;> rfl
theorem encRd_len (y : Rd) : (encRd y).length = 2 := rfl

set_option maxHeartbeats 400000 in
theorem toRead_c (y : Rd) (w : World) :
    Calls Try.prog 50 #[.agg (encRd y).toArray] w fun r w' => r = .returned (.agg (encRd y).toArray) ∧ Below w.heap.size w w' := by
  obtain ⟨f0, f1⟩ := y
  simp only [encRd]
  go_enter Try.func50, Try.ntmps50
  go_wp2
  refine bodyPost_ret (v := .agg #[.int .i64 f0, .int .i64 f1]) (by simp [results, Try.results50, go_sem]) rfl ⟨rfl, ?_⟩
  exact ((((Below.refl _ _).alloc (Nat.le_refl _) _).alloc (by simp) _).alloc (by simp; omega) _)

set_option maxHeartbeats 400000 in
theorem eqRead_c (y : Rd) (w : World) :
    Calls Try.prog 52 #[.agg (encRd y).toArray, .agg (encRd y).toArray] w fun r w' => r = .returned (.bool true) ∧ Below w.heap.size w w' := by
  obtain ⟨f0, f1⟩ := y
  simp only [encRd]
  go_enter Try.func52, Try.ntmps52
  go_wp2
  go_ret
  exact ⟨rfl, (((Below.refl _ _).alloc (Nat.le_refl _) _).alloc (by simp) _)⟩
end Go.Proofs.Ytekndgfiedmhoaa
