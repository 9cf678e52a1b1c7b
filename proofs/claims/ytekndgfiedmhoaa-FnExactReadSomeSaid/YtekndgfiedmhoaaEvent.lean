/- Events: the laws' helpers on []Event (sz, to, eq), by contract. -/
import Derived.Test.YtekndgfiedmhoaaBase
import Derived.Test.YtekndgfiedmhoaaMem
namespace Go.Proofs.Ytekndgfiedmhoaa
open Go.RowKit
structure Ev where
  kind : Int
  field : Int
  bits : Int
  len : Int
  text : ByteArray
  code : Int
  at_ : Int
def encEv (e : Ev) : List Value := [.int .i64 e.kind, .int .i64 e.field, .int .u64 e.bits, .int .i64 e.len, .string e.text, .int .i64 e.code, .int .i64 e.at_]
theorem encEv_one (e : Ev) : ∀ v ∈ encEv e, v.oneCell' = true := by
  intro v hv
  simp only [encEv, List.mem_cons, List.not_mem_nil, or_false] at hv
  rcases hv with rfl | rfl | rfl | rfl | rfl | rfl | rfl <;> rfl
theorem encEv_len (e : Ev) : (encEv e).length = 7 := rfl

set_option maxHeartbeats 400000 in
theorem toEvent_c (e : Ev) (w : World) :
    Calls Try.prog 48 #[.agg (encEv e).toArray] w fun r w' => r = .returned (.agg (encEv e).toArray) ∧ Below w.heap.size w w' := by
  obtain ⟨k, f, b, l, t, c, a⟩ := e
  simp only [encEv]
  go_enter Try.func48, Try.ntmps48
  go_wp2
  refine bodyPost_ret (v := .agg #[.int .i64 k, .int .i64 f, .int .u64 b, .int .i64 l, .string t, .int .i64 c, .int .i64 a]) (by simp [results, Try.results48, go_sem]) rfl ⟨rfl, ?_⟩
  exact ((((Below.refl _ _).alloc (Nat.le_refl _) _).alloc (by simp) _).alloc (by simp; omega) _)

set_option maxHeartbeats 400000 in
theorem szEvent_c (e : Ev) (left : Int) (w : World) (h0 : -9223372036854775808 ≤ left - e.text.size) (h1 : left ≤ 9223372036854775807) :
    Calls Try.prog 46 #[.agg (encEv e).toArray, .int .i64 left] w fun r w' => ∃ n, r = .returned (.int .i64 n) ∧ (0 ≤ n → n = left - e.text.size) ∧ Below w.heap.size w w' := by
  obtain ⟨k, f, b, l, t, c, a⟩ := e
  simp only [encEv] at *
  by_cases hl : left - t.size < 0
  all_goals
    go_enter Try.func46, Try.ntmps46
    go_wp2
    go_ret
    first
      | exact ⟨_, rfl, fun h => by omega, (Below.refl _ _).alloc (Nat.le_refl _) _⟩

set_option maxHeartbeats 400000 in
theorem eqEvent_c (e : Ev) (w : World) :
    Calls Try.prog 49 #[.agg (encEv e).toArray, .agg (encEv e).toArray] w fun r w' => r = .returned (.bool true) ∧ Below w.heap.size w w' := by
  obtain ⟨k, f, b, l, t, c, a⟩ := e
  simp only [encEv]
  go_enter Try.func49, Try.ntmps49
  go_wp2
  go_ret
  exact ⟨rfl, (((Below.refl _ _).alloc (Nat.le_refl _) _).alloc (by simp) _)⟩
end Go.Proofs.Ytekndgfiedmhoaa
