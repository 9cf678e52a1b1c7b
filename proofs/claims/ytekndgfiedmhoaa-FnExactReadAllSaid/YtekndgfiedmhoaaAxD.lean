/- Readers. -/
import Derived.Test.YtekndgfiedmhoaaAxC
namespace Go.Proofs.Ytekndgfiedmhoaa.Ax
open Go.RowKit

structure Rdr where
  data : List UInt8
  at_ : Int
  script : List Rd
  next : Int
  code : Int
def szRdr (left : Int) (a : Rdr) : Int := if left - (a.data.length : Int) < 0 then -1 else if szN (left - (a.data.length : Int)) (a.script.length : Int) < 0 then -1 else szN (left - (a.data.length : Int)) (a.script.length : Int)
theorem szRdr_b {left : Int} {a : Rdr} (h1 : 0 ≤ left) (h2 : left ≤ 1048576) (h : 0 ≤ szRdr left a) : a.data.length ≤ 1048576 ∧ a.script.length ≤ 1048576 := by
  unfold szRdr szN at h
  split at h
  · omega
  · split at h
    · omega
    · omega
def readerOk (a : Rdr) : Bool := decide ((a.data.length : Int) ≤ 4000) && within a.at_ 0 (a.data.length : Int) && decide ((a.script.length : Int) ≤ 200) && within a.next 0 (a.script.length : Int) && (decide (a.code = 0) || decide (a.code = 1) || decide (20 ≤ a.code))
theorem readerOk_t {a : Rdr} (h : readerOk a = true) : (a.data.length : Int) ≤ 4000 ∧ 0 ≤ a.at_ ∧ a.at_ ≤ (a.data.length : Int) ∧ (a.script.length : Int) ≤ 200 ∧ 0 ≤ a.next ∧ a.next ≤ (a.script.length : Int) ∧ (a.code = 0 ∨ a.code = 1 ∨ 20 ≤ a.code) := by
  simp only [readerOk, within, Bool.and_eq_true, Bool.or_eq_true, decide_eq_true_eq] at h
  omega
/-- How many bytes a read gives. -/
def clampN (n room left : Int) : Int := max (min (min n room) left) 0
theorem clampN_b (n room left : Int) : 0 ≤ clampN n room left ∧ (0 ≤ left → clampN n room left ≤ left) ∧ (1 ≤ n → 1 ≤ room → 1 ≤ left → 1 ≤ clampN n room left) := by unfold clampN; omega
def entryOf (r : Rdr) (room : Int) : Rd := if r.next < (r.script.length : Int) then r.script.getD r.next.toNat ⟨0, 0⟩ else ⟨room, 1⟩
def rsNext (r : Rdr) : Int := if r.next < (r.script.length : Int) then r.next + 1 else r.next
def rsN (r : Rdr) (room : Int) : Int := clampN (entryOf r room).n room ((r.data.length : Int) - r.at_)
def rsCode (r : Rdr) (room : Int) : Int := if 20 ≤ (entryOf r room).code then (entryOf r room).code else if (entryOf r room).code = 1 ∧ r.at_ + rsN r room = (r.data.length : Int) then 1 else r.code
def rsBad (r : Rdr) (room : Int) : Bool := !readerOk r || decide (room < 1) || !decide (r.code = 0)
def readSome (r : Rdr) (room : Int) : Rdr := if rsBad r room then r else ⟨r.data, r.at_ + rsN r room, r.script, rsNext r, rsCode r room⟩
def readTxt (r : Rdr) (room : Int) : List UInt8 := if rsBad r room then [] else List.drop r.at_.toNat (List.take (r.at_ + rsN r room).toNat r.data)
def readCode (r : Rdr) (room : Int) : Int := if !readerOk r || decide (room < 1) then 1 else if !decide (r.code = 0) then r.code else rsCode r room
theorem within_i (n : Int) (lo : Int) (hi : Int) : Fun Try.prog 45 [.c (.int .i64 n), .c (.int .i64 lo), .c (.int .i64 hi)] [] (.v (.c (.bool (within n lo hi)))) [] := by
  have hN : bigN = 274877906944 := rfl
  refine ⟨callable_of Try.func45 (by kernel_rfl) (by kernel_rfl), ?_⟩
  cases h1 : (decide (lo ≤ n)) with
  | true =>
    have p1 : lo ≤ n := of_decide_eq_true h1
    exact (walk_sound Try.func45 (res := .v (.c (.bool (decide (n ≤ hi))))) (L' := []) (ds := [.br true]) (σ := []) (ob := [(decide (lo ≤ n)) = true]) (by kernel_rfl) ⟨h1, trivial⟩).to (by simp [within, *]) (by rfl)
  | false =>
    have p1 : ¬ (lo ≤ n) := of_decide_eq_false h1
    exact (walk_sound Try.func45 (res := .v (.c (.bool false))) (L' := []) (ds := [.br false]) (σ := []) (ob := [(decide (lo ≤ n)) = false]) (by kernel_rfl) ⟨h1, trivial⟩).to (by simp [within, *]) (by rfl)
theorem within_s (n : Int) (lo : Int) (hi : Int) : Fun Try.prog 44 [.c (.int .i64 n), .c (.int .i64 lo), .c (.int .i64 hi)] [] (.v (.c (.bool (within n lo hi)))) [] := by
  have hN : bigN = 274877906944 := rfl
  refine ⟨callable_of Try.func44 (by kernel_rfl) (by kernel_rfl), ?_⟩
  cases h1 : (decide (lo ≤ n)) with
  | true =>
    have p1 : lo ≤ n := of_decide_eq_true h1
    exact (walk_sound Try.func44 (res := .v (.c (.bool (decide (n ≤ hi))))) (L' := []) (ds := [.br true]) (σ := []) (ob := [(decide (lo ≤ n)) = true]) (by kernel_rfl) ⟨h1, trivial⟩).to (by simp [within, *]) (by rfl)
  | false =>
    have p1 : ¬ (lo ≤ n) := of_decide_eq_false h1
    exact (walk_sound Try.func44 (res := .v (.c (.bool false))) (L' := []) (ds := [.br false]) (σ := []) (ob := [(decide (lo ≤ n)) = false]) (by kernel_rfl) ⟨h1, trivial⟩).to (by simp [within, *]) (by rfl)
theorem szReader_ok (a : Rdr) (left : Int) (hp1 : (0 : Int) ≤ left ∧ left ≤ 1048576) (hp2 : ((List.length (a).data : Nat) : Int) ≤ 9223372036854775807) (hp3 : ((List.length (a).script : Nat) : Int) ≤ 9223372036854775807) : Fun Try.prog 18 [.agg [.str a.data, .int .i64 a.at_, .seq .rd a.script, .int .i64 a.next, .int .i64 a.code], .c (.int .i64 left)] [] (.v (.c (.int .i64 (szRdr left a)))) [] := by
  have hN : bigN = 274877906944 := rfl
  refine ⟨callable_of Try.func18 (by kernel_rfl) (by kernel_rfl), ?_⟩
  cases h1 : (decide (left - ((List.length a.data : Nat) : Int) < 0)) with
  | true =>
    have p1 : left - ((List.length a.data : Nat) : Int) < 0 := of_decide_eq_true h1
    exact (walk_sound Try.func18 (res := .v (.c (.int .i64 (-1)))) (L' := []) (ds := [.as 9 (.v (.c (.int .i64 (left - ((List.length a.data : Nat) : Int))))), .br true]) (σ := []) (ob := [(decide (left - ((List.length a.data : Nat) : Int) < 0)) = true, (.v (.c (.int .i64 (IntKind.i64.wrap (left - ((List.length a.data : Nat) : Int))))) : S) = .v (.c (.int .i64 (left - ((List.length a.data : Nat) : Int))))]) (by kernel_rfl) ⟨h1, as_i64 (by omega) (by omega), trivial⟩).to (by simp [szRdr, *]) (by rfl)
  | false =>
    have p1 : ¬ (left - ((List.length a.data : Nat) : Int) < 0) := of_decide_eq_false h1
    cases h2 : (decide (szN (left - ((List.length a.data : Nat) : Int)) ((List.length a.script : Nat) : Int) < 0)) with
    | true =>
      have p2 : szN (left - ((List.length a.data : Nat) : Int)) ((List.length a.script : Nat) : Int) < 0 := of_decide_eq_true h2
      exact (walk_sound Try.func18 (res := .v (.c (.int .i64 (-1)))) (L' := []) (ds := [.as 9 (.v (.c (.int .i64 (left - ((List.length a.data : Nat) : Int))))), .br false, .call [] (.v (.c (.int .i64 (szN (left - ((List.length a.data : Nat) : Int)) ((List.length a.script : Nat) : Int))))) [], .br true]) (σ := []) (ob := [(decide (szN (left - ((List.length a.data : Nat) : Int)) ((List.length a.script : Nat) : Int) < 0)) = true, Fun Try.prog 23 [.c (.seq .rd a.script), .c (.int .i64 (left - ((List.length a.data : Nat) : Int)))] [] (.v (.c (.int .i64 (szN (left - ((List.length a.data : Nat) : Int)) ((List.length a.script : Nat) : Int))))) [], (decide (left - ((List.length a.data : Nat) : Int) < 0)) = false, (.v (.c (.int .i64 (IntKind.i64.wrap (left - ((List.length a.data : Nat) : Int))))) : S) = .v (.c (.int .i64 (left - ((List.length a.data : Nat) : Int))))]) (by kernel_rfl) ⟨h2, szReadS_ok a.script (left - ((List.length a.data : Nat) : Int)) (by omega) (by omega), h1, as_i64 (by omega) (by omega), trivial⟩).to (by simp [szRdr, *]) (by rfl)
    | false =>
      have p2 : ¬ (szN (left - ((List.length a.data : Nat) : Int)) ((List.length a.script : Nat) : Int) < 0) := of_decide_eq_false h2
      exact (walk_sound Try.func18 (res := .v (.c (.int .i64 (szN (left - ((List.length a.data : Nat) : Int)) ((List.length a.script : Nat) : Int))))) (L' := []) (ds := [.as 9 (.v (.c (.int .i64 (left - ((List.length a.data : Nat) : Int))))), .br false, .call [] (.v (.c (.int .i64 (szN (left - ((List.length a.data : Nat) : Int)) ((List.length a.script : Nat) : Int))))) [], .br false]) (σ := []) (ob := [(decide (szN (left - ((List.length a.data : Nat) : Int)) ((List.length a.script : Nat) : Int) < 0)) = false, Fun Try.prog 23 [.c (.seq .rd a.script), .c (.int .i64 (left - ((List.length a.data : Nat) : Int)))] [] (.v (.c (.int .i64 (szN (left - ((List.length a.data : Nat) : Int)) ((List.length a.script : Nat) : Int))))) [], (decide (left - ((List.length a.data : Nat) : Int) < 0)) = false, (.v (.c (.int .i64 (IntKind.i64.wrap (left - ((List.length a.data : Nat) : Int))))) : S) = .v (.c (.int .i64 (left - ((List.length a.data : Nat) : Int))))]) (by kernel_rfl) ⟨h2, szReadS_ok a.script (left - ((List.length a.data : Nat) : Int)) (by omega) (by omega), h1, as_i64 (by omega) (by omega), trivial⟩).to (by simp [szRdr, *]) (by rfl)
theorem toReader_ok (a : Rdr) (hp1 : List.length (a).script ≤ 1048576) : Fun Try.prog 20 [.agg [.str a.data, .int .i64 a.at_, .seq .rd a.script, .int .i64 a.next, .int .i64 a.code]] [] (.v (.agg [.str a.data, .int .i64 a.at_, .own 0, .int .i64 a.next, .int .i64 a.code])) [.lst .rd a.script] := by
  have hN : bigN = 274877906944 := rfl
  refine ⟨callable_of Try.func20 (by kernel_rfl) (by kernel_rfl), ?_⟩
  exact (walk_sound Try.func20 (res := .v (.agg [.str a.data, .int .i64 a.at_, .own 0, .int .i64 a.next, .int .i64 a.code])) (L' := [.lst .rd a.script]) (ds := [.call [] (.v (.c (.own 0))) [.lst .rd a.script]]) (σ := [3]) (ob := [Fun Try.prog 25 [.c (.seq .rd a.script)] [] (.v (.c (.own 0))) [.lst .rd a.script]]) (by kernel_rfl) ⟨toReadS_ok a.script (by omega), trivial⟩).to (by rfl) (by rfl)
theorem eqReader_ok (a : Rdr) (hp1 : List.length (a).script ≤ bigN) : Fun Try.prog 22 [.agg [.str a.data, .int .i64 a.at_, .seq .rd a.script, .int .i64 a.next, .int .i64 a.code], .agg [.str a.data, .int .i64 a.at_, .seq .rd a.script, .int .i64 a.next, .int .i64 a.code]] [] (.v (.c (.bool true))) [] := by
  have hN : bigN = 274877906944 := rfl
  refine ⟨callable_of Try.func22 (by kernel_rfl) (by kernel_rfl), ?_⟩
  exact (walk_sound Try.func22 (res := .v (.c (.bool true))) (L' := []) (ds := [.br false, .br false, .call [] (.v (.c (.bool true))) [], .br false, .br false, .br false]) (σ := []) (ob := [(!decide (a.code = a.code)) = false, (!decide (a.next = a.next)) = false, (!true) = false, Fun Try.prog 27 [.c (.seq .rd a.script), .c (.seq .rd a.script)] [] (.v (.c (.bool true))) [], (!decide (a.at_ = a.at_)) = false, (!decide (a.data = a.data)) = false]) (by kernel_rfl) ⟨by simp, by simp, by decide, eqReadS_ok a.script (by omega), by simp, by simp, trivial⟩).to (by rfl) (by rfl)
theorem markReader_ok (a : Rdr) (k : Int) (hp1 : (0 : Int) ≤ k ∧ k ≤ 1125899906842624) (hp2 : List.length (a).script ≤ bigN) : Fun Try.prog 29 [.agg [.str a.data, .int .i64 a.at_, .own 0, .int .i64 a.next, .int .i64 a.code], .c (.int .i64 k)] [.lst .rd a.script] (.v (.c (.int .i64 (k + 2 * ((List.length (a).script : Nat) : Int))))) [.lst .rd (markL mkRd 2 k (List.length (a).script))] := by
  have hN : bigN = 274877906944 := rfl
  refine ⟨callable_of Try.func29 (by kernel_rfl) (by kernel_rfl), ?_⟩
  exact (walk_sound Try.func29 (res := .v (.c (.int .i64 (k + 2 * ((List.length a.script : Nat) : Int))))) (L' := [.lst .rd (markL mkRd 2 k (List.length a.script))]) (ds := [.call [0] (.v (.c (.int .i64 (k + 2 * ((List.length a.script : Nat) : Int))))) [.lst .rd (markL mkRd 2 k (List.length a.script))]]) (σ := [0]) (ob := [Fun Try.prog 28 [.c (.own 0), .c (.int .i64 k)] [.lst .rd a.script] (.v (.c (.int .i64 (k + 2 * ((List.length a.script : Nat) : Int))))) [.lst .rd (markL mkRd 2 k (List.length a.script))]]) (by kernel_rfl) ⟨markReadS_ok a.script k (by omega) (by omega), trivial⟩).to (by rfl) (by rfl)
theorem readerOk_i (r : Rdr) : Fun Try.prog 35 [.agg [.str r.data, .int .i64 r.at_, .seq .rd r.script, .int .i64 r.next, .int .i64 r.code]] [] (.v (.c (.bool (readerOk r)))) [] := by
  have hN : bigN = 274877906944 := rfl
  refine ⟨callable_of Try.func35 (by kernel_rfl) (by kernel_rfl), ?_⟩
  cases h1 : (decide (((List.length r.data : Nat) : Int) ≤ 4000)) with
  | true =>
    have p1 : ((List.length r.data : Nat) : Int) ≤ 4000 := of_decide_eq_true h1
    cases h2 : (within r.at_ 0 ((List.length r.data : Nat) : Int)) with
    | true =>
      have p2 := within_t h2
      cases h3 : (decide (((List.length r.script : Nat) : Int) ≤ 200)) with
      | true =>
        have p3 : ((List.length r.script : Nat) : Int) ≤ 200 := of_decide_eq_true h3
        cases h4 : (within r.next 0 ((List.length r.script : Nat) : Int)) with
        | true =>
          have p4 := within_t h4
          cases h5 : (decide (r.code = 0)) with
          | true =>
            have p5 : r.code = 0 := of_decide_eq_true h5
            exact (walk_sound Try.func35 (res := .v (.c (.bool true))) (L' := []) (ds := [.br true, .call [] (.v (.c (.bool (within r.at_ 0 ((List.length r.data : Nat) : Int))))) [], .br true, .br true, .call [] (.v (.c (.bool (within r.next 0 ((List.length r.script : Nat) : Int))))) [], .br true, .br true]) (σ := []) (ob := [(decide (r.code = 0)) = true, (within r.next 0 ((List.length r.script : Nat) : Int)) = true, Fun Try.prog 45 [.c (.int .i64 r.next), .c (.int .i64 0), .c (.int .i64 ((List.length r.script : Nat) : Int))] [] (.v (.c (.bool (within r.next 0 ((List.length r.script : Nat) : Int))))) [], (decide (((List.length r.script : Nat) : Int) ≤ 200)) = true, (within r.at_ 0 ((List.length r.data : Nat) : Int)) = true, Fun Try.prog 45 [.c (.int .i64 r.at_), .c (.int .i64 0), .c (.int .i64 ((List.length r.data : Nat) : Int))] [] (.v (.c (.bool (within r.at_ 0 ((List.length r.data : Nat) : Int))))) [], (decide (((List.length r.data : Nat) : Int) ≤ 4000)) = true]) (by kernel_rfl) ⟨h5, h4, within_i r.next 0 ((List.length r.script : Nat) : Int), h3, h2, within_i r.at_ 0 ((List.length r.data : Nat) : Int), h1, trivial⟩).to (by simp [readerOk, *] <;> omega) (by rfl)
          | false =>
            have p5 : ¬ (r.code = 0) := of_decide_eq_false h5
            cases h6 : (decide (r.code = 1)) with
            | true =>
              have p6 : r.code = 1 := of_decide_eq_true h6
              exact (walk_sound Try.func35 (res := .v (.c (.bool true))) (L' := []) (ds := [.br true, .call [] (.v (.c (.bool (within r.at_ 0 ((List.length r.data : Nat) : Int))))) [], .br true, .br true, .call [] (.v (.c (.bool (within r.next 0 ((List.length r.script : Nat) : Int))))) [], .br true, .br false, .br true]) (σ := []) (ob := [(decide (r.code = 1)) = true, (decide (r.code = 0)) = false, (within r.next 0 ((List.length r.script : Nat) : Int)) = true, Fun Try.prog 45 [.c (.int .i64 r.next), .c (.int .i64 0), .c (.int .i64 ((List.length r.script : Nat) : Int))] [] (.v (.c (.bool (within r.next 0 ((List.length r.script : Nat) : Int))))) [], (decide (((List.length r.script : Nat) : Int) ≤ 200)) = true, (within r.at_ 0 ((List.length r.data : Nat) : Int)) = true, Fun Try.prog 45 [.c (.int .i64 r.at_), .c (.int .i64 0), .c (.int .i64 ((List.length r.data : Nat) : Int))] [] (.v (.c (.bool (within r.at_ 0 ((List.length r.data : Nat) : Int))))) [], (decide (((List.length r.data : Nat) : Int) ≤ 4000)) = true]) (by kernel_rfl) ⟨h6, h5, h4, within_i r.next 0 ((List.length r.script : Nat) : Int), h3, h2, within_i r.at_ 0 ((List.length r.data : Nat) : Int), h1, trivial⟩).to (by simp [readerOk, *] <;> omega) (by rfl)
            | false =>
              have p6 : ¬ (r.code = 1) := of_decide_eq_false h6
              exact (walk_sound Try.func35 (res := .v (.c (.bool (decide (20 ≤ r.code))))) (L' := []) (ds := [.br true, .call [] (.v (.c (.bool (within r.at_ 0 ((List.length r.data : Nat) : Int))))) [], .br true, .br true, .call [] (.v (.c (.bool (within r.next 0 ((List.length r.script : Nat) : Int))))) [], .br true, .br false, .br false]) (σ := []) (ob := [(decide (r.code = 1)) = false, (decide (r.code = 0)) = false, (within r.next 0 ((List.length r.script : Nat) : Int)) = true, Fun Try.prog 45 [.c (.int .i64 r.next), .c (.int .i64 0), .c (.int .i64 ((List.length r.script : Nat) : Int))] [] (.v (.c (.bool (within r.next 0 ((List.length r.script : Nat) : Int))))) [], (decide (((List.length r.script : Nat) : Int) ≤ 200)) = true, (within r.at_ 0 ((List.length r.data : Nat) : Int)) = true, Fun Try.prog 45 [.c (.int .i64 r.at_), .c (.int .i64 0), .c (.int .i64 ((List.length r.data : Nat) : Int))] [] (.v (.c (.bool (within r.at_ 0 ((List.length r.data : Nat) : Int))))) [], (decide (((List.length r.data : Nat) : Int) ≤ 4000)) = true]) (by kernel_rfl) ⟨h6, h5, h4, within_i r.next 0 ((List.length r.script : Nat) : Int), h3, h2, within_i r.at_ 0 ((List.length r.data : Nat) : Int), h1, trivial⟩).to (by simp [readerOk, *] <;> omega) (by rfl)
        | false =>
          have p4 := within_f h4
          exact (walk_sound Try.func35 (res := .v (.c (.bool false))) (L' := []) (ds := [.br true, .call [] (.v (.c (.bool (within r.at_ 0 ((List.length r.data : Nat) : Int))))) [], .br true, .br true, .call [] (.v (.c (.bool (within r.next 0 ((List.length r.script : Nat) : Int))))) [], .br false]) (σ := []) (ob := [(within r.next 0 ((List.length r.script : Nat) : Int)) = false, Fun Try.prog 45 [.c (.int .i64 r.next), .c (.int .i64 0), .c (.int .i64 ((List.length r.script : Nat) : Int))] [] (.v (.c (.bool (within r.next 0 ((List.length r.script : Nat) : Int))))) [], (decide (((List.length r.script : Nat) : Int) ≤ 200)) = true, (within r.at_ 0 ((List.length r.data : Nat) : Int)) = true, Fun Try.prog 45 [.c (.int .i64 r.at_), .c (.int .i64 0), .c (.int .i64 ((List.length r.data : Nat) : Int))] [] (.v (.c (.bool (within r.at_ 0 ((List.length r.data : Nat) : Int))))) [], (decide (((List.length r.data : Nat) : Int) ≤ 4000)) = true]) (by kernel_rfl) ⟨h4, within_i r.next 0 ((List.length r.script : Nat) : Int), h3, h2, within_i r.at_ 0 ((List.length r.data : Nat) : Int), h1, trivial⟩).to (by simp [readerOk, *] <;> omega) (by rfl)
      | false =>
        have p3 : ¬ (((List.length r.script : Nat) : Int) ≤ 200) := of_decide_eq_false h3
        exact (walk_sound Try.func35 (res := .v (.c (.bool false))) (L' := []) (ds := [.br true, .call [] (.v (.c (.bool (within r.at_ 0 ((List.length r.data : Nat) : Int))))) [], .br true, .br false]) (σ := []) (ob := [(decide (((List.length r.script : Nat) : Int) ≤ 200)) = false, (within r.at_ 0 ((List.length r.data : Nat) : Int)) = true, Fun Try.prog 45 [.c (.int .i64 r.at_), .c (.int .i64 0), .c (.int .i64 ((List.length r.data : Nat) : Int))] [] (.v (.c (.bool (within r.at_ 0 ((List.length r.data : Nat) : Int))))) [], (decide (((List.length r.data : Nat) : Int) ≤ 4000)) = true]) (by kernel_rfl) ⟨h3, h2, within_i r.at_ 0 ((List.length r.data : Nat) : Int), h1, trivial⟩).to (by simp [readerOk, *] <;> omega) (by rfl)
    | false =>
      have p2 := within_f h2
      exact (walk_sound Try.func35 (res := .v (.c (.bool false))) (L' := []) (ds := [.br true, .call [] (.v (.c (.bool (within r.at_ 0 ((List.length r.data : Nat) : Int))))) [], .br false]) (σ := []) (ob := [(within r.at_ 0 ((List.length r.data : Nat) : Int)) = false, Fun Try.prog 45 [.c (.int .i64 r.at_), .c (.int .i64 0), .c (.int .i64 ((List.length r.data : Nat) : Int))] [] (.v (.c (.bool (within r.at_ 0 ((List.length r.data : Nat) : Int))))) [], (decide (((List.length r.data : Nat) : Int) ≤ 4000)) = true]) (by kernel_rfl) ⟨h2, within_i r.at_ 0 ((List.length r.data : Nat) : Int), h1, trivial⟩).to (by simp [readerOk, *] <;> omega) (by rfl)
  | false =>
    have p1 : ¬ (((List.length r.data : Nat) : Int) ≤ 4000) := of_decide_eq_false h1
    exact (walk_sound Try.func35 (res := .v (.c (.bool false))) (L' := []) (ds := [.br false]) (σ := []) (ob := [(decide (((List.length r.data : Nat) : Int) ≤ 4000)) = false]) (by kernel_rfl) ⟨h1, trivial⟩).to (by simp [readerOk, *] <;> omega) (by rfl)
theorem readerOk_s (r : Rdr) : Fun Try.prog 39 [.agg [.str r.data, .int .i64 r.at_, .seq .rd r.script, .int .i64 r.next, .int .i64 r.code]] [] (.v (.c (.bool (readerOk r)))) [] := by
  have hN : bigN = 274877906944 := rfl
  refine ⟨callable_of Try.func39 (by kernel_rfl) (by kernel_rfl), ?_⟩
  cases h1 : (decide (4000 < ((List.length r.data : Nat) : Int))) with
  | true =>
    have p1 : 4000 < ((List.length r.data : Nat) : Int) := of_decide_eq_true h1
    exact (walk_sound Try.func39 (res := .v (.c (.bool false))) (L' := []) (ds := [.br true]) (σ := []) (ob := [(decide (4000 < ((List.length r.data : Nat) : Int))) = true]) (by kernel_rfl) ⟨h1, trivial⟩).to (by simp [readerOk, *] <;> omega) (by rfl)
  | false =>
    have p1 : ¬ (4000 < ((List.length r.data : Nat) : Int)) := of_decide_eq_false h1
    cases h2 : (!(within r.at_ 0 ((List.length r.data : Nat) : Int))) with
    | true =>
      have q2 : (within r.at_ 0 ((List.length r.data : Nat) : Int)) = false := by simpa using h2
      have p2 := within_f q2
      exact (walk_sound Try.func39 (res := .v (.c (.bool false))) (L' := []) (ds := [.br false, .call [] (.v (.c (.bool (within r.at_ 0 ((List.length r.data : Nat) : Int))))) [], .br true]) (σ := []) (ob := [(!(within r.at_ 0 ((List.length r.data : Nat) : Int))) = true, Fun Try.prog 44 [.c (.int .i64 r.at_), .c (.int .i64 0), .c (.int .i64 ((List.length r.data : Nat) : Int))] [] (.v (.c (.bool (within r.at_ 0 ((List.length r.data : Nat) : Int))))) [], (decide (4000 < ((List.length r.data : Nat) : Int))) = false]) (by kernel_rfl) ⟨h2, within_s r.at_ 0 ((List.length r.data : Nat) : Int), h1, trivial⟩).to (by simp [readerOk, *] <;> omega) (by rfl)
    | false =>
      have q2 : (within r.at_ 0 ((List.length r.data : Nat) : Int)) = true := by simpa using h2
      have p2 := within_t q2
      cases h3 : (decide (200 < ((List.length r.script : Nat) : Int))) with
      | true =>
        have p3 : 200 < ((List.length r.script : Nat) : Int) := of_decide_eq_true h3
        exact (walk_sound Try.func39 (res := .v (.c (.bool false))) (L' := []) (ds := [.br false, .call [] (.v (.c (.bool (within r.at_ 0 ((List.length r.data : Nat) : Int))))) [], .br false, .br true]) (σ := []) (ob := [(decide (200 < ((List.length r.script : Nat) : Int))) = true, (!(within r.at_ 0 ((List.length r.data : Nat) : Int))) = false, Fun Try.prog 44 [.c (.int .i64 r.at_), .c (.int .i64 0), .c (.int .i64 ((List.length r.data : Nat) : Int))] [] (.v (.c (.bool (within r.at_ 0 ((List.length r.data : Nat) : Int))))) [], (decide (4000 < ((List.length r.data : Nat) : Int))) = false]) (by kernel_rfl) ⟨h3, h2, within_s r.at_ 0 ((List.length r.data : Nat) : Int), h1, trivial⟩).to (by simp [readerOk, *] <;> omega) (by rfl)
      | false =>
        have p3 : ¬ (200 < ((List.length r.script : Nat) : Int)) := of_decide_eq_false h3
        cases h4 : (!(within r.next 0 ((List.length r.script : Nat) : Int))) with
        | true =>
          have q4 : (within r.next 0 ((List.length r.script : Nat) : Int)) = false := by simpa using h4
          have p4 := within_f q4
          exact (walk_sound Try.func39 (res := .v (.c (.bool false))) (L' := []) (ds := [.br false, .call [] (.v (.c (.bool (within r.at_ 0 ((List.length r.data : Nat) : Int))))) [], .br false, .br false, .call [] (.v (.c (.bool (within r.next 0 ((List.length r.script : Nat) : Int))))) [], .br true]) (σ := []) (ob := [(!(within r.next 0 ((List.length r.script : Nat) : Int))) = true, Fun Try.prog 44 [.c (.int .i64 r.next), .c (.int .i64 0), .c (.int .i64 ((List.length r.script : Nat) : Int))] [] (.v (.c (.bool (within r.next 0 ((List.length r.script : Nat) : Int))))) [], (decide (200 < ((List.length r.script : Nat) : Int))) = false, (!(within r.at_ 0 ((List.length r.data : Nat) : Int))) = false, Fun Try.prog 44 [.c (.int .i64 r.at_), .c (.int .i64 0), .c (.int .i64 ((List.length r.data : Nat) : Int))] [] (.v (.c (.bool (within r.at_ 0 ((List.length r.data : Nat) : Int))))) [], (decide (4000 < ((List.length r.data : Nat) : Int))) = false]) (by kernel_rfl) ⟨h4, within_s r.next 0 ((List.length r.script : Nat) : Int), h3, h2, within_s r.at_ 0 ((List.length r.data : Nat) : Int), h1, trivial⟩).to (by simp [readerOk, *] <;> omega) (by rfl)
        | false =>
          have q4 : (within r.next 0 ((List.length r.script : Nat) : Int)) = true := by simpa using h4
          have p4 := within_t q4
          cases h5 : (decide (r.code = 0)) with
          | true =>
            have p5 : r.code = 0 := of_decide_eq_true h5
            exact (walk_sound Try.func39 (res := .v (.c (.bool true))) (L' := []) (ds := [.br false, .call [] (.v (.c (.bool (within r.at_ 0 ((List.length r.data : Nat) : Int))))) [], .br false, .br false, .call [] (.v (.c (.bool (within r.next 0 ((List.length r.script : Nat) : Int))))) [], .br false, .br true]) (σ := []) (ob := [(decide (r.code = 0)) = true, (!(within r.next 0 ((List.length r.script : Nat) : Int))) = false, Fun Try.prog 44 [.c (.int .i64 r.next), .c (.int .i64 0), .c (.int .i64 ((List.length r.script : Nat) : Int))] [] (.v (.c (.bool (within r.next 0 ((List.length r.script : Nat) : Int))))) [], (decide (200 < ((List.length r.script : Nat) : Int))) = false, (!(within r.at_ 0 ((List.length r.data : Nat) : Int))) = false, Fun Try.prog 44 [.c (.int .i64 r.at_), .c (.int .i64 0), .c (.int .i64 ((List.length r.data : Nat) : Int))] [] (.v (.c (.bool (within r.at_ 0 ((List.length r.data : Nat) : Int))))) [], (decide (4000 < ((List.length r.data : Nat) : Int))) = false]) (by kernel_rfl) ⟨h5, h4, within_s r.next 0 ((List.length r.script : Nat) : Int), h3, h2, within_s r.at_ 0 ((List.length r.data : Nat) : Int), h1, trivial⟩).to (by simp [readerOk, *] <;> omega) (by rfl)
          | false =>
            have p5 : ¬ (r.code = 0) := of_decide_eq_false h5
            cases h6 : (decide (r.code = 1)) with
            | true =>
              have p6 : r.code = 1 := of_decide_eq_true h6
              exact (walk_sound Try.func39 (res := .v (.c (.bool true))) (L' := []) (ds := [.br false, .call [] (.v (.c (.bool (within r.at_ 0 ((List.length r.data : Nat) : Int))))) [], .br false, .br false, .call [] (.v (.c (.bool (within r.next 0 ((List.length r.script : Nat) : Int))))) [], .br false, .br false, .br true]) (σ := []) (ob := [(decide (r.code = 1)) = true, (decide (r.code = 0)) = false, (!(within r.next 0 ((List.length r.script : Nat) : Int))) = false, Fun Try.prog 44 [.c (.int .i64 r.next), .c (.int .i64 0), .c (.int .i64 ((List.length r.script : Nat) : Int))] [] (.v (.c (.bool (within r.next 0 ((List.length r.script : Nat) : Int))))) [], (decide (200 < ((List.length r.script : Nat) : Int))) = false, (!(within r.at_ 0 ((List.length r.data : Nat) : Int))) = false, Fun Try.prog 44 [.c (.int .i64 r.at_), .c (.int .i64 0), .c (.int .i64 ((List.length r.data : Nat) : Int))] [] (.v (.c (.bool (within r.at_ 0 ((List.length r.data : Nat) : Int))))) [], (decide (4000 < ((List.length r.data : Nat) : Int))) = false]) (by kernel_rfl) ⟨h6, h5, h4, within_s r.next 0 ((List.length r.script : Nat) : Int), h3, h2, within_s r.at_ 0 ((List.length r.data : Nat) : Int), h1, trivial⟩).to (by simp [readerOk, *] <;> omega) (by rfl)
            | false =>
              have p6 : ¬ (r.code = 1) := of_decide_eq_false h6
              exact (walk_sound Try.func39 (res := .v (.c (.bool (decide (20 ≤ r.code))))) (L' := []) (ds := [.br false, .call [] (.v (.c (.bool (within r.at_ 0 ((List.length r.data : Nat) : Int))))) [], .br false, .br false, .call [] (.v (.c (.bool (within r.next 0 ((List.length r.script : Nat) : Int))))) [], .br false, .br false, .br false]) (σ := []) (ob := [(decide (r.code = 1)) = false, (decide (r.code = 0)) = false, (!(within r.next 0 ((List.length r.script : Nat) : Int))) = false, Fun Try.prog 44 [.c (.int .i64 r.next), .c (.int .i64 0), .c (.int .i64 ((List.length r.script : Nat) : Int))] [] (.v (.c (.bool (within r.next 0 ((List.length r.script : Nat) : Int))))) [], (decide (200 < ((List.length r.script : Nat) : Int))) = false, (!(within r.at_ 0 ((List.length r.data : Nat) : Int))) = false, Fun Try.prog 44 [.c (.int .i64 r.at_), .c (.int .i64 0), .c (.int .i64 ((List.length r.data : Nat) : Int))] [] (.v (.c (.bool (within r.at_ 0 ((List.length r.data : Nat) : Int))))) [], (decide (4000 < ((List.length r.data : Nat) : Int))) = false]) (by kernel_rfl) ⟨h6, h5, h4, within_s r.next 0 ((List.length r.script : Nat) : Int), h3, h2, within_s r.at_ 0 ((List.length r.data : Nat) : Int), h1, trivial⟩).to (by simp [readerOk, *] <;> omega) (by rfl)
theorem l1min (a : Int) (b : Int) : Fun Try.prog 59 [.c (.int .i64 a), .c (.int .i64 b)] [] (.v (.c (.int .i64 (min a b)))) [] := by
  have hN : bigN = 274877906944 := rfl
  refine ⟨callable_of Try.func59 (by kernel_rfl) (by kernel_rfl), ?_⟩
  cases h1 : (decide (a < b)) with
  | true =>
    have p1 : a < b := of_decide_eq_true h1
    exact (walk_sound Try.func59 (res := .v (.c (.int .i64 a))) (L' := []) (ds := [.br true]) (σ := []) (ob := [(decide (a < b)) = true]) (by kernel_rfl) ⟨h1, trivial⟩).to (by simp; omega) (by rfl)
  | false =>
    have p1 : ¬ (a < b) := of_decide_eq_false h1
    exact (walk_sound Try.func59 (res := .v (.c (.int .i64 b))) (L' := []) (ds := [.br false]) (σ := []) (ob := [(decide (a < b)) = false]) (by kernel_rfl) ⟨h1, trivial⟩).to (by simp; omega) (by rfl)
theorem l1max (a : Int) (b : Int) : Fun Try.prog 47 [.c (.int .i64 a), .c (.int .i64 b)] [] (.v (.c (.int .i64 (max a b)))) [] := by
  have hN : bigN = 274877906944 := rfl
  refine ⟨callable_of Try.func47 (by kernel_rfl) (by kernel_rfl), ?_⟩
  cases h1 : (decide (b < a)) with
  | true =>
    have p1 : b < a := of_decide_eq_true h1
    exact (walk_sound Try.func47 (res := .v (.c (.int .i64 a))) (L' := []) (ds := [.br true]) (σ := []) (ob := [(decide (b < a)) = true]) (by kernel_rfl) ⟨h1, trivial⟩).to (by simp; omega) (by rfl)
  | false =>
    have p1 : ¬ (b < a) := of_decide_eq_false h1
    exact (walk_sound Try.func47 (res := .v (.c (.int .i64 b))) (L' := []) (ds := [.br false]) (σ := []) (ob := [(decide (b < a)) = false]) (by kernel_rfl) ⟨h1, trivial⟩).to (by simp; omega) (by rfl)
theorem cloneRd (l : List Rd) (hp1 : List.length l ≤ bigN) : Fun Try.prog 51 [.c (.seq .rd l)] [] (.v (.c (.own 0))) [.lst .rd l] := by
  refine ⟨callable_of Try.func51 (by kernel_rfl) (by kernel_rfl), ?_⟩
  have key : Sm Try.prog 8 0 (regAt Try.f51 1) [(2, .v (.c .nil)), (0, .v (.c (.seq .rd l)))] [] .ret [(2, .v (.c (.own 0)))] [.lst .rd l] := by
    refine Sm.nilTest' (s := 0) (t3 := 3) (t4 := 4) (t := .rd) (l := l) rfl rfl rfl rfl rfl rfl rfl rfl (by kernel_rfl) rfl rfl rfl fun p hp => ?_
    cases p with
    | true =>
      have hl := hp rfl
      subst hl
      exact .inr ⟨by decide, piece_sound (ds := [.br true, .at 0, .mkS 2 .rd, .keep [2], .sel [0]]) (ob := [true = true]) (by kernel_rfl) ⟨rfl, trivial⟩⟩
    | false =>
      exact .inl ⟨[(0, .v (.c (.seq .rd l)))], [], piece_sound (ds := [.br false, .at 0, .keep [0], .sel []]) (ob := [false = false]) (by kernel_rfl) ⟨rfl, trivial⟩,
        (piece_sound (tm' := [(2, .v (.c (.own 0)))]) (H' := [.lst .rd ([] ++ l)]) (ds := [.ty .rd, .ty .rd, .at 0, .keep [2], .sel [1]]) (ob := [List.length ([] : List Rd) + List.length l ≤ bigN]) (by kernel_rfl) ⟨by simpa using hp1, trivial⟩).to (by rfl) (by rfl)⟩
  exact walk_sound Try.func51 (res := .v (.c (.own 0))) (L' := [.lst .rd l]) (ds := [.jump 1 .ret [(2, .v (.c (.own 0)))] [.lst .rd l]]) (σ := [0]) (ob := [Sm Try.prog 8 0 (regAt Try.f51 1) [(2, .v (.c .nil)), (0, .v (.c (.seq .rd l)))] [] .ret [(2, .v (.c (.own 0)))] [.lst .rd l]]) (by kernel_rfl) ⟨key, trivial⟩
theorem copyReader_i (r : Rdr) (hp1 : List.length (r).script ≤ bigN) : Fun Try.prog 57 [.agg [.str r.data, .int .i64 r.at_, .seq .rd r.script, .int .i64 r.next, .int .i64 r.code]] [] (.v (.agg [.str r.data, .int .i64 r.at_, .own 0, .int .i64 r.next, .int .i64 r.code])) [.lst .rd r.script] := by
  have hN : bigN = 274877906944 := rfl
  refine ⟨callable_of Try.func57 (by kernel_rfl) (by kernel_rfl), ?_⟩
  exact (walk_sound Try.func57 (res := .v (.agg [.str r.data, .int .i64 r.at_, .own 0, .int .i64 r.next, .int .i64 r.code])) (L' := [.lst .rd r.script]) (ds := [.call [] (.v (.c (.own 0))) [.lst .rd r.script]]) (σ := [2]) (ob := [Fun Try.prog 51 [.c (.seq .rd r.script)] [] (.v (.c (.own 0))) [.lst .rd r.script]]) (by kernel_rfl) ⟨cloneRd r.script (by omega), trivial⟩).to (by simp) (by simp)
theorem copyReader_s (r : Rdr) (hp1 : List.length (r).script ≤ bigN) : Fun Try.prog 58 [.agg [.str r.data, .int .i64 r.at_, .seq .rd r.script, .int .i64 r.next, .int .i64 r.code]] [] (.v (.agg [.str r.data, .int .i64 r.at_, .own 0, .int .i64 r.next, .int .i64 r.code])) [.lst .rd r.script] := by
  have hN : bigN = 274877906944 := rfl
  refine ⟨callable_of Try.func58 (by kernel_rfl) (by kernel_rfl), ?_⟩
  exact (walk_sound Try.func58 (res := .v (.agg [.str r.data, .int .i64 r.at_, .own 0, .int .i64 r.next, .int .i64 r.code])) (L' := [.lst .rd (([] : List Rd) ++ r.script)]) (ds := [.ty .rd, .ty .rd]) (σ := [3]) (ob := [List.length ([] : List Rd) + List.length r.script ≤ bigN]) (by kernel_rfl) ⟨by simp only [List.length_cons, List.length_nil]; omega, trivial⟩).to (by simp) (by simp)
end Go.Proofs.Ytekndgfiedmhoaa.Ax
