/- Readers: the model of ReadSome. -/
import Derived.Test.YtekndgfiedmhoaaReader4
import Derived.BigGuard
import Derived.Test.YtekndgfiedmhoaaBox2
namespace Go.Proofs.Ytekndgfiedmhoaa
open Go.RowKit
def rsEntry (r : Rdr) (room : Int) : Rd := if r.next < r.script.length then (r.script[r.next.toNat]?).getD ⟨0, 0⟩ else ⟨room, 1⟩
def rsN (r : Rdr) (room : Int) : Int := max 0 (min (rsEntry r room).n (min room ((r.data.size : Int) - r.at_)))
def rsCode (r : Rdr) (room : Int) : Int := if 20 ≤ (rsEntry r room).code then (rsEntry r room).code else if (rsEntry r room).code = 1 ∧ r.at_ + rsN r room = r.data.size then 1 else r.code
def readSome (r : Rdr) (room : Int) : Rdr × ByteArray × Int :=
  if !rdrOk r || decide (room < 1) then (r, ⟨#[]⟩, 1)
  else if r.code ≠ 0 then (r, ⟨#[]⟩, r.code)
  else (⟨r.data, r.at_ + rsN r room, r.script, if r.next < r.script.length then r.next + 1 else r.next, rsCode r room⟩, r.data.extract r.at_.toNat (r.at_ + rsN r room).toNat, rsCode r room)
theorem readSome_no (r : Rdr) (room : Int) (h : rdrOk r = false ∨ room < 1) : readSome r room = (r, ⟨#[]⟩, 1) := by
  unfold readSome
  rw [if_pos]
  rcases h with h | h
  · rw [h]; rfl
  · rw [decide_eq_true h, Bool.or_true]
theorem readSome_code (r : Rdr) (room : Int) (h1 : rdrOk r = true) (h2 : ¬room < 1) (h3 : ¬r.code = 0) : readSome r room = (r, ⟨#[]⟩, r.code) := by
  unfold readSome
  rw [if_neg (by simp [h1]; omega), if_pos h3]
theorem readSome_main (r : Rdr) (room : Int) (h1 : rdrOk r = true) (h2 : ¬room < 1) (h3 : r.code = 0) : readSome r room = (⟨r.data, r.at_ + rsN r room, r.script, if r.next < r.script.length then r.next + 1 else r.next, rsCode r room⟩, r.data.extract r.at_.toNat (r.at_ + rsN r room).toNat, rsCode r room) := by
  unfold readSome
  rw [if_neg (by simp [h1]; omega), if_neg (by simp [h3])]
theorem clampI {n room s m1 m2 m : Int} (h1 : (if room < n then room else n) = m1) (h2 : (if s < m1 then s else m1) = m2) (h3 : (if m2 < 0 then 0 else m2) = m) : m = max 0 (min n (min room s)) := by
  split at h1 <;> split at h2 <;> split at h3 <;> omega
theorem rdrOk_facts (r : Rdr) (h : rdrOk r = true) : r.data.size ≤ 4000 ∧ 0 ≤ r.at_ ∧ r.at_ ≤ r.data.size ∧ r.script.length ≤ 200 ∧ 0 ≤ r.next ∧ r.next ≤ r.script.length := by
  unfold rdrOk inR at h
  simp only [Bool.and_eq_true, decide_eq_true_eq] at h
  omega
end Go.Proofs.Ytekndgfiedmhoaa
