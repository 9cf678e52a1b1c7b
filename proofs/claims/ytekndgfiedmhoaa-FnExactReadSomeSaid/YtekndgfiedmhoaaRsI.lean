/- Readers: ReadSome. -/
import Derived.Test.YtekndgfiedmhoaaRsI0
import Derived.Test.YtekndgfiedmhoaaRsI1
import Derived.Test.YtekndgfiedmhoaaRsI2
import Derived.Test.YtekndgfiedmhoaaRsI3
import Derived.Test.YtekndgfiedmhoaaRsI4
import Derived.Test.YtekndgfiedmhoaaRsI5
import Derived.Test.YtekndgfiedmhoaaRsI6
namespace Go.Proofs.Ytekndgfiedmhoaa
open Go.RowKit

set_option maxRecDepth 100000 in
set_option maxHeartbeats 4000000 in
theorem readSome_i (v : Value) (r : Rdr) (room : Int) (w : World) (H0 : Sl encRd 2 w v r.script) (hn : r.script.length ≤ 1048576) :
    Calls Try.prog 33 #[.agg (encRdr v r).toArray, .int .i64 room] w fun e w' => ∃ a cap, e = .returned (.tuple #[.agg (encRdr (.slice a (readSome r room).1.script.length cap) (readSome r room).1).toArray, .string (readSome r room).2.1, .int .i64 (readSome r room).2.2]) ∧ Own encRd 2 75 w.heap.size w' (.slice a (readSome r room).1.script.length cap) (readSome r room).1.script ∧ Below w.heap.size w w' := by
  by_cases hst : rdrOk r = true → ¬(room < 1) → r.code = 0 → False
  · exact RsI0 v r room w H0 hn hst
  have hok : rdrOk r = true := Classical.byContradiction fun h => hst fun h' _ _ => h h'
  have hr : ¬(room < 1) := Classical.byContradiction fun h => hst fun _ h' _ => h h'
  have hcode : r.code = 0 := Classical.byContradiction fun h => hst fun _ _ h' => h h'
  clear hst
  have hr : 1 ≤ room := by omega
  obtain ⟨h1, h2, h3, h4, h5, h6⟩ := rdrOk_facts r hok
  by_cases hnx : r.next < r.script.length
  · obtain ⟨x, hx⟩ := get_lt r.script r.next.toNat (by omega)
    obtain ⟨xn, xc⟩ := x
    by_cases hc1 : 20 ≤ xc
    · exact RsI1 v r room w H0 hn hok hr hcode xn xc hx hc1
    by_cases hc2 : xc = 1
    · by_cases hc3 : r.at_ + rsN r room = r.data.size
      · exact RsI4 v r room w H0 hn hok hr hcode xn xc hx hc2 hc3
      · exact RsI3 v r room w H0 hn hok hr hcode xn xc hx hc2 hc3
    · exact RsI2 v r room w H0 hn hok hr hcode xn xc hx (by omega) hc2
  · by_cases hc3 : r.at_ + rsN r room = r.data.size
    · exact RsI6 v r room w H0 hn hok hr hcode room 1 (by omega) rfl rfl hc3
    · exact RsI5 v r room w H0 hn hok hr hcode room 1 (by omega) rfl rfl hc3
end Go.Proofs.Ytekndgfiedmhoaa
