/- Readers: marks. -/
import Derived.Test.YtekndgfiedmhoaaMarkRead
import Derived.Test.YtekndgfiedmhoaaReader2
namespace Go.Proofs.Ytekndgfiedmhoaa
open Go.RowKit
theorem Below.grownBy {w w' : World} (h : Below w.heap.size w w') (row : Option Nat) : w.grownBy w' row := ⟨h.os, h.tape, h.output, h.size, fun k hk _ => h.block k hk⟩
set_option maxRecDepth 100000 in
set_option maxHeartbeats 400000 in
theorem markReader_c (base : Nat) (a0 : Option Addr) (cap0 : Nat) (r : Rdr) (k : Int) (w : World) (h : Own encRd 2 75 base w (.slice a0 r.script.length cap0) r.script) (hn : r.script.length ≤ 1048576) (hk0 : 0 ≤ k) (hk1 : k ≤ 1099511627776) :
    Calls Try.prog 29 #[.agg (encRdr (.slice a0 r.script.length cap0) r).toArray, .int .i64 k] w fun e w' => e = .returned (.int .i64 (k + r.script.length * 2)) ∧ Own encRd 2 75 base w' (.slice a0 r.script.length cap0) (marksRd k r.script.length) ∧ w.grownBy w' (Value.slice a0 r.script.length cap0).ownBlock := by
  go_enter Try.func29, Try.ntmps29
  have HB := Below.refl w.heap.size w
  go_wp2_with (first
    | (refine wpList_box (o := ⟨some 2, .box _ _, _, _, _, _⟩) rfl _ _ rfl (encRdr (.slice a0 r.script.length cap0) r) rfl ?_; intro W hb hr; have LOR2 := HB.size; (try replace HB := HB.trans (hb.mono HB.size)); (try replace R2 := R2.after hb); clear hb; have R2 := hr; clear hr)
    | ((with_reducible apply wpList_load_row (hr := R2) (ty := 38) (hu := Try.underlying38)); rfl; rfl; rfl; rfl; kernel_rfl; (try simp only [Act.put, List.setIfInBounds_toArray, List.set_cons_succ, List.set_cons_zero]))
    | ((with_reducible apply wpList_get (hr := R2)); rfl; rfl; rfl; rfl; kernel_rfl; (try simp only [Act.put, List.setIfInBounds_toArray, List.set_cons_succ, List.set_cons_zero]))
    | ((with_reducible apply wpList_put (hr := R2) (ty := 38)); rfl; rfl; rfl; (first | exact eval_lit rfl | rfl); rfl; kernel_rfl; exact one_of_all rfl; intro W hg hr; (try simp only [Act.put, List.setIfInBounds_toArray, List.set_cons_succ, List.set_cons_zero]); replace HB := below_grown HB hg LOR2; clear hg; replace R2 := hr; clear hr)
    | ((with_reducible apply wpList_set (hr := R2)); rfl; rfl; rfl; (first | exact eval_lit rfl | rfl); rfl; rfl; kernel_rfl; rfl; intro W hg hr; (try simp only [Act.put, List.setIfInBounds_toArray, List.set_cons_succ, List.set_cons_zero]); replace HB := below_grown HB hg LOR2; clear hg; replace R2 := hr; clear hr)
    )
  refine (markReadS_c base _ r.script k _ (h.below HB) hn hk0 hk1).mono ?_
  rintro e W2 ⟨rfl, hown, hg⟩
  have hg2 := (Below.grownBy HB _).trans' hg
  clear R2 HB hg h
  go_wp2_with fail
  go_ret
  exact ⟨rfl, hown, hg2⟩

set_option maxRecDepth 100000 in
set_option maxHeartbeats 400000 in
theorem heldReader_c (a0 : Option Addr) (cap0 m : Nat) (d : ByteArray) (a n c : Int) (k : Int) (w : World) (h : Sl encRd 2 w (.slice a0 m cap0) (marksRd k m)) (hn : m ≤ 1048576) (hk0 : 0 ≤ k) (hk1 : k ≤ 1099511627776) :
    Calls Try.prog 30 #[.agg (encRdr (.slice a0 m cap0) ⟨d, a, [], n, c⟩).toArray, .int .i64 k] w fun e w' => e = .returned (.int .i64 (k + m * 2)) ∧ Below w.heap.size w w' := by
  go_enter Try.func30, Try.ntmps30
  have HB := Below.refl w.heap.size w
  go_wp2_with (first
    | (refine wpList_box (o := ⟨some 2, .box _ _, _, _, _, _⟩) rfl _ _ rfl (encRdr (.slice a0 m cap0) ⟨d, a, [], n, c⟩) rfl ?_; intro W hb hr; have LOR2 := HB.size; (try replace HB := HB.trans (hb.mono HB.size)); (try replace R2 := R2.after hb); clear hb; have R2 := hr; clear hr)
    | ((with_reducible apply wpList_load_row (hr := R2) (ty := 38) (hu := Try.underlying38)); rfl; rfl; rfl; rfl; kernel_rfl; (try simp only [Act.put, List.setIfInBounds_toArray, List.set_cons_succ, List.set_cons_zero]))
    | ((with_reducible apply wpList_get (hr := R2)); rfl; rfl; rfl; rfl; kernel_rfl; (try simp only [Act.put, List.setIfInBounds_toArray, List.set_cons_succ, List.set_cons_zero]))
    | ((with_reducible apply wpList_put (hr := R2) (ty := 38)); rfl; rfl; rfl; (first | exact eval_lit rfl | rfl); rfl; kernel_rfl; exact one_of_all rfl; intro W hg hr; (try simp only [Act.put, List.setIfInBounds_toArray, List.set_cons_succ, List.set_cons_zero]); replace HB := below_grown HB hg LOR2; clear hg; replace R2 := hr; clear hr)
    | ((with_reducible apply wpList_set (hr := R2)); rfl; rfl; rfl; (first | exact eval_lit rfl | rfl); rfl; rfl; kernel_rfl; rfl; intro W hg hr; (try simp only [Act.put, List.setIfInBounds_toArray, List.set_cons_succ, List.set_cons_zero]); replace HB := below_grown HB hg LOR2; clear hg; replace R2 := hr; clear hr)
    )
  refine (heldReadS_c _ m k _ (h.below HB) hn hk0 hk1).mono ?_
  rintro e W2 ⟨rfl, rfl⟩
  clear R2 h
  go_wp2_with fail
  go_ret
  exact ⟨rfl, HB⟩
end Go.Proofs.Ytekndgfiedmhoaa
