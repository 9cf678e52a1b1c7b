/- []Read: the laws' helpers on slices. -/
import Derived.Test.YtekndgfiedmhoaaRead
namespace Go.Proofs.Ytekndgfiedmhoaa
open Go.RowKit
theorem A.infoRead : (Try.prog.info? 75).map (fun i => (i.zero, i.size, i.bytes)) = some (some (.agg #[.int .i64 0, .int .i64 0]), 2, 16) := by kernel_rfl

set_option maxRecDepth 100000 in
set_option maxHeartbeats 400000 in
theorem toReadS_c (v : Value) (l : List Rd) (w : World) (h : Sl encRd 2 w v l) (hn : l.length ≤ 1048576) :
    Calls Try.prog 25 #[v] w fun r w' => r = .returned (.slice (some ⟨w.heap.size, 0, none⟩) l.length l.length) ∧ Row w' w.heap.size 75 (l.flatMap encRd) ∧ Below w.heap.size w w' := by
  obtain ⟨a, cap, rfl, hcap, hmax, hel⟩ := h
  obtain ⟨zs, hzl, hmk⟩ := make_row (P := Try.prog) 36 75 Try.underlying36 A.infoRead l.length (by omega) (by omega)
  generalize hlen : l.length = n at *
  have HL := Lib.hid hlen; clear hlen hmax
  have HZ := Lib.hid hzl; clear hzl
  go_enter Try.func25, Try.ntmps25
  go_wp2_with fail
  clear hmk
  go_loopw [4] (fun i wr => ∃ k : Nat, k ≤ n ∧ i = .int .i64 k ∧ Below w.heap.size w wr ∧ ∃ zs : List Value, zs.length = (n - k) * 2 ∧ Row wr w.heap.size 75 ((l.take k).flatMap encRd ++ zs)) (fun i _ => n - (intOf i).toNat)
  case atStart => exact ⟨0, Nat.zero_le _, rfl, (Below.refl _ _).alloc (Nat.le_refl _) _, zs, by rw [HZ.out]; simp, by simpa using Row.alloc_new w zs _⟩
  case round =>
    obtain ⟨k, hk, rfl, hbw, zs, hzl, hrow⟩ := hrel
    have HZ := Lib.hid hzl; clear hzl
    by_cases hlt : k < n
    · obtain ⟨x, hx⟩ := get_lt l k (by rw [HL.out]; exact hlt)
      obtain ⟨b, off, rfl, hr⟩ := hel (by intro e; subst e; simp at hx)
      have HX := Lib.hid hx
      have hrk := rangeAt_below (hr k x hx) hbw
      clear hx hr hel
      have hsz : (Try.prog.info? 77).map (·.size) = some (encRd x).length := by rw [encRd_len]; kernel_rfl
      go_wp2_with (with_reducible refine wpList_load_mid rfl _ (.tmp 18) rfl b (off + k * 2) rfl (encRd x) _ hrk Try.underlying77 rfl hsz ?_)
      refine (toRead_c _ _).mono ?_
      rintro e w2 ⟨rfl, hb2⟩
      have hlt2 : w.heap.size < wr.heap.size := hrow.lt
      have hrow2 := hrow.below hb2 hlt2
      have hlk : (List.flatMap encRd (List.take k l)).length = k * 2 := by rw [flatMap_length encRd 2 encRd_len, List.length_take, HL.out, Nat.min_eq_left hk]
      have hth : w2.there w.heap.size (k * 2) (encRd x).toArray.size := hrow2.there (by
        have := HZ.out; simp only [List.length_append, hlk, this, List.size_toArray, encRd_len]; omega)
      have HLK := Lib.hid hlk; clear hlk
      have hbw2 := hbw.trans (hb2.mono (Nat.le_of_lt hlt2))
      clear hrow hrk hb2 hbw hlt2
      have hsz2 : (Try.prog.info? 75).map (·.size) = some (encRd x).toArray.size := by rw [List.size_toArray, encRd_len]; kernel_rfl
      go_wp2_with (with_reducible refine wpList_store_mid rfl _ (.tmp 21) (.tmp 20) rfl w.heap.size (k * 2) (encRd x).toArray rfl rfl hth hsz2 (all_oneCell_toArray (encRd_one x)) ?_)
      go_roundw
      case rel =>
        refine ⟨k + 1, hlt, by go_num, below_setCells (Nat.le_refl _) _ _ _ hbw2, zs.drop 2, by rw [List.length_drop, HZ.out]; omega, ?_⟩
        have hkk : 2 ≤ zs.length := by rw [HZ.out]; omega
        have := Row.setCells (encRd x) (k * 2) w2 _ (zs.take 2) (zs.drop 2) (by rw [List.take_append_drop]; exact hrow2) HLK.out (by rw [List.length_take, Nat.min_eq_left hkk, encRd_len])
        rw [take_snoc l k x HX.out, List.flatMap_append]
        simpa using this
      case measure => simp [intOf]; omega
    · have hkn : k = n := by omega
      subst hkn
      go_wp2_with fail
      go_ret
      have hz0 : zs = [] := List.length_eq_zero_iff.1 (by rw [HZ.out]; omega)
      subst hz0
      refine ⟨rfl, ?_, hbw⟩
      rw [List.append_nil, List.take_of_length_le (by rw [HL.out]; exact Nat.le_refl _)] at hrow
      exact hrow

set_option maxRecDepth 100000 in
set_option maxHeartbeats 400000 in
theorem eqReadS_c (v1 v2 : Value) (l : List Rd) (w : World) (h1 : Sl encRd 2 w v1 l) (h2 : Sl encRd 2 w v2 l) (hn : l.length ≤ 1048576) :
    Calls Try.prog 27 #[v1, v2] w fun r w' => r = .returned (.bool true) ∧ Below w.heap.size w w' := by
  obtain ⟨a1, cap1, rfl, hcap1, -, hel1⟩ := h1
  obtain ⟨a2, cap2, rfl, hcap2, -, hel2⟩ := h2
  generalize hlen : l.length = n at *
  have HL := Lib.hid hlen; clear hlen
  go_enter Try.func27, Try.ntmps27
  go_wp2_with fail
  go_loopw [5] (fun i wr => ∃ k : Nat, k ≤ n ∧ i = .int .i64 k ∧ Below w.heap.size w wr) (fun i _ => n - (intOf i).toNat)
  case atStart => exact ⟨0, Nat.zero_le _, rfl, Below.refl _ _⟩
  case round =>
    obtain ⟨k, hk, rfl, hbw⟩ := hrel
    by_cases hlt : k < n
    · obtain ⟨x, hx⟩ := get_lt l k (by rw [HL.out]; exact hlt)
      obtain ⟨b1, off1, rfl, hr1⟩ := hel1 (by intro e; subst e; simp at hx)
      obtain ⟨b2, off2, rfl, hr2⟩ := hel2 (by intro e; subst e; simp at hx)
      have hrk1 := rangeAt_ext (rangeAt_below (hr1 k x hx) hbw)
      have hrk2 := rangeAt_ext (rangeAt_below (hr2 k x hx) hbw)
      clear hx hr1 hr2 hel1 hel2
      have hsz : (Try.prog.info? 75).map (·.size) = some (encRd x).length := by rw [encRd_len]; kernel_rfl
      go_wp2_with fail
      have hi0 : (0 : Int) ≤ (k : Int) := by omega
      have hi1 : (k : Int) < (n : Int) := by omega
      refine wp_region_ext wr.heap.size wr (Below.refl _ _) (by kernel_rfl) (by kernel_rfl) ?_
      repeat (first
        | go_big_quiet_skip
        | (go_big_quiet_want
           first
             | (with_reducible refine quiet_load_mid _ (.tmp 19) rfl b1 (off1 + k * 2) rfl (encRd x) _ hrk1 Try.underlying75 rfl hsz ?_; go_big_quiet_on; simp only [Act.put, List.setIfInBounds_toArray, List.set_cons_succ, List.set_cons_zero])
             | (with_reducible refine quiet_load_mid _ (.tmp 23) rfl b2 (off2 + k * 2) rfl (encRd x) _ hrk2 Try.underlying75 rfl hsz ?_; go_big_quiet_on; simp only [Act.put, List.setIfInBounds_toArray, List.set_cons_succ, List.set_cons_zero])
             | (go_big_quiet_op
                first
                  | go_big_quiet_on
                  | (apply Exists.intro
                     refine ⟨fun _ => ?_, ?_⟩
                     · exact Calls.ext_of (eqRead_c _ _) (Nat.le_refl _)
                     go_big_quiet_on))))
      refine wpQuiet_nil ?_
      rintro _ ⟨w2, rfl⟩
      have hbw2 := hbw.trans (w2.2.mono hbw.size)
      clear hbw hrk1 hrk2
      go_wp2_with fail
      go_roundw
      case rel => exact ⟨k + 1, hlt, by go_num, hbw2⟩
      case measure => simp [intOf]; omega
    · have hkn : k = n := by omega
      subst hkn
      go_wp2_with fail
      go_ret
      exact ⟨rfl, hbw⟩


set_option maxHeartbeats 400000 in
theorem szReadS_c (v : Value) (l : List Rd) (left : Int) (w : World) (h : Sl encRd 2 w v l) (hl0 : 0 ≤ left) (hl1 : left ≤ 1048576) (hlm : l.length ≤ 9223372036854775807) :
    Calls Try.prog 23 #[v, .int .i64 left] w fun r w' => ∃ n : Int, r = .returned (.int .i64 n) ∧ (0 ≤ n → n = left - l.length) ∧ w = w' := by
  obtain ⟨a1, cap1, rfl, hcap1, -, hel1⟩ := h
  have HLM := Lib.hid hlm; clear hlm hel1
  generalize hlen : l.length = n at *
  clear hlen
  have hw : IntKind.i64.wrap (left - (n : Int)) = left - (n : Int) := IntWalk.i64_in _ (by have := HLM.out; omega)
  by_cases hneg : left - (n : Int) < 0
  all_goals
    go_enter Try.func23, Try.ntmps23
    go_wp2_with fail
    go_ret
    exact ⟨_, rfl, fun h => by omega, rfl⟩
end Go.Proofs.Ytekndgfiedmhoaa
