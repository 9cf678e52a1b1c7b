/- Read: marks. -/
import Derived.Test.YtekndgfiedmhoaaReadS
import Derived.Test.YtekndgfiedmhoaaOwn
import Derived.Test.YtekndgfiedmhoaaBox
namespace Go.Proofs.Ytekndgfiedmhoaa
open Go.RowKit
def mkRd (q : Int) : Rd := ⟨q, q + 1⟩
def marksRd (k : Int) : Nat → List Rd
  | 0 => []
  | n + 1 => marksRd k n ++ [mkRd (k + n * 2)]
theorem marksRd_len (k : Int) : ∀ n, (marksRd k n).length = n
  | 0 => rfl
  | n + 1 => by simp [marksRd, marksRd_len k n]
theorem marksRd_get (k : Int) : ∀ n i, i < n → (marksRd k n)[i]? = some (mkRd (k + i * 2))
  | 0, i, h => by omega
  | n + 1, i, h => by
    by_cases hi : i < n
    · rw [marksRd, List.getElem?_append_left (by rw [marksRd_len]; exact hi)]
      exact marksRd_get k n i hi
    · have : i = n := by omega
      subst this
      rw [marksRd, List.getElem?_append_right (by rw [marksRd_len]; omega), marksRd_len]
      simp

set_option maxRecDepth 100000 in
set_option maxHeartbeats 1000000 in
theorem markReadS_c (base : Nat) (v : Value) (l : List Rd) (k : Int) (w : World) (h : Own encRd 2 75 base w v l) (hn : l.length ≤ 1048576) (hk0 : 0 ≤ k) (hk1 : k ≤ 1099511627776) :
    Calls Try.prog 28 #[v, .int .i64 k] w fun r w' => r = .returned (.int .i64 (k + l.length * 2)) ∧ Own encRd 2 75 base w' v (marksRd k l.length) ∧ w.grownBy w' v.ownBlock := by
  by_cases hne : l = []
  · subst hne
    obtain ⟨a, cap, hv⟩ := h.shape
    have H := Lib.hid h
    clear h
    subst hv
    go_enter Try.func28, Try.ntmps28
    go_wp2_with fail
    refine wp_loop_rounds 1 ?_
    rw [rounds_succ]
    go_wp2_with fail
    go_ret
    exact ⟨ret_int (by simp), H.out, ⟨rfl, rfl, rfl, Nat.le_refl _, fun _ _ _ => rfl⟩⟩
  · obtain ⟨b, cap, zs, hv, hb, R, hz, hc, hm⟩ := h.row hne
    have HH := Lib.hid (And.intro hz (And.intro hc hm))
    subst hv
    clear h hz hm hne
    generalize hlen : l.length = m at *
    have HL := Lib.hid hlen; clear hlen
    have HG : w.grownBy w (some b) := ⟨rfl, rfl, rfl, Nat.le_refl _, fun _ _ _ => rfl⟩
    go_enter Try.func28, Try.ntmps28
    go_wp2_with fail
    go_loopw [1, 5] (fun r i wr => ∃ (p : Nat) (q : Int), p ≤ m ∧ i = .int .i64 p ∧ r = .int .i64 q ∧ 0 ≤ q ∧ q ≤ 1099611627776 ∧ Hid (q = k + p * 2) ∧ w.grownBy wr (some b) ∧ Row wr b 75 ((marksRd k p).flatMap encRd ++ ((l.drop p).flatMap encRd ++ zs))) (fun _ i _ => m - (intOf i).toNat)
    case atStart => exact ⟨0, k, Nat.zero_le _, rfl, rfl, hk0, by omega, by unfold Hid; simp, HG, by simpa [marksRd] using R⟩
    case round =>
      clear HG R
      obtain ⟨p, q, hp, rfl, rfl, hq0, hq1, HQ, HG, R⟩ := hrel
      by_cases hlt : p < m
      · obtain ⟨y, hy⟩ := get_lt l p (by rw [HL.out]; exact hlt)
        have hd : l.drop p = y :: l.drop (p + 1) := by
          have hpl := (List.getElem?_eq_some_iff.1 hy).1
          rw [List.drop_eq_getElem_cons hpl, (List.getElem?_eq_some_iff.1 hy).2]
        rw [hd, List.flatMap_cons, List.append_assoc] at R
        have HXS : Hid (((marksRd k p).flatMap encRd).length = p * 2) := by unfold Hid; rw [flatMap_length encRd 2 encRd_len, marksRd_len]
        have HQ2 : Hid (q < 1099611627776) := by
          unfold Hid
          have := HQ.out
          omega
        clear hy hd
        go_wp2_with (first
          | ((with_reducible apply wpList_setmid (hr := R) (j := 0)); rfl; rfl; rfl; (first | exact eval_lit rfl | rfl); exact (by have := HXS.out; omega); rfl; kernel_rfl; rfl; intro W hg hr; replace HG := HG.trans' hg; replace R := hr; clear hr hg; (try simp only [Act.put, List.setIfInBounds_toArray, List.set_cons_succ, List.set_cons_zero]))
          | ((with_reducible apply wpList_setmid (hr := R) (j := 1)); rfl; rfl; rfl; (first | exact eval_lit rfl | rfl); exact (by have := HXS.out; omega); rfl; kernel_rfl; rfl; intro W hg hr; replace HG := HG.trans' hg; replace R := hr; clear hr hg; (try simp only [Act.put, List.setIfInBounds_toArray, List.set_cons_succ, List.set_cons_zero]))
          )
        go_roundw
        case rel =>
          have hq := HQ.out
          refine ⟨p + 1, q + 2, hlt, by go_num, by first | rfl | go_num | (congr 1; omega), by omega, by have := HQ2.out; omega, by unfold Hid; rw [hq]; push_cast; omega, HG, ?_⟩
          have e1 : marksRd k (p + 1) = marksRd k p ++ [mkRd q] := by rw [marksRd, ← hq]
          rw [e1, List.flatMap_append, List.append_assoc]
          first | exact R | simpa [mkRd, encRd, Int.add_assoc] using R
        case measure => simp [intOf]; omega
      · have hpm : p = m := by omega
        subst hpm
        go_wp2_with fail
        go_ret
        obtain ⟨hz, hc', hm'⟩ := HH.out
        rw [List.drop_of_length_le (by rw [HL.out]; exact Nat.le_refl _)] at R
        have hl2 := marksRd_len k p
        refine ⟨ret_int HQ.out, ?_, HG⟩
        have hown := Row.own (k := 2) encRd_len (base := base) (cap := cap) (by simpa using R) (by rw [hl2]; exact hz) (by rw [hl2]; exact hc') hm' hb
        rw [hl2] at hown
        exact hown

set_option maxRecDepth 100000 in
set_option maxHeartbeats 1000000 in
theorem heldReadS_c (v : Value) (m : Nat) (k : Int) (w : World) (h : Sl encRd 2 w v (marksRd k m)) (hn : m ≤ 1048576) (hk0 : 0 ≤ k) (hk1 : k ≤ 1099511627776) :
    Calls Try.prog 53 #[v, .int .i64 k] w fun r w' => r = .returned (.int .i64 (k + m * 2)) ∧ w = w' := by
  obtain ⟨a1, cap1, rfl, hcap1, -, hel1⟩ := h
  rw [marksRd_len] at hcap1 ⊢
  go_enter Try.func53, Try.ntmps53
  go_wp2_with fail
  go_loop [1, 5] (fun r i => ∃ (p : Nat) (q : Int), p ≤ m ∧ i = .int .i64 p ∧ r = .int .i64 q ∧ 0 ≤ q ∧ q ≤ 1099611627776 ∧ Hid (q = k + p * 2)) (fun _ i => m - (intOf i).toNat)
  case atStart => exact ⟨0, k, Nat.zero_le _, rfl, rfl, hk0, by omega, by unfold Hid; simp⟩
  case round =>
    obtain ⟨p, q, hp, rfl, rfl, hq0, hq1, HQ⟩ := hrel
    by_cases hlt : p < m
    · have hx := marksRd_get k m p hlt
      have HQ2 : Hid (q < 1099611627776) := by
        unfold Hid
        have := HQ.out
        omega
      rw [← HQ.out] at hx
      obtain ⟨b, off, rfl, hr1⟩ := hel1 (by intro e; rw [e] at hx; simp at hx)
      have hc0 : w.cell? ⟨b, off + p * 2, none⟩ = some (.int .i64 (q)) := by simpa [mkRd] using hr1 p _ hx 0 _ rfl
      have hc1 : w.cell? ⟨b, off + p * 2 + 1, none⟩ = some (.int .i64 (q + 1)) := by simpa [mkRd] using hr1 p _ hx 1 _ rfl
      clear hx hr1 hel1
      go_wp2_with fail
      go_round
      case rel =>
        have hq := HQ.out
        exact ⟨p + 1, q + 2, hlt, by go_num, by first | rfl | go_num | (congr 1; omega), by omega, by have := HQ2.out; omega, by unfold Hid; rw [hq]; push_cast; omega⟩
      case measure => simp [intOf]; omega
    · have hpm : p = m := by omega
      subst hpm
      go_wp2_with fail
      go_ret
      exact ⟨ret_int HQ.out, rfl⟩
end Go.Proofs.Ytekndgfiedmhoaa
