/- FrameStop, the program's and the reference's: both return the first index from 'at' on whose event ends a frame, or -1. -/
import Derived.Test.YtekndgfiedmhoaaEventS
namespace Go.Proofs.Ytekndgfiedmhoaa
open Go.RowKit
def fsAux : List Ev → Nat → Int
  | [], _ => -1
  | e :: l, k => if e.kind = 8 then (k : Int) else fsAux l (k + 1)
def frameStop (l : List Ev) (at_ : Int) : Int := if at_ < 0 then -1 else fsAux (l.drop at_.toNat) at_.toNat

theorem fsAux_step (l : List Ev) (k : Nat) (x : Ev) (h : l[k]? = some x) : fsAux (l.drop k) k = if x.kind = 8 then (k : Int) else fsAux (l.drop (k + 1)) (k + 1) := by
  have hk : k < l.length := (List.getElem?_eq_some_iff.1 h).1
  have e : l[k] = x := (List.getElem?_eq_some_iff.1 h).2
  rw [List.drop_eq_getElem_cons hk, e]
  rfl
theorem fsAux_end (l : List Ev) (k : Nat) (h : l.length ≤ k) : fsAux (l.drop k) k = -1 := by
  rw [List.drop_of_length_le h]; rfl

set_option maxHeartbeats 400000 in
theorem l1Max_c (a b : Int) (w : World) :
    Calls Try.prog 47 #[.int .i64 a, .int .i64 b] w fun e w' => e = .returned (.int .i64 (if b < a then a else b)) ∧ w = w' := by
  by_cases h : b < a
  all_goals
    have hh : (if b < a then a else b) = _ := rfl
    first | rw [if_pos h] | rw [if_neg h]
    clear hh
    go_enter Try.func47, Try.ntmps47
    go_wp2
    go_ret
    exact ⟨rfl, rfl⟩

theorem first_cell (x : Ev) : (encEv x)[0]? = some (.int .i64 x.kind) := rfl

set_option maxRecDepth 100000 in
set_option maxHeartbeats 400000 in
theorem frameStop_i (v : Value) (l : List Ev) (at_ : Int) (w : World) (h : Sl encEv 7 w v l) (hn : l.length ≤ 1048576) :
    Calls Try.prog 16 #[v, .int .i64 at_] w fun r w' => r = .returned (.int .i64 (frameStop l at_)) ∧ w = w' := by
  obtain ⟨a1, cap1, rfl, hcap1, -, hel1⟩ := h
  generalize hlen : l.length = n at *
  have HL := Lib.hid hlen; clear hlen
  by_cases hneg : at_ < 0
  · have hf : frameStop l at_ = -1 := by simp [frameStop, hneg]
    have HF := Lib.hid hf; clear hf
    go_enter Try.func16, Try.ntmps16
    go_wp2_with fail
    go_ret
    exact ⟨by rw [HF.out]; rfl, rfl⟩
  · obtain ⟨p, rfl⟩ : ∃ p : Nat, at_ = (p : Int) := ⟨at_.toNat, by omega⟩
    have hf : frameStop l (p : Int) = fsAux (l.drop p) p := by unfold frameStop; rw [if_neg hneg, Int.toNat_natCast]
    have HF := Lib.hid hf; clear hf
    go_enter Try.func16, Try.ntmps16
    go_wp2_with fail
    go_loop [5] (fun i => ∃ k : Nat, i = .int .i64 k ∧ Hid (fsAux (l.drop p) p = fsAux (l.drop k) k)) (fun i => n - (intOf i).toNat)
    case atStart => exact ⟨p, rfl, rfl⟩
    case round =>
      obtain ⟨k, rfl, HK⟩ := hrel
      by_cases hlt : k < n
      · obtain ⟨x, hx⟩ := get_lt l k (by rw [HL.out]; exact hlt)
        obtain ⟨b1, off1, rfl, hr1⟩ := hel1 (by intro e; subst e; simp at hx)
        have hc0 : w.cell? ⟨b1, off1 + k * 7, none⟩ = some (.int .i64 x.kind) := by simpa using hr1 k x hx 0 _ (first_cell x)
        have hs := fsAux_step l k x hx
        clear hx hr1 hel1
        by_cases h8 : x.kind = 8
        · rw [if_pos h8] at hs
          have HS := Lib.hid hs; clear hs
          have H8 := Lib.hid h8
          have h8b : (x.kind == 8) = true := by rw [h8]; rfl
          clear h8
          go_wp2_with fail
          go_ret
          exact ⟨by rw [HF.out, HK.out, HS.out]; rfl, rfl⟩
        · rw [if_neg h8] at hs
          have HS := Lib.hid hs; clear hs
          have h8b : (x.kind == 8) = false := by simp [h8]
          clear h8
          go_wp2_with fail
          go_round
          case rel => exact ⟨k + 1, by go_num, by unfold Hid; rw [HK.out, HS.out]⟩
          case measure => simp [intOf]; omega
      · have hge : n ≤ k := by omega
        have hend := fsAux_end l k (by rw [HL.out]; exact hge)
        have HE := Lib.hid hend; clear hend
        go_wp2_with fail
        go_ret
        exact ⟨by rw [HF.out, HK.out, HE.out]; rfl, rfl⟩

set_option maxRecDepth 100000 in
set_option maxHeartbeats 400000 in
theorem frameStop_s (v : Value) (l : List Ev) (at_ : Int) (w : World) (h : Sl encEv 7 w v l) (hn : l.length ≤ 1048576) :
    Calls Try.prog 14 #[v, .int .i64 at_] w fun r w' => r = .returned (.int .i64 (frameStop l at_)) ∧ w = w' := by
  obtain ⟨a1, cap1, rfl, hcap1, -, hel1⟩ := h
  generalize hlen : l.length = n at *
  have HL := Lib.hid hlen; clear hlen
  by_cases hneg : at_ < 0
  · have hf : frameStop l at_ = -1 := by simp [frameStop, hneg]
    have HF := Lib.hid hf; clear hf
    go_enter Try.func14, Try.ntmps14
    go_wp2_with fail
    refine (l1Max_c _ _ _).mono ?_
    rintro e w1 ⟨rfl, rfl⟩
    rw [if_pos hneg]
    go_wp2_with fail
    refine wp_loop_rounds 1 ?_
    rw [rounds_succ]
    by_cases h0 : 0 < n
    all_goals
      go_wp2_with fail
      go_ret
      exact ⟨by rw [HF.out]; rfl, rfl⟩
  · obtain ⟨p, rfl⟩ : ∃ p : Nat, at_ = (p : Int) := ⟨at_.toNat, by omega⟩
    have hf : frameStop l (p : Int) = fsAux (l.drop p) p := by unfold frameStop; rw [if_neg hneg, Int.toNat_natCast]
    have HF := Lib.hid hf; clear hf
    go_enter Try.func14, Try.ntmps14
    go_wp2_with fail
    refine (l1Max_c _ _ _).mono ?_
    rintro e w1 ⟨rfl, rfl⟩
    rw [if_neg (by omega)]
    go_wp2_with fail
    go_loop [5] (fun i => ∃ k : Nat, i = .int .i64 k ∧ Hid (fsAux (l.drop p) p = fsAux (l.drop k) k)) (fun i => n - (intOf i).toNat)
    case atStart => exact ⟨p, rfl, rfl⟩
    case round =>
      obtain ⟨k, rfl, HK⟩ := hrel
      by_cases hlt : k < n
      · obtain ⟨x, hx⟩ := get_lt l k (by rw [HL.out]; exact hlt)
        obtain ⟨b1, off1, rfl, hr1⟩ := hel1 (by intro e; subst e; simp at hx)
        have hc0 : w.cell? ⟨b1, off1 + k * 7, none⟩ = some (.int .i64 x.kind) := by simpa using hr1 k x hx 0 _ (first_cell x)
        have hs := fsAux_step l k x hx
        clear hx hr1 hel1
        by_cases h8 : x.kind = 8
        · rw [if_pos h8] at hs
          have HS := Lib.hid hs; clear hs
          have H8 := Lib.hid h8
          have h8b : (x.kind == 8) = true := by rw [h8]; rfl
          clear h8
          go_wp2_with fail
          go_ret
          exact ⟨by rw [HF.out, HK.out, HS.out]; rfl, rfl⟩
        · rw [if_neg h8] at hs
          have HS := Lib.hid hs; clear hs
          have h8b : (x.kind == 8) = false := by simp [h8]
          clear h8
          go_wp2_with fail
          go_round
          case rel => exact ⟨k + 1, by go_num, by unfold Hid; rw [HK.out, HS.out]⟩
          case measure => simp [intOf]; omega
      · have hge : n ≤ k := by omega
        have hend := fsAux_end l k (by rw [HL.out]; exact hge)
        have HE := Lib.hid hend; clear hend
        go_wp2_with fail
        go_ret
        exact ⟨by rw [HF.out, HK.out, HE.out]; rfl, rfl⟩
end Go.Proofs.Ytekndgfiedmhoaa
