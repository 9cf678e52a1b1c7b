/- Readers: sz, eq, LeftOf. -/
import Derived.Test.YtekndgfiedmhoaaReader
namespace Go.Proofs.Ytekndgfiedmhoaa
open Go.RowKit
set_option maxHeartbeats 400000 in
theorem szReader_c (sv : Value) (r : Rdr) (left : Int) (w : World) (h : Sl encRd 2 w sv r.script) (hl0 : 0 ≤ left) (hl1 : left ≤ 1048576) (hd : (r.data.size : Int) ≤ 9223372036854775807) (hlm : r.script.length ≤ 9223372036854775807) :
    Calls Try.prog 18 #[.agg (encRdr sv r).toArray, .int .i64 left] w fun e w' => ∃ n : Int, e = .returned (.int .i64 n) ∧ (0 ≤ n → n = left - r.data.size - r.script.length) ∧ Below w.heap.size w w' := by
  obtain ⟨d, a, l, n, c⟩ := r
  simp only [encRdr] at *
  obtain ⟨a1, cap1, rfl, hr⟩ := h
  have HS : Sl encRd 2 w (.slice a1 l.length cap1) l := ⟨a1, cap1, rfl, hr⟩
  have HD := Lib.hid hd; clear hr hd
  have HLM := Lib.hid hlm; clear hlm
  by_cases hneg : left - (d.size : Int) < 0
  · have hw : IntKind.i64.wrap (left - (d.size : Int)) = left - (d.size : Int) := IntWalk.i64_in _ (by have := HD.out; omega)
    go_enter Try.func18, Try.ntmps18
    go_wp2_with fail
    go_ret
    exact ⟨_, rfl, fun h => by omega, (Below.refl _ _).alloc (Nat.le_refl _) _⟩
  · go_enter Try.func18, Try.ntmps18
    go_wp2_with fail
    refine (szReadS_c _ l _ _ (HS.below ((Below.refl _ _).alloc (Nat.le_refl _) _)) (by omega) (by omega) HLM.out).mono ?_
    rintro e w2 ⟨m, rfl, hm, rfl⟩
    have HM := Lib.hid hm; clear hm
    by_cases hm0 : m < 0
    all_goals
      go_wp2_with fail
      go_ret
      exact ⟨_, rfl, fun h => by first | omega | (have := HM.out h; omega), (Below.refl _ _).alloc (Nat.le_refl _) _⟩

set_option maxHeartbeats 400000 in
theorem eqReader_c (sv1 sv2 : Value) (r : Rdr) (w : World) (h1 : Sl encRd 2 w sv1 r.script) (h2 : Sl encRd 2 w sv2 r.script) (hn : r.script.length ≤ 1048576) :
    Calls Try.prog 22 #[.agg (encRdr sv1 r).toArray, .agg (encRdr sv2 r).toArray] w fun e w' => e = .returned (.bool true) ∧ Below w.heap.size w w' := by
  obtain ⟨d, a, l, n, c⟩ := r
  simp only [encRdr] at *
  obtain ⟨a1, cap1, rfl, hr1⟩ := h1
  have H1 : Sl encRd 2 w (.slice a1 l.length cap1) l := ⟨a1, cap1, rfl, hr1⟩
  obtain ⟨a2, cap2, rfl, hr2⟩ := h2
  have H2 : Sl encRd 2 w (.slice a2 l.length cap2) l := ⟨a2, cap2, rfl, hr2⟩
  clear hr1 hr2
  go_enter Try.func22, Try.ntmps22
  go_wp2_with fail
  have hw2 : Below w.heap.size w ((w.alloc (.cells #[.string d, .int .i64 a, .slice a1 l.length cap1, .int .i64 n, .int .i64 c] 38)).alloc (.cells #[.string d, .int .i64 a, .slice a2 l.length cap2, .int .i64 n, .int .i64 c] 38)) := ((Below.refl _ _).alloc (Nat.le_refl _) _).alloc (by simp) _
  refine (eqReadS_c _ _ l _ (H1.below hw2) (H2.below hw2) hn).mono ?_
  rintro e w2 ⟨rfl, hb⟩
  have hbw := hw2.trans (hb.mono (by simp; omega))
  clear H1 H2 hw2
  obtain ⟨hc, -⟩ := bcell hb
  go_wp2_with fail
  go_ret
  exact ⟨rfl, hbw⟩

def leftOf (r : Rdr) : Int := if rdrOk r then (r.data.size : Int) - r.at_ else 0
set_option maxHeartbeats 400000 in
theorem leftOf_i (sv : Option Addr) (cap : Nat) (r : Rdr) (w : World) :
    Calls Try.prog 21 #[.agg (encRdr (.slice sv r.script.length cap) r).toArray] w fun e w' => e = .returned (.int .i64 (leftOf r)) ∧ Below w.heap.size w w' := by
  have hok := fun w => readerOk_i sv cap r w
  cases hv : rdrOk r
  · have hl : leftOf r = 0 := by simp [leftOf, hv]
    have HL := Lib.hid hl; clear hl
    have HOK := Lib.hid hok; clear hok
    have HV := Lib.hid hv; clear hv
    obtain ⟨d, a, l, n, c⟩ := r
    simp only [encRdr] at *
    go_enter Try.func21, Try.ntmps21
    go_wp2_with fail
    refine (HOK.out _).mono ?_
    rintro e w2 ⟨rfl, hb⟩
    rw [HV.out]
    have hbw := ((Below.refl w.heap.size w).alloc (Nat.le_refl _) (.cells #[.string d, .int .i64 a, .slice sv l.length cap, .int .i64 n, .int .i64 c] 38)).trans (hb.mono (by simp))
    clear hb
    go_wp2_with fail
    go_ret
    exact ⟨ret_int HL.out.symm, hbw⟩
  · have hl : leftOf r = (r.data.size : Int) - r.at_ := by simp [leftOf, hv]
    have hbd : r.data.size ≤ 4000 ∧ 0 ≤ r.at_ ∧ r.at_ ≤ r.data.size := by
      simp only [rdrOk, inR, Bool.and_eq_true, decide_eq_true_eq] at hv
      exact ⟨hv.1.1.1.1, hv.1.1.1.2⟩
    have HL := Lib.hid hl; clear hl
    have HOK := Lib.hid hok; clear hok
    have HV := Lib.hid hv; clear hv
    obtain ⟨d, a, l, n, c⟩ := r
    obtain ⟨hb1, hb2, hb3⟩ := hbd
    simp only [encRdr] at *
    go_enter Try.func21, Try.ntmps21
    go_wp2_with fail
    refine (HOK.out _).mono ?_
    rintro e w2 ⟨rfl, hb⟩
    rw [HV.out]
    have hbw := ((Below.refl w.heap.size w).alloc (Nat.le_refl _) (.cells #[.string d, .int .i64 a, .slice sv l.length cap, .int .i64 n, .int .i64 c] 38)).trans (hb.mono (by simp))
    obtain ⟨hc, -⟩ := bcell hb
    clear hb
    go_wp2_with fail
    go_ret
    exact ⟨ret_int HL.out.symm, hbw⟩
set_option maxHeartbeats 400000 in
theorem leftOf_s (sv : Option Addr) (cap : Nat) (r : Rdr) (w : World) :
    Calls Try.prog 19 #[.agg (encRdr (.slice sv r.script.length cap) r).toArray] w fun e w' => e = .returned (.int .i64 (leftOf r)) ∧ Below w.heap.size w w' := by
  have hok := fun w => readerOk_s sv cap r w
  cases hv : rdrOk r
  · have hl : leftOf r = 0 := by simp [leftOf, hv]
    have HL := Lib.hid hl; clear hl
    have HOK := Lib.hid hok; clear hok
    have HV := Lib.hid hv; clear hv
    obtain ⟨d, a, l, n, c⟩ := r
    simp only [encRdr] at *
    go_enter Try.func19, Try.ntmps19
    go_wp2_with fail
    refine (HOK.out _).mono ?_
    rintro e w2 ⟨rfl, hb⟩
    rw [HV.out]
    have hbw := ((Below.refl w.heap.size w).alloc (Nat.le_refl _) (.cells #[.string d, .int .i64 a, .slice sv l.length cap, .int .i64 n, .int .i64 c] 38)).trans (hb.mono (by simp))
    clear hb
    go_wp2_with fail
    go_ret
    exact ⟨ret_int HL.out.symm, hbw⟩
  · have hl : leftOf r = (r.data.size : Int) - r.at_ := by simp [leftOf, hv]
    have hbd : r.data.size ≤ 4000 ∧ 0 ≤ r.at_ ∧ r.at_ ≤ r.data.size := by
      simp only [rdrOk, inR, Bool.and_eq_true, decide_eq_true_eq] at hv
      exact ⟨hv.1.1.1.1, hv.1.1.1.2⟩
    have HL := Lib.hid hl; clear hl
    have HOK := Lib.hid hok; clear hok
    have HV := Lib.hid hv; clear hv
    obtain ⟨d, a, l, n, c⟩ := r
    obtain ⟨hb1, hb2, hb3⟩ := hbd
    simp only [encRdr] at *
    go_enter Try.func19, Try.ntmps19
    go_wp2_with fail
    refine (HOK.out _).mono ?_
    rintro e w2 ⟨rfl, hb⟩
    rw [HV.out]
    have hbw := ((Below.refl w.heap.size w).alloc (Nat.le_refl _) (.cells #[.string d, .int .i64 a, .slice sv l.length cap, .int .i64 n, .int .i64 c] 38)).trans (hb.mono (by simp))
    obtain ⟨hc, -⟩ := bcell hb
    clear hb
    go_wp2_with fail
    go_ret
    exact ⟨ret_int HL.out.symm, hbw⟩
end Go.Proofs.Ytekndgfiedmhoaa
