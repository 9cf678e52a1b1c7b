/- Readers: the model, the laws' helpers, ReaderOk, LeftOf, copies. -/
import Derived.Test.YtekndgfiedmhoaaReadS
import Derived.Test.YtekndgfiedmhoaaOwn
namespace Go.Proofs.Ytekndgfiedmhoaa
open Go.RowKit
structure Rdr where
  data : ByteArray
  at_ : Int
  script : List Rd
  next : Int
  code : Int
def encRdr (sv : Value) (r : Rdr) : List Value := [.string r.data, .int .i64 r.at_, sv, .int .i64 r.next, .int .i64 r.code]

set_option maxHeartbeats 400000 in
theorem toReader_c (sv : Value) (r : Rdr) (w : World) (h : Sl encRd 2 w sv r.script) (hn : r.script.length ≤ 1048576) :
    Calls Try.prog 20 #[.agg (encRdr sv r).toArray] w fun e w' => ∃ g, e = .returned (.agg (encRdr (.slice (some ⟨g, 0, none⟩) r.script.length r.script.length) r).toArray) ∧ w.heap.size ≤ g ∧ Row w' g 75 (r.script.flatMap encRd) ∧ Below w.heap.size w w' := by
  obtain ⟨d, a, l, n, c⟩ := r
  simp only [encRdr] at *
  obtain ⟨a1, cap1, rfl, hr⟩ := h
  have HS : Sl encRd 2 w (.slice a1 l.length cap1) l := ⟨a1, cap1, rfl, hr⟩
  clear hr
  go_enter Try.func20, Try.ntmps20
  go_wp2_with fail
  have hw3 : Below w.heap.size w (((w.alloc (.cells #[.string d, .int .i64 a, .slice a1 l.length cap1, .int .i64 n, .int .i64 c] 33)).alloc (.cells #[.string ⟨#[]⟩, .int .i64 0, .slice none 0 0, .int .i64 0, .int .i64 0] 38)).alloc (.cells #[.string d, .int .i64 a, .slice none 0 0, .int .i64 0, .int .i64 0] 38)) :=
    (((Below.refl _ _).alloc (Nat.le_refl _) _).alloc (by simp) _).alloc (by simp; omega) _
  refine (toReadS_c _ l _ (HS.below hw3) hn).mono ?_
  rintro e w2 ⟨rfl, hrow, hb⟩
  have hbw := hw3.trans (hb.mono (by simp; omega))
  clear HS hw3
  obtain ⟨hc, hf⟩ := bcell hb
  have hz : w.heap.size + 1 + 1 + 1 < w2.heap.size := by have := hrow.lt; simpa using this
  go_wp2_with fail
  simp only [World.size_alloc] at hrow
  refine bodyPost_ret (v := .agg #[.string d, .int .i64 a, .slice (some ⟨w.heap.size + 1 + 1 + 1, 0, none⟩) l.length l.length, .int .i64 n, .int .i64 c]) (by simp [results, Try.results20, go_sem, hc]) rfl ⟨_, rfl, by omega, ?_, ?_⟩
  · repeat (refine Row.set_other ?_ (by dsimp only; omega) _)
    exact hrow
  · repeat (refine Below.setCell ?_ (by dsimp only; omega) _)
    exact hbw

def rdrOk (r : Rdr) : Bool := decide (r.data.size ≤ 4000) && inR r.at_ 0 r.data.size && decide (r.script.length ≤ 200) && inR r.next 0 r.script.length && (r.code == 0 || r.code == 1 || decide (20 ≤ r.code))

set_option maxHeartbeats 800000 in
theorem readerOk_i (sv : Option Addr) (cap : Nat) (r : Rdr) (w : World) :
    Calls Try.prog 35 #[.agg (encRdr (.slice sv r.script.length cap) r).toArray] w fun e w' => e = .returned (.bool (rdrOk r)) ∧ Below w.heap.size w w' := by
  obtain ⟨d, a, l, n, c⟩ := r
  simp only [encRdr] at *
  generalize hv : rdrOk ⟨d, a, l, n, c⟩ = v
  unfold rdrOk at hv
  dsimp only at hv
  generalize l.length = m at *
  by_cases h1 : d.size ≤ 4000
  · cases h2 : inR a 0 d.size
    · simp only [h1, h2, decide_true, Bool.true_and, Bool.false_and] at hv
      have HV := Lib.hid hv; clear hv

      go_enter Try.func35, Try.ntmps35
      go_wp2_with (go_at_call 45; refine (within_c _ _ _ _).mono ?_; rintro e w' ⟨rfl, rfl⟩)
      go_ret
      exact ⟨ret_bool (by rw [HV.out]), (Below.refl _ _).alloc (Nat.le_refl _) _⟩
    · by_cases h3 : m ≤ 200
      · cases h4 : inR n 0 m
        · simp only [h1, h2, h3, h4, decide_true, Bool.true_and, Bool.false_and] at hv
          have HV := Lib.hid hv; clear hv

          go_enter Try.func35, Try.ntmps35
          go_wp2_with (go_at_call 45; refine (within_c _ _ _ _).mono ?_; rintro e w' ⟨rfl, rfl⟩)
          go_ret
          exact ⟨ret_bool (by rw [HV.out]), (Below.refl _ _).alloc (Nat.le_refl _) _⟩
        · by_cases h5 : c = 0
          · subst h5
            simp only [h1, h2, h3, h4, decide_true, Bool.true_and, beq_self_eq_true, Bool.true_or] at hv
            have HV := Lib.hid hv; clear hv

            go_enter Try.func35, Try.ntmps35
            go_wp2_with (go_at_call 45; refine (within_c _ _ _ _).mono ?_; rintro e w' ⟨rfl, rfl⟩)
            go_ret
            exact ⟨ret_bool (by rw [HV.out]), (Below.refl _ _).alloc (Nat.le_refl _) _⟩
          · have h5b : (c == 0) = false := by simp [h5]
            by_cases h6 : c = 1
            · subst h6
              have h51 : ((1 : Int) == 0) = false := rfl
              simp only [h1, h2, h3, h4, h51, decide_true, Bool.true_and, beq_self_eq_true, Bool.false_or, Bool.true_or] at hv
              have HV := Lib.hid hv; clear hv h5b h51

              go_enter Try.func35, Try.ntmps35
              go_wp2_with (go_at_call 45; refine (within_c _ _ _ _).mono ?_; rintro e w' ⟨rfl, rfl⟩)
              go_ret
              exact ⟨ret_bool (by rw [HV.out]), (Below.refl _ _).alloc (Nat.le_refl _) _⟩
            · have h6b : (c == 1) = false := by simp [h6]
              clear h5 h6
              simp only [h1, h2, h3, h4, h5b, h6b, decide_true, Bool.true_and, Bool.false_or] at hv
              have HV := Lib.hid hv; clear hv

              go_enter Try.func35, Try.ntmps35
              go_wp2_with (go_at_call 45; refine (within_c _ _ _ _).mono ?_; rintro e w' ⟨rfl, rfl⟩)
              go_ret
              exact ⟨ret_bool (by rw [HV.out]), (Below.refl _ _).alloc (Nat.le_refl _) _⟩
      · simp only [h1, h2, h3, decide_true, decide_false, Bool.true_and, Bool.false_and] at hv
        have HV := Lib.hid hv; clear hv

        go_enter Try.func35, Try.ntmps35
        go_wp2_with (go_at_call 45; refine (within_c _ _ _ _).mono ?_; rintro e w' ⟨rfl, rfl⟩)
        go_ret
        exact ⟨ret_bool (by rw [HV.out]), (Below.refl _ _).alloc (Nat.le_refl _) _⟩
  · simp only [h1, decide_false, Bool.false_and] at hv
    have HV := Lib.hid hv; clear hv

    go_enter Try.func35, Try.ntmps35
    go_wp2_with (go_at_call 45; refine (within_c _ _ _ _).mono ?_; rintro e w' ⟨rfl, rfl⟩)
    go_ret
    exact ⟨ret_bool (by rw [HV.out]), (Below.refl _ _).alloc (Nat.le_refl _) _⟩

set_option maxHeartbeats 800000 in
theorem readerOk_s (sv : Option Addr) (cap : Nat) (r : Rdr) (w : World) :
    Calls Try.prog 39 #[.agg (encRdr (.slice sv r.script.length cap) r).toArray] w fun e w' => e = .returned (.bool (rdrOk r)) ∧ Below w.heap.size w w' := by
  obtain ⟨d, a, l, n, c⟩ := r
  simp only [encRdr] at *
  generalize hv : rdrOk ⟨d, a, l, n, c⟩ = v
  unfold rdrOk at hv
  dsimp only at hv
  generalize l.length = m at *
  by_cases h1 : d.size ≤ 4000
  · cases h2 : inR a 0 d.size
    · simp only [h1, h2, decide_true, Bool.true_and, Bool.false_and] at hv
      have HV := Lib.hid hv; clear hv

      go_enter Try.func39, Try.ntmps39
      go_wp2_with (go_at_call 44; refine (l1In_c _ _ _ _).mono ?_; rintro e w' ⟨rfl, rfl⟩)
      go_ret
      exact ⟨ret_bool (by rw [HV.out]), (Below.refl _ _).alloc (Nat.le_refl _) _⟩
    · by_cases h3 : m ≤ 200
      · cases h4 : inR n 0 m
        · simp only [h1, h2, h3, h4, decide_true, Bool.true_and, Bool.false_and] at hv
          have HV := Lib.hid hv; clear hv

          go_enter Try.func39, Try.ntmps39
          go_wp2_with (go_at_call 44; refine (l1In_c _ _ _ _).mono ?_; rintro e w' ⟨rfl, rfl⟩)
          go_ret
          exact ⟨ret_bool (by rw [HV.out]), (Below.refl _ _).alloc (Nat.le_refl _) _⟩
        · by_cases h5 : c = 0
          · subst h5
            simp only [h1, h2, h3, h4, decide_true, Bool.true_and, beq_self_eq_true, Bool.true_or] at hv
            have HV := Lib.hid hv; clear hv

            go_enter Try.func39, Try.ntmps39
            go_wp2_with (go_at_call 44; refine (l1In_c _ _ _ _).mono ?_; rintro e w' ⟨rfl, rfl⟩)
            go_ret
            exact ⟨ret_bool (by rw [HV.out]), (Below.refl _ _).alloc (Nat.le_refl _) _⟩
          · have h5b : (c == 0) = false := by simp [h5]
            by_cases h6 : c = 1
            · subst h6
              have h51 : ((1 : Int) == 0) = false := rfl
              simp only [h1, h2, h3, h4, h51, decide_true, Bool.true_and, beq_self_eq_true, Bool.false_or, Bool.true_or] at hv
              have HV := Lib.hid hv; clear hv h5b h51

              go_enter Try.func39, Try.ntmps39
              go_wp2_with (go_at_call 44; refine (l1In_c _ _ _ _).mono ?_; rintro e w' ⟨rfl, rfl⟩)
              go_ret
              exact ⟨ret_bool (by rw [HV.out]), (Below.refl _ _).alloc (Nat.le_refl _) _⟩
            · have h6b : (c == 1) = false := by simp [h6]
              clear h5 h6
              simp only [h1, h2, h3, h4, h5b, h6b, decide_true, Bool.true_and, Bool.false_or] at hv
              have HV := Lib.hid hv; clear hv

              go_enter Try.func39, Try.ntmps39
              go_wp2_with (go_at_call 44; refine (l1In_c _ _ _ _).mono ?_; rintro e w' ⟨rfl, rfl⟩)
              go_ret
              exact ⟨ret_bool (by rw [HV.out]), (Below.refl _ _).alloc (Nat.le_refl _) _⟩
      · simp only [h1, h2, h3, decide_true, decide_false, Bool.true_and, Bool.false_and] at hv
        have HV := Lib.hid hv; clear hv

        go_enter Try.func39, Try.ntmps39
        go_wp2_with (go_at_call 44; refine (l1In_c _ _ _ _).mono ?_; rintro e w' ⟨rfl, rfl⟩)
        go_ret
        exact ⟨ret_bool (by rw [HV.out]), (Below.refl _ _).alloc (Nat.le_refl _) _⟩
  · simp only [h1, decide_false, Bool.false_and] at hv
    have HV := Lib.hid hv; clear hv

    go_enter Try.func39, Try.ntmps39
    go_wp2_with (go_at_call 44; refine (l1In_c _ _ _ _).mono ?_; rintro e w' ⟨rfl, rfl⟩)
    go_ret
    exact ⟨ret_bool (by rw [HV.out]), (Below.refl _ _).alloc (Nat.le_refl _) _⟩
end Go.Proofs.Ytekndgfiedmhoaa
