/- The program's FrameStop returns what the reference's FrameStop returns, and leaves its arguments alone, for every list of events and every index; no condition. -/
import Derived.Test.YtekndgfiedmhoaaFrameStop
import Derived.Test.YtekndgfiedmhoaaOpenEv
namespace Go.Proofs.Ytekndgfiedmhoaa.fnExactFrameStop
open Go.ChangeShapes Go.WideShapes Go.ChangeAt Go.RowKit
theorem walk (v : Value) (l : List Ev) (n : Int) (w : World) (h : Sl encEv 7 w v l) (hok : ∀ e ∈ l, e.Ok) :
    Calls Try.prog 4 #[v, .int .i64 n] w fun e w' => e = .returned (.bool true) ∧ Below w.heap.size w w' := by
  have hlm : l.length ≤ 9223372036854775807 := by
    obtain ⟨a, cap, _, h1, h2, _⟩ := h
    unfold maxLen at h2; omega
  have htx : ∀ e ∈ l, e.text.size ≤ 9223372036854775807 := fun e he => by have := (hok e he).text; unfold maxLen at this; omega
  have HC := szEventS_c v l 1048576 w h (by omega) (by omega) htx hlm
  clear hlm htx hok
  go_enter Try.func4, Try.ntmps4
  go_wp2_with fail
  refine HC.mono ?_
  clear HC
  rintro e w1 ⟨m, rfl, hm, hb1⟩
  by_cases hm0 : m < 0
  · clear hm
    go_wp2_with fail
    go_ret
    exact ⟨rfl, hb1⟩
  · have hl : l.length ≤ 1048576 := by have := hm (by omega); omega
    clear hm
    have h1 := h.below hb1
    have hb01 := hb1
    go_wp2_with fail
    refine (toEventS_c _ l _ h1 hl).mono ?_
    rintro e w2 ⟨rfl, hrow2, hb2⟩
    have h2 := h1.below hb2
    have hb02 := hb01.trans (hb2.mono hb01.size)
    have hs2 := Row.sl (zs := []) encEv_len (by simpa using hrow2) (Nat.le_refl _) (by unfold maxLen; omega)
    go_wp2_with fail
    refine (frameStop_s _ l n _ hs2 hl).mono ?_
    rintro e w3 ⟨rfl, rfl⟩
    go_wp2_with fail
    refine (toEventS_c _ l _ h2 hl).mono ?_
    rintro e w4 ⟨rfl, hrow4, hb4⟩
    have h4 := h2.below hb4
    have hb04 := hb02.trans (hb4.mono hb02.size)
    have hs4 := Row.sl (zs := []) encEv_len (by simpa using hrow4) (Nat.le_refl _) (by unfold maxLen; omega)
    go_wp2_with fail
    refine (frameStop_i _ l n _ hs4 hl).mono ?_
    rintro e w5 ⟨rfl, rfl⟩
    go_wp2_with fail
    refine (toEventS_c _ l _ h4 hl).mono ?_
    rintro e w6 ⟨rfl, hrow6, hb6⟩
    have hb06 := hb04.trans (hb6.mono hb04.size)
    have hs6 := Row.sl (zs := []) encEv_len (by simpa using hrow6) (Nat.le_refl _) (by unfold maxLen; omega)
    go_wp2_with fail
    refine (eqEventS_c _ _ l _ (hs4.below hb6) hs6 hl).mono ?_
    rintro e w7 ⟨rfl, hb7⟩
    go_wp2_with fail
    go_ret
    exact ⟨rfl, hb06.trans (hb7.mono hb06.size)⟩

set_option maxRecDepth 100000 in
theorem lifted (os : Os) (started : os.Started) (H : Type) (enc : TypeId × Value → H) :
    ReturnsInHanded {} Try.checked os 4 .any (Rows.fnExactFrameStopSpec.pre6 enc Try.prog Try.f4 Rows.fnExactFrameStopRow.domain false) (Rows.fnExactFrameStopSpec.post enc Try.prog Try.f4 false true false false) := by
  refine returnsInHanded_of_change (C := Try.checked) own started (by kernel_rfl) Try.func4
    (ChangeSpec.witness6 (enc := enc) (C := Try.checked) false ⟨#[], #[.slice none 0 0, .int .i64 0], []⟩ 8 (by kernel_rfl) (by kernel_rfl) (by kernel_rfl) (by kernel_rfl)) ?_
  intro W base args ds gs before hval0 hW hcnd _
  clear hcnd
  have hval : ∀ (j : Nat) t v, Try.f4.params[j]? = some t → args[j]? = some v → Value.okWide Try.prog W .any base t v := hval0
  have hW' := hW
  obtain ⟨p, q, hA0, hV, hpq, hfz, hnd⟩ := hW
  have hA : DataW.TrodAll enc Try.prog W 0 (fun _ => true) true Try.f4.params.toList args.toList ds p := hA0
  clear hA0 hval0 hV hpq hfz hnd
  rw [Try.params4] at hA hval
  obtain ⟨v0, vs0, d0, ds0, p0, q0, hargs, rfl, hp0, h0, r0⟩ := trodAll_cons hA
  obtain ⟨v1, vs1, d1, ds1, p1, q1, rfl, rfl, hp1, h1, r1⟩ := trodAll_cons r0
  obtain ⟨rfl, rfl, hpn⟩ := trodAll_nil r1
  obtain rfl : args = #[v0, v1] := by cases args; simp_all
  clear hargs hpn hp0 hp1
  obtain ⟨a, len, cap, rfl⟩ := okWide_slice Try.underlying24 (hval 0 24 v0 rfl rfl)
  obtain ⟨l, hsl, -, hok⟩ := open_evs h0
  obtain ⟨n, rfl, e1, f1, w1⟩ := open_int Try.underlying3 (hval 1 3 v1 rfl rfl) h1
  refine (walk _ l n W hsl hok).mono fun e W2 hh => ?_
  exact ⟨_, hh.1, law_post laidOut rfl (by rw [Try.params4]; exact of_decide_eq_true (by kernel_rfl)) rfl Try.underlying4 (fun hg => by subst hg; exact ⟨rfl, rfl, rfl⟩) hW' hh.2⟩

theorem over : Rows.fnExactFrameStopRow.holds Try.pinned (OpenSpec.ofChange Rows.fnExactFrameStopSpec) :=
  OpenClaim.holds_of_wide 4 Try.f4 rfl rfl rfl rfl rfl rfl rfl ⟨rfl, rfl, rfl, rfl, rfl⟩ rfl rfl rfl rfl rfl (by kernel_rfl) Try.func4 (by kernel_rfl)
    (of_decide_eq_true (by kernel_rfl)) (by unfold Func.isWrapper; first | (rw [if_pos (by decide +kernel)]; kernel_rfl) | (rw [if_neg (by decide +kernel)]; exact ⟨rfl, rfl⟩))
    (fun os started H enc _ => lifted os started H enc)

theorem proved : Rows.FnExactFrameStopSaid := over
#print axioms proved
end Go.Proofs.Ytekndgfiedmhoaa.fnExactFrameStop
