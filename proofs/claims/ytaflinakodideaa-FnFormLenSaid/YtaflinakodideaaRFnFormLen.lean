/- FormLen. -/
import Derived.Test.YtaflinakodideaaKFnFormLen6
import Derived.Test.YtaflinakodideaaKB4
namespace Go.Proofs.Ytaflinakodideaa.fnFormLen
open Go.ChangeShapes Go.WideShapes Go.ChangeAt Go.RowKit
open Go.Proofs.Ytaflinakodideaa.Ax
set_option maxRecDepth 100000 in
theorem lifted (os : Os) (started : os.Started) (H : Type) (enc : TypeId × Value → H) :
    ReturnsInHanded {} Try.checked os 3 .any (Rows.fnFormLenSpec.pre6 enc Try.prog Try.f3 Rows.fnFormLenRow.domain false) (Rows.fnFormLenSpec.post enc Try.prog Try.f3 false true false false) := by
  refine returnsInHanded_of_change (C := Try.checked) own started (by kernel_rfl) Try.func3
    (ChangeSpec.witness6 (enc := enc) (C := Try.checked) false ⟨#[], #[.slice none 0 0], []⟩ 8 (by kernel_rfl) (by kernel_rfl) (by kernel_rfl) (by kernel_rfl)) ?_
  intro W base args ds gs before hval0 hW hcnd _
  clear hcnd
  have hval : ∀ (j : Nat) t v, Try.f3.params[j]? = some t → args[j]? = some v → Value.okWide Try.prog W .any base t v := hval0
  have hW' := hW
  obtain ⟨p, q, hA0, hV, hpq, hfz, hnd⟩ := hW
  have hA : DataW.TrodAll enc Try.prog W 0 (fun _ => true) true Try.f3.params.toList args.toList ds p := hA0
  clear hA0 hval0 hV hpq hfz hnd
  rw [Try.params3] at hA hval
  obtain ⟨v0, vs0, d0, ds0, p0, q0, hargs, rfl, hp0, h0, r0⟩ := trodAll_cons hA
  obtain ⟨rfl, rfl, hpn⟩ := trodAll_nil r0
  obtain rfl : args = #[v0] := by cases args; simp_all
  clear hargs hpn hp0
  obtain ⟨a0, len0, cap0, rfl⟩ := okWide_slice Try.underlying22 (hval 0 22 v0 rfl rfl)
  obtain ⟨fuel0, hf0⟩ := h0
  obtain ⟨n0, s0, k0⟩ := open_sq (cr := Rep1 W (RR W)) (t := .u8) (Q := fun e => (0 ≤ e ∧ e ≤ 255)) Try.underlying22 cof_uint8 (by decide) (fun fuel cs x hl h => by obtain ⟨y, h1, h2⟩ := e_u8 fuel cs x hl h; exact ⟨y, all_rep0_1 h1, h2⟩) hf0
  refine (law_calls (law_FormLen n0 (k0.1)) (vs := [_]) (.cons s0 .nil)).mono fun e W2 hh => ?_
  exact ⟨_, hh.1, law_post laidOut rfl (by rw [Try.params3]; exact of_decide_eq_true (by kernel_rfl)) rfl Try.underlying4 (fun hg => by subst hg; exact ⟨rfl, rfl, rfl⟩) hW' hh.2⟩

theorem over : Rows.fnFormLenRow.holds Try.pinned (OpenSpec.ofChange Rows.fnFormLenSpec) :=
  OpenClaim.holds_of_wide 3 Try.f3 rfl rfl rfl rfl rfl rfl rfl ⟨rfl, rfl, rfl, rfl, rfl⟩ rfl rfl rfl rfl rfl (by kernel_rfl) Try.func3 (by kernel_rfl)
    (of_decide_eq_true (by kernel_rfl)) (by unfold Func.isWrapper; first | (rw [if_pos (by decide +kernel)]; kernel_rfl) | (rw [if_neg (by decide +kernel)]; exact ⟨rfl, rfl⟩))
    (fun os started H enc _ => lifted os started H enc)

theorem proved : Rows.FnFormLenSaid := over
#print axioms proved
end Go.Proofs.Ytaflinakodideaa.fnFormLen
