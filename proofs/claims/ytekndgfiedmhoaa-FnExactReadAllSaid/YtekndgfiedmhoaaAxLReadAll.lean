/- ReadAll. -/
import Derived.Test.YtekndgfiedmhoaaAxG
import Derived.Test.YtekndgfiedmhoaaAxP
import Derived.Test.YtekndgfiedmhoaaAxO
namespace Go.Proofs.Ytekndgfiedmhoaa.fnExactReadAll
open Go.ChangeShapes Go.WideShapes Go.ChangeAt Go.RowKit
open Go.Proofs.Ytekndgfiedmhoaa.Ax
set_option maxRecDepth 100000 in
theorem lifted (os : Os) (started : os.Started) (H : Type) (enc : TypeId × Value → H) :
    ReturnsInHanded {} Try.checked os 10 .any (Rows.fnExactReadAllSpec.pre6 enc Try.prog Try.f10 Rows.fnExactReadAllRow.domain false) (Rows.fnExactReadAllSpec.post enc Try.prog Try.f10 false true false false) := by
  refine returnsInHanded_of_change (C := Try.checked) own started (by kernel_rfl) Try.func10
    (ChangeSpec.witness6 (enc := enc) (C := Try.checked) false ⟨#[], #[.agg #[.string ⟨#[]⟩, .int .i64 0, .slice none 0 0, .int .i64 0, .int .i64 0], .int .i64 0], []⟩ 8 (by kernel_rfl) (by kernel_rfl) (by kernel_rfl) (by kernel_rfl)) ?_
  intro W base args ds gs before hval0 hW hcnd _
  clear hcnd
  have hval : ∀ (j : Nat) t v, Try.f10.params[j]? = some t → args[j]? = some v → Value.okWide Try.prog W .any base t v := hval0
  have hW' := hW
  obtain ⟨p, q, hA0, hV, hpq, hfz, hnd⟩ := hW
  have hA : DataW.TrodAll enc Try.prog W 0 (fun _ => true) true Try.f10.params.toList args.toList ds p := hA0
  clear hA0 hval0 hV hpq hfz hnd
  rw [Try.params10] at hA hval
  obtain ⟨v0, vs0, d0, ds0, p0, q0, hargs, rfl, hp0, h0, r0⟩ := trodAll_cons hA
  obtain ⟨v1, vs1, d1, ds1, p1, q1, rfl, rfl, hp1, h1, r1⟩ := trodAll_cons r0
  obtain ⟨rfl, rfl, hpn⟩ := trodAll_nil r1
  obtain rfl : args = #[v0, v1] := by cases args; simp_all
  clear hargs hpn hp0 hp1
  obtain ⟨cs0, rfl, hsz0⟩ := okWide_struct Try.underlying33 (hval 0 _ v0 rfl rfl)
  obtain ⟨fuel0, hf0⟩ := h0
  obtain ⟨cl0⟩ := cs0
  obtain ⟨n0, s0, k0⟩ := o_Rdr (cs := cl0) (by rw [cof_laws_Reader] at hsz0; exact hsz0) hf0
  obtain ⟨n1, rfl, e1, f1, k1⟩ := open_int Try.underlying3 (hval 1 3 v1 rfl rfl) h1
  have k1 : I64 n1 := bounds_i64 k1
  refine (law_calls (law_ReadAll n0 n1 (k0.1) (k0.2.2.1.1)) (vs := [_, _]) (.cons ⟨cl0, rfl, s0⟩ (.cons rfl .nil))).mono fun e W2 hh => ?_
  exact ⟨_, hh.1, law_post laidOut rfl (by rw [Try.params10]; exact of_decide_eq_true (by kernel_rfl)) rfl Try.underlying4 (fun hg => by subst hg; exact ⟨rfl, rfl, rfl⟩) hW' hh.2⟩

theorem over : Rows.fnExactReadAllRow.holds Try.pinned (OpenSpec.ofChange Rows.fnExactReadAllSpec) :=
  OpenClaim.holds_of_wide 10 Try.f10 rfl rfl rfl rfl rfl rfl rfl ⟨rfl, rfl, rfl, rfl, rfl⟩ rfl rfl rfl rfl rfl (by kernel_rfl) Try.func10 (by kernel_rfl)
    (of_decide_eq_true (by kernel_rfl)) (by unfold Func.isWrapper; first | (rw [if_pos (by decide +kernel)]; kernel_rfl) | (rw [if_neg (by decide +kernel)]; exact ⟨rfl, rfl⟩))
    (fun os started H enc _ => lifted os started H enc)

theorem proved : Rows.FnExactReadAllSaid := over
#print axioms proved
end Go.Proofs.Ytekndgfiedmhoaa.fnExactReadAll
