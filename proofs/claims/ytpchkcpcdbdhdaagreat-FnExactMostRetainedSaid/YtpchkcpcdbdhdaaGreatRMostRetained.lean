/- MostRetained. -/
import Derived.Test.YtpchkcpcdbdhdaaGreatKMostRetained1
import Derived.Test.YtpchkcpcdbdhdaaGreatKS8
import Derived.Test.YtpchkcpcdbdhdaaGreatKB4
namespace Go.Proofs.YtpchkcpcdbdhdaaGreat.fnExactMostRetained
open Go.ChangeShapes Go.WideShapes Go.ChangeAt Go.RowKit
open Go.Proofs.YtpchkcpcdbdhdaaGreat.Ax
set_option maxRecDepth 100000 in
theorem lifted (os : Os) (started : os.Started) (H : Type) (enc : TypeId × Value → H) :
    ReturnsInHanded {} Tryz.checked os 4 .any (Rows.fnExactMostRetainedSpec.pre6 enc Tryz.prog Tryz.f4 Rows.fnExactMostRetainedRow.domain false) (Rows.fnExactMostRetainedSpec.post enc Tryz.prog Tryz.f4 false true false false) := by
  refine returnsInHanded_of_change (C := Tryz.checked) own started (by kernel_rfl) Tryz.func4
    (ChangeSpec.witness6 (enc := enc) (C := Tryz.checked) false ⟨#[], #[.agg #[.slice none 0 0, .int .i64 0, .int .i64 0, .int .i64 0], .string ⟨#[]⟩], []⟩ 8 (by kernel_rfl) (by kernel_rfl) (by kernel_rfl) (by kernel_rfl)) ?_
  intro W base args ds gs before hval0 hW hcnd _
  clear hcnd
  have hval : ∀ (j : Nat) t v, Tryz.f4.params[j]? = some t → args[j]? = some v → Value.okWide Tryz.prog W .any base t v := hval0
  have hW' := hW
  obtain ⟨p, q, hA0, hV, hpq, hfz, hnd⟩ := hW
  have hA : DataW.TrodAll enc Tryz.prog W 0 (fun _ => true) true Tryz.f4.params.toList args.toList ds p := hA0
  clear hA0 hval0 hV hpq hfz hnd
  rw [Tryz.params4] at hA hval
  obtain ⟨v0, vs0, d0, ds0, p0, q0, hargs, rfl, hp0, h0, r0⟩ := trodAll_cons hA
  obtain ⟨v1, vs1, d1, ds1, p1, q1, rfl, rfl, hp1, h1, r1⟩ := trodAll_cons r0
  obtain ⟨rfl, rfl, hpn⟩ := trodAll_nil r1
  obtain rfl : args = #[v0, v1] := by cases args; simp_all
  clear hargs hpn hp0 hp1
  obtain ⟨cs0, rfl, hsz0⟩ := okWide_struct Tryz.underlying26 (hval 0 _ v0 rfl rfl)
  obtain ⟨fuel0, hf0⟩ := h0
  obtain ⟨cl0⟩ := cs0
  obtain ⟨n0, s0, k0⟩ := o_Pln (cs := cl0) (by rw [cof_laws_Plan] at hsz0; exact hsz0) hf0
  obtain ⟨i1, rfl, e1, f1, g1⟩ := Go.ChangeMaps.open_string Tryz.underlying9 (hval 1 9 v1 rfl rfl) h1
  obtain ⟨n1, hn1⟩ : ∃ l, i1.data.toList = l := ⟨_, rfl⟩
  have k1 : Le63 n1.length := by rw [← hn1]; exact str_le g1
  refine (law_calls (law_MostRetained n0 n1 (k0.1.1) (fun e he => (k0.1.2 e he).2.1) (k1)) (vs := [_, _]) (.cons ⟨cl0, rfl, s0⟩ (.cons (by rw [← hn1]; exact str_rep) .nil))).mono fun e W2 hh => ?_
  exact ⟨_, hh.1, law_post laidOut rfl (by rw [Tryz.params4]; exact of_decide_eq_true (by kernel_rfl)) rfl Tryz.underlying4 (fun hg => by subst hg; exact ⟨rfl, rfl, rfl⟩) hW' hh.2⟩

theorem over : Rows.fnExactMostRetainedRow.holds Tryz.pinned (OpenSpec.ofChange Rows.fnExactMostRetainedSpec) :=
  OpenClaim.holds_of_wide 4 Tryz.f4 rfl rfl rfl rfl rfl rfl rfl ⟨rfl, rfl, rfl, rfl, rfl⟩ rfl rfl rfl rfl rfl (by kernel_rfl) Tryz.func4 (by kernel_rfl)
    (of_decide_eq_true (by kernel_rfl)) (by unfold Func.isWrapper; first | (rw [if_pos (by decide +kernel)]; kernel_rfl) | (rw [if_neg (by decide +kernel)]; exact ⟨rfl, rfl⟩))
    (fun os started H enc _ => lifted os started H enc)

theorem proved : Rows.FnExactMostRetainedSaid := over
#print axioms proved
end Go.Proofs.YtpchkcpcdbdhdaaGreat.fnExactMostRetained
