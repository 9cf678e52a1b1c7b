/- The program's ReaderNew returns what the reference's ReaderNew returns, leaves its arguments alone and shares no memory, for every text and every script; no condition. -/
import Derived.Test.YtekndgfiedmhoaaOpenRead
import Derived.Test.YtekndgfiedmhoaaWReaderNew
namespace Go.Proofs.Ytekndgfiedmhoaa.fnExactReaderNew
open Go.ChangeShapes Go.WideShapes Go.ChangeAt Go.RowKit

set_option maxRecDepth 100000 in
theorem lifted (os : Os) (started : os.Started) (H : Type) (enc : TypeId × Value → H) :
    ReturnsInHanded {} Try.checked os 6 .any (Rows.fnExactReaderNewSpec.pre6 enc Try.prog Try.f6 Rows.fnExactReaderNewRow.domain false) (Rows.fnExactReaderNewSpec.post enc Try.prog Try.f6 false true false false) := by
  refine returnsInHanded_of_change (C := Try.checked) own started (by kernel_rfl) Try.func6
    (ChangeSpec.witness6 (enc := enc) (C := Try.checked) false ⟨#[], #[.string ⟨#[]⟩, .slice none 0 0], []⟩ 8 (by kernel_rfl) (by kernel_rfl) (by kernel_rfl) (by kernel_rfl)) ?_
  intro W base args ds gs before hval0 hW hcnd _
  clear hcnd
  have hval : ∀ (j : Nat) t v, Try.f6.params[j]? = some t → args[j]? = some v → Value.okWide Try.prog W .any base t v := hval0
  have hW' := hW
  obtain ⟨p, q, hA0, hV, hpq, hfz, hnd⟩ := hW
  have hA : DataW.TrodAll enc Try.prog W 0 (fun _ => true) true Try.f6.params.toList args.toList ds p := hA0
  clear hA0 hval0 hV hpq hfz hnd
  rw [Try.params6] at hA hval
  obtain ⟨v0, vs0, d0, ds0, p0, q0, hargs, rfl, hp0, h0, r0⟩ := trodAll_cons hA
  obtain ⟨v1, vs1, d1, ds1, p1, q1, rfl, rfl, hp1, h1, r1⟩ := trodAll_cons r0
  obtain ⟨rfl, rfl, hpn⟩ := trodAll_nil r1
  obtain rfl : args = #[v0, v1] := by cases args; simp_all
  clear hargs hpn hp0 hp1
  obtain ⟨d, rfl, _, _, _⟩ := Go.ChangeMaps.open_string Try.underlying9 (hval 0 9 v0 rfl rfl) h0
  obtain ⟨a, len, cap, rfl⟩ := okWide_slice Try.underlying31 (hval 1 31 v1 rfl rfl)
  obtain ⟨fuel1, hf1⟩ := h1
  obtain ⟨l, hsl, -, hok⟩ := open_Rds hf1
  obtain ⟨a', cap', e1, h1', h2', _⟩ := id hsl
  refine (walk _ d l W hsl (by unfold maxLen at h2'; omega)).mono fun e W2 hh => ?_
  exact ⟨_, hh.1, law_post laidOut rfl (by rw [Try.params6]; exact of_decide_eq_true (by kernel_rfl)) rfl Try.underlying4 (fun hg => by subst hg; exact ⟨rfl, rfl, rfl⟩) hW' hh.2⟩

theorem over : Rows.fnExactReaderNewRow.holds Try.pinned (OpenSpec.ofChange Rows.fnExactReaderNewSpec) :=
  OpenClaim.holds_of_wide 6 Try.f6 rfl rfl rfl rfl rfl rfl rfl ⟨rfl, rfl, rfl, rfl, rfl⟩ rfl rfl rfl rfl rfl (by kernel_rfl) Try.func6 (by kernel_rfl)
    (of_decide_eq_true (by kernel_rfl)) (by unfold Func.isWrapper; first | (rw [if_pos (by decide +kernel)]; kernel_rfl) | (rw [if_neg (by decide +kernel)]; exact ⟨rfl, rfl⟩))
    (fun os started H enc _ => lifted os started H enc)

theorem proved : Rows.FnExactReaderNewSaid := over
#print axioms proved
end Go.Proofs.Ytekndgfiedmhoaa.fnExactReaderNew
