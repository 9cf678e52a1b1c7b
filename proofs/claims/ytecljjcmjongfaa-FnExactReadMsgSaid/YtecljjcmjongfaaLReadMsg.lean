/- ReadMsg. -/
import Derived.Test.YtecljjcmjongfaaVF
import Derived.Test.YtecljjcmjongfaaNP
import Derived.ChangeMaps5
import Derived.Test.YtecljjcmjongfaaAxO
namespace Go.Proofs.Ytecljjcmjongfaa.fnExactReadMsg
open Go.ChangeShapes Go.WideShapes Go.ChangeAt Go.RowKit
open Go.Proofs.Ytecljjcmjongfaa.Ax
set_option maxRecDepth 100000 in
theorem lifted (os : Os) (started : os.Started) (H : Type) (enc : TypeId × Value → H) :
    ReturnsInHanded {} Try.checked os 5 .any (Rows.fnExactReadMsgSpec.pre6 enc Try.prog Try.f5 Rows.fnExactReadMsgRow.domain false) (Rows.fnExactReadMsgSpec.post enc Try.prog Try.f5 false true false false) := by
  refine returnsInHanded_of_change (C := Try.checked) own started (by kernel_rfl) Try.func5
    (ChangeSpec.witness6 (enc := enc) (C := Try.checked) false ⟨#[], #[.agg #[.slice none 0 0, .int .i64 0, .int .i64 0, .int .i64 0], .int .i64 0, .string ⟨#[]⟩, .int .i64 0, .int .i64 0, .int .i64 0], []⟩ 8 (by kernel_rfl) (by kernel_rfl) (by kernel_rfl) (by kernel_rfl)) ?_
  intro W base args ds gs before hval0 hW hcnd _
  clear hcnd
  have hval : ∀ (j : Nat) t v, Try.f5.params[j]? = some t → args[j]? = some v → Value.okWide Try.prog W .any base t v := hval0
  have hW' := hW
  obtain ⟨p, q, hA0, hV, hpq, hfz, hnd⟩ := hW
  have hA : DataW.TrodAll enc Try.prog W 0 (fun _ => true) true Try.f5.params.toList args.toList ds p := hA0
  clear hA0 hval0 hV hpq hfz hnd
  rw [Try.params5] at hA hval
  obtain ⟨v0, vs0, d0, ds0, p0, q0, hargs, rfl, hp0, h0, r0⟩ := trodAll_cons hA
  obtain ⟨v1, vs1, d1, ds1, p1, q1, rfl, rfl, hp1, h1, r1⟩ := trodAll_cons r0
  obtain ⟨v2, vs2, d2, ds2, p2, q2, rfl, rfl, hp2, h2, r2⟩ := trodAll_cons r1
  obtain ⟨v3, vs3, d3, ds3, p3, q3, rfl, rfl, hp3, h3, r3⟩ := trodAll_cons r2
  obtain ⟨v4, vs4, d4, ds4, p4, q4, rfl, rfl, hp4, h4, r4⟩ := trodAll_cons r3
  obtain ⟨v5, vs5, d5, ds5, p5, q5, rfl, rfl, hp5, h5, r5⟩ := trodAll_cons r4
  obtain ⟨rfl, rfl, hpn⟩ := trodAll_nil r5
  obtain rfl : args = #[v0, v1, v2, v3, v4, v5] := by cases args; simp_all
  clear hargs hpn hp0 hp1 hp2 hp3 hp4 hp5
  obtain ⟨cs0, rfl, hsz0⟩ := okWide_struct Try.underlying26 (hval 0 _ v0 rfl rfl)
  obtain ⟨fuel0, hf0⟩ := h0
  obtain ⟨cl0⟩ := cs0
  obtain ⟨n0, s0, k0⟩ := o_Pln (cs := cl0) (by rw [cof_laws_Plan] at hsz0; exact hsz0) hf0
  obtain ⟨n1, rfl, e1, f1, k1⟩ := open_int Try.underlying3 (hval 1 3 v1 rfl rfl) h1
  have k1 : I64 n1 := bounds_i64 k1
  obtain ⟨i2, rfl, e2, f2, g2⟩ := Go.ChangeMaps.open_string Try.underlying9 (hval 2 9 v2 rfl rfl) h2
  obtain ⟨n2, hn2⟩ : ∃ l, i2.data.toList = l := ⟨_, rfl⟩
  have k2 : Le63 n2.length := by rw [← hn2]; exact str_le g2
  obtain ⟨n3, rfl, e3, f3, k3⟩ := open_int Try.underlying3 (hval 3 3 v3 rfl rfl) h3
  have k3 : I64 n3 := bounds_i64 k3
  obtain ⟨n4, rfl, e4, f4, k4⟩ := open_int Try.underlying3 (hval 4 3 v4 rfl rfl) h4
  have k4 : I64 n4 := bounds_i64 k4
  obtain ⟨n5, rfl, e5, f5, k5⟩ := open_int Try.underlying3 (hval 5 3 v5 rfl rfl) h5
  have k5 : I64 n5 := bounds_i64 k5
  refine (law_calls (law_ReadMsg n0 n1 n2 n3 n4 n5 (k0.1.1) (fun e he => (k0.1.2 e he).2.1) (k4.2)) (vs := [_, _, _, _, _, _]) (.cons ⟨cl0, rfl, s0⟩ (.cons rfl (.cons (by rw [← hn2]; exact str_rep) (.cons rfl (.cons rfl (.cons rfl .nil))))))).mono fun e W2 hh => ?_
  exact ⟨_, hh.1, law_post laidOut rfl (by rw [Try.params5]; exact of_decide_eq_true (by kernel_rfl)) rfl Try.underlying4 (fun hg => by subst hg; exact ⟨rfl, rfl, rfl⟩) hW' hh.2⟩

theorem over : Rows.fnExactReadMsgRow.holds Try.pinned (OpenSpec.ofChange Rows.fnExactReadMsgSpec) :=
  OpenClaim.holds_of_wide 5 Try.f5 rfl rfl rfl rfl rfl rfl rfl ⟨rfl, rfl, rfl, rfl, rfl⟩ rfl rfl rfl rfl rfl (by kernel_rfl) Try.func5 (by kernel_rfl)
    (of_decide_eq_true (by kernel_rfl)) (by unfold Func.isWrapper; first | (rw [if_pos (by decide +kernel)]; kernel_rfl) | (rw [if_neg (by decide +kernel)]; exact ⟨rfl, rfl⟩))
    (fun os started H enc _ => lifted os started H enc)

theorem proved : Rows.FnExactReadMsgSaid := over
#print axioms proved
end Go.Proofs.Ytecljjcmjongfaa.fnExactReadMsg
