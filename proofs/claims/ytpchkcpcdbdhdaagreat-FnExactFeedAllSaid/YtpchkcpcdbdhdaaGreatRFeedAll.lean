/- FeedAll. -/
import Derived.Test.YtpchkcpcdbdhdaaGreatKFeedAll8
import Derived.Test.YtpchkcpcdbdhdaaGreatKB4
namespace Go.Proofs.YtpchkcpcdbdhdaaGreat.fnExactFeedAll
open Go.ChangeShapes Go.WideShapes Go.ChangeAt Go.RowKit
open Go.Proofs.YtpchkcpcdbdhdaaGreat.Ax
set_option maxRecDepth 100000 in
theorem lifted (os : Os) (started : os.Started) (H : Type) (enc : TypeId × Value → H) :
    ReturnsInHanded {} Tryz.checked os 5 .any (Rows.fnExactFeedAllSpec.pre6 enc Tryz.prog Tryz.f5 Rows.fnExactFeedAllRow.domain false) (Rows.fnExactFeedAllSpec.post enc Tryz.prog Tryz.f5 false true false false) := by
  refine returnsInHanded_of_change (C := Tryz.checked) own started (by kernel_rfl) Tryz.func5
    (ChangeSpec.witness6 (enc := enc) (C := Tryz.checked) false ⟨#[], #[.agg #[.slice none 0 0, .int .i64 0, .int .i64 0, .int .i64 0, .int .i64 0, .slice none 0 0, .int .u64 0, .int .i64 0, .int .i64 0, .int .i64 0, .int .i64 0, .int .i64 0, .bool false, .bool false, .int .i64 0, .int .i64 0, .int .i64 0, .int .i64 0, .int .i64 0, .int .i64 0, .int .i64 0, .int .i64 0, .int .u64 0, .int .i64 0, .string ⟨#[]⟩, .int .i64 0, .int .i64 0], .slice none 0 0], []⟩ 8 (by kernel_rfl) (by kernel_rfl) (by kernel_rfl) (by kernel_rfl)) ?_
  intro W base args ds gs before hval0 hW hcnd _
  clear hcnd
  have hval : ∀ (j : Nat) t v, Tryz.f5.params[j]? = some t → args[j]? = some v → Value.okWide Tryz.prog W .any base t v := hval0
  have hW' := hW
  obtain ⟨p, q, hA0, hV, hpq, hfz, hnd⟩ := hW
  have hA : DataW.TrodAll enc Tryz.prog W 0 (fun _ => true) true Tryz.f5.params.toList args.toList ds p := hA0
  clear hA0 hval0 hV hpq hfz hnd
  rw [Tryz.params5] at hA hval
  obtain ⟨v0, vs0, d0, ds0, p0, q0, hargs, rfl, hp0, h0, r0⟩ := trodAll_cons hA
  obtain ⟨v1, vs1, d1, ds1, p1, q1, rfl, rfl, hp1, h1, r1⟩ := trodAll_cons r0
  obtain ⟨rfl, rfl, hpn⟩ := trodAll_nil r1
  obtain rfl : args = #[v0, v1] := by cases args; simp_all
  clear hargs hpn hp0 hp1
  obtain ⟨cs0, rfl, hsz0⟩ := okWide_struct Tryz.underlying48 (hval 0 _ v0 rfl rfl)
  obtain ⟨fuel0, hf0⟩ := h0
  obtain ⟨cl0⟩ := cs0
  obtain ⟨n0, s0, k0⟩ := o_Dcd (cs := cl0) (by rw [cof_laws_Dec] at hsz0; exact hsz0) hf0
  obtain ⟨a1, len1, cap1, rfl⟩ := okWide_slice Tryz.underlying49 (hval 1 49 v1 rfl rfl)
  obtain ⟨fuel1, hf1⟩ := h1
  obtain ⟨n1, s1, k1⟩ := open_sq (cr := Rep1 W (RR W)) (t := .str) (Q := fun e => Le63 e.length) Tryz.underlying49 cof_string (by decide) (fun fuel cs x hl h => by obtain ⟨y, h1, h2⟩ := e_str fuel cs x hl h; exact ⟨y, all_rep0_1 h1, h2⟩) hf1
  refine (law_calls (law_FeedAll n0 n1 (k0.1.1.1) (fun e he => (k0.1.1.2 e he).2.1) (k0.2.2.1.1) (k0.2.2.2.2.2.2.2.2.2.2.2.2.2.2.1) (k0.2.2.2.1.1) (k1.1) (fun c hc => k1.2 c hc)) (vs := [_, _]) (.cons ⟨cl0, rfl, s0⟩ (.cons s1 .nil))).mono fun e W2 hh => ?_
  exact ⟨_, hh.1, law_post laidOut rfl (by rw [Tryz.params5]; exact of_decide_eq_true (by kernel_rfl)) rfl Tryz.underlying4 (fun hg => by subst hg; exact ⟨rfl, rfl, rfl⟩) hW' hh.2⟩

theorem over : Rows.fnExactFeedAllRow.holds Tryz.pinned (OpenSpec.ofChange Rows.fnExactFeedAllSpec) :=
  OpenClaim.holds_of_wide 5 Tryz.f5 rfl rfl rfl rfl rfl rfl rfl ⟨rfl, rfl, rfl, rfl, rfl⟩ rfl rfl rfl rfl rfl (by kernel_rfl) Tryz.func5 (by kernel_rfl)
    (of_decide_eq_true (by kernel_rfl)) (by unfold Func.isWrapper; first | (rw [if_pos (by decide +kernel)]; kernel_rfl) | (rw [if_neg (by decide +kernel)]; exact ⟨rfl, rfl⟩))
    (fun os started H enc _ => lifted os started H enc)

theorem proved : Rows.FnExactFeedAllSaid := over
#print axioms proved
end Go.Proofs.YtpchkcpcdbdhdaaGreat.fnExactFeedAll
