/- PullAgain. -/
import Derived.Test.YtphecbmdhbphgaaGreatKFnPullAgain9
import Derived.Test.YtphecbmdhbphgaaGreatKB4
namespace Go.Proofs.YtphecbmdhbphgaaGreat.fnPullAgain
open Go.ChangeShapes Go.WideShapes Go.ChangeAt Go.RowKit
open Go.Proofs.YtphecbmdhbphgaaGreat.Ax
set_option maxRecDepth 100000 in
theorem Aou (os:Os) (started:os.Started) (H:Type) (enc:TypeId×Value→H):
  ReturnsInHanded {} Tryz.checked os 6 .any (Rows.fnPullAgainSpec.pre6 enc Tryz.prog Tryz.f6 Rows.fnPullAgainRow.domain false) (Rows.fnPullAgainSpec.post enc Tryz.prog Tryz.f6 false true false false):=by
 refine returnsInHanded_of_change (C:=Tryz.checked) own started (by kernel_rfl) Tryz.func6
  (ChangeSpec.witness6 (enc:=enc) (C:=Tryz.checked) false ⟨#[],#[.slice none 0 0],[]⟩ 8 (by kernel_rfl) (by kernel_rfl) (by kernel_rfl) (by kernel_rfl)) ?_
 intro W base args ds gs before hval0 hW hcnd _
 clear hcnd
 have hval: ∀(j:Nat) t v,Tryz.f6.params[j]? =some t→args[j]? =some v→Value.okWide Tryz.prog W .any base t v:=hval0
 have hW':=hW
 obtain ⟨p,q,hA0,hV,hpq,hfz,hnd⟩:=hW
 have hA:DataW.TrodAll enc Tryz.prog W 0 (fun _=>true) true Tryz.f6.params.toList args.toList ds p:=hA0
 clear hA0 hval0 hV hpq hfz hnd
 rw[Tryz.params6] at hA hval
 obtain ⟨v0,vs0,d0,ds0,p0,q0,hargs,rfl,hp0,h0,r0⟩:=trodAll_cons hA
 obtain ⟨rfl,rfl,hpn⟩:=trodAll_nil r0
 obtain rfl:args= #[v0]:=by cases args;simp_all
 clear hargs hpn hp0
 obtain ⟨a0,len0,cap0,rfl⟩:=okWide_slice Tryz.underlying22 (hval 0 22 v0 rfl rfl)
 obtain ⟨fuel0,hf0⟩:=h0
 obtain ⟨n0,s0,k0⟩:=Amg (cr:=Rep1 W (RR W)) (t:= .u8) (Q:=fun e=>(0≤e∧e≤255)) Tryz.underlying22 Aip (by decide) (fun fuel cs x hl h=>by obtain ⟨y,h1,h2⟩:=Apu fuel cs x hl h;exact⟨y,Aep h1,h2⟩) hf0
 refine(Agx (Aad n0 (k0.1)) (vs:=[_]) (.cons s0 .nil)).mono fun e W2 hh=>?_
 exact⟨_,hh.1,Ai7 Amf rfl (by rw[Tryz.params6];exact of_decide_eq_true (by kernel_rfl)) rfl Tryz.underlying4 (fun hg=>by subst hg;exact⟨rfl,rfl,rfl⟩) hW' hh.2⟩

theorem Ak6:Rows.fnPullAgainRow.holds Tryz.pinned (OpenSpec.ofChange Rows.fnPullAgainSpec):=
 OpenClaim.holds_of_wide 6 Tryz.f6 rfl rfl rfl rfl rfl rfl rfl ⟨rfl,rfl,rfl,rfl,rfl⟩ rfl rfl rfl rfl rfl (by kernel_rfl) Tryz.func6 (by kernel_rfl)
  (of_decide_eq_true (by kernel_rfl)) (by unfold Func.isWrapper;first|(rw[if_pos (by decide+kernel)];kernel_rfl)|(rw[if_neg (by decide+kernel)];exact⟨rfl,rfl⟩))
  (fun os started H enc _=>Aou os started H enc)

theorem proved:Rows.FnPullAgainSaid:=Ak6
#print axioms proved
end Go.Proofs.YtphecbmdhbphgaaGreat.fnPullAgain
