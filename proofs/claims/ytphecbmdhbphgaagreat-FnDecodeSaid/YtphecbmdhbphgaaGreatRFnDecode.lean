/- Decode. -/
import Derived.Test.YtphecbmdhbphgaaGreatKFnDecode9
import Derived.Test.YtphecbmdhbphgaaGreatKFnDecode10
import Derived.Test.YtphecbmdhbphgaaGreatKB4
namespace Go.Proofs.YtphecbmdhbphgaaGreat.fnDecode
open Go.ChangeShapes Go.WideShapes Go.ChangeAt Go.RowKit
open Go.Proofs.YtphecbmdhbphgaaGreat.Ax
set_option maxRecDepth 100000 in
theorem As8 (os:Os) (started:os.Started) (H:Type) (enc:TypeId×Value→H):
  ReturnsInHanded {} Tryz.checked os 3 .any (Rows.fnDecodeSpec.pre6 enc Tryz.prog Tryz.f3 Rows.fnDecodeRow.domain false) (Rows.fnDecodeSpec.post enc Tryz.prog Tryz.f3 false true false false):=by
 refine returnsInHanded_of_change (C:=Tryz.checked) own started (by kernel_rfl) Tryz.func3
  (ChangeSpec.witness6 (enc:=enc) (C:=Tryz.checked) false ⟨#[],#[.slice none 0 0],[]⟩ 8 (by kernel_rfl) (by kernel_rfl) (by kernel_rfl) (by kernel_rfl)) ?_
 intro W base args ds gs before hval0 hW hcnd _
 clear hcnd
 have hval: ∀(j:Nat) t v,Tryz.f3.params[j]? =some t→args[j]? =some v→Value.okWide Tryz.prog W .any base t v:=hval0
 have hW':=hW
 obtain ⟨p,q,hA0,hV,hpq,hfz,hnd⟩:=hW
 have hA:DataW.TrodAll enc Tryz.prog W 0 (fun _=>true) true Tryz.f3.params.toList args.toList ds p:=hA0
 clear hA0 hval0 hV hpq hfz hnd
 rw[Tryz.params3] at hA hval
 obtain ⟨v0,vs0,d0,ds0,p0,q0,hargs,rfl,hp0,h0,r0⟩:=trodAll_cons hA
 obtain ⟨rfl,rfl,hpn⟩:=trodAll_nil r0
 obtain rfl:args= #[v0]:=by cases args;simp_all
 clear hargs hpn hp0
 obtain ⟨a0,len0,cap0,rfl⟩:=okWide_slice Tryz.underlying22 (hval 0 22 v0 rfl rfl)
 obtain ⟨fuel0,hf0⟩:=h0
 obtain ⟨n0,s0,k0⟩:=Aqo (cr:=Rep1 W (RR W)) (t:= .u8) (Q:=fun e=>(0≤e∧e≤255)) Tryz.underlying22 Aj7 (by decide) (fun fuel cs x hl h=>by obtain ⟨y,h1,h2⟩:=Aub fuel cs x hl h;exact⟨y,Ag8 h1,h2⟩) hf0
 refine(Ajp (Aii n0 (k0.1)) (vs:=[_]) (.cons s0 .nil)).mono fun e W2 hh=>?_
 exact⟨_,hh.1,Anq Aqn rfl (by rw[Tryz.params3];exact of_decide_eq_true (by kernel_rfl)) rfl Tryz.underlying4 (fun hg=>by subst hg;exact⟨rfl,rfl,rfl⟩) hW' hh.2⟩

theorem Aqd:Rows.fnDecodeRow.holds Tryz.pinned (OpenSpec.ofChange Rows.fnDecodeSpec):=
 OpenClaim.holds_of_wide 3 Tryz.f3 rfl rfl rfl rfl rfl rfl rfl ⟨rfl,rfl,rfl,rfl,rfl⟩ rfl rfl rfl rfl rfl (by kernel_rfl) Tryz.func3 (by kernel_rfl)
  (of_decide_eq_true (by kernel_rfl)) (by unfold Func.isWrapper;first|(rw[if_pos (by decide+kernel)];kernel_rfl)|(rw[if_neg (by decide+kernel)];exact⟨rfl,rfl⟩))
  (fun os started H enc _=>As8 os started H enc)

theorem proved:Rows.FnDecodeSaid:=Aqd
#print axioms proved
end Go.Proofs.YtphecbmdhbphgaaGreat.fnDecode
