/- Pull. -/
import Derived.Test.YtpchkcpcdbdhdaaGreatKPull1
import Derived.Test.YtpchkcpcdbdhdaaGreatKS9
import Derived.Test.YtpchkcpcdbdhdaaGreatKB4
namespace Go.Proofs.YtpchkcpcdbdhdaaGreat.fnExactPull
open Go.ChangeShapes Go.WideShapes Go.ChangeAt Go.RowKit
open Go.Proofs.YtpchkcpcdbdhdaaGreat.Ax
set_option maxRecDepth 100000 in
theorem lifted (os:Os) (started:os.Started) (H:Type) (enc:TypeId×Value→H):
  ReturnsInHanded {} Tryz.checked os 8 .any (Rows.fnExactPullSpec.pre6 enc Tryz.prog Tryz.f8 Rows.fnExactPullRow.domain false) (Rows.fnExactPullSpec.post enc Tryz.prog Tryz.f8 false true false false):=by
 refine returnsInHanded_of_change (C:=Tryz.checked) own started (by kernel_rfl) Tryz.func8
  (ChangeSpec.witness6 (enc:=enc) (C:=Tryz.checked) false ⟨#[],#[.agg #[.string ⟨#[]⟩,.int .i64 0,.slice none 0 0,.int .i64 0,.int .i64 0,.slice none 0 0,.int .i64 0,.int .i64 0,.int .i64 0,.int .i64 0,.slice none 0 0,.int .u64 0,.int .i64 0,.int .i64 0,.int .i64 0,.int .i64 0,.int .i64 0,.bool false,.bool false,.int .i64 0,.int .i64 0,.int .i64 0,.int .i64 0,.int .i64 0,.int .i64 0,.int .i64 0,.int .i64 0,.int .u64 0,.int .i64 0,.string ⟨#[]⟩,.int .i64 0,.int .i64 0,.slice none 0 0,.int .i64 0]],[]⟩ 8 (by kernel_rfl) (by kernel_rfl) (by kernel_rfl) (by kernel_rfl)) ?_
 intro W base args ds gs before hval0 hW hcnd _
 clear hcnd
 have hval: ∀(j:Nat) t v,Tryz.f8.params[j]? =some t→args[j]? =some v→Value.okWide Tryz.prog W .any base t v:=hval0
 have hW':=hW
 obtain ⟨p,q,hA0,hV,hpq,hfz,hnd⟩:=hW
 have hA:DataW.TrodAll enc Tryz.prog W 0 (fun _=>true) true Tryz.f8.params.toList args.toList ds p:=hA0
 clear hA0 hval0 hV hpq hfz hnd
 rw[Tryz.params8] at hA hval
 obtain ⟨v0,vs0,d0,ds0,p0,q0,hargs,rfl,hp0,h0,r0⟩:=trodAll_cons hA
 obtain ⟨rfl,rfl,hpn⟩:=trodAll_nil r0
 obtain rfl:args= #[v0]:=by cases args;simp_all
 clear hargs hpn hp0
 obtain ⟨cs0,rfl,hsz0⟩:=okWide_struct Tryz.underlying83 (hval 0 _ v0 rfl rfl)
 obtain ⟨fuel0,hf0⟩:=h0
 obtain ⟨cl0⟩:=cs0
 obtain ⟨n0,s0,k0⟩:=Ajm (cs:=cl0) (by rw[Tq] at hsz0;exact hsz0) hf0
 refine(Sp (Agk n0 (k0.1.1) (k0.1.2.2.1.1) (k0.2.1.1.1.1) (fun e he=>(k0.2.1.1.1.2 e he).2.1) (k0.2.1.2.2.1.1) (k0.2.1.2.2.2.2.2.2.2.2.2.2.2.2.2.2.1) (k0.2.2.1.1) (fun e he=>(k0.2.2.1.2 e he).2.2.2.2.1) (k0.2.1.2.2.2.1.1)) (vs:=[_]) (.cons ⟨cl0,rfl,s0⟩ .nil)).mono fun e W2 hh=>?_
 exact⟨_,hh.1,Vj Yf rfl (by rw[Tryz.params8];exact of_decide_eq_true (by kernel_rfl)) rfl Tryz.underlying4 (fun hg=>by subst hg;exact⟨rfl,rfl,rfl⟩) hW' hh.2⟩

theorem over:Rows.fnExactPullRow.holds Tryz.pinned (OpenSpec.ofChange Rows.fnExactPullSpec):=
 OpenClaim.holds_of_wide 8 Tryz.f8 rfl rfl rfl rfl rfl rfl rfl ⟨rfl,rfl,rfl,rfl,rfl⟩ rfl rfl rfl rfl rfl (by kernel_rfl) Tryz.func8 (by kernel_rfl)
  (of_decide_eq_true (by kernel_rfl)) (by unfold Func.isWrapper;first|(rw[if_pos (by decide+kernel)];kernel_rfl)|(rw[if_neg (by decide+kernel)];exact⟨rfl,rfl⟩))
  (fun os started H enc _=>lifted os started H enc)

theorem proved:Rows.FnExactPullSaid:=over
#print axioms proved
end Go.Proofs.YtpchkcpcdbdhdaaGreat.fnExactPull
