/- Play. -/
import Derived.Test.YtpchkcpcdbdhdaaGreatKPlay1
import Derived.Test.YtpchkcpcdbdhdaaGreatKS9
import Derived.Test.YtpchkcpcdbdhdaaGreatKB4
namespace Go.Proofs.YtpchkcpcdbdhdaaGreat.fnExactPlay
open Go.ChangeShapes Go.WideShapes Go.ChangeAt Go.RowKit
open Go.Proofs.YtpchkcpcdbdhdaaGreat.Ax
set_option maxRecDepth 100000 in
theorem lifted (os:Os) (started:os.Started) (H:Type) (enc:TypeId×Value→H):
  ReturnsInHanded {} Tryz.checked os 6 .any (Rows.fnExactPlaySpec.pre6 enc Tryz.prog Tryz.f6 Rows.fnExactPlayRow.domain false) (Rows.fnExactPlaySpec.post enc Tryz.prog Tryz.f6 false true false false):=by
 refine returnsInHanded_of_change (C:=Tryz.checked) own started (by kernel_rfl) Tryz.func6
  (ChangeSpec.witness6 (enc:=enc) (C:=Tryz.checked) false ⟨#[],#[.agg #[.slice none 0 0,.int .i64 0,.int .i64 0,.int .i64 0],.string ⟨#[]⟩,.slice none 0 0],[]⟩ 8 (by kernel_rfl) (by kernel_rfl) (by kernel_rfl) (by kernel_rfl)) ?_
 intro W base args ds gs before hval0 hW hcnd _
 clear hcnd
 have hval: ∀(j:Nat) t v,Tryz.f6.params[j]? =some t→args[j]? =some v→Value.okWide Tryz.prog W .any base t v:=hval0
 have hW':=hW
 obtain ⟨p,q,hA0,hV,hpq,hfz,hnd⟩:=hW
 have hA:DataW.TrodAll enc Tryz.prog W 0 (fun _=>true) true Tryz.f6.params.toList args.toList ds p:=hA0
 clear hA0 hval0 hV hpq hfz hnd
 rw[Tryz.params6] at hA hval
 obtain ⟨v0,vs0,d0,ds0,p0,q0,hargs,rfl,hp0,h0,r0⟩:=trodAll_cons hA
 obtain ⟨v1,vs1,d1,ds1,p1,q1,rfl,rfl,hp1,h1,r1⟩:=trodAll_cons r0
 obtain ⟨v2,vs2,d2,ds2,p2,q2,rfl,rfl,hp2,h2,r2⟩:=trodAll_cons r1
 obtain ⟨rfl,rfl,hpn⟩:=trodAll_nil r2
 obtain rfl:args= #[v0,v1,v2]:=by cases args;simp_all
 clear hargs hpn hp0 hp1 hp2
 obtain ⟨cs0,rfl,hsz0⟩:=okWide_struct Tryz.underlying26 (hval 0 _ v0 rfl rfl)
 obtain ⟨fuel0,hf0⟩:=h0
 obtain ⟨cl0⟩:=cs0
 obtain ⟨n0,s0,k0⟩:=Ah8 (cs:=cl0) (by rw[L5] at hsz0;exact hsz0) hf0
 obtain ⟨i1,rfl,e1,f1,g1⟩:=Go.ChangeMaps.open_string Tryz.underlying9 (hval 1 9 v1 rfl rfl) h1
 obtain ⟨n1,hn1⟩: ∃l,i1.data.toList=l:=⟨_,rfl⟩
 have k1:Z5 n1.length:=by rw[←hn1];exact W6 g1
 obtain ⟨a2,len2,cap2,rfl⟩:=okWide_slice Tryz.underlying70 (hval 2 70 v2 rfl rfl)
 obtain ⟨fuel2,hf2⟩:=h2
 obtain ⟨n2,s2,k2⟩:=Nu (cr:=Rep1 W (RR W)) (t:= .rd) (Q:=fun e=>Ajd e) Tryz.underlying70 L4 (by decide) (fun fuel cs x hl h=>by obtain ⟨y,h1,h2⟩:=Aj4 fuel cs x hl h;exact⟨y,Ky h1,h2⟩) hf2
 refine(Sp (Agi n0 n1 n2 (k0.1.1) (fun e he=>(k0.1.2 e he).2.1) (k1) (k2.1)) (vs:=[_,_,_]) (.cons ⟨cl0,rfl,s0⟩ (.cons (by rw[←hn1];exact Sq) (.cons s2 .nil)))).mono fun e W2 hh=>?_
 exact⟨_,hh.1,Vj Yf rfl (by rw[Tryz.params6];exact of_decide_eq_true (by kernel_rfl)) rfl Tryz.underlying4 (fun hg=>by subst hg;exact⟨rfl,rfl,rfl⟩) hW' hh.2⟩

theorem over:Rows.fnExactPlayRow.holds Tryz.pinned (OpenSpec.ofChange Rows.fnExactPlaySpec):=
 OpenClaim.holds_of_wide 6 Tryz.f6 rfl rfl rfl rfl rfl rfl rfl ⟨rfl,rfl,rfl,rfl,rfl⟩ rfl rfl rfl rfl rfl (by kernel_rfl) Tryz.func6 (by kernel_rfl)
  (of_decide_eq_true (by kernel_rfl)) (by unfold Func.isWrapper;first|(rw[if_pos (by decide+kernel)];kernel_rfl)|(rw[if_neg (by decide+kernel)];exact⟨rfl,rfl⟩))
  (fun os started H enc _=>lifted os started H enc)

theorem proved:Rows.FnExactPlaySaid:=over
#print axioms proved
end Go.Proofs.YtpchkcpcdbdhdaaGreat.fnExactPlay
