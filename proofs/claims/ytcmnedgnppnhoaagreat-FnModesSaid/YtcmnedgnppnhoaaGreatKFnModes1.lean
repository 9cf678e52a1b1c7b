/- Models: the machine. Models: the machine's steps. Models: bytes, Fu inputs. Decoders: what is valid. Decoders: what is valid, more. Decoders: what is valid, Fu. Decoders: what is valid, at last. -/
import Derived.Test.YtcmnedgnppnhoaaGreatKS1
import Derived.Test.YtcmnedgnppnhoaaGreatKS2
set_option linter.unusedSimpArgs false
set_option linter.unusedVariables false
namespace Go.Proofs.YtcmnedgnppnhoaaGreat.Ax
open Go.RowKit
def Aq3:Lev:=⟨0,0⟩
def Ef (d:Dcd):Int:=(d.stack.getD (d.stack.length-1) Aq3).left
def F5 (n:Int) (l:Lev):Bool:=Aq l.msg 0 (n-1)&&Aq l.left 0 2000
def Bn (d:Dcd):Bool:=B5 d.plan&&decide ((d.stack.length:Int)≤d.plan.deep)&&d.stack.all (F5 (d.plan.shapes.length:Int))
def Yr (n:Int):List Lev→Nat
 |[]=>0
 |l::r=>if F5 n l then Yr n r+1 else 0
theorem Tp {n:Int} {l:Lev} {r:List Lev} :Yr n (l::r)=if F5 n l then Yr n r+1 else 0:=rfl
theorem Pp (n:Int): ∀l:List Lev,l.all (F5 n)=decide (Yr n l=l.length)
 |[]=>rfl
 |l::r=>by
  rw[List.all_cons,Pp n r,Tp]
  cases h:F5 n l with
  |true=>rw[if_pos rfl];simp
  |false=>rw[if_neg (by simp)];simp
def Lo (n:Int) (l:List Lev):Int:=if Yr n l=l.length then-1 else (Yr n l:Int)
def Dx (s:Scn):Bool:=Aq s.have_ 0 9&&decide (Int.fdiv s.bits (2 ^ min (Int.toNat (7*s.have_)) 64)=0)
def B1 (d:Dcd):Int:=if d.mode=5 then Az d.wire else if d.mode=8 then Az (Br d.field.kind) else 0
def Re (d:Dcd):Int:=if d.mode=8 then d.want else Ef d
def Lq (d:Dcd):Bool:=if 0<B1 d then Aq d.scan.have_ 0 (B1 d-1)&&decide (Int.fdiv d.scan.bits (2 ^ min (Int.toNat (8*d.scan.have_)) 64)=0)&&decide (B1 d-d.scan.have_≤Re d)
 else if d.mode=6∨d.mode=7∨d.mode=9 then decide (d.scan=scn0) else Dx d.scan
def Kb (d:Dcd):Bool:=if d.mode=6∨d.mode=7∨d.mode=8 then Aq d.want 1 (Ef d) else decide (d.want=0)
def Anb (d:Dcd):Bool:=decide (d.field=fld0)||Cq d.field d.wire
def Kc (d:Dcd):Bool:=if d.mode=6 then Hb d.field.kind else if d.mode=8 then Ta d.field else if d.mode=3 then decide (d.wire=0)&&Anb d else if d.mode=4 then decide (d.wire=2)&&Anb d else if d.mode=5 then decide (0<Az d.wire)&&Anb d else true
def G1 (l:List Shp) (f:Fld):Nat→Bool
 |0=>false
 |k+1=>G1 l f k||decide (fieldAt l (k:Int) f.number=some f)
def known (l:List Shp) (f:Fld):Bool:=G1 l f l.length
def Pq (k:Int):Bool:=Aq k 1 10
def E8 (e:Ev):Ev:=⟨e.kind,if e.kind=2∨e.kind=3∨e.kind=6 then e.field else 0,if e.kind=2 then e.bits else 0,if e.kind=1∨e.kind=3∨e.kind=6 then e.len else 0,if e.kind=4 then e.text else [],if e.kind=10 then e.code else 0,if e.kind=9∨e.kind=10 then e.at_ else 0⟩
def Vv (e:Ev):Bool:=decide (e=E8 e)
def Kj (e:Ev):Bool:=Pq e.kind&&Vv e&&decide (0≤e.len)&&decide (0≤e.at_)&&(if F1 e.kind then Aq e.field 1 536870911 else if e.kind=4 then !decide (e.text=[]) else if e.kind=10 then decide (1≤e.code) else true)
def F3 (e:Ev):Bool:=decide (e.kind=9)||decide (e.kind=10)
def Aan (d:Dcd):Bool:=if d.mode=9 then Kj d.end_&&F3 d.end_ else decide (d.end_=ev0)
def Lr (d:Dcd):Bool:=if d.mode=1 then decide (d.stack=[]) else if d.mode=9 then true else decide (1≤Ef d)
def Dr (d:Dcd):Bool:=Bn d&&Aq d.mode 1 9&&Aq d.at_ 0 1000000000&&Aq d.start 0 d.at_&&Fe d.utf&&C7 d.wire&&(decide (d.field=fld0)||known d.plan.shapes d.field)&&Aan d&&Lr d&&Kb d&&Kc d&&Lq d
theorem Aij {o f:Fld} (h:o.number=f.number∧o.kind=f.kind∧o.rep=f.rep∧o.packed=f.packed∧o.msg=f.msg):o=f:=by
 cases o;cases f;simp_all
theorem Aik {o f:Fld} (h:o.number=f.number→o.kind=f.kind→o.rep=f.rep→o.packed=f.packed→¬o.msg=f.msg):o≠f:=fun e=>by subst e;exact h rfl rfl rfl rfl rfl
theorem Xx {l:List Shp} {f:Fld} : ∀ {k m:Nat},k≤m→G1 l f k=true→G1 l f m=true
 |k,0,h,hk=>by rw[show k=0 by omega] at hk;exact hk
 |k,m+1,h,hk=>by
  by_cases e:k=m+1
  ·rw[←e];exact hk
  ·rw[G1,Xx (m:=m) (by omega) hk];rfl
theorem Aao {l:List Shp} {f:Fld} {k:Nat} (h:k<l.length) (hf:fieldAt l (k:Int) f.number=some f):known l f=true:=by
 have:G1 l f (k+1)=true:=by rw[G1,hf];simp
 exact Xx (show k+1≤l.length by omega) this
theorem Pr {l:List Shp} {f:Fld} {k:Nat} (h:G1 l f k=false) (hf:fieldAt l (k:Int) f.number≠some f):G1 l f (k+1)=false:=by
 rw[G1,h];simp[hf]
theorem Aes {l:List Shp} {f:Fld} {k:Nat} (h:G1 l f k=false) (hk:l.length=k):known l f=false:=by unfold known;rw[hk];exact h
theorem Aap {f:Fld} (h:f.number=0∧f.kind=0∧f.rep=false∧f.packed=false∧f.msg=0):f=fld0:=Aij h
def Rf (d:Dcd):Bool:=d.stack.all (F5 (d.plan.shapes.length:Int))&&(if d.mode=1 then decide ((d.stack.length:Int)=0) else if d.mode=9 then decide ((d.stack.length:Int)≤d.plan.deep) else Aq (d.stack.length:Int) 1 d.plan.deep&&decide (1≤Ef d))
def Apz (d:Dcd):Bool:=Aq d.scan.have_ 0 (B1 d-1)&&decide (Int.fdiv d.scan.bits (2 ^ min (Int.toNat (8*d.scan.have_)) 64)=0)&&decide (B1 d-d.scan.have_≤Re d)
def Adk (d:Dcd):Bool:=if d.mode=6∨d.mode=7∨d.mode=9 then decide (d.scan=scn0) else if d.mode=5 then Apz d else if d.mode=8 then (if B1 d=0 then Dx d.scan else Apz d) else Dx d.scan
def Vw (d:Dcd):Bool:=(decide (d.mode=3)&& !decide (d.wire=0))||(decide (d.mode=4)&& !decide (d.wire=2))||(decide (d.mode=5)&&decide (Az d.wire=0))
def Ab8 (d:Dcd):Bool:=B5 d.plan&&Aq d.mode 1 9&&Aq d.at_ 0 1000000000&&Aq d.start 0 d.at_&&Fe d.utf&&C7 d.wire&&(decide (d.field=fld0)||known d.plan.shapes d.field)&&Rf d&&Aan d&&Kb d&& !Vw d&& !(Aq d.mode 3 5&& !decide (d.field=fld0)&& !Cq d.field d.wire)&&(!decide (d.mode=6)||Hb d.field.kind)&&(!decide (d.mode=8)||Ta d.field)&&Adk d
theorem Aaq {d:Dcd} (h:d.stack=[]):Ef d=0:=by unfold Ef;rw[h];rfl
theorem Tq (w:Int):Az w=0∨Az w=4∨Az w=8:=by unfold Az;split<;>(try split)<;>omega
theorem Aim (d:Dcd):Ab8 d=Dr d:=by
 have hw:=Tq d.wire
 have hw2:=Tq (Br d.field.kind)
 by_cases hm:Aq d.mode 1 9=true
 ·have hm:=Av hm
  have hp:B5 d.plan=true→1≤d.plan.deep:=fun h=>(By h).2.2.2.2.1
  have ht:= @Aaq d
  obtain ⟨⟨sh,ro,de,mo⟩,m,st,sc,sa,a,f,w,wa,u,e⟩:=d
  simp only at hm hw hw2 hp ht
  have hs:(decide (st=[]):Bool)=decide ((st.length:Int)=0):=by cases st<;>simp<;>omega
  have hl: ∀x:Lev,(([]:List Lev).length:Int)=0:=fun _=>rfl
  rcases (show m=1∨m=2∨m=3∨m=4∨m=5∨m=6∨m=7∨m=8∨m=9 by omega) with rfl|rfl|rfl|rfl|rfl|rfl|rfl|rfl|rfl<;>
   rw[Bool.eq_iff_iff]<;>simp[Ab8,Dr,Bn,Rf,Lr,Vw,Adk,Apz,Lq,Kc,Anb,Kb,Re,B1,hs,Aq]<;>grind
 ·have hm:Aq d.mode 1 9=false:=by simpa using hm
  simp[Ab8,Dr,hm]
theorem Ap0 {e f:Ev} (h:e.kind=f.kind∧e.field=f.field∧e.bits=f.bits∧e.len=f.len∧e.text=f.text∧e.code=f.code∧e.at_=f.at_):e=f:=by cases e;cases f;simp_all
theorem Ak4 {e:Ev} (h:e.kind=(E8 e).kind∧e.field=(E8 e).field∧e.bits=(E8 e).bits∧e.len=(E8 e).len∧e.text=(E8 e).text∧e.code=(E8 e).code∧e.at_=(E8 e).at_):Vv e=true:=decide_eq_true (Ap0 h)
theorem Ts {e f:Ev} (h:E8 e=f):Vv e=(decide (e.kind=f.kind)&&(decide (e.field=f.field)&&(decide (e.bits=f.bits)&&(decide (e.len=f.len)&&(decide (e.text=f.text)&&(decide (e.code=f.code)&&decide (e.at_=f.at_))))))):=by
 subst h
 rw[Bool.eq_iff_iff]
 simp only[Bool.and_eq_true,decide_eq_true_eq]
 constructor
 ·intro h
  have h:e=E8 e:=of_decide_eq_true h
  exact⟨congrArg Ev.kind h,congrArg Ev.field h,congrArg Ev.bits h,congrArg Ev.len h,congrArg Ev.text h,congrArg Ev.code h,congrArg Ev.at_ h⟩
 ·exact fun h=>Ak4 h
structure Mac where
 d:Dcd
 out:List Ev
def Xy:Ev:=⟨5,0,0,0,[],0,0⟩
def Anc:Ev:=⟨7,0,0,0,[],0,0⟩
def Me:Ev:=⟨8,0,0,0,[],0,0⟩
def Ain (n:Int):Ev:=⟨1,0,0,n,[],0,0⟩
def Adm (f n:Int):Ev:=⟨6,f,0,n,[],0,0⟩
def Adn (f n:Int):Ev:=⟨3,f,0,n,[],0,0⟩
def Ado (b:Int):Ev:=⟨4,0,0,0,[Bv b],0,0⟩
def A8 (d:Dcd) (c a:Int):Dcd:=⟨d.plan,9,d.stack,⟨0,0⟩,d.start,d.at_,d.field,d.wire,0,d.utf,Aw c a⟩
def A7 (m:Mac) (c a:Int):Mac:=⟨A8 m.d c a,m.out++[Aw c a]⟩
def A9 (m:Mac):Option Mac:=
 if m.d.mode=6∧m.d.want<1 then
  (if 0<m.d.utf.want then some (A7 m 5 m.d.at_) else some ⟨⟨m.d.plan,2,m.d.stack,m.d.scan,m.d.start,m.d.at_,m.d.field,m.d.wire,0,⟨0,0,0⟩,m.d.end_⟩,m.out++[Xy]⟩)
 else if (m.d.mode=7∨(m.d.mode=8∧m.d.scan.have_=0))∧m.d.want<1 then some ⟨⟨m.d.plan,2,m.d.stack,m.d.scan,m.d.start,m.d.at_,m.d.field,m.d.wire,0,m.d.utf,m.d.end_⟩,m.out⟩
 else if m.d.mode=2∧m.d.scan.have_=0∧0<m.d.stack.length∧Ef m.d=0 then
  some (if m.d.stack.length=1 then ⟨⟨m.d.plan,1,m.d.stack.take (m.d.stack.length-1),m.d.scan,m.d.start,m.d.at_,m.d.field,m.d.wire,m.d.want,m.d.utf,m.d.end_⟩,m.out++[Me]⟩
   else ⟨⟨m.d.plan,m.d.mode,m.d.stack.take (m.d.stack.length-1),m.d.scan,m.d.start,m.d.at_,m.d.field,m.d.wire,m.d.want,m.d.utf,m.d.end_⟩,m.out++[Anc]⟩)
 else none
def wM (m:Mac):Nat:=m.d.stack.length+(if m.d.mode=6∨m.d.mode=7∨m.d.mode=8 then 2 else if m.d.mode=2 then 1 else 0)
theorem Cr {m q:Mac} (h:A9 m=some q):wM q<wM m∧q.out.length≤m.out.length+1:=by
 unfold A9 at h
 split at h
 ·rename_i h1
  split at h
  ·cases h;simp[wM,A7,A8,h1.1]
  ·cases h;simp[wM,h1.1]
 ·split at h
  ·rename_i h1
   cases h
   rcases h1.1 with h2|h2
   ·simp[wM,h2]
   ·simp[wM,h2.1]
  ·split at h
   ·rename_i h1
    cases h
    have:=h1.2.2.1
    split
    ·simp[wM,h1.1];omega
    ·simp[wM,h1.1];omega
   ·cases h
def Af (m:Mac):Mac:=match h:A9 m with
 |none=>m
 |some q=>Af q
termination_by wM m
decreasing_by exact(Cr h).1
theorem Da {m q:Mac} (h:A9 m=some q):Af m=Af q:=by
 rw[Af]
 split
 ·rename_i h1;rw[h] at h1;cases h1
 ·rename_i x h1;rw[h] at h1;cases h1;rfl
theorem Cm {m:Mac} (h:A9 m=none):Af m=m:=by
 rw[Af]
 split
 ·rfl
 ·rename_i x h1;rw[h] at h1;cases h1
def Db (m:Mac) (u:Int):Mac:=
 if m.d.plan.most<u then A7 m 7 m.d.start
 else Af ⟨⟨m.d.plan,2,[⟨m.d.plan.root,u⟩],⟨0,0⟩,m.d.start,m.d.at_,m.d.field,m.d.wire,m.d.want,m.d.utf,m.d.end_⟩,m.out++[Ain u]⟩
def Jj (d:Dcd):Lev:=d.stack.getD (d.stack.length-1) Aq3
def Fc (m:Mac) (u:Int):Mac:=
 if Gv u=false∨m.d.stack.length=0 then A7 m 2 m.d.start
 else if C7 (Ag u)=false then A7 m 3 m.d.start
 else if (fieldAt m.d.plan.shapes (Jj m.d).msg (Ba u)).isSome=true∧Cq ((fieldAt m.d.plan.shapes (Jj m.d).msg (Ba u)).getD fld0) (Ag u)=false then A7 m 4 m.d.start
 else if Ef m.d<max (Az (Ag u)) 1 then A7 ⟨⟨m.d.plan,m.d.mode,m.d.stack,⟨0,0⟩,m.d.start,m.d.at_,(fieldAt m.d.plan.shapes (Jj m.d).msg (Ba u)).getD fld0,Ag u,m.d.want,m.d.utf,m.d.end_⟩,m.out⟩ 9 m.d.at_
 else ⟨⟨m.d.plan,if Ag u=0 then 3 else if Ag u=2 then 4 else 5,m.d.stack,⟨0,0⟩,m.d.start,m.d.at_,(fieldAt m.d.plan.shapes (Jj m.d).msg (Ba u)).getD fld0,Ag u,m.d.want,m.d.utf,m.d.end_⟩,m.out⟩
def Cv (m:Mac) (u:Int):Mac:=
 if m.d.stack.length=0∨Ef m.d<u then A7 m 8 m.d.start
 else if m.d.field=fld0 then Af ⟨⟨m.d.plan,7,m.d.stack,⟨0,0⟩,m.d.start,m.d.at_,m.d.field,m.d.wire,u,m.d.utf,m.d.end_⟩,m.out⟩
 else if m.d.field.kind=8 then
  (if m.d.plan.deep≤(m.d.stack.length:Int) then A7 m 6 m.d.start
  else Af ⟨⟨m.d.plan,2,m.d.stack.set (m.d.stack.length-1) ⟨(Jj m.d).msg,Ef m.d-u⟩++[⟨m.d.field.msg,u⟩],⟨0,0⟩,m.d.start,m.d.at_,m.d.field,m.d.wire,0,m.d.utf,m.d.end_⟩,m.out++[Adm m.d.field.number u]⟩)
 else if Hb m.d.field.kind=true then Af ⟨⟨m.d.plan,6,m.d.stack,⟨0,0⟩,m.d.start,m.d.at_,m.d.field,m.d.wire,u,⟨0,0,0⟩,m.d.end_⟩,m.out++[Adn m.d.field.number u]⟩
 else if 0<u∧u<Az (Br m.d.field.kind) then A7 m 9 m.d.at_
 else Af ⟨⟨m.d.plan,8,m.d.stack,⟨0,0⟩,m.d.start,m.d.at_,m.d.field,m.d.wire,u,m.d.utf,m.d.end_⟩,m.out⟩
def Bz (m:Mac) (u:Int):Mac:=⟨⟨m.d.plan,if m.d.mode=8 then 8 else 2,m.d.stack,m.d.scan,m.d.start,m.d.at_,m.d.field,m.d.wire,m.d.want,m.d.utf,m.d.end_⟩,if m.d.field=fld0 then m.out else m.out++[D1 m.d.field u]⟩
def Kd (d:Dcd) (s:Scn):Dcd:=⟨d.plan,d.mode,d.stack,s,d.start,d.at_,d.field,d.wire,d.want,d.utf,d.end_⟩
def Aj (s:Scn) (b:Int):Scn×Int:=
 if Dx s=false∨Aq b 0 255=false∨(s.have_=9∧1<b) then (s,2)
 else (⟨s.bits+b % 128*2 ^ (7*s.have_.toNat),s.have_+1⟩,if b<128 then 1 else 0)
def B6 (s:Scn) (b:Int):Scn:=if Aq s.have_ 0 7=true∧Aq b 0 255=true then ⟨IntKind.u64.wrap (s.bits+IntKind.u64.wrap (b*2 ^ min (Int.toNat (8*s.have_)) 64)),s.have_+1⟩ else s
def Nb (d:Dcd) (a:Int):Dcd:=⟨d.plan,d.mode,d.stack,d.scan,if d.scan.have_=0∧(d.mode=1∨d.mode=2∨d.mode=4) then a else d.start,d.at_,d.field,d.wire,d.want,d.utf,d.end_⟩
def Aar (m q:Mac):Mac:=if (m.d.mode≠1∧Ef m.d=0)∨(m.d.mode=8∧m.d.want=0) then A7 q 9 m.d.at_ else q
def B0 (m:Mac) (b a:Int):Mac:=
 if (Aj m.d.scan b).2=2 then A7 ⟨Nb m.d a,m.out⟩ 1 a
 else if (Aj m.d.scan b).2=0 then Aar m ⟨Kd (Nb m.d a) (Aj m.d.scan b).1,m.out⟩
 else if m.d.mode=1 then Db ⟨Kd (Nb m.d a) scn0,m.out⟩ (Aj m.d.scan b).1.bits
 else if m.d.mode=2 then Fc ⟨Kd (Nb m.d a) scn0,m.out⟩ (Aj m.d.scan b).1.bits
 else if m.d.mode=4 then Cv ⟨Kd (Nb m.d a) scn0,m.out⟩ (Aj m.d.scan b).1.bits
 else Af (Bz ⟨Kd (Nb m.d a) scn0,m.out⟩ (Aj m.d.scan b).1.bits)
def D0 (m:Mac) (b:Int):Mac:=
 if (B6 m.d.scan b).have_<B1 m.d then ⟨Kd m.d (B6 m.d.scan b),m.out⟩
 else if m.d.mode=8∧0<m.d.want∧m.d.want<B1 m.d then A7 (Bz ⟨Kd m.d scn0,m.out⟩ (B6 m.d.scan b).bits) 9 m.d.at_
 else Af (Bz ⟨Kd m.d scn0,m.out⟩ (B6 m.d.scan b).bits)
def Aph (d:Dcd) (u:Utf):Dcd:=⟨d.plan,d.mode,d.stack,d.scan,d.start,d.at_,d.field,d.wire,d.want,u,d.end_⟩
def Fr (m:Mac) (b:Int):Mac:=
 if m.d.field.kind=6 then (match Bi m.d.utf b with
  |none=>A7 m 5 (m.d.at_-1)
  |some u=>Af ⟨Aph m.d u,m.out++[Ado b]⟩)
 else Af ⟨m.d,m.out++[Ado b]⟩
def Ek (d:Dcd):Dcd:=⟨d.plan,d.mode,if d.stack.length=0 then d.stack else d.stack.set (d.stack.length-1) ⟨(Jj d).msg,Ef d-1⟩,d.scan,d.start,d.at_+1,d.field,d.wire,if d.mode=6∨d.mode=7∨d.mode=8 then d.want-1 else d.want,d.utf,d.end_⟩
def Et (m:Mac) (b:Int):Mac:=
 if m.d.mode=6 then Fr ⟨Ek m.d,m.out⟩ b
 else if m.d.mode=7 then Af ⟨Ek m.d,m.out⟩
 else if 0<B1 m.d then D0 ⟨Ek m.d,m.out⟩ b
 else B0 ⟨Ek m.d,m.out⟩ b m.d.at_
theorem K6 {m q:Mac} (h:A9 m=some q):q.d.stack.length≤m.d.stack.length∧q.d.plan=m.d.plan:=by
 unfold A9 at h
 split at h
 ·split at h<;>(cases h;exact⟨Nat.le_refl _,rfl⟩)
 ·split at h
  ·cases h;exact⟨Nat.le_refl _,rfl⟩
  ·split at h
   ·cases h
    split<;>(refine⟨?_,rfl⟩;simp only[List.length_take];omega)
   ·cases h
theorem Xz (m:Mac):(Af m).out.length≤m.out.length+wM m:=by
 suffices ∀(k:Nat) (m:Mac),wM m≤k→(Af m).out.length≤m.out.length+wM m from this _ m (Nat.le_refl _)
 intro k
 induction k with
 |zero=>
  intro m hk
  cases h:A9 m with
  |none=>rw[Cm h];omega
  |some q=>have:=(Cr h).1;omega
 |succ k ih=>
  intro m hk
  cases h:A9 m with
  |none=>rw[Cm h];omega
  |some q=>
   have h1:=Cr h
   have:=ih q (by omega)
   rw[Da h];omega
theorem Agt (m:Mac):wM m≤m.d.stack.length+2:=by unfold wM;split<;>(try split)<;>omega
theorem Cb {d:Dcd} (h:Bn d=true):B5 d.plan=true∧(d.stack.length:Int)≤d.plan.deep∧d.stack.length≤8∧(∀l∈d.stack,F5 (d.plan.shapes.length:Int) l=true):=by
 simp only[Bn,Bool.and_eq_true,decide_eq_true_eq,List.all_eq_true] at h
 have:=By h.1.1
 exact⟨h.1.1,h.1.2,by omega,h.2⟩
theorem Jk {d:Dcd} (h1:B5 d.plan=true) (h2:(d.stack.length:Int)≤d.plan.deep) (h3: ∀l∈d.stack,F5 (d.plan.shapes.length:Int) l=true):Bn d=true:=by
 simp only[Bn,Bool.and_eq_true,decide_eq_true_eq,List.all_eq_true];exact⟨⟨h1,h2⟩,h3⟩
theorem Si {d e:Dcd} {u:Int} (h:Bn d=true) (hp:e.plan=d.plan) (hs:e.stack=[⟨d.plan.root,u⟩]) (h0:0≤u) (hu:u≤d.plan.most):Bn e=true:=by
 have hb:=Cb h
 have ht:=By hb.1
 refine Jk (by rw[hp];exact hb.1) (by rw[hs,hp];simp;omega) fun l hl=>?_
 rw[hs] at hl
 simp at hl
 subst hl
 rw[hp]
 simp[F5,Aq];omega
theorem Cj {d e:Dcd} (h:Bn d=true) (hp:e.plan=d.plan) (hs:e.stack=d.stack):Bn e=true:=by
 have hb:=Cb h
 exact Jk (by rw[hp];exact hb.1) (by rw[hs,hp];exact hb.2.1) (by rw[hs,hp];exact hb.2.2.2)
theorem Zp {l:List Shp} {f:Fld} (hl:Dt l=true): ∀ {k:Nat},G1 l f k=true→J0 f (l.length:Int)=true
 |0,h=>by cases h
 |k+1,h=>by
  simp only[G1,Bool.or_eq_true,decide_eq_true_eq] at h
  rcases h with h|h
  ·exact Zp hl h
  ·exact(Uu hl h).1
theorem Tt {d:Dcd} (h:d.stack.length≠0):Jj d∈d.stack:=by
 unfold Jj
 rw[List.getD_eq_getElem?_getD,List.getElem?_eq_getElem (by omega)]
 exact List.getElem_mem _
theorem Tu {d e:Dcd} {u:Int} (h:Bn d=true) (hk:known d.plan.shapes d.field=true) (h8:d.field.kind=8) (hn:d.stack.length≠0) (hd:(d.stack.length:Int)<d.plan.deep) (h0:0≤u) (hu:u≤Ef d) (hp:e.plan=d.plan)
  (hs:e.stack=d.stack.set (d.stack.length-1) ⟨(Jj d).msg,Ef d-u⟩++[⟨d.field.msg,u⟩]):Bn e=true:=by
 have hb:=Cb h
 have hf:=Aai (Zp (By hb.1).2.1 hk)
 have hm:=hf.2.2.2.2.1 h8
 have hl:=hb.2.2.2 _ (Tt hn)
 have ht:Ef d=(Jj d).left:=rfl
 simp only[F5,Bool.and_eq_true] at hl
 have hl1:=Av hl.1;have hl2:=Av hl.2
 refine Jk (by rw[hp];exact hb.1) (by rw[hs,hp];simp;omega) fun l hl=>?_
 rw[hs] at hl
 rw[hp]
 rcases List.mem_append.1 hl with hl|hl
 ·rcases List.mem_or_eq_of_mem_set hl with hl|hl
  ·exact hb.2.2.2 l hl
  ·subst hl;simp[F5,Aq];omega
 ·simp at hl;subst hl;simp[F5,Aq];omega
theorem H9 {d:Dcd} (h:Bn d=true):0≤Ef d∧Ef d≤2000:=by
 by_cases hn:d.stack.length=0
 ·rw[Aaq (List.eq_nil_of_length_eq_zero hn)];omega
 ·have hl:=(Cb h).2.2.2 _ (Tt hn)
  have ht:Ef d=(Jj d).left:=rfl
  simp only[F5,Bool.and_eq_true] at hl
  have:=Av hl.2;omega
theorem Kv {d:Dcd} {x:Lev} (h:d.stack[d.stack.length-1]? =some x):Jj d=x∧Ef d=x.left:=by
 have e:Jj d=x:=by unfold Jj;exact Sv h
 exact⟨e,by show (Jj d).left=_;rw[e]⟩
theorem Ane (u:Int):0≤Ag u∧Ag u≤7:=by unfold Ag;split<;>omega
theorem Wf {s:Scn} (h:Dx s=true) (h0:0≤s.bits):0≤s.have_∧s.have_≤9∧s.bits<2 ^ (7*s.have_.toNat):=by
 simp only[Dx,Bool.and_eq_true,decide_eq_true_eq] at h
 have hw:=Av h.1
 refine⟨hw.1,hw.2,?_⟩
 have h2:=h.2
 rw[show min (Int.toNat (7*s.have_)) 64=7*s.have_.toNat by omega] at h2
 have hp:(0:Int)<2 ^ (7*s.have_.toNat):=Int.pow_pos (by decide)
 rw[Int.fdiv_eq_ediv_of_nonneg _ (Int.le_of_lt hp)] at h2
 apply Int.not_le.1
 intro hle
 have:=Int.le_ediv_of_mul_le hp (show 1*2 ^ (7*s.have_.toNat)≤s.bits by rw[Int.one_mul];exact hle)
 omega
theorem Aet {c:Int} {h:Int} (h0:0≤h) (h9:h≤9) (c0:0≤c) (c1:c≤127) (hc:h=9→c≤1):0≤c*2 ^ (7*h.toNat)∧c*2 ^ (7*h.toNat)+2 ^ (7*h.toNat)≤18446744073709551616:=by
 obtain ⟨k,rfl⟩:=Int.eq_ofNat_of_zero_le h0
 have hk:k≤9:=by omega
 rw[Int.toNat_natCast]
 rcases (show k=0∨k=1∨k=2∨k=3∨k=4∨k=5∨k=6∨k=7∨k=8∨k=9 by omega) with rfl|rfl|rfl|rfl|rfl|rfl|rfl|rfl|rfl|rfl<;>simp at * <;>omega
theorem Tv {c h:Int} (h0:0≤h) (h9:h≤9) (c0:0≤c) (c1:c≤127) (hc:h=9→c≤1):(.v (.c (.int .u64 (IntKind.u64.wrap (c*2 ^ min (Int.toNat (7*h)) 64)))):S)= .v (.c (.int .u64 (c*2 ^ (7*h.toNat)))):=by
 have:=Aet h0 h9 c0 c1 hc
 have hp:(0:Int)<2 ^ (7*h.toNat):=Int.pow_pos (by decide)
 rw[show min (Int.toNat (7*h)) 64=7*h.toNat by omega]
 exact Bp Q2 Q2
theorem Aeu {u c h:Int} (h0:0≤h) (h9:h≤9) (c0:0≤c) (c1:c≤127) (hc:h=9→c≤1) (u0:0≤u) (u1:u<2 ^ (7*h.toNat)):(.v (.c (.int .u64 (IntKind.u64.wrap (((BitVec.ofInt 64 u|||BitVec.ofInt 64 (c*2 ^ (7*h.toNat))).toNat:Nat):Int)))):S)= .v (.c (.int .u64 (u+c*2 ^ (7*h.toNat)))):=by
 have:=Aet h0 h9 c0 c1 hc
 rw[Ahv (k:=7*h.toNat) (c:=c) u0 u1 c0 rfl (by omega)]
 exact Bp Q2 Q2
theorem Ab9 {u c h:Int} (h0:0≤h) (h9:h≤9) (c0:0≤c) (c1:c≤127) (hc:h=9→c≤1) (u0:0≤u) (u1:u<2 ^ (7*h.toNat)):(.v (.c (.int .u64 (IntKind.u64.wrap (u+c*2 ^ (7*h.toNat))))):S)= .v (.c (.int .u64 (u+c*2 ^ (7*h.toNat)))):=by
 have:=Aet h0 h9 c0 c1 hc
 exact Bp Q2 Q2
theorem U2 {s:Scn} {b:Int} (h0:0≤s.bits) (h1:s.bits≤18446744073709551615):0≤(Aj s b).1.bits∧(Aj s b).1.bits≤18446744073709551615:=by
 unfold Aj
 split
 ·exact⟨h0,h1⟩
 ·rename_i h
  simp only[not_or] at h
  have hs:Dx s=true:=by simpa using h.1
  have hb:=Av (show Aq b 0 255=true by simpa using h.2.1)
  have hk:=Wf hs h0
  have hc:=Aet (c:=b % 128) hk.1 hk.2.1 (by omega) (by omega) (fun h9=>by have:=h.2.2;omega)
  simp only;omega
structure MW (d:Dcd):Prop where
 lv:Bn d=true
 kn:d.field=fld0∨known d.plan.shapes d.field=true
 b0:0≤d.scan.bits∧d.scan.bits≤18446744073709551615
 at_:0≤d.at_∧d.at_≤1000000001
 want: -1≤d.want∧d.want≤2001
theorem Aca {s:Scn} {b:Int} (h0:0≤s.bits∧s.bits≤18446744073709551615):0≤(B6 s b).bits∧(B6 s b).bits≤18446744073709551615:=by
 unfold B6
 split
 ·simp only
  rw[IntKind.wrap_u64]
  have:=Int.emod_nonneg (s.bits+IntKind.u64.wrap (b*2 ^ min (Int.toNat (8*s.have_)) 64)) (show (18446744073709551616:Int)≠0 by decide)
  have:=Int.emod_lt_of_pos (s.bits+IntKind.u64.wrap (b*2 ^ min (Int.toNat (8*s.have_)) 64)) (show (0:Int)<18446744073709551616 by decide)
  omega
 ·exact h0
theorem MW.step {d:Dcd} (h:MW d) (hs:d.stack.length=0∨1≤Ef d) (ha:d.at_≤1000000000) (hw:(d.mode=6∨d.mode=7∨d.mode=8)→0≤d.want):MW (Ek d):=by
 have hb:=Cb h.lv
 refine⟨?_,h.kn,h.b0,?_,?_⟩
 ·refine Jk (d:=Ek d) hb.1 ?_ ?_
  ·show (((Ek d).stack.length:Nat):Int)≤d.plan.deep
   unfold Ek;simp only;split
   ·exact hb.2.1
   ·rw[List.length_set];exact hb.2.1
  ·intro l hl
   show F5 (d.plan.shapes.length:Int) l=true
   unfold Ek at hl
   simp only at hl
   split at hl
   ·exact hb.2.2.2 l hl
   ·rename_i hn
    rcases List.mem_or_eq_of_mem_set hl with hl|hl
    ·exact hb.2.2.2 l hl
    ·have hx:=hb.2.2.2 _ (Tt hn)
     have ht:Ef d=(Jj d).left:=rfl
     simp only[F5,Bool.and_eq_true] at hx
     have h1:=Av hx.1;have h2:=Av hx.2
     subst hl;simp[F5,Aq];omega
 ·have:=h.at_;show 0≤d.at_+1∧d.at_+1≤1000000001;omega
 ·have:=h.want
  show-1≤(if d.mode=6∨d.mode=7∨d.mode=8 then d.want-1 else d.want)∧(if d.mode=6∨d.mode=7∨d.mode=8 then d.want-1 else d.want)≤2001
  split
  ·rename_i hm;have:=hw hm;omega
  ·exact this
theorem Gn (m:Mac) (u:Int):(Bz m u).out.length≤m.out.length+1:=by
 unfold Bz
 simp only
 split<;>simp
theorem Tw (m:Mac) (u:Int):(Bz m u).d.at_=m.d.at_:=rfl
theorem Ps (m:Mac) (u:Int):(Bz m u).d.want=m.d.want:=rfl
def Ab (j0:Nat) (j5:Nat) (j27:Nat) (x:Mac):List C:=[.own j0,.int .i64 x.d.plan.root,.int .i64 x.d.plan.deep,.int .i64 x.d.plan.most,.int .i64 x.d.mode,.own j5,.int .u64 x.d.scan.bits,.int .i64 x.d.scan.have_,.int .i64 x.d.start,.int .i64 x.d.at_,.int .i64 x.d.field.number,.int .i64 x.d.field.kind,.bool x.d.field.rep,.bool x.d.field.packed,.int .i64 x.d.field.msg,.int .i64 x.d.wire,.int .i64 x.d.want,.int .i64 x.d.utf.want,.int .i64 x.d.utf.low,.int .i64 x.d.utf.high,.int .i64 x.d.end_.kind,.int .i64 x.d.end_.field,.int .u64 x.d.end_.bits,.int .i64 x.d.end_.len,.str x.d.end_.text,.int .i64 x.d.end_.code,.int .i64 x.d.end_.at_,.own j27]
def C8 (p:Pln):Dcd:=if B5 p=true then ⟨p,1,[],⟨0,0⟩,0,0,⟨0,0,false,false,0⟩,0,0,⟨0,0,0⟩,⟨0,0,0,0,[],0,0⟩⟩ else ⟨⟨[],0,0,0⟩,0,[],⟨0,0⟩,0,0,⟨0,0,false,false,0⟩,0,0,⟨0,0,0⟩,⟨0,0,0,0,[],0,0⟩⟩
theorem Em {l:List Shp} (h:Dt l=true): ∀e∈l,e.fields.length≤1048576:=fun e he=>by have:=Di h e he;omega
theorem Acb {m:Mac} (h1:m.d.mode=6) (h2:m.d.want<1) (h3:0<m.d.utf.want):Af m=A7 m 5 m.d.at_:=by
 have hc:A9 m=some (A7 m 5 m.d.at_):=by unfold A9;rw[if_pos ⟨h1,h2⟩,if_pos h3]
 rw[Da hc,Cm]
 unfold A9 A7 A8
 simp
theorem X0 {d:Dcd} {o:List Ev} (h2:d.mode=2) (hs:d.scan.have_=0) (hl:0<d.stack.length) (ht:Ef d=0) (h1:d.stack.length=1):A9 ⟨d,o⟩=some ⟨⟨d.plan,1,d.stack.take (d.stack.length-1),d.scan,d.start,d.at_,d.field,d.wire,d.want,d.utf,d.end_⟩,o++[Me]⟩:=by
 unfold A9
 simp only
 rw[if_neg (by omega),if_neg (by omega),if_pos ⟨h2,hs,hl,ht⟩,if_pos h1]
theorem X1 {d:Dcd} {o:List Ev} (h2:d.mode=2) (hs:d.scan.have_=0) (hl:0<d.stack.length) (ht:Ef d=0) (h1:d.stack.length≠1):A9 ⟨d,o⟩=some ⟨⟨d.plan,d.mode,d.stack.take (d.stack.length-1),d.scan,d.start,d.at_,d.field,d.wire,d.want,d.utf,d.end_⟩,o++[Anc]⟩:=by
 unfold A9
 simp only
 rw[if_neg (by omega),if_neg (by omega),if_pos ⟨h2,hs,hl,ht⟩,if_neg h1]
theorem Aio {d:Dcd} {o:List Ev} {u:Int} (h:d.mode=8) (hf:d.field≠fld0):Bz ⟨d,o⟩ u=⟨d,o++[D1 d.field u]⟩:=by
 cases d
 unfold Bz
 simp only at h hf ⊢
 rw[if_pos h,if_neg hf,h]
theorem Aip {d:Dcd} {o:List Ev} {u:Int} (h:d.mode=8) (hf:d.field=fld0):Bz ⟨d,o⟩ u=⟨d,o⟩:=by
 cases d
 unfold Bz
 simp only at h hf ⊢
 rw[if_pos h,if_pos hf,h]
theorem S6 {d:Dcd} (h:Dr d=true):Bn d=true∧(1≤d.mode∧d.mode≤9)∧(0≤d.at_∧d.at_≤1000000000)∧(0≤d.start∧d.start≤d.at_)∧Fe d.utf=true∧C7 d.wire=true∧(d.field=fld0∨known d.plan.shapes d.field=true)∧Aan d=true∧Lr d=true∧Kb d=true∧Kc d=true∧Lq d=true:=by
 simp only[Dr,Bool.and_eq_true,Bool.or_eq_true,decide_eq_true_eq] at h
 obtain ⟨⟨⟨⟨⟨⟨⟨⟨⟨⟨⟨h1,h2⟩,h3⟩,h4⟩,h5⟩,h6⟩,h7⟩,h8⟩,h9⟩,h10⟩,h11⟩,h12⟩:=h
 exact⟨h1,Av h2,Av h3,Av h4,h5,h6,h7,h8,h9,h10,h11,h12⟩
theorem Adp {d:Dcd} (h:Kb d=true):((d.mode=6∨d.mode=7∨d.mode=8)→1≤d.want∧d.want≤Ef d)∧(¬(d.mode=6∨d.mode=7∨d.mode=8)→d.want=0):=by
 unfold Kb at h
 split at h
 ·rename_i hm;exact⟨fun _=>Av h,fun h=>absurd hm h⟩
 ·rename_i hm;exact⟨fun h=>absurd h hm,fun _=>of_decide_eq_true h⟩
theorem Wg {d:Dcd} (h:Dr d=true) (hb:0≤d.scan.bits∧d.scan.bits≤18446744073709551615):MW d:=by
 obtain ⟨h1,h2,h3,h4,h5,h6,h7,h8,h9,h10,h11,h12⟩:=S6 h
 have ht:=H9 h1
 have hw:=Adp h10
 refine⟨h1,h7,hb,by omega,?_⟩
 by_cases hm:d.mode=6∨d.mode=7∨d.mode=8
 ·have:=hw.1 hm;omega
 ·have:=hw.2 hm;omega
theorem Wi {d:Dcd} (h:Dr d=true) (h9:d.mode≠9):(d.stack.length=0∨1≤Ef d)∧d.at_≤1000000000∧((d.mode=6∨d.mode=7∨d.mode=8)→0≤d.want)∧(d.mode=8→Ta d.field=true)∧d.end_=ev0:=by
 obtain ⟨h1,h2,h3,h4,h5,h6,h7,h8,hs,h10,h11,h12⟩:=S6 h
 have hw:=Adp h10
 refine⟨?_,by omega,fun hm=>by have:=hw.1 hm;omega,fun hm=>?_,?_⟩
 ·unfold Lr at hs
  by_cases hm1:d.mode=1
  ·rw[if_pos hm1] at hs;left;rw[of_decide_eq_true hs];rfl
  ·rw[if_neg hm1,if_neg h9] at hs;exact .inr (of_decide_eq_true hs)
 ·unfold Kc at h11
  rw[if_neg (by omega),if_pos hm] at h11
  exact h11
 ·unfold Aan at h8
  rw[if_neg h9] at h8
  exact of_decide_eq_true h8
def Eg (d:Dcd):Bool:= !decide (d.mode=9)&&decide (d.at_<1000000000)
def Cf (d:Dcd) (b:Int):Mac:=if Dr d=true∧Eg d=true∧Aq b 0 255=true then Et ⟨d,[]⟩ b else ⟨d,[]⟩
theorem Aoe {f:Fld} (h:Ta f=true):f≠fld0:=fun e=>by subst e;simp[Ta,fld0] at h
theorem Acc (m:Mac):(Af m).d.plan=m.d.plan∧(Af m).d.stack.length≤m.d.stack.length:=by
 suffices ∀(k:Nat) (m:Mac),wM m≤k→(Af m).d.plan=m.d.plan∧(Af m).d.stack.length≤m.d.stack.length from this _ m (Nat.le_refl _)
 intro k
 induction k with
 |zero=>
  intro m hk
  cases h:A9 m with
  |none=>rw[Cm h];exact⟨rfl,Nat.le_refl _⟩
  |some q=>have:=(Cr h).1;omega
 |succ k ih=>
  intro m hk
  cases h:A9 m with
  |none=>rw[Cm h];exact⟨rfl,Nat.le_refl _⟩
  |some q=>
   have h1:=Cr h
   have h2:=K6 h
   have h3:=ih q (by omega)
   rw[Da h]
   exact⟨h3.1.trans h2.2,Nat.le_trans h3.2 h2.1⟩
structure Gr (m q:Mac):Prop where
 plan:q.d.plan=m.d.plan
 stack:q.d.stack.length≤m.d.stack.length+1
 out:q.out.length≤m.out.length+m.d.stack.length+6
theorem Gr.fail (m:Mac) (c a:Int):Gr m (A7 m c a):=⟨rfl,Nat.le_succ _,by simp only[A7,List.length_append,List.length_cons,List.length_nil];omega⟩
theorem Gr.settle {m x:Mac} (hp:x.d.plan=m.d.plan) (hs:x.d.stack.length≤m.d.stack.length+1) (ho:x.out.length≤m.out.length+2):Gr m (Af x):=by
 have h1:=Acc x
 have h2:=Xz x
 have h3:=Agt x
 exact⟨h1.1.trans hp,by omega,by omega⟩
theorem Gr.of {m x q:Mac} (h:Gr x q) (hp:x.d.plan=m.d.plan) (hs:x.d.stack.length=m.d.stack.length) (ho:x.out.length=m.out.length):Gr m q:=⟨h.plan.trans hp,by have:=h.stack;omega,by have:=h.out;omega⟩
theorem Aiq (m:Mac) (u:Int):Gr m (Db m u):=by
 unfold Db
 split
 ·exact Gr.fail _ _ _
 ·exact Gr.settle rfl (by simp) (by simp)
theorem Aof (m:Mac) (u:Int):Gr m (Fc m u):=by
 unfold Fc
 split
 ·exact Gr.fail _ _ _
 ·split
  ·exact Gr.fail _ _ _
  ·split
   ·exact Gr.fail _ _ _
   ·split
    ·exact(Gr.fail _ _ _).of rfl rfl rfl
    ·exact⟨rfl,Nat.le_succ _,by simp only;omega⟩
theorem Ak5 (m:Mac) (u:Int):Gr m (Cv m u):=by
 unfold Cv
 split
 ·exact Gr.fail _ _ _
 ·split
  ·exact Gr.settle rfl (Nat.le_succ _) (by simp)
  ·split
   ·split
    ·exact Gr.fail _ _ _
    ·exact Gr.settle rfl (by simp) (by simp)
   ·split
    ·exact Gr.settle rfl (Nat.le_succ _) (by simp)
    ·split
     ·exact Gr.fail _ _ _
     ·exact Gr.settle rfl (Nat.le_succ _) (by simp)
theorem Aog (m:Mac) (b a:Int):Gr m (B0 m b a):=by
 unfold B0
 split
 ·exact(Gr.fail _ _ _).of rfl rfl rfl
 ·split
  ·unfold Aar
   split
   ·exact(Gr.fail _ _ _).of rfl rfl rfl
   ·exact⟨rfl,Nat.le_succ _,by simp only;omega⟩
  ·split
   ·exact(Aiq _ _).of rfl rfl rfl
   ·split
    ·exact(Aof _ _).of rfl rfl rfl
    ·split
     ·exact(Ak5 _ _).of rfl rfl rfl
     ·exact Gr.settle rfl (Nat.le_succ _) (Nat.le_trans (Gn _ _) (Nat.le_succ _))
theorem Aoh (m:Mac) (b:Int):Gr m (D0 m b):=by
 unfold D0
 split
 ·exact⟨rfl,Nat.le_succ _,by simp only;omega⟩
 ·split
  ·have:=Gn ⟨Kd m.d scn0,m.out⟩ (B6 m.d.scan b).bits
   exact⟨rfl,Nat.le_succ _,by simp only[A7,List.length_append,List.length_cons,List.length_nil] at this ⊢;omega⟩
  ·exact Gr.settle rfl (Nat.le_succ _) (Nat.le_trans (Gn _ _) (Nat.le_succ _))
theorem Ak6 (m:Mac) (b:Int):Gr m (Fr m b):=by
 unfold Fr
 split
 ·split
  ·exact Gr.fail _ _ _
  ·exact Gr.settle rfl (Nat.le_succ _) (by simp)
 ·exact Gr.settle rfl (Nat.le_succ _) (by simp)
theorem Ls (d:Dcd):(Ek d).stack.length=d.stack.length:=by unfold Ek;simp only;split<;>simp
theorem Ak7 (m:Mac) (b:Int):Gr m (Et m b):=by
 unfold Et
 split
 ·exact(Ak6 _ _).of rfl (Ls _) rfl
 ·split
  ·exact Gr.settle rfl (by show (Ek m.d).stack.length≤_;rw[Ls];omega) (by simp)
  ·split
   ·exact(Aoh _ _).of rfl (Ls _) rfl
   ·exact(Aog _ _ _).of rfl (Ls _) rfl
theorem Aas (d:Dcd) (b:Int):Gr ⟨d,[]⟩ (Cf d b):=by
 unfold Cf
 split
 ·exact Ak7 _ _
 ·exact⟨rfl,Nat.le_succ _,by simp⟩
theorem Aga {d:Dcd} {b:Int} :(Cf d b).d.plan=d.plan∧(Cf d b).d.stack.length≤d.stack.length+1:=⟨(Aas d b).plan,(Aas d b).stack⟩
theorem Air {d:Dcd} {b:Int} :(Cf d b).out.length≤d.stack.length+6:=by have:=(Aas d b).out;simp only[List.length_nil] at this;omega
theorem Ep (d:Dcd) (hp1:List.length (d).stack≤Be):Fun Tryz.prog 85 [.agg (Cd d)] [] (.v (vI (Ef d))) []:=by
 have hN:Be=274877906944:=rfl
 refine Ar Tryz.func85 Q4 Q4 (w:=let z1:=((List.length d.stack:Nat):Int);(.br (.leaf () []) (.seg [.as 12 (.v (vI (z1-1)))] (.intro (fun (x1:Lev)=>d.stack[Int.toNat (z1-1)]? =some x1) fun x1=> .seg [.el .lev x1] (.leaf () []))),((decide (z1=0))=true→(.v (vI 0):S)= .v (vI (Ef d))∧([]:List Blk)=[])∧((decide (z1=0))=false→((.v (vI (IntKind.i64.wrap (z1-1))):S)= .v (vI (z1-1)))∧(∃(x1:Lev),d.stack[Int.toNat (z1-1)]? =some x1)∧∀(x1:Lev),(d.stack[Int.toNat (z1-1)]? =some x1)→((d.stack[Int.toNat (z1-1)]? =some x1)∧((0:Int)≤z1-1)∧(.v (vI x1.left):S)= .v (vI (Ef d))∧([]:List Blk)=[])))) Q4 ?_
 refine dsp (fun h1 p1=>?_) fun h1 p1=>?_
 refine⟨(sI ?_),rfl⟩
 rotate_left
 refine⟨(Ac Q2 Q2),(Bq (l:=d.stack) (i:=Int.toNat (((List.length d.stack:Nat):Int)-1)) Q2),fun x1 hx1=>?_⟩
 have htop:Ef d=x1.left:=by unfold Ef;rw[Sv (by rw[←hx1];congr 1;omega)]
 refine⟨hx1,Q2,(sI ?_),rfl⟩
 rotate_left
 all_goals first|(exact htop.symm)|((unfold Ef;rw[List.eq_nil_of_length_eq_zero (by omega:List.length d.stack=0)];rfl))|(grind)
theorem P5 (d:Dcd) (hp1:List.length (d).stack≤Be):Fun Tryz.prog 73 [.agg (Cd d)] [] (.v (vI (Ef d))) []:=by
 have hN:Be=274877906944:=rfl
 refine Ar Tryz.func73 Q4 Q4 (w:=let z1:=((List.length d.stack:Nat):Int);(.br (.leaf () []) (.seg [.as 12 (.v (vI (z1-1)))] (.intro (fun (x1:Lev)=>d.stack[Int.toNat (z1-1)]? =some x1) fun x1=> .seg [.el .lev x1] (.leaf () []))),((decide (z1=0))=true→(.v (vI 0):S)= .v (vI (Ef d))∧([]:List Blk)=[])∧((decide (z1=0))=false→((.v (vI (IntKind.i64.wrap (z1-1))):S)= .v (vI (z1-1)))∧(∃(x1:Lev),d.stack[Int.toNat (z1-1)]? =some x1)∧∀(x1:Lev),(d.stack[Int.toNat (z1-1)]? =some x1)→((d.stack[Int.toNat (z1-1)]? =some x1)∧((0:Int)≤z1-1)∧(.v (vI x1.left):S)= .v (vI (Ef d))∧([]:List Blk)=[])))) Q4 ?_
 refine dsp (fun h1 p1=>?_) fun h1 p1=>?_
 refine⟨(sI ?_),rfl⟩
 rotate_left
 refine⟨(Ac Q2 Q2),(Bq (l:=d.stack) (i:=Int.toNat (((List.length d.stack:Nat):Int)-1)) Q2),fun x1 hx1=>?_⟩
 have htop:Ef d=x1.left:=by unfold Ef;rw[Sv (by rw[←hx1];congr 1;omega)]
 refine⟨hx1,Q2,(sI ?_),rfl⟩
 rotate_left
 all_goals first|(exact htop.symm)|((unfold Ef;rw[List.eq_nil_of_length_eq_zero (by omega:List.length d.stack=0)];rfl))|(grind)
theorem Ais (p:Pln) (k:Int) (hp1:List.length (p).shapes≤Be):Fun Tryz.prog 184 [.agg (Ex p),vI k] [] (.v (vB (Aq k 0 (((List.length (p).shapes:Nat):Int)-1)))) []:=by
 have hN:Be=274877906944:=rfl
 refine Ar Tryz.func184 Q4 Q4 (w:=let z1:=((List.length p.shapes:Nat):Int)-1;let z2:=vB (Aq k 0 z1);(.seg [.as 10 (.v (vI z1)),.call [] (.v z2) []] (.leaf () []),((.v (vI (IntKind.i64.wrap z1)):S)= .v (vI z1))∧(Fun Tryz.prog 79 [vI k,vI 0,vI z1] [] (.v z2) [])∧(.v z2:S)= .v (vB (Aq k 0 (((List.length (p).shapes:Nat):Int)-1)))∧([]:List Blk)=[])) Q4 ?_
 exact⟨(Ac Q2 Q2),(Ch _ _ _),(congrArg S.v (congrArg V.c (congrArg C.bool (by rfl)))),rfl⟩
theorem Ait (p:Pln) (l:Lev) (hp1:List.length (p).shapes≤Be):Fun Tryz.prog 139 [.agg (Ex p),.agg (Aqu l)] [] (.v (vB (F5 ((List.length (p).shapes:Nat):Int) l))) []:=by
 have hN:Be=274877906944:=rfl
 refine Ar Tryz.func139 Q4 Q4 (w:=let z1:=((List.length (p).shapes:Nat):Int);let z2:=Aq l.msg 0 (z1-1);let z3:=vB (Aq l.left 0 2000);(.seg [.call [] (.v (vB z2)) []] (.br (.seg [.call [] (.v z3) []] (.leaf () [])) (.leaf () [])),(Fun Tryz.prog 184 [.agg (Ex p),vI l.msg] [] (.v (vB z2)) [])∧(z2=true→(Fun Tryz.prog 79 [vI l.left,vI 0,vI 2000] [] (.v z3) [])∧(.v z3:S)= .v (vB (F5 z1 l))∧([]:List Blk)=[])∧(z2=false→(.v (vB false):S)= .v (vB (F5 z1 l))∧([]:List Blk)=[]))) Q4 ?_
 refine⟨(Ais p _ Q2),fun h1=>have p1:=Av h1;?_,fun h1=>have p1:=A4 h1;?_⟩
 refine⟨(Ch _ _ _),(sB ?_),rfl⟩
 rotate_left
 refine⟨(sB ?_),rfl⟩
 rotate_left
 all_goals first|(simp[F5, *];done)|(simp_all[F5];done)|(grind[F5])
theorem Ak8 (l:Lev) (d:Dcd) (hp1:List.length (d).plan.shapes≤Be):Fun Tryz.prog 138 [.agg (Aqu l),vP 0] [.cells (Cd d)] (.v (vB (!F5 ((List.length (d).plan.shapes:Nat):Int) l))) [.cells (Cd d)]:=by
 have hN:Be=274877906944:=rfl
 refine Ar Tryz.func138 Q4 Q4 (w:=let z1:=F5 ((List.length (d.plan).shapes:Nat):Int) l;(.seg [.call [] (.v (vB z1)) []] (.leaf () [0]),(Fun Tryz.prog 139 [.agg (Ex d.plan),.agg (Aqu l)] [] (.v (vB z1)) [])∧(.v (vB (!z1)):S)= .v (vB (!F5 ((List.length (d).plan.shapes:Nat):Int) l))∧([.cells (Cd d)]:List Blk)=[.cells (Cd d)])) Q4 ?_
 exact⟨(Ait d.plan l Q2),(congrArg S.v (congrArg V.c (congrArg C.bool (by rfl)))),rfl⟩
structure Tx where
 v:Nat
def Ty (s:List Lev) (d:Dcd):Fam:=⟨Tx,fun q1=>[(0,.v (.c (.seq .lev s))),(1,.v (.c (.fn 138 [0]))),(7,.v (vI ((List.length s:Nat):Int))),(8,.v (vI ((q1.v:Nat):Int)))],fun _=>[.cells (Cd d)],fun q1=>q1.v≤List.length s∧Yr (List.length d.plan.shapes:Int) (List.drop q1.v s)+q1.v=Yr (List.length d.plan.shapes:Int) s,fun q1=>List.length s-q1.v⟩
theorem Ap1 (s:List Lev) (d:Dcd) (hp1:List.length (d).plan.shapes≤Be) (hp2:List.length s≤Be):Fun Tryz.prog 183 [.c (.seq .lev s),.c (.fn 138 [0])] [.cells (Cd d)] (.v (vI (Lo ((List.length (d).plan.shapes:Nat):Int) s))) [.cells (Cd d)]:=by
 have hN:Be=274877906944:=rfl
 refine Ar Tryz.func183 Q4 Q4 (w:=let z3:=((List.length (d).plan.shapes:Nat):Int);let z4:List Blk:=[.cells (Cd d)];let z5:=((List.length s:Nat):Int);let z6:=Ty s d;(.seg [.at 0,.keep [0,1,7,8],.sel [0]] (.loop z6 fun q1=> .br (.intro (fun (x1:Lev)=>s[q1.v]? =some x1) fun x1=> .seg [.el .lev x1,.call [0] (.v (vB (!F5 z3 x1))) z4] (.br (.leaf () [0]) (.seg [.as 18 (.v (vI (((q1.v:Nat):Int)+1))),.at 0,.keep [0,1,7,8],.sel [0]] (.next)))) (.leaf () [0])),z6.Has [(0,.v (.c (.seq .lev s))),(1,.v (.c (.fn 138 [0]))),(7,.v (vI z5)),(8,.v (vI 0))] z4∧∀q1,z6.inv q1→(let z2:=((q1.v:Nat):Int);((decide (z2<z5))=true→(∃(x1:Lev),s[q1.v]? =some x1)∧∀(x1:Lev),(s[q1.v]? =some x1)→(let z1:= !F5 z3 x1;(s[q1.v]? =some x1)∧((0:Int)≤z2)∧(Fun Tryz.prog 138 [.agg (Aqu x1),vP 0] z4 (.v (vB z1)) z4)∧(z1=true→(.v (vI z2):S)= .v (vI (Lo z3 s))∧(z4:List Blk)=z4)∧(z1=false→((.v (vI (IntKind.i64.wrap (z2+1))):S)= .v (vI (z2+1)))∧z6.Nxt q1 [(0,.v (.c (.seq .lev s))),(1,.v (.c (.fn 138 [0]))),(7,.v (vI z5)),(8,.v (vI (z2+1)))] z4)))∧((decide (z2<z5))=false→(.v (vI (-1)):S)= .v (vI (Lo z3 s))∧(z4:List Blk)=z4)))) Q4 ?_
 refine⟨Bs (j:=(⟨0⟩:Tx)) Q9 rfl (by dsimp only[Ty];exact⟨by omega,rfl⟩),fun (q1:Tx) hq_q1=>?_⟩
 have hi_q1:q1.v≤List.length s∧Yr (List.length d.plan.shapes:Int) (List.drop q1.v s)+q1.v=Yr (List.length d.plan.shapes:Int) s:=hq_q1
 obtain ⟨v1,v3⟩:=hi_q1
 refine dsp (fun h1 p1=>?_) fun h1 p1=>?_
 refine⟨(Bq (l:=s) (i:=q1.v) Q2),fun x1 hx1=>?_⟩
 rw[Er hx1,Tp] at v3
 have hll:=congrArg List.length (Er hx1)
 rw[List.length_drop,List.length_cons,List.length_drop] at hll
 refine⟨hx1,Q2,(Ak8 x1 d Q2),fun h2=>have q2:=Ap h2;?_,fun h2=>have q2:=Ao h2;?_⟩
 rw[if_neg (by simp[q2])] at v3
 have hbl:Lo (List.length d.plan.shapes:Int) s=q1.v:=by unfold Lo;rw[if_neg (by omega)];omega
 refine⟨(sI ?_),rfl⟩
 rotate_left
 rw[if_pos q2] at v3
 exact⟨(Ac Q2 Q2),Bc (j:=(⟨q1.v+1⟩:Tx)) Q9 rfl (by dsimp only[Ty];exact⟨by omega,by omega⟩) (by dsimp only[Ty];omega)⟩
 rw[List.drop_eq_nil_of_le (by omega)] at v3
 simp only[Yr] at v3
 have hbl:Lo (List.length d.plan.shapes:Int) s= -1:=by unfold Lo;rw[if_pos (by omega)]
 refine⟨(sI ?_),rfl⟩
 rotate_left
 all_goals first|(exact hbl.symm)|(grind)
theorem Ap2 (s:List Lev) (d:Dcd) (hp1:List.length (d).plan.shapes≤Be) (hp2:List.length s≤Be):Fun Tryz.prog 137 [.c (.seq .lev s),.c (.fn 138 [0])] [.cells (Cd d)] (.v (vB (decide (0≤Lo ((List.length (d).plan.shapes:Nat):Int) s)))) [.cells (Cd d)]:=by
 have hN:Be=274877906944:=rfl
 refine Ar Tryz.func137 Q4 Q4 (w:=let z1:=((List.length (d).plan.shapes:Nat):Int);let z2:List Blk:=[.cells (Cd d)];(.seg [.call [0] (.v (vI (Lo z1 s))) z2] (.leaf () [0]),(Fun Tryz.prog 183 [.c (.seq .lev s),.c (.fn 138 [0])] z2 (.v (vI (Lo z1 s))) z2)∧(.v (vB (decide (0≤Lo z1 s))):S)= .v (vB (decide (0≤Lo z1 s)))∧(z2:List Blk)=z2)) Q4 ?_
 exact⟨(Ap1 _ d Q2 Q2),rfl,rfl⟩
theorem Zq (d:Dcd) (hp1:List.length (d).stack≤Be) (hp2:List.length (d).plan.shapes≤Be):Fun Tryz.prog 78 [.agg (Cd d)] [] (.v (vB (Bn d))) []:=by
 have hN:Be=274877906944:=rfl
 refine Ar Tryz.func78 Q4 Q4 (w:=let z1:=decide (0≤Lo ((List.length (d).plan.shapes:Nat):Int) d.stack);let z2:=decide (((List.length d.stack:Nat):Int)≤d.plan.deep);let z3:=B5 d.plan;(.seg [.call [] (.v (vB z3)) []] (.br (.br (.seg [.call [0] (.v (vB z1)) [.cells (Cd d)]] (.leaf () [])) (.leaf () [])) (.leaf () [])),(Fun Tryz.prog 48 [.agg (Ex d.plan)] [] (.v (vB z3)) [])∧(z3=true→(z2=true→(Fun Tryz.prog 137 [.c (.seq .lev d.stack),.c (.fn 138 [0])] [.cells (Cd d)] (.v (vB z1)) [.cells (Cd d)])∧(.v (vB (!z1)):S)= .v (vB (Bn d))∧([]:List Blk)=[])∧(z2=false→(.v (vB false):S)= .v (vB (Bn d))∧([]:List Blk)=[]))∧(z3=false→(.v (vB false):S)= .v (vB (Bn d))∧([]:List Blk)=[]))) Q4 ?_
 refine⟨(Aam d.plan),fun h1=>have p1:=By h1;?_,fun h1=>?_⟩
 refine dsp (fun h2 p2=>?_) fun h2 p2=>?_
 refine⟨(Ap2 _ d Q2 Q2),(sB ?_),rfl⟩
 rotate_left
 refine⟨(sB ?_),rfl⟩
 rotate_left
 refine⟨(sB ?_),rfl⟩
 rotate_left
 all_goals first|(simp_all[Bn];done)|((unfold Bn;rw[Pp];grind[Lo]))|(grind[Bn,Lo,Pp])
theorem Tz (k:Int):Fun Tryz.prog 141 [vI k] [] (.v (vB (Pq k))) []:=by
 have hN:Be=274877906944:=rfl
 refine Ar Tryz.func141 Q4 Q4 (w:=let z1:=vB (Aq k 1 10);(.seg [.call [] (.v z1) []] (.leaf () []),(Fun Tryz.prog 79 [vI k,vI 1,vI 10] [] (.v z1) [])∧(.v z1:S)= .v (vB (Pq k))∧([]:List Blk)=[])) Q4 ?_
 exact⟨(Ch _ _ _),(congrArg S.v (congrArg V.c (congrArg C.bool (by rfl)))),rfl⟩
theorem Aat (e:Ev):Fun Tryz.prog 142 [.agg (cEv e)] [] (.v (.agg (cEv (E8 e)))) []:=by
 have hN:Be=274877906944:=rfl
 refine Ar Tryz.func142 Q4 Q4 (w:=let zi:Int→C:= .int .i64;let z1:List C:=[.int .u64 0,zi e.len,.str [],zi 0,zi 0];let z2:=cEv (E8 e);let z3:=([]:List Blk);let z4:=(.v (.agg (zi e.kind::zi e.field::z1)):S);let z5:=decide (e.kind=3);let z6:=os 8 [5,7];(.br (.leaf () []) (.br (.seg [.ord z6 [2]] (.leaf () [])) (.br (.seg [.br true,.ord z6 [2]] (.leaf () [])) (.br (.seg [.ord z6 [2]] (.leaf () [])) (.br (.leaf () []) (.br (.leaf () []) (.br (.seg [.ord z6 [2]] (.leaf () [])) (.leaf () []))))))),((decide (e.kind=1))=true→(.v (.agg (zi e.kind::zi 0::z1)):S)= .v (.agg z2)∧z3=[])∧((decide (e.kind=1))=false→((decide (e.kind=2))=true→(.v (.agg [zi e.kind,zi e.field,.int .u64 e.bits,zi 0,.str [],zi 0,zi 0]):S)= .v (.agg z2)∧z3=[])∧((decide (e.kind=2))=false→(z5=true→(z5=true)∧z4= .v (.agg z2)∧z3=[])∧(z5=false→((decide (e.kind=6))=true→z4= .v (.agg z2)∧z3=[])∧((decide (e.kind=6))=false→((decide (e.kind=4))=true→(.v (.agg [zi e.kind,zi 0,.int .u64 0,zi 0,.str e.text,zi 0,zi 0]):S)= .v (.agg z2)∧z3=[])∧((decide (e.kind=4))=false→((decide (e.kind=9))=true→(.v (.agg [zi e.kind,zi 0,.int .u64 0,zi 0,.str [],zi 0,zi e.at_]):S)= .v (.agg z2)∧z3=[])∧((decide (e.kind=9))=false→((decide (e.kind=10))=true→(.v (.agg [zi e.kind,zi 0,.int .u64 0,zi 0,.str [],zi e.code,zi e.at_]):S)= .v (.agg z2)∧z3=[])∧((decide (e.kind=10))=false→(.v (.agg [zi e.kind,zi 0,.int .u64 0,zi 0,.str [],zi 0,zi 0]):S)= .v (.agg z2)∧z3=[]))))))))) Q4 ?_
 refine dsp (fun h1 p1=>?_) fun h1 p1=>?_
 refine have hm1:E8 e=(⟨e.kind,0,0,e.len,[],0,0⟩:Ev):=?_;?_
 rotate_left
 exact⟨Q5,rfl⟩
 refine dsp (fun h2 p2=>?_) fun h2 p2=>?_
 refine have hm1:E8 e=(⟨e.kind,e.field,e.bits,0,[],0,0⟩:Ev):=?_;?_
 rotate_left
 exact⟨Q5,rfl⟩
 refine dsp (fun h3 p3=>?_) fun h3 p3=>?_
 refine⟨h3,?_⟩
 refine have hm1:E8 e=(⟨e.kind,e.field,0,e.len,[],0,0⟩:Ev):=?_;?_
 rotate_left
 exact⟨Q5,rfl⟩
 refine dsp (fun h4 p4=>?_) fun h4 p4=>?_
 refine have hm1:E8 e=(⟨e.kind,e.field,0,e.len,[],0,0⟩:Ev):=?_;?_
 rotate_left
 exact⟨Q5,rfl⟩
 refine dsp (fun h5 p5=>?_) fun h5 p5=>?_
 refine have hm1:E8 e=(⟨e.kind,0,0,0,e.text,0,0⟩:Ev):=?_;?_
 rotate_left
 exact⟨Q5,rfl⟩
 refine dsp (fun h6 p6=>?_) fun h6 p6=>?_
 refine have hm1:E8 e=(⟨e.kind,0,0,0,[],0,e.at_⟩:Ev):=?_;?_
 rotate_left
 exact⟨Q5,rfl⟩
 refine dsp (fun h7 p7=>?_) fun h7 p7=>?_
 refine have hm1:E8 e=(⟨e.kind,0,0,0,[],e.code,e.at_⟩:Ev):=?_;?_
 rotate_left
 exact⟨Q5,rfl⟩
 refine have hm1:E8 e=(⟨e.kind,0,0,0,[],0,0⟩:Ev):=?_;?_
 rotate_left
 exact⟨Q5,rfl⟩
 all_goals first|(simp_all[E8];done)|(grind[E8])
theorem Zr (e:Ev):Fun Tryz.prog 84 [.agg (cEv e)] [] (.v (vB (F3 e))) []:=by
 have hN:Be=274877906944:=rfl
 refine Ar Tryz.func84 Q4 Q4 (w:=(.br (.leaf () []) (.leaf () []),((decide (e.kind=9))=true→(.v (vB true):S)= .v (vB (F3 e))∧([]:List Blk)=[])∧((decide (e.kind=9))=false→(.v (vB (decide (e.kind=10))):S)= .v (vB (F3 e))∧([]:List Blk)=[]))) Q4 ?_
 refine dsp (fun h1 p1=>?_) fun h1 p1=>?_
 refine⟨(sB ?_),rfl⟩
 rotate_left
 refine⟨(sB ?_),rfl⟩
 rotate_left
 all_goals first|(simp_all[F3];done)|(grind[F3])
theorem Agb (e:Ev):Fun Tryz.prog 72 [.agg (cEv e)] [] (.v (vB (F3 e))) []:=by
 have hN:Be=274877906944:=rfl
 refine Ar Tryz.func72 Q4 Q4 (w:=(.br (.leaf () []) (.leaf () []),((decide (e.kind=9))=true→(.v (vB true):S)= .v (vB (F3 e))∧([]:List Blk)=[])∧((decide (e.kind=9))=false→(.v (vB (decide (e.kind=10))):S)= .v (vB (F3 e))∧([]:List Blk)=[]))) Q4 ?_
 refine dsp (fun h1 p1=>?_) fun h1 p1=>?_
 refine⟨(sB ?_),rfl⟩
 rotate_left
 refine⟨(sB ?_),rfl⟩
 rotate_left
 all_goals first|(simp_all[F3];done)|(grind[F3])
theorem Acd (e:Ev):Fun Tryz.prog 83 [.agg (cEv e)] [] (.v (vB (Kj e))) []:=by
 have hN:Be=274877906944:=rfl
 refine Ar Tryz.func83 Q4 Q4 (w:=let z2:=Pq e.kind;let z3:=vB (Kj e);let z4:=E8 e;let z1:= !(decide (e.kind=z4.kind)&&(decide (e.field=z4.field)&&(decide (e.bits=z4.bits)&&(decide (e.len=z4.len)&&(decide (e.text=z4.text)&&(decide (e.code=z4.code)&&decide (e.at_=z4.at_)))))));let z5:=([]:List Blk);let z6:=decide (e.len<0);let z7:=vB (Aq e.field 1 536870911);let z8:=(.v (vB false):S);let z9:=F1 e.kind;let z10:=os 21 [2,7];(.case (!z2) (.seg [.ord z10 [],.call [] (.v (vB z2)) [],.br true] (.leaf () [])) (.case z1 (.seg [.ord z10 [],.call [] (.v (vB z2)) [],.br false,.call [] (.v (.agg (cEv z4))) [],.br true] (.leaf () [])) (.case z6 (.seg [.ord z10 [],.call [] (.v (vB z2)) [],.br false,.call [] (.v (.agg (cEv z4))) [],.br false,.br true] (.leaf () [])) (.seg [.ord z10 [],.call [] (.v (vB z2)) [],.br false,.call [] (.v (.agg (cEv z4))) [],.br false,.br false] (.br (.leaf () []) (.seg [.call [] (.v (vB z9)) []] (.br (.seg [.call [] (.v z7) []] (.leaf () [])) (.br (.leaf () []) (.br (.leaf () []) (.leaf () []))))))))),((!z2)=true→(Fun Tryz.prog 141 [vI e.kind] [] (.v (vB z2)) [])∧((!z2)=true)∧z8= .v z3∧z5=[])∧((!z2)=false→(z1=true→(Fun Tryz.prog 141 [vI e.kind] [] (.v (vB z2)) [])∧((!z2)=false)∧(Fun Tryz.prog 142 [.agg (cEv e)] [] (.v (.agg (cEv z4))) [])∧(z1=true)∧z8= .v z3∧z5=[])∧(z1=false→(z6=true→(Fun Tryz.prog 141 [vI e.kind] [] (.v (vB z2)) [])∧((!z2)=false)∧(Fun Tryz.prog 142 [.agg (cEv e)] [] (.v (.agg (cEv z4))) [])∧(z1=false)∧(z6=true)∧z8= .v z3∧z5=[])∧(z6=false→(Fun Tryz.prog 141 [vI e.kind] [] (.v (vB z2)) [])∧((!z2)=false)∧(Fun Tryz.prog 142 [.agg (cEv e)] [] (.v (.agg (cEv z4))) [])∧(z1=false)∧(z6=false)∧((decide (e.at_<0))=true→z8= .v z3∧z5=[])∧((decide (e.at_<0))=false→(Fun Tryz.prog 143 [vI e.kind] [] (.v (vB z9)) [])∧(z9=true→(Fun Tryz.prog 79 [vI e.field,vI 1,vI 536870911] [] (.v z7) [])∧(.v z7:S)= .v z3∧z5=[])∧(z9=false→((decide (e.kind=4))=true→(.v (vB (!decide (e.text=[]))):S)= .v z3∧z5=[])∧((decide (e.kind=4))=false→((decide (e.kind=10))=true→(.v (vB (decide (1≤e.code))):S)= .v z3∧z5=[])∧((decide (e.kind=10))=false→(.v (vB true):S)= .v z3∧z5=[]))))))))) Q4 ?_
 refine⟨fun h1=>have q1:=Ap h1;?_,fun h1=>have q1:=Ao h1;?_⟩
 refine⟨(Tz _),h1,(sB ?_),rfl⟩
 rotate_left
 refine⟨fun h2=>have q2:=Ap h2;have p2:=(Cx dT (Cx dT (Cx dT (Cx dT (Cx dT (Cx dT dF)))))).1 q2;?_,fun h2=>have q2:=Ao h2;have p2:=(Cw dT (Cw dT (Cw dT (Cw dT (Cw dT (Cw dT dT)))))).1 q2;?_⟩
 have hib:Vv e=false:=by rw[Ts rfl];exact q2
 refine⟨(Tz _),h1,(Aat e),h2,(sB ?_),rfl⟩
 rotate_left
 have hib:Vv e=true:=by rw[Ts rfl];exact q2
 refine dsp (fun h3 p3=>?_) fun h3 p3=>?_
 refine⟨(Tz _),h1,(Aat e),h2,h3,(sB ?_),rfl⟩
 rotate_left
 refine⟨(Tz _),h1,(Aat e),h2,h3,dsp (fun h4 p4=>?_) fun h4 p4=>?_⟩
 refine⟨(sB ?_),rfl⟩
 rotate_left
 refine⟨(Af0 _),fun h5=>?_,fun h5=>?_⟩
 refine⟨(Ch _ _ _),(sB ?_),rfl⟩
 rotate_left
 refine dsp (fun h6 p6=>?_) fun h6 p6=>?_
 refine⟨(sB ?_),rfl⟩
 rotate_left
 refine dsp (fun h7 p7=>?_) fun h7 p7=>?_
 refine⟨(sB ?_),rfl⟩
 rotate_left
 refine⟨(sB ?_),rfl⟩
 rotate_left
 all_goals first|((simp only[Kj,hib];simp[Pq,F1, *];done))|(grind[Kj,F1,Pq])
structure De where
 want:Ev
def Sj (e:Ev):Fam:=⟨De,fun j0=>[(1,.v (vP 0)),(3,.v (vP 1))],fun j0=>[.cells (cEv e),.cells (cEv j0.want)],fun j0=>j0.want=E8 e,fun _=>0⟩
theorem Aiu (e:Ev):Fun Tryz.prog 22 [.agg (cEv e)] [] (.v (vB (Kj e))) []:=by
 have hN:Be=274877906944:=rfl
 refine Ar Tryz.func22 Q4 Q4 (w:=let zi:Int→C:= .int .i64;let z2:List C:=[.int .u64 0,zi e.len,.str [],zi 0,zi 0];let z3:=vB (Aq e.field 1 536870911);let z4:=Sj e;let z5:=vB (Kj e);let z6:=([]:List Blk);let z7:=decide (e.kind=3);let z8:=decide (e.kind=2);let z9:List Blk:=[.cells (cEv e),.cells (zi e.kind::zi e.field::z2)];let z10:=decide (e.kind=10);let z11:=decide (e.kind=6);let z12:=decide (e.kind=4);let z13:List V:=[vI e.field,vI 1,vI 536870911];let z14:=Aq e.kind 1 10;let z15:=(.v (vB false):S);(.join 0 z4 (.br (.seg [.at 0,.keep [1,3],.sel [0,1]] (.next)) (.br (.seg [.at 0,.keep [1,3],.sel [0,1]] (.next)) (.br (.seg [.br true,.at 0,.keep [1,3],.sel [0,1]] (.next)) (.br (.seg [.at 0,.keep [1,3],.sel [0,1]] (.next)) (.br (.seg [.at 0,.keep [1,3],.sel [0,1]] (.next)) (.br (.seg [.at 0,.keep [1,3],.sel [0,1]] (.next)) (.br (.seg [.at 0,.keep [1,3],.sel [0,1]] (.next)) (.seg [.at 0,.keep [1,3],.sel [0,1]] (.next))))))))) fun j0=> .br (.leaf () []) (.seg [.call [] (.v (vB z14)) []] (.br (.leaf () []) (.br (.leaf () []) (.br (.leaf () []) (.br (.seg [.br true,.call [] (.v z3) []] (.leaf () [])) (.br (.seg [.br true,.call [] (.v z3) []] (.leaf () [])) (.br (.seg [.call [] (.v z3) []] (.leaf () [])) (.br (.leaf () []) (.br (.leaf () []) (.leaf () [])))))))))),(((decide (e.kind=1))=true→z4.Has [(1,.v (vP 0)),(3,.v (vP 1))] [.cells (cEv e),.cells (zi e.kind::zi 0::z2)])∧((decide (e.kind=1))=false→(z8=true→z4.Has [(1,.v (vP 0)),(3,.v (vP 1))] [.cells (cEv e),.cells [zi e.kind,zi e.field,.int .u64 e.bits,zi 0,.str [],zi 0,zi 0]])∧(z8=false→(z7=true→(z7=true)∧z4.Has [(1,.v (vP 0)),(3,.v (vP 1))] z9)∧(z7=false→(z11=true→z4.Has [(1,.v (vP 0)),(3,.v (vP 1))] z9)∧(z11=false→(z12=true→z4.Has [(1,.v (vP 0)),(3,.v (vP 1))] [.cells (cEv e),.cells [zi e.kind,zi 0,.int .u64 0,zi 0,.str e.text,zi 0,zi 0]])∧(z12=false→((decide (e.kind=9))=true→z4.Has [(1,.v (vP 0)),(3,.v (vP 1))] [.cells (cEv e),.cells [zi e.kind,zi 0,.int .u64 0,zi 0,.str [],zi 0,zi e.at_]])∧((decide (e.kind=9))=false→(z10=true→z4.Has [(1,.v (vP 0)),(3,.v (vP 1))] [.cells (cEv e),.cells [zi e.kind,zi 0,.int .u64 0,zi 0,.str [],zi e.code,zi e.at_]])∧(z10=false→z4.Has [(1,.v (vP 0)),(3,.v (vP 1))] [.cells (cEv e),.cells [zi e.kind,zi 0,.int .u64 0,zi 0,.str [],zi 0,zi 0]]))))))))∧∀j0,z4.inv j0→(let z1:= !(decide (e.kind=j0.want.kind)&&(decide (e.field=j0.want.field)&&(decide (e.bits=j0.want.bits)&&(decide (e.len=j0.want.len)&&(decide (e.text=j0.want.text)&&(decide (e.code=j0.want.code)&&decide (e.at_=j0.want.at_)))))));(z1=true→z15= .v z5∧z6=[])∧(z1=false→(Fun Tryz.prog 59 [vI e.kind,vI 1,vI 10] [] (.v (vB z14)) [])∧((!z14)=true→z15= .v z5∧z6=[])∧((!z14)=false→((decide (e.len<0))=true→z15= .v z5∧z6=[])∧((decide (e.len<0))=false→((decide (e.at_<0))=true→z15= .v z5∧z6=[])∧((decide (e.at_<0))=false→(z8=true→(z8=true)∧(Fun Tryz.prog 59 z13 [] (.v z3) [])∧(.v z3:S)= .v z5∧z6=[])∧(z8=false→(z7=true→(z7=true)∧(Fun Tryz.prog 59 z13 [] (.v z3) [])∧(.v z3:S)= .v z5∧z6=[])∧(z7=false→(z11=true→(Fun Tryz.prog 59 z13 [] (.v z3) [])∧(.v z3:S)= .v z5∧z6=[])∧(z11=false→(z12=true→(.v (vB (!decide (e.text=[]))):S)= .v z5∧z6=[])∧(z12=false→(z10=true→(.v (vB (decide (1≤e.code))):S)= .v z5∧z6=[])∧(z10=false→(.v (vB true):S)= .v z5∧z6=[])))))))))))) Q4 ?_
 refine⟨?_,fun (j0:De) hq_j0=>?_⟩
 refine dsp (fun h2 p2=>?_) fun h2 p2=>?_
 exact Bs (j:=(⟨(⟨e.kind,0,0,e.len,[],0,0⟩:Ev)⟩:De)) rfl Q9 Q35
 refine dsp (fun h3 p3=>?_) fun h3 p3=>?_
 exact Bs (j:=(⟨(⟨e.kind,e.field,e.bits,0,[],0,0⟩:Ev)⟩:De)) rfl Q9 Q35
 refine dsp (fun h4 p4=>?_) fun h4 p4=>?_
 exact⟨h4,Bs (j:=(⟨(⟨e.kind,e.field,0,e.len,[],0,0⟩:Ev)⟩:De)) rfl Q9 Q35⟩
 refine dsp (fun h5 p5=>?_) fun h5 p5=>?_
 exact Bs (j:=(⟨(⟨e.kind,e.field,0,e.len,[],0,0⟩:Ev)⟩:De)) rfl Q9 Q35
 refine dsp (fun h6 p6=>?_) fun h6 p6=>?_
 exact Bs (j:=(⟨(⟨e.kind,0,0,0,e.text,0,0⟩:Ev)⟩:De)) rfl Q9 Q35
 refine dsp (fun h7 p7=>?_) fun h7 p7=>?_
 exact Bs (j:=(⟨(⟨e.kind,0,0,0,[],0,e.at_⟩:Ev)⟩:De)) rfl Q9 Q35
 refine dsp (fun h8 p8=>?_) fun h8 p8=>?_
 exact Bs (j:=(⟨(⟨e.kind,0,0,0,[],e.code,e.at_⟩:Ev)⟩:De)) rfl Q9 Q35
 exact Bs (j:=(⟨(⟨e.kind,0,0,0,[],0,0⟩:Ev)⟩:De)) rfl Q9 Q35
 have hi_j0:j0.want=E8 e:=hq_j0
 refine⟨fun h2=>have q2:=Ap h2;have p2:=(Cx dT (Cx dT (Cx dT (Cx dT (Cx dT (Cx dT dF)))))).1 q2;?_,fun h2=>have q2:=Ao h2;have p2:=(Cw dT (Cw dT (Cw dT (Cw dT (Cw dT (Cw dT dT)))))).1 q2;?_⟩
 have hib:Vv e=false:=by rw[Ts hi_j0.symm];exact q2
 refine⟨(sB ?_),rfl⟩
 rotate_left
 have hib:Vv e=true:=by rw[Ts hi_j0.symm];exact q2
 refine⟨(Bh _ _ _),fun h3=>have q3:=Ap h3;have p3:=A4 q3;?_,fun h3=>have q3:=Ao h3;have p3:=Av q3;?_⟩
 refine⟨(sB ?_),rfl⟩
 rotate_left
 refine dsp (fun h4 p4=>?_) fun h4 p4=>?_
 refine⟨(sB ?_),rfl⟩
 rotate_left
 refine dsp (fun h5 p5=>?_) fun h5 p5=>?_
 refine⟨(sB ?_),rfl⟩
 rotate_left
 refine dsp (fun h6 p6=>?_) fun h6 p6=>?_
 refine⟨h6,(Bh _ _ _),(sB ?_),rfl⟩
 rotate_left
 refine dsp (fun h7 p7=>?_) fun h7 p7=>?_
 refine⟨h7,(Bh _ _ _),(sB ?_),rfl⟩
 rotate_left
 refine dsp (fun h8 p8=>?_) fun h8 p8=>?_
 refine⟨(Bh _ _ _),(sB ?_),rfl⟩
 rotate_left
 refine dsp (fun h9 p9=>?_) fun h9 p9=>?_
 refine⟨(sB ?_),rfl⟩
 rotate_left
 refine dsp (fun h10 p10=>?_) fun h10 p10=>?_
 refine⟨(sB ?_),rfl⟩
 rotate_left
 refine⟨(sB ?_),rfl⟩
 rotate_left
 all_goals first|((simp only[Kj,hib];simp[Pq,F1, *];done))|(grind[Kj,F1,Pq])
theorem Aev (s:Scn):Fun Tryz.prog 147 [.agg (Qb s)] [] (.v (vB (Dx s))) []:=by
 have hN:Be=274877906944:=rfl
 refine Ar Tryz.func147 Q4 Q4 (w:=let z1:=7*s.have_;let z2:=Aq s.have_ 0 9;(.seg [.call [] (.v (vB z2)) []] (.br (.seg [.as 11 (.v (vI z1)),.as 12 (.v (.c (.int .u64 z1)))] (.leaf () [])) (.leaf () [])),(Fun Tryz.prog 79 [vI s.have_,vI 0,vI 9] [] (.v (vB z2)) [])∧(z2=true→((.v (vI (IntKind.i64.wrap z1)):S)= .v (vI z1))∧((.v (.c (.int .u64 (IntKind.u64.wrap z1))):S)= .v (.c (.int .u64 z1)))∧((0:Int)≤7*s.have_)∧(.v (vB (decide (Int.fdiv s.bits (2 ^ min (Int.toNat z1) 64)=0))):S)= .v (vB (Dx s))∧([]:List Blk)=[])∧(z2=false→(.v (vB false):S)= .v (vB (Dx s))∧([]:List Blk)=[]))) Q4 ?_
 refine⟨(Ch _ _ _),fun h1=>have p1:=Av h1;?_,fun h1=>have p1:=A4 h1;?_⟩
 refine⟨(Ac Q2 Q2),(Bp Q2 Q2),Q2,(sB ?_),rfl⟩
 rotate_left
 refine⟨(sB ?_),rfl⟩
 rotate_left
 all_goals first|(simp_all[Dx];done)|(grind[Dx])
theorem Wj (s:Scn):Fun Tryz.prog 136 [.agg (Qb s)] [] (.v (vB (Dx s))) []:=by
 have hN:Be=274877906944:=rfl
 refine Ar Tryz.func136 Q4 Q4 (w:=let z1:=7*s.have_;let z2:=Aq s.have_ 0 9;(.seg [.call [] (.v (vB z2)) []] (.br (.seg [.as 11 (.v (vI z1)),.as 12 (.v (.c (.int .u64 z1)))] (.leaf () [])) (.leaf () [])),(Fun Tryz.prog 59 [vI s.have_,vI 0,vI 9] [] (.v (vB z2)) [])∧(z2=true→((.v (vI (IntKind.i64.wrap z1)):S)= .v (vI z1))∧((.v (.c (.int .u64 (IntKind.u64.wrap z1))):S)= .v (.c (.int .u64 z1)))∧((0:Int)≤7*s.have_)∧(.v (vB (decide (Int.fdiv s.bits (2 ^ min (Int.toNat z1) 64)=0))):S)= .v (vB (Dx s))∧([]:List Blk)=[])∧(z2=false→(.v (vB false):S)= .v (vB (Dx s))∧([]:List Blk)=[]))) Q4 ?_
 refine⟨(Bh _ _ _),fun h1=>have p1:=Av h1;?_,fun h1=>have p1:=A4 h1;?_⟩
 refine⟨(Ac Q2 Q2),(Bp Q2 Q2),Q2,(sB ?_),rfl⟩
 rotate_left
 refine⟨(sB ?_),rfl⟩
 rotate_left
 all_goals first|(simp_all[Dx];done)|(grind[Dx])
theorem R6 (d:Dcd):Fun Tryz.prog 121 [.agg (Cd d)] [] (.v (vI (B1 d))) []:=by
 have hN:Be=274877906944:=rfl
 refine Ar Tryz.func121 Q4 Q4 (w:=let z1:=Br d.field.kind;let z2:=vI (Az d.wire);(.br (.seg [.call [] (.v z2) []] (.leaf () [])) (.br (.seg [.call [] (.v (vI z1)) [],.call [] (.v (vI (Az z1))) []] (.leaf () [])) (.leaf () [])),((decide (d.mode=5))=true→(Fun Tryz.prog 146 [vI d.wire] [] (.v z2) [])∧(.v z2:S)= .v (vI (B1 d))∧([]:List Blk)=[])∧((decide (d.mode=5))=false→((decide (d.mode=8))=true→(Fun Tryz.prog 174 [vI d.field.kind] [] (.v (vI z1)) [])∧(Fun Tryz.prog 146 [vI z1] [] (.v (vI (Az z1))) [])∧(.v (vI (Az z1)):S)= .v (vI (B1 d))∧([]:List Blk)=[])∧((decide (d.mode=8))=false→(.v (vI 0):S)= .v (vI (B1 d))∧([]:List Blk)=[])))) Q4 ?_
 refine dsp (fun h1 p1=>?_) fun h1 p1=>?_
 refine⟨(Fw _),(sI ?_),rfl⟩
 rotate_left
 refine dsp (fun h2 p2=>?_) fun h2 p2=>?_
 refine⟨(V9 _),(Fw _),(sI ?_),rfl⟩
 rotate_left
 refine⟨(sI ?_),rfl⟩
 rotate_left
 all_goals first|(simp_all[B1];done)|(grind[B1])
theorem Kw (d:Dcd):Fun Tryz.prog 60 [.agg (Cd d)] [] (.v (vI (B1 d))) []:=by
 have hN:Be=274877906944:=rfl
 refine Ar Tryz.func60 Q4 Q4 (w:=let z1:=Br d.field.kind;let z2:=vI (Az d.wire);(.br (.seg [.call [] (.v z2) []] (.leaf () [])) (.br (.seg [.call [] (.v (vI z1)) [],.call [] (.v (vI (Az z1))) []] (.leaf () [])) (.leaf () [])),((decide (d.mode=5))=true→(Fun Tryz.prog 74 [vI d.wire] [] (.v z2) [])∧(.v z2:S)= .v (vI (B1 d))∧([]:List Blk)=[])∧((decide (d.mode=5))=false→((decide (d.mode=8))=true→(Fun Tryz.prog 124 [vI d.field.kind] [] (.v (vI z1)) [])∧(Fun Tryz.prog 74 [vI z1] [] (.v (vI (Az z1))) [])∧(.v (vI (Az z1)):S)= .v (vI (B1 d))∧([]:List Blk)=[])∧((decide (d.mode=8))=false→(.v (vI 0):S)= .v (vI (B1 d))∧([]:List Blk)=[])))) Q4 ?_
 refine dsp (fun h1 p1=>?_) fun h1 p1=>?_
 refine⟨(D7 _),(sI ?_),rfl⟩
 rotate_left
 refine dsp (fun h2 p2=>?_) fun h2 p2=>?_
 refine⟨(Nz _),(D7 _),(sI ?_),rfl⟩
 rotate_left
 refine⟨(sI ?_),rfl⟩
 rotate_left
 all_goals first|(simp_all[B1];done)|(grind[B1])
structure Nc where
 v:Nat
def K7 (p:Pln) (f:Fld):Fam:=⟨Nc,fun q1=>[(2,.v (vP 0)),(3,.v (vP 1)),(11,.v (vI ((List.length p.shapes:Nat):Int))),(12,.v (vI ((q1.v:Nat):Int)))],fun _=>[.cells (Ex p),.cells (Ej f)],fun q1=>q1.v≤List.length p.shapes∧G1 p.shapes f q1.v=false,fun q1=>List.length p.shapes-q1.v⟩
theorem Aoi (p:Pln) (f:Fld) (hp1:List.length (p).shapes≤1000) (hp2: ∀x∈(p).shapes,List.length x.fields≤1000):Fun Tryz.prog 82 [.agg (Ex p),.agg (Ej f)] [] (.v (vB (known (p).shapes f))) []:=by
 have hN:Be=274877906944:=rfl
 refine Ar Tryz.func82 Q4 Q4 (w:=let z4:=((List.length p.shapes:Nat):Int);let z5:List Blk:=[.cells (Ex p),.cells (Ej f)];let z6:=K7 p f;(.seg [.at 0,.keep [2,3,11,12],.sel [0,1]] (.loop z6 fun q1=>let z1:=((q1.v:Nat):Int);.br (.seg [.call [] (.tup [.agg (Ej ((fieldAt p.shapes z1 f.number).getD fld0)),vB (fieldAt p.shapes z1 f.number).isSome]) []] (.br (.br (.leaf () []) (.seg [.as 30 (.v (vI (z1+1))),.at 0,.keep [2,3,11,12],.sel [0,1]] (.next))) (.seg [.as 30 (.v (vI (z1+1))),.at 0,.keep [2,3,11,12],.sel [0,1]] (.next)))) (.leaf () [])),z6.Has [(2,.v (vP 0)),(3,.v (vP 1)),(11,.v (vI z4)),(12,.v (vI 0))] z5∧∀q1,z6.inv q1→(let z3:=((q1.v:Nat):Int);let z2:=fieldAt p.shapes z3 f.number;((decide (z3<z4))=true→(Fun Tryz.prog 140 [.agg [.seq .shp p.shapes],vI z3,vI f.number] [] (.tup [.agg (Ej (z2.getD fld0)),vB z2.isSome]) [])∧(z2.isSome=true→((decide ((z2.getD fld0).number=f.number)&&(decide ((z2.getD fld0).kind=f.kind)&&(decide ((z2.getD fld0).rep=f.rep)&&(decide ((z2.getD fld0).packed=f.packed)&&decide ((z2.getD fld0).msg=f.msg)))))=true→(.v (vB true):S)= .v (vB (known (p).shapes f))∧([]:List Blk)=[])∧((decide ((z2.getD fld0).number=f.number)&&(decide ((z2.getD fld0).kind=f.kind)&&(decide ((z2.getD fld0).rep=f.rep)&&(decide ((z2.getD fld0).packed=f.packed)&&decide ((z2.getD fld0).msg=f.msg)))))=false→((.v (vI (IntKind.i64.wrap (z3+1))):S)= .v (vI (z3+1)))∧z6.Nxt q1 [(2,.v (vP 0)),(3,.v (vP 1)),(11,.v (vI z4)),(12,.v (vI (z3+1)))] z5))∧(z2.isSome=false→((.v (vI (IntKind.i64.wrap (z3+1))):S)= .v (vI (z3+1)))∧z6.Nxt q1 [(2,.v (vP 0)),(3,.v (vP 1)),(11,.v (vI z4)),(12,.v (vI (z3+1)))] z5))∧((decide (z3<z4))=false→(.v (vB false):S)= .v (vB (known (p).shapes f))∧([]:List Blk)=[])))) Q4 ?_
 refine⟨Bs (j:=(⟨0⟩:Nc)) Q9 rfl (by dsimp only[K7];exact⟨by omega,rfl⟩),fun (q1:Nc) hq_q1=>?_⟩
 have hi_q1:q1.v≤List.length p.shapes∧G1 p.shapes f q1.v=false:=hq_q1
 obtain ⟨v1,v2⟩:=hi_q1
 refine dsp (fun h1 p1=>?_) fun h1 p1=>?_
 refine⟨(Tn p.shapes _ _ Q2 Q2),fun h2=>?_,fun h2=>?_⟩
 obtain ⟨o,ho⟩:=Option.isSome_iff_exists.1 h2
 have hg:(fieldAt p.shapes (q1.v:Int) f.number).getD fld0=o:=by rw[ho];rfl
 refine⟨fun h3=>have p3:=(Cw dT (Cw dT (Cw dT (Cw dT dT)))).1 h3;?_,fun h3=>have p3:=(Cx dT (Cx dT (Cx dT (Cx dT dF)))).1 h3;?_⟩
 rw[hg] at p3
 have hkk:=Aao (by omega) (show (fieldAt p.shapes (q1.v:Int) f.number)=some f by rw[ho,Aij p3])
 refine⟨(sB ?_),rfl⟩
 rotate_left
 rw[hg] at p3
 have hkn:G1 p.shapes f (q1.v+1)=false:=Pr v2 (by rw[ho];intro e;exact Aik p3 (Option.some.inj e))
 exact⟨(Ac Q2 Q2),Bc (j:=(⟨q1.v+1⟩:Nc)) Q9 rfl (by dsimp only[K7];exact⟨by omega,hkn⟩) (by dsimp only[K7];omega)⟩
 have hkn:G1 p.shapes f (q1.v+1)=false:=Pr v2 (by intro e;rw[e] at h2;simp at h2)
 exact⟨(Ac Q2 Q2),Bc (j:=(⟨q1.v+1⟩:Nc)) Q9 rfl (by dsimp only[K7];exact⟨by omega,hkn⟩) (by dsimp only[K7];omega)⟩
 have hkk:=Aes v2 (by omega)
 refine⟨(sB ?_),rfl⟩
 rotate_left
 all_goals first|(exact hkk.symm)|(grind)
structure H4 where
 i:Nat
def Gp (d:Dcd):Fam:=⟨H4,fun q1=>[(1,.v (vP 0)),(3,.v (vI ((q1.i:Nat):Int)))],fun _=>[.cells (Cd d)],fun q1=>q1.i≤List.length d.plan.shapes∧G1 d.plan.shapes d.field q1.i=false,fun q1=>List.length d.plan.shapes-q1.i⟩
theorem Agc (d:Dcd) (hp1:List.length (d).plan.shapes≤1000) (hp2: ∀x∈(d).plan.shapes,List.length x.fields≤1000):Fun Tryz.prog 70 [.agg (Cd d)] [] (.v (vB (decide ((d).field=fld0)||known (d).plan.shapes (d).field))) []:=by
 have hN:Be=274877906944:=rfl
 refine Ar Tryz.func70 Q4 Q4 (w:=let z5:=decide (d.field.number=0)&&(decide (d.field.kind=0)&&(decide (d.field.rep=false)&&(decide (d.field.packed=false)&&decide (d.field.msg=0))));let z6:=vB (decide ((d).field=fld0)||known (d).plan.shapes (d).field);let z7:=Gp d;let z8:=((List.length d.plan.shapes:Nat):Int);(.br (.leaf () []) (.seg [.at 0,.keep [1,3],.sel [0]] (.loop z7 fun q1=>let z2:=((q1.i:Nat):Int);let z1:=fieldAt d.plan.shapes z2 d.field.number;.br (.seg [.call [] (.tup [.agg (Ej (z1.getD fld0)),vB z1.isSome]) []] (.br (.br (.leaf () []) (.seg [.as 18 (.v (vI (z2+1))),.at 0,.keep [1,3],.sel [0]] (.next))) (.seg [.as 18 (.v (vI (z2+1))),.at 0,.keep [1,3],.sel [0]] (.next)))) (.leaf () []))),(z5=true→(.v (vB true):S)= .v z6∧([]:List Blk)=[])∧(z5=false→z7.Has [(1,.v (vP 0)),(3,.v (vI 0))] [.cells (Cd d)]∧∀q1,z7.inv q1→(let z4:=((q1.i:Nat):Int);let z3:=fieldAt d.plan.shapes z4 d.field.number;((decide (z4<z8))=true→(Fun Tryz.prog 133 [.agg [.seq .shp d.plan.shapes],vI z4,vI d.field.number] [] (.tup [.agg (Ej (z3.getD fld0)),vB z3.isSome]) [])∧(z3.isSome=true→((decide ((z3.getD fld0).number=d.field.number)&&(decide ((z3.getD fld0).kind=d.field.kind)&&(decide ((z3.getD fld0).rep=d.field.rep)&&(decide ((z3.getD fld0).packed=d.field.packed)&&decide ((z3.getD fld0).msg=d.field.msg)))))=true→(.v (vB true):S)= .v z6∧([]:List Blk)=[])∧((decide ((z3.getD fld0).number=d.field.number)&&(decide ((z3.getD fld0).kind=d.field.kind)&&(decide ((z3.getD fld0).rep=d.field.rep)&&(decide ((z3.getD fld0).packed=d.field.packed)&&decide ((z3.getD fld0).msg=d.field.msg)))))=false→((.v (vI (IntKind.i64.wrap (z4+1))):S)= .v (vI (z4+1)))∧z7.Nxt q1 [(1,.v (vP 0)),(3,.v (vI (z4+1)))] [.cells (Cd d)]))∧(z3.isSome=false→((.v (vI (IntKind.i64.wrap (z4+1))):S)= .v (vI (z4+1)))∧z7.Nxt q1 [(1,.v (vP 0)),(3,.v (vI (z4+1)))] [.cells (Cd d)]))∧((decide (z4<z8))=false→(.v (vB false):S)= .v z6∧([]:List Blk)=[]))))) Q4 ?_
 refine⟨fun h1=>have p1:=(Cw dT (Cw dT (Cw dT (Cw dT dT)))).1 h1;?_,fun h1=>have p1:=(Cx dT (Cx dT (Cx dT (Cx dT dF)))).1 h1;?_⟩
 refine⟨(sB ?_),rfl⟩
 rotate_left
 refine⟨Bs (j:=(⟨0⟩:H4)) Q9 rfl (by dsimp only[Gp];exact⟨by omega,rfl⟩),fun (q1:H4) hq_q1=>?_⟩
 have hi_q1:q1.i≤List.length d.plan.shapes∧G1 d.plan.shapes d.field q1.i=false:=hq_q1
 obtain ⟨v1,v2⟩:=hi_q1
 refine dsp (fun h2 p2=>?_) fun h2 p2=>?_
 refine⟨(To d.plan.shapes _ _ Q2 Q2),fun h3=>?_,fun h3=>?_⟩
 obtain ⟨o,ho⟩:=Option.isSome_iff_exists.1 h3
 have hg:(fieldAt d.plan.shapes (q1.i:Int) d.field.number).getD fld0=o:=by rw[ho];rfl
 refine⟨fun h4=>have p4:=(Cw dT (Cw dT (Cw dT (Cw dT dT)))).1 h4;?_,fun h4=>have p4:=(Cx dT (Cx dT (Cx dT (Cx dT dF)))).1 h4;?_⟩
 rw[hg] at p4
 have hkk:=Aao (by omega) (show (fieldAt d.plan.shapes (q1.i:Int) d.field.number)=some d.field by rw[ho,Aij p4])
 refine⟨(sB ?_),rfl⟩
 rotate_left
 rw[hg] at p4
 have hkn:G1 d.plan.shapes d.field (q1.i+1)=false:=Pr v2 (by rw[ho];intro e;exact Aik p4 (Option.some.inj e))
 exact⟨(Ac Q2 Q2),Bc (j:=(⟨q1.i+1⟩:H4)) Q9 rfl (by dsimp only[Gp];exact⟨by omega,hkn⟩) (by dsimp only[Gp];omega)⟩
 have hkn:G1 d.plan.shapes d.field (q1.i+1)=false:=Pr v2 (by intro e;rw[e] at h3;simp at h3)
 exact⟨(Ac Q2 Q2),Bc (j:=(⟨q1.i+1⟩:H4)) Q9 rfl (by dsimp only[Gp];exact⟨by omega,hkn⟩) (by dsimp only[Gp];omega)⟩
 have hkk:=Aes v2 (by omega)
 refine⟨(sB ?_),rfl⟩
 rotate_left
 all_goals first|(simp[hkk];done)|((rw[hkk];simp_all[fld0];done))|((have hz:=Aap p1;simp[hz];done))|(grind[fld0])
theorem Wm {s:Scn} :s=scn0↔s.bits=0∧s.have_=0:=⟨fun h=>by subst h;exact⟨rfl,rfl⟩,fun h=>by cases s;simp_all[scn0]⟩
theorem Dc {f:Fld} :f=fld0↔f.number=0∧f.kind=0∧f.rep=false∧f.packed=false∧f.msg=0:=⟨fun h=>by subst h;exact⟨rfl,rfl,rfl,rfl,rfl⟩,Aap⟩
theorem U3 {e:Ev} :e=ev0↔e.kind=0∧e.field=0∧e.bits=0∧e.len=0∧e.text=[]∧e.code=0∧e.at_=0:=⟨fun h=>by subst h;exact⟨rfl,rfl,rfl,rfl,rfl,rfl,rfl⟩,fun h=>Ap0 h⟩
theorem Kx (d:Dcd):0≤B1 d∧B1 d≤8:=by
 unfold B1
 have h1:=D5 d.wire
 have h2:=D5 (Br d.field.kind)
 split
 ·exact h1
 ·split
  ·exact h2
  ·omega
structure Pt where
 i:Nat
def Pu (d:Dcd):Fam:=⟨Pt,fun q1=>[(1,.v (vP 0)),(3,.v (vI ((List.length d.stack:Nat):Int))),(4,.v (vI ((q1.i:Nat):Int)))],fun _=>[.cells (Cd d)],fun q1=>q1.i≤List.length d.stack∧Yr (List.length d.plan.shapes:Int) (List.drop q1.i d.stack)+q1.i=Yr (List.length d.plan.shapes:Int) d.stack,fun q1=>List.length d.stack-q1.i⟩
theorem Ak9 (d:Dcd) (hp1:List.length (d).stack≤Be) (hp2:List.length (d).plan.shapes≤1000):Fun Tryz.prog 71 [.agg (Cd d)] [] (.v (vB (Rf d))) []:=by
 have hN:Be=274877906944:=rfl
 refine Ar Tryz.func71 Q4 Q4 (w:=let z7:=((List.length d.plan.shapes:Nat):Int)-1;let z8:=((List.length d.stack:Nat):Int);let z9:=(.v (vI (IntKind.i64.wrap z7)):S)= .v (vI z7);let z10:=Aq z8 1 d.plan.deep;let z11:=vB (Rf d);let z12:=([]:List Blk);let z13:=Pu d;let z14:=(.v (vB false):S);(.seg [.at 0,.keep [1,3,4],.sel [0]] (.loop z13 fun q1=> .br (.intro (fun (x1:Lev)=>d.stack[q1.i]? =some x1) fun x1=>let z1:=Aq x1.msg 0 z7;.case (!z1) (.seg [.ord (os 24 [12,21]) [],.el .lev x1,.as 24 (.v (vI z7)),.call [] (.v (vB z1)) [],.br true] (.leaf () [])) (.seg [.ord (os 24 [12,21]) [],.el .lev x1,.as 24 (.v (vI z7)),.call [] (.v (vB z1)) [],.br false,.el .lev x1,.call [] (.v (vB (Aq x1.left 0 2000))) []] (.br (.leaf () []) (.seg [.as 12 (.v (vI (((q1.i:Nat):Int)+1))),.at 0,.keep [1,3,4],.sel [0]] (.next))))) (.br (.leaf () []) (.br (.leaf () []) (.seg [.call [] (.v (vB z10)) []] (.br (.seg [.call [] (.v (vI (Ef d))) []] (.leaf () [])) (.leaf () [])))))),z13.Has [(1,.v (vP 0)),(3,.v (vI z8)),(4,.v (vI 0))] [.cells (Cd d)]∧∀q1,z13.inv q1→(let z6:=((q1.i:Nat):Int);((decide (z6<z8))=true→(∃(x1:Lev),d.stack[q1.i]? =some x1)∧∀(x1:Lev),(d.stack[q1.i]? =some x1)→(let z2:=Aq x1.msg 0 z7;let z3:=d.stack[q1.i]? =some x1;let z4:List V:=[vI x1.msg,vI 0,vI z7];let z5:=Aq x1.left 0 2000;((!z2)=true→z3∧((0:Int)≤z6)∧z3∧((0:Int)≤z6)∧z9∧z9∧(Fun Tryz.prog 59 z4 [] (.v (vB z2)) [])∧((!z2)=true)∧z14= .v z11∧z12=[])∧((!z2)=false→z3∧((0:Int)≤z6)∧z3∧((0:Int)≤z6)∧z9∧z9∧(Fun Tryz.prog 59 z4 [] (.v (vB z2)) [])∧((!z2)=false)∧z3∧((0:Int)≤z6)∧z3∧((0:Int)≤z6)∧(Fun Tryz.prog 59 [vI x1.left,vI 0,vI 2000] [] (.v (vB z5)) [])∧((!z5)=true→z14= .v z11∧z12=[])∧((!z5)=false→((.v (vI (IntKind.i64.wrap (z6+1))):S)= .v (vI (z6+1)))∧z13.Nxt q1 [(1,.v (vP 0)),(3,.v (vI z8)),(4,.v (vI (z6+1)))] [.cells (Cd d)]))))∧((decide (z6<z8))=false→((decide (d.mode=1))=true→(.v (vB (decide (z8=0))):S)= .v z11∧z12=[])∧((decide (d.mode=1))=false→((decide (d.mode=9))=true→(.v (vB (decide (z8≤d.plan.deep))):S)= .v z11∧z12=[])∧((decide (d.mode=9))=false→(Fun Tryz.prog 59 [vI z8,vI 1,vI d.plan.deep] [] (.v (vB z10)) [])∧(z10=true→(Fun Tryz.prog 73 [.agg (Cd d)] [] (.v (vI (Ef d))) [])∧(.v (vB (decide (1≤Ef d))):S)= .v z11∧z12=[])∧(z10=false→z14= .v z11∧z12=[]))))))) Q4 ?_
 refine⟨Bs (j:=(⟨0⟩:Pt)) Q9 rfl (by dsimp only[Pu];exact⟨by omega,rfl⟩),fun (q1:Pt) hq_q1=>?_⟩
 have hi_q1:q1.i≤List.length d.stack∧Yr (List.length d.plan.shapes:Int) (List.drop q1.i d.stack)+q1.i=Yr (List.length d.plan.shapes:Int) d.stack:=hq_q1
 obtain ⟨v1,v2⟩:=hi_q1
 refine dsp (fun h1 p1=>?_) fun h1 p1=>?_
 refine⟨(Bq (l:=d.stack) (i:=q1.i) Q2),fun x1 hx1=>?_⟩
 rw[Er hx1,Tp] at v2
 refine⟨fun h2=>have q2:=Ap h2;have p2:=A4 q2;?_,fun h2=>have q2:=Ao h2;have p2:=Av q2;?_⟩
 refine⟨hx1,Q2,hx1,Q2,(Ac Q2 Q2),(Ac Q2 Q2),(Bh _ _ _),h2,(sB ?_),rfl⟩
 rotate_left
 refine⟨hx1,Q2,hx1,Q2,(Ac Q2 Q2),(Ac Q2 Q2),(Bh _ _ _),h2,hx1,Q2,hx1,Q2,(Bh _ _ _),fun h3=>have q3:=Ap h3;have p3:=A4 q3;?_,fun h3=>have q3:=Ao h3;have p3:=Av q3;?_⟩
 refine⟨(sB ?_),rfl⟩
 rotate_left
 exact⟨(Ac Q2 Q2),Bc (j:=(⟨q1.i+1⟩:Pt)) Q9 rfl (by dsimp only[Pu];exact⟨by omega,by simp_all[F5];omega⟩) (by dsimp only[Pu];omega)⟩
 have hal:List.all d.stack (F5 (List.length d.plan.shapes:Int))=true:=by rw[Pp];rw[List.drop_eq_nil_of_le (by omega)] at v2;simp only[Yr] at v2;exact decide_eq_true (by omega)
 refine dsp (fun h2 p2=>?_) fun h2 p2=>?_
 refine⟨(sB ?_),rfl⟩
 rotate_left
 refine dsp (fun h3 p3=>?_) fun h3 p3=>?_
 refine⟨(sB ?_),rfl⟩
 rotate_left
 refine⟨(Bh _ _ _),fun h4=>have p4:=Av h4;?_,fun h4=>have p4:=A4 h4;?_⟩
 refine⟨(P5 d Q2),(sB ?_),rfl⟩
 rotate_left
 refine⟨(sB ?_),rfl⟩
 rotate_left
 all_goals first|(simp_all[Rf];done)|((have hal:List.all d.stack (F5 (List.length d.plan.shapes:Int))=false:=(by rw[Pp];rw[if_neg (by simp_all[F5])] at v2;exact decide_eq_false (by have:=congrArg List.length (Er hx1);simp only[List.length_drop,List.length_cons] at this;omega));simp[Rf,hal];done))|(grind[Rf])
theorem Rg (d:Dcd) (hp1:List.length (d).stack≤Be):Fun Tryz.prog 77 [.agg (Cd d)] [] (.v (vB (Adk d))) []:=by
 have hN:Be=274877906944:=rfl
 have hwd:=Kx d
 refine Ar Tryz.func77 Q4 Q4 (w:=let z3:=8*d.scan.have_;let z4:=decide (Int.fdiv d.scan.bits (2 ^ min (Int.toNat z3) 64)=0);let z8:=vB (Dx d.scan);let z9:=(.v (vB (decide (d.scan.bits=0)&&decide (d.scan.have_=0))):S);let z10:=decide (d.mode=8);let z11:=([]:List Blk);let z12:=vB (Adk d);let z13:=B1 d-1;let z2:=Aq d.scan.have_ 0 z13;let z5:=z2=false→(.v (vB false):S)= .v z12∧z11=[];let z14:=(.v (.c (.int .u64 (IntKind.u64.wrap z3))):S)= .v (.c (.int .u64 z3));let z15:=decide (B1 d=0);let z16:=z4=false→(.v (vB false):S)= .v z12∧z11=[];let z17:=vI (Ef d);let z18:List V:=[vI d.scan.have_,vI 0,vI z13];let z19:=(.v (vI (IntKind.i64.wrap z3)):S)= .v (vI z3);let z21:=decide (d.mode=6);let z22:=decide (d.mode=7);let z23:=decide (d.mode=5);let z24:=B1 d;let z6:=(.v (vI (IntKind.i64.wrap (z24-1))):S)= .v (vI z13);let z7:=z24-d.scan.have_;let z20:=(.v (vI (IntKind.i64.wrap z7)):S)= .v (vI z7);let z1:=z2=true→z19∧z14∧((0:Int)≤8*d.scan.have_)∧(z4=true→z20∧(.v (vB (decide (z24-d.scan.have_≤d.want))):S)= .v z12∧z11=[])∧z16;(.seg [.call [] (.v (vI z24)) []] (.br (.seg [.br true] (.leaf () [])) (.br (.seg [.br true] (.leaf () [])) (.br (.leaf () []) (.br (.seg [.br true] (.br (.br (.seg [.call [] (.v z8) []] (.leaf () [])) (.seg [.call [] (.v z17) [],.br true,.as 41 (.v (vI z13)),.call [] (.v (vB z2)) []] (.br (.seg [.as 50 (.v (vI z3)),.as 51 (.v (.c (.int .u64 z3)))] (.br (.seg [.as 60 (.v (vI z7))] (.leaf () [])) (.leaf () []))) (.leaf () [])))) (.seg [.call [] (.v z17) [],.br false,.as 41 (.v (vI z13)),.call [] (.v (vB z2)) []] (.br (.seg [.as 50 (.v (vI z3)),.as 51 (.v (.c (.int .u64 z3)))] (.br (.seg [.as 60 (.v (vI z7))] (.leaf () [])) (.leaf () []))) (.leaf () []))))) (.br (.seg [.br true] (.br (.seg [.call [] (.v z8) []] (.leaf () [])) (.seg [.call [] (.v z17) [],.br true,.as 41 (.v (vI z13)),.call [] (.v (vB z2)) []] (.br (.seg [.as 50 (.v (vI z3)),.as 51 (.v (.c (.int .u64 z3)))] (.br (.seg [.as 60 (.v (vI z7))] (.leaf () [])) (.leaf () []))) (.leaf () []))))) (.seg [.call [] (.v z8) []] (.leaf () []))))))),(Fun Tryz.prog 60 [.agg (Cd d)] [] (.v (vI z24)) [])∧(z21=true→(z21=true)∧z9= .v z12∧z11=[])∧(z21=false→(z22=true→(z22=true)∧z9= .v z12∧z11=[])∧(z22=false→((decide (d.mode=9))=true→z9= .v z12∧z11=[])∧((decide (d.mode=9))=false→(z23=true→(z23=true)∧(z10=true→(z15=true→(Fun Tryz.prog 136 [.agg (Qb d.scan)] [] (.v z8) [])∧(.v z8:S)= .v z12∧z11=[])∧(z15=false→(Fun Tryz.prog 73 [.agg (Cd d)] [] (.v z17) [])∧(z10=true)∧z6∧(Fun Tryz.prog 59 z18 [] (.v (vB z2)) [])∧z1∧z5))∧(z10=false→(Fun Tryz.prog 73 [.agg (Cd d)] [] (.v z17) [])∧(z10=false)∧z6∧(Fun Tryz.prog 59 z18 [] (.v (vB z2)) [])∧(z2=true→z19∧z14∧((0:Int)≤8*d.scan.have_)∧(z4=true→z20∧(.v (vB (decide (z24-d.scan.have_≤Ef d))):S)= .v z12∧z11=[])∧z16)∧z5))∧(z23=false→(z10=true→(z10=true)∧(z15=true→(Fun Tryz.prog 136 [.agg (Qb d.scan)] [] (.v z8) [])∧(.v z8:S)= .v z12∧z11=[])∧(z15=false→(Fun Tryz.prog 73 [.agg (Cd d)] [] (.v z17) [])∧(z10=true)∧z6∧(Fun Tryz.prog 59 z18 [] (.v (vB z2)) [])∧z1∧z5))∧(z10=false→(Fun Tryz.prog 136 [.agg (Qb d.scan)] [] (.v z8) [])∧(.v z8:S)= .v z12∧z11=[]))))))) Q4 ?_
 refine⟨(Kw d),dsp (fun h1 p1=>?_) fun h1 p1=>?_⟩
 refine⟨h1,(sB ?_),rfl⟩
 rotate_left
 refine dsp (fun h2 p2=>?_) fun h2 p2=>?_
 refine⟨h2,(sB ?_),rfl⟩
 rotate_left
 refine dsp (fun h3 p3=>?_) fun h3 p3=>?_
 refine⟨(sB ?_),rfl⟩
 rotate_left
 refine dsp (fun h4 p4=>?_) fun h4 p4=>?_
 refine⟨h4,dsp (fun h5 p5=>?_) fun h5 p5=>?_⟩
 refine dsp (fun h6 p6=>?_) fun h6 p6=>?_
 refine⟨(Wj d.scan),(sB ?_),rfl⟩
 rotate_left
 refine⟨(P5 d Q2),h5,(Ac Q2 Q2),(Bh _ _ _),fun h7=>have p7:=Av h7;?_,fun h7=>have p7:=A4 h7;?_⟩
 refine⟨(Ac Q2 Q2),(Bp Q2 Q2),Q2,dsp (fun h8 p8=>?_) fun h8 p8=>?_⟩
 refine⟨(Ac Q2 Q2),(sB ?_),rfl⟩
 rotate_left
 refine⟨(sB ?_),rfl⟩
 rotate_left
 refine⟨(sB ?_),rfl⟩
 rotate_left
 refine⟨(P5 d Q2),h5,(Ac Q2 Q2),(Bh _ _ _),fun h6=>have p6:=Av h6;?_,fun h6=>have p6:=A4 h6;?_⟩
 refine⟨(Ac Q2 Q2),(Bp Q2 Q2),Q2,dsp (fun h7 p7=>?_) fun h7 p7=>?_⟩
 refine⟨(Ac Q2 Q2),(sB ?_),rfl⟩
 rotate_left
 refine⟨(sB ?_),rfl⟩
 rotate_left
 refine⟨(sB ?_),rfl⟩
 rotate_left
 refine dsp (fun h5 p5=>?_) fun h5 p5=>?_
 refine⟨h5,dsp (fun h6 p6=>?_) fun h6 p6=>?_⟩
 refine⟨(Wj d.scan),(sB ?_),rfl⟩
 rotate_left
 refine⟨(P5 d Q2),h5,(Ac Q2 Q2),(Bh _ _ _),fun h7=>have p7:=Av h7;?_,fun h7=>have p7:=A4 h7;?_⟩
 refine⟨(Ac Q2 Q2),(Bp Q2 Q2),Q2,dsp (fun h8 p8=>?_) fun h8 p8=>?_⟩
 refine⟨(Ac Q2 Q2),(sB ?_),rfl⟩
 rotate_left
 refine⟨(sB ?_),rfl⟩
 rotate_left
 refine⟨(sB ?_),rfl⟩
 rotate_left
 refine⟨(Wj d.scan),(sB ?_),rfl⟩
 rotate_left
 all_goals first|(simp_all[Adk,Apz,Re,Wm];done)|(grind[Adk,Apz,Re,Wm])
theorem C3 (d:Dcd) (hp1:List.length (d).stack≤Be):Fun Tryz.prog 87 [.agg (Cd d)] [] (.v (vB (Lq d))) []:=by
 have hN:Be=274877906944:=rfl
 have hwd:=Kx d
 refine Ar Tryz.func87 Q4 Q4 (w:=let z3:=8*d.scan.have_;let z2:=decide (Int.fdiv d.scan.bits (2 ^ min (Int.toNat z3) 64)=0);let z4:=(.v (vB (decide (d.scan.bits=0)&&decide (d.scan.have_=0))):S);let z6:=([]:List Blk);let z7:=vB (Lq d);let z9:=(.v (.c (.int .u64 (IntKind.u64.wrap z3))):S)= .v (.c (.int .u64 z3));let z10:=B1 d-1;let z1:=Aq d.scan.have_ 0 z10;let z11:=z2=false→(.v (vB false):S)= .v z7∧z6=[];let z12:=z1=false→(.v (vB false):S)= .v z7∧z6=[];let z13:=(.v (vI (IntKind.i64.wrap z3)):S)= .v (vI z3);let z15:=B1 d;let z5:=z15-d.scan.have_;let z8:=(.v (vI (IntKind.i64.wrap (z15-1))):S)= .v (vI z10);let z14:=(.v (vI (IntKind.i64.wrap z5)):S)= .v (vI z5);let z16:=vB (Dx d.scan);(.seg [.call [] (.v (vI z15)) []] (.br (.seg [.call [] (.v (vI (Ef d))) []] (.br (.seg [.as 21 (.v (vI z10)),.call [] (.v (vB z1)) []] (.br (.seg [.as 30 (.v (vI z3)),.as 31 (.v (.c (.int .u64 z3)))] (.br (.seg [.as 40 (.v (vI z5))] (.leaf () [])) (.leaf () []))) (.leaf () []))) (.seg [.as 21 (.v (vI z10)),.call [] (.v (vB z1)) []] (.br (.seg [.as 30 (.v (vI z3)),.as 31 (.v (.c (.int .u64 z3)))] (.br (.seg [.as 40 (.v (vI z5))] (.leaf () [])) (.leaf () []))) (.leaf () []))))) (.br (.leaf () []) (.br (.leaf () []) (.br (.leaf () []) (.seg [.call [] (.v z16) []] (.leaf () [])))))),(Fun Tryz.prog 121 [.agg (Cd d)] [] (.v (vI z15)) [])∧((decide (0<B1 d))=true→(Fun Tryz.prog 85 [.agg (Cd d)] [] (.v (vI (Ef d))) [])∧((decide (d.mode=8))=true→z8∧(Fun Tryz.prog 79 [vI d.scan.have_,vI 0,vI z10] [] (.v (vB z1)) [])∧(z1=true→z13∧z9∧((0:Int)≤8*d.scan.have_)∧(z2=true→z14∧(.v (vB (decide (z15-d.scan.have_≤d.want))):S)= .v z7∧z6=[])∧z11)∧z12)∧((decide (d.mode=8))=false→z8∧(Fun Tryz.prog 79 [vI d.scan.have_,vI 0,vI z10] [] (.v (vB z1)) [])∧(z1=true→z13∧z9∧((0:Int)≤8*d.scan.have_)∧(z2=true→z14∧(.v (vB (decide (z15-d.scan.have_≤Ef d))):S)= .v z7∧z6=[])∧z11)∧z12))∧((decide (0<B1 d))=false→((decide (d.mode=6))=true→z4= .v z7∧z6=[])∧((decide (d.mode=6))=false→((decide (d.mode=7))=true→z4= .v z7∧z6=[])∧((decide (d.mode=7))=false→((decide (d.mode=9))=true→z4= .v z7∧z6=[])∧((decide (d.mode=9))=false→(Fun Tryz.prog 147 [.agg (Qb d.scan)] [] (.v z16) [])∧(.v z16:S)= .v z7∧z6=[])))))) Q4 ?_
 refine⟨(R6 d),dsp (fun h1 p1=>?_) fun h1 p1=>?_⟩
 refine⟨(Ep d Q2),dsp (fun h2 p2=>?_) fun h2 p2=>?_⟩
 refine⟨(Ac Q2 Q2),(Ch _ _ _),fun h3=>have p3:=Av h3;?_,fun h3=>have p3:=A4 h3;?_⟩
 refine⟨(Ac Q2 Q2),(Bp Q2 Q2),Q2,dsp (fun h4 p4=>?_) fun h4 p4=>?_⟩
 refine⟨(Ac Q2 Q2),(sB ?_),rfl⟩
 rotate_left
 refine⟨(sB ?_),rfl⟩
 rotate_left
 refine⟨(sB ?_),rfl⟩
 rotate_left
 refine⟨(Ac Q2 Q2),(Ch _ _ _),fun h3=>have p3:=Av h3;?_,fun h3=>have p3:=A4 h3;?_⟩
 refine⟨(Ac Q2 Q2),(Bp Q2 Q2),Q2,dsp (fun h4 p4=>?_) fun h4 p4=>?_⟩
 refine⟨(Ac Q2 Q2),(sB ?_),rfl⟩
 rotate_left
 refine⟨(sB ?_),rfl⟩
 rotate_left
 refine⟨(sB ?_),rfl⟩
 rotate_left
 refine dsp (fun h2 p2=>?_) fun h2 p2=>?_
 refine⟨(sB ?_),rfl⟩
 rotate_left
 refine dsp (fun h3 p3=>?_) fun h3 p3=>?_
 refine⟨(sB ?_),rfl⟩
 rotate_left
 refine dsp (fun h4 p4=>?_) fun h4 p4=>?_
 refine⟨(sB ?_),rfl⟩
 rotate_left
 refine⟨(Aev d.scan),(sB ?_),rfl⟩
 rotate_left
 all_goals first|(simp_all[Lq,Re,Wm];done)|(grind[Lq,Re,Wm])
theorem C4 (d:Dcd) (hp1:List.length (d).stack≤Be):Fun Tryz.prog 86 [.agg (Cd d)] [] (.v (vB (Kb d&&Kc d))) []:=by
 have hN:Be=274877906944:=rfl
 have hww:Az d.wire=0∨0≤d.wire:=by unfold Az;split<;>(try split)<;>omega
 refine Ar Tryz.func86 Q4 Q4 (w:=let z1:= !(!(decide (d.field.number=0)&&(decide (d.field.kind=0)&&(decide (d.field.rep=false)&&(decide (d.field.packed=false)&&decide (d.field.msg=0))))));let z2:=vB (Kb d&&Kc d);let z3:=vB (Cq d.field d.wire);let z4:=([]:List Blk);let z5:=Aq d.want 1 (Ef d);let z7:=(.v (vB false):S);let z8:=decide (d.mode=6);let z9:=decide (d.mode=8);let z10:=vB (Ta d.field);let z11:=decide (0<Az d.wire);let z12:=Ej d.field;let z13:=(!z5)=true→z7= .v z2∧z4=[];let z15:=vI (Az d.wire);let z16:=decide (d.mode=3);let z17:=decide (d.wire=0);let z18:=decide (d.mode=4);let z19:=decide (d.wire=2);let z20:=vI (Ef d);let z21:List V:=[vI d.want,vI 1,vI (Ef d)];let z22:=(.v z3:S);let z23:=decide (d.mode=7);let z24:=decide (d.mode=5);let z25:=z17=false→z7= .v z2∧z4=[];let z26:=z19=false→z7= .v z2∧z4=[];let z27:=z11=false→z7= .v z2∧z4=[];let z28:=(.v (vB true):S);let z6:=z1=true→z28= .v z2∧z4=[];let z14:=z24=false→z28= .v z2∧z4=[];(.br (.seg [.br true,.ord (os 6 [3,4]) [],.call [] (.v z20) [],.call [] (.v (vB z5)) []] (.br (.leaf () []) (.seg [.br true] (.br (.leaf () []) (.leaf () []))))) (.br (.seg [.br true,.ord (os 6 [3,4]) [],.call [] (.v z20) [],.call [] (.v (vB z5)) []] (.br (.leaf () []) (.seg [.br false] (.br (.seg [.call [] (.v z10) []] (.leaf () [])) (.br (.br (.br (.leaf () []) (.seg [.call [] (.v z3) []] (.leaf () []))) (.leaf () [])) (.br (.br (.br (.leaf () []) (.seg [.call [] (.v z3) []] (.leaf () []))) (.leaf () [])) (.br (.seg [.call [] (.v z15) []] (.br (.br (.leaf () []) (.seg [.call [] (.v z3) []] (.leaf () []))) (.leaf () []))) (.leaf () [])))))))) (.br (.seg [.ord (os 6 [3,4]) [],.call [] (.v z20) [],.call [] (.v (vB z5)) []] (.br (.leaf () []) (.seg [.br false,.br true,.call [] (.v z10) []] (.leaf () [])))) (.br (.leaf () []) (.seg [.br false,.br false] (.br (.br (.br (.leaf () []) (.seg [.call [] (.v z3) []] (.leaf () []))) (.leaf () [])) (.br (.br (.br (.leaf () []) (.seg [.call [] (.v z3) []] (.leaf () []))) (.leaf () [])) (.br (.seg [.call [] (.v z15) []] (.br (.br (.leaf () []) (.seg [.call [] (.v z3) []] (.leaf () []))) (.leaf () []))) (.leaf () [])))))))),(z8=true→(z8=true)∧(Fun Tryz.prog 85 [.agg (Cd d)] [] (.v z20) [])∧(Fun Tryz.prog 79 z21 [] (.v (vB z5)) [])∧z13∧((!z5)=false→(z8=true)∧((decide (d.field.kind=6))=true→z28= .v z2∧z4=[])∧((decide (d.field.kind=6))=false→(.v (vB (decide (d.field.kind=7))):S)= .v z2∧z4=[])))∧(z8=false→(z23=true→(z23=true)∧(Fun Tryz.prog 85 [.agg (Cd d)] [] (.v z20) [])∧(Fun Tryz.prog 79 z21 [] (.v (vB z5)) [])∧z13∧((!z5)=false→(z8=false)∧(z9=true→(Fun Tryz.prog 144 [.agg z12] [] (.v z10) [])∧(.v z10:S)= .v z2∧z4=[])∧(z9=false→(z16=true→(z17=true→z6∧(z1=false→(Fun Tryz.prog 145 [.agg z12,vI d.wire] [] (.v z3) [])∧z22= .v z2∧z4=[]))∧z25)∧(z16=false→(z18=true→(z19=true→z6∧(z1=false→(Fun Tryz.prog 145 [.agg z12,vI d.wire] [] (.v z3) [])∧z22= .v z2∧z4=[]))∧z26)∧(z18=false→(z24=true→(Fun Tryz.prog 146 [vI d.wire] [] (.v z15) [])∧(z11=true→z6∧(z1=false→(Fun Tryz.prog 145 [.agg z12,vI d.wire] [] (.v z3) [])∧z22= .v z2∧z4=[]))∧z27)∧z14)))))∧(z23=false→(z9=true→(Fun Tryz.prog 85 [.agg (Cd d)] [] (.v z20) [])∧(Fun Tryz.prog 79 z21 [] (.v (vB z5)) [])∧z13∧((!z5)=false→(z8=false)∧(z9=true)∧(Fun Tryz.prog 144 [.agg z12] [] (.v z10) [])∧(.v z10:S)= .v z2∧z4=[]))∧(z9=false→((!decide (d.want=0))=true→z7= .v z2∧z4=[])∧((!decide (d.want=0))=false→(z8=false)∧(z9=false)∧(z16=true→(z17=true→z6∧(z1=false→(Fun Tryz.prog 145 [.agg z12,vI d.wire] [] (.v z3) [])∧z22= .v z2∧z4=[]))∧z25)∧(z16=false→(z18=true→(z19=true→z6∧(z1=false→(Fun Tryz.prog 145 [.agg z12,vI d.wire] [] (.v z3) [])∧z22= .v z2∧z4=[]))∧z26)∧(z18=false→(z24=true→(Fun Tryz.prog 146 [vI d.wire] [] (.v z15) [])∧(z11=true→z6∧(z1=false→(Fun Tryz.prog 145 [.agg z12,vI d.wire] [] (.v z3) [])∧z22= .v z2∧z4=[]))∧z27)∧z14)))))))) Q4 ?_
 refine dsp (fun h1 p1=>?_) fun h1 p1=>?_
 refine⟨h1,(Ep d Q2),(Ch _ _ _),fun h2=>have q2:=Ap h2;have p2:=A4 q2;?_,fun h2=>have q2:=Ao h2;have p2:=Av q2;?_⟩
 refine⟨(sB ?_),rfl⟩
 rotate_left
 refine⟨h1,dsp (fun h3 p3=>?_) fun h3 p3=>?_⟩
 refine⟨(sB ?_),rfl⟩
 rotate_left
 refine⟨(sB ?_),rfl⟩
 rotate_left
 refine dsp (fun h2 p2=>?_) fun h2 p2=>?_
 refine⟨h2,(Ep d Q2),(Ch _ _ _),fun h3=>have q3:=Ap h3;have p3:=A4 q3;?_,fun h3=>have q3:=Ao h3;have p3:=Av q3;?_⟩
 refine⟨(sB ?_),rfl⟩
 rotate_left
 refine⟨h1,dsp (fun h4 p4=>?_) fun h4 p4=>?_⟩
 refine⟨(Ah0 d.field),(sB ?_),rfl⟩
 rotate_left
 refine dsp (fun h5 p5=>?_) fun h5 p5=>?_
 refine dsp (fun h6 p6=>?_) fun h6 p6=>?_
 refine⟨fun h7=>have q7:=Ap h7;have q7':=Ao q7;have p7:=(Cw dT (Cw dT (Cw dT (Cw dT dT)))).1 q7';?_,fun h7=>have q7:=Ao h7;have q7':=Ap q7;have p7:=(Cx dT (Cx dT (Cx dT (Cx dT dF)))).1 q7';?_⟩
 refine⟨(sB ?_),rfl⟩
 rotate_left
 refine⟨(J2 d.field _ Q2),(sB ?_),rfl⟩
 rotate_left
 refine⟨(sB ?_),rfl⟩
 rotate_left
 refine dsp (fun h6 p6=>?_) fun h6 p6=>?_
 refine dsp (fun h7 p7=>?_) fun h7 p7=>?_
 refine⟨fun h8=>have q8:=Ap h8;have q8':=Ao q8;have p8:=(Cw dT (Cw dT (Cw dT (Cw dT dT)))).1 q8';?_,fun h8=>have q8:=Ao h8;have q8':=Ap q8;have p8:=(Cx dT (Cx dT (Cx dT (Cx dT dF)))).1 q8';?_⟩
 refine⟨(sB ?_),rfl⟩
 rotate_left
 refine⟨(J2 d.field _ Q2),(sB ?_),rfl⟩
 rotate_left
 refine⟨(sB ?_),rfl⟩
 rotate_left
 refine dsp (fun h7 p7=>?_) fun h7 p7=>?_
 refine⟨(Fw _),dsp (fun h8 p8=>?_) fun h8 p8=>?_⟩
 refine⟨fun h9=>have q9:=Ap h9;have q9':=Ao q9;have p9:=(Cw dT (Cw dT (Cw dT (Cw dT dT)))).1 q9';?_,fun h9=>have q9:=Ao h9;have q9':=Ap q9;have p9:=(Cx dT (Cx dT (Cx dT (Cx dT dF)))).1 q9';?_⟩
 refine⟨(sB ?_),rfl⟩
 rotate_left
 refine⟨(J2 d.field _ Q2),(sB ?_),rfl⟩
 rotate_left
 refine⟨(sB ?_),rfl⟩
 rotate_left
 refine⟨(sB ?_),rfl⟩
 rotate_left
 refine dsp (fun h3 p3=>?_) fun h3 p3=>?_
 refine⟨(Ep d Q2),(Ch _ _ _),fun h4=>have q4:=Ap h4;have p4:=A4 q4;?_,fun h4=>have q4:=Ao h4;have p4:=Av q4;?_⟩
 refine⟨(sB ?_),rfl⟩
 rotate_left
 refine⟨h1,h3,(Ah0 d.field),(sB ?_),rfl⟩
 rotate_left
 refine⟨fun h4=>have q4:=Ap h4;have p4:=of_decide_eq_false q4;?_,fun h4=>have q4:=Ao h4;have p4:=of_decide_eq_true q4;?_⟩
 refine⟨(sB ?_),rfl⟩
 rotate_left
 refine⟨h1,h3,dsp (fun h5 p5=>?_) fun h5 p5=>?_⟩
 refine dsp (fun h6 p6=>?_) fun h6 p6=>?_
 refine⟨fun h7=>have q7:=Ap h7;have q7':=Ao q7;have p7:=(Cw dT (Cw dT (Cw dT (Cw dT dT)))).1 q7';?_,fun h7=>have q7:=Ao h7;have q7':=Ap q7;have p7:=(Cx dT (Cx dT (Cx dT (Cx dT dF)))).1 q7';?_⟩
 refine⟨(sB ?_),rfl⟩
 rotate_left
 refine⟨(J2 d.field _ Q2),(sB ?_),rfl⟩
 rotate_left
 refine⟨(sB ?_),rfl⟩
 rotate_left
 refine dsp (fun h6 p6=>?_) fun h6 p6=>?_
 refine dsp (fun h7 p7=>?_) fun h7 p7=>?_
 refine⟨fun h8=>have q8:=Ap h8;have q8':=Ao q8;have p8:=(Cw dT (Cw dT (Cw dT (Cw dT dT)))).1 q8';?_,fun h8=>have q8:=Ao h8;have q8':=Ap q8;have p8:=(Cx dT (Cx dT (Cx dT (Cx dT dF)))).1 q8';?_⟩
 refine⟨(sB ?_),rfl⟩
 rotate_left
 refine⟨(J2 d.field _ Q2),(sB ?_),rfl⟩
 rotate_left
 refine⟨(sB ?_),rfl⟩
 rotate_left
 refine dsp (fun h7 p7=>?_) fun h7 p7=>?_
 refine⟨(Fw _),dsp (fun h8 p8=>?_) fun h8 p8=>?_⟩
 refine⟨fun h9=>have q9:=Ap h9;have q9':=Ao q9;have p9:=(Cw dT (Cw dT (Cw dT (Cw dT dT)))).1 q9';?_,fun h9=>have q9:=Ao h9;have q9':=Ap q9;have p9:=(Cx dT (Cx dT (Cx dT (Cx dT dF)))).1 q9';?_⟩
 refine⟨(sB ?_),rfl⟩
 rotate_left
 refine⟨(J2 d.field _ Q2),(sB ?_),rfl⟩
 rotate_left
 refine⟨(sB ?_),rfl⟩
 rotate_left
 refine⟨(sB ?_),rfl⟩
 rotate_left
 all_goals first|(simp_all[Kb,Kc,Anb,Dc,Hb];done)|(grind[Kb,Kc,Anb,Dc,Hb])
end Go.Proofs.YtcmnedgnppnhoaaGreat.Ax
