/- Models: the grammar. The grammar: numbers, Ta, texts. The grammar: texts. The grammar: values with a length. -/
import Derived.Test.YtcmnedgnppnhoaaGreatKS1
import Derived.Test.YtcmnedgnppnhoaaGreatKS2
set_option linter.unusedSimpArgs false
set_option linter.unusedVariables false
namespace Go.Proofs.YtcmnedgnppnhoaaGreat.Ax
open Go.RowKit
structure Mr where
 plan:Pln
 s:List UInt8
 at_:Int
 out:List Ev
 fail:Ev
 deriving Inhabited
def Bg (r:Mr) (c a:Int):Mr:=⟨r.plan,r.s,r.at_,r.out,Aw c a⟩
def S8 (r:Mr) (a:Int):Mr:=⟨r.plan,r.s,a,r.out,r.fail⟩
def Am (r:Mr) (e:Ev):Mr:=⟨r.plan,r.s,r.at_,r.out++[e],r.fail⟩
def Bd (r:Mr) (end_:Int):Bool:=decide ((Ah r.s r.at_ end_).2.2=0)
def An (r:Mr) (end_:Int):Int:=if Bd r end_ then (Ah r.s r.at_ end_).1 else 0
def Ae (r:Mr) (end_:Int):Mr:=if Bd r end_ then S8 r (Ah r.s r.at_ end_).2.1 else Bg r (Ah r.s r.at_ end_).2.2 (Ah r.s r.at_ end_).2.1
def Ge (r:Mr) (w end_:Int):Bool:=decide (w≤end_-r.at_)&&Dj r.s r.at_ w
def F4 (r:Mr) (w end_:Int):Int:=if Ge r w end_ then Hi r.s r.at_ w else 0
def Fb (r:Mr) (w end_:Int):Mr:=if end_-r.at_<w then Bg r 9 r.at_ else if Dj r.s r.at_ w then S8 r (r.at_+w) else Bg r 10 (r.s.length:Int)
def Dp (r:Mr) (wire end_:Int):Bool:=if 0<Az wire then Ge r (Az wire) end_ else Bd r end_
def Eh (r:Mr) (wire end_:Int):Int:=if 0<Az wire then F4 r (Az wire) end_ else An r end_
def Cp (r:Mr) (wire end_:Int):Mr:=if 0<Az wire then Fb r (Az wire) end_ else Ae r end_
def B4 (r:Mr) (f:Fld) (wire end_:Int):Mr:=if Dp r wire end_=true∧0<f.number then Am (Cp r wire end_) (D1 f (Eh r wire end_)) else Cp r wire end_
def Cz {α:Type} (go:α→Bool) (step:α→α):Nat→α→α
 |0,a=>a
 |k+1,a=>if go a then Cz go step k (step a) else a
theorem Cn {α:Type} {go:α→Bool} {step:α→α} {k:Nat} {a:α} (h:go a=false):Cz go step k a=a:=by
 cases k with
 |zero=>rfl
 |succ k=>simp[Cz,h]
theorem Zy {α:Type} {go:α→Bool} {step:α→α} (inv:α→Prop) (μ:α→Nat) (dec: ∀a,inv a→go a=true→inv (step a)∧μ (step a)<μ a): ∀(n:Nat) (a:α) (k l:Nat),μ a≤n→inv a→μ a≤k→μ a≤l→Cz go step k a=Cz go step l a:=by
 intro n
 induction n with
 |zero=>
  intro a k l h hi _ _
  cases hg:go a with
  |false=>rw[Cn hg,Cn hg]
  |true=>have:=(dec a hi hg).2;omega
 |succ n ih=>
  intro a k l h hi hk hl
  cases hg:go a with
  |false=>rw[Cn hg,Cn hg]
  |true=>
   obtain ⟨h1,h2⟩:=dec a hi hg
   obtain ⟨k,rfl⟩: ∃j,k=j+1:=⟨k-1,by omega⟩
   obtain ⟨l,rfl⟩: ∃j,l=j+1:=⟨l-1,by omega⟩
   simp only[Cz,hg,if_true]
   exact ih _ _ _ Q2 h1 Q2 Q2
theorem Aa0 {α:Type} {go:α→Bool} {step:α→α} (inv:α→Prop) (μ:α→Nat) (dec: ∀a,inv a→go a=true→inv (step a)∧μ (step a)<μ a) {a:α} (hi:inv a) (hg:go a=true):Cz go step (μ a) a=Cz go step (μ (step a)) (step a):=by
 obtain ⟨h1,h2⟩:=dec a hi hg
 obtain ⟨k,hk⟩: ∃j,μ a=j+1:=⟨μ a-1,by omega⟩
 rw[hk]
 simp only[Cz,hg,if_true]
 exact Zy inv μ dec _ _ _ _ (Nat.le_refl _) h1 Q2 (Nat.le_refl _)
def Eu (end_:Int) (r:Mr):Bool:=decide (r.at_<end_)&&decide (r.fail.kind=0)
def Gq (r:Mr):Nat:=if r.fail.kind=0 then (1+(r.s.length:Int)-r.at_).toNat else 0
def Ho (r:Mr) (f:Fld) (end_:Int):Mr:=Cz (Eu end_) (fun r=>B4 r f (Br f.kind) end_) (Gq r) r
def A5 (f:Fld) (n:Int):Ev:=⟨3,f.number,0,n,[],0,0⟩
def Acg (t:List UInt8):Ev:=⟨4,0,0,0,t,0,0⟩
def G3:Ev:=⟨5,0,0,0,[],0,0⟩
def En (f:Fld) (n:Int):Ev:=⟨6,f.number,0,n,[],0,0⟩
def Api:Ev:=⟨7,0,0,0,[],0,0⟩
def A0 (r:Mr) (n:Int):List UInt8:=(r.s.drop r.at_.toNat).take n.toNat
def Kf (r:Mr) (f:Fld) (n:Int):Int:=if f.kind=6 then D6 utf0 (A0 r n) else-1
def Yt (r:Mr) (f:Fld) (n:Int):Utf:=if f.kind=6 then J1 utf0 (A0 r n) else utf0
def Lw (r:Mr) (f:Fld) (n:Int):List UInt8:=if 0≤Kf r f n then (A0 r n).take (Kf r f n).toNat else A0 r n
def Ew (r:Mr) (f:Fld) (n:Int):Mr:=if Lw r f n=[] then Am r (A5 f n) else Am (Am r (A5 f n)) (Acg (Lw r f n))
def Bx (r:Mr) (f:Fld) (n:Int):Mr:=
 if 0≤Kf r f n then Bg (Ew r f n) 5 (r.at_+Kf r f n)
 else if ((A0 r n).length:Int)<n then Bg (Ew r f n) 10 (r.s.length:Int)
 else if (Yt r f n).want≠0 then Bg (Ew r f n) 5 (r.at_+n)
 else Am (S8 (Ew r f n) (r.at_+n)) G3
def Bf (sub:Mr→Fld→Int→Int→Mr) (r:Mr) (f:Fld) (known:Bool) (end_:Int):Mr:=
 if Bd r end_=false then Ae r end_
 else if end_-(Ae r end_).at_<An r end_ then Bg (Ae r end_) 8 r.at_
 else if known=false then (if (r.s.length:Int)-(Ae r end_).at_<An r end_ then Bg (Ae r end_) 10 (r.s.length:Int) else S8 (Ae r end_) ((Ae r end_).at_+An r end_))
 else if f.kind=8 then sub (Ae r end_) f (An r end_) r.at_
 else if Cy f.kind=true then Ho (Ae r end_) f ((Ae r end_).at_+An r end_)
 else Bx (Ae r end_) f (An r end_)
def Dv (sub:Mr→Fld→Int→Int→Mr) (shape end_:Int) (r:Mr):Mr:=
 if Bd r end_=false then Ae r end_
 else if Gv (An r end_)=false then Bg (Ae r end_) 2 r.at_
 else if C7 (Ag (An r end_))=false then Bg (Ae r end_) 3 r.at_
 else if (fieldAt r.plan.shapes shape (Ba (An r end_))).isSome=true∧Cq ((fieldAt r.plan.shapes shape (Ba (An r end_))).getD fld0) (Ag (An r end_))=false then Bg (Ae r end_) 4 r.at_
 else if Ag (An r end_)=2 then Bf sub (Ae r end_) ((fieldAt r.plan.shapes shape (Ba (An r end_))).getD fld0) (fieldAt r.plan.shapes shape (Ba (An r end_))).isSome end_
 else B4 (Ae r end_) ((fieldAt r.plan.shapes shape (Ba (An r end_))).getD fld0) (Ag (An r end_)) end_
def D8:Nat→Int→Int→Mr→Mr
 |0,shape,end_,r=>Cz (Eu end_) (Dv (fun r _ _ start=>Bg r 6 start) shape end_) (Gq r) r
 |D+1,shape,end_,r=>Cz (Eu end_) (Dv (fun r f n _=>if (D8 D f.msg (r.at_+n) (Am r (En f n))).fail.kind=0 then Am (D8 D f.msg (r.at_+n) (Am r (En f n))) Api else D8 D f.msg (r.at_+n) (Am r (En f n))) shape end_) (Gq r) r
def Gh:Nat→Mr→Fld→Int→Int→Mr
 |0=>fun r _ _ start=>Bg r 6 start
 |D+1=>fun r f n _=>if (D8 D f.msg (r.at_+n) (Am r (En f n))).fail.kind=0 then Am (D8 D f.msg (r.at_+n) (Am r (En f n))) Api else D8 D f.msg (r.at_+n) (Am r (En f n))
theorem Fz (D:Nat) (shape end_:Int) (r:Mr):D8 D shape end_ r=Cz (Eu end_) (Dv (Gh D) shape end_) (Gq r) r:=by
 cases D<;>rfl
/-! ### What steps keep -/
theorem Anm {s:List UInt8} {a e:Int} : ∀(f k:Nat) (u:Int),(vwA s a e f k u).2.2=0→a+k<(vwA s a e f k u).2.1∧(vwA s a e f k u).2.1≤e∧(vwA s a e f k u).2.1≤(s.length:Int)
 |0,k,u=>by simp[vwA]
 |f+1,k,u=>by
  rw[vwA]
  split
  ·simp
  split
  ·simp
  split
  ·simp
  split
  ·simp;omega
  ·intro h
   have:=Anm f (k+1) _ h
   rw[show ((k+1:Nat):Int)=(k:Int)+1 by simp] at this
   omega
theorem Mq {s:List UInt8} {a e:Int} (h:(Ah s a e).2.2=0):0≤a∧a<(Ah s a e).2.1∧(Ah s a e).2.1≤e∧(Ah s a e).2.1≤(s.length:Int):=by
 unfold Ah at h ⊢
 split
 ·rename_i hw
  rw[if_pos hw] at h
  have:=Av hw
  have:=Anm 10 0 0 h
  rw[show ((0:Nat):Int)=0 from rfl] at this
  omega
 ·rename_i hw
  rw[if_neg hw] at h
  simp at h
structure Adv (r r':Mr):Prop where
 plan:r'.plan=r.plan
 s:r'.s=r.s
 at_:r'.fail.kind=0→r.at_≤r'.at_∧r'.at_≤(r.s.length:Int)
 fail:r'.fail.kind=0→r'.fail=r.fail
 room:r'.fail.kind=0→(r'.out.length:Int)+4*((r.s.length:Int)-r'.at_)≤(r.out.length:Int)+4*((r.s.length:Int)-r.at_)
 most:(r'.out.length:Int)≤(r.out.length:Int)+4*((r.s.length:Int)-r.at_)
def Adv1 (r r':Mr):Prop:=Adv r r'∧(r'.fail.kind=0→r.at_<r'.at_)
theorem Adv.trans {a b c:Mr} (h:Adv a b) (hb:b.fail.kind=0) (g:Adv b c):Adv a c:=by
 obtain ⟨h1,h2⟩:=h.at_ hb
 have hr:=h.room hb
 have gm:=g.most
 rw[h.s] at gm
 refine⟨g.plan.trans h.plan,g.s.trans h.s,fun hc=>?_,fun hc=>(g.fail hc).trans (h.fail hb),fun hc=>?_,by omega⟩
 ·have:=g.at_ hc
  rw[h.s] at this
  omega
 ·have:=g.room hc
  rw[h.s] at this
  omega
theorem Adv.refl (r:Mr) (h:r.at_≤(r.s.length:Int)):Adv r r:=⟨rfl,rfl,fun _=>⟨Int.le_refl _,h⟩,fun _=>rfl,fun _=>Int.le_refl _,by omega⟩
theorem Adv1.trans {a b c:Mr} (h:Adv1 a b) (hb:b.fail.kind=0) (g:Adv b c):Adv1 a c:=
 ⟨h.1.trans hb g,fun hc=>by
  have h1:=h.2 hb
  have:=g.at_ hc
  omega⟩
theorem Adv.failed {r r':Mr} (hp:r'.plan=r.plan) (hs:r'.s=r.s) (hk:r'.fail.kind≠0) (ho:(r'.out.length:Int)≤(r.out.length:Int)+4*((r.s.length:Int)-r.at_)):Adv r r':=
 ⟨hp,hs,fun h=>(hk h).elim,fun h=>(hk h).elim,fun h=>(hk h).elim,ho⟩
theorem Adv1.failed {r r':Mr} (hp:r'.plan=r.plan) (hs:r'.s=r.s) (hk:r'.fail.kind≠0) (ho:(r'.out.length:Int)≤(r.out.length:Int)+4*((r.s.length:Int)-r.at_)):Adv1 r r':=
 ⟨Adv.failed hp hs hk ho,fun h=>(hk h).elim⟩
theorem Ca (r:Mr) (c a:Int):(Bg r c a).fail.kind≠0:=by simp[Bg,Aw]
theorem U7 {r:Mr} {c a:Int} (h:r.at_≤(r.s.length:Int)):Adv1 r (Bg r c a):=Adv1.failed rfl rfl (Ca r c a) (by simp only[Bg];omega)
theorem Aa1 {r:Mr} {e:Int} (h:Bd r e=true):Ae r e=S8 r (Ah r.s r.at_ e).2.1:=by unfold Ae;rw[if_pos h]
theorem X7 {r:Mr} {e:Int} (h:Bd r e=false):Ae r e=Bg r (Ah r.s r.at_ e).2.2 (Ah r.s r.at_ e).2.1:=by unfold Ae;rw[if_neg (by simp[h])]
theorem Ae3 {r:Mr} {a:Int} (h1:r.at_<a) (h2:a≤(r.s.length:Int)):Adv1 r (S8 r a):=
 ⟨⟨rfl,rfl,fun _=>⟨by simp only[S8];omega,h2⟩,fun _=>rfl,fun _=>by simp only[S8];omega,by simp only[S8];omega⟩,fun _=>h1⟩
theorem Eo {r:Mr} {e:Int} (h1:r.at_≤(r.s.length:Int)):Adv1 r (Ae r e)∧(Bd r e=true→0≤r.at_∧(Ae r e).at_≤e)∧(Ae r e).out=r.out:=by
 cases hok:Bd r e with
 |true=>
  rw[Aa1 hok]
  have hc:(Ah r.s r.at_ e).2.2=0:=by simpa [Bd] using hok
  have hv:=Mq hc
  exact⟨Ae3 hv.2.1 hv.2.2.2,fun _=>⟨hv.1,hv.2.2.1⟩,rfl⟩
 |false=>
  rw[X7 hok]
  exact⟨U7 h1,fun h=>by simp at h,rfl⟩
theorem C1 {r:Mr} {e:Int} (h0:r.fail.kind=0):Bd r e=decide ((Ae r e).fail.kind=0):=by
 cases hok:Bd r e with
 |true=>rw[Aa1 hok];simp[S8,h0]
 |false=>rw[X7 hok];rfl
theorem Ni {s:List UInt8} {a w:Int} (h:Dj s a w=true):(w=4∨w=8)∧0≤a∧a+w≤(s.length:Int):=by
 simp only[Dj,Bool.and_eq_true] at h
 have:=Av h.2
 exact⟨Abw h.1,by omega,by omega⟩
theorem Ach {r:Mr} {w e:Int} (h1:r.at_≤(r.s.length:Int)):Adv1 r (Fb r w e)∧(Fb r w e).out=r.out:=by
 unfold Fb
 split
 ·exact⟨U7 h1,rfl⟩
 ·split
  ·rename_i h2 h3
   have:=Ni h3
   exact⟨Ae3 Q2 Q2,rfl⟩
  ·exact⟨U7 h1,rfl⟩
theorem T9 {r:Mr} {w e:Int} (h1:r.at_≤(r.s.length:Int)):Adv1 r (Cp r w e)∧(Cp r w e).out=r.out:=by
 unfold Cp;split
 ·exact Ach h1
 ·exact⟨(Eo h1).1,(Eo h1).2.2⟩
theorem Ei {r:Mr} {w e:Int} (h0:r.fail.kind=0):Dp r w e=decide ((Cp r w e).fail.kind=0):=by
 unfold Dp Cp;split
 ·unfold Fb Ge
  split
  ·rename_i h;rw[decide_eq_false (by omega)];rfl
  ·rename_i h;rw[decide_eq_true (by omega)]
   split<;>rename_i h2
   ·simp[h2,S8,h0]
   ·simp[h2,Bg,Aw]
 ·exact C1 h0
theorem Amj {r r':Mr} {e:Ev} (h:Adv1 r r') (ho:r'.out=r.out) (hk:r'.fail.kind=0):Adv1 r (Am r' e):=by
 have ha:=h.1.at_ hk
 have hb:=h.2 hk
 refine⟨⟨h.1.plan,h.1.s,h.1.at_,h.1.fail,fun _=>?_,?_⟩,h.2⟩
 ·simp only[Am,List.length_append,List.length_cons,List.length_nil,ho];omega
 ·simp only[Am,List.length_append,List.length_cons,List.length_nil,ho];omega
theorem Jm {r:Mr} {f:Fld} {w e:Int} (h1:r.at_≤(r.s.length:Int)) (h0:r.fail.kind=0):Adv1 r (B4 r f w e):=by
 have hv:=T9 (w:=w) (e:=e) h1
 unfold B4
 split
 ·rename_i hh
  have:=hh.1
  rw[Ei h0] at this
  exact Amj hv.1 hv.2 (by simpa using this)
 ·exact hv.1
theorem Ua {go:Mr→Bool} {step:Mr→Mr} (hgo: ∀r,go r=true→r.fail.kind=0) (hstep: ∀r,r.at_≤(r.s.length:Int)→r.fail.kind=0→Adv1 r (step r)): ∀(k:Nat) (r:Mr),r.at_≤(r.s.length:Int)→Adv r (Cz go step k r)
 |0,r,h=>Adv.refl r h
 |k+1,r,h=>by
  unfold Cz
  cases hg:go r with
  |false=>exact Adv.refl r h
  |true=>
   have hk:=hgo r hg
   have hs:=hstep r h hk
   simp only[if_true]
   by_cases hk':(step r).fail.kind=0
   ·have:=hs.1.at_ hk'
    exact hs.1.trans hk' (Ua hgo hstep k (step r) (by rw[hs.1.s];exact this.2))
   ·have:Cz go step k (step r)=step r:=Cn (by cases hg':go (step r) with
     |false=>rfl
     |true=>exact(hk' (hgo _ hg')).elim)
    rw[this];exact hs.1
theorem Gf {e:Int} {r:Mr} (h:Eu e r=true):r.fail.kind=0:=by simp[Eu] at h;exact h.2
theorem Px {r r':Mr} (h1:r.at_≤(r.s.length:Int)) (h0:r.fail.kind=0) (h:Adv1 r r'):Gq r'<Gq r:=by
 unfold Gq
 rw[if_pos h0]
 split
 ·rename_i hk
  have:=h.2 hk
  have:=h.1.at_ hk
  rw[h.1.s];omega
 ·omega
theorem Ajd {r:Mr} {f:Fld} {e:Int} (h1:r.at_≤(r.s.length:Int)):Adv r (Ho r f e):=
 Ua (fun r h=>Gf h) (fun r h h0=>Jm h h0) _ r h1
theorem Ae4 {r:Mr} {f:Fld} {e:Int} (h1:r.at_≤(r.s.length:Int)) (hg:Eu e r=true):Ho r f e=Ho (B4 r f (Br f.kind) e) f e:=by
 unfold Ho
 refine Aa0 (fun r=>r.at_≤(r.s.length:Int)∨r.fail.kind≠0) Gq (fun a hi hg=>?_) (.inl h1) hg
 have hk:=Gf hg
 have ha:=hi.resolve_right (fun h=>h hk)
 have:=Jm (f:=f) (w:=Br f.kind) (e:=e) ha hk
 refine⟨?_,Px ha hk this⟩
 by_cases hk':(B4 a f (Br f.kind) e).fail.kind=0
 ·left;rw[this.1.s];exact(this.1.at_ hk').2
 ·exact .inr hk'
theorem Zz {r:Mr} {f:Fld} {e:Int} (hg:Eu e r=false):Ho r f e=r:=Cn hg
theorem Z0 {r:Mr} {f:Fld} {w e:Int} (h:Dp r w e=true) (hf:0<f.number):B4 r f w e=Am (Cp r w e) (D1 f (Eh r w e)):=by unfold B4;rw[if_pos ⟨h,hf⟩]
theorem Adu {r:Mr} {f:Fld} {w e:Int} (h:Dp r w e=false):B4 r f w e=Cp r w e:=by unfold B4;rw[if_neg (by simp[h])]
structure RunInv (r0:Mr) (f:Fld) (e:Int) (q:Mr):Prop where
 at_:q.at_≤(q.s.length:Int)
 fail:q.fail.kind=0
 adv:Adv r0 q
 run:Ho q f e=Ho r0 f e
theorem RunInv.refl {r:Mr} {f:Fld} {e:Int} (h1:r.at_≤(r.s.length:Int)) (h0:r.fail.kind=0):RunInv r f e r:=⟨h1,h0,Adv.refl r h1,rfl⟩
theorem RunInv.next {r q:Mr} {f:Fld} {e:Int} (h:RunInv r f e q) (hg:q.at_<e) (hok:Dp q (Br f.kind) e=true) (hf:0<f.number):RunInv r f e (Am (Cp q (Br f.kind) e) (D1 f (Eh q (Br f.kind) e))):=by
 have hgo:Eu e q=true:=by simp[Eu,hg,h.fail]
 have hs:=Jm (f:=f) (w:=Br f.kind) (e:=e) h.at_ h.fail
 have hr:=Ae4 (f:=f) h.at_ hgo
 rw[Z0 hok hf] at hs hr
 have hk:(Am (Cp q (Br f.kind) e) (D1 f (Eh q (Br f.kind) e))).fail.kind=0:=by
  rw[Ei h.fail] at hok;simpa [Am] using hok
 exact⟨by rw[hs.1.s];exact(hs.1.at_ hk).2,hk,h.adv.trans h.fail hs.1,hr.symm.trans h.run⟩
theorem RunInv.bad {r q:Mr} {f:Fld} {e:Int} (h:RunInv r f e q) (hg:q.at_<e) (hok:Dp q (Br f.kind) e=false):Ho r f e=Cp q (Br f.kind) e:=by
 have hgo:Eu e q=true:=by simp[Eu,hg,h.fail]
 have hr:=Ae4 (f:=f) h.at_ hgo
 rw[Adu hok] at hr
 rw[←h.run,hr]
 refine Zz ?_
 rw[Ei h.fail] at hok
 have:(Cp q (Br f.kind) e).fail.kind≠0:=by simpa using hok
 simp[Eu,this]
theorem RunInv.end_ {r q:Mr} {f:Fld} {e:Int} (h:RunInv r f e q) (hg: ¬q.at_<e):Ho r f e=q:=by
 rw[←h.run];exact Zz (by simp[Eu];omega)
theorem RunInv.room {r q:Mr} {f:Fld} {e:Int} (h:RunInv r f e q):q.s=r.s∧q.plan=r.plan∧r.at_≤q.at_∧(q.out.length:Int)+4*((r.s.length:Int)-q.at_)≤(r.out.length:Int)+4*((r.s.length:Int)-r.at_):=
 ⟨h.adv.s,h.adv.plan,(h.adv.at_ h.fail).1,h.adv.room h.fail⟩
theorem Amk (r:Mr) (w e:Int):0≤F4 r w e∧F4 r w e≤18446744073709551615:=by
 unfold F4
 split
 ·rename_i h;simp only[Ge,Bool.and_eq_true] at h
  have hw:=Ni h.2
  unfold Hi;rw[if_pos h.2]
  have:=Mz (l:=List.take w.toNat (List.drop r.at_.toNat r.s)) (k:=8) (by rw[List.length_take];omega)
  have e8:(2:Nat) ^ (8*8)=18446744073709551616:=by decide
  omega
 ·omega
theorem Aa2 (r:Mr) (w e:Int):0≤Eh r w e∧Eh r w e≤18446744073709551615:=by
 unfold Eh F4 An
 split
 ·split
  ·rename_i h;simp only[Ge,Bool.and_eq_true] at h
   have hw:=Ni h.2
   unfold Hi;rw[if_pos h.2]
   have:=Mz (l:=List.take (Az w).toNat (List.drop r.at_.toNat r.s)) (k:=8) (by rw[List.length_take];omega)
   have e8:(2:Nat) ^ (8*8)=18446744073709551616:=by decide
   omega
  ·omega
 ·split
  ·exact Lh _ _ _
  ·omega
theorem Gs (r:Mr) (e:Int):0≤An r e∧An r e≤18446744073709551615:=by
 unfold An;split
 ·exact Lh _ _ _
 ·omega
theorem Aa3 {b:Bool} (h:b=false):(!b)=true:=by rw[h];rfl
theorem Wp {b:Bool} (h:b=true):(!b)=false:=by rw[h];rfl
theorem Aci {s:List UInt8} {a n e:Int} (ha:0≤a) (hn:0≤n) (hl:a≤(s.length:Int)) (he:e=a+n∧a+n≤(s.length:Int)∨e=(s.length:Int)∧(s.length:Int)≤a+n):List.drop a.toNat (List.take e.toNat s)=(s.drop a.toNat).take n.toNat:=by
 rw[List.drop_take]
 rcases he with ⟨he,_⟩|⟨he,hm⟩
 ·rw[he,show (a+n).toNat-a.toNat=n.toNat by omega]
 ·rw[List.take_of_length_le (by rw[List.length_drop];omega),List.take_of_length_le (by rw[List.length_drop];omega)]
theorem Z1: ∀ {u:Utf} {s:List UInt8} {i j:Nat},(F2 u s i).2=some j→i≤j∧j<i+s.length
 |u,[],i,j,h=>by simp[F2] at h
 |u,b::r,i,j,h=>by
  unfold F2 at h
  split at h
  ·have:=Z1 h;simp only[List.length_cons];omega
  ·simp at h;simp only[List.length_cons];omega
theorem Aa4 (u:Utf) (s:List UInt8): -1≤D6 u s∧(0≤D6 u s→D6 u s<(s.length:Int)):=by
 unfold D6
 split
 ·rename_i h;have:=Z1 h;omega
 ·omega
theorem Ms {r:Mr} {n:Int} (hn:0≤n) (ha:0≤r.at_) (hl:r.at_≤(r.s.length:Int)):((A0 r n).length:Int)≤n∧((A0 r n).length:Int)≤(r.s.length:Int)-r.at_∧(((A0 r n).length:Int)<n→((A0 r n).length:Int)=(r.s.length:Int)-r.at_):=by
 unfold A0;rw[List.length_take,List.length_drop];omega
/-! ### Texts, messages -/
structure AdvB (b:Int) (r r':Mr):Prop where
 plan:r'.plan=r.plan
 s:r'.s=r.s
 at_:r'.fail.kind=0→r.at_≤r'.at_∧r'.at_≤(r.s.length:Int)
 fail:r'.fail.kind=0→r'.fail=r.fail
 room:r'.fail.kind=0→(r'.out.length:Int)+4*((r.s.length:Int)-r'.at_)≤(r.out.length:Int)+b+4*((r.s.length:Int)-r.at_)
 most:(r'.out.length:Int)≤(r.out.length:Int)+b+4*((r.s.length:Int)-r.at_)
theorem Adv.b {r r':Mr} (h:Adv r r'):AdvB 0 r r':=⟨h.plan,h.s,h.at_,h.fail,fun hk=>by have:=h.room hk;omega,by have:=h.most;omega⟩
theorem AdvB.tell {b:Int} {r r':Mr} (h:AdvB b r r') (e:Ev):AdvB (b+1) r (Am r' e):=
 ⟨h.plan,h.s,h.at_,h.fail,fun hk=>by have:=h.room hk;simp only[Am,List.length_append,List.length_cons,List.length_nil];omega,by have:=h.most;simp only[Am,List.length_append,List.length_cons,List.length_nil];omega⟩
theorem AdvB.failed {b:Int} {r r':Mr} (h:AdvB b r r') (c a:Int):AdvB b r (Bg r' c a):=
 ⟨h.plan,h.s,fun hk=>(Ca _ _ _ hk).elim,fun hk=>(Ca _ _ _ hk).elim,fun hk=>(Ca _ _ _ hk).elim,h.most⟩
theorem AdvB.moved {b:Int} {r r':Mr} (h:AdvB b r r') {a:Int} (h1:r'.fail.kind=0→r'.at_≤a) (h2:a≤(r.s.length:Int)):AdvB b r (S8 r' a):=
 ⟨h.plan,h.s,fun hk=>by have:=h.at_ hk;have:=h1 hk;exact⟨by simp only[S8];omega,h2⟩,h.fail,fun hk=>by have:=h.room hk;have:=h1 hk;simp only[S8];omega,h.most⟩
theorem AdvB.trans {b c:Int} {x y z:Mr} (h:AdvB b x y) (hb:y.fail.kind=0) (g:AdvB c y z):AdvB (b+c) x z:=by
 obtain ⟨h1,h2⟩:=h.at_ hb
 have hr:=h.room hb
 have gm:=g.most
 rw[h.s] at gm
 refine⟨g.plan.trans h.plan,g.s.trans h.s,fun hc=>?_,fun hc=>(g.fail hc).trans (h.fail hb),fun hc=>?_,by omega⟩
 ·have:=g.at_ hc
  rw[h.s] at this
  omega
 ·have:=g.room hc
  rw[h.s] at this
  omega
theorem AdvB.mono {b c:Int} {r r':Mr} (h:AdvB b r r') (hc:b≤c):AdvB c r r':=⟨h.plan,h.s,h.at_,h.fail,fun hk=>by have:=h.room hk;omega,by have:=h.most;omega⟩
theorem Adv1.after {b:Int} {r v w:Mr} (h:Adv1 r v) (ho:v.out=r.out) (hk:v.fail.kind=0) (g:AdvB b v w) (hb:b≤4):Adv1 r w:=by
 have h1:=h.1.at_ hk
 have h2:=h.2 hk
 have gm:=g.most
 rw[h.1.s,ho] at gm
 refine⟨⟨g.plan.trans h.1.plan,g.s.trans h.1.s,fun hc=>?_,fun hc=>(g.fail hc).trans (h.1.fail hk),fun hc=>?_,by omega⟩,fun hc=>?_⟩
 ·have:=g.at_ hc
  rw[h.1.s] at this
  omega
 ·have:=g.room hc
  rw[h.1.s,ho] at this
  omega
 ·have:=g.at_ hc
  omega
theorem X8 {r:Mr} {f:Fld} {n:Int} (hl:r.at_≤(r.s.length:Int)):AdvB 2 r (Ew r f n)∧(Ew r f n).at_=r.at_∧(Ew r f n).fail=r.fail:=by
 unfold Ew
 split
 ·exact⟨((Adv.refl r hl).b.tell _).mono (by decide),rfl,rfl⟩
 ·exact⟨(((Adv.refl r hl).b.tell _).tell _).mono (by decide),rfl,rfl⟩
theorem Adw {r:Mr} {f:Fld} {n:Int} (ha:0≤r.at_) (hl:r.at_≤(r.s.length:Int)) (hn:0≤n):AdvB 3 r (Bx r f n):=by
 obtain ⟨h1,h2,h3⟩:=X8 (f:=f) (n:=n) hl
 have ht:=Ms hn ha hl
 unfold Bx
 split
 ·exact(h1.failed _ _).mono (by decide)
 split
 ·exact(h1.failed _ _).mono (by decide)
 split
 ·exact(h1.failed _ _).mono (by decide)
 ·exact((h1.moved (fun _=>by omega) (by omega)).tell _).mono (by decide)
def Ae5 (sub:Mr→Fld→Int→Int→Mr):Prop:= ∀(v:Mr) (f:Fld) (n s:Int),v.at_≤(v.s.length:Int)→v.fail.kind=0→AdvB 2 v (sub v f n s)
theorem Acj {sub:Mr→Fld→Int→Int→Mr} (hsub:Ae5 sub) {r:Mr} {f:Fld} {known:Bool} {e:Int} (hl:r.at_≤(r.s.length:Int)) (h0:r.fail.kind=0):Adv1 r (Bf sub r f known e):=by
 obtain ⟨hv,hv2,hv3⟩:=Eo (e:=e) hl
 have hu:=Gs r e
 unfold Bf
 split
 ·exact hv
 ·rename_i hok
  have hok:Bd r e=true:=by simpa using hok
  have hk:(Ae r e).fail.kind=0:=by rw[C1 h0] at hok;simpa using hok
  have ha:=hv.1.at_ hk
  have hs:=congrArg List.length hv.1.s
  have h2:=hv2 hok
  have hl':(Ae r e).at_≤((Ae r e).s.length:Int):=by omega
  have hr:=(Adv.refl (Ae r e) hl').b
  split
  ·exact hv.after hv3 hk (hr.failed _ _) (by decide)
  split
  ·split
   ·exact hv.after hv3 hk (hr.failed _ _) (by decide)
   ·exact hv.after hv3 hk (hr.moved (fun _=>by omega) (by omega)) (by decide)
  split
  ·exact hv.after hv3 hk (hsub _ _ _ _ hl' hk) (by decide)
  split
  ·exact hv.after hv3 hk (Ajd hl').b (by decide)
  ·exact hv.after hv3 hk (Adw (by omega) hl' hu.1) (by decide)
theorem X9 {sub:Mr→Fld→Int→Int→Mr} (hsub:Ae5 sub) {shape e:Int} {r:Mr} (hl:r.at_≤(r.s.length:Int)) (h0:r.fail.kind=0):Adv1 r (Dv sub shape e r):=by
 obtain ⟨hv,hv2,hv3⟩:=Eo (e:=e) hl
 unfold Dv
 split
 ·exact hv
 ·rename_i hok
  have hok:Bd r e=true:=by simpa using hok
  have hk:(Ae r e).fail.kind=0:=by rw[C1 h0] at hok;simpa using hok
  have ha:=hv.1.at_ hk
  have hs:=congrArg List.length hv.1.s
  have hl':(Ae r e).at_≤((Ae r e).s.length:Int):=by omega
  have hr:=(Adv.refl (Ae r e) hl').b
  split
  ·exact hv.after hv3 hk (hr.failed _ _) (by decide)
  split
  ·exact hv.after hv3 hk (hr.failed _ _) (by decide)
  split
  ·exact hv.after hv3 hk (hr.failed _ _) (by decide)
  split
  ·exact hv.after hv3 hk (Acj hsub hl' hk).1.b (by decide)
  ·exact hv.after hv3 hk (Jm hl' hk).1.b (by decide)
theorem Ack {D:Nat} (hs:Ae5 (Gh D)) {shape e:Int} {r:Mr} (hl:r.at_≤(r.s.length:Int)):Adv r (D8 D shape e r):=by
 rw[Fz]
 exact Ua (fun r h=>Gf h) (fun r h h0=>X9 hs h h0) _ r hl
theorem Aa5: ∀D,Ae5 (Gh D)
 |0=>fun v f n s hl h0=>((Adv.refl v hl).b.failed _ _).mono (by decide)
 |D+1=>fun v f n s hl h0=>by
  have ht:AdvB 1 v (Am v (En f n)):=(Adv.refl v hl).b.tell _
  have hm:=(Ack (Aa5 D) (shape:=f.msg) (e:=v.at_+n) (r:=Am v (En f n)) hl).b
  have hb:=ht.trans h0 hm
  simp only[Gh]
  split
  ·exact(hb.tell _).mono (by decide)
  ·exact hb.mono (by decide)
theorem Ub {D:Nat} {shape e:Int} {r:Mr} (hl:r.at_≤(r.s.length:Int)):Adv r (D8 D shape e r):=Ack (Aa5 D) hl
structure LInv (step:Mr→Mr) (e:Int) (r0 q:Mr):Prop where
 adv:Adv r0 q
 run:Cz (Eu e) step (Gq q) q=Cz (Eu e) step (Gq r0) r0
def He (step:Mr→Mr):Prop:= ∀r:Mr,r.at_≤(r.s.length:Int)→r.fail.kind=0→Adv1 r (step r)
theorem LInv.refl {step:Mr→Mr} {e:Int} {r:Mr} (h1:r.at_≤(r.s.length:Int)):LInv step e r r:=⟨Adv.refl r h1,rfl⟩
theorem LInv.at_ {step:Mr→Mr} {e:Int} {r q:Mr} (h:LInv step e r q) (hk:q.fail.kind=0):r.at_≤q.at_∧q.at_≤(q.s.length:Int):=by
 have:=h.adv.at_ hk
 rw[h.adv.s];exact this
theorem LInv.room {step:Mr→Mr} {e:Int} {r q:Mr} (h:LInv step e r q) (hk:q.fail.kind=0):q.s.length=r.s.length∧q.plan=r.plan∧r.at_≤q.at_∧q.at_≤(r.s.length:Int)∧(q.out.length:Int)+4*((r.s.length:Int)-q.at_)≤(r.out.length:Int)+4*((r.s.length:Int)-r.at_):=
 ⟨by rw[h.adv.s],h.adv.plan,(h.adv.at_ hk).1,(h.adv.at_ hk).2,h.adv.room hk⟩
theorem LInv.go {step:Mr→Mr} (hs:He step) {e:Int} {r q:Mr} (h:LInv step e r q) (hg:q.at_<e) (hk:q.fail.kind=0):LInv step e r (step q)∧Gq (step q)<Gq q:=by
 have hgo:Eu e q=true:=by simp[Eu,hg,hk]
 have ha:=h.at_ hk
 have hq:=hs q ha.2 hk
 refine⟨⟨h.adv.trans hk hq.1,?_⟩,Px ha.2 hk hq⟩
 rw[←h.run]
 refine(Aa0 (fun r=>r.at_≤(r.s.length:Int)∨r.fail.kind≠0) Gq (fun a hi hg=>?_) (.inl ha.2) hgo).symm
 have hk':=Gf hg
 have hl:a.at_≤(a.s.length:Int):=hi.resolve_right (fun h=>h hk')
 refine⟨?_,Px hl hk' (hs a hl hk')⟩
 by_cases hk2:(step a).fail.kind=0
 ·left;rw[(hs a hl hk').1.s];exact((hs a hl hk').1.at_ hk2).2
 ·exact .inr hk2
theorem LInv.stop {step:Mr→Mr} {e:Int} {r q:Mr} (h:LInv step e r q) (hg:Eu e q=false):Cz (Eu e) step (Gq r) r=q:=by rw[←h.run];exact Cn hg
theorem LInv.end_ {step:Mr→Mr} {e:Int} {r q:Mr} (h:LInv step e r q) (hg: ¬q.at_<e):Cz (Eu e) step (Gq r) r=q:=h.stop (by simp[Eu];omega)
theorem LInv.bad {step:Mr→Mr} {e:Int} {r q:Mr} (h:LInv step e r q) (hk:q.fail.kind≠0):Cz (Eu e) step (Gq r) r=q:=h.stop (by simp[Eu,hk])
theorem Fi (D:Nat) (shape e:Int):He (Dv (Gh D) shape e):=fun _ h h0=>X9 (Aa5 D) h h0
theorem Kg (f:Fld) (w e:Int):He (fun r=>B4 r f w e):=fun _ h h0=>Jm h h0
theorem LInv.leave {step:Mr→Mr} (hs:He step) {e:Int} {r q x:Mr} (h:LInv step e r q) (hg:q.at_<e) (hk:q.fail.kind=0) (hx:step q=x) (hx2:x.fail.kind≠0):Cz (Eu e) step (Gq r) r=x:=by
 subst hx;exact(h.go hs hg hk).1.bad hx2
theorem LInv.next {step:Mr→Mr} (hs:He step) {e:Int} {r q x:Mr} (h:LInv step e r q) (hg:q.at_<e) (hk:q.fail.kind=0) (hx:step q=x):LInv step e r x∧Gq x<Gq q:=by
 subst hx;exact h.go hs hg hk
theorem S9 {l:List Shp} {s n:Int} (hl:Dt l=true):((fieldAt l s n).isSome=true→1≤((fieldAt l s n).getD fld0).number∧1≤((fieldAt l s n).getD fld0).kind∧((fieldAt l s n).getD fld0).kind≤8)∧((fieldAt l s n).isSome=false→((fieldAt l s n).getD fld0).number=0):=by
 cases h:fieldAt l s n with
 |none=>simp[fld0]
 |some f=>
  have:=Aai (Uu hl h).1
  simp;omega
theorem Rj {D:Nat} {s e:Int} {v:Mr} {k b:Nat} (h:v.at_≤(v.s.length:Int)) (hb:(v.out.length:Int)+4*((v.s.length:Int)-v.at_)+(k:Int)≤(b:Int)):(D8 D s e v).out.length+k≤b:=by
 have:=(Ub (D:=D) (shape:=s) (e:=e) h).most;omega
theorem Z2 {D:Nat} {s e:Int} {v:Mr} {b:Nat} (h:v.at_≤(v.s.length:Int)) (hb:(v.out.length:Int)+4*((v.s.length:Int)-v.at_)≤(b:Int)):(D8 D s e v).out.length≤b:=by
 have:=(Ub (D:=D) (shape:=s) (e:=e) h).most;omega
theorem Agi {k:Int} (h:1≤k∧k≤5):Br k=0∨Br k=1∨Br k=5:=by
 have hk:Fd k=true:=by simp only[Fd,Aq,Bool.and_eq_true,decide_eq_true_eq];omega
 unfold Br
 rw[if_pos hk]
 split
 ·exact .inr (.inr rfl)
 ·split
  ·exact .inr (.inl rfl)
  ·exact .inl (by rw[if_pos (by omega)])
theorem Acm (u:Int):0≤Ag u∧Ag u≤7:=by unfold Ag;split<;>omega
theorem Ya {l:List Shp} {s n:Int} (hl:Dt l=true):(fieldAt l s n).isSome=decide (((fieldAt l s n).getD fld0).number≠0):=by
 have:=S9 (s:=s) (n:=n) hl
 cases h:(fieldAt l s n).isSome with
 |true=>exact(decide_eq_true (by have:=(this.1 h).1;omega)).symm
 |false=>exact(decide_eq_false (by have:=this.2 h;omega)).symm
def B7 (j6:Nat) (x:Mr):List C:=[.seq .shp x.plan.shapes,.int .i64 x.plan.root,.int .i64 x.plan.deep,.int .i64 x.plan.most,.str x.s,.int .i64 x.at_,.own j6,.int .i64 x.fail.kind,.int .i64 x.fail.field,.int .u64 x.fail.bits,.int .i64 x.fail.len,.str x.fail.text,.int .i64 x.fail.code,.int .i64 x.fail.at_]
theorem Hm (r:Mr) (c:Int) (a:Int):Fun Tryz.prog 107 [vP 0,vI c,vI a] [.cells (B7 1 r),.lst .ev r.out] (.v (vB false)) [.cells (B7 1 (Bg r c a)),.lst .ev (Bg r c a).out]:=by
 have hN:Be=274877906944:=rfl
 refine Ar Tryz.func107 Q4 Q4 (w:=let zi:Int→C:= .int .i64;let z1:=Aw c a;(.seg [.call [] (.v (.agg (cEv z1))) []] (.leaf () [0,1]),(Fun Tryz.prog 152 [vI c,vI a] [] (.v (.agg (cEv z1))) [])∧(.v (vB false):S)= .v (vB false)∧([.cells [.seq .shp r.plan.shapes,zi r.plan.root,zi r.plan.deep,zi r.plan.most,.str r.s,zi r.at_,.own 1,zi z1.kind,zi z1.field,.int .u64 z1.bits,zi z1.len,.str z1.text,zi z1.code,zi z1.at_],.lst .ev r.out]:List Blk)=[.cells (B7 1 (Bg r c a)),.lst .ev (Bg r c a).out])) Q4 ?_
 refine⟨(Aby _ _),?_⟩
 have hm1:Bg r c a=(⟨r.plan,r.s,r.at_,r.out,(Aw c a)⟩:Mr):=by rfl
 exact⟨rfl,Q5⟩
theorem R9 (r:Mr) (end_:Int) (hp1:List.length (r).s≤Be):Fun Tryz.prog 106 [vP 0,vI end_] [.cells (B7 1 r),.lst .ev r.out] (.tup [.c (.int .u64 (An r end_)),vB (Bd r end_)]) [.cells (B7 1 (Ae r end_)),.lst .ev (Ae r end_).out]:=by
 have hN:Be=274877906944:=rfl
 refine Ar Tryz.func106 Q4 Q4 (w:=let zi:Int→C:= .int .i64;let z1:=Ah r.s r.at_ end_;let z2:List Blk:=[.cells (B7 1 (Bg r z1.2.2 z1.2.1)),.lst .ev (Bg r z1.2.2 z1.2.1).out];let z3:List Blk:=[.cells (B7 1 (Ae r end_)),.lst .ev (Ae r end_).out];(.seg [.ord (os 17 [9]) [],.call [] (.tup [.c (.int .u64 z1.1),vI z1.2.1,vI z1.2.2]) []] (.br (.seg [.call [0,1] (.v (vB false)) z2] (.leaf () [0,1])) (.leaf () [0,1])),(Fun Tryz.prog 159 [vT r.s,vI r.at_,vI end_] [] (.tup [.c (.int .u64 z1.1),vI z1.2.1,vI z1.2.2]) [])∧((!decide (z1.2.2=0))=true→(Fun Tryz.prog 107 [vP 0,vI z1.2.2,vI z1.2.1] [.cells (B7 1 r),.lst .ev r.out] (.v (vB false)) z2)∧(.tup [.c (.int .u64 0),vB false]:S)= .tup [.c (.int .u64 (An r end_)),vB (Bd r end_)]∧(z2:List Blk)=z3)∧((!decide (z1.2.2=0))=false→(.tup [.c (.int .u64 z1.1),vB true]:S)= .tup [.c (.int .u64 (An r end_)),vB (Bd r end_)]∧([.cells [.seq .shp r.plan.shapes,zi r.plan.root,zi r.plan.deep,zi r.plan.most,.str r.s,zi z1.2.1,.own 1,zi r.fail.kind,zi r.fail.field,.int .u64 r.fail.bits,zi r.fail.len,.str r.fail.text,zi r.fail.code,zi r.fail.at_],.lst .ev r.out]:List Blk)=z3))) Q4 ?_
 refine⟨(Add _ _ _ Q2),fun h1=>have q1:=Ap h1;have p1:=of_decide_eq_false q1;?_,fun h1=>have q1:=Ao h1;have p1:=of_decide_eq_true q1;?_⟩
 refine⟨(Hm r _ _),?_⟩
 refine have hm1:Ae r end_=(Bg r (Ah r.s r.at_ end_).2.2 (Ah r.s r.at_ end_).2.1):=?_;?_
 rotate_left
 refine⟨(congrArg S.tup (Aa (congrArg V.c (congrArg (C.int .u64) ?_)) (Aa (congrArg V.c (congrArg C.bool ?_)) rfl))),Q5⟩
 rotate_left 2
 refine have hm1:Ae r end_=(⟨r.plan,r.s,(Ah r.s r.at_ end_).2.1,r.out,r.fail⟩:Mr):=?_;?_
 rotate_left
 refine⟨(congrArg S.tup (Aa (congrArg V.c (congrArg (C.int .u64) ?_)) (Aa (congrArg V.c (congrArg C.bool ?_)) rfl))),Q5⟩
 rotate_left 2
 all_goals first|(simp_all[Ae,Bd,An,Bg,S8];done)|(grind[Ae,Bd,An,Bg,S8])
theorem U8 (r:Mr) (end_:Int) (hp1:List.length (r).s≤Be):Fun Tryz.prog 199 [vP 0,vI end_] [.cells (B7 1 r),.lst .ev r.out] (.v (.c (.int .u64 (An r end_)))) [.cells (B7 1 (Ae r end_)),.lst .ev (Ae r end_).out]:=by
 have hN:Be=274877906944:=rfl
 refine Ar Tryz.func199 Q4 Q4 (w:=let zi:Int→C:= .int .i64;let z1:=Ah r.s r.at_ end_;let z2:=Aw z1.2.2 z1.2.1;let z3:List Blk:=[.cells (B7 1 (Ae r end_)),.lst .ev (Ae r end_).out];(.seg [.ord (os 17 [9]) [],.call [] (.tup [.c (.int .u64 z1.1),vI z1.2.1,vI z1.2.2]) []] (.br (.seg [.call [] (.v (.agg (cEv z2))) []] (.leaf () [0,1])) (.leaf () [0,1])),(Fun Tryz.prog 109 [vT r.s,vI r.at_,vI end_] [] (.tup [.c (.int .u64 z1.1),vI z1.2.1,vI z1.2.2]) [])∧((!decide (z1.2.2=0))=true→(Fun Tryz.prog 110 [vI z1.2.2,vI z1.2.1] [] (.v (.agg (cEv z2))) [])∧(.v (.c (.int .u64 0)):S)= .v (.c (.int .u64 (An r end_)))∧([.cells [.seq .shp r.plan.shapes,zi r.plan.root,zi r.plan.deep,zi r.plan.most,.str r.s,zi r.at_,.own 1,zi z2.kind,zi z2.field,.int .u64 z2.bits,zi z2.len,.str z2.text,zi z2.code,zi z2.at_],.lst .ev r.out]:List Blk)=z3)∧((!decide (z1.2.2=0))=false→(.v (.c (.int .u64 z1.1)):S)= .v (.c (.int .u64 (An r end_)))∧([.cells [.seq .shp r.plan.shapes,zi r.plan.root,zi r.plan.deep,zi r.plan.most,.str r.s,zi z1.2.1,.own 1,zi r.fail.kind,zi r.fail.field,.int .u64 r.fail.bits,zi r.fail.len,.str r.fail.text,zi r.fail.code,zi r.fail.at_],.lst .ev r.out]:List Blk)=z3))) Q4 ?_
 refine⟨(Xk _ _ _ Q2),fun h1=>have q1:=Ap h1;have p1:=of_decide_eq_false q1;?_,fun h1=>have q1:=Ao h1;have p1:=of_decide_eq_true q1;?_⟩
 refine⟨(Dk _ _),?_⟩
 refine have hm1:Ae r end_=(⟨r.plan,r.s,r.at_,r.out,(Aw (Ah r.s r.at_ end_).2.2 (Ah r.s r.at_ end_).2.1)⟩:Mr):=?_;?_
 rotate_left
 refine⟨(congrArg S.v (congrArg V.c (congrArg (C.int .u64) ?_))),Q5⟩
 rotate_left
 refine have hm1:Ae r end_=(⟨r.plan,r.s,(Ah r.s r.at_ end_).2.1,r.out,r.fail⟩:Mr):=?_;?_
 rotate_left
 refine⟨(congrArg S.v (congrArg V.c (congrArg (C.int .u64) ?_))),Q5⟩
 rotate_left
 all_goals first|(simp_all[Ae,Bd,An,Bg,S8];done)|(grind[Ae,Bd,An,Bg,S8])
theorem Aou (r:Mr) (w:Int) (end_:Int) (hp1:List.length (r).s≤Be) (hp2:(0:Int)≤(r).at_∧(r).at_≤((List.length (r).s:Nat):Int)) (hp3:(0:Int)≤w∧w≤8) (hp4: -1000000000≤end_∧end_≤9223372036854775807):Fun Tryz.prog 198 [vP 0,vI w,vI end_] [.cells (B7 1 r),.lst .ev r.out] (.tup [.c (.int .u64 (F4 r w end_)),vB (Ge r w end_)]) [.cells (B7 1 (Fb r w end_)),.lst .ev (Fb r w end_).out]:=by
 have hN:Be=274877906944:=rfl
 refine Ar Tryz.func198 Q4 Q4 (w:=let zi:Int→C:= .int .i64;let z2:List Blk:=[.cells (B7 1 (Bg r 9 r.at_)),.lst .ev (Bg r 9 r.at_).out];let z3:List Blk:=[.cells (B7 1 (Fb r w end_)),.lst .ev (Fb r w end_).out];let z4:=Dj r.s r.at_ w;let z5:=(r.s.length:Int);let z1:List Blk:=[.cells (B7 1 (Bg r 10 z5)),.lst .ev (Bg r 10 z5).out];let z6:=(.tup [.c (.int .u64 0),vB false]:S);let z7:=Hi r.s r.at_ w;let z8:=Ge r w end_;(.seg [.as 15 (.v (vI (end_-r.at_)))] (.br (.seg [.call [0,1] (.v (vB false)) z2] (.leaf () [0,1])) (.seg [.ord (os 15 [9]) [],.call [] (.tup [.c (.int .u64 z7),vB z4]) []] (.br (.seg [.call [0,1] (.v (vB false)) z1] (.leaf () [0,1])) (.seg [.as 51 (.v (vI (r.at_+w)))] (.leaf () [0,1]))))),((.v (vI (IntKind.i64.wrap (end_-r.at_))):S)= .v (vI (end_-r.at_)))∧((decide (end_-r.at_<w))=true→(Fun Tryz.prog 107 [vP 0,vI 9,vI r.at_] [.cells (B7 1 r),.lst .ev r.out] (.v (vB false)) z2)∧z6= .tup [.c (.int .u64 (F4 r w end_)),vB z8]∧(z2:List Blk)=z3)∧((decide (end_-r.at_<w))=false→(Fun Tryz.prog 214 [vT r.s,vI r.at_,vI w] [] (.tup [.c (.int .u64 z7),vB z4]) [])∧((!z4)=true→(Fun Tryz.prog 107 [vP 0,vI 10,vI z5] [.cells (B7 1 r),.lst .ev r.out] (.v (vB false)) z1)∧z6= .tup [.c (.int .u64 (F4 r w end_)),vB z8]∧(z1:List Blk)=z3)∧((!z4)=false→((.v (vI (IntKind.i64.wrap (r.at_+w))):S)= .v (vI (r.at_+w)))∧(.tup [.c (.int .u64 z7),vB true]:S)= .tup [.c (.int .u64 (F4 r w end_)),vB z8]∧([.cells [.seq .shp r.plan.shapes,zi r.plan.root,zi r.plan.deep,zi r.plan.most,.str r.s,zi (r.at_+w),.own 1,zi r.fail.kind,zi r.fail.field,.int .u64 r.fail.bits,zi r.fail.len,.str r.fail.text,zi r.fail.code,zi r.fail.at_],.lst .ev r.out]:List Blk)=z3)))) Q4 ?_
 refine⟨(Ac Q2 Q2),dsp (fun h1 p1=>?_) fun h1 p1=>?_⟩
 refine⟨(Hm r _ _),?_⟩
 refine have hm1:Fb r w end_=(Bg r 9 r.at_):=?_;?_
 rotate_left
 refine⟨(congrArg S.tup (Aa (congrArg V.c (congrArg (C.int .u64) ?_)) (Aa (congrArg V.c (congrArg C.bool ?_)) rfl))),Q5⟩
 rotate_left 2
 refine⟨(Akp _ _ _ Q2),fun h2=>have q2:=Ap h2;?_,fun h2=>have q2:=Ao h2;?_⟩
 refine⟨(Hm r _ _),?_⟩
 refine have hm1:Fb r w end_=(Bg r 10 (r.s.length:Int)):=?_;?_
 rotate_left
 refine⟨(congrArg S.tup (Aa (congrArg V.c (congrArg (C.int .u64) ?_)) (Aa (congrArg V.c (congrArg C.bool ?_)) rfl))),Q5⟩
 rotate_left 2
 have hfx:=Ni q2
 refine⟨(Ac Q2 Q2),?_⟩
 refine have hm1:Fb r w end_=(⟨r.plan,r.s,r.at_+w,r.out,r.fail⟩:Mr):=?_;?_
 rotate_left
 refine⟨(congrArg S.tup (Aa (congrArg V.c (congrArg (C.int .u64) ?_)) (Aa (congrArg V.c (congrArg C.bool ?_)) rfl))),Q5⟩
 rotate_left 2
 all_goals first|(simp_all[Fb,Ge,F4,Bg,S8];done)|(grind[Fb,Ge,F4,Bg,S8])
theorem Aov (r:Mr) (w:Int) (end_:Int) (hp1:List.length (r).s≤Be) (hp2:(0:Int)≤(r).at_∧(r).at_≤((List.length (r).s:Nat):Int)) (hp3:(0:Int)≤w∧w≤8) (hp4: -1000000000≤end_∧end_≤9223372036854775807):Fun Tryz.prog 217 [vP 0,vI w,vI end_] [.cells (B7 1 r),.lst .ev r.out] (.v (.c (.int .u64 (F4 r w end_)))) [.cells (B7 1 (Fb r w end_)),.lst .ev (Fb r w end_).out]:=by
 have hN:Be=274877906944:=rfl
 refine Ar Tryz.func217 Q4 Q4 (w:=let zi:Int→C:= .int .i64;let z1:=Aw 10 (r.s.length:Int);let z2:List Blk:=[.cells (B7 1 (Fb r w end_)),.lst .ev (Fb r w end_).out];let z3:=Aw 9 r.at_;let z4:=Dj r.s r.at_ w;let z5:=Hi r.s r.at_ w;(.seg [.as 14 (.v (vI (end_-r.at_)))] (.br (.seg [.call [] (.v (.agg (cEv z3))) []] (.leaf () [0,1])) (.seg [.ord (os 15 [9]) [],.call [] (.tup [.c (.int .u64 z5),vB z4]) []] (.br (.seg [.call [] (.v (.agg (cEv z1))) []] (.leaf () [0,1])) (.seg [.as 55 (.v (vI (r.at_+w)))] (.leaf () [0,1]))))),((.v (vI (IntKind.i64.wrap (end_-r.at_))):S)= .v (vI (end_-r.at_)))∧((decide (end_-r.at_<w))=true→(Fun Tryz.prog 110 [vI 9,vI r.at_] [] (.v (.agg (cEv z3))) [])∧(.v (.c (.int .u64 0)):S)= .v (.c (.int .u64 (F4 r w end_)))∧([.cells [.seq .shp r.plan.shapes,zi r.plan.root,zi r.plan.deep,zi r.plan.most,.str r.s,zi r.at_,.own 1,zi z3.kind,zi z3.field,.int .u64 z3.bits,zi z3.len,.str z3.text,zi z3.code,zi z3.at_],.lst .ev r.out]:List Blk)=z2)∧((decide (end_-r.at_<w))=false→(Fun Tryz.prog 223 [vT r.s,vI r.at_,vI w] [] (.tup [.c (.int .u64 z5),vB z4]) [])∧((!z4)=true→(Fun Tryz.prog 110 [vI 10,vI (r.s.length:Int)] [] (.v (.agg (cEv z1))) [])∧(.v (.c (.int .u64 0)):S)= .v (.c (.int .u64 (F4 r w end_)))∧([.cells [.seq .shp r.plan.shapes,zi r.plan.root,zi r.plan.deep,zi r.plan.most,.str r.s,zi r.at_,.own 1,zi z1.kind,zi z1.field,.int .u64 z1.bits,zi z1.len,.str z1.text,zi z1.code,zi z1.at_],.lst .ev r.out]:List Blk)=z2)∧((!z4)=false→((.v (vI (IntKind.i64.wrap (r.at_+w))):S)= .v (vI (r.at_+w)))∧(.v (.c (.int .u64 z5)):S)= .v (.c (.int .u64 (F4 r w end_)))∧([.cells [.seq .shp r.plan.shapes,zi r.plan.root,zi r.plan.deep,zi r.plan.most,.str r.s,zi (r.at_+w),.own 1,zi r.fail.kind,zi r.fail.field,.int .u64 r.fail.bits,zi r.fail.len,.str r.fail.text,zi r.fail.code,zi r.fail.at_],.lst .ev r.out]:List Blk)=z2)))) Q4 ?_
 refine⟨(Ac Q2 Q2),dsp (fun h1 p1=>?_) fun h1 p1=>?_⟩
 refine⟨(Dk _ _),?_⟩
 refine have hm1:Fb r w end_=(⟨r.plan,r.s,r.at_,r.out,(Aw 9 r.at_)⟩:Mr):=?_;?_
 rotate_left
 refine⟨(congrArg S.v (congrArg V.c (congrArg (C.int .u64) ?_))),Q5⟩
 rotate_left
 refine⟨(Akq _ _ _ Q2),fun h2=>have q2:=Ap h2;?_,fun h2=>have q2:=Ao h2;?_⟩
 refine⟨(Dk _ _),?_⟩
 refine have hm1:Fb r w end_=(⟨r.plan,r.s,r.at_,r.out,(Aw 10 (r.s.length:Int))⟩:Mr):=?_;?_
 rotate_left
 refine⟨(congrArg S.v (congrArg V.c (congrArg (C.int .u64) ?_))),Q5⟩
 rotate_left
 have hfx:=Ni q2
 refine⟨(Ac Q2 Q2),?_⟩
 refine have hm1:Fb r w end_=(⟨r.plan,r.s,r.at_+w,r.out,r.fail⟩:Mr):=?_;?_
 rotate_left
 refine⟨(congrArg S.v (congrArg V.c (congrArg (C.int .u64) ?_))),Q5⟩
 rotate_left
 all_goals first|(simp_all[Fb,Ge,F4,Bg,S8];done)|(grind[Fb,Ge,F4,Bg,S8])
theorem Aow (r:Mr) (w:Int) (end_:Int) (hp1:List.length (r).s≤Be) (hp2:(0:Int)≤(r).at_∧(r).at_≤((List.length (r).s:Nat):Int)) (hp3: -1000000000≤end_∧end_≤9223372036854775807):Fun Tryz.prog 162 [vP 0,vI w,vI end_] [.cells (B7 1 r),.lst .ev r.out] (.tup [.c (.int .u64 (Eh r w end_)),vB (Dp r w end_)]) [.cells (B7 1 (Cp r w end_)),.lst .ev (Cp r w end_).out]:=by
 have hN:Be=274877906944:=rfl
 have hwb:=D5 w
 refine Ar Tryz.func162 Q4 Q4 (w:=let z2:List Blk:=[.cells (B7 1 (Ae r end_)),.lst .ev (Ae r end_).out];let z3:=Az w;let z1:List Blk:=[.cells (B7 1 (Fb r z3 end_)),.lst .ev (Fb r z3 end_).out];let z4:List Blk:=[.cells (B7 1 (Cp r w end_)),.lst .ev (Cp r w end_).out];let z5:=Ge r z3 end_;let z6:=F4 r z3 end_;(.seg [.call [] (.v (vI z3)) []] (.br (.seg [.call [0,1] (.tup [.c (.int .u64 z6),vB z5]) z1] (.leaf () [0,1])) (.seg [.call [0,1] (.tup [.c (.int .u64 (An r end_)),vB (Bd r end_)]) z2] (.leaf () [0,1]))),(Fun Tryz.prog 146 [vI w] [] (.v (vI z3)) [])∧((decide (0<Az w))=true→(Fun Tryz.prog 198 [vP 0,vI z3,vI end_] [.cells (B7 1 r),.lst .ev r.out] (.tup [.c (.int .u64 z6),vB z5]) z1)∧(.tup [.c (.int .u64 z6),vB z5]:S)= .tup [.c (.int .u64 (Eh r w end_)),vB (Dp r w end_)]∧(z1:List Blk)=z4)∧((decide (0<Az w))=false→(Fun Tryz.prog 106 [vP 0,vI end_] [.cells (B7 1 r),.lst .ev r.out] (.tup [.c (.int .u64 (An r end_)),vB (Bd r end_)]) z2)∧(.tup [.c (.int .u64 (An r end_)),vB (Bd r end_)]:S)= .tup [.c (.int .u64 (Eh r w end_)),vB (Dp r w end_)]∧(z2:List Blk)=z4))) Q4 ?_
 refine⟨(Fw _),dsp (fun h1 p1=>?_) fun h1 p1=>?_⟩
 refine⟨(Aou r _ _ Q2 Q2 Q2 Q2),?_⟩
 refine have hm1:Cp r w end_=(Fb r (Az w) end_):=?_;?_
 rotate_left
 refine⟨(congrArg S.tup (Aa (congrArg V.c (congrArg (C.int .u64) ?_)) (Aa (congrArg V.c (congrArg C.bool ?_)) rfl))),Q5⟩
 rotate_left 2
 refine⟨(R9 r _ Q2),?_⟩
 refine have hm1:Cp r w end_=(Ae r end_):=?_;?_
 rotate_left
 refine⟨(congrArg S.tup (Aa (congrArg V.c (congrArg (C.int .u64) ?_)) (Aa (congrArg V.c (congrArg C.bool ?_)) rfl))),Q5⟩
 rotate_left 2
 all_goals first|(simp_all[Cp,Dp,Eh];done)|(grind[Cp,Dp,Eh])
theorem P6 (r:Mr) (e:Ev) (hp1:List.length (r).out≤100000000):Fun Tryz.prog 215 [vP 0,.agg (cEv e)] [.cells (B7 1 r),.lst .ev r.out] (.tup []) [.cells (B7 2 (Am r e)),.dead,.lst .ev (Am r e).out]:=by
 have hN:Be=274877906944:=rfl
 refine Ar Tryz.func215 Q4 Q4 (w:=(.seg [.ord (os 11 [6,7,10]) [1],.ty .ev,.ty .ev] (.leaf () [0,1,4]),(r.out.length+List.length [e]≤Be)∧(.tup []:S)= .tup []∧([.cells (B7 2 r),.dead,.lst .ev (r.out++[e])]:List Blk)=[.cells (B7 2 (Am r e)),.dead,.lst .ev (Am r e).out])) Q4 ?_
 refine⟨Q6,?_⟩
 have hm1:Am r e=(⟨r.plan,r.s,r.at_,r.out++[e],r.fail⟩:Mr):=by rfl
 exact⟨rfl,Q5⟩
theorem Aox (r:Mr) (f:Fld) (w:Int) (end_:Int) (hp1:List.length (r).s≤1048576) (hp2:(r).at_≤((List.length (r).s:Nat):Int)) (hp3:(r).fail.kind=0) (hp4:((List.length (r).out:Nat):Int)+4*(((List.length (r).s:Nat):Int)-(r).at_)≤100000000) (hp5: -1000000000≤end_∧end_≤9223372036854775807) (hp6:(0:Int)≤(r).at_) (hp7:(w=0∨w=1∨w=5)):Fun Tryz.prog 201 [vP 0,.agg (Ej f),vI w,vI end_] [.cells (B7 1 r),.lst .ev r.out] (.tup []) [.cells (B7 2 (B4 r f w end_)),.dead,.lst .ev (B4 r f w end_).out]:=by
 have hN:Be=274877906944:=rfl
 have hwb:=D5 w
 have hu1:=Gs r end_
 have hu2:=Amk r (Az w) end_
 have hl1:=congrArg List.length (Eo (e:=end_) hp2).2.2
 have hl2:=congrArg List.length (Ach (w:=Az w) (e:=end_) hp2).2
 refine Ar Tryz.func201 Q4 Q4 (w:=let z2:List Blk:=[.cells (B7 2 (B4 r f w end_)),.dead,.lst .ev (B4 r f w end_).out];let z5:=Ae r end_;let z9:List Blk:=[.cells (B7 1 z5),.lst .ev z5.out];let z11:=decide (0<f.number);let z12:=([.cells (B7 2 z5),.dead,.lst .ev z5.out]:List Blk);let z14:=(.tup []:S);let z15:=An r end_;let z7:=D1 f z15;let z4:List Blk:=[.cells (B7 2 (Am z5 z7)),.dead,.lst .ev (Am z5 z7).out];let z16:=Az w;let z1:=Fb r z16 end_;let z8:=F4 r z16 end_;let z3:=D1 f z8;let z6:List Blk:=[.cells (B7 2 (Am z1 z3)),.dead,.lst .ev (Am z1 z3).out];let z10:List Blk:=[.cells (B7 1 z1),.lst .ev z1.out];let z13:=([.cells (B7 2 z1),.dead,.lst .ev z1.out]:List Blk);(.br (.seg [.call [0,1] (.v (.c (.int .u64 z15))) z9] (.br (.br (.seg [.call [] (.v (.agg (cEv z7))) [],.call [0,1] (.tup []) z4] (.leaf () [0,1,3])) (.seg [.at 0,.cut 0 6] (.leaf () [0,1,3]))) (.seg [.at 0,.cut 0 6] (.leaf () [0,1,3])))) (.seg [.call [] (.v (vI z16)) [],.call [0,1] (.v (.c (.int .u64 z8))) z10] (.br (.br (.seg [.call [] (.v (.agg (cEv z3))) [],.call [0,1] (.tup []) z6] (.leaf () [0,1,3])) (.seg [.at 0,.cut 0 6] (.leaf () [0,1,3]))) (.seg [.at 0,.cut 0 6] (.leaf () [0,1,3])))),((decide (w=0))=true→(Fun Tryz.prog 199 [vP 0,vI end_] [.cells (B7 1 r),.lst .ev r.out] (.v (.c (.int .u64 z15))) z9)∧((decide (z5.fail.kind=0))=true→(z11=true→(Fun Tryz.prog 127 [.agg (Ej f),.c (.int .u64 z15)] [] (.v (.agg (cEv z7))) [])∧(Fun Tryz.prog 215 [vP 0,.agg (cEv z7)] z9 (.tup []) z4)∧z14= .tup []∧(z4:List Blk)=z2)∧(z11=false→z14= .tup []∧z12=z2))∧((decide (z5.fail.kind=0))=false→z14= .tup []∧z12=z2))∧((decide (w=0))=false→(Fun Tryz.prog 74 [vI w] [] (.v (vI z16)) [])∧(Fun Tryz.prog 217 [vP 0,vI z16,vI end_] [.cells (B7 1 r),.lst .ev r.out] (.v (.c (.int .u64 z8))) z10)∧((decide (z1.fail.kind=0))=true→(z11=true→(Fun Tryz.prog 127 [.agg (Ej f),.c (.int .u64 z8)] [] (.v (.agg (cEv z3))) [])∧(Fun Tryz.prog 215 [vP 0,.agg (cEv z3)] z10 (.tup []) z6)∧z14= .tup []∧(z6:List Blk)=z2)∧(z11=false→z14= .tup []∧z13=z2))∧((decide (z1.fail.kind=0))=false→z14= .tup []∧z13=z2)))) Q4 ?_
 refine dsp (fun h1 p1=>?_) fun h1 p1=>?_
 refine⟨(U8 r _ Q2),dsp (fun h2 p2=>?_) fun h2 p2=>?_⟩
 have hvo:=Ei (r:=r) (w:=w) (e:=end_) hp3
 have hwv:Cp r w end_=(Ae r end_):=by unfold Cp;grind[Az]
 refine dsp (fun h3 p3=>?_) fun h3 p3=>?_
 refine⟨(M1 f _ Q2),(P6 (Ae r end_) (D1 f (An r end_)) Q2),?_⟩
 refine have hm1:B4 r f w end_=(Am (Ae r end_) (D1 f (An r end_))):=?_;?_
 rotate_left
 exact⟨rfl,Q5⟩
 refine have hm1:B4 r f w end_=(Ae r end_):=?_;?_
 rotate_left
 exact⟨rfl,Q5⟩
 have hvo:=Ei (r:=r) (w:=w) (e:=end_) hp3
 have hwv:Cp r w end_=(Ae r end_):=by unfold Cp;grind[Az]
 refine have hm1:B4 r f w end_=(Ae r end_):=?_;?_
 rotate_left
 exact⟨rfl,Q5⟩
 refine⟨(D7 _),(Aov r _ _ Q2 Q2 Q2 Q2),dsp (fun h2 p2=>?_) fun h2 p2=>?_⟩
 have hvo:=Ei (r:=r) (w:=w) (e:=end_) hp3
 have hwv:Cp r w end_=(Fb r (Az w) end_):=by unfold Cp;grind[Az]
 refine dsp (fun h3 p3=>?_) fun h3 p3=>?_
 refine⟨(M1 f _ Q2),(P6 (Fb r (Az w) end_) (D1 f (F4 r (Az w) end_)) Q2),?_⟩
 refine have hm1:B4 r f w end_=(Am (Fb r (Az w) end_) (D1 f (F4 r (Az w) end_))):=?_;?_
 rotate_left
 exact⟨rfl,Q5⟩
 refine have hm1:B4 r f w end_=(Fb r (Az w) end_):=?_;?_
 rotate_left
 exact⟨rfl,Q5⟩
 have hvo:=Ei (r:=r) (w:=w) (e:=end_) hp3
 have hwv:Cp r w end_=(Fb r (Az w) end_):=by unfold Cp;grind[Az]
 refine have hm1:B4 r f w end_=(Fb r (Az w) end_):=?_;?_
 rotate_left
 exact⟨rfl,Q5⟩
 all_goals first|(simp_all[B4,Cp,Dp,Eh,Am];done)|(grind[B4,Cp,Dp,Eh,Am,Az])
structure Wq where
 r:Mr
def Wr (r:Mr) (f:Fld) (end_:Int):Fam:=⟨Wq,fun q1=>[(0,.v (vP 0)),(2,.v (vI end_)),(4,.v (vP 3))],fun q1=>[.cells (B7 2 q1.r),.dead,.lst .ev q1.r.out,.cells (Ej f)],fun q1=>RunInv r f end_ q1.r,fun q1=>Gq q1.r⟩
theorem Aq6 (r:Mr) (f:Fld) (end_:Int) (hp1:List.length (r).s≤1048576) (hp2:(r).at_≤((List.length (r).s:Nat):Int)) (hp3:(r).fail.kind=0) (hp4:((List.length (r).out:Nat):Int)+4*(((List.length (r).s:Nat):Int)-(r).at_)≤100000000) (hp5: -1000000000≤end_∧end_≤9223372036854775807) (hp6:(0:Int)≤(r).at_) (hp7:1≤(f).number):Fun Tryz.prog 196 [vP 0,.agg (Ej f),vI end_] [.cells (B7 1 r),.lst .ev r.out] (.v (vB (decide ((Ho r f end_).fail.kind=0)))) [.cells (B7 2 (Ho r f end_)),.dead,.lst .ev (Ho r f end_).out]:=by
 have hN:Be=274877906944:=rfl
 refine Ar Tryz.func196 Q4 Q4 (w:=let z6:=Br f.kind;let z7:=Ho r f end_;let z8:=Wr r f end_;let z9:List Blk:=[.cells (B7 2 z7),.dead,.lst .ev z7.out];let z10:=vB (decide (z7.fail.kind=0));(.seg [.at 0,.cut 0 6,.keep [0,2,4],.sel [0,1,3,2]] (.loop z8 fun q1=>let z1:=Eh q1.r z6 end_;let z2:=Cp q1.r z6 end_;.br (.seg [.call [] (.v (vI z6)) [],.call [0,2] (.tup [.c (.int .u64 z1),vB (Dp q1.r z6 end_)]) [.cells (B7 1 z2),.lst .ev z2.out]] (.br (.leaf () [0,1,2]) (.seg [.ord (os 13 [7,8,9,12]) [2],.call [] (.v (.agg (cEv (D1 f z1)))) [],.ty .ev,.ty .ev,.at 0,.keep [0,2,4],.sel [0,1,5,3]] (.next)))) (.leaf () [0,1,2])),z8.Has [(0,.v (vP 0)),(2,.v (vI end_)),(4,.v (vP 3))] [.cells (B7 2 r),.dead,.lst .ev r.out,.cells (Ej f)]∧∀q1,z8.inv q1→(let z3:=Cp q1.r z6 end_;let z4:=Eh q1.r z6 end_;let z5:=Dp q1.r z6 end_;((decide (q1.r.at_<end_))=true→(Fun Tryz.prog 174 [vI f.kind] [] (.v (vI z6)) [])∧(Fun Tryz.prog 162 [vP 0,vI z6,vI end_] [.cells (B7 1 q1.r),.lst .ev q1.r.out] (.tup [.c (.int .u64 z4),vB z5]) [.cells (B7 1 z3),.lst .ev z3.out])∧((!z5)=true→(.v (vB false):S)= .v z10∧([.cells (B7 2 z3),.dead,.lst .ev z3.out]:List Blk)=z9)∧((!z5)=false→(Fun Tryz.prog 163 [.agg (Ej f),.c (.int .u64 z4)] [] (.v (.agg (cEv (D1 f z4)))) [])∧(z3.out.length+List.length [(D1 f z4)]≤Be)∧z8.Nxt q1 [(0,.v (vP 0)),(2,.v (vI end_)),(4,.v (vP 3))] [.cells (B7 2 z3),.dead,.lst .ev (z3.out++[(D1 f z4)]),.cells (Ej f)]))∧((decide (q1.r.at_<end_))=false→(.v (vB true):S)= .v z10∧([.cells (B7 2 q1.r),.dead,.lst .ev q1.r.out]:List Blk)=z9)))) Q4 ?_
 refine⟨Bs (j:=(⟨r⟩:Wq)) rfl rfl (by dsimp only[Wr];exact RunInv.refl hp2 hp3),fun (q1:Wq) hq_q1=>?_⟩
 have hi_q1:RunInv r f end_ q1.r:=hq_q1
 have hrm:=hi_q1.room
 have hat:=hi_q1.at_
 have hfl:=hi_q1.fail
 have hsl:=congrArg List.length hrm.1
 refine dsp (fun h1 p1=>?_) fun h1 p1=>?_
 refine⟨(V9 _),(Aow q1.r _ _ Q2 Q2 Q2),fun h2=>have q2:=Ap h2;?_,fun h2=>have q2:=Ao h2;?_⟩
 have hbad:=hi_q1.bad (by omega) q2
 refine have hm1:Ho r f end_=(Cp q1.r (Br f.kind) end_):=?_;?_
 rotate_left
 refine⟨(sB ?_),Q5⟩
 rotate_left
 have hvb:=Aa2 q1.r (Br f.kind) end_
 have hvo:=congrArg List.length (T9 (r:=q1.r) (w:=Br f.kind) (e:=end_) hat).2
 exact⟨(Rs f _ Q2),Q6,Bc (j:=(⟨(⟨(Cp q1.r (Br f.kind) end_).plan,(Cp q1.r (Br f.kind) end_).s,(Cp q1.r (Br f.kind) end_).at_,(Cp q1.r (Br f.kind) end_).out++[(D1 f (Eh q1.r (Br f.kind) end_))],(Cp q1.r (Br f.kind) end_).fail⟩:Mr)⟩:Wq)) rfl Q9 (by dsimp only[Wr];exact RunInv.next hi_q1 Q2 (by simpa using q2) Q2) (by dsimp only[Wr];have:=Px hat hfl (Jm (f:=f) (w:=Br f.kind) (e:=end_) hat hfl);rw[Z0 (by simpa using q2) (by omega)] at this;exact this)⟩
 have hend:=hi_q1.end_ p1
 refine have hm1:Ho r f end_=q1.r:=?_;?_
 rotate_left
 refine⟨(sB ?_),Q5⟩
 rotate_left
 all_goals first|(exact hend)|(exact hbad)|(rw[hend];simp[hfl])|(rw[hbad];rw[Ei hfl] at q2;exact q2.symm)|(rfl)
theorem Ap8 (r:Mr) (f:Fld) (n:Int) (hp1:List.length (r).s≤1048576) (hp2:(r).at_≤((List.length (r).s:Nat):Int)) (hp3:(r).fail.kind=0) (hp4:((List.length (r).out:Nat):Int)+4*(((List.length (r).s:Nat):Int)-(r).at_)≤99999996) (hp5:(0:Int)≤(r).at_) (hp6:(0:Int)≤n∧(r).at_+n≤9223372036854775807):Fun Tryz.prog 197 [vP 0,.agg (Ej f),vI n] [.cells (B7 1 r),.lst .ev r.out] (.v (vB (decide ((Bx r f n).fail.kind=0)))) [.cells (B7 2 (Bx r f n)),.dead,.lst .ev (Bx r f n).out]:=by
 have hN:Be=274877906944:=rfl
 have htl:=Ms hp6.1 hp5 hp2
 have hub:=Aa4 utf0 (A0 r n)
 have hu0:utf0.want=0∧utf0.low=0∧utf0.high=0:=⟨rfl,rfl,rfl⟩
 have huw:=Je (V7 (u:=utf0) (s:=A0 r n) (by decide))
 have huz:(J1 utf0 (A0 r n)).want=0→(J1 utf0 (A0 r n)).low=0∧(J1 utf0 (A0 r n)).high=0:=fun h0=>by rw[Rr (V7 (u:=utf0) (s:=A0 r n) (by decide)) h0];exact⟨rfl,rfl⟩
 refine Ar Tryz.func197 Q4 Q4 (w:=let zi:Int→C:= .int .i64;let z4:=(r.s.length:Int);let z7:List Blk:=[.cells (B7 2 (Bx r f n)),.dead,.lst .ev (Bx r f n).out];let z10:=vB (decide ((Bx r f n).fail.kind=0));let z13:=(⟨4,0,0,0,A0 r n,0,0⟩:Ev);let z14:=r.at_+n;let z1:List C:=[.seq .shp r.plan.shapes,zi r.plan.root,zi r.plan.deep,zi r.plan.most,.str r.s,zi z14,.own 2,zi r.fail.kind,zi r.fail.field,.int .u64 r.fail.bits,zi r.fail.len,.str r.fail.text,zi r.fail.code,zi r.fail.at_];let z11:=(.v (vI (IntKind.i64.wrap z14)):S)= .v (vI z14);let z16:=vB false;let z17:=A0 r n;let z12:=decide ((z17.length:Int)<n);let z18:=if z4<n then z4 else n;let z23:=G3;let z24:= !(decide (0=0)&&(decide (0=0)&&decide (0=0)));let z26:=utf0;let z8:=D6 z26 z17;let z15:=decide (0≤D6 z26 z17);let z25:=r.at_+z8;let z29:=(⟨4,0,0,0,List.take (z8.toNat) z17,0,0⟩:Ev);let z30:=if r.at_+z18<z4 then r.at_+z18 else z4;let z35:=(.v z16:S);let z36:= !decide (A0 r n=[]);let z38:=(A5 f n);let z3:=(⟨r.plan,r.s,r.at_,r.out++[z38],r.fail⟩:Mr);let z6:=r.out++[z38];let z2:=(⟨r.plan,r.s,r.at_,z6++[z13],r.fail⟩:Mr);let z5:=Bg (⟨r.plan,r.s,r.at_,z6++[z29],r.fail⟩:Mr) 5 z25;let z27:List Blk:=[.cells (B7 1 r),.lst .ev (z6++[z13])];let z28:List Blk:=[.cells (B7 1 r),.lst .ev z6];let z37:=Bg z3 5 z25;let z39:=([.cells z1,.dead,.lst .ev ((z6++[z13])++[z23])]:List Blk);let z40:=([.cells z1,.dead,.lst .ev (z6++[z23])]:List Blk);let z41:=(decide (0≤(-1)))=false;let z42:=List.length (z6++[z13])+List.length [z23]≤Be;let z43:=(.v (vI (IntKind.i64.wrap z25)):S)= .v (vI z25);let z44:=J1 z26 z17;let z9:= !(decide (z44.want=0)&&(decide (z44.low=0)&&decide (z44.high=0)));let z45:List V:=[vP 0,vI 10,vI z4];let z46:List V:=[vP 0,vI 5,vI z14];let z47:=(.v (vB true):S);let z48:= !decide (List.take (z8.toNat) z17=[]);let z49:=Bg z2 10 z4;let z19:List Blk:=[.cells (B7 1 z49),.lst .ev z49.out];let z31:=([.cells (B7 2 z49),.dead,.lst .ev z49.out]:List Blk);let z50:=Bg z2 5 z14;let z20:List Blk:=[.cells (B7 1 z50),.lst .ev z50.out];let z32:=([.cells (B7 2 z50),.dead,.lst .ev z50.out]:List Blk);let z51:=Bg z3 10 z4;let z21:List Blk:=[.cells (B7 1 z51),.lst .ev z51.out];let z33:=([.cells (B7 2 z51),.dead,.lst .ev z51.out]:List Blk);let z52:=Bg z3 5 z14;let z22:List Blk:=[.cells (B7 1 z52),.lst .ev z52.out];let z34:=([.cells (B7 2 z52),.dead,.lst .ev z52.out]:List Blk);let z53:=z6.length+List.length [z13]≤Be;let z54:=z6.length+List.length [z23]≤Be;(.seg [.ord (os 14 [9,10,13]) [1],.ty .ev,.ty .ev,.ord (os 22 [17,19]) [],.as 47 (.v (vI (r.at_+z18))),.as 49 (.v (vT z17))] (.br (.seg [.call [] (.tup [.agg (Hn z44),vI z8]) []] (.br (.br (.seg [.ty .ev,.ty .ev,.br true,.as 85 (.v (vI z25)),.call [0,7] (.v z16) [.cells (B7 1 z5),.lst .ev z5.out]] (.leaf () [0,1,7])) (.seg [.br true,.as 85 (.v (vI z25)),.call [0,4] (.v z16) [.cells (B7 1 z37),.lst .ev z37.out]] (.leaf () [0,1,4]))) (.br (.seg [.ty .ev,.ty .ev,.br false] (.br (.seg [.call [0,7] (.v z16) z19] (.leaf () [0,1,7])) (.br (.seg [.as 106 (.v (vI z14)),.call [0,7] (.v z16) z20] (.leaf () [0,1,7])) (.seg [.as 111 (.v (vI z14)),.ty .ev,.ty .ev] (.leaf () [0,1,9]))))) (.seg [.br false] (.br (.seg [.call [0,4] (.v z16) z21] (.leaf () [0,1,4])) (.br (.seg [.as 106 (.v (vI z14)),.call [0,4] (.v z16) z22] (.leaf () [0,1,4])) (.seg [.as 111 (.v (vI z14)),.ty .ev,.ty .ev] (.leaf () [0,1,7])))))))) (.seg [.br false] (.br (.seg [.ty .ev,.ty .ev,.br false] (.br (.seg [.call [0,7] (.v z16) z19] (.leaf () [0,1,7])) (.br (.seg [.as 106 (.v (vI z14)),.call [0,7] (.v z16) z20] (.leaf () [0,1,7])) (.seg [.as 111 (.v (vI z14)),.ty .ev,.ty .ev] (.leaf () [0,1,9]))))) (.seg [.br false] (.br (.seg [.call [0,4] (.v z16) z21] (.leaf () [0,1,4])) (.br (.seg [.as 106 (.v (vI z14)),.call [0,4] (.v z16) z22] (.leaf () [0,1,4])) (.seg [.as 111 (.v (vI z14)),.ty .ev,.ty .ev] (.leaf () [0,1,7])))))))),(r.out.length+List.length [z38]≤Be)∧((.v (vI (IntKind.i64.wrap (r.at_+z18))):S)= .v (vI (r.at_+z18)))∧(z30≤z4)∧(r.at_≤z30)∧((0:Int)≤r.at_)∧((.v (vT (List.drop (r.at_.toNat) (List.take (z30.toNat) r.s))):S)= .v (vT z17))∧((decide (f.kind=6))=true→(Fun Tryz.prog 213 [.agg [zi 0,zi 0,zi 0],vT z17] [] (.tup [.agg (Hn z44),vI z8]) [])∧(z15=true→(D6 z26 z17≤(z17.length:Int))∧((0:Int)≤D6 z26 z17)∧(z48=true→(z6.length+List.length [z29]≤Be)∧(z15=true)∧z43∧(Fun Tryz.prog 107 [vP 0,vI 5,vI z25] [.cells (B7 1 r),.lst .ev (z6++[z29])] (.v z16) [.cells (B7 1 z5),.lst .ev z5.out])∧z35= .v z10∧([.cells (B7 2 z5),.dead,.lst .ev z5.out]:List Blk)=z7)∧(z48=false→(z15=true)∧z43∧(Fun Tryz.prog 107 [vP 0,vI 5,vI z25] z28 (.v z16) [.cells (B7 1 z37),.lst .ev z37.out])∧z35= .v z10∧([.cells (B7 2 z37),.dead,.lst .ev z37.out]:List Blk)=z7))∧(z15=false→(z36=true→z53∧(z15=false)∧(z12=true→(Fun Tryz.prog 107 z45 z27 (.v z16) z19)∧z35= .v z10∧z31=z7)∧(z12=false→(z9=true→z11∧(Fun Tryz.prog 107 z46 z27 (.v z16) z20)∧z35= .v z10∧z32=z7)∧(z9=false→z11∧z42∧z47= .v z10∧z39=z7)))∧(z36=false→(z15=false)∧(z12=true→(Fun Tryz.prog 107 z45 z28 (.v z16) z21)∧z35= .v z10∧z33=z7)∧(z12=false→(z9=true→z11∧(Fun Tryz.prog 107 z46 z28 (.v z16) z22)∧z35= .v z10∧z34=z7)∧(z9=false→z11∧z54∧z47= .v z10∧z40=z7)))))∧((decide (f.kind=6))=false→z41∧(z36=true→z53∧z41∧(z12=true→(Fun Tryz.prog 107 z45 z27 (.v z16) z19)∧z35= .v z10∧z31=z7)∧(z12=false→(z24=true→z11∧(Fun Tryz.prog 107 z46 z27 (.v z16) z20)∧z35= .v z10∧z32=z7)∧(z24=false→z11∧z42∧z47= .v z10∧z39=z7)))∧(z36=false→z41∧(z12=true→(Fun Tryz.prog 107 z45 z28 (.v z16) z21)∧z35= .v z10∧z33=z7)∧(z12=false→(z24=true→z11∧(Fun Tryz.prog 107 z46 z28 (.v z16) z22)∧z35= .v z10∧z34=z7)∧(z24=false→z11∧z54∧z47= .v z10∧z40=z7)))))) Q4 ?_
 refine⟨Q6,(Ac Q2 Q2),Q2,Q2,Q2,(Am4 (Aci (s:=r.s) (a:=r.at_) (n:=n) Q2 Q2 Q2 (by first|omega|(simp only[Am];omega)))),dsp (fun h1 p1=>?_) fun h1 p1=>?_⟩
 refine⟨(Ah7 utf0 _ Q2),dsp (fun h2 p2=>?_) fun h2 p2=>?_⟩
 refine⟨Q2,Q2,fun h3=>have q3:=Ap h3;have p3:=of_decide_eq_false q3;?_,fun h3=>have q3:=Ao h3;have p3:=of_decide_eq_true q3;?_⟩
 refine⟨(by simp only[List.length_append,List.length_take,List.length_cons,List.length_nil];omega),h2,(Ac Q2 Q2),(Hm (⟨r.plan,r.s,r.at_,(r.out++[(A5 f n)])++[(⟨4,0,0,0,List.take (Int.toNat (D6 utf0 (A0 r n))) (A0 r n),0,0⟩:Ev)],r.fail⟩:Mr) _ _),?_⟩
 refine have hm1:Bx r f n=(Bg (⟨r.plan,r.s,r.at_,(r.out++[(A5 f n)])++[(⟨4,0,0,0,List.take (Int.toNat (D6 utf0 (A0 r n))) (A0 r n),0,0⟩:Ev)],r.fail⟩:Mr) 5 (r.at_+(D6 utf0 (A0 r n)))):=?_;?_
 rotate_left
 refine⟨(sB ?_),Q5⟩
 rotate_left
 refine⟨h2,(Ac Q2 Q2),(Hm (⟨r.plan,r.s,r.at_,r.out++[(A5 f n)],r.fail⟩:Mr) _ _),?_⟩
 refine have hm1:Bx r f n=(Bg (⟨r.plan,r.s,r.at_,r.out++[(A5 f n)],r.fail⟩:Mr) 5 (r.at_+(D6 utf0 (A0 r n)))):=?_;?_
 rotate_left
 refine⟨(sB ?_),Q5⟩
 rotate_left
 refine⟨fun h3=>have q3:=Ap h3;have p3:=of_decide_eq_false q3;?_,fun h3=>have q3:=Ao h3;have p3:=of_decide_eq_true q3;?_⟩
 refine⟨Q23,h2,dsp (fun h4 p4=>?_) fun h4 p4=>?_⟩
 refine⟨(Hm (⟨r.plan,r.s,r.at_,(r.out++[(A5 f n)])++[(⟨4,0,0,0,A0 r n,0,0⟩:Ev)],r.fail⟩:Mr) _ _),?_⟩
 refine have hm1:Bx r f n=(Bg (⟨r.plan,r.s,r.at_,(r.out++[(A5 f n)])++[(⟨4,0,0,0,A0 r n,0,0⟩:Ev)],r.fail⟩:Mr) 10 (r.s.length:Int)):=?_;?_
 rotate_left
 refine⟨(sB ?_),Q5⟩
 rotate_left
 refine⟨fun h5=>have q5:=Ap h5;have p5:=(Cx dT (Cx dT dF)).1 q5;?_,fun h5=>have q5:=Ao h5;have p5:=(Cw dT (Cw dT dT)).1 q5;?_⟩
 refine⟨(Ac Q2 Q2),(Hm (⟨r.plan,r.s,r.at_,(r.out++[(A5 f n)])++[(⟨4,0,0,0,A0 r n,0,0⟩:Ev)],r.fail⟩:Mr) _ _),?_⟩
 refine have hm1:Bx r f n=(Bg (⟨r.plan,r.s,r.at_,(r.out++[(A5 f n)])++[(⟨4,0,0,0,A0 r n,0,0⟩:Ev)],r.fail⟩:Mr) 5 (r.at_+n)):=?_;?_
 rotate_left
 refine⟨(sB ?_),Q5⟩
 rotate_left
 refine⟨(Ac Q2 Q2),Q23,?_⟩
 refine have hm1:Bx r f n=(⟨r.plan,r.s,r.at_+n,((r.out++[(A5 f n)])++[(⟨4,0,0,0,A0 r n,0,0⟩:Ev)])++[G3],r.fail⟩:Mr):=?_;?_
 rotate_left
 refine⟨(sB ?_),Q5⟩
 rotate_left
 refine⟨h2,dsp (fun h4 p4=>?_) fun h4 p4=>?_⟩
 refine⟨(Hm (⟨r.plan,r.s,r.at_,r.out++[(A5 f n)],r.fail⟩:Mr) _ _),?_⟩
 refine have hm1:Bx r f n=(Bg (⟨r.plan,r.s,r.at_,r.out++[(A5 f n)],r.fail⟩:Mr) 10 (r.s.length:Int)):=?_;?_
 rotate_left
 refine⟨(sB ?_),Q5⟩
 rotate_left
 refine⟨fun h5=>have q5:=Ap h5;have p5:=(Cx dT (Cx dT dF)).1 q5;?_,fun h5=>have q5:=Ao h5;have p5:=(Cw dT (Cw dT dT)).1 q5;?_⟩
 refine⟨(Ac Q2 Q2),(Hm (⟨r.plan,r.s,r.at_,r.out++[(A5 f n)],r.fail⟩:Mr) _ _),?_⟩
 refine have hm1:Bx r f n=(Bg (⟨r.plan,r.s,r.at_,r.out++[(A5 f n)],r.fail⟩:Mr) 5 (r.at_+n)):=?_;?_
 rotate_left
 refine⟨(sB ?_),Q5⟩
 rotate_left
 refine⟨(Ac Q2 Q2),Q23,?_⟩
 refine have hm1:Bx r f n=(⟨r.plan,r.s,r.at_+n,(r.out++[(A5 f n)])++[G3],r.fail⟩:Mr):=?_;?_
 rotate_left
 refine⟨(sB ?_),Q5⟩
 rotate_left
 refine⟨Q26,fun h2=>have q2:=Ap h2;have p2:=of_decide_eq_false q2;?_,fun h2=>have q2:=Ao h2;have p2:=of_decide_eq_true q2;?_⟩
 refine⟨Q23,Q26,dsp (fun h3 p3=>?_) fun h3 p3=>?_⟩
 refine⟨(Hm (⟨r.plan,r.s,r.at_,(r.out++[(A5 f n)])++[(⟨4,0,0,0,A0 r n,0,0⟩:Ev)],r.fail⟩:Mr) _ _),?_⟩
 refine have hm1:Bx r f n=(Bg (⟨r.plan,r.s,r.at_,(r.out++[(A5 f n)])++[(⟨4,0,0,0,A0 r n,0,0⟩:Ev)],r.fail⟩:Mr) 10 (r.s.length:Int)):=?_;?_
 rotate_left
 refine⟨(sB ?_),Q5⟩
 rotate_left
 refine⟨fun h4=>have q4:=Ap h4;have p4:=(Cx dT (Cx dT dF)).1 q4;?_,fun h4=>have q4:=Ao h4;have p4:=(Cw dT (Cw dT dT)).1 q4;?_⟩
 refine⟨(Ac Q2 Q2),(Hm (⟨r.plan,r.s,r.at_,(r.out++[(A5 f n)])++[(⟨4,0,0,0,A0 r n,0,0⟩:Ev)],r.fail⟩:Mr) _ _),?_⟩
 refine have hm1:Bx r f n=(Bg (⟨r.plan,r.s,r.at_,(r.out++[(A5 f n)])++[(⟨4,0,0,0,A0 r n,0,0⟩:Ev)],r.fail⟩:Mr) 5 (r.at_+n)):=?_;?_
 rotate_left
 refine⟨(sB ?_),Q5⟩
 rotate_left
 refine⟨(Ac Q2 Q2),Q23,?_⟩
 refine have hm1:Bx r f n=(⟨r.plan,r.s,r.at_+n,((r.out++[(A5 f n)])++[(⟨4,0,0,0,A0 r n,0,0⟩:Ev)])++[G3],r.fail⟩:Mr):=?_;?_
 rotate_left
 refine⟨(sB ?_),Q5⟩
 rotate_left
 refine⟨Q26,dsp (fun h3 p3=>?_) fun h3 p3=>?_⟩
 refine⟨(Hm (⟨r.plan,r.s,r.at_,r.out++[(A5 f n)],r.fail⟩:Mr) _ _),?_⟩
 refine have hm1:Bx r f n=(Bg (⟨r.plan,r.s,r.at_,r.out++[(A5 f n)],r.fail⟩:Mr) 10 (r.s.length:Int)):=?_;?_
 rotate_left
 refine⟨(sB ?_),Q5⟩
 rotate_left
 refine⟨fun h4=>have q4:=Ap h4;have p4:=(Cx dT (Cx dT dF)).1 q4;?_,fun h4=>have q4:=Ao h4;have p4:=(Cw dT (Cw dT dT)).1 q4;?_⟩
 refine⟨(Ac Q2 Q2),(Hm (⟨r.plan,r.s,r.at_,r.out++[(A5 f n)],r.fail⟩:Mr) _ _),?_⟩
 refine have hm1:Bx r f n=(Bg (⟨r.plan,r.s,r.at_,r.out++[(A5 f n)],r.fail⟩:Mr) 5 (r.at_+n)):=?_;?_
 rotate_left
 refine⟨(sB ?_),Q5⟩
 rotate_left
 refine⟨(Ac Q2 Q2),Q23,?_⟩
 refine have hm1:Bx r f n=(⟨r.plan,r.s,r.at_+n,(r.out++[(A5 f n)])++[G3],r.fail⟩:Mr):=?_;?_
 rotate_left
 refine⟨(sB ?_),Q5⟩
 rotate_left
 all_goals first|(simp[hm1,Bg,Aw,hp3];done)|(simp_all[Bx,Ew,Lw,Kf,Yt,Am,S8,Bg,A5,Acg,G3];done)|(grind (ematch:=20) (gen:=20) [Bx,Ew,Lw,Kf,Yt,Am,S8,Bg,A5,Acg,G3])
theorem Ann (r:Mr) (f:Fld) (n:Int) (hp1:List.length (r).s≤1048576) (hp2:(r).at_≤((List.length (r).s:Nat):Int)) (hp3:(r).fail.kind=0) (hp4:((List.length (r).out:Nat):Int)+4*(((List.length (r).s:Nat):Int)-(r).at_)≤99999996) (hp5:(0:Int)≤(r).at_) (hp6:(0:Int)≤n∧(r).at_+n≤9223372036854775807):Fun Tryz.prog 216 [vP 0,.agg (Ej f),vI n] [.cells (B7 1 r),.lst .ev r.out] (.tup []) [.cells (B7 2 (Bx r f n)),.dead,.lst .ev (Bx r f n).out]:=by
 have hN:Be=274877906944:=rfl
 have htl:=Ms hp6.1 hp5 hp2
 have hub:=Aa4 utf0 (A0 r n)
 have hu0:utf0.want=0∧utf0.low=0∧utf0.high=0:=⟨rfl,rfl,rfl⟩
 have huw:=Je (V7 (u:=utf0) (s:=A0 r n) (by decide))
 have huz:(J1 utf0 (A0 r n)).want=0→(J1 utf0 (A0 r n)).low=0∧(J1 utf0 (A0 r n)).high=0:=fun h0=>by rw[Rr (V7 (u:=utf0) (s:=A0 r n) (by decide)) h0];exact⟨rfl,rfl⟩
 refine Ar Tryz.func216 Q4 Q4 (w:=let zi:Int→C:= .int .i64;let z6:List C:=[zi 5,zi 0,.int .u64 0,zi 0,.str [],zi 0,zi 0];let z8:=Am r (A5 f n);let z9:=Am z8 (⟨4,0,0,0,A0 r n,0,0⟩:Ev);let z14:List Blk:=[.cells (B7 2 (Bx r f n)),.dead,.lst .ev (Bx r f n).out];let z15:=(z8.s.length:Int);let z18:=z8.at_+n;let z4:List C:=[.seq .shp z8.plan.shapes,zi z8.plan.root,zi z8.plan.deep,zi z8.plan.most,.str z8.s,zi z18,.own 1,zi z8.fail.kind,zi z8.fail.field,.int .u64 z8.fail.bits,zi z8.fail.len,.str z8.fail.text,zi z8.fail.code,zi z8.fail.at_];let z19:=A0 r n;let z7:List C:=[zi 4,zi 0,.int .u64 0,zi 0,.str z19,zi 0,zi 0];let z17:=decide ((z19.length:Int)<n);let z21:=(.v (vI (IntKind.i64.wrap z18)):S)= .v (vI z18);let z22:=z9.at_+n;let z2:List C:=[.seq .shp z9.plan.shapes,zi z9.plan.root,zi z9.plan.deep,zi z9.plan.most,.str z9.s,zi z22,.own 1,zi z9.fail.kind,zi z9.fail.field,.int .u64 z9.fail.bits,zi z9.fail.len,.str z9.fail.text,zi z9.fail.code,zi z9.fail.at_];let z23:=utf0;let z13:=D6 z23 z19;let z24:=Aw 10 z15;let z3:List C:=[.seq .shp z8.plan.shapes,zi z8.plan.root,zi z8.plan.deep,zi z8.plan.most,.str z8.s,zi z8.at_,.own 2,zi z24.kind,zi z24.field,.int .u64 z24.bits,zi z24.len,.str z24.text,zi z24.code,zi z24.at_];let z25:List Blk:=[.cells (B7 2 z9),.dead,.lst .ev z9.out];let z26:=(.tup []:S);let z27:=(.v (vI (IntKind.i64.wrap z22)):S)= .v (vI z22);let z28:=decide (0<(J1 z23 z19).want);let z29:=Aw 5 z22;let z30:=Aw 5 z18;let z31:=Am (⟨z9.plan,z9.s,z9.at_+n,z9.out,z9.fail⟩:Mr) G3;let z11:List Blk:=[.cells (B7 2 z31),.dead,.lst .ev z31.out];let z32:=Am (⟨z8.plan,z8.s,z8.at_+n,z8.out,z8.fail⟩:Mr) G3;let z12:List Blk:=[.cells (B7 2 z32),.dead,.lst .ev z32.out];let z34:= !decide (A0 r n=[]);let z35:=(z9.s.length:Int);let z16:=Aw 10 z35;let z1:List C:=[.seq .shp z9.plan.shapes,zi z9.plan.root,zi z9.plan.deep,zi z9.plan.most,.str z9.s,zi z9.at_,.own 2,zi z16.kind,zi z16.field,.int .u64 z16.bits,zi z16.len,.str z16.text,zi z16.code,zi z16.at_];let z36:=([.cells z1,.dead,.lst .ev z9.out]:List Blk);let z37:=([.cells z3,.dead,.lst .ev z8.out]:List Blk);let z38:=z8.at_+z13;let z20:=Aw 5 z38;let z5:List C:=[zi z20.kind,zi z20.field,.int .u64 z20.bits,zi z20.len,.str z20.text,zi z20.code,zi z20.at_];let z10:=Am (⟨z8.plan,z8.s,z8.at_,z8.out,z20⟩:Mr) (⟨4,0,0,0,List.take (z13.toNat) z19,0,0⟩:Ev);let z33:List Blk:=[.cells (B7 2 z10),.dead,.lst .ev z10.out];let z39:= !decide (List.take (z13.toNat) z19=[]);let z40:=(!decide (z9.fail.kind=0))=false;let z41:=(!decide (z8.fail.kind=0))=false;let z42:List Blk:=[.cells (B7 2 z8),.dead,.lst .ev z8.out];let z43:List V:=[vP 0,.agg z6];(.seg [.call [0,1] (.tup []) z42,.ord (os 22 [19]) [],.as 34 (.v (vI z18)),.call [] (.v (vI (min z15 z18))) [],.as 36 (.v (vT z19))] (.br (.seg [.call [] (.tup [.agg (Hn (J1 z23 z19)),vI z13]) []] (.br (.seg [.as 56 (.v (vI z38)),.call [] (.v (.agg (cEv z20))) []] (.br (.seg [.call [0,3] (.tup []) z33,.br true] (.leaf () [0,1,6])) (.seg [.br true] (.leaf () [0,1,3])))) (.br (.seg [.call [0,3] (.tup []) z25,.br false] (.br (.seg [.call [] (.v (.agg (cEv z16))) []] (.leaf () [0,1,6])) (.br (.seg [.as 112 (.v (vI z22)),.call [] (.v (.agg (cEv z29))) []] (.leaf () [0,1,6])) (.seg [.as 75 (.v (vI z22)),.call [0,6] (.tup []) z11] (.leaf () [0,1,7]))))) (.seg [.br false] (.br (.seg [.call [] (.v (.agg (cEv z24))) []] (.leaf () [0,1,3])) (.br (.seg [.as 112 (.v (vI z18)),.call [] (.v (.agg (cEv z30))) []] (.leaf () [0,1,3])) (.seg [.as 75 (.v (vI z18)),.call [0,3] (.tup []) z12] (.leaf () [0,1,6])))))))) (.br (.seg [.call [0,3] (.tup []) z25,.br false] (.br (.seg [.call [] (.v (.agg (cEv z16))) []] (.leaf () [0,1,5])) (.seg [.br false,.as 75 (.v (vI z22)),.call [0,5] (.tup []) z11] (.leaf () [0,1,6])))) (.seg [.br false] (.br (.seg [.call [] (.v (.agg (cEv z24))) []] (.leaf () [0,1,3])) (.seg [.br false,.as 75 (.v (vI z18)),.call [0,3] (.tup []) z12] (.leaf () [0,1,5])))))),(Fun Tryz.prog 215 [vP 0,.agg [zi 3,zi f.number,.int .u64 0,zi n,.str [],zi 0,zi 0]] [.cells (B7 1 r),.lst .ev r.out] (.tup []) z42)∧z21∧z21∧(Fun Tryz.prog 47 [vI z15,vI z18] [] (.v (vI (min z15 z18))) [])∧(min z15 z18≤z15)∧(z8.at_≤min z15 z18)∧((0:Int)≤z8.at_)∧((.v (vT (List.drop (z8.at_.toNat) (List.take (Int.toNat (min z15 z18)) z8.s))):S)= .v (vT z19))∧((decide (f.kind=6))=true→(Fun Tryz.prog 202 [.agg [zi 0,zi 0,zi 0],vT z19] [] (.tup [.agg (Hn (J1 z23 z19)),vI z13]) [])∧((decide (0≤D6 z23 z19))=true→((.v (vI (IntKind.i64.wrap z38)):S)= .v (vI z38))∧(Fun Tryz.prog 110 [vI 5,vI z38] [] (.v (.agg (cEv z20))) [])∧(D6 z23 z19≤(z19.length:Int))∧((0:Int)≤D6 z23 z19)∧(z39=true→(Fun Tryz.prog 215 [vP 0,.agg [zi 4,zi 0,.int .u64 0,zi 0,.str (List.take (z13.toNat) z19),zi 0,zi 0]] [.cells (.seq .shp z8.plan.shapes::zi z8.plan.root::zi z8.plan.deep::zi z8.plan.most:: .str z8.s::zi z8.at_:: .own 1::z5),.lst .ev z8.out] (.tup []) z33)∧((!decide (z10.fail.kind=0))=true)∧z26= .tup []∧(z33:List Blk)=z14)∧(z39=false→((!decide (z20.kind=0))=true)∧z26= .tup []∧([.cells (.seq .shp z8.plan.shapes::zi z8.plan.root::zi z8.plan.deep::zi z8.plan.most:: .str z8.s::zi z8.at_:: .own 2::z5),.dead,.lst .ev z8.out]:List Blk)=z14))∧((decide (0≤D6 z23 z19))=false→(z34=true→(Fun Tryz.prog 215 [vP 0,.agg z7] [.cells (B7 1 z8),.lst .ev z8.out] (.tup []) z25)∧z40∧(z17=true→(Fun Tryz.prog 110 [vI 10,vI z35] [] (.v (.agg (cEv z16))) [])∧z26= .tup []∧z36=z14)∧(z17=false→(z28=true→z27∧(Fun Tryz.prog 110 [vI 5,vI z22] [] (.v (.agg (cEv z29))) [])∧z26= .tup []∧([.cells [.seq .shp z9.plan.shapes,zi z9.plan.root,zi z9.plan.deep,zi z9.plan.most,.str z9.s,zi z9.at_,.own 2,zi z29.kind,zi z29.field,.int .u64 z29.bits,zi z29.len,.str z29.text,zi z29.code,zi z29.at_],.dead,.lst .ev z9.out]:List Blk)=z14)∧(z28=false→z27∧(Fun Tryz.prog 215 z43 [.cells z2,.lst .ev z9.out] (.tup []) z11)∧z26= .tup []∧(z11:List Blk)=z14)))∧(z34=false→z41∧(z17=true→(Fun Tryz.prog 110 [vI 10,vI z15] [] (.v (.agg (cEv z24))) [])∧z26= .tup []∧z37=z14)∧(z17=false→(z28=true→z21∧(Fun Tryz.prog 110 [vI 5,vI z18] [] (.v (.agg (cEv z30))) [])∧z26= .tup []∧([.cells [.seq .shp z8.plan.shapes,zi z8.plan.root,zi z8.plan.deep,zi z8.plan.most,.str z8.s,zi z8.at_,.own 2,zi z30.kind,zi z30.field,.int .u64 z30.bits,zi z30.len,.str z30.text,zi z30.code,zi z30.at_],.dead,.lst .ev z8.out]:List Blk)=z14)∧(z28=false→z21∧(Fun Tryz.prog 215 z43 [.cells z4,.lst .ev z8.out] (.tup []) z12)∧z26= .tup []∧(z12:List Blk)=z14)))))∧((decide (f.kind=6))=false→(z34=true→(Fun Tryz.prog 215 [vP 0,.agg z7] [.cells (B7 1 z8),.lst .ev z8.out] (.tup []) z25)∧z40∧(z17=true→(Fun Tryz.prog 110 [vI 10,vI z35] [] (.v (.agg (cEv z16))) [])∧z26= .tup []∧z36=z14)∧(z17=false→((decide (0<0))=false)∧z27∧(Fun Tryz.prog 215 z43 [.cells z2,.lst .ev z9.out] (.tup []) z11)∧z26= .tup []∧(z11:List Blk)=z14))∧(z34=false→z41∧(z17=true→(Fun Tryz.prog 110 [vI 10,vI z15] [] (.v (.agg (cEv z24))) [])∧z26= .tup []∧z37=z14)∧(z17=false→((decide (0<0))=false)∧z21∧(Fun Tryz.prog 215 z43 [.cells z4,.lst .ev z8.out] (.tup []) z12)∧z26= .tup []∧(z12:List Blk)=z14))))) Q4 ?_
 refine⟨(P6 r (A5 f n) Q2),(Ac Q36 Q36),(Ac Q36 Q36),(Apw _ _),Q31,Q31,Q36,(Am4 (Aci (s:=r.s) (a:=r.at_) (n:=n) Q2 Q2 Q2 (by first|omega|(simp only[Am];omega)))),dsp (fun h1 p1=>?_) fun h1 p1=>?_⟩
 refine⟨(Ah8 utf0 _ Q2),dsp (fun h2 p2=>?_) fun h2 p2=>?_⟩
 refine⟨(Ac Q36 Q36),(Dk _ _),Q2,Q2,fun h3=>have q3:=Ap h3;have p3:=of_decide_eq_false q3;?_,fun h3=>have q3:=Ao h3;have p3:=of_decide_eq_true q3;?_⟩
 refine⟨(P6 (⟨(Am r (A5 f n)).plan,(Am r (A5 f n)).s,(Am r (A5 f n)).at_,(Am r (A5 f n)).out,(Aw 5 ((Am r (A5 f n)).at_+(D6 utf0 (A0 r n))))⟩:Mr) (⟨4,0,0,0,List.take (Int.toNat (D6 utf0 (A0 r n))) (A0 r n),0,0⟩:Ev) Q31),(Aa3 (decide_eq_false (by simp[Am,Aw]))),?_⟩
 refine have hm1:Bx r f n=(Am (⟨(Am r (A5 f n)).plan,(Am r (A5 f n)).s,(Am r (A5 f n)).at_,(Am r (A5 f n)).out,(Aw 5 ((Am r (A5 f n)).at_+(D6 utf0 (A0 r n))))⟩:Mr) (⟨4,0,0,0,List.take (Int.toNat (D6 utf0 (A0 r n))) (A0 r n),0,0⟩:Ev)):=?_;?_
 rotate_left
 exact⟨rfl,Q5⟩
 refine⟨(Aa3 (decide_eq_false (by simp[Am,Aw]))),?_⟩
 refine have hm1:Bx r f n=(⟨(Am r (A5 f n)).plan,(Am r (A5 f n)).s,(Am r (A5 f n)).at_,(Am r (A5 f n)).out,(Aw 5 ((Am r (A5 f n)).at_+(D6 utf0 (A0 r n))))⟩:Mr):=?_;?_
 rotate_left
 exact⟨rfl,Q5⟩
 refine⟨fun h3=>have q3:=Ap h3;have p3:=of_decide_eq_false q3;?_,fun h3=>have q3:=Ao h3;have p3:=of_decide_eq_true q3;?_⟩
 refine⟨(P6 (Am r (A5 f n)) (⟨4,0,0,0,A0 r n,0,0⟩:Ev) Q31),(Wp (decide_eq_true hp3)),dsp (fun h4 p4=>?_) fun h4 p4=>?_⟩
 refine⟨(Dk _ _),?_⟩
 refine have hm1:Bx r f n=(⟨(Am (Am r (A5 f n)) (⟨4,0,0,0,A0 r n,0,0⟩:Ev)).plan,(Am (Am r (A5 f n)) (⟨4,0,0,0,A0 r n,0,0⟩:Ev)).s,(Am (Am r (A5 f n)) (⟨4,0,0,0,A0 r n,0,0⟩:Ev)).at_,(Am (Am r (A5 f n)) (⟨4,0,0,0,A0 r n,0,0⟩:Ev)).out,(Aw 10 ((List.length (Am (Am r (A5 f n)) (⟨4,0,0,0,A0 r n,0,0⟩:Ev)).s:Nat):Int))⟩:Mr):=?_;?_
 rotate_left
 exact⟨rfl,Q5⟩
 refine dsp (fun h5 p5=>?_) fun h5 p5=>?_
 refine⟨(Ac Q36 Q36),(Dk _ _),?_⟩
 refine have hm1:Bx r f n=(⟨(Am (Am r (A5 f n)) (⟨4,0,0,0,A0 r n,0,0⟩:Ev)).plan,(Am (Am r (A5 f n)) (⟨4,0,0,0,A0 r n,0,0⟩:Ev)).s,(Am (Am r (A5 f n)) (⟨4,0,0,0,A0 r n,0,0⟩:Ev)).at_,(Am (Am r (A5 f n)) (⟨4,0,0,0,A0 r n,0,0⟩:Ev)).out,(Aw 5 ((Am (Am r (A5 f n)) (⟨4,0,0,0,A0 r n,0,0⟩:Ev)).at_+n))⟩:Mr):=?_;?_
 rotate_left
 exact⟨rfl,Q5⟩
 refine⟨(Ac Q36 Q36),(P6 (⟨(Am (Am r (A5 f n)) (⟨4,0,0,0,A0 r n,0,0⟩:Ev)).plan,(Am (Am r (A5 f n)) (⟨4,0,0,0,A0 r n,0,0⟩:Ev)).s,(Am (Am r (A5 f n)) (⟨4,0,0,0,A0 r n,0,0⟩:Ev)).at_+n,(Am (Am r (A5 f n)) (⟨4,0,0,0,A0 r n,0,0⟩:Ev)).out,(Am (Am r (A5 f n)) (⟨4,0,0,0,A0 r n,0,0⟩:Ev)).fail⟩:Mr) G3 Q31),?_⟩
 refine have hm1:Bx r f n=(Am (⟨(Am (Am r (A5 f n)) (⟨4,0,0,0,A0 r n,0,0⟩:Ev)).plan,(Am (Am r (A5 f n)) (⟨4,0,0,0,A0 r n,0,0⟩:Ev)).s,(Am (Am r (A5 f n)) (⟨4,0,0,0,A0 r n,0,0⟩:Ev)).at_+n,(Am (Am r (A5 f n)) (⟨4,0,0,0,A0 r n,0,0⟩:Ev)).out,(Am (Am r (A5 f n)) (⟨4,0,0,0,A0 r n,0,0⟩:Ev)).fail⟩:Mr) G3):=?_;?_
 rotate_left
 exact⟨rfl,Q5⟩
 refine⟨(Wp (decide_eq_true hp3)),dsp (fun h4 p4=>?_) fun h4 p4=>?_⟩
 refine⟨(Dk _ _),?_⟩
 refine have hm1:Bx r f n=(⟨(Am r (A5 f n)).plan,(Am r (A5 f n)).s,(Am r (A5 f n)).at_,(Am r (A5 f n)).out,(Aw 10 ((List.length (Am r (A5 f n)).s:Nat):Int))⟩:Mr):=?_;?_
 rotate_left
 exact⟨rfl,Q5⟩
 refine dsp (fun h5 p5=>?_) fun h5 p5=>?_
 refine⟨(Ac Q36 Q36),(Dk _ _),?_⟩
 refine have hm1:Bx r f n=(⟨(Am r (A5 f n)).plan,(Am r (A5 f n)).s,(Am r (A5 f n)).at_,(Am r (A5 f n)).out,(Aw 5 ((Am r (A5 f n)).at_+n))⟩:Mr):=?_;?_
 rotate_left
 exact⟨rfl,Q5⟩
 refine⟨(Ac Q36 Q36),(P6 (⟨(Am r (A5 f n)).plan,(Am r (A5 f n)).s,(Am r (A5 f n)).at_+n,(Am r (A5 f n)).out,(Am r (A5 f n)).fail⟩:Mr) G3 Q31),?_⟩
 refine have hm1:Bx r f n=(Am (⟨(Am r (A5 f n)).plan,(Am r (A5 f n)).s,(Am r (A5 f n)).at_+n,(Am r (A5 f n)).out,(Am r (A5 f n)).fail⟩:Mr) G3):=?_;?_
 rotate_left
 exact⟨rfl,Q5⟩
 refine⟨fun h2=>have q2:=Ap h2;have p2:=of_decide_eq_false q2;?_,fun h2=>have q2:=Ao h2;have p2:=of_decide_eq_true q2;?_⟩
 refine⟨(P6 (Am r (A5 f n)) (⟨4,0,0,0,A0 r n,0,0⟩:Ev) Q31),(Wp (decide_eq_true hp3)),dsp (fun h3 p3=>?_) fun h3 p3=>?_⟩
 refine⟨(Dk _ _),?_⟩
 refine have hm1:Bx r f n=(⟨(Am (Am r (A5 f n)) (⟨4,0,0,0,A0 r n,0,0⟩:Ev)).plan,(Am (Am r (A5 f n)) (⟨4,0,0,0,A0 r n,0,0⟩:Ev)).s,(Am (Am r (A5 f n)) (⟨4,0,0,0,A0 r n,0,0⟩:Ev)).at_,(Am (Am r (A5 f n)) (⟨4,0,0,0,A0 r n,0,0⟩:Ev)).out,(Aw 10 ((List.length (Am (Am r (A5 f n)) (⟨4,0,0,0,A0 r n,0,0⟩:Ev)).s:Nat):Int))⟩:Mr):=?_;?_
 rotate_left
 exact⟨rfl,Q5⟩
 refine⟨Q26,(Ac Q36 Q36),(P6 (⟨(Am (Am r (A5 f n)) (⟨4,0,0,0,A0 r n,0,0⟩:Ev)).plan,(Am (Am r (A5 f n)) (⟨4,0,0,0,A0 r n,0,0⟩:Ev)).s,(Am (Am r (A5 f n)) (⟨4,0,0,0,A0 r n,0,0⟩:Ev)).at_+n,(Am (Am r (A5 f n)) (⟨4,0,0,0,A0 r n,0,0⟩:Ev)).out,(Am (Am r (A5 f n)) (⟨4,0,0,0,A0 r n,0,0⟩:Ev)).fail⟩:Mr) G3 Q31),?_⟩
 refine have hm1:Bx r f n=(Am (⟨(Am (Am r (A5 f n)) (⟨4,0,0,0,A0 r n,0,0⟩:Ev)).plan,(Am (Am r (A5 f n)) (⟨4,0,0,0,A0 r n,0,0⟩:Ev)).s,(Am (Am r (A5 f n)) (⟨4,0,0,0,A0 r n,0,0⟩:Ev)).at_+n,(Am (Am r (A5 f n)) (⟨4,0,0,0,A0 r n,0,0⟩:Ev)).out,(Am (Am r (A5 f n)) (⟨4,0,0,0,A0 r n,0,0⟩:Ev)).fail⟩:Mr) G3):=?_;?_
 rotate_left
 exact⟨rfl,Q5⟩
 refine⟨(Wp (decide_eq_true hp3)),dsp (fun h3 p3=>?_) fun h3 p3=>?_⟩
 refine⟨(Dk _ _),?_⟩
 refine have hm1:Bx r f n=(⟨(Am r (A5 f n)).plan,(Am r (A5 f n)).s,(Am r (A5 f n)).at_,(Am r (A5 f n)).out,(Aw 10 ((List.length (Am r (A5 f n)).s:Nat):Int))⟩:Mr):=?_;?_
 rotate_left
 exact⟨rfl,Q5⟩
 refine⟨Q26,(Ac Q36 Q36),(P6 (⟨(Am r (A5 f n)).plan,(Am r (A5 f n)).s,(Am r (A5 f n)).at_+n,(Am r (A5 f n)).out,(Am r (A5 f n)).fail⟩:Mr) G3 Q31),?_⟩
 refine have hm1:Bx r f n=(Am (⟨(Am r (A5 f n)).plan,(Am r (A5 f n)).s,(Am r (A5 f n)).at_+n,(Am r (A5 f n)).out,(Am r (A5 f n)).fail⟩:Mr) G3):=?_;?_
 rotate_left
 exact⟨rfl,Q5⟩
 all_goals first|(simp[hm1,Bg,Aw,hp3];done)|(simp_all[Bx,Ew,Lw,Kf,Yt,Am,S8,Bg,A5,Acg,G3];done)|(grind (ematch:=20) (gen:=20) [Bx,Ew,Lw,Kf,Yt,Am,S8,Bg,A5,Acg,G3])
def Aje (K:Nat):Prop:= ∀(r:Mr) (shape:Int) (end_:Int) (deep:Int) (hp1:List.length (r).s≤1048576) (hp2:(r).at_≤((List.length (r).s:Nat):Int)) (hp3:(r).fail.kind=0) (hp4:((List.length (r).out:Nat):Int)+4*(((List.length (r).s:Nat):Int)-(r).at_)≤100000000) (hp5:(0:Int)≤(r).at_) (hp6: -1000000000≤end_∧end_≤9223372036854775807) (hp7:B5 (r).plan=true) (hp8:(1:Int)≤deep∧deep≤(r).plan.deep) (hp9:Int.toNat ((r).plan.deep-deep)<K),Fun Tryz.prog 108 [vP 0,vI shape,vI end_,vI deep] [.cells (B7 1 r),.lst .ev r.out] (.v (vB (decide ((D8 (Int.toNat ((r).plan.deep-deep)) shape end_ r).fail.kind=0)))) [.cells (B7 2 (D8 (Int.toNat ((r).plan.deep-deep)) shape end_ r)),.dead,.lst .ev (D8 (Int.toNat ((r).plan.deep-deep)) shape end_ r).out]
theorem Ano (K:Nat) (hM:Aje K) (r:Mr) (f:Fld) (known:Bool) (end_:Int) (deep:Int) (hp1:List.length (r).s≤1048576) (hp2:(r).at_≤((List.length (r).s:Nat):Int)) (hp3:(r).fail.kind=0) (hp4:((List.length (r).out:Nat):Int)+4*(((List.length (r).s:Nat):Int)-(r).at_)≤100000000) (hp5:(0:Int)≤(r).at_) (hp6: -1000000000≤end_∧end_≤9223372036854775807) (hp7:B5 (r).plan=true) (hp8:(1:Int)≤deep∧deep≤(r).plan.deep) (hp9:known=true→1≤(f).number) (hp10:known=true→1≤(f).kind∧(f).kind≤8) (hp11:Int.toNat ((r).plan.deep-deep)≤K):Fun Tryz.prog 161 [vP 0,.agg (Ej f),vB known,vI end_,vI deep] [.cells (B7 1 r),.lst .ev r.out] (.v (vB (decide ((Bf (Gh (Int.toNat ((r).plan.deep-deep))) r f (known) end_).fail.kind=0)))) [.cells (B7 2 (Bf (Gh (Int.toNat ((r).plan.deep-deep))) r f (known) end_)),.dead,.lst .ev (Bf (Gh (Int.toNat ((r).plan.deep-deep))) r f (known) end_).out]:=by
 have hN:Be=274877906944:=rfl
 have hpt:=By hp7
 obtain ⟨hv,hv2,hv3⟩:=Eo (e:=end_) hp2
 have hvk:=C1 (r:=r) (e:=end_) hp3
 have hu:=Gs r end_
 have hvs:=congrArg List.length hv.1.s
 have hvo:=congrArg List.length hv3
 have hvp:=hv.1.plan
 have hvd:(Ae r end_).plan.deep=r.plan.deep:=by rw[hvp]
 have hnm:Cy f.kind=true↔1≤f.kind∧f.kind≤5:=by simp[Cy,Aq]
 refine Ar Tryz.func161 Q4 Q4 (w:=let zi:Int→C:= .int .i64;let z2:=Bf (Gh (Int.toNat ((r).plan.deep-deep))) r f (known) end_;let z3:=Ae r end_;let z5:=(z3.s.length:Int);let z6:List Blk:=[.cells (B7 2 z2),.dead,.lst .ev z2.out];let z7:=vB (decide (z2.fail.kind=0));let z9:List Blk:=[.cells (B7 1 z3),.lst .ev z3.out];let z11:=(⟨6,f.number,0,An r end_,[],0,0⟩:Ev);let z13:=An r end_;let z4:=z3.at_+z13;let z8:=Bx z3 f z13;let z10:=(.v (vI (IntKind.i64.wrap z4)):S)= .v (vI z4);let z12:List Blk:=[.cells (B7 2 (Ho z3 f z4)),.dead,.lst .ev (Ho z3 f z4).out];let z14:=vB (decide ((Ho z3 f z4).fail.kind=0));let z15:=Bg z3 8 r.at_;let z16:=Bg z3 6 r.at_;let z18:List Blk:=[.cells (B7 2 z8),.dead,.lst .ev z8.out];let z20:=vB false;let z21:=Bg z3 10 z5;let z22:=(.v (vI (IntKind.i64.wrap (z5-z3.at_))):S)= .v (vI (z5-z3.at_));let z23:=(.v (vI (IntKind.i64.wrap (deep+1))):S)= .v (vI (deep+1));let z24:=end_-z3.at_;let z25:=vB (decide (z8.fail.kind=0));let z26:=(⟨z3.plan,z3.s,z3.at_,z3.out++[z11],z3.fail⟩:Mr);let z1:=D8 (Int.toNat ((z26).plan.deep-(deep+1))) f.msg z4 z26;let z17:List Blk:=[.cells (B7 2 z1),.dead,.lst .ev z1.out];let z19:=decide (z1.fail.kind=0);let z27:=Bd r end_;let z28:=Cy f.kind;let z29:=decide (end_-z3.at_<An r end_);let z30:=(.v z20:S);let z31:=decide (z5-z3.at_<An r end_);(.seg [.call [0,1] (.tup [.c (.int .u64 z13),vB z27]) z9] (.br (.seg [.at 0,.cut 0 6] (.leaf () [0,1,3])) (.seg [.as 35 (.v (vI z24)),.as 36 (.v (.c (.int .u64 z24)))] (.br (.seg [.call [0,1] (.v z20) [.cells (B7 1 z15),.lst .ev z15.out],.at 0,.cut 0 6] (.leaf () [0,1,3])) (.seg [.as 42 (.v (vI z13))] (.br (.seg [.ord (os 12 []) [],.as 56 (.v (vI (z5-z3.at_)))] (.br (.seg [.call [0,1] (.v z20) [.cells (B7 1 z21),.lst .ev z21.out],.at 0,.cut 0 6] (.leaf () [0,1,3])) (.seg [.as 70 (.v (vI z4)),.at 0,.cut 0 6] (.leaf () [0,1,3])))) (.br (.br (.seg [.call [0,1] (.v z20) [.cells (B7 1 z16),.lst .ev z16.out],.at 0,.cut 0 6] (.leaf () [0,1,3])) (.seg [.ord (os 14 [9,10,13]) [1],.ty .ev,.ty .ev,.tree (fr (.one 11 (.first 12 (.done))) 0 11) 11 [],.as 108 (.v (vI z4)),.as 110 (.v (vI (deep+1))),.call [0,4] (.v (vB z19)) z17] (.br (.leaf () [0,1,5]) (.seg [.ty .ev,.ty .ev] (.leaf () [0,1,7]))))) (.seg [.call [] (.v (vB z28)) []] (.br (.seg [.tree (fr (.one 8 (.first 9 (.done))) 0 8) 8 [],.as 134 (.v (vI z4)),.call [0,1] (.v z14) z12] (.leaf () [0,1,3])) (.seg [.call [0,1] (.v z25) z18] (.leaf () [0,1,3])))))))))),(Fun Tryz.prog 106 [vP 0,vI end_] [.cells (B7 1 r),.lst .ev r.out] (.tup [.c (.int .u64 z13),vB z27]) z9)∧((!z27)=true→z30= .v z7∧([.cells (B7 2 z3),.dead,.lst .ev z3.out]:List Blk)=z6)∧((!z27)=false→((.v (vI (IntKind.i64.wrap z24)):S)= .v (vI z24))∧((.v (.c (.int .u64 (IntKind.u64.wrap z24))):S)= .v (.c (.int .u64 z24)))∧(z29=true→(Fun Tryz.prog 107 [vP 0,vI 8,vI r.at_] z9 (.v z20) [.cells (B7 1 z15),.lst .ev z15.out])∧z30= .v z7∧([.cells (B7 2 z15),.dead,.lst .ev z15.out]:List Blk)=z6)∧(z29=false→((.v (vI (IntKind.i64.wrap z13)):S)= .v (vI z13))∧((!known)=true→z22∧z22∧(z31=true→(Fun Tryz.prog 107 [vP 0,vI 10,vI z5] z9 (.v z20) [.cells (B7 1 z21),.lst .ev z21.out])∧z30= .v z7∧([.cells (B7 2 z21),.dead,.lst .ev z21.out]:List Blk)=z6)∧(z31=false→z10∧(.v (vB true):S)= .v z7∧([.cells [.seq .shp z3.plan.shapes,zi z3.plan.root,zi z3.plan.deep,zi z3.plan.most,.str z3.s,zi z4,.own 2,zi z3.fail.kind,zi z3.fail.field,.int .u64 z3.fail.bits,zi z3.fail.len,.str z3.fail.text,zi z3.fail.code,zi z3.fail.at_],.dead,.lst .ev z3.out]:List Blk)=z6))∧((!known)=false→((decide (f.kind=8))=true→((decide (deep=z3.plan.deep))=true→(Fun Tryz.prog 107 [vP 0,vI 6,vI r.at_] z9 (.v z20) [.cells (B7 1 z16),.lst .ev z16.out])∧z30= .v z7∧([.cells (B7 2 z16),.dead,.lst .ev z16.out]:List Blk)=z6)∧((decide (deep=z3.plan.deep))=false→(z3.out.length+List.length [z11]≤Be)∧z10∧z10∧z23∧z23∧(Fun Tryz.prog 108 [vP 0,vI f.msg,vI z4,vI (deep+1)] [.cells (B7 1 z3),.lst .ev (z3.out++[z11])] (.v (vB z19)) z17)∧((!z19)=true→z30= .v z7∧(z17:List Blk)=z6)∧((!z19)=false→(z1.out.length+List.length [(⟨7,0,0,0,[],0,0⟩:Ev)]≤Be)∧(.v (vB true):S)= .v z7∧([.cells (B7 2 z1),.dead,.lst .ev (z1.out++[(⟨7,0,0,0,[],0,0⟩:Ev)])]:List Blk)=z6)))∧((decide (f.kind=8))=false→(Fun Tryz.prog 185 [vI f.kind] [] (.v (vB z28)) [])∧(z28=true→z10∧z10∧(Fun Tryz.prog 196 [vP 0,.agg (Ej f),vI z4] z9 (.v z14) z12)∧(.v z14:S)= .v z7∧(z12:List Blk)=z6)∧(z28=false→(Fun Tryz.prog 197 [vP 0,.agg (Ej f),vI z13] z9 (.v z25) z18)∧(.v z25:S)= .v z7∧(z18:List Blk)=z6))))))) Q4 ?_
 refine⟨(R9 r _ Q2),fun h1=>have q1:=Ap h1;?_,fun h1=>have q1:=Ao h1;?_⟩
 have hok:=q1
 refine have hm1:Bf (Gh (Int.toNat ((r).plan.deep-deep))) r f (known) end_=(Ae r end_):=?_;?_
 rotate_left
 refine⟨(sB ?_),Q5⟩
 rotate_left
 have hok:=q1
 have hk:(Ae r end_).fail.kind=0:=by rw[hvk] at hok;simpa using hok
 have ha:=hv.1.at_ hk
 have hb:=hv.2 hk
 have h2:=hv2 hok
 refine⟨(Ac Q2 Q2),(Bp Q2 Q2),dsp (fun h2 p2=>?_) fun h2 p2=>?_⟩
 refine⟨(Hm (Ae r end_) _ _),?_⟩
 refine have hm1:Bf (Gh (Int.toNat ((r).plan.deep-deep))) r f (known) end_=(Bg (Ae r end_) 8 r.at_):=?_;?_
 rotate_left
 refine⟨(sB ?_),Q5⟩
 rotate_left
 refine⟨(Ac Q2 Q2),fun h3=>have q3:=Ap h3;?_,fun h3=>have q3:=Ao h3;?_⟩
 refine⟨(Ac Q2 Q2),(Ac Q2 Q2),dsp (fun h4 p4=>?_) fun h4 p4=>?_⟩
 refine⟨(Hm (Ae r end_) _ _),?_⟩
 refine have hm1:Bf (Gh (Int.toNat ((r).plan.deep-deep))) r f (known) end_=(Bg (Ae r end_) 10 ((List.length (Ae r end_).s:Nat):Int)):=?_;?_
 rotate_left
 refine⟨(sB ?_),Q5⟩
 rotate_left
 refine⟨(Ac Q2 Q2),?_⟩
 refine have hm1:Bf (Gh (Int.toNat ((r).plan.deep-deep))) r f (known) end_=(⟨(Ae r end_).plan,(Ae r end_).s,(Ae r end_).at_+(An r end_),(Ae r end_).out,(Ae r end_).fail⟩:Mr):=?_;?_
 rotate_left
 refine⟨(sB ?_),Q5⟩
 rotate_left
 refine dsp (fun h4 p4=>?_) fun h4 p4=>?_
 refine dsp (fun h5 p5=>?_) fun h5 p5=>?_
 have hsub: ∀(v:Mr) (n s:Int),Gh (Int.toNat (r.plan.deep-deep)) v f n s=Bg v 6 s:=fun v n s=>by rw[show Int.toNat (r.plan.deep-deep)=0 by omega];rfl
 refine⟨(Hm (Ae r end_) _ _),?_⟩
 refine have hm1:Bf (Gh (Int.toNat ((r).plan.deep-deep))) r f (known) end_=(Bg (Ae r end_) 6 r.at_):=?_;?_
 rotate_left
 refine⟨(sB ?_),Q5⟩
 rotate_left
 have hsub: ∀(v:Mr) (n s:Int),Gh (Int.toNat (r.plan.deep-deep)) v f n s=if (D8 (Int.toNat (r.plan.deep-(deep+1))) f.msg (v.at_+n) (Am v (En f n))).fail.kind=0 then Am (D8 (Int.toNat (r.plan.deep-(deep+1))) f.msg (v.at_+n) (Am v (En f n))) Api else (D8 (Int.toNat (r.plan.deep-(deep+1))) f.msg (v.at_+n) (Am v (En f n))):=fun v n s=>by rw[show Int.toNat (r.plan.deep-deep)=Int.toNat (r.plan.deep-(deep+1))+1 by omega];rfl
 refine⟨Q10,(Ac Q2 Q2),(Ac Q2 Q2),(Ac Q2 Q2),(Ac Q2 Q2),(hM (⟨(Ae r end_).plan,(Ae r end_).s,(Ae r end_).at_,(Ae r end_).out++[(⟨6,f.number,0,An r end_,[],0,0⟩:Ev)],(Ae r end_).fail⟩:Mr) _ _ _ Q10 Q10 Q61 Q10 Q10 Q2 (by simpa [Am,hvp] using hp7) (by simp only[Am,hvp];omega) (by simp only[Am,hvp];omega)),fun h6=>have q6:=Ap h6;have p6:=of_decide_eq_false q6;?_,fun h6=>have q6:=Ao h6;have p6:=of_decide_eq_true q6;?_⟩
 refine have hm1:Bf (Gh (Int.toNat ((r).plan.deep-deep))) r f (known) end_=(D8 (Int.toNat (((⟨(Ae r end_).plan,(Ae r end_).s,(Ae r end_).at_,(Ae r end_).out++[(⟨6,f.number,0,An r end_,[],0,0⟩:Ev)],(Ae r end_).fail⟩:Mr)).plan.deep-(deep+1))) f.msg ((Ae r end_).at_+(An r end_)) (⟨(Ae r end_).plan,(Ae r end_).s,(Ae r end_).at_,(Ae r end_).out++[(⟨6,f.number,0,An r end_,[],0,0⟩:Ev)],(Ae r end_).fail⟩:Mr)):=?_;?_
 rotate_left
 refine⟨(sB ?_),Q5⟩
 rotate_left
 refine⟨(Rj Q10 Q10),?_⟩
 refine have hm1:Bf (Gh (Int.toNat ((r).plan.deep-deep))) r f (known) end_=(⟨(D8 (Int.toNat (((⟨(Ae r end_).plan,(Ae r end_).s,(Ae r end_).at_,(Ae r end_).out++[(⟨6,f.number,0,An r end_,[],0,0⟩:Ev)],(Ae r end_).fail⟩:Mr)).plan.deep-(deep+1))) f.msg ((Ae r end_).at_+(An r end_)) (⟨(Ae r end_).plan,(Ae r end_).s,(Ae r end_).at_,(Ae r end_).out++[(⟨6,f.number,0,An r end_,[],0,0⟩:Ev)],(Ae r end_).fail⟩:Mr)).plan,(D8 (Int.toNat (((⟨(Ae r end_).plan,(Ae r end_).s,(Ae r end_).at_,(Ae r end_).out++[(⟨6,f.number,0,An r end_,[],0,0⟩:Ev)],(Ae r end_).fail⟩:Mr)).plan.deep-(deep+1))) f.msg ((Ae r end_).at_+(An r end_)) (⟨(Ae r end_).plan,(Ae r end_).s,(Ae r end_).at_,(Ae r end_).out++[(⟨6,f.number,0,An r end_,[],0,0⟩:Ev)],(Ae r end_).fail⟩:Mr)).s,(D8 (Int.toNat (((⟨(Ae r end_).plan,(Ae r end_).s,(Ae r end_).at_,(Ae r end_).out++[(⟨6,f.number,0,An r end_,[],0,0⟩:Ev)],(Ae r end_).fail⟩:Mr)).plan.deep-(deep+1))) f.msg ((Ae r end_).at_+(An r end_)) (⟨(Ae r end_).plan,(Ae r end_).s,(Ae r end_).at_,(Ae r end_).out++[(⟨6,f.number,0,An r end_,[],0,0⟩:Ev)],(Ae r end_).fail⟩:Mr)).at_,(D8 (Int.toNat (((⟨(Ae r end_).plan,(Ae r end_).s,(Ae r end_).at_,(Ae r end_).out++[(⟨6,f.number,0,An r end_,[],0,0⟩:Ev)],(Ae r end_).fail⟩:Mr)).plan.deep-(deep+1))) f.msg ((Ae r end_).at_+(An r end_)) (⟨(Ae r end_).plan,(Ae r end_).s,(Ae r end_).at_,(Ae r end_).out++[(⟨6,f.number,0,An r end_,[],0,0⟩:Ev)],(Ae r end_).fail⟩:Mr)).out++[(⟨7,0,0,0,[],0,0⟩:Ev)],(D8 (Int.toNat (((⟨(Ae r end_).plan,(Ae r end_).s,(Ae r end_).at_,(Ae r end_).out++[(⟨6,f.number,0,An r end_,[],0,0⟩:Ev)],(Ae r end_).fail⟩:Mr)).plan.deep-(deep+1))) f.msg ((Ae r end_).at_+(An r end_)) (⟨(Ae r end_).plan,(Ae r end_).s,(Ae r end_).at_,(Ae r end_).out++[(⟨6,f.number,0,An r end_,[],0,0⟩:Ev)],(Ae r end_).fail⟩:Mr)).fail⟩:Mr):=?_;?_
 rotate_left
 refine⟨(sB ?_),Q5⟩
 rotate_left
 refine⟨(Xh _),fun h5=>have p5:=Av h5;?_,fun h5=>have p5:=A4 h5;?_⟩
 refine⟨(Ac Q2 Q2),(Ac Q2 Q2),(Aq6 (Ae r end_) f _ Q2 Q2 Q61 Q2 Q2 Q2 (by grind)),?_⟩
 refine have hm1:Bf (Gh (Int.toNat ((r).plan.deep-deep))) r f (known) end_=(Ho (Ae r end_) f ((Ae r end_).at_+(An r end_))):=?_;?_
 rotate_left
 refine⟨(sB ?_),Q5⟩
 rotate_left
 refine⟨(Ap8 (Ae r end_) f _ Q2 Q2 Q61 Q2 Q2 Q2),?_⟩
 refine have hm1:Bf (Gh (Int.toNat ((r).plan.deep-deep))) r f (known) end_=(Bx (Ae r end_) f (An r end_)):=?_;?_
 rotate_left
 refine⟨(sB ?_),Q5⟩
 rotate_left
 all_goals first|(grind (ematch:=20) (gen:=20) [Bf,Am,S8,Bg,En,Api,Aw])
def Ajf (K:Nat):Prop:= ∀(r:Mr) (shape:Int) (end_:Int) (deep:Int) (hp1:List.length (r).s≤1048576) (hp2:(r).at_≤((List.length (r).s:Nat):Int)) (hp3:(r).fail.kind=0) (hp4:((List.length (r).out:Nat):Int)+4*(((List.length (r).s:Nat):Int)-(r).at_)≤100000000) (hp5:(0:Int)≤(r).at_) (hp6: -1000000000≤end_∧end_≤9223372036854775807) (hp7:B5 (r).plan=true) (hp8:(1:Int)≤deep∧deep≤(r).plan.deep) (hp9:Int.toNat ((r).plan.deep-deep)<K),Fun Tryz.prog 164 [vP 0,vI shape,vI end_,vI deep] [.cells (B7 1 r),.lst .ev r.out] (.tup []) [.cells (B7 2 (D8 (Int.toNat ((r).plan.deep-deep)) shape end_ r)),.dead,.lst .ev (D8 (Int.toNat ((r).plan.deep-deep)) shape end_ r).out]
structure Uc where
 r:Mr
def Ud (r:Mr) (f:Fld) (end_:Int):Fam:=⟨Uc,fun q1=>[(0,.v (vP 0)),(5,.v (vP 3)),(11,.v (vI ((Ae r end_).at_+(An r end_))))],fun q1=>[.cells (B7 2 q1.r),.dead,.lst .ev q1.r.out,.cells (Ej f)],fun q1=>LInv (fun x=>B4 x f (Br f.kind) ((Ae r end_).at_+An r end_)) ((Ae r end_).at_+An r end_) (Ae r end_) q1.r,fun q1=>Gq q1.r⟩
theorem Anp (K:Nat) (hM:Ajf K) (r:Mr) (f:Fld) (end_:Int) (deep:Int) (hp1:List.length (r).s≤1048576) (hp2:(r).at_≤((List.length (r).s:Nat):Int)) (hp3:(r).fail.kind=0) (hp4:((List.length (r).out:Nat):Int)+4*(((List.length (r).s:Nat):Int)-(r).at_)≤100000000) (hp5:(0:Int)≤(r).at_) (hp6: -1000000000≤end_∧end_≤9223372036854775807) (hp7:B5 (r).plan=true) (hp8:(1:Int)≤deep∧deep≤(r).plan.deep) (hp9:(0:Int)≤(f).number) (hp10:(f).number=0∨1≤(f).kind∧(f).kind≤8) (hp11:Int.toNat ((r).plan.deep-deep)≤K):Fun Tryz.prog 200 [vP 0,.agg (Ej f),vI end_,vI deep] [.cells (B7 1 r),.lst .ev r.out] (.tup []) [.cells (B7 2 (Bf (Gh (Int.toNat ((r).plan.deep-deep))) r f (decide ((f).number≠0)) end_)),.dead,.lst .ev (Bf (Gh (Int.toNat ((r).plan.deep-deep))) r f (decide ((f).number≠0)) end_).out]:=by
 have hN:Be=274877906944:=rfl
 have hpt:=By hp7
 obtain ⟨hv,hv2,hv3⟩:=Eo (e:=end_) hp2
 have hvk:=C1 (r:=r) (e:=end_) hp3
 have hu:=Gs r end_
 have hvs:=congrArg List.length hv.1.s
 have hvo:=congrArg List.length hv3
 have hvp:=hv.1.plan
 have hvd:(Ae r end_).plan.deep=r.plan.deep:=by rw[hvp]
 have hnm:Cy f.kind=true↔1≤f.kind∧f.kind≤5:=by simp[Cy,Aq]
 refine Ar Tryz.func200 Q4 Q4 (w:=let zi:Int→C:= .int .i64;let z7:=Ae r end_;let z8:=Am z7 (⟨6,f.number,0,An r end_,[],0,0⟩:Ev);let z10:=(z7.s.length:Int);let z11:=An r end_;let z9:List Blk:=[.cells (B7 2 (Bx z7 f z11)),.dead,.lst .ev (Bx z7 f z11).out];let z13:List Blk:=[.cells (B7 1 z7),.lst .ev z7.out];let z14:=z7.at_+z11;let z15:=Aw 8 r.at_;let z16:=Aw 6 r.at_;let z17:=(.tup []:S);let z18:=Aw 10 z10;let z19:=Bf (Gh (Int.toNat ((r).plan.deep-deep))) r f (decide ((f).number≠0)) end_;let z6:List Blk:=[.cells (B7 2 z19),.dead,.lst .ev z19.out];let z21:=(.v (vI (IntKind.i64.wrap (z10-z7.at_))):S)= .v (vI (z10-z7.at_));let z23:=(.v (vI (IntKind.i64.wrap (deep+1))):S)= .v (vI (deep+1));let z24:=end_-z7.at_;let z25:=Ud r f end_;let z26:=(.v (vI (IntKind.i64.wrap z14)):S)= .v (vI z14);let z27:=Br f.kind;let z28:=z8.at_+z11;let z5:=D8 (Int.toNat ((z8).plan.deep-(deep+1))) f.msg z28 z8;let z20:List Blk:=[.cells (B7 2 z5),.dead,.lst .ev z5.out];let z22:=(.v (vI (IntKind.i64.wrap z28)):S)= .v (vI z28);let z29:=Am z5 (⟨7,0,0,0,[],0,0⟩:Ev);let z12:List Blk:=[.cells (B7 2 z29),.dead,.lst .ev z29.out];let z30:=decide (end_-z7.at_<An r end_);let z31:=decide (z10-z7.at_<An r end_);let z32:List Blk:=[.cells (B7 2 z8),.dead,.lst .ev z8.out];(.seg [.call [0,1] (.v (.c (.int .u64 z11))) z13] (.br (.seg [.at 0,.cut 0 6] (.leaf () [0,1,3])) (.seg [.as 31 (.v (vI z24)),.as 32 (.v (.c (.int .u64 z24)))] (.br (.seg [.call [] (.v (.agg (cEv z15))) [],.at 0,.cut 0 6] (.leaf () [0,1,3])) (.seg [.as 40 (.v (vI z11))] (.br (.seg [.ord (os 12 []) [],.as 81 (.v (vI (z10-z7.at_)))] (.br (.seg [.call [] (.v (.agg (cEv z18))) [],.at 0,.cut 0 6] (.leaf () [0,1,3])) (.seg [.as 99 (.v (vI z14)),.at 0,.cut 0 6] (.leaf () [0,1,3])))) (.br (.br (.seg [.call [] (.v (.agg (cEv z16))) [],.at 0,.cut 0 6] (.leaf () [0,1,3])) (.seg [.call [0,1] (.tup []) z32,.ord (os 12 [11]) [],.as 132 (.v (vI z28)),.as 134 (.v (vI (deep+1))),.call [0,3] (.tup []) z20] (.br (.seg [.call [0,4] (.tup []) z12] (.leaf () [0,1,5])) (.leaf () [0,1,4])))) (.br (.seg [.call [0,1] (.tup []) z9] (.leaf () [0,1,3])) (.br (.seg [.call [0,1] (.tup []) z9] (.leaf () [0,1,3])) (.seg [.as 46 (.v (vI z14)),.at 0,.cut 0 6,.keep [0,5,11],.sel [0,1,3,2]] (.loop z25 fun q1=>let z1:=B4 q1.r f z27 z14;.br (.br (.seg [.ord [(0,true),(1,true),(2,true),(3,true),(5,true),(4,false),(6,false)] [],.call [] (.v (vI z27)) [],.call [0,2] (.tup []) [.cells (B7 2 z1),.dead,.lst .ev z1.out],.at 0,.keep [0,5,11],.sel [0,1,4,3]] (.next)) (.leaf () [0,1,2])) (.leaf () [0,1,2]))))))))))),(Fun Tryz.prog 199 [vP 0,vI end_] [.cells (B7 1 r),.lst .ev r.out] (.v (.c (.int .u64 z11))) z13)∧((!decide (z7.fail.kind=0))=true→z17= .tup []∧([.cells (B7 2 z7),.dead,.lst .ev z7.out]:List Blk)=z6)∧((!decide (z7.fail.kind=0))=false→((.v (vI (IntKind.i64.wrap z24)):S)= .v (vI z24))∧((.v (.c (.int .u64 (IntKind.u64.wrap z24))):S)= .v (.c (.int .u64 z24)))∧(z30=true→(Fun Tryz.prog 110 [vI 8,vI r.at_] [] (.v (.agg (cEv z15))) [])∧z17= .tup []∧([.cells [.seq .shp z7.plan.shapes,zi z7.plan.root,zi z7.plan.deep,zi z7.plan.most,.str z7.s,zi z7.at_,.own 2,zi z15.kind,zi z15.field,.int .u64 z15.bits,zi z15.len,.str z15.text,zi z15.code,zi z15.at_],.dead,.lst .ev z7.out]:List Blk)=z6)∧(z30=false→((.v (vI (IntKind.i64.wrap z11)):S)= .v (vI z11))∧((decide (f.number=0))=true→z21∧z21∧(z31=true→(Fun Tryz.prog 110 [vI 10,vI z10] [] (.v (.agg (cEv z18))) [])∧z17= .tup []∧([.cells [.seq .shp z7.plan.shapes,zi z7.plan.root,zi z7.plan.deep,zi z7.plan.most,.str z7.s,zi z7.at_,.own 2,zi z18.kind,zi z18.field,.int .u64 z18.bits,zi z18.len,.str z18.text,zi z18.code,zi z18.at_],.dead,.lst .ev z7.out]:List Blk)=z6)∧(z31=false→z26∧z17= .tup []∧([.cells [.seq .shp z7.plan.shapes,zi z7.plan.root,zi z7.plan.deep,zi z7.plan.most,.str z7.s,zi z14,.own 2,zi z7.fail.kind,zi z7.fail.field,.int .u64 z7.fail.bits,zi z7.fail.len,.str z7.fail.text,zi z7.fail.code,zi z7.fail.at_],.dead,.lst .ev z7.out]:List Blk)=z6))∧((decide (f.number=0))=false→((decide (f.kind=8))=true→((decide (z7.plan.deep≤deep))=true→(Fun Tryz.prog 110 [vI 6,vI r.at_] [] (.v (.agg (cEv z16))) [])∧z17= .tup []∧([.cells [.seq .shp z7.plan.shapes,zi z7.plan.root,zi z7.plan.deep,zi z7.plan.most,.str z7.s,zi z7.at_,.own 2,zi z16.kind,zi z16.field,.int .u64 z16.bits,zi z16.len,.str z16.text,zi z16.code,zi z16.at_],.dead,.lst .ev z7.out]:List Blk)=z6)∧((decide (z7.plan.deep≤deep))=false→(Fun Tryz.prog 215 [vP 0,.agg [zi 6,zi f.number,.int .u64 0,zi z11,.str [],zi 0,zi 0]] z13 (.tup []) z32)∧z22∧z22∧z23∧z23∧(Fun Tryz.prog 164 [vP 0,vI f.msg,vI z28,vI (deep+1)] [.cells (B7 1 z8),.lst .ev z8.out] (.tup []) z20)∧((decide (z5.fail.kind=0))=true→(Fun Tryz.prog 215 [vP 0,.agg [zi 7,zi 0,.int .u64 0,zi 0,.str [],zi 0,zi 0]] [.cells (B7 1 z5),.lst .ev z5.out] (.tup []) z12)∧z17= .tup []∧(z12:List Blk)=z6)∧((decide (z5.fail.kind=0))=false→z17= .tup []∧(z20:List Blk)=z6)))∧((decide (f.kind=8))=false→((decide (f.kind=6))=true→(Fun Tryz.prog 216 [vP 0,.agg (Ej f),vI z11] z13 (.tup []) z9)∧z17= .tup []∧(z9:List Blk)=z6)∧((decide (f.kind=6))=false→((decide (f.kind=7))=true→(Fun Tryz.prog 216 [vP 0,.agg (Ej f),vI z11] z13 (.tup []) z9)∧z17= .tup []∧(z9:List Blk)=z6)∧((decide (f.kind=7))=false→z26∧z25.Has [(0,.v (vP 0)),(5,.v (vP 3)),(11,.v (vI z14))] [.cells (B7 2 z7),.dead,.lst .ev z7.out,.cells (Ej f)]∧∀q1,z25.inv q1→(let z2:=B4 q1.r f z27 z14;let z3:=([.cells (B7 2 q1.r),.dead,.lst .ev q1.r.out]:List Blk);let z4:=decide (q1.r.at_<z7.at_+z11);(z4=true→((decide (q1.r.fail.kind=0))=true→(Fun Tryz.prog 124 [vI f.kind] [] (.v (vI z27)) [])∧(Fun Tryz.prog 201 [vP 0,.agg (Ej f),vI z27,vI z14] [.cells (B7 1 q1.r),.lst .ev q1.r.out] (.tup []) [.cells (B7 2 z2),.dead,.lst .ev z2.out])∧z25.Nxt q1 [(0,.v (vP 0)),(5,.v (vP 3)),(11,.v (vI z14))] [.cells (B7 2 z2),.dead,.lst .ev z2.out,.cells (Ej f)])∧((decide (q1.r.fail.kind=0))=false→z17= .tup []∧z3=z6))∧(z4=false→z17= .tup []∧z3=z6)))))))))) Q4 ?_
 refine⟨(U8 r _ Q2),fun h1=>have q1:=Ap h1;have p1:=of_decide_eq_false q1;?_,fun h1=>have q1:=Ao h1;have p1:=of_decide_eq_true q1;?_⟩
 have hok:Bd r end_=false:=by rw[hvk];simpa using q1
 refine have hm1:Bf (Gh (Int.toNat ((r).plan.deep-deep))) r f (decide ((f).number≠0)) end_=(Ae r end_):=?_;?_
 rotate_left
 exact⟨rfl,Q5⟩
 have hok:Bd r end_=true:=by rw[hvk];simpa using q1
 have hk:(Ae r end_).fail.kind=0:=by rw[hvk] at hok;simpa using hok
 have ha:=hv.1.at_ hk
 have hb:=hv.2 hk
 have h2:=hv2 hok
 refine⟨(Ac Q2 Q2),(Bp Q2 Q2),dsp (fun h2 p2=>?_) fun h2 p2=>?_⟩
 refine⟨(Dk _ _),?_⟩
 refine have hm1:Bf (Gh (Int.toNat ((r).plan.deep-deep))) r f (decide ((f).number≠0)) end_=(⟨(Ae r end_).plan,(Ae r end_).s,(Ae r end_).at_,(Ae r end_).out,(Aw 8 r.at_)⟩:Mr):=?_;?_
 rotate_left
 exact⟨rfl,Q5⟩
 refine⟨(Ac Q2 Q2),dsp (fun h3 p3=>?_) fun h3 p3=>?_⟩
 refine⟨(Ac Q2 Q2),(Ac Q2 Q2),dsp (fun h4 p4=>?_) fun h4 p4=>?_⟩
 refine⟨(Dk _ _),?_⟩
 refine have hm1:Bf (Gh (Int.toNat ((r).plan.deep-deep))) r f (decide ((f).number≠0)) end_=(⟨(Ae r end_).plan,(Ae r end_).s,(Ae r end_).at_,(Ae r end_).out,(Aw 10 ((List.length (Ae r end_).s:Nat):Int))⟩:Mr):=?_;?_
 rotate_left
 exact⟨rfl,Q5⟩
 refine⟨(Ac Q2 Q2),?_⟩
 refine have hm1:Bf (Gh (Int.toNat ((r).plan.deep-deep))) r f (decide ((f).number≠0)) end_=(⟨(Ae r end_).plan,(Ae r end_).s,(Ae r end_).at_+(An r end_),(Ae r end_).out,(Ae r end_).fail⟩:Mr):=?_;?_
 rotate_left
 exact⟨rfl,Q5⟩
 refine dsp (fun h4 p4=>?_) fun h4 p4=>?_
 refine dsp (fun h5 p5=>?_) fun h5 p5=>?_
 have hsub: ∀(v:Mr) (n s:Int),Gh (Int.toNat (r.plan.deep-deep)) v f n s=Bg v 6 s:=fun v n s=>by rw[show Int.toNat (r.plan.deep-deep)=0 by omega];rfl
 refine⟨(Dk _ _),?_⟩
 refine have hm1:Bf (Gh (Int.toNat ((r).plan.deep-deep))) r f (decide ((f).number≠0)) end_=(⟨(Ae r end_).plan,(Ae r end_).s,(Ae r end_).at_,(Ae r end_).out,(Aw 6 r.at_)⟩:Mr):=?_;?_
 rotate_left
 exact⟨rfl,Q5⟩
 have hsub: ∀(v:Mr) (n s:Int),Gh (Int.toNat (r.plan.deep-deep)) v f n s=if (D8 (Int.toNat (r.plan.deep-(deep+1))) f.msg (v.at_+n) (Am v (En f n))).fail.kind=0 then Am (D8 (Int.toNat (r.plan.deep-(deep+1))) f.msg (v.at_+n) (Am v (En f n))) Api else (D8 (Int.toNat (r.plan.deep-(deep+1))) f.msg (v.at_+n) (Am v (En f n))):=fun v n s=>by rw[show Int.toNat (r.plan.deep-deep)=Int.toNat (r.plan.deep-(deep+1))+1 by omega];rfl
 refine⟨(P6 (Ae r end_) (⟨6,f.number,0,An r end_,[],0,0⟩:Ev) Q2),(Ac Q36 Q36),(Ac Q36 Q36),(Ac Q2 Q2),(Ac Q2 Q2),(hM (Am (Ae r end_) (⟨6,f.number,0,An r end_,[],0,0⟩:Ev)) _ _ _ Q10 Q10 Q61 Q10 Q10 Q10 (by simpa [Am,hvp] using hp7) (by simp only[Am,hvp];omega) (by simp only[Am,hvp];omega)),dsp (fun h6 p6=>?_) fun h6 p6=>?_⟩
 refine⟨(P6 (D8 (Int.toNat (((Am (Ae r end_) (⟨6,f.number,0,An r end_,[],0,0⟩:Ev))).plan.deep-(deep+1))) f.msg ((Am (Ae r end_) (⟨6,f.number,0,An r end_,[],0,0⟩:Ev)).at_+(An r end_)) (Am (Ae r end_) (⟨6,f.number,0,An r end_,[],0,0⟩:Ev))) (⟨7,0,0,0,[],0,0⟩:Ev) (Z2 Q10 Q10)),?_⟩
 refine have hm1:Bf (Gh (Int.toNat ((r).plan.deep-deep))) r f (decide ((f).number≠0)) end_=(Am (D8 (Int.toNat (((Am (Ae r end_) (⟨6,f.number,0,An r end_,[],0,0⟩:Ev))).plan.deep-(deep+1))) f.msg ((Am (Ae r end_) (⟨6,f.number,0,An r end_,[],0,0⟩:Ev)).at_+(An r end_)) (Am (Ae r end_) (⟨6,f.number,0,An r end_,[],0,0⟩:Ev))) (⟨7,0,0,0,[],0,0⟩:Ev)):=?_;?_
 rotate_left
 exact⟨rfl,Q5⟩
 refine have hm1:Bf (Gh (Int.toNat ((r).plan.deep-deep))) r f (decide ((f).number≠0)) end_=(D8 (Int.toNat (((Am (Ae r end_) (⟨6,f.number,0,An r end_,[],0,0⟩:Ev))).plan.deep-(deep+1))) f.msg ((Am (Ae r end_) (⟨6,f.number,0,An r end_,[],0,0⟩:Ev)).at_+(An r end_)) (Am (Ae r end_) (⟨6,f.number,0,An r end_,[],0,0⟩:Ev))):=?_;?_
 rotate_left
 exact⟨rfl,Q5⟩
 refine dsp (fun h5 p5=>?_) fun h5 p5=>?_
 refine⟨(Ann (Ae r end_) f _ Q2 Q2 Q61 Q2 Q2 Q2),?_⟩
 refine have hm1:Bf (Gh (Int.toNat ((r).plan.deep-deep))) r f (decide ((f).number≠0)) end_=(Bx (Ae r end_) f (An r end_)):=?_;?_
 rotate_left
 exact⟨rfl,Q5⟩
 refine dsp (fun h6 p6=>?_) fun h6 p6=>?_
 refine⟨(Ann (Ae r end_) f _ Q2 Q2 Q61 Q2 Q2 Q2),?_⟩
 refine have hm1:Bf (Gh (Int.toNat ((r).plan.deep-deep))) r f (decide ((f).number≠0)) end_=(Bx (Ae r end_) f (An r end_)):=?_;?_
 rotate_left
 exact⟨rfl,Q5⟩
 refine⟨(Ac Q2 Q2),Bs (j:=(⟨(Ae r end_)⟩:Uc)) rfl rfl (by dsimp only[Ud];exact LInv.refl Q2),fun (q1:Uc) hq_q1=>?_⟩
 have hi_q1:LInv (fun x=>B4 x f (Br f.kind) ((Ae r end_).at_+An r end_)) ((Ae r end_).at_+An r end_) (Ae r end_) q1.r:=hq_q1
 have hwf:=Agi (k:=f.kind) (by omega)
 have hlg:= @LInv.go _ (Kg f (Br f.kind) ((Ae r end_).at_+An r end_)) _ _ _ hi_q1
 refine dsp (fun h7 p7=>?_) fun h7 p7=>?_
 refine dsp (fun h8 p8=>?_) fun h8 p8=>?_
 have hrm:=hi_q1.room p8
 have hat:=hi_q1.at_ p8
 exact⟨(Nz _),(Aox q1.r f _ _ Q2 Q2 Q61 Q2 Q2 Q2 Q2),Bc (j:=(⟨(B4 q1.r f (Br f.kind) ((Ae r end_).at_+(An r end_)))⟩:Uc)) rfl rfl (by dsimp only[Ud];exact(hlg Q2 Q2).1) (by dsimp only[Ud];exact(hlg Q2 Q2).2)⟩
 have hend:Ho (Ae r end_) f ((Ae r end_).at_+An r end_)=q1.r:=hi_q1.bad p8
 refine have hm1:Bf (Gh (Int.toNat ((r).plan.deep-deep))) r f (decide ((f).number≠0)) end_=q1.r:=?_;?_
 rotate_left
 exact⟨rfl,Q5⟩
 have hend:Ho (Ae r end_) f ((Ae r end_).at_+An r end_)=q1.r:=hi_q1.end_ p7
 refine have hm1:Bf (Gh (Int.toNat ((r).plan.deep-deep))) r f (decide ((f).number≠0)) end_=q1.r:=?_;?_
 rotate_left
 exact⟨rfl,Q5⟩
 all_goals first|(grind (ematch:=20) (gen:=20) [Bf,Am,S8,Bg,En,Api,Aw])
end Go.Proofs.YtcmnedgnppnhoaaGreat.Ax
