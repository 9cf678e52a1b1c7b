/- Models: Jm inputs. Whole inputs: what is said of them. Models: how much text a Aix brings. Models: the machine beside the grammar. Models: values of the machine. Models: texts of the machine. Models: U3 of the machine. Models: messages of the machine. Models: chunks tell what the Jm tells. Models: frames of the machine. Models: the machine and the grammar. The law FnDecode. -/
import Derived.Test.YtphecbmdhbphgaaGreatKFnDecode8
import Derived.Test.YtphecbmdhbphgaaGreatKFnDecode5
import Derived.Test.YtphecbmdhbphgaaGreatKFnDecode6
set_option linter.unusedSimpArgs false
set_option linter.unusedVariables false
namespace Go.Proofs.YtphecbmdhbphgaaGreat.Ax
open Go.RowKit
/-! ### More told C8 -/
def C8 (o:List Ev) (r:Mr):Mr:=⟨r.pJ,r.s,r.aJ,o++r.oJ,r.fail⟩
theorem N3 (o:List Ev) (r:Mr) (e:Ev):Am (C8 o r) e=C8 o (Am r e):=by simp[Am,C8]
theorem Zg (o:List Ev) (r:Mr) (e:Int):A5 (C8 o r) e=C8 o (A5 r e):=by
 unfold A5;rw[show B6 (C8 o r) e=B6 r e from rfl];split<;>rfl
theorem Amf (o:List Ev) (r:Mr) (w e:Int):Jk (C8 o r) w e=C8 o (Jk r w e):=by
 unfold Jk
 rw[show (C8 o r).aJ=r.aJ from rfl,show (C8 o r).s=r.s from rfl]
 split
 ·rfl
 ·split<;>rfl
theorem Amg (o:List Ev) (r:Mr) (w e:Int):F2 (C8 o r) w e=C8 o (F2 r w e):=by
 unfold F2;split
 ·exact Amf o r _ e
 ·exact Zg o r e
theorem Adx (o:List Ev) (r:Mr) (f:Fld) (w e:Int):Bx (C8 o r) f w e=C8 o (Bx r f w e):=by
 unfold Bx
 rw[show F6 (C8 o r) w e=F6 r w e from rfl,show Hv (C8 o r) w e=Hv r w e from rfl,Amg]
 split
 ·exact N3 o _ _
 ·rfl
theorem V0 (o:List Ev) {step:Mr→Mr} (hs: ∀r,step (C8 o r)=C8 o (step r)) (e:Int): ∀(k:Nat) (r:Mr),F7 (Na e) step k (C8 o r)=C8 o (F7 (Na e) step k r)
 |0,r=>rfl
 |k+1,r=>by
  simp only[F7]
  rw[show Na e (C8 o r)=Na e r from rfl]
  split
  ·rw[hs,V0 o hs e k]
  ·rfl
theorem Amh (o:List Ev) (r:Mr) (f:Fld) (e:Int):L9 (C8 o r) f e=C8 o (L9 r f e):=V0 o (fun r=>Adx o r f _ e) e _ r
theorem Ah5 (o:List Ev) (r:Mr) (f:Fld) (n:Int):Ed (C8 o r) f n=C8 o (Ed r f n):=by
 unfold Ed
 rw[show Kn (C8 o r) f n=Kn r f n from rfl]
 split<;>simp only[N3]
theorem Ami (o:List Ev) (r:Mr) (f:Fld) (n:Int):Cx (C8 o r) f n=C8 o (Cx r f n):=by
 unfold Cx
 rw[show N0 (C8 o r) f n=N0 r f n from rfl,show A2 (C8 o r) n=A2 r n from rfl,show Adr (C8 o r) f n=Adr r f n from rfl,Ah5,show (C8 o r).s=r.s from rfl,show (C8 o r).aJ=r.aJ from rfl]
 split
 ·rfl
 split
 ·rfl
 split
 ·rfl
 ·exact N3 o (Gy (Ed r f n) (r.aJ+n)) L3
def Xw (o:List Ev) (sub:Mr→Fld→Int→Int→Mr):Prop:= ∀(v:Mr) (f:Fld) (n s:Int),sub (C8 o v) f n s=C8 o (sub v f n s)
theorem Ah6 {o:List Ev} {sub:Mr→Fld→Int→Int→Mr} (hs:Xw o sub) (r:Mr) (f:Fld) (known:Bool) (e:Int):B7 sub (C8 o r) f known e=C8 o (B7 sub r f known e):=by
 unfold B7
 rw[show B6 (C8 o r) e=B6 r e from rfl,show Bd (C8 o r) e=Bd r e from rfl,Zg]
 simp only[show ∀x,(C8 o x).aJ=x.aJ from fun _=>rfl,show ∀x,(C8 o x).s=x.s from fun _=>rfl]
 split
 ·rfl
 split
 ·rfl
 split
 ·split<;>rfl
 split
 ·exact hs _ _ _ _
 split
 ·exact Amh o _ _ _
 ·exact Ami o _ _ _
theorem Amj {o:List Ev} {sub:Mr→Fld→Int→Int→Mr} (hs:Xw o sub) (shape e:Int) (r:Mr):Ej sub shape e (C8 o r)=C8 o (Ej sub shape e r):=by
 unfold Ej
 rw[show B6 (C8 o r) e=B6 r e from rfl,show Bd (C8 o r) e=Bd r e from rfl,Zg]
 simp only[show ∀x,(C8 o x).aJ=x.aJ from fun _=>rfl,show ∀x,(C8 o x).pJ=x.pJ from fun _=>rfl]
 split
 ·rfl
 split
 ·rfl
 split
 ·rfl
 split
 ·rfl
 split
 ·exact Ah6 hs _ _ _ _
 ·exact Adx o _ _ _ _
theorem Zh {o:List Ev} {D:Nat} (hs:Xw o (Kr D)) (shape e:Int) (r:Mr):J0 D shape e (C8 o r)=C8 o (J0 D shape e r):=by
 rw[Qn,Qn]
 exact V0 o (fun r=>Amj hs shape e r) e _ r
theorem Ady (o:List Ev): ∀D,Xw o (Kr D)
 |0=>fun _ _ _ _=>rfl
 |D+1=>fun v f n s=>by
  simp only[Kr]
  rw[show (C8 o v).aJ=v.aJ from rfl,N3,Zh (Ady o D)]
  split<;>rename_i h
  ·rw[if_pos (show (J0 D f.mK (v.aJ+n) (Am v (F3 f n))).fail.kind=0 from h),N3]
  ·rw[if_neg (show¬(J0 D f.mK (v.aJ+n) (Am v (F3 f n))).fail.kind=0 from h)]
theorem Ah7 (o:List Ev) (D:Nat) (shape e:Int) (r:Mr):J0 D shape e (C8 o r)=C8 o (J0 D shape e r):=Zh (Ady o D) shape e r
/-! ### Where a message ends -/
theorem Agp {step:Mr→Mr} (hs:Vy step) {e:Int} (ht: ∀r:Mr,r.aJ≤(r.s.length:Int)→r.fail.kind=0→(step r).fail.kind=0→(step r).aJ≤e): ∀(n:Nat) (r:Mr),Nz r≤n→r.aJ≤(r.s.length:Int)→r.aJ≤e→r.fail.kind=0→(F7 (Na e) step (Nz r) r).fail.kind=0→(F7 (Na e) step (Nz r) r).aJ=e:=by
 intro n
 induction n with
 |zero=>intro r hn hl _ h0;simp only[Nz,if_pos h0] at hn;omega
 |succ n ih=>
  intro r hn hl he h0 hk
  by_cases hg:r.aJ<e
  ·have hi:=(LInv.refl (step:=step) (e:=e) hl).go hs hg h0
   rw[←hi.1.run] at hk ⊢
   by_cases h1:(step r).fail.kind=0
   ·have ha:=hi.1.aJ h1
    exact ih _ Q2 ha.2 (ht r hl h0 h1) h1 hk
   ·rw[Dy (by simp[Na,h1])] at hk
    exact(h1 hk).elim
  ·rw[Dy (by simp[Na];omega)];omega
theorem Aca {r:Mr} {e:Int} (h0:r.fail.kind=0) (hl:r.aJ≤(r.s.length:Int)) (hk:(A5 r e).fail.kind=0):(A5 r e).aJ≤e:=by
 have:=E5 (e:=e) h0
 rw[hk] at this
 exact((F4 hl).2.1 (by simpa using this)).2
theorem V2 {r:Mr} {f:Fld} {w e:Int} (h0:r.fail.kind=0) (hl:r.aJ≤(r.s.length:Int)) (hk:(Bx r f w e).fail.kind=0):(Bx r f w e).aJ≤e:=by
 have hv:(F2 r w e).fail.kind=0→(F2 r w e).aJ≤e:=fun h=>by
  unfold F2 at h ⊢
  split
  ·rename_i hw
   rw[if_pos hw] at h
   unfold Jk at h ⊢
   split
   ·rename_i h2;rw[if_pos h2] at h;exact(Cp _ _ _ h).elim
   ·rename_i h2
    rw[if_neg h2] at h
    split
    ·show r.aJ+Aq w≤e;omega
    ·rename_i h3;rw[if_neg h3] at h;exact(Cp _ _ _ h).elim
  ·rename_i hw
   rw[if_neg hw] at h
   exact Aca h0 hl h
 unfold Bx at hk ⊢
 split
 ·rename_i h;rw[if_pos h] at hk;exact hv hk
 ·rename_i h;rw[if_neg h] at hk;exact hv hk
def Ao2 (sub:Mr→Fld→Int→Int→Mr):Prop:= ∀(v:Mr) (f:Fld) (n s:Int),v.aJ≤(v.s.length:Int)→v.fail.kind=0→0≤n→(sub v f n s).fail.kind=0→(sub v f n s).aJ=v.aJ+n
theorem Ah8 {r:Mr} {f:Fld} {n:Int} (hk:(Cx r f n).fail.kind=0):(Cx r f n).aJ=r.aJ+n:=by
 unfold Cx at hk ⊢
 split
 ·rename_i h;rw[if_pos h] at hk;exact(Cp _ _ _ hk).elim
 rename_i h;rw[if_neg h] at hk
 split
 ·rename_i h;rw[if_pos h] at hk;exact(Cp _ _ _ hk).elim
 rename_i h;rw[if_neg h] at hk
 split
 ·rename_i h;rw[if_pos h] at hk;exact(Cp _ _ _ hk).elim
 ·rfl
theorem Afb {sub:Mr→Fld→Int→Int→Mr} (ht:Ao2 sub) {r:Mr} {f:Fld} {known:Bool} {e:Int} (h0:r.fail.kind=0) (hl:r.aJ≤(r.s.length:Int)) (hk:(B7 sub r f known e).fail.kind=0):(B7 sub r f known e).aJ≤e:=by
 have hv:=F4 (e:=e) hl
 have hu:=Qo r e
 unfold B7 at hk ⊢
 split
 ·rename_i h;rw[if_pos h] at hk;exact Aca h0 hl hk
 rename_i hok;rw[if_neg hok] at hk
 have hok:B6 r e=true:=by simpa using hok
 have hvk:(A5 r e).fail.kind=0:=by rw[E5 h0] at hok;simpa using hok
 have ha:=hv.1.1.aJ hvk
 have hs:=congrArg List.length hv.1.1.s
 split
 ·rename_i h;rw[if_pos h] at hk;exact(Cp _ _ _ hk).elim
 rename_i hn;rw[if_neg hn] at hk
 split
 ·rename_i h;rw[if_pos h] at hk
  split
  ·rename_i h2;rw[if_pos h2] at hk;exact(Cp _ _ _ hk).elim
  ·show (A5 r e).aJ+Bd r e≤e;omega
 rename_i h;rw[if_neg h] at hk
 split
 ·rename_i h2;rw[if_pos h2] at hk
  rw[ht _ _ _ _ (by omega) hvk hu.1 hk];omega
 rename_i h2;rw[if_neg h2] at hk
 split
 ·rename_i h3;rw[if_pos h3] at hk
  have:=Agp (M8 f (Be f.kind) ((A5 r e).aJ+Bd r e)) (fun r hl h0 hk=>V2 h0 hl hk) _ (A5 r e) (Nat.le_refl _) (by omega) (by omega) hvk hk
  show (L9 (A5 r e) f ((A5 r e).aJ+Bd r e)).aJ≤e
  unfold L9;rw[this];omega
 ·rename_i h3;rw[if_neg h3] at hk
  rw[Ah8 hk];omega
theorem Aa6 {sub:Mr→Fld→Int→Int→Mr} (ht:Ao2 sub) {shape e:Int} {r:Mr} (h0:r.fail.kind=0) (hl:r.aJ≤(r.s.length:Int)) (hk:(Ej sub shape e r).fail.kind=0):(Ej sub shape e r).aJ≤e:=by
 have hv:=F4 (e:=e) hl
 unfold Ej at hk ⊢
 split
 ·rename_i h;rw[if_pos h] at hk;exact Aca h0 hl hk
 rename_i hok;rw[if_neg hok] at hk
 have hok:B6 r e=true:=by simpa using hok
 have hvk:(A5 r e).fail.kind=0:=by rw[E5 h0] at hok;simpa using hok
 have ha:=hv.1.1.aJ hvk
 have hs:=congrArg List.length hv.1.1.s
 split
 ·rename_i h;rw[if_pos h] at hk;exact(Cp _ _ _ hk).elim
 rename_i h;rw[if_neg h] at hk
 split
 ·rename_i h;rw[if_pos h] at hk;exact(Cp _ _ _ hk).elim
 rename_i h;rw[if_neg h] at hk
 split
 ·rename_i h;rw[if_pos h] at hk;exact(Cp _ _ _ hk).elim
 rename_i h;rw[if_neg h] at hk
 split
 ·rename_i h;rw[if_pos h] at hk;exact Afb ht hvk (by omega) hk
 ·rename_i h;rw[if_neg h] at hk;exact V2 hvk (by omega) hk
theorem Amk {D:Nat} (ht:Ao2 (Kr D)) {shape e:Int} {r:Mr} (hl:r.aJ≤(r.s.length:Int)) (he:r.aJ≤e) (h0:r.fail.kind=0) (hk:(J0 D shape e r).fail.kind=0):(J0 D shape e r).aJ=e:=by
 rw[Qn] at hk ⊢
 exact Agp (N2 D shape e) (fun r hl h0 hk=>Aa6 ht h0 hl hk) _ r (Nat.le_refl _) hl he h0 hk
theorem Afc: ∀D,Ao2 (Kr D)
 |0=>fun v f n s _ _ _ hk=>(Cp _ _ _ hk).elim
 |D+1=>fun v f n s hl h0 hn hk=>by
  have hm:=Amk (Afc D) (shape:=f.mK) (e:=v.aJ+n) (r:=Am v (F3 f n)) hl (by show v.aJ≤v.aJ+n;omega) h0
  simp only[Kr] at hk ⊢
  split
  ·rename_i h;exact hm h
  ·rename_i h;rw[if_neg h] at hk;exact hm hk
theorem Acb {D:Nat} {shape e:Int} {r:Mr} (hl:r.aJ≤(r.s.length:Int)) (he:r.aJ≤e) (h0:r.fail.kind=0) (hk:(J0 D shape e r).fail.kind=0):(J0 D shape e r).aJ=e:=Amk (Afc D) hl he h0 hk
/-! ### Whole inputs -/
def mr0 (p:Pln) (s:List UInt8) (a:Int):Mr:=⟨p,s,a,[],ev0⟩
def Eu (n:Int):Ev:=⟨1,0,0,n,[],0,0⟩
def frameEndEv:Ev:=⟨8,0,0,0,[],0,0⟩
def Amm (a:Int):Ev:=⟨9,0,0,0,[],0,a⟩
def maxI:Int:=9223372036854775807
def N4 (r:Mr):Mr:=J0 (Int.toNat (r.pJ.dJ-1)) r.pJ.rJ ((A5 r maxI).aJ+Bd r maxI) (Am (A5 r maxI) (Eu (Bd r maxI)))
def D7 (r:Mr):Mr:=
 if B6 r maxI=false then A5 r maxI
 else if r.pJ.most<Bd r maxI then Dg (A5 r maxI) 7 r.aJ
 else if (N4 r).fail.kind=0 then Am (N4 r) frameEndEv else N4 r
theorem Tz {r:Mr} (hl:r.aJ≤(r.s.length:Int)) (h0:r.fail.kind=0):Adv1 r (D7 r):=by
 obtain ⟨hv,hv2,hv3⟩:=F4 (e:=maxI) hl
 unfold D7
 split
 ·exact hv
 ·rename_i hok
  have hok:B6 r maxI=true:=by simpa using hok
  have hk:(A5 r maxI).fail.kind=0:=by rw[E5 h0] at hok;simpa using hok
  have ha:=hv.1.aJ hk
  have hs:=congrArg List.length hv.1.s
  have hl':(A5 r maxI).aJ≤((A5 r maxI).s.length:Int):=by omega
  have hr:=(Adv.refl (A5 r maxI) hl').b
  have hm0:AdvB 0 (Am (A5 r maxI) (Eu (Bd r maxI))) (N4 r):=(Ab9 (r:=Am (A5 r maxI) (Eu (Bd r maxI))) hl').b
  have hm:AdvB (0+1+0) (A5 r maxI) (N4 r):=(hr.tell (Eu (Bd r maxI))).trans hk hm0
  split
  ·exact hv.after hv3 hk (hr.failed _ _) (by decide)
  split
  ·exact hv.after hv3 hk (hm.tell _) (by decide)
  ·exact hv.after hv3 hk hm (by decide)
structure Wh where
 r:Mr
 ends:List Int
def Ain (w:Wh):Bool:=Na (w.r.s.length:Int) w.r
def Hb (w:Wh):Wh:=⟨D7 w.r,if (D7 w.r).fail.kind=0 then w.ends++[(D7 w.r).aJ] else w.ends⟩
def Ao3 (w:Wh):Wh:=F7 Ain Hb (Nz w.r) w
def wh0 (p:Pln) (s:List UInt8):Wh:=⟨mr0 p s 0,[0]⟩
def Jm (p:Pln) (s:List UInt8):Wh:=Ao3 (wh0 p s)
def Fk (p:Pln) (s:List UInt8):List Ev:=(Jm p s).r.oJ++[if (Jm p s).r.fail.kind=0 then Amm (s.length:Int) else (Jm p s).r.fail]
structure WInv (w0 q:Wh):Prop where
 adv:Adv w0.r q.r
 ends:q.r.fail.kind=0→(q.ends.length:Int)≤1+q.r.aJ
 run:Ao3 q=Ao3 w0
theorem WInv.refl {p:Pln} {s:List UInt8} :WInv (wh0 p s) (wh0 p s):=⟨Adv.refl _ (by simp[wh0,mr0]),fun _=>by simp[wh0,mr0],rfl⟩
theorem WInv.room {p:Pln} {s:List UInt8} {q:Wh} (h:WInv (wh0 p s) q) (hk:q.r.fail.kind=0):q.r.s=s∧q.r.pJ=p∧0≤q.r.aJ∧q.r.aJ≤(s.length:Int)∧(q.r.oJ.length:Int)+4*((s.length:Int)-q.r.aJ)≤4*(s.length:Int)∧q.r.fail=ev0:=by
 have:=h.adv.aJ hk
 have hr:=h.adv.room hk
 refine⟨h.adv.s,h.adv.pJ,this.1,this.2,?_,h.adv.fail hk⟩
 simpa [wh0,mr0] using hr
theorem WInv.next {p:Pln} {s:List UInt8} {q x:Wh} (h:WInv (wh0 p s) q) (hg:q.r.aJ<(s.length:Int)) (hk:q.r.fail.kind=0) (hx:Hb q=x):WInv (wh0 p s) x∧Nz x.r<Nz q.r:=by
 subst hx
 obtain ⟨h1,h2,h3,h4,h5,_⟩:=h.room hk
 have hl:q.r.aJ≤(q.r.s.length:Int):=by rw[h1];exact h4
 have hf:=Tz hl hk
 have hgo:Ain q=true:=by simp[Ain,Na,h1,hg,hk]
 refine⟨⟨h.adv.trans hk hf.1,fun hk2=>?_,?_⟩,Uv hl hk hf⟩
 ·have:=h.ends hk
  have:=hf.2 hk2
  have hk3:(D7 q.r).fail.kind=0:=hk2
  simp only[Hb,if_pos hk3,List.length_append,List.length_cons,List.length_nil];omega
 ·rw[←h.run]
  refine(Ab7 (fun w:Wh=>w.r.aJ≤(w.r.s.length:Int)∨w.r.fail.kind≠0) (fun w=>Nz w.r) (fun a hi hg=>?_) (.inl hl) hgo).symm
  have hk':a.r.fail.kind=0:=L6 hg
  have hl:a.r.aJ≤(a.r.s.length:Int):=hi.resolve_right (fun h=>h hk')
  have hf:=Tz hl hk'
  refine⟨?_,Uv hl hk' hf⟩
  by_cases hk2:(D7 a.r).fail.kind=0
  ·left
   show (D7 a.r).aJ≤((D7 a.r).s.length:Int)
   rw[hf.1.s];exact(hf.1.aJ hk2).2
  ·exact .inr hk2
theorem WInv.stop {w0 q:Wh} (h:WInv w0 q) (hg:Ain q=false):Ao3 w0=q:=by rw[←h.run];exact Dy hg
theorem WInv.eJ {p:Pln} {s:List UInt8} {q:Wh} (h:WInv (wh0 p s) q) (hg: ¬q.r.aJ<(s.length:Int)):Jm p s=q:=h.stop (by
 have:q.r.s=s:=h.adv.s
 simp[Ain,Na,this];omega)
theorem WInv.leave {p:Pln} {s:List UInt8} {q x:Wh} (h:WInv (wh0 p s) q) (hg:q.r.aJ<(s.length:Int)) (hk:q.r.fail.kind=0) (hx:Hb q=x) (hx2:x.r.fail.kind≠0):Jm p s=x:=
 (h.next hg hk hx).1.stop (by simp[Ain,Na,hx2])
theorem Amn {s:List UInt8} {a e e':Int} (he:(s.length:Int)<e) (he':(s.length:Int)<e'): ∀(f:Nat) (k u:Int),a+k≤(s.length:Int)→vwA s a e f k u=vwA s a e' f k u
 |0,k,u,_=>rfl
 |f+1,k,u,h=>by
  rw[vwA,vwA,if_neg (show¬e≤a+k by omega),if_neg (show¬e'≤a+k by omega)]
  split
  ·rfl
  split
  ·rfl
  split
  ·rfl
  ·exact Amn he he' f (k+1) _ (by omega)
theorem Acc {s:List UInt8} {a e e':Int} (he:(s.length:Int)<e) (he':(s.length:Int)<e'):Ai s a e=Ai s a e':=by
 unfold Ai
 split
 ·rename_i hw
  have:=Av hw
  rw[Amn he he' 10 0 0 (by omega)]
 ·rfl
def Aa7 (p:Pln) (shape:Int) (s:List UInt8) (a e dJ:Int):Bool:=B2 p&&Ak shape 0 ((p.sQ.length:Int)-1)&&Ak a 0 (s.length:Int)&&decide (a≤e)&&Ak dJ 1 p.dJ
def Cg (p:Pln) (shape:Int) (s:List UInt8) (a e dJ:Int):Mr:=if Aa7 p shape s a e dJ then J0 (Int.toNat (p.dJ-dJ)) shape e (mr0 p s a) else mr0 p s a
theorem Ati {s:List UInt8} (hl:s.length≤4000) (a:Int):Ai s a 8000=Ai s a maxI:=Acc (by omega) (by unfold maxI;omega)
theorem Zi {p:Pln} {s:List UInt8} {a:Int} {o:List Ev} (hl:s.length≤4000):B6 ⟨p,s,a,o,ev0⟩ maxI=decide ((Ai s a 8000).2.2=0):=by rw[Ati hl];rfl
theorem Uz {p:Pln} {s:List UInt8} {a:Int} {o:List Ev} (hl:s.length≤4000) (h:(Ai s a 8000).2.2=0):B6 ⟨p,s,a,o,ev0⟩ maxI=true∧A5 ⟨p,s,a,o,ev0⟩ maxI=⟨p,s,(Ai s a 8000).2.1,o,ev0⟩∧Bd ⟨p,s,a,o,ev0⟩ maxI=(Ai s a 8000).1:=by
 have hok:B6 ⟨p,s,a,o,ev0⟩ maxI=true:=by rw[Zi hl];simpa using h
 refine⟨hok,?_,?_⟩
 ·rw[St hok,Ati hl];rfl
 ·unfold Bd;rw[if_pos hok,Ati hl]
theorem Asx {p:Pln} {s:List UInt8} {a:Int} {o:List Ev} {e:List Int} (hl:s.length≤4000) (h: ¬(Ai s a 8000).2.2=0):Hb ⟨⟨p,s,a,o,ev0⟩,e⟩=⟨⟨p,s,a,o,As (Ai s a 8000).2.2 (Ai s a 8000).2.1⟩,e⟩:=by
 have hok:B6 ⟨p,s,a,o,ev0⟩ maxI=false:=by rw[Zi hl];simpa using h
 have hv:=L4 hok
 have hf:D7 ⟨p,s,a,o,ev0⟩=A5 ⟨p,s,a,o,ev0⟩ maxI:=by unfold D7;rw[if_pos hok]
 unfold Hb
 simp only[hf,hv]
 rw[if_neg (Cp _ _ _),Ati hl]
 rfl
theorem Arb {p:Pln} {s:List UInt8} {a:Int} {o:List Ev} {e:List Int} (hl:s.length≤4000) (h:(Ai s a 8000).2.2=0) (hm:p.most<(Ai s a 8000).1):Hb ⟨⟨p,s,a,o,ev0⟩,e⟩=⟨⟨p,s,(Ai s a 8000).2.1,o,As 7 a⟩,e⟩:=by
 obtain ⟨h1,h2,h3⟩:=Uz (p:=p) (o:=o) hl h
 have hf:D7 ⟨p,s,a,o,ev0⟩=Dg ⟨p,s,(Ai s a 8000).2.1,o,ev0⟩ 7 a:=by
  unfold D7;rw[if_neg (by simp[h1]),h3,if_pos hm,h2]
 unfold Hb
 simp only[hf]
 rw[if_neg (Cp _ _ _)]
 rfl
theorem U0 {p:Pln} {s:List UInt8} {a:Int} {o:List Ev} (hp:B2 p=true) (hl:s.length≤4000) (h:(Ai s a 8000).2.2=0):N4 ⟨p,s,a,o,ev0⟩=C8 (o++[Eu (Ai s a 8000).1]) (Cg p p.rJ s (Ai s a 8000).2.1 ((Ai s a 8000).2.1+(Ai s a 8000).1) 1):=by
 obtain ⟨h1,h2,h3⟩:=Uz (p:=p) (o:=o) hl h
 have hw:=Gn h
 have hb:=Lm s a 8000
 have ht:=By hp
 have hr:Aa7 p p.rJ s (Ai s a 8000).2.1 ((Ai s a 8000).2.1+(Ai s a 8000).1) 1=true:=by
  simp only[Aa7,Ak,Bool.and_eq_true,decide_eq_true_eq]
  exact⟨⟨⟨⟨hp,by omega,by omega⟩,by omega,by omega⟩,by omega⟩,by omega,by omega⟩
 unfold N4 Cg
 rw[if_pos hr,h2,h3,←Ah7]
 simp[Am,C8,mr0]
theorem Asy {p:Pln} {s:List UInt8} {a:Int} {o:List Ev} {e:List Int} (hp:B2 p=true) (hl:s.length≤4000) (h:(Ai s a 8000).2.2=0) (hm: ¬p.most<(Ai s a 8000).1) (hk: ¬(Cg p p.rJ s (Ai s a 8000).2.1 ((Ai s a 8000).2.1+(Ai s a 8000).1) 1).fail.kind=0):
  Hb ⟨⟨p,s,a,o,ev0⟩,e⟩=⟨C8 (o++[Eu (Ai s a 8000).1]) (Cg p p.rJ s (Ai s a 8000).2.1 ((Ai s a 8000).2.1+(Ai s a 8000).1) 1),e⟩:=by
 obtain ⟨h1,h2,h3⟩:=Uz (p:=p) (o:=o) hl h
 have hf:D7 ⟨p,s,a,o,ev0⟩=N4 ⟨p,s,a,o,ev0⟩:=by
  unfold D7;rw[if_neg (by simp[h1]),h3,if_neg hm,U0 hp hl h,if_neg (show¬(C8 (o++[Eu (Ai s a 8000).1]) (Cg p p.rJ s (Ai s a 8000).2.1 ((Ai s a 8000).2.1+(Ai s a 8000).1) 1)).fail.kind=0 from hk)]
 unfold Hb
 simp only[hf,U0 hp hl h]
 rw[if_neg (show¬(C8 (o++[Eu (Ai s a 8000).1]) (Cg p p.rJ s (Ai s a 8000).2.1 ((Ai s a 8000).2.1+(Ai s a 8000).1) 1)).fail.kind=0 from hk)]
theorem Zj {p:Pln} {shape:Int} {s:List UInt8} {a e d:Int} (hl:a≤(s.length:Int)):Adv (mr0 p s a) (Cg p shape s a e d):=by
 unfold Cg;split
 ·exact Ab9 (r:=mr0 p s a) hl
 ·exact Adv.refl (mr0 p s a) hl
theorem Asz {p:Pln} {s:List UInt8} {a:Int} {o:List Ev} {e:List Int} (hp:B2 p=true) (hl:s.length≤4000) (h:(Ai s a 8000).2.2=0) (hm: ¬p.most<(Ai s a 8000).1) (hk:(Cg p p.rJ s (Ai s a 8000).2.1 ((Ai s a 8000).2.1+(Ai s a 8000).1) 1).fail.kind=0):
  Hb ⟨⟨p,s,a,o,ev0⟩,e⟩=⟨⟨p,s,(Ai s a 8000).2.1+(Ai s a 8000).1,((o++[Eu (Ai s a 8000).1])++(Cg p p.rJ s (Ai s a 8000).2.1 ((Ai s a 8000).2.1+(Ai s a 8000).1) 1).oJ)++[frameEndEv],ev0⟩,e++[(Ai s a 8000).2.1+(Ai s a 8000).1]⟩:=by
 obtain ⟨h1,h2,h3⟩:=Uz (p:=p) (o:=o) hl h
 have hw:=Gn h
 have hb:=Lm s a 8000
 have hf:D7 ⟨p,s,a,o,ev0⟩=Am (N4 ⟨p,s,a,o,ev0⟩) frameEndEv:=by
  unfold D7;rw[if_neg (by simp[h1]),h3,if_neg hm,U0 hp hl h,if_pos (show (C8 (o++[Eu (Ai s a 8000).1]) (Cg p p.rJ s (Ai s a 8000).2.1 ((Ai s a 8000).2.1+(Ai s a 8000).1) 1)).fail.kind=0 from hk)]
 have hadv:=Zj (p:=p) (shape:=p.rJ) (s:=s) (a:=(Ai s a 8000).2.1) (e:=(Ai s a 8000).2.1+(Ai s a 8000).1) (d:=1) (by omega)
 have hat:(Cg p p.rJ s (Ai s a 8000).2.1 ((Ai s a 8000).2.1+(Ai s a 8000).1) 1).aJ=(Ai s a 8000).2.1+(Ai s a 8000).1:=by
  have hfr:=U0 (o:=o) hp hl h
  have hk2:(N4 ⟨p,s,a,o,ev0⟩).fail.kind=0:=by rw[hfr];exact hk
  have hat2:(N4 ⟨p,s,a,o,ev0⟩).aJ=(A5 ⟨p,s,a,o,ev0⟩ maxI).aJ+Bd ⟨p,s,a,o,ev0⟩ maxI:=by
   refine Acb ?_ ?_ ?_ hk2
   ·rw[h2];show (Ai s a 8000).2.1≤(s.length:Int);omega
   ·rw[h2,h3];show (Ai s a 8000).2.1≤(Ai s a 8000).2.1+(Ai s a 8000).1;omega
   ·rw[h2];rfl
  rw[hfr,h2,h3] at hat2
  exact hat2
 have hfa:(Cg p p.rJ s (Ai s a 8000).2.1 ((Ai s a 8000).2.1+(Ai s a 8000).1) 1).fail=ev0:=hadv.fail hk
 have hpl:(Cg p p.rJ s (Ai s a 8000).2.1 ((Ai s a 8000).2.1+(Ai s a 8000).1) 1).pJ=p:=hadv.pJ
 have hs:(Cg p p.rJ s (Ai s a 8000).2.1 ((Ai s a 8000).2.1+(Ai s a 8000).1) 1).s=s:=hadv.s
 unfold Hb
 simp only[hf,U0 hp hl h]
 rw[if_pos (show (Am (C8 (o++[Eu (Ai s a 8000).1]) (Cg p p.rJ s (Ai s a 8000).2.1 ((Ai s a 8000).2.1+(Ai s a 8000).1) 1)) frameEndEv).fail.kind=0 from hk)]
 simp only[Am,C8,hat,hfa,hpl,hs]
def N5 (p:Pln) (s:List UInt8):List Ev:=if B2 p=true∧s.length≤4000 then Fk p s else []
theorem Ah9 {p:Pln} {s:List UInt8} (hs:s.length≤4000):(Fk p s).length≤16001:=by
 suffices h:((Jm p s).r.oJ.length:Int)≤16000 by
  unfold Fk;rw[List.length_append];simp only[List.length_cons,List.length_nil];omega
 have key: ∀(k:Nat) (w:Wh),w.r.aJ≤(w.r.s.length:Int)→Adv w.r (F7 Ain Hb k w).r:=by
  intro k
  induction k with
  |zero=>intro w h;exact Adv.refl _ h
  |succ k ih=>
   intro w h
   unfold F7
   cases hg:Ain w with
   |false=>exact Adv.refl _ h
   |true=>
    have hk:w.r.fail.kind=0:=L6 hg
    have hf:=Tz h hk
    simp only[if_true]
    by_cases hk2:(D7 w.r).fail.kind=0
    ·exact hf.1.trans hk2 (ih (Hb w) (by show (D7 w.r).aJ≤((D7 w.r).s.length:Int);rw[hf.1.s];exact(hf.1.aJ hk2).2))
    ·have:F7 Ain Hb k (Hb w)=Hb w:=Dy (by
      cases hg':Ain (Hb w) with
      |false=>rfl
      |true=>exact(hk2 (L6 hg')).elim)
     rw[this];exact hf.1
 have:=(key (Nz (wh0 p s).r) (wh0 p s) (by simp[wh0,mr0])).most
 have e:(Jm p s)=F7 Ain Hb (Nz (wh0 p s).r) (wh0 p s):=rfl
 rw[e]
 simp only[wh0,mr0,List.length_nil] at this ⊢
 omega
theorem Amo (p:Pln) (shape:Int) (s:List UInt8) (aJ:Int) (eJ:Int) (dJ:Int) (hp1:s.length≤1048576) (hp2:eJ≤9223372036854775807):Fun Tryz.prog 95 [.agg (G0 p),vI shape,vT s,vI aJ,vI eJ,vI dJ] [] (.tup [vO 0,.agg (cEv (Cg p shape s aJ eJ dJ).fail)]) [.lst .ev (Cg p shape s aJ eJ dJ).oJ]:=by
 have hN:Bh=274877906944:=rfl
 refine Ar Tryz.func95 Q4 Q4 (w:=let zi:Int→C:= .int .i64;let z1:List C:=[zi 0,zi 0,.int .u64 0,zi 0,.str [],zi 0,zi 0];let z4:=(p.sQ.length:Int)-1;let z5:=Cg p shape s aJ eJ dJ;let z6:=Ak aJ 0 (s.length:Int);let z8:=([]:List Ev);let z7:=(⟨p,s,aJ,z8,(⟨0,0,0,0,[],0,0⟩:Ev)⟩:Mr);let z2:=J0 (Int.toNat ((z7).pJ.dJ-dJ)) shape eJ z7;let z9:=Ak dJ 1 p.dJ;let z10:List Blk:=[.cells (Fn 2 z2),.dK,.lst .ev z2.oJ];let z11:=Ak shape 0 z4;let z12:S:= .tup [vO 0,.agg (cEv z5.fail)];let z3:=Lf (.tup [vO 0,.agg z1]) z12 [.lst .ev z8] [.lst .ev z5.oJ];(.sZ [.call [] (.v (vB (B2 p))) []] (.br (.sZ [.ty .ev] (.lJ () [2])) (.sZ [.as 24 (.v (vI z4)),.call [] (.v (vB z11)) []] (.br (.sZ [.ty .ev] (.lJ () [2])) (.sZ [.call [] (.v (vB z6)) []] (.br (.sZ [.ty .ev] (.lJ () [2])) (.br (.sZ [.ty .ev] (.lJ () [2])) (.sZ [.call [] (.v (vB z9)) []] (.br (.sZ [.ty .ev] (.lJ () [2])) (.sZ [.at 5,.mk 2 6 .ev,.call [2,3] (.tup []) z10,.ord [(1,true),(2,true),(3,true),(4,true),(6,true),(7,true),(8,true),(9,true),(0,false),(5,false),(10,true),(11,false)] [4],.ty .ev,.ty .ev] (.lJ () [6])))))))))),(Fp 13 [.agg (G0 p)] [] (.v (vB (B2 p))) [])∧Bc (!(B2 p)) z3 ((wI z4)∧(Fp 44 [vI shape,vI 0,vI z4] [] (.v (vB z11)) [])∧Bc (!z11) z3 ((Fp 44 [vI aJ,vI 0,vI (s.length:Int)] [] (.v (vB z6)) [])∧Bc (!z6) z3 (Bc (decide (eJ<aJ)) z3 ((Fp 44 [vI dJ,vI 1,vI p.dJ] [] (.v (vB z9)) [])∧Bc (!z9) z3 ((Fp 159 [vP 0,vI shape,vI eJ,vI dJ] [.cells (.seq .shp p.sQ::zi p.rJ::zi p.dJ::zi p.most:: .str s::zi aJ:: .own 1::z1),.lst .ev z8] (.tup []) z10)∧(z8.length+z2.oJ.length≤Bh)∧Lf (.tup [vO 0,.agg (cEv z2.fail)]) z12 [.lst .ev (z8++z2.oJ)] [.lst .ev z5.oJ]))))))) Q4 ?_
 refine⟨(Mj p),fun h1=>have q1:=Ao h1;?_,fun h1=>have q1:=An h1;have p1:=By q1;?_⟩
 exact zD ((Cg p shape s aJ eJ dJ).fail) (⟨0,0,0,0,[],0,0⟩:Ev) ((Cg p shape s aJ eJ dJ).oJ) ([]:List Ev) (fun hm1 hm2=>⟨(congrArg S.tup (Ab rfl (Ab (congrArg V.agg (Ab (cI W78) (Ab (cI W78) (Ab (congrArg (C.int .u64) W78) (Ab (cI W78) (Ab (congrArg C.str W78) (Ab (cI W78) (Ab (cI W78) rfl)))))))) rfl))),(by rw[hm2]<;>rfl)⟩) W78 W78
 have hpt:=By q1
 refine⟨(Ad Q2 Q2),(Bb _ _ _),fun h2=>have q2:=Ao h2;have p2:=A0 q2;?_,fun h2=>have q2:=An h2;have p2:=Av q2;?_⟩
 exact zD ((Cg p shape s aJ eJ dJ).fail) (⟨0,0,0,0,[],0,0⟩:Ev) ((Cg p shape s aJ eJ dJ).oJ) ([]:List Ev) (fun hm1 hm2=>⟨(congrArg S.tup (Ab rfl (Ab (congrArg V.agg (Ab (cI W78) (Ab (cI W78) (Ab (congrArg (C.int .u64) W78) (Ab (cI W78) (Ab (congrArg C.str W78) (Ab (cI W78) (Ab (cI W78) rfl)))))))) rfl))),(by rw[hm2]<;>rfl)⟩) W78 W78
 refine⟨(Bb _ _ _),fun h3=>have q3:=Ao h3;have p3:=A0 q3;?_,fun h3=>have q3:=An h3;have p3:=Av q3;?_⟩
 exact zD ((Cg p shape s aJ eJ dJ).fail) (⟨0,0,0,0,[],0,0⟩:Ev) ((Cg p shape s aJ eJ dJ).oJ) ([]:List Ev) (fun hm1 hm2=>⟨(congrArg S.tup (Ab rfl (Ab (congrArg V.agg (Ab (cI W78) (Ab (cI W78) (Ab (congrArg (C.int .u64) W78) (Ab (cI W78) (Ab (congrArg C.str W78) (Ab (cI W78) (Ab (cI W78) rfl)))))))) rfl))),(by rw[hm2]<;>rfl)⟩) W78 W78
 refine dsp (fun h4 p4=>?_) fun h4 p4=>?_
 exact zD ((Cg p shape s aJ eJ dJ).fail) (⟨0,0,0,0,[],0,0⟩:Ev) ((Cg p shape s aJ eJ dJ).oJ) ([]:List Ev) (fun hm1 hm2=>⟨(congrArg S.tup (Ab rfl (Ab (congrArg V.agg (Ab (cI W78) (Ab (cI W78) (Ab (congrArg (C.int .u64) W78) (Ab (cI W78) (Ab (congrArg C.str W78) (Ab (cI W78) (Ab (cI W78) rfl)))))))) rfl))),(by rw[hm2]<;>rfl)⟩) W78 W78
 refine⟨(Bb _ _ _),fun h5=>have q5:=Ao h5;have p5:=A0 q5;?_,fun h5=>have q5:=An h5;have p5:=Av q5;?_⟩
 exact zD ((Cg p shape s aJ eJ dJ).fail) (⟨0,0,0,0,[],0,0⟩:Ev) ((Cg p shape s aJ eJ dJ).oJ) ([]:List Ev) (fun hm1 hm2=>⟨(congrArg S.tup (Ab rfl (Ab (congrArg V.agg (Ab (cI W78) (Ab (cI W78) (Ab (congrArg (C.int .u64) W78) (Ab (cI W78) (Ab (congrArg C.str W78) (Ab (cI W78) (Ab (cI W78) rfl)))))))) rfl))),(by rw[hm2]<;>rfl)⟩) W78 W78
 exact zD ((Cg p shape s aJ eJ dJ).fail) ((J0 (Int.toNat (((⟨p,s,aJ,([]:List Ev),(⟨0,0,0,0,[],0,0⟩:Ev)⟩:Mr)).pJ.dJ-dJ)) shape eJ (⟨p,s,aJ,([]:List Ev),(⟨0,0,0,0,[],0,0⟩:Ev)⟩:Mr)).fail) ((Cg p shape s aJ eJ dJ).oJ) (([]:List Ev)++(J0 (Int.toNat (((⟨p,s,aJ,([]:List Ev),(⟨0,0,0,0,[],0,0⟩:Ev)⟩:Mr)).pJ.dJ-dJ)) shape eJ (⟨p,s,aJ,([]:List Ev),(⟨0,0,0,0,[],0,0⟩:Ev)⟩:Mr)).oJ) (fun hm1 hm2=>⟨(Atx (⟨p,s,aJ,([]:List Ev),(⟨0,0,0,0,[],0,0⟩:Ev)⟩:Mr) _ _ _ Q40 Q40 Q40 Q40 Q40 Q2 (by simp_all) Q40),(Nat.le_trans (Nat.le_of_eq (Nat.zero_add _)) (Aa5 (by dsimp only;omega) (by simp only[List.length_nil];omega))),(congrArg S.tup (Ab rfl (Ab (congrArg V.agg (Ab (cI W78) (Ab (cI W78) (Ab (congrArg (C.int .u64) W78) (Ab (cI W78) (Ab (congrArg C.str W78) (Ab (cI W78) (Ab (cI W78) rfl)))))))) rfl))),(by rw[hm2]<;>rfl)⟩) W78 W78
structure Xx where
 oJ:List Ev
 places:List Int
 aJ:Int
def Xy (p:Pln) (s:List UInt8):Fam:=⟨Xx,fun q1=>[(1,.v (vT s)),(2,.v (vP 0)),(6,.v (vO 1)),(7,.v (vO 2)),(8,.v (vI q1.aJ))],fun q1=>[.cells (G0 p),.lst .ev q1.oJ,.lst .int q1.places],fun q1=>WInv (wh0 p s) ⟨⟨p,s,q1.aJ,q1.oJ,ev0⟩,q1.places⟩,fun q1=>Nz ⟨p,s,q1.aJ,q1.oJ,ev0⟩⟩
theorem Aty (p:Pln) (s:List UInt8) (hp1:B2 p=true) (hp2:s.length≤4000):Fun Tryz.prog 45 [.agg (G0 p),vT s] [] (.tup [vO 0,vO 1]) [.lst .ev (Fk p s),.lst .int (Jm p s).ends]:=by
 have hN:Bh=274877906944:=rfl
 have hpt:=By hp1
 refine Ar Tryz.func45 Q4 Q4 (w:=let z5:List Blk:=[.lst .ev (Fk p s),.lst .int (Jm p s).ends];let z6:S:= .tup [vO 0,vO 1];let z7:=(⟨9,0,0,0,[],0,(s.length:Int)⟩:Ev);let z8:=Xy p s;(.sZ [.ty .ev,.ty .int,.at 0,.keep [1,2,6,7,8],.sel [0,1,2]] (.loop z8 fun q1=>let z1:=Ai s q1.aJ 8000;.br (.sZ [.call [] (.tup [.c (.int .u64 z1.1),vI z1.2.1,vI z1.2.2]) []] (.br (.sZ [.call [] (.v (.agg (cEv (As z1.2.2 z1.2.1)))) [],.ty .ev,.ty .ev] (.lJ () [4,2])) (.sZ [.as 40 (.v (.c (.int .u64 p.most)))] (.br (.sZ [.call [] (.v (.agg (cEv (As 7 q1.aJ)))) [],.ty .ev,.ty .ev] (.lJ () [4,2])) (.sZ [.as 49 (.v (vI z1.1)),.ty .ev,.ty .ev,.as 63 (.v (vI (z1.2.1+z1.1))),.call [] (.tup [vO 0,.agg (cEv (Cg p p.rJ s z1.2.1 (z1.2.1+z1.1) 1).fail)]) [.lst .ev (Cg p p.rJ s z1.2.1 (z1.2.1+z1.1) 1).oJ],.ty .ev] (.br (.sZ [.ty .ev,.ty .ev] (.lJ () [9,2])) (.sZ [.ty .ev,.ty .ev,.as 84 (.v (vI (z1.2.1+z1.1))),.ty .int,.ty .int,.at 0,.keep [1,2,6,7,8],.sel [0,9,11]] (.next)))))))) (.sZ [.ty .ev,.ty .ev] (.lJ () [4,2]))),z8.Has [(1,.v (vT s)),(2,.v (vP 0)),(6,.v (vO 1)),(7,.v (vO 2)),(8,.v (vI 0))] [.cells (G0 p),.lst .ev ([]:List Ev),.lst .int [0]]∧∀q1,z8.inv q1→(let z2:=Ai s q1.aJ 8000;let z4:=q1.oJ++[(⟨1,0,0,z2.1,[],0,0⟩:Ev)];let z3:=z4++(Cg p p.rJ s z2.2.1 (z2.2.1+z2.1) 1).oJ;Bc (decide (q1.aJ<(s.length:Int))) ((Fp 93 [vT s,vI q1.aJ,vI 8000] [] (.tup [.c (.int .u64 z2.1),vI z2.2.1,vI z2.2.2]) [])∧Bc (!decide (z2.2.2=0)) ((Fp 94 [vI z2.2.2,vI z2.2.1] [] (.v (.agg (cEv (As z2.2.2 z2.2.1)))) [])∧(q1.oJ.length+List.length [(As z2.2.2 z2.2.1)]≤Bh)∧Lf z6 z6 [.lst .ev (q1.oJ++[(As z2.2.2 z2.2.1)]),.lst .int q1.places] z5) ((wU (p.most))∧Bc (decide (p.most<z2.1)) ((Fp 94 [vI 7,vI q1.aJ] [] (.v (.agg (cEv (As 7 q1.aJ)))) [])∧(q1.oJ.length+List.length [(As 7 q1.aJ)]≤Bh)∧Lf z6 z6 [.lst .ev (q1.oJ++[(As 7 q1.aJ)]),.lst .int q1.places] z5) ((wI (z2.1))∧(q1.oJ.length+List.length [(⟨1,0,0,z2.1,[],0,0⟩:Ev)]≤Bh)∧(wI (z2.2.1+z2.1))∧(Fp 95 [.agg (G0 p),vI p.rJ,vT s,vI z2.2.1,vI (z2.2.1+z2.1),vI 1] [] (.tup [vO 0,.agg (cEv (Cg p p.rJ s z2.2.1 (z2.2.1+z2.1) 1).fail)]) [.lst .ev (Cg p p.rJ s z2.2.1 (z2.2.1+z2.1) 1).oJ])∧(z4.length+List.length (Cg p p.rJ s z2.2.1 (z2.2.1+z2.1) 1).oJ≤Bh)∧Bc (!decide ((Cg p p.rJ s z2.2.1 (z2.2.1+z2.1) 1).fail.kind=0)) ((z3.length+List.length [(Cg p p.rJ s z2.2.1 (z2.2.1+z2.1) 1).fail]≤Bh)∧Lf z6 z6 [.lst .ev (z3++[(Cg p p.rJ s z2.2.1 (z2.2.1+z2.1) 1).fail]),.lst .int q1.places] z5) ((z3.length+List.length [(⟨8,0,0,0,[],0,0⟩:Ev)]≤Bh)∧(wI (z2.2.1+z2.1))∧(q1.places.length+List.length [z2.2.1+z2.1]≤Bh)∧z8.Nxt q1 [(1,.v (vT s)),(2,.v (vP 0)),(6,.v (vO 1)),(7,.v (vO 2)),(8,.v (vI (z2.2.1+z2.1)))] [.cells (G0 p),.lst .ev (z3++[(⟨8,0,0,0,[],0,0⟩:Ev)]),.lst .int (q1.places++[z2.2.1+z2.1])])))) ((q1.oJ.length+List.length [z7]≤Bh)∧Lf z6 z6 [.lst .ev (q1.oJ++[z7]),.lst .int q1.places] z5)))) Q4 ?_
 refine⟨Bp (j:=(⟨([]:List Ev),[0],0⟩:Xx)) rfl rfl (by dsimp only[Xy];exact WInv.refl),fun (q1:Xx) hq_q1=>?_⟩
 have hi_q1:WInv (wh0 p s) ⟨⟨p,s,q1.aJ,q1.oJ,ev0⟩,q1.places⟩:=hq_q1
 have hrm:=hi_q1.room rfl
 dsimp only at hrm
 have hen:=hi_q1.ends rfl
 dsimp only at hen
 have hvb:=Lm s q1.aJ 8000
 refine dsp (fun h1 p1=>?_) fun h1 p1=>?_
 refine⟨(Yp _ _ _ Q2),fun h2=>have q2:=Ao h2;have p2:=of_decide_eq_false q2;?_,fun h2=>have q2:=An h2;have p2:=of_decide_eq_true q2;?_⟩
 exact⟨(Dn _ _),Q6,rfl,(Ab (congrArg (Blk.lst .ev) W79) (Ab (congrArg (Blk.lst .int) W79) rfl))⟩
 have hw:=Gn p2
 have hra:((Cg p p.rJ s (Ai s q1.aJ 8000).2.1 ((Ai s q1.aJ 8000).2.1+(Ai s q1.aJ 8000).1) 1).oJ.length:Int)≤4*4000:=by have:=(Zj (p:=p) (shape:=p.rJ) (s:=s) (a:=(Ai s q1.aJ 8000).2.1) (e:=(Ai s q1.aJ 8000).2.1+(Ai s q1.aJ 8000).1) (d:=1) (by omega)).most;simp only[mr0,List.length_nil] at this;omega
 refine⟨(Bu Q2 Q2),dsp (fun h3 p3=>?_) fun h3 p3=>?_⟩
 exact⟨(Dn _ _),Q6,rfl,(Ab (congrArg (Blk.lst .ev) W79) (Ab (congrArg (Blk.lst .int) W79) rfl))⟩
 refine⟨(Ad Q2 Q2),Q6,(Ad Q2 Q2),(Amo p _ _ _ _ _ Q2 Q2),Q38,fun h4=>have q4:=Ao h4;have p4:=of_decide_eq_false q4;?_,fun h4=>have q4:=An h4;have p4:=of_decide_eq_true q4;?_⟩
 exact⟨Q38,rfl,(Ab (congrArg (Blk.lst .ev) W79) (Ab (congrArg (Blk.lst .int) W79) rfl))⟩
 exact⟨Q38,(Ad Q2 Q2),Q6,A6 (j:=(⟨((q1.oJ++[(⟨1,0,0,(Ai s q1.aJ 8000).1,[],0,0⟩:Ev)])++(Cg p p.rJ s (Ai s q1.aJ 8000).2.1 ((Ai s q1.aJ 8000).2.1+(Ai s q1.aJ 8000).1) 1).oJ)++[(⟨8,0,0,0,[],0,0⟩:Ev)],q1.places++[(Ai s q1.aJ 8000).2.1+(Ai s q1.aJ 8000).1],_⟩:Xx)) rfl rfl (by dsimp only[Xy];exact(hi_q1.next (by show q1.aJ<_;omega) rfl (Asz hp1 hp2 (by assumption) (by assumption) (by assumption))).1) (by dsimp only[Xy];exact(hi_q1.next (by show q1.aJ<_;omega) rfl (Asz hp1 hp2 (by assumption) (by assumption) (by assumption))).2)⟩
 exact⟨Q6,rfl,(Ab (congrArg (Blk.lst .ev) W79) (Ab (congrArg (Blk.lst .int) W79) rfl))⟩
theorem Afd (p:Pln) (s:List UInt8) (hp1:s.length≤1048576):Fun Tryz.prog 16 [.agg (G0 p),vT s] [] (.v (vO 0)) [.lst .ev (N5 p s)]:=by
 have hN:Bh=274877906944:=rfl
 refine Ar Tryz.func16 Q4 Q4 (w:=let z1:=Lf (.v (vO 0)) (.v (vO 0)) [.lst .ev ([]:List Ev)] [.lst .ev (N5 p s)];let z2:List Blk:=[.lst .ev (Fk p s),.lst .int (Jm p s).ends];(.sZ [.call [] (.v (vB (B2 p))) []] (.br (.sZ [.ty .ev] (.lJ () [1])) (.br (.sZ [.ty .ev] (.lJ () [1])) (.sZ [.call [] (.tup [vO 0,vO 1]) z2] (.lJ () [1])))),(Fp 13 [.agg (G0 p)] [] (.v (vB (B2 p))) [])∧Bc (!(B2 p)) z1 (Bc (decide (4000<(s.length:Int))) z1 ((Fp 45 [.agg (G0 p),vT s] [] (.tup [vO 0,vO 1]) z2)∧Lf (.v (vO 0)) (.v (vO 0)) [.lst .ev (Fk p s)] [.lst .ev (N5 p s)])))) Q4 ?_
 refine⟨(Mj p),fun h1=>have q1:=Ao h1;?_,fun h1=>have q1:=An h1;have p1:=By q1;?_⟩
 exact⟨rfl,(Ab (congrArg (Blk.lst .ev) W80) rfl)⟩
 refine dsp (fun h2 p2=>?_) fun h2 p2=>?_
 exact⟨rfl,(Ab (congrArg (Blk.lst .ev) W80) rfl)⟩
 have hwl:N5 p s=Fk p s:=by unfold N5;rw[if_pos ⟨by simp_all,by omega⟩]
 exact⟨(Aty p _ Q2 Q2),rfl,(Ab (congrArg (Blk.lst .ev) W80) rfl)⟩
theorem L7 (o:List Ev) (e:Ev):tx (o++[e])=tx o+e.text.length:=by rw[Lu];simp[tx]
theorem Ko (m:Mac) (c a:Int):tx (A3 m c a).oJ=tx m.oJ:=L7 m.oJ (As c a)
theorem Ao4 {m q:Mac} (h:A1 m=some q):tx q.oJ=tx m.oJ:=by
 unfold A1 at h
 split at h
 ·split at h
  ·cases h;exact Ko _ _ _
  ·cases h;exact L7 m.oJ Rr
 ·split at h
  ·cases h;rfl
  ·split at h
   ·split at h
    ·cases h;exact L7 m.oJ H7
    ·cases h;exact L7 m.oJ Ajw
   ·cases h
theorem Aia: ∀(k:Nat) (m:Mac),wM m≤k→tx (Ae m).oJ=tx m.oJ:=by
 intro k
 induction k with
 |zero=>
  intro m hk
  cases hc:A1 m with
  |none=>rw[Bz hc]
  |some q=>have:=(Ck hc).1;omega
 |succ k ih=>
  intro m hk
  cases hc:A1 m with
  |none=>rw[Bz hc]
  |some q=>rw[Cd hc,ih q (by have:=(Ck hc).1;omega),Ao4 hc]
theorem Hc (m:Mac):tx (Ae m).oJ=tx m.oJ:=Aia _ m (Nat.le_refl _)
theorem Ao5 (m:Mac) (u:Int):tx (C0 m u).oJ=tx m.oJ:=by
 unfold C0;split
 ·exact Ko _ _ _
 ·rw[Hc];exact L7 m.oJ (Ac9 u)
theorem As0 (m:Mac) (u:Int):tx (Ew m u).oJ=tx m.oJ:=by
 unfold Ew;split
 ·exact Ko _ _ _
 split
 ·exact Ko _ _ _
 split
 ·exact Ko _ _ _
 split
 ·exact L7 m.oJ (As 9 m.d.aJ)
 ·rfl
theorem Arc (m:Mac) (u:Int):tx (Cu m u).oJ=tx m.oJ:=by
 unfold Cu;split
 ·exact Ko _ _ _
 split
 ·exact Hc _
 split
 ·split
  ·exact Ko _ _ _
  ·rw[Hc];exact L7 m.oJ (Ue m.d.field.nJ u)
 split
 ·rw[Hc];exact L7 m.oJ (Ada m.d.field.nJ u)
 split
 ·exact Ko _ _ _
 ·exact Hc _
theorem Acd (m:Mac) (u:Int):tx (Bv m u).oJ=tx m.oJ:=by
 unfold Bv;dsimp only;split
 ·rfl
 ·exact L7 m.oJ (Er m.d.field u)
theorem As1 (m:Mac) (b a:Int):tx (B3 m b a).oJ=tx m.oJ:=by
 unfold B3;split
 ·exact Ko ⟨G5 m.d a,m.oJ⟩ 1 a
 split
 ·unfold Wy;split
  ·exact Ko ⟨G1 (G5 m.d a) (Aj m.d.sK b).1,m.oJ⟩ 9 m.d.aJ
  ·rfl
 split
 ·exact Ao5 ⟨G1 (G5 m.d a) scn0,m.oJ⟩ _
 split
 ·exact As0 ⟨G1 (G5 m.d a) scn0,m.oJ⟩ _
 split
 ·exact Arc ⟨G1 (G5 m.d a) scn0,m.oJ⟩ _
 ·rw[Hc];exact Acd ⟨G1 (G5 m.d a) scn0,m.oJ⟩ _
theorem As2 (m:Mac) (b:Int):tx (D8 m b).oJ=tx m.oJ:=by
 unfold D8;split
 ·rfl
 split
 ·rw[Ko];exact Acd ⟨G1 m.d scn0,m.oJ⟩ _
 ·rw[Hc];exact Acd ⟨G1 m.d scn0,m.oJ⟩ _
theorem Ard (m:Mac) (b:Int):tx (Es m b).oJ≤tx m.oJ+1:=by
 have hp:tx (m.oJ++[Wx b])=tx m.oJ+1:=L7 m.oJ (Wx b)
 unfold Es;split
 ·split
  ·rw[Ko];omega
  ·rw[Hc];exact Nat.le_of_eq hp
 ·rw[Hc];exact Nat.le_of_eq hp
theorem Ao6 (d:Dcd) (b:Int):tx (Cs d b).oJ≤1:=by
 unfold Cs;split
 ·unfold Dw;split
  ·exact Ard ⟨Dz d,[]⟩ b
  split
  ·rw[Hc];exact Nat.zero_le _
  split
  ·rw[As2];exact Nat.zero_le _
  ·rw[As1];exact Nat.zero_le _
 ·exact Nat.zero_le _
theorem Agq: ∀(s:List UInt8) (m:Mac),tx (Cb m s).oJ≤tx m.oJ+s.length
 |[],m=>Nat.le_refl _
 |b::r,m=>by
  rw[Fh]
  have h1:=Agq r (Qw m (b.toNat:Int))
  have h2:tx (Qw m (b.toNat:Int)).oJ=tx m.oJ+tx (Cs m.d (b.toNat:Int)).oJ:=Lu _ _
  have h3:=Ao6 m.d (b.toNat:Int)
  rw[List.length_cons];omega
theorem Amp (o:List Ev) (e:Ev):tx (Fq o e)=tx o+e.text.length:=by
 unfold Fq;split
 ·rename_i h;rw[h.2];simp
 split
 ·rename_i h
  have hx:o[o.length-1]? =some (Pw o):=by
   unfold Pw
   rw[List.getD_eq_getElem?_getD,List.getElem?_eq_getElem (by omega)];rfl
  exact Akp e.text hx
 ·exact L7 o e
theorem Adz: ∀(l o:List Ev),tx (Ea o l)=tx o+tx l
 |[],o=>by rw[Vo];simp[tx]
 |e::r,o=>by rw[E8,Adz r,Amp,tx];omega
theorem Ao7 (d:Dcd) (s:List UInt8):tx (Df d s).oJ≤s.length:=by
 have h:=Agq s ⟨d,[]⟩
 show tx (Ca (Cb ⟨d,[]⟩ s).oJ)≤_
 unfold Ca
 rw[Adz]
 simpa [tx] using h
/-! ### The machine beside the grammar -/
def bt (s:List UInt8) (a:Int):Int:=((s.getD a.toNat 0).toNat:Int)
theorem Atj (s:List UInt8) (a:Int):0≤bt s a∧bt s a≤255:=Atq _
def fed (s:List UInt8) (m:Mac) (a:Int):Mac:=Cb m (s.drop a.toNat)
theorem Amq {s:List UInt8} {m:Mac} {a:Int} (h:(s.length:Int)≤a):fed s m a=m:=by unfold fed;rw[List.drop_eq_nil_of_le (by omega)];rfl
theorem Ao8 {s:List UInt8} {m:Mac} {a:Int} (h0:0≤a) (h:a<(s.length:Int)):fed s m a=fed s (Qw m (bt s a)) (a+1):=by
 unfold fed bt
 have hx:s[a.toNat]? =some s[a.toNat]:=List.getElem?_eq_getElem (by omega)
 rw[C3 hx,Fh,show (a+1).toNat=a.toNat+1 by omega,List.getD_eq_getElem?_getD,hx]
 rfl
theorem Ao9 {s:List UInt8} {m:Mac} (h:m.d.mJ=9) (a:Int):fed s m a=m:=Uu (by unfold Fc;simp[h]) _
def Go (s:List UInt8) (m:Mac) (a:Int) (m':Mac) (a':Int):Prop:=fed s m a=fed s m' a'∧Ce m'.d=true
theorem Go.trans {s:List UInt8} {m m' m2:Mac} {a a' a2:Int} (h:Go s m a m' a') (g:Go s m' a' m2 a2):Go s m a m2 a2:=⟨h.1.trans g.1,g.2⟩
theorem Go.one {s:List UInt8} {m:Mac} {a:Int} (h0:0≤a) (h:a<(s.length:Int)) (hok:Ce m.d=true) (h9:m.d.mJ≠9) (hat:m.d.aJ<1000000000):Go s m a (Dw m (bt s a)) (a+1):=by
 have ht:Fc m.d=true:=by unfold Fc;simp[h9,hat]
 have hs:=Aat hok ht (Atj s a)
 refine⟨by rw[Ao8 h0 h,hs],?_⟩
 rw[←hs];exact Xk hok
theorem Are {m:Mac} {b:Int} (h:m.d.mJ=6):Dw m b=Es ⟨Dz m.d,m.oJ⟩ b:=by unfold Dw;rw[if_pos h]
theorem Arf {m:Mac} {b:Int} (h:m.d.mJ=7):Dw m b=Ae ⟨Dz m.d,m.oJ⟩:=by unfold Dw;rw[if_neg (by omega),if_pos h]
theorem Amr {m:Mac} {b:Int} (h6:m.d.mJ≠6) (h7:m.d.mJ≠7) (h:0<Bw m.d):Dw m b=D8 ⟨Dz m.d,m.oJ⟩ b:=by unfold Dw;rw[if_neg h6,if_neg h7,if_pos h]
theorem Ams {m:Mac} {b:Int} (h6:m.d.mJ≠6) (h7:m.d.mJ≠7) (h: ¬0<Bw m.d):Dw m b=B3 ⟨Dz m.d,m.oJ⟩ b m.d.aJ:=by unfold Dw;rw[if_neg h6,if_neg h7,if_neg h]
def stk:Option (List Lev×Int×Int)→Int→List Lev
 |none,_=>[]
 |some (base,mK,e),x=>base++[⟨mK,e-x⟩]
def Gp (mJ e x:Int):Int:=if mJ=6∨mJ=7∨mJ=8 then e-x else 0
def sv (p:Pln) (mJ:Int) (b:Option (List Lev×Int×Int)) (e x:Int) (sc:Scn) (st:Int) (f:Fld) (w:Int) (u:Utf):Dcd:=⟨p,mJ,stk b x,sc,st,x,f,w,Gp mJ e x,u,ev0⟩
theorem Ace {base:List Lev} {mK e x:Int} :(stk (some (base,mK,e)) x).length=base.length+1:=by simp[stk]
theorem Wv {p:Pln} {mJ:Int} {base:List Lev} {mK E e x:Int} {sc:Scn} {st:Int} {f:Fld} {w:Int} {u:Utf} :D2 (sv p mJ (some (base,mK,E)) e x sc st f w u)=E-x∧Hi (sv p mJ (some (base,mK,E)) e x sc st f w u)=⟨mK,E-x⟩:=by
 unfold D2 Hi sv stk
 simp
theorem Apa {base:List Lev} {l l':Lev} :List.set (base++[l]) ((base++[l]).length-1) l'=base++[l']:=by
 rw[List.length_append,List.length_singleton,Nat.add_sub_cancel,List.set_append_right _ _ (Nat.le_refl _)]
 simp
theorem Acf {p:Pln} {mJ:Int} {b:Option (List Lev×Int×Int)} {e x:Int} {sc:Scn} {st:Int} {f:Fld} {w:Int} {u:Utf} :
  Dz (sv p mJ b e x sc st f w u)=sv p mJ b e (x+1) sc st f w u:=by
 have hw:(if mJ=6∨mJ=7∨mJ=8 then Gp mJ e x-1 else Gp mJ e x)=Gp mJ e (x+1):=by
  unfold Gp
  split<;>omega
 have hs:(if (stk b x).length=0 then stk b x else (stk b x).set ((stk b x).length-1) ⟨(Hi (sv p mJ b e x sc st f w u)).mK,D2 (sv p mJ b e x sc st f w u)-1⟩)=stk b (x+1):=by
  cases b with
  |none=>rfl
  |some b=>
   obtain ⟨base,mK,E⟩:=b
   obtain ⟨h1,h2⟩:=Wv (p:=p) (mJ:=mJ) (base:=base) (mK:=mK) (E:=E) (e:=e) (x:=x) (sc:=sc) (st:=st) (f:=f) (w:=w) (u:=u)
   rw[h1,h2,if_neg (by rw[Ace];omega)]
   unfold stk
   rw[Apa,show E-x-1=E-(x+1) by omega]
 show Dcd.mk p mJ (if (stk b x).length=0 then stk b x else (stk b x).set ((stk b x).length-1) ⟨(Hi (sv p mJ b e x sc st f w u)).mK,D2 (sv p mJ b e x sc st f w u)-1⟩) sc st (x+1) f w (if mJ=6∨mJ=7∨mJ=8 then Gp mJ e x-1 else Gp mJ e x) u ev0=_
 rw[hs,hw];rfl
def Aib (mJ:Int) (m:Mac) (u:Int):Mac:=if mJ=1 then C0 m u else if mJ=2 then Ew m u else if mJ=4 then Cu m u else Ae (Bv m u)
def Aug (s:List UInt8) (m:Mac):Prop:=m.d.mJ≠9∧¬(m.d.mJ=1∧m.d.sK.hJ=0)∧m.d.aJ=(s.length:Int)∧Ce m.d=true
def Ends (s:List UInt8) (q:Mac) (o:List Ev) (c x:Int):Prop:=(c=10→x=(s.length:Int)∧Aug s q∧q.oJ=o)∧(c≠10→q.d.mJ=9∧q.oJ=o++[As c x])
theorem Ends.of_fail {s:List UInt8} {m m1:Mac} {a a' c x:Int} (h:Go s m a (A3 m1 c x) a') (hc:c≠10):Ends s (fed s m a) m1.oJ c x:=by
 rw[h.1,Ao9 rfl];exact⟨fun h=>absurd h hc,fun _=>⟨rfl,rfl⟩⟩
theorem Ends.go {s:List UInt8} {m m':Mac} {a a' c x:Int} {o:List Ev} (h:Go s m a m' a') (g:Ends s (fed s m' a') o c x):Ends s (fed s m a) o c x:=by rw[h.1];exact g
theorem Ends.cut {s:List UInt8} {m:Mac} {a x:Int} (hok:Ce m.d=true) (h9:m.d.mJ≠9) (h1: ¬(m.d.mJ=1∧m.d.sK.hJ=0)) (ha:m.d.aJ=(s.length:Int)) (hl:(s.length:Int)≤a) (hx:x=(s.length:Int)):Ends s (fed s m a) m.oJ 10 x:=by
 rw[Amq hl];exact⟨fun _=>⟨hx,⟨h9,h1,ha,hok⟩,rfl⟩,fun h=>absurd rfl h⟩
def isS (mJ:Int):Bool:=decide (mJ=1)||decide (mJ=2)||decide (mJ=4)
theorem Arg {mJ:Int} :isS mJ=true↔(mJ=1∨mJ=2∨mJ=4):=by unfold isS;simp[or_assoc]
structure Sc (s:List UInt8) (mJ:Int) (b:Option (List Lev×Int×Int)) (e:Int) (f:Fld):Prop where
 m:mJ=1∨mJ=2∨mJ=3∨mJ=4∨mJ=8
 one:mJ=1→b=none∧e=maxI
 lim:mJ≠1→∃base mK E,b=some (base,mK,E)∧e≤E∧(mJ≠8→e=E)
 w8:mJ=8→Aq (Be f.kind)=0
 len:s.length≤4000
theorem Arh {s:List UInt8} {p:Pln} {mJ:Int} {b:Option (List Lev×Int×Int)} {e:Int} {f:Fld} (h:Sc s mJ b e f) {x:Int} {sc:Scn} {st:Int} {w:Int} {u:Utf} (hok:Ce (sv p mJ b e x sc st f w u)=true):Bw (sv p mJ b e x sc st f w u)=0∧D4 sc=true:=by
 have hm:=h.m
 have hw:Bw (sv p mJ b e x sc st f w u)=0:=by
  unfold Bw sv
  dsimp only
  rw[if_neg (by omega)]
  split
  ·rename_i h8;exact h.w8 h8
  ·rfl
 refine⟨hw,?_⟩
 have hsd:=(Tn hok).2.2.2.2.2.2.2.2.2.2.2
 unfold Ku at hsd
 rw[hw,if_neg (by omega),if_neg (show¬((sv p mJ b e x sc st f w u).mJ=6∨(sv p mJ b e x sc st f w u).mJ=7∨(sv p mJ b e x sc st f w u).mJ=9) by unfold sv;dsimp only;omega)] at hsd
 exact hsd
theorem Amt {u k b:Int} (hs:D4 ⟨u,k⟩=true) (hk:0≤k) (hb:0≤b∧b≤255):((k=9∧1<b)→Aj ⟨u,k⟩ b=(⟨u,k⟩,2))∧(¬(k=9∧1<b)→Aj ⟨u,k⟩ b=(⟨u+b % 128*2 ^ (7*k).toNat,k+1⟩,if b<128 then 1 else 0)):=by
 have hw:Ak b 0 255=true:=by simp only[Ak,Bool.and_eq_true,decide_eq_true_eq];exact hb
 unfold Aj
 constructor
 ·intro h;rw[if_pos (.inr (.inr h))]
 ·intro h
  rw[if_neg (by rw[hs,hw];simp only[Bool.true_eq_false,false_or];exact h),show (7*k).toNat=7*k.toNat by omega]
theorem Agr {s:List UInt8} {p:Pln} {mJ:Int} {b:Option (List Lev×Int×Int)} {e:Int} {f:Fld} (h:Sc s mJ b e f) {w:Int} {ut:Utf} {o:List Ev} {a:Int} (ha:0≤a) {k u st:Int} (hk:0≤k) (hk9:k≤9) (hlt:a+k<e) (hle:a+k<(s.length:Int)) (hst:isS mJ=true→0<k→st=a) (hok:Ce (sv p mJ b e (a+k) ⟨u,k⟩ st f w ut)=true):
  ∃st',(isS mJ=true→st'=a)∧(isS mJ=false→st'=st)∧
   (k=9∧1<bt s (a+k)→Ends s (fed s ⟨sv p mJ b e (a+k) ⟨u,k⟩ st f w ut,o⟩ (a+k)) o 1 (a+k))∧
   (¬(k=9∧1<bt s (a+k))→bt s (a+k)<128→Go s ⟨sv p mJ b e (a+k) ⟨u,k⟩ st f w ut,o⟩ (a+k) (Aib mJ ⟨sv p mJ b e (a+k+1) scn0 st' f w ut,o⟩ (u+bt s (a+k) % 128*2 ^ (7*k).toNat)) (a+k+1))∧
   (¬(k=9∧1<bt s (a+k))→¬bt s (a+k)<128→(e≤a+k+1→Ends s (fed s ⟨sv p mJ b e (a+k) ⟨u,k⟩ st f w ut,o⟩ (a+k)) o 9 e)∧(a+k+1<e→Go s ⟨sv p mJ b e (a+k) ⟨u,k⟩ st f w ut,o⟩ (a+k) ⟨sv p mJ b e (a+k+1) ⟨u+bt s (a+k) % 128*2 ^ (7*k).toNat,k+1⟩ st' f w ut,o⟩ (a+k+1))):=by
 obtain ⟨hw,hsc⟩:=Arh h hok
 have hm:=h.m
 have hlen:=h.len
 have hb:=Atj s (a+k)
 have G:=Go.one (s:=s) (m:=⟨sv p mJ b e (a+k) ⟨u,k⟩ st f w ut,o⟩) (a:=a+k) (by omega) hle hok (show mJ≠9 by omega) (show a+k<1000000000 by omega)
 have hby:Dw ⟨sv p mJ b e (a+k) ⟨u,k⟩ st f w ut,o⟩ (bt s (a+k))=B3 ⟨sv p mJ b e (a+k+1) ⟨u,k⟩ st f w ut,o⟩ (bt s (a+k)) (a+k):=by
  rw[Ams (show mJ≠6 by omega) (show mJ≠7 by omega) (by show¬0<Bw (sv p mJ b e (a+k) ⟨u,k⟩ st f w ut);omega)]
  dsimp only
  rw[Acf]
  rfl
 have hst1:G5 (sv p mJ b e (a+k+1) ⟨u,k⟩ st f w ut) (a+k)=sv p mJ b e (a+k+1) ⟨u,k⟩ (if isS mJ=true then a else st) f w ut:=by
  have:(if k=0∧(mJ=1∨mJ=2∨mJ=4) then a+k else st)=(if isS mJ=true then a else st):=by
   by_cases hs:isS mJ=true
   ·rw[if_pos hs]
    by_cases hk0:k=0
    ·rw[if_pos ⟨hk0,Arg.1 hs⟩];omega
    ·rw[if_neg (fun h=>hk0 h.1)];exact hst hs (by omega)
   ·rw[if_neg hs,if_neg (fun h=>hs (Arg.2 h.2))]
  unfold G5 sv
  dsimp only
  rw[this]
 rw[hby] at G
 unfold B3 at G
 rw[hst1,show (Mac.mk (sv p mJ b e (a+k+1) ⟨u,k⟩ st f w ut) o).d.sK=⟨u,k⟩ from rfl] at G
 obtain ⟨hs1,hs2⟩:=Amt hsc hk hb
 refine⟨if isS mJ=true then a else st,fun h=>if_pos h,fun h=>if_neg (by simp[h]),fun h9=>?_,fun h9 hlo=>?_,fun h9 hhi=>?_⟩
 ·rw[hs1 h9,if_pos rfl] at G
  exact Ends.of_fail G Q27
 ·rw[hs2 h9,if_pos hlo,if_neg (show¬(1:Int)=2 by decide),if_neg (show¬(1:Int)=0 by decide)] at G
  exact G
 ·rw[hs2 h9,if_neg hhi,if_neg (show¬(0:Int)=2 by decide),if_pos rfl] at G
  unfold Wy at G
  constructor
  ·intro hx
   have:((Mac.mk (sv p mJ b e (a+k+1) ⟨u,k⟩ st f w ut) o).d.mJ≠1∧D2 (Mac.mk (sv p mJ b e (a+k+1) ⟨u,k⟩ st f w ut) o).d=0)∨((Mac.mk (sv p mJ b e (a+k+1) ⟨u,k⟩ st f w ut) o).d.mJ=8∧(Mac.mk (sv p mJ b e (a+k+1) ⟨u,k⟩ st f w ut) o).d.wK=0):=by
    by_cases h1:mJ=1
    ·have:=(h.one h1).2
     unfold maxI at this
     omega
    ·obtain ⟨base,mK,E,rfl,he,hne⟩:=h.lim h1
     by_cases h8:mJ=8
     ·right
      refine⟨h8,?_⟩
      show Gp mJ e (a+k+1)=0
      unfold Gp;rw[if_pos (by omega)];omega
     ·left
      refine⟨h1,?_⟩
      show D2 (sv p mJ _ e (a+k+1) ⟨u,k⟩ st f w ut)=0
      rw[Wv.1]
      have:=hne h8
      omega
   rw[if_pos this] at G
   have he:e=a+k+1:=by omega
   have G2:Ends s (fed s ⟨sv p mJ b e (a+k) ⟨u,k⟩ st f w ut,o⟩ (a+k)) o 9 (a+k+1):=Ends.of_fail G (by decide)
   rw[←he] at G2
   exact G2
  ·intro hx
   have: ¬(((Mac.mk (sv p mJ b e (a+k+1) ⟨u,k⟩ st f w ut) o).d.mJ≠1∧D2 (Mac.mk (sv p mJ b e (a+k+1) ⟨u,k⟩ st f w ut) o).d=0)∨((Mac.mk (sv p mJ b e (a+k+1) ⟨u,k⟩ st f w ut) o).d.mJ=8∧(Mac.mk (sv p mJ b e (a+k+1) ⟨u,k⟩ st f w ut) o).d.wK=0)):=by
    rintro (⟨h1,h2⟩|⟨h1,h2⟩)
    ·obtain ⟨base,mK,E,rfl,he,hne⟩:=h.lim h1
     have h2:D2 (sv p mJ (some (base,mK,E)) e (a+k+1) ⟨u,k⟩ st f w ut)=0:=h2
     rw[Wv.1] at h2
     omega
    ·have h1:mJ=8:=h1
     have h2:Gp mJ e (a+k+1)=0:=h2
     unfold Gp at h2
     rw[if_pos (by omega)] at h2
     omega
   rw[if_neg this] at G
   exact G
theorem Ags (s:List UInt8) (a e:Int) (f:Nat) (k u:Int):vwA s a e (f+1) k u=if e≤a+k then (0,e,9)
  else if (s.length:Int)≤a+k then (0,(s.length:Int),10)
  else if k=9∧1<((s.getD (a+k).toNat 0).toNat:Int) then (0,a+k,1)
  else if ((s.getD (a+k).toNat 0).toNat:Int)<128 then (u+((s.getD (a+k).toNat 0).toNat:Int) % 128*2 ^ (7*k).toNat,a+k+1,0)
  else vwA s a e f (k+1) (u+((s.getD (a+k).toNat 0).toNat:Int) % 128*2 ^ (7*k).toNat):=rfl
def At8 (s:List UInt8) (m:Mac) (x:Int) (p:Pln) (mJ:Int) (b:Option (List Lev×Int×Int)) (e st0 a:Int) (f:Fld) (w:Int) (ut:Utf) (o:List Ev) (r:Int×Int×Int):Prop:=
 (r.2.2=0→∃st',(isS mJ=true→st'=a)∧(isS mJ=false→st'=st0)∧Go s m x (Aib mJ ⟨sv p mJ b e r.2.1 scn0 st' f w ut,o⟩ r.1) r.2.1)∧(r.2.2≠0→Ends s (fed s m x) o r.2.2 r.2.1)
theorem Apb {s:List UInt8} {p:Pln} {mJ:Int} {b:Option (List Lev×Int×Int)} {e:Int} {f:Fld} (h:Sc s mJ b e f) {w:Int} {ut:Utf} {o:List Ev} {a:Int} (ha:0≤a):
  ∀(n:Nat) (k u st:Int),0≤k→k+(n:Int)=9→a+k<e→a+k≤(s.length:Int)→(mJ=1→k=0→a<(s.length:Int))→(isS mJ=true→0<k→st=a)→Ce (sv p mJ b e (a+k) ⟨u,k⟩ st f w ut)=true→
   At8 s ⟨sv p mJ b e (a+k) ⟨u,k⟩ st f w ut,o⟩ (a+k) p mJ b e st a f w ut o (vwA s a e (n+1) k u):=by
 intro n
 induction n with
 |zero=>
  intro k u st hk hn hlt hle h1 hst hok
  have hm:=h.m
  rw[Ags,if_neg (by omega)]
  by_cases h2:(s.length:Int)≤a+k
  ·rw[if_pos h2]
   refine⟨fun h=>by simp at h,fun _=>Ends.cut (m:=⟨sv p mJ b e (a+k) ⟨u,k⟩ st f w ut,o⟩) hok (show mJ≠9 by omega) ?_ (show a+k=(s.length:Int) by omega) h2 rfl⟩
   rintro ⟨h3,h4⟩
   have:=h1 h3 h4
   have h4:k=0:=h4
   omega
  ·rw[if_neg h2]
   obtain ⟨st',hs1,hs2,hs3,hs4,hs5⟩:=Agr (o:=o) h ha hk (by omega) hlt (by omega) hst hok
   have hbt:((s.getD (a+k).toNat 0).toNat:Int)=bt s (a+k):=rfl
   rw[hbt]
   by_cases h9:k=9∧1<bt s (a+k)
   ·rw[if_pos h9]
    exact⟨fun h=>by simp at h,fun _=>hs3 h9⟩
   ·rw[if_neg h9,if_pos (by omega)]
    exact⟨fun _=>⟨st',hs1,hs2,hs4 h9 Q2⟩,fun h=>absurd rfl h⟩
 |succ n ih=>
  intro k u st hk hn hlt hle h1 hst hok
  have hm:=h.m
  rw[Ags,if_neg (by omega)]
  by_cases h2:(s.length:Int)≤a+k
  ·rw[if_pos h2]
   refine⟨fun h=>by simp at h,fun _=>Ends.cut (m:=⟨sv p mJ b e (a+k) ⟨u,k⟩ st f w ut,o⟩) hok (show mJ≠9 by omega) ?_ (show a+k=(s.length:Int) by omega) h2 rfl⟩
   rintro ⟨h3,h4⟩
   have:=h1 h3 h4
   have h4:k=0:=h4
   omega
  ·rw[if_neg h2]
   obtain ⟨st',hs1,hs2,hs3,hs4,hs5⟩:=Agr (o:=o) h ha hk (by omega) hlt (by omega) hst hok
   have hbt:((s.getD (a+k).toNat 0).toNat:Int)=bt s (a+k):=rfl
   rw[hbt]
   by_cases h9:k=9∧1<bt s (a+k)
   ·rw[if_pos h9]
    exact⟨fun h=>by simp at h,fun _=>hs3 h9⟩
   ·rw[if_neg h9]
    by_cases hlo:bt s (a+k)<128
    ·rw[if_pos hlo]
     exact⟨fun _=>⟨st',hs1,hs2,hs4 h9 hlo⟩,fun h=>absurd rfl h⟩
    ·rw[if_neg hlo]
     obtain ⟨h5,h6⟩:=hs5 h9 hlo
     by_cases he:e≤a+k+1
     ·rw[Ags,if_pos (by omega)]
      exact⟨fun h=>by simp at h,fun _=>h5 he⟩
     ·have G:=h6 (by omega)
      have I:=ih (k+1) (u+bt s (a+k) % 128*2 ^ (7*k).toNat) st' (by omega) (by omega) (by omega) (by omega) (fun _ hk0=>by omega) (fun hi _=>hs1 hi) (by rw[show a+(k+1)=a+k+1 by omega];exact G.2)
      rw[show a+(k+1)=a+k+1 by omega] at I
      refine⟨fun h=>?_,fun h=>(I.2 h).go G⟩
      obtain ⟨st2,g1,g2,g3⟩:=I.1 h
      exact⟨st2,g1,fun hf=>(g2 hf).trans (hs2 hf),G.trans g3⟩
theorem Acg {s:List UInt8} {p:Pln} {mJ:Int} {b:Option (List Lev×Int×Int)} {e:Int} {f:Fld} (h:Sc s mJ b e f) {w:Int} {ut:Utf} {o:List Ev} {a st:Int} (ha:0≤a) (hl:a≤(s.length:Int)) (he:a<e) (h1:mJ=1→a<(s.length:Int)) (hok:Ce (sv p mJ b e a scn0 st f w ut)=true):
  At8 s ⟨sv p mJ b e a scn0 st f w ut,o⟩ a p mJ b e st a f w ut o (Ai s a e):=by
 have:=Apb (o:=o) h ha 9 0 0 st (by omega) (by omega) (by omega) (by omega) (fun hm _=>h1 hm) (fun _ hk=>by omega) (by rw[Int.add_zero];exact hok)
 rw[Int.add_zero] at this
 unfold Ai
 rw[if_pos (by simp only[Ak,Bool.and_eq_true,decide_eq_true_eq];exact⟨ha,hl⟩)]
 exact this
/-! ### Values -/
theorem Apc {u b:Int} {k:Nat} (hk:k≤7) (hb:0≤b∧b≤255) (hu:0≤u) (hu2:u<2 ^ (8*k)):B4 ⟨u,(k:Int)⟩ b=⟨u+b*2 ^ (8*k),(k:Int)+1⟩:=by
 have h:=Asb (c:=b) (k:=k) hk hb.1 hb.2
 have hw:Ak (k:Int) 0 7=true:=by simp only[Ak,Bool.and_eq_true,decide_eq_true_eq];omega
 have hwb:Ak b 0 255=true:=by simp only[Ak,Bool.and_eq_true,decide_eq_true_eq];exact hb
 unfold B4
 dsimp only
 rw[if_pos ⟨hw,hwb⟩,show min (Int.toNat (8*(k:Int))) 64=8*k by omega,IntKind.wrap_u64,IntKind.wrap_u64,Int.emod_eq_of_lt h.1 (by omega),Int.emod_eq_of_lt (by omega) (by omega)]
def V3 (mJ:Int) (m:Mac) (W rest U:Int):Mac:=if mJ=8∧0<rest∧rest<W then A3 (Bv m U) 9 m.d.aJ else Ae (Bv m U)
theorem Ari {s:List UInt8} {p:Pln} {mJ:Int} {base:List Lev} {mK E e:Int} {f:Fld} {w:Int} {ut:Utf} {o:List Ev} {a W st:Int} (hm:mJ=5∧Aq w=W∨mJ=8∧Aq (Be f.kind)=W) (hW0:0<W) (ha:0≤a) (hlen:s.length≤4000):
  ∀(n k:Nat),(k:Int)+(n:Int)+1=W→a+k≤(s.length:Int)→Ce (sv p mJ (some (base,mK,E)) e (a+k) ⟨(Cv ((s.drop a.toNat).take k):Int),k⟩ st f w ut)=true→
   (a+W≤(s.length:Int)→Go s ⟨sv p mJ (some (base,mK,E)) e (a+k) ⟨(Cv ((s.drop a.toNat).take k):Int),k⟩ st f w ut,o⟩ (a+k) (V3 mJ ⟨sv p mJ (some (base,mK,E)) e (a+W) scn0 st f w ut,o⟩ W (e-(a+W)) (Cv ((s.drop a.toNat).take W.toNat):Int)) (a+W))∧
   ((s.length:Int)<a+W→Ends s (fed s ⟨sv p mJ (some (base,mK,E)) e (a+k) ⟨(Cv ((s.drop a.toNat).take k):Int),k⟩ st f w ut,o⟩ (a+k)) o 10 (s.length:Int)):=by
 have hW:W=4∨W=8:=by
  rcases hm with h|h
  ·have:=H6 w;omega
  ·have:=H6 (Be f.kind);omega
 have hwd: ∀ {x:Int} {sc:Scn},Bw (sv p mJ (some (base,mK,E)) e x sc st f w ut)=W:=by
  intro x sc
  unfold Bw sv
  dsimp only
  rcases hm with h|h
  ·rw[if_pos h.1];exact h.2
  ·rw[if_neg (by omega),if_pos h.1];exact h.2
 intro n
 induction n with
 |zero=>?_
 |succ n ih=>?_
 all_goals
  intro k hn hle hok
  by_cases h2:(s.length:Int)≤a+k
  ·refine⟨fun h=>by omega,fun _=>Ends.cut (m:=⟨sv p mJ (some (base,mK,E)) e (a+k) ⟨(Cv ((s.drop a.toNat).take k):Int),k⟩ st f w ut,o⟩) hok (show mJ≠9 by omega) (fun h=>?_) (show a+(k:Int)=(s.length:Int) by omega) h2 rfl⟩
   have h1:mJ=1:=h.1
   omega
  have hx:s[a.toNat+k]? =some s[a.toNat+k]:=List.getElem?_eq_getElem (by omega)
  have hbt:bt s (a+k)=(s[a.toNat+k].toNat:Int):=by
   unfold bt
   rw[List.getD_eq_getElem?_getD,show (a+(k:Int)).toNat=a.toNat+k by omega,hx];rfl
  have hb:=Atj s (a+k)
  have hgl:=Vg ((s.drop a.toNat).take k)
  have hll:((s.drop a.toNat).take k).length=k:=by rw[List.length_take,List.length_drop];omega
  rw[hll] at hgl
  have hgl':((Cv ((s.drop a.toNat).take k):Nat):Int)<2 ^ (8*k):=by exact_mod_cast hgl
  have hnx:((Cv ((s.drop a.toNat).take (k+1)):Nat):Int)=(Cv ((s.drop a.toNat).take k):Int)+bt s (a+k)*2 ^ (8*k):=by
   rw[Ajr hx,Wi,hll,hbt]
   push_cast;rfl
  have G:=Go.one (s:=s) (m:=⟨sv p mJ (some (base,mK,E)) e (a+k) ⟨(Cv ((s.drop a.toNat).take k):Int),k⟩ st f w ut,o⟩) (a:=a+k) (by omega) (by omega) hok (show mJ≠9 by omega) (show a+(k:Int)<1000000000 by omega)
  have hby:Dw ⟨sv p mJ (some (base,mK,E)) e (a+k) ⟨(Cv ((s.drop a.toNat).take k):Int),k⟩ st f w ut,o⟩ (bt s (a+k))=D8 ⟨sv p mJ (some (base,mK,E)) e (a+k+1) ⟨(Cv ((s.drop a.toNat).take k):Int),k⟩ st f w ut,o⟩ (bt s (a+k)):=by
   rw[Amr (show mJ≠6 by omega) (show mJ≠7 by omega) (by show 0<Bw (sv p mJ (some (base,mK,E)) e (a+k) ⟨(Cv ((s.drop a.toNat).take k):Int),k⟩ st f w ut);rw[hwd];exact hW0)]
   dsimp only
   rw[Acf]
  rw[hby] at G
  unfold D8 at G
  rw[show (Mac.mk (sv p mJ (some (base,mK,E)) e (a+k+1) ⟨(Cv ((s.drop a.toNat).take k):Int),k⟩ st f w ut) o).d.sK=⟨(Cv ((s.drop a.toNat).take k):Int),(k:Int)⟩ from rfl,Apc (by omega) hb (by omega) hgl',hwd,←hnx] at G
  dsimp only at G
 ·rw[if_neg (by omega)] at G
  have hWk:W=(k:Int)+1:=by omega
  refine⟨fun _=>?_,fun h=>by omega⟩
  rw[show W.toNat=k+1 by omega,show a+W=a+(k:Int)+1 by omega]
  unfold V3
  by_cases hc:mJ=8∧0<e-(a+(k:Int)+1)∧e-(a+(k:Int)+1)<W
  ·rw[if_pos hc]
   rw[if_pos (by
    refine⟨hc.1,?_⟩
    show 0<Gp mJ e (a+k+1)∧Gp mJ e (a+k+1)<W
    unfold Gp;rw[if_pos (by omega)];exact hc.2)] at G
   exact G
  ·rw[if_neg hc]
   rw[if_neg (by
    rintro ⟨h8,h⟩
    have h:0<Gp mJ e (a+k+1)∧Gp mJ e (a+k+1)<W:=h
    have h8:mJ=8:=h8
    unfold Gp at h;rw[if_pos (Or.inr (Or.inr h8))] at h
    exact hc ⟨h8,h⟩)] at G
   exact G
 ·rw[if_pos (by omega)] at G
  have G:Go s ⟨sv p mJ (some (base,mK,E)) e (a+k) ⟨(Cv ((s.drop a.toNat).take k):Int),k⟩ st f w ut,o⟩ (a+k) ⟨sv p mJ (some (base,mK,E)) e (a+((k+1:Nat):Int)) ⟨(Cv ((s.drop a.toNat).take (k+1)):Int),((k+1:Nat):Int)⟩ st f w ut,o⟩ (a+((k+1:Nat):Int)):=by
   rw[show a+((k+1:Nat):Int)=a+(k:Int)+1 by omega,show ((k+1:Nat):Int)=(k:Int)+1 by omega]
   exact G
  have I:=ih (k+1) (by omega) (by omega) G.2
  exact⟨fun h=>G.trans (I.1 h),fun h=>(I.2 h).go G⟩
theorem Amu {r:Mr} {w e:Int} (h:Jz r w e=true):M7 r w e=(Cv ((r.s.drop r.aJ.toNat).take w.toNat):Int):=by
 unfold M7;rw[if_pos h]
 simp only[Jz,Bool.and_eq_true] at h
 unfold Ng;rw[if_pos h.2]
theorem Amv {s:List UInt8} {p:Pln} {mJ:Int} {base:List Lev} {mK E e:Int} {f:Fld} {w:Int} {ut:Utf} {o:List Ev} {a st wJ:Int} {r:Mr} (hm:mJ=3∧Aq wJ=0∨mJ=5∧0<Aq wJ∧wJ=w∨mJ=8∧wJ=Be f.kind) (hE:e≤E) (h8:mJ≠8→e=E) (hlen:s.length≤4000) (hs:r.s=s) (hra:r.aJ=a) (ha:0≤a) (hl:a≤(s.length:Int)) (hr:a+max (Aq wJ) 1≤e) (hok:Ce (sv p mJ (some (base,mK,E)) e a scn0 st f w ut)=true):
  (∃y,F6 r wJ e=true∧F2 r wJ e=Gy r y∧Go s ⟨sv p mJ (some (base,mK,E)) e a scn0 st f w ut,o⟩ a (V3 mJ ⟨sv p mJ (some (base,mK,E)) e y scn0 st f w ut,o⟩ (Aq wJ) (e-y) (Hv r wJ e)) y)∨
  (∃c x,F6 r wJ e=false∧F2 r wJ e=Dg r c x∧Ends s (fed s ⟨sv p mJ (some (base,mK,E)) e a scn0 st f w ut,o⟩ a) o c x):=by
 subst hra
 unfold F6 F2 Hv
 by_cases hW:0<Aq wJ
 ·rw[if_pos hW,if_pos hW,if_pos hW]
  have hm':mJ=5∧Aq w=Aq wJ∨mJ=8∧Aq (Be f.kind)=Aq wJ:=by
   rcases hm with h|h|h
   ·omega
   ·exact .inl ⟨h.1,by rw[h.2.2]⟩
   ·exact .inr ⟨h.1,by rw[h.2]⟩
  have hcs:=H6 wJ
  have F:=Ari (s:=s) (p:=p) (base:=base) (mK:=mK) (E:=E) (e:=e) (ut:=ut) (o:=o) (st:=st) hm' hW ha hlen ((Aq wJ).toNat-1) 0 (by omega) (by omega) (by rw[show r.aJ+((0:Nat):Int)=r.aJ by omega];exact hok)
  rw[show r.aJ+((0:Nat):Int)=r.aJ by omega] at F
  have hwk:Ti (Aq wJ)=true:=by rcases hcs with h|h|h<;>rw[h] at hW ⊢ <;>first|(exfalso;omega)|decide
  by_cases hx:r.aJ+Aq wJ≤(s.length:Int)
  ·left
   have hfx:Em r.s r.aJ (Aq wJ)=true:=by
    simp only[Em,hwk,Bool.true_and,Ak,Bool.and_eq_true,decide_eq_true_eq]
    rw[hs];omega
   have hok2:Jz r (Aq wJ) e=true:=by
    unfold Jz;rw[hfx,decide_eq_true (by omega)];rfl
   refine⟨r.aJ+Aq wJ,hok2,?_,?_⟩
   ·unfold Jk;rw[if_neg (by omega),if_pos hfx]
   ·rw[Amu hok2,hs];exact F.1 hx
  ·right
   have hfx:Em r.s r.aJ (Aq wJ)=false:=by
    cases h:Em r.s r.aJ (Aq wJ) with
    |false=>rfl
    |true=>have:=N1 h;rw[hs] at this;omega
   refine⟨10,(s.length:Int),by unfold Jz;rw[hfx,Bool.and_false],?_,F.2 Q2⟩
   unfold Jk;rw[if_neg (by omega),hfx,if_neg (by simp),hs]
 ·have hcs:=Dv wJ
  have hW0:Aq wJ=0:=by omega
  rw[if_neg hW,if_neg hW,if_neg hW]
  have hsc:Sc s mJ (some (base,mK,E)) e f:=⟨by omega,fun h=>by omega,fun _=>⟨base,mK,E,rfl,hE,h8⟩,fun h=>by rcases hm with h1|h1|h1<;>first|(exfalso;omega)|(rw[←h1.2];exact hW0),hlen⟩
  have V:=Acg (o:=o) hsc ha hl (by omega) (fun h=>by omega) hok
  have hns:isS mJ=false:=by
   cases h:isS mJ with
   |false=>rfl
   |true=>have:=Arg.1 h;omega
  unfold B6 A5 Bd
  unfold B6
  rw[hs]
  by_cases hc:(Ai s r.aJ e).2.2=0
  ·left
   rw[decide_eq_true hc]
   obtain ⟨st',-,h2,h3⟩:=V.1 hc
   rw[h2 hns] at h3
   refine⟨(Ai s r.aJ e).2.1,rfl,rfl,?_⟩
   unfold Aib at h3
   rw[if_neg (by omega),if_neg (by omega),if_neg (by omega)] at h3
   unfold V3
   rw[if_neg (by omega)]
   exact h3
  ·right
   rw[decide_eq_false hc]
   exact⟨_,_,rfl,rfl,V.2 hc⟩
/-! ### Texts -/
def Fm (t:List UInt8):List Ev:=t.map fun b=>Ei [b]
def Bm (l:List Ev):List Ev:=l.flatMap fun e=>if e.kind=4 then Fm e.text else [e]
theorem Aa8 (a b:List Ev):Bm (a++b)=Bm a++Bm b:=List.flatMap_append
theorem Ek {l:List Ev} {e:Ev} (h:e.kind≠4):Bm (l++[e])=Bm l++[e]:=by
 rw[Aa8];simp[Bm,h]
theorem Zk {l:List Ev} {t:List UInt8} :Bm (l++[Ei t])=Bm l++Fm t:=by
 rw[Aa8];simp[Bm,Ei]
theorem Amw {d:Dcd} {o:List Ev} (h6: ¬(d.mJ=6∧d.wK<1)) (h7: ¬((d.mJ=7∨(d.mJ=8∧d.sK.hJ=0))∧d.wK<1)) (h2: ¬(d.mJ=2∧d.sK.hJ=0∧0<d.sJ.length∧D2 d=0)):A1 ⟨d,o⟩=none:=by
 unfold A1;dsimp only;rw[if_neg h6,if_neg h7,if_neg h2]
theorem Ad0 {d:Dcd} {o:List Ev} (h6:d.mJ≠6) (h:(d.mJ=7∨(d.mJ=8∧d.sK.hJ=0))∧d.wK<1):A1 ⟨d,o⟩=some ⟨⟨d.pJ,2,d.sJ,d.sK,d.sX,d.aJ,d.field,d.wJ,0,d.uJ,d.eJ⟩,o⟩:=by
 unfold A1;dsimp only;rw[if_neg (fun x=>h6 x.1),if_pos h]
theorem Afe {d:Dcd} {o:List Ev} (h:d.mJ=6∧d.wK<1) (hu: ¬0<d.uJ.wK):A1 ⟨d,o⟩=some ⟨⟨d.pJ,2,d.sJ,d.sK,d.sX,d.aJ,d.field,d.wJ,0,⟨0,0,0⟩,d.eJ⟩,o++[Rr]⟩:=by
 unfold A1;dsimp only;rw[if_pos h,if_neg hu]
theorem Zm {d:Dcd} {o:List Ev} (h:(d.mJ=6∨d.mJ=7∨d.mJ=8)∧1≤d.wK):Ae ⟨d,o⟩=⟨d,o⟩:=by
 apply Bz
 unfold A1
 dsimp only
 rw[if_neg (by omega),if_neg (by omega),if_neg (by omega)]
theorem V4 {p:Pln} {mJ:Int} {b:Option (List Lev×Int×Int)} {e x:Int} {sc:Scn} {st:Int} {f:Fld} {w:Int} {u:Utf} (h:mJ=6∨mJ=7∨mJ=8):(sv p mJ b e x sc st f w u).wK=e-x:=by
 show Gp mJ e x=e-x
 unfold Gp;rw[if_pos h]
theorem Arj {s:List UInt8} {x:Nat} {c:UInt8} (h:s[x]? =some c):Wx (bt s (x:Int))=Ei [c]:=by
 unfold bt
 rw[Int.toNat_natCast,List.getD_eq_getElem?_getD,h]
 simp[Wx,Ei,Bj]
theorem Apd {s:List UInt8} {p:Pln} {b:Option (List Lev×Int×Int)} {e:Int} {f:Fld} {w st a0:Int} (hlen:s.length≤4000):
  ∀(n i:Nat) (u:Utf) (o:List Ev),a0+i+n=e→0≤a0→a0+i≤(s.length:Int)→Ce (Ae ⟨sv p 6 b e (a0+i) scn0 st f w u,o⟩).d=true→
   (f.kind=6→∀j,(E2 u ((s.drop (a0.toNat+i)).take n) i).2=some j→Ends s (fed s (Ae ⟨sv p 6 b e (a0+i) scn0 st f w u,o⟩) (a0+i)) (o++Fm (((s.drop (a0.toNat+i)).take n).take (j-i))) 5 (a0+j))∧
   ((f.kind=6→(E2 u ((s.drop (a0.toNat+i)).take n) i).2=none)→(s.length:Int)<e→Ends s (fed s (Ae ⟨sv p 6 b e (a0+i) scn0 st f w u,o⟩) (a0+i)) (o++Fm ((s.drop (a0.toNat+i)).take n)) 10 (s.length:Int))∧
   ((f.kind=6→(E2 u ((s.drop (a0.toNat+i)).take n) i).2=none)→e≤(s.length:Int)→Go s (Ae ⟨sv p 6 b e (a0+i) scn0 st f w u,o⟩) (a0+i) (Ae ⟨sv p 6 b e e scn0 st f w (if f.kind=6 then (E2 u ((s.drop (a0.toNat+i)).take n) i).1 else u),o++Fm ((s.drop (a0.toNat+i)).take n)⟩) e):=by
 intro n
 induction n with
 |zero=>
  intro i u o he h0 hl hok
  rw[List.take_zero]
  refine⟨fun _ j hj=>by simp[E2] at hj,fun _ h=>by omega,fun _ _=>?_⟩
  have hu:(if f.kind=6 then (E2 u [] i).1 else u)=u:=by unfold E2;simp
  rw[hu,show Fm []=[] from rfl,List.append_nil,show a0+(i:Int)=e by omega]
  rw[show a0+(i:Int)=e by omega] at hok
  exact⟨rfl,hok⟩
 |succ n ih=>
  intro i u o he h0 hl hok
  have hon:Ae ⟨sv p 6 b e (a0+i) scn0 st f w u,o⟩=⟨sv p 6 b e (a0+i) scn0 st f w u,o⟩:=Zm ⟨.inl rfl,by rw[V4 (.inl rfl)];omega⟩
  rw[hon] at hok ⊢
  by_cases h2:(s.length:Int)≤a0+i
  ·have hnil:s.drop (a0.toNat+i)=[]:=List.drop_eq_nil_of_le (by omega)
   rw[hnil,List.take_nil]
   refine⟨fun _ j hj=>by simp[E2] at hj,fun _ _=>?_,fun _ h=>by omega⟩
   have:=Ends.cut (s:=s) (m:=⟨sv p 6 b e (a0+i) scn0 st f w u,o⟩) (a:=a0+i) (x:=(s.length:Int)) hok (show (6:Int)≠9 by decide) (fun h=>absurd h.1 (show (6:Int)≠1 by decide)) (show a0+(i:Int)=(s.length:Int) by omega) h2 rfl
   rw[show Fm []=[] from rfl,List.append_nil];exact this
  ·have hx:s[a0.toNat+i]? =some s[a0.toNat+i]:=List.getElem?_eq_getElem (by omega)
   have hd:(s.drop (a0.toNat+i)).take (n+1)=s[a0.toNat+i]::(s.drop (a0.toNat+(i+1))).take n:=by rw[C3 hx];rfl
   have hb:=Atj s (a0+i)
   have hbt:bt s (a0+i)=(s[a0.toNat+i].toNat:Int):=by
    unfold bt
    rw[List.getD_eq_getElem?_getD,show (a0+(i:Int)).toNat=a0.toNat+i by omega,hx];rfl
   have hpt:Wx (bt s (a0+i))=Ei [s[a0.toNat+i]]:=by
    rw[show a0+(i:Int)=((a0.toNat+i:Nat):Int) by omega];exact Arj hx
   generalize s[a0.toNat+i]=c at *
   rw[hd]
   have G:=Go.one (s:=s) (m:=⟨sv p 6 b e (a0+i) scn0 st f w u,o⟩) (a:=a0+i) (by omega) (by omega) hok (show (6:Int)≠9 by decide) (show a0+(i:Int)<1000000000 by omega)
   have hby:Dw ⟨sv p 6 b e (a0+i) scn0 st f w u,o⟩ (bt s (a0+i))=Es ⟨sv p 6 b e (a0+i+1) scn0 st f w u,o⟩ (bt s (a0+i)):=by
    rw[Are rfl]
    dsimp only
    rw[Acf]
   rw[hby] at G
   unfold Es at G
   by_cases h6:f.kind=6
   ·rw[if_pos (show (sv p 6 b e (a0+i+1) scn0 st f w u).field.kind=6 from h6),show (Mac.mk (sv p 6 b e (a0+i+1) scn0 st f w u) o).d.uJ=u from rfl] at G
    unfold E2
    rw[←hbt]
    cases hu:B8 u (bt s (a0+i)) with
    |none=>
     rw[hu] at G
     dsimp only at G ⊢
     refine⟨fun _ j hj=>?_,fun h=>by simp[h6] at h,fun h=>by simp[h6] at h⟩
     have hj:i=j:=Option.some.inj hj
     subst hj
     rw[Nat.sub_self,List.take_zero,show Fm []=[] from rfl,List.append_nil]
     have G2:Go s ⟨sv p 6 b e (a0+i) scn0 st f w u,o⟩ (a0+i) (A3 ⟨sv p 6 b e (a0+i+1) scn0 st f w u,o⟩ 5 (a0+i)) (a0+i+1):=by
      have e1:(sv p 6 b e (a0+i+1) scn0 st f w u).aJ-1=a0+i:=by show a0+(i:Int)+1-1=a0+i;omega
      rw[e1] at G;exact G
     exact Ends.of_fail G2 Q27
    |some v=>
     rw[hu] at G
     dsimp only at G ⊢
     have G2:Go s ⟨sv p 6 b e (a0+i) scn0 st f w u,o⟩ (a0+i) (Ae ⟨sv p 6 b e (a0+((i+1:Nat):Int)) scn0 st f w v,o++[Ei [c]]⟩) (a0+((i+1:Nat):Int)):=by
      rw[show a0+((i+1:Nat):Int)=a0+(i:Int)+1 by omega,←hpt];exact G
     obtain ⟨I1,I2,I3⟩:=ih (i+1) v (o++[Ei [c]]) (by omega) h0 (by omega) G2.2
     have hap: ∀t,o++Fm (c::t)=o++[Ei [c]]++Fm t:=fun t=>by simp[Fm]
     refine⟨fun _ j hj=>?_,fun h hlt=>?_,fun h hle=>?_⟩
     ·have hjb:=Vx hj
      obtain ⟨k,hk⟩: ∃k,j-i=k+1:=⟨j-i-1,by omega⟩
      rw[hk,List.take_succ_cons,hap,show k=j-(i+1) by omega]
      exact(I1 h6 j hj).go G2
     ·rw[hap];exact(I2 h hlt).go G2
     ·rw[hap]
      have:=G2.trans (I3 h hle)
      rw[if_pos h6] at this ⊢
      exact this
   ·rw[if_neg (show¬(sv p 6 b e (a0+i+1) scn0 st f w u).field.kind=6 from h6)] at G
    have G2:Go s ⟨sv p 6 b e (a0+i) scn0 st f w u,o⟩ (a0+i) (Ae ⟨sv p 6 b e (a0+((i+1:Nat):Int)) scn0 st f w u,o++[Ei [c]]⟩) (a0+((i+1:Nat):Int)):=by
     rw[show a0+((i+1:Nat):Int)=a0+(i:Int)+1 by omega,←hpt];exact G
    obtain ⟨I1,I2,I3⟩:=ih (i+1) u (o++[Ei [c]]) (by omega) h0 (by omega) G2.2
    have hap: ∀t,o++Fm (c::t)=o++[Ei [c]]++Fm t:=fun t=>by simp[Fm]
    refine⟨fun h=>absurd h h6,fun _ hlt=>?_,fun _ hle=>?_⟩
    ·rw[hap];exact(I2 (fun h=>absurd h h6) hlt).go G2
    ·rw[hap]
     have:=G2.trans (I3 (fun h=>absurd h h6) hle)
     rw[if_neg h6] at this ⊢
     exact this
theorem Ape {s:List UInt8} {p:Pln} {b:Option (List Lev×Int×Int)} {e:Int} {f:Fld} {w st:Int} {u:Utf} {o:List Ev} (hlen:s.length≤4000):
  ∀(n:Nat) (x:Int),x+n=e→0≤x→x≤(s.length:Int)→Ce (Ae ⟨sv p 7 b e x scn0 st f w u,o⟩).d=true→
   ((s.length:Int)<e→Ends s (fed s (Ae ⟨sv p 7 b e x scn0 st f w u,o⟩) x) o 10 (s.length:Int))∧
   (e≤(s.length:Int)→Go s (Ae ⟨sv p 7 b e x scn0 st f w u,o⟩) x (Ae ⟨sv p 7 b e e scn0 st f w u,o⟩) e):=by
 intro n
 induction n with
 |zero=>
  intro x he h0 hl hok
  obtain rfl:x=e:=by omega
  exact⟨fun h=>by omega,fun _=>⟨rfl,hok⟩⟩
 |succ n ih=>
  intro x he h0 hl hok
  have hon:Ae ⟨sv p 7 b e x scn0 st f w u,o⟩=⟨sv p 7 b e x scn0 st f w u,o⟩:=Zm ⟨.inr (.inl rfl),by rw[V4 (.inr (.inl rfl))];omega⟩
  rw[hon] at hok ⊢
  by_cases h2:(s.length:Int)≤x
  ·refine⟨fun _=>?_,fun h=>by omega⟩
   exact Ends.cut (s:=s) (m:=⟨sv p 7 b e x scn0 st f w u,o⟩) (a:=x) (x:=(s.length:Int)) hok (show (7:Int)≠9 by decide) (fun h=>absurd h.1 (show (7:Int)≠1 by decide)) (show x=(s.length:Int) by omega) h2 rfl
  ·have G:=Go.one (s:=s) (m:=⟨sv p 7 b e x scn0 st f w u,o⟩) (a:=x) h0 (by omega) hok (show (7:Int)≠9 by decide) (show x<1000000000 by omega)
   have hby:Dw ⟨sv p 7 b e x scn0 st f w u,o⟩ (bt s x)=Ae ⟨sv p 7 b e (x+1) scn0 st f w u,o⟩:=by
    rw[Arf rfl]
    dsimp only
    rw[Acf]
   rw[hby] at G
   have I:=ih (x+1) (by omega) (by omega) (by omega) G.2
   exact⟨fun h=>(I.1 h).go G,fun h=>G.trans (I.2 h)⟩
def S2 (p:Pln) (base:List Lev) (mK E x st:Int) (f:Fld) (w:Int) (u:Utf) (o:List Ev):Mac:=Ae ⟨sv p 2 (some (base,mK,E)) E x scn0 st f w u,o⟩
theorem Ark {p:Pln} {base:List Lev} {mK E x st:Int} {f:Fld} {w:Int} {u:Utf} {o:List Ev} (h:x<E):S2 p base mK E x st f w u o=⟨sv p 2 (some (base,mK,E)) E x scn0 st f w u,o⟩:=by
 unfold S2
 refine Bz (Amw (fun h=>absurd h.1 (show¬(2:Int)=6 by decide)) (fun h=>?_) ?_)
 ·rcases h.1 with h|h
  ·exact absurd h (show¬(2:Int)=7 by decide)
  ·exact absurd h.1 (show¬(2:Int)=8 by decide)
 rintro ⟨-,-,-,h4⟩
 have h4:D2 (sv p 2 (some (base,mK,E)) E x scn0 st f w u)=0:=h4
 rw[Wv.1] at h4
 omega
theorem Apf {p:Pln} {base:List Lev} {mK E e st:Int} {f:Fld} {w:Int} {u:Utf} {o:List Ev} :Ae ⟨sv p 7 (some (base,mK,E)) e e scn0 st f w u,o⟩=S2 p base mK E e st f w u o:=by
 have hw:(sv p 7 (some (base,mK,E)) e e scn0 st f w u).wK=0:=by rw[V4 (.inr (.inl rfl))];omega
 exact Cd (q:=⟨sv p 2 (some (base,mK,E)) E e scn0 st f w u,o⟩) (Ad0 (show¬(7:Int)=6 by decide) ⟨.inl rfl,by omega⟩)
theorem Apg {p:Pln} {base:List Lev} {mK E e st:Int} {f:Fld} {w:Int} {u:Utf} {o:List Ev} :Ae ⟨sv p 8 (some (base,mK,E)) e e scn0 st f w u,o⟩=S2 p base mK E e st f w u o:=by
 have hw:(sv p 8 (some (base,mK,E)) e e scn0 st f w u).wK=0:=by rw[V4 (.inr (.inr rfl))];omega
 exact Cd (q:=⟨sv p 2 (some (base,mK,E)) E e scn0 st f w u,o⟩) (Ad0 (show¬(8:Int)=6 by decide) ⟨.inr ⟨rfl,rfl⟩,by omega⟩)
theorem Aph {p:Pln} {base:List Lev} {mK E e st:Int} {f:Fld} {w:Int} {u:Utf} {o:List Ev} :Ae ⟨sv p 6 (some (base,mK,E)) e e scn0 st f w u,o⟩=if 0<u.wK then A3 ⟨sv p 6 (some (base,mK,E)) e e scn0 st f w u,o⟩ 5 e else S2 p base mK E e st f w utf0 (o++[Rr]):=by
 have hw:(sv p 6 (some (base,mK,E)) e e scn0 st f w u).wK=0:=by rw[V4 (.inl rfl)];omega
 by_cases h:0<u.wK
 ·rw[if_pos h]
  exact Wo rfl (by show (sv p 6 (some (base,mK,E)) e e scn0 st f w u).wK<1;omega) h
 ·rw[if_neg h]
  exact Cd (q:=⟨sv p 2 (some (base,mK,E)) E e scn0 st f w utf0,o++[Rr]⟩) (Afe ⟨rfl,by omega⟩ h)
structure Sim (s:List UInt8) (m:Mac) (a:Int) (r:Mr) (ok:Mr→Mac→Prop):Prop where
 good:r.fail.kind=0→∃m',Go s m a m' r.aJ∧ok r m'
 bad:r.fail.kind≠0→∃c x,r.fail=As c x∧Ends s (fed s m a) (Bm r.oJ) c x
theorem Sim.failed {s:List UInt8} {m:Mac} {a c x:Int} {r:Mr} {ok:Mr→Mac→Prop} (h:Ends s (fed s m a) (Bm r.oJ) c x):Sim s m a (Dg r c x) ok:=⟨fun h=>(Cp _ _ _ h).elim,fun _=>⟨c,x,rfl,h⟩⟩
theorem Sim.go {s:List UInt8} {m m':Mac} {a a':Int} {r:Mr} {ok:Mr→Mac→Prop} (g:Go s m a m' a') (h:Sim s m' a' r ok):Sim s m a r ok:=by
 refine⟨fun hk=>?_,fun hk=>?_⟩
 ·obtain ⟨m2,g2,h2⟩:=h.good hk;exact⟨m2,g.trans g2,h2⟩
 ·obtain ⟨c,x,h1,h2⟩:=h.bad hk;exact⟨c,x,h1,h2.go g⟩
theorem Sim.ok {s:List UInt8} {m m':Mac} {a:Int} {r:Mr} {ok:Mr→Mac→Prop} (hk:r.fail.kind=0) (g:Go s m a m' r.aJ) (h:ok r m'):Sim s m a r ok:=⟨fun _=>⟨m',g,h⟩,fun h=>absurd hk h⟩
def Ok2 (p:Pln) (base:List Lev) (mK E:Int) (r:Mr) (m:Mac):Prop:= ∃st f w u,m=S2 p base mK E r.aJ st f w u (Bm r.oJ)
structure Rc (s:List UInt8) (p:Pln) (r:Mr):Prop where
 txt:r.s=s
 pJ:r.pJ=p
 lo:0≤r.aJ
 le:r.aJ≤(s.length:Int)
 ok:r.fail.kind=0
theorem Rc.aJ {s:List UInt8} {p:Pln} {r:Mr} (h:Rc s p r) {y:Int} (h1:0≤y) (h2:y≤(s.length:Int)):Rc s p (Gy r y):=⟨h.txt,h.pJ,h1,h2,h.ok⟩
theorem Rc.tell {s:List UInt8} {p:Pln} {r:Mr} (h:Rc s p r) (e:Ev):Rc s p (Am r e):=⟨h.txt,h.pJ,h.lo,h.le,h.ok⟩
theorem Rc.next {s:List UInt8} {p:Pln} {r r':Mr} (h:Rc s p r) (g:Adv1 r r') (hk:r'.fail.kind=0):Rc s p r':=by
 have:=g.1.aJ hk
 have h1:=h.lo
 rw[h.txt] at this
 exact⟨g.1.s.trans h.txt,g.1.pJ.trans h.pJ,by omega,this.2,hk⟩
theorem Rc.hl {s:List UInt8} {p:Pln} {r:Mr} (h:Rc s p r):r.aJ≤(r.s.length:Int):=by rw[h.txt];exact h.le
/-! ### Runs -/
theorem Ad1 {r:Mr} {f:Fld} {wJ e y:Int} (hok:F6 r wJ e=true) (hv:F2 r wJ e=Gy r y) (hf:0<f.nJ):Bx r f wJ e=Am (Gy r y) (Er f (Hv r wJ e)):=by
 unfold Bx;rw[if_pos ⟨hok,hf⟩,hv]
theorem R8 {r:Mr} {f:Fld} {wJ e:Int} (hok:F6 r wJ e=false∨¬0<f.nJ):Bx r f wJ e=F2 r wJ e:=by
 unfold Bx;rw[if_neg];rintro ⟨h1,h2⟩;rcases hok with h|h
 ·rw[h] at h1;cases h1
 ·exact h h2
theorem Zn {r:Mr} {e:Int} (h0:0≤r.aJ) (hl:r.aJ≤(r.s.length:Int)) (h:e≤r.aJ):B6 r e=false∧A5 r e=Dg r 9 e:=by
 have hv:Ai r.s r.aJ e=(0,e,9):=by
  unfold Ai
  rw[if_pos (by simp only[Ak,Bool.and_eq_true,decide_eq_true_eq];exact⟨h0,hl⟩),Ags,if_pos (by omega)]
 have hk:B6 r e=false:=by unfold B6;rw[hv];rfl
 exact⟨hk,by rw[L4 hk,hv]⟩
theorem Zo {r:Mr} {wJ e:Int} (h0:0≤r.aJ) (hl:r.aJ≤(r.s.length:Int)) (he:r.aJ≤e) (h:e-r.aJ<max (Aq wJ) 1):F6 r wJ e=false∧F2 r wJ e=Dg r 9 r.aJ:=by
 have hb:=Dv wJ
 unfold F6 F2
 by_cases hW:0<Aq wJ
 ·rw[if_pos hW,if_pos hW]
  unfold Jz Jk
  rw[decide_eq_false (by omega),if_pos (by omega)]
  exact⟨rfl,rfl⟩
 ·rw[if_neg hW,if_neg hW]
  obtain rfl:e=r.aJ:=by omega
  exact Zn h0 hl (Int.le_refl _)
def Auh (p:Pln) (base:List Lev) (mK E e:Int) (f:Fld) (w W:Int) (o:List Ev) (x:Int) (M:Mac):Prop:=
 (0<e-x∧e-x<W→∃m1,m1.oJ=o∧M=A3 m1 9 x)∧(¬(0<e-x∧e-x<W)→∃st u,M=Ae ⟨sv p 8 (some (base,mK,E)) e x scn0 st f w u,o⟩)
theorem Arm {s:List UInt8} {p:Pln} {base:List Lev} {mK E e:Int} {f:Fld} {w:Int} (hlen:s.length≤4000) (hE:e≤E) (hf0:0<f.nJ):
  ∀(n:Nat) (r:Mr) (M:Mac),Nz r≤n→Rc s p r→r.aJ≤e→Ce M.d=true→Auh p base mK E e f w (Aq (Be f.kind)) (Bm r.oJ) r.aJ M→Sim s M r.aJ (L9 r f e) (Ok2 p base mK E):=by
 have hfn:f≠fld0:=fun h=>by subst h;exact absurd hf0 (by decide)
 intro n
 induction n with
 |zero=>
  intro r M hn hR
  have h1:=hR.ok;have h2:=hR.hl
  simp only[Nz,if_pos h1] at hn;omega
 |succ n ih=>
  intro r M hn hR he hok hM
  by_cases hg:r.aJ<e
  ·have hi:=(LInv.refl (step:=fun r=>Bx r f (Be f.kind) e) (e:=e) hR.hl).go (M8 f (Be f.kind) e) hg hR.ok
   have hadv:Adv1 r (Bx r f (Be f.kind) e):=M8 f (Be f.kind) e r hR.hl hR.ok
   have hmu:Nz (Bx r f (Be f.kind) e)<Nz r:=hi.2
   have hto:=V2 (f:=f) (w:=Be f.kind) (e:=e) hR.ok hR.hl
   have hrun:L9 r f e=L9 (Bx r f (Be f.kind) e) f e:=hi.1.run.symm
   rw[hrun]
   by_cases hsh:e-r.aJ<max (Aq (Be f.kind)) 1
   ·obtain ⟨h1,h2⟩:=Zo hR.lo hR.hl he hsh
    rw[R8 (.inl h1),h2]
    have hb:=Dv (Be f.kind)
    obtain ⟨m1,ho,rfl⟩:=hM.1 ⟨by omega,by omega⟩
    unfold L9
    rw[Dy (by simp[Na,Dg,As])]
    refine Sim.failed ?_
    rw[←ho]
    exact Ends.of_fail (a':=r.aJ) ⟨rfl,hok⟩ Q27
   ·obtain ⟨st,u,rfl⟩:=hM.2 (by omega)
    have hon:Ae ⟨sv p 8 (some (base,mK,E)) e r.aJ scn0 st f w u,Bm r.oJ⟩=⟨sv p 8 (some (base,mK,E)) e r.aJ scn0 st f w u,Bm r.oJ⟩:=Zm ⟨.inr (.inr rfl),by rw[V4 (.inr (.inr rfl))];omega⟩
    rw[hon] at hok ⊢
    rcases Amv (o:=Bm r.oJ) (wJ:=Be f.kind) (.inr (.inr ⟨rfl,rfl⟩)) hE (fun h=>absurd rfl h) hlen hR.txt rfl hR.lo hR.le (by omega) hok with ⟨y,h1,h2,G⟩|⟨c,x,h1,h2,G⟩
    ·have hst:=Ad1 h1 h2 hf0
     rw[hst] at hadv hto hmu ⊢
     have hk:(Am (Gy r y) (Er f (Hv r (Be f.kind) e))).fail.kind=0:=hR.ok
     have hR2:=hR.next hadv hk
     have hye:y≤e:=hto hk
     have hval:Bv ⟨sv p 8 (some (base,mK,E)) e y scn0 st f w u,Bm r.oJ⟩ (Hv r (Be f.kind) e)=⟨sv p 8 (some (base,mK,E)) e y scn0 st f w u,Bm r.oJ++[Er f (Hv r (Be f.kind) e)]⟩:=Add rfl hfn
     have hexp:Bm (Am (Gy r y) (Er f (Hv r (Be f.kind) e))).oJ=Bm r.oJ++[Er f (Hv r (Be f.kind) e)]:=Ek (by show (2:Int)≠4;decide)
     refine Sim.go G (ih _ _ Q2 hR2 hye G.2 ?_)
     rw[hexp]
     unfold V3
     rw[hval]
     constructor
     ·intro hx
      rw[if_pos ⟨rfl,hx⟩]
      exact⟨_,rfl,rfl⟩
     ·intro hx
      rw[if_neg (fun h=>hx h.2)]
      exact⟨st,u,rfl⟩
    ·rw[R8 (.inl h1),h2]
     unfold L9
     rw[Dy (by simp[Na,Dg,As])]
     exact Sim.failed G
  ·obtain rfl:r.aJ=e:=by omega
   have hst:L9 r f r.aJ=r:=Vw (by simp[Na])
   rw[hst]
   obtain ⟨st,u,rfl⟩:=hM.2 (by omega)
   exact Sim.ok hR.ok ⟨rfl,hok⟩ ⟨st,f,w,u,Apg⟩
/-! ### A field of a message -/
theorem Amx {p:Pln} {mJ:Int} {base:List Lev} {mK E y st:Int} {f:Fld} {w:Int} {u:Utf} {o:List Ev} {U:Int} (hm:mJ=3∨mJ=5):Bv ⟨sv p mJ (some (base,mK,E)) E y scn0 st f w u,o⟩ U=⟨sv p 2 (some (base,mK,E)) E y scn0 st f w u,if f=fld0 then o else o++[Er f U]⟩:=by
 rcases hm with rfl|rfl<;>rfl
theorem Amy {s:List UInt8} {p:Pln} {base:List Lev} {mK E st:Int} {f:Fld} {mJ wJ:Int} {ut:Utf} {r:Mr} (hlen:s.length≤4000) (hR:Rc s p r) (hm:mJ=3∧Aq wJ=0∨mJ=5∧0<Aq wJ) (hF:f=fld0∨0<f.nJ) (hr:r.aJ+max (Aq wJ) 1≤E) (hok:Ce (sv p mJ (some (base,mK,E)) E r.aJ scn0 st f wJ ut)=true):
  Sim s ⟨sv p mJ (some (base,mK,E)) E r.aJ scn0 st f wJ ut,Bm r.oJ⟩ r.aJ (Bx r f wJ E) (Ok2 p base mK E):=by
 rcases Amv (o:=Bm r.oJ) (wJ:=wJ) (by rcases hm with h|h;exact .inl h;exact .inr (.inl ⟨h.1,h.2,rfl⟩)) (Int.le_refl E) (fun _=>rfl) hlen hR.txt rfl hR.lo hR.le hr hok with ⟨y,h1,h2,G⟩|⟨c,x,h1,h2,G⟩
 ·unfold V3 at G
  rw[if_neg (by omega),Amx (by omega)] at G
  rcases hF with rfl|hF
  ·rw[R8 (.inr (by decide)),h2]
   rw[if_pos rfl] at G
   exact Sim.ok hR.ok G ⟨st,fld0,wJ,ut,rfl⟩
  ·rw[Ad1 h1 h2 hF]
   rw[if_neg (fun h=>by subst h;exact absurd hF (by decide))] at G
   refine Sim.ok hR.ok G ⟨st,f,wJ,ut,?_⟩
   show _=S2 p base mK E y st f wJ ut (Bm (r.oJ++[Er f (Hv r wJ E)]))
   rw[Ek (by show (2:Int)≠4;decide)]
   rfl
 ·rw[R8 (.inl h1),h2]
  exact Sim.failed G
/-! ### Texts of a message -/
theorem Arn {s:List UInt8} {p:Pln} {base:List Lev} {mK E st:Int} {f:Fld} {w n:Int} {r:Mr} (hlen:s.length≤4000) (hR:Rc s p r) (hn:0≤n) (hok:Ce (Ae ⟨sv p 6 (some (base,mK,E)) (r.aJ+n) r.aJ scn0 st f w utf0,Bm r.oJ++[A9 f n]⟩).d=true):
  Sim s (Ae ⟨sv p 6 (some (base,mK,E)) (r.aJ+n) r.aJ scn0 st f w utf0,Bm r.oJ++[A9 f n]⟩) r.aJ (Cx r f n) (Ok2 p base mK E):=by
 have hlo:=hR.lo
 have hle:=hR.le
 have T:=Apd (b:=some (base,mK,E)) (e:=r.aJ+n) (f:=f) (p:=p) (w:=w) (st:=st) (a0:=r.aJ) hlen n.toNat 0 utf0 (Bm r.oJ++[A9 f n]) (by omega) hR.lo (by omega) (by rw[show r.aJ+((0:Nat):Int)=r.aJ by omega];exact hok)
 rw[show r.aJ+((0:Nat):Int)=r.aJ by omega,show r.aJ.toNat+0=r.aJ.toNat by omega,show (s.drop r.aJ.toNat).take n.toNat=A2 r n by unfold A2;rw[hR.txt]] at T
 obtain ⟨T1,T2,T3⟩:=T
 have hth:=R7 hn hR.lo hR.hl
 rw[hR.txt] at hth
 have htold: ∀t,t=Kn r f n→Bm (Ed r f n).oJ=Bm r.oJ++[A9 f n]++Fm t:=by
  rintro t rfl
  unfold Ed
  split
  ·rename_i h
   rw[h]
   show Bm (r.oJ++[A9 f n])=_
   rw[Ek (by show (3:Int)≠4;decide)];simp[Fm]
  ·show Bm (r.oJ++[A9 f n]++[Ei (Kn r f n)])=_
   rw[Zk,Ek (by show (3:Int)≠4;decide)]
 have htat:(Ed r f n).aJ=r.aJ∧(Ed r f n).fail=r.fail:=by unfold Ed;split<;>exact⟨rfl,rfl⟩
 unfold Cx
 by_cases hbad:0≤N0 r f n
 ·rw[if_pos hbad]
  have h6:f.kind=6:=by unfold N0 at hbad;split at hbad;assumption;omega
  have hb:N0 r f n=Gc utf0 (A2 r n):=by unfold N0;rw[if_pos h6]
  rw[hb] at hbad ⊢
  unfold Gc at hbad
  cases hu:(E2 utf0 (A2 r n) 0).2 with
  |none=>rw[hu] at hbad;exact absurd hbad (by decide)
  |some j=>
   have hj:Gc utf0 (A2 r n)=(j:Int):=by unfold Gc;rw[hu]
   rw[hj]
   refine Sim.failed ?_
   have:=T1 h6 j hu
   rw[Nat.sub_zero] at this
   rw[htold ((A2 r n).take j) (by unfold Kn;rw[hb,hj,if_pos (by omega),Int.toNat_natCast])]
   exact this
 ·rw[if_neg hbad]
  have hgood:Kn r f n=A2 r n:=by unfold Kn;rw[if_neg hbad]
  have hnone:f.kind=6→(E2 utf0 (A2 r n) 0).2=none:=by
   intro h6
   unfold N0 at hbad
   rw[if_pos h6] at hbad
   unfold Gc at hbad
   cases hu:(E2 utf0 (A2 r n) 0).2 with
   |none=>rfl
   |some j=>rw[hu] at hbad;exact(hbad (show (0:Int)≤(j:Int) by omega)).elim
  by_cases hcut:((A2 r n).length:Int)<n
  ·rw[if_pos hcut]
   refine Sim.failed ?_
   rw[htold _ hgood.symm,hR.txt]
   exact T2 hnone Q2
  ·rw[if_neg hcut]
   have hle2:r.aJ+n≤(s.length:Int):=by omega
   have G:=T3 hnone hle2
   have hst:(if f.kind=6 then (E2 utf0 (A2 r n) 0).1 else utf0)=Adr r f n:=rfl
   rw[hst,Aph] at G
   have hut:Fe (Adr r f n)=true:=by
    rw[←hst];split
    ·exact Yj Ys
    ·exact Ys
   have hw:=Jt hut
   by_cases hwant:(Adr r f n).wK≠0
   ·rw[if_pos hwant]
    rw[if_pos (by omega)] at G
    refine Sim.failed ?_
    rw[htold _ hgood.symm]
    exact Ends.of_fail G Q27
   ·rw[if_neg hwant]
    rw[if_neg (by omega)] at G
    refine Sim.ok (show (Ed r f n).fail.kind=0 by rw[htat.2];exact hR.ok) G ⟨st,f,w,utf0,?_⟩
    show _=S2 p base mK E (r.aJ+n) st f w utf0 (Bm ((Ed r f n).oJ++[L3]))
    rw[Ek (by show (5:Int)≠4;decide),htold _ hgood.symm]
    rfl
/-! ### Values with a length, messages Ak -/
def Aa9 (s:List UInt8) (p:Pln) (D:Nat):Prop:= ∀(shape e:Int) (base:List Lev) (r:Mr) (st:Int) (f:Fld) (w:Int) (u:Utf),Rc s p r→r.aJ≤e→(base.length:Int)+1+(D:Int)=p.dJ→Ce (S2 p base shape e r.aJ st f w u (Bm r.oJ)).d=true→Sim s (S2 p base shape e r.aJ st f w u (Bm r.oJ)) r.aJ (J0 D shape e r) (Ok2 p base shape e)
theorem As3 {p:Pln} {base:List Lev} {msg0 E0 mK e st:Int} {f:Fld} {w:Int} {u:Utf} {o:List Ev} :S2 p (base++[⟨msg0,E0-e⟩]) mK e e st f w u o=S2 p base msg0 E0 e st f w u (o++[Ajw]):=by
 have hl:(sv p 2 (some (base++[⟨msg0,E0-e⟩],mK,e)) e e scn0 st f w u).sJ.length=base.length+1+1:=by
  show (stk (some (base++[⟨msg0,E0-e⟩],mK,e)) e).length=_
  rw[Ace,List.length_append,List.length_singleton]
 have hc:=Tm (d:=sv p 2 (some (base++[⟨msg0,E0-e⟩],mK,e)) e e scn0 st f w u) (o:=o) rfl rfl (by rw[hl];omega) (by rw[Wv.1];omega) (by rw[hl];omega)
 rw[hl] at hc
 have ht:List.take (base.length+1+1-1) (sv p 2 (some (base++[⟨msg0,E0-e⟩],mK,e)) e e scn0 st f w u).sJ=base++[⟨msg0,E0-e⟩]:=by
  show List.take (base.length+1+1-1) ((base++[⟨msg0,E0-e⟩])++[⟨mK,e-e⟩])=_
  exact List.take_left' (by simp)
 rw[ht] at hc
 unfold S2
 rw[Cd hc]
 rfl
theorem Aro {s:List UInt8} {p:Pln} {D:Nat} (hsub:Aa9 s p D) {base:List Lev} {mK E a st:Int} {f:Fld} {w:Int} {u:Utf} {v:Mr} {U:Int} (hR:Rc s p v) (hU:0≤U) (hd:(base.length:Int)+1+((D+1:Nat):Int)=p.dJ) (hok:Ce (S2 p (base++[⟨mK,E-(v.aJ+U)⟩]) f.mK (v.aJ+U) v.aJ st f w u (Bm v.oJ++[Ue f.nJ U])).d=true):
  Sim s (S2 p (base++[⟨mK,E-(v.aJ+U)⟩]) f.mK (v.aJ+U) v.aJ st f w u (Bm v.oJ++[Ue f.nJ U])) v.aJ (Kr (D+1) v f U a) (Ok2 p base mK E):=by
 have hexp:Bm (Am v (F3 f U)).oJ=Bm v.oJ++[Ue f.nJ U]:=Ek (by show (6:Int)≠4;decide)
 have I:=hsub f.mK (v.aJ+U) (base++[⟨mK,E-(v.aJ+U)⟩]) (Am v (F3 f U)) st f w u (hR.tell _) (show v.aJ≤v.aJ+U by omega) (by rw[List.length_append,List.length_singleton];omega) (by rw[hexp];exact hok)
 rw[hexp] at I
 have I:Sim s (S2 p (base++[⟨mK,E-(v.aJ+U)⟩]) f.mK (v.aJ+U) v.aJ st f w u (Bm v.oJ++[Ue f.nJ U])) v.aJ (J0 D f.mK (v.aJ+U) (Am v (F3 f U))) _:=I
 have hend:=Acb (D:=D) (shape:=f.mK) (e:=v.aJ+U) (r:=Am v (F3 f U)) hR.hl (show v.aJ≤v.aJ+U by omega) hR.ok
 simp only[Kr]
 by_cases hk:(J0 D f.mK (v.aJ+U) (Am v (F3 f U))).fail.kind=0
 ·rw[if_pos hk]
  obtain ⟨m',G,st2,f2,w2,u2,hm⟩:=I.good hk
  have hat:=hend hk
  rw[hat] at G hm
  rw[hm,As3] at G
  refine Sim.ok hk (m':=S2 p base mK E (v.aJ+U) st2 f2 w2 u2 (Bm (J0 D f.mK (v.aJ+U) (Am v (F3 f U))).oJ++[Ajw])) (by show Go s _ _ _ (J0 D f.mK (v.aJ+U) (Am v (F3 f U))).aJ;rw[hat];exact G) ⟨st2,f2,w2,u2,?_⟩
  show _=S2 p base mK E (J0 D f.mK (v.aJ+U) (Am v (F3 f U))).aJ st2 f2 w2 u2 (Bm ((J0 D f.mK (v.aJ+U) (Am v (F3 f U))).oJ++[Asv]))
  rw[hat,Ek (by show (7:Int)≠4;decide)]
  rfl
 ·rw[if_neg hk]
  exact⟨fun h=>absurd h hk,I.bad⟩
theorem Aic {k:Int} (h1:1≤k) (h2:k≤8) (h8:k≠8):Ff k= !C1 k:=by
 unfold Ff C1 Ak
 rcases (show k=1∨k=2∨k=3∨k=4∨k=5∨k=6∨k=7 by omega) with rfl|rfl|rfl|rfl|rfl|rfl|rfl<;>rfl
theorem Api {s:List UInt8} {p:Pln} {base:List Lev} {mK E st:Int} {f:Fld} {ut:Utf} {D:Nat} {r:Mr} {known:Bool} (hlen:s.length≤4000) (hsub: ∀D',D=D'+1→Aa9 s p D') (hR:Rc s p r) (hd:(base.length:Int)+1+(D:Int)=p.dJ) (hkn:known=false∧f=fld0∨known=true∧1≤f.nJ∧1≤f.kind∧f.kind≤8) (hr:r.aJ<E) (hok:Ce (sv p 4 (some (base,mK,E)) E r.aJ scn0 st f 2 ut)=true):
  Sim s ⟨sv p 4 (some (base,mK,E)) E r.aJ scn0 st f 2 ut,Bm r.oJ⟩ r.aJ (B7 (Kr D) r f known E) (Ok2 p base mK E):=by
 have hsc:Sc s 4 (some (base,mK,E)) E f:=⟨by omega,fun h=>by omega,fun _=>⟨base,mK,E,rfl,Int.le_refl _,fun _=>rfl⟩,fun h=>by omega,hlen⟩
 have V:=Acg (o:=Bm r.oJ) hsc hR.lo hR.le hr (fun h=>by omega) hok
 have hub:=Qo r E
 have hva:=F4 (e:=E) hR.hl
 unfold B7
 by_cases hc:(Ai s r.aJ E).2.2=0
 ·have hvk:B6 r E=true:=by unfold B6;rw[hR.txt];exact decide_eq_true hc
  have hvu:Bd r E=(Ai s r.aJ E).1:=by unfold Bd;rw[if_pos hvk,hR.txt]
  have hv:A5 r E=Gy r (Ai s r.aJ E).2.1:=by rw[St hvk,hR.txt]
  have hy:=Gn hc
  obtain ⟨st',h1,-,G⟩:=V.1 hc
  rw[h1 (by decide)] at G
  rw[if_neg (by rw[hvk];decide),hv]
  rw[hvu] at hub ⊢
  generalize (Ai s r.aJ E).1=U at *
  generalize (Ai s r.aJ E).2.1=y at *
  have hR1:Rc s p (Gy r y):=hR.aJ (by omega) hy.2.2.2
  rw[show Aib 4 ⟨sv p 4 (some (base,mK,E)) E y scn0 r.aJ f 2 ut,Bm r.oJ⟩ U=Cu ⟨sv p 4 (some (base,mK,E)) E y scn0 r.aJ f 2 ut,Bm r.oJ⟩ U from rfl] at G
  unfold Cu at G
  have hsl:(sv p 4 (some (base,mK,E)) E y scn0 r.aJ f 2 ut).sJ.length=base.length+1:=Ace
  have htl:=Wv (p:=p) (mJ:=4) (base:=base) (mK:=mK) (E:=E) (e:=E) (x:=y) (sc:=scn0) (st:=r.aJ) (f:=f) (w:=2) (u:=ut)
  dsimp only at G
  rw[hsl,htl.1,htl.2] at G
  by_cases hbig:E-y<U
  ·rw[if_pos (.inr hbig)] at G
   rw[if_pos (show E-(Gy r y).aJ<U from hbig)]
   exact Sim.failed (r:=Gy r y) (Ends.of_fail G Q27)
  ·rw[if_neg (by rintro (h|h)<;>omega)] at G
   rw[if_neg (show¬E-(Gy r y).aJ<U from hbig)]
   have hwU: ∀m:Int,m=6∨m=7∨m=8→U=Gp m (y+U) y:=fun m h=>by unfold Gp;rw[if_pos h];omega
   rcases hkn with ⟨rfl,rfl⟩|⟨rfl,hk1,hk2,hk3⟩
   ·-- skipped
    rw[if_pos (show (sv p 4 (some (base,mK,E)) E y scn0 r.aJ fld0 2 ut).field=fld0 from rfl)] at G
    rw[if_pos rfl]
    have G2:Go s ⟨sv p 4 (some (base,mK,E)) E r.aJ scn0 st fld0 2 ut,Bm r.oJ⟩ r.aJ (Ae ⟨sv p 7 (some (base,mK,E)) (y+U) y scn0 r.aJ fld0 2 ut,Bm r.oJ⟩) y:=by
     unfold sv;rw[←hwU 7 (.inr (.inl rfl))];exact G
    have K:=Ape (e:=y+U) (o:=Bm r.oJ) hlen U.toNat y (by omega) (by omega) hy.2.2.2 G2.2
    by_cases hcut:(s.length:Int)-y<U
    ·rw[hR.txt,if_pos (show (s.length:Int)-(Gy r y).aJ<U from hcut)]
     exact Sim.failed (r:=Gy r y) ((K.1 Q2).go G2)
    ·rw[hR.txt,if_neg (show¬(s.length:Int)-(Gy r y).aJ<U from hcut)]
     have G3:=G2.trans (K.2 (by omega))
     rw[Apf] at G3
     exact Sim.ok (r:=Gy (Gy r y) ((Gy r y).aJ+U)) hR.ok G3 ⟨r.aJ,fld0,2,ut,rfl⟩
   ·have hne:f≠fld0:=fun h=>by subst h;exact absurd hk1 (by decide)
    rw[if_neg (show¬(sv p 4 (some (base,mK,E)) E y scn0 r.aJ f 2 ut).field=fld0 from hne)] at G
    rw[if_neg (by decide)]
    by_cases h8:f.kind=8
    ·rw[if_pos (show (sv p 4 (some (base,mK,E)) E y scn0 r.aJ f 2 ut).field.kind=8 from h8)] at G
     rw[if_pos h8]
     cases D with
     |zero=>
      rw[if_pos (show (sv p 4 (some (base,mK,E)) E y scn0 r.aJ f 2 ut).pJ.dJ≤((base.length+1:Nat):Int) by show p.dJ≤_;omega)] at G
      exact Sim.failed (r:=Gy r y) (Ends.of_fail G Q27)
     |succ D=>
      rw[if_neg (show¬(sv p 4 (some (base,mK,E)) E y scn0 r.aJ f 2 ut).pJ.dJ≤((base.length+1:Nat):Int) by show¬p.dJ≤_;omega)] at G
      have hst2:List.set (sv p 4 (some (base,mK,E)) E y scn0 r.aJ f 2 ut).sJ (base.length+1-1) ⟨mK,E-y-U⟩++[⟨f.mK,U⟩]=stk (some (base++[⟨mK,E-(y+U)⟩],f.mK,y+U)) y:=by
       have:List.set (base++[(⟨mK,E-y⟩:Lev)]) (base.length+1-1) ⟨mK,E-y-U⟩=base++[⟨mK,E-(y+U)⟩]:=by
        rw[Nat.add_sub_cancel,List.set_append_right _ _ (Nat.le_refl _),show E-y-U=E-(y+U) by omega];simp
       show List.set (base++[(⟨mK,E-y⟩:Lev)]) (base.length+1-1) ⟨mK,E-y-U⟩++[⟨f.mK,U⟩]=_
       rw[this]
       show _=(base++[(⟨mK,E-(y+U)⟩:Lev)])++[⟨f.mK,y+U-y⟩]
       rw[show y+U-y=U by omega]
      have G2:Go s ⟨sv p 4 (some (base,mK,E)) E r.aJ scn0 st f 2 ut,Bm r.oJ⟩ r.aJ (S2 p (base++[⟨mK,E-(y+U)⟩]) f.mK (y+U) y r.aJ f 2 ut (Bm r.oJ++[Ue f.nJ U])) y:=by
       unfold S2
       show Go s _ _ (Ae ⟨⟨p,2,stk (some (base++[⟨mK,E-(y+U)⟩],f.mK,y+U)) y,scn0,r.aJ,y,f,2,Gp 2 (y+U) y,ut,ev0⟩,Bm r.oJ++[Ue f.nJ U]⟩) y
       rw[←hst2]
       exact G
      have K:=Aro (hsub D rfl) (a:=r.aJ) (base:=base) (mK:=mK) (E:=E) (v:=Gy r y) hR1 hub.1 hd G2.2
      exact Sim.go G2 K
    ·rw[if_neg (show¬(sv p 4 (some (base,mK,E)) E y scn0 r.aJ f 2 ut).field.kind=8 from h8)] at G
     rw[if_neg h8]
     have hib:=Aic hk2 hk3 h8
     cases hnum:C1 f.kind with
     |false=>
      rw[hnum] at hib
      rw[if_pos (show Ff (sv p 4 (some (base,mK,E)) E y scn0 r.aJ f 2 ut).field.kind=true from hib)] at G
      rw[if_neg (by decide)]
      have G2:Go s ⟨sv p 4 (some (base,mK,E)) E r.aJ scn0 st f 2 ut,Bm r.oJ⟩ r.aJ (Ae ⟨sv p 6 (some (base,mK,E)) (y+U) y scn0 r.aJ f 2 utf0,Bm r.oJ++[A9 f U]⟩) y:=by
       unfold sv;rw[←hwU 6 (.inl rfl)];exact G
      exact Sim.go G2 (Arn (r:=Gy r y) hlen hR1 hub.1 G2.2)
     |true=>
      rw[hnum] at hib
      rw[if_neg (show¬Ff (sv p 4 (some (base,mK,E)) E y scn0 r.aJ f 2 ut).field.kind=true by show¬Ff f.kind=true;rw[hib];decide)] at G
      rw[if_pos rfl]
      refine Sim.go (m':=if 0<U∧U<Aq (Be f.kind) then A3 ⟨sv p 4 (some (base,mK,E)) E y scn0 r.aJ f 2 ut,Bm r.oJ⟩ 9 y else Ae ⟨sv p 8 (some (base,mK,E)) (y+U) y scn0 r.aJ f 2 ut,Bm r.oJ⟩) (a':=y) ?_ (Arm (r:=Gy r y) (e:=y+U) (w:=2) hlen (show y+U≤E by omega) Q2 _ _ (Nat.le_refl _) hR1 (show y≤y+U by omega) ?_ ?_)
      ·unfold sv;rw[←hwU 8 (.inr (.inr rfl))];exact G
      ·have:=G.2
       unfold sv at this ⊢;rw[←hwU 8 (.inr (.inr rfl))];exact this
      ·constructor
       ·intro h
        have h:0<y+U-y∧y+U-y<Aq (Be f.kind):=h
        rw[if_pos (by omega)];exact⟨_,rfl,rfl⟩
       ·intro h
        have h: ¬(0<y+U-y∧y+U-y<Aq (Be f.kind)):=h
        rw[if_neg (by omega)];exact⟨_,_,rfl⟩
 ·have hvk:B6 r E=false:=by unfold B6;rw[hR.txt];exact decide_eq_false hc
  rw[if_pos hvk,L4 hvk,hR.txt]
  exact Sim.failed (V.2 hc)
theorem Apj {s:List UInt8} {p:Pln} {base:List Lev} {mK E st:Int} {f:Fld} {w:Int} {u:Utf} {D:Nat} {r:Mr} (hp:B2 p=true) (hlen:s.length≤4000) (hsub: ∀D',D=D'+1→Aa9 s p D') (hR:Rc s p r) (hd:(base.length:Int)+1+(D:Int)=p.dJ) (hr:r.aJ<E) (hok:Ce (S2 p base mK E r.aJ st f w u (Bm r.oJ)).d=true):
  Sim s (S2 p base mK E r.aJ st f w u (Bm r.oJ)) r.aJ (Ej (Kr D) mK E r) (Ok2 p base mK E):=by
 rw[Ark hr] at hok ⊢
 have hsc:Sc s 2 (some (base,mK,E)) E f:=⟨by omega,fun h=>by omega,fun _=>⟨base,mK,E,rfl,Int.le_refl _,fun _=>rfl⟩,fun h=>by omega,hlen⟩
 have V:=Acg (o:=Bm r.oJ) hsc hR.lo hR.le hr (fun h=>by omega) hok
 unfold Ej
 by_cases hc:(Ai s r.aJ E).2.2=0
 ·have hvk:B6 r E=true:=by unfold B6;rw[hR.txt];exact decide_eq_true hc
  have hvu:Bd r E=(Ai s r.aJ E).1:=by unfold Bd;rw[if_pos hvk,hR.txt]
  have hv:A5 r E=Gy r (Ai s r.aJ E).2.1:=by rw[St hvk,hR.txt]
  have hy:=Gn hc
  obtain ⟨st',h1,-,G⟩:=V.1 hc
  rw[h1 (by decide)] at G
  rw[if_neg (by rw[hvk];decide),hv,hvu,hR.pJ]
  generalize (Ai s r.aJ E).1=U at *
  generalize (Ai s r.aJ E).2.1=y at *
  have hR1:Rc s p (Gy r y):=hR.aJ (by omega) hy.2.2.2
  rw[show Aib 2 ⟨sv p 2 (some (base,mK,E)) E y scn0 r.aJ f w u,Bm r.oJ⟩ U=Ew ⟨sv p 2 (some (base,mK,E)) E y scn0 r.aJ f w u,Bm r.oJ⟩ U from rfl] at G
  unfold Ew at G
  have hsl:(sv p 2 (some (base,mK,E)) E y scn0 r.aJ f w u).sJ.length=base.length+1:=Ace
  have htl:=Wv (p:=p) (mJ:=2) (base:=base) (mK:=mK) (E:=E) (e:=E) (x:=y) (sc:=scn0) (st:=r.aJ) (f:=f) (w:=w) (u:=u)
  dsimp only at G
  rw[hsl,htl.1,htl.2,show (sv p 2 (some (base,mK,E)) E y scn0 r.aJ f w u).pJ=p from rfl] at G
  dsimp only at G
  by_cases h1:Nf U=false
  ·rw[if_pos h1];rw[if_pos (.inl h1)] at G
   exact Sim.failed (r:=Gy r y) (Ends.of_fail G Q27)
  rw[if_neg h1];rw[if_neg (by rintro (h|h);exact h1 h;omega)] at G
  by_cases h2:C4 (Ag U)=false
  ·rw[if_pos h2];rw[if_pos h2] at G
   exact Sim.failed (r:=Gy r y) (Ends.of_fail G Q27)
  rw[if_neg h2];rw[if_neg h2] at G
  have hff:=Ty (s:=mK) (n:=A8 U) (By hp).2.1
  have hfz:(fieldAt p.sQ mK (A8 U)).isSome=false→(fieldAt p.sQ mK (A8 U)).getD fld0=fld0:=fun h=>by
   cases hx:fieldAt p.sQ mK (A8 U) with
   |none=>rfl
   |some g=>rw[hx] at h;cases h
  by_cases h3:(fieldAt p.sQ mK (A8 U)).isSome=true∧Dk ((fieldAt p.sQ mK (A8 U)).getD fld0) (Ag U)=false
  ·rw[if_pos h3]
   rw[if_pos h3] at G
   exact Sim.failed (r:=Gy r y) (Ends.of_fail G Q27)
  rw[if_neg h3]
  rw[if_neg h3] at G
  generalize hF:(fieldAt p.sQ mK (A8 U)).getD fld0=F at *
  have hwire:Ag U=0∨Ag U=1∨Ag U=2∨Ag U=5:=by
   simp only[C4,Bool.or_eq_false_iff,decide_eq_false_iff_not,not_and,Decidable.not_not] at h2
   omega
  have hw1:Aq 1=8:=rfl
  have hw2:Aq 2=0:=rfl
  have hw0:Aq 0=0:=rfl
  have hw5:Aq 5=4:=rfl
  by_cases h4:E-y<max (Aq (Ag U)) 1
  ·rw[if_pos h4] at G
   have G2:Ends s (fed s ⟨sv p 2 (some (base,mK,E)) E r.aJ scn0 st f w u,Bm r.oJ⟩ r.aJ) (Bm r.oJ) 9 y:=Ends.of_fail G (by decide)
   by_cases hw:Ag U=2
   ·rw[if_pos hw]
    rw[hw,hw2] at h4
    have hsv:=Zn (r:=Gy r y) (e:=E) hR1.lo hR1.hl (show E≤y by omega)
    unfold B7
    rw[if_pos hsv.1,hsv.2,show E=y by omega]
    exact Sim.failed (r:=Gy r y) (by rw[show E=y by omega] at G2;exact G2)
   ·rw[if_neg hw]
    have hsv:=Zo (r:=Gy r y) (wJ:=Ag U) (e:=E) hR1.lo hR1.hl (show y≤E from hy.2.2.1) h4
    rw[R8 (.inl hsv.1),hsv.2]
    exact Sim.failed (r:=Gy r y) G2
  ·rw[if_neg h4] at G
   by_cases hw:Ag U=2
   ·rw[if_pos hw]
    rw[hw,hw2] at h4
    have G2:Go s ⟨sv p 2 (some (base,mK,E)) E r.aJ scn0 st f w u,Bm r.oJ⟩ r.aJ ⟨sv p 4 (some (base,mK,E)) E y scn0 r.aJ F 2 u,Bm r.oJ⟩ y:=by
     rw[if_neg (by omega),if_pos hw,hw] at G;exact G
    refine Sim.go G2 (Api (r:=Gy r y) hlen hsub hR1 hd ?_ (show y<E by omega) G2.2)
    cases hkn:(fieldAt p.sQ mK (A8 U)).isSome with
    |false=>exact .inl ⟨rfl,hfz hkn⟩
    |true=>exact .inr ⟨rfl,hff.1 hkn⟩
   ·rw[if_neg hw]
    have hFF:F=fld0∨0<F.nJ:=by
     cases hkn:(fieldAt p.sQ mK (A8 U)).isSome with
     |false=>exact .inl (hfz hkn)
     |true=>have:=(hff.1 hkn).1;exact .inr (by omega)
    by_cases hw00:Ag U=0
    ·have G2:Go s ⟨sv p 2 (some (base,mK,E)) E r.aJ scn0 st f w u,Bm r.oJ⟩ r.aJ ⟨sv p 3 (some (base,mK,E)) E y scn0 r.aJ F (Ag U) u,Bm r.oJ⟩ y:=by
      rw[if_pos hw00] at G;exact G
     exact Sim.go G2 (Amy (r:=Gy r y) hlen hR1 (.inl ⟨rfl,by rw[hw00];rfl⟩) hFF (show y+max (Aq (Ag U)) 1≤E by omega) G2.2)
    ·have G2:Go s ⟨sv p 2 (some (base,mK,E)) E r.aJ scn0 st f w u,Bm r.oJ⟩ r.aJ ⟨sv p 5 (some (base,mK,E)) E y scn0 r.aJ F (Ag U) u,Bm r.oJ⟩ y:=by
      rw[if_neg hw00,if_neg hw] at G;exact G
     exact Sim.go G2 (Amy (r:=Gy r y) hlen hR1 (.inr ⟨rfl,by rcases hwire with h|h|h|h<;>rw[h]<;>first|omega|decide⟩) hFF (show y+max (Aq (Ag U)) 1≤E by omega) G2.2)
 ·have hvk:B6 r E=false:=by unfold B6;rw[hR.txt];exact decide_eq_false hc
  rw[if_pos hvk,L4 hvk,hR.txt]
  exact Sim.failed (V.2 hc)
theorem Agt {s:List UInt8} {p:Pln} {D:Nat} (hp:B2 p=true) (hlen:s.length≤4000) (hsub: ∀D',D=D'+1→Aa9 s p D'):Aa9 s p D:=by
 intro shape e base r st f w u
 suffices ∀(n:Nat) (r:Mr) (st:Int) (f:Fld) (w:Int) (u:Utf),Nz r≤n→Rc s p r→r.aJ≤e→(base.length:Int)+1+(D:Int)=p.dJ→Ce (S2 p base shape e r.aJ st f w u (Bm r.oJ)).d=true→Sim s (S2 p base shape e r.aJ st f w u (Bm r.oJ)) r.aJ (F7 (Na e) (Ej (Kr D) shape e) (Nz r) r) (Ok2 p base shape e) by
  intro hR he hd hok
  rw[Qn]
  exact this _ r st f w u (Nat.le_refl _) hR he hd hok
 intro n
 induction n with
 |zero=>
  intro r st f w u hn hR
  have h1:=hR.ok;have h2:=hR.hl
  simp only[Nz,if_pos h1] at hn;omega
 |succ n ih=>
  intro r st f w u hn hR he hd hok
  by_cases hg:r.aJ<e
  ·have hi:=(LInv.refl (step:=Ej (Kr D) shape e) (e:=e) hR.hl).go (N2 D shape e) hg hR.ok
   have hadv:=N2 D shape e r hR.hl hR.ok
   have hto:=Aa6 (shape:=shape) (e:=e) (Afc D) hR.ok hR.hl
   have hS:=Apj hp hlen hsub hR hd hg hok
   rw[←hi.1.run]
   by_cases hk:(Ej (Kr D) shape e r).fail.kind=0
   ·obtain ⟨m',G,st2,f2,w2,u2,rfl⟩:=hS.good hk
    exact Sim.go G (ih _ st2 f2 w2 u2 Q2 (hR.next hadv hk) (hto hk) hd G.2)
   ·rw[Dy (by simp[Na,hk])]
    exact⟨fun h=>absurd h hk,hS.bad⟩
  ·rw[Dy (by simp[Na];omega)]
   exact Sim.ok hR.ok ⟨rfl,hok⟩ ⟨st,f,w,u,rfl⟩
theorem Amz {s:List UInt8} {p:Pln} (hp:B2 p=true) (hlen:s.length≤4000): ∀D,Aa9 s p D
 |0=>Agt hp hlen fun D' h=>by omega
 |D+1=>Agt hp hlen fun D' h=>by
  obtain rfl:D=D':=by omega
  exact Amz hp hlen D
def noE (p:List Ev):Prop:= ∀e∈p,e.kind=4→e.text≠[]
theorem Arp:noE []:=fun _ h=>(List.not_mem_nil h).elim
theorem Zp {x:List Ev} (h:0<x.length): ∃q a,x=q++[a]:=by
 have hn:x≠[]:=fun e=>by rw[e] at h;exact absurd h (by simp)
 exact⟨x.dropLast,x.getLast hn,(List.dropLast_concat_getLast hn).symm⟩
theorem Lb {q:List Ev} {a e:Ev} (h4:a.kind=4) (he:e.kind=4) (ht:e.text≠[]):Fq (q++[a]) e=q++[Np a (a.text++e.text)]:=Yx (f:=a) (t:=a.text) he ht h4
theorem Aid {o:List Ev} {e:Ev} (h:noE o):noE (Fq o e):=by
 by_cases h1:e.kind=4
 ·by_cases h2:e.text=[]
  ·rw[Hk h1 h2];exact h
  ·by_cases h3:0<o.length∧(Pw o).kind=4
   ·obtain ⟨q,a,hx⟩:=Zp h3.1
    have h4:=h3.2
    rw[hx,Nq] at h4
    rw[hx] at h ⊢
    rw[Lb h4 h1 h2]
    intro x hxm hk
    rcases List.mem_append.1 hxm with hxm|hxm
    ·exact h x (List.mem_append_left _ hxm) hk
    ·rw[List.mem_singleton.1 hxm]
     exact fun e0=>h2 (List.append_eq_nil_iff.1 e0).2
   ·rw[Hs h2 h3]
    intro x hxm hk
    rcases List.mem_append.1 hxm with hxm|hxm
    ·exact h x hxm hk
    ·rw[List.mem_singleton.1 hxm];exact h2
 ·rw[Hr h1]
  intro x hxm hk
  rcases List.mem_append.1 hxm with hxm|hxm
  ·exact h x hxm hk
  ·rw[List.mem_singleton.1 hxm] at hk;exact(h1 hk).elim
theorem J1 (o a b:List Ev):Ea o (a++b)=Ea (Ea o a) b:=List.foldl_append ..
theorem N6 (o a:List Ev) (e:Ev):Ea o (a++[e])=Fq (Ea o a) e:=by rw[J1];rfl
theorem Ach {o p:List Ev} {e:Ev} (h:noE p):Ea o (Fq p e)=Fq (Ea o p) e:=by
 by_cases h1:e.kind=4
 ·by_cases h2:e.text=[]
  ·rw[Hk h1 h2,Hk h1 h2]
  ·by_cases h3:0<p.length∧(Pw p).kind=4
   ·obtain ⟨q,a,hx⟩:=Zp h3.1
    have h4:=h3.2
    rw[hx,Nq] at h4
    have ha:a.text≠[]:=h a (by rw[hx];simp) h4
    have hw:(Np a (a.text++e.text)).text≠[]:=fun e0=>ha (List.append_eq_nil_iff.1 e0).1
    rw[hx,Lb h4 h1 h2,N6,N6]
    by_cases h5:0<(Ea o q).length∧(Pw (Ea o q)).kind=4
    ·obtain ⟨q2,a2,hx2⟩:=Zp h5.1
     have h6:=h5.2
     rw[hx2,Nq] at h6
     rw[hx2,Lb (e:=Np a (a.text++e.text)) h6 h4 hw,Lb h6 h4 ha,Lb (a:=Np a2 (a2.text++a.text)) h6 h1 h2]
     show q2++[Np a2 (a2.text++(a.text++e.text))]=q2++[Np a2 (a2.text++a.text++e.text)]
     rw[List.append_assoc]
    ·rw[Hs hw h5,Hs ha h5,Lb h4 h1 h2]
   ·rw[Hs h2 h3,N6]
 ·rw[Hr h1,N6]
theorem U1: ∀(b o p:List Ev),noE p→Ea o (Ea p b)=Ea (Ea o p) b
 |[],_,_,_=>rfl
 |e::r,o,p,h=>by
  rw[E8,E8,U1 r o (Fq p e) (Aid h),Ach h]
theorem Aci (o b:List Ev):Ea o (Ca b)=Ea o b:=U1 b o [] Arp
theorem Aie (a b:List Ev):Ca (a++Ca b)=Ca (a++b):=by
 unfold Ca;rw[J1,J1];exact Aci _ b
theorem Zq {a a':List Ev} (h:Ca a=Ca a') (b:List Ev):Ca (a++b)=Ca (a'++b):=by
 unfold Ca at h ⊢;rw[J1,J1,h]
theorem Zr: ∀(s:List UInt8) (d:Dcd) (o:List Ev),Cb ⟨d,o⟩ s=⟨(Cb ⟨d,[]⟩ s).d,o++(Cb ⟨d,[]⟩ s).oJ⟩
 |[],d,o=>by rw[Ut,Ut,List.append_nil]
 |b::r,d,o=>by
  rw[Fh,Fh]
  have e1:Qw ⟨d,o⟩ (b.toNat:Int)=⟨(Cs d (b.toNat:Int)).d,o++(Cs d (b.toNat:Int)).oJ⟩:=rfl
  have e2:Qw ⟨d,[]⟩ (b.toNat:Int)=⟨(Cs d (b.toNat:Int)).d,(Cs d (b.toNat:Int)).oJ⟩:=rfl
  rw[e1,e2,Zr r _ (o++_),Zr r _ (Cs d (b.toNat:Int)).oJ,List.append_assoc]
theorem Am0 (m:Mac) (a b:List UInt8):Cb m (a++b)=Cb (Cb m a) b:=List.foldl_append ..
theorem Aba: ∀(cs:List (List UInt8)) (d:Dcd) (o1 o2:List Ev),Ca o1=Ca o2→(Cc ⟨d,o1⟩ cs).d=(Cb ⟨d,o2⟩ cs.flatten).d∧Ca (Cc ⟨d,o1⟩ cs).oJ=Ca (Cb ⟨d,o2⟩ cs.flatten).oJ
 |[],d,o1,o2,h=>⟨rfl,h⟩
 |c::r,d,o1,o2,h=>by
  rw[Ht,List.flatten_cons,Am0,Zr c d o2]
  refine Aba r _ _ _ ?_
  show Ca (o1++Ca (Cb ⟨d,[]⟩ c).oJ)=_
  rw[Aie];exact Zq h _
/-! ### Frames -/
def S1 (p:Pln) (x st:Int) (f:Fld) (w:Int) (u:Utf) (o:List Ev):Mac:=⟨sv p 1 none maxI x scn0 st f w u,o⟩
def Ok1 (p:Pln) (r:Mr) (m:Mac):Prop:= ∃st f w u,m=S1 p r.aJ st f w u (Bm r.oJ)
theorem Arq {p:Pln} {mK e st:Int} {f:Fld} {w:Int} {u:Utf} {o:List Ev} :S2 p [] mK e e st f w u o=S1 p e st f w u (o++[H7]):=by
 have hl:(sv p 2 (some ([],mK,e)) e e scn0 st f w u).sJ.length=1:=rfl
 have hc:=Tk (d:=sv p 2 (some ([],mK,e)) e e scn0 st f w u) (o:=o) rfl rfl (by rw[hl];omega) (by rw[Wv.1];omega) hl
 unfold S2
 rw[Cd hc,Bz (Ab1 (.inr rfl))]
 rfl
theorem Arr {s:List UInt8} {p:Pln} {st:Int} {f:Fld} {w:Int} {u:Utf} {r:Mr} (hp:B2 p=true) (hlen:s.length≤4000) (hR:Rc s p r) (hr:r.aJ<(s.length:Int)) (hok:Ce (S1 p r.aJ st f w u (Bm r.oJ)).d=true):
  Sim s (S1 p r.aJ st f w u (Bm r.oJ)) r.aJ (D7 r) (Ok1 p):=by
 have hpt:=By hp
 have hsc:Sc s 1 none maxI f:=⟨by omega,fun _=>⟨rfl,rfl⟩,fun h=>absurd rfl h,fun h=>by omega,hlen⟩
 have V:=Acg (o:=Bm r.oJ) hsc hR.lo hR.le (show r.aJ<maxI by unfold maxI;omega) (fun _=>hr) hok
 unfold D7 N4
 by_cases hc:(Ai s r.aJ maxI).2.2=0
 ·have hvk:B6 r maxI=true:=by unfold B6;rw[hR.txt];exact decide_eq_true hc
  have hvu:Bd r maxI=(Ai s r.aJ maxI).1:=by unfold Bd;rw[if_pos hvk,hR.txt]
  have hv:A5 r maxI=Gy r (Ai s r.aJ maxI).2.1:=by rw[St hvk,hR.txt]
  have hy:=Gn hc
  have hub:=Qo r maxI
  obtain ⟨st',h1,-,G⟩:=V.1 hc
  rw[h1 (by decide)] at G
  rw[if_neg (by rw[hvk];decide),hv,hvu,hR.pJ]
  rw[hvu] at hub
  generalize (Ai s r.aJ maxI).1=U at *
  generalize (Ai s r.aJ maxI).2.1=y at *
  have hR1:Rc s p (Gy r y):=hR.aJ (by omega) hy.2.2.2
  rw[show Aib 1 ⟨sv p 1 none maxI y scn0 r.aJ f w u,Bm r.oJ⟩ U=C0 ⟨sv p 1 none maxI y scn0 r.aJ f w u,Bm r.oJ⟩ U from rfl] at G
  unfold C0 at G
  by_cases hm:p.most<U
  ·rw[if_pos hm]
   rw[if_pos (show (Mac.mk (sv p 1 none maxI y scn0 r.aJ f w u) (Bm r.oJ)).d.pJ.most<U from hm)] at G
   exact Sim.failed (r:=Gy r y) (Ends.of_fail G Q27)
  ·rw[if_neg hm]
   rw[if_neg (show¬(Mac.mk (sv p 1 none maxI y scn0 r.aJ f w u) (Bm r.oJ)).d.pJ.most<U from hm)] at G
   have hexp:Bm (Am (Gy r y) (Eu U)).oJ=Bm r.oJ++[Ac9 U]:=Ek (by show (1:Int)≠4;decide)
   have G2:Go s (S1 p r.aJ st f w u (Bm r.oJ)) r.aJ (S2 p [] p.rJ (y+U) y r.aJ f w u (Bm r.oJ++[Ac9 U])) y:=by
    unfold S2
    have:sv p 2 (some ([],p.rJ,y+U)) (y+U) y scn0 r.aJ f w u=⟨p,2,[⟨p.rJ,U⟩],⟨0,0⟩,r.aJ,y,f,w,0,u,ev0⟩:=by
     show Dcd.mk p 2 ([]++[⟨p.rJ,y+U-y⟩]) _ _ _ _ _ _ _ _=_
     rw[show y+U-y=U by omega];rfl
    rw[this];exact G
   have I:=Amz hp hlen (Int.toNat (p.dJ-1)) p.rJ (y+U) [] (Am (Gy r y) (Eu U)) r.aJ f w u (hR1.tell _) (show y≤y+U by omega) (by simp only[List.length_nil];omega) (by rw[hexp];exact G2.2)
   rw[hexp] at I
   have hend:=Acb (D:=Int.toNat (p.dJ-1)) (shape:=p.rJ) (e:=y+U) (r:=Am (Gy r y) (Eu U)) hR1.hl (show y≤y+U by omega) hR.ok
   have hpl:(Gy r y).pJ=p:=hR.pJ
   rw[show (Gy r y).aJ=y from rfl]
   by_cases hk:(J0 (Int.toNat (p.dJ-1)) p.rJ (y+U) (Am (Gy r y) (Eu U))).fail.kind=0
   ·rw[if_pos hk]
    obtain ⟨m',G3,st2,f2,w2,u2,hm⟩:=I.good hk
    have hat:=hend hk
    rw[hat] at G3 hm
    rw[hm,Arq] at G3
    refine Sim.go G2 (Sim.ok hk (m':=S1 p (y+U) st2 f2 w2 u2 (Bm (J0 (Int.toNat (p.dJ-1)) p.rJ (y+U) (Am (Gy r y) (Eu U))).oJ++[H7])) ?_ ⟨st2,f2,w2,u2,?_⟩)
    ·show Go s _ _ _ (J0 (Int.toNat (p.dJ-1)) p.rJ (y+U) (Am (Gy r y) (Eu U))).aJ
     rw[hat];exact G3
    ·show _=S1 p (J0 (Int.toNat (p.dJ-1)) p.rJ (y+U) (Am (Gy r y) (Eu U))).aJ st2 f2 w2 u2 (Bm ((J0 (Int.toNat (p.dJ-1)) p.rJ (y+U) (Am (Gy r y) (Eu U))).oJ++[frameEndEv]))
     rw[hat,Ek (by show (8:Int)≠4;decide)]
     rfl
   ·rw[if_neg hk]
    exact Sim.go G2 ⟨fun h=>absurd h hk,I.bad⟩
 ·have hvk:B6 r maxI=false:=by unfold B6;rw[hR.txt];exact decide_eq_false hc
  rw[if_pos hvk,L4 hvk,hR.txt]
  exact Sim.failed (V.2 hc)
theorem As4 {s:List UInt8} {p:Pln} (hp:B2 p=true) (hlen:s.length≤4000): ∀(n:Nat) (q:Wh) (st:Int) (f:Fld) (w:Int) (u:Utf),Nz q.r≤n→WInv (wh0 p s) q→q.r.fail.kind=0→Ce (S1 p q.r.aJ st f w u (Bm q.r.oJ)).d=true→Sim s (S1 p q.r.aJ st f w u (Bm q.r.oJ)) q.r.aJ (Jm p s).r (fun r m=>Ok1 p r m∧r.aJ=(s.length:Int)):=by
 intro n
 induction n with
 |zero=>
  intro q st f w u hn hI hk
  have h:=hI.room hk
  have h1:=h.1
  have h2:=h.2.2.2.1
  simp only[Nz,if_pos hk,h1] at hn;omega
 |succ n ih=>
  intro q st f w u hn hI hk hok
  have h:=hI.room hk
  by_cases hg:q.r.aJ<(s.length:Int)
  ·have hnx:=hI.next hg hk rfl
   have hR:Rc s p q.r:=⟨h.1,h.2.1,h.2.2.1,h.2.2.2.1,hk⟩
   have F:=Arr hp hlen hR hg hok
   by_cases hk2:(D7 q.r).fail.kind=0
   ·obtain ⟨m',G,st2,f2,w2,u2,rfl⟩:=F.good hk2
    exact Sim.go G (ih (Hb q) st2 f2 w2 u2 Q2 hnx.1 hk2 G.2)
   ·rw[hI.leave hg hk rfl hk2]
    exact⟨fun h=>absurd h hk2,F.bad⟩
  ·rw[hI.eJ hg]
   exact Sim.ok hk ⟨rfl,hok⟩ ⟨⟨st,f,w,u,rfl⟩,by have:=h.2.2.2.1;omega⟩
theorem Acj {p:Pln} (h:B2 p=true):Bs p=(S1 p 0 0 fld0 0 utf0 []).d∧Ce (S1 p 0 0 fld0 0 utf0 []).d=true:=by
 have ht:=By h
 refine⟨by unfold Bs;rw[if_pos h];rfl,?_⟩
 refine J2 (Ju h (by show (0:Int)≤p.dJ;omega) (fun l hl=>by cases hl)) (show (1:Int)≤1∧(1:Int)≤9 by decide) (show (0:Int)≤0∧(0:Int)≤1000000000 by decide) (show (0:Int)≤0∧(0:Int)≤0 by decide) Ys ?_ (.inl rfl) ?_ ?_ ?_ ?_ ?_
 ·simp[S1,sv,C4]
 ·simp[S1,sv,Abq]
 ·simp[S1,sv,Ln,stk]
 ·simp[S1,sv,J8,Gp]
 ·simp[S1,sv,J9]
 ·simp[S1,sv,Ku,Bw,D4,scn0,Ak]
theorem Aif {p:Pln} {s:List UInt8} (hp:B2 p=true) (hlen:s.length≤4000):
  ((Jm p s).r.fail.kind=0→(Cb ⟨Bs p,[]⟩ s).d.mJ=1∧(Cb ⟨Bs p,[]⟩ s).d.sK.hJ=0∧(Cb ⟨Bs p,[]⟩ s).d.aJ=(s.length:Int)∧Ce (Cb ⟨Bs p,[]⟩ s).d=true∧(Cb ⟨Bs p,[]⟩ s).oJ=Bm (Jm p s).r.oJ)∧
  ((Jm p s).r.fail.kind≠0→∃c x,(Jm p s).r.fail=As c x∧Ends s (Cb ⟨Bs p,[]⟩ s) (Bm (Jm p s).r.oJ) c x):=by
 obtain ⟨h1,h2⟩:=Acj hp
 have W:=As4 hp hlen _ (wh0 p s) 0 fld0 0 utf0 (Nat.le_refl _) WInv.refl rfl h2
 have hf:fed s (S1 p 0 0 fld0 0 utf0 []) 0=Cb ⟨Bs p,[]⟩ s:=by rw[h1];rfl
 have W:Sim s (S1 p 0 0 fld0 0 utf0 []) 0 (Jm p s).r (fun r m=>Ok1 p r m∧r.aJ=(s.length:Int)):=W
 refine⟨fun hk=>?_,fun hk=>?_⟩
 ·obtain ⟨m',G,⟨st,f,w,u,rfl⟩,hat⟩:=W.good hk
  rw[←hf,G.1,hat,Amq (Int.le_refl _)]
  rw[hat] at G
  exact⟨rfl,rfl,rfl,G.2,rfl⟩
 ·rw[←hf];exact W.bad hk
/-! ### Merged events -/
theorem Zs: ∀(t2 t:List UInt8) (o:List Ev),Ea (o++[Ei t]) (Fm t2)=o++[Ei (t++t2)]
 |[],t,o=>by rw[List.append_nil];rfl
 |c::r,t,o=>by
  show Ea (Fq (o++[Ei t]) (Ei [c])) (Fm r)=_
  have h:=Yy (o:=o) (f:=Ei t) (e:=Ei [c]) (t:=t) rfl rfl
  rw[show Np (Ei t) t=Ei t from rfl,show Np (Ei t) (t++(Ei [c]).text)=Ei (t++[c]) from rfl] at h
  rw[h,Zs r (t++[c]) o,List.append_assoc];rfl
theorem Aig {o:List Ev} {t:List UInt8} (ho: ¬(0<o.length∧(Pw o).kind=4)) (ht:t≠[]):Ea o (Fm t)=o++[Ei t]:=by
 cases t with
 |nil=>exact absurd rfl ht
 |cons c r=>
  show Ea (Fq o (Ei [c])) (Fm r)=_
  rw[Hs (by simp[Ei]) ho,Zs r [c] o];rfl
def MG (r:Mr):Prop:=Ca (Bm r.oJ)=r.oJ
theorem Am1 {l:List Ev} {e:Ev} (h:Ca (Bm l)=l) (he:e.kind≠4):Ca (Bm (l++[e]))=l++[e]:=by
 rw[Ek he]
 unfold Ca at h ⊢
 rw[N6,h,Hr he]
theorem MG.tell {r:Mr} (h:MG r) {e:Ev} (he:e.kind≠4):MG (Am r e):=Am1 h he
theorem MG.var {r:Mr} (h:MG r) (e:Int):MG (A5 r e):=by unfold A5;split<;>exact h
theorem MG.val {r:Mr} (h:MG r) (w e:Int):MG (F2 r w e):=by
 unfold F2 Jk;split
 ·split
  ·exact h
  ·split<;>exact h
 ·exact h.var e
theorem MG.num {r:Mr} (h:MG r) (f:Fld) (w e:Int):MG (Bx r f w e):=by
 unfold Bx;split
 ·exact(h.val w e).tell (by show (2:Int)≠4;decide)
 ·exact h.val w e
theorem MG.loop {step:Mr→Mr} (hs: ∀r,MG r→MG (step r)) {go:Mr→Bool} : ∀(k:Nat) (r:Mr),MG r→MG (F7 go step k r)
 |0,r,h=>h
 |k+1,r,h=>by simp only[F7];split;exact MG.loop hs k _ (hs _ h);exact h
theorem MG.told {r:Mr} (h:MG r) (f:Fld) (n:Int):MG (Ed r f n):=by
 have ho:MG (Am r (A9 f n)):=h.tell (by show (3:Int)≠4;decide)
 unfold Ed
 split
 ·exact ho
 ·rename_i ht
  show Ca (Bm (r.oJ++[A9 f n]++[Ei (Kn r f n)]))=_
  rw[Zk]
  have ho:Ca (Bm (r.oJ++[A9 f n]))=r.oJ++[A9 f n]:=ho
  unfold Ca at ho ⊢
  rw[J1,ho,Aig (fun x=>by rw[Nq] at x;exact absurd x.2 (by show¬(3:Int)=4;decide)) ht]
  rfl
theorem MG.txt {r:Mr} (h:MG r) (f:Fld) (n:Int):MG (Cx r f n):=by
 have ht:=h.told f n
 unfold Cx
 split
 ·exact ht
 split
 ·exact ht
 split
 ·exact ht
 ·exact MG.tell (r:=Gy (Ed r f n) (r.aJ+n)) ht (by show (5:Int)≠4;decide)
def Apk (sub:Mr→Fld→Int→Int→Mr):Prop:= ∀(v:Mr) (f:Fld) (n s:Int),MG v→MG (sub v f n s)
theorem MG.long {sub:Mr→Fld→Int→Int→Mr} (hs:Apk sub) {r:Mr} (h:MG r) (f:Fld) (known:Bool) (e:Int):MG (B7 sub r f known e):=by
 have hv:=h.var e
 unfold B7
 split
 ·exact hv
 split
 ·exact hv
 split
 ·split<;>exact hv
 split
 ·exact hs _ _ _ _ hv
 split
 ·exact MG.loop (fun r h=>h.num f _ _) _ _ hv
 ·exact hv.txt f _
theorem MG.mK {sub:Mr→Fld→Int→Int→Mr} (hs:Apk sub) {r:Mr} (h:MG r) (shape e:Int):MG (Ej sub shape e r):=by
 have hv:=h.var e
 unfold Ej
 split
 ·exact hv
 split
 ·exact hv
 split
 ·exact hv
 split
 ·exact hv
 split
 ·exact hv.long hs _ _ _
 ·exact hv.num _ _ _
theorem Am2 {D:Nat} (hs:Apk (Kr D)) {r:Mr} (h:MG r) (shape e:Int):MG (J0 D shape e r):=by
 rw[Qn];exact MG.loop (fun r h=>h.mK hs shape e) _ _ h
theorem Am3: ∀D,Apk (Kr D)
 |0=>fun _ _ _ _ h=>h
 |D+1=>fun v f n s h=>by
  have hm:=Am2 (Am3 D) (h.tell (e:=F3 f n) (by show (6:Int)≠4;decide)) f.mK (v.aJ+n)
  simp only[Kr]
  split
  ·exact hm.tell (by show (7:Int)≠4;decide)
  ·exact hm
theorem As5 {r:Mr} (h:MG r):MG (D7 r):=by
 have hv:=h.var maxI
 have hm:MG (N4 r):=Am2 (Am3 _) (hv.tell (by show (1:Int)≠4;decide)) _ _
 unfold D7
 split
 ·exact hv
 split
 ·exact hv
 split
 ·exact hm.tell (by show (8:Int)≠4;decide)
 ·exact hm
theorem As6: ∀(k:Nat) (w:Wh),MG w.r→MG (F7 Ain Hb k w).r
 |0,w,h=>h
 |k+1,w,h=>by simp only[F7];split;exact As6 k _ (As5 h);exact h
theorem Apm (p:Pln) (s:List UInt8):Ca (Bm (Jm p s).r.oJ)=(Jm p s).r.oJ:=As6 _ _ (by rfl)
/-! ### Laws -/
theorem Am4 {p:Pln} {s:List UInt8} (hp:B2 p=true) (hlen:s.length≤4000):
  Ce (Cb ⟨Bs p,[]⟩ s).d=true∧
  (((Cb ⟨Bs p,[]⟩ s).d.mJ=9∧Ca (Cb ⟨Bs p,[]⟩ s).oJ=Fk p s)∨
   ((Cb ⟨Bs p,[]⟩ s).d.mJ≠9∧(Cb ⟨Bs p,[]⟩ s).d.aJ=(s.length:Int)∧Ca (Cb ⟨Bs p,[]⟩ s).oJ=(Jm p s).r.oJ∧Fk p s=(Jm p s).r.oJ++(Kq (Cb ⟨Bs p,[]⟩ s).d).oJ)):=by
 obtain ⟨h1,h2⟩:=Aif hp hlen
 have hmg:=Apm p s
 have hdo:Ce (Cb ⟨Bs p,[]⟩ s).d=true:=by
  have: ∀(s:List UInt8) (m:Mac),Ce m.d=true→Ce (Cb m s).d=true:=by
   intro s
   induction s with
   |nil=>exact fun m h=>h
   |cons b r ih=>intro m h;rw[Fh];exact ih _ (Xk h)
  exact this s _ (by rw[(Acj hp).1];exact(Acj hp).2)
 refine⟨hdo,?_⟩
 generalize Cb ⟨Bs p,[]⟩ s=m at *
 have hwe:Fk p s=(Jm p s).r.oJ++[if (Jm p s).r.fail.kind=0 then Amm (s.length:Int) else (Jm p s).r.fail]:=rfl
 by_cases hk:(Jm p s).r.fail.kind=0
 ·obtain ⟨g1,g2,g3,g4,g5⟩:=h1 hk
  right
  refine⟨by omega,g3,by rw[g5];exact hmg,?_⟩
  rw[hwe,if_pos hk]
  unfold Kq
  rw[if_neg (by rw[g4];simp;omega),if_pos ⟨g1,g2⟩,g3]
  rfl
 ·obtain ⟨c,x,e1,e2⟩:=h2 hk
  rw[hwe,if_neg hk,e1]
  by_cases hc:c=10
  ·obtain ⟨hx,hcut,ho⟩:=e2.1 hc
   right
   refine⟨hcut.1,hcut.2.2.1,by rw[ho];exact hmg,?_⟩
   unfold Kq
   rw[if_neg (by rw[hdo];simp;exact hcut.1),if_neg hcut.2.1,hcut.2.2.1,hc,hx]
  ·obtain ⟨h9,ho⟩:=e2.2 hc
   left
   refine⟨h9,?_⟩
   rw[ho,←Ek (by show (10:Int)≠4;decide)]
   exact Am1 hmg (by show (10:Int)≠4;decide)
theorem As7 {d:Dcd} (h:d.mJ=9):(Kq d).oJ=[]:=by unfold Kq;rw[if_pos (.inr h)]
theorem Am5 (d:Dcd): ∀e∈(Kq d).oJ,e.kind≠4:=by
 unfold Kq
 split
 ·intro e h;cases h
 ·split
  ·intro e h;rw[List.mem_singleton.1 h];show (9:Int)≠4;decide
  ·intro e h;rw[List.mem_singleton.1 h];show (10:Int)≠4;decide
theorem Zt: ∀(l o:List Ev),(∀e∈l,e.kind≠4)→Ea o l=o++l
 |[],o,_=>by rw[List.append_nil];rfl
 |e::r,o,h=>by
  rw[E8,Hr (h e (List.mem_cons_self ..)),Zt r _ (fun x hx=>h x (List.mem_cons_of_mem _ hx)),List.append_assoc];rfl
theorem Abb {p:Pln} {s:List UInt8} (hp:B2 p=true) (hlen:s.length≤4000):Ca (Cb ⟨Bs p,[]⟩ s).oJ++(Kq (Cb ⟨Bs p,[]⟩ s).d).oJ=Fk p s:=by
 rcases (Am4 hp hlen).2 with ⟨h9,h⟩|⟨-,-,h,h2⟩
 ·rw[As7 h9,List.append_nil];exact h
 ·rw[h,h2]
theorem Aff {p:Pln} {s:List UInt8} (hp:B2 p=true) (hlen:s.length≤4000):Ca ((Cb ⟨Bs p,[]⟩ s).oJ++(Kq (Cb ⟨Bs p,[]⟩ s).d).oJ)=Fk p s:=by
 rw[←Abb hp hlen]
 unfold Ca
 rw[J1,Zt _ _ (Am5 _)]
theorem Ad2 {p:Pln} {cs:List (List UInt8)} {s:List UInt8} (hp:B2 p=true) (hs:cs.flatten=s) (hlen:s.length≤4000):Ca (Dt p cs)=Fk p s:=by
 unfold Dt
 rw[if_pos hp]
 have h:=Aba cs (Bs p) [] [] rfl
 rw[hs] at h
 rw[h.1,Zq h.2]
 exact Aff hp hlen
theorem Aih {p:Pln} {s:List UInt8} (hp:B2 p=true) (hlen:s.length≤4000):Dt p [s]=Fk p s:=by
 unfold Dt
 rw[if_pos hp,Ht,Pz]
 show []++Ca (Cb ⟨Bs p,[]⟩ s).oJ++(Kq (Cb ⟨Bs p,[]⟩ s).d).oJ=_
 rw[List.nil_append]
 exact Abb hp hlen
theorem V5 {p:Pln} {s:List UInt8} :(N5 p s).length≤16001:=by unfold N5;split;exact Ah9 (by omega);simp
theorem Am6 {p:Pln} {s:List UInt8} (hp:B2 p=true) (hl:s.length≤4000):N5 p s=Fk p s:=by unfold N5;rw[if_pos ⟨hp,hl⟩]
theorem U2: ∀cs:List (List UInt8),S6 cs=cs.flatten.length
 |[]=>rfl
 |c::r=>by rw[S6,List.flatten_cons,List.length_append,U2 r]
theorem Ad3: ∀(cs:List (List UInt8)) (m:Mac),tx (Cc m cs).oJ≤tx m.oJ+S6 cs
 |[],m=>by rw[Pz];omega
 |c::r,m=>by
  have h1:=Ad3 r ⟨(Df m.d c).d,m.oJ++(Df m.d c).oJ⟩
  have h2:=Ao7 m.d c
  rw[Lu] at h1
  rw[Ht,S6];omega
theorem Ad4 (p:Pln) (cs:List (List UInt8)):(Dt p cs).length≤14*cs.flatten.length+1∧tx (Dt p cs)≤cs.flatten.length:=by
 refine⟨by have:=Aez p cs;rw[U2] at this;exact this,?_⟩
 unfold Dt
 split
 ·have h1:=Ad3 cs ⟨Bs p,[]⟩
  have h2:tx (Kq (Cc ⟨Bs p,[]⟩ cs).d).oJ=0:=by
   unfold Kq;split
   ·rfl
   ·split<;>rfl
  rw[Lu,h2]
  rw[U2] at h1
  simp only[tx] at h1
  omega
 ·simp[tx]
theorem T0 {p:Pln} {cs:List (List UInt8)} (h:B2 p=false):Dt p cs=[]:=by unfold Dt;rw[if_neg (by simp[h])]
theorem Aii (code:List Int) (hp1:((code.length:Nat):Int)≤9223372036854775807):Fun Tryz.prog 3 [.c (.seq .u8 code)] [] (.v (vB true)) []:=by
 have hN:Bh=274877906944:=rfl
 refine Ar Tryz.func3 Q4 Q4 (w:=let z12:S:= .v (vO 0);let z13:=decide (1048576<((code.length:Nat):Int));let z14:S:= .v (vB true);let z15:=Lf z14 z14 [] [];(.sZ [.call [] (.v (vB z13)) []] (.br (.lJ () []) (.intro (Km code) fun o1=>let z3:=List.flatten o1.l;let z1:=N5 o1.p z3;let z4:S:= .v (vB (B2 o1.p));let z5:=Dt o1.p o1.l;let z2:=Ca z5;.sZ [.call [] (.tup [.agg (G0 o1.p),vO 0]) [.lst .str o1.l],.at 5,.pubS 4,.call [] z12 [.lst .ev z5],.at 6,.pubS 5,.call [] z12 [.lst .ev z5],.br false,.call [] (.v (vT z3)) [],.call [] z4 []] (.br (.sZ [.call [] z4 []] (.br (.lJ () []) (.lJ () []))) (.br (.sZ [.call [] z4 []] (.br (.lJ () []) (.lJ () []))) (.case (decide (z2=z1)) (.sZ [.ord [(0,true),(2,true),(3,true),(1,false),(4,false),(5,false),(6,true),(7,true),(8,true),(10,true),(11,true),(9,false),(12,false),(13,false),(14,true),(15,true)] [],.call [] z12 [.lst .ev z2],.call [] z12 [.lst .ev z1],.call [] (.v (vB (decide (z2=z1)))) [],.br true,.call [] z12 [.lst .ev (Dt o1.p [z3])],.call [] z12 [.lst .ev z1],.call [] (.v (vB (decide ((Dt o1.p [z3])=z1)))) []] (.lJ () [])) (.sZ [.ord [(0,true),(2,true),(3,true),(1,false),(4,false),(5,false),(6,true),(7,true),(8,true),(10,true),(11,true),(9,false),(12,false),(13,false),(14,true),(15,true)] [],.call [] z12 [.lst .ev z2],.call [] z12 [.lst .ev z1],.call [] (.v (vB (decide (z2=z1)))) [],.br false] (.lJ () []))))))),(Fp 8 [.c (.seq .u8 code)] [] (.v (vB z13)) [])∧Bc z13 z15 (In (Km code) fun o1=>(let z7:=Dt o1.p o1.l;let z8:=List.flatten o1.l;let z6:=N5 o1.p z8;let z9:=G0 o1.p;let z10:=B2 o1.p;let z11:=Dt o1.p [z8];(Qs code o1)∧(Fp 10 [.agg z9,.c (.seq .str o1.l)] [] z12 [.lst .ev z7])∧(Fp 11 [.agg z9,.c (.seq .str o1.l)] [] z12 [.lst .ev z7])∧((!decide (((z7.length:Nat):Int)=((z7.length:Nat):Int)))=false)∧(Fp 12 [.c (.seq .str o1.l)] [] (.v (vT z8)) [])∧(Fp 13 [.agg z9] [] (.v (vB z10)) [])∧Bc (!z10) ((Fp 13 [.agg z9] [] (.v (vB z10)) [])∧Bc z10 z15 (Lf (.v (vB (decide (((z7.length:Nat):Int)=0)))) z14 [] [])) (Bc (decide (4000<((z8.length:Nat):Int))) ((Fp 13 [.agg z9] [] (.v (vB z10)) [])∧Bc z10 z15 (Lf (.v (vB (decide (((z7.length:Nat):Int)=0)))) z14 [] [])) (Bc (decide ((Ca z7)=z6)) ((Fp 15 [.c (.seq .ev z7)] [] z12 [.lst .ev (Ca z7)])∧(Fp 16 [.agg z9,vT z8] [] z12 [.lst .ev z6])∧(Fp 14 [.c (.seq .ev (Ca z7)),.c (.seq .ev z6)] [] (.v (vB (decide ((Ca z7)=z6)))) [])∧((decide ((Ca z7)=z6))=true)∧(Fp 17 [.agg z9,vT z8] [] z12 [.lst .ev z11])∧(Fp 16 [.agg z9,vT z8] [] z12 [.lst .ev z6])∧(Fp 14 [.c (.seq .ev z11),.c (.seq .ev z6)] [] (.v (vB (decide (z11=z6)))) [])∧Lf (.v (vB (decide (z11=z6)))) z14 [] []) ((Fp 15 [.c (.seq .ev z7)] [] z12 [.lst .ev (Ca z7)])∧(Fp 16 [.agg z9,vT z8] [] z12 [.lst .ev z6])∧(Fp 14 [.c (.seq .ev (Ca z7)),.c (.seq .ev z6)] [] (.v (vB (decide ((Ca z7)=z6)))) [])∧((decide ((Ca z7)=z6))=false)∧Lf (.v (vB false)) z14 [] []))))))) Q4 ?_
 refine⟨(Asu _ Q2),dsp (fun h1 p1=>?_) fun h1 p1=>?_⟩
 exact⟨rfl,rfl⟩
 refine⟨(Z1 code Q2),fun o1 ho_o1=>?_⟩
 obtain ⟨⟨hp_o1_0,hp_o1_1,hp_o1_2⟩,hf_o1⟩:=ho_o1
 refine⟨hf_o1,(Aay o1.p _ (by have:=hp_o1_0.1;omega) Q2 Q13),(Ahr o1.p _ (by have:=hp_o1_0.1;omega) Q2 Q13),(by simp),(Aox _ Q2 Q2),(Mj o1.p),fun h2=>have q2:=Ao h2;?_,fun h2=>have q2:=An h2;have p2:=By q2;?_⟩
 have hdn:=T0 (p:=o1.p) (cs:=o1.l) q2
 refine⟨(Mj o1.p),fun h3=>have p3:=By h3;?_,fun h3=>?_⟩
 exact⟨rfl,rfl⟩
 have hdn:=T0 (p:=o1.p) (cs:=o1.l) h3
 exact⟨(sB W81),rfl⟩
 refine dsp (fun h3 p3=>?_) fun h3 p3=>?_
 refine⟨(Mj o1.p),fun h4=>have p4:=By h4;?_,fun h4=>?_⟩
 exact⟨rfl,rfl⟩
 have hdn:=T0 (p:=o1.p) (cs:=o1.l) h4
 exact⟨(sB W81),rfl⟩
 have hdw:=Ad2 (p:=o1.p) (cs:=o1.l) (by assumption) rfl (by omega)
 have hd1:=Aih (p:=o1.p) (s:=List.flatten o1.l) (by assumption) (by omega)
 have hwl:=Am6 (p:=o1.p) (s:=List.flatten o1.l) (by assumption) (by omega)
 refine dsp (fun h4 p4=>?_) fun h4 p4=>?_
 exact⟨(Ab4 _ Q13 Q13),(Afd o1.p _ Q2),(Y1 _ _ Q13 (by have:= @V5 o1.p (List.flatten o1.l);omega)),h4,(Aod o1.p _ (by have:=hp_o1_0.1;omega) Q2),(Afd o1.p _ Q2),(Y1 _ _ Q13 (by have:= @V5 o1.p (List.flatten o1.l);omega)),(sB W81),rfl⟩
 exact⟨(Ab4 _ Q13 Q13),(Afd o1.p _ Q2),(Y1 _ _ Q13 (by have:= @V5 o1.p (List.flatten o1.l);omega)),h4,(sB W81),rfl⟩
end Go.Proofs.YtphecbmdhbphgaaGreat.Ax
