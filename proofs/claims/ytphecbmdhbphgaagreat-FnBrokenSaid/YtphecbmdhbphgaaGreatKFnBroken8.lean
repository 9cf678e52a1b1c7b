/- Models: the machine beside the grammar. Models: values of the machine. Models: texts of the machine. Models: Vb of the machine. Models: messages of the machine. Models: how much text a Afb brings. Models: chunks tell what the F5 tells. Models: frames of the machine. Models: the machine and the grammar. The law FnBroken. Opening what the laws are handed. -/
import Derived.Test.YtphecbmdhbphgaaGreatKFnBroken4
import Derived.Test.YtphecbmdhbphgaaGreatKFnBroken5
import Derived.Test.YtphecbmdhbphgaaGreatKFnBroken7
import Derived.Test.YtphecbmdhbphgaaGreatKFnBroken1
import Derived.Test.YtphecbmdhbphgaaGreatKB4
set_option linter.unusedSimpArgs false
set_option linter.unusedVariables false
namespace Go.Proofs.YtphecbmdhbphgaaGreat.Ax
open Go.RowKit
/-! ### The machine beside the grammar -/
def bt (s:List UInt8) (a:Int):Int:=((s.getD a.toNat 0).toNat:Int)
theorem Apn (s:List UInt8) (a:Int):0≤bt s a∧bt s a≤255:=Ap7 _
def fed (s:List UInt8) (m:Mac) (a:Int):Mac:=Cs m (s.drop a.toNat)
theorem Ahv {s:List UInt8} {m:Mac} {a:Int} (h:(s.length:Int)≤a):fed s m a=m:=by unfold fed;rw[List.drop_eq_nil_of_le (by omega)];rfl
theorem Aj8 {s:List UInt8} {m:Mac} {a:Int} (h0:0≤a) (h:a<(s.length:Int)):fed s m a=fed s (R6 m (bt s a)) (a+1):=by
 unfold fed bt
 have hx:s[a.toNat]? =some s[a.toNat]:=List.getElem?_eq_getElem (by omega)
 rw[Ef hx,Hq,show (a+1).toNat=a.toNat+1 by omega,List.getD_eq_getElem?_getD,hx]
 rfl
theorem Aj9 {s:List UInt8} {m:Mac} (h:m.d.mode=9) (a:Int):fed s m a=m:=R7 (by unfold Fd;simp[h]) _
def Go (s:List UInt8) (m:Mac) (a:Int) (m':Mac) (a':Int):Prop:=fed s m a=fed s m' a'∧Ce m'.d=true
theorem Go.trans {s:List UInt8} {m m' m2:Mac} {a a' a2:Int} (h:Go s m a m' a') (g:Go s m' a' m2 a2):Go s m a m2 a2:=⟨h.1.trans g.1,g.2⟩
theorem Go.one {s:List UInt8} {m:Mac} {a:Int} (h0:0≤a) (h:a<(s.length:Int)) (hok:Ce m.d=true) (h9:m.d.mode≠9) (hat:m.d.at_<1000000000):Go s m a (Df m (bt s a)) (a+1):=by
 have ht:Fd m.d=true:=by unfold Fd;simp[h9,hat]
 have hs:=Xi hok ht (Apn s a)
 refine⟨by rw[Aj8 h0 h,hs],?_⟩
 rw[←hs];exact Uh hok
theorem Anm {m:Mac} {b:Int} (h:m.d.mode=6):Df m b=Em ⟨Dc m.d,m.out⟩ b:=by unfold Df;rw[if_pos h]
theorem Ann {m:Mac} {b:Int} (h:m.d.mode=7):Df m b=Ap ⟨Dc m.d,m.out⟩:=by unfold Df;rw[if_neg (by omega),if_pos h]
theorem Ahw {m:Mac} {b:Int} (h6:m.d.mode≠6) (h7:m.d.mode≠7) (h:0<Bv m.d):Df m b=Hf ⟨Dc m.d,m.out⟩ b:=by unfold Df;rw[if_neg h6,if_neg h7,if_pos h]
theorem Ahx {m:Mac} {b:Int} (h6:m.d.mode≠6) (h7:m.d.mode≠7) (h: ¬0<Bv m.d):Df m b=Dr ⟨Dc m.d,m.out⟩ b m.d.at_:=by unfold Df;rw[if_neg h6,if_neg h7,if_neg h]
def stk:Option (List Lev×Int×Int)→Int→List Lev
 |none,_=>[]
 |some (base,msg,e),x=>base++[⟨msg,e-x⟩]
def Fu (mode e x:Int):Int:=if mode=6∨mode=7∨mode=8 then e-x else 0
def sv (p:Pln) (mode:Int) (b:Option (List Lev×Int×Int)) (e x:Int) (sc:Scn) (st:Int) (f:Fld) (w:Int) (u:Utf):Dcd:=⟨p,mode,stk b x,sc,st,x,f,w,Fu mode e x,u,ev0⟩
theorem Yz {base:List Lev} {msg e x:Int} :(stk (some (base,msg,e)) x).length=base.length+1:=by simp[stk]
theorem T4 {p:Pln} {mode:Int} {base:List Lev} {msg E e x:Int} {sc:Scn} {st:Int} {f:Fld} {w:Int} {u:Utf} :Ec (sv p mode (some (base,msg,E)) e x sc st f w u)=E-x∧Gk (sv p mode (some (base,msg,E)) e x sc st f w u)=⟨msg,E-x⟩:=by
 unfold Ec Gk sv stk
 simp
theorem Aka {base:List Lev} {l l':Lev} :List.set (base++[l]) ((base++[l]).length-1) l'=base++[l']:=by
 rw[List.length_append,List.length_singleton,Nat.add_sub_cancel,List.set_append_right _ _ (Nat.le_refl _)]
 simp
theorem Y0 {p:Pln} {mode:Int} {b:Option (List Lev×Int×Int)} {e x:Int} {sc:Scn} {st:Int} {f:Fld} {w:Int} {u:Utf} :
  Dc (sv p mode b e x sc st f w u)=sv p mode b e (x+1) sc st f w u:=by
 have hw:(if mode=6∨mode=7∨mode=8 then Fu mode e x-1 else Fu mode e x)=Fu mode e (x+1):=by
  unfold Fu
  split<;>omega
 have hs:(if (stk b x).length=0 then stk b x else (stk b x).set ((stk b x).length-1) ⟨(Gk (sv p mode b e x sc st f w u)).msg,Ec (sv p mode b e x sc st f w u)-1⟩)=stk b (x+1):=by
  cases b with
  |none=>rfl
  |some b=>
   obtain ⟨base,msg,E⟩:=b
   obtain ⟨h1,h2⟩:=T4 (p:=p) (mode:=mode) (base:=base) (msg:=msg) (E:=E) (e:=e) (x:=x) (sc:=sc) (st:=st) (f:=f) (w:=w) (u:=u)
   rw[h1,h2,if_neg (by rw[Yz];omega)]
   unfold stk
   rw[Aka,show E-x-1=E-(x+1) by omega]
 show Dcd.mk p mode (if (stk b x).length=0 then stk b x else (stk b x).set ((stk b x).length-1) ⟨(Gk (sv p mode b e x sc st f w u)).msg,Ec (sv p mode b e x sc st f w u)-1⟩) sc st (x+1) f w (if mode=6∨mode=7∨mode=8 then Fu mode e x-1 else Fu mode e x) u ev0=_
 rw[hs,hw];rfl
def Aes (mode:Int) (m:Mac) (u:Int):Mac:=if mode=1 then Ee m u else if mode=2 then Lj m u else if mode=4 then E2 m u else Ap (Cb m u)
def Aqi (s:List UInt8) (m:Mac):Prop:=m.d.mode≠9∧¬(m.d.mode=1∧m.d.scan.have_=0)∧m.d.at_=(s.length:Int)∧Ce m.d=true
def Ends (s:List UInt8) (q:Mac) (o:List Ev) (c x:Int):Prop:=(c=10→x=(s.length:Int)∧Aqi s q∧q.out=o)∧(c≠10→q.d.mode=9∧q.out=o++[Bh c x])
theorem Ends.of_fail {s:List UInt8} {m m1:Mac} {a a' c x:Int} (h:Go s m a (A3 m1 c x) a') (hc:c≠10):Ends s (fed s m a) m1.out c x:=by
 rw[h.1,Aj9 rfl];exact⟨fun h=>absurd h hc,fun _=>⟨rfl,rfl⟩⟩
theorem Ends.go {s:List UInt8} {m m':Mac} {a a' c x:Int} {o:List Ev} (h:Go s m a m' a') (g:Ends s (fed s m' a') o c x):Ends s (fed s m a) o c x:=by rw[h.1];exact g
theorem Ends.cut {s:List UInt8} {m:Mac} {a x:Int} (hok:Ce m.d=true) (h9:m.d.mode≠9) (h1: ¬(m.d.mode=1∧m.d.scan.have_=0)) (ha:m.d.at_=(s.length:Int)) (hl:(s.length:Int)≤a) (hx:x=(s.length:Int)):Ends s (fed s m a) m.out 10 x:=by
 rw[Ahv hl];exact⟨fun _=>⟨hx,⟨h9,h1,ha,hok⟩,rfl⟩,fun h=>absurd rfl h⟩
def isS (mode:Int):Bool:=decide (mode=1)||decide (mode=2)||decide (mode=4)
theorem Ano {mode:Int} :isS mode=true↔(mode=1∨mode=2∨mode=4):=by unfold isS;simp[or_assoc]
structure Sc (s:List UInt8) (mode:Int) (b:Option (List Lev×Int×Int)) (e:Int) (f:Fld):Prop where
 m:mode=1∨mode=2∨mode=3∨mode=4∨mode=8
 one:mode=1→b=none∧e=maxI
 lim:mode≠1→∃base msg E,b=some (base,msg,E)∧e≤E∧(mode≠8→e=E)
 w8:mode=8→Ak (Ba f.kind)=0
 len:s.length≤4000
theorem Anp {s:List UInt8} {p:Pln} {mode:Int} {b:Option (List Lev×Int×Int)} {e:Int} {f:Fld} (h:Sc s mode b e f) {x:Int} {sc:Scn} {st:Int} {w:Int} {u:Utf} (hok:Ce (sv p mode b e x sc st f w u)=true):Bv (sv p mode b e x sc st f w u)=0∧E1 sc=true:=by
 have hm:=h.m
 have hw:Bv (sv p mode b e x sc st f w u)=0:=by
  unfold Bv sv
  dsimp only
  rw[if_neg (by omega)]
  split
  ·rename_i h8;exact h.w8 h8
  ·rfl
 refine⟨hw,?_⟩
 have hsd:=(Qu hok).2.2.2.2.2.2.2.2.2.2.2
 unfold J6 at hsd
 rw[hw,if_neg (by omega),if_neg (show¬((sv p mode b e x sc st f w u).mode=6∨(sv p mode b e x sc st f w u).mode=7∨(sv p mode b e x sc st f w u).mode=9) by unfold sv;dsimp only;omega)] at hsd
 exact hsd
theorem Ahy {u k b:Int} (hs:E1 ⟨u,k⟩=true) (hk:0≤k) (hb:0≤b∧b≤255):((k=9∧1<b)→An ⟨u,k⟩ b=(⟨u,k⟩,2))∧(¬(k=9∧1<b)→An ⟨u,k⟩ b=(⟨u+b % 128*2 ^ (7*k).toNat,k+1⟩,if b<128 then 1 else 0)):=by
 have hw:Ai b 0 255=true:=by simp only[Ai,Bool.and_eq_true,decide_eq_true_eq];exact hb
 unfold An
 constructor
 ·intro h;rw[if_pos (.inr (.inr h))]
 ·intro h
  rw[if_neg (by rw[hs,hw];simp only[Bool.true_eq_false,false_or];exact h),show (7*k).toNat=7*k.toNat by omega]
theorem Ac9 {s:List UInt8} {p:Pln} {mode:Int} {b:Option (List Lev×Int×Int)} {e:Int} {f:Fld} (h:Sc s mode b e f) {w:Int} {ut:Utf} {o:List Ev} {a:Int} (ha:0≤a) {k u st:Int} (hk:0≤k) (hk9:k≤9) (hlt:a+k<e) (hle:a+k<(s.length:Int)) (hst:isS mode=true→0<k→st=a) (hok:Ce (sv p mode b e (a+k) ⟨u,k⟩ st f w ut)=true):
  ∃st',(isS mode=true→st'=a)∧(isS mode=false→st'=st)∧
   (k=9∧1<bt s (a+k)→Ends s (fed s ⟨sv p mode b e (a+k) ⟨u,k⟩ st f w ut,o⟩ (a+k)) o 1 (a+k))∧
   (¬(k=9∧1<bt s (a+k))→bt s (a+k)<128→Go s ⟨sv p mode b e (a+k) ⟨u,k⟩ st f w ut,o⟩ (a+k) (Aes mode ⟨sv p mode b e (a+k+1) scn0 st' f w ut,o⟩ (u+bt s (a+k) % 128*2 ^ (7*k).toNat)) (a+k+1))∧
   (¬(k=9∧1<bt s (a+k))→¬bt s (a+k)<128→(e≤a+k+1→Ends s (fed s ⟨sv p mode b e (a+k) ⟨u,k⟩ st f w ut,o⟩ (a+k)) o 9 e)∧(a+k+1<e→Go s ⟨sv p mode b e (a+k) ⟨u,k⟩ st f w ut,o⟩ (a+k) ⟨sv p mode b e (a+k+1) ⟨u+bt s (a+k) % 128*2 ^ (7*k).toNat,k+1⟩ st' f w ut,o⟩ (a+k+1))):=by
 obtain ⟨hw,hsc⟩:=Anp h hok
 have hm:=h.m
 have hlen:=h.len
 have hb:=Apn s (a+k)
 have G:=Go.one (s:=s) (m:=⟨sv p mode b e (a+k) ⟨u,k⟩ st f w ut,o⟩) (a:=a+k) (by omega) hle hok (show mode≠9 by omega) (show a+k<1000000000 by omega)
 have hby:Df ⟨sv p mode b e (a+k) ⟨u,k⟩ st f w ut,o⟩ (bt s (a+k))=Dr ⟨sv p mode b e (a+k+1) ⟨u,k⟩ st f w ut,o⟩ (bt s (a+k)) (a+k):=by
  rw[Ahx (show mode≠6 by omega) (show mode≠7 by omega) (by show¬0<Bv (sv p mode b e (a+k) ⟨u,k⟩ st f w ut);omega)]
  dsimp only
  rw[Y0]
  rfl
 have hst1:No (sv p mode b e (a+k+1) ⟨u,k⟩ st f w ut) (a+k)=sv p mode b e (a+k+1) ⟨u,k⟩ (if isS mode=true then a else st) f w ut:=by
  have:(if k=0∧(mode=1∨mode=2∨mode=4) then a+k else st)=(if isS mode=true then a else st):=by
   by_cases hs:isS mode=true
   ·rw[if_pos hs]
    by_cases hk0:k=0
    ·rw[if_pos ⟨hk0,Ano.1 hs⟩];omega
    ·rw[if_neg (fun h=>hk0 h.1)];exact hst hs (by omega)
   ·rw[if_neg hs,if_neg (fun h=>hs (Ano.2 h.2))]
  unfold No sv
  dsimp only
  rw[this]
 rw[hby] at G
 unfold Dr at G
 rw[hst1,show (Mac.mk (sv p mode b e (a+k+1) ⟨u,k⟩ st f w ut) o).d.scan=⟨u,k⟩ from rfl] at G
 obtain ⟨hs1,hs2⟩:=Ahy hsc hk hb
 refine⟨if isS mode=true then a else st,fun h=>if_pos h,fun h=>if_neg (by simp[h]),fun h9=>?_,fun h9 hlo=>?_,fun h9 hhi=>?_⟩
 ·rw[hs1 h9,if_pos rfl] at G
  exact Ends.of_fail G Q18
 ·rw[hs2 h9,if_pos hlo,if_neg (show¬(1:Int)=2 by decide),if_neg (show¬(1:Int)=0 by decide)] at G
  exact G
 ·rw[hs2 h9,if_neg hhi,if_neg (show¬(0:Int)=2 by decide),if_pos rfl] at G
  unfold Zt at G
  constructor
  ·intro hx
   have:((Mac.mk (sv p mode b e (a+k+1) ⟨u,k⟩ st f w ut) o).d.mode≠1∧Ec (Mac.mk (sv p mode b e (a+k+1) ⟨u,k⟩ st f w ut) o).d=0)∨((Mac.mk (sv p mode b e (a+k+1) ⟨u,k⟩ st f w ut) o).d.mode=8∧(Mac.mk (sv p mode b e (a+k+1) ⟨u,k⟩ st f w ut) o).d.want=0):=by
    by_cases h1:mode=1
    ·have:=(h.one h1).2
     unfold maxI at this
     omega
    ·obtain ⟨base,msg,E,rfl,he,hne⟩:=h.lim h1
     by_cases h8:mode=8
     ·right
      refine⟨h8,?_⟩
      show Fu mode e (a+k+1)=0
      unfold Fu;rw[if_pos (by omega)];omega
     ·left
      refine⟨h1,?_⟩
      show Ec (sv p mode _ e (a+k+1) ⟨u,k⟩ st f w ut)=0
      rw[T4.1]
      have:=hne h8
      omega
   rw[if_pos this] at G
   have he:e=a+k+1:=by omega
   have G2:Ends s (fed s ⟨sv p mode b e (a+k) ⟨u,k⟩ st f w ut,o⟩ (a+k)) o 9 (a+k+1):=Ends.of_fail G (by decide)
   rw[←he] at G2
   exact G2
  ·intro hx
   have: ¬(((Mac.mk (sv p mode b e (a+k+1) ⟨u,k⟩ st f w ut) o).d.mode≠1∧Ec (Mac.mk (sv p mode b e (a+k+1) ⟨u,k⟩ st f w ut) o).d=0)∨((Mac.mk (sv p mode b e (a+k+1) ⟨u,k⟩ st f w ut) o).d.mode=8∧(Mac.mk (sv p mode b e (a+k+1) ⟨u,k⟩ st f w ut) o).d.want=0)):=by
    rintro (⟨h1,h2⟩|⟨h1,h2⟩)
    ·obtain ⟨base,msg,E,rfl,he,hne⟩:=h.lim h1
     have h2:Ec (sv p mode (some (base,msg,E)) e (a+k+1) ⟨u,k⟩ st f w ut)=0:=h2
     rw[T4.1] at h2
     omega
    ·have h1:mode=8:=h1
     have h2:Fu mode e (a+k+1)=0:=h2
     unfold Fu at h2
     rw[if_pos (by omega)] at h2
     omega
   rw[if_neg this] at G
   exact G
theorem Ada (s:List UInt8) (a e:Int) (f:Nat) (k u:Int):vwA s a e (f+1) k u=if e≤a+k then (0,e,9)
  else if (s.length:Int)≤a+k then (0,(s.length:Int),10)
  else if k=9∧1<((s.getD (a+k).toNat 0).toNat:Int) then (0,a+k,1)
  else if ((s.getD (a+k).toNat 0).toNat:Int)<128 then (u+((s.getD (a+k).toNat 0).toNat:Int) % 128*2 ^ (7*k).toNat,a+k+1,0)
  else vwA s a e f (k+1) (u+((s.getD (a+k).toNat 0).toNat:Int) % 128*2 ^ (7*k).toNat):=rfl
def Aqb (s:List UInt8) (m:Mac) (x:Int) (p:Pln) (mode:Int) (b:Option (List Lev×Int×Int)) (e st0 a:Int) (f:Fld) (w:Int) (ut:Utf) (o:List Ev) (r:Int×Int×Int):Prop:=
 (r.2.2=0→∃st',(isS mode=true→st'=a)∧(isS mode=false→st'=st0)∧Go s m x (Aes mode ⟨sv p mode b e r.2.1 scn0 st' f w ut,o⟩ r.1) r.2.1)∧(r.2.2≠0→Ends s (fed s m x) o r.2.2 r.2.1)
theorem Akb {s:List UInt8} {p:Pln} {mode:Int} {b:Option (List Lev×Int×Int)} {e:Int} {f:Fld} (h:Sc s mode b e f) {w:Int} {ut:Utf} {o:List Ev} {a:Int} (ha:0≤a):
  ∀(n:Nat) (k u st:Int),0≤k→k+(n:Int)=9→a+k<e→a+k≤(s.length:Int)→(mode=1→k=0→a<(s.length:Int))→(isS mode=true→0<k→st=a)→Ce (sv p mode b e (a+k) ⟨u,k⟩ st f w ut)=true→
   Aqb s ⟨sv p mode b e (a+k) ⟨u,k⟩ st f w ut,o⟩ (a+k) p mode b e st a f w ut o (vwA s a e (n+1) k u):=by
 intro n
 induction n with
 |zero=>
  intro k u st hk hn hlt hle h1 hst hok
  have hm:=h.m
  rw[Ada,if_neg (by omega)]
  by_cases h2:(s.length:Int)≤a+k
  ·rw[if_pos h2]
   refine⟨fun h=>by simp at h,fun _=>Ends.cut (m:=⟨sv p mode b e (a+k) ⟨u,k⟩ st f w ut,o⟩) hok (show mode≠9 by omega) ?_ (show a+k=(s.length:Int) by omega) h2 rfl⟩
   rintro ⟨h3,h4⟩
   have:=h1 h3 h4
   have h4:k=0:=h4
   omega
  ·rw[if_neg h2]
   obtain ⟨st',hs1,hs2,hs3,hs4,hs5⟩:=Ac9 (o:=o) h ha hk (by omega) hlt (by omega) hst hok
   have hbt:((s.getD (a+k).toNat 0).toNat:Int)=bt s (a+k):=rfl
   rw[hbt]
   by_cases h9:k=9∧1<bt s (a+k)
   ·rw[if_pos h9]
    exact⟨fun h=>by simp at h,fun _=>hs3 h9⟩
   ·rw[if_neg h9,if_pos (by omega)]
    exact⟨fun _=>⟨st',hs1,hs2,hs4 h9 Q2⟩,fun h=>absurd rfl h⟩
 |succ n ih=>
  intro k u st hk hn hlt hle h1 hst hok
  have hm:=h.m
  rw[Ada,if_neg (by omega)]
  by_cases h2:(s.length:Int)≤a+k
  ·rw[if_pos h2]
   refine⟨fun h=>by simp at h,fun _=>Ends.cut (m:=⟨sv p mode b e (a+k) ⟨u,k⟩ st f w ut,o⟩) hok (show mode≠9 by omega) ?_ (show a+k=(s.length:Int) by omega) h2 rfl⟩
   rintro ⟨h3,h4⟩
   have:=h1 h3 h4
   have h4:k=0:=h4
   omega
  ·rw[if_neg h2]
   obtain ⟨st',hs1,hs2,hs3,hs4,hs5⟩:=Ac9 (o:=o) h ha hk (by omega) hlt (by omega) hst hok
   have hbt:((s.getD (a+k).toNat 0).toNat:Int)=bt s (a+k):=rfl
   rw[hbt]
   by_cases h9:k=9∧1<bt s (a+k)
   ·rw[if_pos h9]
    exact⟨fun h=>by simp at h,fun _=>hs3 h9⟩
   ·rw[if_neg h9]
    by_cases hlo:bt s (a+k)<128
    ·rw[if_pos hlo]
     exact⟨fun _=>⟨st',hs1,hs2,hs4 h9 hlo⟩,fun h=>absurd rfl h⟩
    ·rw[if_neg hlo]
     obtain ⟨h5,h6⟩:=hs5 h9 hlo
     by_cases he:e≤a+k+1
     ·rw[Ada,if_pos (by omega)]
      exact⟨fun h=>by simp at h,fun _=>h5 he⟩
     ·have G:=h6 (by omega)
      have I:=ih (k+1) (u+bt s (a+k) % 128*2 ^ (7*k).toNat) st' (by omega) (by omega) (by omega) (by omega) (fun _ hk0=>by omega) (fun hi _=>hs1 hi) (by rw[show a+(k+1)=a+k+1 by omega];exact G.2)
      rw[show a+(k+1)=a+k+1 by omega] at I
      refine⟨fun h=>?_,fun h=>(I.2 h).go G⟩
      obtain ⟨st2,g1,g2,g3⟩:=I.1 h
      exact⟨st2,g1,fun hf=>(g2 hf).trans (hs2 hf),G.trans g3⟩
theorem Y1 {s:List UInt8} {p:Pln} {mode:Int} {b:Option (List Lev×Int×Int)} {e:Int} {f:Fld} (h:Sc s mode b e f) {w:Int} {ut:Utf} {o:List Ev} {a st:Int} (ha:0≤a) (hl:a≤(s.length:Int)) (he:a<e) (h1:mode=1→a<(s.length:Int)) (hok:Ce (sv p mode b e a scn0 st f w ut)=true):
  Aqb s ⟨sv p mode b e a scn0 st f w ut,o⟩ a p mode b e st a f w ut o (Ae s a e):=by
 have:=Akb (o:=o) h ha 9 0 0 st (by omega) (by omega) (by omega) (by omega) (fun hm _=>h1 hm) (fun _ hk=>by omega) (by rw[Int.add_zero];exact hok)
 rw[Int.add_zero] at this
 unfold Ae
 rw[if_pos (by simp only[Ai,Bool.and_eq_true,decide_eq_true_eq];exact⟨ha,hl⟩)]
 exact this
/-! ### Values -/
theorem Akc {u b:Int} {k:Nat} (hk:k≤7) (hb:0≤b∧b≤255) (hu:0≤u) (hu2:u<2 ^ (8*k)):B7 ⟨u,(k:Int)⟩ b=⟨u+b*2 ^ (8*k),(k:Int)+1⟩:=by
 have h:=Aoh (c:=b) (k:=k) hk hb.1 hb.2
 have hw:Ai (k:Int) 0 7=true:=by simp only[Ai,Bool.and_eq_true,decide_eq_true_eq];omega
 have hwb:Ai b 0 255=true:=by simp only[Ai,Bool.and_eq_true,decide_eq_true_eq];exact hb
 unfold B7
 dsimp only
 rw[if_pos ⟨hw,hwb⟩,show min (Int.toNat (8*(k:Int))) 64=8*k by omega,IntKind.wrap_u64,IntKind.wrap_u64,Int.emod_eq_of_lt h.1 (by omega),Int.emod_eq_of_lt (by omega) (by omega)]
def Te (mode:Int) (m:Mac) (W rest U:Int):Mac:=if mode=8∧0<rest∧rest<W then A3 (Cb m U) 9 m.d.at_ else Ap (Cb m U)
theorem Anq {s:List UInt8} {p:Pln} {mode:Int} {base:List Lev} {msg E e:Int} {f:Fld} {w:Int} {ut:Utf} {o:List Ev} {a W st:Int} (hm:mode=5∧Ak w=W∨mode=8∧Ak (Ba f.kind)=W) (hW0:0<W) (ha:0≤a) (hlen:s.length≤4000):
  ∀(n k:Nat),(k:Int)+(n:Int)+1=W→a+k≤(s.length:Int)→Ce (sv p mode (some (base,msg,E)) e (a+k) ⟨(Cg ((s.drop a.toNat).take k):Int),k⟩ st f w ut)=true→
   (a+W≤(s.length:Int)→Go s ⟨sv p mode (some (base,msg,E)) e (a+k) ⟨(Cg ((s.drop a.toNat).take k):Int),k⟩ st f w ut,o⟩ (a+k) (Te mode ⟨sv p mode (some (base,msg,E)) e (a+W) scn0 st f w ut,o⟩ W (e-(a+W)) (Cg ((s.drop a.toNat).take W.toNat):Int)) (a+W))∧
   ((s.length:Int)<a+W→Ends s (fed s ⟨sv p mode (some (base,msg,E)) e (a+k) ⟨(Cg ((s.drop a.toNat).take k):Int),k⟩ st f w ut,o⟩ (a+k)) o 10 (s.length:Int)):=by
 have hW:W=4∨W=8:=by
  rcases hm with h|h
  ·have:=Ms w;omega
  ·have:=Ms (Ba f.kind);omega
 have hwd: ∀ {x:Int} {sc:Scn},Bv (sv p mode (some (base,msg,E)) e x sc st f w ut)=W:=by
  intro x sc
  unfold Bv sv
  dsimp only
  rcases hm with h|h
  ·rw[if_pos h.1];exact h.2
  ·rw[if_neg (by omega),if_pos h.1];exact h.2
 intro n
 induction n with
 |zero=>?_
 |succ n ih=>?_
 all_goals
  intro k hn hle hok
  by_cases h2:(s.length:Int)≤a+k
  ·refine⟨fun h=>by omega,fun _=>Ends.cut (m:=⟨sv p mode (some (base,msg,E)) e (a+k) ⟨(Cg ((s.drop a.toNat).take k):Int),k⟩ st f w ut,o⟩) hok (show mode≠9 by omega) (fun h=>?_) (show a+(k:Int)=(s.length:Int) by omega) h2 rfl⟩
   have h1:mode=1:=h.1
   omega
  have hx:s[a.toNat+k]? =some s[a.toNat+k]:=List.getElem?_eq_getElem (by omega)
  have hbt:bt s (a+k)=(s[a.toNat+k].toNat:Int):=by
   unfold bt
   rw[List.getD_eq_getElem?_getD,show (a+(k:Int)).toNat=a.toNat+k by omega,hx];rfl
  have hb:=Apn s (a+k)
  have hgl:=Ss ((s.drop a.toNat).take k)
  have hll:((s.drop a.toNat).take k).length=k:=by rw[List.length_take,List.length_drop];omega
  rw[hll] at hgl
  have hgl':((Cg ((s.drop a.toNat).take k):Nat):Int)<2 ^ (8*k):=by exact_mod_cast hgl
  have hnx:((Cg ((s.drop a.toNat).take (k+1)):Nat):Int)=(Cg ((s.drop a.toNat).take k):Int)+bt s (a+k)*2 ^ (8*k):=by
   rw[Af6 hx,Tt,hll,hbt]
   push_cast;rfl
  have G:=Go.one (s:=s) (m:=⟨sv p mode (some (base,msg,E)) e (a+k) ⟨(Cg ((s.drop a.toNat).take k):Int),k⟩ st f w ut,o⟩) (a:=a+k) (by omega) (by omega) hok (show mode≠9 by omega) (show a+(k:Int)<1000000000 by omega)
  have hby:Df ⟨sv p mode (some (base,msg,E)) e (a+k) ⟨(Cg ((s.drop a.toNat).take k):Int),k⟩ st f w ut,o⟩ (bt s (a+k))=Hf ⟨sv p mode (some (base,msg,E)) e (a+k+1) ⟨(Cg ((s.drop a.toNat).take k):Int),k⟩ st f w ut,o⟩ (bt s (a+k)):=by
   rw[Ahw (show mode≠6 by omega) (show mode≠7 by omega) (by show 0<Bv (sv p mode (some (base,msg,E)) e (a+k) ⟨(Cg ((s.drop a.toNat).take k):Int),k⟩ st f w ut);rw[hwd];exact hW0)]
   dsimp only
   rw[Y0]
  rw[hby] at G
  unfold Hf at G
  rw[show (Mac.mk (sv p mode (some (base,msg,E)) e (a+k+1) ⟨(Cg ((s.drop a.toNat).take k):Int),k⟩ st f w ut) o).d.scan=⟨(Cg ((s.drop a.toNat).take k):Int),(k:Int)⟩ from rfl,Akc (by omega) hb (by omega) hgl',hwd,←hnx] at G
  dsimp only at G
 ·rw[if_neg (by omega)] at G
  have hWk:W=(k:Int)+1:=by omega
  refine⟨fun _=>?_,fun h=>by omega⟩
  rw[show W.toNat=k+1 by omega,show a+W=a+(k:Int)+1 by omega]
  unfold Te
  by_cases hc:mode=8∧0<e-(a+(k:Int)+1)∧e-(a+(k:Int)+1)<W
  ·rw[if_pos hc]
   rw[if_pos (by
    refine⟨hc.1,?_⟩
    show 0<Fu mode e (a+k+1)∧Fu mode e (a+k+1)<W
    unfold Fu;rw[if_pos (by omega)];exact hc.2)] at G
   exact G
  ·rw[if_neg hc]
   rw[if_neg (by
    rintro ⟨h8,h⟩
    have h:0<Fu mode e (a+k+1)∧Fu mode e (a+k+1)<W:=h
    have h8:mode=8:=h8
    unfold Fu at h;rw[if_pos (Or.inr (Or.inr h8))] at h
    exact hc ⟨h8,h⟩)] at G
   exact G
 ·rw[if_pos (by omega)] at G
  have G:Go s ⟨sv p mode (some (base,msg,E)) e (a+k) ⟨(Cg ((s.drop a.toNat).take k):Int),k⟩ st f w ut,o⟩ (a+k) ⟨sv p mode (some (base,msg,E)) e (a+((k+1:Nat):Int)) ⟨(Cg ((s.drop a.toNat).take (k+1)):Int),((k+1:Nat):Int)⟩ st f w ut,o⟩ (a+((k+1:Nat):Int)):=by
   rw[show a+((k+1:Nat):Int)=a+(k:Int)+1 by omega,show ((k+1:Nat):Int)=(k:Int)+1 by omega]
   exact G
  have I:=ih (k+1) (by omega) (by omega) G.2
  exact⟨fun h=>G.trans (I.1 h),fun h=>(I.2 h).go G⟩
theorem Ahz {r:Mr} {w e:Int} (h:Hs r w e=true):K7 r w e=(Cg ((r.s.drop r.at_.toNat).take w.toNat):Int):=by
 unfold K7;rw[if_pos h]
 simp only[Hs,Bool.and_eq_true] at h
 unfold Ln;rw[if_pos h.2]
theorem Ah0 {s:List UInt8} {p:Pln} {mode:Int} {base:List Lev} {msg E e:Int} {f:Fld} {w:Int} {ut:Utf} {o:List Ev} {a st wire:Int} {r:Mr} (hm:mode=3∧Ak wire=0∨mode=5∧0<Ak wire∧wire=w∨mode=8∧wire=Ba f.kind) (hE:e≤E) (h8:mode≠8→e=E) (hlen:s.length≤4000) (hs:r.s=s) (hra:r.at_=a) (ha:0≤a) (hl:a≤(s.length:Int)) (hr:a+max (Ak wire) 1≤e) (hok:Ce (sv p mode (some (base,msg,E)) e a scn0 st f w ut)=true):
  (∃y,E7 r wire e=true∧E3 r wire e=F0 r y∧Go s ⟨sv p mode (some (base,msg,E)) e a scn0 st f w ut,o⟩ a (Te mode ⟨sv p mode (some (base,msg,E)) e y scn0 st f w ut,o⟩ (Ak wire) (e-y) (Gt r wire e)) y)∨
  (∃c x,E7 r wire e=false∧E3 r wire e=Cw r c x∧Ends s (fed s ⟨sv p mode (some (base,msg,E)) e a scn0 st f w ut,o⟩ a) o c x):=by
 subst hra
 unfold E7 E3 Gt
 by_cases hW:0<Ak wire
 ·rw[if_pos hW,if_pos hW,if_pos hW]
  have hm':mode=5∧Ak w=Ak wire∨mode=8∧Ak (Ba f.kind)=Ak wire:=by
   rcases hm with h|h|h
   ·omega
   ·exact .inl ⟨h.1,by rw[h.2.2]⟩
   ·exact .inr ⟨h.1,by rw[h.2]⟩
  have hcs:=Ms wire
  have F:=Anq (s:=s) (p:=p) (base:=base) (msg:=msg) (E:=E) (e:=e) (ut:=ut) (o:=o) (st:=st) hm' hW ha hlen ((Ak wire).toNat-1) 0 (by omega) (by omega) (by rw[show r.at_+((0:Nat):Int)=r.at_ by omega];exact hok)
  rw[show r.at_+((0:Nat):Int)=r.at_ by omega] at F
  have hwk:Qs (Ak wire)=true:=by rcases hcs with h|h|h<;>rw[h] at hW ⊢ <;>first|(exfalso;omega)|decide
  by_cases hx:r.at_+Ak wire≤(s.length:Int)
  ·left
   have hfx:Dx r.s r.at_ (Ak wire)=true:=by
    simp only[Dx,hwk,Bool.true_and,Ai,Bool.and_eq_true,decide_eq_true_eq]
    rw[hs];omega
   have hok2:Hs r (Ak wire) e=true:=by
    unfold Hs;rw[hfx,decide_eq_true (by omega)];rfl
   refine⟨r.at_+Ak wire,hok2,?_,?_⟩
   ·unfold Ha;rw[if_neg (by omega),if_pos hfx]
   ·rw[Ahz hok2,hs];exact F.1 hx
  ·right
   have hfx:Dx r.s r.at_ (Ak wire)=false:=by
    cases h:Dx r.s r.at_ (Ak wire) with
    |false=>rfl
    |true=>have:=Ly h;rw[hs] at this;omega
   refine⟨10,(s.length:Int),by unfold Hs;rw[hfx,Bool.and_false],?_,F.2 Q2⟩
   unfold Ha;rw[if_neg (by omega),hfx,if_neg (by simp),hs]
 ·have hcs:=Dh wire
  have hW0:Ak wire=0:=by omega
  rw[if_neg hW,if_neg hW,if_neg hW]
  have hsc:Sc s mode (some (base,msg,E)) e f:=⟨by omega,fun h=>by omega,fun _=>⟨base,msg,E,rfl,hE,h8⟩,fun h=>by rcases hm with h1|h1|h1<;>first|(exfalso;omega)|(rw[←h1.2];exact hW0),hlen⟩
  have V:=Y1 (o:=o) hsc ha hl (by omega) (fun h=>by omega) hok
  have hns:isS mode=false:=by
   cases h:isS mode with
   |false=>rfl
   |true=>have:=Ano.1 h;omega
  unfold Bq Az A5
  unfold Bq
  rw[hs]
  by_cases hc:(Ae s r.at_ e).2.2=0
  ·left
   rw[decide_eq_true hc]
   obtain ⟨st',-,h2,h3⟩:=V.1 hc
   rw[h2 hns] at h3
   refine⟨(Ae s r.at_ e).2.1,rfl,rfl,?_⟩
   unfold Aes at h3
   rw[if_neg (by omega),if_neg (by omega),if_neg (by omega)] at h3
   unfold Te
   rw[if_neg (by omega)]
   exact h3
  ·right
   rw[decide_eq_false hc]
   exact⟨_,_,rfl,rfl,V.2 hc⟩
/-! ### Texts -/
def Ei (t:List UInt8):List Ev:=t.map fun b=>Du [b]
def Bd (l:List Ev):List Ev:=l.flatMap fun e=>if e.kind=4 then Ei e.text else [e]
theorem Xx (a b:List Ev):Bd (a++b)=Bd a++Bd b:=List.flatMap_append
theorem Dw {l:List Ev} {e:Ev} (h:e.kind≠4):Bd (l++[e])=Bd l++[e]:=by
 rw[Xx];simp[Bd,h]
theorem V8 {l:List Ev} {t:List UInt8} :Bd (l++[Du t])=Bd l++Ei t:=by
 rw[Xx];simp[Bd,Du]
theorem Ah1 {d:Dcd} {o:List Ev} (h6: ¬(d.mode=6∧d.want<1)) (h7: ¬((d.mode=7∨(d.mode=8∧d.scan.have_=0))∧d.want<1)) (h2: ¬(d.mode=2∧d.scan.have_=0∧0<d.stack.length∧Ec d=0)):A2 ⟨d,o⟩=none:=by
 unfold A2;dsimp only;rw[if_neg h6,if_neg h7,if_neg h2]
theorem Aaj {d:Dcd} {o:List Ev} (h6:d.mode≠6) (h:(d.mode=7∨(d.mode=8∧d.scan.have_=0))∧d.want<1):A2 ⟨d,o⟩=some ⟨⟨d.plan,2,d.stack,d.scan,d.start,d.at_,d.field,d.wire,0,d.utf,d.end_⟩,o⟩:=by
 unfold A2;dsimp only;rw[if_neg (fun x=>h6 x.1),if_pos h]
theorem Abu {d:Dcd} {o:List Ev} (h:d.mode=6∧d.want<1) (hu: ¬0<d.utf.want):A2 ⟨d,o⟩=some ⟨⟨d.plan,2,d.stack,d.scan,d.start,d.at_,d.field,d.wire,0,⟨0,0,0⟩,d.end_⟩,o++[W7]⟩:=by
 unfold A2;dsimp only;rw[if_pos h,if_neg hu]
theorem V9 {d:Dcd} {o:List Ev} (h:(d.mode=6∨d.mode=7∨d.mode=8)∧1≤d.want):Ap ⟨d,o⟩=⟨d,o⟩:=by
 apply B6
 unfold A2
 dsimp only
 rw[if_neg (by omega),if_neg (by omega),if_neg (by omega)]
theorem Tf {p:Pln} {mode:Int} {b:Option (List Lev×Int×Int)} {e x:Int} {sc:Scn} {st:Int} {f:Fld} {w:Int} {u:Utf} (h:mode=6∨mode=7∨mode=8):(sv p mode b e x sc st f w u).want=e-x:=by
 show Fu mode e x=e-x
 unfold Fu;rw[if_pos h]
theorem Anr {s:List UInt8} {x:Nat} {c:UInt8} (h:s[x]? =some c):Aba (bt s (x:Int))=Du [c]:=by
 unfold bt
 rw[Int.toNat_natCast,List.getD_eq_getElem?_getD,h]
 simp[Aba,Du,Bk]
theorem Akd {s:List UInt8} {p:Pln} {b:Option (List Lev×Int×Int)} {e:Int} {f:Fld} {w st a0:Int} (hlen:s.length≤4000):
  ∀(n i:Nat) (u:Utf) (o:List Ev),a0+i+n=e→0≤a0→a0+i≤(s.length:Int)→Ce (Ap ⟨sv p 6 b e (a0+i) scn0 st f w u,o⟩).d=true→
   (f.kind=6→∀j,(D8 u ((s.drop (a0.toNat+i)).take n) i).2=some j→Ends s (fed s (Ap ⟨sv p 6 b e (a0+i) scn0 st f w u,o⟩) (a0+i)) (o++Ei (((s.drop (a0.toNat+i)).take n).take (j-i))) 5 (a0+j))∧
   ((f.kind=6→(D8 u ((s.drop (a0.toNat+i)).take n) i).2=none)→(s.length:Int)<e→Ends s (fed s (Ap ⟨sv p 6 b e (a0+i) scn0 st f w u,o⟩) (a0+i)) (o++Ei ((s.drop (a0.toNat+i)).take n)) 10 (s.length:Int))∧
   ((f.kind=6→(D8 u ((s.drop (a0.toNat+i)).take n) i).2=none)→e≤(s.length:Int)→Go s (Ap ⟨sv p 6 b e (a0+i) scn0 st f w u,o⟩) (a0+i) (Ap ⟨sv p 6 b e e scn0 st f w (if f.kind=6 then (D8 u ((s.drop (a0.toNat+i)).take n) i).1 else u),o++Ei ((s.drop (a0.toNat+i)).take n)⟩) e):=by
 intro n
 induction n with
 |zero=>
  intro i u o he h0 hl hok
  rw[List.take_zero]
  refine⟨fun _ j hj=>by simp[D8] at hj,fun _ h=>by omega,fun _ _=>?_⟩
  have hu:(if f.kind=6 then (D8 u [] i).1 else u)=u:=by unfold D8;simp
  rw[hu,show Ei []=[] from rfl,List.append_nil,show a0+(i:Int)=e by omega]
  rw[show a0+(i:Int)=e by omega] at hok
  exact⟨rfl,hok⟩
 |succ n ih=>
  intro i u o he h0 hl hok
  have hon:Ap ⟨sv p 6 b e (a0+i) scn0 st f w u,o⟩=⟨sv p 6 b e (a0+i) scn0 st f w u,o⟩:=V9 ⟨.inl rfl,by rw[Tf (.inl rfl)];omega⟩
  rw[hon] at hok ⊢
  by_cases h2:(s.length:Int)≤a0+i
  ·have hnil:s.drop (a0.toNat+i)=[]:=List.drop_eq_nil_of_le (by omega)
   rw[hnil,List.take_nil]
   refine⟨fun _ j hj=>by simp[D8] at hj,fun _ _=>?_,fun _ h=>by omega⟩
   have:=Ends.cut (s:=s) (m:=⟨sv p 6 b e (a0+i) scn0 st f w u,o⟩) (a:=a0+i) (x:=(s.length:Int)) hok (show (6:Int)≠9 by decide) (fun h=>absurd h.1 (show (6:Int)≠1 by decide)) (show a0+(i:Int)=(s.length:Int) by omega) h2 rfl
   rw[show Ei []=[] from rfl,List.append_nil];exact this
  ·have hx:s[a0.toNat+i]? =some s[a0.toNat+i]:=List.getElem?_eq_getElem (by omega)
   have hd:(s.drop (a0.toNat+i)).take (n+1)=s[a0.toNat+i]::(s.drop (a0.toNat+(i+1))).take n:=by rw[Ef hx];rfl
   have hb:=Apn s (a0+i)
   have hbt:bt s (a0+i)=(s[a0.toNat+i].toNat:Int):=by
    unfold bt
    rw[List.getD_eq_getElem?_getD,show (a0+(i:Int)).toNat=a0.toNat+i by omega,hx];rfl
   have hpt:Aba (bt s (a0+i))=Du [s[a0.toNat+i]]:=by
    rw[show a0+(i:Int)=((a0.toNat+i:Nat):Int) by omega];exact Anr hx
   generalize s[a0.toNat+i]=c at *
   rw[hd]
   have G:=Go.one (s:=s) (m:=⟨sv p 6 b e (a0+i) scn0 st f w u,o⟩) (a:=a0+i) (by omega) (by omega) hok (show (6:Int)≠9 by decide) (show a0+(i:Int)<1000000000 by omega)
   have hby:Df ⟨sv p 6 b e (a0+i) scn0 st f w u,o⟩ (bt s (a0+i))=Em ⟨sv p 6 b e (a0+i+1) scn0 st f w u,o⟩ (bt s (a0+i)):=by
    rw[Anm rfl]
    dsimp only
    rw[Y0]
   rw[hby] at G
   unfold Em at G
   by_cases h6:f.kind=6
   ·rw[if_pos (show (sv p 6 b e (a0+i+1) scn0 st f w u).field.kind=6 from h6),show (Mac.mk (sv p 6 b e (a0+i+1) scn0 st f w u) o).d.utf=u from rfl] at G
    unfold D8
    rw[←hbt]
    cases hu:By u (bt s (a0+i)) with
    |none=>
     rw[hu] at G
     dsimp only at G ⊢
     refine⟨fun _ j hj=>?_,fun h=>by simp[h6] at h,fun h=>by simp[h6] at h⟩
     have hj:i=j:=Option.some.inj hj
     subst hj
     rw[Nat.sub_self,List.take_zero,show Ei []=[] from rfl,List.append_nil]
     have G2:Go s ⟨sv p 6 b e (a0+i) scn0 st f w u,o⟩ (a0+i) (A3 ⟨sv p 6 b e (a0+i+1) scn0 st f w u,o⟩ 5 (a0+i)) (a0+i+1):=by
      have e1:(sv p 6 b e (a0+i+1) scn0 st f w u).at_-1=a0+i:=by show a0+(i:Int)+1-1=a0+i;omega
      rw[e1] at G;exact G
     exact Ends.of_fail G2 Q18
    |some v=>
     rw[hu] at G
     dsimp only at G ⊢
     have G2:Go s ⟨sv p 6 b e (a0+i) scn0 st f w u,o⟩ (a0+i) (Ap ⟨sv p 6 b e (a0+((i+1:Nat):Int)) scn0 st f w v,o++[Du [c]]⟩) (a0+((i+1:Nat):Int)):=by
      rw[show a0+((i+1:Nat):Int)=a0+(i:Int)+1 by omega,←hpt];exact G
     obtain ⟨I1,I2,I3⟩:=ih (i+1) v (o++[Du [c]]) (by omega) h0 (by omega) G2.2
     have hap: ∀t,o++Ei (c::t)=o++[Du [c]]++Ei t:=fun t=>by simp[Ei]
     refine⟨fun _ j hj=>?_,fun h hlt=>?_,fun h hle=>?_⟩
     ·have hjb:=S3 hj
      obtain ⟨k,hk⟩: ∃k,j-i=k+1:=⟨j-i-1,by omega⟩
      rw[hk,List.take_succ_cons,hap,show k=j-(i+1) by omega]
      exact(I1 h6 j hj).go G2
     ·rw[hap];exact(I2 h hlt).go G2
     ·rw[hap]
      have:=G2.trans (I3 h hle)
      rw[if_pos h6] at this ⊢
      exact this
   ·rw[if_neg (show¬(sv p 6 b e (a0+i+1) scn0 st f w u).field.kind=6 from h6)] at G
    have G2:Go s ⟨sv p 6 b e (a0+i) scn0 st f w u,o⟩ (a0+i) (Ap ⟨sv p 6 b e (a0+((i+1:Nat):Int)) scn0 st f w u,o++[Du [c]]⟩) (a0+((i+1:Nat):Int)):=by
     rw[show a0+((i+1:Nat):Int)=a0+(i:Int)+1 by omega,←hpt];exact G
    obtain ⟨I1,I2,I3⟩:=ih (i+1) u (o++[Du [c]]) (by omega) h0 (by omega) G2.2
    have hap: ∀t,o++Ei (c::t)=o++[Du [c]]++Ei t:=fun t=>by simp[Ei]
    refine⟨fun h=>absurd h h6,fun _ hlt=>?_,fun _ hle=>?_⟩
    ·rw[hap];exact(I2 (fun h=>absurd h h6) hlt).go G2
    ·rw[hap]
     have:=G2.trans (I3 (fun h=>absurd h h6) hle)
     rw[if_neg h6] at this ⊢
     exact this
theorem Ake {s:List UInt8} {p:Pln} {b:Option (List Lev×Int×Int)} {e:Int} {f:Fld} {w st:Int} {u:Utf} {o:List Ev} (hlen:s.length≤4000):
  ∀(n:Nat) (x:Int),x+n=e→0≤x→x≤(s.length:Int)→Ce (Ap ⟨sv p 7 b e x scn0 st f w u,o⟩).d=true→
   ((s.length:Int)<e→Ends s (fed s (Ap ⟨sv p 7 b e x scn0 st f w u,o⟩) x) o 10 (s.length:Int))∧
   (e≤(s.length:Int)→Go s (Ap ⟨sv p 7 b e x scn0 st f w u,o⟩) x (Ap ⟨sv p 7 b e e scn0 st f w u,o⟩) e):=by
 intro n
 induction n with
 |zero=>
  intro x he h0 hl hok
  obtain rfl:x=e:=by omega
  exact⟨fun h=>by omega,fun _=>⟨rfl,hok⟩⟩
 |succ n ih=>
  intro x he h0 hl hok
  have hon:Ap ⟨sv p 7 b e x scn0 st f w u,o⟩=⟨sv p 7 b e x scn0 st f w u,o⟩:=V9 ⟨.inr (.inl rfl),by rw[Tf (.inr (.inl rfl))];omega⟩
  rw[hon] at hok ⊢
  by_cases h2:(s.length:Int)≤x
  ·refine⟨fun _=>?_,fun h=>by omega⟩
   exact Ends.cut (s:=s) (m:=⟨sv p 7 b e x scn0 st f w u,o⟩) (a:=x) (x:=(s.length:Int)) hok (show (7:Int)≠9 by decide) (fun h=>absurd h.1 (show (7:Int)≠1 by decide)) (show x=(s.length:Int) by omega) h2 rfl
  ·have G:=Go.one (s:=s) (m:=⟨sv p 7 b e x scn0 st f w u,o⟩) (a:=x) h0 (by omega) hok (show (7:Int)≠9 by decide) (show x<1000000000 by omega)
   have hby:Df ⟨sv p 7 b e x scn0 st f w u,o⟩ (bt s x)=Ap ⟨sv p 7 b e (x+1) scn0 st f w u,o⟩:=by
    rw[Ann rfl]
    dsimp only
    rw[Y0]
   rw[hby] at G
   have I:=ih (x+1) (by omega) (by omega) (by omega) G.2
   exact⟨fun h=>(I.1 h).go G,fun h=>G.trans (I.2 h)⟩
def S2 (p:Pln) (base:List Lev) (msg E x st:Int) (f:Fld) (w:Int) (u:Utf) (o:List Ev):Mac:=Ap ⟨sv p 2 (some (base,msg,E)) E x scn0 st f w u,o⟩
theorem Ans {p:Pln} {base:List Lev} {msg E x st:Int} {f:Fld} {w:Int} {u:Utf} {o:List Ev} (h:x<E):S2 p base msg E x st f w u o=⟨sv p 2 (some (base,msg,E)) E x scn0 st f w u,o⟩:=by
 unfold S2
 refine B6 (Ah1 (fun h=>absurd h.1 (show¬(2:Int)=6 by decide)) (fun h=>?_) ?_)
 ·rcases h.1 with h|h
  ·exact absurd h (show¬(2:Int)=7 by decide)
  ·exact absurd h.1 (show¬(2:Int)=8 by decide)
 rintro ⟨-,-,-,h4⟩
 have h4:Ec (sv p 2 (some (base,msg,E)) E x scn0 st f w u)=0:=h4
 rw[T4.1] at h4
 omega
theorem Akf {p:Pln} {base:List Lev} {msg E e st:Int} {f:Fld} {w:Int} {u:Utf} {o:List Ev} :Ap ⟨sv p 7 (some (base,msg,E)) e e scn0 st f w u,o⟩=S2 p base msg E e st f w u o:=by
 have hw:(sv p 7 (some (base,msg,E)) e e scn0 st f w u).want=0:=by rw[Tf (.inr (.inl rfl))];omega
 exact Cu (q:=⟨sv p 2 (some (base,msg,E)) E e scn0 st f w u,o⟩) (Aaj (show¬(7:Int)=6 by decide) ⟨.inl rfl,by omega⟩)
theorem Akg {p:Pln} {base:List Lev} {msg E e st:Int} {f:Fld} {w:Int} {u:Utf} {o:List Ev} :Ap ⟨sv p 8 (some (base,msg,E)) e e scn0 st f w u,o⟩=S2 p base msg E e st f w u o:=by
 have hw:(sv p 8 (some (base,msg,E)) e e scn0 st f w u).want=0:=by rw[Tf (.inr (.inr rfl))];omega
 exact Cu (q:=⟨sv p 2 (some (base,msg,E)) E e scn0 st f w u,o⟩) (Aaj (show¬(8:Int)=6 by decide) ⟨.inr ⟨rfl,rfl⟩,by omega⟩)
theorem Akh {p:Pln} {base:List Lev} {msg E e st:Int} {f:Fld} {w:Int} {u:Utf} {o:List Ev} :Ap ⟨sv p 6 (some (base,msg,E)) e e scn0 st f w u,o⟩=if 0<u.want then A3 ⟨sv p 6 (some (base,msg,E)) e e scn0 st f w u,o⟩ 5 e else S2 p base msg E e st f w utf0 (o++[W7]):=by
 have hw:(sv p 6 (some (base,msg,E)) e e scn0 st f w u).want=0:=by rw[Tf (.inl rfl)];omega
 by_cases h:0<u.want
 ·rw[if_pos h]
  exact Zw rfl (by show (sv p 6 (some (base,msg,E)) e e scn0 st f w u).want<1;omega) h
 ·rw[if_neg h]
  exact Cu (q:=⟨sv p 2 (some (base,msg,E)) E e scn0 st f w utf0,o++[W7]⟩) (Abu ⟨rfl,by omega⟩ h)
structure Sim (s:List UInt8) (m:Mac) (a:Int) (r:Mr) (ok:Mr→Mac→Prop):Prop where
 good:r.fail.kind=0→∃m',Go s m a m' r.at_∧ok r m'
 bad:r.fail.kind≠0→∃c x,r.fail=Bh c x∧Ends s (fed s m a) (Bd r.out) c x
theorem Sim.failed {s:List UInt8} {m:Mac} {a c x:Int} {r:Mr} {ok:Mr→Mac→Prop} (h:Ends s (fed s m a) (Bd r.out) c x):Sim s m a (Cw r c x) ok:=⟨fun h=>(B9 _ _ _ h).elim,fun _=>⟨c,x,rfl,h⟩⟩
theorem Sim.go {s:List UInt8} {m m':Mac} {a a':Int} {r:Mr} {ok:Mr→Mac→Prop} (g:Go s m a m' a') (h:Sim s m' a' r ok):Sim s m a r ok:=by
 refine⟨fun hk=>?_,fun hk=>?_⟩
 ·obtain ⟨m2,g2,h2⟩:=h.good hk;exact⟨m2,g.trans g2,h2⟩
 ·obtain ⟨c,x,h1,h2⟩:=h.bad hk;exact⟨c,x,h1,h2.go g⟩
theorem Sim.ok {s:List UInt8} {m m':Mac} {a:Int} {r:Mr} {ok:Mr→Mac→Prop} (hk:r.fail.kind=0) (g:Go s m a m' r.at_) (h:ok r m'):Sim s m a r ok:=⟨fun _=>⟨m',g,h⟩,fun h=>absurd hk h⟩
def Ok2 (p:Pln) (base:List Lev) (msg E:Int) (r:Mr) (m:Mac):Prop:= ∃st f w u,m=S2 p base msg E r.at_ st f w u (Bd r.out)
structure Rc (s:List UInt8) (p:Pln) (r:Mr):Prop where
 txt:r.s=s
 plan:r.plan=p
 lo:0≤r.at_
 le:r.at_≤(s.length:Int)
 ok:r.fail.kind=0
theorem Rc.at_ {s:List UInt8} {p:Pln} {r:Mr} (h:Rc s p r) {y:Int} (h1:0≤y) (h2:y≤(s.length:Int)):Rc s p (F0 r y):=⟨h.txt,h.plan,h1,h2,h.ok⟩
theorem Rc.tell {s:List UInt8} {p:Pln} {r:Mr} (h:Rc s p r) (e:Ev):Rc s p (Ag r e):=⟨h.txt,h.plan,h.lo,h.le,h.ok⟩
theorem Rc.next {s:List UInt8} {p:Pln} {r r':Mr} (h:Rc s p r) (g:Adv1 r r') (hk:r'.fail.kind=0):Rc s p r':=by
 have:=g.1.at_ hk
 have h1:=h.lo
 rw[h.txt] at this
 exact⟨g.1.s.trans h.txt,g.1.plan.trans h.plan,by omega,this.2,hk⟩
theorem Rc.hl {s:List UInt8} {p:Pln} {r:Mr} (h:Rc s p r):r.at_≤(r.s.length:Int):=by rw[h.txt];exact h.le
/-! ### Runs -/
theorem Aak {r:Mr} {f:Fld} {wire e y:Int} (hok:E7 r wire e=true) (hv:E3 r wire e=F0 r y) (hf:0<f.number):Bm r f wire e=Ag (F0 r y) (Ez f (Gt r wire e)):=by
 unfold Bm;rw[if_pos ⟨hok,hf⟩,hv]
theorem Po {r:Mr} {f:Fld} {wire e:Int} (hok:E7 r wire e=false∨¬0<f.number):Bm r f wire e=E3 r wire e:=by
 unfold Bm;rw[if_neg];rintro ⟨h1,h2⟩;rcases hok with h|h
 ·rw[h] at h1;cases h1
 ·exact h h2
theorem Wa {r:Mr} {e:Int} (h0:0≤r.at_) (hl:r.at_≤(r.s.length:Int)) (h:e≤r.at_):Bq r e=false∧Az r e=Cw r 9 e:=by
 have hv:Ae r.s r.at_ e=(0,e,9):=by
  unfold Ae
  rw[if_pos (by simp only[Ai,Bool.and_eq_true,decide_eq_true_eq];exact⟨h0,hl⟩),Ada,if_pos (by omega)]
 have hk:Bq r e=false:=by unfold Bq;rw[hv];rfl
 exact⟨hk,by rw[Ke hk,hv]⟩
theorem Wb {r:Mr} {wire e:Int} (h0:0≤r.at_) (hl:r.at_≤(r.s.length:Int)) (he:r.at_≤e) (h:e-r.at_<max (Ak wire) 1):E7 r wire e=false∧E3 r wire e=Cw r 9 r.at_:=by
 have hb:=Dh wire
 unfold E7 E3
 by_cases hW:0<Ak wire
 ·rw[if_pos hW,if_pos hW]
  unfold Hs Ha
  rw[decide_eq_false (by omega),if_pos (by omega)]
  exact⟨rfl,rfl⟩
 ·rw[if_neg hW,if_neg hW]
  obtain rfl:e=r.at_:=by omega
  exact Wa h0 hl (Int.le_refl _)
def Aqj (p:Pln) (base:List Lev) (msg E e:Int) (f:Fld) (w W:Int) (o:List Ev) (x:Int) (M:Mac):Prop:=
 (0<e-x∧e-x<W→∃m1,m1.out=o∧M=A3 m1 9 x)∧(¬(0<e-x∧e-x<W)→∃st u,M=Ap ⟨sv p 8 (some (base,msg,E)) e x scn0 st f w u,o⟩)
theorem Ant {s:List UInt8} {p:Pln} {base:List Lev} {msg E e:Int} {f:Fld} {w:Int} (hlen:s.length≤4000) (hE:e≤E) (hf0:0<f.number):
  ∀(n:Nat) (r:Mr) (M:Mac),Lw r≤n→Rc s p r→r.at_≤e→Ce M.d=true→Aqj p base msg E e f w (Ak (Ba f.kind)) (Bd r.out) r.at_ M→Sim s M r.at_ (Kq r f e) (Ok2 p base msg E):=by
 have hfn:f≠fld0:=fun h=>by subst h;exact absurd hf0 (by decide)
 intro n
 induction n with
 |zero=>
  intro r M hn hR
  have h1:=hR.ok;have h2:=hR.hl
  simp only[Lw,if_pos h1] at hn;omega
 |succ n ih=>
  intro r M hn hR he hok hM
  by_cases hg:r.at_<e
  ·have hi:=(LInv.refl (step:=fun r=>Bm r f (Ba f.kind) e) (e:=e) hR.hl).go (K8 f (Ba f.kind) e) hg hR.ok
   have hadv:Adv1 r (Bm r f (Ba f.kind) e):=K8 f (Ba f.kind) e r hR.hl hR.ok
   have hmu:Lw (Bm r f (Ba f.kind) e)<Lw r:=hi.2
   have hto:=S7 (f:=f) (w:=Ba f.kind) (e:=e) hR.ok hR.hl
   have hrun:Kq r f e=Kq (Bm r f (Ba f.kind) e) f e:=hi.1.run.symm
   rw[hrun]
   by_cases hsh:e-r.at_<max (Ak (Ba f.kind)) 1
   ·obtain ⟨h1,h2⟩:=Wb hR.lo hR.hl he hsh
    rw[Po (.inl h1),h2]
    have hb:=Dh (Ba f.kind)
    obtain ⟨m1,ho,rfl⟩:=hM.1 ⟨by omega,by omega⟩
    unfold Kq
    rw[C7 (by simp[Lg,Cw,Bh])]
    refine Sim.failed ?_
    rw[←ho]
    exact Ends.of_fail (a':=r.at_) ⟨rfl,hok⟩ Q18
   ·obtain ⟨st,u,rfl⟩:=hM.2 (by omega)
    have hon:Ap ⟨sv p 8 (some (base,msg,E)) e r.at_ scn0 st f w u,Bd r.out⟩=⟨sv p 8 (some (base,msg,E)) e r.at_ scn0 st f w u,Bd r.out⟩:=V9 ⟨.inr (.inr rfl),by rw[Tf (.inr (.inr rfl))];omega⟩
    rw[hon] at hok ⊢
    rcases Ah0 (o:=Bd r.out) (wire:=Ba f.kind) (.inr (.inr ⟨rfl,rfl⟩)) hE (fun h=>absurd rfl h) hlen hR.txt rfl hR.lo hR.le (by omega) hok with ⟨y,h1,h2,G⟩|⟨c,x,h1,h2,G⟩
    ·have hst:=Aak h1 h2 hf0
     rw[hst] at hadv hto hmu ⊢
     have hk:(Ag (F0 r y) (Ez f (Gt r (Ba f.kind) e))).fail.kind=0:=hR.ok
     have hR2:=hR.next hadv hk
     have hye:y≤e:=hto hk
     have hval:Cb ⟨sv p 8 (some (base,msg,E)) e y scn0 st f w u,Bd r.out⟩ (Gt r (Ba f.kind) e)=⟨sv p 8 (some (base,msg,E)) e y scn0 st f w u,Bd r.out++[Ez f (Gt r (Ba f.kind) e)]⟩:=Agc rfl hfn
     have hexp:Bd (Ag (F0 r y) (Ez f (Gt r (Ba f.kind) e))).out=Bd r.out++[Ez f (Gt r (Ba f.kind) e)]:=Dw (by show (2:Int)≠4;decide)
     refine Sim.go G (ih _ _ Q2 hR2 hye G.2 ?_)
     rw[hexp]
     unfold Te
     rw[hval]
     constructor
     ·intro hx
      rw[if_pos ⟨rfl,hx⟩]
      exact⟨_,rfl,rfl⟩
     ·intro hx
      rw[if_neg (fun h=>hx h.2)]
      exact⟨st,u,rfl⟩
    ·rw[Po (.inl h1),h2]
     unfold Kq
     rw[C7 (by simp[Lg,Cw,Bh])]
     exact Sim.failed G
  ·obtain rfl:r.at_=e:=by omega
   have hst:Kq r f r.at_=r:=S0 (by simp[Lg])
   rw[hst]
   obtain ⟨st,u,rfl⟩:=hM.2 (by omega)
   exact Sim.ok hR.ok ⟨rfl,hok⟩ ⟨st,f,w,u,Akg⟩
/-! ### A field of a message -/
theorem Ah2 {p:Pln} {mode:Int} {base:List Lev} {msg E y st:Int} {f:Fld} {w:Int} {u:Utf} {o:List Ev} {U:Int} (hm:mode=3∨mode=5):Cb ⟨sv p mode (some (base,msg,E)) E y scn0 st f w u,o⟩ U=⟨sv p 2 (some (base,msg,E)) E y scn0 st f w u,if f=fld0 then o else o++[Ez f U]⟩:=by
 rcases hm with rfl|rfl<;>rfl
theorem Ah3 {s:List UInt8} {p:Pln} {base:List Lev} {msg E st:Int} {f:Fld} {mode wire:Int} {ut:Utf} {r:Mr} (hlen:s.length≤4000) (hR:Rc s p r) (hm:mode=3∧Ak wire=0∨mode=5∧0<Ak wire) (hF:f=fld0∨0<f.number) (hr:r.at_+max (Ak wire) 1≤E) (hok:Ce (sv p mode (some (base,msg,E)) E r.at_ scn0 st f wire ut)=true):
  Sim s ⟨sv p mode (some (base,msg,E)) E r.at_ scn0 st f wire ut,Bd r.out⟩ r.at_ (Bm r f wire E) (Ok2 p base msg E):=by
 rcases Ah0 (o:=Bd r.out) (wire:=wire) (by rcases hm with h|h;exact .inl h;exact .inr (.inl ⟨h.1,h.2,rfl⟩)) (Int.le_refl E) (fun _=>rfl) hlen hR.txt rfl hR.lo hR.le hr hok with ⟨y,h1,h2,G⟩|⟨c,x,h1,h2,G⟩
 ·unfold Te at G
  rw[if_neg (by omega),Ah2 (by omega)] at G
  rcases hF with rfl|hF
  ·rw[Po (.inr (by decide)),h2]
   rw[if_pos rfl] at G
   exact Sim.ok hR.ok G ⟨st,fld0,wire,ut,rfl⟩
  ·rw[Aak h1 h2 hF]
   rw[if_neg (fun h=>by subst h;exact absurd hF (by decide))] at G
   refine Sim.ok hR.ok G ⟨st,f,wire,ut,?_⟩
   show _=S2 p base msg E y st f wire ut (Bd (r.out++[Ez f (Gt r wire E)]))
   rw[Dw (by show (2:Int)≠4;decide)]
   rfl
 ·rw[Po (.inl h1),h2]
  exact Sim.failed G
/-! ### Texts of a message -/
theorem Anu {s:List UInt8} {p:Pln} {base:List Lev} {msg E st:Int} {f:Fld} {w n:Int} {r:Mr} (hlen:s.length≤4000) (hR:Rc s p r) (hn:0≤n) (hok:Ce (Ap ⟨sv p 6 (some (base,msg,E)) (r.at_+n) r.at_ scn0 st f w utf0,Bd r.out++[A4 f n]⟩).d=true):
  Sim s (Ap ⟨sv p 6 (some (base,msg,E)) (r.at_+n) r.at_ scn0 st f w utf0,Bd r.out++[A4 f n]⟩) r.at_ (Ch r f n) (Ok2 p base msg E):=by
 have hlo:=hR.lo
 have hle:=hR.le
 have T:=Akd (b:=some (base,msg,E)) (e:=r.at_+n) (f:=f) (p:=p) (w:=w) (st:=st) (a0:=r.at_) hlen n.toNat 0 utf0 (Bd r.out++[A4 f n]) (by omega) hR.lo (by omega) (by rw[show r.at_+((0:Nat):Int)=r.at_ by omega];exact hok)
 rw[show r.at_+((0:Nat):Int)=r.at_ by omega,show r.at_.toNat+0=r.at_.toNat by omega,show (s.drop r.at_.toNat).take n.toNat=Ay r n by unfold Ay;rw[hR.txt]] at T
 obtain ⟨T1,T2,T3⟩:=T
 have hth:=Pc hn hR.lo hR.hl
 rw[hR.txt] at hth
 have htold: ∀t,t=Ji r f n→Bd (Dj r f n).out=Bd r.out++[A4 f n]++Ei t:=by
  rintro t rfl
  unfold Dj
  split
  ·rename_i h
   rw[h]
   show Bd (r.out++[A4 f n])=_
   rw[Dw (by show (3:Int)≠4;decide)];simp[Ei]
  ·show Bd (r.out++[A4 f n]++[Du (Ji r f n)])=_
   rw[V8,Dw (by show (3:Int)≠4;decide)]
 have htat:(Dj r f n).at_=r.at_∧(Dj r f n).fail=r.fail:=by unfold Dj;split<;>exact⟨rfl,rfl⟩
 unfold Ch
 by_cases hbad:0≤Lx r f n
 ·rw[if_pos hbad]
  have h6:f.kind=6:=by unfold Lx at hbad;split at hbad;assumption;omega
  have hb:Lx r f n=Fi utf0 (Ay r n):=by unfold Lx;rw[if_pos h6]
  rw[hb] at hbad ⊢
  unfold Fi at hbad
  cases hu:(D8 utf0 (Ay r n) 0).2 with
  |none=>rw[hu] at hbad;exact absurd hbad (by decide)
  |some j=>
   have hj:Fi utf0 (Ay r n)=(j:Int):=by unfold Fi;rw[hu]
   rw[hj]
   refine Sim.failed ?_
   have:=T1 h6 j hu
   rw[Nat.sub_zero] at this
   rw[htold ((Ay r n).take j) (by unfold Ji;rw[hb,hj,if_pos (by omega),Int.toNat_natCast])]
   exact this
 ·rw[if_neg hbad]
  have hgood:Ji r f n=Ay r n:=by unfold Ji;rw[if_neg hbad]
  have hnone:f.kind=6→(D8 utf0 (Ay r n) 0).2=none:=by
   intro h6
   unfold Lx at hbad
   rw[if_pos h6] at hbad
   unfold Fi at hbad
   cases hu:(D8 utf0 (Ay r n) 0).2 with
   |none=>rfl
   |some j=>rw[hu] at hbad;exact(hbad (show (0:Int)≤(j:Int) by omega)).elim
  by_cases hcut:((Ay r n).length:Int)<n
  ·rw[if_pos hcut]
   refine Sim.failed ?_
   rw[htold _ hgood.symm,hR.txt]
   exact T2 hnone Q2
  ·rw[if_neg hcut]
   have hle2:r.at_+n≤(s.length:Int):=by omega
   have G:=T3 hnone hle2
   have hst:(if f.kind=6 then (D8 utf0 (Ay r n) 0).1 else utf0)=Z5 r f n:=rfl
   rw[hst,Akh] at G
   have hut:Ek (Z5 r f n)=true:=by
    rw[←hst];split
    ·exact Ve Vn
    ·exact Vn
   have hw:=Ju hut
   by_cases hwant:(Z5 r f n).want≠0
   ·rw[if_pos hwant]
    rw[if_pos (by omega)] at G
    refine Sim.failed ?_
    rw[htold _ hgood.symm]
    exact Ends.of_fail G Q18
   ·rw[if_neg hwant]
    rw[if_neg (by omega)] at G
    refine Sim.ok (show (Dj r f n).fail.kind=0 by rw[htat.2];exact hR.ok) G ⟨st,f,w,utf0,?_⟩
    show _=S2 p base msg E (r.at_+n) st f w utf0 (Bd ((Dj r f n).out++[Kd]))
    rw[Dw (by show (5:Int)≠4;decide),htold _ hgood.symm]
    rfl
/-! ### Values with a length, messages Ai -/
def Xy (s:List UInt8) (p:Pln) (D:Nat):Prop:= ∀(shape e:Int) (base:List Lev) (r:Mr) (st:Int) (f:Fld) (w:Int) (u:Utf),Rc s p r→r.at_≤e→(base.length:Int)+1+(D:Int)=p.deep→Ce (S2 p base shape e r.at_ st f w u (Bd r.out)).d=true→Sim s (S2 p base shape e r.at_ st f w u (Bd r.out)) r.at_ (Ht D shape e r) (Ok2 p base shape e)
theorem Ao7 {p:Pln} {base:List Lev} {msg0 E0 msg e st:Int} {f:Fld} {w:Int} {u:Utf} {o:List Ev} :S2 p (base++[⟨msg0,E0-e⟩]) msg e e st f w u o=S2 p base msg0 E0 e st f w u (o++[An3]):=by
 have hl:(sv p 2 (some (base++[⟨msg0,E0-e⟩],msg,e)) e e scn0 st f w u).stack.length=base.length+1+1:=by
  show (stk (some (base++[⟨msg0,E0-e⟩],msg,e)) e).length=_
  rw[Yz,List.length_append,List.length_singleton]
 have hc:=Vj (d:=sv p 2 (some (base++[⟨msg0,E0-e⟩],msg,e)) e e scn0 st f w u) (o:=o) rfl rfl (by rw[hl];omega) (by rw[T4.1];omega) (by rw[hl];omega)
 rw[hl] at hc
 have ht:List.take (base.length+1+1-1) (sv p 2 (some (base++[⟨msg0,E0-e⟩],msg,e)) e e scn0 st f w u).stack=base++[⟨msg0,E0-e⟩]:=by
  show List.take (base.length+1+1-1) ((base++[⟨msg0,E0-e⟩])++[⟨msg,e-e⟩])=_
  exact List.take_left' (by simp)
 rw[ht] at hc
 unfold S2
 rw[Cu hc]
 rfl
theorem Anv {s:List UInt8} {p:Pln} {D:Nat} (hsub:Xy s p D) {base:List Lev} {msg E a st:Int} {f:Fld} {w:Int} {u:Utf} {v:Mr} {U:Int} (hR:Rc s p v) (hU:0≤U) (hd:(base.length:Int)+1+((D+1:Nat):Int)=p.deep) (hok:Ce (S2 p (base++[⟨msg,E-(v.at_+U)⟩]) f.msg (v.at_+U) v.at_ st f w u (Bd v.out++[Yh f.number U])).d=true):
  Sim s (S2 p (base++[⟨msg,E-(v.at_+U)⟩]) f.msg (v.at_+U) v.at_ st f w u (Bd v.out++[Yh f.number U])) v.at_ (Jk (D+1) v f U a) (Ok2 p base msg E):=by
 have hexp:Bd (Ag v (E4 f U)).out=Bd v.out++[Yh f.number U]:=Dw (by show (6:Int)≠4;decide)
 have I:=hsub f.msg (v.at_+U) (base++[⟨msg,E-(v.at_+U)⟩]) (Ag v (E4 f U)) st f w u (hR.tell _) (show v.at_≤v.at_+U by omega) (by rw[List.length_append,List.length_singleton];omega) (by rw[hexp];exact hok)
 rw[hexp] at I
 have I:Sim s (S2 p (base++[⟨msg,E-(v.at_+U)⟩]) f.msg (v.at_+U) v.at_ st f w u (Bd v.out++[Yh f.number U])) v.at_ (Ht D f.msg (v.at_+U) (Ag v (E4 f U))) _:=I
 have hend:=Yx (D:=D) (shape:=f.msg) (e:=v.at_+U) (r:=Ag v (E4 f U)) hR.hl (show v.at_≤v.at_+U by omega) hR.ok
 simp only[Jk]
 by_cases hk:(Ht D f.msg (v.at_+U) (Ag v (E4 f U))).fail.kind=0
 ·rw[if_pos hk]
  obtain ⟨m',G,st2,f2,w2,u2,hm⟩:=I.good hk
  have hat:=hend hk
  rw[hat] at G hm
  rw[hm,Ao7] at G
  refine Sim.ok hk (m':=S2 p base msg E (v.at_+U) st2 f2 w2 u2 (Bd (Ht D f.msg (v.at_+U) (Ag v (E4 f U))).out++[An3])) (by show Go s _ _ _ (Ht D f.msg (v.at_+U) (Ag v (E4 f U))).at_;rw[hat];exact G) ⟨st2,f2,w2,u2,?_⟩
  show _=S2 p base msg E (Ht D f.msg (v.at_+U) (Ag v (E4 f U))).at_ st2 f2 w2 u2 (Bd ((Ht D f.msg (v.at_+U) (Ag v (E4 f U))).out++[Aoy]))
  rw[hat,Dw (by show (7:Int)≠4;decide)]
  rfl
 ·rw[if_neg hk]
  exact⟨fun h=>absurd h hk,I.bad⟩
theorem Aet {k:Int} (h1:1≤k) (h2:k≤8) (h8:k≠8):Gj k= !Cf k:=by
 unfold Gj Cf Ai
 rcases (show k=1∨k=2∨k=3∨k=4∨k=5∨k=6∨k=7 by omega) with rfl|rfl|rfl|rfl|rfl|rfl|rfl<;>rfl
theorem Aki {s:List UInt8} {p:Pln} {base:List Lev} {msg E st:Int} {f:Fld} {ut:Utf} {D:Nat} {r:Mr} {known:Bool} (hlen:s.length≤4000) (hsub: ∀D',D=D'+1→Xy s p D') (hR:Rc s p r) (hd:(base.length:Int)+1+(D:Int)=p.deep) (hkn:known=false∧f=fld0∨known=true∧1≤f.number∧1≤f.kind∧f.kind≤8) (hr:r.at_<E) (hok:Ce (sv p 4 (some (base,msg,E)) E r.at_ scn0 st f 2 ut)=true):
  Sim s ⟨sv p 4 (some (base,msg,E)) E r.at_ scn0 st f 2 ut,Bd r.out⟩ r.at_ (Br (Jk D) r f known E) (Ok2 p base msg E):=by
 have hsc:Sc s 4 (some (base,msg,E)) E f:=⟨by omega,fun h=>by omega,fun _=>⟨base,msg,E,rfl,Int.le_refl _,fun _=>rfl⟩,fun h=>by omega,hlen⟩
 have V:=Y1 (o:=Bd r.out) hsc hR.lo hR.le hr (fun h=>by omega) hok
 have hub:=M0 r E
 have hva:=E5 (e:=E) hR.hl
 unfold Br
 by_cases hc:(Ae s r.at_ E).2.2=0
 ·have hvk:Bq r E=true:=by unfold Bq;rw[hR.txt];exact decide_eq_true hc
  have hvu:A5 r E=(Ae s r.at_ E).1:=by unfold A5;rw[if_pos hvk,hR.txt]
  have hv:Az r E=F0 r (Ae s r.at_ E).2.1:=by rw[Pw hvk,hR.txt]
  have hy:=Fm hc
  obtain ⟨st',h1,-,G⟩:=V.1 hc
  rw[h1 (by decide)] at G
  rw[if_neg (by rw[hvk];decide),hv]
  rw[hvu] at hub ⊢
  generalize (Ae s r.at_ E).1=U at *
  generalize (Ae s r.at_ E).2.1=y at *
  have hR1:Rc s p (F0 r y):=hR.at_ (by omega) hy.2.2.2
  rw[show Aes 4 ⟨sv p 4 (some (base,msg,E)) E y scn0 r.at_ f 2 ut,Bd r.out⟩ U=E2 ⟨sv p 4 (some (base,msg,E)) E y scn0 r.at_ f 2 ut,Bd r.out⟩ U from rfl] at G
  unfold E2 at G
  have hsl:(sv p 4 (some (base,msg,E)) E y scn0 r.at_ f 2 ut).stack.length=base.length+1:=Yz
  have htl:=T4 (p:=p) (mode:=4) (base:=base) (msg:=msg) (E:=E) (e:=E) (x:=y) (sc:=scn0) (st:=r.at_) (f:=f) (w:=2) (u:=ut)
  dsimp only at G
  rw[hsl,htl.1,htl.2] at G
  by_cases hbig:E-y<U
  ·rw[if_pos (.inr hbig)] at G
   rw[if_pos (show E-(F0 r y).at_<U from hbig)]
   exact Sim.failed (r:=F0 r y) (Ends.of_fail G Q18)
  ·rw[if_neg (by rintro (h|h)<;>omega)] at G
   rw[if_neg (show¬E-(F0 r y).at_<U from hbig)]
   have hwU: ∀m:Int,m=6∨m=7∨m=8→U=Fu m (y+U) y:=fun m h=>by unfold Fu;rw[if_pos h];omega
   rcases hkn with ⟨rfl,rfl⟩|⟨rfl,hk1,hk2,hk3⟩
   ·-- skipped
    rw[if_pos (show (sv p 4 (some (base,msg,E)) E y scn0 r.at_ fld0 2 ut).field=fld0 from rfl)] at G
    rw[if_pos rfl]
    have G2:Go s ⟨sv p 4 (some (base,msg,E)) E r.at_ scn0 st fld0 2 ut,Bd r.out⟩ r.at_ (Ap ⟨sv p 7 (some (base,msg,E)) (y+U) y scn0 r.at_ fld0 2 ut,Bd r.out⟩) y:=by
     unfold sv;rw[←hwU 7 (.inr (.inl rfl))];exact G
    have K:=Ake (e:=y+U) (o:=Bd r.out) hlen U.toNat y (by omega) (by omega) hy.2.2.2 G2.2
    by_cases hcut:(s.length:Int)-y<U
    ·rw[hR.txt,if_pos (show (s.length:Int)-(F0 r y).at_<U from hcut)]
     exact Sim.failed (r:=F0 r y) ((K.1 Q2).go G2)
    ·rw[hR.txt,if_neg (show¬(s.length:Int)-(F0 r y).at_<U from hcut)]
     have G3:=G2.trans (K.2 (by omega))
     rw[Akf] at G3
     exact Sim.ok (r:=F0 (F0 r y) ((F0 r y).at_+U)) hR.ok G3 ⟨r.at_,fld0,2,ut,rfl⟩
   ·have hne:f≠fld0:=fun h=>by subst h;exact absurd hk1 (by decide)
    rw[if_neg (show¬(sv p 4 (some (base,msg,E)) E y scn0 r.at_ f 2 ut).field=fld0 from hne)] at G
    rw[if_neg (by decide)]
    by_cases h8:f.kind=8
    ·rw[if_pos (show (sv p 4 (some (base,msg,E)) E y scn0 r.at_ f 2 ut).field.kind=8 from h8)] at G
     rw[if_pos h8]
     cases D with
     |zero=>
      rw[if_pos (show (sv p 4 (some (base,msg,E)) E y scn0 r.at_ f 2 ut).plan.deep≤((base.length+1:Nat):Int) by show p.deep≤_;omega)] at G
      exact Sim.failed (r:=F0 r y) (Ends.of_fail G Q18)
     |succ D=>
      rw[if_neg (show¬(sv p 4 (some (base,msg,E)) E y scn0 r.at_ f 2 ut).plan.deep≤((base.length+1:Nat):Int) by show¬p.deep≤_;omega)] at G
      have hst2:List.set (sv p 4 (some (base,msg,E)) E y scn0 r.at_ f 2 ut).stack (base.length+1-1) ⟨msg,E-y-U⟩++[⟨f.msg,U⟩]=stk (some (base++[⟨msg,E-(y+U)⟩],f.msg,y+U)) y:=by
       have:List.set (base++[(⟨msg,E-y⟩:Lev)]) (base.length+1-1) ⟨msg,E-y-U⟩=base++[⟨msg,E-(y+U)⟩]:=by
        rw[Nat.add_sub_cancel,List.set_append_right _ _ (Nat.le_refl _),show E-y-U=E-(y+U) by omega];simp
       show List.set (base++[(⟨msg,E-y⟩:Lev)]) (base.length+1-1) ⟨msg,E-y-U⟩++[⟨f.msg,U⟩]=_
       rw[this]
       show _=(base++[(⟨msg,E-(y+U)⟩:Lev)])++[⟨f.msg,y+U-y⟩]
       rw[show y+U-y=U by omega]
      have G2:Go s ⟨sv p 4 (some (base,msg,E)) E r.at_ scn0 st f 2 ut,Bd r.out⟩ r.at_ (S2 p (base++[⟨msg,E-(y+U)⟩]) f.msg (y+U) y r.at_ f 2 ut (Bd r.out++[Yh f.number U])) y:=by
       unfold S2
       show Go s _ _ (Ap ⟨⟨p,2,stk (some (base++[⟨msg,E-(y+U)⟩],f.msg,y+U)) y,scn0,r.at_,y,f,2,Fu 2 (y+U) y,ut,ev0⟩,Bd r.out++[Yh f.number U]⟩) y
       rw[←hst2]
       exact G
      have K:=Anv (hsub D rfl) (a:=r.at_) (base:=base) (msg:=msg) (E:=E) (v:=F0 r y) hR1 hub.1 hd G2.2
      exact Sim.go G2 K
    ·rw[if_neg (show¬(sv p 4 (some (base,msg,E)) E y scn0 r.at_ f 2 ut).field.kind=8 from h8)] at G
     rw[if_neg h8]
     have hib:=Aet hk2 hk3 h8
     cases hnum:Cf f.kind with
     |false=>
      rw[hnum] at hib
      rw[if_pos (show Gj (sv p 4 (some (base,msg,E)) E y scn0 r.at_ f 2 ut).field.kind=true from hib)] at G
      rw[if_neg (by decide)]
      have G2:Go s ⟨sv p 4 (some (base,msg,E)) E r.at_ scn0 st f 2 ut,Bd r.out⟩ r.at_ (Ap ⟨sv p 6 (some (base,msg,E)) (y+U) y scn0 r.at_ f 2 utf0,Bd r.out++[A4 f U]⟩) y:=by
       unfold sv;rw[←hwU 6 (.inl rfl)];exact G
      exact Sim.go G2 (Anu (r:=F0 r y) hlen hR1 hub.1 G2.2)
     |true=>
      rw[hnum] at hib
      rw[if_neg (show¬Gj (sv p 4 (some (base,msg,E)) E y scn0 r.at_ f 2 ut).field.kind=true by show¬Gj f.kind=true;rw[hib];decide)] at G
      rw[if_pos rfl]
      refine Sim.go (m':=if 0<U∧U<Ak (Ba f.kind) then A3 ⟨sv p 4 (some (base,msg,E)) E y scn0 r.at_ f 2 ut,Bd r.out⟩ 9 y else Ap ⟨sv p 8 (some (base,msg,E)) (y+U) y scn0 r.at_ f 2 ut,Bd r.out⟩) (a':=y) ?_ (Ant (r:=F0 r y) (e:=y+U) (w:=2) hlen (show y+U≤E by omega) Q2 _ _ (Nat.le_refl _) hR1 (show y≤y+U by omega) ?_ ?_)
      ·unfold sv;rw[←hwU 8 (.inr (.inr rfl))];exact G
      ·have:=G.2
       unfold sv at this ⊢;rw[←hwU 8 (.inr (.inr rfl))];exact this
      ·constructor
       ·intro h
        have h:0<y+U-y∧y+U-y<Ak (Ba f.kind):=h
        rw[if_pos (by omega)];exact⟨_,rfl,rfl⟩
       ·intro h
        have h: ¬(0<y+U-y∧y+U-y<Ak (Ba f.kind)):=h
        rw[if_neg (by omega)];exact⟨_,_,rfl⟩
 ·have hvk:Bq r E=false:=by unfold Bq;rw[hR.txt];exact decide_eq_false hc
  rw[if_pos hvk,Ke hvk,hR.txt]
  exact Sim.failed (V.2 hc)
theorem Akj {s:List UInt8} {p:Pln} {base:List Lev} {msg E st:Int} {f:Fld} {w:Int} {u:Utf} {D:Nat} {r:Mr} (hp:B1 p=true) (hlen:s.length≤4000) (hsub: ∀D',D=D'+1→Xy s p D') (hR:Rc s p r) (hd:(base.length:Int)+1+(D:Int)=p.deep) (hr:r.at_<E) (hok:Ce (S2 p base msg E r.at_ st f w u (Bd r.out)).d=true):
  Sim s (S2 p base msg E r.at_ st f w u (Bd r.out)) r.at_ (Dv (Jk D) msg E r) (Ok2 p base msg E):=by
 rw[Ans hr] at hok ⊢
 have hsc:Sc s 2 (some (base,msg,E)) E f:=⟨by omega,fun h=>by omega,fun _=>⟨base,msg,E,rfl,Int.le_refl _,fun _=>rfl⟩,fun h=>by omega,hlen⟩
 have V:=Y1 (o:=Bd r.out) hsc hR.lo hR.le hr (fun h=>by omega) hok
 unfold Dv
 by_cases hc:(Ae s r.at_ E).2.2=0
 ·have hvk:Bq r E=true:=by unfold Bq;rw[hR.txt];exact decide_eq_true hc
  have hvu:A5 r E=(Ae s r.at_ E).1:=by unfold A5;rw[if_pos hvk,hR.txt]
  have hv:Az r E=F0 r (Ae s r.at_ E).2.1:=by rw[Pw hvk,hR.txt]
  have hy:=Fm hc
  obtain ⟨st',h1,-,G⟩:=V.1 hc
  rw[h1 (by decide)] at G
  rw[if_neg (by rw[hvk];decide),hv,hvu,hR.plan]
  generalize (Ae s r.at_ E).1=U at *
  generalize (Ae s r.at_ E).2.1=y at *
  have hR1:Rc s p (F0 r y):=hR.at_ (by omega) hy.2.2.2
  rw[show Aes 2 ⟨sv p 2 (some (base,msg,E)) E y scn0 r.at_ f w u,Bd r.out⟩ U=Lj ⟨sv p 2 (some (base,msg,E)) E y scn0 r.at_ f w u,Bd r.out⟩ U from rfl] at G
  unfold Lj at G
  have hsl:(sv p 2 (some (base,msg,E)) E y scn0 r.at_ f w u).stack.length=base.length+1:=Yz
  have htl:=T4 (p:=p) (mode:=2) (base:=base) (msg:=msg) (E:=E) (e:=E) (x:=y) (sc:=scn0) (st:=r.at_) (f:=f) (w:=w) (u:=u)
  dsimp only at G
  rw[hsl,htl.1,htl.2,show (sv p 2 (some (base,msg,E)) E y scn0 r.at_ f w u).plan=p from rfl] at G
  dsimp only at G
  by_cases h1:Kp U=false
  ·rw[if_pos h1];rw[if_pos (.inl h1)] at G
   exact Sim.failed (r:=F0 r y) (Ends.of_fail G Q18)
  rw[if_neg h1];rw[if_neg (by rintro (h|h);exact h1 h;omega)] at G
  by_cases h2:De (Ah U)=false
  ·rw[if_pos h2];rw[if_pos h2] at G
   exact Sim.failed (r:=F0 r y) (Ends.of_fail G Q18)
  rw[if_neg h2];rw[if_neg h2] at G
  have hff:=Qy (s:=msg) (n:=Bi U) (Cd hp).2.1
  have hfz:(fieldAt p.shapes msg (Bi U)).isSome=false→(fieldAt p.shapes msg (Bi U)).getD fld0=fld0:=fun h=>by
   cases hx:fieldAt p.shapes msg (Bi U) with
   |none=>rfl
   |some g=>rw[hx] at h;cases h
  by_cases h3:(fieldAt p.shapes msg (Bi U)).isSome=true∧Dt ((fieldAt p.shapes msg (Bi U)).getD fld0) (Ah U)=false
  ·rw[if_pos h3]
   rw[if_pos h3] at G
   exact Sim.failed (r:=F0 r y) (Ends.of_fail G Q18)
  rw[if_neg h3]
  rw[if_neg h3] at G
  generalize hF:(fieldAt p.shapes msg (Bi U)).getD fld0=F at *
  have hwire:Ah U=0∨Ah U=1∨Ah U=2∨Ah U=5:=by
   simp only[De,Bool.or_eq_false_iff,decide_eq_false_iff_not,not_and,Decidable.not_not] at h2
   omega
  have hw1:Ak 1=8:=rfl
  have hw2:Ak 2=0:=rfl
  have hw0:Ak 0=0:=rfl
  have hw5:Ak 5=4:=rfl
  by_cases h4:E-y<max (Ak (Ah U)) 1
  ·rw[if_pos h4] at G
   have G2:Ends s (fed s ⟨sv p 2 (some (base,msg,E)) E r.at_ scn0 st f w u,Bd r.out⟩ r.at_) (Bd r.out) 9 y:=Ends.of_fail G (by decide)
   by_cases hw:Ah U=2
   ·rw[if_pos hw]
    rw[hw,hw2] at h4
    have hsv:=Wa (r:=F0 r y) (e:=E) hR1.lo hR1.hl (show E≤y by omega)
    unfold Br
    rw[if_pos hsv.1,hsv.2,show E=y by omega]
    exact Sim.failed (r:=F0 r y) (by rw[show E=y by omega] at G2;exact G2)
   ·rw[if_neg hw]
    have hsv:=Wb (r:=F0 r y) (wire:=Ah U) (e:=E) hR1.lo hR1.hl (show y≤E from hy.2.2.1) h4
    rw[Po (.inl hsv.1),hsv.2]
    exact Sim.failed (r:=F0 r y) G2
  ·rw[if_neg h4] at G
   by_cases hw:Ah U=2
   ·rw[if_pos hw]
    rw[hw,hw2] at h4
    have G2:Go s ⟨sv p 2 (some (base,msg,E)) E r.at_ scn0 st f w u,Bd r.out⟩ r.at_ ⟨sv p 4 (some (base,msg,E)) E y scn0 r.at_ F 2 u,Bd r.out⟩ y:=by
     rw[if_neg (by omega),if_pos hw,hw] at G;exact G
    refine Sim.go G2 (Aki (r:=F0 r y) hlen hsub hR1 hd ?_ (show y<E by omega) G2.2)
    cases hkn:(fieldAt p.shapes msg (Bi U)).isSome with
    |false=>exact .inl ⟨rfl,hfz hkn⟩
    |true=>exact .inr ⟨rfl,hff.1 hkn⟩
   ·rw[if_neg hw]
    have hFF:F=fld0∨0<F.number:=by
     cases hkn:(fieldAt p.shapes msg (Bi U)).isSome with
     |false=>exact .inl (hfz hkn)
     |true=>have:=(hff.1 hkn).1;exact .inr (by omega)
    by_cases hw00:Ah U=0
    ·have G2:Go s ⟨sv p 2 (some (base,msg,E)) E r.at_ scn0 st f w u,Bd r.out⟩ r.at_ ⟨sv p 3 (some (base,msg,E)) E y scn0 r.at_ F (Ah U) u,Bd r.out⟩ y:=by
      rw[if_pos hw00] at G;exact G
     exact Sim.go G2 (Ah3 (r:=F0 r y) hlen hR1 (.inl ⟨rfl,by rw[hw00];rfl⟩) hFF (show y+max (Ak (Ah U)) 1≤E by omega) G2.2)
    ·have G2:Go s ⟨sv p 2 (some (base,msg,E)) E r.at_ scn0 st f w u,Bd r.out⟩ r.at_ ⟨sv p 5 (some (base,msg,E)) E y scn0 r.at_ F (Ah U) u,Bd r.out⟩ y:=by
      rw[if_neg hw00,if_neg hw] at G;exact G
     exact Sim.go G2 (Ah3 (r:=F0 r y) hlen hR1 (.inr ⟨rfl,by rcases hwire with h|h|h|h<;>rw[h]<;>first|omega|decide⟩) hFF (show y+max (Ak (Ah U)) 1≤E by omega) G2.2)
 ·have hvk:Bq r E=false:=by unfold Bq;rw[hR.txt];exact decide_eq_false hc
  rw[if_pos hvk,Ke hvk,hR.txt]
  exact Sim.failed (V.2 hc)
theorem Adb {s:List UInt8} {p:Pln} {D:Nat} (hp:B1 p=true) (hlen:s.length≤4000) (hsub: ∀D',D=D'+1→Xy s p D'):Xy s p D:=by
 intro shape e base r st f w u
 suffices ∀(n:Nat) (r:Mr) (st:Int) (f:Fld) (w:Int) (u:Utf),Lw r≤n→Rc s p r→r.at_≤e→(base.length:Int)+1+(D:Int)=p.deep→Ce (S2 p base shape e r.at_ st f w u (Bd r.out)).d=true→Sim s (S2 p base shape e r.at_ st f w u (Bd r.out)) r.at_ (E8 (Lg e) (Dv (Jk D) shape e) (Lw r) r) (Ok2 p base shape e) by
  intro hR he hd hok
  rw[Mz]
  exact this _ r st f w u (Nat.le_refl _) hR he hd hok
 intro n
 induction n with
 |zero=>
  intro r st f w u hn hR
  have h1:=hR.ok;have h2:=hR.hl
  simp only[Lw,if_pos h1] at hn;omega
 |succ n ih=>
  intro r st f w u hn hR he hd hok
  by_cases hg:r.at_<e
  ·have hi:=(LInv.refl (step:=Dv (Jk D) shape e) (e:=e) hR.hl).go (Lz D shape e) hg hR.ok
   have hadv:=Lz D shape e r hR.hl hR.ok
   have hto:=Xp (shape:=shape) (e:=e) (Abn D) hR.ok hR.hl
   have hS:=Akj hp hlen hsub hR hd hg hok
   rw[←hi.1.run]
   by_cases hk:(Dv (Jk D) shape e r).fail.kind=0
   ·obtain ⟨m',G,st2,f2,w2,u2,rfl⟩:=hS.good hk
    exact Sim.go G (ih _ st2 f2 w2 u2 Q2 (hR.next hadv hk) (hto hk) hd G.2)
   ·rw[C7 (by simp[Lg,hk])]
    exact⟨fun h=>absurd h hk,hS.bad⟩
  ·rw[C7 (by simp[Lg];omega)]
   exact Sim.ok hR.ok ⟨rfl,hok⟩ ⟨st,f,w,u,rfl⟩
theorem Ah4 {s:List UInt8} {p:Pln} (hp:B1 p=true) (hlen:s.length≤4000): ∀D,Xy s p D
 |0=>Adb hp hlen fun D' h=>by omega
 |D+1=>Adb hp hlen fun D' h=>by
  obtain rfl:D=D':=by omega
  exact Ah4 hp hlen D
theorem Xz (o a b:List Ev):G8 o (a++b)=G8 (G8 o a) b:=List.foldl_append ..
theorem Aeu (o a:List Ev) (e:Ev):G8 o (a++[e])=G7 (G8 o a) e:=by rw[Xz];rfl
/-! ### Frames -/
def S1 (p:Pln) (x st:Int) (f:Fld) (w:Int) (u:Utf) (o:List Ev):Mac:=⟨sv p 1 none maxI x scn0 st f w u,o⟩
def Ok1 (p:Pln) (r:Mr) (m:Mac):Prop:= ∃st f w u,m=S1 p r.at_ st f w u (Bd r.out)
theorem Anw {p:Pln} {msg e st:Int} {f:Fld} {w:Int} {u:Utf} {o:List Ev} :S2 p [] msg e e st f w u o=S1 p e st f w u (o++[Pu]):=by
 have hl:(sv p 2 (some ([],msg,e)) e e scn0 st f w u).stack.length=1:=rfl
 have hc:=Vi (d:=sv p 2 (some ([],msg,e)) e e scn0 st f w u) (o:=o) rfl rfl (by rw[hl];omega) (by rw[T4.1];omega) hl
 unfold S2
 rw[Cu hc,B6 (Yp (.inr rfl))]
 rfl
theorem Anx {s:List UInt8} {p:Pln} {st:Int} {f:Fld} {w:Int} {u:Utf} {r:Mr} (hp:B1 p=true) (hlen:s.length≤4000) (hR:Rc s p r) (hr:r.at_<(s.length:Int)) (hok:Ce (S1 p r.at_ st f w u (Bd r.out)).d=true):
  Sim s (S1 p r.at_ st f w u (Bd r.out)) r.at_ (Dg r) (Ok1 p):=by
 have hpt:=Cd hp
 have hsc:Sc s 1 none maxI f:=⟨by omega,fun _=>⟨rfl,rfl⟩,fun h=>absurd rfl h,fun h=>by omega,hlen⟩
 have V:=Y1 (o:=Bd r.out) hsc hR.lo hR.le (show r.at_<maxI by unfold maxI;omega) (fun _=>hr) hok
 unfold Dg L3
 by_cases hc:(Ae s r.at_ maxI).2.2=0
 ·have hvk:Bq r maxI=true:=by unfold Bq;rw[hR.txt];exact decide_eq_true hc
  have hvu:A5 r maxI=(Ae s r.at_ maxI).1:=by unfold A5;rw[if_pos hvk,hR.txt]
  have hv:Az r maxI=F0 r (Ae s r.at_ maxI).2.1:=by rw[Pw hvk,hR.txt]
  have hy:=Fm hc
  have hub:=M0 r maxI
  obtain ⟨st',h1,-,G⟩:=V.1 hc
  rw[h1 (by decide)] at G
  rw[if_neg (by rw[hvk];decide),hv,hvu,hR.plan]
  rw[hvu] at hub
  generalize (Ae s r.at_ maxI).1=U at *
  generalize (Ae s r.at_ maxI).2.1=y at *
  have hR1:Rc s p (F0 r y):=hR.at_ (by omega) hy.2.2.2
  rw[show Aes 1 ⟨sv p 1 none maxI y scn0 r.at_ f w u,Bd r.out⟩ U=Ee ⟨sv p 1 none maxI y scn0 r.at_ f w u,Bd r.out⟩ U from rfl] at G
  unfold Ee at G
  by_cases hm:p.most<U
  ·rw[if_pos hm]
   rw[if_pos (show (Mac.mk (sv p 1 none maxI y scn0 r.at_ f w u) (Bd r.out)).d.plan.most<U from hm)] at G
   exact Sim.failed (r:=F0 r y) (Ends.of_fail G Q18)
  ·rw[if_neg hm]
   rw[if_neg (show¬(Mac.mk (sv p 1 none maxI y scn0 r.at_ f w u) (Bd r.out)).d.plan.most<U from hm)] at G
   have hexp:Bd (Ag (F0 r y) (D1 U)).out=Bd r.out++[Af9 U]:=Dw (by show (1:Int)≠4;decide)
   have G2:Go s (S1 p r.at_ st f w u (Bd r.out)) r.at_ (S2 p [] p.root (y+U) y r.at_ f w u (Bd r.out++[Af9 U])) y:=by
    unfold S2
    have:sv p 2 (some ([],p.root,y+U)) (y+U) y scn0 r.at_ f w u=⟨p,2,[⟨p.root,U⟩],⟨0,0⟩,r.at_,y,f,w,0,u,ev0⟩:=by
     show Dcd.mk p 2 ([]++[⟨p.root,y+U-y⟩]) _ _ _ _ _ _ _ _=_
     rw[show y+U-y=U by omega];rfl
    rw[this];exact G
   have I:=Ah4 hp hlen (Int.toNat (p.deep-1)) p.root (y+U) [] (Ag (F0 r y) (D1 U)) r.at_ f w u (hR1.tell _) (show y≤y+U by omega) (by simp only[List.length_nil];omega) (by rw[hexp];exact G2.2)
   rw[hexp] at I
   have hend:=Yx (D:=Int.toNat (p.deep-1)) (shape:=p.root) (e:=y+U) (r:=Ag (F0 r y) (D1 U)) hR1.hl (show y≤y+U by omega) hR.ok
   have hpl:(F0 r y).plan=p:=hR.plan
   rw[show (F0 r y).at_=y from rfl]
   by_cases hk:(Ht (Int.toNat (p.deep-1)) p.root (y+U) (Ag (F0 r y) (D1 U))).fail.kind=0
   ·rw[if_pos hk]
    obtain ⟨m',G3,st2,f2,w2,u2,hm⟩:=I.good hk
    have hat:=hend hk
    rw[hat] at G3 hm
    rw[hm,Anw] at G3
    refine Sim.go G2 (Sim.ok hk (m':=S1 p (y+U) st2 f2 w2 u2 (Bd (Ht (Int.toNat (p.deep-1)) p.root (y+U) (Ag (F0 r y) (D1 U))).out++[Pu])) ?_ ⟨st2,f2,w2,u2,?_⟩)
    ·show Go s _ _ _ (Ht (Int.toNat (p.deep-1)) p.root (y+U) (Ag (F0 r y) (D1 U))).at_
     rw[hat];exact G3
    ·show _=S1 p (Ht (Int.toNat (p.deep-1)) p.root (y+U) (Ag (F0 r y) (D1 U))).at_ st2 f2 w2 u2 (Bd ((Ht (Int.toNat (p.deep-1)) p.root (y+U) (Ag (F0 r y) (D1 U))).out++[frameEndEv]))
     rw[hat,Dw (by show (8:Int)≠4;decide)]
     rfl
   ·rw[if_neg hk]
    exact Sim.go G2 ⟨fun h=>absurd h hk,I.bad⟩
 ·have hvk:Bq r maxI=false:=by unfold Bq;rw[hR.txt];exact decide_eq_false hc
  rw[if_pos hvk,Ke hvk,hR.txt]
  exact Sim.failed (V.2 hc)
theorem Ao8 {s:List UInt8} {p:Pln} (hp:B1 p=true) (hlen:s.length≤4000): ∀(n:Nat) (q:Wh) (st:Int) (f:Fld) (w:Int) (u:Utf),Lw q.r≤n→WInv (wh0 p s) q→q.r.fail.kind=0→Ce (S1 p q.r.at_ st f w u (Bd q.r.out)).d=true→Sim s (S1 p q.r.at_ st f w u (Bd q.r.out)) q.r.at_ (F5 p s).r (fun r m=>Ok1 p r m∧r.at_=(s.length:Int)):=by
 intro n
 induction n with
 |zero=>
  intro q st f w u hn hI hk
  have h:=hI.room hk
  have h1:=h.1
  have h2:=h.2.2.2.1
  simp only[Lw,if_pos hk,h1] at hn;omega
 |succ n ih=>
  intro q st f w u hn hI hk hok
  have h:=hI.room hk
  by_cases hg:q.r.at_<(s.length:Int)
  ·have hnx:=hI.next hg hk rfl
   have hR:Rc s p q.r:=⟨h.1,h.2.1,h.2.2.1,h.2.2.2.1,hk⟩
   have F:=Anx hp hlen hR hg hok
   by_cases hk2:(Dg q.r).fail.kind=0
   ·obtain ⟨m',G,st2,f2,w2,u2,rfl⟩:=F.good hk2
    exact Sim.go G (ih (Gb q) st2 f2 w2 u2 Q2 hnx.1 hk2 G.2)
   ·rw[hI.leave hg hk rfl hk2]
    exact⟨fun h=>absurd h hk2,F.bad⟩
  ·rw[hI.end_ hg]
   exact Sim.ok hk ⟨rfl,hok⟩ ⟨⟨st,f,w,u,rfl⟩,by have:=h.2.2.2.1;omega⟩
theorem Y2 {p:Pln} (h:B1 p=true):B5 p=(S1 p 0 0 fld0 0 utf0 []).d∧Ce (S1 p 0 0 fld0 0 utf0 []).d=true:=by
 have ht:=Cd h
 refine⟨by unfold B5;rw[if_pos h];rfl,?_⟩
 refine Hx (Ho h (by show (0:Int)≤p.deep;omega) (fun l hl=>by cases hl)) (show (1:Int)≤1∧(1:Int)≤9 by decide) (show (0:Int)≤0∧(0:Int)≤1000000000 by decide) (show (0:Int)≤0∧(0:Int)≤0 by decide) Vn ?_ (.inl rfl) ?_ ?_ ?_ ?_ ?_
 ·simp[S1,sv,De]
 ·simp[S1,sv,Aez]
 ·simp[S1,sv,Kw,stk]
 ·simp[S1,sv,Nu,Fu]
 ·simp[S1,sv,Jh]
 ·simp[S1,sv,J6,Bv,E1,scn0,Ai]
theorem Aev {p:Pln} {s:List UInt8} (hp:B1 p=true) (hlen:s.length≤4000):
  ((F5 p s).r.fail.kind=0→(Cs ⟨B5 p,[]⟩ s).d.mode=1∧(Cs ⟨B5 p,[]⟩ s).d.scan.have_=0∧(Cs ⟨B5 p,[]⟩ s).d.at_=(s.length:Int)∧Ce (Cs ⟨B5 p,[]⟩ s).d=true∧(Cs ⟨B5 p,[]⟩ s).out=Bd (F5 p s).r.out)∧
  ((F5 p s).r.fail.kind≠0→∃c x,(F5 p s).r.fail=Bh c x∧Ends s (Cs ⟨B5 p,[]⟩ s) (Bd (F5 p s).r.out) c x):=by
 obtain ⟨h1,h2⟩:=Y2 hp
 have W:=Ao8 hp hlen _ (wh0 p s) 0 fld0 0 utf0 (Nat.le_refl _) WInv.refl rfl h2
 have hf:fed s (S1 p 0 0 fld0 0 utf0 []) 0=Cs ⟨B5 p,[]⟩ s:=by rw[h1];rfl
 have W:Sim s (S1 p 0 0 fld0 0 utf0 []) 0 (F5 p s).r (fun r m=>Ok1 p r m∧r.at_=(s.length:Int)):=W
 refine⟨fun hk=>?_,fun hk=>?_⟩
 ·obtain ⟨m',G,⟨st,f,w,u,rfl⟩,hat⟩:=W.good hk
  rw[←hf,G.1,hat,Ahv (Int.le_refl _)]
  rw[hat] at G
  exact⟨rfl,rfl,rfl,G.2,rfl⟩
 ·rw[←hf];exact W.bad hk
/-! ### Merged events -/
theorem Wc: ∀(t2 t:List UInt8) (o:List Ev),G8 (o++[Du t]) (Ei t2)=o++[Du (t++t2)]
 |[],t,o=>by rw[List.append_nil];rfl
 |c::r,t,o=>by
  show G8 (G7 (o++[Du t]) (Du [c])) (Ei r)=_
  have h:=Vp (o:=o) (f:=Du t) (e:=Du [c]) (t:=t) rfl rfl
  rw[show T7 (Du t) t=Du t from rfl,show T7 (Du t) (t++(Du [c]).text)=Du (t++[c]) from rfl] at h
  rw[h,Wc r (t++[c]) o,List.append_assoc];rfl
theorem Aew {o:List Ev} {t:List UInt8} (ho: ¬(0<o.length∧(T6 o).kind=4)) (ht:t≠[]):G8 o (Ei t)=o++[Du t]:=by
 cases t with
 |nil=>exact absurd rfl ht
 |cons c r=>
  show G8 (G7 o (Du [c])) (Ei r)=_
  rw[Sy (by simp[Du]) ho,Wc r [c] o];rfl
def MG (r:Mr):Prop:=Fe (Bd r.out)=r.out
theorem Ah5 {l:List Ev} {e:Ev} (h:Fe (Bd l)=l) (he:e.kind≠4):Fe (Bd (l++[e]))=l++[e]:=by
 rw[Dw he]
 unfold Fe at h ⊢
 rw[Aeu,h,Tv he]
theorem MG.tell {r:Mr} (h:MG r) {e:Ev} (he:e.kind≠4):MG (Ag r e):=Ah5 h he
theorem MG.var {r:Mr} (h:MG r) (e:Int):MG (Az r e):=by unfold Az;split<;>exact h
theorem MG.val {r:Mr} (h:MG r) (w e:Int):MG (E3 r w e):=by
 unfold E3 Ha;split
 ·split
  ·exact h
  ·split<;>exact h
 ·exact h.var e
theorem MG.num {r:Mr} (h:MG r) (f:Fld) (w e:Int):MG (Bm r f w e):=by
 unfold Bm;split
 ·exact(h.val w e).tell (by show (2:Int)≠4;decide)
 ·exact h.val w e
theorem MG.loop {step:Mr→Mr} (hs: ∀r,MG r→MG (step r)) {go:Mr→Bool} : ∀(k:Nat) (r:Mr),MG r→MG (E8 go step k r)
 |0,r,h=>h
 |k+1,r,h=>by simp only[E8];split;exact MG.loop hs k _ (hs _ h);exact h
theorem MG.told {r:Mr} (h:MG r) (f:Fld) (n:Int):MG (Dj r f n):=by
 have ho:MG (Ag r (A4 f n)):=h.tell (by show (3:Int)≠4;decide)
 unfold Dj
 split
 ·exact ho
 ·rename_i ht
  show Fe (Bd (r.out++[A4 f n]++[Du (Ji r f n)]))=_
  rw[V8]
  have ho:Fe (Bd (r.out++[A4 f n]))=r.out++[A4 f n]:=ho
  unfold Fe at ho ⊢
  rw[Xz,ho,Aew (fun x=>by rw[Xk] at x;exact absurd x.2 (by show¬(3:Int)=4;decide)) ht]
  rfl
theorem MG.txt {r:Mr} (h:MG r) (f:Fld) (n:Int):MG (Ch r f n):=by
 have ht:=h.told f n
 unfold Ch
 split
 ·exact ht
 split
 ·exact ht
 split
 ·exact ht
 ·exact MG.tell (r:=F0 (Dj r f n) (r.at_+n)) ht (by show (5:Int)≠4;decide)
def Akk (sub:Mr→Fld→Int→Int→Mr):Prop:= ∀(v:Mr) (f:Fld) (n s:Int),MG v→MG (sub v f n s)
theorem MG.long {sub:Mr→Fld→Int→Int→Mr} (hs:Akk sub) {r:Mr} (h:MG r) (f:Fld) (known:Bool) (e:Int):MG (Br sub r f known e):=by
 have hv:=h.var e
 unfold Br
 split
 ·exact hv
 split
 ·exact hv
 split
 ·split<;>exact hv
 split
 ·exact hs _ _ _ _ hv
 split
 ·exact MG.loop (fun r h=>h.num f _ _) _ _ hv
 ·exact hv.txt f _
theorem MG.msg {sub:Mr→Fld→Int→Int→Mr} (hs:Akk sub) {r:Mr} (h:MG r) (shape e:Int):MG (Dv sub shape e r):=by
 have hv:=h.var e
 unfold Dv
 split
 ·exact hv
 split
 ·exact hv
 split
 ·exact hv
 split
 ·exact hv
 split
 ·exact hv.long hs _ _ _
 ·exact hv.num _ _ _
theorem Ah6 {D:Nat} (hs:Akk (Jk D)) {r:Mr} (h:MG r) (shape e:Int):MG (Ht D shape e r):=by
 rw[Mz];exact MG.loop (fun r h=>h.msg hs shape e) _ _ h
theorem Ah7: ∀D,Akk (Jk D)
 |0=>fun _ _ _ _ h=>h
 |D+1=>fun v f n s h=>by
  have hm:=Ah6 (Ah7 D) (h.tell (e:=E4 f n) (by show (6:Int)≠4;decide)) f.msg (v.at_+n)
  simp only[Jk]
  split
  ·exact hm.tell (by show (7:Int)≠4;decide)
  ·exact hm
theorem Ao9 {r:Mr} (h:MG r):MG (Dg r):=by
 have hv:=h.var maxI
 have hm:MG (L3 r):=Ah6 (Ah7 _) (hv.tell (by show (1:Int)≠4;decide)) _ _
 unfold Dg
 split
 ·exact hv
 split
 ·exact hv
 split
 ·exact hm.tell (by show (8:Int)≠4;decide)
 ·exact hm
theorem Apa: ∀(k:Nat) (w:Wh),MG w.r→MG (E8 Ae0 Gb k w).r
 |0,w,h=>h
 |k+1,w,h=>by simp only[E8];split;exact Apa k _ (Ao9 h);exact h
theorem Akm (p:Pln) (s:List UInt8):Fe (Bd (F5 p s).r.out)=(F5 p s).r.out:=Apa _ _ (by rfl)
/-! ### Laws -/
theorem Ah8 {p:Pln} {s:List UInt8} (hp:B1 p=true) (hlen:s.length≤4000):
  Ce (Cs ⟨B5 p,[]⟩ s).d=true∧
  (((Cs ⟨B5 p,[]⟩ s).d.mode=9∧Fe (Cs ⟨B5 p,[]⟩ s).out=E9 p s)∨
   ((Cs ⟨B5 p,[]⟩ s).d.mode≠9∧(Cs ⟨B5 p,[]⟩ s).d.at_=(s.length:Int)∧Fe (Cs ⟨B5 p,[]⟩ s).out=(F5 p s).r.out∧E9 p s=(F5 p s).r.out++(Aox (Cs ⟨B5 p,[]⟩ s).d).out)):=by
 obtain ⟨h1,h2⟩:=Aev hp hlen
 have hmg:=Akm p s
 have hdo:Ce (Cs ⟨B5 p,[]⟩ s).d=true:=by
  have: ∀(s:List UInt8) (m:Mac),Ce m.d=true→Ce (Cs m s).d=true:=by
   intro s
   induction s with
   |nil=>exact fun m h=>h
   |cons b r ih=>intro m h;rw[Hq];exact ih _ (Uh h)
  exact this s _ (by rw[(Y2 hp).1];exact(Y2 hp).2)
 refine⟨hdo,?_⟩
 generalize Cs ⟨B5 p,[]⟩ s=m at *
 have hwe:E9 p s=(F5 p s).r.out++[if (F5 p s).r.fail.kind=0 then Ac5 (s.length:Int) else (F5 p s).r.fail]:=rfl
 by_cases hk:(F5 p s).r.fail.kind=0
 ·obtain ⟨g1,g2,g3,g4,g5⟩:=h1 hk
  right
  refine⟨by omega,g3,by rw[g5];exact hmg,?_⟩
  rw[hwe,if_pos hk]
  unfold Aox
  rw[if_neg (by rw[g4];simp;omega),if_pos ⟨g1,g2⟩,g3]
  rfl
 ·obtain ⟨c,x,e1,e2⟩:=h2 hk
  rw[hwe,if_neg hk,e1]
  by_cases hc:c=10
  ·obtain ⟨hx,hcut,ho⟩:=e2.1 hc
   right
   refine⟨hcut.1,hcut.2.2.1,by rw[ho];exact hmg,?_⟩
   unfold Aox
   rw[if_neg (by rw[hdo];simp;exact hcut.1),if_neg hcut.2.1,hcut.2.2.1,hc,hx]
  ·obtain ⟨h9,ho⟩:=e2.2 hc
   left
   refine⟨h9,?_⟩
   rw[ho,←Dw (by show (10:Int)≠4;decide)]
   exact Ah5 hmg (by show (10:Int)≠4;decide)
theorem X0 {p:Pln} {s:List UInt8} :(H9 p s).length≤16001:=by unfold H9;split;exact Aeh (by omega);simp
theorem Ah9 {p:Pln} {s:List UInt8} (hp:B1 p=true) (hl:s.length≤4000):H9 p s=E9 p s:=by unfold H9;rw[if_pos ⟨hp,hl⟩]
theorem Ko (p:Pln) (s:List UInt8):(Dq (B5 p) s).d.plan.shapes.length≤6∧(∀e∈(Dq (B5 p) s).d.plan.shapes,e.fields.length≤1048576)∧(Dq (B5 p) s).d.stack.length≤8∧(0≤(Dq (B5 p) s).d.scan.bits∧(Dq (B5 p) s).d.scan.bits≤18446744073709551615)∧(Dq (B5 p) s).out.length≤14*s.length:=by
 have h:=Ag5 (B5 p) s
 have hb:=Sf (p:=p)
 refine⟨by rw[h.1];exact hb.1,by rw[h.1];exact hb.2.1,?_,h.2.2.2 hb.2.2.2,h.2.2.1⟩
 have h2:=h.2.1
 have h3:=hb.2.2.1
 omega
theorem X1 {p:Pln} {s:List UInt8} (hp:B1 p=true) (hl:s.length≤4000):((Pb (Dq (B5 p) s).d 21).out=[]∧(Dq (B5 p) s).out=H9 p s)∨((Pb (Dq (B5 p) s).d 21).out=[Bh 21 (s.length:Int)]∧(Dq (B5 p) s).out=List.take (Int.toNat (((H9 p s).length:Int)-1)) (H9 p s)∧1≤(H9 p s).length):=by
 obtain ⟨hok,h⟩:=Ah8 hp hl
 rw[Ah9 hp hl]
 have hok:Ce (Dq (B5 p) s).d=true:=hok
 rcases h with ⟨h9,h⟩|⟨h9,hat,h,hw⟩
 ·left
  refine⟨?_,h⟩
  unfold Pb
  rw[if_neg (fun x=>x.2.1 h9)]
 ·right
  have hat:(Dq (B5 p) s).d.at_=(s.length:Int):=hat
  have e1:E9 p s=(F5 p s).r.out++[if (F5 p s).r.fail.kind=0 then Ac5 (s.length:Int) else (F5 p s).r.fail]:=rfl
  have e2:Int.toNat (((E9 p s).length:Int)-1)=(F5 p s).r.out.length:=by rw[e1,List.length_append,List.length_singleton];omega
  refine⟨?_,?_,by rw[e1,List.length_append,List.length_singleton];omega⟩
  ·unfold Pb
   rw[if_pos ⟨hok,h9,by decide⟩,hat]
  ·rw[e2,e1,List.take_left];exact h
theorem Aam {p:Pln} {s:List UInt8} {x:List Ev} (h:(Pb (Dq (B5 p) s).d 21).out=x):(Pb (Dq (B5 p) s).d 21).out.length=x.length:=by rw[h]
structure Hy where
 p:Pln
 t:List UInt8
def Qg (code:List Int) (o:Hy):Prop:=Fun Tryz.prog 18 [.c (.seq .u8 code)] [] (.tup [.agg (Gw o.p),vT o.t]) []
def Li (code:List Int) (o:Hy):Prop:=((Ae1 o.p)∧(List.length (o.t:List UInt8)≤200000))∧Qg code o
theorem Aan (code:List Int) (hp1:List.length code≤1048576): ∃o:Hy,Li code o:=by
 have hN:Bn=274877906944:=rfl
 refine B4 Tryz.func18 Q4 Q4 (w:=(.intro (Ri code) fun o1=> .seg [.call [] (.tup [vP 0,.agg (Gw o1.p),vT o1.t]) (Kc o1.c1)] (.leaf (⟨o1.p,o1.t⟩:Hy) []),In (Ri code) fun o1=>(let z1:S:= .tup [.agg (Gw o1.p),vT o1.t];(V7 code o1)∧((Ae1 o1.p)∧(List.length (o1.t:List UInt8)≤200000))∧Lf z1 z1 [] []))) Q4 ?_
 refine⟨(Ahu code Q2),fun o1 ho_o1=>?_⟩
 obtain ⟨⟨hp_o1_0,hp_o1_1,hp_o1_2⟩,hf_o1⟩:=ho_o1
 exact⟨hf_o1,⟨(by assumption),Q2⟩,rfl,rfl⟩
theorem Aex (code:List Int) (hp1:((List.length code:Nat):Int)≤9223372036854775807):Fun Tryz.prog 4 [.c (.seq .u8 code)] [] (.v (vB true)) []:=by
 have hN:Bn=274877906944:=rfl
 refine Av Tryz.func4 Q4 Q4 (w:=let z10:=decide (1048576<((List.length code:Nat):Int));let z11:S:= .v (vB true);(.seg [.call [] (.v (vB z10)) []] (.br (.leaf () []) (.intro (Li code) fun o1=>let z2:=H9 o1.p o1.t;let z3:=B5 o1.p;let z1:=Dq z3 o1.t;.seg [.call [] (.tup [.agg (Gw o1.p),vT o1.t]) []] (.br (.leaf () []) (.seg [.call [] (.tup [.agg (C6 0 1 z3),vB (B1 o1.p)]) (L2 z3),.call [] (.v (vB (B1 o1.p))) [],.br false] (.br (.seg [.call [] (.v (vB (B1 o1.p))) []] (.leaf () [])) (.seg [.call [] (.tup [.agg (C6 0 1 z1.d),vO 2]) (Ls z1.d z1.out),.call [] (.tup [.agg (C6 0 1 (Pb z1.d 21).d),vO 2]) (Ls (Pb z1.d 21).d (Pb z1.d 21).out),.call [] (.v (vO 0)) [.lst .ev z2],.at 13,.pubS 8,.pubS 10,.pubS 11] (.br (.seg [.call [] (.v (vB (decide (z1.out=z2)))) []] (.leaf () [])) (.intro (Sx ((Pb z1.d 21).out[0]?)) fun x1=> .seg [.el .ev x1] (.br (.seg [.as 71 (.v (vI (((List.length z2:Nat):Int)-1))),.call [] (.v (vB (decide (z1.out=(List.take (Int.toNat (((List.length z2:Nat):Int)-1)) z2))))) []] (.leaf () [])) (.leaf () [])))))))))),(Fp 8 [.c (.seq .u8 code)] [] (.v (vB z10)) [])∧Bc z10 (Lf z11 z11 [] []) (In (Li code) fun o1=>(let z6:=H9 o1.p o1.t;let z5:=((List.length z6:Nat):Int);let z7:=B5 o1.p;let z4:=Dq z7 o1.t;let z8:=B1 o1.p;let z9:=((List.length o1.t:Nat):Int);(Qg code o1)∧Bc (decide (4000<z9)) (Lf z11 z11 [] []) ((Fp 19 [.agg (Gw o1.p)] [] (.tup [.agg (C6 0 1 z7),vB z8]) (L2 z7))∧(Fp 13 [.agg (Gw o1.p)] [] (.v (vB z8)) [])∧((!decide (B1 o1.p=B1 o1.p))=false)∧Bc (!z8) ((Fp 13 [.agg (Gw o1.p)] [] (.v (vB z8)) [])∧Lf (.v (vB (decide (B1 o1.p=B1 o1.p)))) z11 [] []) ((Fp 20 [.agg (C4 z7),vT o1.t] [] (.tup [.agg (C6 0 1 z4.d),vO 2]) (Ls z4.d z4.out))∧(Fp 21 [.agg (C4 z4.d),vI 21] [] (.tup [.agg (C6 0 1 (Pb z4.d 21).d),vO 2]) (Ls (Pb z4.d 21).d (Pb z4.d 21).out))∧(Fp 16 [.agg (Gw o1.p),vT o1.t] [] (.v (vO 0)) [.lst .ev z6])∧Bc (decide (((List.length (Pb z4.d 21).out:Nat):Int)=0)) ((Fp 14 [.c (.seq .ev z4.out),.c (.seq .ev z6)] [] (.v (vB (decide (z4.out=z6)))) [])∧Lf (.v (vB (decide (z4.out=z6)))) z11 [] []) (El ((Pb z4.d 21).out[0]?) fun x1=>(((Pb z4.d 21).out[0]? =some x1)∧((0:Int)≤0)∧Bc (decide (x1.kind=10)&&(decide (x1.field=0)&&(decide (x1.bits=0)&&(decide (x1.len=0)&&(decide (x1.text=[])&&(decide (x1.code=21)&&decide (x1.at_=z9))))))) ((wI (z5-1))∧(z5-1≤z5)∧((0:Int)≤z5-1)∧(Fp 14 [.c (.seq .ev z4.out),.c (.seq .ev (List.take (Int.toNat (z5-1)) z6))] [] (.v (vB (decide (z4.out=(List.take (Int.toNat (z5-1)) z6))))) [])∧Lf (.v (vB (decide (z4.out=(List.take (Int.toNat (z5-1)) z6))))) z11 [] []) (Lf (.v (vB false)) z11 [] []))))))))) Q4 ?_
 refine⟨(Ao6 _ Q2),dsp (fun h1 p1=>?_) fun h1 p1=>?_⟩
 exact⟨rfl,rfl⟩
 refine⟨(Aan code Q2),fun o1 ho_o1=>?_⟩
 obtain ⟨⟨hp_o1_0,hp_o1_1⟩,hf_o1⟩:=ho_o1
 refine⟨hf_o1,dsp (fun h2 p2=>?_) fun h2 p2=>?_⟩
 exact⟨rfl,rfl⟩
 refine⟨(Ai8 o1.p (by have:=hp_o1_0.1;omega)),(Ug o1.p),(by simp),fun h3=>have q3:=Aq h3;?_,fun h3=>have q3:=Ao h3;have p3:=Cd q3;?_⟩
 refine⟨(Ug o1.p),(sB ?_),rfl⟩
 rotate_left
 refine⟨(Aou (B5 o1.p) _ (by have:=(Sf (p:=o1.p)).1;omega) (Sf.2.1) (by have:=(Sf (p:=o1.p)).2.2.1;omega) (Sf.2.2.2) Q2),(Ana (Dq (B5 o1.p) o1.t).d _ (by have:=(Ko o1.p o1.t).1;omega) ((Ko o1.p o1.t).2.1) (by have:=(Ko o1.p o1.t).2.2.1;omega) ((Ko o1.p o1.t).2.2.2.1)),(Anf o1.p _ Q2),dsp (fun h4 p4=>?_) fun h4 p4=>?_⟩
 have hbl:=X1 (p:=o1.p) (s:=o1.t) (by assumption) (by omega)
 have hbz:=hbl.resolve_right (fun h=>by have:=Aam h.1;simp only[List.length_cons,List.length_nil] at this;omega)
 refine⟨(Z4 _ _ (by have:=(Ko o1.p o1.t).2.2.2.2;omega) Q44),(sB ?_),rfl⟩
 rotate_left
 have hbl:=X1 (p:=o1.p) (s:=o1.t) (by assumption) (by omega)
 have hbz:=hbl.resolve_left (fun h=>by have:=Aam h.1;simp only[List.length_nil] at this;omega)
 have hwn:= @X0 o1.p o1.t
 have hw1:=hbz.2.2
 refine⟨(Bo (l:=(Pb (Dq (B5 o1.p) o1.t).d 21).out) (i:=0) (by have:=(Ko o1.p o1.t).2.2.2.2;omega)),fun x1 hx1=>?_⟩
 have hx0:x1=Bh 21 (o1.t.length:Int):=by have:=hx1;rw[hbz.1] at this;exact(Option.some.inj this).symm
 refine⟨hx1,Q18,fun h5=>have p5:=(Da dT (Da dT (Da dT (Da dT (Da dT (Da dT dT)))))).1 h5;?_,fun h5=>have p5:=(Db dT (Db dT (Db dT (Db dT (Db dT (Db dT dF)))))).1 h5;?_⟩
 refine⟨(Af Q2 Q2),Q44,Q44,(Z4 _ _ (by have:=(Ko o1.p o1.t).2.2.2.2;omega) Q44),(sB ?_),rfl⟩
 rotate_left
 refine⟨(sB ?_),rfl⟩
 rotate_left
 all_goals first|(rfl)|((simp[hbz.2];done))|((simp[hbz.2.1];done))|((simp[hx0,Bh,hbz.2.1];done))|((exfalso;rw[hx0] at *;simp[Bh] at *;done))|((simp_all;done))|(grind)
end Go.Proofs.YtphecbmdhbphgaaGreat.Ax
namespace Go.Proofs.YtphecbmdhbphgaaGreat.Ax
open Go.ChangeShapes Go.WideShapes Go.ChangeAt Go.RowKit
theorem Aia:Tryz.prog.cellsOf 5=1:=by kernel_rfl
theorem Aqk {H:Type} {tok:TypeId×Value→H} {w:World} {sp:Nat→Bool} {held:Bool} (fuel:Nat) (cs:List Value) (x:DataW H×List MemPlace) (hl:cs.length=1) (h:DataW.trod tok Tryz.prog w 0 sp held fuel 5 cs=some x): ∃y:Int,All2 Rep0 (enc .u8 y) cs∧(0≤y∧y≤255):=by
 obtain ⟨i,rfl,_,hw⟩:=DataW.trod_int Tryz.underlying5 h
 exact⟨i,.cons rfl .nil,bounds_u8 hw⟩
end Go.Proofs.YtphecbmdhbphgaaGreat.Ax
