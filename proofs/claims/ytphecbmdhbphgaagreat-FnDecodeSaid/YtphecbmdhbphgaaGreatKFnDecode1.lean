/- Models. Models: the machine. Models: the machine's steps. Models: bytes, Jm inputs. Numbers. Varints. Numbers of so At3 bytes; tags. Utf-8. -/
import Derived.Test.YtphecbmdhbphgaaGreatKB4
set_option linter.unusedSimpArgs false
set_option linter.unusedVariables false
namespace Go.Proofs.YtphecbmdhbphgaaGreat.Ax
open Go.RowKit
theorem cI {a b:Int} (h:a=b):C.int .i64 a=C.int .i64 b:=congrArg (C.int .i64) h
theorem Ab {α:Type} {a b:α} {l m:List α} (h:a=b) (t:l=m):a::l=b::m:=by rw[h,t]
def vI (x:Int):V:= .c (.int .i64 x)
def vB (x:Bool):V:= .c (.bool x)
def vT (x:List UInt8):V:= .c (.str x)
def vO (j:Nat):V:= .c (.own j)
def vP (j:Nat):V:= .c (.ptr j 0)
theorem sB {a b:Bool} (h:a=b):(.v (.c (.bool a)):S)= .v (.c (.bool b)):=by rw[h]
theorem sI {a b:Int} (h:a=b):(.v (.c (.int .i64 a)):S)= .v (.c (.int .i64 b)):=by rw[h]
theorem dT {p:Prop} [Decidable p]:decide p=true↔p:=decide_eq_true_iff
theorem dF {p:Prop} [Decidable p]:decide p=false↔¬p:=decide_eq_false_iff_not
theorem C9 {a b:Bool} {P Q:Prop} (h:a=true↔P) (g:b=true↔Q):(a&&b)=true↔P∧Q:=by rw[Bool.and_eq_true,h,g]
theorem Da {a b:Bool} {P Q:Prop} (h:a=true↔P) (g:b=false↔Q):(a&&b)=false↔(P→Q):=by rw[Bool.and_eq_false_imp,h,g]
theorem orT {a b:Bool} {P Q:Prop} (h:a=true↔P) (g:b=true↔Q):(a||b)=true↔P∨Q:=by rw[Bool.or_eq_true,h,g]
theorem orF {a b:Bool} {P Q:Prop} (h:a=false↔P) (g:b=false↔Q):(a||b)=false↔P∧Q:=by rw[Bool.or_eq_false_iff,h,g]
theorem Bp {F:Fam} {j:F.ι} {tm:List (Nat×S)} {H:List Blk} (h1:tm=F.tm j) (h2:H=F.H j) (h:F.inv j):F.Has tm H:=⟨j,h,h1,h2⟩
theorem A6 {F:Fam} {i j:F.ι} {tm:List (Nat×S)} {H:List Blk} (h1:tm=F.tm j) (h2:H=F.H j) (h:F.inv j) (hm:F.mu j<F.mu i):F.Nxt i tm H:=⟨j,⟨h,hm⟩,h1,h2⟩
abbrev In {α:Type} (P Q:α→Prop):Prop:=(∃o,P o)∧∀o,P o→Q o
theorem Ar {P : Program} {f : FuncId} {fn : Func} (hf : P.funcs[f]? = some fn) (hb : fn.body.isNone = false) (hn : (fn.name == "runtime.NumGoroutine") = false) {args : List V} {L L' : List Blk} {r : S} {w : DT Unit × Prop}
  (hw:Ag5 P fn args L w.1 (fun _ r' Lp=>r'=r∧Lp=L')=w.2) (h:w.2):Fun P f args L r L':=Ar7 hf hb hn hw h
theorem Cj {P : Program} {ι : Type} {f : FuncId} {fn : Func} (hf : P.funcs[f]? = some fn) (hb : fn.body.isNone = false) (hn : (fn.name == "runtime.NumGoroutine") = false) {args : List V} {L : List Blk} {L' : ι → List Blk} {r : ι → S} {good : ι → Prop} {w : DT ι × Prop}
  (hw:Ag5 P fn args L w.1 (fun i r' Lp=>good i∧r'=r i∧Lp=L' i)=w.2) (h:w.2): ∃i,good i∧Fun P f args L (r i) (L' i):=Aqm hf hb hn hw h
abbrev Bc (p:Bool) (A B:Prop):Prop:=(p=true→A)∧(p=false→B)
abbrev Lf (a b:S) (x y:List Blk):Prop:=a=b∧x=y
abbrev Sx {α:Type} (o:Option α):α→Prop:=fun x=>o=some x
abbrev El {α:Type} (o:Option α) (Q:α→Prop):Prop:=(∃x,o=some x)∧∀x,o=some x→Q x
abbrev wI (x:Int):Prop:=(.v (vI (IntKind.i64.wrap x)):S)= .v (vI x)
abbrev wU (x:Int):Prop:=(.v (.c (.int .u64 (IntKind.u64.wrap x))):S)= .v (.c (.int .u64 x))
abbrev Fp:=Fun Tryz.prog
theorem zE {β:Type} {p:Prop} (a b:β) (h:a=b→p) (h1:a=b):p:=h h1
theorem zD {β γ:Type} {p:Prop} (a b:β) (c d:γ) (h:a=b→c=d→p) (h1:a=b) (h2:c=d):p:=h h1 h2
theorem zM {α β γ:Type} {p:Prop} (f:α→β) (g:α→γ) (m x:α) (h:f m=f x→g m=g x→p) (h1:f m=f x) (h2:g m=g x):p:=h h1 h2
theorem dsp {p:Prop} [Decidable p] {A B:Prop} (h1:decide p=true→p→A) (h2:decide p=false→¬p→B):(decide p=true→A)∧(decide p=false→B):=⟨fun h=>h1 h (of_decide_eq_true h),fun h=>h2 h (of_decide_eq_false h)⟩
/-! ### Structures -/
structure Scn where
 bits:Int
 hJ:Int
 deriving DecidableEq,Inhabited
structure Utf where
 wK:Int
 low:Int
 high:Int
 deriving DecidableEq,Inhabited
structure Pln where
 sQ:List Shp
 rJ:Int
 dJ:Int
 most:Int
 deriving DecidableEq,Inhabited
structure Dcd where
 pJ:Pln
 mJ:Int
 sJ:List Lev
 sK:Scn
 sX:Int
 aJ:Int
 field:Fld
 wJ:Int
 wK:Int
 uJ:Utf
 eJ:Ev
 deriving DecidableEq,Inhabited
def fld0:Fld:=⟨0,0,false,false,0⟩
def ev0:Ev:=⟨0,0,0,0,[],0,0⟩
def utf0:Utf:=⟨0,0,0⟩
def scn0:Scn:=⟨0,0⟩
theorem C3 {α:Type} {l:List α} {i:Nat} {x:α} (h:l[i]? =some x):l.drop i=x::l.drop (i+1):=by
 have hl:=(List.getElem?_eq_some_iff.1 h).1
 rw[List.drop_eq_getElem_cons hl]
 congr 1
 rw[List.getElem?_eq_getElem hl] at h
 exact Option.some.inj h
theorem Ao {b:Bool} (h:(!b)=true):b=false:=by cases b<;>simp_all
theorem An {b:Bool} (h:(!b)=false):b=true:=by cases b<;>simp_all
theorem Va {α:Type} {l:List α} {i:Nat} {x d:α} (h:l[i]? =some x):l.getD i d=x:=by simp[List.getD,h]
theorem Mc {α:Type} {l:List α} {i:Nat} (h: ¬((i:Nat):Int)<((l.length:Nat):Int)):l.drop i=[]:=List.drop_eq_nil_of_le (by omega)
/-! ### Words of numbers -/
theorem Vb {k:IntKind} {a m:Int} (h:0≤a):(.v (.c (.int k (Int.tmod a m))):S)= .v (.c (.int k (a % m))):=by rw[Int.tmod_eq_emod_of_nonneg h]
theorem Yg {a m:Int} (h:0≤a) (h2:a≤18446744073709551615) (hm:0<m):(.v (.c (.int .u64 (IntKind.u64.wrap (Int.tdiv a m)))):S)= .v (.c (.int .u64 (a / m))):=by
 rw[Int.tdiv_eq_ediv_of_nonneg h]
 have h3:=Int.ediv_nonneg h (Int.le_of_lt hm)
 have h4:=Int.ediv_le_self m h
 exact Bu Q2 Q2
theorem Ar9 {a b:Int} {k:Nat} (ha:0≤a) (hk:a<2 ^ k) {c:Int} (hc:0≤c) (hb:b=c*2 ^ k) (hs:b+2 ^ k≤18446744073709551616):(((BitVec.ofInt 64 a|||BitVec.ofInt 64 b).toNat:Nat):Int)=a+b:=by
 obtain ⟨n,rfl⟩:=Int.eq_ofNat_of_zero_le ha
 obtain ⟨m,rfl⟩:=Int.eq_ofNat_of_zero_le hc
 have hb':b=((m*2 ^ k:Nat):Int):=by rw[hb,Int.natCast_mul,Int.natCast_pow];rfl
 have hp:(0:Int)<2 ^ k:=Int.pow_pos (by decide)
 subst hb'
 have e:((2 ^ k:Nat):Int)=2 ^ k:=by rw[Int.natCast_pow];rfl
 rw[←e] at hk hs hp
 have h1:n<2 ^ k:=by omega
 have h2:m*2 ^ k+2 ^ k≤18446744073709551616:=by omega
 have h3:n<2 ^ 64:=by omega
 have h4:m*2 ^ k<2 ^ 64:=by omega
 rw[BitVec.toNat_or,BitVec.ofInt_natCast,BitVec.ofInt_natCast,BitVec.toNat_ofNat,BitVec.toNat_ofNat,Nat.mod_eq_of_lt h3,Nat.mod_eq_of_lt h4,Nat.or_comm,Nat.mul_comm m,←Nat.two_pow_add_eq_or_of_lt h1]
 rw[Nat.mul_comm,Int.natCast_add,Int.add_comm]
/-! ### Kinds, wires, numbers -/
def D3 (n:Int):Bool:=Ak n 1 536870911&& !Ak n 19000 19999
def C4 (w:Int):Bool:=decide (w=0)||decide (w=1)||decide (w=2)||decide (w=5)
def En (k:Int):Bool:=Ak k 1 8
def C1 (k:Int):Bool:=Ak k 1 5
def Be (k:Int):Int:=if En k then (if k=4 then 5 else if k=5 then 1 else if k≤3 then 0 else 2) else-1
def Aq (w:Int):Int:=if w=1 then 8 else if w=5 then 4 else 0
def U3 (f:Fld):Bool:=f.rep&&C1 f.kind
def Dk (f:Fld) (w:Int):Bool:=decide (w=Be f.kind)||(decide (w=2)&&U3 f)
def Gs (k:Int):Bool:=decide (k=2)||decide (k=3)||decide (k=6)
theorem Dv (w:Int):0≤Aq w∧Aq w≤8:=by unfold Aq;split<;>(try split)<;>omega
def L8 (f:Fld) (n:Int):Bool:=D3 f.nJ&&En f.kind&& !(f.packed&&(!f.rep|| !C1 f.kind))&&(if f.kind=8 then Ak f.mK 0 (n-1) else decide (f.mK= -1))
def Dm (n:Int):Int→List Fld→Bool
 |_,[]=>true
 |b,f::r=>decide (b<f.nJ)&&L8 f n&&Dm n f.nJ r
def E1 (n:Int):Int→List Shp→Bool
 |_,[]=>true
 |b,x::r=>decide (b<x.id)&&decide (x.id≤99)&&decide ((x.fJ.length:Int)≤8)&&Dm n 0 x.fJ&&E1 n x.id r
def Du (l:List Shp):Bool:=decide ((l.length:Int)≤6)&&E1 (l.length:Int) 0 l
def H4 (l:List Fld) (n:Int):Option Fld:=l.find? fun f=>decide (f.nJ=n)
def At2:Shp:=⟨0,[]⟩
def fieldAt (l:List Shp) (s n:Int):Option Fld:=if Ak s 0 ((l.length:Int)-1) then H4 (l.getD s.toNat At2).fJ n else none
def B2 (p:Pln):Bool:=Du p.sQ&&Ak p.rJ 0 ((p.sQ.length:Int)-1)&&Ak p.dJ 1 8&&Ak p.most 0 2000
theorem Abp {f:Fld} {n:Int} (h:L8 f n=true):1≤f.nJ∧f.nJ≤536870911∧1≤f.kind∧f.kind≤8∧(f.kind=8→0≤f.mK∧f.mK≤n-1)∧(f.kind≠8→f.mK= -1):=by
 simp only[L8,D3,En,Ak,Bool.and_eq_true,decide_eq_true_eq] at h
 obtain ⟨⟨⟨h1,h2⟩,h3⟩,h4⟩:=h
 refine⟨h1.1.1,h1.1.2,h2.1,h2.2,fun hk=>?_,fun hk=>?_⟩
 ·rw[if_pos hk] at h4;simpa using h4
 ·rw[if_neg hk] at h4;simpa using h4
theorem Vc {l:List Shp} (h:Du l=true):l.length≤6:=by
 simp only[Du,Bool.and_eq_true,decide_eq_true_eq] at h;omega
theorem By {p:Pln} (h:B2 p=true):p.sQ.length≤6∧Du p.sQ=true∧0≤p.rJ∧p.rJ<(p.sQ.length:Int)∧1≤p.dJ∧p.dJ≤8∧0≤p.most∧p.most≤2000:=by
 simp only[B2,Ak,Bool.and_eq_true,decide_eq_true_eq] at h
 have:=Vc h.1.1.1
 refine⟨this,h.1.1.1,?_⟩;omega
theorem Wg {n:Int} : ∀ {b:Int} {l:List Fld},Dm n b l=true→∀f∈l,L8 f n=true∧b<f.nJ
 |_,[],_,f,hf=>by cases hf
 |b,g::r,h,f,hf=>by
  simp only[Dm,Bool.and_eq_true,decide_eq_true_eq] at h
  rcases List.mem_cons.1 hf with rfl|hf
  ·exact⟨h.1.2,h.1.1⟩
  ·have:=Wg h.2 f hf;exact⟨this.1,by omega⟩
theorem Rp {n:Int} : ∀ {b:Int} {l:List Shp},E1 n b l=true→∀x∈l,(x.fJ.length≤8∧Dm n 0 x.fJ=true)∧b<x.id∧x.id≤99
 |_,[],_,f,hf=>by cases hf
 |b,g::r,h,f,hf=>by
  simp only[E1,Bool.and_eq_true,decide_eq_true_eq] at h
  rcases List.mem_cons.1 hf with rfl|hf
  ·exact⟨⟨by omega,h.1.2⟩,h.1.1.1.1,h.1.1.1.2⟩
  ·have:=Rp h.2 f hf;exact⟨this.1,by omega,this.2.2⟩
theorem D1 {l:List Shp} (h:Du l=true): ∀x∈l,x.fJ.length≤1000:=fun x hx=>by
 simp only[Du,Bool.and_eq_true] at h
 have:=(Rp h.2 x hx).1.1
 omega
theorem Vd {l:List Shp} {s n:Int} {f:Fld} (hl:Du l=true) (h:fieldAt l s n=some f):L8 f (l.length:Int)=true∧f.nJ=n:=by
 unfold fieldAt at h
 split at h
 ·rename_i hs
  have hs:=Av hs
  simp only[Du,Bool.and_eq_true,decide_eq_true_eq] at hl
  have hm:l.getD s.toNat At2∈l:=by
   rw[List.getD_eq_getElem?_getD,List.getElem?_eq_getElem (by omega)]
   exact List.getElem_mem _
  have hx:=(Rp hl.2 _ hm).1.2
  have hf:=List.mem_of_find?_eq_some h
  have hp:=List.find?_some h
  exact⟨(Wg hx f hf).1,by simpa using hp⟩
 ·cases h
/-! ### Tags -/
def Db (n w:Int):Int:=if Ak n 1 536870911&&Ak w 0 7 then 8*n+w else 0
def Nf (u:Int):Bool:=Ak u 8 4294967295
def A8 (u:Int):Int:=if Nf u then u / 8 else 0
def Ag (u:Int):Int:=if Nf u then u % 8 else 0
theorem Br (n w:Int):0≤Db n w∧Db n w≤4294967295:=by
 unfold Db Ak;split<;>simp_all<;>omega
/-! ### Utf-8 -/
def Tg (u:Utf) (w l h:Int):Bool:=decide (u.wK=w)&&(decide (u.low=l)&&decide (u.high=h))
def Fe (u:Utf):Bool:=Tg u 0 0 0||Tg u 1 128 191||Tg u 2 128 191||Tg u 3 128 191||Tg u 2 160 191||Tg u 2 128 159||Tg u 3 144 191||Tg u 3 128 143
theorem Aeq {u:Utf} (h:Fe u=true):(u.wK=0∧u.low=0∧u.high=0)∨(u.wK=1∧u.low=128∧u.high=191)∨(u.wK=2∧u.low=128∧u.high=191)∨(u.wK=3∧u.low=128∧u.high=191)∨(u.wK=2∧u.low=160∧u.high=191)∨(u.wK=2∧u.low=128∧u.high=159)∨(u.wK=3∧u.low=144∧u.high=191)∨(u.wK=3∧u.low=128∧u.high=143):=by
 simp only[Fe,Tg,Bool.or_eq_true,Bool.and_eq_true,decide_eq_true_eq] at h
 rcases h with ((((((h|h)|h)|h)|h)|h)|h)|h<;>simp[h]
theorem Ve {u:Utf} (h:Fe u=true) (h0:u.wK=0):u=utf0:=by
 rcases Aeq h with h|h|h|h|h|h|h|h<;>first|(cases u;simp_all[utf0];done)|omega
theorem Jt {u:Utf} (h:Fe u=true):0≤u.wK∧u.wK≤3:=by
 rcases Aeq h with h|h|h|h|h|h|h|h<;>omega
def Bk (b:Int):Option Utf:=
 if Ak b 0 127 then some utf0
 else if Ak b 194 223 then some ⟨1,128,191⟩
 else if Ak b 224 239 then some ⟨2,if b=224 then 160 else 128,if b=237 then 159 else 191⟩
 else if Ak b 240 244 then some ⟨3,if b=240 then 144 else 128,if b=244 then 143 else 191⟩
 else none
def B8 (u:Utf) (b:Int):Option Utf:=
 if Fe u then (if u.wK=0 then Bk b else if Ak b u.low u.high then some (if u.wK=1 then utf0 else ⟨u.wK-1,128,191⟩) else none) else none
def E2:Utf→List UInt8→Nat→Utf×Option Nat
 |u,[],_=>(u,none)
 |u,b::r,i=>match B8 u (b.toNat:Int) with
  |some v=>E2 v r (i+1)
  |none=>(u,some i)
def Vf (u:Utf) (s:List UInt8):Utf:=(E2 u s 0).1
def Gc (u:Utf) (s:List UInt8):Int:=match (E2 u s 0).2 with
 |some i=>(i:Int)
 |none=> -1
/-! ### Varints -/
def Pi (u:Nat):List UInt8:=if h:u<128 then [UInt8.ofNat u] else UInt8.ofNat (u % 128+128)::Pi (u / 128)
termination_by u
decreasing_by omega
def Eo (u:Int):List UInt8:=Pi u.toNat
def Md (u:Int):Int:=((Eo u).length:Int)
theorem Pj {u:Nat} (h:u<128):Pi u=[UInt8.ofNat u]:=by rw[Pi,dif_pos h]
theorem Th {u:Nat} (h: ¬u<128):Pi u=UInt8.ofNat (u % 128+128)::Pi (u / 128):=by rw[Pi,dif_neg h]
theorem Yh: ∀(k u:Nat),u<128 ^ k→1≤k→(Pi u).length≤k
 |0,_,_,h=>by omega
 |k+1,u,h,_=>by
  by_cases hu:u<128
  ·rw[Pj hu];simp
  ·rw[Th hu]
   have hk:1≤k:=by
    rcases k with _|k
    ·simp at h;omega
    ·omega
   have:=Yh k (u / 128) (by rw[Nat.pow_succ] at h;exact Nat.div_lt_of_lt_mul (by rw[Nat.mul_comm];exact h)) hk
   simp;omega
theorem Yi (u:Nat):1≤(Pi u).length:=by
 by_cases hu:u<128
 ·rw[Pj hu];simp
 ·rw[Th hu];simp
theorem Ac6 {u:Int} (h0:0≤u) (h:u≤127):Eo u=[UInt8.ofNat u.toNat]:=Pj (by omega)
theorem Aah {u:Int} (h0:0≤u) (h:127<u):Eo u=UInt8.ofNat (u % 128+128).toNat::Eo (u / 128):=by
 unfold Eo
 rw[Th (by omega),show (u / 128).toNat=u.toNat / 128 by omega,show (u % 128+128).toNat=u.toNat % 128+128 by omega]
theorem Aai (u:Int):1≤(Eo u).length:=Yi _
theorem Af0 {u:Int} (h:u≤18446744073709551615):1≤Md u∧Md u≤10:=by
 have h1:=Yi u.toNat
 have h2:=Yh 10 u.toNat (by omega) (by omega)
 unfold Md Eo;omega
def vwA (s:List UInt8) (aJ eJ:Int):Nat→Int→Int→Int×Int×Int
 |0,_,_=>(0,(s.length:Int),10)
 |f+1,k,u=>
  if eJ≤aJ+k then (0,eJ,9)
  else if (s.length:Int)≤aJ+k then (0,(s.length:Int),10)
  else if k=9∧1<((s.getD (aJ+k).toNat 0).toNat:Int) then (0,aJ+k,1)
  else if ((s.getD (aJ+k).toNat 0).toNat:Int)<128 then (u+((s.getD (aJ+k).toNat 0).toNat:Int) % 128*2 ^ (7*k).toNat,aJ+k+1,0)
  else vwA s aJ eJ f (k+1) (u+((s.getD (aJ+k).toNat 0).toNat:Int) % 128*2 ^ (7*k).toNat)
def Ai (s:List UInt8) (aJ eJ:Int):Int×Int×Int:=if Ak aJ 0 (s.length:Int) then vwA s aJ eJ 10 0 0 else (0,(s.length:Int),10)
theorem Ajq {c:Int} {k:Nat} (hk:k≤9) (h0:0≤c) (h1:c≤127) (h9:k=9→c≤1):0≤c*2 ^ (7*k)∧c*2 ^ (7*k)+2 ^ (7*k)≤18446744073709551616∧(0:Int)<2 ^ (7*k)∧c*2 ^ (7*k)+2 ^ (7*k)≤2 ^ (7*(k+1)):=by
 rcases (show k=0∨k=1∨k=2∨k=3∨k=4∨k=5∨k=6∨k=7∨k=8∨k=9 by omega) with rfl|rfl|rfl|rfl|rfl|rfl|rfl|rfl|rfl|rfl<;>simp at * <;>omega
theorem Ac7 {c:Int} {k:Nat} (hk:k≤9) (h0:0≤c) (h1:c≤127) (h9:k=9→c≤1):(.v (.c (.int .u64 (IntKind.u64.wrap (c*2 ^ min (Int.toNat (7*((k:Nat):Int))) 64)))):S)= .v (.c (.int .u64 (c*2 ^ (7*k)))):=by
 have h:=Ajq hk h0 h1 h9
 rw[show min (Int.toNat (7*((k:Nat):Int))) 64=7*k by omega]
 exact Bu Q2 Q2
theorem Asa {s:List UInt8} {a e:Int} : ∀(f k:Nat) (u:Int),k≤9→10≤f+k→0≤u→u<2 ^ (7*k)→0≤(vwA s a e f k u).1∧(vwA s a e f k u).1≤18446744073709551615
 |0,k,u,_,_,_,_=>by simp[vwA]
 |f+1,k,u,hk,hf,h0,h1=>by
  rw[vwA]
  have hb:=UInt8.toNat_lt (s.getD (a+(k:Int)).toNat 0)
  split
  ·simp
  split
  ·simp
  split
  ·simp
  rename_i h9
  have h9':k=9→¬(1<((s.getD (a+(k:Int)).toNat 0).toNat:Int)):=fun h hh=>h9 ⟨by omega,hh⟩
  have e7:((7*(k:Int)).toNat)=7*k:=by omega
  have hv:=Ajq (c:=((s.getD (a+(k:Int)).toNat 0).toNat:Int) % 128) (k:=k) (by omega) (by omega) (by omega) (by intro h;have:=h9' h;omega)
  split
  ·rw[e7];dsimp only;omega
  ·rename_i h128
   have hk8:k≠9:=fun h=>by have:=h9' h;omega
   rw[e7,show (k:Int)+1=((k+1:Nat):Int) by simp]
   exact Asa f (k+1) _ Q2 Q2 Q2 Q2
theorem Lm (s:List UInt8) (a e:Int):0≤(Ai s a e).1∧(Ai s a e).1≤18446744073709551615:=by
 unfold Ai
 split
 ·exact Asa 10 0 0 (by omega) (by omega) (by omega) (by decide)
 ·simp
/-! ### Numbers of so At3 bytes -/
def Ti (w:Int):Bool:=decide (w=4)||decide (w=8)
def Cv:List UInt8→Nat
 |[]=>0
 |b::r=>b.toNat+256*Cv r
def Em (s:List UInt8) (aJ w:Int):Bool:=Ti w&&Ak aJ 0 ((s.length:Int)-w)
def Ng (s:List UInt8) (aJ w:Int):Int:=if Em s aJ w then (Cv ((s.drop aJ.toNat).take w.toNat):Int) else 0
theorem Wi: ∀(l:List UInt8) (b:UInt8),Cv (l++[b])=Cv l+b.toNat*2 ^ (8*l.length)
 |[],b=>by simp[Cv]
 |a::l,b=>by
  simp only[List.cons_append,Cv,Wi l b,List.length_cons]
  rw[show 8*(l.length+1)=8*l.length+8 by omega,Nat.pow_add,←Nat.mul_assoc]
  omega
theorem Vg: ∀(l:List UInt8),Cv l<2 ^ (8*l.length)
 |[]=>by simp[Cv]
 |a::l=>by
  have:=Vg l
  have:=UInt8.toNat_lt a
  simp only[Cv,List.length_cons]
  rw[show 8*(l.length+1)=8*l.length+8 by omega,Nat.pow_add]
  omega
theorem Se {l:List UInt8} {k:Nat} (h:l.length≤k):Cv l<2 ^ (8*k):=Nat.lt_of_lt_of_le (Vg l) (Nat.pow_le_pow_right (by decide) (by omega))
theorem Ajr {α:Type} {l:List α} {a i:Nat} {x:α} (h:l[a+i]? =some x):(l.drop a).take (i+1)=(l.drop a).take i++[x]:=by
 have h':(l.drop a)[i]? =some x:=by rw[List.getElem?_drop];exact h
 obtain ⟨hl,hx⟩:=List.getElem?_eq_some_iff.1 h'
 rw[List.take_succ_eq_append_getElem hl,hx]
theorem Asb {c:Int} {k:Nat} (hk:k≤7) (h0:0≤c) (h1:c≤255):0≤c*2 ^ (8*k)∧c*2 ^ (8*k)+2 ^ (8*k)≤18446744073709551616∧(0:Int)<2 ^ (8*k):=by
 rcases (show k=0∨k=1∨k=2∨k=3∨k=4∨k=5∨k=6∨k=7 by omega) with rfl|rfl|rfl|rfl|rfl|rfl|rfl|rfl<;>simp at * <;>omega
theorem Ajs {w:Int} (h:Ti w=true):w=4∨w=8:=by simpa [Ti] using h
def As (c a:Int):Ev:=⟨10,0,0,0,[],c,a⟩
def Er (f:Fld) (u:Int):Ev:=⟨2,f.nJ,if f.kind=3∧u≠0 then 1 else u,0,[],0,0⟩
theorem Wj {f:Fld} {l:List Fld} {n:Int} :H4 (f::l) n=if f.nJ=n then some f else H4 l n:=by
 unfold H4;rw[List.find?_cons];by_cases h:f.nJ=n<;>simp[h]
theorem Aaj {l:List Shp} {s n:Int} {x:Shp} (hs:Ak s 0 ((l.length:Int)-1)=true) (hx:l[s.toNat]? =some x):fieldAt l s n=H4 x.fJ n:=by
 rw[fieldAt,if_pos hs,Va hx]
def At3 (l:List Ev) (k:Int):Int:=((l.filter fun e=>decide (e.kind=k)).length:Int)
structure Fa where
 sJ:List Int
 inText:Bool
 isText:Bool
 uJ:Utf
 ended:Bool
 deriving Inhabited
structure Fmr where
 pJ:Pln
 st:Fa
structure Fs where
 sJ:List Int
 field:Fld
 open_:Bool
 uJ:Utf
 ended:Bool
def Ff (k:Int):Bool:=decide (k=6)||decide (k=7)
theorem Aer {b:Int} {u:Utf} (h:Bk b=some u):Fe u=true:=by
 unfold Bk at h
 repeat' split at h
 all_goals first|(cases h;done)|(cases h;first|decide|(exfalso;omega)|(simp only[Fe,Tg];simp_all;done)|(simp only[Fe,Tg];simp_all;omega))
theorem Aak {u v:Utf} {b:Int} (h:B8 u b=some v):Fe v=true:=by
 unfold B8 at h
 split at h
 ·rename_i hu
  have hw:=Jt hu
  split at h
  ·exact Aer h
  ·split at h
   ·split at h
    ·cases h;decide
    ·cases h
     rcases Aeq hu with h|h|h|h|h|h|h|h<;>simp_all[Fe,Tg]
   ·cases h
 ·cases h
theorem Yj: ∀ {u:Utf} {s:List UInt8} {i:Nat},Fe u=true→Fe (E2 u s i).1=true
 |u,[],i,h=>h
 |u,b::r,i,h=>by
  unfold E2
  split
  ·rename_i v hv;exact Yj (Aak hv)
  ·exact h
theorem Af1 {u:Utf} {s:List UInt8} (h:Fe u=true):Fe (Vf u s)=true:=Yj h
def cEv (x:Ev):List C:=[.int .i64 x.kind,.int .i64 x.field,.int .u64 x.bits,.int .i64 x.len,.str x.text,.int .i64 x.code,.int .i64 x.aJ]
def Fg (x:Fld):List C:=[.int .i64 x.nJ,.int .i64 x.kind,.bool x.rep,.bool x.packed,.int .i64 x.mK]
def Atg (x:Shp):List C:=[.int .i64 x.id,.seq .fld x.fJ]
def Ath (x:Lev):List C:=[.int .i64 x.mK,.int .i64 x.left]
def Qx (x:Scn):List C:=[.int .u64 x.bits,.int .i64 x.hJ]
def Pk (x:Utf):List C:=[.int .i64 x.wK,.int .i64 x.low,.int .i64 x.high]
def G0 (x:Pln):List C:=[.seq .shp x.sQ,.int .i64 x.rJ,.int .i64 x.dJ,.int .i64 x.most]
def B9 (x:Dcd):List C:=[.seq .shp x.pJ.sQ,.int .i64 x.pJ.rJ,.int .i64 x.pJ.dJ,.int .i64 x.pJ.most,.int .i64 x.mJ,.seq .lev x.sJ,.int .u64 x.sK.bits,.int .i64 x.sK.hJ,.int .i64 x.sX,.int .i64 x.aJ,.int .i64 x.field.nJ,.int .i64 x.field.kind,.bool x.field.rep,.bool x.field.packed,.int .i64 x.field.mK,.int .i64 x.wJ,.int .i64 x.wK,.int .i64 x.uJ.wK,.int .i64 x.uJ.low,.int .i64 x.uJ.high,.int .i64 x.eJ.kind,.int .i64 x.eJ.field,.int .u64 x.eJ.bits,.int .i64 x.eJ.len,.str x.eJ.text,.int .i64 x.eJ.code,.int .i64 x.eJ.aJ]
def Af (j0:Nat) (j5:Nat) (x:Dcd):List C:=[.own j0,.int .i64 x.pJ.rJ,.int .i64 x.pJ.dJ,.int .i64 x.pJ.most,.int .i64 x.mJ,.own j5,.int .u64 x.sK.bits,.int .i64 x.sK.hJ,.int .i64 x.sX,.int .i64 x.aJ,.int .i64 x.field.nJ,.int .i64 x.field.kind,.bool x.field.rep,.bool x.field.packed,.int .i64 x.field.mK,.int .i64 x.wJ,.int .i64 x.wK,.int .i64 x.uJ.wK,.int .i64 x.uJ.low,.int .i64 x.uJ.high,.int .i64 x.eJ.kind,.int .i64 x.eJ.field,.int .u64 x.eJ.bits,.int .i64 x.eJ.len,.str x.eJ.text,.int .i64 x.eJ.code,.int .i64 x.eJ.aJ]
def Ag9 (j0:Nat) (x:Pln):List C:=[.own j0,.int .i64 x.rJ,.int .i64 x.dJ,.int .i64 x.most]
abbrev L2 (d:Dcd):List Blk:=[.tree d.pJ.sQ,.lst .lev d.sJ]
abbrev Ls (d:Dcd) (o:List Ev):List Blk:=[.tree d.pJ.sQ,.lst .lev d.sJ,.lst .ev o]
def Atp:Lev:=⟨0,0⟩
def D2 (d:Dcd):Int:=(d.sJ.getD (d.sJ.length-1) Atp).left
def F9 (n:Int) (l:Lev):Bool:=Ak l.mK 0 (n-1)&&Ak l.left 0 2000
def Bn (d:Dcd):Bool:=B2 d.pJ&&decide ((d.sJ.length:Int)≤d.pJ.dJ)&&d.sJ.all (F9 (d.pJ.sQ.length:Int))
def Z0 (n:Int):List Lev→Nat
 |[]=>0
 |l::r=>if F9 n l then Z0 n r+1 else 0
theorem Uc {n:Int} {l:Lev} {r:List Lev} :Z0 n (l::r)=if F9 n l then Z0 n r+1 else 0:=rfl
theorem Pm (n:Int): ∀l:List Lev,l.all (F9 n)=decide (Z0 n l=l.length)
 |[]=>rfl
 |l::r=>by
  rw[List.all_cons,Pm n r,Uc]
  cases h:F9 n l with
  |true=>rw[if_pos rfl];simp
  |false=>rw[if_neg (by simp)];simp
def Me (n:Int) (l:List Lev):Int:=if Z0 n l=l.length then-1 else (Z0 n l:Int)
def D4 (s:Scn):Bool:=Ak s.hJ 0 9&&decide (Int.fdiv s.bits (2 ^ min (Int.toNat (7*s.hJ)) 64)=0)
def Bw (d:Dcd):Int:=if d.mJ=5 then Aq d.wJ else if d.mJ=8 then Aq (Be d.field.kind) else 0
def Rq (d:Dcd):Int:=if d.mJ=8 then d.wK else D2 d
def Ku (d:Dcd):Bool:=if 0<Bw d then Ak d.sK.hJ 0 (Bw d-1)&&decide (Int.fdiv d.sK.bits (2 ^ min (Int.toNat (8*d.sK.hJ)) 64)=0)&&decide (Bw d-d.sK.hJ≤Rq d)
 else if d.mJ=6∨d.mJ=7∨d.mJ=9 then decide (d.sK=scn0) else D4 d.sK
def J8 (d:Dcd):Bool:=if d.mJ=6∨d.mJ=7∨d.mJ=8 then Ak d.wK 1 (D2 d) else decide (d.wK=0)
def Apz (d:Dcd):Bool:=decide (d.field=fld0)||Dk d.field d.wJ
def J9 (d:Dcd):Bool:=if d.mJ=6 then Ff d.field.kind else if d.mJ=8 then U3 d.field else if d.mJ=3 then decide (d.wJ=0)&&Apz d else if d.mJ=4 then decide (d.wJ=2)&&Apz d else if d.mJ=5 then decide (0<Aq d.wJ)&&Apz d else true
def G4 (l:List Shp) (f:Fld):Nat→Bool
 |0=>false
 |k+1=>G4 l f k||decide (fieldAt l (k:Int) f.nJ=some f)
def known (l:List Shp) (f:Fld):Bool:=G4 l f l.length
def Tj (k:Int):Bool:=Ak k 1 10
def Fb (e:Ev):Ev:=⟨e.kind,if e.kind=2∨e.kind=3∨e.kind=6 then e.field else 0,if e.kind=2 then e.bits else 0,if e.kind=1∨e.kind=3∨e.kind=6 then e.len else 0,if e.kind=4 then e.text else [],if e.kind=10 then e.code else 0,if e.kind=9∨e.kind=10 then e.aJ else 0⟩
def Wm (e:Ev):Bool:=decide (e=Fb e)
def H5 (e:Ev):Bool:=Tj e.kind&&Wm e&&decide (0≤e.len)&&decide (0≤e.aJ)&&(if Gs e.kind then Ak e.field 1 536870911 else if e.kind=4 then !decide (e.text=[]) else if e.kind=10 then decide (1≤e.code) else true)
def Fd (e:Ev):Bool:=decide (e.kind=9)||decide (e.kind=10)
def Abq (d:Dcd):Bool:=if d.mJ=9 then H5 d.eJ&&Fd d.eJ else decide (d.eJ=ev0)
def Ln (d:Dcd):Bool:=if d.mJ=1 then decide (d.sJ=[]) else if d.mJ=9 then true else decide (1≤D2 d)
def Ce (d:Dcd):Bool:=Bn d&&Ak d.mJ 1 9&&Ak d.aJ 0 1000000000&&Ak d.sX 0 d.aJ&&Fe d.uJ&&C4 d.wJ&&(decide (d.field=fld0)||known d.pJ.sQ d.field)&&Abq d&&Ln d&&J8 d&&J9 d&&Ku d
theorem Ajt {o f:Fld} (h:o.nJ=f.nJ∧o.kind=f.kind∧o.rep=f.rep∧o.packed=f.packed∧o.mK=f.mK):o=f:=by
 cases o;cases f;simp_all
theorem Aju {o f:Fld} (h:o.nJ=f.nJ→o.kind=f.kind→o.rep=f.rep→o.packed=f.packed→¬o.mK=f.mK):o≠f:=fun e=>by subst e;exact h rfl rfl rfl rfl rfl
theorem Yk {l:List Shp} {f:Fld} : ∀ {k m:Nat},k≤m→G4 l f k=true→G4 l f m=true
 |k,0,h,hk=>by rw[show k=0 by omega] at hk;exact hk
 |k,m+1,h,hk=>by
  by_cases e:k=m+1
  ·rw[←e];exact hk
  ·rw[G4,Yk (m:=m) (by omega) hk];rfl
theorem Abr {l:List Shp} {f:Fld} {k:Nat} (h:k<l.length) (hf:fieldAt l (k:Int) f.nJ=some f):known l f=true:=by
 have:G4 l f (k+1)=true:=by rw[G4,hf];simp
 exact Yk (show k+1≤l.length by omega) this
theorem Pn {l:List Shp} {f:Fld} {k:Nat} (h:G4 l f k=false) (hf:fieldAt l (k:Int) f.nJ≠some f):G4 l f (k+1)=false:=by
 rw[G4,h];simp[hf]
theorem Af2 {l:List Shp} {f:Fld} {k:Nat} (h:G4 l f k=false) (hk:l.length=k):known l f=false:=by unfold known;rw[hk];exact h
theorem Abs {f:Fld} (h:f.nJ=0∧f.kind=0∧f.rep=false∧f.packed=false∧f.mK=0):f=fld0:=Ajt h
def S3 (d:Dcd):Bool:=d.sJ.all (F9 (d.pJ.sQ.length:Int))&&(if d.mJ=1 then decide ((d.sJ.length:Int)=0) else if d.mJ=9 then decide ((d.sJ.length:Int)≤d.pJ.dJ) else Ak (d.sJ.length:Int) 1 d.pJ.dJ&&decide (1≤D2 d))
def Asc (d:Dcd):Bool:=Ak d.sK.hJ 0 (Bw d-1)&&decide (Int.fdiv d.sK.bits (2 ^ min (Int.toNat (8*d.sK.hJ)) 64)=0)&&decide (Bw d-d.sK.hJ≤Rq d)
def Aes (d:Dcd):Bool:=if d.mJ=6∨d.mJ=7∨d.mJ=9 then decide (d.sK=scn0) else if d.mJ=5 then Asc d else if d.mJ=8 then (if Bw d=0 then D4 d.sK else Asc d) else D4 d.sK
def Wn (d:Dcd):Bool:=(decide (d.mJ=3)&& !decide (d.wJ=0))||(decide (d.mJ=4)&& !decide (d.wJ=2))||(decide (d.mJ=5)&&decide (Aq d.wJ=0))
def Ac8 (d:Dcd):Bool:=B2 d.pJ&&Ak d.mJ 1 9&&Ak d.aJ 0 1000000000&&Ak d.sX 0 d.aJ&&Fe d.uJ&&C4 d.wJ&&(decide (d.field=fld0)||known d.pJ.sQ d.field)&&S3 d&&Abq d&&J8 d&& !Wn d&& !(Ak d.mJ 3 5&& !decide (d.field=fld0)&& !Dk d.field d.wJ)&&(!decide (d.mJ=6)||Ff d.field.kind)&&(!decide (d.mJ=8)||U3 d.field)&&Aes d
theorem Abt {d:Dcd} (h:d.sJ=[]):D2 d=0:=by unfold D2;rw[h];rfl
theorem H6 (w:Int):Aq w=0∨Aq w=4∨Aq w=8:=by unfold Aq;split<;>(try split)<;>omega
theorem Ajv (d:Dcd):Ac8 d=Ce d:=by
 have hw:=H6 d.wJ
 have hw2:=H6 (Be d.field.kind)
 by_cases hm:Ak d.mJ 1 9=true
 ·have hm:=Av hm
  have hp:B2 d.pJ=true→1≤d.pJ.dJ:=fun h=>(By h).2.2.2.2.1
  have ht:= @Abt d
  obtain ⟨⟨sh,ro,de,mo⟩,m,st,sc,sa,a,f,w,wa,u,e⟩:=d
  simp only at hm hw hw2 hp ht
  have hs:(decide (st=[]):Bool)=decide ((st.length:Int)=0):=by cases st<;>simp<;>omega
  have hl: ∀x:Lev,(([]:List Lev).length:Int)=0:=fun _=>rfl
  rcases (show m=1∨m=2∨m=3∨m=4∨m=5∨m=6∨m=7∨m=8∨m=9 by omega) with rfl|rfl|rfl|rfl|rfl|rfl|rfl|rfl|rfl<;>
   rw[Bool.eq_iff_iff]<;>simp[Ac8,Ce,Bn,S3,Ln,Wn,Aes,Asc,Ku,J9,Apz,J8,Rq,Bw,hs,Ak]<;>grind
 ·have hm:Ak d.mJ 1 9=false:=by simpa using hm
  simp[Ac8,Ce,hm]
theorem Asd {e f:Ev} (h:e.kind=f.kind∧e.field=f.field∧e.bits=f.bits∧e.len=f.len∧e.text=f.text∧e.code=f.code∧e.aJ=f.aJ):e=f:=by cases e;cases f;simp_all
theorem Anr {e:Ev} (h:e.kind=(Fb e).kind∧e.field=(Fb e).field∧e.bits=(Fb e).bits∧e.len=(Fb e).len∧e.text=(Fb e).text∧e.code=(Fb e).code∧e.aJ=(Fb e).aJ):Wm e=true:=decide_eq_true (Asd h)
theorem Ud {e f:Ev} (h:Fb e=f):Wm e=(decide (e.kind=f.kind)&&(decide (e.field=f.field)&&(decide (e.bits=f.bits)&&(decide (e.len=f.len)&&(decide (e.text=f.text)&&(decide (e.code=f.code)&&decide (e.aJ=f.aJ))))))):=by
 subst h
 rw[Bool.eq_iff_iff]
 simp only[Bool.and_eq_true,decide_eq_true_eq]
 constructor
 ·intro h
  have h:e=Fb e:=of_decide_eq_true h
  exact⟨congrArg Ev.kind h,congrArg Ev.field h,congrArg Ev.bits h,congrArg Ev.len h,congrArg Ev.text h,congrArg Ev.code h,congrArg Ev.aJ h⟩
 ·exact fun h=>Anr h
structure Mac where
 d:Dcd
 oJ:List Ev
def Rr:Ev:=⟨5,0,0,0,[],0,0⟩
def Ajw:Ev:=⟨7,0,0,0,[],0,0⟩
def H7:Ev:=⟨8,0,0,0,[],0,0⟩
def Ac9 (n:Int):Ev:=⟨1,0,0,n,[],0,0⟩
def Ue (f n:Int):Ev:=⟨6,f,0,n,[],0,0⟩
def Ada (f n:Int):Ev:=⟨3,f,0,n,[],0,0⟩
def Wx (b:Int):Ev:=⟨4,0,0,0,[Bj b],0,0⟩
def Ba (d:Dcd) (c a:Int):Dcd:=⟨d.pJ,9,d.sJ,⟨0,0⟩,d.sX,d.aJ,d.field,d.wJ,0,d.uJ,As c a⟩
def A3 (m:Mac) (c a:Int):Mac:=⟨Ba m.d c a,m.oJ++[As c a]⟩
def A1 (m:Mac):Option Mac:=
 if m.d.mJ=6∧m.d.wK<1 then
  (if 0<m.d.uJ.wK then some (A3 m 5 m.d.aJ) else some ⟨⟨m.d.pJ,2,m.d.sJ,m.d.sK,m.d.sX,m.d.aJ,m.d.field,m.d.wJ,0,⟨0,0,0⟩,m.d.eJ⟩,m.oJ++[Rr]⟩)
 else if (m.d.mJ=7∨(m.d.mJ=8∧m.d.sK.hJ=0))∧m.d.wK<1 then some ⟨⟨m.d.pJ,2,m.d.sJ,m.d.sK,m.d.sX,m.d.aJ,m.d.field,m.d.wJ,0,m.d.uJ,m.d.eJ⟩,m.oJ⟩
 else if m.d.mJ=2∧m.d.sK.hJ=0∧0<m.d.sJ.length∧D2 m.d=0 then
  some (if m.d.sJ.length=1 then ⟨⟨m.d.pJ,1,m.d.sJ.take (m.d.sJ.length-1),m.d.sK,m.d.sX,m.d.aJ,m.d.field,m.d.wJ,m.d.wK,m.d.uJ,m.d.eJ⟩,m.oJ++[H7]⟩
   else ⟨⟨m.d.pJ,m.d.mJ,m.d.sJ.take (m.d.sJ.length-1),m.d.sK,m.d.sX,m.d.aJ,m.d.field,m.d.wJ,m.d.wK,m.d.uJ,m.d.eJ⟩,m.oJ++[Ajw]⟩)
 else none
def wM (m:Mac):Nat:=m.d.sJ.length+(if m.d.mJ=6∨m.d.mJ=7∨m.d.mJ=8 then 2 else if m.d.mJ=2 then 1 else 0)
theorem Ck {m q:Mac} (h:A1 m=some q):wM q<wM m∧q.oJ.length≤m.oJ.length+1:=by
 unfold A1 at h
 split at h
 ·rename_i h1
  split at h
  ·cases h;simp[wM,A3,Ba,h1.1]
  ·cases h;simp[wM,h1.1]
 ·split at h
  ·rename_i h1
   cases h
   rcases h1.1 with h2|h2
   ·simp[wM,h2]
   ·simp[wM,h2.1]
  ·split at h
   ·rename_i h1
    cases h
    have:=h1.2.2.1
    split
    ·simp[wM,h1.1];omega
    ·simp[wM,h1.1];omega
   ·cases h
def Ae (m:Mac):Mac:=match h:A1 m with
 |none=>m
 |some q=>Ae q
termination_by wM m
decreasing_by exact(Ck h).1
theorem Cd {m q:Mac} (h:A1 m=some q):Ae m=Ae q:=by
 rw[Ae]
 split
 ·rename_i h1;rw[h] at h1;cases h1
 ·rename_i x h1;rw[h] at h1;cases h1;rfl
theorem Bz {m:Mac} (h:A1 m=none):Ae m=m:=by
 rw[Ae]
 split
 ·rfl
 ·rename_i x h1;rw[h] at h1;cases h1
def C0 (m:Mac) (u:Int):Mac:=
 if m.d.pJ.most<u then A3 m 7 m.d.sX
 else Ae ⟨⟨m.d.pJ,2,[⟨m.d.pJ.rJ,u⟩],⟨0,0⟩,m.d.sX,m.d.aJ,m.d.field,m.d.wJ,m.d.wK,m.d.uJ,m.d.eJ⟩,m.oJ++[Ac9 u]⟩
def Hi (d:Dcd):Lev:=d.sJ.getD (d.sJ.length-1) Atp
def Ew (m:Mac) (u:Int):Mac:=
 if Nf u=false∨m.d.sJ.length=0 then A3 m 2 m.d.sX
 else if C4 (Ag u)=false then A3 m 3 m.d.sX
 else if (fieldAt m.d.pJ.sQ (Hi m.d).mK (A8 u)).isSome=true∧Dk ((fieldAt m.d.pJ.sQ (Hi m.d).mK (A8 u)).getD fld0) (Ag u)=false then A3 m 4 m.d.sX
 else if D2 m.d<max (Aq (Ag u)) 1 then A3 ⟨⟨m.d.pJ,m.d.mJ,m.d.sJ,⟨0,0⟩,m.d.sX,m.d.aJ,(fieldAt m.d.pJ.sQ (Hi m.d).mK (A8 u)).getD fld0,Ag u,m.d.wK,m.d.uJ,m.d.eJ⟩,m.oJ⟩ 9 m.d.aJ
 else ⟨⟨m.d.pJ,if Ag u=0 then 3 else if Ag u=2 then 4 else 5,m.d.sJ,⟨0,0⟩,m.d.sX,m.d.aJ,(fieldAt m.d.pJ.sQ (Hi m.d).mK (A8 u)).getD fld0,Ag u,m.d.wK,m.d.uJ,m.d.eJ⟩,m.oJ⟩
def Cu (m:Mac) (u:Int):Mac:=
 if m.d.sJ.length=0∨D2 m.d<u then A3 m 8 m.d.sX
 else if m.d.field=fld0 then Ae ⟨⟨m.d.pJ,7,m.d.sJ,⟨0,0⟩,m.d.sX,m.d.aJ,m.d.field,m.d.wJ,u,m.d.uJ,m.d.eJ⟩,m.oJ⟩
 else if m.d.field.kind=8 then
  (if m.d.pJ.dJ≤(m.d.sJ.length:Int) then A3 m 6 m.d.sX
  else Ae ⟨⟨m.d.pJ,2,m.d.sJ.set (m.d.sJ.length-1) ⟨(Hi m.d).mK,D2 m.d-u⟩++[⟨m.d.field.mK,u⟩],⟨0,0⟩,m.d.sX,m.d.aJ,m.d.field,m.d.wJ,0,m.d.uJ,m.d.eJ⟩,m.oJ++[Ue m.d.field.nJ u]⟩)
 else if Ff m.d.field.kind=true then Ae ⟨⟨m.d.pJ,6,m.d.sJ,⟨0,0⟩,m.d.sX,m.d.aJ,m.d.field,m.d.wJ,u,⟨0,0,0⟩,m.d.eJ⟩,m.oJ++[Ada m.d.field.nJ u]⟩
 else if 0<u∧u<Aq (Be m.d.field.kind) then A3 m 9 m.d.aJ
 else Ae ⟨⟨m.d.pJ,8,m.d.sJ,⟨0,0⟩,m.d.sX,m.d.aJ,m.d.field,m.d.wJ,u,m.d.uJ,m.d.eJ⟩,m.oJ⟩
def Bv (m:Mac) (u:Int):Mac:=⟨⟨m.d.pJ,if m.d.mJ=8 then 8 else 2,m.d.sJ,m.d.sK,m.d.sX,m.d.aJ,m.d.field,m.d.wJ,m.d.wK,m.d.uJ,m.d.eJ⟩,if m.d.field=fld0 then m.oJ else m.oJ++[Er m.d.field u]⟩
def G1 (d:Dcd) (s:Scn):Dcd:=⟨d.pJ,d.mJ,d.sJ,s,d.sX,d.aJ,d.field,d.wJ,d.wK,d.uJ,d.eJ⟩
def Aj (s:Scn) (b:Int):Scn×Int:=
 if D4 s=false∨Ak b 0 255=false∨(s.hJ=9∧1<b) then (s,2)
 else (⟨s.bits+b % 128*2 ^ (7*s.hJ.toNat),s.hJ+1⟩,if b<128 then 1 else 0)
def B4 (s:Scn) (b:Int):Scn:=if Ak s.hJ 0 7=true∧Ak b 0 255=true then ⟨IntKind.u64.wrap (s.bits+IntKind.u64.wrap (b*2 ^ min (Int.toNat (8*s.hJ)) 64)),s.hJ+1⟩ else s
def G5 (d:Dcd) (a:Int):Dcd:=⟨d.pJ,d.mJ,d.sJ,d.sK,if d.sK.hJ=0∧(d.mJ=1∨d.mJ=2∨d.mJ=4) then a else d.sX,d.aJ,d.field,d.wJ,d.wK,d.uJ,d.eJ⟩
def Wy (m q:Mac):Mac:=if (m.d.mJ≠1∧D2 m.d=0)∨(m.d.mJ=8∧m.d.wK=0) then A3 q 9 m.d.aJ else q
def B3 (m:Mac) (b a:Int):Mac:=
 if (Aj m.d.sK b).2=2 then A3 ⟨G5 m.d a,m.oJ⟩ 1 a
 else if (Aj m.d.sK b).2=0 then Wy m ⟨G1 (G5 m.d a) (Aj m.d.sK b).1,m.oJ⟩
 else if m.d.mJ=1 then C0 ⟨G1 (G5 m.d a) scn0,m.oJ⟩ (Aj m.d.sK b).1.bits
 else if m.d.mJ=2 then Ew ⟨G1 (G5 m.d a) scn0,m.oJ⟩ (Aj m.d.sK b).1.bits
 else if m.d.mJ=4 then Cu ⟨G1 (G5 m.d a) scn0,m.oJ⟩ (Aj m.d.sK b).1.bits
 else Ae (Bv ⟨G1 (G5 m.d a) scn0,m.oJ⟩ (Aj m.d.sK b).1.bits)
def D8 (m:Mac) (b:Int):Mac:=
 if (B4 m.d.sK b).hJ<Bw m.d then ⟨G1 m.d (B4 m.d.sK b),m.oJ⟩
 else if m.d.mJ=8∧0<m.d.wK∧m.d.wK<Bw m.d then A3 (Bv ⟨G1 m.d scn0,m.oJ⟩ (B4 m.d.sK b).bits) 9 m.d.aJ
 else Ae (Bv ⟨G1 m.d scn0,m.oJ⟩ (B4 m.d.sK b).bits)
def Arx (d:Dcd) (u:Utf):Dcd:=⟨d.pJ,d.mJ,d.sJ,d.sK,d.sX,d.aJ,d.field,d.wJ,d.wK,u,d.eJ⟩
def Es (m:Mac) (b:Int):Mac:=
 if m.d.field.kind=6 then (match B8 m.d.uJ b with
  |none=>A3 m 5 (m.d.aJ-1)
  |some u=>Ae ⟨Arx m.d u,m.oJ++[Wx b]⟩)
 else Ae ⟨m.d,m.oJ++[Wx b]⟩
def Dz (d:Dcd):Dcd:=⟨d.pJ,d.mJ,if d.sJ.length=0 then d.sJ else d.sJ.set (d.sJ.length-1) ⟨(Hi d).mK,D2 d-1⟩,d.sK,d.sX,d.aJ+1,d.field,d.wJ,if d.mJ=6∨d.mJ=7∨d.mJ=8 then d.wK-1 else d.wK,d.uJ,d.eJ⟩
def Dw (m:Mac) (b:Int):Mac:=
 if m.d.mJ=6 then Es ⟨Dz m.d,m.oJ⟩ b
 else if m.d.mJ=7 then Ae ⟨Dz m.d,m.oJ⟩
 else if 0<Bw m.d then D8 ⟨Dz m.d,m.oJ⟩ b
 else B3 ⟨Dz m.d,m.oJ⟩ b m.d.aJ
theorem K8 {m q:Mac} (h:A1 m=some q):q.d.sJ.length≤m.d.sJ.length∧q.d.pJ=m.d.pJ:=by
 unfold A1 at h
 split at h
 ·split at h<;>(cases h;exact⟨Nat.le_refl _,rfl⟩)
 ·split at h
  ·cases h;exact⟨Nat.le_refl _,rfl⟩
  ·split at h
   ·cases h
    split<;>(refine⟨?_,rfl⟩;simp only[List.length_take];omega)
   ·cases h
theorem Ym (m:Mac):(Ae m).oJ.length≤m.oJ.length+wM m:=by
 suffices ∀(k:Nat) (m:Mac),wM m≤k→(Ae m).oJ.length≤m.oJ.length+wM m from this _ m (Nat.le_refl _)
 intro k
 induction k with
 |zero=>
  intro m hk
  cases h:A1 m with
  |none=>rw[Bz h];omega
  |some q=>have:=(Ck h).1;omega
 |succ k ih=>
  intro m hk
  cases h:A1 m with
  |none=>rw[Bz h];omega
  |some q=>
   have h1:=Ck h
   have:=ih q (by omega)
   rw[Cd h];omega
theorem Aik (m:Mac):wM m≤m.d.sJ.length+2:=by unfold wM;split<;>(try split)<;>omega
theorem Cm {d:Dcd} (h:Bn d=true):B2 d.pJ=true∧(d.sJ.length:Int)≤d.pJ.dJ∧d.sJ.length≤8∧(∀l∈d.sJ,F9 (d.pJ.sQ.length:Int) l=true):=by
 simp only[Bn,Bool.and_eq_true,decide_eq_true_eq,List.all_eq_true] at h
 have:=By h.1.1
 exact⟨h.1.1,h.1.2,by omega,h.2⟩
theorem Ju {d:Dcd} (h1:B2 d.pJ=true) (h2:(d.sJ.length:Int)≤d.pJ.dJ) (h3: ∀l∈d.sJ,F9 (d.pJ.sQ.length:Int) l=true):Bn d=true:=by
 simp only[Bn,Bool.and_eq_true,decide_eq_true_eq,List.all_eq_true];exact⟨⟨h1,h2⟩,h3⟩
theorem S4 {d e:Dcd} {u:Int} (h:Bn d=true) (hp:e.pJ=d.pJ) (hs:e.sJ=[⟨d.pJ.rJ,u⟩]) (h0:0≤u) (hu:u≤d.pJ.most):Bn e=true:=by
 have hb:=Cm h
 have ht:=By hb.1
 refine Ju (by rw[hp];exact hb.1) (by rw[hs,hp];simp;omega) fun l hl=>?_
 rw[hs] at hl
 simp at hl
 subst hl
 rw[hp]
 simp[F9,Ak];omega
theorem Cn {d e:Dcd} (h:Bn d=true) (hp:e.pJ=d.pJ) (hs:e.sJ=d.sJ):Bn e=true:=by
 have hb:=Cm h
 exact Ju (by rw[hp];exact hb.1) (by rw[hs,hp];exact hb.2.1) (by rw[hs,hp];exact hb.2.2.2)
theorem Aam {l:List Shp} {f:Fld} (hl:Du l=true): ∀ {k:Nat},G4 l f k=true→L8 f (l.length:Int)=true
 |0,h=>by cases h
 |k+1,h=>by
  simp only[G4,Bool.or_eq_true,decide_eq_true_eq] at h
  rcases h with h|h
  ·exact Aam hl h
  ·exact(Vd hl h).1
theorem Uf {d:Dcd} (h:d.sJ.length≠0):Hi d∈d.sJ:=by
 unfold Hi
 rw[List.getD_eq_getElem?_getD,List.getElem?_eq_getElem (by omega)]
 exact List.getElem_mem _
theorem Ug {d e:Dcd} {u:Int} (h:Bn d=true) (hk:known d.pJ.sQ d.field=true) (h8:d.field.kind=8) (hn:d.sJ.length≠0) (hd:(d.sJ.length:Int)<d.pJ.dJ) (h0:0≤u) (hu:u≤D2 d) (hp:e.pJ=d.pJ)
  (hs:e.sJ=d.sJ.set (d.sJ.length-1) ⟨(Hi d).mK,D2 d-u⟩++[⟨d.field.mK,u⟩]):Bn e=true:=by
 have hb:=Cm h
 have hf:=Abp (Aam (By hb.1).2.1 hk)
 have hm:=hf.2.2.2.2.1 h8
 have hl:=hb.2.2.2 _ (Uf hn)
 have ht:D2 d=(Hi d).left:=rfl
 simp only[F9,Bool.and_eq_true] at hl
 have hl1:=Av hl.1;have hl2:=Av hl.2
 refine Ju (by rw[hp];exact hb.1) (by rw[hs,hp];simp;omega) fun l hl=>?_
 rw[hs] at hl
 rw[hp]
 rcases List.mem_append.1 hl with hl|hl
 ·rcases List.mem_or_eq_of_mem_set hl with hl|hl
  ·exact hb.2.2.2 l hl
  ·subst hl;simp[F9,Ak];omega
 ·simp at hl;subst hl;simp[F9,Ak];omega
theorem Jn {d:Dcd} (h:Bn d=true):0≤D2 d∧D2 d≤2000:=by
 by_cases hn:d.sJ.length=0
 ·rw[Abt (List.eq_nil_of_length_eq_zero hn)];omega
 ·have hl:=(Cm h).2.2.2 _ (Uf hn)
  have ht:D2 d=(Hi d).left:=rfl
  simp only[F9,Bool.and_eq_true] at hl
  have:=Av hl.2;omega
theorem Kv {d:Dcd} {x:Lev} (h:d.sJ[d.sJ.length-1]? =some x):Hi d=x∧D2 d=x.left:=by
 have e:Hi d=x:=by unfold Hi;exact Va h
 exact⟨e,by show (Hi d).left=_;rw[e]⟩
theorem Ap0 (u:Int):0≤Ag u∧Ag u≤7:=by unfold Ag;split<;>omega
theorem Xf {s:Scn} (h:D4 s=true) (h0:0≤s.bits):0≤s.hJ∧s.hJ≤9∧s.bits<2 ^ (7*s.hJ.toNat):=by
 simp only[D4,Bool.and_eq_true,decide_eq_true_eq] at h
 have hw:=Av h.1
 refine⟨hw.1,hw.2,?_⟩
 have h2:=h.2
 rw[show min (Int.toNat (7*s.hJ)) 64=7*s.hJ.toNat by omega] at h2
 have hp:(0:Int)<2 ^ (7*s.hJ.toNat):=Int.pow_pos (by decide)
 rw[Int.fdiv_eq_ediv_of_nonneg _ (Int.le_of_lt hp)] at h2
 apply Int.not_le.1
 intro hle
 have:=Int.le_ediv_of_mul_le hp (show 1*2 ^ (7*s.hJ.toNat)≤s.bits by rw[Int.one_mul];exact hle)
 omega
theorem Af3 {c:Int} {h:Int} (h0:0≤h) (h9:h≤9) (c0:0≤c) (c1:c≤127) (hc:h=9→c≤1):0≤c*2 ^ (7*h.toNat)∧c*2 ^ (7*h.toNat)+2 ^ (7*h.toNat)≤18446744073709551616:=by
 obtain ⟨k,rfl⟩:=Int.eq_ofNat_of_zero_le h0
 have hk:k≤9:=by omega
 rw[Int.toNat_natCast]
 rcases (show k=0∨k=1∨k=2∨k=3∨k=4∨k=5∨k=6∨k=7∨k=8∨k=9 by omega) with rfl|rfl|rfl|rfl|rfl|rfl|rfl|rfl|rfl|rfl<;>simp at * <;>omega
theorem Uh {c h:Int} (h0:0≤h) (h9:h≤9) (c0:0≤c) (c1:c≤127) (hc:h=9→c≤1):(.v (.c (.int .u64 (IntKind.u64.wrap (c*2 ^ min (Int.toNat (7*h)) 64)))):S)= .v (.c (.int .u64 (c*2 ^ (7*h.toNat)))):=by
 have:=Af3 h0 h9 c0 c1 hc
 have hp:(0:Int)<2 ^ (7*h.toNat):=Int.pow_pos (by decide)
 rw[show min (Int.toNat (7*h)) 64=7*h.toNat by omega]
 exact Bu Q2 Q2
theorem Af4 {u c h:Int} (h0:0≤h) (h9:h≤9) (c0:0≤c) (c1:c≤127) (hc:h=9→c≤1) (u0:0≤u) (u1:u<2 ^ (7*h.toNat)):(.v (.c (.int .u64 (IntKind.u64.wrap (((BitVec.ofInt 64 u|||BitVec.ofInt 64 (c*2 ^ (7*h.toNat))).toNat:Nat):Int)))):S)= .v (.c (.int .u64 (u+c*2 ^ (7*h.toNat)))):=by
 have:=Af3 h0 h9 c0 c1 hc
 rw[Ar9 (k:=7*h.toNat) (c:=c) u0 u1 c0 rfl (by omega)]
 exact Bu Q2 Q2
theorem Adb {u c h:Int} (h0:0≤h) (h9:h≤9) (c0:0≤c) (c1:c≤127) (hc:h=9→c≤1) (u0:0≤u) (u1:u<2 ^ (7*h.toNat)):(.v (.c (.int .u64 (IntKind.u64.wrap (u+c*2 ^ (7*h.toNat))))):S)= .v (.c (.int .u64 (u+c*2 ^ (7*h.toNat)))):=by
 have:=Af3 h0 h9 c0 c1 hc
 exact Bu Q2 Q2
theorem Vh {s:Scn} {b:Int} (h0:0≤s.bits) (h1:s.bits≤18446744073709551615):0≤(Aj s b).1.bits∧(Aj s b).1.bits≤18446744073709551615:=by
 unfold Aj
 split
 ·exact⟨h0,h1⟩
 ·rename_i h
  simp only[not_or] at h
  have hs:D4 s=true:=by simpa using h.1
  have hb:=Av (show Ak b 0 255=true by simpa using h.2.1)
  have hk:=Xf hs h0
  have hc:=Af3 (c:=b % 128) hk.1 hk.2.1 (by omega) (by omega) (fun h9=>by have:=h.2.2;omega)
  simp only;omega
structure MW (d:Dcd):Prop where
 lv:Bn d=true
 kn:d.field=fld0∨known d.pJ.sQ d.field=true
 b0:0≤d.sK.bits∧d.sK.bits≤18446744073709551615
 aJ:0≤d.aJ∧d.aJ≤1000000001
 wK: -1≤d.wK∧d.wK≤2001
theorem Adc {s:Scn} {b:Int} (h0:0≤s.bits∧s.bits≤18446744073709551615):0≤(B4 s b).bits∧(B4 s b).bits≤18446744073709551615:=by
 unfold B4
 split
 ·simp only
  rw[IntKind.wrap_u64]
  have:=Int.emod_nonneg (s.bits+IntKind.u64.wrap (b*2 ^ min (Int.toNat (8*s.hJ)) 64)) (show (18446744073709551616:Int)≠0 by decide)
  have:=Int.emod_lt_of_pos (s.bits+IntKind.u64.wrap (b*2 ^ min (Int.toNat (8*s.hJ)) 64)) (show (0:Int)<18446744073709551616 by decide)
  omega
 ·exact h0
theorem MW.step {d:Dcd} (h:MW d) (hs:d.sJ.length=0∨1≤D2 d) (ha:d.aJ≤1000000000) (hw:(d.mJ=6∨d.mJ=7∨d.mJ=8)→0≤d.wK):MW (Dz d):=by
 have hb:=Cm h.lv
 refine⟨?_,h.kn,h.b0,?_,?_⟩
 ·refine Ju (d:=Dz d) hb.1 ?_ ?_
  ·show (((Dz d).sJ.length:Nat):Int)≤d.pJ.dJ
   unfold Dz;simp only;split
   ·exact hb.2.1
   ·rw[List.length_set];exact hb.2.1
  ·intro l hl
   show F9 (d.pJ.sQ.length:Int) l=true
   unfold Dz at hl
   simp only at hl
   split at hl
   ·exact hb.2.2.2 l hl
   ·rename_i hn
    rcases List.mem_or_eq_of_mem_set hl with hl|hl
    ·exact hb.2.2.2 l hl
    ·have hx:=hb.2.2.2 _ (Uf hn)
     have ht:D2 d=(Hi d).left:=rfl
     simp only[F9,Bool.and_eq_true] at hx
     have h1:=Av hx.1;have h2:=Av hx.2
     subst hl;simp[F9,Ak];omega
 ·have:=h.aJ;show 0≤d.aJ+1∧d.aJ+1≤1000000001;omega
 ·have:=h.wK
  show-1≤(if d.mJ=6∨d.mJ=7∨d.mJ=8 then d.wK-1 else d.wK)∧(if d.mJ=6∨d.mJ=7∨d.mJ=8 then d.wK-1 else d.wK)≤2001
  split
  ·rename_i hm;have:=hw hm;omega
  ·exact this
theorem Gt (m:Mac) (u:Int):(Bv m u).oJ.length≤m.oJ.length+1:=by
 unfold Bv
 simp only
 split<;>simp
theorem Ui (m:Mac) (u:Int):(Bv m u).d.aJ=m.d.aJ:=rfl
theorem Po (m:Mac) (u:Int):(Bv m u).d.wK=m.d.wK:=rfl
def Ac (j0:Nat) (j5:Nat) (j27:Nat) (x:Mac):List C:=[.own j0,.int .i64 x.d.pJ.rJ,.int .i64 x.d.pJ.dJ,.int .i64 x.d.pJ.most,.int .i64 x.d.mJ,.own j5,.int .u64 x.d.sK.bits,.int .i64 x.d.sK.hJ,.int .i64 x.d.sX,.int .i64 x.d.aJ,.int .i64 x.d.field.nJ,.int .i64 x.d.field.kind,.bool x.d.field.rep,.bool x.d.field.packed,.int .i64 x.d.field.mK,.int .i64 x.d.wJ,.int .i64 x.d.wK,.int .i64 x.d.uJ.wK,.int .i64 x.d.uJ.low,.int .i64 x.d.uJ.high,.int .i64 x.d.eJ.kind,.int .i64 x.d.eJ.field,.int .u64 x.d.eJ.bits,.int .i64 x.d.eJ.len,.str x.d.eJ.text,.int .i64 x.d.eJ.code,.int .i64 x.d.eJ.aJ,.own j27]
def Bs (p:Pln):Dcd:=if B2 p=true then ⟨p,1,[],⟨0,0⟩,0,0,⟨0,0,false,false,0⟩,0,0,⟨0,0,0⟩,⟨0,0,0,0,[],0,0⟩⟩ else ⟨⟨[],0,0,0⟩,0,[],⟨0,0⟩,0,0,⟨0,0,false,false,0⟩,0,0,⟨0,0,0⟩,⟨0,0,0,0,[],0,0⟩⟩
theorem Dx {l:List Shp} (h:Du l=true): ∀e∈l,e.fJ.length≤1048576:=fun e he=>by have:=D1 h e he;omega
theorem Wo {m:Mac} (h1:m.d.mJ=6) (h2:m.d.wK<1) (h3:0<m.d.uJ.wK):Ae m=A3 m 5 m.d.aJ:=by
 have hc:A1 m=some (A3 m 5 m.d.aJ):=by unfold A1;rw[if_pos ⟨h1,h2⟩,if_pos h3]
 rw[Cd hc,Bz]
 unfold A1 A3 Ba
 simp
theorem Tk {d:Dcd} {o:List Ev} (h2:d.mJ=2) (hs:d.sK.hJ=0) (hl:0<d.sJ.length) (ht:D2 d=0) (h1:d.sJ.length=1):A1 ⟨d,o⟩=some ⟨⟨d.pJ,1,d.sJ.take (d.sJ.length-1),d.sK,d.sX,d.aJ,d.field,d.wJ,d.wK,d.uJ,d.eJ⟩,o++[H7]⟩:=by
 unfold A1
 simp only
 rw[if_neg (by omega),if_neg (by omega),if_pos ⟨h2,hs,hl,ht⟩,if_pos h1]
theorem Tm {d:Dcd} {o:List Ev} (h2:d.mJ=2) (hs:d.sK.hJ=0) (hl:0<d.sJ.length) (ht:D2 d=0) (h1:d.sJ.length≠1):A1 ⟨d,o⟩=some ⟨⟨d.pJ,d.mJ,d.sJ.take (d.sJ.length-1),d.sK,d.sX,d.aJ,d.field,d.wJ,d.wK,d.uJ,d.eJ⟩,o++[Ajw]⟩:=by
 unfold A1
 simp only
 rw[if_neg (by omega),if_neg (by omega),if_pos ⟨h2,hs,hl,ht⟩,if_neg h1]
theorem Add {d:Dcd} {o:List Ev} {u:Int} (h:d.mJ=8) (hf:d.field≠fld0):Bv ⟨d,o⟩ u=⟨d,o++[Er d.field u]⟩:=by
 cases d
 unfold Bv
 simp only at h hf ⊢
 rw[if_pos h,if_neg hf,h]
theorem Ajx {d:Dcd} {o:List Ev} {u:Int} (h:d.mJ=8) (hf:d.field=fld0):Bv ⟨d,o⟩ u=⟨d,o⟩:=by
 cases d
 unfold Bv
 simp only at h hf ⊢
 rw[if_pos h,if_pos hf,h]
theorem Tn {d:Dcd} (h:Ce d=true):Bn d=true∧(1≤d.mJ∧d.mJ≤9)∧(0≤d.aJ∧d.aJ≤1000000000)∧(0≤d.sX∧d.sX≤d.aJ)∧Fe d.uJ=true∧C4 d.wJ=true∧(d.field=fld0∨known d.pJ.sQ d.field=true)∧Abq d=true∧Ln d=true∧J8 d=true∧J9 d=true∧Ku d=true:=by
 simp only[Ce,Bool.and_eq_true,Bool.or_eq_true,decide_eq_true_eq] at h
 obtain ⟨⟨⟨⟨⟨⟨⟨⟨⟨⟨⟨h1,h2⟩,h3⟩,h4⟩,h5⟩,h6⟩,h7⟩,h8⟩,h9⟩,h10⟩,h11⟩,h12⟩:=h
 exact⟨h1,Av h2,Av h3,Av h4,h5,h6,h7,h8,h9,h10,h11,h12⟩
theorem Aet {d:Dcd} (h:J8 d=true):((d.mJ=6∨d.mJ=7∨d.mJ=8)→1≤d.wK∧d.wK≤D2 d)∧(¬(d.mJ=6∨d.mJ=7∨d.mJ=8)→d.wK=0):=by
 unfold J8 at h
 split at h
 ·rename_i hm;exact⟨fun _=>Av h,fun h=>absurd hm h⟩
 ·rename_i hm;exact⟨fun h=>absurd h hm,fun _=>of_decide_eq_true h⟩
theorem Abu {d:Dcd} (h:Ce d=true) (hb:0≤d.sK.bits∧d.sK.bits≤18446744073709551615):MW d:=by
 obtain ⟨h1,h2,h3,h4,h5,h6,h7,h8,h9,h10,h11,h12⟩:=Tn h
 have ht:=Jn h1
 have hw:=Aet h10
 refine⟨h1,h7,hb,by omega,?_⟩
 by_cases hm:d.mJ=6∨d.mJ=7∨d.mJ=8
 ·have:=hw.1 hm;omega
 ·have:=hw.2 hm;omega
theorem Abv {d:Dcd} (h:Ce d=true) (h9:d.mJ≠9):(d.sJ.length=0∨1≤D2 d)∧d.aJ≤1000000000∧((d.mJ=6∨d.mJ=7∨d.mJ=8)→0≤d.wK)∧(d.mJ=8→U3 d.field=true)∧d.eJ=ev0:=by
 obtain ⟨h1,h2,h3,h4,h5,h6,h7,h8,hs,h10,h11,h12⟩:=Tn h
 have hw:=Aet h10
 refine⟨?_,by omega,fun hm=>by have:=hw.1 hm;omega,fun hm=>?_,?_⟩
 ·unfold Ln at hs
  by_cases hm1:d.mJ=1
  ·rw[if_pos hm1] at hs;left;rw[of_decide_eq_true hs];rfl
  ·rw[if_neg hm1,if_neg h9] at hs;exact .inr (of_decide_eq_true hs)
 ·unfold J9 at h11
  rw[if_neg (by omega),if_pos hm] at h11
  exact h11
 ·unfold Abq at h8
  rw[if_neg h9] at h8
  exact of_decide_eq_true h8
def Fc (d:Dcd):Bool:= !decide (d.mJ=9)&&decide (d.aJ<1000000000)
def Cs (d:Dcd) (b:Int):Mac:=if Ce d=true∧Fc d=true∧Ak b 0 255=true then Dw ⟨d,[]⟩ b else ⟨d,[]⟩
theorem Aqp {f:Fld} (h:U3 f=true):f≠fld0:=fun e=>by subst e;simp[U3,fld0] at h
theorem Ade (m:Mac):(Ae m).d.pJ=m.d.pJ∧(Ae m).d.sJ.length≤m.d.sJ.length:=by
 suffices ∀(k:Nat) (m:Mac),wM m≤k→(Ae m).d.pJ=m.d.pJ∧(Ae m).d.sJ.length≤m.d.sJ.length from this _ m (Nat.le_refl _)
 intro k
 induction k with
 |zero=>
  intro m hk
  cases h:A1 m with
  |none=>rw[Bz h];exact⟨rfl,Nat.le_refl _⟩
  |some q=>have:=(Ck h).1;omega
 |succ k ih=>
  intro m hk
  cases h:A1 m with
  |none=>rw[Bz h];exact⟨rfl,Nat.le_refl _⟩
  |some q=>
   have h1:=Ck h
   have h2:=K8 h
   have h3:=ih q (by omega)
   rw[Cd h]
   exact⟨h3.1.trans h2.2,Nat.le_trans h3.2 h2.1⟩
structure Gr (m q:Mac):Prop where
 pJ:q.d.pJ=m.d.pJ
 sJ:q.d.sJ.length≤m.d.sJ.length+1
 oJ:q.oJ.length≤m.oJ.length+m.d.sJ.length+6
theorem Gr.fail (m:Mac) (c a:Int):Gr m (A3 m c a):=⟨rfl,Nat.le_succ _,by simp only[A3,List.length_append,List.length_cons,List.length_nil];omega⟩
theorem Gr.settle {m x:Mac} (hp:x.d.pJ=m.d.pJ) (hs:x.d.sJ.length≤m.d.sJ.length+1) (ho:x.oJ.length≤m.oJ.length+2):Gr m (Ae x):=by
 have h1:=Ade x
 have h2:=Ym x
 have h3:=Aik x
 exact⟨h1.1.trans hp,by omega,by omega⟩
theorem Gr.of {m x q:Mac} (h:Gr x q) (hp:x.d.pJ=m.d.pJ) (hs:x.d.sJ.length=m.d.sJ.length) (ho:x.oJ.length=m.oJ.length):Gr m q:=⟨h.pJ.trans hp,by have:=h.sJ;omega,by have:=h.oJ;omega⟩
theorem Ajy (m:Mac) (u:Int):Gr m (C0 m u):=by
 unfold C0
 split
 ·exact Gr.fail _ _ _
 ·exact Gr.settle rfl (by simp) (by simp)
theorem Aqq (m:Mac) (u:Int):Gr m (Ew m u):=by
 unfold Ew
 split
 ·exact Gr.fail _ _ _
 ·split
  ·exact Gr.fail _ _ _
  ·split
   ·exact Gr.fail _ _ _
   ·split
    ·exact(Gr.fail _ _ _).of rfl rfl rfl
    ·exact⟨rfl,Nat.le_succ _,by simp only;omega⟩
theorem Ans (m:Mac) (u:Int):Gr m (Cu m u):=by
 unfold Cu
 split
 ·exact Gr.fail _ _ _
 ·split
  ·exact Gr.settle rfl (Nat.le_succ _) (by simp)
  ·split
   ·split
    ·exact Gr.fail _ _ _
    ·exact Gr.settle rfl (by simp) (by simp)
   ·split
    ·exact Gr.settle rfl (Nat.le_succ _) (by simp)
    ·split
     ·exact Gr.fail _ _ _
     ·exact Gr.settle rfl (Nat.le_succ _) (by simp)
theorem Aqr (m:Mac) (b a:Int):Gr m (B3 m b a):=by
 unfold B3
 split
 ·exact(Gr.fail _ _ _).of rfl rfl rfl
 ·split
  ·unfold Wy
   split
   ·exact(Gr.fail _ _ _).of rfl rfl rfl
   ·exact⟨rfl,Nat.le_succ _,by simp only;omega⟩
  ·split
   ·exact(Ajy _ _).of rfl rfl rfl
   ·split
    ·exact(Aqq _ _).of rfl rfl rfl
    ·split
     ·exact(Ans _ _).of rfl rfl rfl
     ·exact Gr.settle rfl (Nat.le_succ _) (Nat.le_trans (Gt _ _) (Nat.le_succ _))
theorem Aqs (m:Mac) (b:Int):Gr m (D8 m b):=by
 unfold D8
 split
 ·exact⟨rfl,Nat.le_succ _,by simp only;omega⟩
 ·split
  ·have:=Gt ⟨G1 m.d scn0,m.oJ⟩ (B4 m.d.sK b).bits
   exact⟨rfl,Nat.le_succ _,by simp only[A3,List.length_append,List.length_cons,List.length_nil] at this ⊢;omega⟩
  ·exact Gr.settle rfl (Nat.le_succ _) (Nat.le_trans (Gt _ _) (Nat.le_succ _))
theorem Ant (m:Mac) (b:Int):Gr m (Es m b):=by
 unfold Es
 split
 ·split
  ·exact Gr.fail _ _ _
  ·exact Gr.settle rfl (Nat.le_succ _) (by simp)
 ·exact Gr.settle rfl (Nat.le_succ _) (by simp)
theorem Lo (d:Dcd):(Dz d).sJ.length=d.sJ.length:=by unfold Dz;simp only;split<;>simp
theorem Anu (m:Mac) (b:Int):Gr m (Dw m b):=by
 unfold Dw
 split
 ·exact(Ant _ _).of rfl (Lo _) rfl
 ·split
  ·exact Gr.settle rfl (by show (Dz m.d).sJ.length≤_;rw[Lo];omega) (by simp)
  ·split
   ·exact(Aqs _ _).of rfl (Lo _) rfl
   ·exact(Aqr _ _ _).of rfl (Lo _) rfl
theorem Abw (d:Dcd) (b:Int):Gr ⟨d,[]⟩ (Cs d b):=by
 unfold Cs
 split
 ·exact Anu _ _
 ·exact⟨rfl,Nat.le_succ _,by simp⟩
theorem Aha {d:Dcd} {b:Int} :(Cs d b).d.pJ=d.pJ∧(Cs d b).d.sJ.length≤d.sJ.length+1:=⟨(Abw d b).pJ,(Abw d b).sJ⟩
theorem Ajz {d:Dcd} {b:Int} :(Cs d b).oJ.length≤d.sJ.length+6:=by have:=(Abw d b).oJ;simp only[List.length_nil] at this;omega
theorem Af5 {p:Pln} (h:B2 p=true):(Bs p).pJ=p∧(Bs p).sJ=[]∧(Bs p).sK.bits=0:=by unfold Bs;rw[if_pos h];exact⟨rfl,rfl,rfl⟩
theorem Cr (n:Int) (lo:Int) (hi:Int):Fun Tryz.prog 97 [vI n,vI lo,vI hi] [] (.v (vB (Ak n lo hi))) []:=by
 have hN:Bh=274877906944:=rfl
 refine Ar Tryz.func97 Q4 Q4 (w:=(.br (.lJ () []) (.lJ () []),Bc (decide (lo≤n)) (Lf (.v (vB (decide (n≤hi)))) (.v (vB (Ak n lo hi))) [] []) (Lf (.v (vB false)) (.v (vB (Ak n lo hi))) [] []))) Q4 ?_
 refine dsp (fun h1 p1=>?_) fun h1 p1=>?_
 exact⟨(congrArg S.v (congrArg V.c (congrArg C.bool (by simp[Ak, *])))),rfl⟩
 exact⟨(congrArg S.v (congrArg V.c (congrArg C.bool (by simp[Ak, *])))),rfl⟩
theorem Bb (n:Int) (lo:Int) (hi:Int):Fun Tryz.prog 44 [vI n,vI lo,vI hi] [] (.v (vB (Ak n lo hi))) []:=by
 have hN:Bh=274877906944:=rfl
 refine Ar Tryz.func44 Q4 Q4 (w:=(.br (.lJ () []) (.lJ () []),Bc (decide (lo≤n)) (Lf (.v (vB (decide (n≤hi)))) (.v (vB (Ak n lo hi))) [] []) (Lf (.v (vB false)) (.v (vB (Ak n lo hi))) [] []))) Q4 ?_
 refine dsp (fun h1 p1=>?_) fun h1 p1=>?_
 exact⟨(congrArg S.v (congrArg V.c (congrArg C.bool (by simp[Ak, *])))),rfl⟩
 exact⟨(congrArg S.v (congrArg V.c (congrArg C.bool (by simp[Ak, *])))),rfl⟩
theorem Ase (a:Int) (b:Int):Fun Tryz.prog 83 [vI a,vI b] [] (.v (vI (min a b))) []:=by
 have hN:Bh=274877906944:=rfl
 refine Ar Tryz.func83 Q4 Q4 (w:=(.br (.lJ () []) (.lJ () []),Bc (decide (a<b)) (Lf (.v (vI a)) (.v (vI (min a b))) [] []) (Lf (.v (vI b)) (.v (vI (min a b))) [] []))) Q4 ?_
 refine dsp (fun h1 p1=>?_) fun h1 p1=>?_
 exact⟨(congrArg S.v (congrArg V.c (congrArg (C.int .i64) Q2))),rfl⟩
 exact⟨(congrArg S.v (congrArg V.c (congrArg (C.int .i64) Q2))),rfl⟩
theorem H8 (a:Int) (b:Int):Fun Tryz.prog 84 [vI a,vI b] [] (.v (vI (max a b))) []:=by
 have hN:Bh=274877906944:=rfl
 refine Ar Tryz.func84 Q4 Q4 (w:=(.br (.lJ () []) (.lJ () []),Bc (decide (b<a)) (Lf (.v (vI a)) (.v (vI (max a b))) [] []) (Lf (.v (vI b)) (.v (vI (max a b))) [] []))) Q4 ?_
 refine dsp (fun h1 p1=>?_) fun h1 p1=>?_
 exact⟨(congrArg S.v (congrArg V.c (congrArg (C.int .i64) Q2))),rfl⟩
 exact⟨(congrArg S.v (congrArg V.c (congrArg (C.int .i64) Q2))),rfl⟩
theorem Ahb (n:Int):Fun Tryz.prog 207 [vI n] [] (.v (vB (D3 n))) []:=by
 have hN:Bh=274877906944:=rfl
 refine Ar Tryz.func207 Q4 Q4 (w:=let z1:=Ak n 1 536870911;let z2:=Ak n 19000 19999;(.sZ [.call [] (.v (vB z1)) []] (.br (.sZ [.call [] (.v (vB z2)) []] (.lJ () [])) (.lJ () [])),(Fp 97 [vI n,vI 1,vI 536870911] [] (.v (vB z1)) [])∧Bc z1 ((Fp 97 [vI n,vI 19000,vI 19999] [] (.v (vB z2)) [])∧Lf (.v (vB (!z2))) (.v (vB (D3 n))) [] []) (Lf (.v (vB false)) (.v (vB (D3 n))) [] []))) Q4 ?_
 refine⟨(Cr _ _ _),fun h1=>have p1:=Av h1;?_,fun h1=>have p1:=A0 h1;?_⟩
 exact⟨(Cr _ _ _),(congrArg S.v (congrArg V.c (congrArg C.bool (by simp[D3, *])))),rfl⟩
 exact⟨(congrArg S.v (congrArg V.c (congrArg C.bool (by simp[D3, *])))),rfl⟩
theorem Aan (n:Int):Fun Tryz.prog 156 [vI n] [] (.v (vB (D3 n))) []:=by
 have hN:Bh=274877906944:=rfl
 refine Ar Tryz.func156 Q4 Q4 (w:=let z1:=Ak n 1 536870911;let z2:=Ak n 19000 19999;(.sZ [.call [] (.v (vB z1)) []] (.br (.sZ [.call [] (.v (vB z2)) []] (.lJ () [])) (.lJ () [])),(Fp 44 [vI n,vI 1,vI 536870911] [] (.v (vB z1)) [])∧Bc z1 ((Fp 44 [vI n,vI 19000,vI 19999] [] (.v (vB z2)) [])∧Lf (.v (vB (!z2))) (.v (vB (D3 n))) [] []) (Lf (.v (vB false)) (.v (vB (D3 n))) [] []))) Q4 ?_
 refine⟨(Bb _ _ _),fun h1=>have p1:=Av h1;?_,fun h1=>have p1:=A0 h1;?_⟩
 exact⟨(Bb _ _ _),(congrArg S.v (congrArg V.c (congrArg C.bool (by simp[D3, *])))),rfl⟩
 exact⟨(congrArg S.v (congrArg V.c (congrArg C.bool (by simp[D3, *])))),rfl⟩
theorem Af6 (w:Int):Fun Tryz.prog 104 [vI w] [] (.v (vB (C4 w))) []:=by
 have hN:Bh=274877906944:=rfl
 refine Ar Tryz.func104 Q4 Q4 (w:=let z1:=Lf (.v (vB true)) (.v (vB (C4 w))) [] [];(.br (.lJ () []) (.br (.lJ () []) (.br (.lJ () []) (.lJ () []))),Bc (decide (w=0)) z1 (Bc (decide (w=1)) z1 (Bc (decide (w=2)) z1 (Lf (.v (vB (decide (w=5)))) (.v (vB (C4 w))) [] []))))) Q4 ?_
 refine dsp (fun h1 p1=>?_) fun h1 p1=>?_
 exact⟨(congrArg S.v (congrArg V.c (congrArg C.bool Q81))),rfl⟩
 refine dsp (fun h2 p2=>?_) fun h2 p2=>?_
 exact⟨(congrArg S.v (congrArg V.c (congrArg C.bool Q81))),rfl⟩
 refine dsp (fun h3 p3=>?_) fun h3 p3=>?_
 exact⟨(congrArg S.v (congrArg V.c (congrArg C.bool Q81))),rfl⟩
 exact⟨(congrArg S.v (congrArg V.c (congrArg C.bool Q81))),rfl⟩
theorem Abx (w:Int):Fun Tryz.prog 122 [vI w] [] (.v (vB (C4 w))) []:=by
 have hN:Bh=274877906944:=rfl
 refine Ar Tryz.func122 Q4 Q4 (w:=let z1:=Lf (.v (vB true)) (.v (vB (C4 w))) [] [];(.br (.lJ () []) (.br (.lJ () []) (.br (.lJ () []) (.lJ () []))),Bc (decide (w=0)) z1 (Bc (decide (w=1)) z1 (Bc (decide (w=2)) z1 (Lf (.v (vB (decide (w=5)))) (.v (vB (C4 w))) [] []))))) Q4 ?_
 refine dsp (fun h1 p1=>?_) fun h1 p1=>?_
 exact⟨(congrArg S.v (congrArg V.c (congrArg C.bool Q81))),rfl⟩
 refine dsp (fun h2 p2=>?_) fun h2 p2=>?_
 exact⟨(congrArg S.v (congrArg V.c (congrArg C.bool Q81))),rfl⟩
 refine dsp (fun h3 p3=>?_) fun h3 p3=>?_
 exact⟨(congrArg S.v (congrArg V.c (congrArg C.bool Q81))),rfl⟩
 exact⟨(congrArg S.v (congrArg V.c (congrArg C.bool Q81))),rfl⟩
theorem Af7 (k:Int):Fun Tryz.prog 208 [vI k] [] (.v (vB (En k))) []:=by
 have hN:Bh=274877906944:=rfl
 refine Ar Tryz.func208 Q4 Q4 (w:=let z1:S:= .v (vB (Ak k 1 8));(.sZ [.call [] z1 []] (.lJ () []),(Fp 97 [vI k,vI 1,vI 8] [] z1 [])∧Lf z1 (.v (vB (En k))) [] [])) Q4 ?_
 exact⟨(Cr _ _ _),(congrArg S.v (congrArg V.c (congrArg C.bool (by rfl)))),rfl⟩
theorem Xg (k:Int):Fun Tryz.prog 157 [vI k] [] (.v (vB (En k))) []:=by
 have hN:Bh=274877906944:=rfl
 refine Ar Tryz.func157 Q4 Q4 (w:=let z1:S:= .v (vB (Ak k 1 8));(.sZ [.call [] z1 []] (.lJ () []),(Fp 44 [vI k,vI 1,vI 8] [] z1 [])∧Lf z1 (.v (vB (En k))) [] [])) Q4 ?_
 exact⟨(Bb _ _ _),(congrArg S.v (congrArg V.c (congrArg C.bool (by rfl)))),rfl⟩
theorem Adf (k:Int):Fun Tryz.prog 209 [vI k] [] (.v (vB (C1 k))) []:=by
 have hN:Bh=274877906944:=rfl
 refine Ar Tryz.func209 Q4 Q4 (w:=let z1:S:= .v (vB (Ak k 1 5));(.sZ [.call [] z1 []] (.lJ () []),(Fp 97 [vI k,vI 1,vI 5] [] z1 [])∧Lf z1 (.v (vB (C1 k))) [] [])) Q4 ?_
 exact⟨(Cr _ _ _),(congrArg S.v (congrArg V.c (congrArg C.bool (by rfl)))),rfl⟩
theorem Nh (k:Int):Fun Tryz.prog 158 [vI k] [] (.v (vB (C1 k))) []:=by
 have hN:Bh=274877906944:=rfl
 refine Ar Tryz.func158 Q4 Q4 (w:=let z1:S:= .v (vB (Ak k 1 5));(.sZ [.call [] z1 []] (.lJ () []),(Fp 44 [vI k,vI 1,vI 5] [] z1 [])∧Lf z1 (.v (vB (C1 k))) [] [])) Q4 ?_
 exact⟨(Bb _ _ _),(congrArg S.v (congrArg V.c (congrArg C.bool (by rfl)))),rfl⟩
theorem Aby (k:Int):Fun Tryz.prog 181 [vI k] [] (.v (vI (Be k))) []:=by
 have hN:Bh=274877906944:=rfl
 refine Ar Tryz.func181 Q4 Q4 (w:=let zi:Int→C:= .int .i64;let z1:=List.getD [0,0,0,5,1,2,2,2] (Int.toNat (k-1)) 0;(.sZ [.call [] (.v (vB (En k))) []] (.br (.lJ () []) (.sZ [.as 8 (.v (vI (k-1))),.ce (zi z1)] (.lJ () []))),(Fp 208 [vI k] [] (.v (vB (En k))) [])∧Bc (!(En k)) (Lf (.v (vI (-1))) (.v (vI (Be k))) [] []) ((wI (k-1))∧((([zi 0,zi 0,zi 0,zi 5,zi 1,zi 2,zi 2,zi 2]:List C)[Int.toNat (k-1)]?)=some (zi z1))∧(k-1<((8:Nat):Int))∧((0:Int)≤k-1)∧Lf (.v (vI z1)) (.v (vI (Be k))) [] []))) Q4 ?_
 refine⟨(Af7 _),fun h1=>have q1:=Ao h1;have p1:=A0 q1;?_,fun h1=>have q1:=An h1;have p1:=Av q1;?_⟩
 exact⟨(sI W0),rfl⟩
 exact⟨(Ad Q2 Q2),(Ar4 (l:=[0,0,0,5,1,2,2,2]) (by simp;omega)),Q2,Q2,(sI W0),rfl⟩
theorem Pp (k:Int):Fun Tryz.prog 131 [vI k] [] (.v (vI (Be k))) []:=by
 have hN:Bh=274877906944:=rfl
 refine Ar Tryz.func131 Q4 Q4 (w:=let z1:S:= .v (vI (Be k));(.sZ [.call [] (.v (vB (En k))) []] (.br (.lJ () []) (.br (.lJ () []) (.br (.lJ () []) (.sZ [.call [] (.v (vB (C1 k))) []] (.br (.lJ () []) (.lJ () [])))))),(Fp 157 [vI k] [] (.v (vB (En k))) [])∧Bc (!(En k)) (Lf (.v (vI (-1))) z1 [] []) (Bc (decide (k=4)) (Lf (.v (vI 5)) z1 [] []) (Bc (decide (k=5)) (Lf (.v (vI 1)) z1 [] []) ((Fp 158 [vI k] [] (.v (vB (C1 k))) [])∧Bc (C1 k) (Lf (.v (vI 0)) z1 [] []) (Lf (.v (vI 2)) z1 [] [])))))) Q4 ?_
 refine⟨(Xg _),fun h1=>have q1:=Ao h1;have p1:=A0 q1;?_,fun h1=>have q1:=An h1;have p1:=Av q1;?_⟩
 exact⟨(sI W1),rfl⟩
 refine dsp (fun h2 p2=>?_) fun h2 p2=>?_
 exact⟨(sI W1),rfl⟩
 refine dsp (fun h3 p3=>?_) fun h3 p3=>?_
 exact⟨(sI W1),rfl⟩
 refine⟨(Nh _),fun h4=>have p4:=Av h4;?_,fun h4=>have p4:=A0 h4;?_⟩
 exact⟨(sI W1),rfl⟩
 exact⟨(sI W1),rfl⟩
theorem Gd (w:Int):Fun Tryz.prog 171 [vI w] [] (.v (vI (Aq w))) []:=by
 have hN:Bh=274877906944:=rfl
 refine Ar Tryz.func171 Q4 Q4 (w:=let z1:S:= .v (vI (Aq w));(.br (.lJ () []) (.br (.lJ () []) (.lJ () [])),Bc (decide (w=1)) (Lf (.v (vI 8)) z1 [] []) (Bc (decide (w=5)) (Lf (.v (vI 4)) z1 [] []) (Lf (.v (vI 0)) z1 [] [])))) Q4 ?_
 refine dsp (fun h1 p1=>?_) fun h1 p1=>?_
 exact⟨(congrArg S.v (congrArg V.c (congrArg (C.int .i64) (by simp[Aq, *])))),rfl⟩
 refine dsp (fun h2 p2=>?_) fun h2 p2=>?_
 exact⟨(congrArg S.v (congrArg V.c (congrArg (C.int .i64) (by simp[Aq, *])))),rfl⟩
 exact⟨(congrArg S.v (congrArg V.c (congrArg (C.int .i64) (by simp[Aq, *])))),rfl⟩
theorem D9 (w:Int):Fun Tryz.prog 127 [vI w] [] (.v (vI (Aq w))) []:=by
 have hN:Bh=274877906944:=rfl
 refine Ar Tryz.func127 Q4 Q4 (w:=let z1:S:= .v (vI (Aq w));(.br (.lJ () []) (.br (.lJ () []) (.lJ () [])),Bc (decide (w=1)) (Lf (.v (vI 8)) z1 [] []) (Bc (decide (w=5)) (Lf (.v (vI 4)) z1 [] []) (Lf (.v (vI 0)) z1 [] [])))) Q4 ?_
 refine dsp (fun h1 p1=>?_) fun h1 p1=>?_
 exact⟨(congrArg S.v (congrArg V.c (congrArg (C.int .i64) (by simp[Aq, *])))),rfl⟩
 refine dsp (fun h2 p2=>?_) fun h2 p2=>?_
 exact⟨(congrArg S.v (congrArg V.c (congrArg (C.int .i64) (by simp[Aq, *])))),rfl⟩
 exact⟨(congrArg S.v (congrArg V.c (congrArg (C.int .i64) (by simp[Aq, *])))),rfl⟩
theorem Aj0 (f:Fld):Fun Tryz.prog 169 [.agg (Fg f)] [] (.v (vB (U3 f))) []:=by
 have hN:Bh=274877906944:=rfl
 refine Ar Tryz.func169 Q4 Q4 (w:=let z1:S:= .v (vB (C1 f.kind));(.br (.sZ [.call [] z1 []] (.lJ () [])) (.lJ () []),Bc f.rep ((Fp 209 [vI f.kind] [] z1 [])∧Lf z1 (.v (vB (U3 f))) [] []) (Lf (.v (vB false)) (.v (vB (U3 f))) [] []))) Q4 ?_
 refine⟨fun h1=>?_,fun h1=>?_⟩
 exact⟨(Adf _),(congrArg S.v (congrArg V.c (congrArg C.bool (by simp[U3, *])))),rfl⟩
 exact⟨(congrArg S.v (congrArg V.c (congrArg C.bool (by simp[U3, *])))),rfl⟩
theorem Yn (f:Fld):Fun Tryz.prog 129 [.agg (Fg f)] [] (.v (vB (U3 f))) []:=by
 have hN:Bh=274877906944:=rfl
 refine Ar Tryz.func129 Q4 Q4 (w:=let z1:S:= .v (vB (C1 f.kind));(.br (.sZ [.call [] z1 []] (.lJ () [])) (.lJ () []),Bc f.rep ((Fp 158 [vI f.kind] [] z1 [])∧Lf z1 (.v (vB (U3 f))) [] []) (Lf (.v (vB false)) (.v (vB (U3 f))) [] []))) Q4 ?_
 refine⟨fun h1=>?_,fun h1=>?_⟩
 exact⟨(Nh _),(congrArg S.v (congrArg V.c (congrArg C.bool (by simp[U3, *])))),rfl⟩
 exact⟨(congrArg S.v (congrArg V.c (congrArg C.bool (by simp[U3, *])))),rfl⟩
theorem Lq (f:Fld) (w:Int) (hp1:(0:Int)≤w):Fun Tryz.prog 170 [.agg (Fg f),vI w] [] (.v (vB (Dk f w))) []:=by
 have hN:Bh=274877906944:=rfl
 refine Ar Tryz.func170 Q4 Q4 (w:=let z1:S:= .v (vB (Dk f w));let z2:S:= .v (vB (U3 f));(.sZ [.call [] (.v (vI (Be f.kind))) []] (.br (.lJ () []) (.br (.sZ [.call [] z2 []] (.lJ () [])) (.lJ () []))),(Fp 181 [vI f.kind] [] (.v (vI (Be f.kind))) [])∧Bc (decide (w=Be f.kind)) (Lf (.v (vB true)) z1 [] []) (Bc (decide (w=2)) ((Fp 169 [.agg (Fg f)] [] z2 [])∧Lf z2 z1 [] []) (Lf (.v (vB false)) z1 [] [])))) Q4 ?_
 refine⟨(Aby _),dsp (fun h1 p1=>?_) fun h1 p1=>?_⟩
 exact⟨(sB W2),rfl⟩
 refine dsp (fun h2 p2=>?_) fun h2 p2=>?_
 exact⟨(Aj0 f),(sB W2),rfl⟩
 exact⟨(sB W2),rfl⟩
theorem Yo (f:Fld) (w:Int) (hp1:(0:Int)≤w):Fun Tryz.prog 128 [.agg (Fg f),vI w] [] (.v (vB (Dk f w))) []:=by
 have hN:Bh=274877906944:=rfl
 refine Ar Tryz.func128 Q4 Q4 (w:=let z1:S:= .v (vB (Dk f w));let z2:S:= .v (vB (U3 f));(.sZ [.call [] (.v (vB (En f.kind))) []] (.br (.sZ [.call [] (.v (vI (Be f.kind))) []] (.br (.lJ () []) (.br (.sZ [.call [] z2 []] (.lJ () [])) (.lJ () [])))) (.br (.sZ [.call [] z2 []] (.lJ () [])) (.lJ () []))),(Fp 157 [vI f.kind] [] (.v (vB (En f.kind))) [])∧Bc (En f.kind) ((Fp 131 [vI f.kind] [] (.v (vI (Be f.kind))) [])∧Bc (decide (w=Be f.kind)) (Lf (.v (vB true)) z1 [] []) (Bc (decide (w=2)) ((Fp 129 [.agg (Fg f)] [] z2 [])∧Lf z2 z1 [] []) (Lf (.v (vB false)) z1 [] []))) (Bc (decide (w=2)) ((Fp 129 [.agg (Fg f)] [] z2 [])∧Lf z2 z1 [] []) (Lf (.v (vB false)) z1 [] [])))) Q4 ?_
 refine⟨(Xg _),fun h1=>have p1:=Av h1;?_,fun h1=>have p1:=A0 h1;?_⟩
 refine⟨(Pp _),dsp (fun h2 p2=>?_) fun h2 p2=>?_⟩
 exact⟨(sB W2),rfl⟩
 refine dsp (fun h3 p3=>?_) fun h3 p3=>?_
 exact⟨(Yn f),(sB W2),rfl⟩
 exact⟨(sB W2),rfl⟩
 refine dsp (fun h2 p2=>?_) fun h2 p2=>?_
 exact⟨(Yn f),(sB W2),rfl⟩
 exact⟨(sB W2),rfl⟩
structure Pq where
 u:Int
 oJ:List Int
def Pr (u:Int):Fam:=⟨Pq,fun q1=>[(0,.v (.c (.int .u64 q1.u))),(3,.v (vO 0))],fun q1=>[.lst .u8 q1.oJ],fun q1=>(0:Int)≤q1.u∧q1.u≤18446744073709551615∧List.map Bj q1.oJ++Eo q1.u=Eo u∧q1.oJ.length+List.length (Eo q1.u)≤10,fun q1=>q1.u.toNat⟩
theorem Xh (u:Int) (hp1:(0:Int)≤u∧u≤18446744073709551615):Fun Tryz.prog 202 [.c (.int .u64 u)] [] (.v (vT (Eo u))) []:=by
 have hN:Bh=274877906944:=rfl
 refine Ar Tryz.func202 Q4 Q4 (w:=let z2:=Pr u;(.sZ [.ty .u8,.at 0,.keep [0,3],.sel [0]] (.loop z2 fun q1=> .br (.sZ [.as 9 (.v (.c (.int .u64 (q1.u % 128)))),.as 10 (.v (.c (.int .u64 (q1.u % 128+128)))),.as 11 (.v (.c (.int .u8 (q1.u % 128+128)))),.ty .u8,.ty .u8,.as 15 (.v (.c (.int .u64 (q1.u / 128)))),.at 0,.keep [0,3],.sel [2]] (.next)) (.sZ [.as 18 (.v (.c (.int .u8 q1.u))),.ty .u8,.ty .u8] (.lJ () []))),z2.Has [(0,.v (.c (.int .u64 u))),(3,.v (vO 0))] [.lst .u8 ([]:List Int)]∧∀q1,z2.inv q1→(let z1:=q1.u % 128+128;Bc (decide (127<q1.u)) (((128:Int)≠0)∧((.v (.c (.int .u64 (Int.tmod q1.u 128))):S)= .v (.c (.int .u64 (q1.u % 128))))∧((.v (.c (.int .u64 (IntKind.u64.wrap ((q1.u % 128)+128)))):S)= .v (.c (.int .u64 z1)))∧((.v (.c (.int .u8 (IntKind.u8.wrap z1))):S)= .v (.c (.int .u8 z1)))∧(q1.oJ.length+List.length [q1.u % 128+128]≤Bh)∧((128:Int)≠0)∧((.v (.c (.int .u64 (IntKind.u64.wrap (Int.tdiv q1.u 128)))):S)= .v (.c (.int .u64 (q1.u / 128))))∧z2.Nxt q1 [(0,.v (.c (.int .u64 (q1.u / 128)))),(3,.v (vO 0))] [.lst .u8 (q1.oJ++[q1.u % 128+128])]) (((.v (.c (.int .u8 (IntKind.u8.wrap (q1.u)))):S)= .v (.c (.int .u8 q1.u)))∧(q1.oJ.length+List.length [q1.u]≤Bh)∧Lf (.v (vT (List.map Bj (q1.oJ++[q1.u])))) (.v (vT (Eo u))) [] [])))) Q4 ?_
 refine⟨Bp (j:=(⟨u,([]:List Int)⟩:Pq)) rfl rfl (by dsimp only[Pr];exact⟨by omega,by omega,by simp,by have:=Af0 (u:=u) Q2;unfold Md at this;simp;omega⟩),fun (q1:Pq) hq_q1=>?_⟩
 have hi_q1:(0:Int)≤q1.u∧q1.u≤18446744073709551615∧List.map Bj q1.oJ++Eo q1.u=Eo u∧q1.oJ.length+List.length (Eo q1.u)≤10:=hq_q1
 obtain ⟨v1,v2,v3,v4⟩:=hi_q1
 refine dsp (fun h1 p1=>?_) fun h1 p1=>?_
 exact⟨Q27,(Vb Q2),(Bu Q2 Q2),(Nd Q2 Q2),(by have:=Aai q1.u;simp;omega),Q27,(Yg Q2 Q2 Q27),A6 (j:=(⟨q1.u / 128,q1.oJ++[q1.u % 128+128]⟩:Pq)) rfl rfl (by dsimp only[Pr];exact⟨by omega,by omega,by rw[←v3,Aah (u:=q1.u) (by omega) (by omega)];simp[Bj],by rw[Aah (u:=q1.u) (by omega) (by omega)] at v4;simp at v4 ⊢;omega⟩) (by dsimp only[Pr];omega)⟩
 exact⟨(Nd Q2 Q2),(by have:=Aai q1.u;simp;omega),(congrArg S.v (congrArg V.c (congrArg C.str W3))),rfl⟩
structure G6 where
 u:Int
 k:Nat
def G7 (s:List UInt8) (aJ:Int) (eJ:Int):Fam:=⟨G6,fun q1=>[(0,.v (vT s)),(1,.v (vI aJ)),(2,.v (vI eJ)),(9,.v (.c (.int .u64 q1.u))),(10,.v (vI (q1.k:Int)))],fun _=>[],fun q1=>q1.k≤9∧(0:Int)≤q1.u∧q1.u<2 ^ (7*q1.k)∧vwA s aJ eJ (10-q1.k) (((q1.k:Nat)):Int) q1.u=Ai s aJ eJ,fun q1=>10-q1.k⟩
theorem Yp (s:List UInt8) (aJ:Int) (eJ:Int) (hp1:s.length≤Bh):Fun Tryz.prog 93 [vT s,vI aJ,vI eJ] [] (.tup [.c (.int .u64 (Ai s aJ eJ).1),vI (Ai s aJ eJ).2.1,vI (Ai s aJ eJ).2.2]) []:=by
 have hN:Bh=274877906944:=rfl
 refine Ar Tryz.func93 Q4 Q4 (w:=let z7:=(s.length:Int);let z8:=G7 s aJ eJ;let z10:=Ai s aJ eJ;let z6:S:= .tup [.c (.int .u64 z10.1),vI z10.2.1,vI z10.2.2];let z9:=Lf (.tup [.c (.int .u64 0),vI z7,vI 10]) z6 [] [];(.sZ [.call [] (.v (vB (Ak aJ 0 z7))) []] (.br (.lJ () []) (.sZ [.at 0,.keep [0,1,2,9,10],.sel []] (.loop z8 fun q1=>let z4:=(q1.k:Int);.sZ [.br true,.as 26 (.v (vI (aJ+z4)))] (.br (.lJ () []) (.sZ [.as 33 (.v (vI (aJ+z4)))] (.br (.lJ () []) (.sZ [.as 42 (.v (vI (aJ+z4)))] (.intro (Sx (s[Int.toNat (aJ+z4)]?)) fun x1=>let z1:=((UInt8.toNat x1:Nat):Int) % 128;.sZ [.ch x1,.as 44 (.v (.c (.int .u64 ((UInt8.toNat x1:Nat):Int))))] (.br (.br (.sZ [.as 53 (.v (vI (aJ+z4)))] (.lJ () [])) (.sZ [.as 56 (.v (.c (.int .u64 z1))),.as 58 (.v (vI (7*z4))),.as 59 (.v (.c (.int .u64 (7*z4)))),.as 60 (.v (.c (.int .u64 (z1*2 ^ (7*q1.k))))),.as 61 (.v (.c (.int .u64 (q1.u+(z1*2 ^ (7*q1.k))))))] (.br (.sZ [.as 67 (.v (vI (aJ+z4))),.as 68 (.v (vI (aJ+z4+1)))] (.lJ () [])) (.sZ [.as 22 (.v (vI (z4+1))),.at 0,.keep [0,1,2,9,10],.sel []] (.next))))) (.sZ [.as 56 (.v (.c (.int .u64 z1))),.as 58 (.v (vI (7*z4))),.as 59 (.v (.c (.int .u64 (7*z4)))),.as 60 (.v (.c (.int .u64 (z1*2 ^ (7*q1.k))))),.as 61 (.v (.c (.int .u64 (q1.u+(z1*2 ^ (7*q1.k))))))] (.br (.sZ [.as 67 (.v (vI (aJ+z4))),.as 68 (.v (vI (aJ+z4+1)))] (.lJ () [])) (.sZ [.as 22 (.v (vI (z4+1))),.at 0,.keep [0,1,2,9,10],.sel []] (.next))))))))))))),(Fp 44 [vI aJ,vI 0,vI z7] [] (.v (vB (Ak aJ 0 z7))) [])∧Bc (!(Ak aJ 0 z7)) z9 (z8.Has [(0,.v (vT s)),(1,.v (vI aJ)),(2,.v (vI eJ)),(9,.v (.c (.int .u64 0))),(10,.v (vI 0))] []∧∀q1,z8.inv q1→(let z5:=(q1.k:Int);((decide (z5<10))=true)∧(wI (aJ+z5))∧Bc (decide (eJ≤aJ+z5)) (Lf (.tup [.c (.int .u64 0),vI eJ,vI 9]) z6 [] []) ((wI (aJ+z5))∧Bc (decide (z7≤aJ+z5)) z9 ((wI (aJ+z5))∧El (s[Int.toNat (aJ+z5)]?) fun x1=>(let z3:=((UInt8.toNat x1:Nat):Int);let z2:=((128:Int)≠0)∧((.v (.c (.int .u64 (Int.tmod z3 128))):S)= .v (.c (.int .u64 (z3 % 128))))∧(wI (7*z5))∧(wU (7*z5))∧((0:Int)≤7*z5)∧((.v (.c (.int .u64 (IntKind.u64.wrap ((z3 % 128)*2 ^ min (Int.toNat (7*z5)) 64)))):S)= .v (.c (.int .u64 ((z3 % 128)*2 ^ (7*q1.k)))))∧(wU (q1.u+((z3 % 128)*2 ^ (7*q1.k))))∧Bc (decide (z3<128)) ((wI (aJ+z5))∧((.v (vI (IntKind.i64.wrap ((aJ+z5)+1))):S)= .v (vI (aJ+z5+1)))∧Lf (.tup [.c (.int .u64 (q1.u+((z3 % 128)*2 ^ (7*q1.k)))),vI (aJ+z5+1),vI 0]) z6 [] []) ((wI (z5+1))∧z8.Nxt q1 [(0,.v (vT s)),(1,.v (vI aJ)),(2,.v (vI eJ)),(9,.v (.c (.int .u64 (q1.u+((z3 % 128)*2 ^ (7*q1.k)))))),(10,.v (vI (z5+1)))] []);(s[Int.toNat (aJ+z5)]? =some x1)∧((0:Int)≤aJ+z5)∧(wU (z3))∧Bc (decide (z5=9)) (Bc (decide (1<z3)) ((wI (aJ+z5))∧Lf (.tup [.c (.int .u64 0),vI (aJ+z5),vI 1]) z6 [] []) z2) z2))))))) Q4 ?_
 refine⟨(Bb _ _ _),fun h1=>have q1:=Ao h1;have p1:=A0 q1;?_,fun h1=>have q1:=An h1;have p1:=Av q1;?_⟩
 exact⟨(congrArg S.tup (Ab (congrArg V.c (congrArg (C.int .u64) W4)) (Ab (congrArg V.c (cI W4)) (Ab (congrArg V.c (cI W4)) rfl)))),rfl⟩
 have hw:Ak aJ 0 (s.length:Int)=true:=by simpa using h1
 refine⟨Bp (j:=(⟨0,0⟩:G6)) Q8 rfl (by dsimp only[G7];exact⟨by omega,by omega,by decide,by simp[Ai,hw]⟩),fun (q1:G6) hq_q1=>?_⟩
 have hi_q1:q1.k≤9∧(0:Int)≤q1.u∧q1.u<2 ^ (7*q1.k)∧vwA s aJ eJ (10-q1.k) (((q1.k:Nat)):Int) q1.u=Ai s aJ eJ:=hq_q1
 obtain ⟨v1,v2,v3,v4⟩:=hi_q1
 obtain ⟨f,hf⟩: ∃f,10-q1.k=f+1:=⟨9-q1.k,by omega⟩
 rw[hf,vwA] at v4
 have e7:Int.toNat (7*(q1.k:Int))=7*q1.k:=by omega
 refine⟨(by simp;omega),(Ad Q2 Q2),dsp (fun h2 p2=>?_) fun h2 p2=>?_⟩
 rw[if_pos p2] at v4
 exact⟨(congrArg S.tup (Ab (congrArg V.c (congrArg (C.int .u64) W4)) (Ab (congrArg V.c (cI W4)) (Ab (congrArg V.c (cI W4)) rfl)))),rfl⟩
 rw[if_neg p2] at v4
 refine⟨(Ad Q2 Q2),dsp (fun h3 p3=>?_) fun h3 p3=>?_⟩
 rw[if_pos p3] at v4
 exact⟨(congrArg S.tup (Ab (congrArg V.c (congrArg (C.int .u64) W4)) (Ab (congrArg V.c (cI W4)) (Ab (congrArg V.c (cI W4)) rfl)))),rfl⟩
 rw[if_neg p3] at v4
 refine⟨(Ad Q2 Q2),(Bo (l:=s) (i:=Int.toNat (aJ+(q1.k:Int))) Q2),fun x1 hx1=>?_⟩
 have hb_x1:=UInt8.toNat_lt x1
 have he:=Va (d:=0) hx1
 have hv:=fun h9=>Ajq (c:=(x1.toNat:Int) % 128) (k:=q1.k) (by omega) (by omega) (by omega) h9
 refine⟨hx1,Q2,(Bu Q2 Q2),dsp (fun h4 p4=>?_) fun h4 p4=>?_⟩
 refine dsp (fun h5 p5=>?_) fun h5 p5=>?_
 rw[if_pos ⟨by omega,by rw[he];omega⟩] at v4
 exact⟨(Ad Q2 Q2),(congrArg S.tup (Ab (congrArg V.c (congrArg (C.int .u64) W4)) (Ab (congrArg V.c (cI W4)) (Ab (congrArg V.c (cI W4)) rfl)))),rfl⟩
 rw[if_neg (by rw[he];omega)] at v4
 refine⟨Q27,(Vb Q2),(Ad Q2 Q2),(Bu Q2 Q2),Q2,(Ac7 Q2 Q2 Q2 (by intro h;omega)),(Bu Q2 Q2),dsp (fun h6 p6=>?_) fun h6 p6=>?_⟩
 have hv:=hv (by intro h;omega)
 rw[he,e7] at v4
 rw[if_pos p6] at v4
 exact⟨(Ad Q2 Q2),(Ad Q2 Q2),(congrArg S.tup (Ab (congrArg V.c (congrArg (C.int .u64) W4)) (Ab (congrArg V.c (cI W4)) (Ab (congrArg V.c (cI W4)) rfl)))),rfl⟩
 have hv:=hv (by intro h;omega)
 rw[he,e7] at v4
 rw[if_neg p6] at v4
 exact⟨(Ad Q2 Q2),A6 (j:=(⟨q1.u+((((UInt8.toNat x1:Nat):Int) % 128)*2 ^ (7*q1.k)),q1.k+1⟩:G6)) Q8 rfl Q70 (by dsimp only[G7];omega)⟩
 rw[if_neg (by omega)] at v4
 refine⟨Q27,(Vb Q2),(Ad Q2 Q2),(Bu Q2 Q2),Q2,(Ac7 Q2 Q2 Q2 (by intro h;omega)),(Bu Q2 Q2),dsp (fun h5 p5=>?_) fun h5 p5=>?_⟩
 have hv:=hv (by intro h;omega)
 rw[he,e7] at v4
 rw[if_pos p5] at v4
 exact⟨(Ad Q2 Q2),(Ad Q2 Q2),(congrArg S.tup (Ab (congrArg V.c (congrArg (C.int .u64) W4)) (Ab (congrArg V.c (cI W4)) (Ab (congrArg V.c (cI W4)) rfl)))),rfl⟩
 have hv:=hv (by intro h;omega)
 rw[he,e7] at v4
 rw[if_neg p5] at v4
 exact⟨(Ad Q2 Q2),A6 (j:=(⟨q1.u+((((UInt8.toNat x1:Nat):Int) % 128)*2 ^ (7*q1.k)),q1.k+1⟩:G6)) Q8 rfl Q70 (by dsimp only[G7];omega)⟩
structure Hj where
 u:Int
 i:Int
def Jv (s:List UInt8) (aJ:Int) (w:Int):Fam:=⟨Hj,fun q1=>[(0,.v (vT s)),(1,.v (vI aJ)),(8,.v (.c (.int .u64 q1.u))),(9,.v (vI q1.i))],fun _=>[],fun q1=>(-1:Int)≤q1.i∧q1.i<w∧q1.u=((Cv (List.take (Int.toNat (w-1-q1.i)) (List.drop (Int.toNat (aJ+q1.i+1)) s)):Nat):Int),fun q1=>Int.toNat (q1.i+1)⟩
theorem Anv (s:List UInt8) (aJ:Int) (w:Int) (hp1:s.length≤Bh):Fun Tryz.prog 231 [vT s,vI aJ,vI w] [] (.tup [.c (.int .u64 (Ng s aJ w)),vB (Em s aJ w)]) []:=by
 have hN:Bh=274877906944:=rfl
 refine Ar Tryz.func231 Q4 Q4 (w:=let z3:=(s.length:Int)-w;let z4:S:= .tup [.c (.int .u64 (Ng s aJ w)),vB (Em s aJ w)];let z5:=Jv s aJ w;let z6:=Lf (.tup [.c (.int .u64 0),vB false]) z4 [] [];let z7:S:= .v (vB (Ak aJ 0 z3));(.br (.br (.lJ () []) (.sZ [.as 21 (.v (vI z3)),.call [] z7 []] (.br (.lJ () []) (.sZ [.as 26 (.v (vI (w-1))),.at 0,.keep [0,1,8,9],.sel []] (.loop z5 fun q1=> .br (.sZ [.as 32 (.v (.c (.int .u64 (256*q1.u)))),.as 36 (.v (vI (aJ+q1.i)))] (.intro (Sx (s[Int.toNat (aJ+q1.i)]?)) fun x1=> .sZ [.ch x1,.as 38 (.v (.c (.int .u64 ((UInt8.toNat x1:Nat):Int)))),.as 39 (.v (.c (.int .u64 ((256*q1.u)+((UInt8.toNat x1:Nat):Int))))),.as 30 (.v (vI (q1.i-1))),.at 0,.keep [0,1,8,9],.sel []] (.next))) (.lJ () [])))))) (.sZ [.as 21 (.v (vI z3)),.call [] z7 []] (.br (.lJ () []) (.sZ [.as 26 (.v (vI (w-1))),.at 0,.keep [0,1,8,9],.sel []] (.loop z5 fun q1=> .br (.sZ [.as 32 (.v (.c (.int .u64 (256*q1.u)))),.as 36 (.v (vI (aJ+q1.i)))] (.intro (Sx (s[Int.toNat (aJ+q1.i)]?)) fun x1=> .sZ [.ch x1,.as 38 (.v (.c (.int .u64 ((UInt8.toNat x1:Nat):Int)))),.as 39 (.v (.c (.int .u64 ((256*q1.u)+((UInt8.toNat x1:Nat):Int))))),.as 30 (.v (vI (q1.i-1))),.at 0,.keep [0,1,8,9],.sel []] (.next))) (.lJ () []))))),Bc (!decide (w=4)) (Bc (!decide (w=8)) z6 ((wI z3)∧(Fp 44 [vI aJ,vI 0,vI z3] [] z7 [])∧Bc (!(Ak aJ 0 z3)) z6 ((wI (w-1))∧z5.Has [(0,.v (vT s)),(1,.v (vI aJ)),(8,.v (.c (.int .u64 0))),(9,.v (vI (w-1)))] []∧∀q1,z5.inv q1→(Bc (decide (0≤q1.i)) ((wU (256*q1.u))∧(wI (aJ+q1.i))∧El (s[Int.toNat (aJ+q1.i)]?) fun x1=>(let z1:=((UInt8.toNat x1:Nat):Int);(s[Int.toNat (aJ+q1.i)]? =some x1)∧((0:Int)≤aJ+q1.i)∧(wU (z1))∧(wU ((256*q1.u)+z1))∧(wI (q1.i-1))∧z5.Nxt q1 [(0,.v (vT s)),(1,.v (vI aJ)),(8,.v (.c (.int .u64 ((256*q1.u)+z1)))),(9,.v (vI (q1.i-1)))] [])) (Lf (.tup [.c (.int .u64 q1.u),vB true]) z4 [] []))))) ((wI z3)∧(Fp 44 [vI aJ,vI 0,vI z3] [] z7 [])∧Bc (!(Ak aJ 0 z3)) z6 ((wI (w-1))∧z5.Has [(0,.v (vT s)),(1,.v (vI aJ)),(8,.v (.c (.int .u64 0))),(9,.v (vI (w-1)))] []∧∀q1,z5.inv q1→(Bc (decide (0≤q1.i)) ((wU (256*q1.u))∧(wI (aJ+q1.i))∧El (s[Int.toNat (aJ+q1.i)]?) fun x1=>(let z2:=((UInt8.toNat x1:Nat):Int);(s[Int.toNat (aJ+q1.i)]? =some x1)∧((0:Int)≤aJ+q1.i)∧(wU (z2))∧(wU ((256*q1.u)+z2))∧(wI (q1.i-1))∧z5.Nxt q1 [(0,.v (vT s)),(1,.v (vI aJ)),(8,.v (.c (.int .u64 ((256*q1.u)+z2)))),(9,.v (vI (q1.i-1)))] [])) (Lf (.tup [.c (.int .u64 q1.u),vB true]) z4 [] [])))))) Q4 ?_
 refine⟨fun h1=>have q1:=Ao h1;have p1:=of_decide_eq_false q1;?_,fun h1=>have q1:=An h1;have p1:=of_decide_eq_true q1;?_⟩
 refine⟨fun h2=>have q2:=Ao h2;have p2:=of_decide_eq_false q2;?_,fun h2=>have q2:=An h2;have p2:=of_decide_eq_true q2;?_⟩
 exact⟨(congrArg S.tup (Ab (congrArg V.c (congrArg (C.int .u64) W5)) (Ab (congrArg V.c (congrArg C.bool W5)) rfl))),rfl⟩
 refine⟨(Ad Q2 Q2),(Bb _ _ _),fun h3=>have q3:=Ao h3;have p3:=A0 q3;?_,fun h3=>have q3:=An h3;have p3:=Av q3;?_⟩
 exact⟨(congrArg S.tup (Ab (congrArg V.c (congrArg (C.int .u64) W5)) (Ab (congrArg V.c (congrArg C.bool W5)) rfl))),rfl⟩
 refine⟨(Ad Q2 Q2),Bp (j:=(⟨0,w-1⟩:Hj)) rfl rfl (by dsimp only[Jv];exact⟨by omega,by omega,by simp[Cv]⟩),fun (q1:Hj) hq_q1=>?_⟩
 have hi_q1:(-1:Int)≤q1.i∧q1.i<w∧q1.u=((Cv (List.take (Int.toNat (w-1-q1.i)) (List.drop (Int.toNat (aJ+q1.i+1)) s)):Nat):Int):=hq_q1
 obtain ⟨v1,v2,v3⟩:=hi_q1
 have hw8:w=4∨w=8:=by omega
 have hlt:=Se (l:=List.take (Int.toNat (w-1-q1.i)) (List.drop (Int.toNat (aJ+q1.i+1)) s)) (k:=Int.toNat (w-1-q1.i)) (by rw[List.length_take];omega)
 have hu0:(0:Int)≤q1.u:=by rw[v3];exact Int.natCast_nonneg _
 refine dsp (fun h4 p4=>?_) fun h4 p4=>?_
 have hle:Cv (List.take (Int.toNat (w-1-q1.i)) (List.drop (Int.toNat (aJ+q1.i+1)) s))<2 ^ 56:=Nat.lt_of_lt_of_le hlt (Nat.pow_le_pow_right (by decide) (by omega))
 have hu1:q1.u<72057594037927936:=by rw[v3];omega
 refine⟨(Bu Q2 Q2),(Ad Q2 Q2),(Bo (l:=s) (i:=Int.toNat (aJ+q1.i)) Q2),fun x1 hx1=>?_⟩
 have hb_x1:=UInt8.toNat_lt x1
 exact⟨hx1,Q2,(Bu Q2 Q2),(Bu Q2 Q2),(Ad Q2 Q2),A6 (j:=(⟨(256*q1.u)+((UInt8.toNat x1:Nat):Int),q1.i-1⟩:Hj)) rfl rfl Q52 (by dsimp only[Jv];omega)⟩
 have hok:Em s aJ w=true:=by simp[Em,Ti,Ak];omega
 have hvw:q1.i= -1:=by omega
 rw[hvw] at v3
 have hr:q1.u=Ng s aJ w:=by rw[Ng,if_pos hok,v3,show Int.toNat (w-1- -1)=w.toNat by omega,show Int.toNat (aJ+ -1+1)=aJ.toNat by omega]
 exact⟨(congrArg S.tup (Ab (congrArg V.c (congrArg (C.int .u64) W5)) (Ab (congrArg V.c (congrArg C.bool W5)) rfl))),rfl⟩
 refine⟨(Ad Q2 Q2),(Bb _ _ _),fun h2=>have q2:=Ao h2;have p2:=A0 q2;?_,fun h2=>have q2:=An h2;have p2:=Av q2;?_⟩
 exact⟨(congrArg S.tup (Ab (congrArg V.c (congrArg (C.int .u64) W5)) (Ab (congrArg V.c (congrArg C.bool W5)) rfl))),rfl⟩
 refine⟨(Ad Q2 Q2),Bp (j:=(⟨0,w-1⟩:Hj)) rfl rfl (by dsimp only[Jv];exact⟨by omega,by omega,by simp[Cv]⟩),fun (q1:Hj) hq_q1=>?_⟩
 have hi_q1:(-1:Int)≤q1.i∧q1.i<w∧q1.u=((Cv (List.take (Int.toNat (w-1-q1.i)) (List.drop (Int.toNat (aJ+q1.i+1)) s)):Nat):Int):=hq_q1
 obtain ⟨v1,v2,v3⟩:=hi_q1
 have hw8:w=4∨w=8:=by omega
 have hlt:=Se (l:=List.take (Int.toNat (w-1-q1.i)) (List.drop (Int.toNat (aJ+q1.i+1)) s)) (k:=Int.toNat (w-1-q1.i)) (by rw[List.length_take];omega)
 have hu0:(0:Int)≤q1.u:=by rw[v3];exact Int.natCast_nonneg _
 refine dsp (fun h3 p3=>?_) fun h3 p3=>?_
 have hle:Cv (List.take (Int.toNat (w-1-q1.i)) (List.drop (Int.toNat (aJ+q1.i+1)) s))<2 ^ 56:=Nat.lt_of_lt_of_le hlt (Nat.pow_le_pow_right (by decide) (by omega))
 have hu1:q1.u<72057594037927936:=by rw[v3];omega
 refine⟨(Bu Q2 Q2),(Ad Q2 Q2),(Bo (l:=s) (i:=Int.toNat (aJ+q1.i)) Q2),fun x1 hx1=>?_⟩
 have hb_x1:=UInt8.toNat_lt x1
 exact⟨hx1,Q2,(Bu Q2 Q2),(Bu Q2 Q2),(Ad Q2 Q2),A6 (j:=(⟨(256*q1.u)+((UInt8.toNat x1:Nat):Int),q1.i-1⟩:Hj)) rfl rfl Q52 (by dsimp only[Jv];omega)⟩
 have hok:Em s aJ w=true:=by simp[Em,Ti,Ak];omega
 have hvw:q1.i= -1:=by omega
 rw[hvw] at v3
 have hr:q1.u=Ng s aJ w:=by rw[Ng,if_pos hok,v3,show Int.toNat (w-1- -1)=w.toNat by omega,show Int.toNat (aJ+ -1+1)=aJ.toNat by omega]
 exact⟨(congrArg S.tup (Ab (congrArg V.c (congrArg (C.int .u64) W5)) (Ab (congrArg V.c (congrArg C.bool W5)) rfl))),rfl⟩
theorem C5 (n:Int) (w:Int):Fun Tryz.prog 222 [vI n,vI w] [] (.v (.c (.int .u64 (Db n w)))) []:=by
 have hN:Bh=274877906944:=rfl
 refine Ar Tryz.func222 Q4 Q4 (w:=let z2:=(8*n)+w;let z3:=Ak n 1 536870911;let z4:S:= .v (.c (.int .u64 (Db n w)));let z1:=Lf (.v (.c (.int .u64 0))) z4 [] [];(.sZ [.call [] (.v (vB z3)) []] (.br (.lJ () []) (.sZ [.call [] (.v (vB (Ak w 0 7))) []] (.br (.lJ () []) (.sZ [.as 14 (.v (vI (8*n))),.as 16 (.v (vI z2)),.as 17 (.v (.c (.int .u64 z2)))] (.lJ () []))))),(Fp 44 [vI n,vI 1,vI 536870911] [] (.v (vB z3)) [])∧Bc (!z3) z1 ((Fp 44 [vI w,vI 0,vI 7] [] (.v (vB (Ak w 0 7))) [])∧Bc (!(Ak w 0 7)) z1 ((wI (8*n))∧(wI z2)∧(wU z2)∧Lf (.v (.c (.int .u64 z2))) z4 [] [])))) Q4 ?_
 refine⟨(Bb _ _ _),fun h1=>have q1:=Ao h1;have p1:=A0 q1;?_,fun h1=>have q1:=An h1;have p1:=Av q1;?_⟩
 exact⟨(congrArg S.v (congrArg V.c (congrArg (C.int .u64) (by simp[Db, *])))),rfl⟩
 refine⟨(Bb _ _ _),fun h2=>have q2:=Ao h2;have p2:=A0 q2;?_,fun h2=>have q2:=An h2;have p2:=Av q2;?_⟩
 exact⟨(congrArg S.v (congrArg V.c (congrArg (C.int .u64) (by simp[Db, *])))),rfl⟩
 exact⟨(Ad Q2 Q2),(Ad Q2 Q2),(Bu Q2 Q2),(congrArg S.v (congrArg V.c (congrArg (C.int .u64) (by simp[Db, *])))),rfl⟩
theorem Aqt (u:Int) (hp1:(0:Int)≤u∧u≤18446744073709551615):Fun Tryz.prog 216 [.c (.int .u64 u)] [] (.tup [vI (A8 u),vI (Ag u),vB (Nf u)]) []:=by
 have hN:Bh=274877906944:=rfl
 refine Ar Tryz.func216 Q4 Q4 (w:=let z1:S:= .tup [vI (A8 u),vI (Ag u),vB (Nf u)];let z2:=(.v (.c (.int .u64 (Int.fdiv u (2 ^ 3)))):S)= .v (.c (.int .u64 (u / 8)));let z3:=Lf (.tup [vI 0,vI 0,vB false]) z1 [] [];(.br (.lJ () []) (.sZ [.as 9 (.v (.c (.int .u64 (u / 8))))] (.br (.lJ () []) (.sZ [.as 13 (.v (.c (.int .u64 (u / 8)))),.as 14 (.v (vI (u / 8))),.as 16 (.v (.c (.int .u64 (u % 8)))),.as 17 (.v (vI (u % 8)))] (.lJ () [])))),Bc (decide (u<8)) z3 (((0:Int)≤3)∧z2∧Bc (decide (536870911<u / 8)) z3 (((0:Int)≤3)∧z2∧(wI (u / 8))∧((.v (.c (.int .u64 (IntKind.u64.wrap (((BitVec.ofInt 64 u&&&BitVec.ofInt 64 7).toNat:Nat))))):S)= .v (.c (.int .u64 (u % 8))))∧(wI (u % 8))∧Lf (.tup [vI (u / 8),vI (u % 8),vB true]) z1 [] [])))) Q4 ?_
 refine dsp (fun h1 p1=>?_) fun h1 p1=>?_
 exact⟨(congrArg S.tup (Ab (congrArg V.c (cI W6)) (Ab (congrArg V.c (cI W6)) (Ab (congrArg V.c (congrArg C.bool W6)) rfl)))),rfl⟩
 refine⟨Q27,(Aaf (k:=3) Q27 Q27),dsp (fun h2 p2=>?_) fun h2 p2=>?_⟩
 exact⟨(congrArg S.tup (Ab (congrArg V.c (cI W6)) (Ab (congrArg V.c (cI W6)) (Ab (congrArg V.c (congrArg C.bool W6)) rfl)))),rfl⟩
 exact⟨Q27,(Aaf (k:=3) Q27 Q27),(Ad Q2 Q2),(Aeo (k:=3) Q27 Q27),(Ad Q2 Q2),(congrArg S.tup (Ab (congrArg V.c (cI W6)) (Ab (congrArg V.c (cI W6)) (Ab (congrArg V.c (congrArg C.bool W6)) rfl)))),rfl⟩
theorem Aj1 (u:Int) (hp1:(0:Int)≤u∧u≤18446744073709551615):Fun Tryz.prog 191 [.c (.int .u64 u)] [] (.tup [vI (A8 u),vI (Ag u),vB (Nf u)]) []:=by
 have hN:Bh=274877906944:=rfl
 refine Ar Tryz.func191 Q4 Q4 (w:=let z1:S:= .tup [vI (A8 u),vI (Ag u),vB (Nf u)];let z2:=Lf (.tup [vI 0,vI 0,vB false]) z1 [] [];(.br (.lJ () []) (.br (.lJ () []) (.sZ [.as 12 (.v (.c (.int .u64 (u / 8)))),.as 13 (.v (vI (u / 8))),.as 15 (.v (.c (.int .u64 (u % 8)))),.as 16 (.v (vI (u % 8)))] (.lJ () []))),Bc (decide (u<8)) z2 (Bc (decide (4294967295<u)) z2 (((8:Int)≠0)∧((.v (.c (.int .u64 (IntKind.u64.wrap (Int.tdiv u 8)))):S)= .v (.c (.int .u64 (u / 8))))∧(wI (u / 8))∧((8:Int)≠0)∧((.v (.c (.int .u64 (Int.tmod u 8))):S)= .v (.c (.int .u64 (u % 8))))∧(wI (u % 8))∧Lf (.tup [vI (u / 8),vI (u % 8),vB true]) z1 [] [])))) Q4 ?_
 refine dsp (fun h1 p1=>?_) fun h1 p1=>?_
 exact⟨(congrArg S.tup (Ab (congrArg V.c (cI W6)) (Ab (congrArg V.c (cI W6)) (Ab (congrArg V.c (congrArg C.bool W6)) rfl)))),rfl⟩
 refine dsp (fun h2 p2=>?_) fun h2 p2=>?_
 exact⟨(congrArg S.tup (Ab (congrArg V.c (cI W6)) (Ab (congrArg V.c (cI W6)) (Ab (congrArg V.c (congrArg C.bool W6)) rfl)))),rfl⟩
 exact⟨Q27,(Yg Q2 Q2 Q27),(Ad Q2 Q2),Q27,(Vb Q2),(Ad Q2 Q2),(congrArg S.tup (Ab (congrArg V.c (cI W6)) (Ab (congrArg V.c (cI W6)) (Ab (congrArg V.c (congrArg C.bool W6)) rfl)))),rfl⟩
theorem Aj2 (c:Int) (a:Int):Fun Tryz.prog 111 [vI c,vI a] [] (.v (.agg (cEv (As c a)))) []:=by
 have hN:Bh=274877906944:=rfl
 refine Ar Tryz.func111 Q4 Q4 (w:=(.lJ () [],Lf (.v (.agg [.int .i64 10,.int .i64 0,.int .u64 0,.int .i64 0,.str [],.int .i64 c,.int .i64 a])) (.v (.agg (cEv (As c a)))) [] [])) Q4 ?_
 have hm1:As c a=(⟨10,0,0,0,[],c,a⟩:Ev):=by rfl
 exact⟨Q5,rfl⟩
theorem Dn (c:Int) (a:Int):Fun Tryz.prog 94 [vI c,vI a] [] (.v (.agg (cEv (As c a)))) []:=by
 have hN:Bh=274877906944:=rfl
 refine Ar Tryz.func94 Q4 Q4 (w:=(.lJ () [],Lf (.v (.agg [.int .i64 10,.int .i64 0,.int .u64 0,.int .i64 0,.str [],.int .i64 c,.int .i64 a])) (.v (.agg (cEv (As c a)))) [] [])) Q4 ?_
 have hm1:As c a=(⟨10,0,0,0,[],c,a⟩:Ev):=by rfl
 exact⟨Q5,rfl⟩
theorem Aao (f:Fld) (u:Int) (hp1:(0:Int)≤u):Fun Tryz.prog 215 [.agg (Fg f),.c (.int .u64 u)] [] (.v (.agg (cEv (Er f u)))) []:=by
 have hN:Bh=274877906944:=rfl
 refine Ar Tryz.func215 Q4 Q4 (w:=let zi:Int→C:= .int .i64;let z1:List C:=[zi 2,zi f.nJ,.int .u64 u,zi 0,.str [],zi 0,zi 0];let z2:=Lf (.v (.agg z1)) (.v (.agg (cEv (Er f u)))) [] [];(.br (.br (.lJ () []) (.lJ () [])) (.lJ () []),Bc (decide (f.kind=3)) (Bc (!decide (u=0)) (Lf (.v (.agg [zi 2,zi f.nJ,.int .u64 1,zi 0,.str [],zi 0,zi 0])) (.v (.agg (cEv (Er f u)))) [] []) z2) z2)) Q4 ?_
 refine dsp (fun h1 p1=>?_) fun h1 p1=>?_
 refine⟨fun h2=>have q2:=Ao h2;have p2:=of_decide_eq_false q2;?_,fun h2=>have q2:=An h2;have p2:=of_decide_eq_true q2;?_⟩
 exact zE (Er f u) (⟨2,f.nJ,1,0,[],0,0⟩:Ev) (fun hm1=>⟨Q5,rfl⟩) W7
 exact zE (Er f u) (⟨2,f.nJ,u,0,[],0,0⟩:Ev) (fun hm1=>⟨Q5,rfl⟩) W7
 exact zE (Er f u) (⟨2,f.nJ,u,0,[],0,0⟩:Ev) (fun hm1=>⟨Q5,rfl⟩) W7
theorem Ni (f:Fld) (u:Int) (hp1:(0:Int)≤u):Fun Tryz.prog 134 [.agg (Fg f),.c (.int .u64 u)] [] (.v (.agg (cEv (Er f u)))) []:=by
 have hN:Bh=274877906944:=rfl
 refine Ar Tryz.func134 Q4 Q4 (w:=let zi:Int→C:= .int .i64;let z1:List C:=[zi 2,zi f.nJ,.int .u64 u,zi 0,.str [],zi 0,zi 0];let z2:=Lf (.v (.agg z1)) (.v (.agg (cEv (Er f u)))) [] [];(.br (.br (.lJ () []) (.lJ () [])) (.lJ () []),Bc (decide (f.kind=3)) (Bc (decide (1<u)) (Lf (.v (.agg [zi 2,zi f.nJ,.int .u64 1,zi 0,.str [],zi 0,zi 0])) (.v (.agg (cEv (Er f u)))) [] []) z2) z2)) Q4 ?_
 refine dsp (fun h1 p1=>?_) fun h1 p1=>?_
 refine dsp (fun h2 p2=>?_) fun h2 p2=>?_
 exact zE (Er f u) (⟨2,f.nJ,1,0,[],0,0⟩:Ev) (fun hm1=>⟨Q5,rfl⟩) W7
 exact zE (Er f u) (⟨2,f.nJ,u,0,[],0,0⟩:Ev) (fun hm1=>⟨Q5,rfl⟩) W7
 exact zE (Er f u) (⟨2,f.nJ,u,0,[],0,0⟩:Ev) (fun hm1=>⟨Q5,rfl⟩) W7
theorem Aj3 (u:Utf):Fun Tryz.prog 103 [.agg (Pk u)] [] (.v (vB (Fe u))) []:=by
 have hN:Bh=274877906944:=rfl
 refine Ar Tryz.func103 Q4 Q4 (w:=let z1:=decide (u.low=128)&&decide (u.high=191);let z2:S:= .v (vB (Fe u));let z3:S:= .v (vB true);let z4:=decide (u.wK=2)&&(decide (u.low=160)&&decide (u.high=191));let z5:=decide (u.wK=2)&&(decide (u.low=128)&&decide (u.high=159));let z6:=decide (u.wK=3)&&(decide (u.low=144)&&decide (u.high=191));let z7:=decide (u.wK=0)&&(decide (u.low=0)&&decide (u.high=0));(.br (.sZ [.br true] (.lJ () [])) (.br (.sZ [.br true] (.lJ () [])) (.br (.sZ [.br true] (.lJ () [])) (.br (.sZ [.br true] (.lJ () [])) (.br (.sZ [.br true] (.lJ () [])) (.br (.sZ [.br true] (.lJ () [])) (.br (.sZ [.br true] (.lJ () [])) (.br (.lJ () []) (.lJ () [])))))))),Bc z7 ((z7=true)∧Lf z3 z2 [] []) (Bc (decide (u.wK=1)&&z1) (((decide (u.wK=1)&&z1)=true)∧Lf z3 z2 [] []) (Bc (decide (u.wK=2)&&z1) (((decide (u.wK=2)&&z1)=true)∧Lf z3 z2 [] []) (Bc (decide (u.wK=3)&&z1) (((decide (u.wK=3)&&z1)=true)∧Lf z3 z2 [] []) (Bc z4 ((z4=true)∧Lf z3 z2 [] []) (Bc z5 ((z5=true)∧Lf z3 z2 [] []) (Bc z6 ((z6=true)∧Lf z3 z2 [] []) (Bc (decide (u.wK=3)&&(decide (u.low=128)&&decide (u.high=143))) (Lf z3 z2 [] []) (Lf (.v (vB false)) z2 [] [])))))))))) Q4 ?_
 refine⟨fun h1=>have p1:=(C9 dT (C9 dT dT)).1 h1;?_,fun h1=>have p1:=(Da dT (Da dT dF)).1 h1;?_⟩
 exact⟨h1,(sB W8),rfl⟩
 refine⟨fun h2=>have p2:=(C9 dT (C9 dT dT)).1 h2;?_,fun h2=>have p2:=(Da dT (Da dT dF)).1 h2;?_⟩
 exact⟨h2,(sB W8),rfl⟩
 refine⟨fun h3=>have p3:=(C9 dT (C9 dT dT)).1 h3;?_,fun h3=>have p3:=(Da dT (Da dT dF)).1 h3;?_⟩
 exact⟨h3,(sB W8),rfl⟩
 refine⟨fun h4=>have p4:=(C9 dT (C9 dT dT)).1 h4;?_,fun h4=>have p4:=(Da dT (Da dT dF)).1 h4;?_⟩
 exact⟨h4,(sB W8),rfl⟩
 refine⟨fun h5=>have p5:=(C9 dT (C9 dT dT)).1 h5;?_,fun h5=>have p5:=(Da dT (Da dT dF)).1 h5;?_⟩
 exact⟨h5,(sB W8),rfl⟩
 refine⟨fun h6=>have p6:=(C9 dT (C9 dT dT)).1 h6;?_,fun h6=>have p6:=(Da dT (Da dT dF)).1 h6;?_⟩
 exact⟨h6,(sB W8),rfl⟩
 refine⟨fun h7=>have p7:=(C9 dT (C9 dT dT)).1 h7;?_,fun h7=>have p7:=(Da dT (Da dT dF)).1 h7;?_⟩
 exact⟨h7,(sB W8),rfl⟩
 refine⟨fun h8=>have p8:=(C9 dT (C9 dT dT)).1 h8;?_,fun h8=>have p8:=(Da dT (Da dT dF)).1 h8;?_⟩
 exact⟨(sB W8),rfl⟩
 exact⟨(sB W8),rfl⟩
theorem Aj4 (u:Utf):Fun Tryz.prog 121 [.agg (Pk u)] [] (.v (vB (Fe u))) []:=by
 have hN:Bh=274877906944:=rfl
 refine Ar Tryz.func121 Q4 Q4 (w:=let z2:S:= .v (vB (Fe u));let z3:=decide (u.low=128);let z1:=(z3=false)∧Lf (.v (vB false)) z2 [] [];let z4:=decide (u.high=191);let z5:S:= .v (vB (Ak u.wK 1 3));let z6:=Lf (.v (vB true)) z2 [] [];let z7:S:= .v (vB (decide (u.high=159)));let z8:S:= .v (vB (decide (u.high=143)));(.br (.lJ () []) (.br (.br (.sZ [.call [] z5 []] (.lJ () [])) (.br (.br (.sZ [.br false,.br true] (.lJ () [])) (.sZ [.br true] (.lJ () []))) (.br (.br (.sZ [.br false,.br true] (.lJ () [])) (.sZ [.br true] (.lJ () []))) (.lJ () [])))) (.br (.br (.br (.lJ () []) (.sZ [.br false] (.lJ () []))) (.sZ [.br false] (.lJ () []))) (.br (.br (.br (.lJ () []) (.sZ [.br false] (.lJ () []))) (.sZ [.br false] (.lJ () []))) (.lJ () [])))),Bc (decide (u.wK=0)&&(decide (u.low=0)&&decide (u.high=0))) z6 (Bc z3 (Bc z4 ((Fp 44 [vI u.wK,vI 1,vI 3] [] z5 [])∧Lf z5 z2 [] []) (Bc (decide (u.wK=2)) (Bc (decide (u.low=160)) ((z4=false)∧(z3=true)∧Lf z7 z2 [] []) ((z3=true)∧Lf z7 z2 [] [])) (Bc (decide (u.wK=3)) (Bc (decide (u.low=144)) ((z4=false)∧(z3=true)∧Lf z8 z2 [] []) ((z3=true)∧Lf z8 z2 [] [])) (Lf (.v (vB false)) z2 [] [])))) (Bc (decide (u.wK=2)) (Bc (decide (u.low=160)) (Bc z4 z6 z1) z1) (Bc (decide (u.wK=3)) (Bc (decide (u.low=144)) (Bc z4 z6 z1) z1) (Lf (.v (vB false)) z2 [] [])))))) Q4 ?_
 refine⟨fun h1=>have p1:=(C9 dT (C9 dT dT)).1 h1;?_,fun h1=>have p1:=(Da dT (Da dT dF)).1 h1;?_⟩
 exact⟨(sB W8),rfl⟩
 refine dsp (fun h2 p2=>?_) fun h2 p2=>?_
 refine dsp (fun h3 p3=>?_) fun h3 p3=>?_
 exact⟨(Bb _ _ _),(sB W8),rfl⟩
 refine dsp (fun h4 p4=>?_) fun h4 p4=>?_
 refine dsp (fun h5 p5=>?_) fun h5 p5=>?_
 exact⟨h3,h2,(sB W8),rfl⟩
 exact⟨h2,(sB W8),rfl⟩
 refine dsp (fun h5 p5=>?_) fun h5 p5=>?_
 refine dsp (fun h6 p6=>?_) fun h6 p6=>?_
 exact⟨h3,h2,(sB W8),rfl⟩
 exact⟨h2,(sB W8),rfl⟩
 exact⟨(sB W8),rfl⟩
 refine dsp (fun h3 p3=>?_) fun h3 p3=>?_
 refine dsp (fun h4 p4=>?_) fun h4 p4=>?_
 refine dsp (fun h5 p5=>?_) fun h5 p5=>?_
 exact⟨(sB W8),rfl⟩
 exact⟨h2,(sB W8),rfl⟩
 exact⟨h2,(sB W8),rfl⟩
 refine dsp (fun h4 p4=>?_) fun h4 p4=>?_
 refine dsp (fun h5 p5=>?_) fun h5 p5=>?_
 refine dsp (fun h6 p6=>?_) fun h6 p6=>?_
 exact⟨(sB W8),rfl⟩
 exact⟨h2,(sB W8),rfl⟩
 exact⟨h2,(sB W8),rfl⟩
 exact⟨(sB W8),rfl⟩
theorem Ahc (b:Int):Fun Tryz.prog 214 [vI b] [] (.tup [.agg (Pk ((Bk b).getD utf0)),vB (Bk b).isSome]) []:=by
 have hN:Bh=274877906944:=rfl
 refine Ar Tryz.func214 Q4 Q4 (w:=let zi:Int→C:= .int .i64;let z1:S:= .tup [.agg (Pk ((Bk b).getD utf0)),vB (Bk b).isSome];let z2:=Ak b 194 223;let z3:=Ak b 224 239;let z4:=Ak b 240 244;let z5:=decide (b=224);let z6:=decide (b=237);let z7:=decide (b=240);let z8:=decide (b=244);(.sZ [.call [] (.v (vB (Ak b 0 127))) []] (.br (.lJ () []) (.sZ [.call [] (.v (vB z2)) []] (.br (.br (.lJ () []) (.br (.lJ () []) (.br (.lJ () []) (.br (.lJ () []) (.lJ () []))))) (.sZ [.call [] (.v (vB z3)) []] (.br (.br (.lJ () []) (.br (.lJ () []) (.br (.lJ () []) (.br (.lJ () []) (.lJ () []))))) (.sZ [.call [] (.v (vB z4)) []] (.br (.br (.lJ () []) (.br (.lJ () []) (.br (.lJ () []) (.br (.lJ () []) (.lJ () []))))) (.lJ () [])))))))),(Fp 97 [vI b,vI 0,vI 127] [] (.v (vB (Ak b 0 127))) [])∧Bc (Ak b 0 127) (Lf (.tup [.agg [zi 0,zi 0,zi 0],vB true]) z1 [] []) ((Fp 97 [vI b,vI 194,vI 223] [] (.v (vB z2)) [])∧Bc z2 (Bc z5 (Lf (.tup [.agg [zi 1,zi 160,zi 191],vB true]) z1 [] []) (Bc z6 (Lf (.tup [.agg [zi 1,zi 128,zi 159],vB true]) z1 [] []) (Bc z7 (Lf (.tup [.agg [zi 1,zi 144,zi 191],vB true]) z1 [] []) (Bc z8 (Lf (.tup [.agg [zi 1,zi 128,zi 143],vB true]) z1 [] []) (Lf (.tup [.agg [zi 1,zi 128,zi 191],vB true]) z1 [] []))))) ((Fp 97 [vI b,vI 224,vI 239] [] (.v (vB z3)) [])∧Bc z3 (Bc z5 (Lf (.tup [.agg [zi 2,zi 160,zi 191],vB true]) z1 [] []) (Bc z6 (Lf (.tup [.agg [zi 2,zi 128,zi 159],vB true]) z1 [] []) (Bc z7 (Lf (.tup [.agg [zi 2,zi 144,zi 191],vB true]) z1 [] []) (Bc z8 (Lf (.tup [.agg [zi 2,zi 128,zi 143],vB true]) z1 [] []) (Lf (.tup [.agg [zi 2,zi 128,zi 191],vB true]) z1 [] []))))) ((Fp 97 [vI b,vI 240,vI 244] [] (.v (vB z4)) [])∧Bc z4 (Bc z5 (Lf (.tup [.agg [zi 3,zi 160,zi 191],vB true]) z1 [] []) (Bc z6 (Lf (.tup [.agg [zi 3,zi 128,zi 159],vB true]) z1 [] []) (Bc z7 (Lf (.tup [.agg [zi 3,zi 144,zi 191],vB true]) z1 [] []) (Bc z8 (Lf (.tup [.agg [zi 3,zi 128,zi 143],vB true]) z1 [] []) (Lf (.tup [.agg [zi 3,zi 128,zi 191],vB true]) z1 [] []))))) (Lf (.tup [.agg [zi 0,zi 0,zi 0],vB false]) z1 [] [])))))) Q4 ?_
 refine⟨(Cr _ _ _),fun h1=>have p1:=Av h1;?_,fun h1=>have p1:=A0 h1;?_⟩
 exact zE ((Bk b).getD utf0) utf0 (fun hm1=>⟨(congrArg S.tup (Ab (congrArg V.agg (Ab (cI W9) (Ab (cI W9) (Ab (cI W9) rfl)))) (Ab (congrArg V.c (congrArg C.bool W9)) rfl))),rfl⟩) W9
 refine⟨(Cr _ _ _),fun h2=>have p2:=Av h2;?_,fun h2=>have p2:=A0 h2;?_⟩
 refine dsp (fun h3 p3=>?_) fun h3 p3=>?_
 exact zE ((Bk b).getD utf0) (⟨1,160,191⟩:Utf) (fun hm1=>⟨(congrArg S.tup (Ab (congrArg V.agg (Ab (cI W9) (Ab (cI W9) (Ab (cI W9) rfl)))) (Ab (congrArg V.c (congrArg C.bool W9)) rfl))),rfl⟩) W9
 refine dsp (fun h4 p4=>?_) fun h4 p4=>?_
 exact zE ((Bk b).getD utf0) (⟨1,128,159⟩:Utf) (fun hm1=>⟨(congrArg S.tup (Ab (congrArg V.agg (Ab (cI W9) (Ab (cI W9) (Ab (cI W9) rfl)))) (Ab (congrArg V.c (congrArg C.bool W9)) rfl))),rfl⟩) W9
 refine dsp (fun h5 p5=>?_) fun h5 p5=>?_
 exact zE ((Bk b).getD utf0) (⟨1,144,191⟩:Utf) (fun hm1=>⟨(congrArg S.tup (Ab (congrArg V.agg (Ab (cI W9) (Ab (cI W9) (Ab (cI W9) rfl)))) (Ab (congrArg V.c (congrArg C.bool W9)) rfl))),rfl⟩) W9
 refine dsp (fun h6 p6=>?_) fun h6 p6=>?_
 exact zE ((Bk b).getD utf0) (⟨1,128,143⟩:Utf) (fun hm1=>⟨(congrArg S.tup (Ab (congrArg V.agg (Ab (cI W9) (Ab (cI W9) (Ab (cI W9) rfl)))) (Ab (congrArg V.c (congrArg C.bool W9)) rfl))),rfl⟩) W9
 exact zE ((Bk b).getD utf0) (⟨1,128,191⟩:Utf) (fun hm1=>⟨(congrArg S.tup (Ab (congrArg V.agg (Ab (cI W9) (Ab (cI W9) (Ab (cI W9) rfl)))) (Ab (congrArg V.c (congrArg C.bool W9)) rfl))),rfl⟩) W9
 refine⟨(Cr _ _ _),fun h3=>have p3:=Av h3;?_,fun h3=>have p3:=A0 h3;?_⟩
 refine dsp (fun h4 p4=>?_) fun h4 p4=>?_
 exact zE ((Bk b).getD utf0) (⟨2,160,191⟩:Utf) (fun hm1=>⟨(congrArg S.tup (Ab (congrArg V.agg (Ab (cI W9) (Ab (cI W9) (Ab (cI W9) rfl)))) (Ab (congrArg V.c (congrArg C.bool W9)) rfl))),rfl⟩) W9
 refine dsp (fun h5 p5=>?_) fun h5 p5=>?_
 exact zE ((Bk b).getD utf0) (⟨2,128,159⟩:Utf) (fun hm1=>⟨(congrArg S.tup (Ab (congrArg V.agg (Ab (cI W9) (Ab (cI W9) (Ab (cI W9) rfl)))) (Ab (congrArg V.c (congrArg C.bool W9)) rfl))),rfl⟩) W9
 refine dsp (fun h6 p6=>?_) fun h6 p6=>?_
 exact zE ((Bk b).getD utf0) (⟨2,144,191⟩:Utf) (fun hm1=>⟨(congrArg S.tup (Ab (congrArg V.agg (Ab (cI W9) (Ab (cI W9) (Ab (cI W9) rfl)))) (Ab (congrArg V.c (congrArg C.bool W9)) rfl))),rfl⟩) W9
 refine dsp (fun h7 p7=>?_) fun h7 p7=>?_
 exact zE ((Bk b).getD utf0) (⟨2,128,143⟩:Utf) (fun hm1=>⟨(congrArg S.tup (Ab (congrArg V.agg (Ab (cI W9) (Ab (cI W9) (Ab (cI W9) rfl)))) (Ab (congrArg V.c (congrArg C.bool W9)) rfl))),rfl⟩) W9
 exact zE ((Bk b).getD utf0) (⟨2,128,191⟩:Utf) (fun hm1=>⟨(congrArg S.tup (Ab (congrArg V.agg (Ab (cI W9) (Ab (cI W9) (Ab (cI W9) rfl)))) (Ab (congrArg V.c (congrArg C.bool W9)) rfl))),rfl⟩) W9
 refine⟨(Cr _ _ _),fun h4=>have p4:=Av h4;?_,fun h4=>have p4:=A0 h4;?_⟩
 refine dsp (fun h5 p5=>?_) fun h5 p5=>?_
 exact zE ((Bk b).getD utf0) (⟨3,160,191⟩:Utf) (fun hm1=>⟨(congrArg S.tup (Ab (congrArg V.agg (Ab (cI W9) (Ab (cI W9) (Ab (cI W9) rfl)))) (Ab (congrArg V.c (congrArg C.bool W9)) rfl))),rfl⟩) W9
 refine dsp (fun h6 p6=>?_) fun h6 p6=>?_
 exact zE ((Bk b).getD utf0) (⟨3,128,159⟩:Utf) (fun hm1=>⟨(congrArg S.tup (Ab (congrArg V.agg (Ab (cI W9) (Ab (cI W9) (Ab (cI W9) rfl)))) (Ab (congrArg V.c (congrArg C.bool W9)) rfl))),rfl⟩) W9
 refine dsp (fun h7 p7=>?_) fun h7 p7=>?_
 exact zE ((Bk b).getD utf0) (⟨3,144,191⟩:Utf) (fun hm1=>⟨(congrArg S.tup (Ab (congrArg V.agg (Ab (cI W9) (Ab (cI W9) (Ab (cI W9) rfl)))) (Ab (congrArg V.c (congrArg C.bool W9)) rfl))),rfl⟩) W9
 refine dsp (fun h8 p8=>?_) fun h8 p8=>?_
 exact zE ((Bk b).getD utf0) (⟨3,128,143⟩:Utf) (fun hm1=>⟨(congrArg S.tup (Ab (congrArg V.agg (Ab (cI W9) (Ab (cI W9) (Ab (cI W9) rfl)))) (Ab (congrArg V.c (congrArg C.bool W9)) rfl))),rfl⟩) W9
 exact zE ((Bk b).getD utf0) (⟨3,128,191⟩:Utf) (fun hm1=>⟨(congrArg S.tup (Ab (congrArg V.agg (Ab (cI W9) (Ab (cI W9) (Ab (cI W9) rfl)))) (Ab (congrArg V.c (congrArg C.bool W9)) rfl))),rfl⟩) W9
 exact zE ((Bk b).getD utf0) utf0 (fun hm1=>⟨(congrArg S.tup (Ab (congrArg V.agg (Ab (cI W9) (Ab (cI W9) (Ab (cI W9) rfl)))) (Ab (congrArg V.c (congrArg C.bool W9)) rfl))),rfl⟩) W9
theorem Ahd (b:Int):Fun Tryz.prog 132 [vI b] [] (.tup [.agg (Pk ((Bk b).getD utf0)),vB (Bk b).isSome]) []:=by
 have hN:Bh=274877906944:=rfl
 refine Ar Tryz.func132 Q4 Q4 (w:=let zi:Int→C:= .int .i64;let z1:S:= .tup [.agg (Pk ((Bk b).getD utf0)),vB (Bk b).isSome];let z2:=Ak b 194 223;let z3:=Ak b 224 239;let z4:=Ak b 240 244;let z5:=decide (b=224);let z6:=decide (b=237);let z7:=decide (b=240);let z8:=decide (b=244);(.sZ [.call [] (.v (vB (Ak b 0 127))) []] (.br (.lJ () []) (.sZ [.call [] (.v (vB z2)) []] (.br (.br (.lJ () []) (.br (.lJ () []) (.br (.lJ () []) (.br (.lJ () []) (.lJ () []))))) (.sZ [.call [] (.v (vB z3)) []] (.br (.br (.lJ () []) (.br (.lJ () []) (.br (.lJ () []) (.br (.lJ () []) (.lJ () []))))) (.sZ [.call [] (.v (vB z4)) []] (.br (.br (.lJ () []) (.br (.lJ () []) (.br (.lJ () []) (.br (.lJ () []) (.lJ () []))))) (.lJ () [])))))))),(Fp 44 [vI b,vI 0,vI 127] [] (.v (vB (Ak b 0 127))) [])∧Bc (Ak b 0 127) (Lf (.tup [.agg [zi 0,zi 0,zi 0],vB true]) z1 [] []) ((Fp 44 [vI b,vI 194,vI 223] [] (.v (vB z2)) [])∧Bc z2 (Bc z5 (Lf (.tup [.agg [zi 1,zi 160,zi 191],vB true]) z1 [] []) (Bc z6 (Lf (.tup [.agg [zi 1,zi 128,zi 159],vB true]) z1 [] []) (Bc z7 (Lf (.tup [.agg [zi 1,zi 144,zi 191],vB true]) z1 [] []) (Bc z8 (Lf (.tup [.agg [zi 1,zi 128,zi 143],vB true]) z1 [] []) (Lf (.tup [.agg [zi 1,zi 128,zi 191],vB true]) z1 [] []))))) ((Fp 44 [vI b,vI 224,vI 239] [] (.v (vB z3)) [])∧Bc z3 (Bc z5 (Lf (.tup [.agg [zi 2,zi 160,zi 191],vB true]) z1 [] []) (Bc z6 (Lf (.tup [.agg [zi 2,zi 128,zi 159],vB true]) z1 [] []) (Bc z7 (Lf (.tup [.agg [zi 2,zi 144,zi 191],vB true]) z1 [] []) (Bc z8 (Lf (.tup [.agg [zi 2,zi 128,zi 143],vB true]) z1 [] []) (Lf (.tup [.agg [zi 2,zi 128,zi 191],vB true]) z1 [] []))))) ((Fp 44 [vI b,vI 240,vI 244] [] (.v (vB z4)) [])∧Bc z4 (Bc z5 (Lf (.tup [.agg [zi 3,zi 160,zi 191],vB true]) z1 [] []) (Bc z6 (Lf (.tup [.agg [zi 3,zi 128,zi 159],vB true]) z1 [] []) (Bc z7 (Lf (.tup [.agg [zi 3,zi 144,zi 191],vB true]) z1 [] []) (Bc z8 (Lf (.tup [.agg [zi 3,zi 128,zi 143],vB true]) z1 [] []) (Lf (.tup [.agg [zi 3,zi 128,zi 191],vB true]) z1 [] []))))) (Lf (.tup [.agg [zi 0,zi 0,zi 0],vB false]) z1 [] [])))))) Q4 ?_
 refine⟨(Bb _ _ _),fun h1=>have p1:=Av h1;?_,fun h1=>have p1:=A0 h1;?_⟩
 exact zE ((Bk b).getD utf0) utf0 (fun hm1=>⟨(congrArg S.tup (Ab (congrArg V.agg (Ab (cI W9) (Ab (cI W9) (Ab (cI W9) rfl)))) (Ab (congrArg V.c (congrArg C.bool W9)) rfl))),rfl⟩) W9
 refine⟨(Bb _ _ _),fun h2=>have p2:=Av h2;?_,fun h2=>have p2:=A0 h2;?_⟩
 refine dsp (fun h3 p3=>?_) fun h3 p3=>?_
 exact zE ((Bk b).getD utf0) (⟨1,160,191⟩:Utf) (fun hm1=>⟨(congrArg S.tup (Ab (congrArg V.agg (Ab (cI W9) (Ab (cI W9) (Ab (cI W9) rfl)))) (Ab (congrArg V.c (congrArg C.bool W9)) rfl))),rfl⟩) W9
 refine dsp (fun h4 p4=>?_) fun h4 p4=>?_
 exact zE ((Bk b).getD utf0) (⟨1,128,159⟩:Utf) (fun hm1=>⟨(congrArg S.tup (Ab (congrArg V.agg (Ab (cI W9) (Ab (cI W9) (Ab (cI W9) rfl)))) (Ab (congrArg V.c (congrArg C.bool W9)) rfl))),rfl⟩) W9
 refine dsp (fun h5 p5=>?_) fun h5 p5=>?_
 exact zE ((Bk b).getD utf0) (⟨1,144,191⟩:Utf) (fun hm1=>⟨(congrArg S.tup (Ab (congrArg V.agg (Ab (cI W9) (Ab (cI W9) (Ab (cI W9) rfl)))) (Ab (congrArg V.c (congrArg C.bool W9)) rfl))),rfl⟩) W9
 refine dsp (fun h6 p6=>?_) fun h6 p6=>?_
 exact zE ((Bk b).getD utf0) (⟨1,128,143⟩:Utf) (fun hm1=>⟨(congrArg S.tup (Ab (congrArg V.agg (Ab (cI W9) (Ab (cI W9) (Ab (cI W9) rfl)))) (Ab (congrArg V.c (congrArg C.bool W9)) rfl))),rfl⟩) W9
 exact zE ((Bk b).getD utf0) (⟨1,128,191⟩:Utf) (fun hm1=>⟨(congrArg S.tup (Ab (congrArg V.agg (Ab (cI W9) (Ab (cI W9) (Ab (cI W9) rfl)))) (Ab (congrArg V.c (congrArg C.bool W9)) rfl))),rfl⟩) W9
 refine⟨(Bb _ _ _),fun h3=>have p3:=Av h3;?_,fun h3=>have p3:=A0 h3;?_⟩
 refine dsp (fun h4 p4=>?_) fun h4 p4=>?_
 exact zE ((Bk b).getD utf0) (⟨2,160,191⟩:Utf) (fun hm1=>⟨(congrArg S.tup (Ab (congrArg V.agg (Ab (cI W9) (Ab (cI W9) (Ab (cI W9) rfl)))) (Ab (congrArg V.c (congrArg C.bool W9)) rfl))),rfl⟩) W9
 refine dsp (fun h5 p5=>?_) fun h5 p5=>?_
 exact zE ((Bk b).getD utf0) (⟨2,128,159⟩:Utf) (fun hm1=>⟨(congrArg S.tup (Ab (congrArg V.agg (Ab (cI W9) (Ab (cI W9) (Ab (cI W9) rfl)))) (Ab (congrArg V.c (congrArg C.bool W9)) rfl))),rfl⟩) W9
 refine dsp (fun h6 p6=>?_) fun h6 p6=>?_
 exact zE ((Bk b).getD utf0) (⟨2,144,191⟩:Utf) (fun hm1=>⟨(congrArg S.tup (Ab (congrArg V.agg (Ab (cI W9) (Ab (cI W9) (Ab (cI W9) rfl)))) (Ab (congrArg V.c (congrArg C.bool W9)) rfl))),rfl⟩) W9
 refine dsp (fun h7 p7=>?_) fun h7 p7=>?_
 exact zE ((Bk b).getD utf0) (⟨2,128,143⟩:Utf) (fun hm1=>⟨(congrArg S.tup (Ab (congrArg V.agg (Ab (cI W9) (Ab (cI W9) (Ab (cI W9) rfl)))) (Ab (congrArg V.c (congrArg C.bool W9)) rfl))),rfl⟩) W9
 exact zE ((Bk b).getD utf0) (⟨2,128,191⟩:Utf) (fun hm1=>⟨(congrArg S.tup (Ab (congrArg V.agg (Ab (cI W9) (Ab (cI W9) (Ab (cI W9) rfl)))) (Ab (congrArg V.c (congrArg C.bool W9)) rfl))),rfl⟩) W9
 refine⟨(Bb _ _ _),fun h4=>have p4:=Av h4;?_,fun h4=>have p4:=A0 h4;?_⟩
 refine dsp (fun h5 p5=>?_) fun h5 p5=>?_
 exact zE ((Bk b).getD utf0) (⟨3,160,191⟩:Utf) (fun hm1=>⟨(congrArg S.tup (Ab (congrArg V.agg (Ab (cI W9) (Ab (cI W9) (Ab (cI W9) rfl)))) (Ab (congrArg V.c (congrArg C.bool W9)) rfl))),rfl⟩) W9
 refine dsp (fun h6 p6=>?_) fun h6 p6=>?_
 exact zE ((Bk b).getD utf0) (⟨3,128,159⟩:Utf) (fun hm1=>⟨(congrArg S.tup (Ab (congrArg V.agg (Ab (cI W9) (Ab (cI W9) (Ab (cI W9) rfl)))) (Ab (congrArg V.c (congrArg C.bool W9)) rfl))),rfl⟩) W9
 refine dsp (fun h7 p7=>?_) fun h7 p7=>?_
 exact zE ((Bk b).getD utf0) (⟨3,144,191⟩:Utf) (fun hm1=>⟨(congrArg S.tup (Ab (congrArg V.agg (Ab (cI W9) (Ab (cI W9) (Ab (cI W9) rfl)))) (Ab (congrArg V.c (congrArg C.bool W9)) rfl))),rfl⟩) W9
 refine dsp (fun h8 p8=>?_) fun h8 p8=>?_
 exact zE ((Bk b).getD utf0) (⟨3,128,143⟩:Utf) (fun hm1=>⟨(congrArg S.tup (Ab (congrArg V.agg (Ab (cI W9) (Ab (cI W9) (Ab (cI W9) rfl)))) (Ab (congrArg V.c (congrArg C.bool W9)) rfl))),rfl⟩) W9
 exact zE ((Bk b).getD utf0) (⟨3,128,191⟩:Utf) (fun hm1=>⟨(congrArg S.tup (Ab (congrArg V.agg (Ab (cI W9) (Ab (cI W9) (Ab (cI W9) rfl)))) (Ab (congrArg V.c (congrArg C.bool W9)) rfl))),rfl⟩) W9
 exact zE ((Bk b).getD utf0) utf0 (fun hm1=>⟨(congrArg S.tup (Ab (congrArg V.agg (Ab (cI W9) (Ab (cI W9) (Ab (cI W9) rfl)))) (Ab (congrArg V.c (congrArg C.bool W9)) rfl))),rfl⟩) W9
theorem Aj5 (u:Utf) (b:Int):Fun Tryz.prog 179 [.agg (Pk u),vI b] [] (.tup [.agg (Pk ((B8 u b).getD u)),vB (B8 u b).isSome]) []:=by
 have hN:Bh=274877906944:=rfl
 refine Ar Tryz.func179 Q4 Q4 (w:=let z1:S:= .tup [.agg (Pk ((B8 u b).getD u)),vB (B8 u b).isSome];let z2:=Lf (.tup [.agg (Pk u),vB false]) z1 [] [];let z3:S:= .tup [.agg (Pk ((Bk b).getD utf0)),vB (Bk b).isSome];let z4:=Ak b u.low u.high;(.sZ [.call [] (.v (vB (Fe u))) []] (.br (.lJ () []) (.br (.sZ [.call [] z3 []] (.br (.lJ () []) (.lJ () []))) (.sZ [.call [] (.v (vB z4)) []] (.br (.lJ () []) (.br (.lJ () []) (.sZ [.as 42 (.v (vI (u.wK-1)))] (.lJ () []))))))),(Fp 103 [.agg (Pk u)] [] (.v (vB (Fe u))) [])∧Bc (!(Fe u)) z2 (Bc (decide (u.wK=0)) ((Fp 214 [vI b] [] z3 [])∧Bc (!(Bk b).isSome) z2 (Lf (.tup [.agg (Pk ((Bk b).getD utf0)),vB true]) z1 [] [])) ((Fp 97 [vI b,vI u.low,vI u.high] [] (.v (vB z4)) [])∧Bc (!z4) z2 (Bc (decide (u.wK=1)) (Lf (.tup [.agg [.int .i64 0,.int .i64 0,.int .i64 0],vB true]) z1 [] []) ((wI (u.wK-1))∧Lf (.tup [.agg [.int .i64 (u.wK-1),.int .i64 128,.int .i64 191],vB true]) z1 [] [])))))) Q4 ?_
 refine⟨(Aj3 u),fun h1=>have q1:=Ao h1;?_,fun h1=>have q1:=An h1;have p1:=Jt q1;?_⟩
 exact zE ((B8 u b).getD u) u (fun hm1=>⟨(congrArg S.tup (Ab (congrArg V.agg (Ab (cI W10) (Ab (cI W10) (Ab (cI W10) rfl)))) (Ab (congrArg V.c (congrArg C.bool W10)) rfl))),rfl⟩) W10
 refine dsp (fun h2 p2=>?_) fun h2 p2=>?_
 have hu:=Ve q1 p2
 refine⟨(Ahc _),fun h3=>have q3:=Ao h3;?_,fun h3=>have q3:=An h3;?_⟩
 exact zE ((B8 u b).getD u) u (fun hm1=>⟨(congrArg S.tup (Ab (congrArg V.agg (Ab (cI W10) (Ab (cI W10) (Ab (cI W10) rfl)))) (Ab (congrArg V.c (congrArg C.bool W10)) rfl))),rfl⟩) W10
 exact zE ((B8 u b).getD u) ((Bk b).getD utf0) (fun hm1=>⟨(congrArg S.tup (Ab (congrArg V.agg (Ab (cI W10) (Ab (cI W10) (Ab (cI W10) rfl)))) (Ab (congrArg V.c (congrArg C.bool W10)) rfl))),rfl⟩) W10
 refine⟨(Cr _ _ _),fun h3=>have q3:=Ao h3;have p3:=A0 q3;?_,fun h3=>have q3:=An h3;have p3:=Av q3;?_⟩
 exact zE ((B8 u b).getD u) u (fun hm1=>⟨(congrArg S.tup (Ab (congrArg V.agg (Ab (cI W10) (Ab (cI W10) (Ab (cI W10) rfl)))) (Ab (congrArg V.c (congrArg C.bool W10)) rfl))),rfl⟩) W10
 refine dsp (fun h4 p4=>?_) fun h4 p4=>?_
 exact zE ((B8 u b).getD u) utf0 (fun hm1=>⟨(congrArg S.tup (Ab (congrArg V.agg (Ab (cI W10) (Ab (cI W10) (Ab (cI W10) rfl)))) (Ab (congrArg V.c (congrArg C.bool W10)) rfl))),rfl⟩) W10
 exact zE ((B8 u b).getD u) (⟨u.wK-1,128,191⟩:Utf) (fun hm1=>⟨(Ad Q2 Q2),(congrArg S.tup (Ab (congrArg V.agg (Ab (cI W10) (Ab (cI W10) (Ab (cI W10) rfl)))) (Ab (congrArg V.c (congrArg C.bool W10)) rfl))),rfl⟩) W10
theorem Uj (u:Utf) (b:Int):Fun Tryz.prog 63 [.agg (Pk u),vI b] [] (.tup [.agg (Pk ((B8 u b).getD u)),vB (B8 u b).isSome]) []:=by
 have hN:Bh=274877906944:=rfl
 refine Ar Tryz.func63 Q4 Q4 (w:=let z1:S:= .tup [.agg (Pk ((B8 u b).getD u)),vB (B8 u b).isSome];let z2:S:= .tup [.agg (Pk ((Bk b).getD utf0)),vB (Bk b).isSome];let z3:=Lf (.tup [.agg (Pk u),vB false]) z1 [] [];let z4:=Ak b u.low u.high;(.sZ [.call [] (.v (vB (Fe u))) []] (.br (.lJ () []) (.br (.sZ [.call [] z2 []] (.lJ () [])) (.sZ [.call [] (.v (vB z4)) []] (.br (.lJ () []) (.br (.lJ () []) (.sZ [.as 31 (.v (vI (u.wK-1)))] (.lJ () []))))))),(Fp 121 [.agg (Pk u)] [] (.v (vB (Fe u))) [])∧Bc (!(Fe u)) z3 (Bc (decide (u.wK=0)) ((Fp 132 [vI b] [] z2 [])∧Lf z2 z1 [] []) ((Fp 44 [vI b,vI u.low,vI u.high] [] (.v (vB z4)) [])∧Bc (!z4) z3 (Bc (decide (u.wK=1)) (Lf (.tup [.agg [.int .i64 0,.int .i64 0,.int .i64 0],vB true]) z1 [] []) ((wI (u.wK-1))∧Lf (.tup [.agg [.int .i64 (u.wK-1),.int .i64 128,.int .i64 191],vB true]) z1 [] [])))))) Q4 ?_
 refine⟨(Aj4 u),fun h1=>have q1:=Ao h1;?_,fun h1=>have q1:=An h1;have p1:=Jt q1;?_⟩
 exact zE ((B8 u b).getD u) u (fun hm1=>⟨(congrArg S.tup (Ab (congrArg V.agg (Ab (cI W10) (Ab (cI W10) (Ab (cI W10) rfl)))) (Ab (congrArg V.c (congrArg C.bool W10)) rfl))),rfl⟩) W10
 refine dsp (fun h2 p2=>?_) fun h2 p2=>?_
 have hu:=Ve q1 p2
 exact zE ((B8 u b).getD u) ((Bk b).getD utf0) (fun hm1=>⟨(Ahd _),(congrArg S.tup (Ab (congrArg V.agg (Ab (cI W10) (Ab (cI W10) (Ab (cI W10) rfl)))) (Ab (congrArg V.c (congrArg C.bool W10)) rfl))),rfl⟩) W10
 refine⟨(Bb _ _ _),fun h3=>have q3:=Ao h3;have p3:=A0 q3;?_,fun h3=>have q3:=An h3;have p3:=Av q3;?_⟩
 exact zE ((B8 u b).getD u) u (fun hm1=>⟨(congrArg S.tup (Ab (congrArg V.agg (Ab (cI W10) (Ab (cI W10) (Ab (cI W10) rfl)))) (Ab (congrArg V.c (congrArg C.bool W10)) rfl))),rfl⟩) W10
 refine dsp (fun h4 p4=>?_) fun h4 p4=>?_
 exact zE ((B8 u b).getD u) utf0 (fun hm1=>⟨(congrArg S.tup (Ab (congrArg V.agg (Ab (cI W10) (Ab (cI W10) (Ab (cI W10) rfl)))) (Ab (congrArg V.c (congrArg C.bool W10)) rfl))),rfl⟩) W10
 exact zE ((B8 u b).getD u) (⟨u.wK-1,128,191⟩:Utf) (fun hm1=>⟨(Ad Q2 Q2),(congrArg S.tup (Ab (congrArg V.agg (Ab (cI W10) (Ab (cI W10) (Ab (cI W10) rfl)))) (Ab (congrArg V.c (congrArg C.bool W10)) rfl))),rfl⟩) W10
structure Mf where
 u:Utf
 i:Nat
def Mg (u:Utf) (s:List UInt8):Fam:=⟨Mf,fun q1=>[(1,.v (vT s)),(2,.v (vP 0)),(4,.v (vP 1)),(6,.v (vI (q1.i:Int)))],fun q1=>[.cells (Pk q1.u),.cells [.int .i64 0,.int .i64 0,.int .i64 0]],fun q1=>q1.i≤s.length∧E2 q1.u (List.drop q1.i s) q1.i=E2 u s 0,fun q1=>s.length-q1.i⟩
theorem Aj6 (u:Utf) (s:List UInt8) (hp1:s.length≤Bh):Fun Tryz.prog 212 [.agg (Pk u),vT s] [] (.tup [.agg (Pk (Vf u s)),vI (Gc u s)]) []:=by
 have hN:Bh=274877906944:=rfl
 refine Ar Tryz.func212 Q4 Q4 (w:=let zi:Int→C:= .int .i64;let z7:=Mg u s;let z8:S:= .tup [.agg (Pk (Vf u s)),vI (Gc u s)];(.sZ [.at 0,.keep [1,2,4,6],.sel [0,1]] (.loop z7 fun q1=> .br (.intro (Sx (s[q1.i]?)) fun x1=>let z2:=((UInt8.toNat x1:Nat):Int);let z1:S:= .tup [.agg (Pk ((B8 q1.u z2).getD q1.u)),vB (B8 q1.u z2).isSome];.sZ [.tree (fr (.two 5 (fr (.one 9 (.one 10 (.first 11 (.done)))) 6 3) 9 (.one 5 (fr (.one 10 (.first 11 (.done))) 6 3))) 0 5) 12 [],.ch x1,.as 20 (.v (vI z2)),.call [] z1 [],.at 0,.keep [1,2,4,6,7,8],.sel [0,1,2],.call [] z1 [],.at 0,.keep [1,2,4,6,7,8],.sel [0,1,2]] (.br (.lJ () []) (.sZ [.as 14 (.v (vI ((q1.i:Int)+1))),.at 0,.keep [1,2,4,6],.sel [0,1]] (.next)))) (.lJ () [])),z7.Has [(1,.v (vT s)),(2,.v (vP 0)),(4,.v (vP 1)),(6,.v (vI 0))] [.cells (Pk u),.cells [zi 0,zi 0,zi 0]]∧∀q1,z7.inv q1→(let z5:=(q1.i:Int);let z6:=Pk q1.u;Bc (decide (z5<(s.length:Int))) (El (s[q1.i]?) fun x1=>(let z4:=((UInt8.toNat x1:Nat):Int);let z3:=B8 q1.u z4;(s[q1.i]? =some x1)∧((0:Int)≤z5)∧(s[q1.i]? =some x1)∧((0:Int)≤z5)∧(wI (z4))∧(wI (z4))∧(Fp 63 [.agg z6,vI z4] [] (.tup [.agg (Pk (z3.getD q1.u)),vB z3.isSome]) [])∧(Fp 63 [.agg z6,vI z4] [] (.tup [.agg (Pk (z3.getD q1.u)),vB z3.isSome]) [])∧(([.cells z6,.cells [zi 0,zi 0,zi 0],.cells (Pk (z3.getD q1.u))]:List Blk)=[.cells z6,.cells [zi 0,zi 0,zi 0],.cells (Pk (z3.getD q1.u))])∧(([(1,.v (vT s)),(2,.v (vP 0)),(4,.v (vP 1)),(6,.v (vI z5)),(7,.v (vP 2)),(8,.v (vB z3.isSome))]:List (Nat×S))=[(1,.v (vT s)),(2,.v (vP 0)),(4,.v (vP 1)),(6,.v (vI z5)),(7,.v (vP 2)),(8,.v (vB z3.isSome))])∧Bc (!z3.isSome) (Lf (.tup [.agg z6,vI z5]) z8 [] []) ((wI (z5+1))∧z7.Nxt q1 [(1,.v (vT s)),(2,.v (vP 0)),(4,.v (vP 1)),(6,.v (vI (z5+1)))] [.cells (Pk (z3.getD q1.u)),.cells [zi 0,zi 0,zi 0]]))) (Lf (.tup [.agg z6,vI (-1)]) z8 [] [])))) Q4 ?_
 refine⟨Bp (j:=(⟨u,0⟩:Mf)) Q8 rfl (by dsimp only[Mg];exact⟨by omega,by simp⟩),fun (q1:Mf) hq_q1=>?_⟩
 have hi_q1:q1.i≤s.length∧E2 q1.u (List.drop q1.i s) q1.i=E2 u s 0:=hq_q1
 obtain ⟨v1,v2⟩:=hi_q1
 refine dsp (fun h1 p1=>?_) fun h1 p1=>?_
 refine⟨(Bo (l:=s) (i:=q1.i) Q2),fun x1 hx1=>?_⟩
 have hb_x1:=UInt8.toNat_lt x1
 refine⟨hx1,Q2,hx1,Q2,(Ad Q2 Q2),(Ad Q2 Q2),(Uj q1.u _),(Uj q1.u _),rfl,rfl,fun h2=>have q2:=Ao h2;?_,fun h2=>have q2:=An h2;?_⟩
 rw[C3 hx1,E2] at v2
 exact zE (Vf u s) q1.u (fun hm1=>⟨(congrArg S.tup (Ab (congrArg V.agg (Ab (cI W11) (Ab (cI W11) (Ab (cI W11) rfl)))) (Ab (congrArg V.c (cI W11)) rfl))),rfl⟩) W11
 rw[C3 hx1,E2] at v2
 exact⟨(Ad Q2 Q2),A6 (j:=(⟨((B8 q1.u ((UInt8.toNat x1:Nat):Int)).getD q1.u),q1.i+1⟩:Mf)) Q8 rfl (by dsimp only[Mg];exact⟨by omega,by cases hu:B8 q1.u (x1.toNat:Int)<;>simp_all⟩) (by dsimp only[Mg];omega)⟩
 rw[Mc p1] at v2
 exact zE (Vf u s) q1.u (fun hm1=>⟨(congrArg S.tup (Ab (congrArg V.agg (Ab (cI W11) (Ab (cI W11) (Ab (cI W11) rfl)))) (Ab (congrArg V.c (cI W11)) rfl))),rfl⟩) W11
end Go.Proofs.YtphecbmdhbphgaaGreat.Ax
