/- Models. Models: the machine. Models: the machine's steps. Models: bytes, whole inputs. Numbers. Varints. Numbers of so Anu bytes; tags. Utf-8. -/
import Derived.Test.YtijacopaadmncaaGreatKB4
set_option linter.unusedSimpArgs false
set_option linter.unusedVariables false
namespace Go.Proofs.YtijacopaadmncaaGreat.Ax
open Go.RowKit
theorem Ah {α:Type} {a b:α} {l m:List α} (h:a=b) (t:l=m):a::l=b::m:=by rw[h,t]
def vI (x:Int):V:= .c (.int .i64 x)
def vB (x:Bool):V:= .c (.bool x)
def vT (x:List UInt8):V:= .c (.str x)
def vO (j:Nat):V:= .c (.own j)
def vP (j:Nat):V:= .c (.ptr j 0)
theorem sB {a b:Bool} (h:a=b):(.v (.c (.bool a)):S)= .v (.c (.bool b)):=by rw[h]
theorem sI {a b:Int} (h:a=b):(.v (.c (.int .i64 a)):S)= .v (.c (.int .i64 b)):=by rw[h]
theorem dT {p:Prop} [Decidable p]:decide p=true↔p:=decide_eq_true_iff
theorem dF {p:Prop} [Decidable p]:decide p=false↔¬p:=decide_eq_false_iff_not
theorem Ch {a b:Bool} {P Q:Prop} (h:a=true↔P) (g:b=true↔Q):(a&&b)=true↔P∧Q:=by rw[Bool.and_eq_true,h,g]
theorem Ci {a b:Bool} {P Q:Prop} (h:a=true↔P) (g:b=false↔Q):(a&&b)=false↔(P→Q):=by rw[Bool.and_eq_false_imp,h,g]
theorem orT {a b:Bool} {P Q:Prop} (h:a=true↔P) (g:b=true↔Q):(a||b)=true↔P∨Q:=by rw[Bool.or_eq_true,h,g]
theorem orF {a b:Bool} {P Q:Prop} (h:a=false↔P) (g:b=false↔Q):(a||b)=false↔P∧Q:=by rw[Bool.or_eq_false_iff,h,g]
theorem Bf {F:Fam} {j:F.ι} {tm:List (Nat×S)} {H:List Blk} (h1:tm=F.tm j) (h2:H=F.H j) (h:F.inv j):F.Has tm H:=⟨j,h,h1,h2⟩
theorem A3 {F:Fam} {i j:F.ι} {tm:List (Nat×S)} {H:List Blk} (h1:tm=F.tm j) (h2:H=F.H j) (h:F.inv j) (hm:F.mu j<F.mu i):F.Nxt i tm H:=⟨j,⟨h,hm⟩,h1,h2⟩
abbrev In {α:Type} (P Q:α→Prop):Prop:=(∃o,P o)∧∀o,P o→Q o
theorem Ap {P : Program} {f : FuncId} {fn : Func} (hf : P.funcs[f]? = some fn) (hb : fn.body.isNone = false) (hn : (fn.name == "runtime.NumGoroutine") = false) {args : List V} {L L' : List Blk} {r : S} {w : DT Unit × Prop}
  (hw:Ac2 P fn args L w.1 (fun _ r' Lp=>r'=r∧Lp=L')=w.2) (h:w.2):Fun P f args L r L':=Ak7 hf hb hn hw h
theorem Br {P : Program} {ι : Type} {f : FuncId} {fn : Func} (hf : P.funcs[f]? = some fn) (hb : fn.body.isNone = false) (hn : (fn.name == "runtime.NumGoroutine") = false) {args : List V} {L : List Blk} {L' : ι → List Blk} {r : ι → S} {good : ι → Prop} {w : DT ι × Prop}
  (hw:Ac2 P fn args L w.1 (fun i r' Lp=>good i∧r'=r i∧Lp=L' i)=w.2) (h:w.2): ∃i,good i∧Fun P f args L (r i) (L' i):=Ajq hf hb hn hw h
abbrev Bc (p:Bool) (A B:Prop):Prop:=(p=true→A)∧(p=false→B)
abbrev Lf (a b:S) (x y:List Blk):Prop:=a=b∧x=y
abbrev Sx {α:Type} (o:Option α):α→Prop:=fun x=>o=some x
abbrev El {α:Type} (o:Option α) (Q:α→Prop):Prop:=(∃x,o=some x)∧∀x,o=some x→Q x
abbrev wI (x:Int):Prop:=(.v (vI (IntKind.i64.wrap x)):S)= .v (vI x)
abbrev wU (x:Int):Prop:=(.v (.c (.int .u64 (IntKind.u64.wrap x))):S)= .v (.c (.int .u64 x))
abbrev Fp:=Fun Tryz.prog
theorem zE {β:Type} {p:Prop} (a b:β) (h:a=b→p) (h1:a=b):p:=h h1
theorem zD {β γ:Type} {p:Prop} (a b:β) (c d:γ) (h:a=b→c=d→p) (h1:a=b) (h2:c=d):p:=h h1 h2
theorem zM {α β γ:Type} {p:Prop} (f:α→β) (g:α→γ) (m x:α) (h:f m=f x→g m=g x→p) (h1:f m=f x) (h2:g m=g x):p:=h h1 h2
theorem dsp {p:Prop} [Decidable p] {A B:Prop} (h1:decide p=true→p→A) (h2:decide p=false→¬p→B):(decide p=true→A)∧(decide p=false→B):=⟨fun h=>h1 h (of_decide_eq_true h),fun h=>h2 h (of_decide_eq_false h)⟩
/-! ### Structures -/
structure Scn where
 bits:Int
 have_:Int
 deriving DecidableEq,Inhabited
structure Utf where
 want:Int
 low:Int
 high:Int
 deriving DecidableEq,Inhabited
structure Pln where
 shapes:List Shp
 root:Int
 deep:Int
 most:Int
 deriving DecidableEq,Inhabited
structure Dcd where
 plan:Pln
 mode:Int
 stack:List Lev
 scan:Scn
 start:Int
 at_:Int
 field:Fld
 wire:Int
 want:Int
 utf:Utf
 end_:Ev
 deriving DecidableEq,Inhabited
def fld0:Fld:=⟨0,0,false,false,0⟩
def ev0:Ev:=⟨0,0,0,0,[],0,0⟩
def utf0:Utf:=⟨0,0,0⟩
def scn0:Scn:=⟨0,0⟩
theorem C2 {α:Type} {l:List α} {i:Nat} {x:α} (h:l[i]? =some x):l.drop i=x::l.drop (i+1):=by
 have hl:=(List.getElem?_eq_some_iff.1 h).1
 rw[List.drop_eq_getElem_cons hl]
 congr 1
 rw[List.getElem?_eq_getElem hl] at h
 exact Option.some.inj h
theorem Ao {b:Bool} (h:(!b)=true):b=false:=by cases b<;>simp_all
theorem An {b:Bool} (h:(!b)=false):b=true:=by cases b<;>simp_all
theorem Vi {α:Type} {l:List α} {i:Nat} {x d:α} (h:l[i]? =some x):l.getD i d=x:=by simp[List.getD,h]
theorem Kq {α:Type} {l:List α} {i:Nat} (h: ¬((i:Nat):Int)<((l.length:Nat):Int)):l.drop i=[]:=List.drop_eq_nil_of_le (by omega)
/-! ### Words of numbers -/
theorem X9 {k:IntKind} {a m:Int} (h:0≤a):(.v (.c (.int k (Int.tmod a m))):S)= .v (.c (.int k (a % m))):=by rw[Int.tmod_eq_emod_of_nonneg h]
theorem Vj {a m:Int} (h:0≤a) (h2:a≤18446744073709551615) (hm:0<m):(.v (.c (.int .u64 (IntKind.u64.wrap (Int.tdiv a m)))):S)= .v (.c (.int .u64 (a / m))):=by
 rw[Int.tdiv_eq_ediv_of_nonneg h]
 have h3:=Int.ediv_nonneg h (Int.le_of_lt hm)
 have h4:=Int.ediv_le_self m h
 exact Bv Q2 Q2
theorem Ak9 {a b:Int} {k:Nat} (ha:0≤a) (hk:a<2 ^ k) {c:Int} (hc:0≤c) (hb:b=c*2 ^ k) (hs:b+2 ^ k≤18446744073709551616):(((BitVec.ofInt 64 a|||BitVec.ofInt 64 b).toNat:Nat):Int)=a+b:=by
 obtain ⟨n,rfl⟩:=Int.eq_ofNat_of_zero_le ha
 obtain ⟨m,rfl⟩:=Int.eq_ofNat_of_zero_le hc
 have hb':b=((m*2 ^ k:Nat):Int):=by rw[hb,Int.natCast_mul,Int.natCast_pow];rfl
 have hp:(0:Int)<2 ^ k:=Int.pow_pos (by decide)
 subst hb'
 have e:((2 ^ k:Nat):Int)=2 ^ k:=by rw[Int.natCast_pow];rfl
 rw[←e] at hk hs hp
 have h1:n<2 ^ k:=by omega
 have h2:m*2 ^ k+2 ^ k≤18446744073709551616:=by omega
 have h3:n<2 ^ 64:=by omega
 have h4:m*2 ^ k<2 ^ 64:=by omega
 rw[BitVec.toNat_or,BitVec.ofInt_natCast,BitVec.ofInt_natCast,BitVec.toNat_ofNat,BitVec.toNat_ofNat,Nat.mod_eq_of_lt h3,Nat.mod_eq_of_lt h4,Nat.or_comm,Nat.mul_comm m,←Nat.two_pow_add_eq_or_of_lt h1]
 rw[Nat.mul_comm,Int.natCast_add,Int.add_comm]
/-! ### Kinds, wires, numbers -/
def Dc (n:Int):Bool:=Ak n 1 536870911&& !Ak n 19000 19999
def Do (w:Int):Bool:=decide (w=0)||decide (w=1)||decide (w=2)||decide (w=5)
def Ed (k:Int):Bool:=Ak k 1 8
def C3 (k:Int):Bool:=Ak k 1 5
def B6 (k:Int):Int:=if Ed k then (if k=4 then 5 else if k=5 then 1 else if k≤3 then 0 else 2) else-1
def Az (w:Int):Int:=if w=1 then 8 else if w=5 then 4 else 0
def Tw (f:Fld):Bool:=f.rep&&C3 f.kind
def Da (f:Fld) (w:Int):Bool:=decide (w=B6 f.kind)||(decide (w=2)&&Tw f)
def En (k:Int):Bool:=decide (k=2)||decide (k=3)||decide (k=6)
theorem D5 (w:Int):0≤Az w∧Az w≤8:=by unfold Az;split<;>(try split)<;>omega
def Ho (f:Fld) (n:Int):Bool:=Dc f.number&&Ed f.kind&& !(f.packed&&(!f.rep|| !C3 f.kind))&&(if f.kind=8 then Ak f.msg 0 (n-1) else decide (f.msg= -1))
def C4 (n:Int):Int→List Fld→Bool
 |_,[]=>true
 |b,f::r=>decide (b<f.number)&&Ho f n&&C4 n f.number r
def D6 (n:Int):Int→List Shp→Bool
 |_,[]=>true
 |b,x::r=>decide (b<x.id)&&decide (x.id≤99)&&decide ((x.fields.length:Int)≤8)&&C4 n 0 x.fields&&D6 n x.id r
def Dg (l:List Shp):Bool:=decide ((l.length:Int)≤6)&&D6 (l.length:Int) 0 l
def F1 (l:List Fld) (n:Int):Option Fld:=l.find? fun f=>decide (f.number=n)
def Ano:Shp:=⟨0,[]⟩
def fieldAt (l:List Shp) (s n:Int):Option Fld:=if Ak s 0 ((l.length:Int)-1) then F1 (l.getD s.toNat Ano).fields n else none
def C8 (p:Pln):Bool:=Dg p.shapes&&Ak p.root 0 ((p.shapes.length:Int)-1)&&Ak p.deep 1 8&&Ak p.most 0 2000
theorem Aav {f:Fld} {n:Int} (h:Ho f n=true):1≤f.number∧f.number≤536870911∧1≤f.kind∧f.kind≤8∧(f.kind=8→0≤f.msg∧f.msg≤n-1)∧(f.kind≠8→f.msg= -1):=by
 simp only[Ho,Dc,Ed,Ak,Bool.and_eq_true,decide_eq_true_eq] at h
 obtain ⟨⟨⟨h1,h2⟩,h3⟩,h4⟩:=h
 refine⟨h1.1.1,h1.1.2,h2.1,h2.2,fun hk=>?_,fun hk=>?_⟩
 ·rw[if_pos hk] at h4;simpa using h4
 ·rw[if_neg hk] at h4;simpa using h4
theorem S4 {l:List Shp} (h:Dg l=true):l.length≤6:=by
 simp only[Dg,Bool.and_eq_true,decide_eq_true_eq] at h;omega
theorem Cc {p:Pln} (h:C8 p=true):p.shapes.length≤6∧Dg p.shapes=true∧0≤p.root∧p.root<(p.shapes.length:Int)∧1≤p.deep∧p.deep≤8∧0≤p.most∧p.most≤2000:=by
 simp only[C8,Ak,Bool.and_eq_true,decide_eq_true_eq] at h
 have:=S4 h.1.1.1
 refine⟨this,h.1.1.1,?_⟩;omega
theorem Tx {n:Int} : ∀ {b:Int} {l:List Fld},C4 n b l=true→∀f∈l,Ho f n=true∧b<f.number
 |_,[],_,f,hf=>by cases hf
 |b,g::r,h,f,hf=>by
  simp only[C4,Bool.and_eq_true,decide_eq_true_eq] at h
  rcases List.mem_cons.1 hf with rfl|hf
  ·exact⟨h.1.2,h.1.1⟩
  ·have:=Tx h.2 f hf;exact⟨this.1,by omega⟩
theorem Pe {n:Int} : ∀ {b:Int} {l:List Shp},D6 n b l=true→∀x∈l,(x.fields.length≤8∧C4 n 0 x.fields=true)∧b<x.id∧x.id≤99
 |_,[],_,f,hf=>by cases hf
 |b,g::r,h,f,hf=>by
  simp only[D6,Bool.and_eq_true,decide_eq_true_eq] at h
  rcases List.mem_cons.1 hf with rfl|hf
  ·exact⟨⟨by omega,h.1.2⟩,h.1.1.1.1,h.1.1.1.2⟩
  ·have:=Pe h.2 f hf;exact⟨this.1,by omega,this.2.2⟩
theorem Dt {l:List Shp} (h:Dg l=true): ∀x∈l,List.length x.fields≤1000:=fun x hx=>by
 simp only[Dg,Bool.and_eq_true] at h
 have:=(Pe h.2 x hx).1.1
 omega
theorem Xb {l:List Shp} {s n:Int} {f:Fld} (hl:Dg l=true) (h:fieldAt l s n=some f):Ho f (l.length:Int)=true∧f.number=n:=by
 unfold fieldAt at h
 split at h
 ·rename_i hs
  have hs:=Ar hs
  simp only[Dg,Bool.and_eq_true,decide_eq_true_eq] at hl
  have hm:l.getD s.toNat Ano∈l:=by
   rw[List.getD_eq_getElem?_getD,List.getElem?_eq_getElem (by omega)]
   exact List.getElem_mem _
  have hx:=(Pe hl.2 _ hm).1.2
  have hf:=List.mem_of_find?_eq_some h
  have hp:=List.find?_some h
  exact⟨(Tx hx f hf).1,by simpa using hp⟩
 ·cases h
/-! ### Tags -/
def Cx (n w:Int):Int:=if Ak n 1 536870911&&Ak w 0 7 then 8*n+w else 0
def Mo (u:Int):Bool:=Ak u 8 4294967295
def Bo (u:Int):Int:=if Mo u then u / 8 else 0
def Aj (u:Int):Int:=if Mo u then u % 8 else 0
theorem Bi (n w:Int):0≤Cx n w∧Cx n w≤4294967295:=by
 unfold Cx Ak;split<;>simp_all<;>omega
/-! ### Utf-8 -/
def Nv (u:Utf) (w l h:Int):Bool:=decide (u.want=w)&&(decide (u.low=l)&&decide (u.high=h))
def Eo (u:Utf):Bool:=Nv u 0 0 0||Nv u 1 128 191||Nv u 2 128 191||Nv u 3 128 191||Nv u 2 160 191||Nv u 2 128 159||Nv u 3 144 191||Nv u 3 128 143
theorem Aaw {u:Utf} (h:Eo u=true):(u.want=0∧u.low=0∧u.high=0)∨(u.want=1∧u.low=128∧u.high=191)∨(u.want=2∧u.low=128∧u.high=191)∨(u.want=3∧u.low=128∧u.high=191)∨(u.want=2∧u.low=160∧u.high=191)∨(u.want=2∧u.low=128∧u.high=159)∨(u.want=3∧u.low=144∧u.high=191)∨(u.want=3∧u.low=128∧u.high=143):=by
 simp only[Eo,Nv,Bool.or_eq_true,Bool.and_eq_true,decide_eq_true_eq] at h
 rcases h with ((((((h|h)|h)|h)|h)|h)|h)|h<;>simp[h]
theorem Xc {u:Utf} (h:Eo u=true) (h0:u.want=0):u=utf0:=by
 rcases Aaw h with h|h|h|h|h|h|h|h<;>first|(cases u;simp_all[utf0];done)|omega
theorem Lt {u:Utf} (h:Eo u=true):0≤u.want∧u.want≤3:=by
 rcases Aaw h with h|h|h|h|h|h|h|h<;>omega
def A6 (b:Int):Option Utf:=
 if Ak b 0 127 then some utf0
 else if Ak b 194 223 then some ⟨1,128,191⟩
 else if Ak b 224 239 then some ⟨2,if b=224 then 160 else 128,if b=237 then 159 else 191⟩
 else if Ak b 240 244 then some ⟨3,if b=240 then 144 else 128,if b=244 then 143 else 191⟩
 else none
def Bq (u:Utf) (b:Int):Option Utf:=
 if Eo u then (if u.want=0 then A6 b else if Ak b u.low u.high then some (if u.want=1 then utf0 else ⟨u.want-1,128,191⟩) else none) else none
def Pf:Utf→List UInt8→Nat→Utf×Option Nat
 |u,[],_=>(u,none)
 |u,b::r,i=>match Bq u (b.toNat:Int) with
  |some v=>Pf v r (i+1)
  |none=>(u,some i)
def S5 (u:Utf) (s:List UInt8):Utf:=(Pf u s 0).1
def Zn (u:Utf) (s:List UInt8):Int:=match (Pf u s 0).2 with
 |some i=>(i:Int)
 |none=> -1
/-! ### Varints -/
def Mp (u:Nat):List UInt8:=if h:u<128 then [UInt8.ofNat u] else UInt8.ofNat (u % 128+128)::Mp (u / 128)
termination_by u
decreasing_by omega
def Dy (u:Int):List UInt8:=Mp u.toNat
def Kr (u:Int):Int:=((Dy u).length:Int)
theorem Mq {u:Nat} (h:u<128):Mp u=[UInt8.ofNat u]:=by rw[Mp,dif_pos h]
theorem Rj {u:Nat} (h: ¬u<128):Mp u=UInt8.ofNat (u % 128+128)::Mp (u / 128):=by rw[Mp,dif_neg h]
theorem Vk: ∀(k u:Nat),u<128 ^ k→1≤k→(Mp u).length≤k
 |0,_,_,h=>by omega
 |k+1,u,h,_=>by
  by_cases hu:u<128
  ·rw[Mq hu];simp
  ·rw[Rj hu]
   have hk:1≤k:=by
    rcases k with _|k
    ·simp at h;omega
    ·omega
   have:=Vk k (u / 128) (by rw[Nat.pow_succ] at h;exact Nat.div_lt_of_lt_mul (by rw[Nat.mul_comm];exact h)) hk
   simp;omega
theorem Vm (u:Nat):1≤(Mp u).length:=by
 by_cases hu:u<128
 ·rw[Mq hu];simp
 ·rw[Rj hu];simp
theorem Zo {u:Int} (h0:0≤u) (h:u≤127):Dy u=[UInt8.ofNat u.toNat]:=Mq (by omega)
theorem Xd {u:Int} (h0:0≤u) (h:127<u):Dy u=UInt8.ofNat (u % 128+128).toNat::Dy (u / 128):=by
 unfold Dy
 rw[Rj (by omega),show (u / 128).toNat=u.toNat / 128 by omega,show (u % 128+128).toNat=u.toNat % 128+128 by omega]
theorem Xe (u:Int):1≤(Dy u).length:=Vm _
theorem Ab1 {u:Int} (h:u≤18446744073709551615):1≤Kr u∧Kr u≤10:=by
 have h1:=Vm u.toNat
 have h2:=Vk 10 u.toNat (by omega) (by omega)
 unfold Kr Dy;omega
def A2 (c a:Int):Ev:=⟨10,0,0,0,[],c,a⟩
def Gi (f:Fld) (u:Int):Ev:=⟨2,f.number,if f.kind=3∧u≠0 then 1 else u,0,[],0,0⟩
theorem Ty {f:Fld} {l:List Fld} {n:Int} :F1 (f::l) n=if f.number=n then some f else F1 l n:=by
 unfold F1;rw[List.find?_cons];by_cases h:f.number=n<;>simp[h]
theorem Xf {l:List Shp} {s n:Int} {x:Shp} (hs:Ak s 0 ((l.length:Int)-1)=true) (hx:l[s.toNat]? =some x):fieldAt l s n=F1 x.fields n:=by
 rw[fieldAt,if_pos hs,Vi hx]
def Anu (l:List Ev) (k:Int):Int:=((l.filter fun e=>decide (e.kind=k)).length:Int)
structure Fa where
 stack:List Int
 inText:Bool
 isText:Bool
 utf:Utf
 ended:Bool
 deriving Inhabited
structure Fmr where
 plan:Pln
 st:Fa
structure Fs where
 stack:List Int
 field:Fld
 open_:Bool
 utf:Utf
 ended:Bool
def F2 (k:Int):Bool:=decide (k=6)||decide (k=7)
theorem Aax {b:Int} {u:Utf} (h:A6 b=some u):Eo u=true:=by
 unfold A6 at h
 repeat' split at h
 all_goals first|(cases h;done)|(cases h;first|decide|(exfalso;omega)|(simp only[Eo,Nv];simp_all;done)|(simp only[Eo,Nv];simp_all;omega))
theorem Ac6 {u v:Utf} {b:Int} (h:Bq u b=some v):Eo v=true:=by
 unfold Bq at h
 split at h
 ·rename_i hu
  have hw:=Lt hu
  split at h
  ·exact Aax h
  ·split at h
   ·split at h
    ·cases h;decide
    ·cases h
     rcases Aaw hu with h|h|h|h|h|h|h|h<;>simp_all[Eo,Nv]
   ·cases h
 ·cases h
def EvB (e:Ev):Prop:=List.length e.text≤Bb∧(0:Int)≤e.bits∧e.bits≤18446744073709551615
def cEv (x:Ev):List C:=[.int .i64 x.kind,.int .i64 x.field,.int .u64 x.bits,.int .i64 x.len,.str x.text,.int .i64 x.code,.int .i64 x.at_]
def Fr (x:Fld):List C:=[.int .i64 x.number,.int .i64 x.kind,.bool x.rep,.bool x.packed,.int .i64 x.msg]
def Ai4 (x:Shp):List C:=[.int .i64 x.id,.seq .fld x.fields]
def Am5 (x:Lev):List C:=[.int .i64 x.msg,.int .i64 x.left]
def Km (x:Scn):List C:=[.int .u64 x.bits,.int .i64 x.have_]
def J8 (x:Utf):List C:=[.int .i64 x.want,.int .i64 x.low,.int .i64 x.high]
def Nw (x:Pln):List C:=[.seq .shp x.shapes,.int .i64 x.root,.int .i64 x.deep,.int .i64 x.most]
def Bu (x:Dcd):List C:=[.seq .shp x.plan.shapes,.int .i64 x.plan.root,.int .i64 x.plan.deep,.int .i64 x.plan.most,.int .i64 x.mode,.seq .lev x.stack,.int .u64 x.scan.bits,.int .i64 x.scan.have_,.int .i64 x.start,.int .i64 x.at_,.int .i64 x.field.number,.int .i64 x.field.kind,.bool x.field.rep,.bool x.field.packed,.int .i64 x.field.msg,.int .i64 x.wire,.int .i64 x.want,.int .i64 x.utf.want,.int .i64 x.utf.low,.int .i64 x.utf.high,.int .i64 x.end_.kind,.int .i64 x.end_.field,.int .u64 x.end_.bits,.int .i64 x.end_.len,.str x.end_.text,.int .i64 x.end_.code,.int .i64 x.end_.at_]
def Ad (j0:Nat) (j5:Nat) (x:Dcd):List C:=[.own j0,.int .i64 x.plan.root,.int .i64 x.plan.deep,.int .i64 x.plan.most,.int .i64 x.mode,.own j5,.int .u64 x.scan.bits,.int .i64 x.scan.have_,.int .i64 x.start,.int .i64 x.at_,.int .i64 x.field.number,.int .i64 x.field.kind,.bool x.field.rep,.bool x.field.packed,.int .i64 x.field.msg,.int .i64 x.wire,.int .i64 x.want,.int .i64 x.utf.want,.int .i64 x.utf.low,.int .i64 x.utf.high,.int .i64 x.end_.kind,.int .i64 x.end_.field,.int .u64 x.end_.bits,.int .i64 x.end_.len,.str x.end_.text,.int .i64 x.end_.code,.int .i64 x.end_.at_]
def Ahq (j0:Nat) (x:Pln):List C:=[.own j0,.int .i64 x.root,.int .i64 x.deep,.int .i64 x.most]
abbrev L2 (d:Dcd):List Blk:=[.tree d.plan.shapes,.lst .lev d.stack]
abbrev Ls (d:Dcd) (o:List Ev):List Blk:=[.tree d.plan.shapes,.lst .lev d.stack,.lst .ev o]
def Ana:Lev:=⟨0,0⟩
def Ds (d:Dcd):Int:=(d.stack.getD (d.stack.length-1) Ana).left
def E3 (n:Int) (l:Lev):Bool:=Ak l.msg 0 (n-1)&&Ak l.left 0 2000
def Bd (d:Dcd):Bool:=C8 d.plan&&decide ((d.stack.length:Int)≤d.plan.deep)&&d.stack.all (E3 (d.plan.shapes.length:Int))
def Wu (n:Int):List Lev→Nat
 |[]=>0
 |l::r=>if E3 n l then Wu n r+1 else 0
theorem R8 {n:Int} {l:Lev} {r:List Lev} :Wu n (l::r)=if E3 n l then Wu n r+1 else 0:=rfl
theorem Mr (n:Int): ∀l:List Lev,l.all (E3 n)=decide (Wu n l=l.length)
 |[]=>rfl
 |l::r=>by
  rw[List.all_cons,Mr n r,R8]
  cases h:E3 n l with
  |true=>rw[if_pos rfl];simp
  |false=>rw[if_neg (by simp)];simp
def Ks (n:Int) (l:List Lev):Int:=if Wu n l=l.length then-1 else (Wu n l:Int)
def Df (s:Scn):Bool:=Ak s.have_ 0 9&&decide (Int.fdiv s.bits (2 ^ min (Int.toNat (7*s.have_)) 64)=0)
def Bs (d:Dcd):Int:=if d.mode=5 then Az d.wire else if d.mode=8 then Az (B6 d.field.kind) else 0
def Pg (d:Dcd):Int:=if d.mode=8 then d.want else Ds d
def Kn (d:Dcd):Bool:=if 0<Bs d then Ak d.scan.have_ 0 (Bs d-1)&&decide (Int.fdiv d.scan.bits (2 ^ min (Int.toNat (8*d.scan.have_)) 64)=0)&&decide (Bs d-d.scan.have_≤Pg d)
 else if d.mode=6∨d.mode=7∨d.mode=9 then decide (d.scan=scn0) else Df d.scan
def H3 (d:Dcd):Bool:=if d.mode=6∨d.mode=7∨d.mode=8 then Ak d.want 1 (Ds d) else decide (d.want=0)
def Ai5 (d:Dcd):Bool:=decide (d.field=fld0)||Da d.field d.wire
def H4 (d:Dcd):Bool:=if d.mode=6 then F2 d.field.kind else if d.mode=8 then Tw d.field else if d.mode=3 then decide (d.wire=0)&&Ai5 d else if d.mode=4 then decide (d.wire=2)&&Ai5 d else if d.mode=5 then decide (0<Az d.wire)&&Ai5 d else true
def Ft (l:List Shp) (f:Fld):Nat→Bool
 |0=>false
 |k+1=>Ft l f k||decide (fieldAt l (k:Int) f.number=some f)
def H5 (l:List Shp) (f:Fld):Bool:=Ft l f l.length
def Ms (k:Int):Bool:=Ak k 1 10
def Ee (e:Ev):Ev:=⟨e.kind,if e.kind=2∨e.kind=3∨e.kind=6 then e.field else 0,if e.kind=2 then e.bits else 0,if e.kind=1∨e.kind=3∨e.kind=6 then e.len else 0,if e.kind=4 then e.text else [],if e.kind=10 then e.code else 0,if e.kind=9∨e.kind=10 then e.at_ else 0⟩
def Tz (e:Ev):Bool:=decide (e=Ee e)
def Fo (e:Ev):Bool:=Ms e.kind&&Tz e&&decide (0≤e.len)&&decide (0≤e.at_)&&(if En e.kind then Ak e.field 1 536870911 else if e.kind=4 then !decide (e.text=[]) else if e.kind=10 then decide (1≤e.code) else true)
def Dx (e:Ev):Bool:=decide (e.kind=9)||decide (e.kind=10)
def Y1 (d:Dcd):Bool:=if d.mode=9 then Fo d.end_&&Dx d.end_ else decide (d.end_=ev0)
def Kt (d:Dcd):Bool:=if d.mode=1 then decide (d.stack=[]) else if d.mode=9 then true else decide (1≤Ds d)
def Dh (d:Dcd):Bool:=Bd d&&Ak d.mode 1 9&&Ak d.at_ 0 1000000000&&Ak d.start 0 d.at_&&Eo d.utf&&Do d.wire&&(decide (d.field=fld0)||H5 d.plan.shapes d.field)&&Y1 d&&Kt d&&H3 d&&H4 d&&Kn d
theorem Afd {o f:Fld} (h:o.number=f.number∧o.kind=f.kind∧o.rep=f.rep∧o.packed=f.packed∧o.msg=f.msg):o=f:=by
 cases o;cases f;simp_all
theorem Afe {o f:Fld} (h:o.number=f.number→o.kind=f.kind→o.rep=f.rep→o.packed=f.packed→¬o.msg=f.msg):o≠f:=fun e=>by subst e;exact h rfl rfl rfl rfl rfl
theorem Vn {l:List Shp} {f:Fld} : ∀ {k m:Nat},k≤m→Ft l f k=true→Ft l f m=true
 |k,0,h,hk=>by rw[show k=0 by omega] at hk;exact hk
 |k,m+1,h,hk=>by
  by_cases e:k=m+1
  ·rw[←e];exact hk
  ·rw[Ft,Vn (m:=m) (by omega) hk];rfl
theorem Ya {l:List Shp} {f:Fld} {k:Nat} (h:k<l.length) (hf:fieldAt l (k:Int) f.number=some f):H5 l f=true:=by
 have:Ft l f (k+1)=true:=by rw[Ft,hf];simp
 exact Vn (show k+1≤l.length by omega) this
theorem Mt {l:List Shp} {f:Fld} {k:Nat} (h:Ft l f k=false) (hf:fieldAt l (k:Int) f.number≠some f):Ft l f (k+1)=false:=by
 rw[Ft,h];simp[hf]
theorem Ab2 {l:List Shp} {f:Fld} {k:Nat} (h:Ft l f k=false) (hk:l.length=k):H5 l f=false:=by unfold H5;rw[hk];exact h
theorem Yb {f:Fld} (h:f.number=0∧f.kind=0∧f.rep=false∧f.packed=false∧f.msg=0):f=fld0:=Afd h
def Qw (d:Dcd):Bool:=d.stack.all (E3 (d.plan.shapes.length:Int))&&(if d.mode=1 then decide ((d.stack.length:Int)=0) else if d.mode=9 then decide ((d.stack.length:Int)≤d.plan.deep) else Ak (d.stack.length:Int) 1 d.plan.deep&&decide (1≤Ds d))
def Ama (d:Dcd):Bool:=Ak d.scan.have_ 0 (Bs d-1)&&decide (Int.fdiv d.scan.bits (2 ^ min (Int.toNat (8*d.scan.have_)) 64)=0)&&decide (Bs d-d.scan.have_≤Pg d)
def Aay (d:Dcd):Bool:=if d.mode=6∨d.mode=7∨d.mode=9 then decide (d.scan=scn0) else if d.mode=5 then Ama d else if d.mode=8 then (if Bs d=0 then Df d.scan else Ama d) else Df d.scan
def T0 (d:Dcd):Bool:=(decide (d.mode=3)&& !decide (d.wire=0))||(decide (d.mode=4)&& !decide (d.wire=2))||(decide (d.mode=5)&&decide (Az d.wire=0))
def Zp (d:Dcd):Bool:=C8 d.plan&&Ak d.mode 1 9&&Ak d.at_ 0 1000000000&&Ak d.start 0 d.at_&&Eo d.utf&&Do d.wire&&(decide (d.field=fld0)||H5 d.plan.shapes d.field)&&Qw d&&Y1 d&&H3 d&& !T0 d&& !(Ak d.mode 3 5&& !decide (d.field=fld0)&& !Da d.field d.wire)&&(!decide (d.mode=6)||F2 d.field.kind)&&(!decide (d.mode=8)||Tw d.field)&&Aay d
theorem Yc {d:Dcd} (h:d.stack=[]):Ds d=0:=by unfold Ds;rw[h];rfl
theorem R9 (w:Int):Az w=0∨Az w=4∨Az w=8:=by unfold Az;split<;>(try split)<;>omega
theorem Aff (d:Dcd):Zp d=Dh d:=by
 have hw:=R9 d.wire
 have hw2:=R9 (B6 d.field.kind)
 by_cases hm:Ak d.mode 1 9=true
 ·have hm:=Ar hm
  have hp:C8 d.plan=true→1≤d.plan.deep:=fun h=>(Cc h).2.2.2.2.1
  have ht:= @Yc d
  obtain ⟨⟨sh,ro,de,mo⟩,m,st,sc,sa,a,f,w,wa,u,e⟩:=d
  simp only at hm hw hw2 hp ht
  have hs:(decide (st=[]):Bool)=decide ((st.length:Int)=0):=by cases st<;>simp<;>omega
  have hl: ∀x:Lev,(([]:List Lev).length:Int)=0:=fun _=>rfl
  rcases (show m=1∨m=2∨m=3∨m=4∨m=5∨m=6∨m=7∨m=8∨m=9 by omega) with rfl|rfl|rfl|rfl|rfl|rfl|rfl|rfl|rfl<;>
   rw[Bool.eq_iff_iff]<;>simp[Zp,Dh,Bd,Qw,Kt,T0,Aay,Ama,Kn,H4,Ai5,H3,Pg,Bs,hs,Ak]<;>grind
 ·have hm:Ak d.mode 1 9=false:=by simpa using hm
  simp[Zp,Dh,hm]
theorem Amb {e f:Ev} (h:e.kind=f.kind∧e.field=f.field∧e.bits=f.bits∧e.len=f.len∧e.text=f.text∧e.code=f.code∧e.at_=f.at_):e=f:=by cases e;cases f;simp_all
theorem Ahr {e:Ev} (h:e.kind=(Ee e).kind∧e.field=(Ee e).field∧e.bits=(Ee e).bits∧e.len=(Ee e).len∧e.text=(Ee e).text∧e.code=(Ee e).code∧e.at_=(Ee e).at_):Tz e=true:=decide_eq_true (Amb h)
theorem Sa {e f:Ev} (h:Ee e=f):Tz e=(decide (e.kind=f.kind)&&(decide (e.field=f.field)&&(decide (e.bits=f.bits)&&(decide (e.len=f.len)&&(decide (e.text=f.text)&&(decide (e.code=f.code)&&decide (e.at_=f.at_))))))):=by
 subst h
 rw[Bool.eq_iff_iff]
 simp only[Bool.and_eq_true,decide_eq_true_eq]
 constructor
 ·intro h
  have h:e=Ee e:=of_decide_eq_true h
  exact⟨congrArg Ev.kind h,congrArg Ev.field h,congrArg Ev.bits h,congrArg Ev.len h,congrArg Ev.text h,congrArg Ev.code h,congrArg Ev.at_ h⟩
 ·exact fun h=>Ahr h
structure Mac where
 d:Dcd
 out:List Ev
def T3:Ev:=⟨5,0,0,0,[],0,0⟩
def Ahs:Ev:=⟨7,0,0,0,[],0,0⟩
def Ja:Ev:=⟨8,0,0,0,[],0,0⟩
def Ac7 (n:Int):Ev:=⟨1,0,0,n,[],0,0⟩
def Zq (f n:Int):Ev:=⟨6,f,0,n,[],0,0⟩
def Zr (f n:Int):Ev:=⟨3,f,0,n,[],0,0⟩
def Yd (b:Int):Ev:=⟨4,0,0,0,[A9 b],0,0⟩
def A8 (d:Dcd) (c a:Int):Dcd:=⟨d.plan,9,d.stack,⟨0,0⟩,d.start,d.at_,d.field,d.wire,0,d.utf,A2 c a⟩
def A0 (m:Mac) (c a:Int):Mac:=⟨A8 m.d c a,m.out++[A2 c a]⟩
def Ay (m:Mac):Option Mac:=
 if m.d.mode=6∧m.d.want<1 then
  (if 0<m.d.utf.want then some (A0 m 5 m.d.at_) else some ⟨⟨m.d.plan,2,m.d.stack,m.d.scan,m.d.start,m.d.at_,m.d.field,m.d.wire,0,⟨0,0,0⟩,m.d.end_⟩,m.out++[T3]⟩)
 else if (m.d.mode=7∨(m.d.mode=8∧m.d.scan.have_=0))∧m.d.want<1 then some ⟨⟨m.d.plan,2,m.d.stack,m.d.scan,m.d.start,m.d.at_,m.d.field,m.d.wire,0,m.d.utf,m.d.end_⟩,m.out⟩
 else if m.d.mode=2∧m.d.scan.have_=0∧0<m.d.stack.length∧Ds m.d=0 then
  some (if m.d.stack.length=1 then ⟨⟨m.d.plan,1,m.d.stack.take (m.d.stack.length-1),m.d.scan,m.d.start,m.d.at_,m.d.field,m.d.wire,m.d.want,m.d.utf,m.d.end_⟩,m.out++[Ja]⟩
   else ⟨⟨m.d.plan,m.d.mode,m.d.stack.take (m.d.stack.length-1),m.d.scan,m.d.start,m.d.at_,m.d.field,m.d.wire,m.d.want,m.d.utf,m.d.end_⟩,m.out++[Ahs]⟩)
 else none
def wM (m:Mac):Nat:=m.d.stack.length+(if m.d.mode=6∨m.d.mode=7∨m.d.mode=8 then 2 else if m.d.mode=2 then 1 else 0)
theorem B2 {m q:Mac} (h:Ay m=some q):wM q<wM m∧q.out.length≤m.out.length+1:=by
 unfold Ay at h
 split at h
 ·rename_i h1
  split at h
  ·cases h;simp[wM,A0,A8,h1.1]
  ·cases h;simp[wM,h1.1]
 ·split at h
  ·rename_i h1
   cases h
   rcases h1.1 with h2|h2
   ·simp[wM,h2]
   ·simp[wM,h2.1]
  ·split at h
   ·rename_i h1
    cases h
    have:=h1.2.2.1
    split
    ·simp[wM,h1.1];omega
    ·simp[wM,h1.1];omega
   ·cases h
def Ae (m:Mac):Mac:=match h:Ay m with
 |none=>m
 |some q=>Ae q
termination_by wM m
decreasing_by exact(B2 h).1
theorem Cf {m q:Mac} (h:Ay m=some q):Ae m=Ae q:=by
 rw[Ae]
 split
 ·rename_i h1;rw[h] at h1;cases h1
 ·rename_i x h1;rw[h] at h1;cases h1;rfl
theorem Bw {m:Mac} (h:Ay m=none):Ae m=m:=by
 rw[Ae]
 split
 ·rfl
 ·rename_i x h1;rw[h] at h1;cases h1
def Cu (m:Mac) (u:Int):Mac:=
 if m.d.plan.most<u then A0 m 7 m.d.start
 else Ae ⟨⟨m.d.plan,2,[⟨m.d.plan.root,u⟩],⟨0,0⟩,m.d.start,m.d.at_,m.d.field,m.d.wire,m.d.want,m.d.utf,m.d.end_⟩,m.out++[Ac7 u]⟩
def Hb (d:Dcd):Lev:=d.stack.getD (d.stack.length-1) Ana
def Ea (m:Mac) (u:Int):Mac:=
 if Mo u=false∨m.d.stack.length=0 then A0 m 2 m.d.start
 else if Do (Aj u)=false then A0 m 3 m.d.start
 else if (fieldAt m.d.plan.shapes (Hb m.d).msg (Bo u)).isSome=true∧Da ((fieldAt m.d.plan.shapes (Hb m.d).msg (Bo u)).getD fld0) (Aj u)=false then A0 m 4 m.d.start
 else if Ds m.d<max (Az (Aj u)) 1 then A0 ⟨⟨m.d.plan,m.d.mode,m.d.stack,⟨0,0⟩,m.d.start,m.d.at_,(fieldAt m.d.plan.shapes (Hb m.d).msg (Bo u)).getD fld0,Aj u,m.d.want,m.d.utf,m.d.end_⟩,m.out⟩ 9 m.d.at_
 else ⟨⟨m.d.plan,if Aj u=0 then 3 else if Aj u=2 then 4 else 5,m.d.stack,⟨0,0⟩,m.d.start,m.d.at_,(fieldAt m.d.plan.shapes (Hb m.d).msg (Bo u)).getD fld0,Aj u,m.d.want,m.d.utf,m.d.end_⟩,m.out⟩
def Cn (m:Mac) (u:Int):Mac:=
 if m.d.stack.length=0∨Ds m.d<u then A0 m 8 m.d.start
 else if m.d.field=fld0 then Ae ⟨⟨m.d.plan,7,m.d.stack,⟨0,0⟩,m.d.start,m.d.at_,m.d.field,m.d.wire,u,m.d.utf,m.d.end_⟩,m.out⟩
 else if m.d.field.kind=8 then
  (if m.d.plan.deep≤(m.d.stack.length:Int) then A0 m 6 m.d.start
  else Ae ⟨⟨m.d.plan,2,m.d.stack.set (m.d.stack.length-1) ⟨(Hb m.d).msg,Ds m.d-u⟩++[⟨m.d.field.msg,u⟩],⟨0,0⟩,m.d.start,m.d.at_,m.d.field,m.d.wire,0,m.d.utf,m.d.end_⟩,m.out++[Zq m.d.field.number u]⟩)
 else if F2 m.d.field.kind=true then Ae ⟨⟨m.d.plan,6,m.d.stack,⟨0,0⟩,m.d.start,m.d.at_,m.d.field,m.d.wire,u,⟨0,0,0⟩,m.d.end_⟩,m.out++[Zr m.d.field.number u]⟩
 else if 0<u∧u<Az (B6 m.d.field.kind) then A0 m 9 m.d.at_
 else Ae ⟨⟨m.d.plan,8,m.d.stack,⟨0,0⟩,m.d.start,m.d.at_,m.d.field,m.d.wire,u,m.d.utf,m.d.end_⟩,m.out⟩
def Bm (m:Mac) (u:Int):Mac:=⟨⟨m.d.plan,if m.d.mode=8 then 8 else 2,m.d.stack,m.d.scan,m.d.start,m.d.at_,m.d.field,m.d.wire,m.d.want,m.d.utf,m.d.end_⟩,if m.d.field=fld0 then m.out else m.out++[Gi m.d.field u]⟩
def Fq (d:Dcd) (s:Scn):Dcd:=⟨d.plan,d.mode,d.stack,s,d.start,d.at_,d.field,d.wire,d.want,d.utf,d.end_⟩
def Ag (s:Scn) (b:Int):Scn×Int:=
 if Df s=false∨Ak b 0 255=false∨(s.have_=9∧1<b) then (s,2)
 else (⟨s.bits+b % 128*2 ^ (7*s.have_.toNat),s.have_+1⟩,if b<128 then 1 else 0)
def Bt (s:Scn) (b:Int):Scn:=if Ak s.have_ 0 7=true∧Ak b 0 255=true then ⟨IntKind.u64.wrap (s.bits+IntKind.u64.wrap (b*2 ^ min (Int.toNat (8*s.have_)) 64)),s.have_+1⟩ else s
def Gj (d:Dcd) (a:Int):Dcd:=⟨d.plan,d.mode,d.stack,d.scan,if d.scan.have_=0∧(d.mode=1∨d.mode=2∨d.mode=4) then a else d.start,d.at_,d.field,d.wire,d.want,d.utf,d.end_⟩
def Vo (m q:Mac):Mac:=if (m.d.mode≠1∧Ds m.d=0)∨(m.d.mode=8∧m.d.want=0) then A0 q 9 m.d.at_ else q
def Bp (m:Mac) (b a:Int):Mac:=
 if (Ag m.d.scan b).2=2 then A0 ⟨Gj m.d a,m.out⟩ 1 a
 else if (Ag m.d.scan b).2=0 then Vo m ⟨Fq (Gj m.d a) (Ag m.d.scan b).1,m.out⟩
 else if m.d.mode=1 then Cu ⟨Fq (Gj m.d a) scn0,m.out⟩ (Ag m.d.scan b).1.bits
 else if m.d.mode=2 then Ea ⟨Fq (Gj m.d a) scn0,m.out⟩ (Ag m.d.scan b).1.bits
 else if m.d.mode=4 then Cn ⟨Fq (Gj m.d a) scn0,m.out⟩ (Ag m.d.scan b).1.bits
 else Ae (Bm ⟨Fq (Gj m.d a) scn0,m.out⟩ (Ag m.d.scan b).1.bits)
def Dp (m:Mac) (b:Int):Mac:=
 if (Bt m.d.scan b).have_<Bs m.d then ⟨Fq m.d (Bt m.d.scan b),m.out⟩
 else if m.d.mode=8∧0<m.d.want∧m.d.want<Bs m.d then A0 (Bm ⟨Fq m.d scn0,m.out⟩ (Bt m.d.scan b).bits) 9 m.d.at_
 else Ae (Bm ⟨Fq m.d scn0,m.out⟩ (Bt m.d.scan b).bits)
def Akx (d:Dcd) (u:Utf):Dcd:=⟨d.plan,d.mode,d.stack,d.scan,d.start,d.at_,d.field,d.wire,d.want,u,d.end_⟩
def Eg (m:Mac) (b:Int):Mac:=
 if m.d.field.kind=6 then (match Bq m.d.utf b with
  |none=>A0 m 5 (m.d.at_-1)
  |some u=>Ae ⟨Akx m.d u,m.out++[Yd b]⟩)
 else Ae ⟨m.d,m.out++[Yd b]⟩
def Di (d:Dcd):Dcd:=⟨d.plan,d.mode,if d.stack.length=0 then d.stack else d.stack.set (d.stack.length-1) ⟨(Hb d).msg,Ds d-1⟩,d.scan,d.start,d.at_+1,d.field,d.wire,if d.mode=6∨d.mode=7∨d.mode=8 then d.want-1 else d.want,d.utf,d.end_⟩
def Eb (m:Mac) (b:Int):Mac:=
 if m.d.mode=6 then Eg ⟨Di m.d,m.out⟩ b
 else if m.d.mode=7 then Ae ⟨Di m.d,m.out⟩
 else if 0<Bs m.d then Dp ⟨Di m.d,m.out⟩ b
 else Bp ⟨Di m.d,m.out⟩ b m.d.at_
theorem Jt {m q:Mac} (h:Ay m=some q):q.d.stack.length≤m.d.stack.length∧q.d.plan=m.d.plan:=by
 unfold Ay at h
 split at h
 ·split at h<;>(cases h;exact⟨Nat.le_refl _,rfl⟩)
 ·split at h
  ·cases h;exact⟨Nat.le_refl _,rfl⟩
  ·split at h
   ·cases h
    split<;>(refine⟨?_,rfl⟩;simp only[List.length_take];omega)
   ·cases h
theorem Vp (m:Mac):(Ae m).out.length≤m.out.length+wM m:=by
 suffices ∀(k:Nat) (m:Mac),wM m≤k→(Ae m).out.length≤m.out.length+wM m from this _ m (Nat.le_refl _)
 intro k
 induction k with
 |zero=>
  intro m hk
  cases h:Ay m with
  |none=>rw[Bw h];omega
  |some q=>have:=(B2 h).1;omega
 |succ k ih=>
  intro m hk
  cases h:Ay m with
  |none=>rw[Bw h];omega
  |some q=>
   have h1:=B2 h
   have:=ih q (by omega)
   rw[Cf h];omega
theorem Aea (m:Mac):wM m≤m.d.stack.length+2:=by unfold wM;split<;>(try split)<;>omega
theorem B3 {d:Dcd} (h:Bd d=true):C8 d.plan=true∧(d.stack.length:Int)≤d.plan.deep∧d.stack.length≤8∧(∀l∈d.stack,E3 (d.plan.shapes.length:Int) l=true):=by
 simp only[Bd,Bool.and_eq_true,decide_eq_true_eq,List.all_eq_true] at h
 have:=Cc h.1.1
 exact⟨h.1.1,h.1.2,by omega,h.2⟩
theorem J9 {d:Dcd} (h1:C8 d.plan=true) (h2:(d.stack.length:Int)≤d.plan.deep) (h3: ∀l∈d.stack,E3 (d.plan.shapes.length:Int) l=true):Bd d=true:=by
 simp only[Bd,Bool.and_eq_true,decide_eq_true_eq,List.all_eq_true];exact⟨⟨h1,h2⟩,h3⟩
theorem Qx {d e:Dcd} {u:Int} (h:Bd d=true) (hp:e.plan=d.plan) (hs:e.stack=[⟨d.plan.root,u⟩]) (h0:0≤u) (hu:u≤d.plan.most):Bd e=true:=by
 have hb:=B3 h
 have ht:=Cc hb.1
 refine J9 (by rw[hp];exact hb.1) (by rw[hs,hp];simp;omega) fun l hl=>?_
 rw[hs] at hl
 simp at hl
 subst hl
 rw[hp]
 simp[E3,Ak];omega
theorem B4 {d e:Dcd} (h:Bd d=true) (hp:e.plan=d.plan) (hs:e.stack=d.stack):Bd e=true:=by
 have hb:=B3 h
 exact J9 (by rw[hp];exact hb.1) (by rw[hs,hp];exact hb.2.1) (by rw[hs,hp];exact hb.2.2.2)
theorem Xg {l:List Shp} {f:Fld} (hl:Dg l=true): ∀ {k:Nat},Ft l f k=true→Ho f (l.length:Int)=true
 |0,h=>by cases h
 |k+1,h=>by
  simp only[Ft,Bool.or_eq_true,decide_eq_true_eq] at h
  rcases h with h|h
  ·exact Xg hl h
  ·exact(Xb hl h).1
theorem Sb {d:Dcd} (h:d.stack.length≠0):Hb d∈d.stack:=by
 unfold Hb
 rw[List.getD_eq_getElem?_getD,List.getElem?_eq_getElem (by omega)]
 exact List.getElem_mem _
theorem Sc {d e:Dcd} {u:Int} (h:Bd d=true) (hk:H5 d.plan.shapes d.field=true) (h8:d.field.kind=8) (hn:d.stack.length≠0) (hd:(d.stack.length:Int)<d.plan.deep) (h0:0≤u) (hu:u≤Ds d) (hp:e.plan=d.plan)
  (hs:e.stack=d.stack.set (d.stack.length-1) ⟨(Hb d).msg,Ds d-u⟩++[⟨d.field.msg,u⟩]):Bd e=true:=by
 have hb:=B3 h
 have hf:=Aav (Xg (Cc hb.1).2.1 hk)
 have hm:=hf.2.2.2.2.1 h8
 have hl:=hb.2.2.2 _ (Sb hn)
 have ht:Ds d=(Hb d).left:=rfl
 simp only[E3,Bool.and_eq_true] at hl
 have hl1:=Ar hl.1;have hl2:=Ar hl.2
 refine J9 (by rw[hp];exact hb.1) (by rw[hs,hp];simp;omega) fun l hl=>?_
 rw[hs] at hl
 rw[hp]
 rcases List.mem_append.1 hl with hl|hl
 ·rcases List.mem_or_eq_of_mem_set hl with hl|hl
  ·exact hb.2.2.2 l hl
  ·subst hl;simp[E3,Ak];omega
 ·simp at hl;subst hl;simp[E3,Ak];omega
theorem G5 {d:Dcd} (h:Bd d=true):0≤Ds d∧Ds d≤2000:=by
 by_cases hn:d.stack.length=0
 ·rw[Yc (List.eq_nil_of_length_eq_zero hn)];omega
 ·have hl:=(B3 h).2.2.2 _ (Sb hn)
  have ht:Ds d=(Hb d).left:=rfl
  simp only[E3,Bool.and_eq_true] at hl
  have:=Ar hl.2;omega
theorem Jb {d:Dcd} {x:Lev} (h:d.stack[d.stack.length-1]? =some x):Hb d=x∧Ds d=x.left:=by
 have e:Hb d=x:=by unfold Hb;exact Vi h
 exact⟨e,by show (Hb d).left=_;rw[e]⟩
theorem Ai6 (u:Int):0≤Aj u∧Aj u≤7:=by unfold Aj;split<;>omega
theorem Uj {s:Scn} (h:Df s=true) (h0:0≤s.bits):0≤s.have_∧s.have_≤9∧s.bits<2 ^ (7*s.have_.toNat):=by
 simp only[Df,Bool.and_eq_true,decide_eq_true_eq] at h
 have hw:=Ar h.1
 refine⟨hw.1,hw.2,?_⟩
 have h2:=h.2
 rw[show min (Int.toNat (7*s.have_)) 64=7*s.have_.toNat by omega] at h2
 have hp:(0:Int)<2 ^ (7*s.have_.toNat):=Int.pow_pos (by decide)
 rw[Int.fdiv_eq_ediv_of_nonneg _ (Int.le_of_lt hp)] at h2
 apply Int.not_le.1
 intro hle
 have:=Int.le_ediv_of_mul_le hp (show 1*2 ^ (7*s.have_.toNat)≤s.bits by rw[Int.one_mul];exact hle)
 omega
theorem Ab3 {c:Int} {h:Int} (h0:0≤h) (h9:h≤9) (c0:0≤c) (c1:c≤127) (hc:h=9→c≤1):0≤c*2 ^ (7*h.toNat)∧c*2 ^ (7*h.toNat)+2 ^ (7*h.toNat)≤18446744073709551616:=by
 obtain ⟨k,rfl⟩:=Int.eq_ofNat_of_zero_le h0
 have hk:k≤9:=by omega
 rw[Int.toNat_natCast]
 rcases (show k=0∨k=1∨k=2∨k=3∨k=4∨k=5∨k=6∨k=7∨k=8∨k=9 by omega) with rfl|rfl|rfl|rfl|rfl|rfl|rfl|rfl|rfl|rfl<;>simp at * <;>omega
theorem Sd {c h:Int} (h0:0≤h) (h9:h≤9) (c0:0≤c) (c1:c≤127) (hc:h=9→c≤1):(.v (.c (.int .u64 (IntKind.u64.wrap (c*2 ^ min (Int.toNat (7*h)) 64)))):S)= .v (.c (.int .u64 (c*2 ^ (7*h.toNat)))):=by
 have:=Ab3 h0 h9 c0 c1 hc
 have hp:(0:Int)<2 ^ (7*h.toNat):=Int.pow_pos (by decide)
 rw[show min (Int.toNat (7*h)) 64=7*h.toNat by omega]
 exact Bv Q2 Q2
theorem Ab4 {u c h:Int} (h0:0≤h) (h9:h≤9) (c0:0≤c) (c1:c≤127) (hc:h=9→c≤1) (u0:0≤u) (u1:u<2 ^ (7*h.toNat)):(.v (.c (.int .u64 (IntKind.u64.wrap (((BitVec.ofInt 64 u|||BitVec.ofInt 64 (c*2 ^ (7*h.toNat))).toNat:Nat):Int)))):S)= .v (.c (.int .u64 (u+c*2 ^ (7*h.toNat)))):=by
 have:=Ab3 h0 h9 c0 c1 hc
 rw[Ak9 (k:=7*h.toNat) (c:=c) u0 u1 c0 rfl (by omega)]
 exact Bv Q2 Q2
theorem Zs {u c h:Int} (h0:0≤h) (h9:h≤9) (c0:0≤c) (c1:c≤127) (hc:h=9→c≤1) (u0:0≤u) (u1:u<2 ^ (7*h.toNat)):(.v (.c (.int .u64 (IntKind.u64.wrap (u+c*2 ^ (7*h.toNat))))):S)= .v (.c (.int .u64 (u+c*2 ^ (7*h.toNat)))):=by
 have:=Ab3 h0 h9 c0 c1 hc
 exact Bv Q2 Q2
theorem P6 {s:Scn} {b:Int} (h0:0≤s.bits) (h1:s.bits≤18446744073709551615):0≤(Ag s b).1.bits∧(Ag s b).1.bits≤18446744073709551615:=by
 unfold Ag
 split
 ·exact⟨h0,h1⟩
 ·rename_i h
  simp only[not_or] at h
  have hs:Df s=true:=by simpa using h.1
  have hb:=Ar (show Ak b 0 255=true by simpa using h.2.1)
  have hk:=Uj hs h0
  have hc:=Ab3 (c:=b % 128) hk.1 hk.2.1 (by omega) (by omega) (fun h9=>by have:=h.2.2;omega)
  simp only;omega
structure MW (d:Dcd):Prop where
 lv:Bd d=true
 kn:d.field=fld0∨H5 d.plan.shapes d.field=true
 b0:0≤d.scan.bits∧d.scan.bits≤18446744073709551615
 at_:0≤d.at_∧d.at_≤1000000001
 want: -1≤d.want∧d.want≤2001
theorem Zt {s:Scn} {b:Int} (h0:0≤s.bits∧s.bits≤18446744073709551615):0≤(Bt s b).bits∧(Bt s b).bits≤18446744073709551615:=by
 unfold Bt
 split
 ·simp only
  rw[IntKind.wrap_u64]
  have:=Int.emod_nonneg (s.bits+IntKind.u64.wrap (b*2 ^ min (Int.toNat (8*s.have_)) 64)) (show (18446744073709551616:Int)≠0 by decide)
  have:=Int.emod_lt_of_pos (s.bits+IntKind.u64.wrap (b*2 ^ min (Int.toNat (8*s.have_)) 64)) (show (0:Int)<18446744073709551616 by decide)
  omega
 ·exact h0
theorem MW.step {d:Dcd} (h:MW d) (hs:d.stack.length=0∨1≤Ds d) (ha:d.at_≤1000000000) (hw:(d.mode=6∨d.mode=7∨d.mode=8)→0≤d.want):MW (Di d):=by
 have hb:=B3 h.lv
 refine⟨?_,h.kn,h.b0,?_,?_⟩
 ·refine J9 (d:=Di d) hb.1 ?_ ?_
  ·show (((Di d).stack.length:Nat):Int)≤d.plan.deep
   unfold Di;simp only;split
   ·exact hb.2.1
   ·rw[List.length_set];exact hb.2.1
  ·intro l hl
   show E3 (d.plan.shapes.length:Int) l=true
   unfold Di at hl
   simp only at hl
   split at hl
   ·exact hb.2.2.2 l hl
   ·rename_i hn
    rcases List.mem_or_eq_of_mem_set hl with hl|hl
    ·exact hb.2.2.2 l hl
    ·have hx:=hb.2.2.2 _ (Sb hn)
     have ht:Ds d=(Hb d).left:=rfl
     simp only[E3,Bool.and_eq_true] at hx
     have h1:=Ar hx.1;have h2:=Ar hx.2
     subst hl;simp[E3,Ak];omega
 ·have:=h.at_;show 0≤d.at_+1∧d.at_+1≤1000000001;omega
 ·have:=h.want
  show-1≤(if d.mode=6∨d.mode=7∨d.mode=8 then d.want-1 else d.want)∧(if d.mode=6∨d.mode=7∨d.mode=8 then d.want-1 else d.want)≤2001
  split
  ·rename_i hm;have:=hw hm;omega
  ·exact this
theorem Fe (m:Mac) (u:Int):(Bm m u).out.length≤m.out.length+1:=by
 unfold Bm
 simp only
 split<;>simp
theorem Se (m:Mac) (u:Int):(Bm m u).d.at_=m.d.at_:=rfl
theorem Mu (m:Mac) (u:Int):(Bm m u).d.want=m.d.want:=rfl
def Ab (j0:Nat) (j5:Nat) (j27:Nat) (x:Mac):List C:=[.own j0,.int .i64 x.d.plan.root,.int .i64 x.d.plan.deep,.int .i64 x.d.plan.most,.int .i64 x.d.mode,.own j5,.int .u64 x.d.scan.bits,.int .i64 x.d.scan.have_,.int .i64 x.d.start,.int .i64 x.d.at_,.int .i64 x.d.field.number,.int .i64 x.d.field.kind,.bool x.d.field.rep,.bool x.d.field.packed,.int .i64 x.d.field.msg,.int .i64 x.d.wire,.int .i64 x.d.want,.int .i64 x.d.utf.want,.int .i64 x.d.utf.low,.int .i64 x.d.utf.high,.int .i64 x.d.end_.kind,.int .i64 x.d.end_.field,.int .u64 x.d.end_.bits,.int .i64 x.d.end_.len,.str x.d.end_.text,.int .i64 x.d.end_.code,.int .i64 x.d.end_.at_,.own j27]
def Fm (p:Pln):Dcd:=if C8 p=true then ⟨p,1,[],⟨0,0⟩,0,0,⟨0,0,false,false,0⟩,0,0,⟨0,0,0⟩,⟨0,0,0,0,[],0,0⟩⟩ else ⟨⟨[],0,0,0⟩,0,[],⟨0,0⟩,0,0,⟨0,0,false,false,0⟩,0,0,⟨0,0,0⟩,⟨0,0,0,0,[],0,0⟩⟩
theorem Eh {l:List Shp} (h:Dg l=true): ∀e∈l,e.fields.length≤1048576:=fun e he=>by have:=Dt h e he;omega
theorem Zu {m:Mac} (h1:m.d.mode=6) (h2:m.d.want<1) (h3:0<m.d.utf.want):Ae m=A0 m 5 m.d.at_:=by
 have hc:Ay m=some (A0 m 5 m.d.at_):=by unfold Ay;rw[if_pos ⟨h1,h2⟩,if_pos h3]
 rw[Cf hc,Bw]
 unfold Ay A0 A8
 simp
theorem Vq {d:Dcd} {o:List Ev} (h2:d.mode=2) (hs:d.scan.have_=0) (hl:0<d.stack.length) (ht:Ds d=0) (h1:d.stack.length=1):Ay ⟨d,o⟩=some ⟨⟨d.plan,1,d.stack.take (d.stack.length-1),d.scan,d.start,d.at_,d.field,d.wire,d.want,d.utf,d.end_⟩,o++[Ja]⟩:=by
 unfold Ay
 simp only
 rw[if_neg (by omega),if_neg (by omega),if_pos ⟨h2,hs,hl,ht⟩,if_pos h1]
theorem Vr {d:Dcd} {o:List Ev} (h2:d.mode=2) (hs:d.scan.have_=0) (hl:0<d.stack.length) (ht:Ds d=0) (h1:d.stack.length≠1):Ay ⟨d,o⟩=some ⟨⟨d.plan,d.mode,d.stack.take (d.stack.length-1),d.scan,d.start,d.at_,d.field,d.wire,d.want,d.utf,d.end_⟩,o++[Ahs]⟩:=by
 unfold Ay
 simp only
 rw[if_neg (by omega),if_neg (by omega),if_pos ⟨h2,hs,hl,ht⟩,if_neg h1]
theorem Afg {d:Dcd} {o:List Ev} {u:Int} (h:d.mode=8) (hf:d.field≠fld0):Bm ⟨d,o⟩ u=⟨d,o++[Gi d.field u]⟩:=by
 cases d
 unfold Bm
 simp only at h hf ⊢
 rw[if_pos h,if_neg hf,h]
theorem Afh {d:Dcd} {o:List Ev} {u:Int} (h:d.mode=8) (hf:d.field=fld0):Bm ⟨d,o⟩ u=⟨d,o⟩:=by
 cases d
 unfold Bm
 simp only at h hf ⊢
 rw[if_pos h,if_pos hf,h]
theorem S6 {d:Dcd} (h:Dh d=true):Bd d=true∧(1≤d.mode∧d.mode≤9)∧(0≤d.at_∧d.at_≤1000000000)∧(0≤d.start∧d.start≤d.at_)∧Eo d.utf=true∧Do d.wire=true∧(d.field=fld0∨H5 d.plan.shapes d.field=true)∧Y1 d=true∧Kt d=true∧H3 d=true∧H4 d=true∧Kn d=true:=by
 simp only[Dh,Bool.and_eq_true,Bool.or_eq_true,decide_eq_true_eq] at h
 obtain ⟨⟨⟨⟨⟨⟨⟨⟨⟨⟨⟨h1,h2⟩,h3⟩,h4⟩,h5⟩,h6⟩,h7⟩,h8⟩,h9⟩,h10⟩,h11⟩,h12⟩:=h
 exact⟨h1,Ar h2,Ar h3,Ar h4,h5,h6,h7,h8,h9,h10,h11,h12⟩
theorem Aaz {d:Dcd} (h:H3 d=true):((d.mode=6∨d.mode=7∨d.mode=8)→1≤d.want∧d.want≤Ds d)∧(¬(d.mode=6∨d.mode=7∨d.mode=8)→d.want=0):=by
 unfold H3 at h
 split at h
 ·rename_i hm;exact⟨fun _=>Ar h,fun h=>absurd hm h⟩
 ·rename_i hm;exact⟨fun h=>absurd h hm,fun _=>of_decide_eq_true h⟩
theorem Ye {d:Dcd} (h:Dh d=true) (hb:0≤d.scan.bits∧d.scan.bits≤18446744073709551615):MW d:=by
 obtain ⟨h1,h2,h3,h4,h5,h6,h7,h8,h9,h10,h11,h12⟩:=S6 h
 have ht:=G5 h1
 have hw:=Aaz h10
 refine⟨h1,h7,hb,by omega,?_⟩
 by_cases hm:d.mode=6∨d.mode=7∨d.mode=8
 ·have:=hw.1 hm;omega
 ·have:=hw.2 hm;omega
theorem Yf {d:Dcd} (h:Dh d=true) (h9:d.mode≠9):(d.stack.length=0∨1≤Ds d)∧d.at_≤1000000000∧((d.mode=6∨d.mode=7∨d.mode=8)→0≤d.want)∧(d.mode=8→Tw d.field=true)∧d.end_=ev0:=by
 obtain ⟨h1,h2,h3,h4,h5,h6,h7,h8,hs,h10,h11,h12⟩:=S6 h
 have hw:=Aaz h10
 refine⟨?_,by omega,fun hm=>by have:=hw.1 hm;omega,fun hm=>?_,?_⟩
 ·unfold Kt at hs
  by_cases hm1:d.mode=1
  ·rw[if_pos hm1] at hs;left;rw[of_decide_eq_true hs];rfl
  ·rw[if_neg hm1,if_neg h9] at hs;exact .inr (of_decide_eq_true hs)
 ·unfold H4 at h11
  rw[if_neg (by omega),if_pos hm] at h11
  exact h11
 ·unfold Y1 at h8
  rw[if_neg h9] at h8
  exact of_decide_eq_true h8
def E1 (d:Dcd):Bool:= !decide (d.mode=9)&&decide (d.at_<1000000000)
def B8 (d:Dcd) (b:Int):Mac:=if Dh d=true∧E1 d=true∧Ak b 0 255=true then Eb ⟨d,[]⟩ b else ⟨d,[]⟩
theorem Ajt {f:Fld} (h:Tw f=true):f≠fld0:=fun e=>by subst e;simp[Tw,fld0] at h
theorem Zv (m:Mac):(Ae m).d.plan=m.d.plan∧(Ae m).d.stack.length≤m.d.stack.length:=by
 suffices ∀(k:Nat) (m:Mac),wM m≤k→(Ae m).d.plan=m.d.plan∧(Ae m).d.stack.length≤m.d.stack.length from this _ m (Nat.le_refl _)
 intro k
 induction k with
 |zero=>
  intro m hk
  cases h:Ay m with
  |none=>rw[Bw h];exact⟨rfl,Nat.le_refl _⟩
  |some q=>have:=(B2 h).1;omega
 |succ k ih=>
  intro m hk
  cases h:Ay m with
  |none=>rw[Bw h];exact⟨rfl,Nat.le_refl _⟩
  |some q=>
   have h1:=B2 h
   have h2:=Jt h
   have h3:=ih q (by omega)
   rw[Cf h]
   exact⟨h3.1.trans h2.2,Nat.le_trans h3.2 h2.1⟩
structure Gr (m q:Mac):Prop where
 plan:q.d.plan=m.d.plan
 stack:q.d.stack.length≤m.d.stack.length+1
 out:q.out.length≤m.out.length+m.d.stack.length+6
theorem Gr.fail (m:Mac) (c a:Int):Gr m (A0 m c a):=⟨rfl,Nat.le_succ _,by simp only[A0,List.length_append,List.length_cons,List.length_nil];omega⟩
theorem Gr.settle {m x:Mac} (hp:x.d.plan=m.d.plan) (hs:x.d.stack.length≤m.d.stack.length+1) (ho:x.out.length≤m.out.length+2):Gr m (Ae x):=by
 have h1:=Zv x
 have h2:=Vp x
 have h3:=Aea x
 exact⟨h1.1.trans hp,by omega,by omega⟩
theorem Gr.of {m x q:Mac} (h:Gr x q) (hp:x.d.plan=m.d.plan) (hs:x.d.stack.length=m.d.stack.length) (ho:x.out.length=m.out.length):Gr m q:=⟨h.plan.trans hp,by have:=h.stack;omega,by have:=h.out;omega⟩
theorem Afi (m:Mac) (u:Int):Gr m (Cu m u):=by
 unfold Cu
 split
 ·exact Gr.fail _ _ _
 ·exact Gr.settle rfl (by simp) (by simp)
theorem Aju (m:Mac) (u:Int):Gr m (Ea m u):=by
 unfold Ea
 split
 ·exact Gr.fail _ _ _
 ·split
  ·exact Gr.fail _ _ _
  ·split
   ·exact Gr.fail _ _ _
   ·split
    ·exact(Gr.fail _ _ _).of rfl rfl rfl
    ·exact⟨rfl,Nat.le_succ _,by simp only;omega⟩
theorem Aht (m:Mac) (u:Int):Gr m (Cn m u):=by
 unfold Cn
 split
 ·exact Gr.fail _ _ _
 ·split
  ·exact Gr.settle rfl (Nat.le_succ _) (by simp)
  ·split
   ·split
    ·exact Gr.fail _ _ _
    ·exact Gr.settle rfl (by simp) (by simp)
   ·split
    ·exact Gr.settle rfl (Nat.le_succ _) (by simp)
    ·split
     ·exact Gr.fail _ _ _
     ·exact Gr.settle rfl (Nat.le_succ _) (by simp)
theorem Ajv (m:Mac) (b a:Int):Gr m (Bp m b a):=by
 unfold Bp
 split
 ·exact(Gr.fail _ _ _).of rfl rfl rfl
 ·split
  ·unfold Vo
   split
   ·exact(Gr.fail _ _ _).of rfl rfl rfl
   ·exact⟨rfl,Nat.le_succ _,by simp only;omega⟩
  ·split
   ·exact(Afi _ _).of rfl rfl rfl
   ·split
    ·exact(Aju _ _).of rfl rfl rfl
    ·split
     ·exact(Aht _ _).of rfl rfl rfl
     ·exact Gr.settle rfl (Nat.le_succ _) (Nat.le_trans (Fe _ _) (Nat.le_succ _))
theorem Ajw (m:Mac) (b:Int):Gr m (Dp m b):=by
 unfold Dp
 split
 ·exact⟨rfl,Nat.le_succ _,by simp only;omega⟩
 ·split
  ·have:=Fe ⟨Fq m.d scn0,m.out⟩ (Bt m.d.scan b).bits
   exact⟨rfl,Nat.le_succ _,by simp only[A0,List.length_append,List.length_cons,List.length_nil] at this ⊢;omega⟩
  ·exact Gr.settle rfl (Nat.le_succ _) (Nat.le_trans (Fe _ _) (Nat.le_succ _))
theorem Ahu (m:Mac) (b:Int):Gr m (Eg m b):=by
 unfold Eg
 split
 ·split
  ·exact Gr.fail _ _ _
  ·exact Gr.settle rfl (Nat.le_succ _) (by simp)
 ·exact Gr.settle rfl (Nat.le_succ _) (by simp)
theorem Ka (d:Dcd):(Di d).stack.length=d.stack.length:=by unfold Di;simp only;split<;>simp
theorem Ahv (m:Mac) (b:Int):Gr m (Eb m b):=by
 unfold Eb
 split
 ·exact(Ahu _ _).of rfl (Ka _) rfl
 ·split
  ·exact Gr.settle rfl (by show (Di m.d).stack.length≤_;rw[Ka];omega) (by simp)
  ·split
   ·exact(Ajw _ _).of rfl (Ka _) rfl
   ·exact(Ajv _ _ _).of rfl (Ka _) rfl
theorem Yg (d:Dcd) (b:Int):Gr ⟨d,[]⟩ (B8 d b):=by
 unfold B8
 split
 ·exact Ahv _ _
 ·exact⟨rfl,Nat.le_succ _,by simp⟩
theorem Ac8 {d:Dcd} {b:Int} :(B8 d b).d.plan=d.plan∧(B8 d b).d.stack.length≤d.stack.length+1:=⟨(Yg d b).plan,(Yg d b).stack⟩
theorem Afj {d:Dcd} {b:Int} :(B8 d b).out.length≤d.stack.length+6:=by have:=(Yg d b).out;simp only[List.length_nil] at this;omega
theorem Cd (n:Int) (lo:Int) (hi:Int):Fun Tryz.prog 69 [vI n,vI lo,vI hi] [] (.v (vB (Ak n lo hi))) []:=by
 have hN:Bb=274877906944:=rfl
 refine Ap Tryz.func69 Q4 Q4 (w:=(.br (.leaf () []) (.leaf () []),Bc (decide (lo≤n)) (Lf (.v (vB (decide (n≤hi)))) (.v (vB (Ak n lo hi))) [] []) (Lf (.v (vB false)) (.v (vB (Ak n lo hi))) [] []))) Q4 ?_
 refine dsp (fun h1 p1=>?_) fun h1 p1=>?_
 exact⟨(congrArg S.v (congrArg V.c (congrArg C.bool (by simp[Ak, *])))),rfl⟩
 exact⟨(congrArg S.v (congrArg V.c (congrArg C.bool (by simp[Ak, *])))),rfl⟩
theorem Be (n:Int) (lo:Int) (hi:Int):Fun Tryz.prog 71 [vI n,vI lo,vI hi] [] (.v (vB (Ak n lo hi))) []:=by
 have hN:Bb=274877906944:=rfl
 refine Ap Tryz.func71 Q4 Q4 (w:=(.br (.leaf () []) (.leaf () []),Bc (decide (lo≤n)) (Lf (.v (vB (decide (n≤hi)))) (.v (vB (Ak n lo hi))) [] []) (Lf (.v (vB false)) (.v (vB (Ak n lo hi))) [] []))) Q4 ?_
 refine dsp (fun h1 p1=>?_) fun h1 p1=>?_
 exact⟨(congrArg S.v (congrArg V.c (congrArg C.bool (by simp[Ak, *])))),rfl⟩
 exact⟨(congrArg S.v (congrArg V.c (congrArg C.bool (by simp[Ak, *])))),rfl⟩
theorem Anb (a:Int) (b:Int):Fun Tryz.prog 74 [vI a,vI b] [] (.v (vI (min a b))) []:=by
 have hN:Bb=274877906944:=rfl
 refine Ap Tryz.func74 Q4 Q4 (w:=(.br (.leaf () []) (.leaf () []),Bc (decide (a<b)) (Lf (.v (vI a)) (.v (vI (min a b))) [] []) (Lf (.v (vI b)) (.v (vI (min a b))) [] []))) Q4 ?_
 refine dsp (fun h1 p1=>?_) fun h1 p1=>?_
 exact⟨(congrArg S.v (congrArg V.c (congrArg (C.int .i64) Q2))),rfl⟩
 exact⟨(congrArg S.v (congrArg V.c (congrArg (C.int .i64) Q2))),rfl⟩
theorem Gk (a:Int) (b:Int):Fun Tryz.prog 75 [vI a,vI b] [] (.v (vI (max a b))) []:=by
 have hN:Bb=274877906944:=rfl
 refine Ap Tryz.func75 Q4 Q4 (w:=(.br (.leaf () []) (.leaf () []),Bc (decide (b<a)) (Lf (.v (vI a)) (.v (vI (max a b))) [] []) (Lf (.v (vI b)) (.v (vI (max a b))) [] []))) Q4 ?_
 refine dsp (fun h1 p1=>?_) fun h1 p1=>?_
 exact⟨(congrArg S.v (congrArg V.c (congrArg (C.int .i64) Q2))),rfl⟩
 exact⟨(congrArg S.v (congrArg V.c (congrArg (C.int .i64) Q2))),rfl⟩
theorem Ac9 (n:Int):Fun Tryz.prog 232 [vI n] [] (.v (vB (Dc n))) []:=by
 have hN:Bb=274877906944:=rfl
 refine Ap Tryz.func232 Q4 Q4 (w:=let z1:=Ak n 1 536870911;let z2:=Ak n 19000 19999;(.seg [.call [] (.v (vB z1)) []] (.br (.seg [.call [] (.v (vB z2)) []] (.leaf () [])) (.leaf () [])),(Fp 69 [vI n,vI 1,vI 536870911] [] (.v (vB z1)) [])∧Bc z1 ((Fp 69 [vI n,vI 19000,vI 19999] [] (.v (vB z2)) [])∧Lf (.v (vB (!z2))) (.v (vB (Dc n))) [] []) (Lf (.v (vB false)) (.v (vB (Dc n))) [] []))) Q4 ?_
 refine⟨(Cd _ _ _),fun h1=>have p1:=Ar h1;?_,fun h1=>have p1:=Aw h1;?_⟩
 exact⟨(Cd _ _ _),(congrArg S.v (congrArg V.c (congrArg C.bool (by simp[Dc, *])))),rfl⟩
 exact⟨(congrArg S.v (congrArg V.c (congrArg C.bool (by simp[Dc, *])))),rfl⟩
theorem Xh (n:Int):Fun Tryz.prog 206 [vI n] [] (.v (vB (Dc n))) []:=by
 have hN:Bb=274877906944:=rfl
 refine Ap Tryz.func206 Q4 Q4 (w:=let z1:=Ak n 1 536870911;let z2:=Ak n 19000 19999;(.seg [.call [] (.v (vB z1)) []] (.br (.seg [.call [] (.v (vB z2)) []] (.leaf () [])) (.leaf () [])),(Fp 71 [vI n,vI 1,vI 536870911] [] (.v (vB z1)) [])∧Bc z1 ((Fp 71 [vI n,vI 19000,vI 19999] [] (.v (vB z2)) [])∧Lf (.v (vB (!z2))) (.v (vB (Dc n))) [] []) (Lf (.v (vB false)) (.v (vB (Dc n))) [] []))) Q4 ?_
 refine⟨(Be _ _ _),fun h1=>have p1:=Ar h1;?_,fun h1=>have p1:=Aw h1;?_⟩
 exact⟨(Be _ _ _),(congrArg S.v (congrArg V.c (congrArg C.bool (by simp[Dc, *])))),rfl⟩
 exact⟨(congrArg S.v (congrArg V.c (congrArg C.bool (by simp[Dc, *])))),rfl⟩
theorem Ab5 (w:Int):Fun Tryz.prog 122 [vI w] [] (.v (vB (Do w))) []:=by
 have hN:Bb=274877906944:=rfl
 refine Ap Tryz.func122 Q4 Q4 (w:=let z1:=Lf (.v (vB true)) (.v (vB (Do w))) [] [];(.br (.leaf () []) (.br (.leaf () []) (.br (.leaf () []) (.leaf () []))),Bc (decide (w=0)) z1 (Bc (decide (w=1)) z1 (Bc (decide (w=2)) z1 (Lf (.v (vB (decide (w=5)))) (.v (vB (Do w))) [] []))))) Q4 ?_
 refine dsp (fun h1 p1=>?_) fun h1 p1=>?_
 exact⟨(congrArg S.v (congrArg V.c (congrArg C.bool Q82))),rfl⟩
 refine dsp (fun h2 p2=>?_) fun h2 p2=>?_
 exact⟨(congrArg S.v (congrArg V.c (congrArg C.bool Q82))),rfl⟩
 refine dsp (fun h3 p3=>?_) fun h3 p3=>?_
 exact⟨(congrArg S.v (congrArg V.c (congrArg C.bool Q82))),rfl⟩
 exact⟨(congrArg S.v (congrArg V.c (congrArg C.bool Q82))),rfl⟩
theorem Ab6 (w:Int):Fun Tryz.prog 130 [vI w] [] (.v (vB (Do w))) []:=by
 have hN:Bb=274877906944:=rfl
 refine Ap Tryz.func130 Q4 Q4 (w:=let z1:=Lf (.v (vB true)) (.v (vB (Do w))) [] [];(.br (.leaf () []) (.br (.leaf () []) (.br (.leaf () []) (.leaf () []))),Bc (decide (w=0)) z1 (Bc (decide (w=1)) z1 (Bc (decide (w=2)) z1 (Lf (.v (vB (decide (w=5)))) (.v (vB (Do w))) [] []))))) Q4 ?_
 refine dsp (fun h1 p1=>?_) fun h1 p1=>?_
 exact⟨(congrArg S.v (congrArg V.c (congrArg C.bool Q82))),rfl⟩
 refine dsp (fun h2 p2=>?_) fun h2 p2=>?_
 exact⟨(congrArg S.v (congrArg V.c (congrArg C.bool Q82))),rfl⟩
 refine dsp (fun h3 p3=>?_) fun h3 p3=>?_
 exact⟨(congrArg S.v (congrArg V.c (congrArg C.bool Q82))),rfl⟩
 exact⟨(congrArg S.v (congrArg V.c (congrArg C.bool Q82))),rfl⟩
theorem Ab7 (k:Int):Fun Tryz.prog 233 [vI k] [] (.v (vB (Ed k))) []:=by
 have hN:Bb=274877906944:=rfl
 refine Ap Tryz.func233 Q4 Q4 (w:=let z1:S:= .v (vB (Ak k 1 8));(.seg [.call [] z1 []] (.leaf () []),(Fp 69 [vI k,vI 1,vI 8] [] z1 [])∧Lf z1 (.v (vB (Ed k))) [] [])) Q4 ?_
 exact⟨(Cd _ _ _),(congrArg S.v (congrArg V.c (congrArg C.bool (by rfl)))),rfl⟩
theorem Uk (k:Int):Fun Tryz.prog 191 [vI k] [] (.v (vB (Ed k))) []:=by
 have hN:Bb=274877906944:=rfl
 refine Ap Tryz.func191 Q4 Q4 (w:=let z1:S:= .v (vB (Ak k 1 8));(.seg [.call [] z1 []] (.leaf () []),(Fp 71 [vI k,vI 1,vI 8] [] z1 [])∧Lf z1 (.v (vB (Ed k))) [] [])) Q4 ?_
 exact⟨(Be _ _ _),(congrArg S.v (congrArg V.c (congrArg C.bool (by rfl)))),rfl⟩
theorem Zw (k:Int):Fun Tryz.prog 186 [vI k] [] (.v (vB (C3 k))) []:=by
 have hN:Bb=274877906944:=rfl
 refine Ap Tryz.func186 Q4 Q4 (w:=let z1:S:= .v (vB (Ak k 1 5));(.seg [.call [] z1 []] (.leaf () []),(Fp 69 [vI k,vI 1,vI 5] [] z1 [])∧Lf z1 (.v (vB (C3 k))) [] [])) Q4 ?_
 exact⟨(Cd _ _ _),(congrArg S.v (congrArg V.c (congrArg C.bool (by rfl)))),rfl⟩
theorem Lu (k:Int):Fun Tryz.prog 207 [vI k] [] (.v (vB (C3 k))) []:=by
 have hN:Bb=274877906944:=rfl
 refine Ap Tryz.func207 Q4 Q4 (w:=let z1:S:= .v (vB (Ak k 1 5));(.seg [.call [] z1 []] (.leaf () []),(Fp 71 [vI k,vI 1,vI 5] [] z1 [])∧Lf z1 (.v (vB (C3 k))) [] [])) Q4 ?_
 exact⟨(Be _ _ _),(congrArg S.v (congrArg V.c (congrArg C.bool (by rfl)))),rfl⟩
theorem Yh (k:Int):Fun Tryz.prog 184 [vI k] [] (.v (vI (B6 k))) []:=by
 have hN:Bb=274877906944:=rfl
 refine Ap Tryz.func184 Q4 Q4 (w:=let zi:Int→C:= .int .i64;let z1:=List.getD [0,0,0,5,1,2,2,2] (Int.toNat (k-1)) 0;(.seg [.call [] (.v (vB (Ed k))) []] (.br (.leaf () []) (.seg [.as 8 (.v (vI (k-1))),.ce (zi z1)] (.leaf () []))),(Fp 233 [vI k] [] (.v (vB (Ed k))) [])∧Bc (!(Ed k)) (Lf (.v (vI (-1))) (.v (vI (B6 k))) [] []) ((wI (k-1))∧((([zi 0,zi 0,zi 0,zi 5,zi 1,zi 2,zi 2,zi 2]:List C)[Int.toNat (k-1)]?)=some (zi z1))∧(k-1<((8:Nat):Int))∧((0:Int)≤k-1)∧Lf (.v (vI z1)) (.v (vI (B6 k))) [] []))) Q4 ?_
 refine⟨(Ab7 _),fun h1=>have q1:=Ao h1;have p1:=Aw q1;?_,fun h1=>have q1:=An h1;have p1:=Ar q1;?_⟩
 refine⟨(sI ?_),rfl⟩
 rotate_left
 refine⟨(Ac Q2 Q2),(Ak5 (l:=[0,0,0,5,1,2,2,2]) (by simp;omega)),Q2,Q2,(sI ?_),rfl⟩
 rotate_left
 all_goals first|(simp[B6, *];done)|(rcases (show k=1∨k=2∨k=3∨k=4∨k=5∨k=6∨k=7∨k=8 by omega) with rfl|rfl|rfl|rfl|rfl|rfl|rfl|rfl<;>rfl)
theorem P7 (k:Int):Fun Tryz.prog 178 [vI k] [] (.v (vI (B6 k))) []:=by
 have hN:Bb=274877906944:=rfl
 refine Ap Tryz.func178 Q4 Q4 (w:=let z1:S:= .v (vI (B6 k));(.seg [.call [] (.v (vB (Ed k))) []] (.br (.leaf () []) (.br (.leaf () []) (.br (.leaf () []) (.seg [.call [] (.v (vB (C3 k))) []] (.br (.leaf () []) (.leaf () [])))))),(Fp 191 [vI k] [] (.v (vB (Ed k))) [])∧Bc (!(Ed k)) (Lf (.v (vI (-1))) z1 [] []) (Bc (decide (k=4)) (Lf (.v (vI 5)) z1 [] []) (Bc (decide (k=5)) (Lf (.v (vI 1)) z1 [] []) ((Fp 207 [vI k] [] (.v (vB (C3 k))) [])∧Bc (C3 k) (Lf (.v (vI 0)) z1 [] []) (Lf (.v (vI 2)) z1 [] [])))))) Q4 ?_
 refine⟨(Uk _),fun h1=>have q1:=Ao h1;have p1:=Aw q1;?_,fun h1=>have q1:=An h1;have p1:=Ar q1;?_⟩
 refine⟨(sI ?_),rfl⟩
 rotate_left
 refine dsp (fun h2 p2=>?_) fun h2 p2=>?_
 refine⟨(sI ?_),rfl⟩
 rotate_left
 refine dsp (fun h3 p3=>?_) fun h3 p3=>?_
 refine⟨(sI ?_),rfl⟩
 rotate_left
 refine⟨(Lu _),fun h4=>have p4:=Ar h4;?_,fun h4=>have p4:=Aw h4;?_⟩
 refine⟨(sI ?_),rfl⟩
 rotate_left
 refine⟨(sI ?_),rfl⟩
 rotate_left
 all_goals first|(simp[B6, *]<;>(repeat' split)<;>omega)|(subst_vars;rfl)
theorem E6 (w:Int):Fun Tryz.prog 189 [vI w] [] (.v (vI (Az w))) []:=by
 have hN:Bb=274877906944:=rfl
 refine Ap Tryz.func189 Q4 Q4 (w:=let z1:S:= .v (vI (Az w));(.br (.leaf () []) (.br (.leaf () []) (.leaf () [])),Bc (decide (w=1)) (Lf (.v (vI 8)) z1 [] []) (Bc (decide (w=5)) (Lf (.v (vI 4)) z1 [] []) (Lf (.v (vI 0)) z1 [] [])))) Q4 ?_
 refine dsp (fun h1 p1=>?_) fun h1 p1=>?_
 exact⟨(congrArg S.v (congrArg V.c (congrArg (C.int .i64) (by simp[Az, *])))),rfl⟩
 refine dsp (fun h2 p2=>?_) fun h2 p2=>?_
 exact⟨(congrArg S.v (congrArg V.c (congrArg (C.int .i64) (by simp[Az, *])))),rfl⟩
 exact⟨(congrArg S.v (congrArg V.c (congrArg (C.int .i64) (by simp[Az, *])))),rfl⟩
theorem Du (w:Int):Fun Tryz.prog 177 [vI w] [] (.v (vI (Az w))) []:=by
 have hN:Bb=274877906944:=rfl
 refine Ap Tryz.func177 Q4 Q4 (w:=let z1:S:= .v (vI (Az w));(.br (.leaf () []) (.br (.leaf () []) (.leaf () [])),Bc (decide (w=1)) (Lf (.v (vI 8)) z1 [] []) (Bc (decide (w=5)) (Lf (.v (vI 4)) z1 [] []) (Lf (.v (vI 0)) z1 [] [])))) Q4 ?_
 refine dsp (fun h1 p1=>?_) fun h1 p1=>?_
 exact⟨(congrArg S.v (congrArg V.c (congrArg (C.int .i64) (by simp[Az, *])))),rfl⟩
 refine dsp (fun h2 p2=>?_) fun h2 p2=>?_
 exact⟨(congrArg S.v (congrArg V.c (congrArg (C.int .i64) (by simp[Az, *])))),rfl⟩
 exact⟨(congrArg S.v (congrArg V.c (congrArg (C.int .i64) (by simp[Az, *])))),rfl⟩
theorem Afk (f:Fld):Fun Tryz.prog 185 [.agg (Fr f)] [] (.v (vB (Tw f))) []:=by
 have hN:Bb=274877906944:=rfl
 refine Ap Tryz.func185 Q4 Q4 (w:=let z1:S:= .v (vB (C3 f.kind));(.br (.seg [.call [] z1 []] (.leaf () [])) (.leaf () []),Bc f.rep ((Fp 186 [vI f.kind] [] z1 [])∧Lf z1 (.v (vB (Tw f))) [] []) (Lf (.v (vB false)) (.v (vB (Tw f))) [] []))) Q4 ?_
 refine⟨fun h1=>?_,fun h1=>?_⟩
 exact⟨(Zw _),(congrArg S.v (congrArg V.c (congrArg C.bool (by simp[Tw, *])))),rfl⟩
 exact⟨(congrArg S.v (congrArg V.c (congrArg C.bool (by simp[Tw, *])))),rfl⟩
theorem Vs (f:Fld):Fun Tryz.prog 181 [.agg (Fr f)] [] (.v (vB (Tw f))) []:=by
 have hN:Bb=274877906944:=rfl
 refine Ap Tryz.func181 Q4 Q4 (w:=let z1:S:= .v (vB (C3 f.kind));(.br (.seg [.call [] z1 []] (.leaf () [])) (.leaf () []),Bc f.rep ((Fp 207 [vI f.kind] [] z1 [])∧Lf z1 (.v (vB (Tw f))) [] []) (Lf (.v (vB false)) (.v (vB (Tw f))) [] []))) Q4 ?_
 refine⟨fun h1=>?_,fun h1=>?_⟩
 exact⟨(Lu _),(congrArg S.v (congrArg V.c (congrArg C.bool (by simp[Tw, *])))),rfl⟩
 exact⟨(congrArg S.v (congrArg V.c (congrArg C.bool (by simp[Tw, *])))),rfl⟩
theorem Kb (f:Fld) (w:Int) (hp1:(0:Int)≤w):Fun Tryz.prog 123 [.agg (Fr f),vI w] [] (.v (vB (Da f w))) []:=by
 have hN:Bb=274877906944:=rfl
 refine Ap Tryz.func123 Q4 Q4 (w:=let z1:S:= .v (vB (Da f w));let z2:S:= .v (vB (Tw f));(.seg [.call [] (.v (vI (B6 f.kind))) []] (.br (.leaf () []) (.br (.seg [.call [] z2 []] (.leaf () [])) (.leaf () []))),(Fp 184 [vI f.kind] [] (.v (vI (B6 f.kind))) [])∧Bc (decide (w=B6 f.kind)) (Lf (.v (vB true)) z1 [] []) (Bc (decide (w=2)) ((Fp 185 [.agg (Fr f)] [] z2 [])∧Lf z2 z1 [] []) (Lf (.v (vB false)) z1 [] [])))) Q4 ?_
 refine⟨(Yh _),dsp (fun h1 p1=>?_) fun h1 p1=>?_⟩
 refine⟨(sB ?_),rfl⟩
 rotate_left
 refine dsp (fun h2 p2=>?_) fun h2 p2=>?_
 refine⟨(Afk f),(sB ?_),rfl⟩
 rotate_left
 refine⟨(sB ?_),rfl⟩
 rotate_left
 all_goals first|(simp[Da, *]<;>(repeat' split)<;>omega)|(simp[Da,B6, *]<;>(repeat' split)<;>omega)
theorem Zx (f:Fld) (w:Int) (hp1:(0:Int)≤w):Fun Tryz.prog 131 [.agg (Fr f),vI w] [] (.v (vB (Da f w))) []:=by
 have hN:Bb=274877906944:=rfl
 refine Ap Tryz.func131 Q4 Q4 (w:=let z1:S:= .v (vB (Da f w));let z2:S:= .v (vB (Tw f));(.seg [.call [] (.v (vB (Ed f.kind))) []] (.br (.seg [.call [] (.v (vI (B6 f.kind))) []] (.br (.leaf () []) (.br (.seg [.call [] z2 []] (.leaf () [])) (.leaf () [])))) (.br (.seg [.call [] z2 []] (.leaf () [])) (.leaf () []))),(Fp 191 [vI f.kind] [] (.v (vB (Ed f.kind))) [])∧Bc (Ed f.kind) ((Fp 178 [vI f.kind] [] (.v (vI (B6 f.kind))) [])∧Bc (decide (w=B6 f.kind)) (Lf (.v (vB true)) z1 [] []) (Bc (decide (w=2)) ((Fp 181 [.agg (Fr f)] [] z2 [])∧Lf z2 z1 [] []) (Lf (.v (vB false)) z1 [] []))) (Bc (decide (w=2)) ((Fp 181 [.agg (Fr f)] [] z2 [])∧Lf z2 z1 [] []) (Lf (.v (vB false)) z1 [] [])))) Q4 ?_
 refine⟨(Uk _),fun h1=>have p1:=Ar h1;?_,fun h1=>have p1:=Aw h1;?_⟩
 refine⟨(P7 _),dsp (fun h2 p2=>?_) fun h2 p2=>?_⟩
 refine⟨(sB ?_),rfl⟩
 rotate_left
 refine dsp (fun h3 p3=>?_) fun h3 p3=>?_
 refine⟨(Vs f),(sB ?_),rfl⟩
 rotate_left
 refine⟨(sB ?_),rfl⟩
 rotate_left
 refine dsp (fun h2 p2=>?_) fun h2 p2=>?_
 refine⟨(Vs f),(sB ?_),rfl⟩
 rotate_left
 refine⟨(sB ?_),rfl⟩
 rotate_left
 all_goals first|(simp[Da, *]<;>(repeat' split)<;>omega)|(simp[Da,B6, *]<;>(repeat' split)<;>omega)
structure Mv where
 u:Int
 out:List Int
def Mw (u:Int):Fam:=⟨Mv,fun q1=>[(0,.v (.c (.int .u64 q1.u))),(3,.v (vO 0))],fun q1=>[.lst .u8 q1.out],fun q1=>(0:Int)≤q1.u∧q1.u≤18446744073709551615∧List.map A9 q1.out++Dy q1.u=Dy u∧q1.out.length+List.length (Dy q1.u)≤10,fun q1=>q1.u.toNat⟩
theorem Um (u:Int) (hp1:(0:Int)≤u∧u≤18446744073709551615):Fun Tryz.prog 107 [.c (.int .u64 u)] [] (.v (vT (Dy u))) []:=by
 have hN:Bb=274877906944:=rfl
 refine Ap Tryz.func107 Q4 Q4 (w:=let z2:=Mw u;(.seg [.ty .u8,.at 0,.keep [0,3],.sel [0]] (.loop z2 fun q1=> .br (.seg [.as 9 (.v (.c (.int .u64 (q1.u % 128)))),.as 10 (.v (.c (.int .u64 (q1.u % 128+128)))),.as 11 (.v (.c (.int .u8 (q1.u % 128+128)))),.ty .u8,.ty .u8,.as 15 (.v (.c (.int .u64 (q1.u / 128)))),.at 0,.keep [0,3],.sel [2]] (.next)) (.seg [.as 18 (.v (.c (.int .u8 q1.u))),.ty .u8,.ty .u8] (.leaf () []))),z2.Has [(0,.v (.c (.int .u64 u))),(3,.v (vO 0))] [.lst .u8 ([]:List Int)]∧∀q1,z2.inv q1→(let z1:=q1.u % 128+128;Bc (decide (127<q1.u)) (((128:Int)≠0)∧((.v (.c (.int .u64 (Int.tmod q1.u 128))):S)= .v (.c (.int .u64 (q1.u % 128))))∧((.v (.c (.int .u64 (IntKind.u64.wrap ((q1.u % 128)+128)))):S)= .v (.c (.int .u64 z1)))∧((.v (.c (.int .u8 (IntKind.u8.wrap z1))):S)= .v (.c (.int .u8 z1)))∧(q1.out.length+List.length [q1.u % 128+128]≤Bb)∧((128:Int)≠0)∧((.v (.c (.int .u64 (IntKind.u64.wrap (Int.tdiv q1.u 128)))):S)= .v (.c (.int .u64 (q1.u / 128))))∧z2.Nxt q1 [(0,.v (.c (.int .u64 (q1.u / 128)))),(3,.v (vO 0))] [.lst .u8 (q1.out++[q1.u % 128+128])]) (((.v (.c (.int .u8 (IntKind.u8.wrap (q1.u)))):S)= .v (.c (.int .u8 q1.u)))∧(q1.out.length+List.length [q1.u]≤Bb)∧Lf (.v (vT (List.map A9 (q1.out++[q1.u])))) (.v (vT (Dy u))) [] [])))) Q4 ?_
 refine⟨Bf (j:=(⟨u,([]:List Int)⟩:Mv)) rfl rfl (by dsimp only[Mw];exact⟨by omega,by omega,by simp,by have:=Ab1 (u:=u) Q2;unfold Kr at this;simp;omega⟩),fun (q1:Mv) hq_q1=>?_⟩
 have hi_q1:(0:Int)≤q1.u∧q1.u≤18446744073709551615∧List.map A9 q1.out++Dy q1.u=Dy u∧q1.out.length+List.length (Dy q1.u)≤10:=hq_q1
 obtain ⟨v1,v2,v3,v4⟩:=hi_q1
 refine dsp (fun h1 p1=>?_) fun h1 p1=>?_
 exact⟨Q28,(X9 Q2),(Bv Q2 Q2),(Lr Q2 Q2),(by have:=Xe q1.u;simp;omega),Q28,(Vj Q2 Q2 Q28),A3 (j:=(⟨q1.u / 128,q1.out++[q1.u % 128+128]⟩:Mv)) rfl rfl (by dsimp only[Mw];exact⟨by omega,by omega,by rw[←v3,Xd (u:=q1.u) (by omega) (by omega)];simp[A9],by rw[Xd (u:=q1.u) (by omega) (by omega)] at v4;simp at v4 ⊢;omega⟩) (by dsimp only[Mw];omega)⟩
 refine⟨(Lr Q2 Q2),(by have:=Xe q1.u;simp;omega),(congrArg S.v (congrArg V.c (congrArg C.str ?_))),rfl⟩
 rotate_left
 all_goals rw[←v3,Zo (u:=q1.u) (by omega) (by omega)];simp[A9]
structure Ajx where
 u:Int
 n:Int
structure Ajy where
 u:Int
 out:List Int
 v:Nat
structure Ag4 where
 u:Int
 k:Nat
structure Ag5 where
 u:Int
 k:Nat
structure Ajz where
 u:Int
 v:Nat
structure Aj0 where
 u:Int
 i:Int
structure Aj1 where
 u:Int
 out:List Int
 v:Nat
structure Aj2 where
 u:Int
 out:List Int
 i:Nat
theorem Cr (n:Int) (w:Int):Fun Tryz.prog 176 [vI n,vI w] [] (.v (.c (.int .u64 (Cx n w)))) []:=by
 have hN:Bb=274877906944:=rfl
 refine Ap Tryz.func176 Q4 Q4 (w:=let z2:=(8*n)+w;let z3:=Ak n 1 536870911;let z4:S:= .v (.c (.int .u64 (Cx n w)));let z1:=Lf (.v (.c (.int .u64 0))) z4 [] [];(.seg [.call [] (.v (vB z3)) []] (.br (.leaf () []) (.seg [.call [] (.v (vB (Ak w 0 7))) []] (.br (.leaf () []) (.seg [.as 14 (.v (vI (8*n))),.as 16 (.v (vI z2)),.as 17 (.v (.c (.int .u64 z2)))] (.leaf () []))))),(Fp 71 [vI n,vI 1,vI 536870911] [] (.v (vB z3)) [])∧Bc (!z3) z1 ((Fp 71 [vI w,vI 0,vI 7] [] (.v (vB (Ak w 0 7))) [])∧Bc (!(Ak w 0 7)) z1 ((wI (8*n))∧(wI z2)∧(wU z2)∧Lf (.v (.c (.int .u64 z2))) z4 [] [])))) Q4 ?_
 refine⟨(Be _ _ _),fun h1=>have q1:=Ao h1;have p1:=Aw q1;?_,fun h1=>have q1:=An h1;have p1:=Ar q1;?_⟩
 exact⟨(congrArg S.v (congrArg V.c (congrArg (C.int .u64) (by simp[Cx, *])))),rfl⟩
 refine⟨(Be _ _ _),fun h2=>have q2:=Ao h2;have p2:=Aw q2;?_,fun h2=>have q2:=An h2;have p2:=Ar q2;?_⟩
 exact⟨(congrArg S.v (congrArg V.c (congrArg (C.int .u64) (by simp[Cx, *])))),rfl⟩
 exact⟨(Ac Q2 Q2),(Ac Q2 Q2),(Bv Q2 Q2),(congrArg S.v (congrArg V.c (congrArg (C.int .u64) (by simp[Cx, *])))),rfl⟩
theorem Aj3 (u:Int) (hp1:(0:Int)≤u∧u≤18446744073709551615):Fun Tryz.prog 120 [.c (.int .u64 u)] [] (.tup [vI (Bo u),vI (Aj u),vB (Mo u)]) []:=by
 have hN:Bb=274877906944:=rfl
 refine Ap Tryz.func120 Q4 Q4 (w:=let z1:S:= .tup [vI (Bo u),vI (Aj u),vB (Mo u)];let z2:=(.v (.c (.int .u64 (Int.fdiv u (2 ^ 3)))):S)= .v (.c (.int .u64 (u / 8)));let z3:=Lf (.tup [vI 0,vI 0,vB false]) z1 [] [];(.br (.leaf () []) (.seg [.as 9 (.v (.c (.int .u64 (u / 8))))] (.br (.leaf () []) (.seg [.as 13 (.v (.c (.int .u64 (u / 8)))),.as 14 (.v (vI (u / 8))),.as 16 (.v (.c (.int .u64 (u % 8)))),.as 17 (.v (vI (u % 8)))] (.leaf () [])))),Bc (decide (u<8)) z3 (((0:Int)≤3)∧z2∧Bc (decide (536870911<u / 8)) z3 (((0:Int)≤3)∧z2∧(wI (u / 8))∧((.v (.c (.int .u64 (IntKind.u64.wrap (((BitVec.ofInt 64 u&&&BitVec.ofInt 64 7).toNat:Nat))))):S)= .v (.c (.int .u64 (u % 8))))∧(wI (u % 8))∧Lf (.tup [vI (u / 8),vI (u % 8),vB true]) z1 [] [])))) Q4 ?_
 refine dsp (fun h1 p1=>?_) fun h1 p1=>?_
 refine⟨(congrArg S.tup (Ah (congrArg V.c (congrArg (C.int .i64) ?_)) (Ah (congrArg V.c (congrArg (C.int .i64) ?_)) (Ah (congrArg V.c (congrArg C.bool ?_)) rfl)))),rfl⟩
 rotate_left 3
 refine⟨Q28,(W9 (k:=3) Q28 Q28),dsp (fun h2 p2=>?_) fun h2 p2=>?_⟩
 refine⟨(congrArg S.tup (Ah (congrArg V.c (congrArg (C.int .i64) ?_)) (Ah (congrArg V.c (congrArg (C.int .i64) ?_)) (Ah (congrArg V.c (congrArg C.bool ?_)) rfl)))),rfl⟩
 rotate_left 3
 refine⟨Q28,(W9 (k:=3) Q28 Q28),(Ac Q2 Q2),(Aat (k:=3) Q28 Q28),(Ac Q2 Q2),(congrArg S.tup (Ah (congrArg V.c (congrArg (C.int .i64) ?_)) (Ah (congrArg V.c (congrArg (C.int .i64) ?_)) (Ah (congrArg V.c (congrArg C.bool ?_)) rfl)))),rfl⟩
 rotate_left 3
 all_goals first|((have ht:Mo u=true:=by (simp[Mo,Ak];omega));simp[Bo,Aj,ht])|((have ht:Mo u=false:=by (simp[Mo,Ak];omega));simp[Bo,Aj,ht])
theorem Aj4 (u:Int) (hp1:(0:Int)≤u∧u≤18446744073709551615):Fun Tryz.prog 128 [.c (.int .u64 u)] [] (.tup [vI (Bo u),vI (Aj u),vB (Mo u)]) []:=by
 have hN:Bb=274877906944:=rfl
 refine Ap Tryz.func128 Q4 Q4 (w:=let z1:S:= .tup [vI (Bo u),vI (Aj u),vB (Mo u)];let z2:=Lf (.tup [vI 0,vI 0,vB false]) z1 [] [];(.br (.leaf () []) (.br (.leaf () []) (.seg [.as 12 (.v (.c (.int .u64 (u / 8)))),.as 13 (.v (vI (u / 8))),.as 15 (.v (.c (.int .u64 (u % 8)))),.as 16 (.v (vI (u % 8)))] (.leaf () []))),Bc (decide (u<8)) z2 (Bc (decide (4294967295<u)) z2 (((8:Int)≠0)∧((.v (.c (.int .u64 (IntKind.u64.wrap (Int.tdiv u 8)))):S)= .v (.c (.int .u64 (u / 8))))∧(wI (u / 8))∧((8:Int)≠0)∧((.v (.c (.int .u64 (Int.tmod u 8))):S)= .v (.c (.int .u64 (u % 8))))∧(wI (u % 8))∧Lf (.tup [vI (u / 8),vI (u % 8),vB true]) z1 [] [])))) Q4 ?_
 refine dsp (fun h1 p1=>?_) fun h1 p1=>?_
 refine⟨(congrArg S.tup (Ah (congrArg V.c (congrArg (C.int .i64) ?_)) (Ah (congrArg V.c (congrArg (C.int .i64) ?_)) (Ah (congrArg V.c (congrArg C.bool ?_)) rfl)))),rfl⟩
 rotate_left 3
 refine dsp (fun h2 p2=>?_) fun h2 p2=>?_
 refine⟨(congrArg S.tup (Ah (congrArg V.c (congrArg (C.int .i64) ?_)) (Ah (congrArg V.c (congrArg (C.int .i64) ?_)) (Ah (congrArg V.c (congrArg C.bool ?_)) rfl)))),rfl⟩
 rotate_left 3
 refine⟨Q28,(Vj Q2 Q2 Q28),(Ac Q2 Q2),Q28,(X9 Q2),(Ac Q2 Q2),(congrArg S.tup (Ah (congrArg V.c (congrArg (C.int .i64) ?_)) (Ah (congrArg V.c (congrArg (C.int .i64) ?_)) (Ah (congrArg V.c (congrArg C.bool ?_)) rfl)))),rfl⟩
 rotate_left 3
 all_goals first|((have ht:Mo u=true:=by (simp[Mo,Ak];omega));simp[Bo,Aj,ht])|((have ht:Mo u=false:=by (simp[Mo,Ak];omega));simp[Bo,Aj,ht])
theorem Afm (c:Int) (a:Int):Fun Tryz.prog 157 [vI c,vI a] [] (.v (.agg (cEv (A2 c a)))) []:=by
 have hN:Bb=274877906944:=rfl
 refine Ap Tryz.func157 Q4 Q4 (w:=(.leaf () [],Lf (.v (.agg [.int .i64 10,.int .i64 0,.int .u64 0,.int .i64 0,.str [],.int .i64 c,.int .i64 a])) (.v (.agg (cEv (A2 c a)))) [] [])) Q4 ?_
 have hm1:A2 c a=(⟨10,0,0,0,[],c,a⟩:Ev):=by rfl
 exact⟨Q6,rfl⟩
theorem Afn (c:Int) (a:Int):Fun Tryz.prog 113 [vI c,vI a] [] (.v (.agg (cEv (A2 c a)))) []:=by
 have hN:Bb=274877906944:=rfl
 refine Ap Tryz.func113 Q4 Q4 (w:=(.leaf () [],Lf (.v (.agg [.int .i64 10,.int .i64 0,.int .u64 0,.int .i64 0,.str [],.int .i64 c,.int .i64 a])) (.v (.agg (cEv (A2 c a)))) [] [])) Q4 ?_
 have hm1:A2 c a=(⟨10,0,0,0,[],c,a⟩:Ev):=by rfl
 exact⟨Q6,rfl⟩
theorem Xi (f:Fld) (u:Int) (hp1:(0:Int)≤u):Fun Tryz.prog 126 [.agg (Fr f),.c (.int .u64 u)] [] (.v (.agg (cEv (Gi f u)))) []:=by
 have hN:Bb=274877906944:=rfl
 refine Ap Tryz.func126 Q4 Q4 (w:=let zi:Int→C:= .int .i64;let z1:List C:=[zi 2,zi f.number,.int .u64 u,zi 0,.str [],zi 0,zi 0];let z2:=Lf (.v (.agg z1)) (.v (.agg (cEv (Gi f u)))) [] [];(.br (.br (.leaf () []) (.leaf () [])) (.leaf () []),Bc (decide (f.kind=3)) (Bc (!decide (u=0)) (Lf (.v (.agg [zi 2,zi f.number,.int .u64 1,zi 0,.str [],zi 0,zi 0])) (.v (.agg (cEv (Gi f u)))) [] []) z2) z2)) Q4 ?_
 refine dsp (fun h1 p1=>?_) fun h1 p1=>?_
 refine⟨fun h2=>have q2:=Ao h2;have p2:=of_decide_eq_false q2;?_,fun h2=>have q2:=An h2;have p2:=of_decide_eq_true q2;?_⟩
 refine zE (Gi f u) (⟨2,f.number,1,0,[],0,0⟩:Ev) (fun hm1=>⟨Q6,rfl⟩) ?_
 rotate_left
 refine zE (Gi f u) (⟨2,f.number,u,0,[],0,0⟩:Ev) (fun hm1=>⟨Q6,rfl⟩) ?_
 rotate_left
 refine zE (Gi f u) (⟨2,f.number,u,0,[],0,0⟩:Ev) (fun hm1=>⟨Q6,rfl⟩) ?_
 rotate_left
 all_goals simp[Gi, *]<;>omega
theorem S7 (f:Fld) (u:Int) (hp1:(0:Int)≤u):Fun Tryz.prog 195 [.agg (Fr f),.c (.int .u64 u)] [] (.v (.agg (cEv (Gi f u)))) []:=by
 have hN:Bb=274877906944:=rfl
 refine Ap Tryz.func195 Q4 Q4 (w:=let zi:Int→C:= .int .i64;let z1:List C:=[zi 2,zi f.number,.int .u64 u,zi 0,.str [],zi 0,zi 0];let z2:=Lf (.v (.agg z1)) (.v (.agg (cEv (Gi f u)))) [] [];(.br (.br (.leaf () []) (.leaf () [])) (.leaf () []),Bc (decide (f.kind=3)) (Bc (decide (1<u)) (Lf (.v (.agg [zi 2,zi f.number,.int .u64 1,zi 0,.str [],zi 0,zi 0])) (.v (.agg (cEv (Gi f u)))) [] []) z2) z2)) Q4 ?_
 refine dsp (fun h1 p1=>?_) fun h1 p1=>?_
 refine dsp (fun h2 p2=>?_) fun h2 p2=>?_
 refine zE (Gi f u) (⟨2,f.number,1,0,[],0,0⟩:Ev) (fun hm1=>⟨Q6,rfl⟩) ?_
 rotate_left
 refine zE (Gi f u) (⟨2,f.number,u,0,[],0,0⟩:Ev) (fun hm1=>⟨Q6,rfl⟩) ?_
 rotate_left
 refine zE (Gi f u) (⟨2,f.number,u,0,[],0,0⟩:Ev) (fun hm1=>⟨Q6,rfl⟩) ?_
 rotate_left
 all_goals simp[Gi, *]<;>omega
theorem Afo (u:Utf):Fun Tryz.prog 148 [.agg (J8 u)] [] (.v (vB (Eo u))) []:=by
 have hN:Bb=274877906944:=rfl
 refine Ap Tryz.func148 Q4 Q4 (w:=let z1:=decide (u.low=128)&&decide (u.high=191);let z2:S:= .v (vB (Eo u));let z3:S:= .v (vB true);let z4:=decide (u.want=2)&&(decide (u.low=160)&&decide (u.high=191));let z5:=decide (u.want=2)&&(decide (u.low=128)&&decide (u.high=159));let z6:=decide (u.want=3)&&(decide (u.low=144)&&decide (u.high=191));let z7:=decide (u.want=0)&&(decide (u.low=0)&&decide (u.high=0));(.br (.seg [.br true] (.leaf () [])) (.br (.seg [.br true] (.leaf () [])) (.br (.seg [.br true] (.leaf () [])) (.br (.seg [.br true] (.leaf () [])) (.br (.seg [.br true] (.leaf () [])) (.br (.seg [.br true] (.leaf () [])) (.br (.seg [.br true] (.leaf () [])) (.br (.leaf () []) (.leaf () [])))))))),Bc z7 ((z7=true)∧Lf z3 z2 [] []) (Bc (decide (u.want=1)&&z1) (((decide (u.want=1)&&z1)=true)∧Lf z3 z2 [] []) (Bc (decide (u.want=2)&&z1) (((decide (u.want=2)&&z1)=true)∧Lf z3 z2 [] []) (Bc (decide (u.want=3)&&z1) (((decide (u.want=3)&&z1)=true)∧Lf z3 z2 [] []) (Bc z4 ((z4=true)∧Lf z3 z2 [] []) (Bc z5 ((z5=true)∧Lf z3 z2 [] []) (Bc z6 ((z6=true)∧Lf z3 z2 [] []) (Bc (decide (u.want=3)&&(decide (u.low=128)&&decide (u.high=143))) (Lf z3 z2 [] []) (Lf (.v (vB false)) z2 [] [])))))))))) Q4 ?_
 refine⟨fun h1=>have p1:=(Ch dT (Ch dT dT)).1 h1;?_,fun h1=>have p1:=(Ci dT (Ci dT dF)).1 h1;?_⟩
 refine⟨h1,(sB ?_),rfl⟩
 rotate_left
 refine⟨fun h2=>have p2:=(Ch dT (Ch dT dT)).1 h2;?_,fun h2=>have p2:=(Ci dT (Ci dT dF)).1 h2;?_⟩
 refine⟨h2,(sB ?_),rfl⟩
 rotate_left
 refine⟨fun h3=>have p3:=(Ch dT (Ch dT dT)).1 h3;?_,fun h3=>have p3:=(Ci dT (Ci dT dF)).1 h3;?_⟩
 refine⟨h3,(sB ?_),rfl⟩
 rotate_left
 refine⟨fun h4=>have p4:=(Ch dT (Ch dT dT)).1 h4;?_,fun h4=>have p4:=(Ci dT (Ci dT dF)).1 h4;?_⟩
 refine⟨h4,(sB ?_),rfl⟩
 rotate_left
 refine⟨fun h5=>have p5:=(Ch dT (Ch dT dT)).1 h5;?_,fun h5=>have p5:=(Ci dT (Ci dT dF)).1 h5;?_⟩
 refine⟨h5,(sB ?_),rfl⟩
 rotate_left
 refine⟨fun h6=>have p6:=(Ch dT (Ch dT dT)).1 h6;?_,fun h6=>have p6:=(Ci dT (Ci dT dF)).1 h6;?_⟩
 refine⟨h6,(sB ?_),rfl⟩
 rotate_left
 refine⟨fun h7=>have p7:=(Ch dT (Ch dT dT)).1 h7;?_,fun h7=>have p7:=(Ci dT (Ci dT dF)).1 h7;?_⟩
 refine⟨h7,(sB ?_),rfl⟩
 rotate_left
 refine⟨fun h8=>have p8:=(Ch dT (Ch dT dT)).1 h8;?_,fun h8=>have p8:=(Ci dT (Ci dT dF)).1 h8;?_⟩
 refine⟨(sB ?_),rfl⟩
 rotate_left
 refine⟨(sB ?_),rfl⟩
 rotate_left
 all_goals first|(rw[Bool.eq_iff_iff];simp[Eo,Nv];omega)|(rw[Bool.eq_iff_iff];simp[Eo,Nv,Ak];omega)|(simp_all[Eo,Nv,Ak];done)
theorem Afp (u:Utf):Fun Tryz.prog 277 [.agg (J8 u)] [] (.v (vB (Eo u))) []:=by
 have hN:Bb=274877906944:=rfl
 refine Ap Tryz.func277 Q4 Q4 (w:=let z2:S:= .v (vB (Eo u));let z3:=decide (u.low=128);let z1:=(z3=false)∧Lf (.v (vB false)) z2 [] [];let z4:=decide (u.high=191);let z5:S:= .v (vB (Ak u.want 1 3));let z6:=Lf (.v (vB true)) z2 [] [];let z7:S:= .v (vB (decide (u.high=159)));let z8:S:= .v (vB (decide (u.high=143)));(.br (.leaf () []) (.br (.br (.seg [.call [] z5 []] (.leaf () [])) (.br (.br (.seg [.br false,.br true] (.leaf () [])) (.seg [.br true] (.leaf () []))) (.br (.br (.seg [.br false,.br true] (.leaf () [])) (.seg [.br true] (.leaf () []))) (.leaf () [])))) (.br (.br (.br (.leaf () []) (.seg [.br false] (.leaf () []))) (.seg [.br false] (.leaf () []))) (.br (.br (.br (.leaf () []) (.seg [.br false] (.leaf () []))) (.seg [.br false] (.leaf () []))) (.leaf () [])))),Bc (decide (u.want=0)&&(decide (u.low=0)&&decide (u.high=0))) z6 (Bc z3 (Bc z4 ((Fp 71 [vI u.want,vI 1,vI 3] [] z5 [])∧Lf z5 z2 [] []) (Bc (decide (u.want=2)) (Bc (decide (u.low=160)) ((z4=false)∧(z3=true)∧Lf z7 z2 [] []) ((z3=true)∧Lf z7 z2 [] [])) (Bc (decide (u.want=3)) (Bc (decide (u.low=144)) ((z4=false)∧(z3=true)∧Lf z8 z2 [] []) ((z3=true)∧Lf z8 z2 [] [])) (Lf (.v (vB false)) z2 [] [])))) (Bc (decide (u.want=2)) (Bc (decide (u.low=160)) (Bc z4 z6 z1) z1) (Bc (decide (u.want=3)) (Bc (decide (u.low=144)) (Bc z4 z6 z1) z1) (Lf (.v (vB false)) z2 [] [])))))) Q4 ?_
 refine⟨fun h1=>have p1:=(Ch dT (Ch dT dT)).1 h1;?_,fun h1=>have p1:=(Ci dT (Ci dT dF)).1 h1;?_⟩
 refine⟨(sB ?_),rfl⟩
 rotate_left
 refine dsp (fun h2 p2=>?_) fun h2 p2=>?_
 refine dsp (fun h3 p3=>?_) fun h3 p3=>?_
 refine⟨(Be _ _ _),(sB ?_),rfl⟩
 rotate_left
 refine dsp (fun h4 p4=>?_) fun h4 p4=>?_
 refine dsp (fun h5 p5=>?_) fun h5 p5=>?_
 refine⟨h3,h2,(sB ?_),rfl⟩
 rotate_left
 refine⟨h2,(sB ?_),rfl⟩
 rotate_left
 refine dsp (fun h5 p5=>?_) fun h5 p5=>?_
 refine dsp (fun h6 p6=>?_) fun h6 p6=>?_
 refine⟨h3,h2,(sB ?_),rfl⟩
 rotate_left
 refine⟨h2,(sB ?_),rfl⟩
 rotate_left
 refine⟨(sB ?_),rfl⟩
 rotate_left
 refine dsp (fun h3 p3=>?_) fun h3 p3=>?_
 refine dsp (fun h4 p4=>?_) fun h4 p4=>?_
 refine dsp (fun h5 p5=>?_) fun h5 p5=>?_
 refine⟨(sB ?_),rfl⟩
 rotate_left
 refine⟨h2,(sB ?_),rfl⟩
 rotate_left
 refine⟨h2,(sB ?_),rfl⟩
 rotate_left
 refine dsp (fun h4 p4=>?_) fun h4 p4=>?_
 refine dsp (fun h5 p5=>?_) fun h5 p5=>?_
 refine dsp (fun h6 p6=>?_) fun h6 p6=>?_
 refine⟨(sB ?_),rfl⟩
 rotate_left
 refine⟨h2,(sB ?_),rfl⟩
 rotate_left
 refine⟨h2,(sB ?_),rfl⟩
 rotate_left
 refine⟨(sB ?_),rfl⟩
 rotate_left
 all_goals first|(rw[Bool.eq_iff_iff];simp[Eo,Nv];omega)|(rw[Bool.eq_iff_iff];simp[Eo,Nv,Ak];omega)|(simp_all[Eo,Nv,Ak];done)
theorem Ada (b:Int):Fun Tryz.prog 275 [vI b] [] (.tup [.agg (J8 ((A6 b).getD utf0)),vB (A6 b).isSome]) []:=by
 have hN:Bb=274877906944:=rfl
 refine Ap Tryz.func275 Q4 Q4 (w:=let zi:Int→C:= .int .i64;let z1:S:= .tup [.agg (J8 ((A6 b).getD utf0)),vB (A6 b).isSome];let z2:=Ak b 194 223;let z3:=Ak b 224 239;let z4:=Ak b 240 244;let z5:=decide (b=224);let z6:=decide (b=237);let z7:=decide (b=240);let z8:=decide (b=244);(.seg [.call [] (.v (vB (Ak b 0 127))) []] (.br (.leaf () []) (.seg [.call [] (.v (vB z2)) []] (.br (.br (.leaf () []) (.br (.leaf () []) (.br (.leaf () []) (.br (.leaf () []) (.leaf () []))))) (.seg [.call [] (.v (vB z3)) []] (.br (.br (.leaf () []) (.br (.leaf () []) (.br (.leaf () []) (.br (.leaf () []) (.leaf () []))))) (.seg [.call [] (.v (vB z4)) []] (.br (.br (.leaf () []) (.br (.leaf () []) (.br (.leaf () []) (.br (.leaf () []) (.leaf () []))))) (.leaf () [])))))))),(Fp 69 [vI b,vI 0,vI 127] [] (.v (vB (Ak b 0 127))) [])∧Bc (Ak b 0 127) (Lf (.tup [.agg [zi 0,zi 0,zi 0],vB true]) z1 [] []) ((Fp 69 [vI b,vI 194,vI 223] [] (.v (vB z2)) [])∧Bc z2 (Bc z5 (Lf (.tup [.agg [zi 1,zi 160,zi 191],vB true]) z1 [] []) (Bc z6 (Lf (.tup [.agg [zi 1,zi 128,zi 159],vB true]) z1 [] []) (Bc z7 (Lf (.tup [.agg [zi 1,zi 144,zi 191],vB true]) z1 [] []) (Bc z8 (Lf (.tup [.agg [zi 1,zi 128,zi 143],vB true]) z1 [] []) (Lf (.tup [.agg [zi 1,zi 128,zi 191],vB true]) z1 [] []))))) ((Fp 69 [vI b,vI 224,vI 239] [] (.v (vB z3)) [])∧Bc z3 (Bc z5 (Lf (.tup [.agg [zi 2,zi 160,zi 191],vB true]) z1 [] []) (Bc z6 (Lf (.tup [.agg [zi 2,zi 128,zi 159],vB true]) z1 [] []) (Bc z7 (Lf (.tup [.agg [zi 2,zi 144,zi 191],vB true]) z1 [] []) (Bc z8 (Lf (.tup [.agg [zi 2,zi 128,zi 143],vB true]) z1 [] []) (Lf (.tup [.agg [zi 2,zi 128,zi 191],vB true]) z1 [] []))))) ((Fp 69 [vI b,vI 240,vI 244] [] (.v (vB z4)) [])∧Bc z4 (Bc z5 (Lf (.tup [.agg [zi 3,zi 160,zi 191],vB true]) z1 [] []) (Bc z6 (Lf (.tup [.agg [zi 3,zi 128,zi 159],vB true]) z1 [] []) (Bc z7 (Lf (.tup [.agg [zi 3,zi 144,zi 191],vB true]) z1 [] []) (Bc z8 (Lf (.tup [.agg [zi 3,zi 128,zi 143],vB true]) z1 [] []) (Lf (.tup [.agg [zi 3,zi 128,zi 191],vB true]) z1 [] []))))) (Lf (.tup [.agg [zi 0,zi 0,zi 0],vB false]) z1 [] [])))))) Q4 ?_
 refine⟨(Cd _ _ _),fun h1=>have p1:=Ar h1;?_,fun h1=>have p1:=Aw h1;?_⟩
 refine zE ((A6 b).getD utf0) utf0 (fun hm1=>⟨(congrArg S.tup (Ah (congrArg V.agg (Ah (congrArg (C.int .i64) ?_) (Ah (congrArg (C.int .i64) ?_) (Ah (congrArg (C.int .i64) ?_) rfl)))) (Ah (congrArg V.c (congrArg C.bool ?_)) rfl))),rfl⟩) ?_
 rotate_left 5
 refine⟨(Cd _ _ _),fun h2=>have p2:=Ar h2;?_,fun h2=>have p2:=Aw h2;?_⟩
 refine dsp (fun h3 p3=>?_) fun h3 p3=>?_
 refine zE ((A6 b).getD utf0) (⟨1,160,191⟩:Utf) (fun hm1=>⟨(congrArg S.tup (Ah (congrArg V.agg (Ah (congrArg (C.int .i64) ?_) (Ah (congrArg (C.int .i64) ?_) (Ah (congrArg (C.int .i64) ?_) rfl)))) (Ah (congrArg V.c (congrArg C.bool ?_)) rfl))),rfl⟩) ?_
 rotate_left 5
 refine dsp (fun h4 p4=>?_) fun h4 p4=>?_
 refine zE ((A6 b).getD utf0) (⟨1,128,159⟩:Utf) (fun hm1=>⟨(congrArg S.tup (Ah (congrArg V.agg (Ah (congrArg (C.int .i64) ?_) (Ah (congrArg (C.int .i64) ?_) (Ah (congrArg (C.int .i64) ?_) rfl)))) (Ah (congrArg V.c (congrArg C.bool ?_)) rfl))),rfl⟩) ?_
 rotate_left 5
 refine dsp (fun h5 p5=>?_) fun h5 p5=>?_
 refine zE ((A6 b).getD utf0) (⟨1,144,191⟩:Utf) (fun hm1=>⟨(congrArg S.tup (Ah (congrArg V.agg (Ah (congrArg (C.int .i64) ?_) (Ah (congrArg (C.int .i64) ?_) (Ah (congrArg (C.int .i64) ?_) rfl)))) (Ah (congrArg V.c (congrArg C.bool ?_)) rfl))),rfl⟩) ?_
 rotate_left 5
 refine dsp (fun h6 p6=>?_) fun h6 p6=>?_
 refine zE ((A6 b).getD utf0) (⟨1,128,143⟩:Utf) (fun hm1=>⟨(congrArg S.tup (Ah (congrArg V.agg (Ah (congrArg (C.int .i64) ?_) (Ah (congrArg (C.int .i64) ?_) (Ah (congrArg (C.int .i64) ?_) rfl)))) (Ah (congrArg V.c (congrArg C.bool ?_)) rfl))),rfl⟩) ?_
 rotate_left 5
 refine zE ((A6 b).getD utf0) (⟨1,128,191⟩:Utf) (fun hm1=>⟨(congrArg S.tup (Ah (congrArg V.agg (Ah (congrArg (C.int .i64) ?_) (Ah (congrArg (C.int .i64) ?_) (Ah (congrArg (C.int .i64) ?_) rfl)))) (Ah (congrArg V.c (congrArg C.bool ?_)) rfl))),rfl⟩) ?_
 rotate_left 5
 refine⟨(Cd _ _ _),fun h3=>have p3:=Ar h3;?_,fun h3=>have p3:=Aw h3;?_⟩
 refine dsp (fun h4 p4=>?_) fun h4 p4=>?_
 refine zE ((A6 b).getD utf0) (⟨2,160,191⟩:Utf) (fun hm1=>⟨(congrArg S.tup (Ah (congrArg V.agg (Ah (congrArg (C.int .i64) ?_) (Ah (congrArg (C.int .i64) ?_) (Ah (congrArg (C.int .i64) ?_) rfl)))) (Ah (congrArg V.c (congrArg C.bool ?_)) rfl))),rfl⟩) ?_
 rotate_left 5
 refine dsp (fun h5 p5=>?_) fun h5 p5=>?_
 refine zE ((A6 b).getD utf0) (⟨2,128,159⟩:Utf) (fun hm1=>⟨(congrArg S.tup (Ah (congrArg V.agg (Ah (congrArg (C.int .i64) ?_) (Ah (congrArg (C.int .i64) ?_) (Ah (congrArg (C.int .i64) ?_) rfl)))) (Ah (congrArg V.c (congrArg C.bool ?_)) rfl))),rfl⟩) ?_
 rotate_left 5
 refine dsp (fun h6 p6=>?_) fun h6 p6=>?_
 refine zE ((A6 b).getD utf0) (⟨2,144,191⟩:Utf) (fun hm1=>⟨(congrArg S.tup (Ah (congrArg V.agg (Ah (congrArg (C.int .i64) ?_) (Ah (congrArg (C.int .i64) ?_) (Ah (congrArg (C.int .i64) ?_) rfl)))) (Ah (congrArg V.c (congrArg C.bool ?_)) rfl))),rfl⟩) ?_
 rotate_left 5
 refine dsp (fun h7 p7=>?_) fun h7 p7=>?_
 refine zE ((A6 b).getD utf0) (⟨2,128,143⟩:Utf) (fun hm1=>⟨(congrArg S.tup (Ah (congrArg V.agg (Ah (congrArg (C.int .i64) ?_) (Ah (congrArg (C.int .i64) ?_) (Ah (congrArg (C.int .i64) ?_) rfl)))) (Ah (congrArg V.c (congrArg C.bool ?_)) rfl))),rfl⟩) ?_
 rotate_left 5
 refine zE ((A6 b).getD utf0) (⟨2,128,191⟩:Utf) (fun hm1=>⟨(congrArg S.tup (Ah (congrArg V.agg (Ah (congrArg (C.int .i64) ?_) (Ah (congrArg (C.int .i64) ?_) (Ah (congrArg (C.int .i64) ?_) rfl)))) (Ah (congrArg V.c (congrArg C.bool ?_)) rfl))),rfl⟩) ?_
 rotate_left 5
 refine⟨(Cd _ _ _),fun h4=>have p4:=Ar h4;?_,fun h4=>have p4:=Aw h4;?_⟩
 refine dsp (fun h5 p5=>?_) fun h5 p5=>?_
 refine zE ((A6 b).getD utf0) (⟨3,160,191⟩:Utf) (fun hm1=>⟨(congrArg S.tup (Ah (congrArg V.agg (Ah (congrArg (C.int .i64) ?_) (Ah (congrArg (C.int .i64) ?_) (Ah (congrArg (C.int .i64) ?_) rfl)))) (Ah (congrArg V.c (congrArg C.bool ?_)) rfl))),rfl⟩) ?_
 rotate_left 5
 refine dsp (fun h6 p6=>?_) fun h6 p6=>?_
 refine zE ((A6 b).getD utf0) (⟨3,128,159⟩:Utf) (fun hm1=>⟨(congrArg S.tup (Ah (congrArg V.agg (Ah (congrArg (C.int .i64) ?_) (Ah (congrArg (C.int .i64) ?_) (Ah (congrArg (C.int .i64) ?_) rfl)))) (Ah (congrArg V.c (congrArg C.bool ?_)) rfl))),rfl⟩) ?_
 rotate_left 5
 refine dsp (fun h7 p7=>?_) fun h7 p7=>?_
 refine zE ((A6 b).getD utf0) (⟨3,144,191⟩:Utf) (fun hm1=>⟨(congrArg S.tup (Ah (congrArg V.agg (Ah (congrArg (C.int .i64) ?_) (Ah (congrArg (C.int .i64) ?_) (Ah (congrArg (C.int .i64) ?_) rfl)))) (Ah (congrArg V.c (congrArg C.bool ?_)) rfl))),rfl⟩) ?_
 rotate_left 5
 refine dsp (fun h8 p8=>?_) fun h8 p8=>?_
 refine zE ((A6 b).getD utf0) (⟨3,128,143⟩:Utf) (fun hm1=>⟨(congrArg S.tup (Ah (congrArg V.agg (Ah (congrArg (C.int .i64) ?_) (Ah (congrArg (C.int .i64) ?_) (Ah (congrArg (C.int .i64) ?_) rfl)))) (Ah (congrArg V.c (congrArg C.bool ?_)) rfl))),rfl⟩) ?_
 rotate_left 5
 refine zE ((A6 b).getD utf0) (⟨3,128,191⟩:Utf) (fun hm1=>⟨(congrArg S.tup (Ah (congrArg V.agg (Ah (congrArg (C.int .i64) ?_) (Ah (congrArg (C.int .i64) ?_) (Ah (congrArg (C.int .i64) ?_) rfl)))) (Ah (congrArg V.c (congrArg C.bool ?_)) rfl))),rfl⟩) ?_
 rotate_left 5
 refine zE ((A6 b).getD utf0) utf0 (fun hm1=>⟨(congrArg S.tup (Ah (congrArg V.agg (Ah (congrArg (C.int .i64) ?_) (Ah (congrArg (C.int .i64) ?_) (Ah (congrArg (C.int .i64) ?_) rfl)))) (Ah (congrArg V.c (congrArg C.bool ?_)) rfl))),rfl⟩) ?_
 rotate_left 5
 all_goals first|(simp[A6,utf0, *];done)|(simp_all[A6,utf0,Ak];done)|(simp_all[A6,utf0,Ak];omega)
theorem Adb (b:Int):Fun Tryz.prog 284 [vI b] [] (.tup [.agg (J8 ((A6 b).getD utf0)),vB (A6 b).isSome]) []:=by
 have hN:Bb=274877906944:=rfl
 refine Ap Tryz.func284 Q4 Q4 (w:=let zi:Int→C:= .int .i64;let z1:S:= .tup [.agg (J8 ((A6 b).getD utf0)),vB (A6 b).isSome];let z2:=Ak b 194 223;let z3:=Ak b 224 239;let z4:=Ak b 240 244;let z5:=decide (b=224);let z6:=decide (b=237);let z7:=decide (b=240);let z8:=decide (b=244);(.seg [.call [] (.v (vB (Ak b 0 127))) []] (.br (.leaf () []) (.seg [.call [] (.v (vB z2)) []] (.br (.br (.leaf () []) (.br (.leaf () []) (.br (.leaf () []) (.br (.leaf () []) (.leaf () []))))) (.seg [.call [] (.v (vB z3)) []] (.br (.br (.leaf () []) (.br (.leaf () []) (.br (.leaf () []) (.br (.leaf () []) (.leaf () []))))) (.seg [.call [] (.v (vB z4)) []] (.br (.br (.leaf () []) (.br (.leaf () []) (.br (.leaf () []) (.br (.leaf () []) (.leaf () []))))) (.leaf () [])))))))),(Fp 71 [vI b,vI 0,vI 127] [] (.v (vB (Ak b 0 127))) [])∧Bc (Ak b 0 127) (Lf (.tup [.agg [zi 0,zi 0,zi 0],vB true]) z1 [] []) ((Fp 71 [vI b,vI 194,vI 223] [] (.v (vB z2)) [])∧Bc z2 (Bc z5 (Lf (.tup [.agg [zi 1,zi 160,zi 191],vB true]) z1 [] []) (Bc z6 (Lf (.tup [.agg [zi 1,zi 128,zi 159],vB true]) z1 [] []) (Bc z7 (Lf (.tup [.agg [zi 1,zi 144,zi 191],vB true]) z1 [] []) (Bc z8 (Lf (.tup [.agg [zi 1,zi 128,zi 143],vB true]) z1 [] []) (Lf (.tup [.agg [zi 1,zi 128,zi 191],vB true]) z1 [] []))))) ((Fp 71 [vI b,vI 224,vI 239] [] (.v (vB z3)) [])∧Bc z3 (Bc z5 (Lf (.tup [.agg [zi 2,zi 160,zi 191],vB true]) z1 [] []) (Bc z6 (Lf (.tup [.agg [zi 2,zi 128,zi 159],vB true]) z1 [] []) (Bc z7 (Lf (.tup [.agg [zi 2,zi 144,zi 191],vB true]) z1 [] []) (Bc z8 (Lf (.tup [.agg [zi 2,zi 128,zi 143],vB true]) z1 [] []) (Lf (.tup [.agg [zi 2,zi 128,zi 191],vB true]) z1 [] []))))) ((Fp 71 [vI b,vI 240,vI 244] [] (.v (vB z4)) [])∧Bc z4 (Bc z5 (Lf (.tup [.agg [zi 3,zi 160,zi 191],vB true]) z1 [] []) (Bc z6 (Lf (.tup [.agg [zi 3,zi 128,zi 159],vB true]) z1 [] []) (Bc z7 (Lf (.tup [.agg [zi 3,zi 144,zi 191],vB true]) z1 [] []) (Bc z8 (Lf (.tup [.agg [zi 3,zi 128,zi 143],vB true]) z1 [] []) (Lf (.tup [.agg [zi 3,zi 128,zi 191],vB true]) z1 [] []))))) (Lf (.tup [.agg [zi 0,zi 0,zi 0],vB false]) z1 [] [])))))) Q4 ?_
 refine⟨(Be _ _ _),fun h1=>have p1:=Ar h1;?_,fun h1=>have p1:=Aw h1;?_⟩
 refine zE ((A6 b).getD utf0) utf0 (fun hm1=>⟨(congrArg S.tup (Ah (congrArg V.agg (Ah (congrArg (C.int .i64) ?_) (Ah (congrArg (C.int .i64) ?_) (Ah (congrArg (C.int .i64) ?_) rfl)))) (Ah (congrArg V.c (congrArg C.bool ?_)) rfl))),rfl⟩) ?_
 rotate_left 5
 refine⟨(Be _ _ _),fun h2=>have p2:=Ar h2;?_,fun h2=>have p2:=Aw h2;?_⟩
 refine dsp (fun h3 p3=>?_) fun h3 p3=>?_
 refine zE ((A6 b).getD utf0) (⟨1,160,191⟩:Utf) (fun hm1=>⟨(congrArg S.tup (Ah (congrArg V.agg (Ah (congrArg (C.int .i64) ?_) (Ah (congrArg (C.int .i64) ?_) (Ah (congrArg (C.int .i64) ?_) rfl)))) (Ah (congrArg V.c (congrArg C.bool ?_)) rfl))),rfl⟩) ?_
 rotate_left 5
 refine dsp (fun h4 p4=>?_) fun h4 p4=>?_
 refine zE ((A6 b).getD utf0) (⟨1,128,159⟩:Utf) (fun hm1=>⟨(congrArg S.tup (Ah (congrArg V.agg (Ah (congrArg (C.int .i64) ?_) (Ah (congrArg (C.int .i64) ?_) (Ah (congrArg (C.int .i64) ?_) rfl)))) (Ah (congrArg V.c (congrArg C.bool ?_)) rfl))),rfl⟩) ?_
 rotate_left 5
 refine dsp (fun h5 p5=>?_) fun h5 p5=>?_
 refine zE ((A6 b).getD utf0) (⟨1,144,191⟩:Utf) (fun hm1=>⟨(congrArg S.tup (Ah (congrArg V.agg (Ah (congrArg (C.int .i64) ?_) (Ah (congrArg (C.int .i64) ?_) (Ah (congrArg (C.int .i64) ?_) rfl)))) (Ah (congrArg V.c (congrArg C.bool ?_)) rfl))),rfl⟩) ?_
 rotate_left 5
 refine dsp (fun h6 p6=>?_) fun h6 p6=>?_
 refine zE ((A6 b).getD utf0) (⟨1,128,143⟩:Utf) (fun hm1=>⟨(congrArg S.tup (Ah (congrArg V.agg (Ah (congrArg (C.int .i64) ?_) (Ah (congrArg (C.int .i64) ?_) (Ah (congrArg (C.int .i64) ?_) rfl)))) (Ah (congrArg V.c (congrArg C.bool ?_)) rfl))),rfl⟩) ?_
 rotate_left 5
 refine zE ((A6 b).getD utf0) (⟨1,128,191⟩:Utf) (fun hm1=>⟨(congrArg S.tup (Ah (congrArg V.agg (Ah (congrArg (C.int .i64) ?_) (Ah (congrArg (C.int .i64) ?_) (Ah (congrArg (C.int .i64) ?_) rfl)))) (Ah (congrArg V.c (congrArg C.bool ?_)) rfl))),rfl⟩) ?_
 rotate_left 5
 refine⟨(Be _ _ _),fun h3=>have p3:=Ar h3;?_,fun h3=>have p3:=Aw h3;?_⟩
 refine dsp (fun h4 p4=>?_) fun h4 p4=>?_
 refine zE ((A6 b).getD utf0) (⟨2,160,191⟩:Utf) (fun hm1=>⟨(congrArg S.tup (Ah (congrArg V.agg (Ah (congrArg (C.int .i64) ?_) (Ah (congrArg (C.int .i64) ?_) (Ah (congrArg (C.int .i64) ?_) rfl)))) (Ah (congrArg V.c (congrArg C.bool ?_)) rfl))),rfl⟩) ?_
 rotate_left 5
 refine dsp (fun h5 p5=>?_) fun h5 p5=>?_
 refine zE ((A6 b).getD utf0) (⟨2,128,159⟩:Utf) (fun hm1=>⟨(congrArg S.tup (Ah (congrArg V.agg (Ah (congrArg (C.int .i64) ?_) (Ah (congrArg (C.int .i64) ?_) (Ah (congrArg (C.int .i64) ?_) rfl)))) (Ah (congrArg V.c (congrArg C.bool ?_)) rfl))),rfl⟩) ?_
 rotate_left 5
 refine dsp (fun h6 p6=>?_) fun h6 p6=>?_
 refine zE ((A6 b).getD utf0) (⟨2,144,191⟩:Utf) (fun hm1=>⟨(congrArg S.tup (Ah (congrArg V.agg (Ah (congrArg (C.int .i64) ?_) (Ah (congrArg (C.int .i64) ?_) (Ah (congrArg (C.int .i64) ?_) rfl)))) (Ah (congrArg V.c (congrArg C.bool ?_)) rfl))),rfl⟩) ?_
 rotate_left 5
 refine dsp (fun h7 p7=>?_) fun h7 p7=>?_
 refine zE ((A6 b).getD utf0) (⟨2,128,143⟩:Utf) (fun hm1=>⟨(congrArg S.tup (Ah (congrArg V.agg (Ah (congrArg (C.int .i64) ?_) (Ah (congrArg (C.int .i64) ?_) (Ah (congrArg (C.int .i64) ?_) rfl)))) (Ah (congrArg V.c (congrArg C.bool ?_)) rfl))),rfl⟩) ?_
 rotate_left 5
 refine zE ((A6 b).getD utf0) (⟨2,128,191⟩:Utf) (fun hm1=>⟨(congrArg S.tup (Ah (congrArg V.agg (Ah (congrArg (C.int .i64) ?_) (Ah (congrArg (C.int .i64) ?_) (Ah (congrArg (C.int .i64) ?_) rfl)))) (Ah (congrArg V.c (congrArg C.bool ?_)) rfl))),rfl⟩) ?_
 rotate_left 5
 refine⟨(Be _ _ _),fun h4=>have p4:=Ar h4;?_,fun h4=>have p4:=Aw h4;?_⟩
 refine dsp (fun h5 p5=>?_) fun h5 p5=>?_
 refine zE ((A6 b).getD utf0) (⟨3,160,191⟩:Utf) (fun hm1=>⟨(congrArg S.tup (Ah (congrArg V.agg (Ah (congrArg (C.int .i64) ?_) (Ah (congrArg (C.int .i64) ?_) (Ah (congrArg (C.int .i64) ?_) rfl)))) (Ah (congrArg V.c (congrArg C.bool ?_)) rfl))),rfl⟩) ?_
 rotate_left 5
 refine dsp (fun h6 p6=>?_) fun h6 p6=>?_
 refine zE ((A6 b).getD utf0) (⟨3,128,159⟩:Utf) (fun hm1=>⟨(congrArg S.tup (Ah (congrArg V.agg (Ah (congrArg (C.int .i64) ?_) (Ah (congrArg (C.int .i64) ?_) (Ah (congrArg (C.int .i64) ?_) rfl)))) (Ah (congrArg V.c (congrArg C.bool ?_)) rfl))),rfl⟩) ?_
 rotate_left 5
 refine dsp (fun h7 p7=>?_) fun h7 p7=>?_
 refine zE ((A6 b).getD utf0) (⟨3,144,191⟩:Utf) (fun hm1=>⟨(congrArg S.tup (Ah (congrArg V.agg (Ah (congrArg (C.int .i64) ?_) (Ah (congrArg (C.int .i64) ?_) (Ah (congrArg (C.int .i64) ?_) rfl)))) (Ah (congrArg V.c (congrArg C.bool ?_)) rfl))),rfl⟩) ?_
 rotate_left 5
 refine dsp (fun h8 p8=>?_) fun h8 p8=>?_
 refine zE ((A6 b).getD utf0) (⟨3,128,143⟩:Utf) (fun hm1=>⟨(congrArg S.tup (Ah (congrArg V.agg (Ah (congrArg (C.int .i64) ?_) (Ah (congrArg (C.int .i64) ?_) (Ah (congrArg (C.int .i64) ?_) rfl)))) (Ah (congrArg V.c (congrArg C.bool ?_)) rfl))),rfl⟩) ?_
 rotate_left 5
 refine zE ((A6 b).getD utf0) (⟨3,128,191⟩:Utf) (fun hm1=>⟨(congrArg S.tup (Ah (congrArg V.agg (Ah (congrArg (C.int .i64) ?_) (Ah (congrArg (C.int .i64) ?_) (Ah (congrArg (C.int .i64) ?_) rfl)))) (Ah (congrArg V.c (congrArg C.bool ?_)) rfl))),rfl⟩) ?_
 rotate_left 5
 refine zE ((A6 b).getD utf0) utf0 (fun hm1=>⟨(congrArg S.tup (Ah (congrArg V.agg (Ah (congrArg (C.int .i64) ?_) (Ah (congrArg (C.int .i64) ?_) (Ah (congrArg (C.int .i64) ?_) rfl)))) (Ah (congrArg V.c (congrArg C.bool ?_)) rfl))),rfl⟩) ?_
 rotate_left 5
 all_goals first|(simp[A6,utf0, *];done)|(simp_all[A6,utf0,Ak];done)|(simp_all[A6,utf0,Ak];omega)
theorem Afq (u:Utf) (b:Int):Fun Tryz.prog 243 [.agg (J8 u),vI b] [] (.tup [.agg (J8 ((Bq u b).getD u)),vB (Bq u b).isSome]) []:=by
 have hN:Bb=274877906944:=rfl
 refine Ap Tryz.func243 Q4 Q4 (w:=let z1:S:= .tup [.agg (J8 ((Bq u b).getD u)),vB (Bq u b).isSome];let z2:=Lf (.tup [.agg (J8 u),vB false]) z1 [] [];let z3:S:= .tup [.agg (J8 ((A6 b).getD utf0)),vB (A6 b).isSome];let z4:=Ak b u.low u.high;(.seg [.call [] (.v (vB (Eo u))) []] (.br (.leaf () []) (.br (.seg [.call [] z3 []] (.br (.leaf () []) (.leaf () []))) (.seg [.call [] (.v (vB z4)) []] (.br (.leaf () []) (.br (.leaf () []) (.seg [.as 42 (.v (vI (u.want-1)))] (.leaf () []))))))),(Fp 148 [.agg (J8 u)] [] (.v (vB (Eo u))) [])∧Bc (!(Eo u)) z2 (Bc (decide (u.want=0)) ((Fp 275 [vI b] [] z3 [])∧Bc (!(A6 b).isSome) z2 (Lf (.tup [.agg (J8 ((A6 b).getD utf0)),vB true]) z1 [] [])) ((Fp 69 [vI b,vI u.low,vI u.high] [] (.v (vB z4)) [])∧Bc (!z4) z2 (Bc (decide (u.want=1)) (Lf (.tup [.agg [.int .i64 0,.int .i64 0,.int .i64 0],vB true]) z1 [] []) ((wI (u.want-1))∧Lf (.tup [.agg [.int .i64 (u.want-1),.int .i64 128,.int .i64 191],vB true]) z1 [] [])))))) Q4 ?_
 refine⟨(Afo u),fun h1=>have q1:=Ao h1;?_,fun h1=>have q1:=An h1;have p1:=Lt q1;?_⟩
 refine zE ((Bq u b).getD u) u (fun hm1=>⟨(congrArg S.tup (Ah (congrArg V.agg (Ah (congrArg (C.int .i64) ?_) (Ah (congrArg (C.int .i64) ?_) (Ah (congrArg (C.int .i64) ?_) rfl)))) (Ah (congrArg V.c (congrArg C.bool ?_)) rfl))),rfl⟩) ?_
 rotate_left 5
 refine dsp (fun h2 p2=>?_) fun h2 p2=>?_
 have hu:=Xc q1 p2
 refine⟨(Ada _),fun h3=>have q3:=Ao h3;?_,fun h3=>have q3:=An h3;?_⟩
 refine zE ((Bq u b).getD u) u (fun hm1=>⟨(congrArg S.tup (Ah (congrArg V.agg (Ah (congrArg (C.int .i64) ?_) (Ah (congrArg (C.int .i64) ?_) (Ah (congrArg (C.int .i64) ?_) rfl)))) (Ah (congrArg V.c (congrArg C.bool ?_)) rfl))),rfl⟩) ?_
 rotate_left 5
 refine zE ((Bq u b).getD u) ((A6 b).getD utf0) (fun hm1=>⟨(congrArg S.tup (Ah (congrArg V.agg (Ah (congrArg (C.int .i64) ?_) (Ah (congrArg (C.int .i64) ?_) (Ah (congrArg (C.int .i64) ?_) rfl)))) (Ah (congrArg V.c (congrArg C.bool ?_)) rfl))),rfl⟩) ?_
 rotate_left 5
 refine⟨(Cd _ _ _),fun h3=>have q3:=Ao h3;have p3:=Aw q3;?_,fun h3=>have q3:=An h3;have p3:=Ar q3;?_⟩
 refine zE ((Bq u b).getD u) u (fun hm1=>⟨(congrArg S.tup (Ah (congrArg V.agg (Ah (congrArg (C.int .i64) ?_) (Ah (congrArg (C.int .i64) ?_) (Ah (congrArg (C.int .i64) ?_) rfl)))) (Ah (congrArg V.c (congrArg C.bool ?_)) rfl))),rfl⟩) ?_
 rotate_left 5
 refine dsp (fun h4 p4=>?_) fun h4 p4=>?_
 refine zE ((Bq u b).getD u) utf0 (fun hm1=>⟨(congrArg S.tup (Ah (congrArg V.agg (Ah (congrArg (C.int .i64) ?_) (Ah (congrArg (C.int .i64) ?_) (Ah (congrArg (C.int .i64) ?_) rfl)))) (Ah (congrArg V.c (congrArg C.bool ?_)) rfl))),rfl⟩) ?_
 rotate_left 5
 refine zE ((Bq u b).getD u) (⟨u.want-1,128,191⟩:Utf) (fun hm1=>⟨(Ac Q2 Q2),(congrArg S.tup (Ah (congrArg V.agg (Ah (congrArg (C.int .i64) ?_) (Ah (congrArg (C.int .i64) ?_) (Ah (congrArg (C.int .i64) ?_) rfl)))) (Ah (congrArg V.c (congrArg C.bool ?_)) rfl))),rfl⟩) ?_
 rotate_left 5
 all_goals first|(simp[Bq, *];done)|(simp[Bq,utf0, *];done)|(simp_all[Bq,utf0,Ak];done)|(simp_all[Bq,utf0,Ak];omega)
theorem Sf (u:Utf) (b:Int):Fun Tryz.prog 252 [.agg (J8 u),vI b] [] (.tup [.agg (J8 ((Bq u b).getD u)),vB (Bq u b).isSome]) []:=by
 have hN:Bb=274877906944:=rfl
 refine Ap Tryz.func252 Q4 Q4 (w:=let z1:S:= .tup [.agg (J8 ((Bq u b).getD u)),vB (Bq u b).isSome];let z2:S:= .tup [.agg (J8 ((A6 b).getD utf0)),vB (A6 b).isSome];let z3:=Lf (.tup [.agg (J8 u),vB false]) z1 [] [];let z4:=Ak b u.low u.high;(.seg [.call [] (.v (vB (Eo u))) []] (.br (.leaf () []) (.br (.seg [.call [] z2 []] (.leaf () [])) (.seg [.call [] (.v (vB z4)) []] (.br (.leaf () []) (.br (.leaf () []) (.seg [.as 31 (.v (vI (u.want-1)))] (.leaf () []))))))),(Fp 277 [.agg (J8 u)] [] (.v (vB (Eo u))) [])∧Bc (!(Eo u)) z3 (Bc (decide (u.want=0)) ((Fp 284 [vI b] [] z2 [])∧Lf z2 z1 [] []) ((Fp 71 [vI b,vI u.low,vI u.high] [] (.v (vB z4)) [])∧Bc (!z4) z3 (Bc (decide (u.want=1)) (Lf (.tup [.agg [.int .i64 0,.int .i64 0,.int .i64 0],vB true]) z1 [] []) ((wI (u.want-1))∧Lf (.tup [.agg [.int .i64 (u.want-1),.int .i64 128,.int .i64 191],vB true]) z1 [] [])))))) Q4 ?_
 refine⟨(Afp u),fun h1=>have q1:=Ao h1;?_,fun h1=>have q1:=An h1;have p1:=Lt q1;?_⟩
 refine zE ((Bq u b).getD u) u (fun hm1=>⟨(congrArg S.tup (Ah (congrArg V.agg (Ah (congrArg (C.int .i64) ?_) (Ah (congrArg (C.int .i64) ?_) (Ah (congrArg (C.int .i64) ?_) rfl)))) (Ah (congrArg V.c (congrArg C.bool ?_)) rfl))),rfl⟩) ?_
 rotate_left 5
 refine dsp (fun h2 p2=>?_) fun h2 p2=>?_
 have hu:=Xc q1 p2
 refine zE ((Bq u b).getD u) ((A6 b).getD utf0) (fun hm1=>⟨(Adb _),(congrArg S.tup (Ah (congrArg V.agg (Ah (congrArg (C.int .i64) ?_) (Ah (congrArg (C.int .i64) ?_) (Ah (congrArg (C.int .i64) ?_) rfl)))) (Ah (congrArg V.c (congrArg C.bool ?_)) rfl))),rfl⟩) ?_
 rotate_left 5
 refine⟨(Be _ _ _),fun h3=>have q3:=Ao h3;have p3:=Aw q3;?_,fun h3=>have q3:=An h3;have p3:=Ar q3;?_⟩
 refine zE ((Bq u b).getD u) u (fun hm1=>⟨(congrArg S.tup (Ah (congrArg V.agg (Ah (congrArg (C.int .i64) ?_) (Ah (congrArg (C.int .i64) ?_) (Ah (congrArg (C.int .i64) ?_) rfl)))) (Ah (congrArg V.c (congrArg C.bool ?_)) rfl))),rfl⟩) ?_
 rotate_left 5
 refine dsp (fun h4 p4=>?_) fun h4 p4=>?_
 refine zE ((Bq u b).getD u) utf0 (fun hm1=>⟨(congrArg S.tup (Ah (congrArg V.agg (Ah (congrArg (C.int .i64) ?_) (Ah (congrArg (C.int .i64) ?_) (Ah (congrArg (C.int .i64) ?_) rfl)))) (Ah (congrArg V.c (congrArg C.bool ?_)) rfl))),rfl⟩) ?_
 rotate_left 5
 refine zE ((Bq u b).getD u) (⟨u.want-1,128,191⟩:Utf) (fun hm1=>⟨(Ac Q2 Q2),(congrArg S.tup (Ah (congrArg V.agg (Ah (congrArg (C.int .i64) ?_) (Ah (congrArg (C.int .i64) ?_) (Ah (congrArg (C.int .i64) ?_) rfl)))) (Ah (congrArg V.c (congrArg C.bool ?_)) rfl))),rfl⟩) ?_
 rotate_left 5
 all_goals first|(simp[Bq, *];done)|(simp[Bq,utf0, *];done)|(simp_all[Bq,utf0,Ak];done)|(simp_all[Bq,utf0,Ak];omega)
structure Ai7 where
 u:Utf
 v:Nat
structure Ku where
 u:Utf
 i:Nat
def Kv (u:Utf) (s:List UInt8):Fam:=⟨Ku,fun q1=>[(1,.v (vT s)),(2,.v (vP 0)),(4,.v (vP 1)),(6,.v (vI (q1.i:Int)))],fun q1=>[.cells (J8 q1.u),.cells [.int .i64 0,.int .i64 0,.int .i64 0]],fun q1=>q1.i≤s.length∧Pf q1.u (List.drop q1.i s) q1.i=Pf u s 0,fun q1=>s.length-q1.i⟩
theorem Afr (u:Utf) (s:List UInt8) (hp1:s.length≤Bb):Fun Tryz.prog 228 [.agg (J8 u),vT s] [] (.tup [.agg (J8 (S5 u s)),vI (Zn u s)]) []:=by
 have hN:Bb=274877906944:=rfl
 refine Ap Tryz.func228 Q4 Q4 (w:=let zi:Int→C:= .int .i64;let z7:=Kv u s;let z8:S:= .tup [.agg (J8 (S5 u s)),vI (Zn u s)];(.seg [.at 0,.keep [1,2,4,6],.sel [0,1]] (.loop z7 fun q1=> .br (.intro (Sx (s[q1.i]?)) fun x1=>let z2:=((UInt8.toNat x1:Nat):Int);let z1:S:= .tup [.agg (J8 ((Bq q1.u z2).getD q1.u)),vB (Bq q1.u z2).isSome];.seg [.tree (fr (.two 5 (fr (.one 9 (.one 10 (.first 11 (.done)))) 6 3) 9 (.one 5 (fr (.one 10 (.first 11 (.done))) 6 3))) 0 5) 12 [],.ch x1,.as 20 (.v (vI z2)),.call [] z1 [],.at 0,.keep [1,2,4,6,7,8],.sel [0,1,2],.call [] z1 [],.at 0,.keep [1,2,4,6,7,8],.sel [0,1,2]] (.br (.leaf () []) (.seg [.as 14 (.v (vI ((q1.i:Int)+1))),.at 0,.keep [1,2,4,6],.sel [0,1]] (.next)))) (.leaf () [])),z7.Has [(1,.v (vT s)),(2,.v (vP 0)),(4,.v (vP 1)),(6,.v (vI 0))] [.cells (J8 u),.cells [zi 0,zi 0,zi 0]]∧∀q1,z7.inv q1→(let z5:=(q1.i:Int);let z6:=J8 q1.u;Bc (decide (z5<(s.length:Int))) (El (s[q1.i]?) fun x1=>(let z4:=((UInt8.toNat x1:Nat):Int);let z3:=Bq q1.u z4;(s[q1.i]? =some x1)∧((0:Int)≤z5)∧(s[q1.i]? =some x1)∧((0:Int)≤z5)∧(wI (z4))∧(wI (z4))∧(Fp 252 [.agg z6,vI z4] [] (.tup [.agg (J8 (z3.getD q1.u)),vB z3.isSome]) [])∧(Fp 252 [.agg z6,vI z4] [] (.tup [.agg (J8 (z3.getD q1.u)),vB z3.isSome]) [])∧(([.cells z6,.cells [zi 0,zi 0,zi 0],.cells (J8 (z3.getD q1.u))]:List Blk)=[.cells z6,.cells [zi 0,zi 0,zi 0],.cells (J8 (z3.getD q1.u))])∧(([(1,.v (vT s)),(2,.v (vP 0)),(4,.v (vP 1)),(6,.v (vI z5)),(7,.v (vP 2)),(8,.v (vB z3.isSome))]:List (Nat×S))=[(1,.v (vT s)),(2,.v (vP 0)),(4,.v (vP 1)),(6,.v (vI z5)),(7,.v (vP 2)),(8,.v (vB z3.isSome))])∧Bc (!z3.isSome) (Lf (.tup [.agg z6,vI z5]) z8 [] []) ((wI (z5+1))∧z7.Nxt q1 [(1,.v (vT s)),(2,.v (vP 0)),(4,.v (vP 1)),(6,.v (vI (z5+1)))] [.cells (J8 (z3.getD q1.u)),.cells [zi 0,zi 0,zi 0]]))) (Lf (.tup [.agg z6,vI (-1)]) z8 [] [])))) Q4 ?_
 refine⟨Bf (j:=(⟨u,0⟩:Ku)) Q9 rfl (by dsimp only[Kv];exact⟨by omega,by simp⟩),fun (q1:Ku) hq_q1=>?_⟩
 have hi_q1:q1.i≤s.length∧Pf q1.u (List.drop q1.i s) q1.i=Pf u s 0:=hq_q1
 obtain ⟨v1,v2⟩:=hi_q1
 refine dsp (fun h1 p1=>?_) fun h1 p1=>?_
 refine⟨(Bh (l:=s) (i:=q1.i) Q2),fun x1 hx1=>?_⟩
 have hb_x1:=UInt8.toNat_lt x1
 refine⟨hx1,Q2,hx1,Q2,(Ac Q2 Q2),(Ac Q2 Q2),(Sf q1.u _),(Sf q1.u _),rfl,rfl,fun h2=>have q2:=Ao h2;?_,fun h2=>have q2:=An h2;?_⟩
 rw[C2 hx1,Pf] at v2
 refine zE (S5 u s) q1.u (fun hm1=>⟨(congrArg S.tup (Ah (congrArg V.agg (Ah (congrArg (C.int .i64) ?_) (Ah (congrArg (C.int .i64) ?_) (Ah (congrArg (C.int .i64) ?_) rfl)))) (Ah (congrArg V.c (congrArg (C.int .i64) ?_)) rfl))),rfl⟩) ?_
 rotate_left 5
 rw[C2 hx1,Pf] at v2
 exact⟨(Ac Q2 Q2),A3 (j:=(⟨((Bq q1.u ((UInt8.toNat x1:Nat):Int)).getD q1.u),q1.i+1⟩:Ku)) Q9 rfl (by dsimp only[Kv];exact⟨by omega,by cases hu:Bq q1.u (x1.toNat:Int)<;>simp_all⟩) (by dsimp only[Kv];omega)⟩
 rw[Kq p1] at v2
 refine zE (S5 u s) q1.u (fun hm1=>⟨(congrArg S.tup (Ah (congrArg V.agg (Ah (congrArg (C.int .i64) ?_) (Ah (congrArg (C.int .i64) ?_) (Ah (congrArg (C.int .i64) ?_) rfl)))) (Ah (congrArg V.c (congrArg (C.int .i64) ?_)) rfl))),rfl⟩) ?_
 rotate_left 5
 all_goals first|(unfold S5;rw[←v2,Pf];done)|(unfold Zn;rw[←v2,Pf];done)|(unfold S5;rw[←v2];clear v2;cases hu:Bq q1.u (x1.toNat:Int)<;>simp_all)|(unfold Zn;rw[←v2];clear v2;cases hu:Bq q1.u (x1.toNat:Int)<;>simp_all)
end Go.Proofs.YtijacopaadmncaaGreat.Ax
