/- Models. Models: the grammar. Numbers. Varints. Numbers of so Lm bytes; tags. -/
import Derived.Test.YtijacopaadmncaaGreatKB4
set_option linter.unusedSimpArgs false
set_option linter.unusedVariables false
namespace Go.Proofs.YtijacopaadmncaaGreat.Ax
open Go.RowKit
theorem Af {α:Type} {a b:α} {l m:List α} (h:a=b) (t:l=m):a::l=b::m:=by rw[h,t]
def vI (x:Int):V:= .c (.int .i64 x)
def vB (x:Bool):V:= .c (.bool x)
def vT (x:List UInt8):V:= .c (.str x)
def vO (j:Nat):V:= .c (.own j)
def vP (j:Nat):V:= .c (.ptr j 0)
theorem sB {a b:Bool} (h:a=b):(.v (.c (.bool a)):S)= .v (.c (.bool b)):=by rw[h]
theorem sI {a b:Int} (h:a=b):(.v (.c (.int .i64 a)):S)= .v (.c (.int .i64 b)):=by rw[h]
theorem dT {p:Prop} [Decidable p]:decide p=true↔p:=decide_eq_true_iff
theorem dF {p:Prop} [Decidable p]:decide p=false↔¬p:=decide_eq_false_iff_not
theorem Gh {a b:Bool} {P Q:Prop} (h:a=true↔P) (g:b=true↔Q):(a&&b)=true↔P∧Q:=by rw[Bool.and_eq_true,h,g]
theorem Gi {a b:Bool} {P Q:Prop} (h:a=true↔P) (g:b=false↔Q):(a&&b)=false↔(P→Q):=by rw[Bool.and_eq_false_imp,h,g]
theorem Ca {F:Fam} {j:F.ι} {tm:List (Nat×S)} {H:List Blk} (h1:tm=F.tm j) (h2:H=F.H j) (h:F.inv j):F.Has tm H:=⟨j,h,h1,h2⟩
theorem A5 {F:Fam} {i j:F.ι} {tm:List (Nat×S)} {H:List Blk} (h1:tm=F.tm j) (h2:H=F.H j) (h:F.inv j) (hm:F.mu j<F.mu i):F.Nxt i tm H:=⟨j,⟨h,hm⟩,h1,h2⟩
abbrev In {α:Type} (P Q:α→Prop):Prop:=(∃o,P o)∧∀o,P o→Q o
theorem Ap {P : Program} {f : FuncId} {fn : Func} (hf : P.funcs[f]? = some fn) (hb : fn.body.isNone = false) (hn : (fn.name == "runtime.NumGoroutine") = false) {args : List V} {L L' : List Blk} {r : S} {w : DT Unit × Prop}
  (hw:Ack P fn args L w.1 (fun _ r' Lp=>r'=r∧Lp=L')=w.2) (h:w.2):Fun P f args L r L':=Ama hf hb hn hw h
theorem B2 {P : Program} {ι : Type} {f : FuncId} {fn : Func} (hf : P.funcs[f]? = some fn) (hb : fn.body.isNone = false) (hn : (fn.name == "runtime.NumGoroutine") = false) {args : List V} {L : List Blk} {L' : ι → List Blk} {r : ι → S} {good : ι → Prop} {w : DT ι × Prop}
  (hw:Ack P fn args L w.1 (fun i r' Lp=>good i∧r'=r i∧Lp=L' i)=w.2) (h:w.2): ∃i,good i∧Fun P f args L (r i) (L' i):=Ajp hf hb hn hw h
abbrev Bc (p:Bool) (A B:Prop):Prop:=(p=true→A)∧(p=false→B)
abbrev Lf (a b:S) (x y:List Blk):Prop:=a=b∧x=y
abbrev Sx {α:Type} (o:Option α):α→Prop:=fun x=>o=some x
abbrev El {α:Type} (o:Option α) (Q:α→Prop):Prop:=(∃x,o=some x)∧∀x,o=some x→Q x
abbrev wI (x:Int):Prop:=(.v (vI (IntKind.i64.wrap x)):S)= .v (vI x)
abbrev wU (x:Int):Prop:=(.v (.c (.int .u64 (IntKind.u64.wrap x))):S)= .v (.c (.int .u64 x))
abbrev Fp:=Fun Tryz.prog
theorem zE {β:Type} {p:Prop} (a b:β) (h:a=b→p) (h1:a=b):p:=h h1
theorem zD {β γ:Type} {p:Prop} (a b:β) (c d:γ) (h:a=b→c=d→p) (h1:a=b) (h2:c=d):p:=h h1 h2
theorem dsp {p:Prop} [Decidable p] {A B:Prop} (h1:decide p=true→p→A) (h2:decide p=false→¬p→B):(decide p=true→A)∧(decide p=false→B):=⟨fun h=>h1 h (of_decide_eq_true h),fun h=>h2 h (of_decide_eq_false h)⟩
/-! ### Structures -/
structure Scn where
 bits:Int
 have_:Int
 deriving DecidableEq,Inhabited
structure Utf where
 want:Int
 low:Int
 high:Int
 deriving DecidableEq,Inhabited
structure Pln where
 shapes:List Shp
 root:Int
 deep:Int
 most:Int
 deriving DecidableEq,Inhabited
structure Dcd where
 plan:Pln
 mode:Int
 stack:List Lev
 scan:Scn
 start:Int
 at_:Int
 field:Fld
 wire:Int
 want:Int
 utf:Utf
 end_:Ev
 deriving DecidableEq,Inhabited
def fld0:Fld:=⟨0,0,false,false,0⟩
def ev0:Ev:=⟨0,0,0,0,[],0,0⟩
def utf0:Utf:=⟨0,0,0⟩
theorem Dv {α:Type} {l:List α} {i:Nat} {x:α} (h:l[i]? =some x):l.drop i=x::l.drop (i+1):=by
 have hl:=(List.getElem?_eq_some_iff.1 h).1
 rw[List.drop_eq_getElem_cons hl]
 congr 1
 rw[List.getElem?_eq_getElem hl] at h
 exact Option.some.inj h
theorem As {b:Bool} (h:(!b)=true):b=false:=by cases b<;>simp_all
theorem Aq {b:Bool} (h:(!b)=false):b=true:=by cases b<;>simp_all
theorem P5 {α:Type} {l:List α} {i:Nat} {x d:α} (h:l[i]? =some x):l.getD i d=x:=by simp[List.getD,h]
theorem F0 {α:Type} {l:List α} {i:Nat} (h: ¬((i:Nat):Int)<((l.length:Nat):Int)):l.drop i=[]:=List.drop_eq_nil_of_le (by omega)
/-! ### Words of numbers -/
theorem Xf {k:IntKind} {a m:Int} (h:0≤a):(.v (.c (.int k (Int.tmod a m))):S)= .v (.c (.int k (a % m))):=by rw[Int.tmod_eq_emod_of_nonneg h]
theorem Uf {a m:Int} (h:0≤a) (h2:a≤18446744073709551615) (hm:0<m):(.v (.c (.int .u64 (IntKind.u64.wrap (Int.tdiv a m)))):S)= .v (.c (.int .u64 (a / m))):=by
 rw[Int.tdiv_eq_ediv_of_nonneg h]
 have h3:=Int.ediv_nonneg h (Int.le_of_lt hm)
 have h4:=Int.ediv_le_self m h
 exact Bx Q2 Q2
theorem Aig {a b:Int} {k:Nat} (ha:0≤a) (hk:a<2 ^ k) {c:Int} (hc:0≤c) (hb:b=c*2 ^ k) (hs:b+2 ^ k≤18446744073709551616):(((BitVec.ofInt 64 a|||BitVec.ofInt 64 b).toNat:Nat):Int)=a+b:=by
 obtain ⟨n,rfl⟩:=Int.eq_ofNat_of_zero_le ha
 obtain ⟨m,rfl⟩:=Int.eq_ofNat_of_zero_le hc
 have hb':b=((m*2 ^ k:Nat):Int):=by rw[hb,Int.natCast_mul,Int.natCast_pow];rfl
 have hp:(0:Int)<2 ^ k:=Int.pow_pos (by decide)
 subst hb'
 have e:((2 ^ k:Nat):Int)=2 ^ k:=by rw[Int.natCast_pow];rfl
 rw[←e] at hk hs hp
 have h1:n<2 ^ k:=by omega
 have h2:m*2 ^ k+2 ^ k≤18446744073709551616:=by omega
 have h3:n<2 ^ 64:=by omega
 have h4:m*2 ^ k<2 ^ 64:=by omega
 rw[BitVec.toNat_or,BitVec.ofInt_natCast,BitVec.ofInt_natCast,BitVec.toNat_ofNat,BitVec.toNat_ofNat,Nat.mod_eq_of_lt h3,Nat.mod_eq_of_lt h4,Nat.or_comm,Nat.mul_comm m,←Nat.two_pow_add_eq_or_of_lt h1]
 rw[Nat.mul_comm,Int.natCast_add,Int.add_comm]
/-! ### Kinds, wires, numbers -/
def Dj (n:Int):Bool:=Ak n 1 536870911&& !Ak n 19000 19999
def G4 (w:Int):Bool:=decide (w=0)||decide (w=1)||decide (w=2)||decide (w=5)
def Dn (k:Int):Bool:=Ak k 1 8
def Bw (k:Int):Bool:=Ak k 1 5
def Bn (k:Int):Int:=if Dn k then (if k=4 then 5 else if k=5 then 1 else if k≤3 then 0 else 2) else-1
def A3 (w:Int):Int:=if w=1 then 8 else if w=5 then 4 else 0
def D7 (k u:Int):Bool:=if k=3 then decide (u≤1) else if k=4 then decide (u≤4294967295) else Bw k
def Yi (f:Fld):Bool:=f.rep&&Bw f.kind
def Ez (f:Fld) (w:Int):Bool:=decide (w=Bn f.kind)||(decide (w=2)&&Yi f)
def Ec (k:Int):Bool:=decide (k=2)||decide (k=3)||decide (k=6)
theorem J1 (w:Int):0≤A3 w∧A3 w≤8:=by unfold A3;split<;>(try split)<;>omega
def Hs (f:Fld) (n:Int):Bool:=Dj f.number&&Dn f.kind&& !(f.packed&&(!f.rep|| !Bw f.kind))&&(if f.kind=8 then Ak f.msg 0 (n-1) else decide (f.msg= -1))
def C7 (n:Int):Int→List Fld→Bool
 |_,[]=>true
 |b,f::r=>decide (b<f.number)&&Hs f n&&C7 n f.number r
def D2 (n:Int):Int→List Shp→Bool
 |_,[]=>true
 |b,x::r=>decide (b<x.id)&&decide (x.id≤99)&&decide ((x.fields.length:Int)≤8)&&C7 n 0 x.fields&&D2 n x.id r
def Cp (l:List Shp):Bool:=decide ((l.length:Int)≤6)&&D2 (l.length:Int) 0 l
def F2 (l:List Fld) (n:Int):Option Fld:=l.find? fun f=>decide (f.number=n)
def An2:Shp:=⟨0,[]⟩
def fieldAt (l:List Shp) (s n:Int):Option Fld:=if Ak s 0 ((l.length:Int)-1) then F2 (l.getD s.toNat An2).fields n else none
def Bo (p:Pln):Bool:=Cp p.shapes&&Ak p.root 0 ((p.shapes.length:Int)-1)&&Ak p.deep 1 8&&Ak p.most 0 2000
theorem Xg {f:Fld} {n:Int} (h:Hs f n=true):1≤f.number∧f.number≤536870911∧1≤f.kind∧f.kind≤8∧(f.kind=8→0≤f.msg∧f.msg≤n-1)∧(f.kind≠8→f.msg= -1):=by
 simp only[Hs,Dj,Dn,Ak,Bool.and_eq_true,decide_eq_true_eq] at h
 obtain ⟨⟨⟨h1,h2⟩,h3⟩,h4⟩:=h
 refine⟨h1.1.1,h1.1.2,h2.1,h2.2,fun hk=>?_,fun hk=>?_⟩
 ·rw[if_pos hk] at h4;simpa using h4
 ·rw[if_neg hk] at h4;simpa using h4
theorem N8 {l:List Shp} (h:Cp l=true):l.length≤6:=by
 simp only[Cp,Bool.and_eq_true,decide_eq_true_eq] at h;omega
theorem C3 {p:Pln} (h:Bo p=true):p.shapes.length≤6∧Cp p.shapes=true∧0≤p.root∧p.root<(p.shapes.length:Int)∧1≤p.deep∧p.deep≤8∧0≤p.most∧p.most≤2000:=by
 simp only[Bo,Ak,Bool.and_eq_true,decide_eq_true_eq] at h
 have:=N8 h.1.1.1
 refine⟨this,h.1.1.1,?_⟩;omega
theorem Sq {n:Int} : ∀ {b:Int} {l:List Fld},C7 n b l=true→∀f∈l,Hs f n=true∧b<f.number
 |_,[],_,f,hf=>by cases hf
 |b,g::r,h,f,hf=>by
  simp only[C7,Bool.and_eq_true,decide_eq_true_eq] at h
  rcases List.mem_cons.1 hf with rfl|hf
  ·exact⟨h.1.2,h.1.1⟩
  ·have:=Sq h.2 f hf;exact⟨this.1,by omega⟩
theorem Nf {n:Int} : ∀ {b:Int} {l:List Shp},D2 n b l=true→∀x∈l,(x.fields.length≤8∧C7 n 0 x.fields=true)∧b<x.id∧x.id≤99
 |_,[],_,f,hf=>by cases hf
 |b,g::r,h,f,hf=>by
  simp only[D2,Bool.and_eq_true,decide_eq_true_eq] at h
  rcases List.mem_cons.1 hf with rfl|hf
  ·exact⟨⟨by omega,h.1.2⟩,h.1.1.1.1,h.1.1.1.2⟩
  ·have:=Nf h.2 f hf;exact⟨this.1,by omega,this.2.2⟩
theorem Gj {l:List Shp} (h:Cp l=true): ∀x∈l,List.length x.fields≤1000:=fun x hx=>by
 simp only[Cp,Bool.and_eq_true] at h
 have:=(Nf h.2 x hx).1.1
 omega
theorem V4 {l:List Shp} {s n:Int} {f:Fld} (hl:Cp l=true) (h:fieldAt l s n=some f):Hs f (l.length:Int)=true∧f.number=n:=by
 unfold fieldAt at h
 split at h
 ·rename_i hs
  have hs:=Bb hs
  simp only[Cp,Bool.and_eq_true,decide_eq_true_eq] at hl
  have hm:l.getD s.toNat An2∈l:=by
   rw[List.getD_eq_getElem?_getD,List.getElem?_eq_getElem (by omega)]
   exact List.getElem_mem _
  have hx:=(Nf hl.2 _ hm).1.2
  have hf:=List.mem_of_find?_eq_some h
  have hp:=List.find?_some h
  exact⟨(Sq hx f hf).1,by simpa using hp⟩
 ·cases h
/-! ### Tags -/
def Cz (n w:Int):Int:=if Ak n 1 536870911&&Ak w 0 7 then 8*n+w else 0
def Ky (u:Int):Bool:=Ak u 8 4294967295
def By (u:Int):Int:=if Ky u then u / 8 else 0
def Bk (u:Int):Int:=if Ky u then u % 8 else 0
theorem Bi (n w:Int):0≤Cz n w∧Cz n w≤4294967295:=by
 unfold Cz Ak;split<;>simp_all<;>omega
/-! ### Utf-8 -/
def Mz (u:Utf) (w l h:Int):Bool:=decide (u.want=w)&&(decide (u.low=l)&&decide (u.high=h))
def Gc (u:Utf):Bool:=Mz u 0 0 0||Mz u 1 128 191||Mz u 2 128 191||Mz u 3 128 191||Mz u 2 160 191||Mz u 2 128 159||Mz u 3 144 191||Mz u 3 128 143
theorem Zz {u:Utf} (h:Gc u=true):(u.want=0∧u.low=0∧u.high=0)∨(u.want=1∧u.low=128∧u.high=191)∨(u.want=2∧u.low=128∧u.high=191)∨(u.want=3∧u.low=128∧u.high=191)∨(u.want=2∧u.low=160∧u.high=191)∨(u.want=2∧u.low=128∧u.high=159)∨(u.want=3∧u.low=144∧u.high=191)∨(u.want=3∧u.low=128∧u.high=143):=by
 simp only[Gc,Mz,Bool.or_eq_true,Bool.and_eq_true,decide_eq_true_eq] at h
 rcases h with ((((((h|h)|h)|h)|h)|h)|h)|h<;>simp[h]
theorem K3 {u:Utf} (h:Gc u=true) (h0:u.want=0):u=utf0:=by
 rcases Zz h with h|h|h|h|h|h|h|h<;>first|(cases u;simp_all[utf0];done)|omega
theorem K4 {u:Utf} (h:Gc u=true):0≤u.want∧u.want≤3:=by
 rcases Zz h with h|h|h|h|h|h|h|h<;>omega
def A9 (b:Int):Option Utf:=
 if Ak b 0 127 then some utf0
 else if Ak b 194 223 then some ⟨1,128,191⟩
 else if Ak b 224 239 then some ⟨2,if b=224 then 160 else 128,if b=237 then 159 else 191⟩
 else if Ak b 240 244 then some ⟨3,if b=240 then 144 else 128,if b=244 then 143 else 191⟩
 else none
def B7 (u:Utf) (b:Int):Option Utf:=
 if Gc u then (if u.want=0 then A9 b else if Ak b u.low u.high then some (if u.want=1 then utf0 else ⟨u.want-1,128,191⟩) else none) else none
def D3:Utf→List UInt8→Nat→Utf×Option Nat
 |u,[],_=>(u,none)
 |u,b::r,i=>match B7 u (b.toNat:Int) with
  |some v=>D3 v r (i+1)
  |none=>(u,some i)
def G3 (u:Utf) (s:List UInt8):Utf:=(D3 u s 0).1
def Ct (u:Utf) (s:List UInt8):Int:=match (D3 u s 0).2 with
 |some i=>(i:Int)
 |none=> -1
/-! ### Varints -/
theorem Amc {u:Utf} (h:u.want=0∧u.low=0∧u.high=0):u=utf0:=by cases u;simp_all[utf0]
theorem Amd {u:Utf} (h: ¬(u.want=0∧u.low=0∧u.high=0)):u≠utf0:=fun e=>h (by subst e;simp[utf0])
def Lv (u:Nat):List UInt8:=if h:u<128 then [UInt8.ofNat u] else UInt8.ofNat (u % 128+128)::Lv (u / 128)
termination_by u
decreasing_by omega
def Dg (u:Int):List UInt8:=Lv u.toNat
def Kh (u:Int):Int:=((Dg u).length:Int)
theorem Lw {u:Nat} (h:u<128):Lv u=[UInt8.ofNat u]:=by rw[Lv,dif_pos h]
theorem P6 {u:Nat} (h: ¬u<128):Lv u=UInt8.ofNat (u % 128+128)::Lv (u / 128):=by rw[Lv,dif_neg h]
theorem P7: ∀(k u:Nat),u<128 ^ k→1≤k→(Lv u).length≤k
 |0,_,_,h=>by omega
 |k+1,u,h,_=>by
  by_cases hu:u<128
  ·rw[Lw hu];simp
  ·rw[P6 hu]
   have hk:1≤k:=by
    rcases k with _|k
    ·simp at h;omega
    ·omega
   have:=P7 k (u / 128) (by rw[Nat.pow_succ] at h;exact Nat.div_lt_of_lt_mul (by rw[Nat.mul_comm];exact h)) hk
   simp;omega
theorem Ug (u:Nat):1≤(Lv u).length:=by
 by_cases hu:u<128
 ·rw[Lw hu];simp
 ·rw[P6 hu];simp
theorem Sr {u:Int} (h0:0≤u) (h:u≤127):Dg u=[UInt8.ofNat u.toNat]:=Lw (by omega)
theorem V5 {u:Int} (h0:0≤u) (h:127<u):Dg u=UInt8.ofNat (u % 128+128).toNat::Dg (u / 128):=by
 unfold Dg
 rw[P6 (by omega),show (u / 128).toNat=u.toNat / 128 by omega,show (u % 128+128).toNat=u.toNat % 128+128 by omega]
theorem V6 (u:Int):1≤(Dg u).length:=Ug _
theorem Aa8 {u:Int} (h:u≤18446744073709551615):1≤Kh u∧Kh u≤10:=by
 have h1:=Ug u.toNat
 have h2:=P7 10 u.toNat (by omega) (by omega)
 unfold Kh Dg;omega
theorem Aej {a:Int} (h:0≤a) (h2:a≤255):(.v (.c (.int .u8 (IntKind.u8.wrap (((BitVec.ofInt 8 a&&&BitVec.ofInt 8 127).toNat:Nat):Int)))):S)= .v (.c (.int .u8 (a % 128))):=by
 obtain ⟨n,rfl⟩:=Int.eq_ofNat_of_zero_le h
 have e:(BitVec.ofInt 8 ((n:Nat):Int)&&&BitVec.ofInt 8 127).toNat=n % 128:=by
  rw[BitVec.toNat_and,BitVec.ofInt_natCast,BitVec.toNat_ofNat,Nat.mod_eq_of_lt (by omega)]
  exact Nat.and_two_pow_sub_one_eq_mod n 7
 rw[e]
 have:=P3 (x:=((n % 128:Nat):Int)) (by omega) (by omega)
 rw[this];simp
def vwA (s:List UInt8) (at_ end_:Int):Nat→Int→Int→Int×Int×Int
 |0,_,_=>(0,(s.length:Int),10)
 |f+1,k,u=>
  if end_≤at_+k then (0,end_,9)
  else if (s.length:Int)≤at_+k then (0,(s.length:Int),10)
  else if k=9∧1<((s.getD (at_+k).toNat 0).toNat:Int) then (0,at_+k,1)
  else if ((s.getD (at_+k).toNat 0).toNat:Int)<128 then (u+((s.getD (at_+k).toNat 0).toNat:Int) % 128*2 ^ (7*k).toNat,at_+k+1,0)
  else vwA s at_ end_ f (k+1) (u+((s.getD (at_+k).toNat 0).toNat:Int) % 128*2 ^ (7*k).toNat)
def Ad (s:List UInt8) (at_ end_:Int):Int×Int×Int:=if Ak at_ 0 (s.length:Int) then vwA s at_ end_ 10 0 0 else (0,(s.length:Int),10)
theorem V7 {c:Int} {k:Nat} (hk:k≤9) (h0:0≤c) (h1:c≤127) (h9:k=9→c≤1):0≤c*2 ^ (7*k)∧c*2 ^ (7*k)+2 ^ (7*k)≤18446744073709551616∧(0:Int)<2 ^ (7*k)∧c*2 ^ (7*k)+2 ^ (7*k)≤2 ^ (7*(k+1)):=by
 rcases (show k=0∨k=1∨k=2∨k=3∨k=4∨k=5∨k=6∨k=7∨k=8∨k=9 by omega) with rfl|rfl|rfl|rfl|rfl|rfl|rfl|rfl|rfl|rfl<;>simp at * <;>omega
theorem Qq {c:Int} {k:Nat} (hk:k≤9) (h0:0≤c) (h1:c≤127) (h9:k=9→c≤1):(.v (.c (.int .u64 (IntKind.u64.wrap (c*2 ^ min (Int.toNat (7*((k:Nat):Int))) 64)))):S)= .v (.c (.int .u64 (c*2 ^ (7*k)))):=by
 have h:=V7 hk h0 h1 h9
 rw[show min (Int.toNat (7*((k:Nat):Int))) 64=7*k by omega]
 exact Bx Q2 Q2
theorem Aa9 {u c:Int} {k:Nat} (hk:k≤9) (h0:0≤c) (h1:c≤127) (h9:k=9→c≤1) (hu:0≤u) (hu':u<2 ^ (7*k)):(.v (.c (.int .u64 (IntKind.u64.wrap (((BitVec.ofInt 64 u|||BitVec.ofInt 64 (c*2 ^ (7*k))).toNat:Nat):Int)))):S)= .v (.c (.int .u64 (u+c*2 ^ (7*k)))):=by
 have h:=V7 hk h0 h1 h9
 rw[Aig (k:=7*k) (c:=c) hu hu' h0 rfl (by omega)]
 exact Bx Q2 Q2
theorem Ame {s:List UInt8} {a e:Int} : ∀(f k:Nat) (u:Int),k≤9→10≤f+k→0≤u→u<2 ^ (7*k)→0≤(vwA s a e f k u).1∧(vwA s a e f k u).1≤18446744073709551615
 |0,k,u,_,_,_,_=>by simp[vwA]
 |f+1,k,u,hk,hf,h0,h1=>by
  rw[vwA]
  have hb:=UInt8.toNat_lt (s.getD (a+(k:Int)).toNat 0)
  split
  ·simp
  split
  ·simp
  split
  ·simp
  rename_i h9
  have h9':k=9→¬(1<((s.getD (a+(k:Int)).toNat 0).toNat:Int)):=fun h hh=>h9 ⟨by omega,hh⟩
  have e7:((7*(k:Int)).toNat)=7*k:=by omega
  have hv:=V7 (c:=((s.getD (a+(k:Int)).toNat 0).toNat:Int) % 128) (k:=k) (by omega) (by omega) (by omega) (by intro h;have:=h9' h;omega)
  split
  ·rw[e7];dsimp only;omega
  ·rename_i h128
   have hk8:k≠9:=fun h=>by have:=h9' h;omega
   rw[e7,show (k:Int)+1=((k+1:Nat):Int) by simp]
   exact Ame f (k+1) _ Q2 Q2 Q2 Q2
theorem J2 (s:List UInt8) (a e:Int):0≤(Ad s a e).1∧(Ad s a e).1≤18446744073709551615:=by
 unfold Ad
 split
 ·exact Ame 10 0 0 (by omega) (by omega) (by omega) (by decide)
 ·simp
/-! ### Numbers of so Lm bytes -/
def Ek (w:Int):Bool:=decide (w=4)||decide (w=8)
def D8:List UInt8→Nat
 |[]=>0
 |b::r=>b.toNat+256*D8 r
def Cq (s:List UInt8) (at_ w:Int):Bool:=Ek w&&Ak at_ 0 ((s.length:Int)-w)
def Fq (s:List UInt8) (at_ w:Int):Int:=if Cq s at_ w then (D8 ((s.drop at_.toNat).take w.toNat):Int) else 0
theorem Ss: ∀(l:List UInt8) (b:UInt8),D8 (l++[b])=D8 l+b.toNat*2 ^ (8*l.length)
 |[],b=>by simp[D8]
 |a::l,b=>by
  simp only[List.cons_append,D8,Ss l b,List.length_cons]
  rw[show 8*(l.length+1)=8*l.length+8 by omega,Nat.pow_add,←Nat.mul_assoc]
  omega
theorem V8: ∀(l:List UInt8),D8 l<2 ^ (8*l.length)
 |[]=>by simp[D8]
 |a::l=>by
  have:=V8 l
  have:=UInt8.toNat_lt a
  simp only[D8,List.length_cons]
  rw[show 8*(l.length+1)=8*l.length+8 by omega,Nat.pow_add]
  omega
theorem Jm {l:List UInt8} {k:Nat} (h:l.length≤k):D8 l<2 ^ (8*k):=Nat.lt_of_lt_of_le (V8 l) (Nat.pow_le_pow_right (by decide) (by omega))
theorem Aek {α:Type} {l:List α} {a i:Nat} {x:α} (h:l[a+i]? =some x):(l.drop a).take (i+1)=(l.drop a).take i++[x]:=by
 have h':(l.drop a)[i]? =some x:=by rw[List.getElem?_drop];exact h
 obtain ⟨hl,hx⟩:=List.getElem?_eq_some_iff.1 h'
 rw[List.take_succ_eq_append_getElem hl,hx]
theorem Aih {c:Int} {k:Nat} (hk:k≤7) (h0:0≤c) (h1:c≤255):0≤c*2 ^ (8*k)∧c*2 ^ (8*k)+2 ^ (8*k)≤18446744073709551616∧(0:Int)<2 ^ (8*k):=by
 rcases (show k=0∨k=1∨k=2∨k=3∨k=4∨k=5∨k=6∨k=7 by omega) with rfl|rfl|rfl|rfl|rfl|rfl|rfl|rfl<;>simp at * <;>omega
theorem Aem {c:Int} {k:Nat} (hk:k≤7) (h0:0≤c) (h1:c≤255):(.v (.c (.int .u64 (IntKind.u64.wrap (c*2 ^ min (Int.toNat (8*((k:Nat):Int))) 64)))):S)= .v (.c (.int .u64 (c*2 ^ (8*k)))):=by
 have h:=Aih hk h0 h1
 rw[show min (Int.toNat (8*((k:Nat):Int))) 64=8*k by omega]
 exact Bx Q2 Q2
theorem Agz {u c:Int} {k:Nat} (hk:k≤7) (h0:0≤c) (h1:c≤255) (hu:0≤u) (hu':u<2 ^ (8*k)):(.v (.c (.int .u64 (IntKind.u64.wrap (((BitVec.ofInt 64 u|||BitVec.ofInt 64 (c*2 ^ (8*k))).toNat:Nat):Int)))):S)= .v (.c (.int .u64 (u+c*2 ^ (8*k)))):=by
 have h:=Aih hk h0 h1
 rw[Aig (k:=8*k) (c:=c) hu hu' h0 rfl (by omega)]
 exact Bx Q2 Q2
theorem Yj {w:Int} (h:Ek w=true):w=4∨w=8:=by simpa [Ek] using h
theorem Aen {w:Int} (h:Ek w=false):w≠4∧w≠8:=by simpa [Ek] using h
def Bd (c a:Int):Ev:=⟨10,0,0,0,[],c,a⟩
def D9 (f:Fld) (u:Int):Ev:=⟨2,f.number,if f.kind=3∧u≠0 then 1 else u,0,[],0,0⟩
def Ng (b:List UInt8):List UInt8:=Dg (b.length:Int)++b
theorem Aco {u:Int} (h:u≤18446744073709551615):(Dg u).length≤10:=by
 have:=P7 10 u.toNat (by omega) (by omega);exact this
theorem St {f:Fld} {l:List Fld} {n:Int} :F2 (f::l) n=if f.number=n then some f else F2 l n:=by
 unfold F2;rw[List.find?_cons];by_cases h:f.number=n<;>simp[h]
theorem V9 {l:List Shp} {s n:Int} {x:Shp} (hs:Ak s 0 ((l.length:Int)-1)=true) (hx:l[s.toNat]? =some x):fieldAt l s n=F2 x.fields n:=by
 rw[fieldAt,if_pos hs,P5 hx]
def Lm (l:List Ev) (k:Int):Int:=((l.filter fun e=>decide (e.kind=k)).length:Int)
theorem Yk {e:Ev} {l:List Ev} {k:Int} :Lm (e::l) k=(if e.kind=k then 1 else 0)+Lm l k:=by
 unfold Lm;rw[List.filter_cons];by_cases h:e.kind=k<;>simp[h];omega
def C0:List Ev→Nat→Int
 |[],_=> -1
 |e::r,i=>if e.kind=8 then (i:Int) else C0 r (i+1)
def B8 (l:List Ev) (a:Int):Int:=if a<0 then-1 else C0 (l.drop a.toNat) a.toNat
structure Fa where
 stack:List Int
 inText:Bool
 isText:Bool
 utf:Utf
 ended:Bool
 deriving Inhabited
structure Fmr where
 plan:Pln
 st:Fa
structure Fs where
 stack:List Int
 field:Fld
 open_:Bool
 utf:Utf
 ended:Bool
def Nh (l:List Int):Int:=l.getD (l.length-1) 0
def Uh (p:Pln) (a:Fa) (e:Ev):Option Fld:=fieldAt p.shapes (Nh a.stack) e.field
def isBytes (k:Int):Bool:=decide (k=6)||decide (k=7)
def G7 (p:Pln) (a:Fa) (e:Ev):Int:=match Uh p a e with
 |none=>3
 |some f=>
  if (e.kind=2∧Bw f.kind=false)∨(e.kind=3∧isBytes f.kind=false)∨(e.kind=6∧f.kind≠8) then 2
  else if e.kind=2∧D7 f.kind e.bits=false then 4
  else if e.kind=6∧p.deep≤(a.stack.length:Int) then 6
  else 0
def Cg (p:Pln) (a:Fa) (e:Ev):Fa:=
 if G7 p a e≠0 then a
 else if e.kind=3 then ⟨a.stack,true,decide (((Uh p a e).getD fld0).kind=6),utf0,a.ended⟩
 else if e.kind=6 then ⟨a.stack++[((Uh p a e).getD fld0).msg],a.inText,a.isText,a.utf,a.ended⟩
 else a
theorem Su {p:Pln} {a:Fa} {e:Ev} {f:Fld} (h:Uh p a e=some f):G7 p a e=if (e.kind=2∧Bw f.kind=false)∨(e.kind=3∧isBytes f.kind=false)∨(e.kind=6∧f.kind≠8) then 2 else if e.kind=2∧D7 f.kind e.bits=false then 4 else if e.kind=6∧p.deep≤(a.stack.length:Int) then 6 else 0:=by
 unfold G7;rw[h]
theorem Sv {p:Pln} {a:Fa} {e:Ev} (h:Uh p a e=none):G7 p a e=3:=by
 unfold G7;rw[h]
theorem Sw {p:Pln} {a:Fa} {e:Ev} {f:Fld} (h:Uh p a e=some f):Cg p a e=if G7 p a e≠0 then a else if e.kind=3 then ⟨a.stack,true,decide (f.kind=6),utf0,a.ended⟩ else if e.kind=6 then ⟨a.stack++[f.msg],a.inText,a.isText,a.utf,a.ended⟩ else a:=by
 unfold Cg;rw[h];rfl
theorem Ym {p:Pln} {a:Fa} {e:Ev} (h:Uh p a e=none):Cg p a e=a:=by
 unfold Cg;rw[if_pos (by rw[Sv h];decide)]
def Gk (a:Fa) (e:Ev):Int:=
 if e.kind=4 then (if a.isText=true∧0≤Ct a.utf e.text then 5 else 0)
 else if e.kind=5 then (if a.isText=true∧a.utf≠utf0 then 5 else 0)
 else 2
def C4 (a:Fa) (e:Ev):Fa:=
 if Gk a e≠0 then a
 else if e.kind=4 then (if a.isText=true then ⟨a.stack,a.inText,a.isText,G3 a.utf e.text,a.ended⟩ else a)
 else ⟨a.stack,false,a.isText,a.utf,a.ended⟩
def E7 (p:Pln) (a:Fa) (e:Ev):Int:=
 if a.ended=true then 2
 else if a.inText=true then Gk a e
 else if Ec e.kind=true then G7 p a e
 else if e.kind=7∧1<a.stack.length then 0
 else if e.kind=8∧a.stack.length=1 then 0
 else 2
def Dc (p:Pln) (a:Fa) (e:Ev):Fa:=
 if a.ended=true then a
 else if a.inText=true then C4 a e
 else if Ec e.kind=true then Cg p a e
 else if e.kind=7∧1<a.stack.length then ⟨a.stack.take (a.stack.length-1),a.inText,a.isText,a.utf,a.ended⟩
 else if e.kind=8∧a.stack.length=1 then ⟨a.stack,a.inText,a.isText,a.utf,true⟩
 else a
def Ui (p:Pln):Fa→List Ev→Int→Int×Int
 |a,[],i=>if a.ended=true then (0,0) else (7,i)
 |a,e::r,i=>if E7 p a e≠0 then (E7 p a e,i) else Ui p (Dc p a e) r (i+1)
def fa0 (p:Pln):Fa:=⟨[p.root],false,false,utf0,false⟩
def C1 (p:Pln) (l:List Ev):Int×Int:=match l with
 |[]=>(1,0)
 |e::r=>if Bo p=true∧e.kind=1 then Ui p (fa0 p) r 1 else (1,0)
theorem Z0 {b:Int} {u:Utf} (h:A9 b=some u):Gc u=true:=by
 unfold A9 at h
 repeat' split at h
 all_goals first|(cases h;done)|(cases h;first|decide|(exfalso;omega)|(simp only[Gc,Mz];simp_all;done)|(simp only[Gc,Mz];simp_all;omega))
theorem Acp {u v:Utf} {b:Int} (h:B7 u b=some v):Gc v=true:=by
 unfold B7 at h
 split at h
 ·rename_i hu
  have hw:=K4 hu
  split at h
  ·exact Z0 h
  ·split at h
   ·split at h
    ·cases h;decide
    ·cases h
     rcases Zz hu with h|h|h|h|h|h|h|h<;>simp_all[Gc,Mz]
   ·cases h
 ·cases h
theorem Yn: ∀ {u:Utf} {s:List UInt8} {i:Nat},Gc u=true→Gc (D3 u s i).1=true
 |u,[],i,h=>h
 |u,b::r,i,h=>by
  unfold D3
  split
  ·rename_i v hv;exact Yn (Acp hv)
  ·exact h
theorem Qr {u:Utf} {s:List UInt8} (h:Gc u=true):Gc (G3 u s)=true:=Yn h
theorem Vi (a:Fa) (e:Ev):(C4 a e).stack=a.stack:=by
 unfold C4;repeat' split
 all_goals rfl
theorem Yo {p:Pln} {a:Fa} (e:Ev) (h1:1≤a.stack.length) (h2:a.stack.length≤8) (hd:p.deep≤8):1≤(Dc p a e).stack.length∧(Dc p a e).stack.length≤8:=by
 unfold Dc
 split
 ·exact⟨h1,h2⟩
 split
 ·rw[Vi];exact⟨h1,h2⟩
 split
 ·unfold Cg
  split
  ·exact⟨h1,h2⟩
  ·rename_i hv
   split
   ·exact⟨h1,h2⟩
   split
   ·rename_i h6
    have hv:G7 p a e=0:=by simpa using hv
    have:(a.stack.length:Int)<p.deep:=by
     unfold G7 at hv
     split at hv
     ·omega
     ·split at hv
      ·omega
      split at hv
      ·omega
      split at hv
      ·omega
      ·rename_i hh;omega
    simp;omega
   ·exact⟨h1,h2⟩
 split
 ·rename_i hh;simp;omega
 split<;>exact⟨h1,h2⟩
def EvB (e:Ev):Prop:=List.length e.text≤Bg∧(0:Int)≤e.bits∧e.bits≤18446744073709551615
theorem Vj {p:Pln} {l:List Ev} {e:Ev} (h0:l[0]? =some e) (hp:Bo p=true) (hk:e.kind=1):C1 p l=Ui p (fa0 p) (l.drop 1) 1:=by
 cases l with
 |nil=>simp at h0
 |cons a r=>simp at h0;subst h0;simp[C1,hp,hk]
theorem Xh {p:Pln} {l:List Ev} {e:Ev} (h0:l[0]? =some e) (hp: ¬(Bo p=true∧e.kind=1)):C1 p l=(1,0):=by
 cases l with
 |nil=>rfl
 |cons a r=>simp at h0;subst h0;simp only[C1];rw[if_neg hp]
theorem Vk {p:Pln} {l:List Ev} (hp:Bo p=false):C1 p l=(1,0):=by
 cases l with
 |nil=>rfl
 |cons a r=>simp[C1,hp]
theorem Acq {p:Pln} {a:Fa} {e:Ev} {r:List Ev} {i:Int} :Ui p a (e::r) i=if E7 p a e≠0 then (E7 p a e,i) else Ui p (Dc p a e) r (i+1):=rfl
theorem Aeo {p:Pln} {a:Fa} {i:Int} :Ui p a [] i=if a.ended=true then (0,0) else (7,i):=rfl
def cEv (x:Ev):List C:=[.int .i64 x.kind,.int .i64 x.field,.int .u64 x.bits,.int .i64 x.len,.str x.text,.int .i64 x.code,.int .i64 x.at_]
def Ew (x:Fld):List C:=[.int .i64 x.number,.int .i64 x.kind,.bool x.rep,.bool x.packed,.int .i64 x.msg]
def Ani (x:Shp):List C:=[.int .i64 x.id,.seq .fld x.fields]
def Ja (x:Utf):List C:=[.int .i64 x.want,.int .i64 x.low,.int .i64 x.high]
def Dm (x:Pln):List C:=[.seq .shp x.shapes,.int .i64 x.root,.int .i64 x.deep,.int .i64 x.most]
def M0 (j4:Nat) (x:Fmr):List C:=[.seq .shp x.plan.shapes,.int .i64 x.plan.root,.int .i64 x.plan.deep,.int .i64 x.plan.most,.own j4,.bool x.st.inText,.bool x.st.isText,.int .i64 x.st.utf.want,.int .i64 x.st.utf.low,.int .i64 x.st.utf.high,.bool x.st.ended]
abbrev L2 (d:Dcd):List Blk:=[.tree d.plan.shapes,.lst .lev d.stack]
structure Mr where
 plan:Pln
 s:List UInt8
 at_:Int
 out:List Ev
 fail:Ev
 deriving Inhabited
def Ay (r:Mr) (c a:Int):Mr:=⟨r.plan,r.s,r.at_,r.out,Bd c a⟩
def M1 (r:Mr) (a:Int):Mr:=⟨r.plan,r.s,a,r.out,r.fail⟩
def Ag (r:Mr) (e:Ev):Mr:=⟨r.plan,r.s,r.at_,r.out++[e],r.fail⟩
def Aw (r:Mr) (end_:Int):Bool:=decide ((Ad r.s r.at_ end_).2.2=0)
def Ae (r:Mr) (end_:Int):Int:=if Aw r end_ then (Ad r.s r.at_ end_).1 else 0
def Aa (r:Mr) (end_:Int):Mr:=if Aw r end_ then M1 r (Ad r.s r.at_ end_).2.1 else Ay r (Ad r.s r.at_ end_).2.2 (Ad r.s r.at_ end_).2.1
def Di (r:Mr) (w end_:Int):Bool:=decide (w≤end_-r.at_)&&Cq r.s r.at_ w
def Eb (r:Mr) (w end_:Int):Int:=if Di r w end_ then Fq r.s r.at_ w else 0
def De (r:Mr) (w end_:Int):Mr:=if end_-r.at_<w then Ay r 9 r.at_ else if Cq r.s r.at_ w then M1 r (r.at_+w) else Ay r 10 (r.s.length:Int)
def Cx (r:Mr) (wire end_:Int):Bool:=if 0<A3 wire then Di r (A3 wire) end_ else Aw r end_
def Cw (r:Mr) (wire end_:Int):Int:=if 0<A3 wire then Eb r (A3 wire) end_ else Ae r end_
def B3 (r:Mr) (wire end_:Int):Mr:=if 0<A3 wire then De r (A3 wire) end_ else Aa r end_
def A6 (r:Mr) (f:Fld) (wire end_:Int):Mr:=if Cx r wire end_=true∧0<f.number then Ag (B3 r wire end_) (D9 f (Cw r wire end_)) else B3 r wire end_
def B5 {α:Type} (go:α→Bool) (step:α→α):Nat→α→α
 |0,a=>a
 |k+1,a=>if go a then B5 go step k (step a) else a
theorem B6 {α:Type} {go:α→Bool} {step:α→α} {k:Nat} {a:α} (h:go a=false):B5 go step k a=a:=by
 cases k with
 |zero=>rfl
 |succ k=>simp[B5,h]
theorem Wa {α:Type} {go:α→Bool} {step:α→α} (inv:α→Prop) (μ:α→Nat) (dec: ∀a,inv a→go a=true→inv (step a)∧μ (step a)<μ a): ∀(n:Nat) (a:α) (k l:Nat),μ a≤n→inv a→μ a≤k→μ a≤l→B5 go step k a=B5 go step l a:=by
 intro n
 induction n with
 |zero=>
  intro a k l h hi _ _
  cases hg:go a with
  |false=>rw[B6 hg,B6 hg]
  |true=>have:=(dec a hi hg).2;omega
 |succ n ih=>
  intro a k l h hi hk hl
  cases hg:go a with
  |false=>rw[B6 hg,B6 hg]
  |true=>
   obtain ⟨h1,h2⟩:=dec a hi hg
   obtain ⟨k,rfl⟩: ∃j,k=j+1:=⟨k-1,by omega⟩
   obtain ⟨l,rfl⟩: ∃j,l=j+1:=⟨l-1,by omega⟩
   simp only[B5,hg,if_true]
   exact ih _ _ _ Q2 h1 Q2 Q2
theorem Xi {α:Type} {go:α→Bool} {step:α→α} (inv:α→Prop) (μ:α→Nat) (dec: ∀a,inv a→go a=true→inv (step a)∧μ (step a)<μ a) {a:α} (hi:inv a) (hg:go a=true):B5 go step (μ a) a=B5 go step (μ (step a)) (step a):=by
 obtain ⟨h1,h2⟩:=dec a hi hg
 obtain ⟨k,hk⟩: ∃j,μ a=j+1:=⟨μ a-1,by omega⟩
 rw[hk]
 simp only[B5,hg,if_true]
 exact Wa inv μ dec _ _ _ _ (Nat.le_refl _) h1 Q2 (Nat.le_refl _)
def Du (end_:Int) (r:Mr):Bool:=decide (r.at_<end_)&&decide (r.fail.kind=0)
def Fi (r:Mr):Nat:=if r.fail.kind=0 then (1+(r.s.length:Int)-r.at_).toNat else 0
def Gm (r:Mr) (f:Fld) (end_:Int):Mr:=B5 (Du end_) (fun r=>A6 r f (Bn f.kind) end_) (Fi r) r
def Av (f:Fld) (n:Int):Ev:=⟨3,f.number,0,n,[],0,0⟩
def Da (t:List UInt8):Ev:=⟨4,0,0,0,t,0,0⟩
def shutEv:Ev:=⟨5,0,0,0,[],0,0⟩
def Ci (f:Fld) (n:Int):Ev:=⟨6,f.number,0,n,[],0,0⟩
def Xy:Ev:=⟨7,0,0,0,[],0,0⟩
def Aj (r:Mr) (n:Int):List UInt8:=(r.s.drop r.at_.toNat).take n.toNat
def Dx (r:Mr) (f:Fld) (n:Int):Int:=if f.kind=6 then Ct utf0 (Aj r n) else-1
def Qs (r:Mr) (f:Fld) (n:Int):Utf:=if f.kind=6 then G3 utf0 (Aj r n) else utf0
def Cy (r:Mr) (f:Fld) (n:Int):List UInt8:=if 0≤Dx r f n then (Aj r n).take (Dx r f n).toNat else Aj r n
def Bq (r:Mr) (f:Fld) (n:Int):Mr:=if Cy r f n=[] then Ag r (Av f n) else Ag (Ag r (Av f n)) (Da (Cy r f n))
def A0 (r:Mr) (f:Fld) (n:Int):Mr:=
 if 0≤Dx r f n then Ay (Bq r f n) 5 (r.at_+Dx r f n)
 else if ((Aj r n).length:Int)<n then Ay (Bq r f n) 10 (r.s.length:Int)
 else if (Qs r f n).want≠0 then Ay (Bq r f n) 5 (r.at_+n)
 else Ag (M1 (Bq r f n) (r.at_+n)) shutEv
def Au (sub:Mr→Fld→Int→Int→Mr) (r:Mr) (f:Fld) (known:Bool) (end_:Int):Mr:=
 if Aw r end_=false then Aa r end_
 else if end_-(Aa r end_).at_<Ae r end_ then Ay (Aa r end_) 8 r.at_
 else if known=false then (if (r.s.length:Int)-(Aa r end_).at_<Ae r end_ then Ay (Aa r end_) 10 (r.s.length:Int) else M1 (Aa r end_) ((Aa r end_).at_+Ae r end_))
 else if f.kind=8 then sub (Aa r end_) f (Ae r end_) r.at_
 else if Bw f.kind=true then Gm (Aa r end_) f ((Aa r end_).at_+Ae r end_)
 else A0 (Aa r end_) f (Ae r end_)
def B0 (sub:Mr→Fld→Int→Int→Mr) (shape end_:Int) (r:Mr):Mr:=
 if Aw r end_=false then Aa r end_
 else if Ky (Ae r end_)=false then Ay (Aa r end_) 2 r.at_
 else if G4 (Bk (Ae r end_))=false then Ay (Aa r end_) 3 r.at_
 else if (fieldAt r.plan.shapes shape (By (Ae r end_))).isSome=true∧Ez ((fieldAt r.plan.shapes shape (By (Ae r end_))).getD fld0) (Bk (Ae r end_))=false then Ay (Aa r end_) 4 r.at_
 else if Bk (Ae r end_)=2 then Au sub (Aa r end_) ((fieldAt r.plan.shapes shape (By (Ae r end_))).getD fld0) (fieldAt r.plan.shapes shape (By (Ae r end_))).isSome end_
 else A6 (Aa r end_) ((fieldAt r.plan.shapes shape (By (Ae r end_))).getD fld0) (Bk (Ae r end_)) end_
def Cj:Nat→Int→Int→Mr→Mr
 |0,shape,end_,r=>B5 (Du end_) (B0 (fun r _ _ start=>Ay r 6 start) shape end_) (Fi r) r
 |D+1,shape,end_,r=>B5 (Du end_) (B0 (fun r f n _=>if (Cj D f.msg (r.at_+n) (Ag r (Ci f n))).fail.kind=0 then Ag (Cj D f.msg (r.at_+n) (Ag r (Ci f n))) Xy else Cj D f.msg (r.at_+n) (Ag r (Ci f n))) shape end_) (Fi r) r
def Do:Nat→Mr→Fld→Int→Int→Mr
 |0=>fun r _ _ start=>Ay r 6 start
 |D+1=>fun r f n _=>if (Cj D f.msg (r.at_+n) (Ag r (Ci f n))).fail.kind=0 then Ag (Cj D f.msg (r.at_+n) (Ag r (Ci f n))) Xy else Cj D f.msg (r.at_+n) (Ag r (Ci f n))
theorem Cr (D:Nat) (shape end_:Int) (r:Mr):Cj D shape end_ r=B5 (Du end_) (B0 (Do D) shape end_) (Fi r) r:=by
 cases D<;>rfl
/-! ### What steps keep -/
theorem Aep {s:List UInt8} {a e:Int} : ∀(f k:Nat) (u:Int),(vwA s a e f k u).2.2=0→a+k<(vwA s a e f k u).2.1∧(vwA s a e f k u).2.1≤e∧(vwA s a e f k u).2.1≤(s.length:Int)
 |0,k,u=>by simp[vwA]
 |f+1,k,u=>by
  rw[vwA]
  split
  ·simp
  split
  ·simp
  split
  ·simp
  split
  ·simp;omega
  ·intro h
   have:=Aep f (k+1) _ h
   rw[show ((k+1:Nat):Int)=(k:Int)+1 by simp] at this
   omega
theorem Ht {s:List UInt8} {a e:Int} (h:(Ad s a e).2.2=0):0≤a∧a<(Ad s a e).2.1∧(Ad s a e).2.1≤e∧(Ad s a e).2.1≤(s.length:Int):=by
 unfold Ad at h ⊢
 split
 ·rename_i hw
  rw[if_pos hw] at h
  have:=Bb hw
  have:=Aep 10 0 0 h
  rw[show ((0:Nat):Int)=0 from rfl] at this
  omega
 ·rename_i hw
  rw[if_neg hw] at h
  simp at h
structure Adv (r r':Mr):Prop where
 plan:r'.plan=r.plan
 s:r'.s=r.s
 at_:r'.fail.kind=0→r.at_≤r'.at_∧r'.at_≤(r.s.length:Int)
 fail:r'.fail.kind=0→r'.fail=r.fail
 room:r'.fail.kind=0→(r'.out.length:Int)+4*((r.s.length:Int)-r'.at_)≤(r.out.length:Int)+4*((r.s.length:Int)-r.at_)
 most:(r'.out.length:Int)≤(r.out.length:Int)+4*((r.s.length:Int)-r.at_)
def Adv1 (r r':Mr):Prop:=Adv r r'∧(r'.fail.kind=0→r.at_<r'.at_)
theorem Adv.trans {a b c:Mr} (h:Adv a b) (hb:b.fail.kind=0) (g:Adv b c):Adv a c:=by
 obtain ⟨h1,h2⟩:=h.at_ hb
 have hr:=h.room hb
 have gm:=g.most
 rw[h.s] at gm
 refine⟨g.plan.trans h.plan,g.s.trans h.s,fun hc=>?_,fun hc=>(g.fail hc).trans (h.fail hb),fun hc=>?_,by omega⟩
 ·have:=g.at_ hc
  rw[h.s] at this
  omega
 ·have:=g.room hc
  rw[h.s] at this
  omega
theorem Adv.refl (r:Mr) (h:r.at_≤(r.s.length:Int)):Adv r r:=⟨rfl,rfl,fun _=>⟨Int.le_refl _,h⟩,fun _=>rfl,fun _=>Int.le_refl _,by omega⟩
theorem Adv1.trans {a b c:Mr} (h:Adv1 a b) (hb:b.fail.kind=0) (g:Adv b c):Adv1 a c:=
 ⟨h.1.trans hb g,fun hc=>by
  have h1:=h.2 hb
  have:=g.at_ hc
  omega⟩
theorem Adv.failed {r r':Mr} (hp:r'.plan=r.plan) (hs:r'.s=r.s) (hk:r'.fail.kind≠0) (ho:(r'.out.length:Int)≤(r.out.length:Int)+4*((r.s.length:Int)-r.at_)):Adv r r':=
 ⟨hp,hs,fun h=>(hk h).elim,fun h=>(hk h).elim,fun h=>(hk h).elim,ho⟩
theorem Adv1.failed {r r':Mr} (hp:r'.plan=r.plan) (hs:r'.s=r.s) (hk:r'.fail.kind≠0) (ho:(r'.out.length:Int)≤(r.out.length:Int)+4*((r.s.length:Int)-r.at_)):Adv1 r r':=
 ⟨Adv.failed hp hs hk ho,fun h=>(hk h).elim⟩
theorem Br (r:Mr) (c a:Int):(Ay r c a).fail.kind≠0:=by simp[Ay,Bd]
theorem Rw {r:Mr} {c a:Int} (h:r.at_≤(r.s.length:Int)):Adv1 r (Ay r c a):=Adv1.failed rfl rfl (Br r c a) (by simp only[Ay];omega)
theorem Td {r:Mr} {e:Int} (h:Aw r e=true):Aa r e=M1 r (Ad r.s r.at_ e).2.1:=by unfold Aa;rw[if_pos h]
theorem Ni {r:Mr} {e:Int} (h:Aw r e=false):Aa r e=Ay r (Ad r.s r.at_ e).2.2 (Ad r.s r.at_ e).2.1:=by unfold Aa;rw[if_neg (by simp[h])]
theorem Aba {r:Mr} {a:Int} (h1:r.at_<a) (h2:a≤(r.s.length:Int)):Adv1 r (M1 r a):=
 ⟨⟨rfl,rfl,fun _=>⟨by simp only[M1];omega,h2⟩,fun _=>rfl,fun _=>by simp only[M1];omega,by simp only[M1];omega⟩,fun _=>h1⟩
theorem Ck {r:Mr} {e:Int} (h1:r.at_≤(r.s.length:Int)):Adv1 r (Aa r e)∧(Aw r e=true→0≤r.at_∧(Aa r e).at_≤e)∧(Aa r e).out=r.out:=by
 cases hok:Aw r e with
 |true=>
  rw[Td hok]
  have hc:(Ad r.s r.at_ e).2.2=0:=by simpa [Aw] using hok
  have hv:=Ht hc
  exact⟨Aba hv.2.1 hv.2.2.2,fun _=>⟨hv.1,hv.2.2.1⟩,rfl⟩
 |false=>
  rw[Ni hok]
  exact⟨Rw h1,fun h=>by simp at h,rfl⟩
theorem Bz {r:Mr} {e:Int} (h0:r.fail.kind=0):Aw r e=decide ((Aa r e).fail.kind=0):=by
 cases hok:Aw r e with
 |true=>rw[Td hok];simp[M1,h0]
 |false=>rw[Ni hok];rfl
theorem K5 {s:List UInt8} {a w:Int} (h:Cq s a w=true):(w=4∨w=8)∧0≤a∧a+w≤(s.length:Int):=by
 simp only[Cq,Bool.and_eq_true] at h
 have:=Bb h.2
 exact⟨Yj h.1,by omega,by omega⟩
theorem Yp {r:Mr} {w e:Int} (h1:r.at_≤(r.s.length:Int)):Adv1 r (De r w e)∧(De r w e).out=r.out:=by
 unfold De
 split
 ·exact⟨Rw h1,rfl⟩
 ·split
  ·rename_i h2 h3
   have:=K5 h3
   exact⟨Aba Q2 Q2,rfl⟩
  ·exact⟨Rw h1,rfl⟩
theorem Nj {r:Mr} {w e:Int} (h1:r.at_≤(r.s.length:Int)):Adv1 r (B3 r w e)∧(B3 r w e).out=r.out:=by
 unfold B3;split
 ·exact Yp h1
 ·exact⟨(Ck h1).1,(Ck h1).2.2⟩
theorem Dt {r:Mr} {w e:Int} (h0:r.fail.kind=0):Cx r w e=decide ((B3 r w e).fail.kind=0):=by
 unfold Cx B3;split
 ·unfold De Di
  split
  ·rename_i h;rw[decide_eq_false (by omega)];rfl
  ·rename_i h;rw[decide_eq_true (by omega)]
   split<;>rename_i h2
   ·simp[h2,M1,h0]
   ·simp[h2,Ay,Bd]
 ·exact Bz h0
theorem Ag0 {r r':Mr} {e:Ev} (h:Adv1 r r') (ho:r'.out=r.out) (hk:r'.fail.kind=0):Adv1 r (Ag r' e):=by
 have ha:=h.1.at_ hk
 have hb:=h.2 hk
 refine⟨⟨h.1.plan,h.1.s,h.1.at_,h.1.fail,fun _=>?_,?_⟩,h.2⟩
 ·simp only[Ag,List.length_append,List.length_cons,List.length_nil,ho];omega
 ·simp only[Ag,List.length_append,List.length_cons,List.length_nil,ho];omega
theorem G8 {r:Mr} {f:Fld} {w e:Int} (h1:r.at_≤(r.s.length:Int)) (h0:r.fail.kind=0):Adv1 r (A6 r f w e):=by
 have hv:=Nj (w:=w) (e:=e) h1
 unfold A6
 split
 ·rename_i hh
  have:=hh.1
  rw[Dt h0] at this
  exact Ag0 hv.1 hv.2 (by simpa using this)
 ·exact hv.1
theorem Qt {go:Mr→Bool} {step:Mr→Mr} (hgo: ∀r,go r=true→r.fail.kind=0) (hstep: ∀r,r.at_≤(r.s.length:Int)→r.fail.kind=0→Adv1 r (step r)): ∀(k:Nat) (r:Mr),r.at_≤(r.s.length:Int)→Adv r (B5 go step k r)
 |0,r,h=>Adv.refl r h
 |k+1,r,h=>by
  unfold B5
  cases hg:go r with
  |false=>exact Adv.refl r h
  |true=>
   have hk:=hgo r hg
   have hs:=hstep r h hk
   simp only[if_true]
   by_cases hk':(step r).fail.kind=0
   ·have:=hs.1.at_ hk'
    exact hs.1.trans hk' (Qt hgo hstep k (step r) (by rw[hs.1.s];exact this.2))
   ·have:B5 go step k (step r)=step r:=B6 (by cases hg':go (step r) with
     |false=>rfl
     |true=>exact(hk' (hgo _ hg')).elim)
    rw[this];exact hs.1
theorem E8 {e:Int} {r:Mr} (h:Du e r=true):r.fail.kind=0:=by simp[Du] at h;exact h.2
theorem Jd {r r':Mr} (h1:r.at_≤(r.s.length:Int)) (h0:r.fail.kind=0) (h:Adv1 r r'):Fi r'<Fi r:=by
 unfold Fi
 rw[if_pos h0]
 split
 ·rename_i hk
  have:=h.2 hk
  have:=h.1.at_ hk
  rw[h.1.s];omega
 ·omega
theorem Aeq {r:Mr} {f:Fld} {e:Int} (h1:r.at_≤(r.s.length:Int)):Adv r (Gm r f e):=
 Qt (fun r h=>E8 h) (fun r h h0=>G8 h h0) _ r h1
theorem Abb {r:Mr} {f:Fld} {e:Int} (h1:r.at_≤(r.s.length:Int)) (hg:Du e r=true):Gm r f e=Gm (A6 r f (Bn f.kind) e) f e:=by
 unfold Gm
 refine Xi (fun r=>r.at_≤(r.s.length:Int)∨r.fail.kind≠0) Fi (fun a hi hg=>?_) (.inl h1) hg
 have hk:=E8 hg
 have ha:=hi.resolve_right (fun h=>h hk)
 have:=G8 (f:=f) (w:=Bn f.kind) (e:=e) ha hk
 refine⟨?_,Jd ha hk this⟩
 by_cases hk':(A6 a f (Bn f.kind) e).fail.kind=0
 ·left;rw[this.1.s];exact(this.1.at_ hk').2
 ·exact .inr hk'
theorem Wb {r:Mr} {f:Fld} {e:Int} (hg:Du e r=false):Gm r f e=r:=B6 hg
theorem Wc {r:Mr} {f:Fld} {w e:Int} (h:Cx r w e=true) (hf:0<f.number):A6 r f w e=Ag (B3 r w e) (D9 f (Cw r w e)):=by unfold A6;rw[if_pos ⟨h,hf⟩]
theorem Z1 {r:Mr} {f:Fld} {w e:Int} (h:Cx r w e=false):A6 r f w e=B3 r w e:=by unfold A6;rw[if_neg (by simp[h])]
structure RunInv (r0:Mr) (f:Fld) (e:Int) (q:Mr):Prop where
 at_:q.at_≤(q.s.length:Int)
 fail:q.fail.kind=0
 adv:Adv r0 q
 run:Gm q f e=Gm r0 f e
theorem RunInv.refl {r:Mr} {f:Fld} {e:Int} (h1:r.at_≤(r.s.length:Int)) (h0:r.fail.kind=0):RunInv r f e r:=⟨h1,h0,Adv.refl r h1,rfl⟩
theorem RunInv.next {r q:Mr} {f:Fld} {e:Int} (h:RunInv r f e q) (hg:q.at_<e) (hok:Cx q (Bn f.kind) e=true) (hf:0<f.number):RunInv r f e (Ag (B3 q (Bn f.kind) e) (D9 f (Cw q (Bn f.kind) e))):=by
 have hgo:Du e q=true:=by simp[Du,hg,h.fail]
 have hs:=G8 (f:=f) (w:=Bn f.kind) (e:=e) h.at_ h.fail
 have hr:=Abb (f:=f) h.at_ hgo
 rw[Wc hok hf] at hs hr
 have hk:(Ag (B3 q (Bn f.kind) e) (D9 f (Cw q (Bn f.kind) e))).fail.kind=0:=by
  rw[Dt h.fail] at hok;simpa [Ag] using hok
 exact⟨by rw[hs.1.s];exact(hs.1.at_ hk).2,hk,h.adv.trans h.fail hs.1,hr.symm.trans h.run⟩
theorem RunInv.bad {r q:Mr} {f:Fld} {e:Int} (h:RunInv r f e q) (hg:q.at_<e) (hok:Cx q (Bn f.kind) e=false):Gm r f e=B3 q (Bn f.kind) e:=by
 have hgo:Du e q=true:=by simp[Du,hg,h.fail]
 have hr:=Abb (f:=f) h.at_ hgo
 rw[Z1 hok] at hr
 rw[←h.run,hr]
 refine Wb ?_
 rw[Dt h.fail] at hok
 have:(B3 q (Bn f.kind) e).fail.kind≠0:=by simpa using hok
 simp[Du,this]
theorem RunInv.end_ {r q:Mr} {f:Fld} {e:Int} (h:RunInv r f e q) (hg: ¬q.at_<e):Gm r f e=q:=by
 rw[←h.run];exact Wb (by simp[Du];omega)
theorem RunInv.room {r q:Mr} {f:Fld} {e:Int} (h:RunInv r f e q):q.s=r.s∧q.plan=r.plan∧r.at_≤q.at_∧(q.out.length:Int)+4*((r.s.length:Int)-q.at_)≤(r.out.length:Int)+4*((r.s.length:Int)-r.at_):=
 ⟨h.adv.s,h.adv.plan,(h.adv.at_ h.fail).1,h.adv.room h.fail⟩
theorem Ag1 (r:Mr) (w e:Int):0≤Eb r w e∧Eb r w e≤18446744073709551615:=by
 unfold Eb
 split
 ·rename_i h;simp only[Di,Bool.and_eq_true] at h
  have hw:=K5 h.2
  unfold Fq;rw[if_pos h.2]
  have:=Jm (l:=List.take w.toNat (List.drop r.at_.toNat r.s)) (k:=8) (by rw[List.length_take];omega)
  have e8:(2:Nat) ^ (8*8)=18446744073709551616:=by decide
  omega
 ·omega
theorem Te (r:Mr) (w e:Int):0≤Cw r w e∧Cw r w e≤18446744073709551615:=by
 unfold Cw Eb Ae
 split
 ·split
  ·rename_i h;simp only[Di,Bool.and_eq_true] at h
   have hw:=K5 h.2
   unfold Fq;rw[if_pos h.2]
   have:=Jm (l:=List.take (A3 w).toNat (List.drop r.at_.toNat r.s)) (k:=8) (by rw[List.length_take];omega)
   have e8:(2:Nat) ^ (8*8)=18446744073709551616:=by decide
   omega
  ·omega
 ·split
  ·exact J2 _ _ _
  ·omega
theorem Em (r:Mr) (e:Int):0≤Ae r e∧Ae r e≤18446744073709551615:=by
 unfold Ae;split
 ·exact J2 _ _ _
 ·omega
theorem Qu {b:Bool} (h:b=false):(!b)=true:=by rw[h];rfl
theorem Tf {b:Bool} (h:b=true):(!b)=false:=by rw[h];rfl
theorem Yq {s:List UInt8} {a n e:Int} (ha:0≤a) (hn:0≤n) (hl:a≤(s.length:Int)) (he:e=a+n∧a+n≤(s.length:Int)∨e=(s.length:Int)∧(s.length:Int)≤a+n):List.drop a.toNat (List.take e.toNat s)=(s.drop a.toNat).take n.toNat:=by
 rw[List.drop_take]
 rcases he with ⟨he,_⟩|⟨he,hm⟩
 ·rw[he,show (a+n).toNat-a.toNat=n.toNat by omega]
 ·rw[List.take_of_length_le (by rw[List.length_drop];omega),List.take_of_length_le (by rw[List.length_drop];omega)]
theorem Rx: ∀ {u:Utf} {s:List UInt8} {i j:Nat},(D3 u s i).2=some j→i≤j∧j<i+s.length
 |u,[],i,j,h=>by simp[D3] at h
 |u,b::r,i,j,h=>by
  unfold D3 at h
  split at h
  ·have:=Rx h;simp only[List.length_cons];omega
  ·simp at h;simp only[List.length_cons];omega
theorem Abc (u:Utf) (s:List UInt8): -1≤Ct u s∧(0≤Ct u s→Ct u s<(s.length:Int)):=by
 unfold Ct
 split
 ·rename_i h;have:=Rx h;omega
 ·omega
theorem Nk {r:Mr} {n:Int} (hn:0≤n) (ha:0≤r.at_) (hl:r.at_≤(r.s.length:Int)):((Aj r n).length:Int)≤n∧((Aj r n).length:Int)≤(r.s.length:Int)-r.at_∧(((Aj r n).length:Int)<n→((Aj r n).length:Int)=(r.s.length:Int)-r.at_):=by
 unfold Aj;rw[List.length_take,List.length_drop];omega
/-! ### Texts, messages -/
structure AdvB (b:Int) (r r':Mr):Prop where
 plan:r'.plan=r.plan
 s:r'.s=r.s
 at_:r'.fail.kind=0→r.at_≤r'.at_∧r'.at_≤(r.s.length:Int)
 fail:r'.fail.kind=0→r'.fail=r.fail
 room:r'.fail.kind=0→(r'.out.length:Int)+4*((r.s.length:Int)-r'.at_)≤(r.out.length:Int)+b+4*((r.s.length:Int)-r.at_)
 most:(r'.out.length:Int)≤(r.out.length:Int)+b+4*((r.s.length:Int)-r.at_)
theorem Adv.b {r r':Mr} (h:Adv r r'):AdvB 0 r r':=⟨h.plan,h.s,h.at_,h.fail,fun hk=>by have:=h.room hk;omega,by have:=h.most;omega⟩
theorem AdvB.tell {b:Int} {r r':Mr} (h:AdvB b r r') (e:Ev):AdvB (b+1) r (Ag r' e):=
 ⟨h.plan,h.s,h.at_,h.fail,fun hk=>by have:=h.room hk;simp only[Ag,List.length_append,List.length_cons,List.length_nil];omega,by have:=h.most;simp only[Ag,List.length_append,List.length_cons,List.length_nil];omega⟩
theorem AdvB.failed {b:Int} {r r':Mr} (h:AdvB b r r') (c a:Int):AdvB b r (Ay r' c a):=
 ⟨h.plan,h.s,fun hk=>(Br _ _ _ hk).elim,fun hk=>(Br _ _ _ hk).elim,fun hk=>(Br _ _ _ hk).elim,h.most⟩
theorem AdvB.moved {b:Int} {r r':Mr} (h:AdvB b r r') {a:Int} (h1:r'.fail.kind=0→r'.at_≤a) (h2:a≤(r.s.length:Int)):AdvB b r (M1 r' a):=
 ⟨h.plan,h.s,fun hk=>by have:=h.at_ hk;have:=h1 hk;exact⟨by simp only[M1];omega,h2⟩,h.fail,fun hk=>by have:=h.room hk;have:=h1 hk;simp only[M1];omega,h.most⟩
theorem AdvB.trans {b c:Int} {x y z:Mr} (h:AdvB b x y) (hb:y.fail.kind=0) (g:AdvB c y z):AdvB (b+c) x z:=by
 obtain ⟨h1,h2⟩:=h.at_ hb
 have hr:=h.room hb
 have gm:=g.most
 rw[h.s] at gm
 refine⟨g.plan.trans h.plan,g.s.trans h.s,fun hc=>?_,fun hc=>(g.fail hc).trans (h.fail hb),fun hc=>?_,by omega⟩
 ·have:=g.at_ hc
  rw[h.s] at this
  omega
 ·have:=g.room hc
  rw[h.s] at this
  omega
theorem AdvB.mono {b c:Int} {r r':Mr} (h:AdvB b r r') (hc:b≤c):AdvB c r r':=⟨h.plan,h.s,h.at_,h.fail,fun hk=>by have:=h.room hk;omega,by have:=h.most;omega⟩
theorem Adv1.after {b:Int} {r v w:Mr} (h:Adv1 r v) (ho:v.out=r.out) (hk:v.fail.kind=0) (g:AdvB b v w) (hb:b≤4):Adv1 r w:=by
 have h1:=h.1.at_ hk
 have h2:=h.2 hk
 have gm:=g.most
 rw[h.1.s,ho] at gm
 refine⟨⟨g.plan.trans h.1.plan,g.s.trans h.1.s,fun hc=>?_,fun hc=>(g.fail hc).trans (h.1.fail hk),fun hc=>?_,by omega⟩,fun hc=>?_⟩
 ·have:=g.at_ hc
  rw[h.1.s] at this
  omega
 ·have:=g.room hc
  rw[h.1.s,ho] at this
  omega
 ·have:=g.at_ hc
  omega
theorem Z2 {r:Mr} {f:Fld} {n:Int} (hl:r.at_≤(r.s.length:Int)):AdvB 2 r (Bq r f n)∧(Bq r f n).at_=r.at_∧(Bq r f n).fail=r.fail:=by
 unfold Bq
 split
 ·exact⟨((Adv.refl r hl).b.tell _).mono (by decide),rfl,rfl⟩
 ·exact⟨(((Adv.refl r hl).b.tell _).tell _).mono (by decide),rfl,rfl⟩
theorem Z3 {r:Mr} {f:Fld} {n:Int} (ha:0≤r.at_) (hl:r.at_≤(r.s.length:Int)) (hn:0≤n):AdvB 3 r (A0 r f n):=by
 obtain ⟨h1,h2,h3⟩:=Z2 (f:=f) (n:=n) hl
 have ht:=Nk hn ha hl
 unfold A0
 split
 ·exact(h1.failed _ _).mono (by decide)
 split
 ·exact(h1.failed _ _).mono (by decide)
 split
 ·exact(h1.failed _ _).mono (by decide)
 ·exact((h1.moved (fun _=>by omega) (by omega)).tell _).mono (by decide)
def Abd (sub:Mr→Fld→Int→Int→Mr):Prop:= ∀(v:Mr) (f:Fld) (n s:Int),v.at_≤(v.s.length:Int)→v.fail.kind=0→AdvB 2 v (sub v f n s)
theorem Yr {sub:Mr→Fld→Int→Int→Mr} (hsub:Abd sub) {r:Mr} {f:Fld} {known:Bool} {e:Int} (hl:r.at_≤(r.s.length:Int)) (h0:r.fail.kind=0):Adv1 r (Au sub r f known e):=by
 obtain ⟨hv,hv2,hv3⟩:=Ck (e:=e) hl
 have hu:=Em r e
 unfold Au
 split
 ·exact hv
 ·rename_i hok
  have hok:Aw r e=true:=by simpa using hok
  have hk:(Aa r e).fail.kind=0:=by rw[Bz h0] at hok;simpa using hok
  have ha:=hv.1.at_ hk
  have hs:=congrArg List.length hv.1.s
  have h2:=hv2 hok
  have hl':(Aa r e).at_≤((Aa r e).s.length:Int):=by omega
  have hr:=(Adv.refl (Aa r e) hl').b
  split
  ·exact hv.after hv3 hk (hr.failed _ _) (by decide)
  split
  ·split
   ·exact hv.after hv3 hk (hr.failed _ _) (by decide)
   ·exact hv.after hv3 hk (hr.moved (fun _=>by omega) (by omega)) (by decide)
  split
  ·exact hv.after hv3 hk (hsub _ _ _ _ hl' hk) (by decide)
  split
  ·exact hv.after hv3 hk (Aeq hl').b (by decide)
  ·exact hv.after hv3 hk (Z3 (by omega) hl' hu.1) (by decide)
theorem Uj {sub:Mr→Fld→Int→Int→Mr} (hsub:Abd sub) {shape e:Int} {r:Mr} (hl:r.at_≤(r.s.length:Int)) (h0:r.fail.kind=0):Adv1 r (B0 sub shape e r):=by
 obtain ⟨hv,hv2,hv3⟩:=Ck (e:=e) hl
 unfold B0
 split
 ·exact hv
 ·rename_i hok
  have hok:Aw r e=true:=by simpa using hok
  have hk:(Aa r e).fail.kind=0:=by rw[Bz h0] at hok;simpa using hok
  have ha:=hv.1.at_ hk
  have hs:=congrArg List.length hv.1.s
  have hl':(Aa r e).at_≤((Aa r e).s.length:Int):=by omega
  have hr:=(Adv.refl (Aa r e) hl').b
  split
  ·exact hv.after hv3 hk (hr.failed _ _) (by decide)
  split
  ·exact hv.after hv3 hk (hr.failed _ _) (by decide)
  split
  ·exact hv.after hv3 hk (hr.failed _ _) (by decide)
  split
  ·exact hv.after hv3 hk (Yr hsub hl' hk).1.b (by decide)
  ·exact hv.after hv3 hk (G8 hl' hk).1.b (by decide)
theorem Ys {D:Nat} (hs:Abd (Do D)) {shape e:Int} {r:Mr} (hl:r.at_≤(r.s.length:Int)):Adv r (Cj D shape e r):=by
 rw[Cr]
 exact Qt (fun r h=>E8 h) (fun r h h0=>Uj hs h h0) _ r hl
theorem Xj: ∀D,Abd (Do D)
 |0=>fun v f n s hl h0=>((Adv.refl v hl).b.failed _ _).mono (by decide)
 |D+1=>fun v f n s hl h0=>by
  have ht:AdvB 1 v (Ag v (Ci f n)):=(Adv.refl v hl).b.tell _
  have hm:=(Ys (Xj D) (shape:=f.msg) (e:=v.at_+n) (r:=Ag v (Ci f n)) hl).b
  have hb:=ht.trans h0 hm
  simp only[Do]
  split
  ·exact(hb.tell _).mono (by decide)
  ·exact hb.mono (by decide)
theorem N9 {D:Nat} {shape e:Int} {r:Mr} (hl:r.at_≤(r.s.length:Int)):Adv r (Cj D shape e r):=Ys (Xj D) hl
structure LInv (step:Mr→Mr) (e:Int) (r0 q:Mr):Prop where
 adv:Adv r0 q
 run:B5 (Du e) step (Fi q) q=B5 (Du e) step (Fi r0) r0
def Gn (step:Mr→Mr):Prop:= ∀r:Mr,r.at_≤(r.s.length:Int)→r.fail.kind=0→Adv1 r (step r)
theorem LInv.refl {step:Mr→Mr} {e:Int} {r:Mr} (h1:r.at_≤(r.s.length:Int)):LInv step e r r:=⟨Adv.refl r h1,rfl⟩
theorem LInv.at_ {step:Mr→Mr} {e:Int} {r q:Mr} (h:LInv step e r q) (hk:q.fail.kind=0):r.at_≤q.at_∧q.at_≤(q.s.length:Int):=by
 have:=h.adv.at_ hk
 rw[h.adv.s];exact this
theorem LInv.room {step:Mr→Mr} {e:Int} {r q:Mr} (h:LInv step e r q) (hk:q.fail.kind=0):q.s.length=r.s.length∧q.plan=r.plan∧r.at_≤q.at_∧q.at_≤(r.s.length:Int)∧(q.out.length:Int)+4*((r.s.length:Int)-q.at_)≤(r.out.length:Int)+4*((r.s.length:Int)-r.at_):=
 ⟨by rw[h.adv.s],h.adv.plan,(h.adv.at_ hk).1,(h.adv.at_ hk).2,h.adv.room hk⟩
theorem LInv.go {step:Mr→Mr} (hs:Gn step) {e:Int} {r q:Mr} (h:LInv step e r q) (hg:q.at_<e) (hk:q.fail.kind=0):LInv step e r (step q)∧Fi (step q)<Fi q:=by
 have hgo:Du e q=true:=by simp[Du,hg,hk]
 have ha:=h.at_ hk
 have hq:=hs q ha.2 hk
 refine⟨⟨h.adv.trans hk hq.1,?_⟩,Jd ha.2 hk hq⟩
 rw[←h.run]
 refine(Xi (fun r=>r.at_≤(r.s.length:Int)∨r.fail.kind≠0) Fi (fun a hi hg=>?_) (.inl ha.2) hgo).symm
 have hk':=E8 hg
 have hl:a.at_≤(a.s.length:Int):=hi.resolve_right (fun h=>h hk')
 refine⟨?_,Jd hl hk' (hs a hl hk')⟩
 by_cases hk2:(step a).fail.kind=0
 ·left;rw[(hs a hl hk').1.s];exact((hs a hl hk').1.at_ hk2).2
 ·exact .inr hk2
theorem LInv.stop {step:Mr→Mr} {e:Int} {r q:Mr} (h:LInv step e r q) (hg:Du e q=false):B5 (Du e) step (Fi r) r=q:=by rw[←h.run];exact B6 hg
theorem LInv.end_ {step:Mr→Mr} {e:Int} {r q:Mr} (h:LInv step e r q) (hg: ¬q.at_<e):B5 (Du e) step (Fi r) r=q:=h.stop (by simp[Du];omega)
theorem LInv.bad {step:Mr→Mr} {e:Int} {r q:Mr} (h:LInv step e r q) (hk:q.fail.kind≠0):B5 (Du e) step (Fi r) r=q:=h.stop (by simp[Du,hk])
theorem Ee (D:Nat) (shape e:Int):Gn (B0 (Do D) shape e):=fun _ h h0=>Uj (Xj D) h h0
theorem Ga (f:Fld) (w e:Int):Gn (fun r=>A6 r f w e):=fun _ h h0=>G8 h h0
theorem LInv.leave {step:Mr→Mr} (hs:Gn step) {e:Int} {r q x:Mr} (h:LInv step e r q) (hg:q.at_<e) (hk:q.fail.kind=0) (hx:step q=x) (hx2:x.fail.kind≠0):B5 (Du e) step (Fi r) r=x:=by
 subst hx;exact(h.go hs hg hk).1.bad hx2
theorem LInv.next {step:Mr→Mr} (hs:Gn step) {e:Int} {r q x:Mr} (h:LInv step e r q) (hg:q.at_<e) (hk:q.fail.kind=0) (hx:step q=x):LInv step e r x∧Fi x<Fi q:=by
 subst hx;exact h.go hs hg hk
theorem P8 {l:List Shp} {s n:Int} (hl:Cp l=true):((fieldAt l s n).isSome=true→1≤((fieldAt l s n).getD fld0).number∧1≤((fieldAt l s n).getD fld0).kind∧((fieldAt l s n).getD fld0).kind≤8)∧((fieldAt l s n).isSome=false→((fieldAt l s n).getD fld0).number=0):=by
 cases h:fieldAt l s n with
 |none=>simp[fld0]
 |some f=>
  have:=Xg (V4 hl h).1
  simp;omega
theorem Ef {D:Nat} {s e:Int} {v:Mr} {k b:Nat} (h:v.at_≤(v.s.length:Int)) (hb:(v.out.length:Int)+4*((v.s.length:Int)-v.at_)+(k:Int)≤(b:Int)):(Cj D s e v).out.length+k≤b:=by
 have:=(N9 (D:=D) (shape:=s) (e:=e) h).most;omega
theorem Wd {D:Nat} {s e:Int} {v:Mr} {b:Nat} (h:v.at_≤(v.s.length:Int)) (hb:(v.out.length:Int)+4*((v.s.length:Int)-v.at_)≤(b:Int)):(Cj D s e v).out.length≤b:=by
 have:=(N9 (D:=D) (shape:=s) (e:=e) h).most;omega
theorem Acr {k:Int} (h:1≤k∧k≤5):Bn k=0∨Bn k=1∨Bn k=5:=by
 have hk:Dn k=true:=by simp only[Dn,Ak,Bool.and_eq_true,decide_eq_true_eq];omega
 unfold Bn
 rw[if_pos hk]
 split
 ·exact .inr (.inr rfl)
 ·split
  ·exact .inr (.inl rfl)
  ·exact .inl (by rw[if_pos (by omega)])
theorem Yt (u:Int):0≤Bk u∧Bk u≤7:=by unfold Bk;split<;>omega
theorem Uk {l:List Shp} {s n:Int} (hl:Cp l=true):(fieldAt l s n).isSome=decide (((fieldAt l s n).getD fld0).number≠0):=by
 have:=P8 (s:=s) (n:=n) hl
 cases h:(fieldAt l s n).isSome with
 |true=>exact(decide_eq_true (by have:=(this.1 h).1;omega)).symm
 |false=>exact(decide_eq_false (by have:=this.2 h;omega)).symm
def Bp (j6:Nat) (x:Mr):List C:=[.seq .shp x.plan.shapes,.int .i64 x.plan.root,.int .i64 x.plan.deep,.int .i64 x.plan.most,.str x.s,.int .i64 x.at_,.own j6,.int .i64 x.fail.kind,.int .i64 x.fail.field,.int .u64 x.fail.bits,.int .i64 x.fail.len,.str x.fail.text,.int .i64 x.fail.code,.int .i64 x.fail.at_]
theorem Dk (n:Int) (lo:Int) (hi:Int):Fun Tryz.prog 69 [vI n,vI lo,vI hi] [] (.v (vB (Ak n lo hi))) []:=by
 have hN:Bg=274877906944:=rfl
 refine Ap Tryz.func69 Q5 Q5 (w:=(.br (.leaf () []) (.leaf () []),Bc (decide (lo≤n)) (Lf (.v (vB (decide (n≤hi)))) (.v (vB (Ak n lo hi))) [] []) (Lf (.v (vB false)) (.v (vB (Ak n lo hi))) [] []))) Q5 ?_
 refine dsp (fun h1 p1=>?_) fun h1 p1=>?_
 exact⟨(congrArg S.v (congrArg V.c (congrArg C.bool (by simp[Ak, *])))),rfl⟩
 exact⟨(congrArg S.v (congrArg V.c (congrArg C.bool (by simp[Ak, *])))),rfl⟩
theorem B9 (n:Int) (lo:Int) (hi:Int):Fun Tryz.prog 71 [vI n,vI lo,vI hi] [] (.v (vB (Ak n lo hi))) []:=by
 have hN:Bg=274877906944:=rfl
 refine Ap Tryz.func71 Q5 Q5 (w:=(.br (.leaf () []) (.leaf () []),Bc (decide (lo≤n)) (Lf (.v (vB (decide (n≤hi)))) (.v (vB (Ak n lo hi))) [] []) (Lf (.v (vB false)) (.v (vB (Ak n lo hi))) [] []))) Q5 ?_
 refine dsp (fun h1 p1=>?_) fun h1 p1=>?_
 exact⟨(congrArg S.v (congrArg V.c (congrArg C.bool (by simp[Ak, *])))),rfl⟩
 exact⟨(congrArg S.v (congrArg V.c (congrArg C.bool (by simp[Ak, *])))),rfl⟩
theorem Amf (a:Int) (b:Int):Fun Tryz.prog 74 [vI a,vI b] [] (.v (vI (min a b))) []:=by
 have hN:Bg=274877906944:=rfl
 refine Ap Tryz.func74 Q5 Q5 (w:=(.br (.leaf () []) (.leaf () []),Bc (decide (a<b)) (Lf (.v (vI a)) (.v (vI (min a b))) [] []) (Lf (.v (vI b)) (.v (vI (min a b))) [] []))) Q5 ?_
 refine dsp (fun h1 p1=>?_) fun h1 p1=>?_
 exact⟨(congrArg S.v (congrArg V.c (congrArg (C.int .i64) Q2))),rfl⟩
 exact⟨(congrArg S.v (congrArg V.c (congrArg (C.int .i64) Q2))),rfl⟩
theorem Gp (a:Int) (b:Int):Fun Tryz.prog 75 [vI a,vI b] [] (.v (vI (max a b))) []:=by
 have hN:Bg=274877906944:=rfl
 refine Ap Tryz.func75 Q5 Q5 (w:=(.br (.leaf () []) (.leaf () []),Bc (decide (b<a)) (Lf (.v (vI a)) (.v (vI (max a b))) [] []) (Lf (.v (vI b)) (.v (vI (max a b))) [] []))) Q5 ?_
 refine dsp (fun h1 p1=>?_) fun h1 p1=>?_
 exact⟨(congrArg S.v (congrArg V.c (congrArg (C.int .i64) Q2))),rfl⟩
 exact⟨(congrArg S.v (congrArg V.c (congrArg (C.int .i64) Q2))),rfl⟩
theorem Acs (n:Int):Fun Tryz.prog 232 [vI n] [] (.v (vB (Dj n))) []:=by
 have hN:Bg=274877906944:=rfl
 refine Ap Tryz.func232 Q5 Q5 (w:=let z1:=Ak n 1 536870911;let z2:=Ak n 19000 19999;(.seg [.call [] (.v (vB z1)) []] (.br (.seg [.call [] (.v (vB z2)) []] (.leaf () [])) (.leaf () [])),(Fp 69 [vI n,vI 1,vI 536870911] [] (.v (vB z1)) [])∧Bc z1 ((Fp 69 [vI n,vI 19000,vI 19999] [] (.v (vB z2)) [])∧Lf (.v (vB (!z2))) (.v (vB (Dj n))) [] []) (Lf (.v (vB false)) (.v (vB (Dj n))) [] []))) Q5 ?_
 refine⟨(Dk _ _ _),fun h1=>have p1:=Bb h1;?_,fun h1=>have p1:=Bf h1;?_⟩
 exact⟨(Dk _ _ _),(congrArg S.v (congrArg V.c (congrArg C.bool (by simp[Dj, *])))),rfl⟩
 exact⟨(congrArg S.v (congrArg V.c (congrArg C.bool (by simp[Dj, *])))),rfl⟩
theorem We (n:Int):Fun Tryz.prog 206 [vI n] [] (.v (vB (Dj n))) []:=by
 have hN:Bg=274877906944:=rfl
 refine Ap Tryz.func206 Q5 Q5 (w:=let z1:=Ak n 1 536870911;let z2:=Ak n 19000 19999;(.seg [.call [] (.v (vB z1)) []] (.br (.seg [.call [] (.v (vB z2)) []] (.leaf () [])) (.leaf () [])),(Fp 71 [vI n,vI 1,vI 536870911] [] (.v (vB z1)) [])∧Bc z1 ((Fp 71 [vI n,vI 19000,vI 19999] [] (.v (vB z2)) [])∧Lf (.v (vB (!z2))) (.v (vB (Dj n))) [] []) (Lf (.v (vB false)) (.v (vB (Dj n))) [] []))) Q5 ?_
 refine⟨(B9 _ _ _),fun h1=>have p1:=Bb h1;?_,fun h1=>have p1:=Bf h1;?_⟩
 exact⟨(B9 _ _ _),(congrArg S.v (congrArg V.c (congrArg C.bool (by simp[Dj, *])))),rfl⟩
 exact⟨(congrArg S.v (congrArg V.c (congrArg C.bool (by simp[Dj, *])))),rfl⟩
theorem Ag2 (w:Int):Fun Tryz.prog 122 [vI w] [] (.v (vB (G4 w))) []:=by
 have hN:Bg=274877906944:=rfl
 refine Ap Tryz.func122 Q5 Q5 (w:=let z1:=Lf (.v (vB true)) (.v (vB (G4 w))) [] [];(.br (.leaf () []) (.br (.leaf () []) (.br (.leaf () []) (.leaf () []))),Bc (decide (w=0)) z1 (Bc (decide (w=1)) z1 (Bc (decide (w=2)) z1 (Lf (.v (vB (decide (w=5)))) (.v (vB (G4 w))) [] []))))) Q5 ?_
 refine dsp (fun h1 p1=>?_) fun h1 p1=>?_
 exact⟨(congrArg S.v (congrArg V.c (congrArg C.bool Q64))),rfl⟩
 refine dsp (fun h2 p2=>?_) fun h2 p2=>?_
 exact⟨(congrArg S.v (congrArg V.c (congrArg C.bool Q64))),rfl⟩
 refine dsp (fun h3 p3=>?_) fun h3 p3=>?_
 exact⟨(congrArg S.v (congrArg V.c (congrArg C.bool Q64))),rfl⟩
 exact⟨(congrArg S.v (congrArg V.c (congrArg C.bool Q64))),rfl⟩
theorem Ag3 (w:Int):Fun Tryz.prog 130 [vI w] [] (.v (vB (G4 w))) []:=by
 have hN:Bg=274877906944:=rfl
 refine Ap Tryz.func130 Q5 Q5 (w:=let z1:=Lf (.v (vB true)) (.v (vB (G4 w))) [] [];(.br (.leaf () []) (.br (.leaf () []) (.br (.leaf () []) (.leaf () []))),Bc (decide (w=0)) z1 (Bc (decide (w=1)) z1 (Bc (decide (w=2)) z1 (Lf (.v (vB (decide (w=5)))) (.v (vB (G4 w))) [] []))))) Q5 ?_
 refine dsp (fun h1 p1=>?_) fun h1 p1=>?_
 exact⟨(congrArg S.v (congrArg V.c (congrArg C.bool Q64))),rfl⟩
 refine dsp (fun h2 p2=>?_) fun h2 p2=>?_
 exact⟨(congrArg S.v (congrArg V.c (congrArg C.bool Q64))),rfl⟩
 refine dsp (fun h3 p3=>?_) fun h3 p3=>?_
 exact⟨(congrArg S.v (congrArg V.c (congrArg C.bool Q64))),rfl⟩
 exact⟨(congrArg S.v (congrArg V.c (congrArg C.bool Q64))),rfl⟩
theorem Abe (k:Int):Fun Tryz.prog 233 [vI k] [] (.v (vB (Dn k))) []:=by
 have hN:Bg=274877906944:=rfl
 refine Ap Tryz.func233 Q5 Q5 (w:=let z1:S:= .v (vB (Ak k 1 8));(.seg [.call [] z1 []] (.leaf () []),(Fp 69 [vI k,vI 1,vI 8] [] z1 [])∧Lf z1 (.v (vB (Dn k))) [] [])) Q5 ?_
 exact⟨(Dk _ _ _),(congrArg S.v (congrArg V.c (congrArg C.bool (by rfl)))),rfl⟩
theorem Tg (k:Int):Fun Tryz.prog 191 [vI k] [] (.v (vB (Dn k))) []:=by
 have hN:Bg=274877906944:=rfl
 refine Ap Tryz.func191 Q5 Q5 (w:=let z1:S:= .v (vB (Ak k 1 8));(.seg [.call [] z1 []] (.leaf () []),(Fp 71 [vI k,vI 1,vI 8] [] z1 [])∧Lf z1 (.v (vB (Dn k))) [] [])) Q5 ?_
 exact⟨(B9 _ _ _),(congrArg S.v (congrArg V.c (congrArg C.bool (by rfl)))),rfl⟩
theorem Qv (k:Int):Fun Tryz.prog 186 [vI k] [] (.v (vB (Bw k))) []:=by
 have hN:Bg=274877906944:=rfl
 refine Ap Tryz.func186 Q5 Q5 (w:=let z1:S:= .v (vB (Ak k 1 5));(.seg [.call [] z1 []] (.leaf () []),(Fp 69 [vI k,vI 1,vI 5] [] z1 [])∧Lf z1 (.v (vB (Bw k))) [] [])) Q5 ?_
 exact⟨(Dk _ _ _),(congrArg S.v (congrArg V.c (congrArg C.bool (by rfl)))),rfl⟩
theorem K6 (k:Int):Fun Tryz.prog 207 [vI k] [] (.v (vB (Bw k))) []:=by
 have hN:Bg=274877906944:=rfl
 refine Ap Tryz.func207 Q5 Q5 (w:=let z1:S:= .v (vB (Ak k 1 5));(.seg [.call [] z1 []] (.leaf () []),(Fp 71 [vI k,vI 1,vI 5] [] z1 [])∧Lf z1 (.v (vB (Bw k))) [] [])) Q5 ?_
 exact⟨(B9 _ _ _),(congrArg S.v (congrArg V.c (congrArg C.bool (by rfl)))),rfl⟩
theorem Abf (k:Int):Fun Tryz.prog 184 [vI k] [] (.v (vI (Bn k))) []:=by
 have hN:Bg=274877906944:=rfl
 refine Ap Tryz.func184 Q5 Q5 (w:=let zi:Int→C:= .int .i64;let z1:=List.getD [0,0,0,5,1,2,2,2] (Int.toNat (k-1)) 0;(.seg [.call [] (.v (vB (Dn k))) []] (.br (.leaf () []) (.seg [.as 8 (.v (vI (k-1))),.ce (zi z1)] (.leaf () []))),(Fp 233 [vI k] [] (.v (vB (Dn k))) [])∧Bc (!(Dn k)) (Lf (.v (vI (-1))) (.v (vI (Bn k))) [] []) ((wI (k-1))∧((([zi 0,zi 0,zi 0,zi 5,zi 1,zi 2,zi 2,zi 2]:List C)[Int.toNat (k-1)]?)=some (zi z1))∧(k-1<((8:Nat):Int))∧((0:Int)≤k-1)∧Lf (.v (vI z1)) (.v (vI (Bn k))) [] []))) Q5 ?_
 refine⟨(Abe _),fun h1=>have q1:=As h1;have p1:=Bf q1;?_,fun h1=>have q1:=Aq h1;have p1:=Bb q1;?_⟩
 refine⟨(sI ?_),rfl⟩
 rotate_left
 refine⟨(Ac Q2 Q2),(Ak8 (l:=[0,0,0,5,1,2,2,2]) (by simp;omega)),Q2,Q2,(sI ?_),rfl⟩
 rotate_left
 all_goals first|(simp[Bn, *];done)|(rcases (show k=1∨k=2∨k=3∨k=4∨k=5∨k=6∨k=7∨k=8 by omega) with rfl|rfl|rfl|rfl|rfl|rfl|rfl|rfl<;>rfl)
theorem Qw (k:Int):Fun Tryz.prog 178 [vI k] [] (.v (vI (Bn k))) []:=by
 have hN:Bg=274877906944:=rfl
 refine Ap Tryz.func178 Q5 Q5 (w:=let z1:S:= .v (vI (Bn k));(.seg [.call [] (.v (vB (Dn k))) []] (.br (.leaf () []) (.br (.leaf () []) (.br (.leaf () []) (.seg [.call [] (.v (vB (Bw k))) []] (.br (.leaf () []) (.leaf () [])))))),(Fp 191 [vI k] [] (.v (vB (Dn k))) [])∧Bc (!(Dn k)) (Lf (.v (vI (-1))) z1 [] []) (Bc (decide (k=4)) (Lf (.v (vI 5)) z1 [] []) (Bc (decide (k=5)) (Lf (.v (vI 1)) z1 [] []) ((Fp 207 [vI k] [] (.v (vB (Bw k))) [])∧Bc (Bw k) (Lf (.v (vI 0)) z1 [] []) (Lf (.v (vI 2)) z1 [] [])))))) Q5 ?_
 refine⟨(Tg _),fun h1=>have q1:=As h1;have p1:=Bf q1;?_,fun h1=>have q1:=Aq h1;have p1:=Bb q1;?_⟩
 refine⟨(sI ?_),rfl⟩
 rotate_left
 refine dsp (fun h2 p2=>?_) fun h2 p2=>?_
 refine⟨(sI ?_),rfl⟩
 rotate_left
 refine dsp (fun h3 p3=>?_) fun h3 p3=>?_
 refine⟨(sI ?_),rfl⟩
 rotate_left
 refine⟨(K6 _),fun h4=>have p4:=Bb h4;?_,fun h4=>have p4:=Bf h4;?_⟩
 refine⟨(sI ?_),rfl⟩
 rotate_left
 refine⟨(sI ?_),rfl⟩
 rotate_left
 all_goals first|(simp[Bn, *]<;>(repeat' split)<;>omega)|(subst_vars;rfl)
theorem Aer (w:Int):Fun Tryz.prog 189 [vI w] [] (.v (vI (A3 w))) []:=by
 have hN:Bg=274877906944:=rfl
 refine Ap Tryz.func189 Q5 Q5 (w:=let z1:S:= .v (vI (A3 w));(.br (.leaf () []) (.br (.leaf () []) (.leaf () [])),Bc (decide (w=1)) (Lf (.v (vI 8)) z1 [] []) (Bc (decide (w=5)) (Lf (.v (vI 4)) z1 [] []) (Lf (.v (vI 0)) z1 [] [])))) Q5 ?_
 refine dsp (fun h1 p1=>?_) fun h1 p1=>?_
 exact⟨(congrArg S.v (congrArg V.c (congrArg (C.int .i64) (by simp[A3, *])))),rfl⟩
 refine dsp (fun h2 p2=>?_) fun h2 p2=>?_
 exact⟨(congrArg S.v (congrArg V.c (congrArg (C.int .i64) (by simp[A3, *])))),rfl⟩
 exact⟨(congrArg S.v (congrArg V.c (congrArg (C.int .i64) (by simp[A3, *])))),rfl⟩
theorem J3 (w:Int):Fun Tryz.prog 177 [vI w] [] (.v (vI (A3 w))) []:=by
 have hN:Bg=274877906944:=rfl
 refine Ap Tryz.func177 Q5 Q5 (w:=let z1:S:= .v (vI (A3 w));(.br (.leaf () []) (.br (.leaf () []) (.leaf () [])),Bc (decide (w=1)) (Lf (.v (vI 8)) z1 [] []) (Bc (decide (w=5)) (Lf (.v (vI 4)) z1 [] []) (Lf (.v (vI 0)) z1 [] [])))) Q5 ?_
 refine dsp (fun h1 p1=>?_) fun h1 p1=>?_
 exact⟨(congrArg S.v (congrArg V.c (congrArg (C.int .i64) (by simp[A3, *])))),rfl⟩
 refine dsp (fun h2 p2=>?_) fun h2 p2=>?_
 exact⟨(congrArg S.v (congrArg V.c (congrArg (C.int .i64) (by simp[A3, *])))),rfl⟩
 exact⟨(congrArg S.v (congrArg V.c (congrArg (C.int .i64) (by simp[A3, *])))),rfl⟩
theorem Qx (k:Int) (u:Int) (hp1:(0:Int)≤u∧u≤18446744073709551615):Fun Tryz.prog 197 [vI k,.c (.int .u64 u)] [] (.v (vB (D7 k u))) []:=by
 have hN:Bg=274877906944:=rfl
 refine Ap Tryz.func197 Q5 Q5 (w:=let z1:S:= .v (vB (D7 k u));(.br (.seg [.br true] (.leaf () [])) (.br (.seg [.br true] (.leaf () [])) (.br (.leaf () []) (.br (.leaf () []) (.br (.seg [.as 17 (.v (.c (.int .u64 (u / 4294967296))))] (.leaf () [])) (.leaf () []))))),Bc (decide (k=1)) (((decide (k=1))=true)∧Lf (.v (vB true)) z1 [] []) (Bc (decide (k=2)) (((decide (k=2))=true)∧Lf (.v (vB true)) z1 [] []) (Bc (decide (k=5)) (Lf (.v (vB true)) z1 [] []) (Bc (decide (k=3)) (Lf (.v (vB (decide (u≤1)))) z1 [] []) (Bc (decide (k=4)) (((0:Int)≤32)∧((.v (.c (.int .u64 (Int.fdiv u (2 ^ 32)))):S)= .v (.c (.int .u64 (u / 4294967296))))∧Lf (.v (vB (decide (u / 4294967296=0)))) z1 [] []) (Lf (.v (vB false)) z1 [] []))))))) Q5 ?_
 refine dsp (fun h1 p1=>?_) fun h1 p1=>?_
 refine⟨h1,(sB ?_),rfl⟩
 rotate_left
 refine dsp (fun h2 p2=>?_) fun h2 p2=>?_
 refine⟨h2,(sB ?_),rfl⟩
 rotate_left
 refine dsp (fun h3 p3=>?_) fun h3 p3=>?_
 refine⟨(sB ?_),rfl⟩
 rotate_left
 refine dsp (fun h4 p4=>?_) fun h4 p4=>?_
 refine⟨(sB ?_),rfl⟩
 rotate_left
 refine dsp (fun h5 p5=>?_) fun h5 p5=>?_
 refine⟨Q21,(Uc (k:=32) Q21 Q21),(sB ?_),rfl⟩
 rotate_left
 refine⟨(sB ?_),rfl⟩
 rotate_left
 all_goals simp[D7,Bw,Ak, *]<;>omega
theorem Amg (f:Fld):Fun Tryz.prog 185 [.agg (Ew f)] [] (.v (vB (Yi f))) []:=by
 have hN:Bg=274877906944:=rfl
 refine Ap Tryz.func185 Q5 Q5 (w:=let z1:S:= .v (vB (Bw f.kind));(.br (.seg [.call [] z1 []] (.leaf () [])) (.leaf () []),Bc f.rep ((Fp 186 [vI f.kind] [] z1 [])∧Lf z1 (.v (vB (Yi f))) [] []) (Lf (.v (vB false)) (.v (vB (Yi f))) [] []))) Q5 ?_
 refine⟨fun h1=>?_,fun h1=>?_⟩
 exact⟨(Qv _),(congrArg S.v (congrArg V.c (congrArg C.bool (by simp[Yi, *])))),rfl⟩
 exact⟨(congrArg S.v (congrArg V.c (congrArg C.bool (by simp[Yi, *])))),rfl⟩
theorem Aes (f:Fld):Fun Tryz.prog 181 [.agg (Ew f)] [] (.v (vB (Yi f))) []:=by
 have hN:Bg=274877906944:=rfl
 refine Ap Tryz.func181 Q5 Q5 (w:=let z1:S:= .v (vB (Bw f.kind));(.br (.seg [.call [] z1 []] (.leaf () [])) (.leaf () []),Bc f.rep ((Fp 207 [vI f.kind] [] z1 [])∧Lf z1 (.v (vB (Yi f))) [] []) (Lf (.v (vB false)) (.v (vB (Yi f))) [] []))) Q5 ?_
 refine⟨fun h1=>?_,fun h1=>?_⟩
 exact⟨(K6 _),(congrArg S.v (congrArg V.c (congrArg C.bool (by simp[Yi, *])))),rfl⟩
 exact⟨(congrArg S.v (congrArg V.c (congrArg C.bool (by simp[Yi, *])))),rfl⟩
theorem Aet (f:Fld) (w:Int) (hp1:(0:Int)≤w):Fun Tryz.prog 123 [.agg (Ew f),vI w] [] (.v (vB (Ez f w))) []:=by
 have hN:Bg=274877906944:=rfl
 refine Ap Tryz.func123 Q5 Q5 (w:=let z1:S:= .v (vB (Ez f w));let z2:S:= .v (vB (Yi f));(.seg [.call [] (.v (vI (Bn f.kind))) []] (.br (.leaf () []) (.br (.seg [.call [] z2 []] (.leaf () [])) (.leaf () []))),(Fp 184 [vI f.kind] [] (.v (vI (Bn f.kind))) [])∧Bc (decide (w=Bn f.kind)) (Lf (.v (vB true)) z1 [] []) (Bc (decide (w=2)) ((Fp 185 [.agg (Ew f)] [] z2 [])∧Lf z2 z1 [] []) (Lf (.v (vB false)) z1 [] [])))) Q5 ?_
 refine⟨(Abf _),dsp (fun h1 p1=>?_) fun h1 p1=>?_⟩
 refine⟨(sB ?_),rfl⟩
 rotate_left
 refine dsp (fun h2 p2=>?_) fun h2 p2=>?_
 refine⟨(Amg f),(sB ?_),rfl⟩
 rotate_left
 refine⟨(sB ?_),rfl⟩
 rotate_left
 all_goals first|(simp[Ez, *]<;>(repeat' split)<;>omega)|(simp[Ez,Bn, *]<;>(repeat' split)<;>omega)
theorem Aeu (f:Fld) (w:Int) (hp1:(0:Int)≤w):Fun Tryz.prog 131 [.agg (Ew f),vI w] [] (.v (vB (Ez f w))) []:=by
 have hN:Bg=274877906944:=rfl
 refine Ap Tryz.func131 Q5 Q5 (w:=let z1:S:= .v (vB (Ez f w));let z2:S:= .v (vB (Yi f));(.seg [.call [] (.v (vB (Dn f.kind))) []] (.br (.seg [.call [] (.v (vI (Bn f.kind))) []] (.br (.leaf () []) (.br (.seg [.call [] z2 []] (.leaf () [])) (.leaf () [])))) (.br (.seg [.call [] z2 []] (.leaf () [])) (.leaf () []))),(Fp 191 [vI f.kind] [] (.v (vB (Dn f.kind))) [])∧Bc (Dn f.kind) ((Fp 178 [vI f.kind] [] (.v (vI (Bn f.kind))) [])∧Bc (decide (w=Bn f.kind)) (Lf (.v (vB true)) z1 [] []) (Bc (decide (w=2)) ((Fp 181 [.agg (Ew f)] [] z2 [])∧Lf z2 z1 [] []) (Lf (.v (vB false)) z1 [] []))) (Bc (decide (w=2)) ((Fp 181 [.agg (Ew f)] [] z2 [])∧Lf z2 z1 [] []) (Lf (.v (vB false)) z1 [] [])))) Q5 ?_
 refine⟨(Tg _),fun h1=>have p1:=Bb h1;?_,fun h1=>have p1:=Bf h1;?_⟩
 refine⟨(Qw _),dsp (fun h2 p2=>?_) fun h2 p2=>?_⟩
 refine⟨(sB ?_),rfl⟩
 rotate_left
 refine dsp (fun h3 p3=>?_) fun h3 p3=>?_
 refine⟨(Aes f),(sB ?_),rfl⟩
 rotate_left
 refine⟨(sB ?_),rfl⟩
 rotate_left
 refine dsp (fun h2 p2=>?_) fun h2 p2=>?_
 refine⟨(Aes f),(sB ?_),rfl⟩
 rotate_left
 refine⟨(sB ?_),rfl⟩
 rotate_left
 all_goals first|(simp[Ez, *]<;>(repeat' split)<;>omega)|(simp[Ez,Bn, *]<;>(repeat' split)<;>omega)
structure Lx where
 u:Int
 out:List Int
def Ly (u:Int):Fam:=⟨Lx,fun q1=>[(0,.v (.c (.int .u64 q1.u))),(3,.v (vO 0))],fun q1=>[.lst .u8 q1.out],fun q1=>(0:Int)≤q1.u∧q1.u≤18446744073709551615∧List.map Bt q1.out++Dg q1.u=Dg u∧q1.out.length+List.length (Dg q1.u)≤10,fun q1=>q1.u.toNat⟩
theorem Qy (u:Int) (hp1:(0:Int)≤u∧u≤18446744073709551615):Fun Tryz.prog 107 [.c (.int .u64 u)] [] (.v (vT (Dg u))) []:=by
 have hN:Bg=274877906944:=rfl
 refine Ap Tryz.func107 Q5 Q5 (w:=let z2:=Ly u;(.seg [.ty .u8,.at 0,.keep [0,3],.sel [0]] (.loop z2 fun q1=> .br (.seg [.as 9 (.v (.c (.int .u64 (q1.u % 128)))),.as 10 (.v (.c (.int .u64 (q1.u % 128+128)))),.as 11 (.v (.c (.int .u8 (q1.u % 128+128)))),.ty .u8,.ty .u8,.as 15 (.v (.c (.int .u64 (q1.u / 128)))),.at 0,.keep [0,3],.sel [2]] (.next)) (.seg [.as 18 (.v (.c (.int .u8 q1.u))),.ty .u8,.ty .u8] (.leaf () []))),z2.Has [(0,.v (.c (.int .u64 u))),(3,.v (vO 0))] [.lst .u8 ([]:List Int)]∧∀q1,z2.inv q1→(let z1:=q1.u % 128+128;Bc (decide (127<q1.u)) (((128:Int)≠0)∧((.v (.c (.int .u64 (Int.tmod q1.u 128))):S)= .v (.c (.int .u64 (q1.u % 128))))∧((.v (.c (.int .u64 (IntKind.u64.wrap ((q1.u % 128)+128)))):S)= .v (.c (.int .u64 z1)))∧((.v (.c (.int .u8 (IntKind.u8.wrap z1))):S)= .v (.c (.int .u8 z1)))∧(q1.out.length+List.length [q1.u % 128+128]≤Bg)∧((128:Int)≠0)∧((.v (.c (.int .u64 (IntKind.u64.wrap (Int.tdiv q1.u 128)))):S)= .v (.c (.int .u64 (q1.u / 128))))∧z2.Nxt q1 [(0,.v (.c (.int .u64 (q1.u / 128)))),(3,.v (vO 0))] [.lst .u8 (q1.out++[q1.u % 128+128])]) (((.v (.c (.int .u8 (IntKind.u8.wrap (q1.u)))):S)= .v (.c (.int .u8 q1.u)))∧(q1.out.length+List.length [q1.u]≤Bg)∧Lf (.v (vT (List.map Bt (q1.out++[q1.u])))) (.v (vT (Dg u))) [] [])))) Q5 ?_
 refine⟨Ca (j:=(⟨u,([]:List Int)⟩:Lx)) rfl rfl (by dsimp only[Ly];exact⟨by omega,by omega,by simp,by have:=Aa8 (u:=u) Q2;unfold Kh at this;simp;omega⟩),fun (q1:Lx) hq_q1=>?_⟩
 have hi_q1:(0:Int)≤q1.u∧q1.u≤18446744073709551615∧List.map Bt q1.out++Dg q1.u=Dg u∧q1.out.length+List.length (Dg q1.u)≤10:=hq_q1
 obtain ⟨v1,v2,v3,v4⟩:=hi_q1
 refine dsp (fun h1 p1=>?_) fun h1 p1=>?_
 exact⟨Q21,(Xf Q2),(Bx Q2 Q2),(P3 Q2 Q2),(by have:=V6 q1.u;simp;omega),Q21,(Uf Q2 Q2 Q21),A5 (j:=(⟨q1.u / 128,q1.out++[q1.u % 128+128]⟩:Lx)) rfl rfl (by dsimp only[Ly];exact⟨by omega,by omega,by rw[←v3,V5 (u:=q1.u) (by omega) (by omega)];simp[Bt],by rw[V5 (u:=q1.u) (by omega) (by omega)] at v4;simp at v4 ⊢;omega⟩) (by dsimp only[Ly];omega)⟩
 refine⟨(P3 Q2 Q2),(by have:=V6 q1.u;simp;omega),(congrArg S.v (congrArg V.c (congrArg C.str ?_))),rfl⟩
 rotate_left
 all_goals rw[←v3,Sr (u:=q1.u) (by omega) (by omega)];simp[Bt]
structure Ajq where
 u:Int
 n:Int
structure Ajr where
 u:Int
 out:List Int
 v:Nat
structure Fr where
 u:Int
 k:Nat
def Ft (s:List UInt8) (at_:Int) (end_:Int):Fam:=⟨Fr,fun q1=>[(0,.v (vT s)),(1,.v (vI at_)),(2,.v (vI end_)),(9,.v (.c (.int .u64 q1.u))),(10,.v (vI (q1.k:Int)))],fun _=>[],fun q1=>q1.k≤9∧(0:Int)≤q1.u∧q1.u<2 ^ (7*q1.k)∧vwA s at_ end_ (10-q1.k) (((q1.k:Nat)):Int) q1.u=Ad s at_ end_,fun q1=>10-q1.k⟩
theorem Z4 (s:List UInt8) (at_:Int) (end_:Int) (hp1:s.length≤Bg):Fun Tryz.prog 173 [vT s,vI at_,vI end_] [] (.tup [.c (.int .u64 (Ad s at_ end_).1),vI (Ad s at_ end_).2.1,vI (Ad s at_ end_).2.2]) []:=by
 have hN:Bg=274877906944:=rfl
 refine Ap Tryz.func173 Q5 Q5 (w:=let z11:=(s.length:Int);let z12:=Ft s at_ end_;let z14:=Ad s at_ end_;let z10:S:= .tup [.c (.int .u64 z14.1),vI z14.2.1,vI z14.2.2];let z13:=Lf (.tup [.c (.int .u64 0),vI z11,vI 10]) z10 [] [];let z15:=Ak at_ 0 z11;(.seg [.call [] (.v (vB z15)) []] (.br (.leaf () []) (.seg [.at 0,.keep [0,1,2,9,10],.sel []] (.loop z12 fun q1=>let z7:=(q1.k:Int);.seg [.as 24 (.v (vI (at_+z7)))] (.br (.leaf () []) (.seg [.as 31 (.v (vI (at_+z7)))] (.br (.leaf () []) (.br (.seg [.as 44 (.v (vI (at_+z7)))] (.intro (Sx (s[Int.toNat (at_+z7)]?)) fun x1=>let z1:=((UInt8.toNat x1:Nat):Int) % 128;.seg [.ch x1] (.br (.seg [.as 50 (.v (vI (at_+z7)))] (.leaf () [])) (.seg [.as 54 (.v (vI (at_+z7))),.ch x1,.as 58 (.v (.c (.int .u8 z1))),.as 59 (.v (.c (.int .u64 z1))),.as 61 (.v (vI (7*z7))),.as 62 (.v (.c (.int .u64 (7*z7)))),.as 63 (.v (.c (.int .u64 (z1*2 ^ (7*q1.k))))),.as 64 (.v (.c (.int .u64 (q1.u+z1*2 ^ (7*q1.k)))))] (.br (.seg [.as 70 (.v (vI (at_+z7))),.as 71 (.v (vI (at_+z7+1)))] (.leaf () [])) (.seg [.as 20 (.v (vI (z7+1))),.at 0,.keep [0,1,2,9,10],.sel []] (.next))))))) (.seg [.as 54 (.v (vI (at_+z7)))] (.intro (Sx (s[Int.toNat (at_+z7)]?)) fun x1=>let z4:=((UInt8.toNat x1:Nat):Int) % 128;.seg [.ch x1,.as 58 (.v (.c (.int .u8 z4))),.as 59 (.v (.c (.int .u64 z4))),.as 61 (.v (vI (7*z7))),.as 62 (.v (.c (.int .u64 (7*z7)))),.as 63 (.v (.c (.int .u64 (z4*2 ^ (7*q1.k))))),.as 64 (.v (.c (.int .u64 (q1.u+z4*2 ^ (7*q1.k)))))] (.br (.seg [.as 70 (.v (vI (at_+z7))),.as 71 (.v (vI (at_+z7+1)))] (.leaf () [])) (.seg [.as 20 (.v (vI (z7+1))),.at 0,.keep [0,1,2,9,10],.sel []] (.next)))))))))))),(Fp 69 [vI at_,vI 0,vI z11] [] (.v (vB z15)) [])∧Bc (!z15) z13 (z12.Has [(0,.v (vT s)),(1,.v (vI at_)),(2,.v (vI end_)),(9,.v (.c (.int .u64 0))),(10,.v (vI 0))] []∧∀q1,z12.inv q1→(let z8:=(q1.k:Int);let z9:=7*q1.k;(wI (at_+z8))∧Bc (decide (end_≤at_+z8)) (Lf (.tup [.c (.int .u64 0),vI end_,vI 9]) z10 [] []) ((wI (at_+z8))∧Bc (decide (z11≤at_+z8)) z13 (Bc (decide (z8=9)) ((wI (at_+z8))∧El (s[Int.toNat (at_+z8)]?) fun x1=>(let z2:=((UInt8.toNat x1:Nat):Int);let z3:=s[Int.toNat (at_+z8)]? =some x1;z3∧((0:Int)≤at_+z8)∧Bc (decide (1<z2)) ((wI (at_+z8))∧Lf (.tup [.c (.int .u64 0),vI (at_+z8),vI 1]) z10 [] []) ((wI (at_+z8))∧z3∧((0:Int)≤at_+z8)∧((.v (.c (.int .u8 (IntKind.u8.wrap (((BitVec.ofInt 8 z2&&&BitVec.ofInt 8 127).toNat:Nat))))):S)= .v (.c (.int .u8 (z2 % 128))))∧(wU (z2 % 128))∧(wI (7*z8))∧(wU (7*z8))∧((0:Int)≤7*z8)∧((.v (.c (.int .u64 (IntKind.u64.wrap ((z2 % 128)*2 ^ min (Int.toNat (7*z8)) 64)))):S)= .v (.c (.int .u64 ((z2 % 128)*2 ^ z9))))∧((.v (.c (.int .u64 (IntKind.u64.wrap (((BitVec.ofInt 64 q1.u|||BitVec.ofInt 64 ((z2 % 128)*2 ^ z9)).toNat:Nat))))):S)= .v (.c (.int .u64 (q1.u+(z2 % 128)*2 ^ z9))))∧Bc (decide (z2<128)) ((wI (at_+z8))∧((.v (vI (IntKind.i64.wrap ((at_+z8)+1))):S)= .v (vI (at_+z8+1)))∧Lf (.tup [.c (.int .u64 (q1.u+(z2 % 128)*2 ^ z9)),vI (at_+z8+1),vI 0]) z10 [] []) ((wI (z8+1))∧z12.Nxt q1 [(0,.v (vT s)),(1,.v (vI at_)),(2,.v (vI end_)),(9,.v (.c (.int .u64 (q1.u+(z2 % 128)*2 ^ z9)))),(10,.v (vI (z8+1)))] [])))) ((wI (at_+z8))∧El (s[Int.toNat (at_+z8)]?) fun x1=>(let z6:=((UInt8.toNat x1:Nat):Int);let z5:=z6 % 128;(s[Int.toNat (at_+z8)]? =some x1)∧((0:Int)≤at_+z8)∧((.v (.c (.int .u8 (IntKind.u8.wrap (((BitVec.ofInt 8 z6&&&BitVec.ofInt 8 127).toNat:Nat))))):S)= .v (.c (.int .u8 z5)))∧(wU z5)∧(wI (7*z8))∧(wU (7*z8))∧((0:Int)≤7*z8)∧((.v (.c (.int .u64 (IntKind.u64.wrap (z5*2 ^ min (Int.toNat (7*z8)) 64)))):S)= .v (.c (.int .u64 (z5*2 ^ z9))))∧((.v (.c (.int .u64 (IntKind.u64.wrap (((BitVec.ofInt 64 q1.u|||BitVec.ofInt 64 (z5*2 ^ z9)).toNat:Nat))))):S)= .v (.c (.int .u64 (q1.u+z5*2 ^ z9))))∧Bc (decide (z6<128)) ((wI (at_+z8))∧((.v (vI (IntKind.i64.wrap ((at_+z8)+1))):S)= .v (vI (at_+z8+1)))∧Lf (.tup [.c (.int .u64 (q1.u+z5*2 ^ z9)),vI (at_+z8+1),vI 0]) z10 [] []) ((wI (z8+1))∧z12.Nxt q1 [(0,.v (vT s)),(1,.v (vI at_)),(2,.v (vI end_)),(9,.v (.c (.int .u64 (q1.u+z5*2 ^ z9)))),(10,.v (vI (z8+1)))] []))))))))) Q5 ?_
 refine⟨(Dk _ _ _),fun h1=>have q1:=As h1;have p1:=Bf q1;?_,fun h1=>have q1:=Aq h1;have p1:=Bb q1;?_⟩
 refine⟨(congrArg S.tup (Af (congrArg V.c (congrArg (C.int .u64) ?_)) (Af (congrArg V.c (congrArg (C.int .i64) ?_)) (Af (congrArg V.c (congrArg (C.int .i64) ?_)) rfl)))),rfl⟩
 rotate_left 3
 have hw:Ak at_ 0 (s.length:Int)=true:=by simpa using h1
 refine⟨Ca (j:=(⟨0,0⟩:Fr)) Q7 rfl (by dsimp only[Ft];exact⟨by omega,by omega,by decide,by simp[Ad,hw]⟩),fun (q1:Fr) hq_q1=>?_⟩
 have hi_q1:q1.k≤9∧(0:Int)≤q1.u∧q1.u<2 ^ (7*q1.k)∧vwA s at_ end_ (10-q1.k) (((q1.k:Nat)):Int) q1.u=Ad s at_ end_:=hq_q1
 obtain ⟨v1,v2,v3,v4⟩:=hi_q1
 obtain ⟨f,hf⟩: ∃f,10-q1.k=f+1:=⟨9-q1.k,by omega⟩
 rw[hf,vwA] at v4
 have e7:Int.toNat (7*(q1.k:Int))=7*q1.k:=by omega
 refine⟨(Ac Q2 Q2),dsp (fun h2 p2=>?_) fun h2 p2=>?_⟩
 rw[if_pos p2] at v4
 refine⟨(congrArg S.tup (Af (congrArg V.c (congrArg (C.int .u64) ?_)) (Af (congrArg V.c (congrArg (C.int .i64) ?_)) (Af (congrArg V.c (congrArg (C.int .i64) ?_)) rfl)))),rfl⟩
 rotate_left 3
 rw[if_neg p2] at v4
 refine⟨(Ac Q2 Q2),dsp (fun h3 p3=>?_) fun h3 p3=>?_⟩
 rw[if_pos p3] at v4
 refine⟨(congrArg S.tup (Af (congrArg V.c (congrArg (C.int .u64) ?_)) (Af (congrArg V.c (congrArg (C.int .i64) ?_)) (Af (congrArg V.c (congrArg (C.int .i64) ?_)) rfl)))),rfl⟩
 rotate_left 3
 rw[if_neg p3] at v4
 refine dsp (fun h4 p4=>?_) fun h4 p4=>?_
 refine⟨(Ac Q2 Q2),(Be (l:=s) (i:=Int.toNat (at_+(q1.k:Int))) Q2),fun x1 hx1=>?_⟩
 have hb_x1:=UInt8.toNat_lt x1
 have he:=P5 (d:=0) hx1
 have hv:=fun h9=>V7 (c:=(x1.toNat:Int) % 128) (k:=q1.k) (by omega) (by omega) (by omega) h9
 refine⟨hx1,Q2,dsp (fun h5 p5=>?_) fun h5 p5=>?_⟩
 rw[if_pos ⟨by omega,by rw[he];omega⟩] at v4
 refine⟨(Ac Q2 Q2),(congrArg S.tup (Af (congrArg V.c (congrArg (C.int .u64) ?_)) (Af (congrArg V.c (congrArg (C.int .i64) ?_)) (Af (congrArg V.c (congrArg (C.int .i64) ?_)) rfl)))),rfl⟩
 rotate_left 3
 rw[if_neg (by rw[he];omega)] at v4
 refine⟨(Ac Q2 Q2),hx1,Q2,(Aej Q2 Q2),(Bx Q2 Q2),(Ac Q2 Q2),(Bx Q2 Q2),Q2,(Qq Q2 Q2 Q2 (by intro h;omega)),(Aa9 Q2 Q2 Q2 (by intro h;omega) Q2 Q2),dsp (fun h6 p6=>?_) fun h6 p6=>?_⟩
 have hv:=hv (by intro h;omega)
 rw[he,e7] at v4
 rw[if_pos p6] at v4
 refine⟨(Ac Q2 Q2),(Ac Q2 Q2),(congrArg S.tup (Af (congrArg V.c (congrArg (C.int .u64) ?_)) (Af (congrArg V.c (congrArg (C.int .i64) ?_)) (Af (congrArg V.c (congrArg (C.int .i64) ?_)) rfl)))),rfl⟩
 rotate_left 3
 have hv:=hv (by intro h;omega)
 rw[he,e7] at v4
 rw[if_neg p6] at v4
 exact⟨(Ac Q2 Q2),A5 (j:=(⟨q1.u+(((UInt8.toNat x1:Nat):Int) % 128)*2 ^ (7*q1.k),q1.k+1⟩:Fr)) Q7 rfl Q57 (by dsimp only[Ft];omega)⟩
 rw[if_neg (by omega)] at v4
 refine⟨(Ac Q2 Q2),(Be (l:=s) (i:=Int.toNat (at_+(q1.k:Int))) Q2),fun x1 hx1=>?_⟩
 have hb_x1:=UInt8.toNat_lt x1
 have he:=P5 (d:=0) hx1
 have hv:=fun h9=>V7 (c:=(x1.toNat:Int) % 128) (k:=q1.k) (by omega) (by omega) (by omega) h9
 refine⟨hx1,Q2,(Aej Q2 Q2),(Bx Q2 Q2),(Ac Q2 Q2),(Bx Q2 Q2),Q2,(Qq Q2 Q2 Q2 (by intro h;omega)),(Aa9 Q2 Q2 Q2 (by intro h;omega) Q2 Q2),dsp (fun h5 p5=>?_) fun h5 p5=>?_⟩
 have hv:=hv (by intro h;omega)
 rw[he,e7] at v4
 rw[if_pos p5] at v4
 refine⟨(Ac Q2 Q2),(Ac Q2 Q2),(congrArg S.tup (Af (congrArg V.c (congrArg (C.int .u64) ?_)) (Af (congrArg V.c (congrArg (C.int .i64) ?_)) (Af (congrArg V.c (congrArg (C.int .i64) ?_)) rfl)))),rfl⟩
 rotate_left 3
 have hv:=hv (by intro h;omega)
 rw[he,e7] at v4
 rw[if_neg p5] at v4
 exact⟨(Ac Q2 Q2),A5 (j:=(⟨q1.u+(((UInt8.toNat x1:Nat):Int) % 128)*2 ^ (7*q1.k),q1.k+1⟩:Fr)) Q7 rfl Q57 (by dsimp only[Ft];omega)⟩
 all_goals first|(rw[←v4])|(simp[Ad, *];done)
structure Fu where
 u:Int
 k:Nat
def Fv (s:List UInt8) (at_:Int) (end_:Int):Fam:=⟨Fu,fun q1=>[(0,.v (vT s)),(1,.v (vI at_)),(2,.v (vI end_)),(9,.v (.c (.int .u64 q1.u))),(10,.v (vI (q1.k:Int)))],fun _=>[],fun q1=>q1.k≤9∧(0:Int)≤q1.u∧q1.u<2 ^ (7*q1.k)∧vwA s at_ end_ (10-q1.k) (((q1.k:Nat)):Int) q1.u=Ad s at_ end_,fun q1=>10-q1.k⟩
theorem Um (s:List UInt8) (at_:Int) (end_:Int) (hp1:s.length≤Bg):Fun Tryz.prog 112 [vT s,vI at_,vI end_] [] (.tup [.c (.int .u64 (Ad s at_ end_).1),vI (Ad s at_ end_).2.1,vI (Ad s at_ end_).2.2]) []:=by
 have hN:Bg=274877906944:=rfl
 refine Ap Tryz.func112 Q5 Q5 (w:=let z7:=(s.length:Int);let z8:=Fv s at_ end_;let z10:=Ad s at_ end_;let z6:S:= .tup [.c (.int .u64 z10.1),vI z10.2.1,vI z10.2.2];let z9:=Lf (.tup [.c (.int .u64 0),vI z7,vI 10]) z6 [] [];(.seg [.call [] (.v (vB (Ak at_ 0 z7))) []] (.br (.leaf () []) (.seg [.at 0,.keep [0,1,2,9,10],.sel []] (.loop z8 fun q1=>let z4:=(q1.k:Int);.seg [.br true,.as 26 (.v (vI (at_+z4)))] (.br (.leaf () []) (.seg [.as 33 (.v (vI (at_+z4)))] (.br (.leaf () []) (.seg [.as 42 (.v (vI (at_+z4)))] (.intro (Sx (s[Int.toNat (at_+z4)]?)) fun x1=>let z1:=((UInt8.toNat x1:Nat):Int) % 128;.seg [.ch x1,.as 44 (.v (.c (.int .u64 ((UInt8.toNat x1:Nat):Int))))] (.br (.br (.seg [.as 53 (.v (vI (at_+z4)))] (.leaf () [])) (.seg [.as 56 (.v (.c (.int .u64 z1))),.as 58 (.v (vI (7*z4))),.as 59 (.v (.c (.int .u64 (7*z4)))),.as 60 (.v (.c (.int .u64 (z1*2 ^ (7*q1.k))))),.as 61 (.v (.c (.int .u64 (q1.u+(z1*2 ^ (7*q1.k))))))] (.br (.seg [.as 67 (.v (vI (at_+z4))),.as 68 (.v (vI (at_+z4+1)))] (.leaf () [])) (.seg [.as 22 (.v (vI (z4+1))),.at 0,.keep [0,1,2,9,10],.sel []] (.next))))) (.seg [.as 56 (.v (.c (.int .u64 z1))),.as 58 (.v (vI (7*z4))),.as 59 (.v (.c (.int .u64 (7*z4)))),.as 60 (.v (.c (.int .u64 (z1*2 ^ (7*q1.k))))),.as 61 (.v (.c (.int .u64 (q1.u+(z1*2 ^ (7*q1.k))))))] (.br (.seg [.as 67 (.v (vI (at_+z4))),.as 68 (.v (vI (at_+z4+1)))] (.leaf () [])) (.seg [.as 22 (.v (vI (z4+1))),.at 0,.keep [0,1,2,9,10],.sel []] (.next))))))))))))),(Fp 71 [vI at_,vI 0,vI z7] [] (.v (vB (Ak at_ 0 z7))) [])∧Bc (!(Ak at_ 0 z7)) z9 (z8.Has [(0,.v (vT s)),(1,.v (vI at_)),(2,.v (vI end_)),(9,.v (.c (.int .u64 0))),(10,.v (vI 0))] []∧∀q1,z8.inv q1→(let z5:=(q1.k:Int);((decide (z5<10))=true)∧(wI (at_+z5))∧Bc (decide (end_≤at_+z5)) (Lf (.tup [.c (.int .u64 0),vI end_,vI 9]) z6 [] []) ((wI (at_+z5))∧Bc (decide (z7≤at_+z5)) z9 ((wI (at_+z5))∧El (s[Int.toNat (at_+z5)]?) fun x1=>(let z3:=((UInt8.toNat x1:Nat):Int);let z2:=((128:Int)≠0)∧((.v (.c (.int .u64 (Int.tmod z3 128))):S)= .v (.c (.int .u64 (z3 % 128))))∧(wI (7*z5))∧(wU (7*z5))∧((0:Int)≤7*z5)∧((.v (.c (.int .u64 (IntKind.u64.wrap ((z3 % 128)*2 ^ min (Int.toNat (7*z5)) 64)))):S)= .v (.c (.int .u64 ((z3 % 128)*2 ^ (7*q1.k)))))∧(wU (q1.u+((z3 % 128)*2 ^ (7*q1.k))))∧Bc (decide (z3<128)) ((wI (at_+z5))∧((.v (vI (IntKind.i64.wrap ((at_+z5)+1))):S)= .v (vI (at_+z5+1)))∧Lf (.tup [.c (.int .u64 (q1.u+((z3 % 128)*2 ^ (7*q1.k)))),vI (at_+z5+1),vI 0]) z6 [] []) ((wI (z5+1))∧z8.Nxt q1 [(0,.v (vT s)),(1,.v (vI at_)),(2,.v (vI end_)),(9,.v (.c (.int .u64 (q1.u+((z3 % 128)*2 ^ (7*q1.k)))))),(10,.v (vI (z5+1)))] []);(s[Int.toNat (at_+z5)]? =some x1)∧((0:Int)≤at_+z5)∧(wU (z3))∧Bc (decide (z5=9)) (Bc (decide (1<z3)) ((wI (at_+z5))∧Lf (.tup [.c (.int .u64 0),vI (at_+z5),vI 1]) z6 [] []) z2) z2))))))) Q5 ?_
 refine⟨(B9 _ _ _),fun h1=>have q1:=As h1;have p1:=Bf q1;?_,fun h1=>have q1:=Aq h1;have p1:=Bb q1;?_⟩
 refine⟨(congrArg S.tup (Af (congrArg V.c (congrArg (C.int .u64) ?_)) (Af (congrArg V.c (congrArg (C.int .i64) ?_)) (Af (congrArg V.c (congrArg (C.int .i64) ?_)) rfl)))),rfl⟩
 rotate_left 3
 have hw:Ak at_ 0 (s.length:Int)=true:=by simpa using h1
 refine⟨Ca (j:=(⟨0,0⟩:Fu)) Q7 rfl (by dsimp only[Fv];exact⟨by omega,by omega,by decide,by simp[Ad,hw]⟩),fun (q1:Fu) hq_q1=>?_⟩
 have hi_q1:q1.k≤9∧(0:Int)≤q1.u∧q1.u<2 ^ (7*q1.k)∧vwA s at_ end_ (10-q1.k) (((q1.k:Nat)):Int) q1.u=Ad s at_ end_:=hq_q1
 obtain ⟨v1,v2,v3,v4⟩:=hi_q1
 obtain ⟨f,hf⟩: ∃f,10-q1.k=f+1:=⟨9-q1.k,by omega⟩
 rw[hf,vwA] at v4
 have e7:Int.toNat (7*(q1.k:Int))=7*q1.k:=by omega
 refine⟨(by simp;omega),(Ac Q2 Q2),dsp (fun h2 p2=>?_) fun h2 p2=>?_⟩
 rw[if_pos p2] at v4
 refine⟨(congrArg S.tup (Af (congrArg V.c (congrArg (C.int .u64) ?_)) (Af (congrArg V.c (congrArg (C.int .i64) ?_)) (Af (congrArg V.c (congrArg (C.int .i64) ?_)) rfl)))),rfl⟩
 rotate_left 3
 rw[if_neg p2] at v4
 refine⟨(Ac Q2 Q2),dsp (fun h3 p3=>?_) fun h3 p3=>?_⟩
 rw[if_pos p3] at v4
 refine⟨(congrArg S.tup (Af (congrArg V.c (congrArg (C.int .u64) ?_)) (Af (congrArg V.c (congrArg (C.int .i64) ?_)) (Af (congrArg V.c (congrArg (C.int .i64) ?_)) rfl)))),rfl⟩
 rotate_left 3
 rw[if_neg p3] at v4
 refine⟨(Ac Q2 Q2),(Be (l:=s) (i:=Int.toNat (at_+(q1.k:Int))) Q2),fun x1 hx1=>?_⟩
 have hb_x1:=UInt8.toNat_lt x1
 have he:=P5 (d:=0) hx1
 have hv:=fun h9=>V7 (c:=(x1.toNat:Int) % 128) (k:=q1.k) (by omega) (by omega) (by omega) h9
 refine⟨hx1,Q2,(Bx Q2 Q2),dsp (fun h4 p4=>?_) fun h4 p4=>?_⟩
 refine dsp (fun h5 p5=>?_) fun h5 p5=>?_
 rw[if_pos ⟨by omega,by rw[he];omega⟩] at v4
 refine⟨(Ac Q2 Q2),(congrArg S.tup (Af (congrArg V.c (congrArg (C.int .u64) ?_)) (Af (congrArg V.c (congrArg (C.int .i64) ?_)) (Af (congrArg V.c (congrArg (C.int .i64) ?_)) rfl)))),rfl⟩
 rotate_left 3
 rw[if_neg (by rw[he];omega)] at v4
 refine⟨Q21,(Xf Q2),(Ac Q2 Q2),(Bx Q2 Q2),Q2,(Qq Q2 Q2 Q2 (by intro h;omega)),(Bx Q2 Q2),dsp (fun h6 p6=>?_) fun h6 p6=>?_⟩
 have hv:=hv (by intro h;omega)
 rw[he,e7] at v4
 rw[if_pos p6] at v4
 refine⟨(Ac Q2 Q2),(Ac Q2 Q2),(congrArg S.tup (Af (congrArg V.c (congrArg (C.int .u64) ?_)) (Af (congrArg V.c (congrArg (C.int .i64) ?_)) (Af (congrArg V.c (congrArg (C.int .i64) ?_)) rfl)))),rfl⟩
 rotate_left 3
 have hv:=hv (by intro h;omega)
 rw[he,e7] at v4
 rw[if_neg p6] at v4
 exact⟨(Ac Q2 Q2),A5 (j:=(⟨q1.u+((((UInt8.toNat x1:Nat):Int) % 128)*2 ^ (7*q1.k)),q1.k+1⟩:Fu)) Q7 rfl Q56 (by dsimp only[Fv];omega)⟩
 rw[if_neg (by omega)] at v4
 refine⟨Q21,(Xf Q2),(Ac Q2 Q2),(Bx Q2 Q2),Q2,(Qq Q2 Q2 Q2 (by intro h;omega)),(Bx Q2 Q2),dsp (fun h5 p5=>?_) fun h5 p5=>?_⟩
 have hv:=hv (by intro h;omega)
 rw[he,e7] at v4
 rw[if_pos p5] at v4
 refine⟨(Ac Q2 Q2),(Ac Q2 Q2),(congrArg S.tup (Af (congrArg V.c (congrArg (C.int .u64) ?_)) (Af (congrArg V.c (congrArg (C.int .i64) ?_)) (Af (congrArg V.c (congrArg (C.int .i64) ?_)) rfl)))),rfl⟩
 rotate_left 3
 have hv:=hv (by intro h;omega)
 rw[he,e7] at v4
 rw[if_neg p5] at v4
 exact⟨(Ac Q2 Q2),A5 (j:=(⟨q1.u+((((UInt8.toNat x1:Nat):Int) % 128)*2 ^ (7*q1.k)),q1.k+1⟩:Fu)) Q7 rfl Q56 (by dsimp only[Fv];omega)⟩
 all_goals first|(rw[←v4])|(simp[Ad, *];done)
theorem Aev (w:Int):Fun Tryz.prog 274 [vI w] [] (.v (vB (Ek w))) []:=by
 have hN:Bg=274877906944:=rfl
 refine Ap Tryz.func274 Q5 Q5 (w:=(.br (.leaf () []) (.leaf () []),Bc (decide (w=4)) (Lf (.v (vB true)) (.v (vB (Ek w))) [] []) (Lf (.v (vB (decide (w=8)))) (.v (vB (Ek w))) [] []))) Q5 ?_
 refine dsp (fun h1 p1=>?_) fun h1 p1=>?_
 exact⟨(congrArg S.v (congrArg V.c (congrArg C.bool (by simp[Ek, *])))),rfl⟩
 exact⟨(congrArg S.v (congrArg V.c (congrArg C.bool (by simp[Ek, *])))),rfl⟩
structure Lz where
 u:Int
 v:Nat
def L0 (s:List UInt8) (at_:Int) (w:Int):Fam:=⟨Lz,fun q1=>[(0,.v (vT s)),(1,.v (vI at_)),(8,.v (.c (.int .u64 q1.u))),(22,.v (vI w)),(23,.v (vI (q1.v:Int)))],fun _=>[],fun q1=>(q1.v:Int)≤w∧q1.u=((D8 (List.take q1.v (List.drop (at_.toNat) s)):Nat):Int),fun q1=>w.toNat-q1.v⟩
theorem Ag4 (s:List UInt8) (at_:Int) (w:Int) (hp1:s.length≤Bg):Fun Tryz.prog 241 [vT s,vI at_,vI w] [] (.tup [.c (.int .u64 (Fq s at_ w)),vB (Cq s at_ w)]) []:=by
 have hN:Bg=274877906944:=rfl
 refine Ap Tryz.func241 Q5 Q5 (w:=let z5:=(s.length:Int)-w;let z6:S:= .tup [.c (.int .u64 (Fq s at_ w)),vB (Cq s at_ w)];let z7:=L0 s at_ w;let z8:=Lf (.tup [.c (.int .u64 0),vB false]) z6 [] [];(.seg [.call [] (.v (vB (Ek w))) []] (.br (.leaf () []) (.seg [.as 18 (.v (vI z5)),.call [] (.v (vB (Ak at_ 0 z5))) []] (.br (.leaf () []) (.seg [.at 0,.keep [0,1,8,22,23],.sel []] (.loop z7 fun q1=>let z3:=(q1.v:Int);.br (.seg [.as 30 (.v (vI (at_+z3)))] (.intro (Sx (s[Int.toNat (at_+z3)]?)) fun x1=>let z1:=((UInt8.toNat x1:Nat):Int);.seg [.ch x1,.as 32 (.v (.c (.int .u64 z1))),.as 34 (.v (vI (8*z3))),.as 35 (.v (.c (.int .u64 (8*z3)))),.as 36 (.v (.c (.int .u64 (z1*2 ^ (8*q1.v))))),.as 37 (.v (.c (.int .u64 (q1.u+z1*2 ^ (8*q1.v))))),.as 38 (.v (vI (z3+1))),.at 0,.keep [0,1,8,22,23],.sel []] (.next))) (.leaf () [])))))),(Fp 274 [vI w] [] (.v (vB (Ek w))) [])∧Bc (!(Ek w)) z8 ((wI z5)∧(Fp 69 [vI at_,vI 0,vI z5] [] (.v (vB (Ak at_ 0 z5))) [])∧Bc (!(Ak at_ 0 z5)) z8 (z7.Has [(0,.v (vT s)),(1,.v (vI at_)),(8,.v (.c (.int .u64 0))),(22,.v (vI w)),(23,.v (vI 0))] []∧∀q1,z7.inv q1→(let z4:=(q1.v:Int);Bc (decide (z4<w)) ((wI (at_+z4))∧El (s[Int.toNat (at_+z4)]?) fun x1=>(let z2:=((UInt8.toNat x1:Nat):Int);(s[Int.toNat (at_+z4)]? =some x1)∧((0:Int)≤at_+z4)∧(wU (z2))∧(wI (8*z4))∧(wU (8*z4))∧((0:Int)≤8*z4)∧((.v (.c (.int .u64 (IntKind.u64.wrap (z2*2 ^ min (Int.toNat (8*z4)) 64)))):S)= .v (.c (.int .u64 (z2*2 ^ (8*q1.v)))))∧((.v (.c (.int .u64 (IntKind.u64.wrap (((BitVec.ofInt 64 q1.u|||BitVec.ofInt 64 (z2*2 ^ (8*q1.v))).toNat:Nat))))):S)= .v (.c (.int .u64 (q1.u+z2*2 ^ (8*q1.v)))))∧(wI (z4+1))∧z7.Nxt q1 [(0,.v (vT s)),(1,.v (vI at_)),(8,.v (.c (.int .u64 (q1.u+z2*2 ^ (8*q1.v))))),(22,.v (vI w)),(23,.v (vI (z4+1)))] [])) (Lf (.tup [.c (.int .u64 q1.u),vB true]) z6 [] [])))))) Q5 ?_
 refine⟨(Aev _),fun h1=>have q1:=As h1;have p1:=Aen q1;?_,fun h1=>have q1:=Aq h1;have p1:=Yj q1;?_⟩
 refine⟨(congrArg S.tup (Af (congrArg V.c (congrArg (C.int .u64) ?_)) (Af (congrArg V.c (congrArg C.bool ?_)) rfl))),rfl⟩
 rotate_left 2
 refine⟨(Ac Q2 Q2),(Dk _ _ _),fun h2=>have q2:=As h2;have p2:=Bf q2;?_,fun h2=>have q2:=Aq h2;have p2:=Bb q2;?_⟩
 refine⟨(congrArg S.tup (Af (congrArg V.c (congrArg (C.int .u64) ?_)) (Af (congrArg V.c (congrArg C.bool ?_)) rfl))),rfl⟩
 rotate_left 2
 refine⟨Ca (j:=(⟨0,0⟩:Lz)) Q7 rfl (by dsimp only[L0];exact⟨by omega,by simp[D8]⟩),fun (q1:Lz) hq_q1=>?_⟩
 have hi_q1:(q1.v:Int)≤w∧q1.u=((D8 (List.take q1.v (List.drop (at_.toNat) s)):Nat):Int):=hq_q1
 obtain ⟨v1,v2⟩:=hi_q1
 have hw8:w=4∨w=8:=by omega
 have hlt:=Jm (l:=List.take q1.v (List.drop (at_.toNat) s)) (k:=q1.v) (by simp;omega)
 have hlt2:q1.u<2 ^ (8*q1.v):=by rw[v2];exact_mod_cast hlt
 have hu0:(0:Int)≤q1.u:=by rw[v2];exact Int.natCast_nonneg _
 refine dsp (fun h3 p3=>?_) fun h3 p3=>?_
 refine⟨(Ac Q2 Q2),(Be (l:=s) (i:=Int.toNat (at_+(q1.v:Int))) Q2),fun x1 hx1=>?_⟩
 have hb_x1:=UInt8.toNat_lt x1
 exact⟨hx1,Q2,(Bx Q2 Q2),(Ac Q2 Q2),(Bx Q2 Q2),Q2,(Aem Q2 Q2 Q2),(Agz Q2 Q2 Q2 Q2 Q2),(Ac Q2 Q2),A5 (j:=(⟨q1.u+((UInt8.toNat x1:Nat):Int)*2 ^ (8*q1.v),q1.v+1⟩:Lz)) Q7 rfl (by dsimp only[L0];exact⟨by omega,by rw[Aek (x:=x1) (by rw[←hx1];congr 1;omega),Ss,v2,show List.length (List.take q1.v (List.drop (at_.toNat) s))=q1.v by simp;omega];simp⟩) (by dsimp only[L0];omega)⟩
 have hok:Cq s at_ w=true:=by simp[Cq,Ek,Ak];omega
 have hvw:q1.v=w.toNat:=by omega
 rw[hvw] at v2
 have hr:q1.u=Fq s at_ w:=by rw[Fq,if_pos hok,v2]
 refine⟨(congrArg S.tup (Af (congrArg V.c (congrArg (C.int .u64) ?_)) (Af (congrArg V.c (congrArg C.bool ?_)) rfl))),rfl⟩
 rotate_left 2
 all_goals first|(exact hr)|(exact hok.symm)|(simp_all[Cq,Fq,Ek];done)
structure F3 where
 u:Int
 i:Int
def G9 (s:List UInt8) (at_:Int) (w:Int):Fam:=⟨F3,fun q1=>[(0,.v (vT s)),(1,.v (vI at_)),(8,.v (.c (.int .u64 q1.u))),(9,.v (vI q1.i))],fun _=>[],fun q1=>(-1:Int)≤q1.i∧q1.i<w∧q1.u=((D8 (List.take (Int.toNat (w-1-q1.i)) (List.drop (Int.toNat (at_+q1.i+1)) s)):Nat):Int),fun q1=>Int.toNat (q1.i+1)⟩
theorem Ag5 (s:List UInt8) (at_:Int) (w:Int) (hp1:s.length≤Bg):Fun Tryz.prog 242 [vT s,vI at_,vI w] [] (.tup [.c (.int .u64 (Fq s at_ w)),vB (Cq s at_ w)]) []:=by
 have hN:Bg=274877906944:=rfl
 refine Ap Tryz.func242 Q5 Q5 (w:=let z3:=(s.length:Int)-w;let z4:S:= .tup [.c (.int .u64 (Fq s at_ w)),vB (Cq s at_ w)];let z5:=G9 s at_ w;let z6:=Lf (.tup [.c (.int .u64 0),vB false]) z4 [] [];let z7:S:= .v (vB (Ak at_ 0 z3));(.br (.br (.leaf () []) (.seg [.as 21 (.v (vI z3)),.call [] z7 []] (.br (.leaf () []) (.seg [.as 26 (.v (vI (w-1))),.at 0,.keep [0,1,8,9],.sel []] (.loop z5 fun q1=> .br (.seg [.as 32 (.v (.c (.int .u64 (256*q1.u)))),.as 36 (.v (vI (at_+q1.i)))] (.intro (Sx (s[Int.toNat (at_+q1.i)]?)) fun x1=> .seg [.ch x1,.as 38 (.v (.c (.int .u64 ((UInt8.toNat x1:Nat):Int)))),.as 39 (.v (.c (.int .u64 ((256*q1.u)+((UInt8.toNat x1:Nat):Int))))),.as 30 (.v (vI (q1.i-1))),.at 0,.keep [0,1,8,9],.sel []] (.next))) (.leaf () [])))))) (.seg [.as 21 (.v (vI z3)),.call [] z7 []] (.br (.leaf () []) (.seg [.as 26 (.v (vI (w-1))),.at 0,.keep [0,1,8,9],.sel []] (.loop z5 fun q1=> .br (.seg [.as 32 (.v (.c (.int .u64 (256*q1.u)))),.as 36 (.v (vI (at_+q1.i)))] (.intro (Sx (s[Int.toNat (at_+q1.i)]?)) fun x1=> .seg [.ch x1,.as 38 (.v (.c (.int .u64 ((UInt8.toNat x1:Nat):Int)))),.as 39 (.v (.c (.int .u64 ((256*q1.u)+((UInt8.toNat x1:Nat):Int))))),.as 30 (.v (vI (q1.i-1))),.at 0,.keep [0,1,8,9],.sel []] (.next))) (.leaf () []))))),Bc (!decide (w=4)) (Bc (!decide (w=8)) z6 ((wI z3)∧(Fp 71 [vI at_,vI 0,vI z3] [] z7 [])∧Bc (!(Ak at_ 0 z3)) z6 ((wI (w-1))∧z5.Has [(0,.v (vT s)),(1,.v (vI at_)),(8,.v (.c (.int .u64 0))),(9,.v (vI (w-1)))] []∧∀q1,z5.inv q1→(Bc (decide (0≤q1.i)) ((wU (256*q1.u))∧(wI (at_+q1.i))∧El (s[Int.toNat (at_+q1.i)]?) fun x1=>(let z1:=((UInt8.toNat x1:Nat):Int);(s[Int.toNat (at_+q1.i)]? =some x1)∧((0:Int)≤at_+q1.i)∧(wU (z1))∧(wU ((256*q1.u)+z1))∧(wI (q1.i-1))∧z5.Nxt q1 [(0,.v (vT s)),(1,.v (vI at_)),(8,.v (.c (.int .u64 ((256*q1.u)+z1)))),(9,.v (vI (q1.i-1)))] [])) (Lf (.tup [.c (.int .u64 q1.u),vB true]) z4 [] []))))) ((wI z3)∧(Fp 71 [vI at_,vI 0,vI z3] [] z7 [])∧Bc (!(Ak at_ 0 z3)) z6 ((wI (w-1))∧z5.Has [(0,.v (vT s)),(1,.v (vI at_)),(8,.v (.c (.int .u64 0))),(9,.v (vI (w-1)))] []∧∀q1,z5.inv q1→(Bc (decide (0≤q1.i)) ((wU (256*q1.u))∧(wI (at_+q1.i))∧El (s[Int.toNat (at_+q1.i)]?) fun x1=>(let z2:=((UInt8.toNat x1:Nat):Int);(s[Int.toNat (at_+q1.i)]? =some x1)∧((0:Int)≤at_+q1.i)∧(wU (z2))∧(wU ((256*q1.u)+z2))∧(wI (q1.i-1))∧z5.Nxt q1 [(0,.v (vT s)),(1,.v (vI at_)),(8,.v (.c (.int .u64 ((256*q1.u)+z2)))),(9,.v (vI (q1.i-1)))] [])) (Lf (.tup [.c (.int .u64 q1.u),vB true]) z4 [] [])))))) Q5 ?_
 refine⟨fun h1=>have q1:=As h1;have p1:=of_decide_eq_false q1;?_,fun h1=>have q1:=Aq h1;have p1:=of_decide_eq_true q1;?_⟩
 refine⟨fun h2=>have q2:=As h2;have p2:=of_decide_eq_false q2;?_,fun h2=>have q2:=Aq h2;have p2:=of_decide_eq_true q2;?_⟩
 refine⟨(congrArg S.tup (Af (congrArg V.c (congrArg (C.int .u64) ?_)) (Af (congrArg V.c (congrArg C.bool ?_)) rfl))),rfl⟩
 rotate_left 2
 refine⟨(Ac Q2 Q2),(B9 _ _ _),fun h3=>have q3:=As h3;have p3:=Bf q3;?_,fun h3=>have q3:=Aq h3;have p3:=Bb q3;?_⟩
 refine⟨(congrArg S.tup (Af (congrArg V.c (congrArg (C.int .u64) ?_)) (Af (congrArg V.c (congrArg C.bool ?_)) rfl))),rfl⟩
 rotate_left 2
 refine⟨(Ac Q2 Q2),Ca (j:=(⟨0,w-1⟩:F3)) rfl rfl (by dsimp only[G9];exact⟨by omega,by omega,by simp[D8]⟩),fun (q1:F3) hq_q1=>?_⟩
 have hi_q1:(-1:Int)≤q1.i∧q1.i<w∧q1.u=((D8 (List.take (Int.toNat (w-1-q1.i)) (List.drop (Int.toNat (at_+q1.i+1)) s)):Nat):Int):=hq_q1
 obtain ⟨v1,v2,v3⟩:=hi_q1
 have hw8:w=4∨w=8:=by omega
 have hlt:=Jm (l:=List.take (Int.toNat (w-1-q1.i)) (List.drop (Int.toNat (at_+q1.i+1)) s)) (k:=Int.toNat (w-1-q1.i)) (by rw[List.length_take];omega)
 have hu0:(0:Int)≤q1.u:=by rw[v3];exact Int.natCast_nonneg _
 refine dsp (fun h4 p4=>?_) fun h4 p4=>?_
 have hle:D8 (List.take (Int.toNat (w-1-q1.i)) (List.drop (Int.toNat (at_+q1.i+1)) s))<2 ^ 56:=Nat.lt_of_lt_of_le hlt (Nat.pow_le_pow_right (by decide) (by omega))
 have hu1:q1.u<72057594037927936:=by rw[v3];omega
 refine⟨(Bx Q2 Q2),(Ac Q2 Q2),(Be (l:=s) (i:=Int.toNat (at_+q1.i)) Q2),fun x1 hx1=>?_⟩
 have hb_x1:=UInt8.toNat_lt x1
 exact⟨hx1,Q2,(Bx Q2 Q2),(Bx Q2 Q2),(Ac Q2 Q2),A5 (j:=(⟨(256*q1.u)+((UInt8.toNat x1:Nat):Int),q1.i-1⟩:F3)) rfl rfl Q38 (by dsimp only[G9];omega)⟩
 have hok:Cq s at_ w=true:=by simp[Cq,Ek,Ak];omega
 have hvw:q1.i= -1:=by omega
 rw[hvw] at v3
 have hr:q1.u=Fq s at_ w:=by rw[Fq,if_pos hok,v3,show Int.toNat (w-1- -1)=w.toNat by omega,show Int.toNat (at_+ -1+1)=at_.toNat by omega]
 refine⟨(congrArg S.tup (Af (congrArg V.c (congrArg (C.int .u64) ?_)) (Af (congrArg V.c (congrArg C.bool ?_)) rfl))),rfl⟩
 rotate_left 2
 refine⟨(Ac Q2 Q2),(B9 _ _ _),fun h2=>have q2:=As h2;have p2:=Bf q2;?_,fun h2=>have q2:=Aq h2;have p2:=Bb q2;?_⟩
 refine⟨(congrArg S.tup (Af (congrArg V.c (congrArg (C.int .u64) ?_)) (Af (congrArg V.c (congrArg C.bool ?_)) rfl))),rfl⟩
 rotate_left 2
 refine⟨(Ac Q2 Q2),Ca (j:=(⟨0,w-1⟩:F3)) rfl rfl (by dsimp only[G9];exact⟨by omega,by omega,by simp[D8]⟩),fun (q1:F3) hq_q1=>?_⟩
 have hi_q1:(-1:Int)≤q1.i∧q1.i<w∧q1.u=((D8 (List.take (Int.toNat (w-1-q1.i)) (List.drop (Int.toNat (at_+q1.i+1)) s)):Nat):Int):=hq_q1
 obtain ⟨v1,v2,v3⟩:=hi_q1
 have hw8:w=4∨w=8:=by omega
 have hlt:=Jm (l:=List.take (Int.toNat (w-1-q1.i)) (List.drop (Int.toNat (at_+q1.i+1)) s)) (k:=Int.toNat (w-1-q1.i)) (by rw[List.length_take];omega)
 have hu0:(0:Int)≤q1.u:=by rw[v3];exact Int.natCast_nonneg _
 refine dsp (fun h3 p3=>?_) fun h3 p3=>?_
 have hle:D8 (List.take (Int.toNat (w-1-q1.i)) (List.drop (Int.toNat (at_+q1.i+1)) s))<2 ^ 56:=Nat.lt_of_lt_of_le hlt (Nat.pow_le_pow_right (by decide) (by omega))
 have hu1:q1.u<72057594037927936:=by rw[v3];omega
 refine⟨(Bx Q2 Q2),(Ac Q2 Q2),(Be (l:=s) (i:=Int.toNat (at_+q1.i)) Q2),fun x1 hx1=>?_⟩
 have hb_x1:=UInt8.toNat_lt x1
 exact⟨hx1,Q2,(Bx Q2 Q2),(Bx Q2 Q2),(Ac Q2 Q2),A5 (j:=(⟨(256*q1.u)+((UInt8.toNat x1:Nat):Int),q1.i-1⟩:F3)) rfl rfl Q38 (by dsimp only[G9];omega)⟩
 have hok:Cq s at_ w=true:=by simp[Cq,Ek,Ak];omega
 have hvw:q1.i= -1:=by omega
 rw[hvw] at v3
 have hr:q1.u=Fq s at_ w:=by rw[Fq,if_pos hok,v3,show Int.toNat (w-1- -1)=w.toNat by omega,show Int.toNat (at_+ -1+1)=at_.toNat by omega]
 refine⟨(congrArg S.tup (Af (congrArg V.c (congrArg (C.int .u64) ?_)) (Af (congrArg V.c (congrArg C.bool ?_)) rfl))),rfl⟩
 rotate_left 2
 all_goals first|(exact hr)|(exact hok.symm)|(simp_all[Cq,Fq,Ek];done)
structure Ajs where
 u:Int
 out:List Int
 v:Nat
structure Ajt where
 u:Int
 out:List Int
 i:Nat
theorem Cu (n:Int) (w:Int):Fun Tryz.prog 176 [vI n,vI w] [] (.v (.c (.int .u64 (Cz n w)))) []:=by
 have hN:Bg=274877906944:=rfl
 refine Ap Tryz.func176 Q5 Q5 (w:=let z2:=(8*n)+w;let z3:=Ak n 1 536870911;let z4:S:= .v (.c (.int .u64 (Cz n w)));let z1:=Lf (.v (.c (.int .u64 0))) z4 [] [];(.seg [.call [] (.v (vB z3)) []] (.br (.leaf () []) (.seg [.call [] (.v (vB (Ak w 0 7))) []] (.br (.leaf () []) (.seg [.as 14 (.v (vI (8*n))),.as 16 (.v (vI z2)),.as 17 (.v (.c (.int .u64 z2)))] (.leaf () []))))),(Fp 71 [vI n,vI 1,vI 536870911] [] (.v (vB z3)) [])∧Bc (!z3) z1 ((Fp 71 [vI w,vI 0,vI 7] [] (.v (vB (Ak w 0 7))) [])∧Bc (!(Ak w 0 7)) z1 ((wI (8*n))∧(wI z2)∧(wU z2)∧Lf (.v (.c (.int .u64 z2))) z4 [] [])))) Q5 ?_
 refine⟨(B9 _ _ _),fun h1=>have q1:=As h1;have p1:=Bf q1;?_,fun h1=>have q1:=Aq h1;have p1:=Bb q1;?_⟩
 exact⟨(congrArg S.v (congrArg V.c (congrArg (C.int .u64) (by simp[Cz, *])))),rfl⟩
 refine⟨(B9 _ _ _),fun h2=>have q2:=As h2;have p2:=Bf q2;?_,fun h2=>have q2:=Aq h2;have p2:=Bb q2;?_⟩
 exact⟨(congrArg S.v (congrArg V.c (congrArg (C.int .u64) (by simp[Cz, *])))),rfl⟩
 exact⟨(Ac Q2 Q2),(Ac Q2 Q2),(Bx Q2 Q2),(congrArg S.v (congrArg V.c (congrArg (C.int .u64) (by simp[Cz, *])))),rfl⟩
theorem Aju (u:Int) (hp1:(0:Int)≤u∧u≤18446744073709551615):Fun Tryz.prog 120 [.c (.int .u64 u)] [] (.tup [vI (By u),vI (Bk u),vB (Ky u)]) []:=by
 have hN:Bg=274877906944:=rfl
 refine Ap Tryz.func120 Q5 Q5 (w:=let z1:S:= .tup [vI (By u),vI (Bk u),vB (Ky u)];let z2:=(.v (.c (.int .u64 (Int.fdiv u (2 ^ 3)))):S)= .v (.c (.int .u64 (u / 8)));let z3:=Lf (.tup [vI 0,vI 0,vB false]) z1 [] [];(.br (.leaf () []) (.seg [.as 9 (.v (.c (.int .u64 (u / 8))))] (.br (.leaf () []) (.seg [.as 13 (.v (.c (.int .u64 (u / 8)))),.as 14 (.v (vI (u / 8))),.as 16 (.v (.c (.int .u64 (u % 8)))),.as 17 (.v (vI (u % 8)))] (.leaf () [])))),Bc (decide (u<8)) z3 (((0:Int)≤3)∧z2∧Bc (decide (536870911<u / 8)) z3 (((0:Int)≤3)∧z2∧(wI (u / 8))∧((.v (.c (.int .u64 (IntKind.u64.wrap (((BitVec.ofInt 64 u&&&BitVec.ofInt 64 7).toNat:Nat))))):S)= .v (.c (.int .u64 (u % 8))))∧(wI (u % 8))∧Lf (.tup [vI (u / 8),vI (u % 8),vB true]) z1 [] [])))) Q5 ?_
 refine dsp (fun h1 p1=>?_) fun h1 p1=>?_
 refine⟨(congrArg S.tup (Af (congrArg V.c (congrArg (C.int .i64) ?_)) (Af (congrArg V.c (congrArg (C.int .i64) ?_)) (Af (congrArg V.c (congrArg C.bool ?_)) rfl)))),rfl⟩
 rotate_left 3
 refine⟨Q21,(Uc (k:=3) Q21 Q21),dsp (fun h2 p2=>?_) fun h2 p2=>?_⟩
 refine⟨(congrArg S.tup (Af (congrArg V.c (congrArg (C.int .i64) ?_)) (Af (congrArg V.c (congrArg (C.int .i64) ?_)) (Af (congrArg V.c (congrArg C.bool ?_)) rfl)))),rfl⟩
 rotate_left 3
 refine⟨Q21,(Uc (k:=3) Q21 Q21),(Ac Q2 Q2),(Zx (k:=3) Q21 Q21),(Ac Q2 Q2),(congrArg S.tup (Af (congrArg V.c (congrArg (C.int .i64) ?_)) (Af (congrArg V.c (congrArg (C.int .i64) ?_)) (Af (congrArg V.c (congrArg C.bool ?_)) rfl)))),rfl⟩
 rotate_left 3
 all_goals first|((have ht:Ky u=true:=by (simp[Ky,Ak];omega));simp[By,Bk,ht])|((have ht:Ky u=false:=by (simp[Ky,Ak];omega));simp[By,Bk,ht])
theorem Ajv (u:Int) (hp1:(0:Int)≤u∧u≤18446744073709551615):Fun Tryz.prog 128 [.c (.int .u64 u)] [] (.tup [vI (By u),vI (Bk u),vB (Ky u)]) []:=by
 have hN:Bg=274877906944:=rfl
 refine Ap Tryz.func128 Q5 Q5 (w:=let z1:S:= .tup [vI (By u),vI (Bk u),vB (Ky u)];let z2:=Lf (.tup [vI 0,vI 0,vB false]) z1 [] [];(.br (.leaf () []) (.br (.leaf () []) (.seg [.as 12 (.v (.c (.int .u64 (u / 8)))),.as 13 (.v (vI (u / 8))),.as 15 (.v (.c (.int .u64 (u % 8)))),.as 16 (.v (vI (u % 8)))] (.leaf () []))),Bc (decide (u<8)) z2 (Bc (decide (4294967295<u)) z2 (((8:Int)≠0)∧((.v (.c (.int .u64 (IntKind.u64.wrap (Int.tdiv u 8)))):S)= .v (.c (.int .u64 (u / 8))))∧(wI (u / 8))∧((8:Int)≠0)∧((.v (.c (.int .u64 (Int.tmod u 8))):S)= .v (.c (.int .u64 (u % 8))))∧(wI (u % 8))∧Lf (.tup [vI (u / 8),vI (u % 8),vB true]) z1 [] [])))) Q5 ?_
 refine dsp (fun h1 p1=>?_) fun h1 p1=>?_
 refine⟨(congrArg S.tup (Af (congrArg V.c (congrArg (C.int .i64) ?_)) (Af (congrArg V.c (congrArg (C.int .i64) ?_)) (Af (congrArg V.c (congrArg C.bool ?_)) rfl)))),rfl⟩
 rotate_left 3
 refine dsp (fun h2 p2=>?_) fun h2 p2=>?_
 refine⟨(congrArg S.tup (Af (congrArg V.c (congrArg (C.int .i64) ?_)) (Af (congrArg V.c (congrArg (C.int .i64) ?_)) (Af (congrArg V.c (congrArg C.bool ?_)) rfl)))),rfl⟩
 rotate_left 3
 refine⟨Q21,(Uf Q2 Q2 Q21),(Ac Q2 Q2),Q21,(Xf Q2),(Ac Q2 Q2),(congrArg S.tup (Af (congrArg V.c (congrArg (C.int .i64) ?_)) (Af (congrArg V.c (congrArg (C.int .i64) ?_)) (Af (congrArg V.c (congrArg C.bool ?_)) rfl)))),rfl⟩
 rotate_left 3
 all_goals first|((have ht:Ky u=true:=by (simp[Ky,Ak];omega));simp[By,Bk,ht])|((have ht:Ky u=false:=by (simp[Ky,Ak];omega));simp[By,Bk,ht])
theorem Aew (c:Int) (a:Int):Fun Tryz.prog 157 [vI c,vI a] [] (.v (.agg (cEv (Bd c a)))) []:=by
 have hN:Bg=274877906944:=rfl
 refine Ap Tryz.func157 Q5 Q5 (w:=(.leaf () [],Lf (.v (.agg [.int .i64 10,.int .i64 0,.int .u64 0,.int .i64 0,.str [],.int .i64 c,.int .i64 a])) (.v (.agg (cEv (Bd c a)))) [] [])) Q5 ?_
 have hm1:Bd c a=(⟨10,0,0,0,[],c,a⟩:Ev):=by rfl
 exact⟨Q9,rfl⟩
theorem Dd (c:Int) (a:Int):Fun Tryz.prog 113 [vI c,vI a] [] (.v (.agg (cEv (Bd c a)))) []:=by
 have hN:Bg=274877906944:=rfl
 refine Ap Tryz.func113 Q5 Q5 (w:=(.leaf () [],Lf (.v (.agg [.int .i64 10,.int .i64 0,.int .u64 0,.int .i64 0,.str [],.int .i64 c,.int .i64 a])) (.v (.agg (cEv (Bd c a)))) [] [])) Q5 ?_
 have hm1:Bd c a=(⟨10,0,0,0,[],c,a⟩:Ev):=by rfl
 exact⟨Q9,rfl⟩
theorem Wf (f:Fld) (u:Int) (hp1:(0:Int)≤u):Fun Tryz.prog 126 [.agg (Ew f),.c (.int .u64 u)] [] (.v (.agg (cEv (D9 f u)))) []:=by
 have hN:Bg=274877906944:=rfl
 refine Ap Tryz.func126 Q5 Q5 (w:=let zi:Int→C:= .int .i64;let z1:List C:=[zi 2,zi f.number,.int .u64 u,zi 0,.str [],zi 0,zi 0];let z2:=Lf (.v (.agg z1)) (.v (.agg (cEv (D9 f u)))) [] [];(.br (.br (.leaf () []) (.leaf () [])) (.leaf () []),Bc (decide (f.kind=3)) (Bc (!decide (u=0)) (Lf (.v (.agg [zi 2,zi f.number,.int .u64 1,zi 0,.str [],zi 0,zi 0])) (.v (.agg (cEv (D9 f u)))) [] []) z2) z2)) Q5 ?_
 refine dsp (fun h1 p1=>?_) fun h1 p1=>?_
 refine⟨fun h2=>have q2:=As h2;have p2:=of_decide_eq_false q2;?_,fun h2=>have q2:=Aq h2;have p2:=of_decide_eq_true q2;?_⟩
 refine zE (D9 f u) (⟨2,f.number,1,0,[],0,0⟩:Ev) (fun hm1=>⟨Q9,rfl⟩) ?_
 rotate_left
 refine zE (D9 f u) (⟨2,f.number,u,0,[],0,0⟩:Ev) (fun hm1=>⟨Q9,rfl⟩) ?_
 rotate_left
 refine zE (D9 f u) (⟨2,f.number,u,0,[],0,0⟩:Ev) (fun hm1=>⟨Q9,rfl⟩) ?_
 rotate_left
 all_goals simp[D9, *]<;>omega
theorem Wg (f:Fld) (u:Int) (hp1:(0:Int)≤u):Fun Tryz.prog 195 [.agg (Ew f),.c (.int .u64 u)] [] (.v (.agg (cEv (D9 f u)))) []:=by
 have hN:Bg=274877906944:=rfl
 refine Ap Tryz.func195 Q5 Q5 (w:=let zi:Int→C:= .int .i64;let z1:List C:=[zi 2,zi f.number,.int .u64 u,zi 0,.str [],zi 0,zi 0];let z2:=Lf (.v (.agg z1)) (.v (.agg (cEv (D9 f u)))) [] [];(.br (.br (.leaf () []) (.leaf () [])) (.leaf () []),Bc (decide (f.kind=3)) (Bc (decide (1<u)) (Lf (.v (.agg [zi 2,zi f.number,.int .u64 1,zi 0,.str [],zi 0,zi 0])) (.v (.agg (cEv (D9 f u)))) [] []) z2) z2)) Q5 ?_
 refine dsp (fun h1 p1=>?_) fun h1 p1=>?_
 refine dsp (fun h2 p2=>?_) fun h2 p2=>?_
 refine zE (D9 f u) (⟨2,f.number,1,0,[],0,0⟩:Ev) (fun hm1=>⟨Q9,rfl⟩) ?_
 rotate_left
 refine zE (D9 f u) (⟨2,f.number,u,0,[],0,0⟩:Ev) (fun hm1=>⟨Q9,rfl⟩) ?_
 rotate_left
 refine zE (D9 f u) (⟨2,f.number,u,0,[],0,0⟩:Ev) (fun hm1=>⟨Q9,rfl⟩) ?_
 rotate_left
 all_goals simp[D9, *]<;>omega
theorem Aex (b:List UInt8) (hp1:b.length≤Bg):Fun Tryz.prog 55 [vT b] [] (.v (vT (Ng b))) []:=by
 have hN:Bg=274877906944:=rfl
 refine Ap Tryz.func55 Q5 Q5 (w:=let z1:=(b.length:Int);(.seg [.as 5 (.v (.c (.int .u64 z1))),.call [] (.v (vT (Dg z1))) []] (.leaf () []),(wU (z1))∧(Fp 107 [.c (.int .u64 z1)] [] (.v (vT (Dg z1))) [])∧(((List.length (Dg z1)+b.length:Nat):Int)≤A7)∧Lf (.v (vT ((Dg z1)++b))) (.v (vT (Ng b))) [] [])) Q5 ?_
 exact⟨(Bx Q2 Q2),(Qy _ Q2),(by have:=Aco (u:=(b.length:Int)) Q2;simp only[A7];omega),(congrArg S.v (congrArg V.c (congrArg C.str (by rfl)))),rfl⟩
end Go.Proofs.YtijacopaadmncaaGreat.Ax
