/- Models. Models: the machine. Models: the machine's steps. Models: bytes, F5 inputs. Numbers. Varints. Numbers of so Ap6 bytes; tags. Utf-8. -/
import Derived.Test.YtphecbmdhbphgaaGreatKB4
set_option linter.unusedSimpArgs false
set_option linter.unusedVariables false
namespace Go.Proofs.YtphecbmdhbphgaaGreat.Ax
open Go.RowKit
theorem Ac {α:Type} {a b:α} {l m:List α} (h:a=b) (t:l=m):a::l=b::m:=by rw[h,t]
def vI (x:Int):V:= .c (.int .i64 x)
def vB (x:Bool):V:= .c (.bool x)
def vT (x:List UInt8):V:= .c (.str x)
def vO (j:Nat):V:= .c (.own j)
def vP (j:Nat):V:= .c (.ptr j 0)
theorem sB {a b:Bool} (h:a=b):(.v (.c (.bool a)):S)= .v (.c (.bool b)):=by rw[h]
theorem sI {a b:Int} (h:a=b):(.v (.c (.int .i64 a)):S)= .v (.c (.int .i64 b)):=by rw[h]
theorem dT {p:Prop} [Decidable p]:decide p=true↔p:=decide_eq_true_iff
theorem dF {p:Prop} [Decidable p]:decide p=false↔¬p:=decide_eq_false_iff_not
theorem Da {a b:Bool} {P Q:Prop} (h:a=true↔P) (g:b=true↔Q):(a&&b)=true↔P∧Q:=by rw[Bool.and_eq_true,h,g]
theorem Db {a b:Bool} {P Q:Prop} (h:a=true↔P) (g:b=false↔Q):(a&&b)=false↔(P→Q):=by rw[Bool.and_eq_false_imp,h,g]
theorem Cm {F:Fam} {j:F.ι} {tm:List (Nat×S)} {H:List Blk} (h1:tm=F.tm j) (h2:H=F.H j) (h:F.inv j):F.Has tm H:=⟨j,h,h1,h2⟩
theorem Be {F:Fam} {i j:F.ι} {tm:List (Nat×S)} {H:List Blk} (h1:tm=F.tm j) (h2:H=F.H j) (h:F.inv j) (hm:F.mu j<F.mu i):F.Nxt i tm H:=⟨j,⟨h,hm⟩,h1,h2⟩
abbrev In {α:Type} (P Q:α→Prop):Prop:=(∃o,P o)∧∀o,P o→Q o
theorem Av {P : Program} {f : FuncId} {fn : Func} (hf : P.funcs[f]? = some fn) (hb : fn.body.isNone = false) (hn : (fn.name == "runtime.NumGoroutine") = false) {args : List V} {L L' : List Blk} {r : S} {w : DT Unit × Prop}
  (hw:Ado P fn args L w.1 (fun _ r' Lp=>r'=r∧Lp=L')=w.2) (h:w.2):Fun P f args L r L':=Aod hf hb hn hw h
theorem B4 {P : Program} {ι : Type} {f : FuncId} {fn : Func} (hf : P.funcs[f]? = some fn) (hb : fn.body.isNone = false) (hn : (fn.name == "runtime.NumGoroutine") = false) {args : List V} {L : List Blk} {L' : ι → List Blk} {r : ι → S} {good : ι → Prop} {w : DT ι × Prop}
  (hw:Ado P fn args L w.1 (fun i r' Lp=>good i∧r'=r i∧Lp=L' i)=w.2) (h:w.2): ∃i,good i∧Fun P f args L (r i) (L' i):=Amm hf hb hn hw h
abbrev Bc (p:Bool) (A B:Prop):Prop:=(p=true→A)∧(p=false→B)
abbrev Lf (a b:S) (x y:List Blk):Prop:=a=b∧x=y
abbrev Sx {α:Type} (o:Option α):α→Prop:=fun x=>o=some x
abbrev El {α:Type} (o:Option α) (Q:α→Prop):Prop:=(∃x,o=some x)∧∀x,o=some x→Q x
abbrev wI (x:Int):Prop:=(.v (vI (IntKind.i64.wrap x)):S)= .v (vI x)
abbrev wU (x:Int):Prop:=(.v (.c (.int .u64 (IntKind.u64.wrap x))):S)= .v (.c (.int .u64 x))
abbrev Fp:=Fun Tryz.prog
theorem zE {β:Type} {p:Prop} (a b:β) (h:a=b→p) (h1:a=b):p:=h h1
theorem zD {β γ:Type} {p:Prop} (a b:β) (c d:γ) (h:a=b→c=d→p) (h1:a=b) (h2:c=d):p:=h h1 h2
theorem zM {α β γ:Type} {p:Prop} (f:α→β) (g:α→γ) (m x:α) (h:f m=f x→g m=g x→p) (h1:f m=f x) (h2:g m=g x):p:=h h1 h2
theorem dsp {p:Prop} [Decidable p] {A B:Prop} (h1:decide p=true→p→A) (h2:decide p=false→¬p→B):(decide p=true→A)∧(decide p=false→B):=⟨fun h=>h1 h (of_decide_eq_true h),fun h=>h2 h (of_decide_eq_false h)⟩
/-! ### Structures -/
structure Scn where
 bits:Int
 have_:Int
 deriving DecidableEq,Inhabited
structure Utf where
 want:Int
 low:Int
 high:Int
 deriving DecidableEq,Inhabited
structure Pln where
 shapes:List Shp
 root:Int
 deep:Int
 most:Int
 deriving DecidableEq,Inhabited
structure Dcd where
 plan:Pln
 mode:Int
 stack:List Lev
 scan:Scn
 start:Int
 at_:Int
 field:Fld
 wire:Int
 want:Int
 utf:Utf
 end_:Ev
 deriving DecidableEq,Inhabited
def fld0:Fld:=⟨0,0,false,false,0⟩
def ev0:Ev:=⟨0,0,0,0,[],0,0⟩
def utf0:Utf:=⟨0,0,0⟩
def scn0:Scn:=⟨0,0⟩
theorem Ef {α:Type} {l:List α} {i:Nat} {x:α} (h:l[i]? =some x):l.drop i=x::l.drop (i+1):=by
 have hl:=(List.getElem?_eq_some_iff.1 h).1
 rw[List.drop_eq_getElem_cons hl]
 congr 1
 rw[List.getElem?_eq_getElem hl] at h
 exact Option.some.inj h
theorem Aq {b:Bool} (h:(!b)=true):b=false:=by cases b<;>simp_all
theorem Ao {b:Bool} (h:(!b)=false):b=true:=by cases b<;>simp_all
theorem U9 {α:Type} {l:List α} {i:Nat} {x d:α} (h:l[i]? =some x):l.getD i d=x:=by simp[List.getD,h]
theorem Kt {α:Type} {l:List α} {i:Nat} (h: ¬((i:Nat):Int)<((l.length:Nat):Int)):l.drop i=[]:=List.drop_eq_nil_of_le (by omega)
/-! ### Words of numbers -/
theorem Ye {k:IntKind} {a m:Int} (h:0≤a):(.v (.c (.int k (Int.tmod a m))):S)= .v (.c (.int k (a % m))):=by rw[Int.tmod_eq_emod_of_nonneg h]
theorem Va {a m:Int} (h:0≤a) (h2:a≤18446744073709551615) (hm:0<m):(.v (.c (.int .u64 (IntKind.u64.wrap (Int.tdiv a m)))):S)= .v (.c (.int .u64 (a / m))):=by
 rw[Int.tdiv_eq_ediv_of_nonneg h]
 have h3:=Int.ediv_nonneg h (Int.le_of_lt hm)
 have h4:=Int.ediv_le_self m h
 exact Bs Q2 Q2
theorem Aof {a b:Int} {k:Nat} (ha:0≤a) (hk:a<2 ^ k) {c:Int} (hc:0≤c) (hb:b=c*2 ^ k) (hs:b+2 ^ k≤18446744073709551616):(((BitVec.ofInt 64 a|||BitVec.ofInt 64 b).toNat:Nat):Int)=a+b:=by
 obtain ⟨n,rfl⟩:=Int.eq_ofNat_of_zero_le ha
 obtain ⟨m,rfl⟩:=Int.eq_ofNat_of_zero_le hc
 have hb':b=((m*2 ^ k:Nat):Int):=by rw[hb,Int.natCast_mul,Int.natCast_pow];rfl
 have hp:(0:Int)<2 ^ k:=Int.pow_pos (by decide)
 subst hb'
 have e:((2 ^ k:Nat):Int)=2 ^ k:=by rw[Int.natCast_pow];rfl
 rw[←e] at hk hs hp
 have h1:n<2 ^ k:=by omega
 have h2:m*2 ^ k+2 ^ k≤18446744073709551616:=by omega
 have h3:n<2 ^ 64:=by omega
 have h4:m*2 ^ k<2 ^ 64:=by omega
 rw[BitVec.toNat_or,BitVec.ofInt_natCast,BitVec.ofInt_natCast,BitVec.toNat_ofNat,BitVec.toNat_ofNat,Nat.mod_eq_of_lt h3,Nat.mod_eq_of_lt h4,Nat.or_comm,Nat.mul_comm m,←Nat.two_pow_add_eq_or_of_lt h1]
 rw[Nat.mul_comm,Int.natCast_add,Int.add_comm]
/-! ### Kinds, wires, numbers -/
def Dd (n:Int):Bool:=Ai n 1 536870911&& !Ai n 19000 19999
def De (w:Int):Bool:=decide (w=0)||decide (w=1)||decide (w=2)||decide (w=5)
def Dy (k:Int):Bool:=Ai k 1 8
def Cf (k:Int):Bool:=Ai k 1 5
def Ba (k:Int):Int:=if Dy k then (if k=4 then 5 else if k=5 then 1 else if k≤3 then 0 else 2) else-1
def Ak (w:Int):Int:=if w=1 then 8 else if w=5 then 4 else 0
def Vb (f:Fld):Bool:=f.rep&&Cf f.kind
def Dt (f:Fld) (w:Int):Bool:=decide (w=Ba f.kind)||(decide (w=2)&&Vb f)
def Fx (k:Int):Bool:=decide (k=2)||decide (k=3)||decide (k=6)
theorem Dh (w:Int):0≤Ak w∧Ak w≤8:=by unfold Ak;split<;>(try split)<;>omega
def H5 (f:Fld) (n:Int):Bool:=Dd f.number&&Dy f.kind&& !(f.packed&&(!f.rep|| !Cf f.kind))&&(if f.kind=8 then Ai f.msg 0 (n-1) else decide (f.msg= -1))
def Cz (n:Int):Int→List Fld→Bool
 |_,[]=>true
 |b,f::r=>decide (b<f.number)&&H5 f n&&Cz n f.number r
def D7 (n:Int):Int→List Shp→Bool
 |_,[]=>true
 |b,x::r=>decide (b<x.id)&&decide (x.id≤99)&&decide ((x.fields.length:Int)≤8)&&Cz n 0 x.fields&&D7 n x.id r
def C3 (l:List Shp):Bool:=decide ((l.length:Int)≤6)&&D7 (l.length:Int) 0 l
def Gi (l:List Fld) (n:Int):Option Fld:=l.find? fun f=>decide (f.number=n)
def Ap5:Shp:=⟨0,[]⟩
def fieldAt (l:List Shp) (s n:Int):Option Fld:=if Ai s 0 ((l.length:Int)-1) then Gi (l.getD s.toNat Ap5).fields n else none
def B1 (p:Pln):Bool:=C3 p.shapes&&Ai p.root 0 ((p.shapes.length:Int)-1)&&Ai p.deep 1 8&&Ai p.most 0 2000
theorem Yf {f:Fld} {n:Int} (h:H5 f n=true):1≤f.number∧f.number≤536870911∧1≤f.kind∧f.kind≤8∧(f.kind=8→0≤f.msg∧f.msg≤n-1)∧(f.kind≠8→f.msg= -1):=by
 simp only[H5,Dd,Dy,Ai,Bool.and_eq_true,decide_eq_true_eq] at h
 obtain ⟨⟨⟨h1,h2⟩,h3⟩,h4⟩:=h
 refine⟨h1.1.1,h1.1.2,h2.1,h2.2,fun hk=>?_,fun hk=>?_⟩
 ·rw[if_pos hk] at h4;simpa using h4
 ·rw[if_neg hk] at h4;simpa using h4
theorem So {l:List Shp} (h:C3 l=true):l.length≤6:=by
 simp only[C3,Bool.and_eq_true,decide_eq_true_eq] at h;omega
theorem Cd {p:Pln} (h:B1 p=true):p.shapes.length≤6∧C3 p.shapes=true∧0≤p.root∧p.root<(p.shapes.length:Int)∧1≤p.deep∧p.deep≤8∧0≤p.most∧p.most≤2000:=by
 simp only[B1,Ai,Bool.and_eq_true,decide_eq_true_eq] at h
 have:=So h.1.1.1
 refine⟨this,h.1.1.1,?_⟩;omega
theorem Ts {n:Int} : ∀ {b:Int} {l:List Fld},Cz n b l=true→∀f∈l,H5 f n=true∧b<f.number
 |_,[],_,f,hf=>by cases hf
 |b,g::r,h,f,hf=>by
  simp only[Cz,Bool.and_eq_true,decide_eq_true_eq] at h
  rcases List.mem_cons.1 hf with rfl|hf
  ·exact⟨h.1.2,h.1.1⟩
  ·have:=Ts h.2 f hf;exact⟨this.1,by omega⟩
theorem N9 {n:Int} : ∀ {b:Int} {l:List Shp},D7 n b l=true→∀x∈l,(x.fields.length≤8∧Cz n 0 x.fields=true)∧b<x.id∧x.id≤99
 |_,[],_,f,hf=>by cases hf
 |b,g::r,h,f,hf=>by
  simp only[D7,Bool.and_eq_true,decide_eq_true_eq] at h
  rcases List.mem_cons.1 hf with rfl|hf
  ·exact⟨⟨by omega,h.1.2⟩,h.1.1.1.1,h.1.1.1.2⟩
  ·have:=N9 h.2 f hf;exact⟨this.1,by omega,this.2.2⟩
theorem Fh {l:List Shp} (h:C3 l=true): ∀x∈l,List.length x.fields≤1000:=fun x hx=>by
 simp only[C3,Bool.and_eq_true] at h
 have:=(N9 h.2 x hx).1.1
 omega
theorem Sp {l:List Shp} {s n:Int} {f:Fld} (hl:C3 l=true) (h:fieldAt l s n=some f):H5 f (l.length:Int)=true∧f.number=n:=by
 unfold fieldAt at h
 split at h
 ·rename_i hs
  have hs:=Aw hs
  simp only[C3,Bool.and_eq_true,decide_eq_true_eq] at hl
  have hm:l.getD s.toNat Ap5∈l:=by
   rw[List.getD_eq_getElem?_getD,List.getElem?_eq_getElem (by omega)]
   exact List.getElem_mem _
  have hx:=(N9 hl.2 _ hm).1.2
  have hf:=List.mem_of_find?_eq_some h
  have hp:=List.find?_some h
  exact⟨(Ts hx f hf).1,by simpa using hp⟩
 ·cases h
/-! ### Tags -/
def Ct (n w:Int):Int:=if Ai n 1 536870911&&Ai w 0 7 then 8*n+w else 0
def Kp (u:Int):Bool:=Ai u 8 4294967295
def Bi (u:Int):Int:=if Kp u then u / 8 else 0
def Ah (u:Int):Int:=if Kp u then u % 8 else 0
theorem Bf (n w:Int):0≤Ct n w∧Ct n w≤4294967295:=by
 unfold Ct Ai;split<;>simp_all<;>omega
/-! ### Utf-8 -/
def Nt (u:Utf) (w l h:Int):Bool:=decide (u.want=w)&&(decide (u.low=l)&&decide (u.high=h))
def Ek (u:Utf):Bool:=Nt u 0 0 0||Nt u 1 128 191||Nt u 2 128 191||Nt u 3 128 191||Nt u 2 160 191||Nt u 2 128 159||Nt u 3 144 191||Nt u 3 128 143
theorem Aa8 {u:Utf} (h:Ek u=true):(u.want=0∧u.low=0∧u.high=0)∨(u.want=1∧u.low=128∧u.high=191)∨(u.want=2∧u.low=128∧u.high=191)∨(u.want=3∧u.low=128∧u.high=191)∨(u.want=2∧u.low=160∧u.high=191)∨(u.want=2∧u.low=128∧u.high=159)∨(u.want=3∧u.low=144∧u.high=191)∨(u.want=3∧u.low=128∧u.high=143):=by
 simp only[Ek,Nt,Bool.or_eq_true,Bool.and_eq_true,decide_eq_true_eq] at h
 rcases h with ((((((h|h)|h)|h)|h)|h)|h)|h<;>simp[h]
theorem Sq {u:Utf} (h:Ek u=true) (h0:u.want=0):u=utf0:=by
 rcases Aa8 h with h|h|h|h|h|h|h|h<;>first|(cases u;simp_all[utf0];done)|omega
theorem Ju {u:Utf} (h:Ek u=true):0≤u.want∧u.want≤3:=by
 rcases Aa8 h with h|h|h|h|h|h|h|h<;>omega
def A8 (b:Int):Option Utf:=
 if Ai b 0 127 then some utf0
 else if Ai b 194 223 then some ⟨1,128,191⟩
 else if Ai b 224 239 then some ⟨2,if b=224 then 160 else 128,if b=237 then 159 else 191⟩
 else if Ai b 240 244 then some ⟨3,if b=240 then 144 else 128,if b=244 then 143 else 191⟩
 else none
def By (u:Utf) (b:Int):Option Utf:=
 if Ek u then (if u.want=0 then A8 b else if Ai b u.low u.high then some (if u.want=1 then utf0 else ⟨u.want-1,128,191⟩) else none) else none
def D8:Utf→List UInt8→Nat→Utf×Option Nat
 |u,[],_=>(u,none)
 |u,b::r,i=>match By u (b.toNat:Int) with
  |some v=>D8 v r (i+1)
  |none=>(u,some i)
def Sr (u:Utf) (s:List UInt8):Utf:=(D8 u s 0).1
def Fi (u:Utf) (s:List UInt8):Int:=match (D8 u s 0).2 with
 |some i=>(i:Int)
 |none=> -1
/-! ### Varints -/
def Mo (u:Nat):List UInt8:=if h:u<128 then [UInt8.ofNat u] else UInt8.ofNat (u % 128+128)::Mo (u / 128)
termination_by u
decreasing_by omega
def Dz (u:Int):List UInt8:=Mo u.toNat
def Ku (u:Int):Int:=((Dz u).length:Int)
theorem Mp {u:Nat} (h:u<128):Mo u=[UInt8.ofNat u]:=by rw[Mo,dif_pos h]
theorem Qr {u:Nat} (h: ¬u<128):Mo u=UInt8.ofNat (u % 128+128)::Mo (u / 128):=by rw[Mo,dif_neg h]
theorem Vc: ∀(k u:Nat),u<128 ^ k→1≤k→(Mo u).length≤k
 |0,_,_,h=>by omega
 |k+1,u,h,_=>by
  by_cases hu:u<128
  ·rw[Mp hu];simp
  ·rw[Qr hu]
   have hk:1≤k:=by
    rcases k with _|k
    ·simp at h;omega
    ·omega
   have:=Vc k (u / 128) (by rw[Nat.pow_succ] at h;exact Nat.div_lt_of_lt_mul (by rw[Nat.mul_comm];exact h)) hk
   simp;omega
theorem Vd (u:Nat):1≤(Mo u).length:=by
 by_cases hu:u<128
 ·rw[Mp hu];simp
 ·rw[Qr hu];simp
theorem Zo {u:Int} (h0:0≤u) (h:u≤127):Dz u=[UInt8.ofNat u.toNat]:=Mp (by omega)
theorem W1 {u:Int} (h0:0≤u) (h:127<u):Dz u=UInt8.ofNat (u % 128+128).toNat::Dz (u / 128):=by
 unfold Dz
 rw[Qr (by omega),show (u / 128).toNat=u.toNat / 128 by omega,show (u % 128+128).toNat=u.toNat % 128+128 by omega]
theorem W3 (u:Int):1≤(Dz u).length:=Vd _
theorem Acd {u:Int} (h:u≤18446744073709551615):1≤Ku u∧Ku u≤10:=by
 have h1:=Vd u.toNat
 have h2:=Vc 10 u.toNat (by omega) (by omega)
 unfold Ku Dz;omega
def vwA (s:List UInt8) (at_ end_:Int):Nat→Int→Int→Int×Int×Int
 |0,_,_=>(0,(s.length:Int),10)
 |f+1,k,u=>
  if end_≤at_+k then (0,end_,9)
  else if (s.length:Int)≤at_+k then (0,(s.length:Int),10)
  else if k=9∧1<((s.getD (at_+k).toNat 0).toNat:Int) then (0,at_+k,1)
  else if ((s.getD (at_+k).toNat 0).toNat:Int)<128 then (u+((s.getD (at_+k).toNat 0).toNat:Int) % 128*2 ^ (7*k).toNat,at_+k+1,0)
  else vwA s at_ end_ f (k+1) (u+((s.getD (at_+k).toNat 0).toNat:Int) % 128*2 ^ (7*k).toNat)
def Ae (s:List UInt8) (at_ end_:Int):Int×Int×Int:=if Ai at_ 0 (s.length:Int) then vwA s at_ end_ 10 0 0 else (0,(s.length:Int),10)
theorem Af5 {c:Int} {k:Nat} (hk:k≤9) (h0:0≤c) (h1:c≤127) (h9:k=9→c≤1):0≤c*2 ^ (7*k)∧c*2 ^ (7*k)+2 ^ (7*k)≤18446744073709551616∧(0:Int)<2 ^ (7*k)∧c*2 ^ (7*k)+2 ^ (7*k)≤2 ^ (7*(k+1)):=by
 rcases (show k=0∨k=1∨k=2∨k=3∨k=4∨k=5∨k=6∨k=7∨k=8∨k=9 by omega) with rfl|rfl|rfl|rfl|rfl|rfl|rfl|rfl|rfl|rfl<;>simp at * <;>omega
theorem Zp {c:Int} {k:Nat} (hk:k≤9) (h0:0≤c) (h1:c≤127) (h9:k=9→c≤1):(.v (.c (.int .u64 (IntKind.u64.wrap (c*2 ^ min (Int.toNat (7*((k:Nat):Int))) 64)))):S)= .v (.c (.int .u64 (c*2 ^ (7*k)))):=by
 have h:=Af5 hk h0 h1 h9
 rw[show min (Int.toNat (7*((k:Nat):Int))) 64=7*k by omega]
 exact Bs Q2 Q2
theorem Aog {s:List UInt8} {a e:Int} : ∀(f k:Nat) (u:Int),k≤9→10≤f+k→0≤u→u<2 ^ (7*k)→0≤(vwA s a e f k u).1∧(vwA s a e f k u).1≤18446744073709551615
 |0,k,u,_,_,_,_=>by simp[vwA]
 |f+1,k,u,hk,hf,h0,h1=>by
  rw[vwA]
  have hb:=UInt8.toNat_lt (s.getD (a+(k:Int)).toNat 0)
  split
  ·simp
  split
  ·simp
  split
  ·simp
  rename_i h9
  have h9':k=9→¬(1<((s.getD (a+(k:Int)).toNat 0).toNat:Int)):=fun h hh=>h9 ⟨by omega,hh⟩
  have e7:((7*(k:Int)).toNat)=7*k:=by omega
  have hv:=Af5 (c:=((s.getD (a+(k:Int)).toNat 0).toNat:Int) % 128) (k:=k) (by omega) (by omega) (by omega) (by intro h;have:=h9' h;omega)
  split
  ·rw[e7];dsimp only;omega
  ·rename_i h128
   have hk8:k≠9:=fun h=>by have:=h9' h;omega
   rw[e7,show (k:Int)+1=((k+1:Nat):Int) by simp]
   exact Aog f (k+1) _ Q2 Q2 Q2 Q2
theorem J5 (s:List UInt8) (a e:Int):0≤(Ae s a e).1∧(Ae s a e).1≤18446744073709551615:=by
 unfold Ae
 split
 ·exact Aog 10 0 0 (by omega) (by omega) (by omega) (by decide)
 ·simp
/-! ### Numbers of so Ap6 bytes -/
def Qs (w:Int):Bool:=decide (w=4)||decide (w=8)
def Cg:List UInt8→Nat
 |[]=>0
 |b::r=>b.toNat+256*Cg r
def Dx (s:List UInt8) (at_ w:Int):Bool:=Qs w&&Ai at_ 0 ((s.length:Int)-w)
def Ln (s:List UInt8) (at_ w:Int):Int:=if Dx s at_ w then (Cg ((s.drop at_.toNat).take w.toNat):Int) else 0
theorem Tt: ∀(l:List UInt8) (b:UInt8),Cg (l++[b])=Cg l+b.toNat*2 ^ (8*l.length)
 |[],b=>by simp[Cg]
 |a::l,b=>by
  simp only[List.cons_append,Cg,Tt l b,List.length_cons]
  rw[show 8*(l.length+1)=8*l.length+8 by omega,Nat.pow_add,←Nat.mul_assoc]
  omega
theorem Ss: ∀(l:List UInt8),Cg l<2 ^ (8*l.length)
 |[]=>by simp[Cg]
 |a::l=>by
  have:=Ss l
  have:=UInt8.toNat_lt a
  simp only[Cg,List.length_cons]
  rw[show 8*(l.length+1)=8*l.length+8 by omega,Nat.pow_add]
  omega
theorem Pt {l:List UInt8} {k:Nat} (h:l.length≤k):Cg l<2 ^ (8*k):=Nat.lt_of_lt_of_le (Ss l) (Nat.pow_le_pow_right (by decide) (by omega))
theorem Af6 {α:Type} {l:List α} {a i:Nat} {x:α} (h:l[a+i]? =some x):(l.drop a).take (i+1)=(l.drop a).take i++[x]:=by
 have h':(l.drop a)[i]? =some x:=by rw[List.getElem?_drop];exact h
 obtain ⟨hl,hx⟩:=List.getElem?_eq_some_iff.1 h'
 rw[List.take_succ_eq_append_getElem hl,hx]
theorem Aoh {c:Int} {k:Nat} (hk:k≤7) (h0:0≤c) (h1:c≤255):0≤c*2 ^ (8*k)∧c*2 ^ (8*k)+2 ^ (8*k)≤18446744073709551616∧(0:Int)<2 ^ (8*k):=by
 rcases (show k=0∨k=1∨k=2∨k=3∨k=4∨k=5∨k=6∨k=7 by omega) with rfl|rfl|rfl|rfl|rfl|rfl|rfl|rfl<;>simp at * <;>omega
theorem Af7 {w:Int} (h:Qs w=true):w=4∨w=8:=by simpa [Qs] using h
def Bh (c a:Int):Ev:=⟨10,0,0,0,[],c,a⟩
def Ez (f:Fld) (u:Int):Ev:=⟨2,f.number,if f.kind=3∧u≠0 then 1 else u,0,[],0,0⟩
theorem Tu {f:Fld} {l:List Fld} {n:Int} :Gi (f::l) n=if f.number=n then some f else Gi l n:=by
 unfold Gi;rw[List.find?_cons];by_cases h:f.number=n<;>simp[h]
theorem W4 {l:List Shp} {s n:Int} {x:Shp} (hs:Ai s 0 ((l.length:Int)-1)=true) (hx:l[s.toNat]? =some x):fieldAt l s n=Gi x.fields n:=by
 rw[fieldAt,if_pos hs,U9 hx]
def Ap6 (l:List Ev) (k:Int):Int:=((l.filter fun e=>decide (e.kind=k)).length:Int)
structure Fa where
 stack:List Int
 inText:Bool
 isText:Bool
 utf:Utf
 ended:Bool
 deriving Inhabited
structure Fmr where
 plan:Pln
 st:Fa
structure Fs where
 stack:List Int
 field:Fld
 open_:Bool
 utf:Utf
 ended:Bool
def Gj (k:Int):Bool:=decide (k=6)||decide (k=7)
theorem Aa9 {b:Int} {u:Utf} (h:A8 b=some u):Ek u=true:=by
 unfold A8 at h
 repeat' split at h
 all_goals first|(cases h;done)|(cases h;first|decide|(exfalso;omega)|(simp only[Ek,Nt];simp_all;done)|(simp only[Ek,Nt];simp_all;omega))
theorem W5 {u v:Utf} {b:Int} (h:By u b=some v):Ek v=true:=by
 unfold By at h
 split at h
 ·rename_i hu
  have hw:=Ju hu
  split at h
  ·exact Aa9 h
  ·split at h
   ·split at h
    ·cases h;decide
    ·cases h
     rcases Aa8 hu with h|h|h|h|h|h|h|h<;>simp_all[Ek,Nt]
   ·cases h
 ·cases h
theorem Ve: ∀ {u:Utf} {s:List UInt8} {i:Nat},Ek u=true→Ek (D8 u s i).1=true
 |u,[],i,h=>h
 |u,b::r,i,h=>by
  unfold D8
  split
  ·rename_i v hv;exact Ve (W5 hv)
  ·exact h
theorem Ace {u:Utf} {s:List UInt8} (h:Ek u=true):Ek (Sr u s)=true:=Ve h
def cEv (x:Ev):List C:=[.int .i64 x.kind,.int .i64 x.field,.int .u64 x.bits,.int .i64 x.len,.str x.text,.int .i64 x.code,.int .i64 x.at_]
def Fv (x:Fld):List C:=[.int .i64 x.number,.int .i64 x.kind,.bool x.rep,.bool x.packed,.int .i64 x.msg]
def Apj (x:Shp):List C:=[.int .i64 x.id,.seq .fld x.fields]
def Apk (x:Lev):List C:=[.int .i64 x.msg,.int .i64 x.left]
def Zq (x:Scn):List C:=[.int .u64 x.bits,.int .i64 x.have_]
def Pa (x:Utf):List C:=[.int .i64 x.want,.int .i64 x.low,.int .i64 x.high]
def Gw (x:Pln):List C:=[.seq .shp x.shapes,.int .i64 x.root,.int .i64 x.deep,.int .i64 x.most]
def C4 (x:Dcd):List C:=[.seq .shp x.plan.shapes,.int .i64 x.plan.root,.int .i64 x.plan.deep,.int .i64 x.plan.most,.int .i64 x.mode,.seq .lev x.stack,.int .u64 x.scan.bits,.int .i64 x.scan.have_,.int .i64 x.start,.int .i64 x.at_,.int .i64 x.field.number,.int .i64 x.field.kind,.bool x.field.rep,.bool x.field.packed,.int .i64 x.field.msg,.int .i64 x.wire,.int .i64 x.want,.int .i64 x.utf.want,.int .i64 x.utf.low,.int .i64 x.utf.high,.int .i64 x.end_.kind,.int .i64 x.end_.field,.int .u64 x.end_.bits,.int .i64 x.end_.len,.str x.end_.text,.int .i64 x.end_.code,.int .i64 x.end_.at_]
def C6 (j0:Nat) (j5:Nat) (x:Dcd):List C:=[.own j0,.int .i64 x.plan.root,.int .i64 x.plan.deep,.int .i64 x.plan.most,.int .i64 x.mode,.own j5,.int .u64 x.scan.bits,.int .i64 x.scan.have_,.int .i64 x.start,.int .i64 x.at_,.int .i64 x.field.number,.int .i64 x.field.kind,.bool x.field.rep,.bool x.field.packed,.int .i64 x.field.msg,.int .i64 x.wire,.int .i64 x.want,.int .i64 x.utf.want,.int .i64 x.utf.low,.int .i64 x.utf.high,.int .i64 x.end_.kind,.int .i64 x.end_.field,.int .u64 x.end_.bits,.int .i64 x.end_.len,.str x.end_.text,.int .i64 x.end_.code,.int .i64 x.end_.at_]
def Ads (j0:Nat) (x:Pln):List C:=[.own j0,.int .i64 x.root,.int .i64 x.deep,.int .i64 x.most]
abbrev L2 (d:Dcd):List Blk:=[.tree d.plan.shapes,.lst .lev d.stack]
abbrev Ls (d:Dcd) (o:List Ev):List Blk:=[.tree d.plan.shapes,.lst .lev d.stack,.lst .ev o]
def Aps:Lev:=⟨0,0⟩
def Ec (d:Dcd):Int:=(d.stack.getD (d.stack.length-1) Aps).left
def Hn (n:Int) (l:Lev):Bool:=Ai l.msg 0 (n-1)&&Ai l.left 0 2000
def Bt (d:Dcd):Bool:=B1 d.plan&&decide ((d.stack.length:Int)≤d.plan.deep)&&d.stack.all (Hn (d.plan.shapes.length:Int))
def Af8 (n:Int):List Lev→Nat
 |[]=>0
 |l::r=>if Hn n l then Af8 n r+1 else 0
theorem Zr {n:Int} {l:Lev} {r:List Lev} :Af8 n (l::r)=if Hn n l then Af8 n r+1 else 0:=rfl
theorem Yg (n:Int): ∀l:List Lev,l.all (Hn n)=decide (Af8 n l=l.length)
 |[]=>rfl
 |l::r=>by
  rw[List.all_cons,Yg n r,Zr]
  cases h:Hn n l with
  |true=>rw[if_pos rfl];simp
  |false=>rw[if_neg (by simp)];simp
def Kv (n:Int) (l:List Lev):Int:=if Af8 n l=l.length then-1 else (Af8 n l:Int)
def E1 (s:Scn):Bool:=Ai s.have_ 0 9&&decide (Int.fdiv s.bits (2 ^ min (Int.toNat (7*s.have_)) 64)=0)
def Bv (d:Dcd):Int:=if d.mode=5 then Ak d.wire else if d.mode=8 then Ak (Ba d.field.kind) else 0
def St (d:Dcd):Int:=if d.mode=8 then d.want else Ec d
def J6 (d:Dcd):Bool:=if 0<Bv d then Ai d.scan.have_ 0 (Bv d-1)&&decide (Int.fdiv d.scan.bits (2 ^ min (Int.toNat (8*d.scan.have_)) 64)=0)&&decide (Bv d-d.scan.have_≤St d)
 else if d.mode=6∨d.mode=7∨d.mode=9 then decide (d.scan=scn0) else E1 d.scan
def Nu (d:Dcd):Bool:=if d.mode=6∨d.mode=7∨d.mode=8 then Ai d.want 1 (Ec d) else decide (d.want=0)
def Amp (d:Dcd):Bool:=decide (d.field=fld0)||Dt d.field d.wire
def Jh (d:Dcd):Bool:=if d.mode=6 then Gj d.field.kind else if d.mode=8 then Vb d.field else if d.mode=3 then decide (d.wire=0)&&Amp d else if d.mode=4 then decide (d.wire=2)&&Amp d else if d.mode=5 then decide (0<Ak d.wire)&&Amp d else true
def H6 (l:List Shp) (f:Fld):Nat→Bool
 |0=>false
 |k+1=>H6 l f k||decide (fieldAt l (k:Int) f.number=some f)
def known (l:List Shp) (f:Fld):Bool:=H6 l f l.length
def Qt (k:Int):Bool:=Ai k 1 10
def Fc (e:Ev):Ev:=⟨e.kind,if e.kind=2∨e.kind=3∨e.kind=6 then e.field else 0,if e.kind=2 then e.bits else 0,if e.kind=1∨e.kind=3∨e.kind=6 then e.len else 0,if e.kind=4 then e.text else [],if e.kind=10 then e.code else 0,if e.kind=9∨e.kind=10 then e.at_ else 0⟩
def W6 (e:Ev):Bool:=decide (e=Fc e)
def Mq (e:Ev):Bool:=Qt e.kind&&W6 e&&decide (0≤e.len)&&decide (0≤e.at_)&&(if Fx e.kind then Ai e.field 1 536870911 else if e.kind=4 then !decide (e.text=[]) else if e.kind=10 then decide (1≤e.code) else true)
def Hw (e:Ev):Bool:=decide (e.kind=9)||decide (e.kind=10)
def Aez (d:Dcd):Bool:=if d.mode=9 then Mq d.end_&&Hw d.end_ else decide (d.end_=ev0)
def Kw (d:Dcd):Bool:=if d.mode=1 then decide (d.stack=[]) else if d.mode=9 then true else decide (1≤Ec d)
def Ce (d:Dcd):Bool:=Bt d&&Ai d.mode 1 9&&Ai d.at_ 0 1000000000&&Ai d.start 0 d.at_&&Ek d.utf&&De d.wire&&(decide (d.field=fld0)||known d.plan.shapes d.field)&&Aez d&&Kw d&&Nu d&&Jh d&&J6 d
theorem Akz {o f:Fld} (h:o.number=f.number∧o.kind=f.kind∧o.rep=f.rep∧o.packed=f.packed∧o.msg=f.msg):o=f:=by
 cases o;cases f;simp_all
theorem Aoi {o f:Fld} (h:o.number=f.number→o.kind=f.kind→o.rep=f.rep→o.packed=f.packed→¬o.msg=f.msg):o≠f:=fun e=>by subst e;exact h rfl rfl rfl rfl rfl
theorem Vf {l:List Shp} {f:Fld} : ∀ {k m:Nat},k≤m→H6 l f k=true→H6 l f m=true
 |k,0,h,hk=>by rw[show k=0 by omega] at hk;exact hk
 |k,m+1,h,hk=>by
  by_cases e:k=m+1
  ·rw[←e];exact hk
  ·rw[H6,Vf (m:=m) (by omega) hk];rfl
theorem Acf {l:List Shp} {f:Fld} {k:Nat} (h:k<l.length) (hf:fieldAt l (k:Int) f.number=some f):known l f=true:=by
 have:H6 l f (k+1)=true:=by rw[H6,hf];simp
 exact Vf (show k+1≤l.length by omega) this
theorem Vg {l:List Shp} {f:Fld} {k:Nat} (h:H6 l f k=false) (hf:fieldAt l (k:Int) f.number≠some f):H6 l f (k+1)=false:=by
 rw[H6,h];simp[hf]
theorem Aiv {l:List Shp} {f:Fld} {k:Nat} (h:H6 l f k=false) (hk:l.length=k):known l f=false:=by unfold known;rw[hk];exact h
theorem Aiw {f:Fld} (h:f.number=0∧f.kind=0∧f.rep=false∧f.packed=false∧f.msg=0):f=fld0:=Akz h
theorem Acg {d:Dcd} (h:d.stack=[]):Ec d=0:=by unfold Ec;rw[h];rfl
theorem Ms (w:Int):Ak w=0∨Ak w=4∨Ak w=8:=by unfold Ak;split<;>(try split)<;>omega
theorem Aoj {e f:Ev} (h:e.kind=f.kind∧e.field=f.field∧e.bits=f.bits∧e.len=f.len∧e.text=f.text∧e.code=f.code∧e.at_=f.at_):e=f:=by cases e;cases f;simp_all
theorem Aix {e:Ev} (h:e.kind=(Fc e).kind∧e.field=(Fc e).field∧e.bits=(Fc e).bits∧e.len=(Fc e).len∧e.text=(Fc e).text∧e.code=(Fc e).code∧e.at_=(Fc e).at_):W6 e=true:=decide_eq_true (Aoj h)
theorem Zs {e f:Ev} (h:Fc e=f):W6 e=(decide (e.kind=f.kind)&&(decide (e.field=f.field)&&(decide (e.bits=f.bits)&&(decide (e.len=f.len)&&(decide (e.text=f.text)&&(decide (e.code=f.code)&&decide (e.at_=f.at_))))))):=by
 subst h
 rw[Bool.eq_iff_iff]
 simp only[Bool.and_eq_true,decide_eq_true_eq]
 constructor
 ·intro h
  have h:e=Fc e:=of_decide_eq_true h
  exact⟨congrArg Ev.kind h,congrArg Ev.field h,congrArg Ev.bits h,congrArg Ev.len h,congrArg Ev.text h,congrArg Ev.code h,congrArg Ev.at_ h⟩
 ·exact fun h=>Aix h
structure Mac where
 d:Dcd
 out:List Ev
def W7:Ev:=⟨5,0,0,0,[],0,0⟩
def An3:Ev:=⟨7,0,0,0,[],0,0⟩
def Pu:Ev:=⟨8,0,0,0,[],0,0⟩
def Af9 (n:Int):Ev:=⟨1,0,0,n,[],0,0⟩
def Yh (f n:Int):Ev:=⟨6,f,0,n,[],0,0⟩
def Amq (f n:Int):Ev:=⟨3,f,0,n,[],0,0⟩
def Aba (b:Int):Ev:=⟨4,0,0,0,[Bk b],0,0⟩
def G1 (d:Dcd) (c a:Int):Dcd:=⟨d.plan,9,d.stack,⟨0,0⟩,d.start,d.at_,d.field,d.wire,0,d.utf,Bh c a⟩
def A3 (m:Mac) (c a:Int):Mac:=⟨G1 m.d c a,m.out++[Bh c a]⟩
def A2 (m:Mac):Option Mac:=
 if m.d.mode=6∧m.d.want<1 then
  (if 0<m.d.utf.want then some (A3 m 5 m.d.at_) else some ⟨⟨m.d.plan,2,m.d.stack,m.d.scan,m.d.start,m.d.at_,m.d.field,m.d.wire,0,⟨0,0,0⟩,m.d.end_⟩,m.out++[W7]⟩)
 else if (m.d.mode=7∨(m.d.mode=8∧m.d.scan.have_=0))∧m.d.want<1 then some ⟨⟨m.d.plan,2,m.d.stack,m.d.scan,m.d.start,m.d.at_,m.d.field,m.d.wire,0,m.d.utf,m.d.end_⟩,m.out⟩
 else if m.d.mode=2∧m.d.scan.have_=0∧0<m.d.stack.length∧Ec m.d=0 then
  some (if m.d.stack.length=1 then ⟨⟨m.d.plan,1,m.d.stack.take (m.d.stack.length-1),m.d.scan,m.d.start,m.d.at_,m.d.field,m.d.wire,m.d.want,m.d.utf,m.d.end_⟩,m.out++[Pu]⟩
   else ⟨⟨m.d.plan,m.d.mode,m.d.stack.take (m.d.stack.length-1),m.d.scan,m.d.start,m.d.at_,m.d.field,m.d.wire,m.d.want,m.d.utf,m.d.end_⟩,m.out++[An3]⟩)
 else none
def wM (m:Mac):Nat:=m.d.stack.length+(if m.d.mode=6∨m.d.mode=7∨m.d.mode=8 then 2 else if m.d.mode=2 then 1 else 0)
theorem D3 {m q:Mac} (h:A2 m=some q):wM q<wM m∧q.out.length≤m.out.length+1:=by
 unfold A2 at h
 split at h
 ·rename_i h1
  split at h
  ·cases h;simp[wM,A3,G1,h1.1]
  ·cases h;simp[wM,h1.1]
 ·split at h
  ·rename_i h1
   cases h
   rcases h1.1 with h2|h2
   ·simp[wM,h2]
   ·simp[wM,h2.1]
  ·split at h
   ·rename_i h1
    cases h
    have:=h1.2.2.1
    split
    ·simp[wM,h1.1];omega
    ·simp[wM,h1.1];omega
   ·cases h
def Ap (m:Mac):Mac:=match h:A2 m with
 |none=>m
 |some q=>Ap q
termination_by wM m
decreasing_by exact(D3 h).1
theorem Cu {m q:Mac} (h:A2 m=some q):Ap m=Ap q:=by
 rw[Ap]
 split
 ·rename_i h1;rw[h] at h1;cases h1
 ·rename_i x h1;rw[h] at h1;cases h1;rfl
theorem B6 {m:Mac} (h:A2 m=none):Ap m=m:=by
 rw[Ap]
 split
 ·rfl
 ·rename_i x h1;rw[h] at h1;cases h1
def Ee (m:Mac) (u:Int):Mac:=
 if m.d.plan.most<u then A3 m 7 m.d.start
 else Ap ⟨⟨m.d.plan,2,[⟨m.d.plan.root,u⟩],⟨0,0⟩,m.d.start,m.d.at_,m.d.field,m.d.wire,m.d.want,m.d.utf,m.d.end_⟩,m.out++[Af9 u]⟩
def Gk (d:Dcd):Lev:=d.stack.getD (d.stack.length-1) Aps
def Lj (m:Mac) (u:Int):Mac:=
 if Kp u=false∨m.d.stack.length=0 then A3 m 2 m.d.start
 else if De (Ah u)=false then A3 m 3 m.d.start
 else if (fieldAt m.d.plan.shapes (Gk m.d).msg (Bi u)).isSome=true∧Dt ((fieldAt m.d.plan.shapes (Gk m.d).msg (Bi u)).getD fld0) (Ah u)=false then A3 m 4 m.d.start
 else if Ec m.d<max (Ak (Ah u)) 1 then A3 ⟨⟨m.d.plan,m.d.mode,m.d.stack,⟨0,0⟩,m.d.start,m.d.at_,(fieldAt m.d.plan.shapes (Gk m.d).msg (Bi u)).getD fld0,Ah u,m.d.want,m.d.utf,m.d.end_⟩,m.out⟩ 9 m.d.at_
 else ⟨⟨m.d.plan,if Ah u=0 then 3 else if Ah u=2 then 4 else 5,m.d.stack,⟨0,0⟩,m.d.start,m.d.at_,(fieldAt m.d.plan.shapes (Gk m.d).msg (Bi u)).getD fld0,Ah u,m.d.want,m.d.utf,m.d.end_⟩,m.out⟩
def E2 (m:Mac) (u:Int):Mac:=
 if m.d.stack.length=0∨Ec m.d<u then A3 m 8 m.d.start
 else if m.d.field=fld0 then Ap ⟨⟨m.d.plan,7,m.d.stack,⟨0,0⟩,m.d.start,m.d.at_,m.d.field,m.d.wire,u,m.d.utf,m.d.end_⟩,m.out⟩
 else if m.d.field.kind=8 then
  (if m.d.plan.deep≤(m.d.stack.length:Int) then A3 m 6 m.d.start
  else Ap ⟨⟨m.d.plan,2,m.d.stack.set (m.d.stack.length-1) ⟨(Gk m.d).msg,Ec m.d-u⟩++[⟨m.d.field.msg,u⟩],⟨0,0⟩,m.d.start,m.d.at_,m.d.field,m.d.wire,0,m.d.utf,m.d.end_⟩,m.out++[Yh m.d.field.number u]⟩)
 else if Gj m.d.field.kind=true then Ap ⟨⟨m.d.plan,6,m.d.stack,⟨0,0⟩,m.d.start,m.d.at_,m.d.field,m.d.wire,u,⟨0,0,0⟩,m.d.end_⟩,m.out++[Amq m.d.field.number u]⟩
 else if 0<u∧u<Ak (Ba m.d.field.kind) then A3 m 9 m.d.at_
 else Ap ⟨⟨m.d.plan,8,m.d.stack,⟨0,0⟩,m.d.start,m.d.at_,m.d.field,m.d.wire,u,m.d.utf,m.d.end_⟩,m.out⟩
def Cb (m:Mac) (u:Int):Mac:=⟨⟨m.d.plan,if m.d.mode=8 then 8 else 2,m.d.stack,m.d.scan,m.d.start,m.d.at_,m.d.field,m.d.wire,m.d.want,m.d.utf,m.d.end_⟩,if m.d.field=fld0 then m.out else m.out++[Ez m.d.field u]⟩
def Mt (d:Dcd) (s:Scn):Dcd:=⟨d.plan,d.mode,d.stack,s,d.start,d.at_,d.field,d.wire,d.want,d.utf,d.end_⟩
def An (s:Scn) (b:Int):Scn×Int:=
 if E1 s=false∨Ai b 0 255=false∨(s.have_=9∧1<b) then (s,2)
 else (⟨s.bits+b % 128*2 ^ (7*s.have_.toNat),s.have_+1⟩,if b<128 then 1 else 0)
def B7 (s:Scn) (b:Int):Scn:=if Ai s.have_ 0 7=true∧Ai b 0 255=true then ⟨IntKind.u64.wrap (s.bits+IntKind.u64.wrap (b*2 ^ min (Int.toNat (8*s.have_)) 64)),s.have_+1⟩ else s
def No (d:Dcd) (a:Int):Dcd:=⟨d.plan,d.mode,d.stack,d.scan,if d.scan.have_=0∧(d.mode=1∨d.mode=2∨d.mode=4) then a else d.start,d.at_,d.field,d.wire,d.want,d.utf,d.end_⟩
def Zt (m q:Mac):Mac:=if (m.d.mode≠1∧Ec m.d=0)∨(m.d.mode=8∧m.d.want=0) then A3 q 9 m.d.at_ else q
def Dr (m:Mac) (b a:Int):Mac:=
 if (An m.d.scan b).2=2 then A3 ⟨No m.d a,m.out⟩ 1 a
 else if (An m.d.scan b).2=0 then Zt m ⟨Mt (No m.d a) (An m.d.scan b).1,m.out⟩
 else if m.d.mode=1 then Ee ⟨Mt (No m.d a) scn0,m.out⟩ (An m.d.scan b).1.bits
 else if m.d.mode=2 then Lj ⟨Mt (No m.d a) scn0,m.out⟩ (An m.d.scan b).1.bits
 else if m.d.mode=4 then E2 ⟨Mt (No m.d a) scn0,m.out⟩ (An m.d.scan b).1.bits
 else Ap (Cb ⟨Mt (No m.d a) scn0,m.out⟩ (An m.d.scan b).1.bits)
def Hf (m:Mac) (b:Int):Mac:=
 if (B7 m.d.scan b).have_<Bv m.d then ⟨Mt m.d (B7 m.d.scan b),m.out⟩
 else if m.d.mode=8∧0<m.d.want∧m.d.want<Bv m.d then A3 (Cb ⟨Mt m.d scn0,m.out⟩ (B7 m.d.scan b).bits) 9 m.d.at_
 else Ap (Cb ⟨Mt m.d scn0,m.out⟩ (B7 m.d.scan b).bits)
def Apt (d:Dcd) (u:Utf):Dcd:=⟨d.plan,d.mode,d.stack,d.scan,d.start,d.at_,d.field,d.wire,d.want,u,d.end_⟩
def Em (m:Mac) (b:Int):Mac:=
 if m.d.field.kind=6 then (match By m.d.utf b with
  |none=>A3 m 5 (m.d.at_-1)
  |some u=>Ap ⟨Apt m.d u,m.out++[Aba b]⟩)
 else Ap ⟨m.d,m.out++[Aba b]⟩
def Dc (d:Dcd):Dcd:=⟨d.plan,d.mode,if d.stack.length=0 then d.stack else d.stack.set (d.stack.length-1) ⟨(Gk d).msg,Ec d-1⟩,d.scan,d.start,d.at_+1,d.field,d.wire,if d.mode=6∨d.mode=7∨d.mode=8 then d.want-1 else d.want,d.utf,d.end_⟩
def Df (m:Mac) (b:Int):Mac:=
 if m.d.mode=6 then Em ⟨Dc m.d,m.out⟩ b
 else if m.d.mode=7 then Ap ⟨Dc m.d,m.out⟩
 else if 0<Bv m.d then Hf ⟨Dc m.d,m.out⟩ b
 else Dr ⟨Dc m.d,m.out⟩ b m.d.at_
theorem W8 {m q:Mac} (h:A2 m=some q):q.d.stack.length≤m.d.stack.length∧q.d.plan=m.d.plan:=by
 unfold A2 at h
 split at h
 ·split at h<;>(cases h;exact⟨Nat.le_refl _,rfl⟩)
 ·split at h
  ·cases h;exact⟨Nat.le_refl _,rfl⟩
  ·split at h
   ·cases h
    split<;>(refine⟨?_,rfl⟩;simp only[List.length_take];omega)
   ·cases h
theorem Abb (m:Mac):(Ap m).out.length≤m.out.length+wM m:=by
 suffices ∀(k:Nat) (m:Mac),wM m≤k→(Ap m).out.length≤m.out.length+wM m from this _ m (Nat.le_refl _)
 intro k
 induction k with
 |zero=>
  intro m hk
  cases h:A2 m with
  |none=>rw[B6 h];omega
  |some q=>have:=(D3 h).1;omega
 |succ k ih=>
  intro m hk
  cases h:A2 m with
  |none=>rw[B6 h];omega
  |some q=>
   have h1:=D3 h
   have:=ih q (by omega)
   rw[Cu h];omega
theorem Aiy (m:Mac):wM m≤m.d.stack.length+2:=by unfold wM;split<;>(try split)<;>omega
theorem Cn {d:Dcd} (h:Bt d=true):B1 d.plan=true∧(d.stack.length:Int)≤d.plan.deep∧d.stack.length≤8∧(∀l∈d.stack,Hn (d.plan.shapes.length:Int) l=true):=by
 simp only[Bt,Bool.and_eq_true,decide_eq_true_eq,List.all_eq_true] at h
 have:=Cd h.1.1
 exact⟨h.1.1,h.1.2,by omega,h.2⟩
theorem Ho {d:Dcd} (h1:B1 d.plan=true) (h2:(d.stack.length:Int)≤d.plan.deep) (h3: ∀l∈d.stack,Hn (d.plan.shapes.length:Int) l=true):Bt d=true:=by
 simp only[Bt,Bool.and_eq_true,decide_eq_true_eq,List.all_eq_true];exact⟨⟨h1,h2⟩,h3⟩
theorem Qf {d e:Dcd} {u:Int} (h:Bt d=true) (hp:e.plan=d.plan) (hs:e.stack=[⟨d.plan.root,u⟩]) (h0:0≤u) (hu:u≤d.plan.most):Bt e=true:=by
 have hb:=Cn h
 have ht:=Cd hb.1
 refine Ho (by rw[hp];exact hb.1) (by rw[hs,hp];simp;omega) fun l hl=>?_
 rw[hs] at hl
 simp at hl
 subst hl
 rw[hp]
 simp[Hn,Ai];omega
theorem B2 {d e:Dcd} (h:Bt d=true) (hp:e.plan=d.plan) (hs:e.stack=d.stack):Bt e=true:=by
 have hb:=Cn h
 exact Ho (by rw[hp];exact hb.1) (by rw[hs,hp];exact hb.2.1) (by rw[hs,hp];exact hb.2.2.2)
theorem W9 {l:List Shp} {f:Fld} (hl:C3 l=true): ∀ {k:Nat},H6 l f k=true→H5 f (l.length:Int)=true
 |0,h=>by cases h
 |k+1,h=>by
  simp only[H6,Bool.or_eq_true,decide_eq_true_eq] at h
  rcases h with h|h
  ·exact W9 hl h
  ·exact(Sp hl h).1
theorem Rs {d:Dcd} (h:d.stack.length≠0):Gk d∈d.stack:=by
 unfold Gk
 rw[List.getD_eq_getElem?_getD,List.getElem?_eq_getElem (by omega)]
 exact List.getElem_mem _
theorem Rt {d e:Dcd} {u:Int} (h:Bt d=true) (hk:known d.plan.shapes d.field=true) (h8:d.field.kind=8) (hn:d.stack.length≠0) (hd:(d.stack.length:Int)<d.plan.deep) (h0:0≤u) (hu:u≤Ec d) (hp:e.plan=d.plan)
  (hs:e.stack=d.stack.set (d.stack.length-1) ⟨(Gk d).msg,Ec d-u⟩++[⟨d.field.msg,u⟩]):Bt e=true:=by
 have hb:=Cn h
 have hf:=Yf (W9 (Cd hb.1).2.1 hk)
 have hm:=hf.2.2.2.2.1 h8
 have hl:=hb.2.2.2 _ (Rs hn)
 have ht:Ec d=(Gk d).left:=rfl
 simp only[Hn,Bool.and_eq_true] at hl
 have hl1:=Aw hl.1;have hl2:=Aw hl.2
 refine Ho (by rw[hp];exact hb.1) (by rw[hs,hp];simp;omega) fun l hl=>?_
 rw[hs] at hl
 rw[hp]
 rcases List.mem_append.1 hl with hl|hl
 ·rcases List.mem_or_eq_of_mem_set hl with hl|hl
  ·exact hb.2.2.2 l hl
  ·subst hl;simp[Hn,Ai];omega
 ·simp at hl;subst hl;simp[Hn,Ai];omega
theorem Np {d:Dcd} (h:Bt d=true):0≤Ec d∧Ec d≤2000:=by
 by_cases hn:d.stack.length=0
 ·rw[Acg (List.eq_nil_of_length_eq_zero hn)];omega
 ·have hl:=(Cn h).2.2.2 _ (Rs hn)
  have ht:Ec d=(Gk d).left:=rfl
  simp only[Hn,Bool.and_eq_true] at hl
  have:=Aw hl.2;omega
theorem Yi {d:Dcd} {x:Lev} (h:d.stack[d.stack.length-1]? =some x):Gk d=x∧Ec d=x.left:=by
 have e:Gk d=x:=by unfold Gk;exact U9 h
 exact⟨e,by show (Gk d).left=_;rw[e]⟩
theorem Aok (u:Int):0≤Ah u∧Ah u≤7:=by unfold Ah;split<;>omega
theorem Yj {s:Scn} (h:E1 s=true) (h0:0≤s.bits):0≤s.have_∧s.have_≤9∧s.bits<2 ^ (7*s.have_.toNat):=by
 simp only[E1,Bool.and_eq_true,decide_eq_true_eq] at h
 have hw:=Aw h.1
 refine⟨hw.1,hw.2,?_⟩
 have h2:=h.2
 rw[show min (Int.toNat (7*s.have_)) 64=7*s.have_.toNat by omega] at h2
 have hp:(0:Int)<2 ^ (7*s.have_.toNat):=Int.pow_pos (by decide)
 rw[Int.fdiv_eq_ediv_of_nonneg _ (Int.le_of_lt hp)] at h2
 apply Int.not_le.1
 intro hle
 have:=Int.le_ediv_of_mul_le hp (show 1*2 ^ (7*s.have_.toNat)≤s.bits by rw[Int.one_mul];exact hle)
 omega
theorem Aga {c:Int} {h:Int} (h0:0≤h) (h9:h≤9) (c0:0≤c) (c1:c≤127) (hc:h=9→c≤1):0≤c*2 ^ (7*h.toNat)∧c*2 ^ (7*h.toNat)+2 ^ (7*h.toNat)≤18446744073709551616:=by
 obtain ⟨k,rfl⟩:=Int.eq_ofNat_of_zero_le h0
 have hk:k≤9:=by omega
 rw[Int.toNat_natCast]
 rcases (show k=0∨k=1∨k=2∨k=3∨k=4∨k=5∨k=6∨k=7∨k=8∨k=9 by omega) with rfl|rfl|rfl|rfl|rfl|rfl|rfl|rfl|rfl|rfl<;>simp at * <;>omega
theorem Zu {c h:Int} (h0:0≤h) (h9:h≤9) (c0:0≤c) (c1:c≤127) (hc:h=9→c≤1):(.v (.c (.int .u64 (IntKind.u64.wrap (c*2 ^ min (Int.toNat (7*h)) 64)))):S)= .v (.c (.int .u64 (c*2 ^ (7*h.toNat)))):=by
 have:=Aga h0 h9 c0 c1 hc
 have hp:(0:Int)<2 ^ (7*h.toNat):=Int.pow_pos (by decide)
 rw[show min (Int.toNat (7*h)) 64=7*h.toNat by omega]
 exact Bs Q2 Q2
theorem Ach {u c h:Int} (h0:0≤h) (h9:h≤9) (c0:0≤c) (c1:c≤127) (hc:h=9→c≤1) (u0:0≤u) (u1:u<2 ^ (7*h.toNat)):(.v (.c (.int .u64 (IntKind.u64.wrap (((BitVec.ofInt 64 u|||BitVec.ofInt 64 (c*2 ^ (7*h.toNat))).toNat:Nat):Int)))):S)= .v (.c (.int .u64 (u+c*2 ^ (7*h.toNat)))):=by
 have:=Aga h0 h9 c0 c1 hc
 rw[Aof (k:=7*h.toNat) (c:=c) u0 u1 c0 rfl (by omega)]
 exact Bs Q2 Q2
theorem Xa {s:Scn} {b:Int} (h0:0≤s.bits) (h1:s.bits≤18446744073709551615):0≤(An s b).1.bits∧(An s b).1.bits≤18446744073709551615:=by
 unfold An
 split
 ·exact⟨h0,h1⟩
 ·rename_i h
  simp only[not_or] at h
  have hs:E1 s=true:=by simpa using h.1
  have hb:=Aw (show Ai b 0 255=true by simpa using h.2.1)
  have hk:=Yj hs h0
  have hc:=Aga (c:=b % 128) hk.1 hk.2.1 (by omega) (by omega) (fun h9=>by have:=h.2.2;omega)
  simp only;omega
structure MW (d:Dcd):Prop where
 lv:Bt d=true
 kn:d.field=fld0∨known d.plan.shapes d.field=true
 b0:0≤d.scan.bits∧d.scan.bits≤18446744073709551615
 at_:0≤d.at_∧d.at_≤1000000001
 want: -1≤d.want∧d.want≤2001
theorem Agb {s:Scn} {b:Int} (h0:0≤s.bits∧s.bits≤18446744073709551615):0≤(B7 s b).bits∧(B7 s b).bits≤18446744073709551615:=by
 unfold B7
 split
 ·simp only
  rw[IntKind.wrap_u64]
  have:=Int.emod_nonneg (s.bits+IntKind.u64.wrap (b*2 ^ min (Int.toNat (8*s.have_)) 64)) (show (18446744073709551616:Int)≠0 by decide)
  have:=Int.emod_lt_of_pos (s.bits+IntKind.u64.wrap (b*2 ^ min (Int.toNat (8*s.have_)) 64)) (show (0:Int)<18446744073709551616 by decide)
  omega
 ·exact h0
theorem MW.step {d:Dcd} (h:MW d) (hs:d.stack.length=0∨1≤Ec d) (ha:d.at_≤1000000000) (hw:(d.mode=6∨d.mode=7∨d.mode=8)→0≤d.want):MW (Dc d):=by
 have hb:=Cn h.lv
 refine⟨?_,h.kn,h.b0,?_,?_⟩
 ·refine Ho (d:=Dc d) hb.1 ?_ ?_
  ·show (((Dc d).stack.length:Nat):Int)≤d.plan.deep
   unfold Dc;simp only;split
   ·exact hb.2.1
   ·rw[List.length_set];exact hb.2.1
  ·intro l hl
   show Hn (d.plan.shapes.length:Int) l=true
   unfold Dc at hl
   simp only at hl
   split at hl
   ·exact hb.2.2.2 l hl
   ·rename_i hn
    rcases List.mem_or_eq_of_mem_set hl with hl|hl
    ·exact hb.2.2.2 l hl
    ·have hx:=hb.2.2.2 _ (Rs hn)
     have ht:Ec d=(Gk d).left:=rfl
     simp only[Hn,Bool.and_eq_true] at hx
     have h1:=Aw hx.1;have h2:=Aw hx.2
     subst hl;simp[Hn,Ai];omega
 ·have:=h.at_;show 0≤d.at_+1∧d.at_+1≤1000000001;omega
 ·have:=h.want
  show-1≤(if d.mode=6∨d.mode=7∨d.mode=8 then d.want-1 else d.want)∧(if d.mode=6∨d.mode=7∨d.mode=8 then d.want-1 else d.want)≤2001
  split
  ·rename_i hm;have:=hw hm;omega
  ·exact this
theorem Fy (m:Mac) (u:Int):(Cb m u).out.length≤m.out.length+1:=by
 unfold Cb
 simp only
 split<;>simp
theorem Zv (m:Mac) (u:Int):(Cb m u).d.at_=m.d.at_:=rfl
theorem Vh (m:Mac) (u:Int):(Cb m u).d.want=m.d.want:=rfl
def Ab (j0:Nat) (j5:Nat) (j27:Nat) (x:Mac):List C:=[.own j0,.int .i64 x.d.plan.root,.int .i64 x.d.plan.deep,.int .i64 x.d.plan.most,.int .i64 x.d.mode,.own j5,.int .u64 x.d.scan.bits,.int .i64 x.d.scan.have_,.int .i64 x.d.start,.int .i64 x.d.at_,.int .i64 x.d.field.number,.int .i64 x.d.field.kind,.bool x.d.field.rep,.bool x.d.field.packed,.int .i64 x.d.field.msg,.int .i64 x.d.wire,.int .i64 x.d.want,.int .i64 x.d.utf.want,.int .i64 x.d.utf.low,.int .i64 x.d.utf.high,.int .i64 x.d.end_.kind,.int .i64 x.d.end_.field,.int .u64 x.d.end_.bits,.int .i64 x.d.end_.len,.str x.d.end_.text,.int .i64 x.d.end_.code,.int .i64 x.d.end_.at_,.own j27]
def B5 (p:Pln):Dcd:=if B1 p=true then ⟨p,1,[],⟨0,0⟩,0,0,⟨0,0,false,false,0⟩,0,0,⟨0,0,0⟩,⟨0,0,0,0,[],0,0⟩⟩ else ⟨⟨[],0,0,0⟩,0,[],⟨0,0⟩,0,0,⟨0,0,false,false,0⟩,0,0,⟨0,0,0⟩,⟨0,0,0,0,[],0,0⟩⟩
theorem Lo {l:List Shp} (h:C3 l=true): ∀e∈l,e.fields.length≤1048576:=fun e he=>by have:=Fh h e he;omega
theorem Zw {m:Mac} (h1:m.d.mode=6) (h2:m.d.want<1) (h3:0<m.d.utf.want):Ap m=A3 m 5 m.d.at_:=by
 have hc:A2 m=some (A3 m 5 m.d.at_):=by unfold A2;rw[if_pos ⟨h1,h2⟩,if_pos h3]
 rw[Cu hc,B6]
 unfold A2 A3 G1
 simp
theorem Vi {d:Dcd} {o:List Ev} (h2:d.mode=2) (hs:d.scan.have_=0) (hl:0<d.stack.length) (ht:Ec d=0) (h1:d.stack.length=1):A2 ⟨d,o⟩=some ⟨⟨d.plan,1,d.stack.take (d.stack.length-1),d.scan,d.start,d.at_,d.field,d.wire,d.want,d.utf,d.end_⟩,o++[Pu]⟩:=by
 unfold A2
 simp only
 rw[if_neg (by omega),if_neg (by omega),if_pos ⟨h2,hs,hl,ht⟩,if_pos h1]
theorem Vj {d:Dcd} {o:List Ev} (h2:d.mode=2) (hs:d.scan.have_=0) (hl:0<d.stack.length) (ht:Ec d=0) (h1:d.stack.length≠1):A2 ⟨d,o⟩=some ⟨⟨d.plan,d.mode,d.stack.take (d.stack.length-1),d.scan,d.start,d.at_,d.field,d.wire,d.want,d.utf,d.end_⟩,o++[An3]⟩:=by
 unfold A2
 simp only
 rw[if_neg (by omega),if_neg (by omega),if_pos ⟨h2,hs,hl,ht⟩,if_neg h1]
theorem Agc {d:Dcd} {o:List Ev} {u:Int} (h:d.mode=8) (hf:d.field≠fld0):Cb ⟨d,o⟩ u=⟨d,o++[Ez d.field u]⟩:=by
 cases d
 unfold Cb
 simp only at h hf ⊢
 rw[if_pos h,if_neg hf,h]
theorem Qu {d:Dcd} (h:Ce d=true):Bt d=true∧(1≤d.mode∧d.mode≤9)∧(0≤d.at_∧d.at_≤1000000000)∧(0≤d.start∧d.start≤d.at_)∧Ek d.utf=true∧De d.wire=true∧(d.field=fld0∨known d.plan.shapes d.field=true)∧Aez d=true∧Kw d=true∧Nu d=true∧Jh d=true∧J6 d=true:=by
 simp only[Ce,Bool.and_eq_true,Bool.or_eq_true,decide_eq_true_eq] at h
 obtain ⟨⟨⟨⟨⟨⟨⟨⟨⟨⟨⟨h1,h2⟩,h3⟩,h4⟩,h5⟩,h6⟩,h7⟩,h8⟩,h9⟩,h10⟩,h11⟩,h12⟩:=h
 exact⟨h1,Aw h2,Aw h3,Aw h4,h5,h6,h7,h8,h9,h10,h11,h12⟩
theorem Abc {d:Dcd} (h:Nu d=true):((d.mode=6∨d.mode=7∨d.mode=8)→1≤d.want∧d.want≤Ec d)∧(¬(d.mode=6∨d.mode=7∨d.mode=8)→d.want=0):=by
 unfold Nu at h
 split at h
 ·rename_i hm;exact⟨fun _=>Aw h,fun h=>absurd hm h⟩
 ·rename_i hm;exact⟨fun h=>absurd h hm,fun _=>of_decide_eq_true h⟩
theorem Aci {d:Dcd} (h:Ce d=true) (hb:0≤d.scan.bits∧d.scan.bits≤18446744073709551615):MW d:=by
 obtain ⟨h1,h2,h3,h4,h5,h6,h7,h8,h9,h10,h11,h12⟩:=Qu h
 have ht:=Np h1
 have hw:=Abc h10
 refine⟨h1,h7,hb,by omega,?_⟩
 by_cases hm:d.mode=6∨d.mode=7∨d.mode=8
 ·have:=hw.1 hm;omega
 ·have:=hw.2 hm;omega
theorem Acj {d:Dcd} (h:Ce d=true) (h9:d.mode≠9):(d.stack.length=0∨1≤Ec d)∧d.at_≤1000000000∧((d.mode=6∨d.mode=7∨d.mode=8)→0≤d.want)∧(d.mode=8→Vb d.field=true)∧d.end_=ev0:=by
 obtain ⟨h1,h2,h3,h4,h5,h6,h7,h8,hs,h10,h11,h12⟩:=Qu h
 have hw:=Abc h10
 refine⟨?_,by omega,fun hm=>by have:=hw.1 hm;omega,fun hm=>?_,?_⟩
 ·unfold Kw at hs
  by_cases hm1:d.mode=1
  ·rw[if_pos hm1] at hs;left;rw[of_decide_eq_true hs];rfl
  ·rw[if_neg hm1,if_neg h9] at hs;exact .inr (of_decide_eq_true hs)
 ·unfold Jh at h11
  rw[if_neg (by omega),if_pos hm] at h11
  exact h11
 ·unfold Aez at h8
  rw[if_neg h9] at h8
  exact of_decide_eq_true h8
def Fd (d:Dcd):Bool:= !decide (d.mode=9)&&decide (d.at_<1000000000)
def Le (d:Dcd) (b:Int):Mac:=if Ce d=true∧Fd d=true∧Ai b 0 255=true then Df ⟨d,[]⟩ b else ⟨d,[]⟩
theorem Zx (m:Mac):(Ap m).d.plan=m.d.plan∧(Ap m).d.stack.length≤m.d.stack.length:=by
 suffices ∀(k:Nat) (m:Mac),wM m≤k→(Ap m).d.plan=m.d.plan∧(Ap m).d.stack.length≤m.d.stack.length from this _ m (Nat.le_refl _)
 intro k
 induction k with
 |zero=>
  intro m hk
  cases h:A2 m with
  |none=>rw[B6 h];exact⟨rfl,Nat.le_refl _⟩
  |some q=>have:=(D3 h).1;omega
 |succ k ih=>
  intro m hk
  cases h:A2 m with
  |none=>rw[B6 h];exact⟨rfl,Nat.le_refl _⟩
  |some q=>
   have h1:=D3 h
   have h2:=W8 h
   have h3:=ih q (by omega)
   rw[Cu h]
   exact⟨h3.1.trans h2.2,Nat.le_trans h3.2 h2.1⟩
structure Gr (m q:Mac):Prop where
 plan:q.d.plan=m.d.plan
 stack:q.d.stack.length≤m.d.stack.length+1
 out:q.out.length≤m.out.length+m.d.stack.length+6
theorem Gr.fail (m:Mac) (c a:Int):Gr m (A3 m c a):=⟨rfl,Nat.le_succ _,by simp only[A3,List.length_append,List.length_cons,List.length_nil];omega⟩
theorem Gr.settle {m x:Mac} (hp:x.d.plan=m.d.plan) (hs:x.d.stack.length≤m.d.stack.length+1) (ho:x.out.length≤m.out.length+2):Gr m (Ap x):=by
 have h1:=Zx x
 have h2:=Abb x
 have h3:=Aiy x
 exact⟨h1.1.trans hp,by omega,by omega⟩
theorem Gr.of {m x q:Mac} (h:Gr x q) (hp:x.d.plan=m.d.plan) (hs:x.d.stack.length=m.d.stack.length) (ho:x.out.length=m.out.length):Gr m q:=⟨h.plan.trans hp,by have:=h.stack;omega,by have:=h.out;omega⟩
theorem Agd (m:Mac) (u:Int):Gr m (Ee m u):=by
 unfold Ee
 split
 ·exact Gr.fail _ _ _
 ·exact Gr.settle rfl (by simp) (by simp)
theorem Amr (m:Mac) (u:Int):Gr m (Lj m u):=by
 unfold Lj
 split
 ·exact Gr.fail _ _ _
 ·split
  ·exact Gr.fail _ _ _
  ·split
   ·exact Gr.fail _ _ _
   ·split
    ·exact(Gr.fail _ _ _).of rfl rfl rfl
    ·exact⟨rfl,Nat.le_succ _,by simp only;omega⟩
theorem Aiz (m:Mac) (u:Int):Gr m (E2 m u):=by
 unfold E2
 split
 ·exact Gr.fail _ _ _
 ·split
  ·exact Gr.settle rfl (Nat.le_succ _) (by simp)
  ·split
   ·split
    ·exact Gr.fail _ _ _
    ·exact Gr.settle rfl (by simp) (by simp)
   ·split
    ·exact Gr.settle rfl (Nat.le_succ _) (by simp)
    ·split
     ·exact Gr.fail _ _ _
     ·exact Gr.settle rfl (Nat.le_succ _) (by simp)
theorem Ams (m:Mac) (b a:Int):Gr m (Dr m b a):=by
 unfold Dr
 split
 ·exact(Gr.fail _ _ _).of rfl rfl rfl
 ·split
  ·unfold Zt
   split
   ·exact(Gr.fail _ _ _).of rfl rfl rfl
   ·exact⟨rfl,Nat.le_succ _,by simp only;omega⟩
  ·split
   ·exact(Agd _ _).of rfl rfl rfl
   ·split
    ·exact(Amr _ _).of rfl rfl rfl
    ·split
     ·exact(Aiz _ _).of rfl rfl rfl
     ·exact Gr.settle rfl (Nat.le_succ _) (Nat.le_trans (Fy _ _) (Nat.le_succ _))
theorem Amt (m:Mac) (b:Int):Gr m (Hf m b):=by
 unfold Hf
 split
 ·exact⟨rfl,Nat.le_succ _,by simp only;omega⟩
 ·split
  ·have:=Fy ⟨Mt m.d scn0,m.out⟩ (B7 m.d.scan b).bits
   exact⟨rfl,Nat.le_succ _,by simp only[A3,List.length_append,List.length_cons,List.length_nil] at this ⊢;omega⟩
  ·exact Gr.settle rfl (Nat.le_succ _) (Nat.le_trans (Fy _ _) (Nat.le_succ _))
theorem Ai0 (m:Mac) (b:Int):Gr m (Em m b):=by
 unfold Em
 split
 ·split
  ·exact Gr.fail _ _ _
  ·exact Gr.settle rfl (Nat.le_succ _) (by simp)
 ·exact Gr.settle rfl (Nat.le_succ _) (by simp)
theorem J7 (d:Dcd):(Dc d).stack.length=d.stack.length:=by unfold Dc;simp only;split<;>simp
theorem Ai1 (m:Mac) (b:Int):Gr m (Df m b):=by
 unfold Df
 split
 ·exact(Ai0 _ _).of rfl (J7 _) rfl
 ·split
  ·exact Gr.settle rfl (by show (Dc m.d).stack.length≤_;rw[J7];omega) (by simp)
  ·split
   ·exact(Amt _ _).of rfl (J7 _) rfl
   ·exact(Ams _ _ _).of rfl (J7 _) rfl
theorem Yk (d:Dcd) (b:Int):Gr ⟨d,[]⟩ (Le d b):=by
 unfold Le
 split
 ·exact Ai1 _ _
 ·exact⟨rfl,Nat.le_succ _,by simp⟩
theorem Adt {d:Dcd} {b:Int} :(Le d b).d.plan=d.plan∧(Le d b).d.stack.length≤d.stack.length+1:=⟨(Yk d b).plan,(Yk d b).stack⟩
theorem Age {d:Dcd} {b:Int} :(Le d b).out.length≤d.stack.length+6:=by have:=(Yk d b).out;simp only[List.length_nil] at this;omega
theorem Cc (n:Int) (lo:Int) (hi:Int):Fun Tryz.prog 97 [vI n,vI lo,vI hi] [] (.v (vB (Ai n lo hi))) []:=by
 have hN:Bn=274877906944:=rfl
 refine Av Tryz.func97 Q4 Q4 (w:=(.br (.leaf () []) (.leaf () []),Bc (decide (lo≤n)) (Lf (.v (vB (decide (n≤hi)))) (.v (vB (Ai n lo hi))) [] []) (Lf (.v (vB false)) (.v (vB (Ai n lo hi))) [] []))) Q4 ?_
 refine dsp (fun h1 p1=>?_) fun h1 p1=>?_
 exact⟨(congrArg S.v (congrArg V.c (congrArg C.bool (by simp[Ai, *])))),rfl⟩
 exact⟨(congrArg S.v (congrArg V.c (congrArg C.bool (by simp[Ai, *])))),rfl⟩
theorem Bw (n:Int) (lo:Int) (hi:Int):Fun Tryz.prog 44 [vI n,vI lo,vI hi] [] (.v (vB (Ai n lo hi))) []:=by
 have hN:Bn=274877906944:=rfl
 refine Av Tryz.func44 Q4 Q4 (w:=(.br (.leaf () []) (.leaf () []),Bc (decide (lo≤n)) (Lf (.v (vB (decide (n≤hi)))) (.v (vB (Ai n lo hi))) [] []) (Lf (.v (vB false)) (.v (vB (Ai n lo hi))) [] []))) Q4 ?_
 refine dsp (fun h1 p1=>?_) fun h1 p1=>?_
 exact⟨(congrArg S.v (congrArg V.c (congrArg C.bool (by simp[Ai, *])))),rfl⟩
 exact⟨(congrArg S.v (congrArg V.c (congrArg C.bool (by simp[Ai, *])))),rfl⟩
theorem Apu (a:Int) (b:Int):Fun Tryz.prog 83 [vI a,vI b] [] (.v (vI (min a b))) []:=by
 have hN:Bn=274877906944:=rfl
 refine Av Tryz.func83 Q4 Q4 (w:=(.br (.leaf () []) (.leaf () []),Bc (decide (a<b)) (Lf (.v (vI a)) (.v (vI (min a b))) [] []) (Lf (.v (vI b)) (.v (vI (min a b))) [] []))) Q4 ?_
 refine dsp (fun h1 p1=>?_) fun h1 p1=>?_
 exact⟨(congrArg S.v (congrArg V.c (congrArg (C.int .i64) Q2))),rfl⟩
 exact⟨(congrArg S.v (congrArg V.c (congrArg (C.int .i64) Q2))),rfl⟩
theorem Hg (a:Int) (b:Int):Fun Tryz.prog 84 [vI a,vI b] [] (.v (vI (max a b))) []:=by
 have hN:Bn=274877906944:=rfl
 refine Av Tryz.func84 Q4 Q4 (w:=(.br (.leaf () []) (.leaf () []),Bc (decide (b<a)) (Lf (.v (vI a)) (.v (vI (max a b))) [] []) (Lf (.v (vI b)) (.v (vI (max a b))) [] []))) Q4 ?_
 refine dsp (fun h1 p1=>?_) fun h1 p1=>?_
 exact⟨(congrArg S.v (congrArg V.c (congrArg (C.int .i64) Q2))),rfl⟩
 exact⟨(congrArg S.v (congrArg V.c (congrArg (C.int .i64) Q2))),rfl⟩
theorem Adu (n:Int):Fun Tryz.prog 207 [vI n] [] (.v (vB (Dd n))) []:=by
 have hN:Bn=274877906944:=rfl
 refine Av Tryz.func207 Q4 Q4 (w:=let z1:=Ai n 1 536870911;let z2:=Ai n 19000 19999;(.seg [.call [] (.v (vB z1)) []] (.br (.seg [.call [] (.v (vB z2)) []] (.leaf () [])) (.leaf () [])),(Fp 97 [vI n,vI 1,vI 536870911] [] (.v (vB z1)) [])∧Bc z1 ((Fp 97 [vI n,vI 19000,vI 19999] [] (.v (vB z2)) [])∧Lf (.v (vB (!z2))) (.v (vB (Dd n))) [] []) (Lf (.v (vB false)) (.v (vB (Dd n))) [] []))) Q4 ?_
 refine⟨(Cc _ _ _),fun h1=>have p1:=Aw h1;?_,fun h1=>have p1:=A7 h1;?_⟩
 exact⟨(Cc _ _ _),(congrArg S.v (congrArg V.c (congrArg C.bool (by simp[Dd, *])))),rfl⟩
 exact⟨(congrArg S.v (congrArg V.c (congrArg C.bool (by simp[Dd, *])))),rfl⟩
theorem Xb (n:Int):Fun Tryz.prog 156 [vI n] [] (.v (vB (Dd n))) []:=by
 have hN:Bn=274877906944:=rfl
 refine Av Tryz.func156 Q4 Q4 (w:=let z1:=Ai n 1 536870911;let z2:=Ai n 19000 19999;(.seg [.call [] (.v (vB z1)) []] (.br (.seg [.call [] (.v (vB z2)) []] (.leaf () [])) (.leaf () [])),(Fp 44 [vI n,vI 1,vI 536870911] [] (.v (vB z1)) [])∧Bc z1 ((Fp 44 [vI n,vI 19000,vI 19999] [] (.v (vB z2)) [])∧Lf (.v (vB (!z2))) (.v (vB (Dd n))) [] []) (Lf (.v (vB false)) (.v (vB (Dd n))) [] []))) Q4 ?_
 refine⟨(Bw _ _ _),fun h1=>have p1:=Aw h1;?_,fun h1=>have p1:=A7 h1;?_⟩
 exact⟨(Bw _ _ _),(congrArg S.v (congrArg V.c (congrArg C.bool (by simp[Dd, *])))),rfl⟩
 exact⟨(congrArg S.v (congrArg V.c (congrArg C.bool (by simp[Dd, *])))),rfl⟩
theorem Ack (w:Int):Fun Tryz.prog 104 [vI w] [] (.v (vB (De w))) []:=by
 have hN:Bn=274877906944:=rfl
 refine Av Tryz.func104 Q4 Q4 (w:=let z1:=Lf (.v (vB true)) (.v (vB (De w))) [] [];(.br (.leaf () []) (.br (.leaf () []) (.br (.leaf () []) (.leaf () []))),Bc (decide (w=0)) z1 (Bc (decide (w=1)) z1 (Bc (decide (w=2)) z1 (Lf (.v (vB (decide (w=5)))) (.v (vB (De w))) [] []))))) Q4 ?_
 refine dsp (fun h1 p1=>?_) fun h1 p1=>?_
 exact⟨(congrArg S.v (congrArg V.c (congrArg C.bool Q56))),rfl⟩
 refine dsp (fun h2 p2=>?_) fun h2 p2=>?_
 exact⟨(congrArg S.v (congrArg V.c (congrArg C.bool Q56))),rfl⟩
 refine dsp (fun h3 p3=>?_) fun h3 p3=>?_
 exact⟨(congrArg S.v (congrArg V.c (congrArg C.bool Q56))),rfl⟩
 exact⟨(congrArg S.v (congrArg V.c (congrArg C.bool Q56))),rfl⟩
theorem Ai2 (w:Int):Fun Tryz.prog 122 [vI w] [] (.v (vB (De w))) []:=by
 have hN:Bn=274877906944:=rfl
 refine Av Tryz.func122 Q4 Q4 (w:=let z1:=Lf (.v (vB true)) (.v (vB (De w))) [] [];(.br (.leaf () []) (.br (.leaf () []) (.br (.leaf () []) (.leaf () []))),Bc (decide (w=0)) z1 (Bc (decide (w=1)) z1 (Bc (decide (w=2)) z1 (Lf (.v (vB (decide (w=5)))) (.v (vB (De w))) [] []))))) Q4 ?_
 refine dsp (fun h1 p1=>?_) fun h1 p1=>?_
 exact⟨(congrArg S.v (congrArg V.c (congrArg C.bool Q56))),rfl⟩
 refine dsp (fun h2 p2=>?_) fun h2 p2=>?_
 exact⟨(congrArg S.v (congrArg V.c (congrArg C.bool Q56))),rfl⟩
 refine dsp (fun h3 p3=>?_) fun h3 p3=>?_
 exact⟨(congrArg S.v (congrArg V.c (congrArg C.bool Q56))),rfl⟩
 exact⟨(congrArg S.v (congrArg V.c (congrArg C.bool Q56))),rfl⟩
theorem Acm (k:Int):Fun Tryz.prog 208 [vI k] [] (.v (vB (Dy k))) []:=by
 have hN:Bn=274877906944:=rfl
 refine Av Tryz.func208 Q4 Q4 (w:=let z1:S:= .v (vB (Ai k 1 8));(.seg [.call [] z1 []] (.leaf () []),(Fp 97 [vI k,vI 1,vI 8] [] z1 [])∧Lf z1 (.v (vB (Dy k))) [] [])) Q4 ?_
 exact⟨(Cc _ _ _),(congrArg S.v (congrArg V.c (congrArg C.bool (by rfl)))),rfl⟩
theorem Ue (k:Int):Fun Tryz.prog 157 [vI k] [] (.v (vB (Dy k))) []:=by
 have hN:Bn=274877906944:=rfl
 refine Av Tryz.func157 Q4 Q4 (w:=let z1:S:= .v (vB (Ai k 1 8));(.seg [.call [] z1 []] (.leaf () []),(Fp 44 [vI k,vI 1,vI 8] [] z1 [])∧Lf z1 (.v (vB (Dy k))) [] [])) Q4 ?_
 exact⟨(Bw _ _ _),(congrArg S.v (congrArg V.c (congrArg C.bool (by rfl)))),rfl⟩
theorem Zy (k:Int):Fun Tryz.prog 209 [vI k] [] (.v (vB (Cf k))) []:=by
 have hN:Bn=274877906944:=rfl
 refine Av Tryz.func209 Q4 Q4 (w:=let z1:S:= .v (vB (Ai k 1 5));(.seg [.call [] z1 []] (.leaf () []),(Fp 97 [vI k,vI 1,vI 5] [] z1 [])∧Lf z1 (.v (vB (Cf k))) [] [])) Q4 ?_
 exact⟨(Cc _ _ _),(congrArg S.v (congrArg V.c (congrArg C.bool (by rfl)))),rfl⟩
theorem Lq (k:Int):Fun Tryz.prog 158 [vI k] [] (.v (vB (Cf k))) []:=by
 have hN:Bn=274877906944:=rfl
 refine Av Tryz.func158 Q4 Q4 (w:=let z1:S:= .v (vB (Ai k 1 5));(.seg [.call [] z1 []] (.leaf () []),(Fp 44 [vI k,vI 1,vI 5] [] z1 [])∧Lf z1 (.v (vB (Cf k))) [] [])) Q4 ?_
 exact⟨(Bw _ _ _),(congrArg S.v (congrArg V.c (congrArg C.bool (by rfl)))),rfl⟩
theorem Ym (k:Int):Fun Tryz.prog 181 [vI k] [] (.v (vI (Ba k))) []:=by
 have hN:Bn=274877906944:=rfl
 refine Av Tryz.func181 Q4 Q4 (w:=let zi:Int→C:= .int .i64;let z1:=List.getD [0,0,0,5,1,2,2,2] (Int.toNat (k-1)) 0;(.seg [.call [] (.v (vB (Dy k))) []] (.br (.leaf () []) (.seg [.as 8 (.v (vI (k-1))),.ce (zi z1)] (.leaf () []))),(Fp 208 [vI k] [] (.v (vB (Dy k))) [])∧Bc (!(Dy k)) (Lf (.v (vI (-1))) (.v (vI (Ba k))) [] []) ((wI (k-1))∧((([zi 0,zi 0,zi 0,zi 5,zi 1,zi 2,zi 2,zi 2]:List C)[Int.toNat (k-1)]?)=some (zi z1))∧(k-1<((8:Nat):Int))∧((0:Int)≤k-1)∧Lf (.v (vI z1)) (.v (vI (Ba k))) [] []))) Q4 ?_
 refine⟨(Acm _),fun h1=>have q1:=Aq h1;have p1:=A7 q1;?_,fun h1=>have q1:=Ao h1;have p1:=Aw q1;?_⟩
 refine⟨(sI ?_),rfl⟩
 rotate_left
 refine⟨(Af Q2 Q2),(Aoa (l:=[0,0,0,5,1,2,2,2]) (by simp;omega)),Q2,Q2,(sI ?_),rfl⟩
 rotate_left
 all_goals first|(simp[Ba, *];done)|(rcases (show k=1∨k=2∨k=3∨k=4∨k=5∨k=6∨k=7∨k=8 by omega) with rfl|rfl|rfl|rfl|rfl|rfl|rfl|rfl<;>rfl)
theorem Ru (k:Int):Fun Tryz.prog 131 [vI k] [] (.v (vI (Ba k))) []:=by
 have hN:Bn=274877906944:=rfl
 refine Av Tryz.func131 Q4 Q4 (w:=let z1:S:= .v (vI (Ba k));(.seg [.call [] (.v (vB (Dy k))) []] (.br (.leaf () []) (.br (.leaf () []) (.br (.leaf () []) (.seg [.call [] (.v (vB (Cf k))) []] (.br (.leaf () []) (.leaf () [])))))),(Fp 157 [vI k] [] (.v (vB (Dy k))) [])∧Bc (!(Dy k)) (Lf (.v (vI (-1))) z1 [] []) (Bc (decide (k=4)) (Lf (.v (vI 5)) z1 [] []) (Bc (decide (k=5)) (Lf (.v (vI 1)) z1 [] []) ((Fp 158 [vI k] [] (.v (vB (Cf k))) [])∧Bc (Cf k) (Lf (.v (vI 0)) z1 [] []) (Lf (.v (vI 2)) z1 [] [])))))) Q4 ?_
 refine⟨(Ue _),fun h1=>have q1:=Aq h1;have p1:=A7 q1;?_,fun h1=>have q1:=Ao h1;have p1:=Aw q1;?_⟩
 refine⟨(sI ?_),rfl⟩
 rotate_left
 refine dsp (fun h2 p2=>?_) fun h2 p2=>?_
 refine⟨(sI ?_),rfl⟩
 rotate_left
 refine dsp (fun h3 p3=>?_) fun h3 p3=>?_
 refine⟨(sI ?_),rfl⟩
 rotate_left
 refine⟨(Lq _),fun h4=>have p4:=Aw h4;?_,fun h4=>have p4:=A7 h4;?_⟩
 refine⟨(sI ?_),rfl⟩
 rotate_left
 refine⟨(sI ?_),rfl⟩
 rotate_left
 all_goals first|(simp[Ba, *]<;>(repeat' split)<;>omega)|(subst_vars;rfl)
theorem Fj (w:Int):Fun Tryz.prog 171 [vI w] [] (.v (vI (Ak w))) []:=by
 have hN:Bn=274877906944:=rfl
 refine Av Tryz.func171 Q4 Q4 (w:=let z1:S:= .v (vI (Ak w));(.br (.leaf () []) (.br (.leaf () []) (.leaf () [])),Bc (decide (w=1)) (Lf (.v (vI 8)) z1 [] []) (Bc (decide (w=5)) (Lf (.v (vI 4)) z1 [] []) (Lf (.v (vI 0)) z1 [] [])))) Q4 ?_
 refine dsp (fun h1 p1=>?_) fun h1 p1=>?_
 exact⟨(congrArg S.v (congrArg V.c (congrArg (C.int .i64) (by simp[Ak, *])))),rfl⟩
 refine dsp (fun h2 p2=>?_) fun h2 p2=>?_
 exact⟨(congrArg S.v (congrArg V.c (congrArg (C.int .i64) (by simp[Ak, *])))),rfl⟩
 exact⟨(congrArg S.v (congrArg V.c (congrArg (C.int .i64) (by simp[Ak, *])))),rfl⟩
theorem J8 (w:Int):Fun Tryz.prog 127 [vI w] [] (.v (vI (Ak w))) []:=by
 have hN:Bn=274877906944:=rfl
 refine Av Tryz.func127 Q4 Q4 (w:=let z1:S:= .v (vI (Ak w));(.br (.leaf () []) (.br (.leaf () []) (.leaf () [])),Bc (decide (w=1)) (Lf (.v (vI 8)) z1 [] []) (Bc (decide (w=5)) (Lf (.v (vI 4)) z1 [] []) (Lf (.v (vI 0)) z1 [] [])))) Q4 ?_
 refine dsp (fun h1 p1=>?_) fun h1 p1=>?_
 exact⟨(congrArg S.v (congrArg V.c (congrArg (C.int .i64) (by simp[Ak, *])))),rfl⟩
 refine dsp (fun h2 p2=>?_) fun h2 p2=>?_
 exact⟨(congrArg S.v (congrArg V.c (congrArg (C.int .i64) (by simp[Ak, *])))),rfl⟩
 exact⟨(congrArg S.v (congrArg V.c (congrArg (C.int .i64) (by simp[Ak, *])))),rfl⟩
theorem Agf (f:Fld):Fun Tryz.prog 169 [.agg (Fv f)] [] (.v (vB (Vb f))) []:=by
 have hN:Bn=274877906944:=rfl
 refine Av Tryz.func169 Q4 Q4 (w:=let z1:S:= .v (vB (Cf f.kind));(.br (.seg [.call [] z1 []] (.leaf () [])) (.leaf () []),Bc f.rep ((Fp 209 [vI f.kind] [] z1 [])∧Lf z1 (.v (vB (Vb f))) [] []) (Lf (.v (vB false)) (.v (vB (Vb f))) [] []))) Q4 ?_
 refine⟨fun h1=>?_,fun h1=>?_⟩
 exact⟨(Zy _),(congrArg S.v (congrArg V.c (congrArg C.bool (by simp[Vb, *])))),rfl⟩
 exact⟨(congrArg S.v (congrArg V.c (congrArg C.bool (by simp[Vb, *])))),rfl⟩
theorem Agg (f:Fld):Fun Tryz.prog 129 [.agg (Fv f)] [] (.v (vB (Vb f))) []:=by
 have hN:Bn=274877906944:=rfl
 refine Av Tryz.func129 Q4 Q4 (w:=let z1:S:= .v (vB (Cf f.kind));(.br (.seg [.call [] z1 []] (.leaf () [])) (.leaf () []),Bc f.rep ((Fp 158 [vI f.kind] [] z1 [])∧Lf z1 (.v (vB (Vb f))) [] []) (Lf (.v (vB false)) (.v (vB (Vb f))) [] []))) Q4 ?_
 refine⟨fun h1=>?_,fun h1=>?_⟩
 exact⟨(Lq _),(congrArg S.v (congrArg V.c (congrArg C.bool (by simp[Vb, *])))),rfl⟩
 exact⟨(congrArg S.v (congrArg V.c (congrArg C.bool (by simp[Vb, *])))),rfl⟩
theorem J9 (f:Fld) (w:Int) (hp1:(0:Int)≤w):Fun Tryz.prog 170 [.agg (Fv f),vI w] [] (.v (vB (Dt f w))) []:=by
 have hN:Bn=274877906944:=rfl
 refine Av Tryz.func170 Q4 Q4 (w:=let z1:S:= .v (vB (Dt f w));let z2:S:= .v (vB (Vb f));(.seg [.call [] (.v (vI (Ba f.kind))) []] (.br (.leaf () []) (.br (.seg [.call [] z2 []] (.leaf () [])) (.leaf () []))),(Fp 181 [vI f.kind] [] (.v (vI (Ba f.kind))) [])∧Bc (decide (w=Ba f.kind)) (Lf (.v (vB true)) z1 [] []) (Bc (decide (w=2)) ((Fp 169 [.agg (Fv f)] [] z2 [])∧Lf z2 z1 [] []) (Lf (.v (vB false)) z1 [] [])))) Q4 ?_
 refine⟨(Ym _),dsp (fun h1 p1=>?_) fun h1 p1=>?_⟩
 refine⟨(sB ?_),rfl⟩
 rotate_left
 refine dsp (fun h2 p2=>?_) fun h2 p2=>?_
 refine⟨(Agf f),(sB ?_),rfl⟩
 rotate_left
 refine⟨(sB ?_),rfl⟩
 rotate_left
 all_goals first|(simp[Dt, *]<;>(repeat' split)<;>omega)|(simp[Dt,Ba, *]<;>(repeat' split)<;>omega)
theorem Agh (f:Fld) (w:Int) (hp1:(0:Int)≤w):Fun Tryz.prog 128 [.agg (Fv f),vI w] [] (.v (vB (Dt f w))) []:=by
 have hN:Bn=274877906944:=rfl
 refine Av Tryz.func128 Q4 Q4 (w:=let z1:S:= .v (vB (Dt f w));let z2:S:= .v (vB (Vb f));(.seg [.call [] (.v (vB (Dy f.kind))) []] (.br (.seg [.call [] (.v (vI (Ba f.kind))) []] (.br (.leaf () []) (.br (.seg [.call [] z2 []] (.leaf () [])) (.leaf () [])))) (.br (.seg [.call [] z2 []] (.leaf () [])) (.leaf () []))),(Fp 157 [vI f.kind] [] (.v (vB (Dy f.kind))) [])∧Bc (Dy f.kind) ((Fp 131 [vI f.kind] [] (.v (vI (Ba f.kind))) [])∧Bc (decide (w=Ba f.kind)) (Lf (.v (vB true)) z1 [] []) (Bc (decide (w=2)) ((Fp 129 [.agg (Fv f)] [] z2 [])∧Lf z2 z1 [] []) (Lf (.v (vB false)) z1 [] []))) (Bc (decide (w=2)) ((Fp 129 [.agg (Fv f)] [] z2 [])∧Lf z2 z1 [] []) (Lf (.v (vB false)) z1 [] [])))) Q4 ?_
 refine⟨(Ue _),fun h1=>have p1:=Aw h1;?_,fun h1=>have p1:=A7 h1;?_⟩
 refine⟨(Ru _),dsp (fun h2 p2=>?_) fun h2 p2=>?_⟩
 refine⟨(sB ?_),rfl⟩
 rotate_left
 refine dsp (fun h3 p3=>?_) fun h3 p3=>?_
 refine⟨(Agg f),(sB ?_),rfl⟩
 rotate_left
 refine⟨(sB ?_),rfl⟩
 rotate_left
 refine dsp (fun h2 p2=>?_) fun h2 p2=>?_
 refine⟨(Agg f),(sB ?_),rfl⟩
 rotate_left
 refine⟨(sB ?_),rfl⟩
 rotate_left
 all_goals first|(simp[Dt, *]<;>(repeat' split)<;>omega)|(simp[Dt,Ba, *]<;>(repeat' split)<;>omega)
structure Mu where
 u:Int
 out:List Int
def Mv (u:Int):Fam:=⟨Mu,fun q1=>[(0,.v (.c (.int .u64 q1.u))),(3,.v (vO 0))],fun q1=>[.lst .u8 q1.out],fun q1=>(0:Int)≤q1.u∧q1.u≤18446744073709551615∧List.map Bk q1.out++Dz q1.u=Dz u∧q1.out.length+List.length (Dz q1.u)≤10,fun q1=>q1.u.toNat⟩
theorem Uf (u:Int) (hp1:(0:Int)≤u∧u≤18446744073709551615):Fun Tryz.prog 202 [.c (.int .u64 u)] [] (.v (vT (Dz u))) []:=by
 have hN:Bn=274877906944:=rfl
 refine Av Tryz.func202 Q4 Q4 (w:=let z2:=Mv u;(.seg [.ty .u8,.at 0,.keep [0,3],.sel [0]] (.loop z2 fun q1=> .br (.seg [.as 9 (.v (.c (.int .u64 (q1.u % 128)))),.as 10 (.v (.c (.int .u64 (q1.u % 128+128)))),.as 11 (.v (.c (.int .u8 (q1.u % 128+128)))),.ty .u8,.ty .u8,.as 15 (.v (.c (.int .u64 (q1.u / 128)))),.at 0,.keep [0,3],.sel [2]] (.next)) (.seg [.as 18 (.v (.c (.int .u8 q1.u))),.ty .u8,.ty .u8] (.leaf () []))),z2.Has [(0,.v (.c (.int .u64 u))),(3,.v (vO 0))] [.lst .u8 ([]:List Int)]∧∀q1,z2.inv q1→(let z1:=q1.u % 128+128;Bc (decide (127<q1.u)) (((128:Int)≠0)∧((.v (.c (.int .u64 (Int.tmod q1.u 128))):S)= .v (.c (.int .u64 (q1.u % 128))))∧((.v (.c (.int .u64 (IntKind.u64.wrap ((q1.u % 128)+128)))):S)= .v (.c (.int .u64 z1)))∧((.v (.c (.int .u8 (IntKind.u8.wrap z1))):S)= .v (.c (.int .u8 z1)))∧(q1.out.length+List.length [q1.u % 128+128]≤Bn)∧((128:Int)≠0)∧((.v (.c (.int .u64 (IntKind.u64.wrap (Int.tdiv q1.u 128)))):S)= .v (.c (.int .u64 (q1.u / 128))))∧z2.Nxt q1 [(0,.v (.c (.int .u64 (q1.u / 128)))),(3,.v (vO 0))] [.lst .u8 (q1.out++[q1.u % 128+128])]) (((.v (.c (.int .u8 (IntKind.u8.wrap (q1.u)))):S)= .v (.c (.int .u8 q1.u)))∧(q1.out.length+List.length [q1.u]≤Bn)∧Lf (.v (vT (List.map Bk (q1.out++[q1.u])))) (.v (vT (Dz u))) [] [])))) Q4 ?_
 refine⟨Cm (j:=(⟨u,([]:List Int)⟩:Mu)) rfl rfl (by dsimp only[Mv];exact⟨by omega,by omega,by simp,by have:=Acd (u:=u) Q2;unfold Ku at this;simp;omega⟩),fun (q1:Mu) hq_q1=>?_⟩
 have hi_q1:(0:Int)≤q1.u∧q1.u≤18446744073709551615∧List.map Bk q1.out++Dz q1.u=Dz u∧q1.out.length+List.length (Dz q1.u)≤10:=hq_q1
 obtain ⟨v1,v2,v3,v4⟩:=hi_q1
 refine dsp (fun h1 p1=>?_) fun h1 p1=>?_
 exact⟨Q18,(Ye Q2),(Bs Q2 Q2),(P9 Q2 Q2),(by have:=W3 q1.u;simp;omega),Q18,(Va Q2 Q2 Q18),Be (j:=(⟨q1.u / 128,q1.out++[q1.u % 128+128]⟩:Mu)) rfl rfl (by dsimp only[Mv];exact⟨by omega,by omega,by rw[←v3,W1 (u:=q1.u) (by omega) (by omega)];simp[Bk],by rw[W1 (u:=q1.u) (by omega) (by omega)] at v4;simp at v4 ⊢;omega⟩) (by dsimp only[Mv];omega)⟩
 refine⟨(P9 Q2 Q2),(by have:=W3 q1.u;simp;omega),(congrArg S.v (congrArg V.c (congrArg C.str ?_))),rfl⟩
 rotate_left
 all_goals rw[←v3,Zo (u:=q1.u) (by omega) (by omega)];simp[Bk]
structure F6 where
 u:Int
 k:Nat
def F7 (s:List UInt8) (at_:Int) (end_:Int):Fam:=⟨F6,fun q1=>[(0,.v (vT s)),(1,.v (vI at_)),(2,.v (vI end_)),(9,.v (.c (.int .u64 q1.u))),(10,.v (vI (q1.k:Int)))],fun _=>[],fun q1=>q1.k≤9∧(0:Int)≤q1.u∧q1.u<2 ^ (7*q1.k)∧vwA s at_ end_ (10-q1.k) (((q1.k:Nat)):Int) q1.u=Ae s at_ end_,fun q1=>10-q1.k⟩
theorem Vk (s:List UInt8) (at_:Int) (end_:Int) (hp1:s.length≤Bn):Fun Tryz.prog 93 [vT s,vI at_,vI end_] [] (.tup [.c (.int .u64 (Ae s at_ end_).1),vI (Ae s at_ end_).2.1,vI (Ae s at_ end_).2.2]) []:=by
 have hN:Bn=274877906944:=rfl
 refine Av Tryz.func93 Q4 Q4 (w:=let z7:=(s.length:Int);let z8:=F7 s at_ end_;let z10:=Ae s at_ end_;let z6:S:= .tup [.c (.int .u64 z10.1),vI z10.2.1,vI z10.2.2];let z9:=Lf (.tup [.c (.int .u64 0),vI z7,vI 10]) z6 [] [];(.seg [.call [] (.v (vB (Ai at_ 0 z7))) []] (.br (.leaf () []) (.seg [.at 0,.keep [0,1,2,9,10],.sel []] (.loop z8 fun q1=>let z4:=(q1.k:Int);.seg [.br true,.as 26 (.v (vI (at_+z4)))] (.br (.leaf () []) (.seg [.as 33 (.v (vI (at_+z4)))] (.br (.leaf () []) (.seg [.as 42 (.v (vI (at_+z4)))] (.intro (Sx (s[Int.toNat (at_+z4)]?)) fun x1=>let z1:=((UInt8.toNat x1:Nat):Int) % 128;.seg [.ch x1,.as 44 (.v (.c (.int .u64 ((UInt8.toNat x1:Nat):Int))))] (.br (.br (.seg [.as 53 (.v (vI (at_+z4)))] (.leaf () [])) (.seg [.as 56 (.v (.c (.int .u64 z1))),.as 58 (.v (vI (7*z4))),.as 59 (.v (.c (.int .u64 (7*z4)))),.as 60 (.v (.c (.int .u64 (z1*2 ^ (7*q1.k))))),.as 61 (.v (.c (.int .u64 (q1.u+(z1*2 ^ (7*q1.k))))))] (.br (.seg [.as 67 (.v (vI (at_+z4))),.as 68 (.v (vI (at_+z4+1)))] (.leaf () [])) (.seg [.as 22 (.v (vI (z4+1))),.at 0,.keep [0,1,2,9,10],.sel []] (.next))))) (.seg [.as 56 (.v (.c (.int .u64 z1))),.as 58 (.v (vI (7*z4))),.as 59 (.v (.c (.int .u64 (7*z4)))),.as 60 (.v (.c (.int .u64 (z1*2 ^ (7*q1.k))))),.as 61 (.v (.c (.int .u64 (q1.u+(z1*2 ^ (7*q1.k))))))] (.br (.seg [.as 67 (.v (vI (at_+z4))),.as 68 (.v (vI (at_+z4+1)))] (.leaf () [])) (.seg [.as 22 (.v (vI (z4+1))),.at 0,.keep [0,1,2,9,10],.sel []] (.next))))))))))))),(Fp 44 [vI at_,vI 0,vI z7] [] (.v (vB (Ai at_ 0 z7))) [])∧Bc (!(Ai at_ 0 z7)) z9 (z8.Has [(0,.v (vT s)),(1,.v (vI at_)),(2,.v (vI end_)),(9,.v (.c (.int .u64 0))),(10,.v (vI 0))] []∧∀q1,z8.inv q1→(let z5:=(q1.k:Int);((decide (z5<10))=true)∧(wI (at_+z5))∧Bc (decide (end_≤at_+z5)) (Lf (.tup [.c (.int .u64 0),vI end_,vI 9]) z6 [] []) ((wI (at_+z5))∧Bc (decide (z7≤at_+z5)) z9 ((wI (at_+z5))∧El (s[Int.toNat (at_+z5)]?) fun x1=>(let z3:=((UInt8.toNat x1:Nat):Int);let z2:=((128:Int)≠0)∧((.v (.c (.int .u64 (Int.tmod z3 128))):S)= .v (.c (.int .u64 (z3 % 128))))∧(wI (7*z5))∧(wU (7*z5))∧((0:Int)≤7*z5)∧((.v (.c (.int .u64 (IntKind.u64.wrap ((z3 % 128)*2 ^ min (Int.toNat (7*z5)) 64)))):S)= .v (.c (.int .u64 ((z3 % 128)*2 ^ (7*q1.k)))))∧(wU (q1.u+((z3 % 128)*2 ^ (7*q1.k))))∧Bc (decide (z3<128)) ((wI (at_+z5))∧((.v (vI (IntKind.i64.wrap ((at_+z5)+1))):S)= .v (vI (at_+z5+1)))∧Lf (.tup [.c (.int .u64 (q1.u+((z3 % 128)*2 ^ (7*q1.k)))),vI (at_+z5+1),vI 0]) z6 [] []) ((wI (z5+1))∧z8.Nxt q1 [(0,.v (vT s)),(1,.v (vI at_)),(2,.v (vI end_)),(9,.v (.c (.int .u64 (q1.u+((z3 % 128)*2 ^ (7*q1.k)))))),(10,.v (vI (z5+1)))] []);(s[Int.toNat (at_+z5)]? =some x1)∧((0:Int)≤at_+z5)∧(wU (z3))∧Bc (decide (z5=9)) (Bc (decide (1<z3)) ((wI (at_+z5))∧Lf (.tup [.c (.int .u64 0),vI (at_+z5),vI 1]) z6 [] []) z2) z2))))))) Q4 ?_
 refine⟨(Bw _ _ _),fun h1=>have q1:=Aq h1;have p1:=A7 q1;?_,fun h1=>have q1:=Ao h1;have p1:=Aw q1;?_⟩
 refine⟨(congrArg S.tup (Ac (congrArg V.c (congrArg (C.int .u64) ?_)) (Ac (congrArg V.c (congrArg (C.int .i64) ?_)) (Ac (congrArg V.c (congrArg (C.int .i64) ?_)) rfl)))),rfl⟩
 rotate_left 3
 have hw:Ai at_ 0 (s.length:Int)=true:=by simpa using h1
 refine⟨Cm (j:=(⟨0,0⟩:F6)) Q9 rfl (by dsimp only[F7];exact⟨by omega,by omega,by decide,by simp[Ae,hw]⟩),fun (q1:F6) hq_q1=>?_⟩
 have hi_q1:q1.k≤9∧(0:Int)≤q1.u∧q1.u<2 ^ (7*q1.k)∧vwA s at_ end_ (10-q1.k) (((q1.k:Nat)):Int) q1.u=Ae s at_ end_:=hq_q1
 obtain ⟨v1,v2,v3,v4⟩:=hi_q1
 obtain ⟨f,hf⟩: ∃f,10-q1.k=f+1:=⟨9-q1.k,by omega⟩
 rw[hf,vwA] at v4
 have e7:Int.toNat (7*(q1.k:Int))=7*q1.k:=by omega
 refine⟨(by simp;omega),(Af Q2 Q2),dsp (fun h2 p2=>?_) fun h2 p2=>?_⟩
 rw[if_pos p2] at v4
 refine⟨(congrArg S.tup (Ac (congrArg V.c (congrArg (C.int .u64) ?_)) (Ac (congrArg V.c (congrArg (C.int .i64) ?_)) (Ac (congrArg V.c (congrArg (C.int .i64) ?_)) rfl)))),rfl⟩
 rotate_left 3
 rw[if_neg p2] at v4
 refine⟨(Af Q2 Q2),dsp (fun h3 p3=>?_) fun h3 p3=>?_⟩
 rw[if_pos p3] at v4
 refine⟨(congrArg S.tup (Ac (congrArg V.c (congrArg (C.int .u64) ?_)) (Ac (congrArg V.c (congrArg (C.int .i64) ?_)) (Ac (congrArg V.c (congrArg (C.int .i64) ?_)) rfl)))),rfl⟩
 rotate_left 3
 rw[if_neg p3] at v4
 refine⟨(Af Q2 Q2),(Bo (l:=s) (i:=Int.toNat (at_+(q1.k:Int))) Q2),fun x1 hx1=>?_⟩
 have hb_x1:=UInt8.toNat_lt x1
 have he:=U9 (d:=0) hx1
 have hv:=fun h9=>Af5 (c:=(x1.toNat:Int) % 128) (k:=q1.k) (by omega) (by omega) (by omega) h9
 refine⟨hx1,Q2,(Bs Q2 Q2),dsp (fun h4 p4=>?_) fun h4 p4=>?_⟩
 refine dsp (fun h5 p5=>?_) fun h5 p5=>?_
 rw[if_pos ⟨by omega,by rw[he];omega⟩] at v4
 refine⟨(Af Q2 Q2),(congrArg S.tup (Ac (congrArg V.c (congrArg (C.int .u64) ?_)) (Ac (congrArg V.c (congrArg (C.int .i64) ?_)) (Ac (congrArg V.c (congrArg (C.int .i64) ?_)) rfl)))),rfl⟩
 rotate_left 3
 rw[if_neg (by rw[he];omega)] at v4
 refine⟨Q18,(Ye Q2),(Af Q2 Q2),(Bs Q2 Q2),Q2,(Zp Q2 Q2 Q2 (by intro h;omega)),(Bs Q2 Q2),dsp (fun h6 p6=>?_) fun h6 p6=>?_⟩
 have hv:=hv (by intro h;omega)
 rw[he,e7] at v4
 rw[if_pos p6] at v4
 refine⟨(Af Q2 Q2),(Af Q2 Q2),(congrArg S.tup (Ac (congrArg V.c (congrArg (C.int .u64) ?_)) (Ac (congrArg V.c (congrArg (C.int .i64) ?_)) (Ac (congrArg V.c (congrArg (C.int .i64) ?_)) rfl)))),rfl⟩
 rotate_left 3
 have hv:=hv (by intro h;omega)
 rw[he,e7] at v4
 rw[if_neg p6] at v4
 exact⟨(Af Q2 Q2),Be (j:=(⟨q1.u+((((UInt8.toNat x1:Nat):Int) % 128)*2 ^ (7*q1.k)),q1.k+1⟩:F6)) Q9 rfl Q48 (by dsimp only[F7];omega)⟩
 rw[if_neg (by omega)] at v4
 refine⟨Q18,(Ye Q2),(Af Q2 Q2),(Bs Q2 Q2),Q2,(Zp Q2 Q2 Q2 (by intro h;omega)),(Bs Q2 Q2),dsp (fun h5 p5=>?_) fun h5 p5=>?_⟩
 have hv:=hv (by intro h;omega)
 rw[he,e7] at v4
 rw[if_pos p5] at v4
 refine⟨(Af Q2 Q2),(Af Q2 Q2),(congrArg S.tup (Ac (congrArg V.c (congrArg (C.int .u64) ?_)) (Ac (congrArg V.c (congrArg (C.int .i64) ?_)) (Ac (congrArg V.c (congrArg (C.int .i64) ?_)) rfl)))),rfl⟩
 rotate_left 3
 have hv:=hv (by intro h;omega)
 rw[he,e7] at v4
 rw[if_neg p5] at v4
 exact⟨(Af Q2 Q2),Be (j:=(⟨q1.u+((((UInt8.toNat x1:Nat):Int) % 128)*2 ^ (7*q1.k)),q1.k+1⟩:F6)) Q9 rfl Q48 (by dsimp only[F7];omega)⟩
 all_goals first|(rw[←v4])|(simp[Ae, *];done)
structure Gm where
 u:Int
 i:Int
def Hp (s:List UInt8) (at_:Int) (w:Int):Fam:=⟨Gm,fun q1=>[(0,.v (vT s)),(1,.v (vI at_)),(8,.v (.c (.int .u64 q1.u))),(9,.v (vI q1.i))],fun _=>[],fun q1=>(-1:Int)≤q1.i∧q1.i<w∧q1.u=((Cg (List.take (Int.toNat (w-1-q1.i)) (List.drop (Int.toNat (at_+q1.i+1)) s)):Nat):Int),fun q1=>Int.toNat (q1.i+1)⟩
theorem Ai3 (s:List UInt8) (at_:Int) (w:Int) (hp1:s.length≤Bn):Fun Tryz.prog 231 [vT s,vI at_,vI w] [] (.tup [.c (.int .u64 (Ln s at_ w)),vB (Dx s at_ w)]) []:=by
 have hN:Bn=274877906944:=rfl
 refine Av Tryz.func231 Q4 Q4 (w:=let z3:=(s.length:Int)-w;let z4:S:= .tup [.c (.int .u64 (Ln s at_ w)),vB (Dx s at_ w)];let z5:=Hp s at_ w;let z6:=Lf (.tup [.c (.int .u64 0),vB false]) z4 [] [];let z7:S:= .v (vB (Ai at_ 0 z3));(.br (.br (.leaf () []) (.seg [.as 21 (.v (vI z3)),.call [] z7 []] (.br (.leaf () []) (.seg [.as 26 (.v (vI (w-1))),.at 0,.keep [0,1,8,9],.sel []] (.loop z5 fun q1=> .br (.seg [.as 32 (.v (.c (.int .u64 (256*q1.u)))),.as 36 (.v (vI (at_+q1.i)))] (.intro (Sx (s[Int.toNat (at_+q1.i)]?)) fun x1=> .seg [.ch x1,.as 38 (.v (.c (.int .u64 ((UInt8.toNat x1:Nat):Int)))),.as 39 (.v (.c (.int .u64 ((256*q1.u)+((UInt8.toNat x1:Nat):Int))))),.as 30 (.v (vI (q1.i-1))),.at 0,.keep [0,1,8,9],.sel []] (.next))) (.leaf () [])))))) (.seg [.as 21 (.v (vI z3)),.call [] z7 []] (.br (.leaf () []) (.seg [.as 26 (.v (vI (w-1))),.at 0,.keep [0,1,8,9],.sel []] (.loop z5 fun q1=> .br (.seg [.as 32 (.v (.c (.int .u64 (256*q1.u)))),.as 36 (.v (vI (at_+q1.i)))] (.intro (Sx (s[Int.toNat (at_+q1.i)]?)) fun x1=> .seg [.ch x1,.as 38 (.v (.c (.int .u64 ((UInt8.toNat x1:Nat):Int)))),.as 39 (.v (.c (.int .u64 ((256*q1.u)+((UInt8.toNat x1:Nat):Int))))),.as 30 (.v (vI (q1.i-1))),.at 0,.keep [0,1,8,9],.sel []] (.next))) (.leaf () []))))),Bc (!decide (w=4)) (Bc (!decide (w=8)) z6 ((wI z3)∧(Fp 44 [vI at_,vI 0,vI z3] [] z7 [])∧Bc (!(Ai at_ 0 z3)) z6 ((wI (w-1))∧z5.Has [(0,.v (vT s)),(1,.v (vI at_)),(8,.v (.c (.int .u64 0))),(9,.v (vI (w-1)))] []∧∀q1,z5.inv q1→(Bc (decide (0≤q1.i)) ((wU (256*q1.u))∧(wI (at_+q1.i))∧El (s[Int.toNat (at_+q1.i)]?) fun x1=>(let z1:=((UInt8.toNat x1:Nat):Int);(s[Int.toNat (at_+q1.i)]? =some x1)∧((0:Int)≤at_+q1.i)∧(wU (z1))∧(wU ((256*q1.u)+z1))∧(wI (q1.i-1))∧z5.Nxt q1 [(0,.v (vT s)),(1,.v (vI at_)),(8,.v (.c (.int .u64 ((256*q1.u)+z1)))),(9,.v (vI (q1.i-1)))] [])) (Lf (.tup [.c (.int .u64 q1.u),vB true]) z4 [] []))))) ((wI z3)∧(Fp 44 [vI at_,vI 0,vI z3] [] z7 [])∧Bc (!(Ai at_ 0 z3)) z6 ((wI (w-1))∧z5.Has [(0,.v (vT s)),(1,.v (vI at_)),(8,.v (.c (.int .u64 0))),(9,.v (vI (w-1)))] []∧∀q1,z5.inv q1→(Bc (decide (0≤q1.i)) ((wU (256*q1.u))∧(wI (at_+q1.i))∧El (s[Int.toNat (at_+q1.i)]?) fun x1=>(let z2:=((UInt8.toNat x1:Nat):Int);(s[Int.toNat (at_+q1.i)]? =some x1)∧((0:Int)≤at_+q1.i)∧(wU (z2))∧(wU ((256*q1.u)+z2))∧(wI (q1.i-1))∧z5.Nxt q1 [(0,.v (vT s)),(1,.v (vI at_)),(8,.v (.c (.int .u64 ((256*q1.u)+z2)))),(9,.v (vI (q1.i-1)))] [])) (Lf (.tup [.c (.int .u64 q1.u),vB true]) z4 [] [])))))) Q4 ?_
 refine⟨fun h1=>have q1:=Aq h1;have p1:=of_decide_eq_false q1;?_,fun h1=>have q1:=Ao h1;have p1:=of_decide_eq_true q1;?_⟩
 refine⟨fun h2=>have q2:=Aq h2;have p2:=of_decide_eq_false q2;?_,fun h2=>have q2:=Ao h2;have p2:=of_decide_eq_true q2;?_⟩
 refine⟨(congrArg S.tup (Ac (congrArg V.c (congrArg (C.int .u64) ?_)) (Ac (congrArg V.c (congrArg C.bool ?_)) rfl))),rfl⟩
 rotate_left 2
 refine⟨(Af Q2 Q2),(Bw _ _ _),fun h3=>have q3:=Aq h3;have p3:=A7 q3;?_,fun h3=>have q3:=Ao h3;have p3:=Aw q3;?_⟩
 refine⟨(congrArg S.tup (Ac (congrArg V.c (congrArg (C.int .u64) ?_)) (Ac (congrArg V.c (congrArg C.bool ?_)) rfl))),rfl⟩
 rotate_left 2
 refine⟨(Af Q2 Q2),Cm (j:=(⟨0,w-1⟩:Gm)) rfl rfl (by dsimp only[Hp];exact⟨by omega,by omega,by simp[Cg]⟩),fun (q1:Gm) hq_q1=>?_⟩
 have hi_q1:(-1:Int)≤q1.i∧q1.i<w∧q1.u=((Cg (List.take (Int.toNat (w-1-q1.i)) (List.drop (Int.toNat (at_+q1.i+1)) s)):Nat):Int):=hq_q1
 obtain ⟨v1,v2,v3⟩:=hi_q1
 have hw8:w=4∨w=8:=by omega
 have hlt:=Pt (l:=List.take (Int.toNat (w-1-q1.i)) (List.drop (Int.toNat (at_+q1.i+1)) s)) (k:=Int.toNat (w-1-q1.i)) (by rw[List.length_take];omega)
 have hu0:(0:Int)≤q1.u:=by rw[v3];exact Int.natCast_nonneg _
 refine dsp (fun h4 p4=>?_) fun h4 p4=>?_
 have hle:Cg (List.take (Int.toNat (w-1-q1.i)) (List.drop (Int.toNat (at_+q1.i+1)) s))<2 ^ 56:=Nat.lt_of_lt_of_le hlt (Nat.pow_le_pow_right (by decide) (by omega))
 have hu1:q1.u<72057594037927936:=by rw[v3];omega
 refine⟨(Bs Q2 Q2),(Af Q2 Q2),(Bo (l:=s) (i:=Int.toNat (at_+q1.i)) Q2),fun x1 hx1=>?_⟩
 have hb_x1:=UInt8.toNat_lt x1
 exact⟨hx1,Q2,(Bs Q2 Q2),(Bs Q2 Q2),(Af Q2 Q2),Be (j:=(⟨(256*q1.u)+((UInt8.toNat x1:Nat):Int),q1.i-1⟩:Gm)) rfl rfl Q37 (by dsimp only[Hp];omega)⟩
 have hok:Dx s at_ w=true:=by simp[Dx,Qs,Ai];omega
 have hvw:q1.i= -1:=by omega
 rw[hvw] at v3
 have hr:q1.u=Ln s at_ w:=by rw[Ln,if_pos hok,v3,show Int.toNat (w-1- -1)=w.toNat by omega,show Int.toNat (at_+ -1+1)=at_.toNat by omega]
 refine⟨(congrArg S.tup (Ac (congrArg V.c (congrArg (C.int .u64) ?_)) (Ac (congrArg V.c (congrArg C.bool ?_)) rfl))),rfl⟩
 rotate_left 2
 refine⟨(Af Q2 Q2),(Bw _ _ _),fun h2=>have q2:=Aq h2;have p2:=A7 q2;?_,fun h2=>have q2:=Ao h2;have p2:=Aw q2;?_⟩
 refine⟨(congrArg S.tup (Ac (congrArg V.c (congrArg (C.int .u64) ?_)) (Ac (congrArg V.c (congrArg C.bool ?_)) rfl))),rfl⟩
 rotate_left 2
 refine⟨(Af Q2 Q2),Cm (j:=(⟨0,w-1⟩:Gm)) rfl rfl (by dsimp only[Hp];exact⟨by omega,by omega,by simp[Cg]⟩),fun (q1:Gm) hq_q1=>?_⟩
 have hi_q1:(-1:Int)≤q1.i∧q1.i<w∧q1.u=((Cg (List.take (Int.toNat (w-1-q1.i)) (List.drop (Int.toNat (at_+q1.i+1)) s)):Nat):Int):=hq_q1
 obtain ⟨v1,v2,v3⟩:=hi_q1
 have hw8:w=4∨w=8:=by omega
 have hlt:=Pt (l:=List.take (Int.toNat (w-1-q1.i)) (List.drop (Int.toNat (at_+q1.i+1)) s)) (k:=Int.toNat (w-1-q1.i)) (by rw[List.length_take];omega)
 have hu0:(0:Int)≤q1.u:=by rw[v3];exact Int.natCast_nonneg _
 refine dsp (fun h3 p3=>?_) fun h3 p3=>?_
 have hle:Cg (List.take (Int.toNat (w-1-q1.i)) (List.drop (Int.toNat (at_+q1.i+1)) s))<2 ^ 56:=Nat.lt_of_lt_of_le hlt (Nat.pow_le_pow_right (by decide) (by omega))
 have hu1:q1.u<72057594037927936:=by rw[v3];omega
 refine⟨(Bs Q2 Q2),(Af Q2 Q2),(Bo (l:=s) (i:=Int.toNat (at_+q1.i)) Q2),fun x1 hx1=>?_⟩
 have hb_x1:=UInt8.toNat_lt x1
 exact⟨hx1,Q2,(Bs Q2 Q2),(Bs Q2 Q2),(Af Q2 Q2),Be (j:=(⟨(256*q1.u)+((UInt8.toNat x1:Nat):Int),q1.i-1⟩:Gm)) rfl rfl Q37 (by dsimp only[Hp];omega)⟩
 have hok:Dx s at_ w=true:=by simp[Dx,Qs,Ai];omega
 have hvw:q1.i= -1:=by omega
 rw[hvw] at v3
 have hr:q1.u=Ln s at_ w:=by rw[Ln,if_pos hok,v3,show Int.toNat (w-1- -1)=w.toNat by omega,show Int.toNat (at_+ -1+1)=at_.toNat by omega]
 refine⟨(congrArg S.tup (Ac (congrArg V.c (congrArg (C.int .u64) ?_)) (Ac (congrArg V.c (congrArg C.bool ?_)) rfl))),rfl⟩
 rotate_left 2
 all_goals first|(exact hr)|(exact hok.symm)|(simp_all[Dx,Ln,Qs];done)
theorem Co (n:Int) (w:Int):Fun Tryz.prog 222 [vI n,vI w] [] (.v (.c (.int .u64 (Ct n w)))) []:=by
 have hN:Bn=274877906944:=rfl
 refine Av Tryz.func222 Q4 Q4 (w:=let z2:=(8*n)+w;let z3:=Ai n 1 536870911;let z4:S:= .v (.c (.int .u64 (Ct n w)));let z1:=Lf (.v (.c (.int .u64 0))) z4 [] [];(.seg [.call [] (.v (vB z3)) []] (.br (.leaf () []) (.seg [.call [] (.v (vB (Ai w 0 7))) []] (.br (.leaf () []) (.seg [.as 14 (.v (vI (8*n))),.as 16 (.v (vI z2)),.as 17 (.v (.c (.int .u64 z2)))] (.leaf () []))))),(Fp 44 [vI n,vI 1,vI 536870911] [] (.v (vB z3)) [])∧Bc (!z3) z1 ((Fp 44 [vI w,vI 0,vI 7] [] (.v (vB (Ai w 0 7))) [])∧Bc (!(Ai w 0 7)) z1 ((wI (8*n))∧(wI z2)∧(wU z2)∧Lf (.v (.c (.int .u64 z2))) z4 [] [])))) Q4 ?_
 refine⟨(Bw _ _ _),fun h1=>have q1:=Aq h1;have p1:=A7 q1;?_,fun h1=>have q1:=Ao h1;have p1:=Aw q1;?_⟩
 exact⟨(congrArg S.v (congrArg V.c (congrArg (C.int .u64) (by simp[Ct, *])))),rfl⟩
 refine⟨(Bw _ _ _),fun h2=>have q2:=Aq h2;have p2:=A7 q2;?_,fun h2=>have q2:=Ao h2;have p2:=Aw q2;?_⟩
 exact⟨(congrArg S.v (congrArg V.c (congrArg (C.int .u64) (by simp[Ct, *])))),rfl⟩
 exact⟨(Af Q2 Q2),(Af Q2 Q2),(Bs Q2 Q2),(congrArg S.v (congrArg V.c (congrArg (C.int .u64) (by simp[Ct, *])))),rfl⟩
theorem Amu (u:Int) (hp1:(0:Int)≤u∧u≤18446744073709551615):Fun Tryz.prog 216 [.c (.int .u64 u)] [] (.tup [vI (Bi u),vI (Ah u),vB (Kp u)]) []:=by
 have hN:Bn=274877906944:=rfl
 refine Av Tryz.func216 Q4 Q4 (w:=let z1:S:= .tup [vI (Bi u),vI (Ah u),vB (Kp u)];let z2:=(.v (.c (.int .u64 (Int.fdiv u (2 ^ 3)))):S)= .v (.c (.int .u64 (u / 8)));let z3:=Lf (.tup [vI 0,vI 0,vB false]) z1 [] [];(.br (.leaf () []) (.seg [.as 9 (.v (.c (.int .u64 (u / 8))))] (.br (.leaf () []) (.seg [.as 13 (.v (.c (.int .u64 (u / 8)))),.as 14 (.v (vI (u / 8))),.as 16 (.v (.c (.int .u64 (u % 8)))),.as 17 (.v (vI (u % 8)))] (.leaf () [])))),Bc (decide (u<8)) z3 (((0:Int)≤3)∧z2∧Bc (decide (536870911<u / 8)) z3 (((0:Int)≤3)∧z2∧(wI (u / 8))∧((.v (.c (.int .u64 (IntKind.u64.wrap (((BitVec.ofInt 64 u&&&BitVec.ofInt 64 7).toNat:Nat))))):S)= .v (.c (.int .u64 (u % 8))))∧(wI (u % 8))∧Lf (.tup [vI (u / 8),vI (u % 8),vB true]) z1 [] [])))) Q4 ?_
 refine dsp (fun h1 p1=>?_) fun h1 p1=>?_
 refine⟨(congrArg S.tup (Ac (congrArg V.c (congrArg (C.int .i64) ?_)) (Ac (congrArg V.c (congrArg (C.int .i64) ?_)) (Ac (congrArg V.c (congrArg C.bool ?_)) rfl)))),rfl⟩
 rotate_left 3
 refine⟨Q18,(Wz (k:=3) Q18 Q18),dsp (fun h2 p2=>?_) fun h2 p2=>?_⟩
 refine⟨(congrArg S.tup (Ac (congrArg V.c (congrArg (C.int .i64) ?_)) (Ac (congrArg V.c (congrArg (C.int .i64) ?_)) (Ac (congrArg V.c (congrArg C.bool ?_)) rfl)))),rfl⟩
 rotate_left 3
 refine⟨Q18,(Wz (k:=3) Q18 Q18),(Af Q2 Q2),(Aa6 (k:=3) Q18 Q18),(Af Q2 Q2),(congrArg S.tup (Ac (congrArg V.c (congrArg (C.int .i64) ?_)) (Ac (congrArg V.c (congrArg (C.int .i64) ?_)) (Ac (congrArg V.c (congrArg C.bool ?_)) rfl)))),rfl⟩
 rotate_left 3
 all_goals first|((have ht:Kp u=true:=by (simp[Kp,Ai];omega));simp[Bi,Ah,ht])|((have ht:Kp u=false:=by (simp[Kp,Ai];omega));simp[Bi,Ah,ht])
theorem Amv (u:Int) (hp1:(0:Int)≤u∧u≤18446744073709551615):Fun Tryz.prog 191 [.c (.int .u64 u)] [] (.tup [vI (Bi u),vI (Ah u),vB (Kp u)]) []:=by
 have hN:Bn=274877906944:=rfl
 refine Av Tryz.func191 Q4 Q4 (w:=let z1:S:= .tup [vI (Bi u),vI (Ah u),vB (Kp u)];let z2:=Lf (.tup [vI 0,vI 0,vB false]) z1 [] [];(.br (.leaf () []) (.br (.leaf () []) (.seg [.as 12 (.v (.c (.int .u64 (u / 8)))),.as 13 (.v (vI (u / 8))),.as 15 (.v (.c (.int .u64 (u % 8)))),.as 16 (.v (vI (u % 8)))] (.leaf () []))),Bc (decide (u<8)) z2 (Bc (decide (4294967295<u)) z2 (((8:Int)≠0)∧((.v (.c (.int .u64 (IntKind.u64.wrap (Int.tdiv u 8)))):S)= .v (.c (.int .u64 (u / 8))))∧(wI (u / 8))∧((8:Int)≠0)∧((.v (.c (.int .u64 (Int.tmod u 8))):S)= .v (.c (.int .u64 (u % 8))))∧(wI (u % 8))∧Lf (.tup [vI (u / 8),vI (u % 8),vB true]) z1 [] [])))) Q4 ?_
 refine dsp (fun h1 p1=>?_) fun h1 p1=>?_
 refine⟨(congrArg S.tup (Ac (congrArg V.c (congrArg (C.int .i64) ?_)) (Ac (congrArg V.c (congrArg (C.int .i64) ?_)) (Ac (congrArg V.c (congrArg C.bool ?_)) rfl)))),rfl⟩
 rotate_left 3
 refine dsp (fun h2 p2=>?_) fun h2 p2=>?_
 refine⟨(congrArg S.tup (Ac (congrArg V.c (congrArg (C.int .i64) ?_)) (Ac (congrArg V.c (congrArg (C.int .i64) ?_)) (Ac (congrArg V.c (congrArg C.bool ?_)) rfl)))),rfl⟩
 rotate_left 3
 refine⟨Q18,(Va Q2 Q2 Q18),(Af Q2 Q2),Q18,(Ye Q2),(Af Q2 Q2),(congrArg S.tup (Ac (congrArg V.c (congrArg (C.int .i64) ?_)) (Ac (congrArg V.c (congrArg (C.int .i64) ?_)) (Ac (congrArg V.c (congrArg C.bool ?_)) rfl)))),rfl⟩
 rotate_left 3
 all_goals first|((have ht:Kp u=true:=by (simp[Kp,Ai];omega));simp[Bi,Ah,ht])|((have ht:Kp u=false:=by (simp[Kp,Ai];omega));simp[Bi,Ah,ht])
theorem Agi (c:Int) (a:Int):Fun Tryz.prog 111 [vI c,vI a] [] (.v (.agg (cEv (Bh c a)))) []:=by
 have hN:Bn=274877906944:=rfl
 refine Av Tryz.func111 Q4 Q4 (w:=(.leaf () [],Lf (.v (.agg [.int .i64 10,.int .i64 0,.int .u64 0,.int .i64 0,.str [],.int .i64 c,.int .i64 a])) (.v (.agg (cEv (Bh c a)))) [] [])) Q4 ?_
 have hm1:Bh c a=(⟨10,0,0,0,[],c,a⟩:Ev):=by rfl
 exact⟨Q7,rfl⟩
theorem C5 (c:Int) (a:Int):Fun Tryz.prog 94 [vI c,vI a] [] (.v (.agg (cEv (Bh c a)))) []:=by
 have hN:Bn=274877906944:=rfl
 refine Av Tryz.func94 Q4 Q4 (w:=(.leaf () [],Lf (.v (.agg [.int .i64 10,.int .i64 0,.int .u64 0,.int .i64 0,.str [],.int .i64 c,.int .i64 a])) (.v (.agg (cEv (Bh c a)))) [] [])) Q4 ?_
 have hm1:Bh c a=(⟨10,0,0,0,[],c,a⟩:Ev):=by rfl
 exact⟨Q7,rfl⟩
theorem Xc (f:Fld) (u:Int) (hp1:(0:Int)≤u):Fun Tryz.prog 215 [.agg (Fv f),.c (.int .u64 u)] [] (.v (.agg (cEv (Ez f u)))) []:=by
 have hN:Bn=274877906944:=rfl
 refine Av Tryz.func215 Q4 Q4 (w:=let zi:Int→C:= .int .i64;let z1:List C:=[zi 2,zi f.number,.int .u64 u,zi 0,.str [],zi 0,zi 0];let z2:=Lf (.v (.agg z1)) (.v (.agg (cEv (Ez f u)))) [] [];(.br (.br (.leaf () []) (.leaf () [])) (.leaf () []),Bc (decide (f.kind=3)) (Bc (!decide (u=0)) (Lf (.v (.agg [zi 2,zi f.number,.int .u64 1,zi 0,.str [],zi 0,zi 0])) (.v (.agg (cEv (Ez f u)))) [] []) z2) z2)) Q4 ?_
 refine dsp (fun h1 p1=>?_) fun h1 p1=>?_
 refine⟨fun h2=>have q2:=Aq h2;have p2:=of_decide_eq_false q2;?_,fun h2=>have q2:=Ao h2;have p2:=of_decide_eq_true q2;?_⟩
 refine zE (Ez f u) (⟨2,f.number,1,0,[],0,0⟩:Ev) (fun hm1=>⟨Q7,rfl⟩) ?_
 rotate_left
 refine zE (Ez f u) (⟨2,f.number,u,0,[],0,0⟩:Ev) (fun hm1=>⟨Q7,rfl⟩) ?_
 rotate_left
 refine zE (Ez f u) (⟨2,f.number,u,0,[],0,0⟩:Ev) (fun hm1=>⟨Q7,rfl⟩) ?_
 rotate_left
 all_goals simp[Ez, *]<;>omega
theorem Xd (f:Fld) (u:Int) (hp1:(0:Int)≤u):Fun Tryz.prog 134 [.agg (Fv f),.c (.int .u64 u)] [] (.v (.agg (cEv (Ez f u)))) []:=by
 have hN:Bn=274877906944:=rfl
 refine Av Tryz.func134 Q4 Q4 (w:=let zi:Int→C:= .int .i64;let z1:List C:=[zi 2,zi f.number,.int .u64 u,zi 0,.str [],zi 0,zi 0];let z2:=Lf (.v (.agg z1)) (.v (.agg (cEv (Ez f u)))) [] [];(.br (.br (.leaf () []) (.leaf () [])) (.leaf () []),Bc (decide (f.kind=3)) (Bc (decide (1<u)) (Lf (.v (.agg [zi 2,zi f.number,.int .u64 1,zi 0,.str [],zi 0,zi 0])) (.v (.agg (cEv (Ez f u)))) [] []) z2) z2)) Q4 ?_
 refine dsp (fun h1 p1=>?_) fun h1 p1=>?_
 refine dsp (fun h2 p2=>?_) fun h2 p2=>?_
 refine zE (Ez f u) (⟨2,f.number,1,0,[],0,0⟩:Ev) (fun hm1=>⟨Q7,rfl⟩) ?_
 rotate_left
 refine zE (Ez f u) (⟨2,f.number,u,0,[],0,0⟩:Ev) (fun hm1=>⟨Q7,rfl⟩) ?_
 rotate_left
 refine zE (Ez f u) (⟨2,f.number,u,0,[],0,0⟩:Ev) (fun hm1=>⟨Q7,rfl⟩) ?_
 rotate_left
 all_goals simp[Ez, *]<;>omega
theorem Agj (u:Utf):Fun Tryz.prog 103 [.agg (Pa u)] [] (.v (vB (Ek u))) []:=by
 have hN:Bn=274877906944:=rfl
 refine Av Tryz.func103 Q4 Q4 (w:=let z1:=decide (u.low=128)&&decide (u.high=191);let z2:S:= .v (vB (Ek u));let z3:S:= .v (vB true);let z4:=decide (u.want=2)&&(decide (u.low=160)&&decide (u.high=191));let z5:=decide (u.want=2)&&(decide (u.low=128)&&decide (u.high=159));let z6:=decide (u.want=3)&&(decide (u.low=144)&&decide (u.high=191));let z7:=decide (u.want=0)&&(decide (u.low=0)&&decide (u.high=0));(.br (.seg [.br true] (.leaf () [])) (.br (.seg [.br true] (.leaf () [])) (.br (.seg [.br true] (.leaf () [])) (.br (.seg [.br true] (.leaf () [])) (.br (.seg [.br true] (.leaf () [])) (.br (.seg [.br true] (.leaf () [])) (.br (.seg [.br true] (.leaf () [])) (.br (.leaf () []) (.leaf () [])))))))),Bc z7 ((z7=true)∧Lf z3 z2 [] []) (Bc (decide (u.want=1)&&z1) (((decide (u.want=1)&&z1)=true)∧Lf z3 z2 [] []) (Bc (decide (u.want=2)&&z1) (((decide (u.want=2)&&z1)=true)∧Lf z3 z2 [] []) (Bc (decide (u.want=3)&&z1) (((decide (u.want=3)&&z1)=true)∧Lf z3 z2 [] []) (Bc z4 ((z4=true)∧Lf z3 z2 [] []) (Bc z5 ((z5=true)∧Lf z3 z2 [] []) (Bc z6 ((z6=true)∧Lf z3 z2 [] []) (Bc (decide (u.want=3)&&(decide (u.low=128)&&decide (u.high=143))) (Lf z3 z2 [] []) (Lf (.v (vB false)) z2 [] [])))))))))) Q4 ?_
 refine⟨fun h1=>have p1:=(Da dT (Da dT dT)).1 h1;?_,fun h1=>have p1:=(Db dT (Db dT dF)).1 h1;?_⟩
 refine⟨h1,(sB ?_),rfl⟩
 rotate_left
 refine⟨fun h2=>have p2:=(Da dT (Da dT dT)).1 h2;?_,fun h2=>have p2:=(Db dT (Db dT dF)).1 h2;?_⟩
 refine⟨h2,(sB ?_),rfl⟩
 rotate_left
 refine⟨fun h3=>have p3:=(Da dT (Da dT dT)).1 h3;?_,fun h3=>have p3:=(Db dT (Db dT dF)).1 h3;?_⟩
 refine⟨h3,(sB ?_),rfl⟩
 rotate_left
 refine⟨fun h4=>have p4:=(Da dT (Da dT dT)).1 h4;?_,fun h4=>have p4:=(Db dT (Db dT dF)).1 h4;?_⟩
 refine⟨h4,(sB ?_),rfl⟩
 rotate_left
 refine⟨fun h5=>have p5:=(Da dT (Da dT dT)).1 h5;?_,fun h5=>have p5:=(Db dT (Db dT dF)).1 h5;?_⟩
 refine⟨h5,(sB ?_),rfl⟩
 rotate_left
 refine⟨fun h6=>have p6:=(Da dT (Da dT dT)).1 h6;?_,fun h6=>have p6:=(Db dT (Db dT dF)).1 h6;?_⟩
 refine⟨h6,(sB ?_),rfl⟩
 rotate_left
 refine⟨fun h7=>have p7:=(Da dT (Da dT dT)).1 h7;?_,fun h7=>have p7:=(Db dT (Db dT dF)).1 h7;?_⟩
 refine⟨h7,(sB ?_),rfl⟩
 rotate_left
 refine⟨fun h8=>have p8:=(Da dT (Da dT dT)).1 h8;?_,fun h8=>have p8:=(Db dT (Db dT dF)).1 h8;?_⟩
 refine⟨(sB ?_),rfl⟩
 rotate_left
 refine⟨(sB ?_),rfl⟩
 rotate_left
 all_goals first|(rw[Bool.eq_iff_iff];simp[Ek,Nt];omega)|(rw[Bool.eq_iff_iff];simp[Ek,Nt,Ai];omega)|(simp_all[Ek,Nt,Ai];done)
theorem Amw (u:Utf):Fun Tryz.prog 121 [.agg (Pa u)] [] (.v (vB (Ek u))) []:=by
 have hN:Bn=274877906944:=rfl
 refine Av Tryz.func121 Q4 Q4 (w:=let z2:S:= .v (vB (Ek u));let z3:=decide (u.low=128);let z1:=(z3=false)∧Lf (.v (vB false)) z2 [] [];let z4:=decide (u.high=191);let z5:S:= .v (vB (Ai u.want 1 3));let z6:=Lf (.v (vB true)) z2 [] [];let z7:S:= .v (vB (decide (u.high=159)));let z8:S:= .v (vB (decide (u.high=143)));(.br (.leaf () []) (.br (.br (.seg [.call [] z5 []] (.leaf () [])) (.br (.br (.seg [.br false,.br true] (.leaf () [])) (.seg [.br true] (.leaf () []))) (.br (.br (.seg [.br false,.br true] (.leaf () [])) (.seg [.br true] (.leaf () []))) (.leaf () [])))) (.br (.br (.br (.leaf () []) (.seg [.br false] (.leaf () []))) (.seg [.br false] (.leaf () []))) (.br (.br (.br (.leaf () []) (.seg [.br false] (.leaf () []))) (.seg [.br false] (.leaf () []))) (.leaf () [])))),Bc (decide (u.want=0)&&(decide (u.low=0)&&decide (u.high=0))) z6 (Bc z3 (Bc z4 ((Fp 44 [vI u.want,vI 1,vI 3] [] z5 [])∧Lf z5 z2 [] []) (Bc (decide (u.want=2)) (Bc (decide (u.low=160)) ((z4=false)∧(z3=true)∧Lf z7 z2 [] []) ((z3=true)∧Lf z7 z2 [] [])) (Bc (decide (u.want=3)) (Bc (decide (u.low=144)) ((z4=false)∧(z3=true)∧Lf z8 z2 [] []) ((z3=true)∧Lf z8 z2 [] [])) (Lf (.v (vB false)) z2 [] [])))) (Bc (decide (u.want=2)) (Bc (decide (u.low=160)) (Bc z4 z6 z1) z1) (Bc (decide (u.want=3)) (Bc (decide (u.low=144)) (Bc z4 z6 z1) z1) (Lf (.v (vB false)) z2 [] [])))))) Q4 ?_
 refine⟨fun h1=>have p1:=(Da dT (Da dT dT)).1 h1;?_,fun h1=>have p1:=(Db dT (Db dT dF)).1 h1;?_⟩
 refine⟨(sB ?_),rfl⟩
 rotate_left
 refine dsp (fun h2 p2=>?_) fun h2 p2=>?_
 refine dsp (fun h3 p3=>?_) fun h3 p3=>?_
 refine⟨(Bw _ _ _),(sB ?_),rfl⟩
 rotate_left
 refine dsp (fun h4 p4=>?_) fun h4 p4=>?_
 refine dsp (fun h5 p5=>?_) fun h5 p5=>?_
 refine⟨h3,h2,(sB ?_),rfl⟩
 rotate_left
 refine⟨h2,(sB ?_),rfl⟩
 rotate_left
 refine dsp (fun h5 p5=>?_) fun h5 p5=>?_
 refine dsp (fun h6 p6=>?_) fun h6 p6=>?_
 refine⟨h3,h2,(sB ?_),rfl⟩
 rotate_left
 refine⟨h2,(sB ?_),rfl⟩
 rotate_left
 refine⟨(sB ?_),rfl⟩
 rotate_left
 refine dsp (fun h3 p3=>?_) fun h3 p3=>?_
 refine dsp (fun h4 p4=>?_) fun h4 p4=>?_
 refine dsp (fun h5 p5=>?_) fun h5 p5=>?_
 refine⟨(sB ?_),rfl⟩
 rotate_left
 refine⟨h2,(sB ?_),rfl⟩
 rotate_left
 refine⟨h2,(sB ?_),rfl⟩
 rotate_left
 refine dsp (fun h4 p4=>?_) fun h4 p4=>?_
 refine dsp (fun h5 p5=>?_) fun h5 p5=>?_
 refine dsp (fun h6 p6=>?_) fun h6 p6=>?_
 refine⟨(sB ?_),rfl⟩
 rotate_left
 refine⟨h2,(sB ?_),rfl⟩
 rotate_left
 refine⟨h2,(sB ?_),rfl⟩
 rotate_left
 refine⟨(sB ?_),rfl⟩
 rotate_left
 all_goals first|(rw[Bool.eq_iff_iff];simp[Ek,Nt];omega)|(rw[Bool.eq_iff_iff];simp[Ek,Nt,Ai];omega)|(simp_all[Ek,Nt,Ai];done)
theorem Adw (b:Int):Fun Tryz.prog 214 [vI b] [] (.tup [.agg (Pa ((A8 b).getD utf0)),vB (A8 b).isSome]) []:=by
 have hN:Bn=274877906944:=rfl
 refine Av Tryz.func214 Q4 Q4 (w:=let zi:Int→C:= .int .i64;let z1:S:= .tup [.agg (Pa ((A8 b).getD utf0)),vB (A8 b).isSome];let z2:=Ai b 194 223;let z3:=Ai b 224 239;let z4:=Ai b 240 244;let z5:=decide (b=224);let z6:=decide (b=237);let z7:=decide (b=240);let z8:=decide (b=244);(.seg [.call [] (.v (vB (Ai b 0 127))) []] (.br (.leaf () []) (.seg [.call [] (.v (vB z2)) []] (.br (.br (.leaf () []) (.br (.leaf () []) (.br (.leaf () []) (.br (.leaf () []) (.leaf () []))))) (.seg [.call [] (.v (vB z3)) []] (.br (.br (.leaf () []) (.br (.leaf () []) (.br (.leaf () []) (.br (.leaf () []) (.leaf () []))))) (.seg [.call [] (.v (vB z4)) []] (.br (.br (.leaf () []) (.br (.leaf () []) (.br (.leaf () []) (.br (.leaf () []) (.leaf () []))))) (.leaf () [])))))))),(Fp 97 [vI b,vI 0,vI 127] [] (.v (vB (Ai b 0 127))) [])∧Bc (Ai b 0 127) (Lf (.tup [.agg [zi 0,zi 0,zi 0],vB true]) z1 [] []) ((Fp 97 [vI b,vI 194,vI 223] [] (.v (vB z2)) [])∧Bc z2 (Bc z5 (Lf (.tup [.agg [zi 1,zi 160,zi 191],vB true]) z1 [] []) (Bc z6 (Lf (.tup [.agg [zi 1,zi 128,zi 159],vB true]) z1 [] []) (Bc z7 (Lf (.tup [.agg [zi 1,zi 144,zi 191],vB true]) z1 [] []) (Bc z8 (Lf (.tup [.agg [zi 1,zi 128,zi 143],vB true]) z1 [] []) (Lf (.tup [.agg [zi 1,zi 128,zi 191],vB true]) z1 [] []))))) ((Fp 97 [vI b,vI 224,vI 239] [] (.v (vB z3)) [])∧Bc z3 (Bc z5 (Lf (.tup [.agg [zi 2,zi 160,zi 191],vB true]) z1 [] []) (Bc z6 (Lf (.tup [.agg [zi 2,zi 128,zi 159],vB true]) z1 [] []) (Bc z7 (Lf (.tup [.agg [zi 2,zi 144,zi 191],vB true]) z1 [] []) (Bc z8 (Lf (.tup [.agg [zi 2,zi 128,zi 143],vB true]) z1 [] []) (Lf (.tup [.agg [zi 2,zi 128,zi 191],vB true]) z1 [] []))))) ((Fp 97 [vI b,vI 240,vI 244] [] (.v (vB z4)) [])∧Bc z4 (Bc z5 (Lf (.tup [.agg [zi 3,zi 160,zi 191],vB true]) z1 [] []) (Bc z6 (Lf (.tup [.agg [zi 3,zi 128,zi 159],vB true]) z1 [] []) (Bc z7 (Lf (.tup [.agg [zi 3,zi 144,zi 191],vB true]) z1 [] []) (Bc z8 (Lf (.tup [.agg [zi 3,zi 128,zi 143],vB true]) z1 [] []) (Lf (.tup [.agg [zi 3,zi 128,zi 191],vB true]) z1 [] []))))) (Lf (.tup [.agg [zi 0,zi 0,zi 0],vB false]) z1 [] [])))))) Q4 ?_
 refine⟨(Cc _ _ _),fun h1=>have p1:=Aw h1;?_,fun h1=>have p1:=A7 h1;?_⟩
 refine zE ((A8 b).getD utf0) utf0 (fun hm1=>⟨(congrArg S.tup (Ac (congrArg V.agg (Ac (congrArg (C.int .i64) ?_) (Ac (congrArg (C.int .i64) ?_) (Ac (congrArg (C.int .i64) ?_) rfl)))) (Ac (congrArg V.c (congrArg C.bool ?_)) rfl))),rfl⟩) ?_
 rotate_left 5
 refine⟨(Cc _ _ _),fun h2=>have p2:=Aw h2;?_,fun h2=>have p2:=A7 h2;?_⟩
 refine dsp (fun h3 p3=>?_) fun h3 p3=>?_
 refine zE ((A8 b).getD utf0) (⟨1,160,191⟩:Utf) (fun hm1=>⟨(congrArg S.tup (Ac (congrArg V.agg (Ac (congrArg (C.int .i64) ?_) (Ac (congrArg (C.int .i64) ?_) (Ac (congrArg (C.int .i64) ?_) rfl)))) (Ac (congrArg V.c (congrArg C.bool ?_)) rfl))),rfl⟩) ?_
 rotate_left 5
 refine dsp (fun h4 p4=>?_) fun h4 p4=>?_
 refine zE ((A8 b).getD utf0) (⟨1,128,159⟩:Utf) (fun hm1=>⟨(congrArg S.tup (Ac (congrArg V.agg (Ac (congrArg (C.int .i64) ?_) (Ac (congrArg (C.int .i64) ?_) (Ac (congrArg (C.int .i64) ?_) rfl)))) (Ac (congrArg V.c (congrArg C.bool ?_)) rfl))),rfl⟩) ?_
 rotate_left 5
 refine dsp (fun h5 p5=>?_) fun h5 p5=>?_
 refine zE ((A8 b).getD utf0) (⟨1,144,191⟩:Utf) (fun hm1=>⟨(congrArg S.tup (Ac (congrArg V.agg (Ac (congrArg (C.int .i64) ?_) (Ac (congrArg (C.int .i64) ?_) (Ac (congrArg (C.int .i64) ?_) rfl)))) (Ac (congrArg V.c (congrArg C.bool ?_)) rfl))),rfl⟩) ?_
 rotate_left 5
 refine dsp (fun h6 p6=>?_) fun h6 p6=>?_
 refine zE ((A8 b).getD utf0) (⟨1,128,143⟩:Utf) (fun hm1=>⟨(congrArg S.tup (Ac (congrArg V.agg (Ac (congrArg (C.int .i64) ?_) (Ac (congrArg (C.int .i64) ?_) (Ac (congrArg (C.int .i64) ?_) rfl)))) (Ac (congrArg V.c (congrArg C.bool ?_)) rfl))),rfl⟩) ?_
 rotate_left 5
 refine zE ((A8 b).getD utf0) (⟨1,128,191⟩:Utf) (fun hm1=>⟨(congrArg S.tup (Ac (congrArg V.agg (Ac (congrArg (C.int .i64) ?_) (Ac (congrArg (C.int .i64) ?_) (Ac (congrArg (C.int .i64) ?_) rfl)))) (Ac (congrArg V.c (congrArg C.bool ?_)) rfl))),rfl⟩) ?_
 rotate_left 5
 refine⟨(Cc _ _ _),fun h3=>have p3:=Aw h3;?_,fun h3=>have p3:=A7 h3;?_⟩
 refine dsp (fun h4 p4=>?_) fun h4 p4=>?_
 refine zE ((A8 b).getD utf0) (⟨2,160,191⟩:Utf) (fun hm1=>⟨(congrArg S.tup (Ac (congrArg V.agg (Ac (congrArg (C.int .i64) ?_) (Ac (congrArg (C.int .i64) ?_) (Ac (congrArg (C.int .i64) ?_) rfl)))) (Ac (congrArg V.c (congrArg C.bool ?_)) rfl))),rfl⟩) ?_
 rotate_left 5
 refine dsp (fun h5 p5=>?_) fun h5 p5=>?_
 refine zE ((A8 b).getD utf0) (⟨2,128,159⟩:Utf) (fun hm1=>⟨(congrArg S.tup (Ac (congrArg V.agg (Ac (congrArg (C.int .i64) ?_) (Ac (congrArg (C.int .i64) ?_) (Ac (congrArg (C.int .i64) ?_) rfl)))) (Ac (congrArg V.c (congrArg C.bool ?_)) rfl))),rfl⟩) ?_
 rotate_left 5
 refine dsp (fun h6 p6=>?_) fun h6 p6=>?_
 refine zE ((A8 b).getD utf0) (⟨2,144,191⟩:Utf) (fun hm1=>⟨(congrArg S.tup (Ac (congrArg V.agg (Ac (congrArg (C.int .i64) ?_) (Ac (congrArg (C.int .i64) ?_) (Ac (congrArg (C.int .i64) ?_) rfl)))) (Ac (congrArg V.c (congrArg C.bool ?_)) rfl))),rfl⟩) ?_
 rotate_left 5
 refine dsp (fun h7 p7=>?_) fun h7 p7=>?_
 refine zE ((A8 b).getD utf0) (⟨2,128,143⟩:Utf) (fun hm1=>⟨(congrArg S.tup (Ac (congrArg V.agg (Ac (congrArg (C.int .i64) ?_) (Ac (congrArg (C.int .i64) ?_) (Ac (congrArg (C.int .i64) ?_) rfl)))) (Ac (congrArg V.c (congrArg C.bool ?_)) rfl))),rfl⟩) ?_
 rotate_left 5
 refine zE ((A8 b).getD utf0) (⟨2,128,191⟩:Utf) (fun hm1=>⟨(congrArg S.tup (Ac (congrArg V.agg (Ac (congrArg (C.int .i64) ?_) (Ac (congrArg (C.int .i64) ?_) (Ac (congrArg (C.int .i64) ?_) rfl)))) (Ac (congrArg V.c (congrArg C.bool ?_)) rfl))),rfl⟩) ?_
 rotate_left 5
 refine⟨(Cc _ _ _),fun h4=>have p4:=Aw h4;?_,fun h4=>have p4:=A7 h4;?_⟩
 refine dsp (fun h5 p5=>?_) fun h5 p5=>?_
 refine zE ((A8 b).getD utf0) (⟨3,160,191⟩:Utf) (fun hm1=>⟨(congrArg S.tup (Ac (congrArg V.agg (Ac (congrArg (C.int .i64) ?_) (Ac (congrArg (C.int .i64) ?_) (Ac (congrArg (C.int .i64) ?_) rfl)))) (Ac (congrArg V.c (congrArg C.bool ?_)) rfl))),rfl⟩) ?_
 rotate_left 5
 refine dsp (fun h6 p6=>?_) fun h6 p6=>?_
 refine zE ((A8 b).getD utf0) (⟨3,128,159⟩:Utf) (fun hm1=>⟨(congrArg S.tup (Ac (congrArg V.agg (Ac (congrArg (C.int .i64) ?_) (Ac (congrArg (C.int .i64) ?_) (Ac (congrArg (C.int .i64) ?_) rfl)))) (Ac (congrArg V.c (congrArg C.bool ?_)) rfl))),rfl⟩) ?_
 rotate_left 5
 refine dsp (fun h7 p7=>?_) fun h7 p7=>?_
 refine zE ((A8 b).getD utf0) (⟨3,144,191⟩:Utf) (fun hm1=>⟨(congrArg S.tup (Ac (congrArg V.agg (Ac (congrArg (C.int .i64) ?_) (Ac (congrArg (C.int .i64) ?_) (Ac (congrArg (C.int .i64) ?_) rfl)))) (Ac (congrArg V.c (congrArg C.bool ?_)) rfl))),rfl⟩) ?_
 rotate_left 5
 refine dsp (fun h8 p8=>?_) fun h8 p8=>?_
 refine zE ((A8 b).getD utf0) (⟨3,128,143⟩:Utf) (fun hm1=>⟨(congrArg S.tup (Ac (congrArg V.agg (Ac (congrArg (C.int .i64) ?_) (Ac (congrArg (C.int .i64) ?_) (Ac (congrArg (C.int .i64) ?_) rfl)))) (Ac (congrArg V.c (congrArg C.bool ?_)) rfl))),rfl⟩) ?_
 rotate_left 5
 refine zE ((A8 b).getD utf0) (⟨3,128,191⟩:Utf) (fun hm1=>⟨(congrArg S.tup (Ac (congrArg V.agg (Ac (congrArg (C.int .i64) ?_) (Ac (congrArg (C.int .i64) ?_) (Ac (congrArg (C.int .i64) ?_) rfl)))) (Ac (congrArg V.c (congrArg C.bool ?_)) rfl))),rfl⟩) ?_
 rotate_left 5
 refine zE ((A8 b).getD utf0) utf0 (fun hm1=>⟨(congrArg S.tup (Ac (congrArg V.agg (Ac (congrArg (C.int .i64) ?_) (Ac (congrArg (C.int .i64) ?_) (Ac (congrArg (C.int .i64) ?_) rfl)))) (Ac (congrArg V.c (congrArg C.bool ?_)) rfl))),rfl⟩) ?_
 rotate_left 5
 all_goals first|(simp[A8,utf0, *];done)|(simp_all[A8,utf0,Ai];done)|(simp_all[A8,utf0,Ai];omega)
theorem Adx (b:Int):Fun Tryz.prog 132 [vI b] [] (.tup [.agg (Pa ((A8 b).getD utf0)),vB (A8 b).isSome]) []:=by
 have hN:Bn=274877906944:=rfl
 refine Av Tryz.func132 Q4 Q4 (w:=let zi:Int→C:= .int .i64;let z1:S:= .tup [.agg (Pa ((A8 b).getD utf0)),vB (A8 b).isSome];let z2:=Ai b 194 223;let z3:=Ai b 224 239;let z4:=Ai b 240 244;let z5:=decide (b=224);let z6:=decide (b=237);let z7:=decide (b=240);let z8:=decide (b=244);(.seg [.call [] (.v (vB (Ai b 0 127))) []] (.br (.leaf () []) (.seg [.call [] (.v (vB z2)) []] (.br (.br (.leaf () []) (.br (.leaf () []) (.br (.leaf () []) (.br (.leaf () []) (.leaf () []))))) (.seg [.call [] (.v (vB z3)) []] (.br (.br (.leaf () []) (.br (.leaf () []) (.br (.leaf () []) (.br (.leaf () []) (.leaf () []))))) (.seg [.call [] (.v (vB z4)) []] (.br (.br (.leaf () []) (.br (.leaf () []) (.br (.leaf () []) (.br (.leaf () []) (.leaf () []))))) (.leaf () [])))))))),(Fp 44 [vI b,vI 0,vI 127] [] (.v (vB (Ai b 0 127))) [])∧Bc (Ai b 0 127) (Lf (.tup [.agg [zi 0,zi 0,zi 0],vB true]) z1 [] []) ((Fp 44 [vI b,vI 194,vI 223] [] (.v (vB z2)) [])∧Bc z2 (Bc z5 (Lf (.tup [.agg [zi 1,zi 160,zi 191],vB true]) z1 [] []) (Bc z6 (Lf (.tup [.agg [zi 1,zi 128,zi 159],vB true]) z1 [] []) (Bc z7 (Lf (.tup [.agg [zi 1,zi 144,zi 191],vB true]) z1 [] []) (Bc z8 (Lf (.tup [.agg [zi 1,zi 128,zi 143],vB true]) z1 [] []) (Lf (.tup [.agg [zi 1,zi 128,zi 191],vB true]) z1 [] []))))) ((Fp 44 [vI b,vI 224,vI 239] [] (.v (vB z3)) [])∧Bc z3 (Bc z5 (Lf (.tup [.agg [zi 2,zi 160,zi 191],vB true]) z1 [] []) (Bc z6 (Lf (.tup [.agg [zi 2,zi 128,zi 159],vB true]) z1 [] []) (Bc z7 (Lf (.tup [.agg [zi 2,zi 144,zi 191],vB true]) z1 [] []) (Bc z8 (Lf (.tup [.agg [zi 2,zi 128,zi 143],vB true]) z1 [] []) (Lf (.tup [.agg [zi 2,zi 128,zi 191],vB true]) z1 [] []))))) ((Fp 44 [vI b,vI 240,vI 244] [] (.v (vB z4)) [])∧Bc z4 (Bc z5 (Lf (.tup [.agg [zi 3,zi 160,zi 191],vB true]) z1 [] []) (Bc z6 (Lf (.tup [.agg [zi 3,zi 128,zi 159],vB true]) z1 [] []) (Bc z7 (Lf (.tup [.agg [zi 3,zi 144,zi 191],vB true]) z1 [] []) (Bc z8 (Lf (.tup [.agg [zi 3,zi 128,zi 143],vB true]) z1 [] []) (Lf (.tup [.agg [zi 3,zi 128,zi 191],vB true]) z1 [] []))))) (Lf (.tup [.agg [zi 0,zi 0,zi 0],vB false]) z1 [] [])))))) Q4 ?_
 refine⟨(Bw _ _ _),fun h1=>have p1:=Aw h1;?_,fun h1=>have p1:=A7 h1;?_⟩
 refine zE ((A8 b).getD utf0) utf0 (fun hm1=>⟨(congrArg S.tup (Ac (congrArg V.agg (Ac (congrArg (C.int .i64) ?_) (Ac (congrArg (C.int .i64) ?_) (Ac (congrArg (C.int .i64) ?_) rfl)))) (Ac (congrArg V.c (congrArg C.bool ?_)) rfl))),rfl⟩) ?_
 rotate_left 5
 refine⟨(Bw _ _ _),fun h2=>have p2:=Aw h2;?_,fun h2=>have p2:=A7 h2;?_⟩
 refine dsp (fun h3 p3=>?_) fun h3 p3=>?_
 refine zE ((A8 b).getD utf0) (⟨1,160,191⟩:Utf) (fun hm1=>⟨(congrArg S.tup (Ac (congrArg V.agg (Ac (congrArg (C.int .i64) ?_) (Ac (congrArg (C.int .i64) ?_) (Ac (congrArg (C.int .i64) ?_) rfl)))) (Ac (congrArg V.c (congrArg C.bool ?_)) rfl))),rfl⟩) ?_
 rotate_left 5
 refine dsp (fun h4 p4=>?_) fun h4 p4=>?_
 refine zE ((A8 b).getD utf0) (⟨1,128,159⟩:Utf) (fun hm1=>⟨(congrArg S.tup (Ac (congrArg V.agg (Ac (congrArg (C.int .i64) ?_) (Ac (congrArg (C.int .i64) ?_) (Ac (congrArg (C.int .i64) ?_) rfl)))) (Ac (congrArg V.c (congrArg C.bool ?_)) rfl))),rfl⟩) ?_
 rotate_left 5
 refine dsp (fun h5 p5=>?_) fun h5 p5=>?_
 refine zE ((A8 b).getD utf0) (⟨1,144,191⟩:Utf) (fun hm1=>⟨(congrArg S.tup (Ac (congrArg V.agg (Ac (congrArg (C.int .i64) ?_) (Ac (congrArg (C.int .i64) ?_) (Ac (congrArg (C.int .i64) ?_) rfl)))) (Ac (congrArg V.c (congrArg C.bool ?_)) rfl))),rfl⟩) ?_
 rotate_left 5
 refine dsp (fun h6 p6=>?_) fun h6 p6=>?_
 refine zE ((A8 b).getD utf0) (⟨1,128,143⟩:Utf) (fun hm1=>⟨(congrArg S.tup (Ac (congrArg V.agg (Ac (congrArg (C.int .i64) ?_) (Ac (congrArg (C.int .i64) ?_) (Ac (congrArg (C.int .i64) ?_) rfl)))) (Ac (congrArg V.c (congrArg C.bool ?_)) rfl))),rfl⟩) ?_
 rotate_left 5
 refine zE ((A8 b).getD utf0) (⟨1,128,191⟩:Utf) (fun hm1=>⟨(congrArg S.tup (Ac (congrArg V.agg (Ac (congrArg (C.int .i64) ?_) (Ac (congrArg (C.int .i64) ?_) (Ac (congrArg (C.int .i64) ?_) rfl)))) (Ac (congrArg V.c (congrArg C.bool ?_)) rfl))),rfl⟩) ?_
 rotate_left 5
 refine⟨(Bw _ _ _),fun h3=>have p3:=Aw h3;?_,fun h3=>have p3:=A7 h3;?_⟩
 refine dsp (fun h4 p4=>?_) fun h4 p4=>?_
 refine zE ((A8 b).getD utf0) (⟨2,160,191⟩:Utf) (fun hm1=>⟨(congrArg S.tup (Ac (congrArg V.agg (Ac (congrArg (C.int .i64) ?_) (Ac (congrArg (C.int .i64) ?_) (Ac (congrArg (C.int .i64) ?_) rfl)))) (Ac (congrArg V.c (congrArg C.bool ?_)) rfl))),rfl⟩) ?_
 rotate_left 5
 refine dsp (fun h5 p5=>?_) fun h5 p5=>?_
 refine zE ((A8 b).getD utf0) (⟨2,128,159⟩:Utf) (fun hm1=>⟨(congrArg S.tup (Ac (congrArg V.agg (Ac (congrArg (C.int .i64) ?_) (Ac (congrArg (C.int .i64) ?_) (Ac (congrArg (C.int .i64) ?_) rfl)))) (Ac (congrArg V.c (congrArg C.bool ?_)) rfl))),rfl⟩) ?_
 rotate_left 5
 refine dsp (fun h6 p6=>?_) fun h6 p6=>?_
 refine zE ((A8 b).getD utf0) (⟨2,144,191⟩:Utf) (fun hm1=>⟨(congrArg S.tup (Ac (congrArg V.agg (Ac (congrArg (C.int .i64) ?_) (Ac (congrArg (C.int .i64) ?_) (Ac (congrArg (C.int .i64) ?_) rfl)))) (Ac (congrArg V.c (congrArg C.bool ?_)) rfl))),rfl⟩) ?_
 rotate_left 5
 refine dsp (fun h7 p7=>?_) fun h7 p7=>?_
 refine zE ((A8 b).getD utf0) (⟨2,128,143⟩:Utf) (fun hm1=>⟨(congrArg S.tup (Ac (congrArg V.agg (Ac (congrArg (C.int .i64) ?_) (Ac (congrArg (C.int .i64) ?_) (Ac (congrArg (C.int .i64) ?_) rfl)))) (Ac (congrArg V.c (congrArg C.bool ?_)) rfl))),rfl⟩) ?_
 rotate_left 5
 refine zE ((A8 b).getD utf0) (⟨2,128,191⟩:Utf) (fun hm1=>⟨(congrArg S.tup (Ac (congrArg V.agg (Ac (congrArg (C.int .i64) ?_) (Ac (congrArg (C.int .i64) ?_) (Ac (congrArg (C.int .i64) ?_) rfl)))) (Ac (congrArg V.c (congrArg C.bool ?_)) rfl))),rfl⟩) ?_
 rotate_left 5
 refine⟨(Bw _ _ _),fun h4=>have p4:=Aw h4;?_,fun h4=>have p4:=A7 h4;?_⟩
 refine dsp (fun h5 p5=>?_) fun h5 p5=>?_
 refine zE ((A8 b).getD utf0) (⟨3,160,191⟩:Utf) (fun hm1=>⟨(congrArg S.tup (Ac (congrArg V.agg (Ac (congrArg (C.int .i64) ?_) (Ac (congrArg (C.int .i64) ?_) (Ac (congrArg (C.int .i64) ?_) rfl)))) (Ac (congrArg V.c (congrArg C.bool ?_)) rfl))),rfl⟩) ?_
 rotate_left 5
 refine dsp (fun h6 p6=>?_) fun h6 p6=>?_
 refine zE ((A8 b).getD utf0) (⟨3,128,159⟩:Utf) (fun hm1=>⟨(congrArg S.tup (Ac (congrArg V.agg (Ac (congrArg (C.int .i64) ?_) (Ac (congrArg (C.int .i64) ?_) (Ac (congrArg (C.int .i64) ?_) rfl)))) (Ac (congrArg V.c (congrArg C.bool ?_)) rfl))),rfl⟩) ?_
 rotate_left 5
 refine dsp (fun h7 p7=>?_) fun h7 p7=>?_
 refine zE ((A8 b).getD utf0) (⟨3,144,191⟩:Utf) (fun hm1=>⟨(congrArg S.tup (Ac (congrArg V.agg (Ac (congrArg (C.int .i64) ?_) (Ac (congrArg (C.int .i64) ?_) (Ac (congrArg (C.int .i64) ?_) rfl)))) (Ac (congrArg V.c (congrArg C.bool ?_)) rfl))),rfl⟩) ?_
 rotate_left 5
 refine dsp (fun h8 p8=>?_) fun h8 p8=>?_
 refine zE ((A8 b).getD utf0) (⟨3,128,143⟩:Utf) (fun hm1=>⟨(congrArg S.tup (Ac (congrArg V.agg (Ac (congrArg (C.int .i64) ?_) (Ac (congrArg (C.int .i64) ?_) (Ac (congrArg (C.int .i64) ?_) rfl)))) (Ac (congrArg V.c (congrArg C.bool ?_)) rfl))),rfl⟩) ?_
 rotate_left 5
 refine zE ((A8 b).getD utf0) (⟨3,128,191⟩:Utf) (fun hm1=>⟨(congrArg S.tup (Ac (congrArg V.agg (Ac (congrArg (C.int .i64) ?_) (Ac (congrArg (C.int .i64) ?_) (Ac (congrArg (C.int .i64) ?_) rfl)))) (Ac (congrArg V.c (congrArg C.bool ?_)) rfl))),rfl⟩) ?_
 rotate_left 5
 refine zE ((A8 b).getD utf0) utf0 (fun hm1=>⟨(congrArg S.tup (Ac (congrArg V.agg (Ac (congrArg (C.int .i64) ?_) (Ac (congrArg (C.int .i64) ?_) (Ac (congrArg (C.int .i64) ?_) rfl)))) (Ac (congrArg V.c (congrArg C.bool ?_)) rfl))),rfl⟩) ?_
 rotate_left 5
 all_goals first|(simp[A8,utf0, *];done)|(simp_all[A8,utf0,Ai];done)|(simp_all[A8,utf0,Ai];omega)
theorem Agk (u:Utf) (b:Int):Fun Tryz.prog 179 [.agg (Pa u),vI b] [] (.tup [.agg (Pa ((By u b).getD u)),vB (By u b).isSome]) []:=by
 have hN:Bn=274877906944:=rfl
 refine Av Tryz.func179 Q4 Q4 (w:=let z1:S:= .tup [.agg (Pa ((By u b).getD u)),vB (By u b).isSome];let z2:=Lf (.tup [.agg (Pa u),vB false]) z1 [] [];let z3:S:= .tup [.agg (Pa ((A8 b).getD utf0)),vB (A8 b).isSome];let z4:=Ai b u.low u.high;(.seg [.call [] (.v (vB (Ek u))) []] (.br (.leaf () []) (.br (.seg [.call [] z3 []] (.br (.leaf () []) (.leaf () []))) (.seg [.call [] (.v (vB z4)) []] (.br (.leaf () []) (.br (.leaf () []) (.seg [.as 42 (.v (vI (u.want-1)))] (.leaf () []))))))),(Fp 103 [.agg (Pa u)] [] (.v (vB (Ek u))) [])∧Bc (!(Ek u)) z2 (Bc (decide (u.want=0)) ((Fp 214 [vI b] [] z3 [])∧Bc (!(A8 b).isSome) z2 (Lf (.tup [.agg (Pa ((A8 b).getD utf0)),vB true]) z1 [] [])) ((Fp 97 [vI b,vI u.low,vI u.high] [] (.v (vB z4)) [])∧Bc (!z4) z2 (Bc (decide (u.want=1)) (Lf (.tup [.agg [.int .i64 0,.int .i64 0,.int .i64 0],vB true]) z1 [] []) ((wI (u.want-1))∧Lf (.tup [.agg [.int .i64 (u.want-1),.int .i64 128,.int .i64 191],vB true]) z1 [] [])))))) Q4 ?_
 refine⟨(Agj u),fun h1=>have q1:=Aq h1;?_,fun h1=>have q1:=Ao h1;have p1:=Ju q1;?_⟩
 refine zE ((By u b).getD u) u (fun hm1=>⟨(congrArg S.tup (Ac (congrArg V.agg (Ac (congrArg (C.int .i64) ?_) (Ac (congrArg (C.int .i64) ?_) (Ac (congrArg (C.int .i64) ?_) rfl)))) (Ac (congrArg V.c (congrArg C.bool ?_)) rfl))),rfl⟩) ?_
 rotate_left 5
 refine dsp (fun h2 p2=>?_) fun h2 p2=>?_
 have hu:=Sq q1 p2
 refine⟨(Adw _),fun h3=>have q3:=Aq h3;?_,fun h3=>have q3:=Ao h3;?_⟩
 refine zE ((By u b).getD u) u (fun hm1=>⟨(congrArg S.tup (Ac (congrArg V.agg (Ac (congrArg (C.int .i64) ?_) (Ac (congrArg (C.int .i64) ?_) (Ac (congrArg (C.int .i64) ?_) rfl)))) (Ac (congrArg V.c (congrArg C.bool ?_)) rfl))),rfl⟩) ?_
 rotate_left 5
 refine zE ((By u b).getD u) ((A8 b).getD utf0) (fun hm1=>⟨(congrArg S.tup (Ac (congrArg V.agg (Ac (congrArg (C.int .i64) ?_) (Ac (congrArg (C.int .i64) ?_) (Ac (congrArg (C.int .i64) ?_) rfl)))) (Ac (congrArg V.c (congrArg C.bool ?_)) rfl))),rfl⟩) ?_
 rotate_left 5
 refine⟨(Cc _ _ _),fun h3=>have q3:=Aq h3;have p3:=A7 q3;?_,fun h3=>have q3:=Ao h3;have p3:=Aw q3;?_⟩
 refine zE ((By u b).getD u) u (fun hm1=>⟨(congrArg S.tup (Ac (congrArg V.agg (Ac (congrArg (C.int .i64) ?_) (Ac (congrArg (C.int .i64) ?_) (Ac (congrArg (C.int .i64) ?_) rfl)))) (Ac (congrArg V.c (congrArg C.bool ?_)) rfl))),rfl⟩) ?_
 rotate_left 5
 refine dsp (fun h4 p4=>?_) fun h4 p4=>?_
 refine zE ((By u b).getD u) utf0 (fun hm1=>⟨(congrArg S.tup (Ac (congrArg V.agg (Ac (congrArg (C.int .i64) ?_) (Ac (congrArg (C.int .i64) ?_) (Ac (congrArg (C.int .i64) ?_) rfl)))) (Ac (congrArg V.c (congrArg C.bool ?_)) rfl))),rfl⟩) ?_
 rotate_left 5
 refine zE ((By u b).getD u) (⟨u.want-1,128,191⟩:Utf) (fun hm1=>⟨(Af Q2 Q2),(congrArg S.tup (Ac (congrArg V.agg (Ac (congrArg (C.int .i64) ?_) (Ac (congrArg (C.int .i64) ?_) (Ac (congrArg (C.int .i64) ?_) rfl)))) (Ac (congrArg V.c (congrArg C.bool ?_)) rfl))),rfl⟩) ?_
 rotate_left 5
 all_goals first|(simp[By, *];done)|(simp[By,utf0, *];done)|(simp_all[By,utf0,Ai];done)|(simp_all[By,utf0,Ai];omega)
theorem Zz (u:Utf) (b:Int):Fun Tryz.prog 63 [.agg (Pa u),vI b] [] (.tup [.agg (Pa ((By u b).getD u)),vB (By u b).isSome]) []:=by
 have hN:Bn=274877906944:=rfl
 refine Av Tryz.func63 Q4 Q4 (w:=let z1:S:= .tup [.agg (Pa ((By u b).getD u)),vB (By u b).isSome];let z2:S:= .tup [.agg (Pa ((A8 b).getD utf0)),vB (A8 b).isSome];let z3:=Lf (.tup [.agg (Pa u),vB false]) z1 [] [];let z4:=Ai b u.low u.high;(.seg [.call [] (.v (vB (Ek u))) []] (.br (.leaf () []) (.br (.seg [.call [] z2 []] (.leaf () [])) (.seg [.call [] (.v (vB z4)) []] (.br (.leaf () []) (.br (.leaf () []) (.seg [.as 31 (.v (vI (u.want-1)))] (.leaf () []))))))),(Fp 121 [.agg (Pa u)] [] (.v (vB (Ek u))) [])∧Bc (!(Ek u)) z3 (Bc (decide (u.want=0)) ((Fp 132 [vI b] [] z2 [])∧Lf z2 z1 [] []) ((Fp 44 [vI b,vI u.low,vI u.high] [] (.v (vB z4)) [])∧Bc (!z4) z3 (Bc (decide (u.want=1)) (Lf (.tup [.agg [.int .i64 0,.int .i64 0,.int .i64 0],vB true]) z1 [] []) ((wI (u.want-1))∧Lf (.tup [.agg [.int .i64 (u.want-1),.int .i64 128,.int .i64 191],vB true]) z1 [] [])))))) Q4 ?_
 refine⟨(Amw u),fun h1=>have q1:=Aq h1;?_,fun h1=>have q1:=Ao h1;have p1:=Ju q1;?_⟩
 refine zE ((By u b).getD u) u (fun hm1=>⟨(congrArg S.tup (Ac (congrArg V.agg (Ac (congrArg (C.int .i64) ?_) (Ac (congrArg (C.int .i64) ?_) (Ac (congrArg (C.int .i64) ?_) rfl)))) (Ac (congrArg V.c (congrArg C.bool ?_)) rfl))),rfl⟩) ?_
 rotate_left 5
 refine dsp (fun h2 p2=>?_) fun h2 p2=>?_
 have hu:=Sq q1 p2
 refine zE ((By u b).getD u) ((A8 b).getD utf0) (fun hm1=>⟨(Adx _),(congrArg S.tup (Ac (congrArg V.agg (Ac (congrArg (C.int .i64) ?_) (Ac (congrArg (C.int .i64) ?_) (Ac (congrArg (C.int .i64) ?_) rfl)))) (Ac (congrArg V.c (congrArg C.bool ?_)) rfl))),rfl⟩) ?_
 rotate_left 5
 refine⟨(Bw _ _ _),fun h3=>have q3:=Aq h3;have p3:=A7 q3;?_,fun h3=>have q3:=Ao h3;have p3:=Aw q3;?_⟩
 refine zE ((By u b).getD u) u (fun hm1=>⟨(congrArg S.tup (Ac (congrArg V.agg (Ac (congrArg (C.int .i64) ?_) (Ac (congrArg (C.int .i64) ?_) (Ac (congrArg (C.int .i64) ?_) rfl)))) (Ac (congrArg V.c (congrArg C.bool ?_)) rfl))),rfl⟩) ?_
 rotate_left 5
 refine dsp (fun h4 p4=>?_) fun h4 p4=>?_
 refine zE ((By u b).getD u) utf0 (fun hm1=>⟨(congrArg S.tup (Ac (congrArg V.agg (Ac (congrArg (C.int .i64) ?_) (Ac (congrArg (C.int .i64) ?_) (Ac (congrArg (C.int .i64) ?_) rfl)))) (Ac (congrArg V.c (congrArg C.bool ?_)) rfl))),rfl⟩) ?_
 rotate_left 5
 refine zE ((By u b).getD u) (⟨u.want-1,128,191⟩:Utf) (fun hm1=>⟨(Af Q2 Q2),(congrArg S.tup (Ac (congrArg V.agg (Ac (congrArg (C.int .i64) ?_) (Ac (congrArg (C.int .i64) ?_) (Ac (congrArg (C.int .i64) ?_) rfl)))) (Ac (congrArg V.c (congrArg C.bool ?_)) rfl))),rfl⟩) ?_
 rotate_left 5
 all_goals first|(simp[By, *];done)|(simp[By,utf0, *];done)|(simp_all[By,utf0,Ai];done)|(simp_all[By,utf0,Ai];omega)
structure Kx where
 u:Utf
 i:Nat
def Ky (u:Utf) (s:List UInt8):Fam:=⟨Kx,fun q1=>[(1,.v (vT s)),(2,.v (vP 0)),(4,.v (vP 1)),(6,.v (vI (q1.i:Int)))],fun q1=>[.cells (Pa q1.u),.cells [.int .i64 0,.int .i64 0,.int .i64 0]],fun q1=>q1.i≤s.length∧D8 q1.u (List.drop q1.i s) q1.i=D8 u s 0,fun q1=>s.length-q1.i⟩
theorem Agm (u:Utf) (s:List UInt8) (hp1:s.length≤Bn):Fun Tryz.prog 212 [.agg (Pa u),vT s] [] (.tup [.agg (Pa (Sr u s)),vI (Fi u s)]) []:=by
 have hN:Bn=274877906944:=rfl
 refine Av Tryz.func212 Q4 Q4 (w:=let zi:Int→C:= .int .i64;let z7:=Ky u s;let z8:S:= .tup [.agg (Pa (Sr u s)),vI (Fi u s)];(.seg [.at 0,.keep [1,2,4,6],.sel [0,1]] (.loop z7 fun q1=> .br (.intro (Sx (s[q1.i]?)) fun x1=>let z2:=((UInt8.toNat x1:Nat):Int);let z1:S:= .tup [.agg (Pa ((By q1.u z2).getD q1.u)),vB (By q1.u z2).isSome];.seg [.tree (fr (.two 5 (fr (.one 9 (.one 10 (.first 11 (.done)))) 6 3) 9 (.one 5 (fr (.one 10 (.first 11 (.done))) 6 3))) 0 5) 12 [],.ch x1,.as 20 (.v (vI z2)),.call [] z1 [],.at 0,.keep [1,2,4,6,7,8],.sel [0,1,2],.call [] z1 [],.at 0,.keep [1,2,4,6,7,8],.sel [0,1,2]] (.br (.leaf () []) (.seg [.as 14 (.v (vI ((q1.i:Int)+1))),.at 0,.keep [1,2,4,6],.sel [0,1]] (.next)))) (.leaf () [])),z7.Has [(1,.v (vT s)),(2,.v (vP 0)),(4,.v (vP 1)),(6,.v (vI 0))] [.cells (Pa u),.cells [zi 0,zi 0,zi 0]]∧∀q1,z7.inv q1→(let z5:=(q1.i:Int);let z6:=Pa q1.u;Bc (decide (z5<(s.length:Int))) (El (s[q1.i]?) fun x1=>(let z4:=((UInt8.toNat x1:Nat):Int);let z3:=By q1.u z4;(s[q1.i]? =some x1)∧((0:Int)≤z5)∧(s[q1.i]? =some x1)∧((0:Int)≤z5)∧(wI (z4))∧(wI (z4))∧(Fp 63 [.agg z6,vI z4] [] (.tup [.agg (Pa (z3.getD q1.u)),vB z3.isSome]) [])∧(Fp 63 [.agg z6,vI z4] [] (.tup [.agg (Pa (z3.getD q1.u)),vB z3.isSome]) [])∧(([.cells z6,.cells [zi 0,zi 0,zi 0],.cells (Pa (z3.getD q1.u))]:List Blk)=[.cells z6,.cells [zi 0,zi 0,zi 0],.cells (Pa (z3.getD q1.u))])∧(([(1,.v (vT s)),(2,.v (vP 0)),(4,.v (vP 1)),(6,.v (vI z5)),(7,.v (vP 2)),(8,.v (vB z3.isSome))]:List (Nat×S))=[(1,.v (vT s)),(2,.v (vP 0)),(4,.v (vP 1)),(6,.v (vI z5)),(7,.v (vP 2)),(8,.v (vB z3.isSome))])∧Bc (!z3.isSome) (Lf (.tup [.agg z6,vI z5]) z8 [] []) ((wI (z5+1))∧z7.Nxt q1 [(1,.v (vT s)),(2,.v (vP 0)),(4,.v (vP 1)),(6,.v (vI (z5+1)))] [.cells (Pa (z3.getD q1.u)),.cells [zi 0,zi 0,zi 0]]))) (Lf (.tup [.agg z6,vI (-1)]) z8 [] [])))) Q4 ?_
 refine⟨Cm (j:=(⟨u,0⟩:Kx)) Q9 rfl (by dsimp only[Ky];exact⟨by omega,by simp⟩),fun (q1:Kx) hq_q1=>?_⟩
 have hi_q1:q1.i≤s.length∧D8 q1.u (List.drop q1.i s) q1.i=D8 u s 0:=hq_q1
 obtain ⟨v1,v2⟩:=hi_q1
 refine dsp (fun h1 p1=>?_) fun h1 p1=>?_
 refine⟨(Bo (l:=s) (i:=q1.i) Q2),fun x1 hx1=>?_⟩
 have hb_x1:=UInt8.toNat_lt x1
 refine⟨hx1,Q2,hx1,Q2,(Af Q2 Q2),(Af Q2 Q2),(Zz q1.u _),(Zz q1.u _),rfl,rfl,fun h2=>have q2:=Aq h2;?_,fun h2=>have q2:=Ao h2;?_⟩
 rw[Ef hx1,D8] at v2
 refine zE (Sr u s) q1.u (fun hm1=>⟨(congrArg S.tup (Ac (congrArg V.agg (Ac (congrArg (C.int .i64) ?_) (Ac (congrArg (C.int .i64) ?_) (Ac (congrArg (C.int .i64) ?_) rfl)))) (Ac (congrArg V.c (congrArg (C.int .i64) ?_)) rfl))),rfl⟩) ?_
 rotate_left 5
 rw[Ef hx1,D8] at v2
 exact⟨(Af Q2 Q2),Be (j:=(⟨((By q1.u ((UInt8.toNat x1:Nat):Int)).getD q1.u),q1.i+1⟩:Kx)) Q9 rfl (by dsimp only[Ky];exact⟨by omega,by cases hu:By q1.u (x1.toNat:Int)<;>simp_all⟩) (by dsimp only[Ky];omega)⟩
 rw[Kt p1] at v2
 refine zE (Sr u s) q1.u (fun hm1=>⟨(congrArg S.tup (Ac (congrArg V.agg (Ac (congrArg (C.int .i64) ?_) (Ac (congrArg (C.int .i64) ?_) (Ac (congrArg (C.int .i64) ?_) rfl)))) (Ac (congrArg V.c (congrArg (C.int .i64) ?_)) rfl))),rfl⟩) ?_
 rotate_left 5
 all_goals first|(unfold Sr;rw[←v2,D8];done)|(unfold Fi;rw[←v2,D8];done)|(unfold Sr;rw[←v2];clear v2;cases hu:By q1.u (x1.toNat:Int)<;>simp_all)|(unfold Fi;rw[←v2];clear v2;cases hu:By q1.u (x1.toNat:Int)<;>simp_all)
end Go.Proofs.YtphecbmdhbphgaaGreat.Ax
