/- Models. Numbers. Varints. Numbers of so Arf bytes; tags. Utf-8. -/
import Derived.Test.YtcmnedgnppnhoaaGreatKB4
set_option linter.unusedSimpArgs false
set_option linter.unusedVariables false
namespace Go.Proofs.YtcmnedgnppnhoaaGreat.Ax
open Go.RowKit
theorem Aa {α:Type} {a b:α} {l m:List α} (h:a=b) (t:l=m):a::l=b::m:=by rw[h,t]
def vI (x:Int):V:= .c (.int .i64 x)
def vB (x:Bool):V:= .c (.bool x)
def vT (x:List UInt8):V:= .c (.str x)
def vO (j:Nat):V:= .c (.own j)
def vP (j:Nat):V:= .c (.ptr j 0)
theorem sB {a b:Bool} (h:a=b):(.v (.c (.bool a)):S)= .v (.c (.bool b)):=by rw[h]
theorem sI {a b:Int} (h:a=b):(.v (.c (.int .i64 a)):S)= .v (.c (.int .i64 b)):=by rw[h]
theorem dT {p:Prop} [Decidable p]:decide p=true↔p:=decide_eq_true_iff
theorem dF {p:Prop} [Decidable p]:decide p=false↔¬p:=decide_eq_false_iff_not
theorem Cw {a b:Bool} {P Q:Prop} (h:a=true↔P) (g:b=true↔Q):(a&&b)=true↔P∧Q:=by rw[Bool.and_eq_true,h,g]
theorem Cx {a b:Bool} {P Q:Prop} (h:a=true↔P) (g:b=false↔Q):(a&&b)=false↔(P→Q):=by rw[Bool.and_eq_false_imp,h,g]
theorem orT {a b:Bool} {P Q:Prop} (h:a=true↔P) (g:b=true↔Q):(a||b)=true↔P∨Q:=by rw[Bool.or_eq_true,h,g]
theorem orF {a b:Bool} {P Q:Prop} (h:a=false↔P) (g:b=false↔Q):(a||b)=false↔P∧Q:=by rw[Bool.or_eq_false_iff,h,g]
theorem Bs {F:Fam} {j:F.ι} {tm:List (Nat×S)} {H:List Blk} (h1:tm=F.tm j) (h2:H=F.H j) (h:F.inv j):F.Has tm H:=⟨j,h,h1,h2⟩
theorem Bc {F:Fam} {i j:F.ι} {tm:List (Nat×S)} {H:List Blk} (h1:tm=F.tm j) (h2:H=F.H j) (h:F.inv j) (hm:F.mu j<F.mu i):F.Nxt i tm H:=⟨j,⟨h,hm⟩,h1,h2⟩
abbrev In {α:Type} (P Q:α→Prop):Prop:=(∃o,P o)∧∀o,P o→Q o
theorem Ar {P : Program} {f : FuncId} {fn : Func} (hf : P.funcs[f]? = some fn) (hb : fn.body.isNone = false) (hn : (fn.name == "runtime.NumGoroutine") = false) {args : List V} {L L' : List Blk} {r : S} {w : DT Unit × Prop}
  (hw:Afp P fn args L w.1 (fun _ r' Lp=>r'=r∧Lp=L')=w.2) (h:w.2):Fun P f args L r L':=Apt hf hb hn hw h
theorem Cc {P : Program} {ι : Type} {f : FuncId} {fn : Func} (hf : P.funcs[f]? = some fn) (hb : fn.body.isNone = false) (hn : (fn.name == "runtime.NumGoroutine") = false) {args : List V} {L : List Blk} {L' : ι → List Blk} {r : ι → S} {good : ι → Prop} {w : DT ι × Prop}
  (hw:Afp P fn args L w.1 (fun i r' Lp=>good i∧r'=r i∧Lp=L' i)=w.2) (h:w.2): ∃i,good i∧Fun P f args L (r i) (L' i):=An7 hf hb hn hw h
theorem dsp {p:Prop} [Decidable p] {A B:Prop} (h1:decide p=true→p→A) (h2:decide p=false→¬p→B):(decide p=true→A)∧(decide p=false→B):=⟨fun h=>h1 h (of_decide_eq_true h),fun h=>h2 h (of_decide_eq_false h)⟩
/-! ### Structures -/
structure Scn where
 bits:Int
 have_:Int
 deriving DecidableEq,Inhabited
structure Utf where
 want:Int
 low:Int
 high:Int
 deriving DecidableEq,Inhabited
structure Pln where
 shapes:List Shp
 root:Int
 deep:Int
 most:Int
 deriving DecidableEq,Inhabited
structure Dcd where
 plan:Pln
 mode:Int
 stack:List Lev
 scan:Scn
 start:Int
 at_:Int
 field:Fld
 wire:Int
 want:Int
 utf:Utf
 end_:Ev
 deriving DecidableEq,Inhabited
def fld0:Fld:=⟨0,0,false,false,0⟩
def ev0:Ev:=⟨0,0,0,0,[],0,0⟩
def utf0:Utf:=⟨0,0,0⟩
def scn0:Scn:=⟨0,0⟩
theorem Er {α:Type} {l:List α} {i:Nat} {x:α} (h:l[i]? =some x):l.drop i=x::l.drop (i+1):=by
 have hl:=(List.getElem?_eq_some_iff.1 h).1
 rw[List.drop_eq_getElem_cons hl]
 congr 1
 rw[List.getElem?_eq_getElem hl] at h
 exact Option.some.inj h
theorem Ap {b:Bool} (h:(!b)=true):b=false:=by cases b<;>simp_all
theorem Ao {b:Bool} (h:(!b)=false):b=true:=by cases b<;>simp_all
theorem Sv {α:Type} {l:List α} {i:Nat} {x d:α} (h:l[i]? =some x):l.getD i d=x:=by simp[List.getD,h]
theorem Kp {α:Type} {l:List α} {i:Nat} (h: ¬((i:Nat):Int)<((l.length:Nat):Int)):l.drop i=[]:=List.drop_eq_nil_of_le (by omega)
/-! ### Words of numbers -/
theorem Us {k:IntKind} {a m:Int} (h:0≤a):(.v (.c (.int k (Int.tmod a m))):S)= .v (.c (.int k (a % m))):=by rw[Int.tmod_eq_emod_of_nonneg h]
theorem Xf {a m:Int} (h:0≤a) (h2:a≤18446744073709551615) (hm:0<m):(.v (.c (.int .u64 (IntKind.u64.wrap (Int.tdiv a m)))):S)= .v (.c (.int .u64 (a / m))):=by
 rw[Int.tdiv_eq_ediv_of_nonneg h]
 have h3:=Int.ediv_nonneg h (Int.le_of_lt hm)
 have h4:=Int.ediv_le_self m h
 exact Bp Q2 Q2
theorem Ahv {a b:Int} {k:Nat} (ha:0≤a) (hk:a<2 ^ k) {c:Int} (hc:0≤c) (hb:b=c*2 ^ k) (hs:b+2 ^ k≤18446744073709551616):(((BitVec.ofInt 64 a|||BitVec.ofInt 64 b).toNat:Nat):Int)=a+b:=by
 obtain ⟨n,rfl⟩:=Int.eq_ofNat_of_zero_le ha
 obtain ⟨m,rfl⟩:=Int.eq_ofNat_of_zero_le hc
 have hb':b=((m*2 ^ k:Nat):Int):=by rw[hb,Int.natCast_mul,Int.natCast_pow];rfl
 have hp:(0:Int)<2 ^ k:=Int.pow_pos (by decide)
 subst hb'
 have e:((2 ^ k:Nat):Int)=2 ^ k:=by rw[Int.natCast_pow];rfl
 rw[←e] at hk hs hp
 have h1:n<2 ^ k:=by omega
 have h2:m*2 ^ k+2 ^ k≤18446744073709551616:=by omega
 have h3:n<2 ^ 64:=by omega
 have h4:m*2 ^ k<2 ^ 64:=by omega
 rw[BitVec.toNat_or,BitVec.ofInt_natCast,BitVec.ofInt_natCast,BitVec.toNat_ofNat,BitVec.toNat_ofNat,Nat.mod_eq_of_lt h3,Nat.mod_eq_of_lt h4,Nat.or_comm,Nat.mul_comm m,←Nat.two_pow_add_eq_or_of_lt h1]
 rw[Nat.mul_comm,Int.natCast_add,Int.add_comm]
/-! ### Kinds, wires, numbers -/
def D9 (n:Int):Bool:=Aq n 1 536870911&& !Aq n 19000 19999
def C7 (w:Int):Bool:=decide (w=0)||decide (w=1)||decide (w=2)||decide (w=5)
def Fd (k:Int):Bool:=Aq k 1 8
def Cy (k:Int):Bool:=Aq k 1 5
def Br (k:Int):Int:=if Fd k then (if k=4 then 5 else if k=5 then 1 else if k≤3 then 0 else 2) else-1
def Az (w:Int):Int:=if w=1 then 8 else if w=5 then 4 else 0
def Ta (f:Fld):Bool:=f.rep&&Cy f.kind
def Cq (f:Fld) (w:Int):Bool:=decide (w=Br f.kind)||(decide (w=2)&&Ta f)
def F1 (k:Int):Bool:=decide (k=2)||decide (k=3)||decide (k=6)
theorem D5 (w:Int):0≤Az w∧Az w≤8:=by unfold Az;split<;>(try split)<;>omega
def J0 (f:Fld) (n:Int):Bool:=D9 f.number&&Fd f.kind&& !(f.packed&&(!f.rep|| !Cy f.kind))&&(if f.kind=8 then Aq f.msg 0 (n-1) else decide (f.msg= -1))
def Dh (n:Int):Int→List Fld→Bool
 |_,[]=>true
 |b,f::r=>decide (b<f.number)&&J0 f n&&Dh n f.number r
def E1 (n:Int):Int→List Shp→Bool
 |_,[]=>true
 |b,x::r=>decide (b<x.id)&&decide (x.id≤99)&&decide ((x.fields.length:Int)≤8)&&Dh n 0 x.fields&&E1 n x.id r
def Dt (l:List Shp):Bool:=decide ((l.length:Int)≤6)&&E1 (l.length:Int) 0 l
def Ha (l:List Fld) (n:Int):Option Fld:=l.find? fun f=>decide (f.number=n)
def Are:Shp:=⟨0,[]⟩
def fieldAt (l:List Shp) (s n:Int):Option Fld:=if Aq s 0 ((l.length:Int)-1) then Ha (l.getD s.toNat Are).fields n else none
def B5 (p:Pln):Bool:=Dt p.shapes&&Aq p.root 0 ((p.shapes.length:Int)-1)&&Aq p.deep 1 8&&Aq p.most 0 2000
theorem Aai {f:Fld} {n:Int} (h:J0 f n=true):1≤f.number∧f.number≤536870911∧1≤f.kind∧f.kind≤8∧(f.kind=8→0≤f.msg∧f.msg≤n-1)∧(f.kind≠8→f.msg= -1):=by
 simp only[J0,D9,Fd,Aq,Bool.and_eq_true,decide_eq_true_eq] at h
 obtain ⟨⟨⟨h1,h2⟩,h3⟩,h4⟩:=h
 refine⟨h1.1.1,h1.1.2,h2.1,h2.2,fun hk=>?_,fun hk=>?_⟩
 ·rw[if_pos hk] at h4;simpa using h4
 ·rw[if_neg hk] at h4;simpa using h4
theorem Ut {l:List Shp} (h:Dt l=true):l.length≤6:=by
 simp only[Dt,Bool.and_eq_true,decide_eq_true_eq] at h;omega
theorem By {p:Pln} (h:B5 p=true):p.shapes.length≤6∧Dt p.shapes=true∧0≤p.root∧p.root<(p.shapes.length:Int)∧1≤p.deep∧p.deep≤8∧0≤p.most∧p.most≤2000:=by
 simp only[B5,Aq,Bool.and_eq_true,decide_eq_true_eq] at h
 have:=Ut h.1.1.1
 refine⟨this,h.1.1.1,?_⟩;omega
theorem Vm {n:Int} : ∀ {b:Int} {l:List Fld},Dh n b l=true→∀f∈l,J0 f n=true∧b<f.number
 |_,[],_,f,hf=>by cases hf
 |b,g::r,h,f,hf=>by
  simp only[Dh,Bool.and_eq_true,decide_eq_true_eq] at h
  rcases List.mem_cons.1 hf with rfl|hf
  ·exact⟨h.1.2,h.1.1⟩
  ·have:=Vm h.2 f hf;exact⟨this.1,by omega⟩
theorem Qr {n:Int} : ∀ {b:Int} {l:List Shp},E1 n b l=true→∀x∈l,(x.fields.length≤8∧Dh n 0 x.fields=true)∧b<x.id∧x.id≤99
 |_,[],_,f,hf=>by cases hf
 |b,g::r,h,f,hf=>by
  simp only[E1,Bool.and_eq_true,decide_eq_true_eq] at h
  rcases List.mem_cons.1 hf with rfl|hf
  ·exact⟨⟨by omega,h.1.2⟩,h.1.1.1.1,h.1.1.1.2⟩
  ·have:=Qr h.2 f hf;exact⟨this.1,by omega,this.2.2⟩
theorem Di {l:List Shp} (h:Dt l=true): ∀x∈l,List.length x.fields≤1000:=fun x hx=>by
 simp only[Dt,Bool.and_eq_true] at h
 have:=(Qr h.2 x hx).1.1
 omega
theorem Uu {l:List Shp} {s n:Int} {f:Fld} (hl:Dt l=true) (h:fieldAt l s n=some f):J0 f (l.length:Int)=true∧f.number=n:=by
 unfold fieldAt at h
 split at h
 ·rename_i hs
  have hs:=Av hs
  simp only[Dt,Bool.and_eq_true,decide_eq_true_eq] at hl
  have hm:l.getD s.toNat Are∈l:=by
   rw[List.getD_eq_getElem?_getD,List.getElem?_eq_getElem (by omega)]
   exact List.getElem_mem _
  have hx:=(Qr hl.2 _ hm).1.2
  have hf:=List.mem_of_find?_eq_some h
  have hp:=List.find?_some h
  exact⟨(Vm hx f hf).1,by simpa using hp⟩
 ·cases h
/-! ### Tags -/
def C6 (n w:Int):Int:=if Aq n 1 536870911&&Aq w 0 7 then 8*n+w else 0
def Gv (u:Int):Bool:=Aq u 8 4294967295
def Ba (u:Int):Int:=if Gv u then u / 8 else 0
def Ag (u:Int):Int:=if Gv u then u % 8 else 0
theorem Bu (n w:Int):0≤C6 n w∧C6 n w≤4294967295:=by
 unfold C6 Aq;split<;>simp_all<;>omega
/-! ### Utf-8 -/
def Qa (u:Utf) (w l h:Int):Bool:=decide (u.want=w)&&(decide (u.low=l)&&decide (u.high=h))
def Fe (u:Utf):Bool:=Qa u 0 0 0||Qa u 1 128 191||Qa u 2 128 191||Qa u 3 128 191||Qa u 2 160 191||Qa u 2 128 159||Qa u 3 144 191||Qa u 3 128 143
theorem Adb {u:Utf} (h:Fe u=true):(u.want=0∧u.low=0∧u.high=0)∨(u.want=1∧u.low=128∧u.high=191)∨(u.want=2∧u.low=128∧u.high=191)∨(u.want=3∧u.low=128∧u.high=191)∨(u.want=2∧u.low=160∧u.high=191)∨(u.want=2∧u.low=128∧u.high=159)∨(u.want=3∧u.low=144∧u.high=191)∨(u.want=3∧u.low=128∧u.high=143):=by
 simp only[Fe,Qa,Bool.or_eq_true,Bool.and_eq_true,decide_eq_true_eq] at h
 rcases h with ((((((h|h)|h)|h)|h)|h)|h)|h<;>simp[h]
theorem Rr {u:Utf} (h:Fe u=true) (h0:u.want=0):u=utf0:=by
 rcases Adb h with h|h|h|h|h|h|h|h<;>first|(cases u;simp_all[utf0];done)|omega
theorem Je {u:Utf} (h:Fe u=true):0≤u.want∧u.want≤3:=by
 rcases Adb h with h|h|h|h|h|h|h|h<;>omega
def Bo (b:Int):Option Utf:=
 if Aq b 0 127 then some utf0
 else if Aq b 194 223 then some ⟨1,128,191⟩
 else if Aq b 224 239 then some ⟨2,if b=224 then 160 else 128,if b=237 then 159 else 191⟩
 else if Aq b 240 244 then some ⟨3,if b=240 then 144 else 128,if b=244 then 143 else 191⟩
 else none
def Bi (u:Utf) (b:Int):Option Utf:=
 if Fe u then (if u.want=0 then Bo b else if Aq b u.low u.high then some (if u.want=1 then utf0 else ⟨u.want-1,128,191⟩) else none) else none
def F2:Utf→List UInt8→Nat→Utf×Option Nat
 |u,[],_=>(u,none)
 |u,b::r,i=>match Bi u (b.toNat:Int) with
  |some v=>F2 v r (i+1)
  |none=>(u,some i)
def J1 (u:Utf) (s:List UInt8):Utf:=(F2 u s 0).1
def D6 (u:Utf) (s:List UInt8):Int:=match (F2 u s 0).2 with
 |some i=>(i:Int)
 |none=> -1
/-! ### Varints -/
def Nx (u:Nat):List UInt8:=if h:u<128 then [UInt8.ofNat u] else UInt8.ofNat (u % 128+128)::Nx (u / 128)
termination_by u
decreasing_by omega
def Dw (u:Int):List UInt8:=Nx u.toNat
def L0 (u:Int):Int:=((Dw u).length:Int)
theorem Ny {u:Nat} (h:u<128):Nx u=[UInt8.ofNat u]:=by rw[Nx,dif_pos h]
theorem Sw {u:Nat} (h: ¬u<128):Nx u=UInt8.ofNat (u % 128+128)::Nx (u / 128):=by rw[Nx,dif_neg h]
theorem Sx: ∀(k u:Nat),u<128 ^ k→1≤k→(Nx u).length≤k
 |0,_,_,h=>by omega
 |k+1,u,h,_=>by
  by_cases hu:u<128
  ·rw[Ny hu];simp
  ·rw[Sw hu]
   have hk:1≤k:=by
    rcases k with _|k
    ·simp at h;omega
    ·omega
   have:=Sx k (u / 128) (by rw[Nat.pow_succ] at h;exact Nat.div_lt_of_lt_mul (by rw[Nat.mul_comm];exact h)) hk
   simp;omega
theorem Xg (u:Nat):1≤(Nx u).length:=by
 by_cases hu:u<128
 ·rw[Ny hu];simp
 ·rw[Sw hu];simp
theorem Vn {u:Int} (h0:0≤u) (h:u≤127):Dw u=[UInt8.ofNat u.toNat]:=Ny (by omega)
theorem Zb {u:Int} (h0:0≤u) (h:127<u):Dw u=UInt8.ofNat (u % 128+128).toNat::Dw (u / 128):=by
 unfold Dw
 rw[Sw (by omega),show (u / 128).toNat=u.toNat / 128 by omega,show (u % 128+128).toNat=u.toNat % 128+128 by omega]
theorem Zc (u:Int):1≤(Dw u).length:=Xg _
theorem Aem {u:Int} (h:u≤18446744073709551615):1≤L0 u∧L0 u≤10:=by
 have h1:=Xg u.toNat
 have h2:=Sx 10 u.toNat (by omega) (by omega)
 unfold L0 Dw;omega
theorem Ahw {a:Int} (h:0≤a) (h2:a≤255):(.v (.c (.int .u8 (IntKind.u8.wrap (((BitVec.ofInt 8 a&&&BitVec.ofInt 8 127).toNat:Nat):Int)))):S)= .v (.c (.int .u8 (a % 128))):=by
 obtain ⟨n,rfl⟩:=Int.eq_ofNat_of_zero_le h
 have e:(BitVec.ofInt 8 ((n:Nat):Int)&&&BitVec.ofInt 8 127).toNat=n % 128:=by
  rw[BitVec.toNat_and,BitVec.ofInt_natCast,BitVec.toNat_ofNat,Nat.mod_eq_of_lt (by omega)]
  exact Nat.and_two_pow_sub_one_eq_mod n 7
 rw[e]
 have:=Mv (x:=((n % 128:Nat):Int)) (by omega) (by omega)
 rw[this];simp
def vwA (s:List UInt8) (at_ end_:Int):Nat→Int→Int→Int×Int×Int
 |0,_,_=>(0,(s.length:Int),10)
 |f+1,k,u=>
  if end_≤at_+k then (0,end_,9)
  else if (s.length:Int)≤at_+k then (0,(s.length:Int),10)
  else if k=9∧1<((s.getD (at_+k).toNat 0).toNat:Int) then (0,at_+k,1)
  else if ((s.getD (at_+k).toNat 0).toNat:Int)<128 then (u+((s.getD (at_+k).toNat 0).toNat:Int) % 128*2 ^ (7*k).toNat,at_+k+1,0)
  else vwA s at_ end_ f (k+1) (u+((s.getD (at_+k).toNat 0).toNat:Int) % 128*2 ^ (7*k).toNat)
def Ah (s:List UInt8) (at_ end_:Int):Int×Int×Int:=if Aq at_ 0 (s.length:Int) then vwA s at_ end_ 10 0 0 else (0,(s.length:Int),10)
theorem Zd {c:Int} {k:Nat} (hk:k≤9) (h0:0≤c) (h1:c≤127) (h9:k=9→c≤1):0≤c*2 ^ (7*k)∧c*2 ^ (7*k)+2 ^ (7*k)≤18446744073709551616∧(0:Int)<2 ^ (7*k)∧c*2 ^ (7*k)+2 ^ (7*k)≤2 ^ (7*(k+1)):=by
 rcases (show k=0∨k=1∨k=2∨k=3∨k=4∨k=5∨k=6∨k=7∨k=8∨k=9 by omega) with rfl|rfl|rfl|rfl|rfl|rfl|rfl|rfl|rfl|rfl<;>simp at * <;>omega
theorem Tj {c:Int} {k:Nat} (hk:k≤9) (h0:0≤c) (h1:c≤127) (h9:k=9→c≤1):(.v (.c (.int .u64 (IntKind.u64.wrap (c*2 ^ min (Int.toNat (7*((k:Nat):Int))) 64)))):S)= .v (.c (.int .u64 (c*2 ^ (7*k)))):=by
 have h:=Zd hk h0 h1 h9
 rw[show min (Int.toNat (7*((k:Nat):Int))) 64=7*k by omega]
 exact Bp Q2 Q2
theorem Aen {u c:Int} {k:Nat} (hk:k≤9) (h0:0≤c) (h1:c≤127) (h9:k=9→c≤1) (hu:0≤u) (hu':u<2 ^ (7*k)):(.v (.c (.int .u64 (IntKind.u64.wrap (((BitVec.ofInt 64 u|||BitVec.ofInt 64 (c*2 ^ (7*k))).toNat:Nat):Int)))):S)= .v (.c (.int .u64 (u+c*2 ^ (7*k)))):=by
 have h:=Zd hk h0 h1 h9
 rw[Ahv (k:=7*k) (c:=c) hu hu' h0 rfl (by omega)]
 exact Bp Q2 Q2
theorem Apv {s:List UInt8} {a e:Int} : ∀(f k:Nat) (u:Int),k≤9→10≤f+k→0≤u→u<2 ^ (7*k)→0≤(vwA s a e f k u).1∧(vwA s a e f k u).1≤18446744073709551615
 |0,k,u,_,_,_,_=>by simp[vwA]
 |f+1,k,u,hk,hf,h0,h1=>by
  rw[vwA]
  have hb:=UInt8.toNat_lt (s.getD (a+(k:Int)).toNat 0)
  split
  ·simp
  split
  ·simp
  split
  ·simp
  rename_i h9
  have h9':k=9→¬(1<((s.getD (a+(k:Int)).toNat 0).toNat:Int)):=fun h hh=>h9 ⟨by omega,hh⟩
  have e7:((7*(k:Int)).toNat)=7*k:=by omega
  have hv:=Zd (c:=((s.getD (a+(k:Int)).toNat 0).toNat:Int) % 128) (k:=k) (by omega) (by omega) (by omega) (by intro h;have:=h9' h;omega)
  split
  ·rw[e7];dsimp only;omega
  ·rename_i h128
   have hk8:k≠9:=fun h=>by have:=h9' h;omega
   rw[e7,show (k:Int)+1=((k+1:Nat):Int) by simp]
   exact Apv f (k+1) _ Q2 Q2 Q2 Q2
theorem Lh (s:List UInt8) (a e:Int):0≤(Ah s a e).1∧(Ah s a e).1≤18446744073709551615:=by
 unfold Ah
 split
 ·exact Apv 10 0 0 (by omega) (by omega) (by omega) (by decide)
 ·simp
/-! ### Numbers of so Arf bytes -/
def Ff (w:Int):Bool:=decide (w=4)||decide (w=8)
def E5:List UInt8→Nat
 |[]=>0
 |b::r=>b.toNat+256*E5 r
def Dj (s:List UInt8) (at_ w:Int):Bool:=Ff w&&Aq at_ 0 ((s.length:Int)-w)
def Hi (s:List UInt8) (at_ w:Int):Int:=if Dj s at_ w then (E5 ((s.drop at_.toNat).take w.toNat):Int) else 0
theorem Vo: ∀(l:List UInt8) (b:UInt8),E5 (l++[b])=E5 l+b.toNat*2 ^ (8*l.length)
 |[],b=>by simp[E5]
 |a::l,b=>by
  simp only[List.cons_append,E5,Vo l b,List.length_cons]
  rw[show 8*(l.length+1)=8*l.length+8 by omega,Nat.pow_add,←Nat.mul_assoc]
  omega
theorem Ze: ∀(l:List UInt8),E5 l<2 ^ (8*l.length)
 |[]=>by simp[E5]
 |a::l=>by
  have:=Ze l
  have:=UInt8.toNat_lt a
  simp only[E5,List.length_cons]
  rw[show 8*(l.length+1)=8*l.length+8 by omega,Nat.pow_add]
  omega
theorem Mz {l:List UInt8} {k:Nat} (h:l.length≤k):E5 l<2 ^ (8*k):=Nat.lt_of_lt_of_le (Ze l) (Nat.pow_le_pow_right (by decide) (by omega))
theorem Ahx {α:Type} {l:List α} {a i:Nat} {x:α} (h:l[a+i]? =some x):(l.drop a).take (i+1)=(l.drop a).take i++[x]:=by
 have h':(l.drop a)[i]? =some x:=by rw[List.getElem?_drop];exact h
 obtain ⟨hl,hx⟩:=List.getElem?_eq_some_iff.1 h'
 rw[List.take_succ_eq_append_getElem hl,hx]
theorem Am7 {c:Int} {k:Nat} (hk:k≤7) (h0:0≤c) (h1:c≤255):0≤c*2 ^ (8*k)∧c*2 ^ (8*k)+2 ^ (8*k)≤18446744073709551616∧(0:Int)<2 ^ (8*k):=by
 rcases (show k=0∨k=1∨k=2∨k=3∨k=4∨k=5∨k=6∨k=7 by omega) with rfl|rfl|rfl|rfl|rfl|rfl|rfl|rfl<;>simp at * <;>omega
theorem Ahy {c:Int} {k:Nat} (hk:k≤7) (h0:0≤c) (h1:c≤255):(.v (.c (.int .u64 (IntKind.u64.wrap (c*2 ^ min (Int.toNat (8*((k:Nat):Int))) 64)))):S)= .v (.c (.int .u64 (c*2 ^ (8*k)))):=by
 have h:=Am7 hk h0 h1
 rw[show min (Int.toNat (8*((k:Nat):Int))) 64=8*k by omega]
 exact Bp Q2 Q2
theorem Ako {u c:Int} {k:Nat} (hk:k≤7) (h0:0≤c) (h1:c≤255) (hu:0≤u) (hu':u<2 ^ (8*k)):(.v (.c (.int .u64 (IntKind.u64.wrap (((BitVec.ofInt 64 u|||BitVec.ofInt 64 (c*2 ^ (8*k))).toNat:Nat):Int)))):S)= .v (.c (.int .u64 (u+c*2 ^ (8*k)))):=by
 have h:=Am7 hk h0 h1
 rw[Ahv (k:=8*k) (c:=c) hu hu' h0 rfl (by omega)]
 exact Bp Q2 Q2
theorem Abw {w:Int} (h:Ff w=true):w=4∨w=8:=by simpa [Ff] using h
theorem Ahz {w:Int} (h:Ff w=false):w≠4∧w≠8:=by simpa [Ff] using h
def Aw (c a:Int):Ev:=⟨10,0,0,0,[],c,a⟩
def D1 (f:Fld) (u:Int):Ev:=⟨2,f.number,if f.kind=3∧u≠0 then 1 else u,0,[],0,0⟩
def Qs (b:List UInt8):List UInt8:=Dw (b.length:Int)++b
theorem Afs {u:Int} (h:u≤18446744073709551615):(Dw u).length≤10:=by
 have:=Sx 10 u.toNat (by omega) (by omega);exact this
theorem Vp {f:Fld} {l:List Fld} {n:Int} :Ha (f::l) n=if f.number=n then some f else Ha l n:=by
 unfold Ha;rw[List.find?_cons];by_cases h:f.number=n<;>simp[h]
theorem Zf {l:List Shp} {s n:Int} {x:Shp} (hs:Aq s 0 ((l.length:Int)-1)=true) (hx:l[s.toNat]? =some x):fieldAt l s n=Ha x.fields n:=by
 rw[fieldAt,if_pos hs,Sv hx]
def Arf (l:List Ev) (k:Int):Int:=((l.filter fun e=>decide (e.kind=k)).length:Int)
structure Fa where
 stack:List Int
 inText:Bool
 isText:Bool
 utf:Utf
 ended:Bool
 deriving Inhabited
structure Fmr where
 plan:Pln
 st:Fa
structure Fs where
 stack:List Int
 field:Fld
 open_:Bool
 utf:Utf
 ended:Bool
def Hb (k:Int):Bool:=decide (k=6)||decide (k=7)
theorem Adc {b:Int} {u:Utf} (h:Bo b=some u):Fe u=true:=by
 unfold Bo at h
 repeat' split at h
 all_goals first|(cases h;done)|(cases h;first|decide|(exfalso;omega)|(simp only[Fe,Qa];simp_all;done)|(simp only[Fe,Qa];simp_all;omega))
theorem Zg {u v:Utf} {b:Int} (h:Bi u b=some v):Fe v=true:=by
 unfold Bi at h
 split at h
 ·rename_i hu
  have hw:=Je hu
  split at h
  ·exact Adc h
  ·split at h
   ·split at h
    ·cases h;decide
    ·cases h
     rcases Adb hu with h|h|h|h|h|h|h|h<;>simp_all[Fe,Qa]
   ·cases h
 ·cases h
theorem Abx: ∀ {u:Utf} {s:List UInt8} {i:Nat},Fe u=true→Fe (F2 u s i).1=true
 |u,[],i,h=>h
 |u,b::r,i,h=>by
  unfold F2
  split
  ·rename_i v hv;exact Abx (Zg hv)
  ·exact h
theorem V7 {u:Utf} {s:List UInt8} (h:Fe u=true):Fe (J1 u s)=true:=Abx h
def cEv (x:Ev):List C:=[.int .i64 x.kind,.int .i64 x.field,.int .u64 x.bits,.int .i64 x.len,.str x.text,.int .i64 x.code,.int .i64 x.at_]
def Ej (x:Fld):List C:=[.int .i64 x.number,.int .i64 x.kind,.bool x.rep,.bool x.packed,.int .i64 x.msg]
def Aqt (x:Shp):List C:=[.int .i64 x.id,.seq .fld x.fields]
def Aqu (x:Lev):List C:=[.int .i64 x.msg,.int .i64 x.left]
def Qb (x:Scn):List C:=[.int .u64 x.bits,.int .i64 x.have_]
def Hn (x:Utf):List C:=[.int .i64 x.want,.int .i64 x.low,.int .i64 x.high]
def Ex (x:Pln):List C:=[.seq .shp x.shapes,.int .i64 x.root,.int .i64 x.deep,.int .i64 x.most]
def Cd (x:Dcd):List C:=[.seq .shp x.plan.shapes,.int .i64 x.plan.root,.int .i64 x.plan.deep,.int .i64 x.plan.most,.int .i64 x.mode,.seq .lev x.stack,.int .u64 x.scan.bits,.int .i64 x.scan.have_,.int .i64 x.start,.int .i64 x.at_,.int .i64 x.field.number,.int .i64 x.field.kind,.bool x.field.rep,.bool x.field.packed,.int .i64 x.field.msg,.int .i64 x.wire,.int .i64 x.want,.int .i64 x.utf.want,.int .i64 x.utf.low,.int .i64 x.utf.high,.int .i64 x.end_.kind,.int .i64 x.end_.field,.int .u64 x.end_.bits,.int .i64 x.end_.len,.str x.end_.text,.int .i64 x.end_.code,.int .i64 x.end_.at_]
def Ak (j0:Nat) (j5:Nat) (x:Dcd):List C:=[.own j0,.int .i64 x.plan.root,.int .i64 x.plan.deep,.int .i64 x.plan.most,.int .i64 x.mode,.own j5,.int .u64 x.scan.bits,.int .i64 x.scan.have_,.int .i64 x.start,.int .i64 x.at_,.int .i64 x.field.number,.int .i64 x.field.kind,.bool x.field.rep,.bool x.field.packed,.int .i64 x.field.msg,.int .i64 x.wire,.int .i64 x.want,.int .i64 x.utf.want,.int .i64 x.utf.low,.int .i64 x.utf.high,.int .i64 x.end_.kind,.int .i64 x.end_.field,.int .u64 x.end_.bits,.int .i64 x.end_.len,.str x.end_.text,.int .i64 x.end_.code,.int .i64 x.end_.at_]
def Afu (j0:Nat) (x:Pln):List C:=[.own j0,.int .i64 x.root,.int .i64 x.deep,.int .i64 x.most]
theorem Ch (n:Int) (lo:Int) (hi:Int):Fun Tryz.prog 79 [vI n,vI lo,vI hi] [] (.v (vB (Aq n lo hi))) []:=by
 have hN:Be=274877906944:=rfl
 refine Ar Tryz.func79 Q4 Q4 (w:=(.br (.leaf () []) (.leaf () []),((decide (lo≤n))=true→(.v (vB (decide (n≤hi))):S)= .v (vB (Aq n lo hi))∧([]:List Blk)=[])∧((decide (lo≤n))=false→(.v (vB false):S)= .v (vB (Aq n lo hi))∧([]:List Blk)=[]))) Q4 ?_
 refine dsp (fun h1 p1=>?_) fun h1 p1=>?_
 exact⟨(congrArg S.v (congrArg V.c (congrArg C.bool (by simp[Aq, *])))),rfl⟩
 exact⟨(congrArg S.v (congrArg V.c (congrArg C.bool (by simp[Aq, *])))),rfl⟩
theorem Bh (n:Int) (lo:Int) (hi:Int):Fun Tryz.prog 59 [vI n,vI lo,vI hi] [] (.v (vB (Aq n lo hi))) []:=by
 have hN:Be=274877906944:=rfl
 refine Ar Tryz.func59 Q4 Q4 (w:=(.br (.leaf () []) (.leaf () []),((decide (lo≤n))=true→(.v (vB (decide (n≤hi))):S)= .v (vB (Aq n lo hi))∧([]:List Blk)=[])∧((decide (lo≤n))=false→(.v (vB false):S)= .v (vB (Aq n lo hi))∧([]:List Blk)=[]))) Q4 ?_
 refine dsp (fun h1 p1=>?_) fun h1 p1=>?_
 exact⟨(congrArg S.v (congrArg V.c (congrArg C.bool (by simp[Aq, *])))),rfl⟩
 exact⟨(congrArg S.v (congrArg V.c (congrArg C.bool (by simp[Aq, *])))),rfl⟩
theorem Apw (a:Int) (b:Int):Fun Tryz.prog 47 [vI a,vI b] [] (.v (vI (min a b))) []:=by
 have hN:Be=274877906944:=rfl
 refine Ar Tryz.func47 Q4 Q4 (w:=(.br (.leaf () []) (.leaf () []),((decide (a<b))=true→(.v (vI a):S)= .v (vI (min a b))∧([]:List Blk)=[])∧((decide (a<b))=false→(.v (vI b):S)= .v (vI (min a b))∧([]:List Blk)=[]))) Q4 ?_
 refine dsp (fun h1 p1=>?_) fun h1 p1=>?_
 exact⟨(congrArg S.v (congrArg V.c (congrArg (C.int .i64) Q2))),rfl⟩
 exact⟨(congrArg S.v (congrArg V.c (congrArg (C.int .i64) Q2))),rfl⟩
theorem H8 (a:Int) (b:Int):Fun Tryz.prog 208 [vI a,vI b] [] (.v (vI (max a b))) []:=by
 have hN:Be=274877906944:=rfl
 refine Ar Tryz.func208 Q4 Q4 (w:=(.br (.leaf () []) (.leaf () []),((decide (b<a))=true→(.v (vI a):S)= .v (vI (max a b))∧([]:List Blk)=[])∧((decide (b<a))=false→(.v (vI b):S)= .v (vI (max a b))∧([]:List Blk)=[]))) Q4 ?_
 refine dsp (fun h1 p1=>?_) fun h1 p1=>?_
 exact⟨(congrArg S.v (congrArg V.c (congrArg (C.int .i64) Q2))),rfl⟩
 exact⟨(congrArg S.v (congrArg V.c (congrArg (C.int .i64) Q2))),rfl⟩
theorem Afv (n:Int):Fun Tryz.prog 194 [vI n] [] (.v (vB (D9 n))) []:=by
 have hN:Be=274877906944:=rfl
 refine Ar Tryz.func194 Q4 Q4 (w:=let z1:=Aq n 1 536870911;let z2:=Aq n 19000 19999;(.seg [.call [] (.v (vB z1)) []] (.br (.seg [.call [] (.v (vB z2)) []] (.leaf () [])) (.leaf () [])),(Fun Tryz.prog 79 [vI n,vI 1,vI 536870911] [] (.v (vB z1)) [])∧(z1=true→(Fun Tryz.prog 79 [vI n,vI 19000,vI 19999] [] (.v (vB z2)) [])∧(.v (vB (!z2)):S)= .v (vB (D9 n))∧([]:List Blk)=[])∧(z1=false→(.v (vB false):S)= .v (vB (D9 n))∧([]:List Blk)=[]))) Q4 ?_
 refine⟨(Ch _ _ _),fun h1=>have p1:=Av h1;?_,fun h1=>have p1:=A4 h1;?_⟩
 exact⟨(Ch _ _ _),(congrArg S.v (congrArg V.c (congrArg C.bool (by simp[D9, *])))),rfl⟩
 exact⟨(congrArg S.v (congrArg V.c (congrArg C.bool (by simp[D9, *])))),rfl⟩
theorem Zh (n:Int):Fun Tryz.prog 191 [vI n] [] (.v (vB (D9 n))) []:=by
 have hN:Be=274877906944:=rfl
 refine Ar Tryz.func191 Q4 Q4 (w:=let z1:=Aq n 1 536870911;let z2:=Aq n 19000 19999;(.seg [.call [] (.v (vB z1)) []] (.br (.seg [.call [] (.v (vB z2)) []] (.leaf () [])) (.leaf () [])),(Fun Tryz.prog 59 [vI n,vI 1,vI 536870911] [] (.v (vB z1)) [])∧(z1=true→(Fun Tryz.prog 59 [vI n,vI 19000,vI 19999] [] (.v (vB z2)) [])∧(.v (vB (!z2)):S)= .v (vB (D9 n))∧([]:List Blk)=[])∧(z1=false→(.v (vB false):S)= .v (vB (D9 n))∧([]:List Blk)=[]))) Q4 ?_
 refine⟨(Bh _ _ _),fun h1=>have p1:=Av h1;?_,fun h1=>have p1:=A4 h1;?_⟩
 exact⟨(Bh _ _ _),(congrArg S.v (congrArg V.c (congrArg C.bool (by simp[D9, *])))),rfl⟩
 exact⟨(congrArg S.v (congrArg V.c (congrArg C.bool (by simp[D9, *])))),rfl⟩
theorem Aaj (w:Int):Fun Tryz.prog 81 [vI w] [] (.v (vB (C7 w))) []:=by
 have hN:Be=274877906944:=rfl
 refine Ar Tryz.func81 Q4 Q4 (w:=let z1:=vB (C7 w);let z2:=([]:List Blk);let z3:=(.v (vB true):S);(.br (.leaf () []) (.br (.leaf () []) (.br (.leaf () []) (.leaf () []))),((decide (w=0))=true→z3= .v z1∧z2=[])∧((decide (w=0))=false→((decide (w=1))=true→z3= .v z1∧z2=[])∧((decide (w=1))=false→((decide (w=2))=true→z3= .v z1∧z2=[])∧((decide (w=2))=false→(.v (vB (decide (w=5))):S)= .v z1∧z2=[]))))) Q4 ?_
 refine dsp (fun h1 p1=>?_) fun h1 p1=>?_
 exact⟨(congrArg S.v (congrArg V.c (congrArg C.bool Q82))),rfl⟩
 refine dsp (fun h2 p2=>?_) fun h2 p2=>?_
 exact⟨(congrArg S.v (congrArg V.c (congrArg C.bool Q82))),rfl⟩
 refine dsp (fun h3 p3=>?_) fun h3 p3=>?_
 exact⟨(congrArg S.v (congrArg V.c (congrArg C.bool Q82))),rfl⟩
 exact⟨(congrArg S.v (congrArg V.c (congrArg C.bool Q82))),rfl⟩
theorem Aak (w:Int):Fun Tryz.prog 69 [vI w] [] (.v (vB (C7 w))) []:=by
 have hN:Be=274877906944:=rfl
 refine Ar Tryz.func69 Q4 Q4 (w:=let z1:=vB (C7 w);let z2:=([]:List Blk);let z3:=(.v (vB true):S);(.br (.leaf () []) (.br (.leaf () []) (.br (.leaf () []) (.leaf () []))),((decide (w=0))=true→z3= .v z1∧z2=[])∧((decide (w=0))=false→((decide (w=1))=true→z3= .v z1∧z2=[])∧((decide (w=1))=false→((decide (w=2))=true→z3= .v z1∧z2=[])∧((decide (w=2))=false→(.v (vB (decide (w=5))):S)= .v z1∧z2=[]))))) Q4 ?_
 refine dsp (fun h1 p1=>?_) fun h1 p1=>?_
 exact⟨(congrArg S.v (congrArg V.c (congrArg C.bool Q82))),rfl⟩
 refine dsp (fun h2 p2=>?_) fun h2 p2=>?_
 exact⟨(congrArg S.v (congrArg V.c (congrArg C.bool Q82))),rfl⟩
 refine dsp (fun h3 p3=>?_) fun h3 p3=>?_
 exact⟨(congrArg S.v (congrArg V.c (congrArg C.bool Q82))),rfl⟩
 exact⟨(congrArg S.v (congrArg V.c (congrArg C.bool Q82))),rfl⟩
theorem Aeo (k:Int):Fun Tryz.prog 195 [vI k] [] (.v (vB (Fd k))) []:=by
 have hN:Be=274877906944:=rfl
 refine Ar Tryz.func195 Q4 Q4 (w:=let z1:=vB (Aq k 1 8);(.seg [.call [] (.v z1) []] (.leaf () []),(Fun Tryz.prog 79 [vI k,vI 1,vI 8] [] (.v z1) [])∧(.v z1:S)= .v (vB (Fd k))∧([]:List Blk)=[])) Q4 ?_
 exact⟨(Ch _ _ _),(congrArg S.v (congrArg V.c (congrArg C.bool (by rfl)))),rfl⟩
theorem V8 (k:Int):Fun Tryz.prog 134 [vI k] [] (.v (vB (Fd k))) []:=by
 have hN:Be=274877906944:=rfl
 refine Ar Tryz.func134 Q4 Q4 (w:=let z1:=vB (Aq k 1 8);(.seg [.call [] (.v z1) []] (.leaf () []),(Fun Tryz.prog 59 [vI k,vI 1,vI 8] [] (.v z1) [])∧(.v z1:S)= .v (vB (Fd k))∧([]:List Blk)=[])) Q4 ?_
 exact⟨(Bh _ _ _),(congrArg S.v (congrArg V.c (congrArg C.bool (by rfl)))),rfl⟩
theorem Xh (k:Int):Fun Tryz.prog 185 [vI k] [] (.v (vB (Cy k))) []:=by
 have hN:Be=274877906944:=rfl
 refine Ar Tryz.func185 Q4 Q4 (w:=let z1:=vB (Aq k 1 5);(.seg [.call [] (.v z1) []] (.leaf () []),(Fun Tryz.prog 79 [vI k,vI 1,vI 5] [] (.v z1) [])∧(.v z1:S)= .v (vB (Cy k))∧([]:List Blk)=[])) Q4 ?_
 exact⟨(Ch _ _ _),(congrArg S.v (congrArg V.c (congrArg C.bool (by rfl)))),rfl⟩
theorem M0 (k:Int):Fun Tryz.prog 135 [vI k] [] (.v (vB (Cy k))) []:=by
 have hN:Be=274877906944:=rfl
 refine Ar Tryz.func135 Q4 Q4 (w:=let z1:=vB (Aq k 1 5);(.seg [.call [] (.v z1) []] (.leaf () []),(Fun Tryz.prog 59 [vI k,vI 1,vI 5] [] (.v z1) [])∧(.v z1:S)= .v (vB (Cy k))∧([]:List Blk)=[])) Q4 ?_
 exact⟨(Bh _ _ _),(congrArg S.v (congrArg V.c (congrArg C.bool (by rfl)))),rfl⟩
theorem V9 (k:Int):Fun Tryz.prog 174 [vI k] [] (.v (vI (Br k))) []:=by
 have hN:Be=274877906944:=rfl
 refine Ar Tryz.func174 Q4 Q4 (w:=let zi:Int→C:= .int .i64;let z1:=List.getD [0,0,0,5,1,2,2,2] (Int.toNat (k-1)) 0;(.seg [.call [] (.v (vB (Fd k))) []] (.br (.leaf () []) (.seg [.as 8 (.v (vI (k-1))),.ce (zi z1)] (.leaf () []))),(Fun Tryz.prog 195 [vI k] [] (.v (vB (Fd k))) [])∧((!(Fd k))=true→(.v (vI (-1)):S)= .v (vI (Br k))∧([]:List Blk)=[])∧((!(Fd k))=false→((.v (vI (IntKind.i64.wrap (k-1))):S)= .v (vI (k-1)))∧((([zi 0,zi 0,zi 0,zi 5,zi 1,zi 2,zi 2,zi 2]:List C)[Int.toNat (k-1)]?)=some (zi z1))∧(k-1<((8:Nat):Int))∧((0:Int)≤k-1)∧(.v (vI z1):S)= .v (vI (Br k))∧([]:List Blk)=[]))) Q4 ?_
 refine⟨(Aeo _),fun h1=>have q1:=Ap h1;have p1:=A4 q1;?_,fun h1=>have q1:=Ao h1;have p1:=Av q1;?_⟩
 refine⟨(sI ?_),rfl⟩
 rotate_left
 refine⟨(Ac Q2 Q2),(Apr (l:=[0,0,0,5,1,2,2,2]) (by simp;omega)),Q2,Q2,(sI ?_),rfl⟩
 rotate_left
 all_goals first|(simp[Br, *];done)|(rcases (show k=1∨k=2∨k=3∨k=4∨k=5∨k=6∨k=7∨k=8 by omega) with rfl|rfl|rfl|rfl|rfl|rfl|rfl|rfl<;>rfl)
theorem Nz (k:Int):Fun Tryz.prog 124 [vI k] [] (.v (vI (Br k))) []:=by
 have hN:Be=274877906944:=rfl
 refine Ar Tryz.func124 Q4 Q4 (w:=let z1:=vI (Br k);let z2:=([]:List Blk);(.seg [.call [] (.v (vB (Fd k))) []] (.br (.leaf () []) (.br (.leaf () []) (.br (.leaf () []) (.seg [.call [] (.v (vB (Cy k))) []] (.br (.leaf () []) (.leaf () [])))))),(Fun Tryz.prog 134 [vI k] [] (.v (vB (Fd k))) [])∧((!(Fd k))=true→(.v (vI (-1)):S)= .v z1∧z2=[])∧((!(Fd k))=false→((decide (k=4))=true→(.v (vI 5):S)= .v z1∧z2=[])∧((decide (k=4))=false→((decide (k=5))=true→(.v (vI 1):S)= .v z1∧z2=[])∧((decide (k=5))=false→(Fun Tryz.prog 135 [vI k] [] (.v (vB (Cy k))) [])∧((Cy k)=true→(.v (vI 0):S)= .v z1∧z2=[])∧((Cy k)=false→(.v (vI 2):S)= .v z1∧z2=[])))))) Q4 ?_
 refine⟨(V8 _),fun h1=>have q1:=Ap h1;have p1:=A4 q1;?_,fun h1=>have q1:=Ao h1;have p1:=Av q1;?_⟩
 refine⟨(sI ?_),rfl⟩
 rotate_left
 refine dsp (fun h2 p2=>?_) fun h2 p2=>?_
 refine⟨(sI ?_),rfl⟩
 rotate_left
 refine dsp (fun h3 p3=>?_) fun h3 p3=>?_
 refine⟨(sI ?_),rfl⟩
 rotate_left
 refine⟨(M0 _),fun h4=>have p4:=Av h4;?_,fun h4=>have p4:=A4 h4;?_⟩
 refine⟨(sI ?_),rfl⟩
 rotate_left
 refine⟨(sI ?_),rfl⟩
 rotate_left
 all_goals first|(simp[Br, *]<;>(repeat' split)<;>omega)|(subst_vars;rfl)
theorem Fw (w:Int):Fun Tryz.prog 146 [vI w] [] (.v (vI (Az w))) []:=by
 have hN:Be=274877906944:=rfl
 refine Ar Tryz.func146 Q4 Q4 (w:=(.br (.leaf () []) (.br (.leaf () []) (.leaf () [])),((decide (w=1))=true→(.v (vI 8):S)= .v (vI (Az w))∧([]:List Blk)=[])∧((decide (w=1))=false→((decide (w=5))=true→(.v (vI 4):S)= .v (vI (Az w))∧([]:List Blk)=[])∧((decide (w=5))=false→(.v (vI 0):S)= .v (vI (Az w))∧([]:List Blk)=[])))) Q4 ?_
 refine dsp (fun h1 p1=>?_) fun h1 p1=>?_
 exact⟨(congrArg S.v (congrArg V.c (congrArg (C.int .i64) (by simp[Az, *])))),rfl⟩
 refine dsp (fun h2 p2=>?_) fun h2 p2=>?_
 exact⟨(congrArg S.v (congrArg V.c (congrArg (C.int .i64) (by simp[Az, *])))),rfl⟩
 exact⟨(congrArg S.v (congrArg V.c (congrArg (C.int .i64) (by simp[Az, *])))),rfl⟩
theorem D7 (w:Int):Fun Tryz.prog 74 [vI w] [] (.v (vI (Az w))) []:=by
 have hN:Be=274877906944:=rfl
 refine Ar Tryz.func74 Q4 Q4 (w:=(.br (.leaf () []) (.br (.leaf () []) (.leaf () [])),((decide (w=1))=true→(.v (vI 8):S)= .v (vI (Az w))∧([]:List Blk)=[])∧((decide (w=1))=false→((decide (w=5))=true→(.v (vI 4):S)= .v (vI (Az w))∧([]:List Blk)=[])∧((decide (w=5))=false→(.v (vI 0):S)= .v (vI (Az w))∧([]:List Blk)=[])))) Q4 ?_
 refine dsp (fun h1 p1=>?_) fun h1 p1=>?_
 exact⟨(congrArg S.v (congrArg V.c (congrArg (C.int .i64) (by simp[Az, *])))),rfl⟩
 refine dsp (fun h2 p2=>?_) fun h2 p2=>?_
 exact⟨(congrArg S.v (congrArg V.c (congrArg (C.int .i64) (by simp[Az, *])))),rfl⟩
 exact⟨(congrArg S.v (congrArg V.c (congrArg (C.int .i64) (by simp[Az, *])))),rfl⟩
theorem Ah0 (f:Fld):Fun Tryz.prog 144 [.agg (Ej f)] [] (.v (vB (Ta f))) []:=by
 have hN:Be=274877906944:=rfl
 refine Ar Tryz.func144 Q4 Q4 (w:=let z1:=vB (Cy f.kind);(.br (.seg [.call [] (.v z1) []] (.leaf () [])) (.leaf () []),(f.rep=true→(Fun Tryz.prog 185 [vI f.kind] [] (.v z1) [])∧(.v z1:S)= .v (vB (Ta f))∧([]:List Blk)=[])∧(f.rep=false→(.v (vB false):S)= .v (vB (Ta f))∧([]:List Blk)=[]))) Q4 ?_
 refine⟨fun h1=>?_,fun h1=>?_⟩
 exact⟨(Xh _),(congrArg S.v (congrArg V.c (congrArg C.bool (by simp[Ta, *])))),rfl⟩
 exact⟨(congrArg S.v (congrArg V.c (congrArg C.bool (by simp[Ta, *])))),rfl⟩
theorem Xi (f:Fld):Fun Tryz.prog 76 [.agg (Ej f)] [] (.v (vB (Ta f))) []:=by
 have hN:Be=274877906944:=rfl
 refine Ar Tryz.func76 Q4 Q4 (w:=let z1:=vB (Cy f.kind);(.br (.seg [.call [] (.v z1) []] (.leaf () [])) (.leaf () []),(f.rep=true→(Fun Tryz.prog 135 [vI f.kind] [] (.v z1) [])∧(.v z1:S)= .v (vB (Ta f))∧([]:List Blk)=[])∧(f.rep=false→(.v (vB false):S)= .v (vB (Ta f))∧([]:List Blk)=[]))) Q4 ?_
 refine⟨fun h1=>?_,fun h1=>?_⟩
 exact⟨(M0 _),(congrArg S.v (congrArg V.c (congrArg C.bool (by simp[Ta, *])))),rfl⟩
 exact⟨(congrArg S.v (congrArg V.c (congrArg C.bool (by simp[Ta, *])))),rfl⟩
theorem J2 (f:Fld) (w:Int) (hp1:(0:Int)≤w):Fun Tryz.prog 145 [.agg (Ej f),vI w] [] (.v (vB (Cq f w))) []:=by
 have hN:Be=274877906944:=rfl
 refine Ar Tryz.func145 Q4 Q4 (w:=let z1:=vB (Cq f w);(.seg [.call [] (.v (vI (Br f.kind))) []] (.br (.leaf () []) (.br (.seg [.call [] (.v (vB (Ta f))) []] (.leaf () [])) (.leaf () []))),(Fun Tryz.prog 174 [vI f.kind] [] (.v (vI (Br f.kind))) [])∧((decide (w=Br f.kind))=true→(.v (vB true):S)= .v z1∧([]:List Blk)=[])∧((decide (w=Br f.kind))=false→((decide (w=2))=true→(Fun Tryz.prog 144 [.agg (Ej f)] [] (.v (vB (Ta f))) [])∧(.v (vB (Ta f)):S)= .v z1∧([]:List Blk)=[])∧((decide (w=2))=false→(.v (vB false):S)= .v z1∧([]:List Blk)=[])))) Q4 ?_
 refine⟨(V9 _),dsp (fun h1 p1=>?_) fun h1 p1=>?_⟩
 refine⟨(sB ?_),rfl⟩
 rotate_left
 refine dsp (fun h2 p2=>?_) fun h2 p2=>?_
 refine⟨(Ah0 f),(sB ?_),rfl⟩
 rotate_left
 refine⟨(sB ?_),rfl⟩
 rotate_left
 all_goals first|(simp[Cq, *]<;>(repeat' split)<;>omega)|(simp[Cq,Br, *]<;>(repeat' split)<;>omega)
theorem Xj (f:Fld) (w:Int) (hp1:(0:Int)≤w):Fun Tryz.prog 75 [.agg (Ej f),vI w] [] (.v (vB (Cq f w))) []:=by
 have hN:Be=274877906944:=rfl
 refine Ar Tryz.func75 Q4 Q4 (w:=let z2:=vB (Ta f);let z3:=vB (Cq f w);let z4:=Fd f.kind;let z5:=([]:List Blk);let z1:=(decide (w=2))=false→(.v (vB false):S)= .v z3∧z5=[];(.seg [.call [] (.v (vB z4)) []] (.br (.seg [.call [] (.v (vI (Br f.kind))) []] (.br (.leaf () []) (.br (.seg [.call [] (.v z2) []] (.leaf () [])) (.leaf () [])))) (.br (.seg [.call [] (.v z2) []] (.leaf () [])) (.leaf () []))),(Fun Tryz.prog 134 [vI f.kind] [] (.v (vB z4)) [])∧(z4=true→(Fun Tryz.prog 124 [vI f.kind] [] (.v (vI (Br f.kind))) [])∧((decide (w=Br f.kind))=true→(.v (vB true):S)= .v z3∧z5=[])∧((decide (w=Br f.kind))=false→((decide (w=2))=true→(Fun Tryz.prog 76 [.agg (Ej f)] [] (.v z2) [])∧(.v z2:S)= .v z3∧z5=[])∧z1))∧(z4=false→((decide (w=2))=true→(Fun Tryz.prog 76 [.agg (Ej f)] [] (.v z2) [])∧(.v z2:S)= .v z3∧z5=[])∧z1))) Q4 ?_
 refine⟨(V8 _),fun h1=>have p1:=Av h1;?_,fun h1=>have p1:=A4 h1;?_⟩
 refine⟨(Nz _),dsp (fun h2 p2=>?_) fun h2 p2=>?_⟩
 refine⟨(sB ?_),rfl⟩
 rotate_left
 refine dsp (fun h3 p3=>?_) fun h3 p3=>?_
 refine⟨(Xi f),(sB ?_),rfl⟩
 rotate_left
 refine⟨(sB ?_),rfl⟩
 rotate_left
 refine dsp (fun h2 p2=>?_) fun h2 p2=>?_
 refine⟨(Xi f),(sB ?_),rfl⟩
 rotate_left
 refine⟨(sB ?_),rfl⟩
 rotate_left
 all_goals first|(simp[Cq, *]<;>(repeat' split)<;>omega)|(simp[Cq,Br, *]<;>(repeat' split)<;>omega)
structure N0 where
 u:Int
 out:List Int
def N1 (u:Int):Fam:=⟨N0,fun q1=>[(0,.v (.c (.int .u64 q1.u))),(3,.v (vO 0))],fun q1=>[.lst .u8 q1.out],fun q1=>(0:Int)≤q1.u∧q1.u≤18446744073709551615∧List.map Bv q1.out++Dw q1.u=Dw u∧q1.out.length+List.length (Dw q1.u)≤10,fun q1=>q1.u.toNat⟩
theorem Tk (u:Int) (hp1:(0:Int)≤u∧u≤18446744073709551615):Fun Tryz.prog 103 [.c (.int .u64 u)] [] (.v (vT (Dw u))) []:=by
 have hN:Be=274877906944:=rfl
 refine Ar Tryz.func103 Q4 Q4 (w:=let z2:=N1 u;(.seg [.ty .u8,.at 0,.keep [0,3],.sel [0]] (.loop z2 fun q1=> .br (.seg [.as 9 (.v (.c (.int .u64 (q1.u % 128)))),.as 10 (.v (.c (.int .u64 (q1.u % 128+128)))),.as 11 (.v (.c (.int .u8 (q1.u % 128+128)))),.ty .u8,.ty .u8,.as 15 (.v (.c (.int .u64 (q1.u / 128)))),.at 0,.keep [0,3],.sel [2]] (.next)) (.seg [.as 18 (.v (.c (.int .u8 q1.u))),.ty .u8,.ty .u8] (.leaf () []))),z2.Has [(0,.v (.c (.int .u64 u))),(3,.v (vO 0))] [.lst .u8 ([]:List Int)]∧∀q1,z2.inv q1→(let z1:=q1.u % 128+128;((decide (127<q1.u))=true→((128:Int)≠0)∧((.v (.c (.int .u64 (Int.tmod q1.u 128))):S)= .v (.c (.int .u64 (q1.u % 128))))∧((.v (.c (.int .u64 (IntKind.u64.wrap ((q1.u % 128)+128)))):S)= .v (.c (.int .u64 z1)))∧((.v (.c (.int .u8 (IntKind.u8.wrap z1))):S)= .v (.c (.int .u8 z1)))∧(q1.out.length+List.length [q1.u % 128+128]≤Be)∧((128:Int)≠0)∧((.v (.c (.int .u64 (IntKind.u64.wrap (Int.tdiv q1.u 128)))):S)= .v (.c (.int .u64 (q1.u / 128))))∧z2.Nxt q1 [(0,.v (.c (.int .u64 (q1.u / 128)))),(3,.v (vO 0))] [.lst .u8 (q1.out++[q1.u % 128+128])])∧((decide (127<q1.u))=false→((.v (.c (.int .u8 (IntKind.u8.wrap (q1.u)))):S)= .v (.c (.int .u8 q1.u)))∧(q1.out.length+List.length [q1.u]≤Be)∧(.v (vT (List.map Bv (q1.out++[q1.u]))):S)= .v (vT (Dw u))∧([]:List Blk)=[])))) Q4 ?_
 refine⟨Bs (j:=(⟨u,([]:List Int)⟩:N0)) rfl rfl (by dsimp only[N1];exact⟨by omega,by omega,by simp,by have:=Aem (u:=u) Q2;unfold L0 at this;simp;omega⟩),fun (q1:N0) hq_q1=>?_⟩
 have hi_q1:(0:Int)≤q1.u∧q1.u≤18446744073709551615∧List.map Bv q1.out++Dw q1.u=Dw u∧q1.out.length+List.length (Dw q1.u)≤10:=hq_q1
 obtain ⟨v1,v2,v3,v4⟩:=hi_q1
 refine dsp (fun h1 p1=>?_) fun h1 p1=>?_
 exact⟨Q26,(Us Q2),(Bp Q2 Q2),(Mv Q2 Q2),(by have:=Zc q1.u;simp;omega),Q26,(Xf Q2 Q2 Q26),Bc (j:=(⟨q1.u / 128,q1.out++[q1.u % 128+128]⟩:N0)) rfl rfl (by dsimp only[N1];exact⟨by omega,by omega,by rw[←v3,Zb (u:=q1.u) (by omega) (by omega)];simp[Bv],by rw[Zb (u:=q1.u) (by omega) (by omega)] at v4;simp at v4 ⊢;omega⟩) (by dsimp only[N1];omega)⟩
 refine⟨(Mv Q2 Q2),(by have:=Zc q1.u;simp;omega),(congrArg S.v (congrArg V.c (congrArg C.str ?_))),rfl⟩
 rotate_left
 all_goals rw[←v3,Vn (u:=q1.u) (by omega) (by omega)];simp[Bv]
structure Gw where
 u:Int
 k:Nat
def Gx (s:List UInt8) (at_:Int) (end_:Int):Fam:=⟨Gw,fun q1=>[(0,.v (vT s)),(1,.v (vI at_)),(2,.v (vI end_)),(9,.v (.c (.int .u64 q1.u))),(10,.v (vI (q1.k:Int)))],fun _=>[],fun q1=>q1.k≤9∧(0:Int)≤q1.u∧q1.u<2 ^ (7*q1.k)∧vwA s at_ end_ (10-q1.k) (((q1.k:Nat)):Int) q1.u=Ah s at_ end_,fun q1=>10-q1.k⟩
theorem Add (s:List UInt8) (at_:Int) (end_:Int) (hp1:s.length≤Be):Fun Tryz.prog 159 [vT s,vI at_,vI end_] [] (.tup [.c (.int .u64 (Ah s at_ end_).1),vI (Ah s at_ end_).2.1,vI (Ah s at_ end_).2.2]) []:=by
 have hN:Be=274877906944:=rfl
 refine Ar Tryz.func159 Q4 Q4 (w:=let z9:=Ah s at_ end_;let z10:=(s.length:Int);let z11:=Gx s at_ end_;let z12:=([]:List Blk);let z13:=Aq at_ 0 z10;let z14:=(.tup [.c (.int .u64 0),vI z10,vI 10]:S);(.seg [.call [] (.v (vB z13)) []] (.br (.leaf () []) (.seg [.at 0,.keep [0,1,2,9,10],.sel []] (.loop z11 fun q1=>let z6:=(q1.k:Int);.seg [.as 24 (.v (vI (at_+z6)))] (.br (.leaf () []) (.seg [.as 31 (.v (vI (at_+z6)))] (.br (.leaf () []) (.br (.seg [.as 44 (.v (vI (at_+z6)))] (.intro (fun (x1:UInt8)=>s[Int.toNat (at_+z6)]? =some x1) fun x1=>let z1:=((UInt8.toNat x1:Nat):Int) % 128;.seg [.ch x1] (.br (.seg [.as 50 (.v (vI (at_+z6)))] (.leaf () [])) (.seg [.as 54 (.v (vI (at_+z6))),.ch x1,.as 58 (.v (.c (.int .u8 z1))),.as 59 (.v (.c (.int .u64 z1))),.as 61 (.v (vI (7*z6))),.as 62 (.v (.c (.int .u64 (7*z6)))),.as 63 (.v (.c (.int .u64 (z1*2 ^ (7*q1.k))))),.as 64 (.v (.c (.int .u64 (q1.u+z1*2 ^ (7*q1.k)))))] (.br (.seg [.as 70 (.v (vI (at_+z6))),.as 71 (.v (vI (at_+z6+1)))] (.leaf () [])) (.seg [.as 20 (.v (vI (z6+1))),.at 0,.keep [0,1,2,9,10],.sel []] (.next))))))) (.seg [.as 54 (.v (vI (at_+z6)))] (.intro (fun (x1:UInt8)=>s[Int.toNat (at_+z6)]? =some x1) fun x1=>let z4:=((UInt8.toNat x1:Nat):Int) % 128;.seg [.ch x1,.as 58 (.v (.c (.int .u8 z4))),.as 59 (.v (.c (.int .u64 z4))),.as 61 (.v (vI (7*z6))),.as 62 (.v (.c (.int .u64 (7*z6)))),.as 63 (.v (.c (.int .u64 (z4*2 ^ (7*q1.k))))),.as 64 (.v (.c (.int .u64 (q1.u+z4*2 ^ (7*q1.k)))))] (.br (.seg [.as 70 (.v (vI (at_+z6))),.as 71 (.v (vI (at_+z6+1)))] (.leaf () [])) (.seg [.as 20 (.v (vI (z6+1))),.at 0,.keep [0,1,2,9,10],.sel []] (.next)))))))))))),(Fun Tryz.prog 79 [vI at_,vI 0,vI z10] [] (.v (vB z13)) [])∧((!z13)=true→z14= .tup [.c (.int .u64 z9.1),vI z9.2.1,vI z9.2.2]∧z12=[])∧((!z13)=false→z11.Has [(0,.v (vT s)),(1,.v (vI at_)),(2,.v (vI end_)),(9,.v (.c (.int .u64 0))),(10,.v (vI 0))] []∧∀q1,z11.inv q1→(let z7:=(q1.k:Int);let z8:=7*q1.k;((.v (vI (IntKind.i64.wrap (at_+z7))):S)= .v (vI (at_+z7)))∧((decide (end_≤at_+z7))=true→(.tup [.c (.int .u64 0),vI end_,vI 9]:S)= .tup [.c (.int .u64 z9.1),vI z9.2.1,vI z9.2.2]∧z12=[])∧((decide (end_≤at_+z7))=false→((.v (vI (IntKind.i64.wrap (at_+z7))):S)= .v (vI (at_+z7)))∧((decide (z10≤at_+z7))=true→z14= .tup [.c (.int .u64 z9.1),vI z9.2.1,vI z9.2.2]∧z12=[])∧((decide (z10≤at_+z7))=false→((decide (z7=9))=true→((.v (vI (IntKind.i64.wrap (at_+z7))):S)= .v (vI (at_+z7)))∧(∃(x1:UInt8),s[Int.toNat (at_+z7)]? =some x1)∧∀(x1:UInt8),(s[Int.toNat (at_+z7)]? =some x1)→(let z2:=((UInt8.toNat x1:Nat):Int);let z3:=s[Int.toNat (at_+z7)]? =some x1;z3∧((0:Int)≤at_+z7)∧((decide (1<z2))=true→((.v (vI (IntKind.i64.wrap (at_+z7))):S)= .v (vI (at_+z7)))∧(.tup [.c (.int .u64 0),vI (at_+z7),vI 1]:S)= .tup [.c (.int .u64 z9.1),vI z9.2.1,vI z9.2.2]∧z12=[])∧((decide (1<z2))=false→((.v (vI (IntKind.i64.wrap (at_+z7))):S)= .v (vI (at_+z7)))∧z3∧((0:Int)≤at_+z7)∧((.v (.c (.int .u8 (IntKind.u8.wrap (((BitVec.ofInt 8 z2&&&BitVec.ofInt 8 127).toNat:Nat))))):S)= .v (.c (.int .u8 (z2 % 128))))∧((.v (.c (.int .u64 (IntKind.u64.wrap (z2 % 128)))):S)= .v (.c (.int .u64 (z2 % 128))))∧((.v (vI (IntKind.i64.wrap (7*z7))):S)= .v (vI (7*z7)))∧((.v (.c (.int .u64 (IntKind.u64.wrap (7*z7)))):S)= .v (.c (.int .u64 (7*z7))))∧((0:Int)≤7*z7)∧((.v (.c (.int .u64 (IntKind.u64.wrap ((z2 % 128)*2 ^ min (Int.toNat (7*z7)) 64)))):S)= .v (.c (.int .u64 ((z2 % 128)*2 ^ z8))))∧((.v (.c (.int .u64 (IntKind.u64.wrap (((BitVec.ofInt 64 q1.u|||BitVec.ofInt 64 ((z2 % 128)*2 ^ z8)).toNat:Nat))))):S)= .v (.c (.int .u64 (q1.u+(z2 % 128)*2 ^ z8))))∧((decide (z2<128))=true→((.v (vI (IntKind.i64.wrap (at_+z7))):S)= .v (vI (at_+z7)))∧((.v (vI (IntKind.i64.wrap ((at_+z7)+1))):S)= .v (vI (at_+z7+1)))∧(.tup [.c (.int .u64 (q1.u+(z2 % 128)*2 ^ z8)),vI (at_+z7+1),vI 0]:S)= .tup [.c (.int .u64 z9.1),vI z9.2.1,vI z9.2.2]∧z12=[])∧((decide (z2<128))=false→((.v (vI (IntKind.i64.wrap (z7+1))):S)= .v (vI (z7+1)))∧z11.Nxt q1 [(0,.v (vT s)),(1,.v (vI at_)),(2,.v (vI end_)),(9,.v (.c (.int .u64 (q1.u+(z2 % 128)*2 ^ z8)))),(10,.v (vI (z7+1)))] []))))∧((decide (z7=9))=false→((.v (vI (IntKind.i64.wrap (at_+z7))):S)= .v (vI (at_+z7)))∧(∃(x1:UInt8),s[Int.toNat (at_+z7)]? =some x1)∧∀(x1:UInt8),(s[Int.toNat (at_+z7)]? =some x1)→(let z5:=((UInt8.toNat x1:Nat):Int);(s[Int.toNat (at_+z7)]? =some x1)∧((0:Int)≤at_+z7)∧((.v (.c (.int .u8 (IntKind.u8.wrap (((BitVec.ofInt 8 z5&&&BitVec.ofInt 8 127).toNat:Nat))))):S)= .v (.c (.int .u8 (z5 % 128))))∧((.v (.c (.int .u64 (IntKind.u64.wrap (z5 % 128)))):S)= .v (.c (.int .u64 (z5 % 128))))∧((.v (vI (IntKind.i64.wrap (7*z7))):S)= .v (vI (7*z7)))∧((.v (.c (.int .u64 (IntKind.u64.wrap (7*z7)))):S)= .v (.c (.int .u64 (7*z7))))∧((0:Int)≤7*z7)∧((.v (.c (.int .u64 (IntKind.u64.wrap ((z5 % 128)*2 ^ min (Int.toNat (7*z7)) 64)))):S)= .v (.c (.int .u64 ((z5 % 128)*2 ^ z8))))∧((.v (.c (.int .u64 (IntKind.u64.wrap (((BitVec.ofInt 64 q1.u|||BitVec.ofInt 64 ((z5 % 128)*2 ^ z8)).toNat:Nat))))):S)= .v (.c (.int .u64 (q1.u+(z5 % 128)*2 ^ z8))))∧((decide (z5<128))=true→((.v (vI (IntKind.i64.wrap (at_+z7))):S)= .v (vI (at_+z7)))∧((.v (vI (IntKind.i64.wrap ((at_+z7)+1))):S)= .v (vI (at_+z7+1)))∧(.tup [.c (.int .u64 (q1.u+(z5 % 128)*2 ^ z8)),vI (at_+z7+1),vI 0]:S)= .tup [.c (.int .u64 z9.1),vI z9.2.1,vI z9.2.2]∧z12=[])∧((decide (z5<128))=false→((.v (vI (IntKind.i64.wrap (z7+1))):S)= .v (vI (z7+1)))∧z11.Nxt q1 [(0,.v (vT s)),(1,.v (vI at_)),(2,.v (vI end_)),(9,.v (.c (.int .u64 (q1.u+(z5 % 128)*2 ^ z8)))),(10,.v (vI (z7+1)))] []))))))))) Q4 ?_
 refine⟨(Ch _ _ _),fun h1=>have q1:=Ap h1;have p1:=A4 q1;?_,fun h1=>have q1:=Ao h1;have p1:=Av q1;?_⟩
 refine⟨(congrArg S.tup (Aa (congrArg V.c (congrArg (C.int .u64) ?_)) (Aa (congrArg V.c (congrArg (C.int .i64) ?_)) (Aa (congrArg V.c (congrArg (C.int .i64) ?_)) rfl)))),rfl⟩
 rotate_left 3
 have hw:Aq at_ 0 (s.length:Int)=true:=by simpa using h1
 refine⟨Bs (j:=(⟨0,0⟩:Gw)) Q9 rfl (by dsimp only[Gx];exact⟨by omega,by omega,by decide,by simp[Ah,hw]⟩),fun (q1:Gw) hq_q1=>?_⟩
 have hi_q1:q1.k≤9∧(0:Int)≤q1.u∧q1.u<2 ^ (7*q1.k)∧vwA s at_ end_ (10-q1.k) (((q1.k:Nat)):Int) q1.u=Ah s at_ end_:=hq_q1
 obtain ⟨v1,v2,v3,v4⟩:=hi_q1
 obtain ⟨f,hf⟩: ∃f,10-q1.k=f+1:=⟨9-q1.k,by omega⟩
 rw[hf,vwA] at v4
 have e7:Int.toNat (7*(q1.k:Int))=7*q1.k:=by omega
 refine⟨(Ac Q2 Q2),dsp (fun h2 p2=>?_) fun h2 p2=>?_⟩
 rw[if_pos p2] at v4
 refine⟨(congrArg S.tup (Aa (congrArg V.c (congrArg (C.int .u64) ?_)) (Aa (congrArg V.c (congrArg (C.int .i64) ?_)) (Aa (congrArg V.c (congrArg (C.int .i64) ?_)) rfl)))),rfl⟩
 rotate_left 3
 rw[if_neg p2] at v4
 refine⟨(Ac Q2 Q2),dsp (fun h3 p3=>?_) fun h3 p3=>?_⟩
 rw[if_pos p3] at v4
 refine⟨(congrArg S.tup (Aa (congrArg V.c (congrArg (C.int .u64) ?_)) (Aa (congrArg V.c (congrArg (C.int .i64) ?_)) (Aa (congrArg V.c (congrArg (C.int .i64) ?_)) rfl)))),rfl⟩
 rotate_left 3
 rw[if_neg p3] at v4
 refine dsp (fun h4 p4=>?_) fun h4 p4=>?_
 refine⟨(Ac Q2 Q2),(Bq (l:=s) (i:=Int.toNat (at_+(q1.k:Int))) Q2),fun x1 hx1=>?_⟩
 have hb_x1:=UInt8.toNat_lt x1
 have he:=Sv (d:=0) hx1
 have hv:=fun h9=>Zd (c:=(x1.toNat:Int) % 128) (k:=q1.k) (by omega) (by omega) (by omega) h9
 refine⟨hx1,Q2,dsp (fun h5 p5=>?_) fun h5 p5=>?_⟩
 rw[if_pos ⟨by omega,by rw[he];omega⟩] at v4
 refine⟨(Ac Q2 Q2),(congrArg S.tup (Aa (congrArg V.c (congrArg (C.int .u64) ?_)) (Aa (congrArg V.c (congrArg (C.int .i64) ?_)) (Aa (congrArg V.c (congrArg (C.int .i64) ?_)) rfl)))),rfl⟩
 rotate_left 3
 rw[if_neg (by rw[he];omega)] at v4
 refine⟨(Ac Q2 Q2),hx1,Q2,(Ahw Q2 Q2),(Bp Q2 Q2),(Ac Q2 Q2),(Bp Q2 Q2),Q2,(Tj Q2 Q2 Q2 (by intro h;omega)),(Aen Q2 Q2 Q2 (by intro h;omega) Q2 Q2),dsp (fun h6 p6=>?_) fun h6 p6=>?_⟩
 have hv:=hv (by intro h;omega)
 rw[he,e7] at v4
 rw[if_pos p6] at v4
 refine⟨(Ac Q2 Q2),(Ac Q2 Q2),(congrArg S.tup (Aa (congrArg V.c (congrArg (C.int .u64) ?_)) (Aa (congrArg V.c (congrArg (C.int .i64) ?_)) (Aa (congrArg V.c (congrArg (C.int .i64) ?_)) rfl)))),rfl⟩
 rotate_left 3
 have hv:=hv (by intro h;omega)
 rw[he,e7] at v4
 rw[if_neg p6] at v4
 exact⟨(Ac Q2 Q2),Bc (j:=(⟨q1.u+(((UInt8.toNat x1:Nat):Int) % 128)*2 ^ (7*q1.k),q1.k+1⟩:Gw)) Q9 rfl Q74 (by dsimp only[Gx];omega)⟩
 rw[if_neg (by omega)] at v4
 refine⟨(Ac Q2 Q2),(Bq (l:=s) (i:=Int.toNat (at_+(q1.k:Int))) Q2),fun x1 hx1=>?_⟩
 have hb_x1:=UInt8.toNat_lt x1
 have he:=Sv (d:=0) hx1
 have hv:=fun h9=>Zd (c:=(x1.toNat:Int) % 128) (k:=q1.k) (by omega) (by omega) (by omega) h9
 refine⟨hx1,Q2,(Ahw Q2 Q2),(Bp Q2 Q2),(Ac Q2 Q2),(Bp Q2 Q2),Q2,(Tj Q2 Q2 Q2 (by intro h;omega)),(Aen Q2 Q2 Q2 (by intro h;omega) Q2 Q2),dsp (fun h5 p5=>?_) fun h5 p5=>?_⟩
 have hv:=hv (by intro h;omega)
 rw[he,e7] at v4
 rw[if_pos p5] at v4
 refine⟨(Ac Q2 Q2),(Ac Q2 Q2),(congrArg S.tup (Aa (congrArg V.c (congrArg (C.int .u64) ?_)) (Aa (congrArg V.c (congrArg (C.int .i64) ?_)) (Aa (congrArg V.c (congrArg (C.int .i64) ?_)) rfl)))),rfl⟩
 rotate_left 3
 have hv:=hv (by intro h;omega)
 rw[he,e7] at v4
 rw[if_neg p5] at v4
 exact⟨(Ac Q2 Q2),Bc (j:=(⟨q1.u+(((UInt8.toNat x1:Nat):Int) % 128)*2 ^ (7*q1.k),q1.k+1⟩:Gw)) Q9 rfl Q74 (by dsimp only[Gx];omega)⟩
 all_goals first|(rw[←v4])|(simp[Ah, *];done)
structure Gy where
 u:Int
 k:Nat
def Gz (s:List UInt8) (at_:Int) (end_:Int):Fam:=⟨Gy,fun q1=>[(0,.v (vT s)),(1,.v (vI at_)),(2,.v (vI end_)),(9,.v (.c (.int .u64 q1.u))),(10,.v (vI (q1.k:Int)))],fun _=>[],fun q1=>q1.k≤9∧(0:Int)≤q1.u∧q1.u<2 ^ (7*q1.k)∧vwA s at_ end_ (10-q1.k) (((q1.k:Nat)):Int) q1.u=Ah s at_ end_,fun q1=>10-q1.k⟩
theorem Xk (s:List UInt8) (at_:Int) (end_:Int) (hp1:s.length≤Be):Fun Tryz.prog 109 [vT s,vI at_,vI end_] [] (.tup [.c (.int .u64 (Ah s at_ end_).1),vI (Ah s at_ end_).2.1,vI (Ah s at_ end_).2.2]) []:=by
 have hN:Be=274877906944:=rfl
 refine Ar Tryz.func109 Q4 Q4 (w:=let z6:=Ah s at_ end_;let z7:=(s.length:Int);let z8:=Gz s at_ end_;let z9:=([]:List Blk);let z10:=Aq at_ 0 z7;let z11:=(.tup [.c (.int .u64 0),vI z7,vI 10]:S);(.seg [.call [] (.v (vB z10)) []] (.br (.leaf () []) (.seg [.at 0,.keep [0,1,2,9,10],.sel []] (.loop z8 fun q1=>let z3:=(q1.k:Int);.seg [.br true,.as 26 (.v (vI (at_+z3)))] (.br (.leaf () []) (.seg [.as 33 (.v (vI (at_+z3)))] (.br (.leaf () []) (.seg [.as 42 (.v (vI (at_+z3)))] (.intro (fun (x1:UInt8)=>s[Int.toNat (at_+z3)]? =some x1) fun x1=>let z1:=((UInt8.toNat x1:Nat):Int) % 128;.seg [.ch x1,.as 44 (.v (.c (.int .u64 ((UInt8.toNat x1:Nat):Int))))] (.br (.br (.seg [.as 53 (.v (vI (at_+z3)))] (.leaf () [])) (.seg [.as 56 (.v (.c (.int .u64 z1))),.as 58 (.v (vI (7*z3))),.as 59 (.v (.c (.int .u64 (7*z3)))),.as 60 (.v (.c (.int .u64 (z1*2 ^ (7*q1.k))))),.as 61 (.v (.c (.int .u64 (q1.u+(z1*2 ^ (7*q1.k))))))] (.br (.seg [.as 67 (.v (vI (at_+z3))),.as 68 (.v (vI (at_+z3+1)))] (.leaf () [])) (.seg [.as 22 (.v (vI (z3+1))),.at 0,.keep [0,1,2,9,10],.sel []] (.next))))) (.seg [.as 56 (.v (.c (.int .u64 z1))),.as 58 (.v (vI (7*z3))),.as 59 (.v (.c (.int .u64 (7*z3)))),.as 60 (.v (.c (.int .u64 (z1*2 ^ (7*q1.k))))),.as 61 (.v (.c (.int .u64 (q1.u+(z1*2 ^ (7*q1.k))))))] (.br (.seg [.as 67 (.v (vI (at_+z3))),.as 68 (.v (vI (at_+z3+1)))] (.leaf () [])) (.seg [.as 22 (.v (vI (z3+1))),.at 0,.keep [0,1,2,9,10],.sel []] (.next))))))))))))),(Fun Tryz.prog 59 [vI at_,vI 0,vI z7] [] (.v (vB z10)) [])∧((!z10)=true→z11= .tup [.c (.int .u64 z6.1),vI z6.2.1,vI z6.2.2]∧z9=[])∧((!z10)=false→z8.Has [(0,.v (vT s)),(1,.v (vI at_)),(2,.v (vI end_)),(9,.v (.c (.int .u64 0))),(10,.v (vI 0))] []∧∀q1,z8.inv q1→(let z4:=(q1.k:Int);let z5:=7*q1.k;((decide (z4<10))=true)∧((.v (vI (IntKind.i64.wrap (at_+z4))):S)= .v (vI (at_+z4)))∧((decide (end_≤at_+z4))=true→(.tup [.c (.int .u64 0),vI end_,vI 9]:S)= .tup [.c (.int .u64 z6.1),vI z6.2.1,vI z6.2.2]∧z9=[])∧((decide (end_≤at_+z4))=false→((.v (vI (IntKind.i64.wrap (at_+z4))):S)= .v (vI (at_+z4)))∧((decide (z7≤at_+z4))=true→z11= .tup [.c (.int .u64 z6.1),vI z6.2.1,vI z6.2.2]∧z9=[])∧((decide (z7≤at_+z4))=false→((.v (vI (IntKind.i64.wrap (at_+z4))):S)= .v (vI (at_+z4)))∧(∃(x1:UInt8),s[Int.toNat (at_+z4)]? =some x1)∧∀(x1:UInt8),(s[Int.toNat (at_+z4)]? =some x1)→(let z2:=((UInt8.toNat x1:Nat):Int);(s[Int.toNat (at_+z4)]? =some x1)∧((0:Int)≤at_+z4)∧((.v (.c (.int .u64 (IntKind.u64.wrap (z2)))):S)= .v (.c (.int .u64 z2)))∧((decide (z4=9))=true→((decide (1<z2))=true→((.v (vI (IntKind.i64.wrap (at_+z4))):S)= .v (vI (at_+z4)))∧(.tup [.c (.int .u64 0),vI (at_+z4),vI 1]:S)= .tup [.c (.int .u64 z6.1),vI z6.2.1,vI z6.2.2]∧z9=[])∧((decide (1<z2))=false→((128:Int)≠0)∧((.v (.c (.int .u64 (Int.tmod z2 128))):S)= .v (.c (.int .u64 (z2 % 128))))∧((.v (vI (IntKind.i64.wrap (7*z4))):S)= .v (vI (7*z4)))∧((.v (.c (.int .u64 (IntKind.u64.wrap (7*z4)))):S)= .v (.c (.int .u64 (7*z4))))∧((0:Int)≤7*z4)∧((.v (.c (.int .u64 (IntKind.u64.wrap ((z2 % 128)*2 ^ min (Int.toNat (7*z4)) 64)))):S)= .v (.c (.int .u64 ((z2 % 128)*2 ^ z5))))∧((.v (.c (.int .u64 (IntKind.u64.wrap (q1.u+((z2 % 128)*2 ^ z5))))):S)= .v (.c (.int .u64 (q1.u+((z2 % 128)*2 ^ z5)))))∧((decide (z2<128))=true→((.v (vI (IntKind.i64.wrap (at_+z4))):S)= .v (vI (at_+z4)))∧((.v (vI (IntKind.i64.wrap ((at_+z4)+1))):S)= .v (vI (at_+z4+1)))∧(.tup [.c (.int .u64 (q1.u+((z2 % 128)*2 ^ z5))),vI (at_+z4+1),vI 0]:S)= .tup [.c (.int .u64 z6.1),vI z6.2.1,vI z6.2.2]∧z9=[])∧((decide (z2<128))=false→((.v (vI (IntKind.i64.wrap (z4+1))):S)= .v (vI (z4+1)))∧z8.Nxt q1 [(0,.v (vT s)),(1,.v (vI at_)),(2,.v (vI end_)),(9,.v (.c (.int .u64 (q1.u+((z2 % 128)*2 ^ z5))))),(10,.v (vI (z4+1)))] [])))∧((decide (z4=9))=false→((128:Int)≠0)∧((.v (.c (.int .u64 (Int.tmod z2 128))):S)= .v (.c (.int .u64 (z2 % 128))))∧((.v (vI (IntKind.i64.wrap (7*z4))):S)= .v (vI (7*z4)))∧((.v (.c (.int .u64 (IntKind.u64.wrap (7*z4)))):S)= .v (.c (.int .u64 (7*z4))))∧((0:Int)≤7*z4)∧((.v (.c (.int .u64 (IntKind.u64.wrap ((z2 % 128)*2 ^ min (Int.toNat (7*z4)) 64)))):S)= .v (.c (.int .u64 ((z2 % 128)*2 ^ z5))))∧((.v (.c (.int .u64 (IntKind.u64.wrap (q1.u+((z2 % 128)*2 ^ z5))))):S)= .v (.c (.int .u64 (q1.u+((z2 % 128)*2 ^ z5)))))∧((decide (z2<128))=true→((.v (vI (IntKind.i64.wrap (at_+z4))):S)= .v (vI (at_+z4)))∧((.v (vI (IntKind.i64.wrap ((at_+z4)+1))):S)= .v (vI (at_+z4+1)))∧(.tup [.c (.int .u64 (q1.u+((z2 % 128)*2 ^ z5))),vI (at_+z4+1),vI 0]:S)= .tup [.c (.int .u64 z6.1),vI z6.2.1,vI z6.2.2]∧z9=[])∧((decide (z2<128))=false→((.v (vI (IntKind.i64.wrap (z4+1))):S)= .v (vI (z4+1)))∧z8.Nxt q1 [(0,.v (vT s)),(1,.v (vI at_)),(2,.v (vI end_)),(9,.v (.c (.int .u64 (q1.u+((z2 % 128)*2 ^ z5))))),(10,.v (vI (z4+1)))] []))))))))) Q4 ?_
 refine⟨(Bh _ _ _),fun h1=>have q1:=Ap h1;have p1:=A4 q1;?_,fun h1=>have q1:=Ao h1;have p1:=Av q1;?_⟩
 refine⟨(congrArg S.tup (Aa (congrArg V.c (congrArg (C.int .u64) ?_)) (Aa (congrArg V.c (congrArg (C.int .i64) ?_)) (Aa (congrArg V.c (congrArg (C.int .i64) ?_)) rfl)))),rfl⟩
 rotate_left 3
 have hw:Aq at_ 0 (s.length:Int)=true:=by simpa using h1
 refine⟨Bs (j:=(⟨0,0⟩:Gy)) Q9 rfl (by dsimp only[Gz];exact⟨by omega,by omega,by decide,by simp[Ah,hw]⟩),fun (q1:Gy) hq_q1=>?_⟩
 have hi_q1:q1.k≤9∧(0:Int)≤q1.u∧q1.u<2 ^ (7*q1.k)∧vwA s at_ end_ (10-q1.k) (((q1.k:Nat)):Int) q1.u=Ah s at_ end_:=hq_q1
 obtain ⟨v1,v2,v3,v4⟩:=hi_q1
 obtain ⟨f,hf⟩: ∃f,10-q1.k=f+1:=⟨9-q1.k,by omega⟩
 rw[hf,vwA] at v4
 have e7:Int.toNat (7*(q1.k:Int))=7*q1.k:=by omega
 refine⟨(by simp;omega),(Ac Q2 Q2),dsp (fun h2 p2=>?_) fun h2 p2=>?_⟩
 rw[if_pos p2] at v4
 refine⟨(congrArg S.tup (Aa (congrArg V.c (congrArg (C.int .u64) ?_)) (Aa (congrArg V.c (congrArg (C.int .i64) ?_)) (Aa (congrArg V.c (congrArg (C.int .i64) ?_)) rfl)))),rfl⟩
 rotate_left 3
 rw[if_neg p2] at v4
 refine⟨(Ac Q2 Q2),dsp (fun h3 p3=>?_) fun h3 p3=>?_⟩
 rw[if_pos p3] at v4
 refine⟨(congrArg S.tup (Aa (congrArg V.c (congrArg (C.int .u64) ?_)) (Aa (congrArg V.c (congrArg (C.int .i64) ?_)) (Aa (congrArg V.c (congrArg (C.int .i64) ?_)) rfl)))),rfl⟩
 rotate_left 3
 rw[if_neg p3] at v4
 refine⟨(Ac Q2 Q2),(Bq (l:=s) (i:=Int.toNat (at_+(q1.k:Int))) Q2),fun x1 hx1=>?_⟩
 have hb_x1:=UInt8.toNat_lt x1
 have he:=Sv (d:=0) hx1
 have hv:=fun h9=>Zd (c:=(x1.toNat:Int) % 128) (k:=q1.k) (by omega) (by omega) (by omega) h9
 refine⟨hx1,Q2,(Bp Q2 Q2),dsp (fun h4 p4=>?_) fun h4 p4=>?_⟩
 refine dsp (fun h5 p5=>?_) fun h5 p5=>?_
 rw[if_pos ⟨by omega,by rw[he];omega⟩] at v4
 refine⟨(Ac Q2 Q2),(congrArg S.tup (Aa (congrArg V.c (congrArg (C.int .u64) ?_)) (Aa (congrArg V.c (congrArg (C.int .i64) ?_)) (Aa (congrArg V.c (congrArg (C.int .i64) ?_)) rfl)))),rfl⟩
 rotate_left 3
 rw[if_neg (by rw[he];omega)] at v4
 refine⟨Q26,(Us Q2),(Ac Q2 Q2),(Bp Q2 Q2),Q2,(Tj Q2 Q2 Q2 (by intro h;omega)),(Bp Q2 Q2),dsp (fun h6 p6=>?_) fun h6 p6=>?_⟩
 have hv:=hv (by intro h;omega)
 rw[he,e7] at v4
 rw[if_pos p6] at v4
 refine⟨(Ac Q2 Q2),(Ac Q2 Q2),(congrArg S.tup (Aa (congrArg V.c (congrArg (C.int .u64) ?_)) (Aa (congrArg V.c (congrArg (C.int .i64) ?_)) (Aa (congrArg V.c (congrArg (C.int .i64) ?_)) rfl)))),rfl⟩
 rotate_left 3
 have hv:=hv (by intro h;omega)
 rw[he,e7] at v4
 rw[if_neg p6] at v4
 exact⟨(Ac Q2 Q2),Bc (j:=(⟨q1.u+((((UInt8.toNat x1:Nat):Int) % 128)*2 ^ (7*q1.k)),q1.k+1⟩:Gy)) Q9 rfl Q73 (by dsimp only[Gz];omega)⟩
 rw[if_neg (by omega)] at v4
 refine⟨Q26,(Us Q2),(Ac Q2 Q2),(Bp Q2 Q2),Q2,(Tj Q2 Q2 Q2 (by intro h;omega)),(Bp Q2 Q2),dsp (fun h5 p5=>?_) fun h5 p5=>?_⟩
 have hv:=hv (by intro h;omega)
 rw[he,e7] at v4
 rw[if_pos p5] at v4
 refine⟨(Ac Q2 Q2),(Ac Q2 Q2),(congrArg S.tup (Aa (congrArg V.c (congrArg (C.int .u64) ?_)) (Aa (congrArg V.c (congrArg (C.int .i64) ?_)) (Aa (congrArg V.c (congrArg (C.int .i64) ?_)) rfl)))),rfl⟩
 rotate_left 3
 have hv:=hv (by intro h;omega)
 rw[he,e7] at v4
 rw[if_neg p5] at v4
 exact⟨(Ac Q2 Q2),Bc (j:=(⟨q1.u+((((UInt8.toNat x1:Nat):Int) % 128)*2 ^ (7*q1.k)),q1.k+1⟩:Gy)) Q9 rfl Q73 (by dsimp only[Gz];omega)⟩
 all_goals first|(rw[←v4])|(simp[Ah, *];done)
theorem Ah1 (w:Int):Fun Tryz.prog 222 [vI w] [] (.v (vB (Ff w))) []:=by
 have hN:Be=274877906944:=rfl
 refine Ar Tryz.func222 Q4 Q4 (w:=(.br (.leaf () []) (.leaf () []),((decide (w=4))=true→(.v (vB true):S)= .v (vB (Ff w))∧([]:List Blk)=[])∧((decide (w=4))=false→(.v (vB (decide (w=8))):S)= .v (vB (Ff w))∧([]:List Blk)=[]))) Q4 ?_
 refine dsp (fun h1 p1=>?_) fun h1 p1=>?_
 exact⟨(congrArg S.v (congrArg V.c (congrArg C.bool (by simp[Ff, *])))),rfl⟩
 exact⟨(congrArg S.v (congrArg V.c (congrArg C.bool (by simp[Ff, *])))),rfl⟩
structure N2 where
 u:Int
 v:Nat
def N3 (s:List UInt8) (at_:Int) (w:Int):Fam:=⟨N2,fun q1=>[(0,.v (vT s)),(1,.v (vI at_)),(8,.v (.c (.int .u64 q1.u))),(22,.v (vI w)),(23,.v (vI (q1.v:Int)))],fun _=>[],fun q1=>(q1.v:Int)≤w∧q1.u=((E5 (List.take q1.v (List.drop (at_.toNat) s)):Nat):Int),fun q1=>w.toNat-q1.v⟩
theorem Akp (s:List UInt8) (at_:Int) (w:Int) (hp1:s.length≤Be):Fun Tryz.prog 214 [vT s,vI at_,vI w] [] (.tup [.c (.int .u64 (Hi s at_ w)),vB (Dj s at_ w)]) []:=by
 have hN:Be=274877906944:=rfl
 refine Ar Tryz.func214 Q4 Q4 (w:=let z5:=(s.length:Int)-w;let z6:=N3 s at_ w;let z7:=Aq at_ 0 z5;let z8:=(.tup [.c (.int .u64 0),vB false]:S);let z9:=Dj s at_ w;(.seg [.call [] (.v (vB (Ff w))) []] (.br (.leaf () []) (.seg [.as 18 (.v (vI z5)),.call [] (.v (vB z7)) []] (.br (.leaf () []) (.seg [.at 0,.keep [0,1,8,22,23],.sel []] (.loop z6 fun q1=>let z3:=(q1.v:Int);.br (.seg [.as 30 (.v (vI (at_+z3)))] (.intro (fun (x1:UInt8)=>s[Int.toNat (at_+z3)]? =some x1) fun x1=>let z1:=((UInt8.toNat x1:Nat):Int);.seg [.ch x1,.as 32 (.v (.c (.int .u64 z1))),.as 34 (.v (vI (8*z3))),.as 35 (.v (.c (.int .u64 (8*z3)))),.as 36 (.v (.c (.int .u64 (z1*2 ^ (8*q1.v))))),.as 37 (.v (.c (.int .u64 (q1.u+z1*2 ^ (8*q1.v))))),.as 38 (.v (vI (z3+1))),.at 0,.keep [0,1,8,22,23],.sel []] (.next))) (.leaf () [])))))),(Fun Tryz.prog 222 [vI w] [] (.v (vB (Ff w))) [])∧((!(Ff w))=true→z8= .tup [.c (.int .u64 (Hi s at_ w)),vB z9]∧([]:List Blk)=[])∧((!(Ff w))=false→((.v (vI (IntKind.i64.wrap z5)):S)= .v (vI z5))∧(Fun Tryz.prog 79 [vI at_,vI 0,vI z5] [] (.v (vB z7)) [])∧((!z7)=true→z8= .tup [.c (.int .u64 (Hi s at_ w)),vB z9]∧([]:List Blk)=[])∧((!z7)=false→z6.Has [(0,.v (vT s)),(1,.v (vI at_)),(8,.v (.c (.int .u64 0))),(22,.v (vI w)),(23,.v (vI 0))] []∧∀q1,z6.inv q1→(let z4:=(q1.v:Int);((decide (z4<w))=true→((.v (vI (IntKind.i64.wrap (at_+z4))):S)= .v (vI (at_+z4)))∧(∃(x1:UInt8),s[Int.toNat (at_+z4)]? =some x1)∧∀(x1:UInt8),(s[Int.toNat (at_+z4)]? =some x1)→(let z2:=((UInt8.toNat x1:Nat):Int);(s[Int.toNat (at_+z4)]? =some x1)∧((0:Int)≤at_+z4)∧((.v (.c (.int .u64 (IntKind.u64.wrap (z2)))):S)= .v (.c (.int .u64 z2)))∧((.v (vI (IntKind.i64.wrap (8*z4))):S)= .v (vI (8*z4)))∧((.v (.c (.int .u64 (IntKind.u64.wrap (8*z4)))):S)= .v (.c (.int .u64 (8*z4))))∧((0:Int)≤8*z4)∧((.v (.c (.int .u64 (IntKind.u64.wrap (z2*2 ^ min (Int.toNat (8*z4)) 64)))):S)= .v (.c (.int .u64 (z2*2 ^ (8*q1.v)))))∧((.v (.c (.int .u64 (IntKind.u64.wrap (((BitVec.ofInt 64 q1.u|||BitVec.ofInt 64 (z2*2 ^ (8*q1.v))).toNat:Nat))))):S)= .v (.c (.int .u64 (q1.u+z2*2 ^ (8*q1.v)))))∧((.v (vI (IntKind.i64.wrap (z4+1))):S)= .v (vI (z4+1)))∧z6.Nxt q1 [(0,.v (vT s)),(1,.v (vI at_)),(8,.v (.c (.int .u64 (q1.u+z2*2 ^ (8*q1.v))))),(22,.v (vI w)),(23,.v (vI (z4+1)))] []))∧((decide (z4<w))=false→(.tup [.c (.int .u64 q1.u),vB true]:S)= .tup [.c (.int .u64 (Hi s at_ w)),vB z9]∧([]:List Blk)=[])))))) Q4 ?_
 refine⟨(Ah1 _),fun h1=>have q1:=Ap h1;have p1:=Ahz q1;?_,fun h1=>have q1:=Ao h1;have p1:=Abw q1;?_⟩
 refine⟨(congrArg S.tup (Aa (congrArg V.c (congrArg (C.int .u64) ?_)) (Aa (congrArg V.c (congrArg C.bool ?_)) rfl))),rfl⟩
 rotate_left 2
 refine⟨(Ac Q2 Q2),(Ch _ _ _),fun h2=>have q2:=Ap h2;have p2:=A4 q2;?_,fun h2=>have q2:=Ao h2;have p2:=Av q2;?_⟩
 refine⟨(congrArg S.tup (Aa (congrArg V.c (congrArg (C.int .u64) ?_)) (Aa (congrArg V.c (congrArg C.bool ?_)) rfl))),rfl⟩
 rotate_left 2
 refine⟨Bs (j:=(⟨0,0⟩:N2)) Q9 rfl (by dsimp only[N3];exact⟨by omega,by simp[E5]⟩),fun (q1:N2) hq_q1=>?_⟩
 have hi_q1:(q1.v:Int)≤w∧q1.u=((E5 (List.take q1.v (List.drop (at_.toNat) s)):Nat):Int):=hq_q1
 obtain ⟨v1,v2⟩:=hi_q1
 have hw8:w=4∨w=8:=by omega
 have hlt:=Mz (l:=List.take q1.v (List.drop (at_.toNat) s)) (k:=q1.v) (by simp;omega)
 have hlt2:q1.u<2 ^ (8*q1.v):=by rw[v2];exact_mod_cast hlt
 have hu0:(0:Int)≤q1.u:=by rw[v2];exact Int.natCast_nonneg _
 refine dsp (fun h3 p3=>?_) fun h3 p3=>?_
 refine⟨(Ac Q2 Q2),(Bq (l:=s) (i:=Int.toNat (at_+(q1.v:Int))) Q2),fun x1 hx1=>?_⟩
 have hb_x1:=UInt8.toNat_lt x1
 exact⟨hx1,Q2,(Bp Q2 Q2),(Ac Q2 Q2),(Bp Q2 Q2),Q2,(Ahy Q2 Q2 Q2),(Ako Q2 Q2 Q2 Q2 Q2),(Ac Q2 Q2),Bc (j:=(⟨q1.u+((UInt8.toNat x1:Nat):Int)*2 ^ (8*q1.v),q1.v+1⟩:N2)) Q9 rfl (by dsimp only[N3];exact⟨by omega,by rw[Ahx (x:=x1) (by rw[←hx1];congr 1;omega),Vo,v2,show List.length (List.take q1.v (List.drop (at_.toNat) s))=q1.v by simp;omega];simp⟩) (by dsimp only[N3];omega)⟩
 have hok:Dj s at_ w=true:=by simp[Dj,Ff,Aq];omega
 have hvw:q1.v=w.toNat:=by omega
 rw[hvw] at v2
 have hr:q1.u=Hi s at_ w:=by rw[Hi,if_pos hok,v2]
 refine⟨(congrArg S.tup (Aa (congrArg V.c (congrArg (C.int .u64) ?_)) (Aa (congrArg V.c (congrArg C.bool ?_)) rfl))),rfl⟩
 rotate_left 2
 all_goals first|(exact hr)|(exact hok.symm)|(simp_all[Dj,Hi,Ff];done)
structure Hc where
 u:Int
 i:Int
def Jf (s:List UInt8) (at_:Int) (w:Int):Fam:=⟨Hc,fun q1=>[(0,.v (vT s)),(1,.v (vI at_)),(8,.v (.c (.int .u64 q1.u))),(9,.v (vI q1.i))],fun _=>[],fun q1=>(-1:Int)≤q1.i∧q1.i<w∧q1.u=((E5 (List.take (Int.toNat (w-1-q1.i)) (List.drop (Int.toNat (at_+q1.i+1)) s)):Nat):Int),fun q1=>Int.toNat (q1.i+1)⟩
theorem Akq (s:List UInt8) (at_:Int) (w:Int) (hp1:s.length≤Be):Fun Tryz.prog 223 [vT s,vI at_,vI w] [] (.tup [.c (.int .u64 (Hi s at_ w)),vB (Dj s at_ w)]) []:=by
 have hN:Be=274877906944:=rfl
 refine Ar Tryz.func223 Q4 Q4 (w:=let z7:=(s.length:Int)-w;let z9:=Jf s at_ w;let z10:=Aq at_ 0 z7;let z12:=(.v (vI (IntKind.i64.wrap z7)):S)= .v (vI z7);let z13:=Dj s at_ w;let z14:=Hi s at_ w;let z15:=vI (w-1);let z11:=(.v (vI (IntKind.i64.wrap (w-1))):S)= .v z15;let z16:=(.tup [.c (.int .u64 0),vB false]:S);let z17:=([]:List Blk);let z8:=(!z10)=true→z16= .tup [.c (.int .u64 z14),vB z13]∧z17=[];(.br (.br (.leaf () []) (.seg [.as 21 (.v (vI z7)),.call [] (.v (vB z10)) []] (.br (.leaf () []) (.seg [.as 26 (.v z15),.at 0,.keep [0,1,8,9],.sel []] (.loop z9 fun q1=> .br (.seg [.as 32 (.v (.c (.int .u64 (256*q1.u)))),.as 36 (.v (vI (at_+q1.i)))] (.intro (fun (x1:UInt8)=>s[Int.toNat (at_+q1.i)]? =some x1) fun x1=> .seg [.ch x1,.as 38 (.v (.c (.int .u64 ((UInt8.toNat x1:Nat):Int)))),.as 39 (.v (.c (.int .u64 ((256*q1.u)+((UInt8.toNat x1:Nat):Int))))),.as 30 (.v (vI (q1.i-1))),.at 0,.keep [0,1,8,9],.sel []] (.next))) (.leaf () [])))))) (.seg [.as 21 (.v (vI z7)),.call [] (.v (vB z10)) []] (.br (.leaf () []) (.seg [.as 26 (.v z15),.at 0,.keep [0,1,8,9],.sel []] (.loop z9 fun q1=> .br (.seg [.as 32 (.v (.c (.int .u64 (256*q1.u)))),.as 36 (.v (vI (at_+q1.i)))] (.intro (fun (x1:UInt8)=>s[Int.toNat (at_+q1.i)]? =some x1) fun x1=> .seg [.ch x1,.as 38 (.v (.c (.int .u64 ((UInt8.toNat x1:Nat):Int)))),.as 39 (.v (.c (.int .u64 ((256*q1.u)+((UInt8.toNat x1:Nat):Int))))),.as 30 (.v (vI (q1.i-1))),.at 0,.keep [0,1,8,9],.sel []] (.next))) (.leaf () []))))),((!decide (w=4))=true→((!decide (w=8))=true→z16= .tup [.c (.int .u64 z14),vB z13]∧z17=[])∧((!decide (w=8))=false→z12∧(Fun Tryz.prog 59 [vI at_,vI 0,vI z7] [] (.v (vB z10)) [])∧z8∧((!z10)=false→z11∧z9.Has [(0,.v (vT s)),(1,.v (vI at_)),(8,.v (.c (.int .u64 0))),(9,.v z15)] []∧∀q1,z9.inv q1→(let z2:=256*q1.u;let z3:=at_+q1.i;((decide (0≤q1.i))=true→((.v (.c (.int .u64 (IntKind.u64.wrap z2))):S)= .v (.c (.int .u64 z2)))∧((.v (vI (IntKind.i64.wrap z3)):S)= .v (vI z3))∧(∃(x1:UInt8),s[z3.toNat]? =some x1)∧∀(x1:UInt8),(s[z3.toNat]? =some x1)→(let z1:=((UInt8.toNat x1:Nat):Int);(s[z3.toNat]? =some x1)∧((0:Int)≤at_+q1.i)∧((.v (.c (.int .u64 (IntKind.u64.wrap (z1)))):S)= .v (.c (.int .u64 z1)))∧((.v (.c (.int .u64 (IntKind.u64.wrap (z2+z1)))):S)= .v (.c (.int .u64 (z2+z1))))∧((.v (vI (IntKind.i64.wrap (q1.i-1))):S)= .v (vI (q1.i-1)))∧z9.Nxt q1 [(0,.v (vT s)),(1,.v (vI at_)),(8,.v (.c (.int .u64 (z2+z1)))),(9,.v (vI (q1.i-1)))] []))∧((decide (0≤q1.i))=false→(.tup [.c (.int .u64 q1.u),vB true]:S)= .tup [.c (.int .u64 z14),vB z13]∧z17=[])))))∧((!decide (w=4))=false→z12∧(Fun Tryz.prog 59 [vI at_,vI 0,vI z7] [] (.v (vB z10)) [])∧z8∧((!z10)=false→z11∧z9.Has [(0,.v (vT s)),(1,.v (vI at_)),(8,.v (.c (.int .u64 0))),(9,.v z15)] []∧∀q1,z9.inv q1→(let z5:=256*q1.u;let z6:=at_+q1.i;((decide (0≤q1.i))=true→((.v (.c (.int .u64 (IntKind.u64.wrap z5))):S)= .v (.c (.int .u64 z5)))∧((.v (vI (IntKind.i64.wrap z6)):S)= .v (vI z6))∧(∃(x1:UInt8),s[z6.toNat]? =some x1)∧∀(x1:UInt8),(s[z6.toNat]? =some x1)→(let z4:=((UInt8.toNat x1:Nat):Int);(s[z6.toNat]? =some x1)∧((0:Int)≤at_+q1.i)∧((.v (.c (.int .u64 (IntKind.u64.wrap (z4)))):S)= .v (.c (.int .u64 z4)))∧((.v (.c (.int .u64 (IntKind.u64.wrap (z5+z4)))):S)= .v (.c (.int .u64 (z5+z4))))∧((.v (vI (IntKind.i64.wrap (q1.i-1))):S)= .v (vI (q1.i-1)))∧z9.Nxt q1 [(0,.v (vT s)),(1,.v (vI at_)),(8,.v (.c (.int .u64 (z5+z4)))),(9,.v (vI (q1.i-1)))] []))∧((decide (0≤q1.i))=false→(.tup [.c (.int .u64 q1.u),vB true]:S)= .tup [.c (.int .u64 z14),vB z13]∧z17=[])))))) Q4 ?_
 refine⟨fun h1=>have q1:=Ap h1;have p1:=of_decide_eq_false q1;?_,fun h1=>have q1:=Ao h1;have p1:=of_decide_eq_true q1;?_⟩
 refine⟨fun h2=>have q2:=Ap h2;have p2:=of_decide_eq_false q2;?_,fun h2=>have q2:=Ao h2;have p2:=of_decide_eq_true q2;?_⟩
 refine⟨(congrArg S.tup (Aa (congrArg V.c (congrArg (C.int .u64) ?_)) (Aa (congrArg V.c (congrArg C.bool ?_)) rfl))),rfl⟩
 rotate_left 2
 refine⟨(Ac Q2 Q2),(Bh _ _ _),fun h3=>have q3:=Ap h3;have p3:=A4 q3;?_,fun h3=>have q3:=Ao h3;have p3:=Av q3;?_⟩
 refine⟨(congrArg S.tup (Aa (congrArg V.c (congrArg (C.int .u64) ?_)) (Aa (congrArg V.c (congrArg C.bool ?_)) rfl))),rfl⟩
 rotate_left 2
 refine⟨(Ac Q2 Q2),Bs (j:=(⟨0,w-1⟩:Hc)) rfl rfl (by dsimp only[Jf];exact⟨by omega,by omega,by simp[E5]⟩),fun (q1:Hc) hq_q1=>?_⟩
 have hi_q1:(-1:Int)≤q1.i∧q1.i<w∧q1.u=((E5 (List.take (Int.toNat (w-1-q1.i)) (List.drop (Int.toNat (at_+q1.i+1)) s)):Nat):Int):=hq_q1
 obtain ⟨v1,v2,v3⟩:=hi_q1
 have hw8:w=4∨w=8:=by omega
 have hlt:=Mz (l:=List.take (Int.toNat (w-1-q1.i)) (List.drop (Int.toNat (at_+q1.i+1)) s)) (k:=Int.toNat (w-1-q1.i)) (by rw[List.length_take];omega)
 have hu0:(0:Int)≤q1.u:=by rw[v3];exact Int.natCast_nonneg _
 refine dsp (fun h4 p4=>?_) fun h4 p4=>?_
 have hle:E5 (List.take (Int.toNat (w-1-q1.i)) (List.drop (Int.toNat (at_+q1.i+1)) s))<2 ^ 56:=Nat.lt_of_lt_of_le hlt (Nat.pow_le_pow_right (by decide) (by omega))
 have hu1:q1.u<72057594037927936:=by rw[v3];omega
 refine⟨(Bp Q2 Q2),(Ac Q2 Q2),(Bq (l:=s) (i:=Int.toNat (at_+q1.i)) Q2),fun x1 hx1=>?_⟩
 have hb_x1:=UInt8.toNat_lt x1
 exact⟨hx1,Q2,(Bp Q2 Q2),(Bp Q2 Q2),(Ac Q2 Q2),Bc (j:=(⟨(256*q1.u)+((UInt8.toNat x1:Nat):Int),q1.i-1⟩:Hc)) rfl rfl Q51 (by dsimp only[Jf];omega)⟩
 have hok:Dj s at_ w=true:=by simp[Dj,Ff,Aq];omega
 have hvw:q1.i= -1:=by omega
 rw[hvw] at v3
 have hr:q1.u=Hi s at_ w:=by rw[Hi,if_pos hok,v3,show Int.toNat (w-1- -1)=w.toNat by omega,show Int.toNat (at_+ -1+1)=at_.toNat by omega]
 refine⟨(congrArg S.tup (Aa (congrArg V.c (congrArg (C.int .u64) ?_)) (Aa (congrArg V.c (congrArg C.bool ?_)) rfl))),rfl⟩
 rotate_left 2
 refine⟨(Ac Q2 Q2),(Bh _ _ _),fun h2=>have q2:=Ap h2;have p2:=A4 q2;?_,fun h2=>have q2:=Ao h2;have p2:=Av q2;?_⟩
 refine⟨(congrArg S.tup (Aa (congrArg V.c (congrArg (C.int .u64) ?_)) (Aa (congrArg V.c (congrArg C.bool ?_)) rfl))),rfl⟩
 rotate_left 2
 refine⟨(Ac Q2 Q2),Bs (j:=(⟨0,w-1⟩:Hc)) rfl rfl (by dsimp only[Jf];exact⟨by omega,by omega,by simp[E5]⟩),fun (q1:Hc) hq_q1=>?_⟩
 have hi_q1:(-1:Int)≤q1.i∧q1.i<w∧q1.u=((E5 (List.take (Int.toNat (w-1-q1.i)) (List.drop (Int.toNat (at_+q1.i+1)) s)):Nat):Int):=hq_q1
 obtain ⟨v1,v2,v3⟩:=hi_q1
 have hw8:w=4∨w=8:=by omega
 have hlt:=Mz (l:=List.take (Int.toNat (w-1-q1.i)) (List.drop (Int.toNat (at_+q1.i+1)) s)) (k:=Int.toNat (w-1-q1.i)) (by rw[List.length_take];omega)
 have hu0:(0:Int)≤q1.u:=by rw[v3];exact Int.natCast_nonneg _
 refine dsp (fun h3 p3=>?_) fun h3 p3=>?_
 have hle:E5 (List.take (Int.toNat (w-1-q1.i)) (List.drop (Int.toNat (at_+q1.i+1)) s))<2 ^ 56:=Nat.lt_of_lt_of_le hlt (Nat.pow_le_pow_right (by decide) (by omega))
 have hu1:q1.u<72057594037927936:=by rw[v3];omega
 refine⟨(Bp Q2 Q2),(Ac Q2 Q2),(Bq (l:=s) (i:=Int.toNat (at_+q1.i)) Q2),fun x1 hx1=>?_⟩
 have hb_x1:=UInt8.toNat_lt x1
 exact⟨hx1,Q2,(Bp Q2 Q2),(Bp Q2 Q2),(Ac Q2 Q2),Bc (j:=(⟨(256*q1.u)+((UInt8.toNat x1:Nat):Int),q1.i-1⟩:Hc)) rfl rfl Q51 (by dsimp only[Jf];omega)⟩
 have hok:Dj s at_ w=true:=by simp[Dj,Ff,Aq];omega
 have hvw:q1.i= -1:=by omega
 rw[hvw] at v3
 have hr:q1.u=Hi s at_ w:=by rw[Hi,if_pos hok,v3,show Int.toNat (w-1- -1)=w.toNat by omega,show Int.toNat (at_+ -1+1)=at_.toNat by omega]
 refine⟨(congrArg S.tup (Aa (congrArg V.c (congrArg (C.int .u64) ?_)) (Aa (congrArg V.c (congrArg C.bool ?_)) rfl))),rfl⟩
 rotate_left 2
 all_goals first|(exact hr)|(exact hok.symm)|(simp_all[Dj,Hi,Ff];done)
theorem C2 (n:Int) (w:Int):Fun Tryz.prog 206 [vI n,vI w] [] (.v (.c (.int .u64 (C6 n w)))) []:=by
 have hN:Be=274877906944:=rfl
 refine Ar Tryz.func206 Q4 Q4 (w:=let z1:=(8*n)+w;let z2:=Aq n 1 536870911;let z3:=Aq w 0 7;(.seg [.call [] (.v (vB z2)) []] (.br (.leaf () []) (.seg [.call [] (.v (vB z3)) []] (.br (.leaf () []) (.seg [.as 14 (.v (vI (8*n))),.as 16 (.v (vI z1)),.as 17 (.v (.c (.int .u64 z1)))] (.leaf () []))))),(Fun Tryz.prog 59 [vI n,vI 1,vI 536870911] [] (.v (vB z2)) [])∧((!z2)=true→(.v (.c (.int .u64 0)):S)= .v (.c (.int .u64 (C6 n w)))∧([]:List Blk)=[])∧((!z2)=false→(Fun Tryz.prog 59 [vI w,vI 0,vI 7] [] (.v (vB z3)) [])∧((!z3)=true→(.v (.c (.int .u64 0)):S)= .v (.c (.int .u64 (C6 n w)))∧([]:List Blk)=[])∧((!z3)=false→((.v (vI (IntKind.i64.wrap (8*n))):S)= .v (vI (8*n)))∧((.v (vI (IntKind.i64.wrap z1)):S)= .v (vI z1))∧((.v (.c (.int .u64 (IntKind.u64.wrap z1))):S)= .v (.c (.int .u64 z1)))∧(.v (.c (.int .u64 z1)):S)= .v (.c (.int .u64 (C6 n w)))∧([]:List Blk)=[])))) Q4 ?_
 refine⟨(Bh _ _ _),fun h1=>have q1:=Ap h1;have p1:=A4 q1;?_,fun h1=>have q1:=Ao h1;have p1:=Av q1;?_⟩
 exact⟨(congrArg S.v (congrArg V.c (congrArg (C.int .u64) (by simp[C6, *])))),rfl⟩
 refine⟨(Bh _ _ _),fun h2=>have q2:=Ap h2;have p2:=A4 q2;?_,fun h2=>have q2:=Ao h2;have p2:=Av q2;?_⟩
 exact⟨(congrArg S.v (congrArg V.c (congrArg (C.int .u64) (by simp[C6, *])))),rfl⟩
 exact⟨(Ac Q2 Q2),(Ac Q2 Q2),(Bp Q2 Q2),(congrArg S.v (congrArg V.c (congrArg (C.int .u64) (by simp[C6, *])))),rfl⟩
theorem Ah2 (u:Int) (hp1:(0:Int)≤u∧u≤18446744073709551615):Fun Tryz.prog 160 [.c (.int .u64 u)] [] (.tup [vI (Ba u),vI (Ag u),vB (Gv u)]) []:=by
 have hN:Be=274877906944:=rfl
 refine Ar Tryz.func160 Q4 Q4 (w:=let z1:List V:=[vI (Ba u),vI (Ag u),vB (Gv u)];let z2:=(.v (.c (.int .u64 (Int.fdiv u (2 ^ 3)))):S)= .v (.c (.int .u64 (u / 8)));let z3:=(.tup [vI 0,vI 0,vB false]:S);(.br (.leaf () []) (.seg [.as 9 (.v (.c (.int .u64 (u / 8))))] (.br (.leaf () []) (.seg [.as 13 (.v (.c (.int .u64 (u / 8)))),.as 14 (.v (vI (u / 8))),.as 16 (.v (.c (.int .u64 (u % 8)))),.as 17 (.v (vI (u % 8)))] (.leaf () [])))),((decide (u<8))=true→z3= .tup z1∧([]:List Blk)=[])∧((decide (u<8))=false→((0:Int)≤3)∧z2∧((decide (536870911<u / 8))=true→z3= .tup z1∧([]:List Blk)=[])∧((decide (536870911<u / 8))=false→((0:Int)≤3)∧z2∧((.v (vI (IntKind.i64.wrap (u / 8))):S)= .v (vI (u / 8)))∧((.v (.c (.int .u64 (IntKind.u64.wrap (((BitVec.ofInt 64 u&&&BitVec.ofInt 64 7).toNat:Nat))))):S)= .v (.c (.int .u64 (u % 8))))∧((.v (vI (IntKind.i64.wrap (u % 8))):S)= .v (vI (u % 8)))∧(.tup [vI (u / 8),vI (u % 8),vB true]:S)= .tup z1∧([]:List Blk)=[])))) Q4 ?_
 refine dsp (fun h1 p1=>?_) fun h1 p1=>?_
 refine⟨(congrArg S.tup (Aa (congrArg V.c (congrArg (C.int .i64) ?_)) (Aa (congrArg V.c (congrArg (C.int .i64) ?_)) (Aa (congrArg V.c (congrArg C.bool ?_)) rfl)))),rfl⟩
 rotate_left 3
 refine⟨Q26,(Y8 (k:=3) Q26 Q26),dsp (fun h2 p2=>?_) fun h2 p2=>?_⟩
 refine⟨(congrArg S.tup (Aa (congrArg V.c (congrArg (C.int .i64) ?_)) (Aa (congrArg V.c (congrArg (C.int .i64) ?_)) (Aa (congrArg V.c (congrArg C.bool ?_)) rfl)))),rfl⟩
 rotate_left 3
 refine⟨Q26,(Y8 (k:=3) Q26 Q26),(Ac Q2 Q2),(Ac9 (k:=3) Q26 Q26),(Ac Q2 Q2),(congrArg S.tup (Aa (congrArg V.c (congrArg (C.int .i64) ?_)) (Aa (congrArg V.c (congrArg (C.int .i64) ?_)) (Aa (congrArg V.c (congrArg C.bool ?_)) rfl)))),rfl⟩
 rotate_left 3
 all_goals first|((have ht:Gv u=true:=by (simp[Gv,Aq];omega));simp[Ba,Ag,ht])|((have ht:Gv u=false:=by (simp[Gv,Aq];omega));simp[Ba,Ag,ht])
theorem Ah3 (u:Int) (hp1:(0:Int)≤u∧u≤18446744073709551615):Fun Tryz.prog 182 [.c (.int .u64 u)] [] (.tup [vI (Ba u),vI (Ag u),vB (Gv u)]) []:=by
 have hN:Be=274877906944:=rfl
 refine Ar Tryz.func182 Q4 Q4 (w:=let z1:List V:=[vI (Ba u),vI (Ag u),vB (Gv u)];let z2:=(.tup [vI 0,vI 0,vB false]:S);(.br (.leaf () []) (.br (.leaf () []) (.seg [.as 12 (.v (.c (.int .u64 (u / 8)))),.as 13 (.v (vI (u / 8))),.as 15 (.v (.c (.int .u64 (u % 8)))),.as 16 (.v (vI (u % 8)))] (.leaf () []))),((decide (u<8))=true→z2= .tup z1∧([]:List Blk)=[])∧((decide (u<8))=false→((decide (4294967295<u))=true→z2= .tup z1∧([]:List Blk)=[])∧((decide (4294967295<u))=false→((8:Int)≠0)∧((.v (.c (.int .u64 (IntKind.u64.wrap (Int.tdiv u 8)))):S)= .v (.c (.int .u64 (u / 8))))∧((.v (vI (IntKind.i64.wrap (u / 8))):S)= .v (vI (u / 8)))∧((8:Int)≠0)∧((.v (.c (.int .u64 (Int.tmod u 8))):S)= .v (.c (.int .u64 (u % 8))))∧((.v (vI (IntKind.i64.wrap (u % 8))):S)= .v (vI (u % 8)))∧(.tup [vI (u / 8),vI (u % 8),vB true]:S)= .tup z1∧([]:List Blk)=[])))) Q4 ?_
 refine dsp (fun h1 p1=>?_) fun h1 p1=>?_
 refine⟨(congrArg S.tup (Aa (congrArg V.c (congrArg (C.int .i64) ?_)) (Aa (congrArg V.c (congrArg (C.int .i64) ?_)) (Aa (congrArg V.c (congrArg C.bool ?_)) rfl)))),rfl⟩
 rotate_left 3
 refine dsp (fun h2 p2=>?_) fun h2 p2=>?_
 refine⟨(congrArg S.tup (Aa (congrArg V.c (congrArg (C.int .i64) ?_)) (Aa (congrArg V.c (congrArg (C.int .i64) ?_)) (Aa (congrArg V.c (congrArg C.bool ?_)) rfl)))),rfl⟩
 rotate_left 3
 refine⟨Q26,(Xf Q2 Q2 Q26),(Ac Q2 Q2),Q26,(Us Q2),(Ac Q2 Q2),(congrArg S.tup (Aa (congrArg V.c (congrArg (C.int .i64) ?_)) (Aa (congrArg V.c (congrArg (C.int .i64) ?_)) (Aa (congrArg V.c (congrArg C.bool ?_)) rfl)))),rfl⟩
 rotate_left 3
 all_goals first|((have ht:Gv u=true:=by (simp[Gv,Aq];omega));simp[Ba,Ag,ht])|((have ht:Gv u=false:=by (simp[Gv,Aq];omega));simp[Ba,Ag,ht])
theorem Aby (c:Int) (a:Int):Fun Tryz.prog 152 [vI c,vI a] [] (.v (.agg (cEv (Aw c a)))) []:=by
 have hN:Be=274877906944:=rfl
 refine Ar Tryz.func152 Q4 Q4 (w:=(.leaf () [],(.v (.agg [.int .i64 10,.int .i64 0,.int .u64 0,.int .i64 0,.str [],.int .i64 c,.int .i64 a]):S)= .v (.agg (cEv (Aw c a)))∧([]:List Blk)=[])) Q4 ?_
 have hm1:Aw c a=(⟨10,0,0,0,[],c,a⟩:Ev):=by rfl
 exact⟨Q5,rfl⟩
theorem Dk (c:Int) (a:Int):Fun Tryz.prog 110 [vI c,vI a] [] (.v (.agg (cEv (Aw c a)))) []:=by
 have hN:Be=274877906944:=rfl
 refine Ar Tryz.func110 Q4 Q4 (w:=(.leaf () [],(.v (.agg [.int .i64 10,.int .i64 0,.int .u64 0,.int .i64 0,.str [],.int .i64 c,.int .i64 a]):S)= .v (.agg (cEv (Aw c a)))∧([]:List Blk)=[])) Q4 ?_
 have hm1:Aw c a=(⟨10,0,0,0,[],c,a⟩:Ev):=by rfl
 exact⟨Q5,rfl⟩
theorem Rs (f:Fld) (u:Int) (hp1:(0:Int)≤u):Fun Tryz.prog 163 [.agg (Ej f),.c (.int .u64 u)] [] (.v (.agg (cEv (D1 f u)))) []:=by
 have hN:Be=274877906944:=rfl
 refine Ar Tryz.func163 Q4 Q4 (w:=let zi:Int→C:= .int .i64;let z1:List C:=[zi 2,zi f.number,.int .u64 u,zi 0,.str [],zi 0,zi 0];(.br (.br (.leaf () []) (.leaf () [])) (.leaf () []),((decide (f.kind=3))=true→((!decide (u=0))=true→(.v (.agg [zi 2,zi f.number,.int .u64 1,zi 0,.str [],zi 0,zi 0]):S)= .v (.agg (cEv (D1 f u)))∧([]:List Blk)=[])∧((!decide (u=0))=false→(.v (.agg z1):S)= .v (.agg (cEv (D1 f u)))∧([]:List Blk)=[]))∧((decide (f.kind=3))=false→(.v (.agg z1):S)= .v (.agg (cEv (D1 f u)))∧([]:List Blk)=[]))) Q4 ?_
 refine dsp (fun h1 p1=>?_) fun h1 p1=>?_
 refine⟨fun h2=>have q2:=Ap h2;have p2:=of_decide_eq_false q2;?_,fun h2=>have q2:=Ao h2;have p2:=of_decide_eq_true q2;?_⟩
 refine have hm1:D1 f u=(⟨2,f.number,1,0,[],0,0⟩:Ev):=?_;?_
 rotate_left
 exact⟨Q5,rfl⟩
 refine have hm1:D1 f u=(⟨2,f.number,u,0,[],0,0⟩:Ev):=?_;?_
 rotate_left
 exact⟨Q5,rfl⟩
 refine have hm1:D1 f u=(⟨2,f.number,u,0,[],0,0⟩:Ev):=?_;?_
 rotate_left
 exact⟨Q5,rfl⟩
 all_goals simp[D1, *]<;>omega
theorem M1 (f:Fld) (u:Int) (hp1:(0:Int)≤u):Fun Tryz.prog 127 [.agg (Ej f),.c (.int .u64 u)] [] (.v (.agg (cEv (D1 f u)))) []:=by
 have hN:Be=274877906944:=rfl
 refine Ar Tryz.func127 Q4 Q4 (w:=let zi:Int→C:= .int .i64;let z1:List C:=[zi 2,zi f.number,.int .u64 u,zi 0,.str [],zi 0,zi 0];(.br (.br (.leaf () []) (.leaf () [])) (.leaf () []),((decide (f.kind=3))=true→((decide (1<u))=true→(.v (.agg [zi 2,zi f.number,.int .u64 1,zi 0,.str [],zi 0,zi 0]):S)= .v (.agg (cEv (D1 f u)))∧([]:List Blk)=[])∧((decide (1<u))=false→(.v (.agg z1):S)= .v (.agg (cEv (D1 f u)))∧([]:List Blk)=[]))∧((decide (f.kind=3))=false→(.v (.agg z1):S)= .v (.agg (cEv (D1 f u)))∧([]:List Blk)=[]))) Q4 ?_
 refine dsp (fun h1 p1=>?_) fun h1 p1=>?_
 refine dsp (fun h2 p2=>?_) fun h2 p2=>?_
 refine have hm1:D1 f u=(⟨2,f.number,1,0,[],0,0⟩:Ev):=?_;?_
 rotate_left
 exact⟨Q5,rfl⟩
 refine have hm1:D1 f u=(⟨2,f.number,u,0,[],0,0⟩:Ev):=?_;?_
 rotate_left
 exact⟨Q5,rfl⟩
 refine have hm1:D1 f u=(⟨2,f.number,u,0,[],0,0⟩:Ev):=?_;?_
 rotate_left
 exact⟨Q5,rfl⟩
 all_goals simp[D1, *]<;>omega
theorem Ah4 (b:List UInt8) (hp1:b.length≤Be):Fun Tryz.prog 45 [vT b] [] (.v (vT (Qs b))) []:=by
 have hN:Be=274877906944:=rfl
 refine Ar Tryz.func45 Q4 Q4 (w:=let z1:=(b.length:Int);(.seg [.as 5 (.v (.c (.int .u64 z1))),.call [] (.v (vT (Dw z1))) []] (.leaf () []),((.v (.c (.int .u64 (IntKind.u64.wrap (z1)))):S)= .v (.c (.int .u64 z1)))∧(Fun Tryz.prog 103 [.c (.int .u64 z1)] [] (.v (vT (Dw z1))) [])∧(((List.length (Dw z1)+b.length:Nat):Int)≤Bk)∧(.v (vT ((Dw z1)++b)):S)= .v (vT (Qs b))∧([]:List Blk)=[])) Q4 ?_
 exact⟨(Bp Q2 Q2),(Tk _ Q2),(by have:=Afs (u:=(b.length:Int)) Q2;simp only[Bk];omega),(congrArg S.v (congrArg V.c (congrArg C.str (by rfl)))),rfl⟩
theorem Ah5 (u:Utf):Fun Tryz.prog 80 [.agg (Hn u)] [] (.v (vB (Fe u))) []:=by
 have hN:Be=274877906944:=rfl
 refine Ar Tryz.func80 Q4 Q4 (w:=let z1:=decide (u.low=128)&&decide (u.high=191);let z2:=decide (u.want=2)&&(decide (u.low=160)&&decide (u.high=191));let z3:=decide (u.want=2)&&(decide (u.low=128)&&decide (u.high=159));let z4:=decide (u.want=3)&&(decide (u.low=144)&&decide (u.high=191));let z5:=decide (u.want=0)&&(decide (u.low=0)&&decide (u.high=0));let z6:=(.v (vB true):S);let z7:=([]:List Blk);let z8:=vB (Fe u);let z9:=decide (u.want=3)&&(decide (u.low=128)&&decide (u.high=143));let z10:=decide (u.want=1)&&z1;let z11:=decide (u.want=2)&&z1;let z12:=decide (u.want=3)&&z1;(.br (.seg [.br true] (.leaf () [])) (.br (.seg [.br true] (.leaf () [])) (.br (.seg [.br true] (.leaf () [])) (.br (.seg [.br true] (.leaf () [])) (.br (.seg [.br true] (.leaf () [])) (.br (.seg [.br true] (.leaf () [])) (.br (.seg [.br true] (.leaf () [])) (.br (.leaf () []) (.leaf () [])))))))),(z5=true→(z5=true)∧z6= .v z8∧z7=[])∧(z5=false→(z10=true→(z10=true)∧z6= .v z8∧z7=[])∧(z10=false→(z11=true→(z11=true)∧z6= .v z8∧z7=[])∧(z11=false→(z12=true→(z12=true)∧z6= .v z8∧z7=[])∧(z12=false→(z2=true→(z2=true)∧z6= .v z8∧z7=[])∧(z2=false→(z3=true→(z3=true)∧z6= .v z8∧z7=[])∧(z3=false→(z4=true→(z4=true)∧z6= .v z8∧z7=[])∧(z4=false→(z9=true→z6= .v z8∧z7=[])∧(z9=false→(.v (vB false):S)= .v z8∧z7=[])))))))))) Q4 ?_
 refine⟨fun h1=>have p1:=(Cw dT (Cw dT dT)).1 h1;?_,fun h1=>have p1:=(Cx dT (Cx dT dF)).1 h1;?_⟩
 refine⟨h1,(sB ?_),rfl⟩
 rotate_left
 refine⟨fun h2=>have p2:=(Cw dT (Cw dT dT)).1 h2;?_,fun h2=>have p2:=(Cx dT (Cx dT dF)).1 h2;?_⟩
 refine⟨h2,(sB ?_),rfl⟩
 rotate_left
 refine⟨fun h3=>have p3:=(Cw dT (Cw dT dT)).1 h3;?_,fun h3=>have p3:=(Cx dT (Cx dT dF)).1 h3;?_⟩
 refine⟨h3,(sB ?_),rfl⟩
 rotate_left
 refine⟨fun h4=>have p4:=(Cw dT (Cw dT dT)).1 h4;?_,fun h4=>have p4:=(Cx dT (Cx dT dF)).1 h4;?_⟩
 refine⟨h4,(sB ?_),rfl⟩
 rotate_left
 refine⟨fun h5=>have p5:=(Cw dT (Cw dT dT)).1 h5;?_,fun h5=>have p5:=(Cx dT (Cx dT dF)).1 h5;?_⟩
 refine⟨h5,(sB ?_),rfl⟩
 rotate_left
 refine⟨fun h6=>have p6:=(Cw dT (Cw dT dT)).1 h6;?_,fun h6=>have p6:=(Cx dT (Cx dT dF)).1 h6;?_⟩
 refine⟨h6,(sB ?_),rfl⟩
 rotate_left
 refine⟨fun h7=>have p7:=(Cw dT (Cw dT dT)).1 h7;?_,fun h7=>have p7:=(Cx dT (Cx dT dF)).1 h7;?_⟩
 refine⟨h7,(sB ?_),rfl⟩
 rotate_left
 refine⟨fun h8=>have p8:=(Cw dT (Cw dT dT)).1 h8;?_,fun h8=>have p8:=(Cx dT (Cx dT dF)).1 h8;?_⟩
 refine⟨(sB ?_),rfl⟩
 rotate_left
 refine⟨(sB ?_),rfl⟩
 rotate_left
 all_goals first|(rw[Bool.eq_iff_iff];simp[Fe,Qa];omega)|(rw[Bool.eq_iff_iff];simp[Fe,Qa,Aq];omega)|(simp_all[Fe,Qa,Aq];done)
theorem Ah6 (u:Utf):Fun Tryz.prog 68 [.agg (Hn u)] [] (.v (vB (Fe u))) []:=by
 have hN:Be=274877906944:=rfl
 refine Ar Tryz.func68 Q4 Q4 (w:=let z1:=decide (u.low=128);let z2:=([]:List Blk);let z3:=vB (Fe u);let z4:=decide (u.high=191);let z5:=(.v (vB false):S);let z6:=decide (u.want=0)&&(decide (u.low=0)&&decide (u.high=0));let z7:=decide (u.low=160);let z8:=decide (u.low=144);let z9:=decide (u.want=2);let z10:=decide (u.want=3);let z11:=z4=true→(.v (vB true):S)= .v z3∧z2=[];let z12:=z4=false→(z1=false)∧z5= .v z3∧z2=[];let z13:=vB (Aq u.want 1 3);let z14:=(.v (vB (decide (u.high=159))):S);let z15:=(.v (vB (decide (u.high=143))):S);let z16:=z10=false→z5= .v z3∧z2=[];(.br (.leaf () []) (.br (.br (.seg [.call [] (.v z13) []] (.leaf () [])) (.br (.br (.seg [.br false,.br true] (.leaf () [])) (.seg [.br true] (.leaf () []))) (.br (.br (.seg [.br false,.br true] (.leaf () [])) (.seg [.br true] (.leaf () []))) (.leaf () [])))) (.br (.br (.br (.leaf () []) (.seg [.br false] (.leaf () []))) (.seg [.br false] (.leaf () []))) (.br (.br (.br (.leaf () []) (.seg [.br false] (.leaf () []))) (.seg [.br false] (.leaf () []))) (.leaf () [])))),(z6=true→(.v (vB true):S)= .v z3∧z2=[])∧(z6=false→(z1=true→(z4=true→(Fun Tryz.prog 59 [vI u.want,vI 1,vI 3] [] (.v z13) [])∧(.v z13:S)= .v z3∧z2=[])∧(z4=false→(z9=true→(z7=true→(z4=false)∧(z1=true)∧z14= .v z3∧z2=[])∧(z7=false→(z1=true)∧z14= .v z3∧z2=[]))∧(z9=false→(z10=true→(z8=true→(z4=false)∧(z1=true)∧z15= .v z3∧z2=[])∧(z8=false→(z1=true)∧z15= .v z3∧z2=[]))∧z16)))∧(z1=false→(z9=true→(z7=true→z11∧z12)∧(z7=false→(z1=false)∧z5= .v z3∧z2=[]))∧(z9=false→(z10=true→(z8=true→z11∧z12)∧(z8=false→(z1=false)∧z5= .v z3∧z2=[]))∧z16))))) Q4 ?_
 refine⟨fun h1=>have p1:=(Cw dT (Cw dT dT)).1 h1;?_,fun h1=>have p1:=(Cx dT (Cx dT dF)).1 h1;?_⟩
 refine⟨(sB ?_),rfl⟩
 rotate_left
 refine dsp (fun h2 p2=>?_) fun h2 p2=>?_
 refine dsp (fun h3 p3=>?_) fun h3 p3=>?_
 refine⟨(Bh _ _ _),(sB ?_),rfl⟩
 rotate_left
 refine dsp (fun h4 p4=>?_) fun h4 p4=>?_
 refine dsp (fun h5 p5=>?_) fun h5 p5=>?_
 refine⟨h3,h2,(sB ?_),rfl⟩
 rotate_left
 refine⟨h2,(sB ?_),rfl⟩
 rotate_left
 refine dsp (fun h5 p5=>?_) fun h5 p5=>?_
 refine dsp (fun h6 p6=>?_) fun h6 p6=>?_
 refine⟨h3,h2,(sB ?_),rfl⟩
 rotate_left
 refine⟨h2,(sB ?_),rfl⟩
 rotate_left
 refine⟨(sB ?_),rfl⟩
 rotate_left
 refine dsp (fun h3 p3=>?_) fun h3 p3=>?_
 refine dsp (fun h4 p4=>?_) fun h4 p4=>?_
 refine dsp (fun h5 p5=>?_) fun h5 p5=>?_
 refine⟨(sB ?_),rfl⟩
 rotate_left
 refine⟨h2,(sB ?_),rfl⟩
 rotate_left
 refine⟨h2,(sB ?_),rfl⟩
 rotate_left
 refine dsp (fun h4 p4=>?_) fun h4 p4=>?_
 refine dsp (fun h5 p5=>?_) fun h5 p5=>?_
 refine dsp (fun h6 p6=>?_) fun h6 p6=>?_
 refine⟨(sB ?_),rfl⟩
 rotate_left
 refine⟨h2,(sB ?_),rfl⟩
 rotate_left
 refine⟨h2,(sB ?_),rfl⟩
 rotate_left
 refine⟨(sB ?_),rfl⟩
 rotate_left
 all_goals first|(rw[Bool.eq_iff_iff];simp[Fe,Qa];omega)|(rw[Bool.eq_iff_iff];simp[Fe,Qa,Aq];omega)|(simp_all[Fe,Qa,Aq];done)
theorem Afw (b:Int):Fun Tryz.prog 205 [vI b] [] (.tup [.agg (Hn ((Bo b).getD utf0)),vB (Bo b).isSome]) []:=by
 have hN:Be=274877906944:=rfl
 refine Ar Tryz.func205 Q4 Q4 (w:=let zi:Int→C:= .int .i64;let z2:=([]:List Blk);let z3:=Bo b;let z1:=Hn (z3.getD utf0);let z4:=decide (b=224);let z5:=decide (b=237);let z6:=decide (b=240);let z7:=decide (b=244);let z8:=Aq b 194 223;let z9:=Aq b 224 239;let z10:=Aq b 240 244;let z11:=Aq b 0 127;(.seg [.call [] (.v (vB z11)) []] (.br (.leaf () []) (.seg [.call [] (.v (vB z8)) []] (.br (.br (.leaf () []) (.br (.leaf () []) (.br (.leaf () []) (.br (.leaf () []) (.leaf () []))))) (.seg [.call [] (.v (vB z9)) []] (.br (.br (.leaf () []) (.br (.leaf () []) (.br (.leaf () []) (.br (.leaf () []) (.leaf () []))))) (.seg [.call [] (.v (vB z10)) []] (.br (.br (.leaf () []) (.br (.leaf () []) (.br (.leaf () []) (.br (.leaf () []) (.leaf () []))))) (.leaf () [])))))))),(Fun Tryz.prog 79 [vI b,vI 0,vI 127] [] (.v (vB z11)) [])∧(z11=true→(.tup [.agg [zi 0,zi 0,zi 0],vB true]:S)= .tup [.agg z1,vB z3.isSome]∧z2=[])∧(z11=false→(Fun Tryz.prog 79 [vI b,vI 194,vI 223] [] (.v (vB z8)) [])∧(z8=true→(z4=true→(.tup [.agg [zi 1,zi 160,zi 191],vB true]:S)= .tup [.agg z1,vB z3.isSome]∧z2=[])∧(z4=false→(z5=true→(.tup [.agg [zi 1,zi 128,zi 159],vB true]:S)= .tup [.agg z1,vB z3.isSome]∧z2=[])∧(z5=false→(z6=true→(.tup [.agg [zi 1,zi 144,zi 191],vB true]:S)= .tup [.agg z1,vB z3.isSome]∧z2=[])∧(z6=false→(z7=true→(.tup [.agg [zi 1,zi 128,zi 143],vB true]:S)= .tup [.agg z1,vB z3.isSome]∧z2=[])∧(z7=false→(.tup [.agg [zi 1,zi 128,zi 191],vB true]:S)= .tup [.agg z1,vB z3.isSome]∧z2=[])))))∧(z8=false→(Fun Tryz.prog 79 [vI b,vI 224,vI 239] [] (.v (vB z9)) [])∧(z9=true→(z4=true→(.tup [.agg [zi 2,zi 160,zi 191],vB true]:S)= .tup [.agg z1,vB z3.isSome]∧z2=[])∧(z4=false→(z5=true→(.tup [.agg [zi 2,zi 128,zi 159],vB true]:S)= .tup [.agg z1,vB z3.isSome]∧z2=[])∧(z5=false→(z6=true→(.tup [.agg [zi 2,zi 144,zi 191],vB true]:S)= .tup [.agg z1,vB z3.isSome]∧z2=[])∧(z6=false→(z7=true→(.tup [.agg [zi 2,zi 128,zi 143],vB true]:S)= .tup [.agg z1,vB z3.isSome]∧z2=[])∧(z7=false→(.tup [.agg [zi 2,zi 128,zi 191],vB true]:S)= .tup [.agg z1,vB z3.isSome]∧z2=[])))))∧(z9=false→(Fun Tryz.prog 79 [vI b,vI 240,vI 244] [] (.v (vB z10)) [])∧(z10=true→(z4=true→(.tup [.agg [zi 3,zi 160,zi 191],vB true]:S)= .tup [.agg z1,vB z3.isSome]∧z2=[])∧(z4=false→(z5=true→(.tup [.agg [zi 3,zi 128,zi 159],vB true]:S)= .tup [.agg z1,vB z3.isSome]∧z2=[])∧(z5=false→(z6=true→(.tup [.agg [zi 3,zi 144,zi 191],vB true]:S)= .tup [.agg z1,vB z3.isSome]∧z2=[])∧(z6=false→(z7=true→(.tup [.agg [zi 3,zi 128,zi 143],vB true]:S)= .tup [.agg z1,vB z3.isSome]∧z2=[])∧(z7=false→(.tup [.agg [zi 3,zi 128,zi 191],vB true]:S)= .tup [.agg z1,vB z3.isSome]∧z2=[])))))∧(z10=false→(.tup [.agg [zi 0,zi 0,zi 0],vB false]:S)= .tup [.agg z1,vB z3.isSome]∧z2=[])))))) Q4 ?_
 refine⟨(Ch _ _ _),fun h1=>have p1:=Av h1;?_,fun h1=>have p1:=A4 h1;?_⟩
 refine have hm1:(Bo b).getD utf0=utf0:=?_;?_
 rotate_left
 refine⟨(congrArg S.tup (Aa (congrArg V.agg (Aa (congrArg (C.int .i64) ?_) (Aa (congrArg (C.int .i64) ?_) (Aa (congrArg (C.int .i64) ?_) rfl)))) (Aa (congrArg V.c (congrArg C.bool ?_)) rfl))),rfl⟩
 rotate_left 4
 refine⟨(Ch _ _ _),fun h2=>have p2:=Av h2;?_,fun h2=>have p2:=A4 h2;?_⟩
 refine dsp (fun h3 p3=>?_) fun h3 p3=>?_
 refine have hm1:(Bo b).getD utf0=(⟨1,160,191⟩:Utf):=?_;?_
 rotate_left
 refine⟨(congrArg S.tup (Aa (congrArg V.agg (Aa (congrArg (C.int .i64) ?_) (Aa (congrArg (C.int .i64) ?_) (Aa (congrArg (C.int .i64) ?_) rfl)))) (Aa (congrArg V.c (congrArg C.bool ?_)) rfl))),rfl⟩
 rotate_left 4
 refine dsp (fun h4 p4=>?_) fun h4 p4=>?_
 refine have hm1:(Bo b).getD utf0=(⟨1,128,159⟩:Utf):=?_;?_
 rotate_left
 refine⟨(congrArg S.tup (Aa (congrArg V.agg (Aa (congrArg (C.int .i64) ?_) (Aa (congrArg (C.int .i64) ?_) (Aa (congrArg (C.int .i64) ?_) rfl)))) (Aa (congrArg V.c (congrArg C.bool ?_)) rfl))),rfl⟩
 rotate_left 4
 refine dsp (fun h5 p5=>?_) fun h5 p5=>?_
 refine have hm1:(Bo b).getD utf0=(⟨1,144,191⟩:Utf):=?_;?_
 rotate_left
 refine⟨(congrArg S.tup (Aa (congrArg V.agg (Aa (congrArg (C.int .i64) ?_) (Aa (congrArg (C.int .i64) ?_) (Aa (congrArg (C.int .i64) ?_) rfl)))) (Aa (congrArg V.c (congrArg C.bool ?_)) rfl))),rfl⟩
 rotate_left 4
 refine dsp (fun h6 p6=>?_) fun h6 p6=>?_
 refine have hm1:(Bo b).getD utf0=(⟨1,128,143⟩:Utf):=?_;?_
 rotate_left
 refine⟨(congrArg S.tup (Aa (congrArg V.agg (Aa (congrArg (C.int .i64) ?_) (Aa (congrArg (C.int .i64) ?_) (Aa (congrArg (C.int .i64) ?_) rfl)))) (Aa (congrArg V.c (congrArg C.bool ?_)) rfl))),rfl⟩
 rotate_left 4
 refine have hm1:(Bo b).getD utf0=(⟨1,128,191⟩:Utf):=?_;?_
 rotate_left
 refine⟨(congrArg S.tup (Aa (congrArg V.agg (Aa (congrArg (C.int .i64) ?_) (Aa (congrArg (C.int .i64) ?_) (Aa (congrArg (C.int .i64) ?_) rfl)))) (Aa (congrArg V.c (congrArg C.bool ?_)) rfl))),rfl⟩
 rotate_left 4
 refine⟨(Ch _ _ _),fun h3=>have p3:=Av h3;?_,fun h3=>have p3:=A4 h3;?_⟩
 refine dsp (fun h4 p4=>?_) fun h4 p4=>?_
 refine have hm1:(Bo b).getD utf0=(⟨2,160,191⟩:Utf):=?_;?_
 rotate_left
 refine⟨(congrArg S.tup (Aa (congrArg V.agg (Aa (congrArg (C.int .i64) ?_) (Aa (congrArg (C.int .i64) ?_) (Aa (congrArg (C.int .i64) ?_) rfl)))) (Aa (congrArg V.c (congrArg C.bool ?_)) rfl))),rfl⟩
 rotate_left 4
 refine dsp (fun h5 p5=>?_) fun h5 p5=>?_
 refine have hm1:(Bo b).getD utf0=(⟨2,128,159⟩:Utf):=?_;?_
 rotate_left
 refine⟨(congrArg S.tup (Aa (congrArg V.agg (Aa (congrArg (C.int .i64) ?_) (Aa (congrArg (C.int .i64) ?_) (Aa (congrArg (C.int .i64) ?_) rfl)))) (Aa (congrArg V.c (congrArg C.bool ?_)) rfl))),rfl⟩
 rotate_left 4
 refine dsp (fun h6 p6=>?_) fun h6 p6=>?_
 refine have hm1:(Bo b).getD utf0=(⟨2,144,191⟩:Utf):=?_;?_
 rotate_left
 refine⟨(congrArg S.tup (Aa (congrArg V.agg (Aa (congrArg (C.int .i64) ?_) (Aa (congrArg (C.int .i64) ?_) (Aa (congrArg (C.int .i64) ?_) rfl)))) (Aa (congrArg V.c (congrArg C.bool ?_)) rfl))),rfl⟩
 rotate_left 4
 refine dsp (fun h7 p7=>?_) fun h7 p7=>?_
 refine have hm1:(Bo b).getD utf0=(⟨2,128,143⟩:Utf):=?_;?_
 rotate_left
 refine⟨(congrArg S.tup (Aa (congrArg V.agg (Aa (congrArg (C.int .i64) ?_) (Aa (congrArg (C.int .i64) ?_) (Aa (congrArg (C.int .i64) ?_) rfl)))) (Aa (congrArg V.c (congrArg C.bool ?_)) rfl))),rfl⟩
 rotate_left 4
 refine have hm1:(Bo b).getD utf0=(⟨2,128,191⟩:Utf):=?_;?_
 rotate_left
 refine⟨(congrArg S.tup (Aa (congrArg V.agg (Aa (congrArg (C.int .i64) ?_) (Aa (congrArg (C.int .i64) ?_) (Aa (congrArg (C.int .i64) ?_) rfl)))) (Aa (congrArg V.c (congrArg C.bool ?_)) rfl))),rfl⟩
 rotate_left 4
 refine⟨(Ch _ _ _),fun h4=>have p4:=Av h4;?_,fun h4=>have p4:=A4 h4;?_⟩
 refine dsp (fun h5 p5=>?_) fun h5 p5=>?_
 refine have hm1:(Bo b).getD utf0=(⟨3,160,191⟩:Utf):=?_;?_
 rotate_left
 refine⟨(congrArg S.tup (Aa (congrArg V.agg (Aa (congrArg (C.int .i64) ?_) (Aa (congrArg (C.int .i64) ?_) (Aa (congrArg (C.int .i64) ?_) rfl)))) (Aa (congrArg V.c (congrArg C.bool ?_)) rfl))),rfl⟩
 rotate_left 4
 refine dsp (fun h6 p6=>?_) fun h6 p6=>?_
 refine have hm1:(Bo b).getD utf0=(⟨3,128,159⟩:Utf):=?_;?_
 rotate_left
 refine⟨(congrArg S.tup (Aa (congrArg V.agg (Aa (congrArg (C.int .i64) ?_) (Aa (congrArg (C.int .i64) ?_) (Aa (congrArg (C.int .i64) ?_) rfl)))) (Aa (congrArg V.c (congrArg C.bool ?_)) rfl))),rfl⟩
 rotate_left 4
 refine dsp (fun h7 p7=>?_) fun h7 p7=>?_
 refine have hm1:(Bo b).getD utf0=(⟨3,144,191⟩:Utf):=?_;?_
 rotate_left
 refine⟨(congrArg S.tup (Aa (congrArg V.agg (Aa (congrArg (C.int .i64) ?_) (Aa (congrArg (C.int .i64) ?_) (Aa (congrArg (C.int .i64) ?_) rfl)))) (Aa (congrArg V.c (congrArg C.bool ?_)) rfl))),rfl⟩
 rotate_left 4
 refine dsp (fun h8 p8=>?_) fun h8 p8=>?_
 refine have hm1:(Bo b).getD utf0=(⟨3,128,143⟩:Utf):=?_;?_
 rotate_left
 refine⟨(congrArg S.tup (Aa (congrArg V.agg (Aa (congrArg (C.int .i64) ?_) (Aa (congrArg (C.int .i64) ?_) (Aa (congrArg (C.int .i64) ?_) rfl)))) (Aa (congrArg V.c (congrArg C.bool ?_)) rfl))),rfl⟩
 rotate_left 4
 refine have hm1:(Bo b).getD utf0=(⟨3,128,191⟩:Utf):=?_;?_
 rotate_left
 refine⟨(congrArg S.tup (Aa (congrArg V.agg (Aa (congrArg (C.int .i64) ?_) (Aa (congrArg (C.int .i64) ?_) (Aa (congrArg (C.int .i64) ?_) rfl)))) (Aa (congrArg V.c (congrArg C.bool ?_)) rfl))),rfl⟩
 rotate_left 4
 refine have hm1:(Bo b).getD utf0=utf0:=?_;?_
 rotate_left
 refine⟨(congrArg S.tup (Aa (congrArg V.agg (Aa (congrArg (C.int .i64) ?_) (Aa (congrArg (C.int .i64) ?_) (Aa (congrArg (C.int .i64) ?_) rfl)))) (Aa (congrArg V.c (congrArg C.bool ?_)) rfl))),rfl⟩
 rotate_left 4
 all_goals first|(simp[Bo,utf0, *];done)|(simp_all[Bo,utf0,Aq];done)|(simp_all[Bo,utf0,Aq];omega)
theorem Afx (b:Int):Fun Tryz.prog 125 [vI b] [] (.tup [.agg (Hn ((Bo b).getD utf0)),vB (Bo b).isSome]) []:=by
 have hN:Be=274877906944:=rfl
 refine Ar Tryz.func125 Q4 Q4 (w:=let zi:Int→C:= .int .i64;let z2:=([]:List Blk);let z3:=Bo b;let z1:=Hn (z3.getD utf0);let z4:=decide (b=224);let z5:=decide (b=237);let z6:=decide (b=240);let z7:=decide (b=244);let z8:=Aq b 194 223;let z9:=Aq b 224 239;let z10:=Aq b 240 244;let z11:=Aq b 0 127;(.seg [.call [] (.v (vB z11)) []] (.br (.leaf () []) (.seg [.call [] (.v (vB z8)) []] (.br (.br (.leaf () []) (.br (.leaf () []) (.br (.leaf () []) (.br (.leaf () []) (.leaf () []))))) (.seg [.call [] (.v (vB z9)) []] (.br (.br (.leaf () []) (.br (.leaf () []) (.br (.leaf () []) (.br (.leaf () []) (.leaf () []))))) (.seg [.call [] (.v (vB z10)) []] (.br (.br (.leaf () []) (.br (.leaf () []) (.br (.leaf () []) (.br (.leaf () []) (.leaf () []))))) (.leaf () [])))))))),(Fun Tryz.prog 59 [vI b,vI 0,vI 127] [] (.v (vB z11)) [])∧(z11=true→(.tup [.agg [zi 0,zi 0,zi 0],vB true]:S)= .tup [.agg z1,vB z3.isSome]∧z2=[])∧(z11=false→(Fun Tryz.prog 59 [vI b,vI 194,vI 223] [] (.v (vB z8)) [])∧(z8=true→(z4=true→(.tup [.agg [zi 1,zi 160,zi 191],vB true]:S)= .tup [.agg z1,vB z3.isSome]∧z2=[])∧(z4=false→(z5=true→(.tup [.agg [zi 1,zi 128,zi 159],vB true]:S)= .tup [.agg z1,vB z3.isSome]∧z2=[])∧(z5=false→(z6=true→(.tup [.agg [zi 1,zi 144,zi 191],vB true]:S)= .tup [.agg z1,vB z3.isSome]∧z2=[])∧(z6=false→(z7=true→(.tup [.agg [zi 1,zi 128,zi 143],vB true]:S)= .tup [.agg z1,vB z3.isSome]∧z2=[])∧(z7=false→(.tup [.agg [zi 1,zi 128,zi 191],vB true]:S)= .tup [.agg z1,vB z3.isSome]∧z2=[])))))∧(z8=false→(Fun Tryz.prog 59 [vI b,vI 224,vI 239] [] (.v (vB z9)) [])∧(z9=true→(z4=true→(.tup [.agg [zi 2,zi 160,zi 191],vB true]:S)= .tup [.agg z1,vB z3.isSome]∧z2=[])∧(z4=false→(z5=true→(.tup [.agg [zi 2,zi 128,zi 159],vB true]:S)= .tup [.agg z1,vB z3.isSome]∧z2=[])∧(z5=false→(z6=true→(.tup [.agg [zi 2,zi 144,zi 191],vB true]:S)= .tup [.agg z1,vB z3.isSome]∧z2=[])∧(z6=false→(z7=true→(.tup [.agg [zi 2,zi 128,zi 143],vB true]:S)= .tup [.agg z1,vB z3.isSome]∧z2=[])∧(z7=false→(.tup [.agg [zi 2,zi 128,zi 191],vB true]:S)= .tup [.agg z1,vB z3.isSome]∧z2=[])))))∧(z9=false→(Fun Tryz.prog 59 [vI b,vI 240,vI 244] [] (.v (vB z10)) [])∧(z10=true→(z4=true→(.tup [.agg [zi 3,zi 160,zi 191],vB true]:S)= .tup [.agg z1,vB z3.isSome]∧z2=[])∧(z4=false→(z5=true→(.tup [.agg [zi 3,zi 128,zi 159],vB true]:S)= .tup [.agg z1,vB z3.isSome]∧z2=[])∧(z5=false→(z6=true→(.tup [.agg [zi 3,zi 144,zi 191],vB true]:S)= .tup [.agg z1,vB z3.isSome]∧z2=[])∧(z6=false→(z7=true→(.tup [.agg [zi 3,zi 128,zi 143],vB true]:S)= .tup [.agg z1,vB z3.isSome]∧z2=[])∧(z7=false→(.tup [.agg [zi 3,zi 128,zi 191],vB true]:S)= .tup [.agg z1,vB z3.isSome]∧z2=[])))))∧(z10=false→(.tup [.agg [zi 0,zi 0,zi 0],vB false]:S)= .tup [.agg z1,vB z3.isSome]∧z2=[])))))) Q4 ?_
 refine⟨(Bh _ _ _),fun h1=>have p1:=Av h1;?_,fun h1=>have p1:=A4 h1;?_⟩
 refine have hm1:(Bo b).getD utf0=utf0:=?_;?_
 rotate_left
 refine⟨(congrArg S.tup (Aa (congrArg V.agg (Aa (congrArg (C.int .i64) ?_) (Aa (congrArg (C.int .i64) ?_) (Aa (congrArg (C.int .i64) ?_) rfl)))) (Aa (congrArg V.c (congrArg C.bool ?_)) rfl))),rfl⟩
 rotate_left 4
 refine⟨(Bh _ _ _),fun h2=>have p2:=Av h2;?_,fun h2=>have p2:=A4 h2;?_⟩
 refine dsp (fun h3 p3=>?_) fun h3 p3=>?_
 refine have hm1:(Bo b).getD utf0=(⟨1,160,191⟩:Utf):=?_;?_
 rotate_left
 refine⟨(congrArg S.tup (Aa (congrArg V.agg (Aa (congrArg (C.int .i64) ?_) (Aa (congrArg (C.int .i64) ?_) (Aa (congrArg (C.int .i64) ?_) rfl)))) (Aa (congrArg V.c (congrArg C.bool ?_)) rfl))),rfl⟩
 rotate_left 4
 refine dsp (fun h4 p4=>?_) fun h4 p4=>?_
 refine have hm1:(Bo b).getD utf0=(⟨1,128,159⟩:Utf):=?_;?_
 rotate_left
 refine⟨(congrArg S.tup (Aa (congrArg V.agg (Aa (congrArg (C.int .i64) ?_) (Aa (congrArg (C.int .i64) ?_) (Aa (congrArg (C.int .i64) ?_) rfl)))) (Aa (congrArg V.c (congrArg C.bool ?_)) rfl))),rfl⟩
 rotate_left 4
 refine dsp (fun h5 p5=>?_) fun h5 p5=>?_
 refine have hm1:(Bo b).getD utf0=(⟨1,144,191⟩:Utf):=?_;?_
 rotate_left
 refine⟨(congrArg S.tup (Aa (congrArg V.agg (Aa (congrArg (C.int .i64) ?_) (Aa (congrArg (C.int .i64) ?_) (Aa (congrArg (C.int .i64) ?_) rfl)))) (Aa (congrArg V.c (congrArg C.bool ?_)) rfl))),rfl⟩
 rotate_left 4
 refine dsp (fun h6 p6=>?_) fun h6 p6=>?_
 refine have hm1:(Bo b).getD utf0=(⟨1,128,143⟩:Utf):=?_;?_
 rotate_left
 refine⟨(congrArg S.tup (Aa (congrArg V.agg (Aa (congrArg (C.int .i64) ?_) (Aa (congrArg (C.int .i64) ?_) (Aa (congrArg (C.int .i64) ?_) rfl)))) (Aa (congrArg V.c (congrArg C.bool ?_)) rfl))),rfl⟩
 rotate_left 4
 refine have hm1:(Bo b).getD utf0=(⟨1,128,191⟩:Utf):=?_;?_
 rotate_left
 refine⟨(congrArg S.tup (Aa (congrArg V.agg (Aa (congrArg (C.int .i64) ?_) (Aa (congrArg (C.int .i64) ?_) (Aa (congrArg (C.int .i64) ?_) rfl)))) (Aa (congrArg V.c (congrArg C.bool ?_)) rfl))),rfl⟩
 rotate_left 4
 refine⟨(Bh _ _ _),fun h3=>have p3:=Av h3;?_,fun h3=>have p3:=A4 h3;?_⟩
 refine dsp (fun h4 p4=>?_) fun h4 p4=>?_
 refine have hm1:(Bo b).getD utf0=(⟨2,160,191⟩:Utf):=?_;?_
 rotate_left
 refine⟨(congrArg S.tup (Aa (congrArg V.agg (Aa (congrArg (C.int .i64) ?_) (Aa (congrArg (C.int .i64) ?_) (Aa (congrArg (C.int .i64) ?_) rfl)))) (Aa (congrArg V.c (congrArg C.bool ?_)) rfl))),rfl⟩
 rotate_left 4
 refine dsp (fun h5 p5=>?_) fun h5 p5=>?_
 refine have hm1:(Bo b).getD utf0=(⟨2,128,159⟩:Utf):=?_;?_
 rotate_left
 refine⟨(congrArg S.tup (Aa (congrArg V.agg (Aa (congrArg (C.int .i64) ?_) (Aa (congrArg (C.int .i64) ?_) (Aa (congrArg (C.int .i64) ?_) rfl)))) (Aa (congrArg V.c (congrArg C.bool ?_)) rfl))),rfl⟩
 rotate_left 4
 refine dsp (fun h6 p6=>?_) fun h6 p6=>?_
 refine have hm1:(Bo b).getD utf0=(⟨2,144,191⟩:Utf):=?_;?_
 rotate_left
 refine⟨(congrArg S.tup (Aa (congrArg V.agg (Aa (congrArg (C.int .i64) ?_) (Aa (congrArg (C.int .i64) ?_) (Aa (congrArg (C.int .i64) ?_) rfl)))) (Aa (congrArg V.c (congrArg C.bool ?_)) rfl))),rfl⟩
 rotate_left 4
 refine dsp (fun h7 p7=>?_) fun h7 p7=>?_
 refine have hm1:(Bo b).getD utf0=(⟨2,128,143⟩:Utf):=?_;?_
 rotate_left
 refine⟨(congrArg S.tup (Aa (congrArg V.agg (Aa (congrArg (C.int .i64) ?_) (Aa (congrArg (C.int .i64) ?_) (Aa (congrArg (C.int .i64) ?_) rfl)))) (Aa (congrArg V.c (congrArg C.bool ?_)) rfl))),rfl⟩
 rotate_left 4
 refine have hm1:(Bo b).getD utf0=(⟨2,128,191⟩:Utf):=?_;?_
 rotate_left
 refine⟨(congrArg S.tup (Aa (congrArg V.agg (Aa (congrArg (C.int .i64) ?_) (Aa (congrArg (C.int .i64) ?_) (Aa (congrArg (C.int .i64) ?_) rfl)))) (Aa (congrArg V.c (congrArg C.bool ?_)) rfl))),rfl⟩
 rotate_left 4
 refine⟨(Bh _ _ _),fun h4=>have p4:=Av h4;?_,fun h4=>have p4:=A4 h4;?_⟩
 refine dsp (fun h5 p5=>?_) fun h5 p5=>?_
 refine have hm1:(Bo b).getD utf0=(⟨3,160,191⟩:Utf):=?_;?_
 rotate_left
 refine⟨(congrArg S.tup (Aa (congrArg V.agg (Aa (congrArg (C.int .i64) ?_) (Aa (congrArg (C.int .i64) ?_) (Aa (congrArg (C.int .i64) ?_) rfl)))) (Aa (congrArg V.c (congrArg C.bool ?_)) rfl))),rfl⟩
 rotate_left 4
 refine dsp (fun h6 p6=>?_) fun h6 p6=>?_
 refine have hm1:(Bo b).getD utf0=(⟨3,128,159⟩:Utf):=?_;?_
 rotate_left
 refine⟨(congrArg S.tup (Aa (congrArg V.agg (Aa (congrArg (C.int .i64) ?_) (Aa (congrArg (C.int .i64) ?_) (Aa (congrArg (C.int .i64) ?_) rfl)))) (Aa (congrArg V.c (congrArg C.bool ?_)) rfl))),rfl⟩
 rotate_left 4
 refine dsp (fun h7 p7=>?_) fun h7 p7=>?_
 refine have hm1:(Bo b).getD utf0=(⟨3,144,191⟩:Utf):=?_;?_
 rotate_left
 refine⟨(congrArg S.tup (Aa (congrArg V.agg (Aa (congrArg (C.int .i64) ?_) (Aa (congrArg (C.int .i64) ?_) (Aa (congrArg (C.int .i64) ?_) rfl)))) (Aa (congrArg V.c (congrArg C.bool ?_)) rfl))),rfl⟩
 rotate_left 4
 refine dsp (fun h8 p8=>?_) fun h8 p8=>?_
 refine have hm1:(Bo b).getD utf0=(⟨3,128,143⟩:Utf):=?_;?_
 rotate_left
 refine⟨(congrArg S.tup (Aa (congrArg V.agg (Aa (congrArg (C.int .i64) ?_) (Aa (congrArg (C.int .i64) ?_) (Aa (congrArg (C.int .i64) ?_) rfl)))) (Aa (congrArg V.c (congrArg C.bool ?_)) rfl))),rfl⟩
 rotate_left 4
 refine have hm1:(Bo b).getD utf0=(⟨3,128,191⟩:Utf):=?_;?_
 rotate_left
 refine⟨(congrArg S.tup (Aa (congrArg V.agg (Aa (congrArg (C.int .i64) ?_) (Aa (congrArg (C.int .i64) ?_) (Aa (congrArg (C.int .i64) ?_) rfl)))) (Aa (congrArg V.c (congrArg C.bool ?_)) rfl))),rfl⟩
 rotate_left 4
 refine have hm1:(Bo b).getD utf0=utf0:=?_;?_
 rotate_left
 refine⟨(congrArg S.tup (Aa (congrArg V.agg (Aa (congrArg (C.int .i64) ?_) (Aa (congrArg (C.int .i64) ?_) (Aa (congrArg (C.int .i64) ?_) rfl)))) (Aa (congrArg V.c (congrArg C.bool ?_)) rfl))),rfl⟩
 rotate_left 4
 all_goals first|(simp[Bo,utf0, *];done)|(simp_all[Bo,utf0,Aq];done)|(simp_all[Bo,utf0,Aq];omega)
theorem Xm (u:Utf) (b:Int):Fun Tryz.prog 172 [.agg (Hn u),vI b] [] (.tup [.agg (Hn ((Bi u b).getD u)),vB (Bi u b).isSome]) []:=by
 have hN:Be=274877906944:=rfl
 refine Ar Tryz.func172 Q4 Q4 (w:=let z2:=(.tup [.agg (Hn u),vB false]:S);let z3:=Aq b u.low u.high;let z4:=Bi u b;let z1:=Hn (z4.getD u);let z5:=([]:List Blk);let z7:=Bo b;let z6:=Hn (z7.getD utf0);(.seg [.call [] (.v (vB (Fe u))) []] (.br (.leaf () []) (.br (.seg [.call [] (.tup [.agg z6,vB z7.isSome]) []] (.br (.leaf () []) (.leaf () []))) (.seg [.call [] (.v (vB z3)) []] (.br (.leaf () []) (.br (.leaf () []) (.seg [.as 42 (.v (vI (u.want-1)))] (.leaf () []))))))),(Fun Tryz.prog 80 [.agg (Hn u)] [] (.v (vB (Fe u))) [])∧((!(Fe u))=true→z2= .tup [.agg z1,vB z4.isSome]∧z5=[])∧((!(Fe u))=false→((decide (u.want=0))=true→(Fun Tryz.prog 205 [vI b] [] (.tup [.agg z6,vB z7.isSome]) [])∧((!z7.isSome)=true→z2= .tup [.agg z1,vB z4.isSome]∧z5=[])∧((!z7.isSome)=false→(.tup [.agg z6,vB true]:S)= .tup [.agg z1,vB z4.isSome]∧z5=[]))∧((decide (u.want=0))=false→(Fun Tryz.prog 79 [vI b,vI u.low,vI u.high] [] (.v (vB z3)) [])∧((!z3)=true→z2= .tup [.agg z1,vB z4.isSome]∧z5=[])∧((!z3)=false→((decide (u.want=1))=true→(.tup [.agg [.int .i64 0,.int .i64 0,.int .i64 0],vB true]:S)= .tup [.agg z1,vB z4.isSome]∧z5=[])∧((decide (u.want=1))=false→((.v (vI (IntKind.i64.wrap (u.want-1))):S)= .v (vI (u.want-1)))∧(.tup [.agg [.int .i64 (u.want-1),.int .i64 128,.int .i64 191],vB true]:S)= .tup [.agg z1,vB z4.isSome]∧z5=[])))))) Q4 ?_
 refine⟨(Ah5 u),fun h1=>have q1:=Ap h1;?_,fun h1=>have q1:=Ao h1;have p1:=Je q1;?_⟩
 refine have hm1:(Bi u b).getD u=u:=?_;?_
 rotate_left
 refine⟨(congrArg S.tup (Aa (congrArg V.agg (Aa (congrArg (C.int .i64) ?_) (Aa (congrArg (C.int .i64) ?_) (Aa (congrArg (C.int .i64) ?_) rfl)))) (Aa (congrArg V.c (congrArg C.bool ?_)) rfl))),rfl⟩
 rotate_left 4
 refine dsp (fun h2 p2=>?_) fun h2 p2=>?_
 have hu:=Rr q1 p2
 refine⟨(Afw _),fun h3=>have q3:=Ap h3;?_,fun h3=>have q3:=Ao h3;?_⟩
 refine have hm1:(Bi u b).getD u=u:=?_;?_
 rotate_left
 refine⟨(congrArg S.tup (Aa (congrArg V.agg (Aa (congrArg (C.int .i64) ?_) (Aa (congrArg (C.int .i64) ?_) (Aa (congrArg (C.int .i64) ?_) rfl)))) (Aa (congrArg V.c (congrArg C.bool ?_)) rfl))),rfl⟩
 rotate_left 4
 refine have hm1:(Bi u b).getD u=((Bo b).getD utf0):=?_;?_
 rotate_left
 refine⟨(congrArg S.tup (Aa (congrArg V.agg (Aa (congrArg (C.int .i64) ?_) (Aa (congrArg (C.int .i64) ?_) (Aa (congrArg (C.int .i64) ?_) rfl)))) (Aa (congrArg V.c (congrArg C.bool ?_)) rfl))),rfl⟩
 rotate_left 4
 refine⟨(Ch _ _ _),fun h3=>have q3:=Ap h3;have p3:=A4 q3;?_,fun h3=>have q3:=Ao h3;have p3:=Av q3;?_⟩
 refine have hm1:(Bi u b).getD u=u:=?_;?_
 rotate_left
 refine⟨(congrArg S.tup (Aa (congrArg V.agg (Aa (congrArg (C.int .i64) ?_) (Aa (congrArg (C.int .i64) ?_) (Aa (congrArg (C.int .i64) ?_) rfl)))) (Aa (congrArg V.c (congrArg C.bool ?_)) rfl))),rfl⟩
 rotate_left 4
 refine dsp (fun h4 p4=>?_) fun h4 p4=>?_
 refine have hm1:(Bi u b).getD u=utf0:=?_;?_
 rotate_left
 refine⟨(congrArg S.tup (Aa (congrArg V.agg (Aa (congrArg (C.int .i64) ?_) (Aa (congrArg (C.int .i64) ?_) (Aa (congrArg (C.int .i64) ?_) rfl)))) (Aa (congrArg V.c (congrArg C.bool ?_)) rfl))),rfl⟩
 rotate_left 4
 refine⟨(Ac Q2 Q2),?_⟩
 refine have hm1:(Bi u b).getD u=(⟨u.want-1,128,191⟩:Utf):=?_;?_
 rotate_left
 refine⟨(congrArg S.tup (Aa (congrArg V.agg (Aa (congrArg (C.int .i64) ?_) (Aa (congrArg (C.int .i64) ?_) (Aa (congrArg (C.int .i64) ?_) rfl)))) (Aa (congrArg V.c (congrArg C.bool ?_)) rfl))),rfl⟩
 rotate_left 4
 all_goals first|(simp[Bi, *];done)|(simp[Bi,utf0, *];done)|(simp_all[Bi,utf0,Aq];done)|(simp_all[Bi,utf0,Aq];omega)
theorem Tm (u:Utf) (b:Int):Fun Tryz.prog 62 [.agg (Hn u),vI b] [] (.tup [.agg (Hn ((Bi u b).getD u)),vB (Bi u b).isSome]) []:=by
 have hN:Be=274877906944:=rfl
 refine Ar Tryz.func62 Q4 Q4 (w:=let z2:=Aq b u.low u.high;let z3:=Hn ((Bo b).getD utf0);let z4:=Bi u b;let z1:=Hn (z4.getD u);let z5:=([]:List Blk);let z6:=(.tup [.agg (Hn u),vB false]:S);(.seg [.call [] (.v (vB (Fe u))) []] (.br (.leaf () []) (.br (.seg [.call [] (.tup [.agg z3,vB (Bo b).isSome]) []] (.leaf () [])) (.seg [.call [] (.v (vB z2)) []] (.br (.leaf () []) (.br (.leaf () []) (.seg [.as 31 (.v (vI (u.want-1)))] (.leaf () []))))))),(Fun Tryz.prog 68 [.agg (Hn u)] [] (.v (vB (Fe u))) [])∧((!(Fe u))=true→z6= .tup [.agg z1,vB z4.isSome]∧z5=[])∧((!(Fe u))=false→((decide (u.want=0))=true→(Fun Tryz.prog 125 [vI b] [] (.tup [.agg z3,vB (Bo b).isSome]) [])∧(.tup [.agg z3,vB (Bo b).isSome]:S)= .tup [.agg z1,vB z4.isSome]∧z5=[])∧((decide (u.want=0))=false→(Fun Tryz.prog 59 [vI b,vI u.low,vI u.high] [] (.v (vB z2)) [])∧((!z2)=true→z6= .tup [.agg z1,vB z4.isSome]∧z5=[])∧((!z2)=false→((decide (u.want=1))=true→(.tup [.agg [.int .i64 0,.int .i64 0,.int .i64 0],vB true]:S)= .tup [.agg z1,vB z4.isSome]∧z5=[])∧((decide (u.want=1))=false→((.v (vI (IntKind.i64.wrap (u.want-1))):S)= .v (vI (u.want-1)))∧(.tup [.agg [.int .i64 (u.want-1),.int .i64 128,.int .i64 191],vB true]:S)= .tup [.agg z1,vB z4.isSome]∧z5=[])))))) Q4 ?_
 refine⟨(Ah6 u),fun h1=>have q1:=Ap h1;?_,fun h1=>have q1:=Ao h1;have p1:=Je q1;?_⟩
 refine have hm1:(Bi u b).getD u=u:=?_;?_
 rotate_left
 refine⟨(congrArg S.tup (Aa (congrArg V.agg (Aa (congrArg (C.int .i64) ?_) (Aa (congrArg (C.int .i64) ?_) (Aa (congrArg (C.int .i64) ?_) rfl)))) (Aa (congrArg V.c (congrArg C.bool ?_)) rfl))),rfl⟩
 rotate_left 4
 refine dsp (fun h2 p2=>?_) fun h2 p2=>?_
 have hu:=Rr q1 p2
 refine⟨(Afx _),?_⟩
 refine have hm1:(Bi u b).getD u=((Bo b).getD utf0):=?_;?_
 rotate_left
 refine⟨(congrArg S.tup (Aa (congrArg V.agg (Aa (congrArg (C.int .i64) ?_) (Aa (congrArg (C.int .i64) ?_) (Aa (congrArg (C.int .i64) ?_) rfl)))) (Aa (congrArg V.c (congrArg C.bool ?_)) rfl))),rfl⟩
 rotate_left 4
 refine⟨(Bh _ _ _),fun h3=>have q3:=Ap h3;have p3:=A4 q3;?_,fun h3=>have q3:=Ao h3;have p3:=Av q3;?_⟩
 refine have hm1:(Bi u b).getD u=u:=?_;?_
 rotate_left
 refine⟨(congrArg S.tup (Aa (congrArg V.agg (Aa (congrArg (C.int .i64) ?_) (Aa (congrArg (C.int .i64) ?_) (Aa (congrArg (C.int .i64) ?_) rfl)))) (Aa (congrArg V.c (congrArg C.bool ?_)) rfl))),rfl⟩
 rotate_left 4
 refine dsp (fun h4 p4=>?_) fun h4 p4=>?_
 refine have hm1:(Bi u b).getD u=utf0:=?_;?_
 rotate_left
 refine⟨(congrArg S.tup (Aa (congrArg V.agg (Aa (congrArg (C.int .i64) ?_) (Aa (congrArg (C.int .i64) ?_) (Aa (congrArg (C.int .i64) ?_) rfl)))) (Aa (congrArg V.c (congrArg C.bool ?_)) rfl))),rfl⟩
 rotate_left 4
 refine⟨(Ac Q2 Q2),?_⟩
 refine have hm1:(Bi u b).getD u=(⟨u.want-1,128,191⟩:Utf):=?_;?_
 rotate_left
 refine⟨(congrArg S.tup (Aa (congrArg V.agg (Aa (congrArg (C.int .i64) ?_) (Aa (congrArg (C.int .i64) ?_) (Aa (congrArg (C.int .i64) ?_) rfl)))) (Aa (congrArg V.c (congrArg C.bool ?_)) rfl))),rfl⟩
 rotate_left 4
 all_goals first|(simp[Bi, *];done)|(simp[Bi,utf0, *];done)|(simp_all[Bi,utf0,Aq];done)|(simp_all[Bi,utf0,Aq];omega)
structure L3 where
 u:Utf
 v:Nat
def L4 (u:Utf) (s:List UInt8):Fam:=⟨L3,fun q1=>[(1,.v (vT s)),(2,.v (vP 0)),(4,.v (vP 1)),(10,.v (vI (s.length:Int))),(11,.v (vI (q1.v:Int)))],fun q1=>[.cells (Hn q1.u),.cells [.int .i64 0,.int .i64 0,.int .i64 0]],fun q1=>q1.v≤s.length∧F2 q1.u (List.drop q1.v s) q1.v=F2 u s 0,fun q1=>s.length-q1.v⟩
theorem Ah7 (u:Utf) (s:List UInt8) (hp1:s.length≤Be):Fun Tryz.prog 213 [.agg (Hn u),vT s] [] (.tup [.agg (Hn (J1 u s)),vI (D6 u s)]) []:=by
 have hN:Be=274877906944:=rfl
 refine Ar Tryz.func213 Q4 Q4 (w:=let zi:Int→C:= .int .i64;let z5:=(s.length:Int);let z6:=L4 u s;(.seg [.at 0,.keep [1,2,4,10,11],.sel [0,1]] (.loop z6 fun q1=> .br (.intro (fun (x1:UInt8)=>s[q1.v]? =some x1) fun x1=>let z1:=Bi q1.u ((UInt8.toNat x1:Nat):Int);.seg [.tree (fr (.two 5 (fr (.one 9 (.one 10 (.first 11 (.done)))) 6 3) 9 (.one 5 (fr (.one 10 (.first 11 (.done))) 6 3))) 0 5) 12 [],.ch x1,.as 19 (.v (vI ((UInt8.toNat x1:Nat):Int))),.call [] (.tup [.agg (Hn (z1.getD q1.u)),vB z1.isSome]) [],.at 0,.keep [1,2,4,6,7,8,10,11],.sel [0,1,2],.call [] (.tup [.agg (Hn (z1.getD q1.u)),vB z1.isSome]) [],.at 0,.keep [1,2,4,6,7,8,10,11],.sel [0,1,2]] (.br (.leaf () []) (.seg [.as 28 (.v (vI ((q1.v:Int)+1))),.at 0,.keep [1,2,4,10,11],.sel [0,1]] (.next)))) (.leaf () [])),z6.Has [(1,.v (vT s)),(2,.v (vP 0)),(4,.v (vP 1)),(10,.v (vI z5)),(11,.v (vI 0))] [.cells (Hn u),.cells [zi 0,zi 0,zi 0]]∧∀q1,z6.inv q1→(let z3:=(q1.v:Int);let z4:=Hn q1.u;((decide (z3<z5))=true→(∃(x1:UInt8),s[q1.v]? =some x1)∧∀(x1:UInt8),(s[q1.v]? =some x1)→(let z2:=((UInt8.toNat x1:Nat):Int);(s[q1.v]? =some x1)∧((0:Int)≤z3)∧(s[q1.v]? =some x1)∧((0:Int)≤z3)∧((.v (vI (IntKind.i64.wrap (z2))):S)= .v (vI z2))∧((.v (vI (IntKind.i64.wrap (z2))):S)= .v (vI z2))∧(Fun Tryz.prog 172 [.agg z4,vI z2] [] (.tup [.agg (Hn ((Bi q1.u z2).getD q1.u)),vB (Bi q1.u z2).isSome]) [])∧(Fun Tryz.prog 172 [.agg z4,vI z2] [] (.tup [.agg (Hn ((Bi q1.u z2).getD q1.u)),vB (Bi q1.u z2).isSome]) [])∧(([.cells z4,.cells [zi 0,zi 0,zi 0],.cells (Hn ((Bi q1.u z2).getD q1.u))]:List Blk)=[.cells z4,.cells [zi 0,zi 0,zi 0],.cells (Hn ((Bi q1.u z2).getD q1.u))])∧(([(1,.v (vT s)),(2,.v (vP 0)),(4,.v (vP 1)),(6,.v (vI z3)),(7,.v (vP 2)),(8,.v (vB (Bi q1.u z2).isSome)),(10,.v (vI z5)),(11,.v (vI z3))]:List (Nat×S))=[(1,.v (vT s)),(2,.v (vP 0)),(4,.v (vP 1)),(6,.v (vI z3)),(7,.v (vP 2)),(8,.v (vB (Bi q1.u z2).isSome)),(10,.v (vI z5)),(11,.v (vI z3))])∧((!(Bi q1.u z2).isSome)=true→(.tup [.agg z4,vI z3]:S)= .tup [.agg (Hn (J1 u s)),vI (D6 u s)]∧([]:List Blk)=[])∧((!(Bi q1.u z2).isSome)=false→((.v (vI (IntKind.i64.wrap (z3+1))):S)= .v (vI (z3+1)))∧z6.Nxt q1 [(1,.v (vT s)),(2,.v (vP 0)),(4,.v (vP 1)),(10,.v (vI z5)),(11,.v (vI (z3+1)))] [.cells (Hn ((Bi q1.u z2).getD q1.u)),.cells [zi 0,zi 0,zi 0]])))∧((decide (z3<z5))=false→(.tup [.agg z4,vI (-1)]:S)= .tup [.agg (Hn (J1 u s)),vI (D6 u s)]∧([]:List Blk)=[])))) Q4 ?_
 refine⟨Bs (j:=(⟨u,0⟩:L3)) Q9 rfl (by dsimp only[L4];exact⟨by omega,by simp⟩),fun (q1:L3) hq_q1=>?_⟩
 have hi_q1:q1.v≤s.length∧F2 q1.u (List.drop q1.v s) q1.v=F2 u s 0:=hq_q1
 obtain ⟨v1,v2⟩:=hi_q1
 refine dsp (fun h1 p1=>?_) fun h1 p1=>?_
 refine⟨(Bq (l:=s) (i:=q1.v) Q2),fun x1 hx1=>?_⟩
 have hb_x1:=UInt8.toNat_lt x1
 refine⟨hx1,Q2,hx1,Q2,(Ac Q2 Q2),(Ac Q2 Q2),(Xm q1.u _),(Xm q1.u _),rfl,rfl,fun h2=>have q2:=Ap h2;?_,fun h2=>have q2:=Ao h2;?_⟩
 rw[Er hx1,F2] at v2
 refine have hm1:J1 u s=q1.u:=?_;?_
 rotate_left
 refine⟨(congrArg S.tup (Aa (congrArg V.agg (Aa (congrArg (C.int .i64) ?_) (Aa (congrArg (C.int .i64) ?_) (Aa (congrArg (C.int .i64) ?_) rfl)))) (Aa (congrArg V.c (congrArg (C.int .i64) ?_)) rfl))),rfl⟩
 rotate_left 4
 rw[Er hx1,F2] at v2
 exact⟨(Ac Q2 Q2),Bc (j:=(⟨((Bi q1.u ((UInt8.toNat x1:Nat):Int)).getD q1.u),q1.v+1⟩:L3)) Q9 rfl (by dsimp only[L4];exact⟨by omega,by cases hu:Bi q1.u (x1.toNat:Int)<;>simp_all⟩) (by dsimp only[L4];omega)⟩
 rw[Kp p1] at v2
 refine have hm1:J1 u s=q1.u:=?_;?_
 rotate_left
 refine⟨(congrArg S.tup (Aa (congrArg V.agg (Aa (congrArg (C.int .i64) ?_) (Aa (congrArg (C.int .i64) ?_) (Aa (congrArg (C.int .i64) ?_) rfl)))) (Aa (congrArg V.c (congrArg (C.int .i64) ?_)) rfl))),rfl⟩
 rotate_left 4
 all_goals first|(unfold J1;rw[←v2,F2];done)|(unfold D6;rw[←v2,F2];done)|(unfold J1;rw[←v2];clear v2;cases hu:Bi q1.u (x1.toNat:Int)<;>simp_all)|(unfold D6;rw[←v2];clear v2;cases hu:Bi q1.u (x1.toNat:Int)<;>simp_all)
structure L5 where
 u:Utf
 i:Nat
def L6 (u:Utf) (s:List UInt8):Fam:=⟨L5,fun q1=>[(1,.v (vT s)),(2,.v (vP 0)),(4,.v (vP 1)),(6,.v (vI (q1.i:Int)))],fun q1=>[.cells (Hn q1.u),.cells [.int .i64 0,.int .i64 0,.int .i64 0]],fun q1=>q1.i≤s.length∧F2 q1.u (List.drop q1.i s) q1.i=F2 u s 0,fun q1=>s.length-q1.i⟩
theorem Ah8 (u:Utf) (s:List UInt8) (hp1:s.length≤Be):Fun Tryz.prog 202 [.agg (Hn u),vT s] [] (.tup [.agg (Hn (J1 u s)),vI (D6 u s)]) []:=by
 have hN:Be=274877906944:=rfl
 refine Ar Tryz.func202 Q4 Q4 (w:=let zi:Int→C:= .int .i64;let z5:=L6 u s;(.seg [.at 0,.keep [1,2,4,6],.sel [0,1]] (.loop z5 fun q1=> .br (.intro (fun (x1:UInt8)=>s[q1.i]? =some x1) fun x1=>let z1:=Bi q1.u ((UInt8.toNat x1:Nat):Int);.seg [.tree (fr (.two 5 (fr (.one 9 (.one 10 (.first 11 (.done)))) 6 3) 9 (.one 5 (fr (.one 10 (.first 11 (.done))) 6 3))) 0 5) 12 [],.ch x1,.as 20 (.v (vI ((UInt8.toNat x1:Nat):Int))),.call [] (.tup [.agg (Hn (z1.getD q1.u)),vB z1.isSome]) [],.at 0,.keep [1,2,4,6,7,8],.sel [0,1,2],.call [] (.tup [.agg (Hn (z1.getD q1.u)),vB z1.isSome]) [],.at 0,.keep [1,2,4,6,7,8],.sel [0,1,2]] (.br (.leaf () []) (.seg [.as 14 (.v (vI ((q1.i:Int)+1))),.at 0,.keep [1,2,4,6],.sel [0,1]] (.next)))) (.leaf () [])),z5.Has [(1,.v (vT s)),(2,.v (vP 0)),(4,.v (vP 1)),(6,.v (vI 0))] [.cells (Hn u),.cells [zi 0,zi 0,zi 0]]∧∀q1,z5.inv q1→(let z3:=(q1.i:Int);let z4:=Hn q1.u;((decide (z3<(s.length:Int)))=true→(∃(x1:UInt8),s[q1.i]? =some x1)∧∀(x1:UInt8),(s[q1.i]? =some x1)→(let z2:=((UInt8.toNat x1:Nat):Int);(s[q1.i]? =some x1)∧((0:Int)≤z3)∧(s[q1.i]? =some x1)∧((0:Int)≤z3)∧((.v (vI (IntKind.i64.wrap (z2))):S)= .v (vI z2))∧((.v (vI (IntKind.i64.wrap (z2))):S)= .v (vI z2))∧(Fun Tryz.prog 62 [.agg z4,vI z2] [] (.tup [.agg (Hn ((Bi q1.u z2).getD q1.u)),vB (Bi q1.u z2).isSome]) [])∧(Fun Tryz.prog 62 [.agg z4,vI z2] [] (.tup [.agg (Hn ((Bi q1.u z2).getD q1.u)),vB (Bi q1.u z2).isSome]) [])∧(([.cells z4,.cells [zi 0,zi 0,zi 0],.cells (Hn ((Bi q1.u z2).getD q1.u))]:List Blk)=[.cells z4,.cells [zi 0,zi 0,zi 0],.cells (Hn ((Bi q1.u z2).getD q1.u))])∧(([(1,.v (vT s)),(2,.v (vP 0)),(4,.v (vP 1)),(6,.v (vI z3)),(7,.v (vP 2)),(8,.v (vB (Bi q1.u z2).isSome))]:List (Nat×S))=[(1,.v (vT s)),(2,.v (vP 0)),(4,.v (vP 1)),(6,.v (vI z3)),(7,.v (vP 2)),(8,.v (vB (Bi q1.u z2).isSome))])∧((!(Bi q1.u z2).isSome)=true→(.tup [.agg z4,vI z3]:S)= .tup [.agg (Hn (J1 u s)),vI (D6 u s)]∧([]:List Blk)=[])∧((!(Bi q1.u z2).isSome)=false→((.v (vI (IntKind.i64.wrap (z3+1))):S)= .v (vI (z3+1)))∧z5.Nxt q1 [(1,.v (vT s)),(2,.v (vP 0)),(4,.v (vP 1)),(6,.v (vI (z3+1)))] [.cells (Hn ((Bi q1.u z2).getD q1.u)),.cells [zi 0,zi 0,zi 0]])))∧((decide (z3<(s.length:Int)))=false→(.tup [.agg z4,vI (-1)]:S)= .tup [.agg (Hn (J1 u s)),vI (D6 u s)]∧([]:List Blk)=[])))) Q4 ?_
 refine⟨Bs (j:=(⟨u,0⟩:L5)) Q9 rfl (by dsimp only[L6];exact⟨by omega,by simp⟩),fun (q1:L5) hq_q1=>?_⟩
 have hi_q1:q1.i≤s.length∧F2 q1.u (List.drop q1.i s) q1.i=F2 u s 0:=hq_q1
 obtain ⟨v1,v2⟩:=hi_q1
 refine dsp (fun h1 p1=>?_) fun h1 p1=>?_
 refine⟨(Bq (l:=s) (i:=q1.i) Q2),fun x1 hx1=>?_⟩
 have hb_x1:=UInt8.toNat_lt x1
 refine⟨hx1,Q2,hx1,Q2,(Ac Q2 Q2),(Ac Q2 Q2),(Tm q1.u _),(Tm q1.u _),rfl,rfl,fun h2=>have q2:=Ap h2;?_,fun h2=>have q2:=Ao h2;?_⟩
 rw[Er hx1,F2] at v2
 refine have hm1:J1 u s=q1.u:=?_;?_
 rotate_left
 refine⟨(congrArg S.tup (Aa (congrArg V.agg (Aa (congrArg (C.int .i64) ?_) (Aa (congrArg (C.int .i64) ?_) (Aa (congrArg (C.int .i64) ?_) rfl)))) (Aa (congrArg V.c (congrArg (C.int .i64) ?_)) rfl))),rfl⟩
 rotate_left 4
 rw[Er hx1,F2] at v2
 exact⟨(Ac Q2 Q2),Bc (j:=(⟨((Bi q1.u ((UInt8.toNat x1:Nat):Int)).getD q1.u),q1.i+1⟩:L5)) Q9 rfl (by dsimp only[L6];exact⟨by omega,by cases hu:Bi q1.u (x1.toNat:Int)<;>simp_all⟩) (by dsimp only[L6];omega)⟩
 rw[Kp p1] at v2
 refine have hm1:J1 u s=q1.u:=?_;?_
 rotate_left
 refine⟨(congrArg S.tup (Aa (congrArg V.agg (Aa (congrArg (C.int .i64) ?_) (Aa (congrArg (C.int .i64) ?_) (Aa (congrArg (C.int .i64) ?_) rfl)))) (Aa (congrArg V.c (congrArg (C.int .i64) ?_)) rfl))),rfl⟩
 rotate_left 4
 all_goals first|(unfold J1;rw[←v2,F2];done)|(unfold D6;rw[←v2,F2];done)|(unfold J1;rw[←v2];clear v2;cases hu:Bi q1.u (x1.toNat:Int)<;>simp_all)|(unfold D6;rw[←v2];clear v2;cases hu:Bi q1.u (x1.toNat:Int)<;>simp_all)
end Go.Proofs.YtcmnedgnppnhoaaGreat.Ax
