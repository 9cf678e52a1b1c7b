/- Models. Models: the machine. Models: the machine's steps. Models: bytes, Aev inputs. Numbers. Varints. Numbers of so Ak4 bytes; tags. Utf-8. -/
import Derived.Test.YtcmnedgnppnhoaaGreatKB4
set_option linter.unusedSimpArgs false
set_option linter.unusedVariables false
namespace Go.Proofs.YtcmnedgnppnhoaaGreat.Ax
open Go.RowKit
theorem Ah {α:Type} {a b:α} {l m:List α} (h:a=b) (t:l=m):a::l=b::m:=by rw[h,t]
def vI (x:Int):V:= .c (.int .i64 x)
def vB (x:Bool):V:= .c (.bool x)
def vT (x:List UInt8):V:= .c (.str x)
def vO (j:Nat):V:= .c (.own j)
def vP (j:Nat):V:= .c (.ptr j 0)
theorem sB {a b:Bool} (h:a=b):(.v (.c (.bool a)):S)= .v (.c (.bool b)):=by rw[h]
theorem sI {a b:Int} (h:a=b):(.v (.c (.int .i64 a)):S)= .v (.c (.int .i64 b)):=by rw[h]
theorem dT {p:Prop} [Decidable p]:decide p=true↔p:=decide_eq_true_iff
theorem dF {p:Prop} [Decidable p]:decide p=false↔¬p:=decide_eq_false_iff_not
theorem Cc {a b:Bool} {P Q:Prop} (h:a=true↔P) (g:b=true↔Q):(a&&b)=true↔P∧Q:=by rw[Bool.and_eq_true,h,g]
theorem Cd {a b:Bool} {P Q:Prop} (h:a=true↔P) (g:b=false↔Q):(a&&b)=false↔(P→Q):=by rw[Bool.and_eq_false_imp,h,g]
theorem orT {a b:Bool} {P Q:Prop} (h:a=true↔P) (g:b=true↔Q):(a||b)=true↔P∨Q:=by rw[Bool.or_eq_true,h,g]
theorem orF {a b:Bool} {P Q:Prop} (h:a=false↔P) (g:b=false↔Q):(a||b)=false↔P∧Q:=by rw[Bool.or_eq_false_iff,h,g]
theorem Bk {F:Fam} {j:F.ι} {tm:List (Nat×S)} {H:List Blk} (h1:tm=F.tm j) (h2:H=F.H j) (h:F.inv j):F.Has tm H:=⟨j,h,h1,h2⟩
theorem Bd {F:Fam} {i j:F.ι} {tm:List (Nat×S)} {H:List Blk} (h1:tm=F.tm j) (h2:H=F.H j) (h:F.inv j) (hm:F.mu j<F.mu i):F.Nxt i tm H:=⟨j,⟨h,hm⟩,h1,h2⟩
abbrev In {α:Type} (P Q:α→Prop):Prop:=(∃o,P o)∧∀o,P o→Q o
theorem Ar {P : Program} {f : FuncId} {fn : Func} (hf : P.funcs[f]? = some fn) (hb : fn.body.isNone = false) (hn : (fn.name == "runtime.NumGoroutine") = false) {args : List V} {L L' : List Blk} {r : S} {w : DT Unit × Prop}
  (hw:Abt P fn args L w.1 (fun _ r' Lp=>r'=r∧Lp=L')=w.2) (h:w.2):Fun P f args L r L':=Ajk hf hb hn hw h
theorem Bw {P : Program} {ι : Type} {f : FuncId} {fn : Func} (hf : P.funcs[f]? = some fn) (hb : fn.body.isNone = false) (hn : (fn.name == "runtime.NumGoroutine") = false) {args : List V} {L : List Blk} {L' : ι → List Blk} {r : ι → S} {good : ι → Prop} {w : DT ι × Prop}
  (hw:Abt P fn args L w.1 (fun i r' Lp=>good i∧r'=r i∧Lp=L' i)=w.2) (h:w.2): ∃i,good i∧Fun P f args L (r i) (L' i):=Ah7 hf hb hn hw h
theorem dsp {p:Prop} [Decidable p] {A B:Prop} (h1:decide p=true→p→A) (h2:decide p=false→¬p→B):(decide p=true→A)∧(decide p=false→B):=⟨fun h=>h1 h (of_decide_eq_true h),fun h=>h2 h (of_decide_eq_false h)⟩
/-! ### Structures -/
structure Scn where
 bits:Int
 have_:Int
 deriving DecidableEq,Inhabited
structure Utf where
 want:Int
 low:Int
 high:Int
 deriving DecidableEq,Inhabited
structure Pln where
 shapes:List Shp
 root:Int
 deep:Int
 most:Int
 deriving DecidableEq,Inhabited
structure Dcd where
 plan:Pln
 mode:Int
 stack:List Lev
 scan:Scn
 start:Int
 at_:Int
 field:Fld
 wire:Int
 want:Int
 utf:Utf
 end_:Ev
 deriving DecidableEq,Inhabited
def fld0:Fld:=⟨0,0,false,false,0⟩
def ev0:Ev:=⟨0,0,0,0,[],0,0⟩
def utf0:Utf:=⟨0,0,0⟩
def scn0:Scn:=⟨0,0⟩
theorem Ez {α:Type} {l:List α} {i:Nat} {x:α} (h:l[i]? =some x):l.drop i=x::l.drop (i+1):=by
 have hl:=(List.getElem?_eq_some_iff.1 h).1
 rw[List.drop_eq_getElem_cons hl]
 congr 1
 rw[List.getElem?_eq_getElem hl] at h
 exact Option.some.inj h
theorem Ap {b:Bool} (h:(!b)=true):b=false:=by cases b<;>simp_all
theorem Ao {b:Bool} (h:(!b)=false):b=true:=by cases b<;>simp_all
theorem Ww {α:Type} {l:List α} {i:Nat} {x d:α} (h:l[i]? =some x):l.getD i d=x:=by simp[List.getD,h]
theorem J4 {α:Type} {l:List α} {i:Nat} (h: ¬((i:Nat):Int)<((l.length:Nat):Int)):l.drop i=[]:=List.drop_eq_nil_of_le (by omega)
/-! ### Words of numbers -/
theorem Wx {k:IntKind} {a m:Int} (h:0≤a):(.v (.c (.int k (Int.tmod a m))):S)= .v (.c (.int k (a % m))):=by rw[Int.tmod_eq_emod_of_nonneg h]
theorem Ua {a m:Int} (h:0≤a) (h2:a≤18446744073709551615) (hm:0<m):(.v (.c (.int .u64 (IntKind.u64.wrap (Int.tdiv a m)))):S)= .v (.c (.int .u64 (a / m))):=by
 rw[Int.tdiv_eq_ediv_of_nonneg h]
 have h3:=Int.ediv_nonneg h (Int.le_of_lt hm)
 have h4:=Int.ediv_le_self m h
 exact Bv Q2 Q2
theorem Ajn {a b:Int} {k:Nat} (ha:0≤a) (hk:a<2 ^ k) {c:Int} (hc:0≤c) (hb:b=c*2 ^ k) (hs:b+2 ^ k≤18446744073709551616):(((BitVec.ofInt 64 a|||BitVec.ofInt 64 b).toNat:Nat):Int)=a+b:=by
 obtain ⟨n,rfl⟩:=Int.eq_ofNat_of_zero_le ha
 obtain ⟨m,rfl⟩:=Int.eq_ofNat_of_zero_le hc
 have hb':b=((m*2 ^ k:Nat):Int):=by rw[hb,Int.natCast_mul,Int.natCast_pow];rfl
 have hp:(0:Int)<2 ^ k:=Int.pow_pos (by decide)
 subst hb'
 have e:((2 ^ k:Nat):Int)=2 ^ k:=by rw[Int.natCast_pow];rfl
 rw[←e] at hk hs hp
 have h1:n<2 ^ k:=by omega
 have h2:m*2 ^ k+2 ^ k≤18446744073709551616:=by omega
 have h3:n<2 ^ 64:=by omega
 have h4:m*2 ^ k<2 ^ 64:=by omega
 rw[BitVec.toNat_or,BitVec.ofInt_natCast,BitVec.ofInt_natCast,BitVec.toNat_ofNat,BitVec.toNat_ofNat,Nat.mod_eq_of_lt h3,Nat.mod_eq_of_lt h4,Nat.or_comm,Nat.mul_comm m,←Nat.two_pow_add_eq_or_of_lt h1]
 rw[Nat.mul_comm,Int.natCast_add,Int.add_comm]
/-! ### Kinds, wires, numbers -/
def Dc (n:Int):Bool:=Am n 1 536870911&& !Am n 19000 19999
def Dx (w:Int):Bool:=decide (w=0)||decide (w=1)||decide (w=2)||decide (w=5)
def Em (k:Int):Bool:=Am k 1 8
def C3 (k:Int):Bool:=Am k 1 5
def Bs (k:Int):Int:=if Em k then (if k=4 then 5 else if k=5 then 1 else if k≤3 then 0 else 2) else-1
def Ay (w:Int):Int:=if w=1 then 8 else if w=5 then 4 else 0
def Qk (f:Fld):Bool:=f.rep&&C3 f.kind
def Cy (f:Fld) (w:Int):Bool:=decide (w=Bs f.kind)||(decide (w=2)&&Qk f)
def Er (k:Int):Bool:=decide (k=2)||decide (k=3)||decide (k=6)
theorem Dy (w:Int):0≤Ay w∧Ay w≤8:=by unfold Ay;split<;>(try split)<;>omega
def G5 (f:Fld) (n:Int):Bool:=Dc f.number&&Em f.kind&& !(f.packed&&(!f.rep|| !C3 f.kind))&&(if f.kind=8 then Am f.msg 0 (n-1) else decide (f.msg= -1))
def Cz (n:Int):Int→List Fld→Bool
 |_,[]=>true
 |b,f::r=>decide (b<f.number)&&G5 f n&&Cz n f.number r
def Dz (n:Int):Int→List Shp→Bool
 |_,[]=>true
 |b,x::r=>decide (b<x.id)&&decide (x.id≤99)&&decide ((x.fields.length:Int)≤8)&&Cz n 0 x.fields&&Dz n x.id r
def Do (l:List Shp):Bool:=decide ((l.length:Int)≤6)&&Dz (l.length:Int) 0 l
def Fp (l:List Fld) (n:Int):Option Fld:=l.find? fun f=>decide (f.number=n)
def Ak3:Shp:=⟨0,[]⟩
def fieldAt (l:List Shp) (s n:Int):Option Fld:=if Am s 0 ((l.length:Int)-1) then Fp (l.getD s.toNat Ak3).fields n else none
def Es (p:Pln):Bool:=Do p.shapes&&Am p.root 0 ((p.shapes.length:Int)-1)&&Am p.deep 1 8&&Am p.most 0 2000
theorem Zf {f:Fld} {n:Int} (h:G5 f n=true):1≤f.number∧f.number≤536870911∧1≤f.kind∧f.kind≤8∧(f.kind=8→0≤f.msg∧f.msg≤n-1)∧(f.kind≠8→f.msg= -1):=by
 simp only[G5,Dc,Em,Am,Bool.and_eq_true,decide_eq_true_eq] at h
 obtain ⟨⟨⟨h1,h2⟩,h3⟩,h4⟩:=h
 refine⟨h1.1.1,h1.1.2,h2.1,h2.2,fun hk=>?_,fun hk=>?_⟩
 ·rw[if_pos hk] at h4;simpa using h4
 ·rw[if_neg hk] at h4;simpa using h4
theorem Rv {l:List Shp} (h:Do l=true):l.length≤6:=by
 simp only[Do,Bool.and_eq_true,decide_eq_true_eq] at h;omega
theorem B6 {p:Pln} (h:Es p=true):p.shapes.length≤6∧Do p.shapes=true∧0≤p.root∧p.root<(p.shapes.length:Int)∧1≤p.deep∧p.deep≤8∧0≤p.most∧p.most≤2000:=by
 simp only[Es,Am,Bool.and_eq_true,decide_eq_true_eq] at h
 have:=Rv h.1.1.1
 refine⟨this,h.1.1.1,?_⟩;omega
theorem Sp {n:Int} : ∀ {b:Int} {l:List Fld},Cz n b l=true→∀f∈l,G5 f n=true∧b<f.number
 |_,[],_,f,hf=>by cases hf
 |b,g::r,h,f,hf=>by
  simp only[Cz,Bool.and_eq_true,decide_eq_true_eq] at h
  rcases List.mem_cons.1 hf with rfl|hf
  ·exact⟨h.1.2,h.1.1⟩
  ·have:=Sp h.2 f hf;exact⟨this.1,by omega⟩
theorem Nh {n:Int} : ∀ {b:Int} {l:List Shp},Dz n b l=true→∀x∈l,(x.fields.length≤8∧Cz n 0 x.fields=true)∧b<x.id∧x.id≤99
 |_,[],_,f,hf=>by cases hf
 |b,g::r,h,f,hf=>by
  simp only[Dz,Bool.and_eq_true,decide_eq_true_eq] at h
  rcases List.mem_cons.1 hf with rfl|hf
  ·exact⟨⟨by omega,h.1.2⟩,h.1.1.1.1,h.1.1.1.2⟩
  ·have:=Nh h.2 f hf;exact⟨this.1,by omega,this.2.2⟩
theorem Dj {l:List Shp} (h:Do l=true): ∀x∈l,List.length x.fields≤1000:=fun x hx=>by
 simp only[Do,Bool.and_eq_true] at h
 have:=(Nh h.2 x hx).1.1
 omega
theorem Vw {l:List Shp} {s n:Int} {f:Fld} (hl:Do l=true) (h:fieldAt l s n=some f):G5 f (l.length:Int)=true∧f.number=n:=by
 unfold fieldAt at h
 split at h
 ·rename_i hs
  have hs:=As hs
  simp only[Do,Bool.and_eq_true,decide_eq_true_eq] at hl
  have hm:l.getD s.toNat Ak3∈l:=by
   rw[List.getD_eq_getElem?_getD,List.getElem?_eq_getElem (by omega)]
   exact List.getElem_mem _
  have hx:=(Nh hl.2 _ hm).1.2
  have hf:=List.mem_of_find?_eq_some h
  have hp:=List.find?_some h
  exact⟨(Sp hx f hf).1,by simpa using hp⟩
 ·cases h
/-! ### Tags -/
def Co (n w:Int):Int:=if Am n 1 536870911&&Am w 0 7 then 8*n+w else 0
def Hr (u:Int):Bool:=Am u 8 4294967295
def Bu (u:Int):Int:=if Hr u then u / 8 else 0
def Aj (u:Int):Int:=if Hr u then u % 8 else 0
theorem Be (n w:Int):0≤Co n w∧Co n w≤4294967295:=by
 unfold Co Am;split<;>simp_all<;>omega
/-! ### Utf-8 -/
def M0 (u:Utf) (w l h:Int):Bool:=decide (u.want=w)&&(decide (u.low=l)&&decide (u.high=h))
def Eo (u:Utf):Bool:=M0 u 0 0 0||M0 u 1 128 191||M0 u 2 128 191||M0 u 3 128 191||M0 u 2 160 191||M0 u 2 128 159||M0 u 3 144 191||M0 u 3 128 143
theorem Zg {u:Utf} (h:Eo u=true):(u.want=0∧u.low=0∧u.high=0)∨(u.want=1∧u.low=128∧u.high=191)∨(u.want=2∧u.low=128∧u.high=191)∨(u.want=3∧u.low=128∧u.high=191)∨(u.want=2∧u.low=160∧u.high=191)∨(u.want=2∧u.low=128∧u.high=159)∨(u.want=3∧u.low=144∧u.high=191)∨(u.want=3∧u.low=128∧u.high=143):=by
 simp only[Eo,M0,Bool.or_eq_true,Bool.and_eq_true,decide_eq_true_eq] at h
 rcases h with ((((((h|h)|h)|h)|h)|h)|h)|h<;>simp[h]
theorem Vx {u:Utf} (h:Eo u=true) (h0:u.want=0):u=utf0:=by
 rcases Zg h with h|h|h|h|h|h|h|h<;>first|(cases u;simp_all[utf0];done)|omega
theorem Ky {u:Utf} (h:Eo u=true):0≤u.want∧u.want≤3:=by
 rcases Zg h with h|h|h|h|h|h|h|h<;>omega
def A9 (b:Int):Option Utf:=
 if Am b 0 127 then some utf0
 else if Am b 194 223 then some ⟨1,128,191⟩
 else if Am b 224 239 then some ⟨2,if b=224 then 160 else 128,if b=237 then 159 else 191⟩
 else if Am b 240 244 then some ⟨3,if b=240 then 144 else 128,if b=244 then 143 else 191⟩
 else none
def Bj (u:Utf) (b:Int):Option Utf:=
 if Eo u then (if u.want=0 then A9 b else if Am b u.low u.high then some (if u.want=1 then utf0 else ⟨u.want-1,128,191⟩) else none) else none
def Ni:Utf→List UInt8→Nat→Utf×Option Nat
 |u,[],_=>(u,none)
 |u,b::r,i=>match Bj u (b.toNat:Int) with
  |some v=>Ni v r (i+1)
  |none=>(u,some i)
def P7 (u:Utf) (s:List UInt8):Utf:=(Ni u s 0).1
def Sq (u:Utf) (s:List UInt8):Int:=match (Ni u s 0).2 with
 |some i=>(i:Int)
 |none=> -1
/-! ### Varints -/
def Lu (u:Nat):List UInt8:=if h:u<128 then [UInt8.ofNat u] else UInt8.ofNat (u % 128+128)::Lu (u / 128)
termination_by u
decreasing_by omega
def Dp (u:Int):List UInt8:=Lu u.toNat
def J5 (u:Int):Int:=((Dp u).length:Int)
theorem Lv {u:Nat} (h:u<128):Lu u=[UInt8.ofNat u]:=by rw[Lu,dif_pos h]
theorem P8 {u:Nat} (h: ¬u<128):Lu u=UInt8.ofNat (u % 128+128)::Lu (u / 128):=by rw[Lu,dif_neg h]
theorem Ub: ∀(k u:Nat),u<128 ^ k→1≤k→(Lu u).length≤k
 |0,_,_,h=>by omega
 |k+1,u,h,_=>by
  by_cases hu:u<128
  ·rw[Lv hu];simp
  ·rw[P8 hu]
   have hk:1≤k:=by
    rcases k with _|k
    ·simp at h;omega
    ·omega
   have:=Ub k (u / 128) (by rw[Nat.pow_succ] at h;exact Nat.div_lt_of_lt_mul (by rw[Nat.mul_comm];exact h)) hk
   simp;omega
theorem Uc (u:Nat):1≤(Lu u).length:=by
 by_cases hu:u<128
 ·rw[Lv hu];simp
 ·rw[P8 hu];simp
theorem X5 {u:Int} (h0:0≤u) (h:u≤127):Dp u=[UInt8.ofNat u.toNat]:=Lv (by omega)
theorem Vy {u:Int} (h0:0≤u) (h:127<u):Dp u=UInt8.ofNat (u % 128+128).toNat::Dp (u / 128):=by
 unfold Dp
 rw[P8 (by omega),show (u / 128).toNat=u.toNat / 128 by omega,show (u % 128+128).toNat=u.toNat % 128+128 by omega]
theorem Vz (u:Int):1≤(Dp u).length:=Uc _
theorem Aaq {u:Int} (h:u≤18446744073709551615):1≤J5 u∧J5 u≤10:=by
 have h1:=Uc u.toNat
 have h2:=Ub 10 u.toNat (by omega) (by omega)
 unfold J5 Dp;omega
def vwA (s:List UInt8) (at_ end_:Int):Nat→Int→Int→Int×Int×Int
 |0,_,_=>(0,(s.length:Int),10)
 |f+1,k,u=>
  if end_≤at_+k then (0,end_,9)
  else if (s.length:Int)≤at_+k then (0,(s.length:Int),10)
  else if k=9∧1<((s.getD (at_+k).toNat 0).toNat:Int) then (0,at_+k,1)
  else if ((s.getD (at_+k).toNat 0).toNat:Int)<128 then (u+((s.getD (at_+k).toNat 0).toNat:Int) % 128*2 ^ (7*k).toNat,at_+k+1,0)
  else vwA s at_ end_ f (k+1) (u+((s.getD (at_+k).toNat 0).toNat:Int) % 128*2 ^ (7*k).toNat)
def C6 (s:List UInt8) (at_ end_:Int):Int×Int×Int:=if Am at_ 0 (s.length:Int) then vwA s at_ end_ 10 0 0 else (0,(s.length:Int),10)
theorem Ajo {c:Int} {k:Nat} (hk:k≤9) (h0:0≤c) (h1:c≤127) (h9:k=9→c≤1):0≤c*2 ^ (7*k)∧c*2 ^ (7*k)+2 ^ (7*k)≤18446744073709551616∧(0:Int)<2 ^ (7*k)∧c*2 ^ (7*k)+2 ^ (7*k)≤2 ^ (7*(k+1)):=by
 rcases (show k=0∨k=1∨k=2∨k=3∨k=4∨k=5∨k=6∨k=7∨k=8∨k=9 by omega) with rfl|rfl|rfl|rfl|rfl|rfl|rfl|rfl|rfl|rfl<;>simp at * <;>omega
theorem Ajp {s:List UInt8} {a e:Int} : ∀(f k:Nat) (u:Int),k≤9→10≤f+k→0≤u→u<2 ^ (7*k)→0≤(vwA s a e f k u).1∧(vwA s a e f k u).1≤18446744073709551615
 |0,k,u,_,_,_,_=>by simp[vwA]
 |f+1,k,u,hk,hf,h0,h1=>by
  rw[vwA]
  have hb:=UInt8.toNat_lt (s.getD (a+(k:Int)).toNat 0)
  split
  ·simp
  split
  ·simp
  split
  ·simp
  rename_i h9
  have h9':k=9→¬(1<((s.getD (a+(k:Int)).toNat 0).toNat:Int)):=fun h hh=>h9 ⟨by omega,hh⟩
  have e7:((7*(k:Int)).toNat)=7*k:=by omega
  have hv:=Ajo (c:=((s.getD (a+(k:Int)).toNat 0).toNat:Int) % 128) (k:=k) (by omega) (by omega) (by omega) (by intro h;have:=h9' h;omega)
  split
  ·rw[e7];dsimp only;omega
  ·rename_i h128
   have hk8:k≠9:=fun h=>by have:=h9' h;omega
   rw[e7,show (k:Int)+1=((k+1:Nat):Int) by simp]
   exact Ajp f (k+1) _ Q2 Q2 Q2 Q2
theorem Zh (s:List UInt8) (a e:Int):0≤(C6 s a e).1∧(C6 s a e).1≤18446744073709551615:=by
 unfold C6
 split
 ·exact Ajp 10 0 0 (by omega) (by omega) (by omega) (by decide)
 ·simp
/-! ### Numbers of so Ak4 bytes -/
def Zi (w:Int):Bool:=decide (w=4)||decide (w=8)
def Ad0:List UInt8→Nat
 |[]=>0
 |b::r=>b.toNat+256*Ad0 r
def Qu (s:List UInt8) (at_ w:Int):Bool:=Zi w&&Am at_ 0 ((s.length:Int)-w)
def Ajq (s:List UInt8) (at_ w:Int):Int:=if Qu s at_ w then (Ad0 ((s.drop at_.toNat).take w.toNat):Int) else 0
theorem Ad1 {w:Int} (h:Zi w=true):w=4∨w=8:=by simpa [Zi] using h
def A3 (c a:Int):Ev:=⟨10,0,0,0,[],c,a⟩
def Eu (f:Fld) (u:Int):Ev:=⟨2,f.number,if f.kind=3∧u≠0 then 1 else u,0,[],0,0⟩
theorem Sr {f:Fld} {l:List Fld} {n:Int} :Fp (f::l) n=if f.number=n then some f else Fp l n:=by
 unfold Fp;rw[List.find?_cons];by_cases h:f.number=n<;>simp[h]
theorem V0 {l:List Shp} {s n:Int} {x:Shp} (hs:Am s 0 ((l.length:Int)-1)=true) (hx:l[s.toNat]? =some x):fieldAt l s n=Fp x.fields n:=by
 rw[fieldAt,if_pos hs,Ww hx]
def Ak4 (l:List Ev) (k:Int):Int:=((l.filter fun e=>decide (e.kind=k)).length:Int)
structure Fa where
 stack:List Int
 inText:Bool
 isText:Bool
 utf:Utf
 ended:Bool
 deriving Inhabited
structure Fmr where
 plan:Pln
 st:Fa
structure Fs where
 stack:List Int
 field:Fld
 open_:Bool
 utf:Utf
 ended:Bool
def Fq (k:Int):Bool:=decide (k=6)||decide (k=7)
theorem Zj {b:Int} {u:Utf} (h:A9 b=some u):Eo u=true:=by
 unfold A9 at h
 repeat' split at h
 all_goals first|(cases h;done)|(cases h;first|decide|(exfalso;omega)|(simp only[Eo,M0];simp_all;done)|(simp only[Eo,M0];simp_all;omega))
theorem Abx {u v:Utf} {b:Int} (h:Bj u b=some v):Eo v=true:=by
 unfold Bj at h
 split at h
 ·rename_i hu
  have hw:=Ky hu
  split at h
  ·exact Zj h
  ·split at h
   ·split at h
    ·cases h;decide
    ·cases h
     rcases Zg hu with h|h|h|h|h|h|h|h<;>simp_all[Eo,M0]
   ·cases h
 ·cases h
def EvB (e:Ev):Prop:=List.length e.text≤Bg∧(0:Int)≤e.bits∧e.bits≤18446744073709551615
def cEv (x:Ev):List C:=[.int .i64 x.kind,.int .i64 x.field,.int .u64 x.bits,.int .i64 x.len,.str x.text,.int .i64 x.code,.int .i64 x.at_]
def Fm (x:Fld):List C:=[.int .i64 x.number,.int .i64 x.kind,.bool x.rep,.bool x.packed,.int .i64 x.msg]
def Ahj (x:Shp):List C:=[.int .i64 x.id,.seq .fld x.fields]
def Akm (x:Lev):List C:=[.int .i64 x.msg,.int .i64 x.left]
def J0 (x:Scn):List C:=[.int .u64 x.bits,.int .i64 x.have_]
def Hg (x:Utf):List C:=[.int .i64 x.want,.int .i64 x.low,.int .i64 x.high]
def M1 (x:Pln):List C:=[.seq .shp x.shapes,.int .i64 x.root,.int .i64 x.deep,.int .i64 x.most]
def Bt (x:Dcd):List C:=[.seq .shp x.plan.shapes,.int .i64 x.plan.root,.int .i64 x.plan.deep,.int .i64 x.plan.most,.int .i64 x.mode,.seq .lev x.stack,.int .u64 x.scan.bits,.int .i64 x.scan.have_,.int .i64 x.start,.int .i64 x.at_,.int .i64 x.field.number,.int .i64 x.field.kind,.bool x.field.rep,.bool x.field.packed,.int .i64 x.field.msg,.int .i64 x.wire,.int .i64 x.want,.int .i64 x.utf.want,.int .i64 x.utf.low,.int .i64 x.utf.high,.int .i64 x.end_.kind,.int .i64 x.end_.field,.int .u64 x.end_.bits,.int .i64 x.end_.len,.str x.end_.text,.int .i64 x.end_.code,.int .i64 x.end_.at_]
def Ad (j0:Nat) (j5:Nat) (x:Dcd):List C:=[.own j0,.int .i64 x.plan.root,.int .i64 x.plan.deep,.int .i64 x.plan.most,.int .i64 x.mode,.own j5,.int .u64 x.scan.bits,.int .i64 x.scan.have_,.int .i64 x.start,.int .i64 x.at_,.int .i64 x.field.number,.int .i64 x.field.kind,.bool x.field.rep,.bool x.field.packed,.int .i64 x.field.msg,.int .i64 x.wire,.int .i64 x.want,.int .i64 x.utf.want,.int .i64 x.utf.low,.int .i64 x.utf.high,.int .i64 x.end_.kind,.int .i64 x.end_.field,.int .u64 x.end_.bits,.int .i64 x.end_.len,.str x.end_.text,.int .i64 x.end_.code,.int .i64 x.end_.at_]
def Af8 (j0:Nat) (x:Pln):List C:=[.own j0,.int .i64 x.root,.int .i64 x.deep,.int .i64 x.most]
def Aku:Lev:=⟨0,0⟩
def Dh (d:Dcd):Int:=(d.stack.getD (d.stack.length-1) Aku).left
def Ew (n:Int) (l:Lev):Bool:=Am l.msg 0 (n-1)&&Am l.left 0 2000
def A7 (d:Dcd):Bool:=Es d.plan&&decide ((d.stack.length:Int)≤d.plan.deep)&&d.stack.all (Ew (d.plan.shapes.length:Int))
def Ve (n:Int):List Lev→Nat
 |[]=>0
 |l::r=>if Ew n l then Ve n r+1 else 0
theorem Qv {n:Int} {l:Lev} {r:List Lev} :Ve n (l::r)=if Ew n l then Ve n r+1 else 0:=rfl
theorem Lw (n:Int): ∀l:List Lev,l.all (Ew n)=decide (Ve n l=l.length)
 |[]=>rfl
 |l::r=>by
  rw[List.all_cons,Lw n r,Qv]
  cases h:Ew n l with
  |true=>rw[if_pos rfl];simp
  |false=>rw[if_neg (by simp)];simp
def Jp (n:Int) (l:List Lev):Int:=if Ve n l=l.length then-1 else (Ve n l:Int)
def C7 (s:Scn):Bool:=Am s.have_ 0 9&&decide (Int.fdiv s.bits (2 ^ min (Int.toNat (7*s.have_)) 64)=0)
def Bp (d:Dcd):Int:=if d.mode=5 then Ay d.wire else if d.mode=8 then Ay (Bs d.field.kind) else 0
def Nj (d:Dcd):Int:=if d.mode=8 then d.want else Dh d
def J1 (d:Dcd):Bool:=if 0<Bp d then Am d.scan.have_ 0 (Bp d-1)&&decide (Int.fdiv d.scan.bits (2 ^ min (Int.toNat (8*d.scan.have_)) 64)=0)&&decide (Bp d-d.scan.have_≤Nj d)
 else if d.mode=6∨d.mode=7∨d.mode=9 then decide (d.scan=scn0) else C7 d.scan
def Hj (d:Dcd):Bool:=if d.mode=6∨d.mode=7∨d.mode=8 then Am d.want 1 (Dh d) else decide (d.want=0)
def Ahk (d:Dcd):Bool:=decide (d.field=fld0)||Cy d.field d.wire
def Hk (d:Dcd):Bool:=if d.mode=6 then Fq d.field.kind else if d.mode=8 then Qk d.field else if d.mode=3 then decide (d.wire=0)&&Ahk d else if d.mode=4 then decide (d.wire=2)&&Ahk d else if d.mode=5 then decide (0<Ay d.wire)&&Ahk d else true
def Ff (l:List Shp) (f:Fld):Nat→Bool
 |0=>false
 |k+1=>Ff l f k||decide (fieldAt l (k:Int) f.number=some f)
def known (l:List Shp) (f:Fld):Bool:=Ff l f l.length
def Lx (k:Int):Bool:=Am k 1 10
def D5 (e:Ev):Ev:=⟨e.kind,if e.kind=2∨e.kind=3∨e.kind=6 then e.field else 0,if e.kind=2 then e.bits else 0,if e.kind=1∨e.kind=3∨e.kind=6 then e.len else 0,if e.kind=4 then e.text else [],if e.kind=10 then e.code else 0,if e.kind=9∨e.kind=10 then e.at_ else 0⟩
def Ss (e:Ev):Bool:=decide (e=D5 e)
def Hm (e:Ev):Bool:=Lx e.kind&&Ss e&&decide (0≤e.len)&&decide (0≤e.at_)&&(if Er e.kind then Am e.field 1 536870911 else if e.kind=4 then !decide (e.text=[]) else if e.kind=10 then decide (1≤e.code) else true)
def Et (e:Ev):Bool:=decide (e.kind=9)||decide (e.kind=10)
def Xj (d:Dcd):Bool:=if d.mode=9 then Hm d.end_&&Et d.end_ else decide (d.end_=ev0)
def J6 (d:Dcd):Bool:=if d.mode=1 then decide (d.stack=[]) else if d.mode=9 then true else decide (1≤Dh d)
def Cj (d:Dcd):Bool:=A7 d&&Am d.mode 1 9&&Am d.at_ 0 1000000000&&Am d.start 0 d.at_&&Eo d.utf&&Dx d.wire&&(decide (d.field=fld0)||known d.plan.shapes d.field)&&Xj d&&J6 d&&Hj d&&Hk d&&J1 d
theorem Ad2 {o f:Fld} (h:o.number=f.number∧o.kind=f.kind∧o.rep=f.rep∧o.packed=f.packed∧o.msg=f.msg):o=f:=by
 cases o;cases f;simp_all
theorem Ad3 {o f:Fld} (h:o.number=f.number→o.kind=f.kind→o.rep=f.rep→o.packed=f.packed→¬o.msg=f.msg):o≠f:=fun e=>by subst e;exact h rfl rfl rfl rfl rfl
theorem Ud {l:List Shp} {f:Fld} : ∀ {k m:Nat},k≤m→Ff l f k=true→Ff l f m=true
 |k,0,h,hk=>by rw[show k=0 by omega] at hk;exact hk
 |k,m+1,h,hk=>by
  by_cases e:k=m+1
  ·rw[←e];exact hk
  ·rw[Ff,Ud (m:=m) (by omega) hk];rfl
theorem Wy {l:List Shp} {f:Fld} {k:Nat} (h:k<l.length) (hf:fieldAt l (k:Int) f.number=some f):known l f=true:=by
 have:Ff l f (k+1)=true:=by rw[Ff,hf];simp
 exact Ud (show k+1≤l.length by omega) this
theorem Ly {l:List Shp} {f:Fld} {k:Nat} (h:Ff l f k=false) (hf:fieldAt l (k:Int) f.number≠some f):Ff l f (k+1)=false:=by
 rw[Ff,h];simp[hf]
theorem Aar {l:List Shp} {f:Fld} {k:Nat} (h:Ff l f k=false) (hk:l.length=k):known l f=false:=by unfold known;rw[hk];exact h
theorem Wz {f:Fld} (h:f.number=0∧f.kind=0∧f.rep=false∧f.packed=false∧f.msg=0):f=fld0:=Ad2 h
def Nk (d:Dcd):Bool:=d.stack.all (Ew (d.plan.shapes.length:Int))&&(if d.mode=1 then decide ((d.stack.length:Int)=0) else if d.mode=9 then decide ((d.stack.length:Int)≤d.plan.deep) else Am (d.stack.length:Int) 1 d.plan.deep&&decide (1≤Dh d))
def Ajr (d:Dcd):Bool:=Am d.scan.have_ 0 (Bp d-1)&&decide (Int.fdiv d.scan.bits (2 ^ min (Int.toNat (8*d.scan.have_)) 64)=0)&&decide (Bp d-d.scan.have_≤Nj d)
def Zk (d:Dcd):Bool:=if d.mode=6∨d.mode=7∨d.mode=9 then decide (d.scan=scn0) else if d.mode=5 then Ajr d else if d.mode=8 then (if Bp d=0 then C7 d.scan else Ajr d) else C7 d.scan
def St (d:Dcd):Bool:=(decide (d.mode=3)&& !decide (d.wire=0))||(decide (d.mode=4)&& !decide (d.wire=2))||(decide (d.mode=5)&&decide (Ay d.wire=0))
def X6 (d:Dcd):Bool:=Es d.plan&&Am d.mode 1 9&&Am d.at_ 0 1000000000&&Am d.start 0 d.at_&&Eo d.utf&&Dx d.wire&&(decide (d.field=fld0)||known d.plan.shapes d.field)&&Nk d&&Xj d&&Hj d&& !St d&& !(Am d.mode 3 5&& !decide (d.field=fld0)&& !Cy d.field d.wire)&&(!decide (d.mode=6)||Fq d.field.kind)&&(!decide (d.mode=8)||Qk d.field)&&Zk d
theorem W0 {d:Dcd} (h:d.stack=[]):Dh d=0:=by unfold Dh;rw[h];rfl
theorem Qw (w:Int):Ay w=0∨Ay w=4∨Ay w=8:=by unfold Ay;split<;>(try split)<;>omega
theorem Ad4 (d:Dcd):X6 d=Cj d:=by
 have hw:=Qw d.wire
 have hw2:=Qw (Bs d.field.kind)
 by_cases hm:Am d.mode 1 9=true
 ·have hm:=As hm
  have hp:Es d.plan=true→1≤d.plan.deep:=fun h=>(B6 h).2.2.2.2.1
  have ht:= @W0 d
  obtain ⟨⟨sh,ro,de,mo⟩,m,st,sc,sa,a,f,w,wa,u,e⟩:=d
  simp only at hm hw hw2 hp ht
  have hs:(decide (st=[]):Bool)=decide ((st.length:Int)=0):=by cases st<;>simp<;>omega
  have hl: ∀x:Lev,(([]:List Lev).length:Int)=0:=fun _=>rfl
  rcases (show m=1∨m=2∨m=3∨m=4∨m=5∨m=6∨m=7∨m=8∨m=9 by omega) with rfl|rfl|rfl|rfl|rfl|rfl|rfl|rfl|rfl<;>
   rw[Bool.eq_iff_iff]<;>simp[X6,Cj,A7,Nk,J6,St,Zk,Ajr,J1,Hk,Ahk,Hj,Nj,Bp,hs,Am]<;>grind
 ·have hm:Am d.mode 1 9=false:=by simpa using hm
  simp[X6,Cj,hm]
theorem Ajs {e f:Ev} (h:e.kind=f.kind∧e.field=f.field∧e.bits=f.bits∧e.len=f.len∧e.text=f.text∧e.code=f.code∧e.at_=f.at_):e=f:=by cases e;cases f;simp_all
theorem Af9 {e:Ev} (h:e.kind=(D5 e).kind∧e.field=(D5 e).field∧e.bits=(D5 e).bits∧e.len=(D5 e).len∧e.text=(D5 e).text∧e.code=(D5 e).code∧e.at_=(D5 e).at_):Ss e=true:=decide_eq_true (Ajs h)
theorem Qx {e f:Ev} (h:D5 e=f):Ss e=(decide (e.kind=f.kind)&&(decide (e.field=f.field)&&(decide (e.bits=f.bits)&&(decide (e.len=f.len)&&(decide (e.text=f.text)&&(decide (e.code=f.code)&&decide (e.at_=f.at_))))))):=by
 subst h
 rw[Bool.eq_iff_iff]
 simp only[Bool.and_eq_true,decide_eq_true_eq]
 constructor
 ·intro h
  have h:e=D5 e:=of_decide_eq_true h
  exact⟨congrArg Ev.kind h,congrArg Ev.field h,congrArg Ev.bits h,congrArg Ev.len h,congrArg Ev.text h,congrArg Ev.code h,congrArg Ev.at_ h⟩
 ·exact fun h=>Af9 h
structure Mac where
 d:Dcd
 out:List Ev
def Ue:Ev:=⟨5,0,0,0,[],0,0⟩
def Ahm:Ev:=⟨7,0,0,0,[],0,0⟩
def J7:Ev:=⟨8,0,0,0,[],0,0⟩
def Ad5 (n:Int):Ev:=⟨1,0,0,n,[],0,0⟩
def Zm (f n:Int):Ev:=⟨6,f,0,n,[],0,0⟩
def Zn (f n:Int):Ev:=⟨3,f,0,n,[],0,0⟩
def Zo (b:Int):Ev:=⟨4,0,0,0,[Bc b],0,0⟩
def A1 (d:Dcd) (c a:Int):Dcd:=⟨d.plan,9,d.stack,⟨0,0⟩,d.start,d.at_,d.field,d.wire,0,d.utf,A3 c a⟩
def A0 (m:Mac) (c a:Int):Mac:=⟨A1 m.d c a,m.out++[A3 c a]⟩
def A2 (m:Mac):Option Mac:=
 if m.d.mode=6∧m.d.want<1 then
  (if 0<m.d.utf.want then some (A0 m 5 m.d.at_) else some ⟨⟨m.d.plan,2,m.d.stack,m.d.scan,m.d.start,m.d.at_,m.d.field,m.d.wire,0,⟨0,0,0⟩,m.d.end_⟩,m.out++[Ue]⟩)
 else if (m.d.mode=7∨(m.d.mode=8∧m.d.scan.have_=0))∧m.d.want<1 then some ⟨⟨m.d.plan,2,m.d.stack,m.d.scan,m.d.start,m.d.at_,m.d.field,m.d.wire,0,m.d.utf,m.d.end_⟩,m.out⟩
 else if m.d.mode=2∧m.d.scan.have_=0∧0<m.d.stack.length∧Dh m.d=0 then
  some (if m.d.stack.length=1 then ⟨⟨m.d.plan,1,m.d.stack.take (m.d.stack.length-1),m.d.scan,m.d.start,m.d.at_,m.d.field,m.d.wire,m.d.want,m.d.utf,m.d.end_⟩,m.out++[J7]⟩
   else ⟨⟨m.d.plan,m.d.mode,m.d.stack.take (m.d.stack.length-1),m.d.scan,m.d.start,m.d.at_,m.d.field,m.d.wire,m.d.want,m.d.utf,m.d.end_⟩,m.out++[Ahm]⟩)
 else none
def wM (m:Mac):Nat:=m.d.stack.length+(if m.d.mode=6∨m.d.mode=7∨m.d.mode=8 then 2 else if m.d.mode=2 then 1 else 0)
theorem Ca {m q:Mac} (h:A2 m=some q):wM q<wM m∧q.out.length≤m.out.length+1:=by
 unfold A2 at h
 split at h
 ·rename_i h1
  split at h
  ·cases h;simp[wM,A0,A1,h1.1]
  ·cases h;simp[wM,h1.1]
 ·split at h
  ·rename_i h1
   cases h
   rcases h1.1 with h2|h2
   ·simp[wM,h2]
   ·simp[wM,h2.1]
  ·split at h
   ·rename_i h1
    cases h
    have:=h1.2.2.1
    split
    ·simp[wM,h1.1];omega
    ·simp[wM,h1.1];omega
   ·cases h
def Ac (m:Mac):Mac:=match h:A2 m with
 |none=>m
 |some q=>Ac q
termination_by wM m
decreasing_by exact(Ca h).1
theorem Cr {m q:Mac} (h:A2 m=some q):Ac m=Ac q:=by
 rw[Ac]
 split
 ·rename_i h1;rw[h] at h1;cases h1
 ·rename_i x h1;rw[h] at h1;cases h1;rfl
theorem B5 {m:Mac} (h:A2 m=none):Ac m=m:=by
 rw[Ac]
 split
 ·rfl
 ·rename_i x h1;rw[h] at h1;cases h1
def Cs (m:Mac) (u:Int):Mac:=
 if m.d.plan.most<u then A0 m 7 m.d.start
 else Ac ⟨⟨m.d.plan,2,[⟨m.d.plan.root,u⟩],⟨0,0⟩,m.d.start,m.d.at_,m.d.field,m.d.wire,m.d.want,m.d.utf,m.d.end_⟩,m.out++[Ad5 u]⟩
def Gs (d:Dcd):Lev:=d.stack.getD (d.stack.length-1) Aku
def D6 (m:Mac) (u:Int):Mac:=
 if Hr u=false∨m.d.stack.length=0 then A0 m 2 m.d.start
 else if Dx (Aj u)=false then A0 m 3 m.d.start
 else if (fieldAt m.d.plan.shapes (Gs m.d).msg (Bu u)).isSome=true∧Cy ((fieldAt m.d.plan.shapes (Gs m.d).msg (Bu u)).getD fld0) (Aj u)=false then A0 m 4 m.d.start
 else if Dh m.d<max (Ay (Aj u)) 1 then A0 ⟨⟨m.d.plan,m.d.mode,m.d.stack,⟨0,0⟩,m.d.start,m.d.at_,(fieldAt m.d.plan.shapes (Gs m.d).msg (Bu u)).getD fld0,Aj u,m.d.want,m.d.utf,m.d.end_⟩,m.out⟩ 9 m.d.at_
 else ⟨⟨m.d.plan,if Aj u=0 then 3 else if Aj u=2 then 4 else 5,m.d.stack,⟨0,0⟩,m.d.start,m.d.at_,(fieldAt m.d.plan.shapes (Gs m.d).msg (Bu u)).getD fld0,Aj u,m.d.want,m.d.utf,m.d.end_⟩,m.out⟩
def Cg (m:Mac) (u:Int):Mac:=
 if m.d.stack.length=0∨Dh m.d<u then A0 m 8 m.d.start
 else if m.d.field=fld0 then Ac ⟨⟨m.d.plan,7,m.d.stack,⟨0,0⟩,m.d.start,m.d.at_,m.d.field,m.d.wire,u,m.d.utf,m.d.end_⟩,m.out⟩
 else if m.d.field.kind=8 then
  (if m.d.plan.deep≤(m.d.stack.length:Int) then A0 m 6 m.d.start
  else Ac ⟨⟨m.d.plan,2,m.d.stack.set (m.d.stack.length-1) ⟨(Gs m.d).msg,Dh m.d-u⟩++[⟨m.d.field.msg,u⟩],⟨0,0⟩,m.d.start,m.d.at_,m.d.field,m.d.wire,0,m.d.utf,m.d.end_⟩,m.out++[Zm m.d.field.number u]⟩)
 else if Fq m.d.field.kind=true then Ac ⟨⟨m.d.plan,6,m.d.stack,⟨0,0⟩,m.d.start,m.d.at_,m.d.field,m.d.wire,u,⟨0,0,0⟩,m.d.end_⟩,m.out++[Zn m.d.field.number u]⟩
 else if 0<u∧u<Ay (Bs m.d.field.kind) then A0 m 9 m.d.at_
 else Ac ⟨⟨m.d.plan,8,m.d.stack,⟨0,0⟩,m.d.start,m.d.at_,m.d.field,m.d.wire,u,m.d.utf,m.d.end_⟩,m.out⟩
def Bn (m:Mac) (u:Int):Mac:=⟨⟨m.d.plan,if m.d.mode=8 then 8 else 2,m.d.stack,m.d.scan,m.d.start,m.d.at_,m.d.field,m.d.wire,m.d.want,m.d.utf,m.d.end_⟩,if m.d.field=fld0 then m.out else m.out++[Eu m.d.field u]⟩
def G6 (d:Dcd) (s:Scn):Dcd:=⟨d.plan,d.mode,d.stack,s,d.start,d.at_,d.field,d.wire,d.want,d.utf,d.end_⟩
def Af (s:Scn) (b:Int):Scn×Int:=
 if C7 s=false∨Am b 0 255=false∨(s.have_=9∧1<b) then (s,2)
 else (⟨s.bits+b % 128*2 ^ (7*s.have_.toNat),s.have_+1⟩,if b<128 then 1 else 0)
def Br (s:Scn) (b:Int):Scn:=if Am s.have_ 0 7=true∧Am b 0 255=true then ⟨IntKind.u64.wrap (s.bits+IntKind.u64.wrap (b*2 ^ min (Int.toNat (8*s.have_)) 64)),s.have_+1⟩ else s
def Kz (d:Dcd) (a:Int):Dcd:=⟨d.plan,d.mode,d.stack,d.scan,if d.scan.have_=0∧(d.mode=1∨d.mode=2∨d.mode=4) then a else d.start,d.at_,d.field,d.wire,d.want,d.utf,d.end_⟩
def W1 (m q:Mac):Mac:=if (m.d.mode≠1∧Dh m.d=0)∨(m.d.mode=8∧m.d.want=0) then A0 q 9 m.d.at_ else q
def Bo (m:Mac) (b a:Int):Mac:=
 if (Af m.d.scan b).2=2 then A0 ⟨Kz m.d a,m.out⟩ 1 a
 else if (Af m.d.scan b).2=0 then W1 m ⟨G6 (Kz m.d a) (Af m.d.scan b).1,m.out⟩
 else if m.d.mode=1 then Cs ⟨G6 (Kz m.d a) scn0,m.out⟩ (Af m.d.scan b).1.bits
 else if m.d.mode=2 then D6 ⟨G6 (Kz m.d a) scn0,m.out⟩ (Af m.d.scan b).1.bits
 else if m.d.mode=4 then Cg ⟨G6 (Kz m.d a) scn0,m.out⟩ (Af m.d.scan b).1.bits
 else Ac (Bn ⟨G6 (Kz m.d a) scn0,m.out⟩ (Af m.d.scan b).1.bits)
def C9 (m:Mac) (b:Int):Mac:=
 if (Br m.d.scan b).have_<Bp m.d then ⟨G6 m.d (Br m.d.scan b),m.out⟩
 else if m.d.mode=8∧0<m.d.want∧m.d.want<Bp m.d then A0 (Bn ⟨G6 m.d scn0,m.out⟩ (Br m.d.scan b).bits) 9 m.d.at_
 else Ac (Bn ⟨G6 m.d scn0,m.out⟩ (Br m.d.scan b).bits)
def Ai8 (d:Dcd) (u:Utf):Dcd:=⟨d.plan,d.mode,d.stack,d.scan,d.start,d.at_,d.field,d.wire,d.want,u,d.end_⟩
def Ef (m:Mac) (b:Int):Mac:=
 if m.d.field.kind=6 then (match Bj m.d.utf b with
  |none=>A0 m 5 (m.d.at_-1)
  |some u=>Ac ⟨Ai8 m.d u,m.out++[Zo b]⟩)
 else Ac ⟨m.d,m.out++[Zo b]⟩
def Di (d:Dcd):Dcd:=⟨d.plan,d.mode,if d.stack.length=0 then d.stack else d.stack.set (d.stack.length-1) ⟨(Gs d).msg,Dh d-1⟩,d.scan,d.start,d.at_+1,d.field,d.wire,if d.mode=6∨d.mode=7∨d.mode=8 then d.want-1 else d.want,d.utf,d.end_⟩
def D9 (m:Mac) (b:Int):Mac:=
 if m.d.mode=6 then Ef ⟨Di m.d,m.out⟩ b
 else if m.d.mode=7 then Ac ⟨Di m.d,m.out⟩
 else if 0<Bp m.d then C9 ⟨Di m.d,m.out⟩ b
 else Bo ⟨Di m.d,m.out⟩ b m.d.at_
theorem Jb {m q:Mac} (h:A2 m=some q):q.d.stack.length≤m.d.stack.length∧q.d.plan=m.d.plan:=by
 unfold A2 at h
 split at h
 ·split at h<;>(cases h;exact⟨Nat.le_refl _,rfl⟩)
 ·split at h
  ·cases h;exact⟨Nat.le_refl _,rfl⟩
  ·split at h
   ·cases h
    split<;>(refine⟨?_,rfl⟩;simp only[List.length_take];omega)
   ·cases h
theorem Uf (m:Mac):(Ac m).out.length≤m.out.length+wM m:=by
 suffices ∀(k:Nat) (m:Mac),wM m≤k→(Ac m).out.length≤m.out.length+wM m from this _ m (Nat.le_refl _)
 intro k
 induction k with
 |zero=>
  intro m hk
  cases h:A2 m with
  |none=>rw[B5 h];omega
  |some q=>have:=(Ca h).1;omega
 |succ k ih=>
  intro m hk
  cases h:A2 m with
  |none=>rw[B5 h];omega
  |some q=>
   have h1:=Ca h
   have:=ih q (by omega)
   rw[Cr h];omega
theorem Acw (m:Mac):wM m≤m.d.stack.length+2:=by unfold wM;split<;>(try split)<;>omega
theorem B0 {d:Dcd} (h:A7 d=true):Es d.plan=true∧(d.stack.length:Int)≤d.plan.deep∧d.stack.length≤8∧(∀l∈d.stack,Ew (d.plan.shapes.length:Int) l=true):=by
 simp only[A7,Bool.and_eq_true,decide_eq_true_eq,List.all_eq_true] at h
 have:=B6 h.1.1
 exact⟨h.1.1,h.1.2,by omega,h.2⟩
theorem Jq {d:Dcd} (h1:Es d.plan=true) (h2:(d.stack.length:Int)≤d.plan.deep) (h3: ∀l∈d.stack,Ew (d.plan.shapes.length:Int) l=true):A7 d=true:=by
 simp only[A7,Bool.and_eq_true,decide_eq_true_eq,List.all_eq_true];exact⟨⟨h1,h2⟩,h3⟩
theorem Pv {d e:Dcd} {u:Int} (h:A7 d=true) (hp:e.plan=d.plan) (hs:e.stack=[⟨d.plan.root,u⟩]) (h0:0≤u) (hu:u≤d.plan.most):A7 e=true:=by
 have hb:=B0 h
 have ht:=B6 hb.1
 refine Jq (by rw[hp];exact hb.1) (by rw[hs,hp];simp;omega) fun l hl=>?_
 rw[hs] at hl
 simp at hl
 subst hl
 rw[hp]
 simp[Ew,Am];omega
theorem B1 {d e:Dcd} (h:A7 d=true) (hp:e.plan=d.plan) (hs:e.stack=d.stack):A7 e=true:=by
 have hb:=B0 h
 exact Jq (by rw[hp];exact hb.1) (by rw[hs,hp];exact hb.2.1) (by rw[hs,hp];exact hb.2.2.2)
theorem V2 {l:List Shp} {f:Fld} (hl:Do l=true): ∀ {k:Nat},Ff l f k=true→G5 f (l.length:Int)=true
 |0,h=>by cases h
 |k+1,h=>by
  simp only[Ff,Bool.or_eq_true,decide_eq_true_eq] at h
  rcases h with h|h
  ·exact V2 hl h
  ·exact(Vw hl h).1
theorem Qy {d:Dcd} (h:d.stack.length≠0):Gs d∈d.stack:=by
 unfold Gs
 rw[List.getD_eq_getElem?_getD,List.getElem?_eq_getElem (by omega)]
 exact List.getElem_mem _
theorem Qz {d e:Dcd} {u:Int} (h:A7 d=true) (hk:known d.plan.shapes d.field=true) (h8:d.field.kind=8) (hn:d.stack.length≠0) (hd:(d.stack.length:Int)<d.plan.deep) (h0:0≤u) (hu:u≤Dh d) (hp:e.plan=d.plan)
  (hs:e.stack=d.stack.set (d.stack.length-1) ⟨(Gs d).msg,Dh d-u⟩++[⟨d.field.msg,u⟩]):A7 e=true:=by
 have hb:=B0 h
 have hf:=Zf (V2 (B6 hb.1).2.1 hk)
 have hm:=hf.2.2.2.2.1 h8
 have hl:=hb.2.2.2 _ (Qy hn)
 have ht:Dh d=(Gs d).left:=rfl
 simp only[Ew,Bool.and_eq_true] at hl
 have hl1:=As hl.1;have hl2:=As hl.2
 refine Jq (by rw[hp];exact hb.1) (by rw[hs,hp];simp;omega) fun l hl=>?_
 rw[hs] at hl
 rw[hp]
 rcases List.mem_append.1 hl with hl|hl
 ·rcases List.mem_or_eq_of_mem_set hl with hl|hl
  ·exact hb.2.2.2 l hl
  ·subst hl;simp[Ew,Am];omega
 ·simp at hl;subst hl;simp[Ew,Am];omega
theorem Gk {d:Dcd} (h:A7 d=true):0≤Dh d∧Dh d≤2000:=by
 by_cases hn:d.stack.length=0
 ·rw[W0 (List.eq_nil_of_length_eq_zero hn)];omega
 ·have hl:=(B0 h).2.2.2 _ (Qy hn)
  have ht:Dh d=(Gs d).left:=rfl
  simp only[Ew,Bool.and_eq_true] at hl
  have:=As hl.2;omega
theorem Hs {d:Dcd} {x:Lev} (h:d.stack[d.stack.length-1]? =some x):Gs d=x∧Dh d=x.left:=by
 have e:Gs d=x:=by unfold Gs;exact Ww h
 exact⟨e,by show (Gs d).left=_;rw[e]⟩
theorem Ahn (u:Int):0≤Aj u∧Aj u≤7:=by unfold Aj;split<;>omega
theorem Tc {s:Scn} (h:C7 s=true) (h0:0≤s.bits):0≤s.have_∧s.have_≤9∧s.bits<2 ^ (7*s.have_.toNat):=by
 simp only[C7,Bool.and_eq_true,decide_eq_true_eq] at h
 have hw:=As h.1
 refine⟨hw.1,hw.2,?_⟩
 have h2:=h.2
 rw[show min (Int.toNat (7*s.have_)) 64=7*s.have_.toNat by omega] at h2
 have hp:(0:Int)<2 ^ (7*s.have_.toNat):=Int.pow_pos (by decide)
 rw[Int.fdiv_eq_ediv_of_nonneg _ (Int.le_of_lt hp)] at h2
 apply Int.not_le.1
 intro hle
 have:=Int.le_ediv_of_mul_le hp (show 1*2 ^ (7*s.have_.toNat)≤s.bits by rw[Int.one_mul];exact hle)
 omega
theorem Aas {c:Int} {h:Int} (h0:0≤h) (h9:h≤9) (c0:0≤c) (c1:c≤127) (hc:h=9→c≤1):0≤c*2 ^ (7*h.toNat)∧c*2 ^ (7*h.toNat)+2 ^ (7*h.toNat)≤18446744073709551616:=by
 obtain ⟨k,rfl⟩:=Int.eq_ofNat_of_zero_le h0
 have hk:k≤9:=by omega
 rw[Int.toNat_natCast]
 rcases (show k=0∨k=1∨k=2∨k=3∨k=4∨k=5∨k=6∨k=7∨k=8∨k=9 by omega) with rfl|rfl|rfl|rfl|rfl|rfl|rfl|rfl|rfl|rfl<;>simp at * <;>omega
theorem Ra {c h:Int} (h0:0≤h) (h9:h≤9) (c0:0≤c) (c1:c≤127) (hc:h=9→c≤1):(.v (.c (.int .u64 (IntKind.u64.wrap (c*2 ^ min (Int.toNat (7*h)) 64)))):S)= .v (.c (.int .u64 (c*2 ^ (7*h.toNat)))):=by
 have:=Aas h0 h9 c0 c1 hc
 have hp:(0:Int)<2 ^ (7*h.toNat):=Int.pow_pos (by decide)
 rw[show min (Int.toNat (7*h)) 64=7*h.toNat by omega]
 exact Bv Q2 Q2
theorem Aat {u c h:Int} (h0:0≤h) (h9:h≤9) (c0:0≤c) (c1:c≤127) (hc:h=9→c≤1) (u0:0≤u) (u1:u<2 ^ (7*h.toNat)):(.v (.c (.int .u64 (IntKind.u64.wrap (((BitVec.ofInt 64 u|||BitVec.ofInt 64 (c*2 ^ (7*h.toNat))).toNat:Nat):Int)))):S)= .v (.c (.int .u64 (u+c*2 ^ (7*h.toNat)))):=by
 have:=Aas h0 h9 c0 c1 hc
 rw[Ajn (k:=7*h.toNat) (c:=c) u0 u1 c0 rfl (by omega)]
 exact Bv Q2 Q2
theorem X7 {u c h:Int} (h0:0≤h) (h9:h≤9) (c0:0≤c) (c1:c≤127) (hc:h=9→c≤1) (u0:0≤u) (u1:u<2 ^ (7*h.toNat)):(.v (.c (.int .u64 (IntKind.u64.wrap (u+c*2 ^ (7*h.toNat))))):S)= .v (.c (.int .u64 (u+c*2 ^ (7*h.toNat)))):=by
 have:=Aas h0 h9 c0 c1 hc
 exact Bv Q2 Q2
theorem N9 {s:Scn} {b:Int} (h0:0≤s.bits) (h1:s.bits≤18446744073709551615):0≤(Af s b).1.bits∧(Af s b).1.bits≤18446744073709551615:=by
 unfold Af
 split
 ·exact⟨h0,h1⟩
 ·rename_i h
  simp only[not_or] at h
  have hs:C7 s=true:=by simpa using h.1
  have hb:=As (show Am b 0 255=true by simpa using h.2.1)
  have hk:=Tc hs h0
  have hc:=Aas (c:=b % 128) hk.1 hk.2.1 (by omega) (by omega) (fun h9=>by have:=h.2.2;omega)
  simp only;omega
structure MW (d:Dcd):Prop where
 lv:A7 d=true
 kn:d.field=fld0∨known d.plan.shapes d.field=true
 b0:0≤d.scan.bits∧d.scan.bits≤18446744073709551615
 at_:0≤d.at_∧d.at_≤1000000001
 want: -1≤d.want∧d.want≤2001
theorem X8 {s:Scn} {b:Int} (h0:0≤s.bits∧s.bits≤18446744073709551615):0≤(Br s b).bits∧(Br s b).bits≤18446744073709551615:=by
 unfold Br
 split
 ·simp only
  rw[IntKind.wrap_u64]
  have:=Int.emod_nonneg (s.bits+IntKind.u64.wrap (b*2 ^ min (Int.toNat (8*s.have_)) 64)) (show (18446744073709551616:Int)≠0 by decide)
  have:=Int.emod_lt_of_pos (s.bits+IntKind.u64.wrap (b*2 ^ min (Int.toNat (8*s.have_)) 64)) (show (0:Int)<18446744073709551616 by decide)
  omega
 ·exact h0
theorem MW.step {d:Dcd} (h:MW d) (hs:d.stack.length=0∨1≤Dh d) (ha:d.at_≤1000000000) (hw:(d.mode=6∨d.mode=7∨d.mode=8)→0≤d.want):MW (Di d):=by
 have hb:=B0 h.lv
 refine⟨?_,h.kn,h.b0,?_,?_⟩
 ·refine Jq (d:=Di d) hb.1 ?_ ?_
  ·show (((Di d).stack.length:Nat):Int)≤d.plan.deep
   unfold Di;simp only;split
   ·exact hb.2.1
   ·rw[List.length_set];exact hb.2.1
  ·intro l hl
   show Ew (d.plan.shapes.length:Int) l=true
   unfold Di at hl
   simp only at hl
   split at hl
   ·exact hb.2.2.2 l hl
   ·rename_i hn
    rcases List.mem_or_eq_of_mem_set hl with hl|hl
    ·exact hb.2.2.2 l hl
    ·have hx:=hb.2.2.2 _ (Qy hn)
     have ht:Dh d=(Gs d).left:=rfl
     simp only[Ew,Bool.and_eq_true] at hx
     have h1:=As hx.1;have h2:=As hx.2
     subst hl;simp[Ew,Am];omega
 ·have:=h.at_;show 0≤d.at_+1∧d.at_+1≤1000000001;omega
 ·have:=h.want
  show-1≤(if d.mode=6∨d.mode=7∨d.mode=8 then d.want-1 else d.want)∧(if d.mode=6∨d.mode=7∨d.mode=8 then d.want-1 else d.want)≤2001
  split
  ·rename_i hm;have:=hw hm;omega
  ·exact this
theorem E7 (m:Mac) (u:Int):(Bn m u).out.length≤m.out.length+1:=by
 unfold Bn
 simp only
 split<;>simp
theorem Rb (m:Mac) (u:Int):(Bn m u).d.at_=m.d.at_:=rfl
theorem Lz (m:Mac) (u:Int):(Bn m u).d.want=m.d.want:=rfl
def Ab (j0:Nat) (j5:Nat) (j27:Nat) (x:Mac):List C:=[.own j0,.int .i64 x.d.plan.root,.int .i64 x.d.plan.deep,.int .i64 x.d.plan.most,.int .i64 x.d.mode,.own j5,.int .u64 x.d.scan.bits,.int .i64 x.d.scan.have_,.int .i64 x.d.start,.int .i64 x.d.at_,.int .i64 x.d.field.number,.int .i64 x.d.field.kind,.bool x.d.field.rep,.bool x.d.field.packed,.int .i64 x.d.field.msg,.int .i64 x.d.wire,.int .i64 x.d.want,.int .i64 x.d.utf.want,.int .i64 x.d.utf.low,.int .i64 x.d.utf.high,.int .i64 x.d.end_.kind,.int .i64 x.d.end_.field,.int .u64 x.d.end_.bits,.int .i64 x.d.end_.len,.str x.d.end_.text,.int .i64 x.d.end_.code,.int .i64 x.d.end_.at_,.own j27]
def Fg (p:Pln):Dcd:=if Es p=true then ⟨p,1,[],⟨0,0⟩,0,0,⟨0,0,false,false,0⟩,0,0,⟨0,0,0⟩,⟨0,0,0,0,[],0,0⟩⟩ else ⟨⟨[],0,0,0⟩,0,[],⟨0,0⟩,0,0,⟨0,0,false,false,0⟩,0,0,⟨0,0,0⟩,⟨0,0,0,0,[],0,0⟩⟩
theorem D7 {l:List Shp} (h:Do l=true): ∀e∈l,e.fields.length≤1048576:=fun e he=>by have:=Dj h e he;omega
theorem X9 {m:Mac} (h1:m.d.mode=6) (h2:m.d.want<1) (h3:0<m.d.utf.want):Ac m=A0 m 5 m.d.at_:=by
 have hc:A2 m=some (A0 m 5 m.d.at_):=by unfold A2;rw[if_pos ⟨h1,h2⟩,if_pos h3]
 rw[Cr hc,B5]
 unfold A2 A0 A1
 simp
theorem Ug {d:Dcd} {o:List Ev} (h2:d.mode=2) (hs:d.scan.have_=0) (hl:0<d.stack.length) (ht:Dh d=0) (h1:d.stack.length=1):A2 ⟨d,o⟩=some ⟨⟨d.plan,1,d.stack.take (d.stack.length-1),d.scan,d.start,d.at_,d.field,d.wire,d.want,d.utf,d.end_⟩,o++[J7]⟩:=by
 unfold A2
 simp only
 rw[if_neg (by omega),if_neg (by omega),if_pos ⟨h2,hs,hl,ht⟩,if_pos h1]
theorem Uh {d:Dcd} {o:List Ev} (h2:d.mode=2) (hs:d.scan.have_=0) (hl:0<d.stack.length) (ht:Dh d=0) (h1:d.stack.length≠1):A2 ⟨d,o⟩=some ⟨⟨d.plan,d.mode,d.stack.take (d.stack.length-1),d.scan,d.start,d.at_,d.field,d.wire,d.want,d.utf,d.end_⟩,o++[Ahm]⟩:=by
 unfold A2
 simp only
 rw[if_neg (by omega),if_neg (by omega),if_pos ⟨h2,hs,hl,ht⟩,if_neg h1]
theorem Ad6 {d:Dcd} {o:List Ev} {u:Int} (h:d.mode=8) (hf:d.field≠fld0):Bn ⟨d,o⟩ u=⟨d,o++[Eu d.field u]⟩:=by
 cases d
 unfold Bn
 simp only at h hf ⊢
 rw[if_pos h,if_neg hf,h]
theorem Ad7 {d:Dcd} {o:List Ev} {u:Int} (h:d.mode=8) (hf:d.field=fld0):Bn ⟨d,o⟩ u=⟨d,o⟩:=by
 cases d
 unfold Bn
 simp only at h hf ⊢
 rw[if_pos h,if_pos hf,h]
theorem Rw {d:Dcd} (h:Cj d=true):A7 d=true∧(1≤d.mode∧d.mode≤9)∧(0≤d.at_∧d.at_≤1000000000)∧(0≤d.start∧d.start≤d.at_)∧Eo d.utf=true∧Dx d.wire=true∧(d.field=fld0∨known d.plan.shapes d.field=true)∧Xj d=true∧J6 d=true∧Hj d=true∧Hk d=true∧J1 d=true:=by
 simp only[Cj,Bool.and_eq_true,Bool.or_eq_true,decide_eq_true_eq] at h
 obtain ⟨⟨⟨⟨⟨⟨⟨⟨⟨⟨⟨h1,h2⟩,h3⟩,h4⟩,h5⟩,h6⟩,h7⟩,h8⟩,h9⟩,h10⟩,h11⟩,h12⟩:=h
 exact⟨h1,As h2,As h3,As h4,h5,h6,h7,h8,h9,h10,h11,h12⟩
theorem Zp {d:Dcd} (h:Hj d=true):((d.mode=6∨d.mode=7∨d.mode=8)→1≤d.want∧d.want≤Dh d)∧(¬(d.mode=6∨d.mode=7∨d.mode=8)→d.want=0):=by
 unfold Hj at h
 split at h
 ·rename_i hm;exact⟨fun _=>As h,fun h=>absurd hm h⟩
 ·rename_i hm;exact⟨fun h=>absurd h hm,fun _=>of_decide_eq_true h⟩
theorem W3 {d:Dcd} (h:Cj d=true) (hb:0≤d.scan.bits∧d.scan.bits≤18446744073709551615):MW d:=by
 obtain ⟨h1,h2,h3,h4,h5,h6,h7,h8,h9,h10,h11,h12⟩:=Rw h
 have ht:=Gk h1
 have hw:=Zp h10
 refine⟨h1,h7,hb,by omega,?_⟩
 by_cases hm:d.mode=6∨d.mode=7∨d.mode=8
 ·have:=hw.1 hm;omega
 ·have:=hw.2 hm;omega
theorem W4 {d:Dcd} (h:Cj d=true) (h9:d.mode≠9):(d.stack.length=0∨1≤Dh d)∧d.at_≤1000000000∧((d.mode=6∨d.mode=7∨d.mode=8)→0≤d.want)∧(d.mode=8→Qk d.field=true)∧d.end_=ev0:=by
 obtain ⟨h1,h2,h3,h4,h5,h6,h7,h8,hs,h10,h11,h12⟩:=Rw h
 have hw:=Zp h10
 refine⟨?_,by omega,fun hm=>by have:=hw.1 hm;omega,fun hm=>?_,?_⟩
 ·unfold J6 at hs
  by_cases hm1:d.mode=1
  ·rw[if_pos hm1] at hs;left;rw[of_decide_eq_true hs];rfl
  ·rw[if_neg hm1,if_neg h9] at hs;exact .inr (of_decide_eq_true hs)
 ·unfold Hk at h11
  rw[if_neg (by omega),if_pos hm] at h11
  exact h11
 ·unfold Xj at h8
  rw[if_neg h9] at h8
  exact of_decide_eq_true h8
def Eb (d:Dcd):Bool:= !decide (d.mode=9)&&decide (d.at_<1000000000)
def B3 (d:Dcd) (b:Int):Mac:=if Cj d=true∧Eb d=true∧Am b 0 255=true then D9 ⟨d,[]⟩ b else ⟨d,[]⟩
theorem Aia {f:Fld} (h:Qk f=true):f≠fld0:=fun e=>by subst e;simp[Qk,fld0] at h
theorem Ya (m:Mac):(Ac m).d.plan=m.d.plan∧(Ac m).d.stack.length≤m.d.stack.length:=by
 suffices ∀(k:Nat) (m:Mac),wM m≤k→(Ac m).d.plan=m.d.plan∧(Ac m).d.stack.length≤m.d.stack.length from this _ m (Nat.le_refl _)
 intro k
 induction k with
 |zero=>
  intro m hk
  cases h:A2 m with
  |none=>rw[B5 h];exact⟨rfl,Nat.le_refl _⟩
  |some q=>have:=(Ca h).1;omega
 |succ k ih=>
  intro m hk
  cases h:A2 m with
  |none=>rw[B5 h];exact⟨rfl,Nat.le_refl _⟩
  |some q=>
   have h1:=Ca h
   have h2:=Jb h
   have h3:=ih q (by omega)
   rw[Cr h]
   exact⟨h3.1.trans h2.2,Nat.le_trans h3.2 h2.1⟩
structure Gr (m q:Mac):Prop where
 plan:q.d.plan=m.d.plan
 stack:q.d.stack.length≤m.d.stack.length+1
 out:q.out.length≤m.out.length+m.d.stack.length+6
theorem Gr.fail (m:Mac) (c a:Int):Gr m (A0 m c a):=⟨rfl,Nat.le_succ _,by simp only[A0,List.length_append,List.length_cons,List.length_nil];omega⟩
theorem Gr.settle {m x:Mac} (hp:x.d.plan=m.d.plan) (hs:x.d.stack.length≤m.d.stack.length+1) (ho:x.out.length≤m.out.length+2):Gr m (Ac x):=by
 have h1:=Ya x
 have h2:=Uf x
 have h3:=Acw x
 exact⟨h1.1.trans hp,by omega,by omega⟩
theorem Gr.of {m x q:Mac} (h:Gr x q) (hp:x.d.plan=m.d.plan) (hs:x.d.stack.length=m.d.stack.length) (ho:x.out.length=m.out.length):Gr m q:=⟨h.plan.trans hp,by have:=h.stack;omega,by have:=h.out;omega⟩
theorem Ad8 (m:Mac) (u:Int):Gr m (Cs m u):=by
 unfold Cs
 split
 ·exact Gr.fail _ _ _
 ·exact Gr.settle rfl (by simp) (by simp)
theorem Aib (m:Mac) (u:Int):Gr m (D6 m u):=by
 unfold D6
 split
 ·exact Gr.fail _ _ _
 ·split
  ·exact Gr.fail _ _ _
  ·split
   ·exact Gr.fail _ _ _
   ·split
    ·exact(Gr.fail _ _ _).of rfl rfl rfl
    ·exact⟨rfl,Nat.le_succ _,by simp only;omega⟩
theorem Aga (m:Mac) (u:Int):Gr m (Cg m u):=by
 unfold Cg
 split
 ·exact Gr.fail _ _ _
 ·split
  ·exact Gr.settle rfl (Nat.le_succ _) (by simp)
  ·split
   ·split
    ·exact Gr.fail _ _ _
    ·exact Gr.settle rfl (by simp) (by simp)
   ·split
    ·exact Gr.settle rfl (Nat.le_succ _) (by simp)
    ·split
     ·exact Gr.fail _ _ _
     ·exact Gr.settle rfl (Nat.le_succ _) (by simp)
theorem Aic (m:Mac) (b a:Int):Gr m (Bo m b a):=by
 unfold Bo
 split
 ·exact(Gr.fail _ _ _).of rfl rfl rfl
 ·split
  ·unfold W1
   split
   ·exact(Gr.fail _ _ _).of rfl rfl rfl
   ·exact⟨rfl,Nat.le_succ _,by simp only;omega⟩
  ·split
   ·exact(Ad8 _ _).of rfl rfl rfl
   ·split
    ·exact(Aib _ _).of rfl rfl rfl
    ·split
     ·exact(Aga _ _).of rfl rfl rfl
     ·exact Gr.settle rfl (Nat.le_succ _) (Nat.le_trans (E7 _ _) (Nat.le_succ _))
theorem Aid (m:Mac) (b:Int):Gr m (C9 m b):=by
 unfold C9
 split
 ·exact⟨rfl,Nat.le_succ _,by simp only;omega⟩
 ·split
  ·have:=E7 ⟨G6 m.d scn0,m.out⟩ (Br m.d.scan b).bits
   exact⟨rfl,Nat.le_succ _,by simp only[A0,List.length_append,List.length_cons,List.length_nil] at this ⊢;omega⟩
  ·exact Gr.settle rfl (Nat.le_succ _) (Nat.le_trans (E7 _ _) (Nat.le_succ _))
theorem Agb (m:Mac) (b:Int):Gr m (Ef m b):=by
 unfold Ef
 split
 ·split
  ·exact Gr.fail _ _ _
  ·exact Gr.settle rfl (Nat.le_succ _) (by simp)
 ·exact Gr.settle rfl (Nat.le_succ _) (by simp)
theorem Jr (d:Dcd):(Di d).stack.length=d.stack.length:=by unfold Di;simp only;split<;>simp
theorem Agc (m:Mac) (b:Int):Gr m (D9 m b):=by
 unfold D9
 split
 ·exact(Agb _ _).of rfl (Jr _) rfl
 ·split
  ·exact Gr.settle rfl (by show (Di m.d).stack.length≤_;rw[Jr];omega) (by simp)
  ·split
   ·exact(Aid _ _).of rfl (Jr _) rfl
   ·exact(Aic _ _ _).of rfl (Jr _) rfl
theorem W5 (d:Dcd) (b:Int):Gr ⟨d,[]⟩ (B3 d b):=by
 unfold B3
 split
 ·exact Agc _ _
 ·exact⟨rfl,Nat.le_succ _,by simp⟩
theorem Aby {d:Dcd} {b:Int} :(B3 d b).d.plan=d.plan∧(B3 d b).d.stack.length≤d.stack.length+1:=⟨(W5 d b).plan,(W5 d b).stack⟩
theorem Ad9 {d:Dcd} {b:Int} :(B3 d b).out.length≤d.stack.length+6:=by have:=(W5 d b).out;simp only[List.length_nil] at this;omega
theorem B7 (n:Int) (lo:Int) (hi:Int):Fun Tryz.prog 79 [vI n,vI lo,vI hi] [] (.v (vB (Am n lo hi))) []:=by
 have hN:Bg=274877906944:=rfl
 refine Ar Tryz.func79 Q4 Q4 (w:=(.br (.leaf () []) (.leaf () []),((decide (lo≤n))=true→(.v (vB (decide (n≤hi))):S)= .v (vB (Am n lo hi))∧([]:List Blk)=[])∧((decide (lo≤n))=false→(.v (vB false):S)= .v (vB (Am n lo hi))∧([]:List Blk)=[]))) Q4 ?_
 refine dsp (fun h1 p1=>?_) fun h1 p1=>?_
 exact⟨(congrArg S.v (congrArg V.c (congrArg C.bool (by simp[Am, *])))),rfl⟩
 exact⟨(congrArg S.v (congrArg V.c (congrArg C.bool (by simp[Am, *])))),rfl⟩
theorem Ba (n:Int) (lo:Int) (hi:Int):Fun Tryz.prog 59 [vI n,vI lo,vI hi] [] (.v (vB (Am n lo hi))) []:=by
 have hN:Bg=274877906944:=rfl
 refine Ar Tryz.func59 Q4 Q4 (w:=(.br (.leaf () []) (.leaf () []),((decide (lo≤n))=true→(.v (vB (decide (n≤hi))):S)= .v (vB (Am n lo hi))∧([]:List Blk)=[])∧((decide (lo≤n))=false→(.v (vB false):S)= .v (vB (Am n lo hi))∧([]:List Blk)=[]))) Q4 ?_
 refine dsp (fun h1 p1=>?_) fun h1 p1=>?_
 exact⟨(congrArg S.v (congrArg V.c (congrArg C.bool (by simp[Am, *])))),rfl⟩
 exact⟨(congrArg S.v (congrArg V.c (congrArg C.bool (by simp[Am, *])))),rfl⟩
theorem Gj (a:Int) (b:Int):Fun Tryz.prog 208 [vI a,vI b] [] (.v (vI (max a b))) []:=by
 have hN:Bg=274877906944:=rfl
 refine Ar Tryz.func208 Q4 Q4 (w:=(.br (.leaf () []) (.leaf () []),((decide (b<a))=true→(.v (vI a):S)= .v (vI (max a b))∧([]:List Blk)=[])∧((decide (b<a))=false→(.v (vI b):S)= .v (vI (max a b))∧([]:List Blk)=[]))) Q4 ?_
 refine dsp (fun h1 p1=>?_) fun h1 p1=>?_
 exact⟨(congrArg S.v (congrArg V.c (congrArg (C.int .i64) Q2))),rfl⟩
 exact⟨(congrArg S.v (congrArg V.c (congrArg (C.int .i64) Q2))),rfl⟩
theorem Abz (n:Int):Fun Tryz.prog 194 [vI n] [] (.v (vB (Dc n))) []:=by
 have hN:Bg=274877906944:=rfl
 refine Ar Tryz.func194 Q4 Q4 (w:=let z1:=Am n 1 536870911;let z2:=Am n 19000 19999;(.seg [.call [] (.v (vB z1)) []] (.br (.seg [.call [] (.v (vB z2)) []] (.leaf () [])) (.leaf () [])),(Fun Tryz.prog 79 [vI n,vI 1,vI 536870911] [] (.v (vB z1)) [])∧(z1=true→(Fun Tryz.prog 79 [vI n,vI 19000,vI 19999] [] (.v (vB z2)) [])∧(.v (vB (!z2)):S)= .v (vB (Dc n))∧([]:List Blk)=[])∧(z1=false→(.v (vB false):S)= .v (vB (Dc n))∧([]:List Blk)=[]))) Q4 ?_
 refine⟨(B7 _ _ _),fun h1=>have p1:=As h1;?_,fun h1=>have p1:=Az h1;?_⟩
 exact⟨(B7 _ _ _),(congrArg S.v (congrArg V.c (congrArg C.bool (by simp[Dc, *])))),rfl⟩
 exact⟨(congrArg S.v (congrArg V.c (congrArg C.bool (by simp[Dc, *])))),rfl⟩
theorem V3 (n:Int):Fun Tryz.prog 191 [vI n] [] (.v (vB (Dc n))) []:=by
 have hN:Bg=274877906944:=rfl
 refine Ar Tryz.func191 Q4 Q4 (w:=let z1:=Am n 1 536870911;let z2:=Am n 19000 19999;(.seg [.call [] (.v (vB z1)) []] (.br (.seg [.call [] (.v (vB z2)) []] (.leaf () [])) (.leaf () [])),(Fun Tryz.prog 59 [vI n,vI 1,vI 536870911] [] (.v (vB z1)) [])∧(z1=true→(Fun Tryz.prog 59 [vI n,vI 19000,vI 19999] [] (.v (vB z2)) [])∧(.v (vB (!z2)):S)= .v (vB (Dc n))∧([]:List Blk)=[])∧(z1=false→(.v (vB false):S)= .v (vB (Dc n))∧([]:List Blk)=[]))) Q4 ?_
 refine⟨(Ba _ _ _),fun h1=>have p1:=As h1;?_,fun h1=>have p1:=Az h1;?_⟩
 exact⟨(Ba _ _ _),(congrArg S.v (congrArg V.c (congrArg C.bool (by simp[Dc, *])))),rfl⟩
 exact⟨(congrArg S.v (congrArg V.c (congrArg C.bool (by simp[Dc, *])))),rfl⟩
theorem Aau (w:Int):Fun Tryz.prog 81 [vI w] [] (.v (vB (Dx w))) []:=by
 have hN:Bg=274877906944:=rfl
 refine Ar Tryz.func81 Q4 Q4 (w:=let z1:=vB (Dx w);let z2:=([]:List Blk);let z3:=(.v (vB true):S);(.br (.leaf () []) (.br (.leaf () []) (.br (.leaf () []) (.leaf () []))),((decide (w=0))=true→z3= .v z1∧z2=[])∧((decide (w=0))=false→((decide (w=1))=true→z3= .v z1∧z2=[])∧((decide (w=1))=false→((decide (w=2))=true→z3= .v z1∧z2=[])∧((decide (w=2))=false→(.v (vB (decide (w=5))):S)= .v z1∧z2=[]))))) Q4 ?_
 refine dsp (fun h1 p1=>?_) fun h1 p1=>?_
 exact⟨(congrArg S.v (congrArg V.c (congrArg C.bool Q73))),rfl⟩
 refine dsp (fun h2 p2=>?_) fun h2 p2=>?_
 exact⟨(congrArg S.v (congrArg V.c (congrArg C.bool Q73))),rfl⟩
 refine dsp (fun h3 p3=>?_) fun h3 p3=>?_
 exact⟨(congrArg S.v (congrArg V.c (congrArg C.bool Q73))),rfl⟩
 exact⟨(congrArg S.v (congrArg V.c (congrArg C.bool Q73))),rfl⟩
theorem Aav (w:Int):Fun Tryz.prog 69 [vI w] [] (.v (vB (Dx w))) []:=by
 have hN:Bg=274877906944:=rfl
 refine Ar Tryz.func69 Q4 Q4 (w:=let z1:=vB (Dx w);let z2:=([]:List Blk);let z3:=(.v (vB true):S);(.br (.leaf () []) (.br (.leaf () []) (.br (.leaf () []) (.leaf () []))),((decide (w=0))=true→z3= .v z1∧z2=[])∧((decide (w=0))=false→((decide (w=1))=true→z3= .v z1∧z2=[])∧((decide (w=1))=false→((decide (w=2))=true→z3= .v z1∧z2=[])∧((decide (w=2))=false→(.v (vB (decide (w=5))):S)= .v z1∧z2=[]))))) Q4 ?_
 refine dsp (fun h1 p1=>?_) fun h1 p1=>?_
 exact⟨(congrArg S.v (congrArg V.c (congrArg C.bool Q73))),rfl⟩
 refine dsp (fun h2 p2=>?_) fun h2 p2=>?_
 exact⟨(congrArg S.v (congrArg V.c (congrArg C.bool Q73))),rfl⟩
 refine dsp (fun h3 p3=>?_) fun h3 p3=>?_
 exact⟨(congrArg S.v (congrArg V.c (congrArg C.bool Q73))),rfl⟩
 exact⟨(congrArg S.v (congrArg V.c (congrArg C.bool Q73))),rfl⟩
theorem Aaw (k:Int):Fun Tryz.prog 195 [vI k] [] (.v (vB (Em k))) []:=by
 have hN:Bg=274877906944:=rfl
 refine Ar Tryz.func195 Q4 Q4 (w:=let z1:=vB (Am k 1 8);(.seg [.call [] (.v z1) []] (.leaf () []),(Fun Tryz.prog 79 [vI k,vI 1,vI 8] [] (.v z1) [])∧(.v z1:S)= .v (vB (Em k))∧([]:List Blk)=[])) Q4 ?_
 exact⟨(B7 _ _ _),(congrArg S.v (congrArg V.c (congrArg C.bool (by rfl)))),rfl⟩
theorem Td (k:Int):Fun Tryz.prog 134 [vI k] [] (.v (vB (Em k))) []:=by
 have hN:Bg=274877906944:=rfl
 refine Ar Tryz.func134 Q4 Q4 (w:=let z1:=vB (Am k 1 8);(.seg [.call [] (.v z1) []] (.leaf () []),(Fun Tryz.prog 59 [vI k,vI 1,vI 8] [] (.v z1) [])∧(.v z1:S)= .v (vB (Em k))∧([]:List Blk)=[])) Q4 ?_
 exact⟨(Ba _ _ _),(congrArg S.v (congrArg V.c (congrArg C.bool (by rfl)))),rfl⟩
theorem Yb (k:Int):Fun Tryz.prog 185 [vI k] [] (.v (vB (C3 k))) []:=by
 have hN:Bg=274877906944:=rfl
 refine Ar Tryz.func185 Q4 Q4 (w:=let z1:=vB (Am k 1 5);(.seg [.call [] (.v z1) []] (.leaf () []),(Fun Tryz.prog 79 [vI k,vI 1,vI 5] [] (.v z1) [])∧(.v z1:S)= .v (vB (C3 k))∧([]:List Blk)=[])) Q4 ?_
 exact⟨(B7 _ _ _),(congrArg S.v (congrArg V.c (congrArg C.bool (by rfl)))),rfl⟩
theorem K0 (k:Int):Fun Tryz.prog 135 [vI k] [] (.v (vB (C3 k))) []:=by
 have hN:Bg=274877906944:=rfl
 refine Ar Tryz.func135 Q4 Q4 (w:=let z1:=vB (Am k 1 5);(.seg [.call [] (.v z1) []] (.leaf () []),(Fun Tryz.prog 59 [vI k,vI 1,vI 5] [] (.v z1) [])∧(.v z1:S)= .v (vB (C3 k))∧([]:List Blk)=[])) Q4 ?_
 exact⟨(Ba _ _ _),(congrArg S.v (congrArg V.c (congrArg C.bool (by rfl)))),rfl⟩
theorem W6 (k:Int):Fun Tryz.prog 174 [vI k] [] (.v (vI (Bs k))) []:=by
 have hN:Bg=274877906944:=rfl
 refine Ar Tryz.func174 Q4 Q4 (w:=let zi:Int→C:= .int .i64;let z1:=List.getD [0,0,0,5,1,2,2,2] (Int.toNat (k-1)) 0;(.seg [.call [] (.v (vB (Em k))) []] (.br (.leaf () []) (.seg [.as 8 (.v (vI (k-1))),.ce (zi z1)] (.leaf () []))),(Fun Tryz.prog 195 [vI k] [] (.v (vB (Em k))) [])∧((!(Em k))=true→(.v (vI (-1)):S)= .v (vI (Bs k))∧([]:List Blk)=[])∧((!(Em k))=false→((.v (vI (IntKind.i64.wrap (k-1))):S)= .v (vI (k-1)))∧((([zi 0,zi 0,zi 0,zi 5,zi 1,zi 2,zi 2,zi 2]:List C)[Int.toNat (k-1)]?)=some (zi z1))∧(k-1<((8:Nat):Int))∧((0:Int)≤k-1)∧(.v (vI z1):S)= .v (vI (Bs k))∧([]:List Blk)=[]))) Q4 ?_
 refine⟨(Aaw _),fun h1=>have q1:=Ap h1;have p1:=Az q1;?_,fun h1=>have q1:=Ao h1;have p1:=As q1;?_⟩
 refine⟨(sI ?_),rfl⟩
 rotate_left
 refine⟨(Ae Q2 Q2),(Aji (l:=[0,0,0,5,1,2,2,2]) (by simp;omega)),Q2,Q2,(sI ?_),rfl⟩
 rotate_left
 all_goals first|(simp[Bs, *];done)|(rcases (show k=1∨k=2∨k=3∨k=4∨k=5∨k=6∨k=7∨k=8 by omega) with rfl|rfl|rfl|rfl|rfl|rfl|rfl|rfl<;>rfl)
theorem Pa (k:Int):Fun Tryz.prog 124 [vI k] [] (.v (vI (Bs k))) []:=by
 have hN:Bg=274877906944:=rfl
 refine Ar Tryz.func124 Q4 Q4 (w:=let z1:=vI (Bs k);let z2:=([]:List Blk);(.seg [.call [] (.v (vB (Em k))) []] (.br (.leaf () []) (.br (.leaf () []) (.br (.leaf () []) (.seg [.call [] (.v (vB (C3 k))) []] (.br (.leaf () []) (.leaf () [])))))),(Fun Tryz.prog 134 [vI k] [] (.v (vB (Em k))) [])∧((!(Em k))=true→(.v (vI (-1)):S)= .v z1∧z2=[])∧((!(Em k))=false→((decide (k=4))=true→(.v (vI 5):S)= .v z1∧z2=[])∧((decide (k=4))=false→((decide (k=5))=true→(.v (vI 1):S)= .v z1∧z2=[])∧((decide (k=5))=false→(Fun Tryz.prog 135 [vI k] [] (.v (vB (C3 k))) [])∧((C3 k)=true→(.v (vI 0):S)= .v z1∧z2=[])∧((C3 k)=false→(.v (vI 2):S)= .v z1∧z2=[])))))) Q4 ?_
 refine⟨(Td _),fun h1=>have q1:=Ap h1;have p1:=Az q1;?_,fun h1=>have q1:=Ao h1;have p1:=As q1;?_⟩
 refine⟨(sI ?_),rfl⟩
 rotate_left
 refine dsp (fun h2 p2=>?_) fun h2 p2=>?_
 refine⟨(sI ?_),rfl⟩
 rotate_left
 refine dsp (fun h3 p3=>?_) fun h3 p3=>?_
 refine⟨(sI ?_),rfl⟩
 rotate_left
 refine⟨(K0 _),fun h4=>have p4:=As h4;?_,fun h4=>have p4:=Az h4;?_⟩
 refine⟨(sI ?_),rfl⟩
 rotate_left
 refine⟨(sI ?_),rfl⟩
 rotate_left
 all_goals first|(simp[Bs, *]<;>(repeat' split)<;>omega)|(subst_vars;rfl)
theorem E0 (w:Int):Fun Tryz.prog 146 [vI w] [] (.v (vI (Ay w))) []:=by
 have hN:Bg=274877906944:=rfl
 refine Ar Tryz.func146 Q4 Q4 (w:=(.br (.leaf () []) (.br (.leaf () []) (.leaf () [])),((decide (w=1))=true→(.v (vI 8):S)= .v (vI (Ay w))∧([]:List Blk)=[])∧((decide (w=1))=false→((decide (w=5))=true→(.v (vI 4):S)= .v (vI (Ay w))∧([]:List Blk)=[])∧((decide (w=5))=false→(.v (vI 0):S)= .v (vI (Ay w))∧([]:List Blk)=[])))) Q4 ?_
 refine dsp (fun h1 p1=>?_) fun h1 p1=>?_
 exact⟨(congrArg S.v (congrArg V.c (congrArg (C.int .i64) (by simp[Ay, *])))),rfl⟩
 refine dsp (fun h2 p2=>?_) fun h2 p2=>?_
 exact⟨(congrArg S.v (congrArg V.c (congrArg (C.int .i64) (by simp[Ay, *])))),rfl⟩
 exact⟨(congrArg S.v (congrArg V.c (congrArg (C.int .i64) (by simp[Ay, *])))),rfl⟩
theorem Dk (w:Int):Fun Tryz.prog 74 [vI w] [] (.v (vI (Ay w))) []:=by
 have hN:Bg=274877906944:=rfl
 refine Ar Tryz.func74 Q4 Q4 (w:=(.br (.leaf () []) (.br (.leaf () []) (.leaf () [])),((decide (w=1))=true→(.v (vI 8):S)= .v (vI (Ay w))∧([]:List Blk)=[])∧((decide (w=1))=false→((decide (w=5))=true→(.v (vI 4):S)= .v (vI (Ay w))∧([]:List Blk)=[])∧((decide (w=5))=false→(.v (vI 0):S)= .v (vI (Ay w))∧([]:List Blk)=[])))) Q4 ?_
 refine dsp (fun h1 p1=>?_) fun h1 p1=>?_
 exact⟨(congrArg S.v (congrArg V.c (congrArg (C.int .i64) (by simp[Ay, *])))),rfl⟩
 refine dsp (fun h2 p2=>?_) fun h2 p2=>?_
 exact⟨(congrArg S.v (congrArg V.c (congrArg (C.int .i64) (by simp[Ay, *])))),rfl⟩
 exact⟨(congrArg S.v (congrArg V.c (congrArg (C.int .i64) (by simp[Ay, *])))),rfl⟩
theorem Aea (f:Fld):Fun Tryz.prog 144 [.agg (Fm f)] [] (.v (vB (Qk f))) []:=by
 have hN:Bg=274877906944:=rfl
 refine Ar Tryz.func144 Q4 Q4 (w:=let z1:=vB (C3 f.kind);(.br (.seg [.call [] (.v z1) []] (.leaf () [])) (.leaf () []),(f.rep=true→(Fun Tryz.prog 185 [vI f.kind] [] (.v z1) [])∧(.v z1:S)= .v (vB (Qk f))∧([]:List Blk)=[])∧(f.rep=false→(.v (vB false):S)= .v (vB (Qk f))∧([]:List Blk)=[]))) Q4 ?_
 refine⟨fun h1=>?_,fun h1=>?_⟩
 exact⟨(Yb _),(congrArg S.v (congrArg V.c (congrArg C.bool (by simp[Qk, *])))),rfl⟩
 exact⟨(congrArg S.v (congrArg V.c (congrArg C.bool (by simp[Qk, *])))),rfl⟩
theorem Ui (f:Fld):Fun Tryz.prog 76 [.agg (Fm f)] [] (.v (vB (Qk f))) []:=by
 have hN:Bg=274877906944:=rfl
 refine Ar Tryz.func76 Q4 Q4 (w:=let z1:=vB (C3 f.kind);(.br (.seg [.call [] (.v z1) []] (.leaf () [])) (.leaf () []),(f.rep=true→(Fun Tryz.prog 135 [vI f.kind] [] (.v z1) [])∧(.v z1:S)= .v (vB (Qk f))∧([]:List Blk)=[])∧(f.rep=false→(.v (vB false):S)= .v (vB (Qk f))∧([]:List Blk)=[]))) Q4 ?_
 refine⟨fun h1=>?_,fun h1=>?_⟩
 exact⟨(K0 _),(congrArg S.v (congrArg V.c (congrArg C.bool (by simp[Qk, *])))),rfl⟩
 exact⟨(congrArg S.v (congrArg V.c (congrArg C.bool (by simp[Qk, *])))),rfl⟩
theorem Js (f:Fld) (w:Int) (hp1:(0:Int)≤w):Fun Tryz.prog 145 [.agg (Fm f),vI w] [] (.v (vB (Cy f w))) []:=by
 have hN:Bg=274877906944:=rfl
 refine Ar Tryz.func145 Q4 Q4 (w:=let z1:=vB (Cy f w);(.seg [.call [] (.v (vI (Bs f.kind))) []] (.br (.leaf () []) (.br (.seg [.call [] (.v (vB (Qk f))) []] (.leaf () [])) (.leaf () []))),(Fun Tryz.prog 174 [vI f.kind] [] (.v (vI (Bs f.kind))) [])∧((decide (w=Bs f.kind))=true→(.v (vB true):S)= .v z1∧([]:List Blk)=[])∧((decide (w=Bs f.kind))=false→((decide (w=2))=true→(Fun Tryz.prog 144 [.agg (Fm f)] [] (.v (vB (Qk f))) [])∧(.v (vB (Qk f)):S)= .v z1∧([]:List Blk)=[])∧((decide (w=2))=false→(.v (vB false):S)= .v z1∧([]:List Blk)=[])))) Q4 ?_
 refine⟨(W6 _),dsp (fun h1 p1=>?_) fun h1 p1=>?_⟩
 refine⟨(sB ?_),rfl⟩
 rotate_left
 refine dsp (fun h2 p2=>?_) fun h2 p2=>?_
 refine⟨(Aea f),(sB ?_),rfl⟩
 rotate_left
 refine⟨(sB ?_),rfl⟩
 rotate_left
 all_goals first|(simp[Cy, *]<;>(repeat' split)<;>omega)|(simp[Cy,Bs, *]<;>(repeat' split)<;>omega)
theorem Yc (f:Fld) (w:Int) (hp1:(0:Int)≤w):Fun Tryz.prog 75 [.agg (Fm f),vI w] [] (.v (vB (Cy f w))) []:=by
 have hN:Bg=274877906944:=rfl
 refine Ar Tryz.func75 Q4 Q4 (w:=let z2:=vB (Qk f);let z3:=vB (Cy f w);let z4:=Em f.kind;let z5:=([]:List Blk);let z1:=(decide (w=2))=false→(.v (vB false):S)= .v z3∧z5=[];(.seg [.call [] (.v (vB z4)) []] (.br (.seg [.call [] (.v (vI (Bs f.kind))) []] (.br (.leaf () []) (.br (.seg [.call [] (.v z2) []] (.leaf () [])) (.leaf () [])))) (.br (.seg [.call [] (.v z2) []] (.leaf () [])) (.leaf () []))),(Fun Tryz.prog 134 [vI f.kind] [] (.v (vB z4)) [])∧(z4=true→(Fun Tryz.prog 124 [vI f.kind] [] (.v (vI (Bs f.kind))) [])∧((decide (w=Bs f.kind))=true→(.v (vB true):S)= .v z3∧z5=[])∧((decide (w=Bs f.kind))=false→((decide (w=2))=true→(Fun Tryz.prog 76 [.agg (Fm f)] [] (.v z2) [])∧(.v z2:S)= .v z3∧z5=[])∧z1))∧(z4=false→((decide (w=2))=true→(Fun Tryz.prog 76 [.agg (Fm f)] [] (.v z2) [])∧(.v z2:S)= .v z3∧z5=[])∧z1))) Q4 ?_
 refine⟨(Td _),fun h1=>have p1:=As h1;?_,fun h1=>have p1:=Az h1;?_⟩
 refine⟨(Pa _),dsp (fun h2 p2=>?_) fun h2 p2=>?_⟩
 refine⟨(sB ?_),rfl⟩
 rotate_left
 refine dsp (fun h3 p3=>?_) fun h3 p3=>?_
 refine⟨(Ui f),(sB ?_),rfl⟩
 rotate_left
 refine⟨(sB ?_),rfl⟩
 rotate_left
 refine dsp (fun h2 p2=>?_) fun h2 p2=>?_
 refine⟨(Ui f),(sB ?_),rfl⟩
 rotate_left
 refine⟨(sB ?_),rfl⟩
 rotate_left
 all_goals first|(simp[Cy, *]<;>(repeat' split)<;>omega)|(simp[Cy,Bs, *]<;>(repeat' split)<;>omega)
structure L0 where
 u:Int
 out:List Int
def L3 (u:Int):Fam:=⟨L0,fun q1=>[(0,.v (.c (.int .u64 q1.u))),(3,.v (vO 0))],fun q1=>[.lst .u8 q1.out],fun q1=>(0:Int)≤q1.u∧q1.u≤18446744073709551615∧List.map Bc q1.out++Dp q1.u=Dp u∧q1.out.length+List.length (Dp q1.u)≤10,fun q1=>q1.u.toNat⟩
theorem Te (u:Int) (hp1:(0:Int)≤u∧u≤18446744073709551615):Fun Tryz.prog 103 [.c (.int .u64 u)] [] (.v (vT (Dp u))) []:=by
 have hN:Bg=274877906944:=rfl
 refine Ar Tryz.func103 Q4 Q4 (w:=let z2:=L3 u;(.seg [.ty .u8,.at 0,.keep [0,3],.sel [0]] (.loop z2 fun q1=> .br (.seg [.as 9 (.v (.c (.int .u64 (q1.u % 128)))),.as 10 (.v (.c (.int .u64 (q1.u % 128+128)))),.as 11 (.v (.c (.int .u8 (q1.u % 128+128)))),.ty .u8,.ty .u8,.as 15 (.v (.c (.int .u64 (q1.u / 128)))),.at 0,.keep [0,3],.sel [2]] (.next)) (.seg [.as 18 (.v (.c (.int .u8 q1.u))),.ty .u8,.ty .u8] (.leaf () []))),z2.Has [(0,.v (.c (.int .u64 u))),(3,.v (vO 0))] [.lst .u8 ([]:List Int)]∧∀q1,z2.inv q1→(let z1:=q1.u % 128+128;((decide (127<q1.u))=true→((128:Int)≠0)∧((.v (.c (.int .u64 (Int.tmod q1.u 128))):S)= .v (.c (.int .u64 (q1.u % 128))))∧((.v (.c (.int .u64 (IntKind.u64.wrap ((q1.u % 128)+128)))):S)= .v (.c (.int .u64 z1)))∧((.v (.c (.int .u8 (IntKind.u8.wrap z1))):S)= .v (.c (.int .u8 z1)))∧(q1.out.length+List.length [q1.u % 128+128]≤Bg)∧((128:Int)≠0)∧((.v (.c (.int .u64 (IntKind.u64.wrap (Int.tdiv q1.u 128)))):S)= .v (.c (.int .u64 (q1.u / 128))))∧z2.Nxt q1 [(0,.v (.c (.int .u64 (q1.u / 128)))),(3,.v (vO 0))] [.lst .u8 (q1.out++[q1.u % 128+128])])∧((decide (127<q1.u))=false→((.v (.c (.int .u8 (IntKind.u8.wrap (q1.u)))):S)= .v (.c (.int .u8 q1.u)))∧(q1.out.length+List.length [q1.u]≤Bg)∧(.v (vT (List.map Bc (q1.out++[q1.u]))):S)= .v (vT (Dp u))∧([]:List Blk)=[])))) Q4 ?_
 refine⟨Bk (j:=(⟨u,([]:List Int)⟩:L0)) rfl rfl (by dsimp only[L3];exact⟨by omega,by omega,by simp,by have:=Aaq (u:=u) Q2;unfold J5 at this;simp;omega⟩),fun (q1:L0) hq_q1=>?_⟩
 have hi_q1:(0:Int)≤q1.u∧q1.u≤18446744073709551615∧List.map Bc q1.out++Dp q1.u=Dp u∧q1.out.length+List.length (Dp q1.u)≤10:=hq_q1
 obtain ⟨v1,v2,v3,v4⟩:=hi_q1
 refine dsp (fun h1 p1=>?_) fun h1 p1=>?_
 exact⟨Q24,(Wx Q2),(Bv Q2 Q2),(Kx Q2 Q2),(by have:=Vz q1.u;simp;omega),Q24,(Ua Q2 Q2 Q24),Bd (j:=(⟨q1.u / 128,q1.out++[q1.u % 128+128]⟩:L0)) rfl rfl (by dsimp only[L3];exact⟨by omega,by omega,by rw[←v3,Vy (u:=q1.u) (by omega) (by omega)];simp[Bc],by rw[Vy (u:=q1.u) (by omega) (by omega)] at v4;simp at v4 ⊢;omega⟩) (by dsimp only[L3];omega)⟩
 refine⟨(Kx Q2 Q2),(by have:=Vz q1.u;simp;omega),(congrArg S.v (congrArg V.c (congrArg C.str ?_))),rfl⟩
 rotate_left
 all_goals rw[←v3,X5 (u:=q1.u) (by omega) (by omega)];simp[Bc]
structure Afm where
 u:Int
 k:Nat
structure Afn where
 u:Int
 k:Nat
structure Aie where
 u:Int
 v:Nat
structure Aif where
 u:Int
 i:Int
theorem Ck (n:Int) (w:Int):Fun Tryz.prog 206 [vI n,vI w] [] (.v (.c (.int .u64 (Co n w)))) []:=by
 have hN:Bg=274877906944:=rfl
 refine Ar Tryz.func206 Q4 Q4 (w:=let z1:=(8*n)+w;let z2:=Am n 1 536870911;let z3:=Am w 0 7;(.seg [.call [] (.v (vB z2)) []] (.br (.leaf () []) (.seg [.call [] (.v (vB z3)) []] (.br (.leaf () []) (.seg [.as 14 (.v (vI (8*n))),.as 16 (.v (vI z1)),.as 17 (.v (.c (.int .u64 z1)))] (.leaf () []))))),(Fun Tryz.prog 59 [vI n,vI 1,vI 536870911] [] (.v (vB z2)) [])∧((!z2)=true→(.v (.c (.int .u64 0)):S)= .v (.c (.int .u64 (Co n w)))∧([]:List Blk)=[])∧((!z2)=false→(Fun Tryz.prog 59 [vI w,vI 0,vI 7] [] (.v (vB z3)) [])∧((!z3)=true→(.v (.c (.int .u64 0)):S)= .v (.c (.int .u64 (Co n w)))∧([]:List Blk)=[])∧((!z3)=false→((.v (vI (IntKind.i64.wrap (8*n))):S)= .v (vI (8*n)))∧((.v (vI (IntKind.i64.wrap z1)):S)= .v (vI z1))∧((.v (.c (.int .u64 (IntKind.u64.wrap z1))):S)= .v (.c (.int .u64 z1)))∧(.v (.c (.int .u64 z1)):S)= .v (.c (.int .u64 (Co n w)))∧([]:List Blk)=[])))) Q4 ?_
 refine⟨(Ba _ _ _),fun h1=>have q1:=Ap h1;have p1:=Az q1;?_,fun h1=>have q1:=Ao h1;have p1:=As q1;?_⟩
 exact⟨(congrArg S.v (congrArg V.c (congrArg (C.int .u64) (by simp[Co, *])))),rfl⟩
 refine⟨(Ba _ _ _),fun h2=>have q2:=Ap h2;have p2:=Az q2;?_,fun h2=>have q2:=Ao h2;have p2:=As q2;?_⟩
 exact⟨(congrArg S.v (congrArg V.c (congrArg (C.int .u64) (by simp[Co, *])))),rfl⟩
 exact⟨(Ae Q2 Q2),(Ae Q2 Q2),(Bv Q2 Q2),(congrArg S.v (congrArg V.c (congrArg (C.int .u64) (by simp[Co, *])))),rfl⟩
theorem Aig (u:Int) (hp1:(0:Int)≤u∧u≤18446744073709551615):Fun Tryz.prog 160 [.c (.int .u64 u)] [] (.tup [vI (Bu u),vI (Aj u),vB (Hr u)]) []:=by
 have hN:Bg=274877906944:=rfl
 refine Ar Tryz.func160 Q4 Q4 (w:=let z1:List V:=[vI (Bu u),vI (Aj u),vB (Hr u)];let z2:=(.v (.c (.int .u64 (Int.fdiv u (2 ^ 3)))):S)= .v (.c (.int .u64 (u / 8)));let z3:=(.tup [vI 0,vI 0,vB false]:S);(.br (.leaf () []) (.seg [.as 9 (.v (.c (.int .u64 (u / 8))))] (.br (.leaf () []) (.seg [.as 13 (.v (.c (.int .u64 (u / 8)))),.as 14 (.v (vI (u / 8))),.as 16 (.v (.c (.int .u64 (u % 8)))),.as 17 (.v (vI (u % 8)))] (.leaf () [])))),((decide (u<8))=true→z3= .tup z1∧([]:List Blk)=[])∧((decide (u<8))=false→((0:Int)≤3)∧z2∧((decide (536870911<u / 8))=true→z3= .tup z1∧([]:List Blk)=[])∧((decide (536870911<u / 8))=false→((0:Int)≤3)∧z2∧((.v (vI (IntKind.i64.wrap (u / 8))):S)= .v (vI (u / 8)))∧((.v (.c (.int .u64 (IntKind.u64.wrap (((BitVec.ofInt 64 u&&&BitVec.ofInt 64 7).toNat:Nat))))):S)= .v (.c (.int .u64 (u % 8))))∧((.v (vI (IntKind.i64.wrap (u % 8))):S)= .v (vI (u % 8)))∧(.tup [vI (u / 8),vI (u % 8),vB true]:S)= .tup z1∧([]:List Blk)=[])))) Q4 ?_
 refine dsp (fun h1 p1=>?_) fun h1 p1=>?_
 refine⟨(congrArg S.tup (Ah (congrArg V.c (congrArg (C.int .i64) ?_)) (Ah (congrArg V.c (congrArg (C.int .i64) ?_)) (Ah (congrArg V.c (congrArg C.bool ?_)) rfl)))),rfl⟩
 rotate_left 3
 refine⟨Q24,(Vu (k:=3) Q24 Q24),dsp (fun h2 p2=>?_) fun h2 p2=>?_⟩
 refine⟨(congrArg S.tup (Ah (congrArg V.c (congrArg (C.int .i64) ?_)) (Ah (congrArg V.c (congrArg (C.int .i64) ?_)) (Ah (congrArg V.c (congrArg C.bool ?_)) rfl)))),rfl⟩
 rotate_left 3
 refine⟨Q24,(Vu (k:=3) Q24 Q24),(Ae Q2 Q2),(Zd (k:=3) Q24 Q24),(Ae Q2 Q2),(congrArg S.tup (Ah (congrArg V.c (congrArg (C.int .i64) ?_)) (Ah (congrArg V.c (congrArg (C.int .i64) ?_)) (Ah (congrArg V.c (congrArg C.bool ?_)) rfl)))),rfl⟩
 rotate_left 3
 all_goals first|((have ht:Hr u=true:=by (simp[Hr,Am];omega));simp[Bu,Aj,ht])|((have ht:Hr u=false:=by (simp[Hr,Am];omega));simp[Bu,Aj,ht])
theorem Aih (u:Int) (hp1:(0:Int)≤u∧u≤18446744073709551615):Fun Tryz.prog 182 [.c (.int .u64 u)] [] (.tup [vI (Bu u),vI (Aj u),vB (Hr u)]) []:=by
 have hN:Bg=274877906944:=rfl
 refine Ar Tryz.func182 Q4 Q4 (w:=let z1:List V:=[vI (Bu u),vI (Aj u),vB (Hr u)];let z2:=(.tup [vI 0,vI 0,vB false]:S);(.br (.leaf () []) (.br (.leaf () []) (.seg [.as 12 (.v (.c (.int .u64 (u / 8)))),.as 13 (.v (vI (u / 8))),.as 15 (.v (.c (.int .u64 (u % 8)))),.as 16 (.v (vI (u % 8)))] (.leaf () []))),((decide (u<8))=true→z2= .tup z1∧([]:List Blk)=[])∧((decide (u<8))=false→((decide (4294967295<u))=true→z2= .tup z1∧([]:List Blk)=[])∧((decide (4294967295<u))=false→((8:Int)≠0)∧((.v (.c (.int .u64 (IntKind.u64.wrap (Int.tdiv u 8)))):S)= .v (.c (.int .u64 (u / 8))))∧((.v (vI (IntKind.i64.wrap (u / 8))):S)= .v (vI (u / 8)))∧((8:Int)≠0)∧((.v (.c (.int .u64 (Int.tmod u 8))):S)= .v (.c (.int .u64 (u % 8))))∧((.v (vI (IntKind.i64.wrap (u % 8))):S)= .v (vI (u % 8)))∧(.tup [vI (u / 8),vI (u % 8),vB true]:S)= .tup z1∧([]:List Blk)=[])))) Q4 ?_
 refine dsp (fun h1 p1=>?_) fun h1 p1=>?_
 refine⟨(congrArg S.tup (Ah (congrArg V.c (congrArg (C.int .i64) ?_)) (Ah (congrArg V.c (congrArg (C.int .i64) ?_)) (Ah (congrArg V.c (congrArg C.bool ?_)) rfl)))),rfl⟩
 rotate_left 3
 refine dsp (fun h2 p2=>?_) fun h2 p2=>?_
 refine⟨(congrArg S.tup (Ah (congrArg V.c (congrArg (C.int .i64) ?_)) (Ah (congrArg V.c (congrArg (C.int .i64) ?_)) (Ah (congrArg V.c (congrArg C.bool ?_)) rfl)))),rfl⟩
 rotate_left 3
 refine⟨Q24,(Ua Q2 Q2 Q24),(Ae Q2 Q2),Q24,(Wx Q2),(Ae Q2 Q2),(congrArg S.tup (Ah (congrArg V.c (congrArg (C.int .i64) ?_)) (Ah (congrArg V.c (congrArg (C.int .i64) ?_)) (Ah (congrArg V.c (congrArg C.bool ?_)) rfl)))),rfl⟩
 rotate_left 3
 all_goals first|((have ht:Hr u=true:=by (simp[Hr,Am];omega));simp[Bu,Aj,ht])|((have ht:Hr u=false:=by (simp[Hr,Am];omega));simp[Bu,Aj,ht])
theorem Aeb (c:Int) (a:Int):Fun Tryz.prog 152 [vI c,vI a] [] (.v (.agg (cEv (A3 c a)))) []:=by
 have hN:Bg=274877906944:=rfl
 refine Ar Tryz.func152 Q4 Q4 (w:=(.leaf () [],(.v (.agg [.int .i64 10,.int .i64 0,.int .u64 0,.int .i64 0,.str [],.int .i64 c,.int .i64 a]):S)= .v (.agg (cEv (A3 c a)))∧([]:List Blk)=[])) Q4 ?_
 have hm1:A3 c a=(⟨10,0,0,0,[],c,a⟩:Ev):=by rfl
 exact⟨Q5,rfl⟩
theorem Aec (c:Int) (a:Int):Fun Tryz.prog 110 [vI c,vI a] [] (.v (.agg (cEv (A3 c a)))) []:=by
 have hN:Bg=274877906944:=rfl
 refine Ar Tryz.func110 Q4 Q4 (w:=(.leaf () [],(.v (.agg [.int .i64 10,.int .i64 0,.int .u64 0,.int .i64 0,.str [],.int .i64 c,.int .i64 a]):S)= .v (.agg (cEv (A3 c a)))∧([]:List Blk)=[])) Q4 ?_
 have hm1:A3 c a=(⟨10,0,0,0,[],c,a⟩:Ev):=by rfl
 exact⟨Q5,rfl⟩
theorem V4 (f:Fld) (u:Int) (hp1:(0:Int)≤u):Fun Tryz.prog 163 [.agg (Fm f),.c (.int .u64 u)] [] (.v (.agg (cEv (Eu f u)))) []:=by
 have hN:Bg=274877906944:=rfl
 refine Ar Tryz.func163 Q4 Q4 (w:=let zi:Int→C:= .int .i64;let z1:List C:=[zi 2,zi f.number,.int .u64 u,zi 0,.str [],zi 0,zi 0];(.br (.br (.leaf () []) (.leaf () [])) (.leaf () []),((decide (f.kind=3))=true→((!decide (u=0))=true→(.v (.agg [zi 2,zi f.number,.int .u64 1,zi 0,.str [],zi 0,zi 0]):S)= .v (.agg (cEv (Eu f u)))∧([]:List Blk)=[])∧((!decide (u=0))=false→(.v (.agg z1):S)= .v (.agg (cEv (Eu f u)))∧([]:List Blk)=[]))∧((decide (f.kind=3))=false→(.v (.agg z1):S)= .v (.agg (cEv (Eu f u)))∧([]:List Blk)=[]))) Q4 ?_
 refine dsp (fun h1 p1=>?_) fun h1 p1=>?_
 refine⟨fun h2=>have q2:=Ap h2;have p2:=of_decide_eq_false q2;?_,fun h2=>have q2:=Ao h2;have p2:=of_decide_eq_true q2;?_⟩
 refine have hm1:Eu f u=(⟨2,f.number,1,0,[],0,0⟩:Ev):=?_;?_
 rotate_left
 exact⟨Q5,rfl⟩
 refine have hm1:Eu f u=(⟨2,f.number,u,0,[],0,0⟩:Ev):=?_;?_
 rotate_left
 exact⟨Q5,rfl⟩
 refine have hm1:Eu f u=(⟨2,f.number,u,0,[],0,0⟩:Ev):=?_;?_
 rotate_left
 exact⟨Q5,rfl⟩
 all_goals simp[Eu, *]<;>omega
theorem Rx (f:Fld) (u:Int) (hp1:(0:Int)≤u):Fun Tryz.prog 127 [.agg (Fm f),.c (.int .u64 u)] [] (.v (.agg (cEv (Eu f u)))) []:=by
 have hN:Bg=274877906944:=rfl
 refine Ar Tryz.func127 Q4 Q4 (w:=let zi:Int→C:= .int .i64;let z1:List C:=[zi 2,zi f.number,.int .u64 u,zi 0,.str [],zi 0,zi 0];(.br (.br (.leaf () []) (.leaf () [])) (.leaf () []),((decide (f.kind=3))=true→((decide (1<u))=true→(.v (.agg [zi 2,zi f.number,.int .u64 1,zi 0,.str [],zi 0,zi 0]):S)= .v (.agg (cEv (Eu f u)))∧([]:List Blk)=[])∧((decide (1<u))=false→(.v (.agg z1):S)= .v (.agg (cEv (Eu f u)))∧([]:List Blk)=[]))∧((decide (f.kind=3))=false→(.v (.agg z1):S)= .v (.agg (cEv (Eu f u)))∧([]:List Blk)=[]))) Q4 ?_
 refine dsp (fun h1 p1=>?_) fun h1 p1=>?_
 refine dsp (fun h2 p2=>?_) fun h2 p2=>?_
 refine have hm1:Eu f u=(⟨2,f.number,1,0,[],0,0⟩:Ev):=?_;?_
 rotate_left
 exact⟨Q5,rfl⟩
 refine have hm1:Eu f u=(⟨2,f.number,u,0,[],0,0⟩:Ev):=?_;?_
 rotate_left
 exact⟨Q5,rfl⟩
 refine have hm1:Eu f u=(⟨2,f.number,u,0,[],0,0⟩:Ev):=?_;?_
 rotate_left
 exact⟨Q5,rfl⟩
 all_goals simp[Eu, *]<;>omega
theorem Aed (u:Utf):Fun Tryz.prog 80 [.agg (Hg u)] [] (.v (vB (Eo u))) []:=by
 have hN:Bg=274877906944:=rfl
 refine Ar Tryz.func80 Q4 Q4 (w:=let z1:=decide (u.low=128)&&decide (u.high=191);let z2:=decide (u.want=2)&&(decide (u.low=160)&&decide (u.high=191));let z3:=decide (u.want=2)&&(decide (u.low=128)&&decide (u.high=159));let z4:=decide (u.want=3)&&(decide (u.low=144)&&decide (u.high=191));let z5:=decide (u.want=0)&&(decide (u.low=0)&&decide (u.high=0));let z6:=(.v (vB true):S);let z7:=([]:List Blk);let z8:=vB (Eo u);let z9:=decide (u.want=3)&&(decide (u.low=128)&&decide (u.high=143));let z10:=decide (u.want=1)&&z1;let z11:=decide (u.want=2)&&z1;let z12:=decide (u.want=3)&&z1;(.br (.seg [.br true] (.leaf () [])) (.br (.seg [.br true] (.leaf () [])) (.br (.seg [.br true] (.leaf () [])) (.br (.seg [.br true] (.leaf () [])) (.br (.seg [.br true] (.leaf () [])) (.br (.seg [.br true] (.leaf () [])) (.br (.seg [.br true] (.leaf () [])) (.br (.leaf () []) (.leaf () [])))))))),(z5=true→(z5=true)∧z6= .v z8∧z7=[])∧(z5=false→(z10=true→(z10=true)∧z6= .v z8∧z7=[])∧(z10=false→(z11=true→(z11=true)∧z6= .v z8∧z7=[])∧(z11=false→(z12=true→(z12=true)∧z6= .v z8∧z7=[])∧(z12=false→(z2=true→(z2=true)∧z6= .v z8∧z7=[])∧(z2=false→(z3=true→(z3=true)∧z6= .v z8∧z7=[])∧(z3=false→(z4=true→(z4=true)∧z6= .v z8∧z7=[])∧(z4=false→(z9=true→z6= .v z8∧z7=[])∧(z9=false→(.v (vB false):S)= .v z8∧z7=[])))))))))) Q4 ?_
 refine⟨fun h1=>have p1:=(Cc dT (Cc dT dT)).1 h1;?_,fun h1=>have p1:=(Cd dT (Cd dT dF)).1 h1;?_⟩
 refine⟨h1,(sB ?_),rfl⟩
 rotate_left
 refine⟨fun h2=>have p2:=(Cc dT (Cc dT dT)).1 h2;?_,fun h2=>have p2:=(Cd dT (Cd dT dF)).1 h2;?_⟩
 refine⟨h2,(sB ?_),rfl⟩
 rotate_left
 refine⟨fun h3=>have p3:=(Cc dT (Cc dT dT)).1 h3;?_,fun h3=>have p3:=(Cd dT (Cd dT dF)).1 h3;?_⟩
 refine⟨h3,(sB ?_),rfl⟩
 rotate_left
 refine⟨fun h4=>have p4:=(Cc dT (Cc dT dT)).1 h4;?_,fun h4=>have p4:=(Cd dT (Cd dT dF)).1 h4;?_⟩
 refine⟨h4,(sB ?_),rfl⟩
 rotate_left
 refine⟨fun h5=>have p5:=(Cc dT (Cc dT dT)).1 h5;?_,fun h5=>have p5:=(Cd dT (Cd dT dF)).1 h5;?_⟩
 refine⟨h5,(sB ?_),rfl⟩
 rotate_left
 refine⟨fun h6=>have p6:=(Cc dT (Cc dT dT)).1 h6;?_,fun h6=>have p6:=(Cd dT (Cd dT dF)).1 h6;?_⟩
 refine⟨h6,(sB ?_),rfl⟩
 rotate_left
 refine⟨fun h7=>have p7:=(Cc dT (Cc dT dT)).1 h7;?_,fun h7=>have p7:=(Cd dT (Cd dT dF)).1 h7;?_⟩
 refine⟨h7,(sB ?_),rfl⟩
 rotate_left
 refine⟨fun h8=>have p8:=(Cc dT (Cc dT dT)).1 h8;?_,fun h8=>have p8:=(Cd dT (Cd dT dF)).1 h8;?_⟩
 refine⟨(sB ?_),rfl⟩
 rotate_left
 refine⟨(sB ?_),rfl⟩
 rotate_left
 all_goals first|(rw[Bool.eq_iff_iff];simp[Eo,M0];omega)|(rw[Bool.eq_iff_iff];simp[Eo,M0,Am];omega)|(simp_all[Eo,M0,Am];done)
theorem Aee (u:Utf):Fun Tryz.prog 68 [.agg (Hg u)] [] (.v (vB (Eo u))) []:=by
 have hN:Bg=274877906944:=rfl
 refine Ar Tryz.func68 Q4 Q4 (w:=let z1:=decide (u.low=128);let z2:=([]:List Blk);let z3:=vB (Eo u);let z4:=decide (u.high=191);let z5:=(.v (vB false):S);let z6:=decide (u.want=0)&&(decide (u.low=0)&&decide (u.high=0));let z7:=decide (u.low=160);let z8:=decide (u.low=144);let z9:=decide (u.want=2);let z10:=decide (u.want=3);let z11:=z4=true→(.v (vB true):S)= .v z3∧z2=[];let z12:=z4=false→(z1=false)∧z5= .v z3∧z2=[];let z13:=vB (Am u.want 1 3);let z14:=(.v (vB (decide (u.high=159))):S);let z15:=(.v (vB (decide (u.high=143))):S);let z16:=z10=false→z5= .v z3∧z2=[];(.br (.leaf () []) (.br (.br (.seg [.call [] (.v z13) []] (.leaf () [])) (.br (.br (.seg [.br false,.br true] (.leaf () [])) (.seg [.br true] (.leaf () []))) (.br (.br (.seg [.br false,.br true] (.leaf () [])) (.seg [.br true] (.leaf () []))) (.leaf () [])))) (.br (.br (.br (.leaf () []) (.seg [.br false] (.leaf () []))) (.seg [.br false] (.leaf () []))) (.br (.br (.br (.leaf () []) (.seg [.br false] (.leaf () []))) (.seg [.br false] (.leaf () []))) (.leaf () [])))),(z6=true→(.v (vB true):S)= .v z3∧z2=[])∧(z6=false→(z1=true→(z4=true→(Fun Tryz.prog 59 [vI u.want,vI 1,vI 3] [] (.v z13) [])∧(.v z13:S)= .v z3∧z2=[])∧(z4=false→(z9=true→(z7=true→(z4=false)∧(z1=true)∧z14= .v z3∧z2=[])∧(z7=false→(z1=true)∧z14= .v z3∧z2=[]))∧(z9=false→(z10=true→(z8=true→(z4=false)∧(z1=true)∧z15= .v z3∧z2=[])∧(z8=false→(z1=true)∧z15= .v z3∧z2=[]))∧z16)))∧(z1=false→(z9=true→(z7=true→z11∧z12)∧(z7=false→(z1=false)∧z5= .v z3∧z2=[]))∧(z9=false→(z10=true→(z8=true→z11∧z12)∧(z8=false→(z1=false)∧z5= .v z3∧z2=[]))∧z16))))) Q4 ?_
 refine⟨fun h1=>have p1:=(Cc dT (Cc dT dT)).1 h1;?_,fun h1=>have p1:=(Cd dT (Cd dT dF)).1 h1;?_⟩
 refine⟨(sB ?_),rfl⟩
 rotate_left
 refine dsp (fun h2 p2=>?_) fun h2 p2=>?_
 refine dsp (fun h3 p3=>?_) fun h3 p3=>?_
 refine⟨(Ba _ _ _),(sB ?_),rfl⟩
 rotate_left
 refine dsp (fun h4 p4=>?_) fun h4 p4=>?_
 refine dsp (fun h5 p5=>?_) fun h5 p5=>?_
 refine⟨h3,h2,(sB ?_),rfl⟩
 rotate_left
 refine⟨h2,(sB ?_),rfl⟩
 rotate_left
 refine dsp (fun h5 p5=>?_) fun h5 p5=>?_
 refine dsp (fun h6 p6=>?_) fun h6 p6=>?_
 refine⟨h3,h2,(sB ?_),rfl⟩
 rotate_left
 refine⟨h2,(sB ?_),rfl⟩
 rotate_left
 refine⟨(sB ?_),rfl⟩
 rotate_left
 refine dsp (fun h3 p3=>?_) fun h3 p3=>?_
 refine dsp (fun h4 p4=>?_) fun h4 p4=>?_
 refine dsp (fun h5 p5=>?_) fun h5 p5=>?_
 refine⟨(sB ?_),rfl⟩
 rotate_left
 refine⟨h2,(sB ?_),rfl⟩
 rotate_left
 refine⟨h2,(sB ?_),rfl⟩
 rotate_left
 refine dsp (fun h4 p4=>?_) fun h4 p4=>?_
 refine dsp (fun h5 p5=>?_) fun h5 p5=>?_
 refine dsp (fun h6 p6=>?_) fun h6 p6=>?_
 refine⟨(sB ?_),rfl⟩
 rotate_left
 refine⟨h2,(sB ?_),rfl⟩
 rotate_left
 refine⟨h2,(sB ?_),rfl⟩
 rotate_left
 refine⟨(sB ?_),rfl⟩
 rotate_left
 all_goals first|(rw[Bool.eq_iff_iff];simp[Eo,M0];omega)|(rw[Bool.eq_iff_iff];simp[Eo,M0,Am];omega)|(simp_all[Eo,M0,Am];done)
theorem Ab0 (b:Int):Fun Tryz.prog 205 [vI b] [] (.tup [.agg (Hg ((A9 b).getD utf0)),vB (A9 b).isSome]) []:=by
 have hN:Bg=274877906944:=rfl
 refine Ar Tryz.func205 Q4 Q4 (w:=let zi:Int→C:= .int .i64;let z2:=([]:List Blk);let z3:=A9 b;let z1:=Hg (z3.getD utf0);let z4:=decide (b=224);let z5:=decide (b=237);let z6:=decide (b=240);let z7:=decide (b=244);let z8:=Am b 194 223;let z9:=Am b 224 239;let z10:=Am b 240 244;let z11:=Am b 0 127;(.seg [.call [] (.v (vB z11)) []] (.br (.leaf () []) (.seg [.call [] (.v (vB z8)) []] (.br (.br (.leaf () []) (.br (.leaf () []) (.br (.leaf () []) (.br (.leaf () []) (.leaf () []))))) (.seg [.call [] (.v (vB z9)) []] (.br (.br (.leaf () []) (.br (.leaf () []) (.br (.leaf () []) (.br (.leaf () []) (.leaf () []))))) (.seg [.call [] (.v (vB z10)) []] (.br (.br (.leaf () []) (.br (.leaf () []) (.br (.leaf () []) (.br (.leaf () []) (.leaf () []))))) (.leaf () [])))))))),(Fun Tryz.prog 79 [vI b,vI 0,vI 127] [] (.v (vB z11)) [])∧(z11=true→(.tup [.agg [zi 0,zi 0,zi 0],vB true]:S)= .tup [.agg z1,vB z3.isSome]∧z2=[])∧(z11=false→(Fun Tryz.prog 79 [vI b,vI 194,vI 223] [] (.v (vB z8)) [])∧(z8=true→(z4=true→(.tup [.agg [zi 1,zi 160,zi 191],vB true]:S)= .tup [.agg z1,vB z3.isSome]∧z2=[])∧(z4=false→(z5=true→(.tup [.agg [zi 1,zi 128,zi 159],vB true]:S)= .tup [.agg z1,vB z3.isSome]∧z2=[])∧(z5=false→(z6=true→(.tup [.agg [zi 1,zi 144,zi 191],vB true]:S)= .tup [.agg z1,vB z3.isSome]∧z2=[])∧(z6=false→(z7=true→(.tup [.agg [zi 1,zi 128,zi 143],vB true]:S)= .tup [.agg z1,vB z3.isSome]∧z2=[])∧(z7=false→(.tup [.agg [zi 1,zi 128,zi 191],vB true]:S)= .tup [.agg z1,vB z3.isSome]∧z2=[])))))∧(z8=false→(Fun Tryz.prog 79 [vI b,vI 224,vI 239] [] (.v (vB z9)) [])∧(z9=true→(z4=true→(.tup [.agg [zi 2,zi 160,zi 191],vB true]:S)= .tup [.agg z1,vB z3.isSome]∧z2=[])∧(z4=false→(z5=true→(.tup [.agg [zi 2,zi 128,zi 159],vB true]:S)= .tup [.agg z1,vB z3.isSome]∧z2=[])∧(z5=false→(z6=true→(.tup [.agg [zi 2,zi 144,zi 191],vB true]:S)= .tup [.agg z1,vB z3.isSome]∧z2=[])∧(z6=false→(z7=true→(.tup [.agg [zi 2,zi 128,zi 143],vB true]:S)= .tup [.agg z1,vB z3.isSome]∧z2=[])∧(z7=false→(.tup [.agg [zi 2,zi 128,zi 191],vB true]:S)= .tup [.agg z1,vB z3.isSome]∧z2=[])))))∧(z9=false→(Fun Tryz.prog 79 [vI b,vI 240,vI 244] [] (.v (vB z10)) [])∧(z10=true→(z4=true→(.tup [.agg [zi 3,zi 160,zi 191],vB true]:S)= .tup [.agg z1,vB z3.isSome]∧z2=[])∧(z4=false→(z5=true→(.tup [.agg [zi 3,zi 128,zi 159],vB true]:S)= .tup [.agg z1,vB z3.isSome]∧z2=[])∧(z5=false→(z6=true→(.tup [.agg [zi 3,zi 144,zi 191],vB true]:S)= .tup [.agg z1,vB z3.isSome]∧z2=[])∧(z6=false→(z7=true→(.tup [.agg [zi 3,zi 128,zi 143],vB true]:S)= .tup [.agg z1,vB z3.isSome]∧z2=[])∧(z7=false→(.tup [.agg [zi 3,zi 128,zi 191],vB true]:S)= .tup [.agg z1,vB z3.isSome]∧z2=[])))))∧(z10=false→(.tup [.agg [zi 0,zi 0,zi 0],vB false]:S)= .tup [.agg z1,vB z3.isSome]∧z2=[])))))) Q4 ?_
 refine⟨(B7 _ _ _),fun h1=>have p1:=As h1;?_,fun h1=>have p1:=Az h1;?_⟩
 refine have hm1:(A9 b).getD utf0=utf0:=?_;?_
 rotate_left
 refine⟨(congrArg S.tup (Ah (congrArg V.agg (Ah (congrArg (C.int .i64) ?_) (Ah (congrArg (C.int .i64) ?_) (Ah (congrArg (C.int .i64) ?_) rfl)))) (Ah (congrArg V.c (congrArg C.bool ?_)) rfl))),rfl⟩
 rotate_left 4
 refine⟨(B7 _ _ _),fun h2=>have p2:=As h2;?_,fun h2=>have p2:=Az h2;?_⟩
 refine dsp (fun h3 p3=>?_) fun h3 p3=>?_
 refine have hm1:(A9 b).getD utf0=(⟨1,160,191⟩:Utf):=?_;?_
 rotate_left
 refine⟨(congrArg S.tup (Ah (congrArg V.agg (Ah (congrArg (C.int .i64) ?_) (Ah (congrArg (C.int .i64) ?_) (Ah (congrArg (C.int .i64) ?_) rfl)))) (Ah (congrArg V.c (congrArg C.bool ?_)) rfl))),rfl⟩
 rotate_left 4
 refine dsp (fun h4 p4=>?_) fun h4 p4=>?_
 refine have hm1:(A9 b).getD utf0=(⟨1,128,159⟩:Utf):=?_;?_
 rotate_left
 refine⟨(congrArg S.tup (Ah (congrArg V.agg (Ah (congrArg (C.int .i64) ?_) (Ah (congrArg (C.int .i64) ?_) (Ah (congrArg (C.int .i64) ?_) rfl)))) (Ah (congrArg V.c (congrArg C.bool ?_)) rfl))),rfl⟩
 rotate_left 4
 refine dsp (fun h5 p5=>?_) fun h5 p5=>?_
 refine have hm1:(A9 b).getD utf0=(⟨1,144,191⟩:Utf):=?_;?_
 rotate_left
 refine⟨(congrArg S.tup (Ah (congrArg V.agg (Ah (congrArg (C.int .i64) ?_) (Ah (congrArg (C.int .i64) ?_) (Ah (congrArg (C.int .i64) ?_) rfl)))) (Ah (congrArg V.c (congrArg C.bool ?_)) rfl))),rfl⟩
 rotate_left 4
 refine dsp (fun h6 p6=>?_) fun h6 p6=>?_
 refine have hm1:(A9 b).getD utf0=(⟨1,128,143⟩:Utf):=?_;?_
 rotate_left
 refine⟨(congrArg S.tup (Ah (congrArg V.agg (Ah (congrArg (C.int .i64) ?_) (Ah (congrArg (C.int .i64) ?_) (Ah (congrArg (C.int .i64) ?_) rfl)))) (Ah (congrArg V.c (congrArg C.bool ?_)) rfl))),rfl⟩
 rotate_left 4
 refine have hm1:(A9 b).getD utf0=(⟨1,128,191⟩:Utf):=?_;?_
 rotate_left
 refine⟨(congrArg S.tup (Ah (congrArg V.agg (Ah (congrArg (C.int .i64) ?_) (Ah (congrArg (C.int .i64) ?_) (Ah (congrArg (C.int .i64) ?_) rfl)))) (Ah (congrArg V.c (congrArg C.bool ?_)) rfl))),rfl⟩
 rotate_left 4
 refine⟨(B7 _ _ _),fun h3=>have p3:=As h3;?_,fun h3=>have p3:=Az h3;?_⟩
 refine dsp (fun h4 p4=>?_) fun h4 p4=>?_
 refine have hm1:(A9 b).getD utf0=(⟨2,160,191⟩:Utf):=?_;?_
 rotate_left
 refine⟨(congrArg S.tup (Ah (congrArg V.agg (Ah (congrArg (C.int .i64) ?_) (Ah (congrArg (C.int .i64) ?_) (Ah (congrArg (C.int .i64) ?_) rfl)))) (Ah (congrArg V.c (congrArg C.bool ?_)) rfl))),rfl⟩
 rotate_left 4
 refine dsp (fun h5 p5=>?_) fun h5 p5=>?_
 refine have hm1:(A9 b).getD utf0=(⟨2,128,159⟩:Utf):=?_;?_
 rotate_left
 refine⟨(congrArg S.tup (Ah (congrArg V.agg (Ah (congrArg (C.int .i64) ?_) (Ah (congrArg (C.int .i64) ?_) (Ah (congrArg (C.int .i64) ?_) rfl)))) (Ah (congrArg V.c (congrArg C.bool ?_)) rfl))),rfl⟩
 rotate_left 4
 refine dsp (fun h6 p6=>?_) fun h6 p6=>?_
 refine have hm1:(A9 b).getD utf0=(⟨2,144,191⟩:Utf):=?_;?_
 rotate_left
 refine⟨(congrArg S.tup (Ah (congrArg V.agg (Ah (congrArg (C.int .i64) ?_) (Ah (congrArg (C.int .i64) ?_) (Ah (congrArg (C.int .i64) ?_) rfl)))) (Ah (congrArg V.c (congrArg C.bool ?_)) rfl))),rfl⟩
 rotate_left 4
 refine dsp (fun h7 p7=>?_) fun h7 p7=>?_
 refine have hm1:(A9 b).getD utf0=(⟨2,128,143⟩:Utf):=?_;?_
 rotate_left
 refine⟨(congrArg S.tup (Ah (congrArg V.agg (Ah (congrArg (C.int .i64) ?_) (Ah (congrArg (C.int .i64) ?_) (Ah (congrArg (C.int .i64) ?_) rfl)))) (Ah (congrArg V.c (congrArg C.bool ?_)) rfl))),rfl⟩
 rotate_left 4
 refine have hm1:(A9 b).getD utf0=(⟨2,128,191⟩:Utf):=?_;?_
 rotate_left
 refine⟨(congrArg S.tup (Ah (congrArg V.agg (Ah (congrArg (C.int .i64) ?_) (Ah (congrArg (C.int .i64) ?_) (Ah (congrArg (C.int .i64) ?_) rfl)))) (Ah (congrArg V.c (congrArg C.bool ?_)) rfl))),rfl⟩
 rotate_left 4
 refine⟨(B7 _ _ _),fun h4=>have p4:=As h4;?_,fun h4=>have p4:=Az h4;?_⟩
 refine dsp (fun h5 p5=>?_) fun h5 p5=>?_
 refine have hm1:(A9 b).getD utf0=(⟨3,160,191⟩:Utf):=?_;?_
 rotate_left
 refine⟨(congrArg S.tup (Ah (congrArg V.agg (Ah (congrArg (C.int .i64) ?_) (Ah (congrArg (C.int .i64) ?_) (Ah (congrArg (C.int .i64) ?_) rfl)))) (Ah (congrArg V.c (congrArg C.bool ?_)) rfl))),rfl⟩
 rotate_left 4
 refine dsp (fun h6 p6=>?_) fun h6 p6=>?_
 refine have hm1:(A9 b).getD utf0=(⟨3,128,159⟩:Utf):=?_;?_
 rotate_left
 refine⟨(congrArg S.tup (Ah (congrArg V.agg (Ah (congrArg (C.int .i64) ?_) (Ah (congrArg (C.int .i64) ?_) (Ah (congrArg (C.int .i64) ?_) rfl)))) (Ah (congrArg V.c (congrArg C.bool ?_)) rfl))),rfl⟩
 rotate_left 4
 refine dsp (fun h7 p7=>?_) fun h7 p7=>?_
 refine have hm1:(A9 b).getD utf0=(⟨3,144,191⟩:Utf):=?_;?_
 rotate_left
 refine⟨(congrArg S.tup (Ah (congrArg V.agg (Ah (congrArg (C.int .i64) ?_) (Ah (congrArg (C.int .i64) ?_) (Ah (congrArg (C.int .i64) ?_) rfl)))) (Ah (congrArg V.c (congrArg C.bool ?_)) rfl))),rfl⟩
 rotate_left 4
 refine dsp (fun h8 p8=>?_) fun h8 p8=>?_
 refine have hm1:(A9 b).getD utf0=(⟨3,128,143⟩:Utf):=?_;?_
 rotate_left
 refine⟨(congrArg S.tup (Ah (congrArg V.agg (Ah (congrArg (C.int .i64) ?_) (Ah (congrArg (C.int .i64) ?_) (Ah (congrArg (C.int .i64) ?_) rfl)))) (Ah (congrArg V.c (congrArg C.bool ?_)) rfl))),rfl⟩
 rotate_left 4
 refine have hm1:(A9 b).getD utf0=(⟨3,128,191⟩:Utf):=?_;?_
 rotate_left
 refine⟨(congrArg S.tup (Ah (congrArg V.agg (Ah (congrArg (C.int .i64) ?_) (Ah (congrArg (C.int .i64) ?_) (Ah (congrArg (C.int .i64) ?_) rfl)))) (Ah (congrArg V.c (congrArg C.bool ?_)) rfl))),rfl⟩
 rotate_left 4
 refine have hm1:(A9 b).getD utf0=utf0:=?_;?_
 rotate_left
 refine⟨(congrArg S.tup (Ah (congrArg V.agg (Ah (congrArg (C.int .i64) ?_) (Ah (congrArg (C.int .i64) ?_) (Ah (congrArg (C.int .i64) ?_) rfl)))) (Ah (congrArg V.c (congrArg C.bool ?_)) rfl))),rfl⟩
 rotate_left 4
 all_goals first|(simp[A9,utf0, *];done)|(simp_all[A9,utf0,Am];done)|(simp_all[A9,utf0,Am];omega)
theorem Ab1 (b:Int):Fun Tryz.prog 125 [vI b] [] (.tup [.agg (Hg ((A9 b).getD utf0)),vB (A9 b).isSome]) []:=by
 have hN:Bg=274877906944:=rfl
 refine Ar Tryz.func125 Q4 Q4 (w:=let zi:Int→C:= .int .i64;let z2:=([]:List Blk);let z3:=A9 b;let z1:=Hg (z3.getD utf0);let z4:=decide (b=224);let z5:=decide (b=237);let z6:=decide (b=240);let z7:=decide (b=244);let z8:=Am b 194 223;let z9:=Am b 224 239;let z10:=Am b 240 244;let z11:=Am b 0 127;(.seg [.call [] (.v (vB z11)) []] (.br (.leaf () []) (.seg [.call [] (.v (vB z8)) []] (.br (.br (.leaf () []) (.br (.leaf () []) (.br (.leaf () []) (.br (.leaf () []) (.leaf () []))))) (.seg [.call [] (.v (vB z9)) []] (.br (.br (.leaf () []) (.br (.leaf () []) (.br (.leaf () []) (.br (.leaf () []) (.leaf () []))))) (.seg [.call [] (.v (vB z10)) []] (.br (.br (.leaf () []) (.br (.leaf () []) (.br (.leaf () []) (.br (.leaf () []) (.leaf () []))))) (.leaf () [])))))))),(Fun Tryz.prog 59 [vI b,vI 0,vI 127] [] (.v (vB z11)) [])∧(z11=true→(.tup [.agg [zi 0,zi 0,zi 0],vB true]:S)= .tup [.agg z1,vB z3.isSome]∧z2=[])∧(z11=false→(Fun Tryz.prog 59 [vI b,vI 194,vI 223] [] (.v (vB z8)) [])∧(z8=true→(z4=true→(.tup [.agg [zi 1,zi 160,zi 191],vB true]:S)= .tup [.agg z1,vB z3.isSome]∧z2=[])∧(z4=false→(z5=true→(.tup [.agg [zi 1,zi 128,zi 159],vB true]:S)= .tup [.agg z1,vB z3.isSome]∧z2=[])∧(z5=false→(z6=true→(.tup [.agg [zi 1,zi 144,zi 191],vB true]:S)= .tup [.agg z1,vB z3.isSome]∧z2=[])∧(z6=false→(z7=true→(.tup [.agg [zi 1,zi 128,zi 143],vB true]:S)= .tup [.agg z1,vB z3.isSome]∧z2=[])∧(z7=false→(.tup [.agg [zi 1,zi 128,zi 191],vB true]:S)= .tup [.agg z1,vB z3.isSome]∧z2=[])))))∧(z8=false→(Fun Tryz.prog 59 [vI b,vI 224,vI 239] [] (.v (vB z9)) [])∧(z9=true→(z4=true→(.tup [.agg [zi 2,zi 160,zi 191],vB true]:S)= .tup [.agg z1,vB z3.isSome]∧z2=[])∧(z4=false→(z5=true→(.tup [.agg [zi 2,zi 128,zi 159],vB true]:S)= .tup [.agg z1,vB z3.isSome]∧z2=[])∧(z5=false→(z6=true→(.tup [.agg [zi 2,zi 144,zi 191],vB true]:S)= .tup [.agg z1,vB z3.isSome]∧z2=[])∧(z6=false→(z7=true→(.tup [.agg [zi 2,zi 128,zi 143],vB true]:S)= .tup [.agg z1,vB z3.isSome]∧z2=[])∧(z7=false→(.tup [.agg [zi 2,zi 128,zi 191],vB true]:S)= .tup [.agg z1,vB z3.isSome]∧z2=[])))))∧(z9=false→(Fun Tryz.prog 59 [vI b,vI 240,vI 244] [] (.v (vB z10)) [])∧(z10=true→(z4=true→(.tup [.agg [zi 3,zi 160,zi 191],vB true]:S)= .tup [.agg z1,vB z3.isSome]∧z2=[])∧(z4=false→(z5=true→(.tup [.agg [zi 3,zi 128,zi 159],vB true]:S)= .tup [.agg z1,vB z3.isSome]∧z2=[])∧(z5=false→(z6=true→(.tup [.agg [zi 3,zi 144,zi 191],vB true]:S)= .tup [.agg z1,vB z3.isSome]∧z2=[])∧(z6=false→(z7=true→(.tup [.agg [zi 3,zi 128,zi 143],vB true]:S)= .tup [.agg z1,vB z3.isSome]∧z2=[])∧(z7=false→(.tup [.agg [zi 3,zi 128,zi 191],vB true]:S)= .tup [.agg z1,vB z3.isSome]∧z2=[])))))∧(z10=false→(.tup [.agg [zi 0,zi 0,zi 0],vB false]:S)= .tup [.agg z1,vB z3.isSome]∧z2=[])))))) Q4 ?_
 refine⟨(Ba _ _ _),fun h1=>have p1:=As h1;?_,fun h1=>have p1:=Az h1;?_⟩
 refine have hm1:(A9 b).getD utf0=utf0:=?_;?_
 rotate_left
 refine⟨(congrArg S.tup (Ah (congrArg V.agg (Ah (congrArg (C.int .i64) ?_) (Ah (congrArg (C.int .i64) ?_) (Ah (congrArg (C.int .i64) ?_) rfl)))) (Ah (congrArg V.c (congrArg C.bool ?_)) rfl))),rfl⟩
 rotate_left 4
 refine⟨(Ba _ _ _),fun h2=>have p2:=As h2;?_,fun h2=>have p2:=Az h2;?_⟩
 refine dsp (fun h3 p3=>?_) fun h3 p3=>?_
 refine have hm1:(A9 b).getD utf0=(⟨1,160,191⟩:Utf):=?_;?_
 rotate_left
 refine⟨(congrArg S.tup (Ah (congrArg V.agg (Ah (congrArg (C.int .i64) ?_) (Ah (congrArg (C.int .i64) ?_) (Ah (congrArg (C.int .i64) ?_) rfl)))) (Ah (congrArg V.c (congrArg C.bool ?_)) rfl))),rfl⟩
 rotate_left 4
 refine dsp (fun h4 p4=>?_) fun h4 p4=>?_
 refine have hm1:(A9 b).getD utf0=(⟨1,128,159⟩:Utf):=?_;?_
 rotate_left
 refine⟨(congrArg S.tup (Ah (congrArg V.agg (Ah (congrArg (C.int .i64) ?_) (Ah (congrArg (C.int .i64) ?_) (Ah (congrArg (C.int .i64) ?_) rfl)))) (Ah (congrArg V.c (congrArg C.bool ?_)) rfl))),rfl⟩
 rotate_left 4
 refine dsp (fun h5 p5=>?_) fun h5 p5=>?_
 refine have hm1:(A9 b).getD utf0=(⟨1,144,191⟩:Utf):=?_;?_
 rotate_left
 refine⟨(congrArg S.tup (Ah (congrArg V.agg (Ah (congrArg (C.int .i64) ?_) (Ah (congrArg (C.int .i64) ?_) (Ah (congrArg (C.int .i64) ?_) rfl)))) (Ah (congrArg V.c (congrArg C.bool ?_)) rfl))),rfl⟩
 rotate_left 4
 refine dsp (fun h6 p6=>?_) fun h6 p6=>?_
 refine have hm1:(A9 b).getD utf0=(⟨1,128,143⟩:Utf):=?_;?_
 rotate_left
 refine⟨(congrArg S.tup (Ah (congrArg V.agg (Ah (congrArg (C.int .i64) ?_) (Ah (congrArg (C.int .i64) ?_) (Ah (congrArg (C.int .i64) ?_) rfl)))) (Ah (congrArg V.c (congrArg C.bool ?_)) rfl))),rfl⟩
 rotate_left 4
 refine have hm1:(A9 b).getD utf0=(⟨1,128,191⟩:Utf):=?_;?_
 rotate_left
 refine⟨(congrArg S.tup (Ah (congrArg V.agg (Ah (congrArg (C.int .i64) ?_) (Ah (congrArg (C.int .i64) ?_) (Ah (congrArg (C.int .i64) ?_) rfl)))) (Ah (congrArg V.c (congrArg C.bool ?_)) rfl))),rfl⟩
 rotate_left 4
 refine⟨(Ba _ _ _),fun h3=>have p3:=As h3;?_,fun h3=>have p3:=Az h3;?_⟩
 refine dsp (fun h4 p4=>?_) fun h4 p4=>?_
 refine have hm1:(A9 b).getD utf0=(⟨2,160,191⟩:Utf):=?_;?_
 rotate_left
 refine⟨(congrArg S.tup (Ah (congrArg V.agg (Ah (congrArg (C.int .i64) ?_) (Ah (congrArg (C.int .i64) ?_) (Ah (congrArg (C.int .i64) ?_) rfl)))) (Ah (congrArg V.c (congrArg C.bool ?_)) rfl))),rfl⟩
 rotate_left 4
 refine dsp (fun h5 p5=>?_) fun h5 p5=>?_
 refine have hm1:(A9 b).getD utf0=(⟨2,128,159⟩:Utf):=?_;?_
 rotate_left
 refine⟨(congrArg S.tup (Ah (congrArg V.agg (Ah (congrArg (C.int .i64) ?_) (Ah (congrArg (C.int .i64) ?_) (Ah (congrArg (C.int .i64) ?_) rfl)))) (Ah (congrArg V.c (congrArg C.bool ?_)) rfl))),rfl⟩
 rotate_left 4
 refine dsp (fun h6 p6=>?_) fun h6 p6=>?_
 refine have hm1:(A9 b).getD utf0=(⟨2,144,191⟩:Utf):=?_;?_
 rotate_left
 refine⟨(congrArg S.tup (Ah (congrArg V.agg (Ah (congrArg (C.int .i64) ?_) (Ah (congrArg (C.int .i64) ?_) (Ah (congrArg (C.int .i64) ?_) rfl)))) (Ah (congrArg V.c (congrArg C.bool ?_)) rfl))),rfl⟩
 rotate_left 4
 refine dsp (fun h7 p7=>?_) fun h7 p7=>?_
 refine have hm1:(A9 b).getD utf0=(⟨2,128,143⟩:Utf):=?_;?_
 rotate_left
 refine⟨(congrArg S.tup (Ah (congrArg V.agg (Ah (congrArg (C.int .i64) ?_) (Ah (congrArg (C.int .i64) ?_) (Ah (congrArg (C.int .i64) ?_) rfl)))) (Ah (congrArg V.c (congrArg C.bool ?_)) rfl))),rfl⟩
 rotate_left 4
 refine have hm1:(A9 b).getD utf0=(⟨2,128,191⟩:Utf):=?_;?_
 rotate_left
 refine⟨(congrArg S.tup (Ah (congrArg V.agg (Ah (congrArg (C.int .i64) ?_) (Ah (congrArg (C.int .i64) ?_) (Ah (congrArg (C.int .i64) ?_) rfl)))) (Ah (congrArg V.c (congrArg C.bool ?_)) rfl))),rfl⟩
 rotate_left 4
 refine⟨(Ba _ _ _),fun h4=>have p4:=As h4;?_,fun h4=>have p4:=Az h4;?_⟩
 refine dsp (fun h5 p5=>?_) fun h5 p5=>?_
 refine have hm1:(A9 b).getD utf0=(⟨3,160,191⟩:Utf):=?_;?_
 rotate_left
 refine⟨(congrArg S.tup (Ah (congrArg V.agg (Ah (congrArg (C.int .i64) ?_) (Ah (congrArg (C.int .i64) ?_) (Ah (congrArg (C.int .i64) ?_) rfl)))) (Ah (congrArg V.c (congrArg C.bool ?_)) rfl))),rfl⟩
 rotate_left 4
 refine dsp (fun h6 p6=>?_) fun h6 p6=>?_
 refine have hm1:(A9 b).getD utf0=(⟨3,128,159⟩:Utf):=?_;?_
 rotate_left
 refine⟨(congrArg S.tup (Ah (congrArg V.agg (Ah (congrArg (C.int .i64) ?_) (Ah (congrArg (C.int .i64) ?_) (Ah (congrArg (C.int .i64) ?_) rfl)))) (Ah (congrArg V.c (congrArg C.bool ?_)) rfl))),rfl⟩
 rotate_left 4
 refine dsp (fun h7 p7=>?_) fun h7 p7=>?_
 refine have hm1:(A9 b).getD utf0=(⟨3,144,191⟩:Utf):=?_;?_
 rotate_left
 refine⟨(congrArg S.tup (Ah (congrArg V.agg (Ah (congrArg (C.int .i64) ?_) (Ah (congrArg (C.int .i64) ?_) (Ah (congrArg (C.int .i64) ?_) rfl)))) (Ah (congrArg V.c (congrArg C.bool ?_)) rfl))),rfl⟩
 rotate_left 4
 refine dsp (fun h8 p8=>?_) fun h8 p8=>?_
 refine have hm1:(A9 b).getD utf0=(⟨3,128,143⟩:Utf):=?_;?_
 rotate_left
 refine⟨(congrArg S.tup (Ah (congrArg V.agg (Ah (congrArg (C.int .i64) ?_) (Ah (congrArg (C.int .i64) ?_) (Ah (congrArg (C.int .i64) ?_) rfl)))) (Ah (congrArg V.c (congrArg C.bool ?_)) rfl))),rfl⟩
 rotate_left 4
 refine have hm1:(A9 b).getD utf0=(⟨3,128,191⟩:Utf):=?_;?_
 rotate_left
 refine⟨(congrArg S.tup (Ah (congrArg V.agg (Ah (congrArg (C.int .i64) ?_) (Ah (congrArg (C.int .i64) ?_) (Ah (congrArg (C.int .i64) ?_) rfl)))) (Ah (congrArg V.c (congrArg C.bool ?_)) rfl))),rfl⟩
 rotate_left 4
 refine have hm1:(A9 b).getD utf0=utf0:=?_;?_
 rotate_left
 refine⟨(congrArg S.tup (Ah (congrArg V.agg (Ah (congrArg (C.int .i64) ?_) (Ah (congrArg (C.int .i64) ?_) (Ah (congrArg (C.int .i64) ?_) rfl)))) (Ah (congrArg V.c (congrArg C.bool ?_)) rfl))),rfl⟩
 rotate_left 4
 all_goals first|(simp[A9,utf0, *];done)|(simp_all[A9,utf0,Am];done)|(simp_all[A9,utf0,Am];omega)
theorem Aef (u:Utf) (b:Int):Fun Tryz.prog 172 [.agg (Hg u),vI b] [] (.tup [.agg (Hg ((Bj u b).getD u)),vB (Bj u b).isSome]) []:=by
 have hN:Bg=274877906944:=rfl
 refine Ar Tryz.func172 Q4 Q4 (w:=let z2:=(.tup [.agg (Hg u),vB false]:S);let z3:=Am b u.low u.high;let z4:=Bj u b;let z1:=Hg (z4.getD u);let z5:=([]:List Blk);let z7:=A9 b;let z6:=Hg (z7.getD utf0);(.seg [.call [] (.v (vB (Eo u))) []] (.br (.leaf () []) (.br (.seg [.call [] (.tup [.agg z6,vB z7.isSome]) []] (.br (.leaf () []) (.leaf () []))) (.seg [.call [] (.v (vB z3)) []] (.br (.leaf () []) (.br (.leaf () []) (.seg [.as 42 (.v (vI (u.want-1)))] (.leaf () []))))))),(Fun Tryz.prog 80 [.agg (Hg u)] [] (.v (vB (Eo u))) [])∧((!(Eo u))=true→z2= .tup [.agg z1,vB z4.isSome]∧z5=[])∧((!(Eo u))=false→((decide (u.want=0))=true→(Fun Tryz.prog 205 [vI b] [] (.tup [.agg z6,vB z7.isSome]) [])∧((!z7.isSome)=true→z2= .tup [.agg z1,vB z4.isSome]∧z5=[])∧((!z7.isSome)=false→(.tup [.agg z6,vB true]:S)= .tup [.agg z1,vB z4.isSome]∧z5=[]))∧((decide (u.want=0))=false→(Fun Tryz.prog 79 [vI b,vI u.low,vI u.high] [] (.v (vB z3)) [])∧((!z3)=true→z2= .tup [.agg z1,vB z4.isSome]∧z5=[])∧((!z3)=false→((decide (u.want=1))=true→(.tup [.agg [.int .i64 0,.int .i64 0,.int .i64 0],vB true]:S)= .tup [.agg z1,vB z4.isSome]∧z5=[])∧((decide (u.want=1))=false→((.v (vI (IntKind.i64.wrap (u.want-1))):S)= .v (vI (u.want-1)))∧(.tup [.agg [.int .i64 (u.want-1),.int .i64 128,.int .i64 191],vB true]:S)= .tup [.agg z1,vB z4.isSome]∧z5=[])))))) Q4 ?_
 refine⟨(Aed u),fun h1=>have q1:=Ap h1;?_,fun h1=>have q1:=Ao h1;have p1:=Ky q1;?_⟩
 refine have hm1:(Bj u b).getD u=u:=?_;?_
 rotate_left
 refine⟨(congrArg S.tup (Ah (congrArg V.agg (Ah (congrArg (C.int .i64) ?_) (Ah (congrArg (C.int .i64) ?_) (Ah (congrArg (C.int .i64) ?_) rfl)))) (Ah (congrArg V.c (congrArg C.bool ?_)) rfl))),rfl⟩
 rotate_left 4
 refine dsp (fun h2 p2=>?_) fun h2 p2=>?_
 have hu:=Vx q1 p2
 refine⟨(Ab0 _),fun h3=>have q3:=Ap h3;?_,fun h3=>have q3:=Ao h3;?_⟩
 refine have hm1:(Bj u b).getD u=u:=?_;?_
 rotate_left
 refine⟨(congrArg S.tup (Ah (congrArg V.agg (Ah (congrArg (C.int .i64) ?_) (Ah (congrArg (C.int .i64) ?_) (Ah (congrArg (C.int .i64) ?_) rfl)))) (Ah (congrArg V.c (congrArg C.bool ?_)) rfl))),rfl⟩
 rotate_left 4
 refine have hm1:(Bj u b).getD u=((A9 b).getD utf0):=?_;?_
 rotate_left
 refine⟨(congrArg S.tup (Ah (congrArg V.agg (Ah (congrArg (C.int .i64) ?_) (Ah (congrArg (C.int .i64) ?_) (Ah (congrArg (C.int .i64) ?_) rfl)))) (Ah (congrArg V.c (congrArg C.bool ?_)) rfl))),rfl⟩
 rotate_left 4
 refine⟨(B7 _ _ _),fun h3=>have q3:=Ap h3;have p3:=Az q3;?_,fun h3=>have q3:=Ao h3;have p3:=As q3;?_⟩
 refine have hm1:(Bj u b).getD u=u:=?_;?_
 rotate_left
 refine⟨(congrArg S.tup (Ah (congrArg V.agg (Ah (congrArg (C.int .i64) ?_) (Ah (congrArg (C.int .i64) ?_) (Ah (congrArg (C.int .i64) ?_) rfl)))) (Ah (congrArg V.c (congrArg C.bool ?_)) rfl))),rfl⟩
 rotate_left 4
 refine dsp (fun h4 p4=>?_) fun h4 p4=>?_
 refine have hm1:(Bj u b).getD u=utf0:=?_;?_
 rotate_left
 refine⟨(congrArg S.tup (Ah (congrArg V.agg (Ah (congrArg (C.int .i64) ?_) (Ah (congrArg (C.int .i64) ?_) (Ah (congrArg (C.int .i64) ?_) rfl)))) (Ah (congrArg V.c (congrArg C.bool ?_)) rfl))),rfl⟩
 rotate_left 4
 refine⟨(Ae Q2 Q2),?_⟩
 refine have hm1:(Bj u b).getD u=(⟨u.want-1,128,191⟩:Utf):=?_;?_
 rotate_left
 refine⟨(congrArg S.tup (Ah (congrArg V.agg (Ah (congrArg (C.int .i64) ?_) (Ah (congrArg (C.int .i64) ?_) (Ah (congrArg (C.int .i64) ?_) rfl)))) (Ah (congrArg V.c (congrArg C.bool ?_)) rfl))),rfl⟩
 rotate_left 4
 all_goals first|(simp[Bj, *];done)|(simp[Bj,utf0, *];done)|(simp_all[Bj,utf0,Am];done)|(simp_all[Bj,utf0,Am];omega)
theorem Rc (u:Utf) (b:Int):Fun Tryz.prog 62 [.agg (Hg u),vI b] [] (.tup [.agg (Hg ((Bj u b).getD u)),vB (Bj u b).isSome]) []:=by
 have hN:Bg=274877906944:=rfl
 refine Ar Tryz.func62 Q4 Q4 (w:=let z2:=Am b u.low u.high;let z3:=Hg ((A9 b).getD utf0);let z4:=Bj u b;let z1:=Hg (z4.getD u);let z5:=([]:List Blk);let z6:=(.tup [.agg (Hg u),vB false]:S);(.seg [.call [] (.v (vB (Eo u))) []] (.br (.leaf () []) (.br (.seg [.call [] (.tup [.agg z3,vB (A9 b).isSome]) []] (.leaf () [])) (.seg [.call [] (.v (vB z2)) []] (.br (.leaf () []) (.br (.leaf () []) (.seg [.as 31 (.v (vI (u.want-1)))] (.leaf () []))))))),(Fun Tryz.prog 68 [.agg (Hg u)] [] (.v (vB (Eo u))) [])∧((!(Eo u))=true→z6= .tup [.agg z1,vB z4.isSome]∧z5=[])∧((!(Eo u))=false→((decide (u.want=0))=true→(Fun Tryz.prog 125 [vI b] [] (.tup [.agg z3,vB (A9 b).isSome]) [])∧(.tup [.agg z3,vB (A9 b).isSome]:S)= .tup [.agg z1,vB z4.isSome]∧z5=[])∧((decide (u.want=0))=false→(Fun Tryz.prog 59 [vI b,vI u.low,vI u.high] [] (.v (vB z2)) [])∧((!z2)=true→z6= .tup [.agg z1,vB z4.isSome]∧z5=[])∧((!z2)=false→((decide (u.want=1))=true→(.tup [.agg [.int .i64 0,.int .i64 0,.int .i64 0],vB true]:S)= .tup [.agg z1,vB z4.isSome]∧z5=[])∧((decide (u.want=1))=false→((.v (vI (IntKind.i64.wrap (u.want-1))):S)= .v (vI (u.want-1)))∧(.tup [.agg [.int .i64 (u.want-1),.int .i64 128,.int .i64 191],vB true]:S)= .tup [.agg z1,vB z4.isSome]∧z5=[])))))) Q4 ?_
 refine⟨(Aee u),fun h1=>have q1:=Ap h1;?_,fun h1=>have q1:=Ao h1;have p1:=Ky q1;?_⟩
 refine have hm1:(Bj u b).getD u=u:=?_;?_
 rotate_left
 refine⟨(congrArg S.tup (Ah (congrArg V.agg (Ah (congrArg (C.int .i64) ?_) (Ah (congrArg (C.int .i64) ?_) (Ah (congrArg (C.int .i64) ?_) rfl)))) (Ah (congrArg V.c (congrArg C.bool ?_)) rfl))),rfl⟩
 rotate_left 4
 refine dsp (fun h2 p2=>?_) fun h2 p2=>?_
 have hu:=Vx q1 p2
 refine⟨(Ab1 _),?_⟩
 refine have hm1:(Bj u b).getD u=((A9 b).getD utf0):=?_;?_
 rotate_left
 refine⟨(congrArg S.tup (Ah (congrArg V.agg (Ah (congrArg (C.int .i64) ?_) (Ah (congrArg (C.int .i64) ?_) (Ah (congrArg (C.int .i64) ?_) rfl)))) (Ah (congrArg V.c (congrArg C.bool ?_)) rfl))),rfl⟩
 rotate_left 4
 refine⟨(Ba _ _ _),fun h3=>have q3:=Ap h3;have p3:=Az q3;?_,fun h3=>have q3:=Ao h3;have p3:=As q3;?_⟩
 refine have hm1:(Bj u b).getD u=u:=?_;?_
 rotate_left
 refine⟨(congrArg S.tup (Ah (congrArg V.agg (Ah (congrArg (C.int .i64) ?_) (Ah (congrArg (C.int .i64) ?_) (Ah (congrArg (C.int .i64) ?_) rfl)))) (Ah (congrArg V.c (congrArg C.bool ?_)) rfl))),rfl⟩
 rotate_left 4
 refine dsp (fun h4 p4=>?_) fun h4 p4=>?_
 refine have hm1:(Bj u b).getD u=utf0:=?_;?_
 rotate_left
 refine⟨(congrArg S.tup (Ah (congrArg V.agg (Ah (congrArg (C.int .i64) ?_) (Ah (congrArg (C.int .i64) ?_) (Ah (congrArg (C.int .i64) ?_) rfl)))) (Ah (congrArg V.c (congrArg C.bool ?_)) rfl))),rfl⟩
 rotate_left 4
 refine⟨(Ae Q2 Q2),?_⟩
 refine have hm1:(Bj u b).getD u=(⟨u.want-1,128,191⟩:Utf):=?_;?_
 rotate_left
 refine⟨(congrArg S.tup (Ah (congrArg V.agg (Ah (congrArg (C.int .i64) ?_) (Ah (congrArg (C.int .i64) ?_) (Ah (congrArg (C.int .i64) ?_) rfl)))) (Ah (congrArg V.c (congrArg C.bool ?_)) rfl))),rfl⟩
 rotate_left 4
 all_goals first|(simp[Bj, *];done)|(simp[Bj,utf0, *];done)|(simp_all[Bj,utf0,Am];done)|(simp_all[Bj,utf0,Am];omega)
structure Aho where
 u:Utf
 v:Nat
structure J8 where
 u:Utf
 i:Nat
def J9 (u:Utf) (s:List UInt8):Fam:=⟨J8,fun q1=>[(1,.v (vT s)),(2,.v (vP 0)),(4,.v (vP 1)),(6,.v (vI (q1.i:Int)))],fun q1=>[.cells (Hg q1.u),.cells [.int .i64 0,.int .i64 0,.int .i64 0]],fun q1=>q1.i≤s.length∧Ni q1.u (List.drop q1.i s) q1.i=Ni u s 0,fun q1=>s.length-q1.i⟩
theorem Aeg (u:Utf) (s:List UInt8) (hp1:s.length≤Bg):Fun Tryz.prog 202 [.agg (Hg u),vT s] [] (.tup [.agg (Hg (P7 u s)),vI (Sq u s)]) []:=by
 have hN:Bg=274877906944:=rfl
 refine Ar Tryz.func202 Q4 Q4 (w:=let zi:Int→C:= .int .i64;let z5:=J9 u s;(.seg [.at 0,.keep [1,2,4,6],.sel [0,1]] (.loop z5 fun q1=> .br (.intro (fun (x1:UInt8)=>s[q1.i]? =some x1) fun x1=>let z1:=Bj q1.u ((UInt8.toNat x1:Nat):Int);.seg [.tree (fr (.two 5 (fr (.one 9 (.one 10 (.first 11 (.done)))) 6 3) 9 (.one 5 (fr (.one 10 (.first 11 (.done))) 6 3))) 0 5) 12 [],.ch x1,.as 20 (.v (vI ((UInt8.toNat x1:Nat):Int))),.call [] (.tup [.agg (Hg (z1.getD q1.u)),vB z1.isSome]) [],.at 0,.keep [1,2,4,6,7,8],.sel [0,1,2],.call [] (.tup [.agg (Hg (z1.getD q1.u)),vB z1.isSome]) [],.at 0,.keep [1,2,4,6,7,8],.sel [0,1,2]] (.br (.leaf () []) (.seg [.as 14 (.v (vI ((q1.i:Int)+1))),.at 0,.keep [1,2,4,6],.sel [0,1]] (.next)))) (.leaf () [])),z5.Has [(1,.v (vT s)),(2,.v (vP 0)),(4,.v (vP 1)),(6,.v (vI 0))] [.cells (Hg u),.cells [zi 0,zi 0,zi 0]]∧∀q1,z5.inv q1→(let z3:=(q1.i:Int);let z4:=Hg q1.u;((decide (z3<(s.length:Int)))=true→(∃(x1:UInt8),s[q1.i]? =some x1)∧∀(x1:UInt8),(s[q1.i]? =some x1)→(let z2:=((UInt8.toNat x1:Nat):Int);(s[q1.i]? =some x1)∧((0:Int)≤z3)∧(s[q1.i]? =some x1)∧((0:Int)≤z3)∧((.v (vI (IntKind.i64.wrap (z2))):S)= .v (vI z2))∧((.v (vI (IntKind.i64.wrap (z2))):S)= .v (vI z2))∧(Fun Tryz.prog 62 [.agg z4,vI z2] [] (.tup [.agg (Hg ((Bj q1.u z2).getD q1.u)),vB (Bj q1.u z2).isSome]) [])∧(Fun Tryz.prog 62 [.agg z4,vI z2] [] (.tup [.agg (Hg ((Bj q1.u z2).getD q1.u)),vB (Bj q1.u z2).isSome]) [])∧(([.cells z4,.cells [zi 0,zi 0,zi 0],.cells (Hg ((Bj q1.u z2).getD q1.u))]:List Blk)=[.cells z4,.cells [zi 0,zi 0,zi 0],.cells (Hg ((Bj q1.u z2).getD q1.u))])∧(([(1,.v (vT s)),(2,.v (vP 0)),(4,.v (vP 1)),(6,.v (vI z3)),(7,.v (vP 2)),(8,.v (vB (Bj q1.u z2).isSome))]:List (Nat×S))=[(1,.v (vT s)),(2,.v (vP 0)),(4,.v (vP 1)),(6,.v (vI z3)),(7,.v (vP 2)),(8,.v (vB (Bj q1.u z2).isSome))])∧((!(Bj q1.u z2).isSome)=true→(.tup [.agg z4,vI z3]:S)= .tup [.agg (Hg (P7 u s)),vI (Sq u s)]∧([]:List Blk)=[])∧((!(Bj q1.u z2).isSome)=false→((.v (vI (IntKind.i64.wrap (z3+1))):S)= .v (vI (z3+1)))∧z5.Nxt q1 [(1,.v (vT s)),(2,.v (vP 0)),(4,.v (vP 1)),(6,.v (vI (z3+1)))] [.cells (Hg ((Bj q1.u z2).getD q1.u)),.cells [zi 0,zi 0,zi 0]])))∧((decide (z3<(s.length:Int)))=false→(.tup [.agg z4,vI (-1)]:S)= .tup [.agg (Hg (P7 u s)),vI (Sq u s)]∧([]:List Blk)=[])))) Q4 ?_
 refine⟨Bk (j:=(⟨u,0⟩:J8)) Q10 rfl (by dsimp only[J9];exact⟨by omega,by simp⟩),fun (q1:J8) hq_q1=>?_⟩
 have hi_q1:q1.i≤s.length∧Ni q1.u (List.drop q1.i s) q1.i=Ni u s 0:=hq_q1
 obtain ⟨v1,v2⟩:=hi_q1
 refine dsp (fun h1 p1=>?_) fun h1 p1=>?_
 refine⟨(Bm (l:=s) (i:=q1.i) Q2),fun x1 hx1=>?_⟩
 have hb_x1:=UInt8.toNat_lt x1
 refine⟨hx1,Q2,hx1,Q2,(Ae Q2 Q2),(Ae Q2 Q2),(Rc q1.u _),(Rc q1.u _),rfl,rfl,fun h2=>have q2:=Ap h2;?_,fun h2=>have q2:=Ao h2;?_⟩
 rw[Ez hx1,Ni] at v2
 refine have hm1:P7 u s=q1.u:=?_;?_
 rotate_left
 refine⟨(congrArg S.tup (Ah (congrArg V.agg (Ah (congrArg (C.int .i64) ?_) (Ah (congrArg (C.int .i64) ?_) (Ah (congrArg (C.int .i64) ?_) rfl)))) (Ah (congrArg V.c (congrArg (C.int .i64) ?_)) rfl))),rfl⟩
 rotate_left 4
 rw[Ez hx1,Ni] at v2
 exact⟨(Ae Q2 Q2),Bd (j:=(⟨((Bj q1.u ((UInt8.toNat x1:Nat):Int)).getD q1.u),q1.i+1⟩:J8)) Q10 rfl (by dsimp only[J9];exact⟨by omega,by cases hu:Bj q1.u (x1.toNat:Int)<;>simp_all⟩) (by dsimp only[J9];omega)⟩
 rw[J4 p1] at v2
 refine have hm1:P7 u s=q1.u:=?_;?_
 rotate_left
 refine⟨(congrArg S.tup (Ah (congrArg V.agg (Ah (congrArg (C.int .i64) ?_) (Ah (congrArg (C.int .i64) ?_) (Ah (congrArg (C.int .i64) ?_) rfl)))) (Ah (congrArg V.c (congrArg (C.int .i64) ?_)) rfl))),rfl⟩
 rotate_left 4
 all_goals first|(unfold P7;rw[←v2,Ni];done)|(unfold Sq;rw[←v2,Ni];done)|(unfold P7;rw[←v2];clear v2;cases hu:Bj q1.u (x1.toNat:Int)<;>simp_all)|(unfold Sq;rw[←v2];clear v2;cases hu:Bj q1.u (x1.toNat:Int)<;>simp_all)
end Go.Proofs.YtcmnedgnppnhoaaGreat.Ax
