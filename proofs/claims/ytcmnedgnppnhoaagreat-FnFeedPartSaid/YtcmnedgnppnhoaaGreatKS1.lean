/- Models. Models: the machine. Models: the machine's steps. Models: bytes, Ahq inputs. Numbers. Varints. Numbers of so Apz bytes; tags. Utf-8. -/
import Derived.Test.YtcmnedgnppnhoaaGreatKB4
set_option linter.unusedSimpArgs false
set_option linter.unusedVariables false
namespace Go.Proofs.YtcmnedgnppnhoaaGreat.Ax
open Go.RowKit
theorem Ah {α:Type} {a b:α} {l m:List α} (h:a=b) (t:l=m):a::l=b::m:=by rw[h,t]
def vI (x:Int):V:= .c (.int .i64 x)
def vB (x:Bool):V:= .c (.bool x)
def vT (x:List UInt8):V:= .c (.str x)
def vO (j:Nat):V:= .c (.own j)
def vP (j:Nat):V:= .c (.ptr j 0)
theorem sB {a b:Bool} (h:a=b):(.v (.c (.bool a)):S)= .v (.c (.bool b)):=by rw[h]
theorem sI {a b:Int} (h:a=b):(.v (.c (.int .i64 a)):S)= .v (.c (.int .i64 b)):=by rw[h]
theorem dT {p:Prop} [Decidable p]:decide p=true↔p:=decide_eq_true_iff
theorem dF {p:Prop} [Decidable p]:decide p=false↔¬p:=decide_eq_false_iff_not
theorem Cg {a b:Bool} {P Q:Prop} (h:a=true↔P) (g:b=true↔Q):(a&&b)=true↔P∧Q:=by rw[Bool.and_eq_true,h,g]
theorem Ch {a b:Bool} {P Q:Prop} (h:a=true↔P) (g:b=false↔Q):(a&&b)=false↔(P→Q):=by rw[Bool.and_eq_false_imp,h,g]
theorem orT {a b:Bool} {P Q:Prop} (h:a=true↔P) (g:b=true↔Q):(a||b)=true↔P∨Q:=by rw[Bool.or_eq_true,h,g]
theorem orF {a b:Bool} {P Q:Prop} (h:a=false↔P) (g:b=false↔Q):(a||b)=false↔P∧Q:=by rw[Bool.or_eq_false_iff,h,g]
theorem Bi {F:Fam} {j:F.ι} {tm:List (Nat×S)} {H:List Blk} (h1:tm=F.tm j) (h2:H=F.H j) (h:F.inv j):F.Has tm H:=⟨j,h,h1,h2⟩
theorem A5 {F:Fam} {i j:F.ι} {tm:List (Nat×S)} {H:List Blk} (h1:tm=F.tm j) (h2:H=F.H j) (h:F.inv j) (hm:F.mu j<F.mu i):F.Nxt i tm H:=⟨j,⟨h,hm⟩,h1,h2⟩
abbrev In {α:Type} (P Q:α→Prop):Prop:=(∃o,P o)∧∀o,P o→Q o
theorem Aq {P : Program} {f : FuncId} {fn : Func} (hf : P.funcs[f]? = some fn) (hb : fn.body.isNone = false) (hn : (fn.name == "runtime.NumGoroutine") = false) {args : List V} {L L' : List Blk} {r : S} {w : DT Unit × Prop}
  (hw:Aeh P fn args L w.1 (fun _ r' Lp=>r'=r∧Lp=L')=w.2) (h:w.2):Fun P f args L r L':=Aoa hf hb hn hw h
theorem Bv {P : Program} {ι : Type} {f : FuncId} {fn : Func} (hf : P.funcs[f]? = some fn) (hb : fn.body.isNone = false) (hn : (fn.name == "runtime.NumGoroutine") = false) {args : List V} {L : List Blk} {L' : ι → List Blk} {r : ι → S} {good : ι → Prop} {w : DT ι × Prop}
  (hw:Aeh P fn args L w.1 (fun i r' Lp=>good i∧r'=r i∧Lp=L' i)=w.2) (h:w.2): ∃i,good i∧Fun P f args L (r i) (L' i):=Amu hf hb hn hw h
theorem dsp {p:Prop} [Decidable p] {A B:Prop} (h1:decide p=true→p→A) (h2:decide p=false→¬p→B):(decide p=true→A)∧(decide p=false→B):=⟨fun h=>h1 h (of_decide_eq_true h),fun h=>h2 h (of_decide_eq_false h)⟩
/-! ### Structures -/
structure Scn where
 bits:Int
 have_:Int
 deriving DecidableEq,Inhabited
structure Utf where
 want:Int
 low:Int
 high:Int
 deriving DecidableEq,Inhabited
structure Pln where
 shapes:List Shp
 root:Int
 deep:Int
 most:Int
 deriving DecidableEq,Inhabited
structure Dcd where
 plan:Pln
 mode:Int
 stack:List Lev
 scan:Scn
 start:Int
 at_:Int
 field:Fld
 wire:Int
 want:Int
 utf:Utf
 end_:Ev
 deriving DecidableEq,Inhabited
def fld0:Fld:=⟨0,0,false,false,0⟩
def ev0:Ev:=⟨0,0,0,0,[],0,0⟩
def utf0:Utf:=⟨0,0,0⟩
def scn0:Scn:=⟨0,0⟩
theorem C9 {α:Type} {l:List α} {i:Nat} {x:α} (h:l[i]? =some x):l.drop i=x::l.drop (i+1):=by
 have hl:=(List.getElem?_eq_some_iff.1 h).1
 rw[List.drop_eq_getElem_cons hl]
 congr 1
 rw[List.getElem?_eq_getElem hl] at h
 exact Option.some.inj h
theorem Ap {b:Bool} (h:(!b)=true):b=false:=by cases b<;>simp_all
theorem An {b:Bool} (h:(!b)=false):b=true:=by cases b<;>simp_all
theorem V7 {α:Type} {l:List α} {i:Nat} {x d:α} (h:l[i]? =some x):l.getD i d=x:=by simp[List.getD,h]
theorem K0 {α:Type} {l:List α} {i:Nat} (h: ¬((i:Nat):Int)<((l.length:Nat):Int)):l.drop i=[]:=List.drop_eq_nil_of_le (by omega)
/-! ### Words of numbers -/
theorem Y5 {k:IntKind} {a m:Int} (h:0≤a):(.v (.c (.int k (Int.tmod a m))):S)= .v (.c (.int k (a % m))):=by rw[Int.tmod_eq_emod_of_nonneg h]
theorem V8 {a m:Int} (h:0≤a) (h2:a≤18446744073709551615) (hm:0<m):(.v (.c (.int .u64 (IntKind.u64.wrap (Int.tdiv a m)))):S)= .v (.c (.int .u64 (a / m))):=by
 rw[Int.tdiv_eq_ediv_of_nonneg h]
 have h3:=Int.ediv_nonneg h (Int.le_of_lt hm)
 have h4:=Int.ediv_le_self m h
 exact B0 Q2 Q2
theorem Aoc {a b:Int} {k:Nat} (ha:0≤a) (hk:a<2 ^ k) {c:Int} (hc:0≤c) (hb:b=c*2 ^ k) (hs:b+2 ^ k≤18446744073709551616):(((BitVec.ofInt 64 a|||BitVec.ofInt 64 b).toNat:Nat):Int)=a+b:=by
 obtain ⟨n,rfl⟩:=Int.eq_ofNat_of_zero_le ha
 obtain ⟨m,rfl⟩:=Int.eq_ofNat_of_zero_le hc
 have hb':b=((m*2 ^ k:Nat):Int):=by rw[hb,Int.natCast_mul,Int.natCast_pow];rfl
 have hp:(0:Int)<2 ^ k:=Int.pow_pos (by decide)
 subst hb'
 have e:((2 ^ k:Nat):Int)=2 ^ k:=by rw[Int.natCast_pow];rfl
 rw[←e] at hk hs hp
 have h1:n<2 ^ k:=by omega
 have h2:m*2 ^ k+2 ^ k≤18446744073709551616:=by omega
 have h3:n<2 ^ 64:=by omega
 have h4:m*2 ^ k<2 ^ 64:=by omega
 rw[BitVec.toNat_or,BitVec.ofInt_natCast,BitVec.ofInt_natCast,BitVec.toNat_ofNat,BitVec.toNat_ofNat,Nat.mod_eq_of_lt h3,Nat.mod_eq_of_lt h4,Nat.or_comm,Nat.mul_comm m,←Nat.two_pow_add_eq_or_of_lt h1]
 rw[Nat.mul_comm,Int.natCast_add,Int.add_comm]
/-! ### Kinds, wires, numbers -/
def Dk (n:Int):Bool:=Am n 1 536870911&& !Am n 19000 19999
def Ea (w:Int):Bool:=decide (w=0)||decide (w=1)||decide (w=2)||decide (w=5)
def Ey (k:Int):Bool:=Am k 1 8
def C6 (k:Int):Bool:=Am k 1 5
def Bw (k:Int):Int:=if Ey k then (if k=4 then 5 else if k=5 then 1 else if k≤3 then 0 else 2) else-1
def Ay (w:Int):Int:=if w=1 then 8 else if w=5 then 4 else 0
def Se (f:Fld):Bool:=f.rep&&C6 f.kind
def C1 (f:Fld) (w:Int):Bool:=decide (w=Bw f.kind)||(decide (w=2)&&Se f)
def De (k:Int):Bool:=decide (k=2)||decide (k=3)||decide (k=6)
theorem Eb (w:Int):0≤Ay w∧Ay w≤8:=by unfold Ay;split<;>(try split)<;>omega
def Hv (f:Fld) (n:Int):Bool:=Dk f.number&&Ey f.kind&& !(f.packed&&(!f.rep|| !C6 f.kind))&&(if f.kind=8 then Am f.msg 0 (n-1) else decide (f.msg= -1))
def C2 (n:Int):Int→List Fld→Bool
 |_,[]=>true
 |b,f::r=>decide (b<f.number)&&Hv f n&&C2 n f.number r
def Ec (n:Int):Int→List Shp→Bool
 |_,[]=>true
 |b,x::r=>decide (b<x.id)&&decide (x.id≤99)&&decide ((x.fields.length:Int)≤8)&&C2 n 0 x.fields&&Ec n x.id r
def Dm (l:List Shp):Bool:=decide ((l.length:Int)≤6)&&Ec (l.length:Int) 0 l
def F7 (l:List Fld) (n:Int):Option Fld:=l.find? fun f=>decide (f.number=n)
def Apy:Shp:=⟨0,[]⟩
def fieldAt (l:List Shp) (s n:Int):Option Fld:=if Am s 0 ((l.length:Int)-1) then F7 (l.getD s.toNat Apy).fields n else none
def Ez (p:Pln):Bool:=Dm p.shapes&&Am p.root 0 ((p.shapes.length:Int)-1)&&Am p.deep 1 8&&Am p.most 0 2000
theorem V9 {f:Fld} {n:Int} (h:Hv f n=true):1≤f.number∧f.number≤536870911∧1≤f.kind∧f.kind≤8∧(f.kind=8→0≤f.msg∧f.msg≤n-1)∧(f.kind≠8→f.msg= -1):=by
 simp only[Hv,Dk,Ey,Am,Bool.and_eq_true,decide_eq_true_eq] at h
 obtain ⟨⟨⟨h1,h2⟩,h3⟩,h4⟩:=h
 refine⟨h1.1.1,h1.1.2,h2.1,h2.2,fun hk=>?_,fun hk=>?_⟩
 ·rw[if_pos hk] at h4;simpa using h4
 ·rw[if_neg hk] at h4;simpa using h4
theorem Tn {l:List Shp} (h:Dm l=true):l.length≤6:=by
 simp only[Dm,Bool.and_eq_true,decide_eq_true_eq] at h;omega
theorem B8 {p:Pln} (h:Ez p=true):p.shapes.length≤6∧Dm p.shapes=true∧0≤p.root∧p.root<(p.shapes.length:Int)∧1≤p.deep∧p.deep≤8∧0≤p.most∧p.most≤2000:=by
 simp only[Ez,Am,Bool.and_eq_true,decide_eq_true_eq] at h
 have:=Tn h.1.1.1
 refine⟨this,h.1.1.1,?_⟩;omega
theorem Uj {n:Int} : ∀ {b:Int} {l:List Fld},C2 n b l=true→∀f∈l,Hv f n=true∧b<f.number
 |_,[],_,f,hf=>by cases hf
 |b,g::r,h,f,hf=>by
  simp only[C2,Bool.and_eq_true,decide_eq_true_eq] at h
  rcases List.mem_cons.1 hf with rfl|hf
  ·exact⟨h.1.2,h.1.1⟩
  ·have:=Uj h.2 f hf;exact⟨this.1,by omega⟩
theorem Pm {n:Int} : ∀ {b:Int} {l:List Shp},Ec n b l=true→∀x∈l,(x.fields.length≤8∧C2 n 0 x.fields=true)∧b<x.id∧x.id≤99
 |_,[],_,f,hf=>by cases hf
 |b,g::r,h,f,hf=>by
  simp only[Ec,Bool.and_eq_true,decide_eq_true_eq] at h
  rcases List.mem_cons.1 hf with rfl|hf
  ·exact⟨⟨by omega,h.1.2⟩,h.1.1.1.1,h.1.1.1.2⟩
  ·have:=Pm h.2 f hf;exact⟨this.1,by omega,this.2.2⟩
theorem Du {l:List Shp} (h:Dm l=true): ∀x∈l,List.length x.fields≤1000:=fun x hx=>by
 simp only[Dm,Bool.and_eq_true] at h
 have:=(Pm h.2 x hx).1.1
 omega
theorem Qh {l:List Shp} {s n:Int} {f:Fld} (hl:Dm l=true) (h:fieldAt l s n=some f):Hv f (l.length:Int)=true∧f.number=n:=by
 unfold fieldAt at h
 split at h
 ·rename_i hs
  have hs:=As hs
  simp only[Dm,Bool.and_eq_true,decide_eq_true_eq] at hl
  have hm:l.getD s.toNat Apy∈l:=by
   rw[List.getD_eq_getElem?_getD,List.getElem?_eq_getElem (by omega)]
   exact List.getElem_mem _
  have hx:=(Pm hl.2 _ hm).1.2
  have hf:=List.mem_of_find?_eq_some h
  have hp:=List.find?_some h
  exact⟨(Uj hx f hf).1,by simpa using hp⟩
 ·cases h
/-! ### Tags -/
def Cr (n w:Int):Int:=if Am n 1 536870911&&Am w 0 7 then 8*n+w else 0
def Jk (u:Int):Bool:=Am u 8 4294967295
def Bx (u:Int):Int:=if Jk u then u / 8 else 0
def Aj (u:Int):Int:=if Jk u then u % 8 else 0
theorem Bj (n w:Int):0≤Cr n w∧Cr n w≤4294967295:=by
 unfold Cr Am;split<;>simp_all<;>omega
/-! ### Utf-8 -/
def N5 (u:Utf) (w l h:Int):Bool:=decide (u.want=w)&&(decide (u.low=l)&&decide (u.high=h))
def E6 (u:Utf):Bool:=N5 u 0 0 0||N5 u 1 128 191||N5 u 2 128 191||N5 u 3 128 191||N5 u 2 160 191||N5 u 2 128 159||N5 u 3 144 191||N5 u 3 128 143
theorem Ab2 {u:Utf} (h:E6 u=true):(u.want=0∧u.low=0∧u.high=0)∨(u.want=1∧u.low=128∧u.high=191)∨(u.want=2∧u.low=128∧u.high=191)∨(u.want=3∧u.low=128∧u.high=191)∨(u.want=2∧u.low=160∧u.high=191)∨(u.want=2∧u.low=128∧u.high=159)∨(u.want=3∧u.low=144∧u.high=191)∨(u.want=3∧u.low=128∧u.high=143):=by
 simp only[E6,N5,Bool.or_eq_true,Bool.and_eq_true,decide_eq_true_eq] at h
 rcases h with ((((((h|h)|h)|h)|h)|h)|h)|h<;>simp[h]
theorem X2 {u:Utf} (h:E6 u=true) (h0:u.want=0):u=utf0:=by
 rcases Ab2 h with h|h|h|h|h|h|h|h<;>first|(cases u;simp_all[utf0];done)|omega
theorem Lw {u:Utf} (h:E6 u=true):0≤u.want∧u.want≤3:=by
 rcases Ab2 h with h|h|h|h|h|h|h|h<;>omega
def Bd (b:Int):Option Utf:=
 if Am b 0 127 then some utf0
 else if Am b 194 223 then some ⟨1,128,191⟩
 else if Am b 224 239 then some ⟨2,if b=224 then 160 else 128,if b=237 then 159 else 191⟩
 else if Am b 240 244 then some ⟨3,if b=240 then 144 else 128,if b=244 then 143 else 191⟩
 else none
def Bo (u:Utf) (b:Int):Option Utf:=
 if E6 u then (if u.want=0 then Bd b else if Am b u.low u.high then some (if u.want=1 then utf0 else ⟨u.want-1,128,191⟩) else none) else none
def Pn:Utf→List UInt8→Nat→Utf×Option Nat
 |u,[],_=>(u,none)
 |u,b::r,i=>match Bo u (b.toNat:Int) with
  |some v=>Pn v r (i+1)
  |none=>(u,some i)
def Rt (u:Utf) (s:List UInt8):Utf:=(Pn u s 0).1
def Uk (u:Utf) (s:List UInt8):Int:=match (Pn u s 0).2 with
 |some i=>(i:Int)
 |none=> -1
/-! ### Varints -/
def Mw (u:Nat):List UInt8:=if h:u<128 then [UInt8.ofNat u] else UInt8.ofNat (u % 128+128)::Mw (u / 128)
termination_by u
decreasing_by omega
def Dz (u:Int):List UInt8:=Mw u.toNat
def K2 (u:Int):Int:=((Dz u).length:Int)
theorem Mx {u:Nat} (h:u<128):Mw u=[UInt8.ofNat u]:=by rw[Mw,dif_pos h]
theorem Ru {u:Nat} (h: ¬u<128):Mw u=UInt8.ofNat (u % 128+128)::Mw (u / 128):=by rw[Mw,dif_neg h]
theorem Wa: ∀(k u:Nat),u<128 ^ k→1≤k→(Mw u).length≤k
 |0,_,_,h=>by omega
 |k+1,u,h,_=>by
  by_cases hu:u<128
  ·rw[Mx hu];simp
  ·rw[Ru hu]
   have hk:1≤k:=by
    rcases k with _|k
    ·simp at h;omega
    ·omega
   have:=Wa k (u / 128) (by rw[Nat.pow_succ] at h;exact Nat.div_lt_of_lt_mul (by rw[Nat.mul_comm];exact h)) hk
   simp;omega
theorem Wb (u:Nat):1≤(Mw u).length:=by
 by_cases hu:u<128
 ·rw[Mx hu];simp
 ·rw[Ru hu];simp
theorem Aaj {u:Int} (h0:0≤u) (h:u≤127):Dz u=[UInt8.ofNat u.toNat]:=Mx (by omega)
theorem X3 {u:Int} (h0:0≤u) (h:127<u):Dz u=UInt8.ofNat (u % 128+128).toNat::Dz (u / 128):=by
 unfold Dz
 rw[Ru (by omega),show (u / 128).toNat=u.toNat / 128 by omega,show (u % 128+128).toNat=u.toNat % 128+128 by omega]
theorem X4 (u:Int):1≤(Dz u).length:=Wb _
theorem Adc {u:Int} (h:u≤18446744073709551615):1≤K2 u∧K2 u≤10:=by
 have h1:=Wb u.toNat
 have h2:=Wa 10 u.toNat (by omega) (by omega)
 unfold K2 Dz;omega
def vwA (s:List UInt8) (at_ end_:Int):Nat→Int→Int→Int×Int×Int
 |0,_,_=>(0,(s.length:Int),10)
 |f+1,k,u=>
  if end_≤at_+k then (0,end_,9)
  else if (s.length:Int)≤at_+k then (0,(s.length:Int),10)
  else if k=9∧1<((s.getD (at_+k).toNat 0).toNat:Int) then (0,at_+k,1)
  else if ((s.getD (at_+k).toNat 0).toNat:Int)<128 then (u+((s.getD (at_+k).toNat 0).toNat:Int) % 128*2 ^ (7*k).toNat,at_+k+1,0)
  else vwA s at_ end_ f (k+1) (u+((s.getD (at_+k).toNat 0).toNat:Int) % 128*2 ^ (7*k).toNat)
def Da (s:List UInt8) (at_ end_:Int):Int×Int×Int:=if Am at_ 0 (s.length:Int) then vwA s at_ end_ 10 0 0 else (0,(s.length:Int),10)
theorem Aod {c:Int} {k:Nat} (hk:k≤9) (h0:0≤c) (h1:c≤127) (h9:k=9→c≤1):0≤c*2 ^ (7*k)∧c*2 ^ (7*k)+2 ^ (7*k)≤18446744073709551616∧(0:Int)<2 ^ (7*k)∧c*2 ^ (7*k)+2 ^ (7*k)≤2 ^ (7*(k+1)):=by
 rcases (show k=0∨k=1∨k=2∨k=3∨k=4∨k=5∨k=6∨k=7∨k=8∨k=9 by omega) with rfl|rfl|rfl|rfl|rfl|rfl|rfl|rfl|rfl|rfl<;>simp at * <;>omega
theorem Aoe {s:List UInt8} {a e:Int} : ∀(f k:Nat) (u:Int),k≤9→10≤f+k→0≤u→u<2 ^ (7*k)→0≤(vwA s a e f k u).1∧(vwA s a e f k u).1≤18446744073709551615
 |0,k,u,_,_,_,_=>by simp[vwA]
 |f+1,k,u,hk,hf,h0,h1=>by
  rw[vwA]
  have hb:=UInt8.toNat_lt (s.getD (a+(k:Int)).toNat 0)
  split
  ·simp
  split
  ·simp
  split
  ·simp
  rename_i h9
  have h9':k=9→¬(1<((s.getD (a+(k:Int)).toNat 0).toNat:Int)):=fun h hh=>h9 ⟨by omega,hh⟩
  have e7:((7*(k:Int)).toNat)=7*k:=by omega
  have hv:=Aod (c:=((s.getD (a+(k:Int)).toNat 0).toNat:Int) % 128) (k:=k) (by omega) (by omega) (by omega) (by intro h;have:=h9' h;omega)
  split
  ·rw[e7];dsimp only;omega
  ·rename_i h128
   have hk8:k≠9:=fun h=>by have:=h9' h;omega
   rw[e7,show (k:Int)+1=((k+1:Nat):Int) by simp]
   exact Aoe f (k+1) _ Q2 Q2 Q2 Q2
theorem Ab3 (s:List UInt8) (a e:Int):0≤(Da s a e).1∧(Da s a e).1≤18446744073709551615:=by
 unfold Da
 split
 ·exact Aoe 10 0 0 (by omega) (by omega) (by omega) (by decide)
 ·simp
/-! ### Numbers of so Apz bytes -/
def Ab4 (w:Int):Bool:=decide (w=4)||decide (w=8)
def Agv:List UInt8→Nat
 |[]=>0
 |b::r=>b.toNat+256*Agv r
def Sp (s:List UInt8) (at_ w:Int):Bool:=Ab4 w&&Am at_ 0 ((s.length:Int)-w)
def Aof (s:List UInt8) (at_ w:Int):Int:=if Sp s at_ w then (Agv ((s.drop at_.toNat).take w.toNat):Int) else 0
theorem Agw {w:Int} (h:Ab4 w=true):w=4∨w=8:=by simpa [Ab4] using h
def A2 (c a:Int):Ev:=⟨10,0,0,0,[],c,a⟩
def E0 (f:Fld) (u:Int):Ev:=⟨2,f.number,if f.kind=3∧u≠0 then 1 else u,0,[],0,0⟩
theorem Um {f:Fld} {l:List Fld} {n:Int} :F7 (f::l) n=if f.number=n then some f else F7 l n:=by
 unfold F7;rw[List.find?_cons];by_cases h:f.number=n<;>simp[h]
theorem X5 {l:List Shp} {s n:Int} {x:Shp} (hs:Am s 0 ((l.length:Int)-1)=true) (hx:l[s.toNat]? =some x):fieldAt l s n=F7 x.fields n:=by
 rw[fieldAt,if_pos hs,V7 hx]
def Apz (l:List Ev) (k:Int):Int:=((l.filter fun e=>decide (e.kind=k)).length:Int)
structure Fa where
 stack:List Int
 inText:Bool
 isText:Bool
 utf:Utf
 ended:Bool
 deriving Inhabited
structure Fmr where
 plan:Pln
 st:Fa
structure Fs where
 stack:List Int
 field:Fld
 open_:Bool
 utf:Utf
 ended:Bool
def F8 (k:Int):Bool:=decide (k=6)||decide (k=7)
theorem Ab5 {b:Int} {u:Utf} (h:Bd b=some u):E6 u=true:=by
 unfold Bd at h
 repeat' split at h
 all_goals first|(cases h;done)|(cases h;first|decide|(exfalso;omega)|(simp only[E6,N5];simp_all;done)|(simp only[E6,N5];simp_all;omega))
theorem Aek {u v:Utf} {b:Int} (h:Bo u b=some v):E6 v=true:=by
 unfold Bo at h
 split at h
 ·rename_i hu
  have hw:=Lw hu
  split at h
  ·exact Ab5 h
  ·split at h
   ·split at h
    ·cases h;decide
    ·cases h
     rcases Ab2 hu with h|h|h|h|h|h|h|h<;>simp_all[E6,N5]
   ·cases h
 ·cases h
def EvB (e:Ev):Prop:=List.length e.text≤Bf∧(0:Int)≤e.bits∧e.bits≤18446744073709551615
def cEv (x:Ev):List C:=[.int .i64 x.kind,.int .i64 x.field,.int .u64 x.bits,.int .i64 x.len,.str x.text,.int .i64 x.code,.int .i64 x.at_]
def F2 (x:Fld):List C:=[.int .i64 x.number,.int .i64 x.kind,.bool x.rep,.bool x.packed,.int .i64 x.msg]
def Ak4 (x:Shp):List C:=[.int .i64 x.id,.seq .fld x.fields]
def Apf (x:Lev):List C:=[.int .i64 x.msg,.int .i64 x.left]
def Kx (x:Scn):List C:=[.int .u64 x.bits,.int .i64 x.have_]
def H9 (x:Utf):List C:=[.int .i64 x.want,.int .i64 x.low,.int .i64 x.high]
def N6 (x:Pln):List C:=[.seq .shp x.shapes,.int .i64 x.root,.int .i64 x.deep,.int .i64 x.most]
def Bt (x:Dcd):List C:=[.seq .shp x.plan.shapes,.int .i64 x.plan.root,.int .i64 x.plan.deep,.int .i64 x.plan.most,.int .i64 x.mode,.seq .lev x.stack,.int .u64 x.scan.bits,.int .i64 x.scan.have_,.int .i64 x.start,.int .i64 x.at_,.int .i64 x.field.number,.int .i64 x.field.kind,.bool x.field.rep,.bool x.field.packed,.int .i64 x.field.msg,.int .i64 x.wire,.int .i64 x.want,.int .i64 x.utf.want,.int .i64 x.utf.low,.int .i64 x.utf.high,.int .i64 x.end_.kind,.int .i64 x.end_.field,.int .u64 x.end_.bits,.int .i64 x.end_.len,.str x.end_.text,.int .i64 x.end_.code,.int .i64 x.end_.at_]
def Ac (j0:Nat) (j5:Nat) (x:Dcd):List C:=[.own j0,.int .i64 x.plan.root,.int .i64 x.plan.deep,.int .i64 x.plan.most,.int .i64 x.mode,.own j5,.int .u64 x.scan.bits,.int .i64 x.scan.have_,.int .i64 x.start,.int .i64 x.at_,.int .i64 x.field.number,.int .i64 x.field.kind,.bool x.field.rep,.bool x.field.packed,.int .i64 x.field.msg,.int .i64 x.wire,.int .i64 x.want,.int .i64 x.utf.want,.int .i64 x.utf.low,.int .i64 x.utf.high,.int .i64 x.end_.kind,.int .i64 x.end_.field,.int .u64 x.end_.bits,.int .i64 x.end_.len,.str x.end_.text,.int .i64 x.end_.code,.int .i64 x.end_.at_]
def Aje (j0:Nat) (x:Pln):List C:=[.own j0,.int .i64 x.root,.int .i64 x.deep,.int .i64 x.most]
def Apo:Lev:=⟨0,0⟩
def Di (d:Dcd):Int:=(d.stack.getD (d.stack.length-1) Apo).left
def E1 (n:Int) (l:Lev):Bool:=Am l.msg 0 (n-1)&&Am l.left 0 2000
def Ba (d:Dcd):Bool:=Ez d.plan&&decide ((d.stack.length:Int)≤d.plan.deep)&&d.stack.all (E1 (d.plan.shapes.length:Int))
def Xj (n:Int):List Lev→Nat
 |[]=>0
 |l::r=>if E1 n l then Xj n r+1 else 0
theorem Sq {n:Int} {l:Lev} {r:List Lev} :Xj n (l::r)=if E1 n l then Xj n r+1 else 0:=rfl
theorem My (n:Int): ∀l:List Lev,l.all (E1 n)=decide (Xj n l=l.length)
 |[]=>rfl
 |l::r=>by
  rw[List.all_cons,My n r,Sq]
  cases h:E1 n l with
  |true=>rw[if_pos rfl];simp
  |false=>rw[if_neg (by simp)];simp
def Ki (n:Int) (l:List Lev):Int:=if Xj n l=l.length then-1 else (Xj n l:Int)
def Db (s:Scn):Bool:=Am s.have_ 0 9&&decide (Int.fdiv s.bits (2 ^ min (Int.toNat (7*s.have_)) 64)=0)
def Bq (d:Dcd):Int:=if d.mode=5 then Ay d.wire else if d.mode=8 then Ay (Bw d.field.kind) else 0
def Po (d:Dcd):Int:=if d.mode=8 then d.want else Di d
def Kj (d:Dcd):Bool:=if 0<Bq d then Am d.scan.have_ 0 (Bq d-1)&&decide (Int.fdiv d.scan.bits (2 ^ min (Int.toNat (8*d.scan.have_)) 64)=0)&&decide (Bq d-d.scan.have_≤Po d)
 else if d.mode=6∨d.mode=7∨d.mode=9 then decide (d.scan=scn0) else Db d.scan
def Jc (d:Dcd):Bool:=if d.mode=6∨d.mode=7∨d.mode=8 then Am d.want 1 (Di d) else decide (d.want=0)
def Ak5 (d:Dcd):Bool:=decide (d.field=fld0)||C1 d.field d.wire
def Jd (d:Dcd):Bool:=if d.mode=6 then F8 d.field.kind else if d.mode=8 then Se d.field else if d.mode=3 then decide (d.wire=0)&&Ak5 d else if d.mode=4 then decide (d.wire=2)&&Ak5 d else if d.mode=5 then decide (0<Ay d.wire)&&Ak5 d else true
def E8 (l:List Shp) (f:Fld):Nat→Bool
 |0=>false
 |k+1=>E8 l f k||decide (fieldAt l (k:Int) f.number=some f)
def known (l:List Shp) (f:Fld):Bool:=E8 l f l.length
def F9 (k:Int):Bool:=Am k 1 10
def Df (e:Ev):Ev:=⟨e.kind,if e.kind=2∨e.kind=3∨e.kind=6 then e.field else 0,if e.kind=2 then e.bits else 0,if e.kind=1∨e.kind=3∨e.kind=6 then e.len else 0,if e.kind=4 then e.text else [],if e.kind=10 then e.code else 0,if e.kind=9∨e.kind=10 then e.at_ else 0⟩
def K3 (e:Ev):Bool:=decide (e=Df e)
def Dc (e:Ev):Bool:=F9 e.kind&&K3 e&&decide (0≤e.len)&&decide (0≤e.at_)&&(if De e.kind then Am e.field 1 536870911 else if e.kind=4 then !decide (e.text=[]) else if e.kind=10 then decide (1≤e.code) else true)
def E9 (e:Ev):Bool:=decide (e.kind=9)||decide (e.kind=10)
def Zy (d:Dcd):Bool:=if d.mode=9 then Dc d.end_&&E9 d.end_ else decide (d.end_=ev0)
def Jh (d:Dcd):Bool:=if d.mode=1 then decide (d.stack=[]) else if d.mode=9 then true else decide (1≤Di d)
def B9 (d:Dcd):Bool:=Ba d&&Am d.mode 1 9&&Am d.at_ 0 1000000000&&Am d.start 0 d.at_&&E6 d.utf&&Ea d.wire&&(decide (d.field=fld0)||known d.plan.shapes d.field)&&Zy d&&Jh d&&Jc d&&Jd d&&Kj d
theorem Agx {o f:Fld} (h:o.number=f.number∧o.kind=f.kind∧o.rep=f.rep∧o.packed=f.packed∧o.msg=f.msg):o=f:=by
 cases o;cases f;simp_all
theorem Agy {o f:Fld} (h:o.number=f.number→o.kind=f.kind→o.rep=f.rep→o.packed=f.packed→¬o.msg=f.msg):o≠f:=fun e=>by subst e;exact h rfl rfl rfl rfl rfl
theorem Wc {l:List Shp} {f:Fld} : ∀ {k m:Nat},k≤m→E8 l f k=true→E8 l f m=true
 |k,0,h,hk=>by rw[show k=0 by omega] at hk;exact hk
 |k,m+1,h,hk=>by
  by_cases e:k=m+1
  ·rw[←e];exact hk
  ·rw[E8,Wc (m:=m) (by omega) hk];rfl
theorem Y6 {l:List Shp} {f:Fld} {k:Nat} (h:k<l.length) (hf:fieldAt l (k:Int) f.number=some f):known l f=true:=by
 have:E8 l f (k+1)=true:=by rw[E8,hf];simp
 exact Wc (show k+1≤l.length by omega) this
theorem Mz {l:List Shp} {f:Fld} {k:Nat} (h:E8 l f k=false) (hf:fieldAt l (k:Int) f.number≠some f):E8 l f (k+1)=false:=by
 rw[E8,h];simp[hf]
theorem Add {l:List Shp} {f:Fld} {k:Nat} (h:E8 l f k=false) (hk:l.length=k):known l f=false:=by unfold known;rw[hk];exact h
theorem Y7 {f:Fld} (h:f.number=0∧f.kind=0∧f.rep=false∧f.packed=false∧f.msg=0):f=fld0:=Agx h
def Pp (d:Dcd):Bool:=d.stack.all (E1 (d.plan.shapes.length:Int))&&(if d.mode=1 then decide ((d.stack.length:Int)=0) else if d.mode=9 then decide ((d.stack.length:Int)≤d.plan.deep) else Am (d.stack.length:Int) 1 d.plan.deep&&decide (1≤Di d))
def Aog (d:Dcd):Bool:=Am d.scan.have_ 0 (Bq d-1)&&decide (Int.fdiv d.scan.bits (2 ^ min (Int.toNat (8*d.scan.have_)) 64)=0)&&decide (Bq d-d.scan.have_≤Po d)
def Ab6 (d:Dcd):Bool:=if d.mode=6∨d.mode=7∨d.mode=9 then decide (d.scan=scn0) else if d.mode=5 then Aog d else if d.mode=8 then (if Bq d=0 then Db d.scan else Aog d) else Db d.scan
def Un (d:Dcd):Bool:=(decide (d.mode=3)&& !decide (d.wire=0))||(decide (d.mode=4)&& !decide (d.wire=2))||(decide (d.mode=5)&&decide (Ay d.wire=0))
def Aak (d:Dcd):Bool:=Ez d.plan&&Am d.mode 1 9&&Am d.at_ 0 1000000000&&Am d.start 0 d.at_&&E6 d.utf&&Ea d.wire&&(decide (d.field=fld0)||known d.plan.shapes d.field)&&Pp d&&Zy d&&Jc d&& !Un d&& !(Am d.mode 3 5&& !decide (d.field=fld0)&& !C1 d.field d.wire)&&(!decide (d.mode=6)||F8 d.field.kind)&&(!decide (d.mode=8)||Se d.field)&&Ab6 d
theorem Y8 {d:Dcd} (h:d.stack=[]):Di d=0:=by unfold Di;rw[h];rfl
theorem Sr (w:Int):Ay w=0∨Ay w=4∨Ay w=8:=by unfold Ay;split<;>(try split)<;>omega
theorem Agz (d:Dcd):Aak d=B9 d:=by
 have hw:=Sr d.wire
 have hw2:=Sr (Bw d.field.kind)
 by_cases hm:Am d.mode 1 9=true
 ·have hm:=As hm
  have hp:Ez d.plan=true→1≤d.plan.deep:=fun h=>(B8 h).2.2.2.2.1
  have ht:= @Y8 d
  obtain ⟨⟨sh,ro,de,mo⟩,m,st,sc,sa,a,f,w,wa,u,e⟩:=d
  simp only at hm hw hw2 hp ht
  have hs:(decide (st=[]):Bool)=decide ((st.length:Int)=0):=by cases st<;>simp<;>omega
  have hl: ∀x:Lev,(([]:List Lev).length:Int)=0:=fun _=>rfl
  rcases (show m=1∨m=2∨m=3∨m=4∨m=5∨m=6∨m=7∨m=8∨m=9 by omega) with rfl|rfl|rfl|rfl|rfl|rfl|rfl|rfl|rfl<;>
   rw[Bool.eq_iff_iff]<;>simp[Aak,B9,Ba,Pp,Jh,Un,Ab6,Aog,Kj,Jd,Ak5,Jc,Po,Bq,hs,Am]<;>grind
 ·have hm:Am d.mode 1 9=false:=by simpa using hm
  simp[Aak,B9,hm]
theorem Aoh {e f:Ev} (h:e.kind=f.kind∧e.field=f.field∧e.bits=f.bits∧e.len=f.len∧e.text=f.text∧e.code=f.code∧e.at_=f.at_):e=f:=by cases e;cases f;simp_all
theorem Ajf {e:Ev} (h:e.kind=(Df e).kind∧e.field=(Df e).field∧e.bits=(Df e).bits∧e.len=(Df e).len∧e.text=(Df e).text∧e.code=(Df e).code∧e.at_=(Df e).at_):K3 e=true:=decide_eq_true (Aoh h)
theorem Ss {e f:Ev} (h:Df e=f):K3 e=(decide (e.kind=f.kind)&&(decide (e.field=f.field)&&(decide (e.bits=f.bits)&&(decide (e.len=f.len)&&(decide (e.text=f.text)&&(decide (e.code=f.code)&&decide (e.at_=f.at_))))))):=by
 subst h
 rw[Bool.eq_iff_iff]
 simp only[Bool.and_eq_true,decide_eq_true_eq]
 constructor
 ·intro h
  have h:e=Df e:=of_decide_eq_true h
  exact⟨congrArg Ev.kind h,congrArg Ev.field h,congrArg Ev.bits h,congrArg Ev.len h,congrArg Ev.text h,congrArg Ev.code h,congrArg Ev.at_ h⟩
 ·exact fun h=>Ajf h
structure Mac where
 d:Dcd
 out:List Ev
def Uo:Ev:=⟨5,0,0,0,[],0,0⟩
def Ajg:Ev:=⟨7,0,0,0,[],0,0⟩
def Jm:Ev:=⟨8,0,0,0,[],0,0⟩
def Xk (n:Int):Ev:=⟨1,0,0,n,[],0,0⟩
def Y9 (f n:Int):Ev:=⟨6,f,0,n,[],0,0⟩
def Za (f n:Int):Ev:=⟨3,f,0,n,[],0,0⟩
def Rv (b:Int):Ev:=⟨4,0,0,0,[Bb b],0,0⟩
def A3 (d:Dcd) (c a:Int):Dcd:=⟨d.plan,9,d.stack,⟨0,0⟩,d.start,d.at_,d.field,d.wire,0,d.utf,A2 c a⟩
def A1 (m:Mac) (c a:Int):Mac:=⟨A3 m.d c a,m.out++[A2 c a]⟩
def Az (m:Mac):Option Mac:=
 if m.d.mode=6∧m.d.want<1 then
  (if 0<m.d.utf.want then some (A1 m 5 m.d.at_) else some ⟨⟨m.d.plan,2,m.d.stack,m.d.scan,m.d.start,m.d.at_,m.d.field,m.d.wire,0,⟨0,0,0⟩,m.d.end_⟩,m.out++[Uo]⟩)
 else if (m.d.mode=7∨(m.d.mode=8∧m.d.scan.have_=0))∧m.d.want<1 then some ⟨⟨m.d.plan,2,m.d.stack,m.d.scan,m.d.start,m.d.at_,m.d.field,m.d.wire,0,m.d.utf,m.d.end_⟩,m.out⟩
 else if m.d.mode=2∧m.d.scan.have_=0∧0<m.d.stack.length∧Di m.d=0 then
  some (if m.d.stack.length=1 then ⟨⟨m.d.plan,1,m.d.stack.take (m.d.stack.length-1),m.d.scan,m.d.start,m.d.at_,m.d.field,m.d.wire,m.d.want,m.d.utf,m.d.end_⟩,m.out++[Jm]⟩
   else ⟨⟨m.d.plan,m.d.mode,m.d.stack.take (m.d.stack.length-1),m.d.scan,m.d.start,m.d.at_,m.d.field,m.d.wire,m.d.want,m.d.utf,m.d.end_⟩,m.out++[Ajg]⟩)
 else none
def wM (m:Mac):Nat:=m.d.stack.length+(if m.d.mode=6∨m.d.mode=7∨m.d.mode=8 then 2 else if m.d.mode=2 then 1 else 0)
theorem Bz {m q:Mac} (h:Az m=some q):wM q<wM m∧q.out.length≤m.out.length+1:=by
 unfold Az at h
 split at h
 ·rename_i h1
  split at h
  ·cases h;simp[wM,A1,A3,h1.1]
  ·cases h;simp[wM,h1.1]
 ·split at h
  ·rename_i h1
   cases h
   rcases h1.1 with h2|h2
   ·simp[wM,h2]
   ·simp[wM,h2.1]
  ·split at h
   ·rename_i h1
    cases h
    have:=h1.2.2.1
    split
    ·simp[wM,h1.1];omega
    ·simp[wM,h1.1];omega
   ·cases h
def Ad (m:Mac):Mac:=match h:Az m with
 |none=>m
 |some q=>Ad q
termination_by wM m
decreasing_by exact(Bz h).1
theorem Ca {m q:Mac} (h:Az m=some q):Ad m=Ad q:=by
 rw[Ad]
 split
 ·rename_i h1;rw[h] at h1;cases h1
 ·rename_i x h1;rw[h] at h1;cases h1;rfl
theorem Br {m:Mac} (h:Az m=none):Ad m=m:=by
 rw[Ad]
 split
 ·rfl
 ·rename_i x h1;rw[h] at h1;cases h1
def Ce (m:Mac) (u:Int):Mac:=
 if m.d.plan.most<u then A1 m 7 m.d.start
 else Ad ⟨⟨m.d.plan,2,[⟨m.d.plan.root,u⟩],⟨0,0⟩,m.d.start,m.d.at_,m.d.field,m.d.wire,m.d.want,m.d.utf,m.d.end_⟩,m.out++[Xk u]⟩
def Fu (d:Dcd):Lev:=d.stack.getD (d.stack.length-1) Apo
def D2 (m:Mac) (u:Int):Mac:=
 if Jk u=false∨m.d.stack.length=0 then A1 m 2 m.d.start
 else if Ea (Aj u)=false then A1 m 3 m.d.start
 else if (fieldAt m.d.plan.shapes (Fu m.d).msg (Bx u)).isSome=true∧C1 ((fieldAt m.d.plan.shapes (Fu m.d).msg (Bx u)).getD fld0) (Aj u)=false then A1 m 4 m.d.start
 else if Di m.d<max (Ay (Aj u)) 1 then A1 ⟨⟨m.d.plan,m.d.mode,m.d.stack,⟨0,0⟩,m.d.start,m.d.at_,(fieldAt m.d.plan.shapes (Fu m.d).msg (Bx u)).getD fld0,Aj u,m.d.want,m.d.utf,m.d.end_⟩,m.out⟩ 9 m.d.at_
 else ⟨⟨m.d.plan,if Aj u=0 then 3 else if Aj u=2 then 4 else 5,m.d.stack,⟨0,0⟩,m.d.start,m.d.at_,(fieldAt m.d.plan.shapes (Fu m.d).msg (Bx u)).getD fld0,Aj u,m.d.want,m.d.utf,m.d.end_⟩,m.out⟩
def Cd (m:Mac) (u:Int):Mac:=
 if m.d.stack.length=0∨Di m.d<u then A1 m 8 m.d.start
 else if m.d.field=fld0 then Ad ⟨⟨m.d.plan,7,m.d.stack,⟨0,0⟩,m.d.start,m.d.at_,m.d.field,m.d.wire,u,m.d.utf,m.d.end_⟩,m.out⟩
 else if m.d.field.kind=8 then
  (if m.d.plan.deep≤(m.d.stack.length:Int) then A1 m 6 m.d.start
  else Ad ⟨⟨m.d.plan,2,m.d.stack.set (m.d.stack.length-1) ⟨(Fu m.d).msg,Di m.d-u⟩++[⟨m.d.field.msg,u⟩],⟨0,0⟩,m.d.start,m.d.at_,m.d.field,m.d.wire,0,m.d.utf,m.d.end_⟩,m.out++[Y9 m.d.field.number u]⟩)
 else if F8 m.d.field.kind=true then Ad ⟨⟨m.d.plan,6,m.d.stack,⟨0,0⟩,m.d.start,m.d.at_,m.d.field,m.d.wire,u,⟨0,0,0⟩,m.d.end_⟩,m.out++[Za m.d.field.number u]⟩
 else if 0<u∧u<Ay (Bw m.d.field.kind) then A1 m 9 m.d.at_
 else Ad ⟨⟨m.d.plan,8,m.d.stack,⟨0,0⟩,m.d.start,m.d.at_,m.d.field,m.d.wire,u,m.d.utf,m.d.end_⟩,m.out⟩
def Bm (m:Mac) (u:Int):Mac:=⟨⟨m.d.plan,if m.d.mode=8 then 8 else 2,m.d.stack,m.d.scan,m.d.start,m.d.at_,m.d.field,m.d.wire,m.d.want,m.d.utf,m.d.end_⟩,if m.d.field=fld0 then m.out else m.out++[E0 m.d.field u]⟩
def D3 (d:Dcd) (s:Scn):Dcd:=⟨d.plan,d.mode,d.stack,s,d.start,d.at_,d.field,d.wire,d.want,d.utf,d.end_⟩
def Af (s:Scn) (b:Int):Scn×Int:=
 if Db s=false∨Am b 0 255=false∨(s.have_=9∧1<b) then (s,2)
 else (⟨s.bits+b % 128*2 ^ (7*s.have_.toNat),s.have_+1⟩,if b<128 then 1 else 0)
def Bu (s:Scn) (b:Int):Scn:=if Am s.have_ 0 7=true∧Am b 0 255=true then ⟨IntKind.u64.wrap (s.bits+IntKind.u64.wrap (b*2 ^ min (Int.toNat (8*s.have_)) 64)),s.have_+1⟩ else s
def Dj (d:Dcd) (a:Int):Dcd:=⟨d.plan,d.mode,d.stack,d.scan,if d.scan.have_=0∧(d.mode=1∨d.mode=2∨d.mode=4) then a else d.start,d.at_,d.field,d.wire,d.want,d.utf,d.end_⟩
def St (m q:Mac):Mac:=if (m.d.mode≠1∧Di m.d=0)∨(m.d.mode=8∧m.d.want=0) then A1 q 9 m.d.at_ else q
def Bp (m:Mac) (b a:Int):Mac:=
 if (Af m.d.scan b).2=2 then A1 ⟨Dj m.d a,m.out⟩ 1 a
 else if (Af m.d.scan b).2=0 then St m ⟨D3 (Dj m.d a) (Af m.d.scan b).1,m.out⟩
 else if m.d.mode=1 then Ce ⟨D3 (Dj m.d a) scn0,m.out⟩ (Af m.d.scan b).1.bits
 else if m.d.mode=2 then D2 ⟨D3 (Dj m.d a) scn0,m.out⟩ (Af m.d.scan b).1.bits
 else if m.d.mode=4 then Cd ⟨D3 (Dj m.d a) scn0,m.out⟩ (Af m.d.scan b).1.bits
 else Ad (Bm ⟨D3 (Dj m.d a) scn0,m.out⟩ (Af m.d.scan b).1.bits)
def C7 (m:Mac) (b:Int):Mac:=
 if (Bu m.d.scan b).have_<Bq m.d then ⟨D3 m.d (Bu m.d.scan b),m.out⟩
 else if m.d.mode=8∧0<m.d.want∧m.d.want<Bq m.d then A1 (Bm ⟨D3 m.d scn0,m.out⟩ (Bu m.d.scan b).bits) 9 m.d.at_
 else Ad (Bm ⟨D3 m.d scn0,m.out⟩ (Bu m.d.scan b).bits)
def Ak6 (d:Dcd) (u:Utf):Dcd:=⟨d.plan,d.mode,d.stack,d.scan,d.start,d.at_,d.field,d.wire,d.want,u,d.end_⟩
def Dy (m:Mac) (b:Int):Mac:=
 if m.d.field.kind=6 then (match Bo m.d.utf b with
  |none=>A1 m 5 (m.d.at_-1)
  |some u=>Ad ⟨Ak6 m.d u,m.out++[Rv b]⟩)
 else Ad ⟨m.d,m.out++[Rv b]⟩
def Ci (d:Dcd):Dcd:=⟨d.plan,d.mode,if d.stack.length=0 then d.stack else d.stack.set (d.stack.length-1) ⟨(Fu d).msg,Di d-1⟩,d.scan,d.start,d.at_+1,d.field,d.wire,if d.mode=6∨d.mode=7∨d.mode=8 then d.want-1 else d.want,d.utf,d.end_⟩
def Dn (m:Mac) (b:Int):Mac:=
 if m.d.mode=6 then Dy ⟨Ci m.d,m.out⟩ b
 else if m.d.mode=7 then Ad ⟨Ci m.d,m.out⟩
 else if 0<Bq m.d then C7 ⟨Ci m.d,m.out⟩ b
 else Bp ⟨Ci m.d,m.out⟩ b m.d.at_
theorem J3 {m q:Mac} (h:Az m=some q):q.d.stack.length≤m.d.stack.length∧q.d.plan=m.d.plan:=by
 unfold Az at h
 split at h
 ·split at h<;>(cases h;exact⟨Nat.le_refl _,rfl⟩)
 ·split at h
  ·cases h;exact⟨Nat.le_refl _,rfl⟩
  ·split at h
   ·cases h
    split<;>(refine⟨?_,rfl⟩;simp only[List.length_take];omega)
   ·cases h
theorem Wd (m:Mac):(Ad m).out.length≤m.out.length+wM m:=by
 suffices ∀(k:Nat) (m:Mac),wM m≤k→(Ad m).out.length≤m.out.length+wM m from this _ m (Nat.le_refl _)
 intro k
 induction k with
 |zero=>
  intro m hk
  cases h:Az m with
  |none=>rw[Br h];omega
  |some q=>have:=(Bz h).1;omega
 |succ k ih=>
  intro m hk
  cases h:Az m with
  |none=>rw[Br h];omega
  |some q=>
   have h1:=Bz h
   have:=ih q (by omega)
   rw[Ca h];omega
theorem Afs (m:Mac):wM m≤m.d.stack.length+2:=by unfold wM;split<;>(try split)<;>omega
theorem By {d:Dcd} (h:Ba d=true):Ez d.plan=true∧(d.stack.length:Int)≤d.plan.deep∧d.stack.length≤8∧(∀l∈d.stack,E1 (d.plan.shapes.length:Int) l=true):=by
 simp only[Ba,Bool.and_eq_true,decide_eq_true_eq,List.all_eq_true] at h
 have:=B8 h.1.1
 exact⟨h.1.1,h.1.2,by omega,h.2⟩
theorem Kk {d:Dcd} (h1:Ez d.plan=true) (h2:(d.stack.length:Int)≤d.plan.deep) (h3: ∀l∈d.stack,E1 (d.plan.shapes.length:Int) l=true):Ba d=true:=by
 simp only[Ba,Bool.and_eq_true,decide_eq_true_eq,List.all_eq_true];exact⟨⟨h1,h2⟩,h3⟩
theorem Rg {d e:Dcd} {u:Int} (h:Ba d=true) (hp:e.plan=d.plan) (hs:e.stack=[⟨d.plan.root,u⟩]) (h0:0≤u) (hu:u≤d.plan.most):Ba e=true:=by
 have hb:=By h
 have ht:=B8 hb.1
 refine Kk (by rw[hp];exact hb.1) (by rw[hs,hp];simp;omega) fun l hl=>?_
 rw[hs] at hl
 simp at hl
 subst hl
 rw[hp]
 simp[E1,Am];omega
theorem B5 {d e:Dcd} (h:Ba d=true) (hp:e.plan=d.plan) (hs:e.stack=d.stack):Ba e=true:=by
 have hb:=By h
 exact Kk (by rw[hp];exact hb.1) (by rw[hs,hp];exact hb.2.1) (by rw[hs,hp];exact hb.2.2.2)
theorem X6 {l:List Shp} {f:Fld} (hl:Dm l=true): ∀ {k:Nat},E8 l f k=true→Hv f (l.length:Int)=true
 |0,h=>by cases h
 |k+1,h=>by
  simp only[E8,Bool.or_eq_true,decide_eq_true_eq] at h
  rcases h with h|h
  ·exact X6 hl h
  ·exact(Qh hl h).1
theorem Su {d:Dcd} (h:d.stack.length≠0):Fu d∈d.stack:=by
 unfold Fu
 rw[List.getD_eq_getElem?_getD,List.getElem?_eq_getElem (by omega)]
 exact List.getElem_mem _
theorem Sv {d e:Dcd} {u:Int} (h:Ba d=true) (hk:known d.plan.shapes d.field=true) (h8:d.field.kind=8) (hn:d.stack.length≠0) (hd:(d.stack.length:Int)<d.plan.deep) (h0:0≤u) (hu:u≤Di d) (hp:e.plan=d.plan)
  (hs:e.stack=d.stack.set (d.stack.length-1) ⟨(Fu d).msg,Di d-u⟩++[⟨d.field.msg,u⟩]):Ba e=true:=by
 have hb:=By h
 have hf:=V9 (X6 (B8 hb.1).2.1 hk)
 have hm:=hf.2.2.2.2.1 h8
 have hl:=hb.2.2.2 _ (Su hn)
 have ht:Di d=(Fu d).left:=rfl
 simp only[E1,Bool.and_eq_true] at hl
 have hl1:=As hl.1;have hl2:=As hl.2
 refine Kk (by rw[hp];exact hb.1) (by rw[hs,hp];simp;omega) fun l hl=>?_
 rw[hs] at hl
 rw[hp]
 rcases List.mem_append.1 hl with hl|hl
 ·rcases List.mem_or_eq_of_mem_set hl with hl|hl
  ·exact hb.2.2.2 l hl
  ·subst hl;simp[E1,Am];omega
 ·simp at hl;subst hl;simp[E1,Am];omega
theorem Gt {d:Dcd} (h:Ba d=true):0≤Di d∧Di d≤2000:=by
 by_cases hn:d.stack.length=0
 ·rw[Y8 (List.eq_nil_of_length_eq_zero hn)];omega
 ·have hl:=(By h).2.2.2 _ (Su hn)
  have ht:Di d=(Fu d).left:=rfl
  simp only[E1,Bool.and_eq_true] at hl
  have:=As hl.2;omega
theorem Jn {d:Dcd} {x:Lev} (h:d.stack[d.stack.length-1]? =some x):Fu d=x∧Di d=x.left:=by
 have e:Fu d=x:=by unfold Fu;exact V7 h
 exact⟨e,by show (Fu d).left=_;rw[e]⟩
theorem Ak7 (u:Int):0≤Aj u∧Aj u≤7:=by unfold Aj;split<;>omega
theorem Sw {s:Scn} (h:Db s=true) (h0:0≤s.bits):0≤s.have_∧s.have_≤9∧s.bits<2 ^ (7*s.have_.toNat):=by
 simp only[Db,Bool.and_eq_true,decide_eq_true_eq] at h
 have hw:=As h.1
 refine⟨hw.1,hw.2,?_⟩
 have h2:=h.2
 rw[show min (Int.toNat (7*s.have_)) 64=7*s.have_.toNat by omega] at h2
 have hp:(0:Int)<2 ^ (7*s.have_.toNat):=Int.pow_pos (by decide)
 rw[Int.fdiv_eq_ediv_of_nonneg _ (Int.le_of_lt hp)] at h2
 apply Int.not_le.1
 intro hle
 have:=Int.le_ediv_of_mul_le hp (show 1*2 ^ (7*s.have_.toNat)≤s.bits by rw[Int.one_mul];exact hle)
 omega
theorem Ade {c:Int} {h:Int} (h0:0≤h) (h9:h≤9) (c0:0≤c) (c1:c≤127) (hc:h=9→c≤1):0≤c*2 ^ (7*h.toNat)∧c*2 ^ (7*h.toNat)+2 ^ (7*h.toNat)≤18446744073709551616:=by
 obtain ⟨k,rfl⟩:=Int.eq_ofNat_of_zero_le h0
 have hk:k≤9:=by omega
 rw[Int.toNat_natCast]
 rcases (show k=0∨k=1∨k=2∨k=3∨k=4∨k=5∨k=6∨k=7∨k=8∨k=9 by omega) with rfl|rfl|rfl|rfl|rfl|rfl|rfl|rfl|rfl|rfl<;>simp at * <;>omega
theorem Sx {c h:Int} (h0:0≤h) (h9:h≤9) (c0:0≤c) (c1:c≤127) (hc:h=9→c≤1):(.v (.c (.int .u64 (IntKind.u64.wrap (c*2 ^ min (Int.toNat (7*h)) 64)))):S)= .v (.c (.int .u64 (c*2 ^ (7*h.toNat)))):=by
 have:=Ade h0 h9 c0 c1 hc
 have hp:(0:Int)<2 ^ (7*h.toNat):=Int.pow_pos (by decide)
 rw[show min (Int.toNat (7*h)) 64=7*h.toNat by omega]
 exact B0 Q2 Q2
theorem Adf {u c h:Int} (h0:0≤h) (h9:h≤9) (c0:0≤c) (c1:c≤127) (hc:h=9→c≤1) (u0:0≤u) (u1:u<2 ^ (7*h.toNat)):(.v (.c (.int .u64 (IntKind.u64.wrap (((BitVec.ofInt 64 u|||BitVec.ofInt 64 (c*2 ^ (7*h.toNat))).toNat:Nat):Int)))):S)= .v (.c (.int .u64 (u+c*2 ^ (7*h.toNat)))):=by
 have:=Ade h0 h9 c0 c1 hc
 rw[Aoc (k:=7*h.toNat) (c:=c) u0 u1 c0 rfl (by omega)]
 exact B0 Q2 Q2
theorem Aam {u c h:Int} (h0:0≤h) (h9:h≤9) (c0:0≤c) (c1:c≤127) (hc:h=9→c≤1) (u0:0≤u) (u1:u<2 ^ (7*h.toNat)):(.v (.c (.int .u64 (IntKind.u64.wrap (u+c*2 ^ (7*h.toNat))))):S)= .v (.c (.int .u64 (u+c*2 ^ (7*h.toNat)))):=by
 have:=Ade h0 h9 c0 c1 hc
 exact B0 Q2 Q2
theorem Qi {s:Scn} {b:Int} (h0:0≤s.bits) (h1:s.bits≤18446744073709551615):0≤(Af s b).1.bits∧(Af s b).1.bits≤18446744073709551615:=by
 unfold Af
 split
 ·exact⟨h0,h1⟩
 ·rename_i h
  simp only[not_or] at h
  have hs:Db s=true:=by simpa using h.1
  have hb:=As (show Am b 0 255=true by simpa using h.2.1)
  have hk:=Sw hs h0
  have hc:=Ade (c:=b % 128) hk.1 hk.2.1 (by omega) (by omega) (fun h9=>by have:=h.2.2;omega)
  simp only;omega
structure MW (d:Dcd):Prop where
 lv:Ba d=true
 kn:d.field=fld0∨known d.plan.shapes d.field=true
 b0:0≤d.scan.bits∧d.scan.bits≤18446744073709551615
 at_:0≤d.at_∧d.at_≤1000000001
 want: -1≤d.want∧d.want≤2001
theorem Aan {s:Scn} {b:Int} (h0:0≤s.bits∧s.bits≤18446744073709551615):0≤(Bu s b).bits∧(Bu s b).bits≤18446744073709551615:=by
 unfold Bu
 split
 ·simp only
  rw[IntKind.wrap_u64]
  have:=Int.emod_nonneg (s.bits+IntKind.u64.wrap (b*2 ^ min (Int.toNat (8*s.have_)) 64)) (show (18446744073709551616:Int)≠0 by decide)
  have:=Int.emod_lt_of_pos (s.bits+IntKind.u64.wrap (b*2 ^ min (Int.toNat (8*s.have_)) 64)) (show (0:Int)<18446744073709551616 by decide)
  omega
 ·exact h0
theorem MW.step {d:Dcd} (h:MW d) (hs:d.stack.length=0∨1≤Di d) (ha:d.at_≤1000000000) (hw:(d.mode=6∨d.mode=7∨d.mode=8)→0≤d.want):MW (Ci d):=by
 have hb:=By h.lv
 refine⟨?_,h.kn,h.b0,?_,?_⟩
 ·refine Kk (d:=Ci d) hb.1 ?_ ?_
  ·show (((Ci d).stack.length:Nat):Int)≤d.plan.deep
   unfold Ci;simp only;split
   ·exact hb.2.1
   ·rw[List.length_set];exact hb.2.1
  ·intro l hl
   show E1 (d.plan.shapes.length:Int) l=true
   unfold Ci at hl
   simp only at hl
   split at hl
   ·exact hb.2.2.2 l hl
   ·rename_i hn
    rcases List.mem_or_eq_of_mem_set hl with hl|hl
    ·exact hb.2.2.2 l hl
    ·have hx:=hb.2.2.2 _ (Su hn)
     have ht:Di d=(Fu d).left:=rfl
     simp only[E1,Bool.and_eq_true] at hx
     have h1:=As hx.1;have h2:=As hx.2
     subst hl;simp[E1,Am];omega
 ·have:=h.at_;show 0≤d.at_+1∧d.at_+1≤1000000001;omega
 ·have:=h.want
  show-1≤(if d.mode=6∨d.mode=7∨d.mode=8 then d.want-1 else d.want)∧(if d.mode=6∨d.mode=7∨d.mode=8 then d.want-1 else d.want)≤2001
  split
  ·rename_i hm;have:=hw hm;omega
  ·exact this
theorem Fm (m:Mac) (u:Int):(Bm m u).out.length≤m.out.length+1:=by
 unfold Bm
 simp only
 split<;>simp
theorem Sy (m:Mac) (u:Int):(Bm m u).d.at_=m.d.at_:=rfl
theorem M0 (m:Mac) (u:Int):(Bm m u).d.want=m.d.want:=rfl
def Ab (j0:Nat) (j5:Nat) (j27:Nat) (x:Mac):List C:=[.own j0,.int .i64 x.d.plan.root,.int .i64 x.d.plan.deep,.int .i64 x.d.plan.most,.int .i64 x.d.mode,.own j5,.int .u64 x.d.scan.bits,.int .i64 x.d.scan.have_,.int .i64 x.d.start,.int .i64 x.d.at_,.int .i64 x.d.field.number,.int .i64 x.d.field.kind,.bool x.d.field.rep,.bool x.d.field.packed,.int .i64 x.d.field.msg,.int .i64 x.d.wire,.int .i64 x.d.want,.int .i64 x.d.utf.want,.int .i64 x.d.utf.low,.int .i64 x.d.utf.high,.int .i64 x.d.end_.kind,.int .i64 x.d.end_.field,.int .u64 x.d.end_.bits,.int .i64 x.d.end_.len,.str x.d.end_.text,.int .i64 x.d.end_.code,.int .i64 x.d.end_.at_,.own j27]
def Fw (p:Pln):Dcd:=if Ez p=true then ⟨p,1,[],⟨0,0⟩,0,0,⟨0,0,false,false,0⟩,0,0,⟨0,0,0⟩,⟨0,0,0,0,[],0,0⟩⟩ else ⟨⟨[],0,0,0⟩,0,[],⟨0,0⟩,0,0,⟨0,0,false,false,0⟩,0,0,⟨0,0,0⟩,⟨0,0,0,0,[],0,0⟩⟩
theorem Ei {l:List Shp} (h:Dm l=true): ∀e∈l,e.fields.length≤1048576:=fun e he=>by have:=Du h e he;omega
theorem Aao {m:Mac} (h1:m.d.mode=6) (h2:m.d.want<1) (h3:0<m.d.utf.want):Ad m=A1 m 5 m.d.at_:=by
 have hc:Az m=some (A1 m 5 m.d.at_):=by unfold Az;rw[if_pos ⟨h1,h2⟩,if_pos h3]
 rw[Ca hc,Br]
 unfold Az A1 A3
 simp
theorem We {d:Dcd} {o:List Ev} (h2:d.mode=2) (hs:d.scan.have_=0) (hl:0<d.stack.length) (ht:Di d=0) (h1:d.stack.length=1):Az ⟨d,o⟩=some ⟨⟨d.plan,1,d.stack.take (d.stack.length-1),d.scan,d.start,d.at_,d.field,d.wire,d.want,d.utf,d.end_⟩,o++[Jm]⟩:=by
 unfold Az
 simp only
 rw[if_neg (by omega),if_neg (by omega),if_pos ⟨h2,hs,hl,ht⟩,if_pos h1]
theorem Wf {d:Dcd} {o:List Ev} (h2:d.mode=2) (hs:d.scan.have_=0) (hl:0<d.stack.length) (ht:Di d=0) (h1:d.stack.length≠1):Az ⟨d,o⟩=some ⟨⟨d.plan,d.mode,d.stack.take (d.stack.length-1),d.scan,d.start,d.at_,d.field,d.wire,d.want,d.utf,d.end_⟩,o++[Ajg]⟩:=by
 unfold Az
 simp only
 rw[if_neg (by omega),if_neg (by omega),if_pos ⟨h2,hs,hl,ht⟩,if_neg h1]
theorem Ag0 {d:Dcd} {o:List Ev} {u:Int} (h:d.mode=8) (hf:d.field≠fld0):Bm ⟨d,o⟩ u=⟨d,o++[E0 d.field u]⟩:=by
 cases d
 unfold Bm
 simp only at h hf ⊢
 rw[if_pos h,if_neg hf,h]
theorem Ag1 {d:Dcd} {o:List Ev} {u:Int} (h:d.mode=8) (hf:d.field=fld0):Bm ⟨d,o⟩ u=⟨d,o⟩:=by
 cases d
 unfold Bm
 simp only at h hf ⊢
 rw[if_pos h,if_pos hf,h]
theorem Hf {d:Dcd} (h:B9 d=true):Ba d=true∧(1≤d.mode∧d.mode≤9)∧(0≤d.at_∧d.at_≤1000000000)∧(0≤d.start∧d.start≤d.at_)∧E6 d.utf=true∧Ea d.wire=true∧(d.field=fld0∨known d.plan.shapes d.field=true)∧Zy d=true∧Jh d=true∧Jc d=true∧Jd d=true∧Kj d=true:=by
 simp only[B9,Bool.and_eq_true,Bool.or_eq_true,decide_eq_true_eq] at h
 obtain ⟨⟨⟨⟨⟨⟨⟨⟨⟨⟨⟨h1,h2⟩,h3⟩,h4⟩,h5⟩,h6⟩,h7⟩,h8⟩,h9⟩,h10⟩,h11⟩,h12⟩:=h
 exact⟨h1,As h2,As h3,As h4,h5,h6,h7,h8,h9,h10,h11,h12⟩
theorem Ab7 {d:Dcd} (h:Jc d=true):((d.mode=6∨d.mode=7∨d.mode=8)→1≤d.want∧d.want≤Di d)∧(¬(d.mode=6∨d.mode=7∨d.mode=8)→d.want=0):=by
 unfold Jc at h
 split at h
 ·rename_i hm;exact⟨fun _=>As h,fun h=>absurd hm h⟩
 ·rename_i hm;exact⟨fun h=>absurd h hm,fun _=>of_decide_eq_true h⟩
theorem U8 {d:Dcd} (h:B9 d=true) (hb:0≤d.scan.bits∧d.scan.bits≤18446744073709551615):MW d:=by
 obtain ⟨h1,h2,h3,h4,h5,h6,h7,h8,h9,h10,h11,h12⟩:=Hf h
 have ht:=Gt h1
 have hw:=Ab7 h10
 refine⟨h1,h7,hb,by omega,?_⟩
 by_cases hm:d.mode=6∨d.mode=7∨d.mode=8
 ·have:=hw.1 hm;omega
 ·have:=hw.2 hm;omega
theorem U9 {d:Dcd} (h:B9 d=true) (h9:d.mode≠9):(d.stack.length=0∨1≤Di d)∧d.at_≤1000000000∧((d.mode=6∨d.mode=7∨d.mode=8)→0≤d.want)∧(d.mode=8→Se d.field=true)∧d.end_=ev0:=by
 obtain ⟨h1,h2,h3,h4,h5,h6,h7,h8,hs,h10,h11,h12⟩:=Hf h
 have hw:=Ab7 h10
 refine⟨?_,by omega,fun hm=>by have:=hw.1 hm;omega,fun hm=>?_,?_⟩
 ·unfold Jh at hs
  by_cases hm1:d.mode=1
  ·rw[if_pos hm1] at hs;left;rw[of_decide_eq_true hs];rfl
  ·rw[if_neg hm1,if_neg h9] at hs;exact .inr (of_decide_eq_true hs)
 ·unfold Jd at h11
  rw[if_neg (by omega),if_pos hm] at h11
  exact h11
 ·unfold Zy at h8
  rw[if_neg h9] at h8
  exact of_decide_eq_true h8
def D0 (d:Dcd):Bool:= !decide (d.mode=9)&&decide (d.at_<1000000000)
def Bc (d:Dcd) (b:Int):Mac:=if B9 d=true∧D0 d=true∧Am b 0 255=true then Dn ⟨d,[]⟩ b else ⟨d,[]⟩
theorem Amv {f:Fld} (h:Se f=true):f≠fld0:=fun e=>by subst e;simp[Se,fld0] at h
theorem Aap (m:Mac):(Ad m).d.plan=m.d.plan∧(Ad m).d.stack.length≤m.d.stack.length:=by
 suffices ∀(k:Nat) (m:Mac),wM m≤k→(Ad m).d.plan=m.d.plan∧(Ad m).d.stack.length≤m.d.stack.length from this _ m (Nat.le_refl _)
 intro k
 induction k with
 |zero=>
  intro m hk
  cases h:Az m with
  |none=>rw[Br h];exact⟨rfl,Nat.le_refl _⟩
  |some q=>have:=(Bz h).1;omega
 |succ k ih=>
  intro m hk
  cases h:Az m with
  |none=>rw[Br h];exact⟨rfl,Nat.le_refl _⟩
  |some q=>
   have h1:=Bz h
   have h2:=J3 h
   have h3:=ih q (by omega)
   rw[Ca h]
   exact⟨h3.1.trans h2.2,Nat.le_trans h3.2 h2.1⟩
structure Gr (m q:Mac):Prop where
 plan:q.d.plan=m.d.plan
 stack:q.d.stack.length≤m.d.stack.length+1
 out:q.out.length≤m.out.length+m.d.stack.length+6
theorem Gr.fail (m:Mac) (c a:Int):Gr m (A1 m c a):=⟨rfl,Nat.le_succ _,by simp only[A1,List.length_append,List.length_cons,List.length_nil];omega⟩
theorem Gr.settle {m x:Mac} (hp:x.d.plan=m.d.plan) (hs:x.d.stack.length≤m.d.stack.length+1) (ho:x.out.length≤m.out.length+2):Gr m (Ad x):=by
 have h1:=Aap x
 have h2:=Wd x
 have h3:=Afs x
 exact⟨h1.1.trans hp,by omega,by omega⟩
theorem Gr.of {m x q:Mac} (h:Gr x q) (hp:x.d.plan=m.d.plan) (hs:x.d.stack.length=m.d.stack.length) (ho:x.out.length=m.out.length):Gr m q:=⟨h.plan.trans hp,by have:=h.stack;omega,by have:=h.out;omega⟩
theorem Ag2 (m:Mac) (u:Int):Gr m (Ce m u):=by
 unfold Ce
 split
 ·exact Gr.fail _ _ _
 ·exact Gr.settle rfl (by simp) (by simp)
theorem Amw (m:Mac) (u:Int):Gr m (D2 m u):=by
 unfold D2
 split
 ·exact Gr.fail _ _ _
 ·split
  ·exact Gr.fail _ _ _
  ·split
   ·exact Gr.fail _ _ _
   ·split
    ·exact(Gr.fail _ _ _).of rfl rfl rfl
    ·exact⟨rfl,Nat.le_succ _,by simp only;omega⟩
theorem Ajh (m:Mac) (u:Int):Gr m (Cd m u):=by
 unfold Cd
 split
 ·exact Gr.fail _ _ _
 ·split
  ·exact Gr.settle rfl (Nat.le_succ _) (by simp)
  ·split
   ·split
    ·exact Gr.fail _ _ _
    ·exact Gr.settle rfl (by simp) (by simp)
   ·split
    ·exact Gr.settle rfl (Nat.le_succ _) (by simp)
    ·split
     ·exact Gr.fail _ _ _
     ·exact Gr.settle rfl (Nat.le_succ _) (by simp)
theorem Amx (m:Mac) (b a:Int):Gr m (Bp m b a):=by
 unfold Bp
 split
 ·exact(Gr.fail _ _ _).of rfl rfl rfl
 ·split
  ·unfold St
   split
   ·exact(Gr.fail _ _ _).of rfl rfl rfl
   ·exact⟨rfl,Nat.le_succ _,by simp only;omega⟩
  ·split
   ·exact(Ag2 _ _).of rfl rfl rfl
   ·split
    ·exact(Amw _ _).of rfl rfl rfl
    ·split
     ·exact(Ajh _ _).of rfl rfl rfl
     ·exact Gr.settle rfl (Nat.le_succ _) (Nat.le_trans (Fm _ _) (Nat.le_succ _))
theorem Amy (m:Mac) (b:Int):Gr m (C7 m b):=by
 unfold C7
 split
 ·exact⟨rfl,Nat.le_succ _,by simp only;omega⟩
 ·split
  ·have:=Fm ⟨D3 m.d scn0,m.out⟩ (Bu m.d.scan b).bits
   exact⟨rfl,Nat.le_succ _,by simp only[A1,List.length_append,List.length_cons,List.length_nil] at this ⊢;omega⟩
  ·exact Gr.settle rfl (Nat.le_succ _) (Nat.le_trans (Fm _ _) (Nat.le_succ _))
theorem Aji (m:Mac) (b:Int):Gr m (Dy m b):=by
 unfold Dy
 split
 ·split
  ·exact Gr.fail _ _ _
  ·exact Gr.settle rfl (Nat.le_succ _) (by simp)
 ·exact Gr.settle rfl (Nat.le_succ _) (by simp)
theorem Km (d:Dcd):(Ci d).stack.length=d.stack.length:=by unfold Ci;simp only;split<;>simp
theorem Ajj (m:Mac) (b:Int):Gr m (Dn m b):=by
 unfold Dn
 split
 ·exact(Aji _ _).of rfl (Km _) rfl
 ·split
  ·exact Gr.settle rfl (by show (Ci m.d).stack.length≤_;rw[Km];omega) (by simp)
  ·split
   ·exact(Amy _ _).of rfl (Km _) rfl
   ·exact(Amx _ _ _).of rfl (Km _) rfl
theorem Zb (d:Dcd) (b:Int):Gr ⟨d,[]⟩ (Bc d b):=by
 unfold Bc
 split
 ·exact Ajj _ _
 ·exact⟨rfl,Nat.le_succ _,by simp⟩
theorem Aem {d:Dcd} {b:Int} :(Bc d b).d.plan=d.plan∧(Bc d b).d.stack.length≤d.stack.length+1:=⟨(Zb d b).plan,(Zb d b).stack⟩
theorem Ag3 {d:Dcd} {b:Int} :(Bc d b).out.length≤d.stack.length+6:=by have:=(Zb d b).out;simp only[List.length_nil] at this;omega
theorem Cc (n:Int) (lo:Int) (hi:Int):Fun Tryz.prog 79 [vI n,vI lo,vI hi] [] (.v (vB (Am n lo hi))) []:=by
 have hN:Bf=274877906944:=rfl
 refine Aq Tryz.func79 Q4 Q4 (w:=(.br (.leaf () []) (.leaf () []),((decide (lo≤n))=true→(.v (vB (decide (n≤hi))):S)= .v (vB (Am n lo hi))∧([]:List Blk)=[])∧((decide (lo≤n))=false→(.v (vB false):S)= .v (vB (Am n lo hi))∧([]:List Blk)=[]))) Q4 ?_
 refine dsp (fun h1 p1=>?_) fun h1 p1=>?_
 exact⟨(congrArg S.v (congrArg V.c (congrArg C.bool (by simp[Am, *])))),rfl⟩
 exact⟨(congrArg S.v (congrArg V.c (congrArg C.bool (by simp[Am, *])))),rfl⟩
theorem Be (n:Int) (lo:Int) (hi:Int):Fun Tryz.prog 59 [vI n,vI lo,vI hi] [] (.v (vB (Am n lo hi))) []:=by
 have hN:Bf=274877906944:=rfl
 refine Aq Tryz.func59 Q4 Q4 (w:=(.br (.leaf () []) (.leaf () []),((decide (lo≤n))=true→(.v (vB (decide (n≤hi))):S)= .v (vB (Am n lo hi))∧([]:List Blk)=[])∧((decide (lo≤n))=false→(.v (vB false):S)= .v (vB (Am n lo hi))∧([]:List Blk)=[]))) Q4 ?_
 refine dsp (fun h1 p1=>?_) fun h1 p1=>?_
 exact⟨(congrArg S.v (congrArg V.c (congrArg C.bool (by simp[Am, *])))),rfl⟩
 exact⟨(congrArg S.v (congrArg V.c (congrArg C.bool (by simp[Am, *])))),rfl⟩
theorem G9 (a:Int) (b:Int):Fun Tryz.prog 208 [vI a,vI b] [] (.v (vI (max a b))) []:=by
 have hN:Bf=274877906944:=rfl
 refine Aq Tryz.func208 Q4 Q4 (w:=(.br (.leaf () []) (.leaf () []),((decide (b<a))=true→(.v (vI a):S)= .v (vI (max a b))∧([]:List Blk)=[])∧((decide (b<a))=false→(.v (vI b):S)= .v (vI (max a b))∧([]:List Blk)=[]))) Q4 ?_
 refine dsp (fun h1 p1=>?_) fun h1 p1=>?_
 exact⟨(congrArg S.v (congrArg V.c (congrArg (C.int .i64) Q2))),rfl⟩
 exact⟨(congrArg S.v (congrArg V.c (congrArg (C.int .i64) Q2))),rfl⟩
theorem Aen (n:Int):Fun Tryz.prog 194 [vI n] [] (.v (vB (Dk n))) []:=by
 have hN:Bf=274877906944:=rfl
 refine Aq Tryz.func194 Q4 Q4 (w:=let z1:=Am n 1 536870911;let z2:=Am n 19000 19999;(.seg [.call [] (.v (vB z1)) []] (.br (.seg [.call [] (.v (vB z2)) []] (.leaf () [])) (.leaf () [])),(Fun Tryz.prog 79 [vI n,vI 1,vI 536870911] [] (.v (vB z1)) [])∧(z1=true→(Fun Tryz.prog 79 [vI n,vI 19000,vI 19999] [] (.v (vB z2)) [])∧(.v (vB (!z2)):S)= .v (vB (Dk n))∧([]:List Blk)=[])∧(z1=false→(.v (vB false):S)= .v (vB (Dk n))∧([]:List Blk)=[]))) Q4 ?_
 refine⟨(Cc _ _ _),fun h1=>have p1:=As h1;?_,fun h1=>have p1:=A0 h1;?_⟩
 exact⟨(Cc _ _ _),(congrArg S.v (congrArg V.c (congrArg C.bool (by simp[Dk, *])))),rfl⟩
 exact⟨(congrArg S.v (congrArg V.c (congrArg C.bool (by simp[Dk, *])))),rfl⟩
theorem X7 (n:Int):Fun Tryz.prog 191 [vI n] [] (.v (vB (Dk n))) []:=by
 have hN:Bf=274877906944:=rfl
 refine Aq Tryz.func191 Q4 Q4 (w:=let z1:=Am n 1 536870911;let z2:=Am n 19000 19999;(.seg [.call [] (.v (vB z1)) []] (.br (.seg [.call [] (.v (vB z2)) []] (.leaf () [])) (.leaf () [])),(Fun Tryz.prog 59 [vI n,vI 1,vI 536870911] [] (.v (vB z1)) [])∧(z1=true→(Fun Tryz.prog 59 [vI n,vI 19000,vI 19999] [] (.v (vB z2)) [])∧(.v (vB (!z2)):S)= .v (vB (Dk n))∧([]:List Blk)=[])∧(z1=false→(.v (vB false):S)= .v (vB (Dk n))∧([]:List Blk)=[]))) Q4 ?_
 refine⟨(Be _ _ _),fun h1=>have p1:=As h1;?_,fun h1=>have p1:=A0 h1;?_⟩
 exact⟨(Be _ _ _),(congrArg S.v (congrArg V.c (congrArg C.bool (by simp[Dk, *])))),rfl⟩
 exact⟨(congrArg S.v (congrArg V.c (congrArg C.bool (by simp[Dk, *])))),rfl⟩
theorem Adg (w:Int):Fun Tryz.prog 81 [vI w] [] (.v (vB (Ea w))) []:=by
 have hN:Bf=274877906944:=rfl
 refine Aq Tryz.func81 Q4 Q4 (w:=let z1:=vB (Ea w);let z2:=([]:List Blk);let z3:=(.v (vB true):S);(.br (.leaf () []) (.br (.leaf () []) (.br (.leaf () []) (.leaf () []))),((decide (w=0))=true→z3= .v z1∧z2=[])∧((decide (w=0))=false→((decide (w=1))=true→z3= .v z1∧z2=[])∧((decide (w=1))=false→((decide (w=2))=true→z3= .v z1∧z2=[])∧((decide (w=2))=false→(.v (vB (decide (w=5))):S)= .v z1∧z2=[]))))) Q4 ?_
 refine dsp (fun h1 p1=>?_) fun h1 p1=>?_
 exact⟨(congrArg S.v (congrArg V.c (congrArg C.bool Q84))),rfl⟩
 refine dsp (fun h2 p2=>?_) fun h2 p2=>?_
 exact⟨(congrArg S.v (congrArg V.c (congrArg C.bool Q84))),rfl⟩
 refine dsp (fun h3 p3=>?_) fun h3 p3=>?_
 exact⟨(congrArg S.v (congrArg V.c (congrArg C.bool Q84))),rfl⟩
 exact⟨(congrArg S.v (congrArg V.c (congrArg C.bool Q84))),rfl⟩
theorem Adh (w:Int):Fun Tryz.prog 69 [vI w] [] (.v (vB (Ea w))) []:=by
 have hN:Bf=274877906944:=rfl
 refine Aq Tryz.func69 Q4 Q4 (w:=let z1:=vB (Ea w);let z2:=([]:List Blk);let z3:=(.v (vB true):S);(.br (.leaf () []) (.br (.leaf () []) (.br (.leaf () []) (.leaf () []))),((decide (w=0))=true→z3= .v z1∧z2=[])∧((decide (w=0))=false→((decide (w=1))=true→z3= .v z1∧z2=[])∧((decide (w=1))=false→((decide (w=2))=true→z3= .v z1∧z2=[])∧((decide (w=2))=false→(.v (vB (decide (w=5))):S)= .v z1∧z2=[]))))) Q4 ?_
 refine dsp (fun h1 p1=>?_) fun h1 p1=>?_
 exact⟨(congrArg S.v (congrArg V.c (congrArg C.bool Q84))),rfl⟩
 refine dsp (fun h2 p2=>?_) fun h2 p2=>?_
 exact⟨(congrArg S.v (congrArg V.c (congrArg C.bool Q84))),rfl⟩
 refine dsp (fun h3 p3=>?_) fun h3 p3=>?_
 exact⟨(congrArg S.v (congrArg V.c (congrArg C.bool Q84))),rfl⟩
 exact⟨(congrArg S.v (congrArg V.c (congrArg C.bool Q84))),rfl⟩
theorem Adi (k:Int):Fun Tryz.prog 195 [vI k] [] (.v (vB (Ey k))) []:=by
 have hN:Bf=274877906944:=rfl
 refine Aq Tryz.func195 Q4 Q4 (w:=let z1:=vB (Am k 1 8);(.seg [.call [] (.v z1) []] (.leaf () []),(Fun Tryz.prog 79 [vI k,vI 1,vI 8] [] (.v z1) [])∧(.v z1:S)= .v (vB (Ey k))∧([]:List Blk)=[])) Q4 ?_
 exact⟨(Cc _ _ _),(congrArg S.v (congrArg V.c (congrArg C.bool (by rfl)))),rfl⟩
theorem Va (k:Int):Fun Tryz.prog 134 [vI k] [] (.v (vB (Ey k))) []:=by
 have hN:Bf=274877906944:=rfl
 refine Aq Tryz.func134 Q4 Q4 (w:=let z1:=vB (Am k 1 8);(.seg [.call [] (.v z1) []] (.leaf () []),(Fun Tryz.prog 59 [vI k,vI 1,vI 8] [] (.v z1) [])∧(.v z1:S)= .v (vB (Ey k))∧([]:List Blk)=[])) Q4 ?_
 exact⟨(Be _ _ _),(congrArg S.v (congrArg V.c (congrArg C.bool (by rfl)))),rfl⟩
theorem Aaq (k:Int):Fun Tryz.prog 185 [vI k] [] (.v (vB (C6 k))) []:=by
 have hN:Bf=274877906944:=rfl
 refine Aq Tryz.func185 Q4 Q4 (w:=let z1:=vB (Am k 1 5);(.seg [.call [] (.v z1) []] (.leaf () []),(Fun Tryz.prog 79 [vI k,vI 1,vI 5] [] (.v z1) [])∧(.v z1:S)= .v (vB (C6 k))∧([]:List Blk)=[])) Q4 ?_
 exact⟨(Cc _ _ _),(congrArg S.v (congrArg V.c (congrArg C.bool (by rfl)))),rfl⟩
theorem Lx (k:Int):Fun Tryz.prog 135 [vI k] [] (.v (vB (C6 k))) []:=by
 have hN:Bf=274877906944:=rfl
 refine Aq Tryz.func135 Q4 Q4 (w:=let z1:=vB (Am k 1 5);(.seg [.call [] (.v z1) []] (.leaf () []),(Fun Tryz.prog 59 [vI k,vI 1,vI 5] [] (.v z1) [])∧(.v z1:S)= .v (vB (C6 k))∧([]:List Blk)=[])) Q4 ?_
 exact⟨(Be _ _ _),(congrArg S.v (congrArg V.c (congrArg C.bool (by rfl)))),rfl⟩
theorem Zc (k:Int):Fun Tryz.prog 174 [vI k] [] (.v (vI (Bw k))) []:=by
 have hN:Bf=274877906944:=rfl
 refine Aq Tryz.func174 Q4 Q4 (w:=let zi:Int→C:= .int .i64;let z1:=List.getD [0,0,0,5,1,2,2,2] (Int.toNat (k-1)) 0;(.seg [.call [] (.v (vB (Ey k))) []] (.br (.leaf () []) (.seg [.as 8 (.v (vI (k-1))),.ce (zi z1)] (.leaf () []))),(Fun Tryz.prog 195 [vI k] [] (.v (vB (Ey k))) [])∧((!(Ey k))=true→(.v (vI (-1)):S)= .v (vI (Bw k))∧([]:List Blk)=[])∧((!(Ey k))=false→((.v (vI (IntKind.i64.wrap (k-1))):S)= .v (vI (k-1)))∧((([zi 0,zi 0,zi 0,zi 5,zi 1,zi 2,zi 2,zi 2]:List C)[Int.toNat (k-1)]?)=some (zi z1))∧(k-1<((8:Nat):Int))∧((0:Int)≤k-1)∧(.v (vI z1):S)= .v (vI (Bw k))∧([]:List Blk)=[]))) Q4 ?_
 refine⟨(Adi _),fun h1=>have q1:=Ap h1;have p1:=A0 q1;?_,fun h1=>have q1:=An h1;have p1:=As q1;?_⟩
 refine⟨(sI ?_),rfl⟩
 rotate_left
 refine⟨(Ae Q2 Q2),(An8 (l:=[0,0,0,5,1,2,2,2]) (by simp;omega)),Q2,Q2,(sI ?_),rfl⟩
 rotate_left
 all_goals first|(simp[Bw, *];done)|(rcases (show k=1∨k=2∨k=3∨k=4∨k=5∨k=6∨k=7∨k=8 by omega) with rfl|rfl|rfl|rfl|rfl|rfl|rfl|rfl<;>rfl)
theorem Qj (k:Int):Fun Tryz.prog 124 [vI k] [] (.v (vI (Bw k))) []:=by
 have hN:Bf=274877906944:=rfl
 refine Aq Tryz.func124 Q4 Q4 (w:=let z1:=vI (Bw k);let z2:=([]:List Blk);(.seg [.call [] (.v (vB (Ey k))) []] (.br (.leaf () []) (.br (.leaf () []) (.br (.leaf () []) (.seg [.call [] (.v (vB (C6 k))) []] (.br (.leaf () []) (.leaf () [])))))),(Fun Tryz.prog 134 [vI k] [] (.v (vB (Ey k))) [])∧((!(Ey k))=true→(.v (vI (-1)):S)= .v z1∧z2=[])∧((!(Ey k))=false→((decide (k=4))=true→(.v (vI 5):S)= .v z1∧z2=[])∧((decide (k=4))=false→((decide (k=5))=true→(.v (vI 1):S)= .v z1∧z2=[])∧((decide (k=5))=false→(Fun Tryz.prog 135 [vI k] [] (.v (vB (C6 k))) [])∧((C6 k)=true→(.v (vI 0):S)= .v z1∧z2=[])∧((C6 k)=false→(.v (vI 2):S)= .v z1∧z2=[])))))) Q4 ?_
 refine⟨(Va _),fun h1=>have q1:=Ap h1;have p1:=A0 q1;?_,fun h1=>have q1:=An h1;have p1:=As q1;?_⟩
 refine⟨(sI ?_),rfl⟩
 rotate_left
 refine dsp (fun h2 p2=>?_) fun h2 p2=>?_
 refine⟨(sI ?_),rfl⟩
 rotate_left
 refine dsp (fun h3 p3=>?_) fun h3 p3=>?_
 refine⟨(sI ?_),rfl⟩
 rotate_left
 refine⟨(Lx _),fun h4=>have p4:=As h4;?_,fun h4=>have p4:=A0 h4;?_⟩
 refine⟨(sI ?_),rfl⟩
 rotate_left
 refine⟨(sI ?_),rfl⟩
 rotate_left
 all_goals first|(simp[Bw, *]<;>(repeat' split)<;>omega)|(subst_vars;rfl)
theorem Fe (w:Int):Fun Tryz.prog 146 [vI w] [] (.v (vI (Ay w))) []:=by
 have hN:Bf=274877906944:=rfl
 refine Aq Tryz.func146 Q4 Q4 (w:=(.br (.leaf () []) (.br (.leaf () []) (.leaf () [])),((decide (w=1))=true→(.v (vI 8):S)= .v (vI (Ay w))∧([]:List Blk)=[])∧((decide (w=1))=false→((decide (w=5))=true→(.v (vI 4):S)= .v (vI (Ay w))∧([]:List Blk)=[])∧((decide (w=5))=false→(.v (vI 0):S)= .v (vI (Ay w))∧([]:List Blk)=[])))) Q4 ?_
 refine dsp (fun h1 p1=>?_) fun h1 p1=>?_
 exact⟨(congrArg S.v (congrArg V.c (congrArg (C.int .i64) (by simp[Ay, *])))),rfl⟩
 refine dsp (fun h2 p2=>?_) fun h2 p2=>?_
 exact⟨(congrArg S.v (congrArg V.c (congrArg (C.int .i64) (by simp[Ay, *])))),rfl⟩
 exact⟨(congrArg S.v (congrArg V.c (congrArg (C.int .i64) (by simp[Ay, *])))),rfl⟩
theorem Dv (w:Int):Fun Tryz.prog 74 [vI w] [] (.v (vI (Ay w))) []:=by
 have hN:Bf=274877906944:=rfl
 refine Aq Tryz.func74 Q4 Q4 (w:=(.br (.leaf () []) (.br (.leaf () []) (.leaf () [])),((decide (w=1))=true→(.v (vI 8):S)= .v (vI (Ay w))∧([]:List Blk)=[])∧((decide (w=1))=false→((decide (w=5))=true→(.v (vI 4):S)= .v (vI (Ay w))∧([]:List Blk)=[])∧((decide (w=5))=false→(.v (vI 0):S)= .v (vI (Ay w))∧([]:List Blk)=[])))) Q4 ?_
 refine dsp (fun h1 p1=>?_) fun h1 p1=>?_
 exact⟨(congrArg S.v (congrArg V.c (congrArg (C.int .i64) (by simp[Ay, *])))),rfl⟩
 refine dsp (fun h2 p2=>?_) fun h2 p2=>?_
 exact⟨(congrArg S.v (congrArg V.c (congrArg (C.int .i64) (by simp[Ay, *])))),rfl⟩
 exact⟨(congrArg S.v (congrArg V.c (congrArg (C.int .i64) (by simp[Ay, *])))),rfl⟩
theorem Ag4 (f:Fld):Fun Tryz.prog 144 [.agg (F2 f)] [] (.v (vB (Se f))) []:=by
 have hN:Bf=274877906944:=rfl
 refine Aq Tryz.func144 Q4 Q4 (w:=let z1:=vB (C6 f.kind);(.br (.seg [.call [] (.v z1) []] (.leaf () [])) (.leaf () []),(f.rep=true→(Fun Tryz.prog 185 [vI f.kind] [] (.v z1) [])∧(.v z1:S)= .v (vB (Se f))∧([]:List Blk)=[])∧(f.rep=false→(.v (vB false):S)= .v (vB (Se f))∧([]:List Blk)=[]))) Q4 ?_
 refine⟨fun h1=>?_,fun h1=>?_⟩
 exact⟨(Aaq _),(congrArg S.v (congrArg V.c (congrArg C.bool (by simp[Se, *])))),rfl⟩
 exact⟨(congrArg S.v (congrArg V.c (congrArg C.bool (by simp[Se, *])))),rfl⟩
theorem Wg (f:Fld):Fun Tryz.prog 76 [.agg (F2 f)] [] (.v (vB (Se f))) []:=by
 have hN:Bf=274877906944:=rfl
 refine Aq Tryz.func76 Q4 Q4 (w:=let z1:=vB (C6 f.kind);(.br (.seg [.call [] (.v z1) []] (.leaf () [])) (.leaf () []),(f.rep=true→(Fun Tryz.prog 135 [vI f.kind] [] (.v z1) [])∧(.v z1:S)= .v (vB (Se f))∧([]:List Blk)=[])∧(f.rep=false→(.v (vB false):S)= .v (vB (Se f))∧([]:List Blk)=[]))) Q4 ?_
 refine⟨fun h1=>?_,fun h1=>?_⟩
 exact⟨(Lx _),(congrArg S.v (congrArg V.c (congrArg C.bool (by simp[Se, *])))),rfl⟩
 exact⟨(congrArg S.v (congrArg V.c (congrArg C.bool (by simp[Se, *])))),rfl⟩
theorem Kn (f:Fld) (w:Int) (hp1:(0:Int)≤w):Fun Tryz.prog 145 [.agg (F2 f),vI w] [] (.v (vB (C1 f w))) []:=by
 have hN:Bf=274877906944:=rfl
 refine Aq Tryz.func145 Q4 Q4 (w:=let z1:=vB (C1 f w);(.seg [.call [] (.v (vI (Bw f.kind))) []] (.br (.leaf () []) (.br (.seg [.call [] (.v (vB (Se f))) []] (.leaf () [])) (.leaf () []))),(Fun Tryz.prog 174 [vI f.kind] [] (.v (vI (Bw f.kind))) [])∧((decide (w=Bw f.kind))=true→(.v (vB true):S)= .v z1∧([]:List Blk)=[])∧((decide (w=Bw f.kind))=false→((decide (w=2))=true→(Fun Tryz.prog 144 [.agg (F2 f)] [] (.v (vB (Se f))) [])∧(.v (vB (Se f)):S)= .v z1∧([]:List Blk)=[])∧((decide (w=2))=false→(.v (vB false):S)= .v z1∧([]:List Blk)=[])))) Q4 ?_
 refine⟨(Zc _),dsp (fun h1 p1=>?_) fun h1 p1=>?_⟩
 refine⟨(sB ?_),rfl⟩
 rotate_left
 refine dsp (fun h2 p2=>?_) fun h2 p2=>?_
 refine⟨(Ag4 f),(sB ?_),rfl⟩
 rotate_left
 refine⟨(sB ?_),rfl⟩
 rotate_left
 all_goals first|(simp[C1, *]<;>(repeat' split)<;>omega)|(simp[C1,Bw, *]<;>(repeat' split)<;>omega)
theorem Aar (f:Fld) (w:Int) (hp1:(0:Int)≤w):Fun Tryz.prog 75 [.agg (F2 f),vI w] [] (.v (vB (C1 f w))) []:=by
 have hN:Bf=274877906944:=rfl
 refine Aq Tryz.func75 Q4 Q4 (w:=let z2:=vB (Se f);let z3:=vB (C1 f w);let z4:=Ey f.kind;let z5:=([]:List Blk);let z1:=(decide (w=2))=false→(.v (vB false):S)= .v z3∧z5=[];(.seg [.call [] (.v (vB z4)) []] (.br (.seg [.call [] (.v (vI (Bw f.kind))) []] (.br (.leaf () []) (.br (.seg [.call [] (.v z2) []] (.leaf () [])) (.leaf () [])))) (.br (.seg [.call [] (.v z2) []] (.leaf () [])) (.leaf () []))),(Fun Tryz.prog 134 [vI f.kind] [] (.v (vB z4)) [])∧(z4=true→(Fun Tryz.prog 124 [vI f.kind] [] (.v (vI (Bw f.kind))) [])∧((decide (w=Bw f.kind))=true→(.v (vB true):S)= .v z3∧z5=[])∧((decide (w=Bw f.kind))=false→((decide (w=2))=true→(Fun Tryz.prog 76 [.agg (F2 f)] [] (.v z2) [])∧(.v z2:S)= .v z3∧z5=[])∧z1))∧(z4=false→((decide (w=2))=true→(Fun Tryz.prog 76 [.agg (F2 f)] [] (.v z2) [])∧(.v z2:S)= .v z3∧z5=[])∧z1))) Q4 ?_
 refine⟨(Va _),fun h1=>have p1:=As h1;?_,fun h1=>have p1:=A0 h1;?_⟩
 refine⟨(Qj _),dsp (fun h2 p2=>?_) fun h2 p2=>?_⟩
 refine⟨(sB ?_),rfl⟩
 rotate_left
 refine dsp (fun h3 p3=>?_) fun h3 p3=>?_
 refine⟨(Wg f),(sB ?_),rfl⟩
 rotate_left
 refine⟨(sB ?_),rfl⟩
 rotate_left
 refine dsp (fun h2 p2=>?_) fun h2 p2=>?_
 refine⟨(Wg f),(sB ?_),rfl⟩
 rotate_left
 refine⟨(sB ?_),rfl⟩
 rotate_left
 all_goals first|(simp[C1, *]<;>(repeat' split)<;>omega)|(simp[C1,Bw, *]<;>(repeat' split)<;>omega)
structure M1 where
 u:Int
 out:List Int
def M2 (u:Int):Fam:=⟨M1,fun q1=>[(0,.v (.c (.int .u64 q1.u))),(3,.v (vO 0))],fun q1=>[.lst .u8 q1.out],fun q1=>(0:Int)≤q1.u∧q1.u≤18446744073709551615∧List.map Bb q1.out++Dz q1.u=Dz u∧q1.out.length+List.length (Dz q1.u)≤10,fun q1=>q1.u.toNat⟩
theorem Vb (u:Int) (hp1:(0:Int)≤u∧u≤18446744073709551615):Fun Tryz.prog 103 [.c (.int .u64 u)] [] (.v (vT (Dz u))) []:=by
 have hN:Bf=274877906944:=rfl
 refine Aq Tryz.func103 Q4 Q4 (w:=let z2:=M2 u;(.seg [.ty .u8,.at 0,.keep [0,3],.sel [0]] (.loop z2 fun q1=> .br (.seg [.as 9 (.v (.c (.int .u64 (q1.u % 128)))),.as 10 (.v (.c (.int .u64 (q1.u % 128+128)))),.as 11 (.v (.c (.int .u8 (q1.u % 128+128)))),.ty .u8,.ty .u8,.as 15 (.v (.c (.int .u64 (q1.u / 128)))),.at 0,.keep [0,3],.sel [2]] (.next)) (.seg [.as 18 (.v (.c (.int .u8 q1.u))),.ty .u8,.ty .u8] (.leaf () []))),z2.Has [(0,.v (.c (.int .u64 u))),(3,.v (vO 0))] [.lst .u8 ([]:List Int)]∧∀q1,z2.inv q1→(let z1:=q1.u % 128+128;((decide (127<q1.u))=true→((128:Int)≠0)∧((.v (.c (.int .u64 (Int.tmod q1.u 128))):S)= .v (.c (.int .u64 (q1.u % 128))))∧((.v (.c (.int .u64 (IntKind.u64.wrap ((q1.u % 128)+128)))):S)= .v (.c (.int .u64 z1)))∧((.v (.c (.int .u8 (IntKind.u8.wrap z1))):S)= .v (.c (.int .u8 z1)))∧(q1.out.length+List.length [q1.u % 128+128]≤Bf)∧((128:Int)≠0)∧((.v (.c (.int .u64 (IntKind.u64.wrap (Int.tdiv q1.u 128)))):S)= .v (.c (.int .u64 (q1.u / 128))))∧z2.Nxt q1 [(0,.v (.c (.int .u64 (q1.u / 128)))),(3,.v (vO 0))] [.lst .u8 (q1.out++[q1.u % 128+128])])∧((decide (127<q1.u))=false→((.v (.c (.int .u8 (IntKind.u8.wrap (q1.u)))):S)= .v (.c (.int .u8 q1.u)))∧(q1.out.length+List.length [q1.u]≤Bf)∧(.v (vT (List.map Bb (q1.out++[q1.u]))):S)= .v (vT (Dz u))∧([]:List Blk)=[])))) Q4 ?_
 refine⟨Bi (j:=(⟨u,([]:List Int)⟩:M1)) rfl rfl (by dsimp only[M2];exact⟨by omega,by omega,by simp,by have:=Adc (u:=u) Q2;unfold K2 at this;simp;omega⟩),fun (q1:M1) hq_q1=>?_⟩
 have hi_q1:(0:Int)≤q1.u∧q1.u≤18446744073709551615∧List.map Bb q1.out++Dz q1.u=Dz u∧q1.out.length+List.length (Dz q1.u)≤10:=hq_q1
 obtain ⟨v1,v2,v3,v4⟩:=hi_q1
 refine dsp (fun h1 p1=>?_) fun h1 p1=>?_
 exact⟨Q28,(Y5 Q2),(B0 Q2 Q2),(Lv Q2 Q2),(by have:=X4 q1.u;simp;omega),Q28,(V8 Q2 Q2 Q28),A5 (j:=(⟨q1.u / 128,q1.out++[q1.u % 128+128]⟩:M1)) rfl rfl (by dsimp only[M2];exact⟨by omega,by omega,by rw[←v3,X3 (u:=q1.u) (by omega) (by omega)];simp[Bb],by rw[X3 (u:=q1.u) (by omega) (by omega)] at v4;simp at v4 ⊢;omega⟩) (by dsimp only[M2];omega)⟩
 refine⟨(Lv Q2 Q2),(by have:=X4 q1.u;simp;omega),(congrArg S.v (congrArg V.c (congrArg C.str ?_))),rfl⟩
 rotate_left
 all_goals rw[←v3,Aaj (u:=q1.u) (by omega) (by omega)];simp[Bb]
structure Aiv where
 u:Int
 k:Nat
structure Aiw where
 u:Int
 k:Nat
structure Amz where
 u:Int
 v:Nat
structure Am0 where
 u:Int
 i:Int
theorem Co (n:Int) (w:Int):Fun Tryz.prog 206 [vI n,vI w] [] (.v (.c (.int .u64 (Cr n w)))) []:=by
 have hN:Bf=274877906944:=rfl
 refine Aq Tryz.func206 Q4 Q4 (w:=let z1:=(8*n)+w;let z2:=Am n 1 536870911;let z3:=Am w 0 7;(.seg [.call [] (.v (vB z2)) []] (.br (.leaf () []) (.seg [.call [] (.v (vB z3)) []] (.br (.leaf () []) (.seg [.as 14 (.v (vI (8*n))),.as 16 (.v (vI z1)),.as 17 (.v (.c (.int .u64 z1)))] (.leaf () []))))),(Fun Tryz.prog 59 [vI n,vI 1,vI 536870911] [] (.v (vB z2)) [])∧((!z2)=true→(.v (.c (.int .u64 0)):S)= .v (.c (.int .u64 (Cr n w)))∧([]:List Blk)=[])∧((!z2)=false→(Fun Tryz.prog 59 [vI w,vI 0,vI 7] [] (.v (vB z3)) [])∧((!z3)=true→(.v (.c (.int .u64 0)):S)= .v (.c (.int .u64 (Cr n w)))∧([]:List Blk)=[])∧((!z3)=false→((.v (vI (IntKind.i64.wrap (8*n))):S)= .v (vI (8*n)))∧((.v (vI (IntKind.i64.wrap z1)):S)= .v (vI z1))∧((.v (.c (.int .u64 (IntKind.u64.wrap z1))):S)= .v (.c (.int .u64 z1)))∧(.v (.c (.int .u64 z1)):S)= .v (.c (.int .u64 (Cr n w)))∧([]:List Blk)=[])))) Q4 ?_
 refine⟨(Be _ _ _),fun h1=>have q1:=Ap h1;have p1:=A0 q1;?_,fun h1=>have q1:=An h1;have p1:=As q1;?_⟩
 exact⟨(congrArg S.v (congrArg V.c (congrArg (C.int .u64) (by simp[Cr, *])))),rfl⟩
 refine⟨(Be _ _ _),fun h2=>have q2:=Ap h2;have p2:=A0 q2;?_,fun h2=>have q2:=An h2;have p2:=As q2;?_⟩
 exact⟨(congrArg S.v (congrArg V.c (congrArg (C.int .u64) (by simp[Cr, *])))),rfl⟩
 exact⟨(Ae Q2 Q2),(Ae Q2 Q2),(B0 Q2 Q2),(congrArg S.v (congrArg V.c (congrArg (C.int .u64) (by simp[Cr, *])))),rfl⟩
theorem Am1 (u:Int) (hp1:(0:Int)≤u∧u≤18446744073709551615):Fun Tryz.prog 160 [.c (.int .u64 u)] [] (.tup [vI (Bx u),vI (Aj u),vB (Jk u)]) []:=by
 have hN:Bf=274877906944:=rfl
 refine Aq Tryz.func160 Q4 Q4 (w:=let z1:List V:=[vI (Bx u),vI (Aj u),vB (Jk u)];let z2:=(.v (.c (.int .u64 (Int.fdiv u (2 ^ 3)))):S)= .v (.c (.int .u64 (u / 8)));let z3:=(.tup [vI 0,vI 0,vB false]:S);(.br (.leaf () []) (.seg [.as 9 (.v (.c (.int .u64 (u / 8))))] (.br (.leaf () []) (.seg [.as 13 (.v (.c (.int .u64 (u / 8)))),.as 14 (.v (vI (u / 8))),.as 16 (.v (.c (.int .u64 (u % 8)))),.as 17 (.v (vI (u % 8)))] (.leaf () [])))),((decide (u<8))=true→z3= .tup z1∧([]:List Blk)=[])∧((decide (u<8))=false→((0:Int)≤3)∧z2∧((decide (536870911<u / 8))=true→z3= .tup z1∧([]:List Blk)=[])∧((decide (536870911<u / 8))=false→((0:Int)≤3)∧z2∧((.v (vI (IntKind.i64.wrap (u / 8))):S)= .v (vI (u / 8)))∧((.v (.c (.int .u64 (IntKind.u64.wrap (((BitVec.ofInt 64 u&&&BitVec.ofInt 64 7).toNat:Nat))))):S)= .v (.c (.int .u64 (u % 8))))∧((.v (vI (IntKind.i64.wrap (u % 8))):S)= .v (vI (u % 8)))∧(.tup [vI (u / 8),vI (u % 8),vB true]:S)= .tup z1∧([]:List Blk)=[])))) Q4 ?_
 refine dsp (fun h1 p1=>?_) fun h1 p1=>?_
 refine⟨(congrArg S.tup (Ah (congrArg V.c (congrArg (C.int .i64) ?_)) (Ah (congrArg V.c (congrArg (C.int .i64) ?_)) (Ah (congrArg V.c (congrArg C.bool ?_)) rfl)))),rfl⟩
 rotate_left 3
 refine⟨Q28,(X0 (k:=3) Q28 Q28),dsp (fun h2 p2=>?_) fun h2 p2=>?_⟩
 refine⟨(congrArg S.tup (Ah (congrArg V.c (congrArg (C.int .i64) ?_)) (Ah (congrArg V.c (congrArg (C.int .i64) ?_)) (Ah (congrArg V.c (congrArg C.bool ?_)) rfl)))),rfl⟩
 rotate_left 3
 refine⟨Q28,(X0 (k:=3) Q28 Q28),(Ae Q2 Q2),(Aby (k:=3) Q28 Q28),(Ae Q2 Q2),(congrArg S.tup (Ah (congrArg V.c (congrArg (C.int .i64) ?_)) (Ah (congrArg V.c (congrArg (C.int .i64) ?_)) (Ah (congrArg V.c (congrArg C.bool ?_)) rfl)))),rfl⟩
 rotate_left 3
 all_goals first|((have ht:Jk u=true:=by (simp[Jk,Am];omega));simp[Bx,Aj,ht])|((have ht:Jk u=false:=by (simp[Jk,Am];omega));simp[Bx,Aj,ht])
theorem Am2 (u:Int) (hp1:(0:Int)≤u∧u≤18446744073709551615):Fun Tryz.prog 182 [.c (.int .u64 u)] [] (.tup [vI (Bx u),vI (Aj u),vB (Jk u)]) []:=by
 have hN:Bf=274877906944:=rfl
 refine Aq Tryz.func182 Q4 Q4 (w:=let z1:List V:=[vI (Bx u),vI (Aj u),vB (Jk u)];let z2:=(.tup [vI 0,vI 0,vB false]:S);(.br (.leaf () []) (.br (.leaf () []) (.seg [.as 12 (.v (.c (.int .u64 (u / 8)))),.as 13 (.v (vI (u / 8))),.as 15 (.v (.c (.int .u64 (u % 8)))),.as 16 (.v (vI (u % 8)))] (.leaf () []))),((decide (u<8))=true→z2= .tup z1∧([]:List Blk)=[])∧((decide (u<8))=false→((decide (4294967295<u))=true→z2= .tup z1∧([]:List Blk)=[])∧((decide (4294967295<u))=false→((8:Int)≠0)∧((.v (.c (.int .u64 (IntKind.u64.wrap (Int.tdiv u 8)))):S)= .v (.c (.int .u64 (u / 8))))∧((.v (vI (IntKind.i64.wrap (u / 8))):S)= .v (vI (u / 8)))∧((8:Int)≠0)∧((.v (.c (.int .u64 (Int.tmod u 8))):S)= .v (.c (.int .u64 (u % 8))))∧((.v (vI (IntKind.i64.wrap (u % 8))):S)= .v (vI (u % 8)))∧(.tup [vI (u / 8),vI (u % 8),vB true]:S)= .tup z1∧([]:List Blk)=[])))) Q4 ?_
 refine dsp (fun h1 p1=>?_) fun h1 p1=>?_
 refine⟨(congrArg S.tup (Ah (congrArg V.c (congrArg (C.int .i64) ?_)) (Ah (congrArg V.c (congrArg (C.int .i64) ?_)) (Ah (congrArg V.c (congrArg C.bool ?_)) rfl)))),rfl⟩
 rotate_left 3
 refine dsp (fun h2 p2=>?_) fun h2 p2=>?_
 refine⟨(congrArg S.tup (Ah (congrArg V.c (congrArg (C.int .i64) ?_)) (Ah (congrArg V.c (congrArg (C.int .i64) ?_)) (Ah (congrArg V.c (congrArg C.bool ?_)) rfl)))),rfl⟩
 rotate_left 3
 refine⟨Q28,(V8 Q2 Q2 Q28),(Ae Q2 Q2),Q28,(Y5 Q2),(Ae Q2 Q2),(congrArg S.tup (Ah (congrArg V.c (congrArg (C.int .i64) ?_)) (Ah (congrArg V.c (congrArg (C.int .i64) ?_)) (Ah (congrArg V.c (congrArg C.bool ?_)) rfl)))),rfl⟩
 rotate_left 3
 all_goals first|((have ht:Jk u=true:=by (simp[Jk,Am];omega));simp[Bx,Aj,ht])|((have ht:Jk u=false:=by (simp[Jk,Am];omega));simp[Bx,Aj,ht])
theorem Ag5 (c:Int) (a:Int):Fun Tryz.prog 152 [vI c,vI a] [] (.v (.agg (cEv (A2 c a)))) []:=by
 have hN:Bf=274877906944:=rfl
 refine Aq Tryz.func152 Q4 Q4 (w:=(.leaf () [],(.v (.agg [.int .i64 10,.int .i64 0,.int .u64 0,.int .i64 0,.str [],.int .i64 c,.int .i64 a]):S)= .v (.agg (cEv (A2 c a)))∧([]:List Blk)=[])) Q4 ?_
 have hm1:A2 c a=(⟨10,0,0,0,[],c,a⟩:Ev):=by rfl
 exact⟨Q7,rfl⟩
theorem Ag6 (c:Int) (a:Int):Fun Tryz.prog 110 [vI c,vI a] [] (.v (.agg (cEv (A2 c a)))) []:=by
 have hN:Bf=274877906944:=rfl
 refine Aq Tryz.func110 Q4 Q4 (w:=(.leaf () [],(.v (.agg [.int .i64 10,.int .i64 0,.int .u64 0,.int .i64 0,.str [],.int .i64 c,.int .i64 a]):S)= .v (.agg (cEv (A2 c a)))∧([]:List Blk)=[])) Q4 ?_
 have hm1:A2 c a=(⟨10,0,0,0,[],c,a⟩:Ev):=by rfl
 exact⟨Q7,rfl⟩
theorem X8 (f:Fld) (u:Int) (hp1:(0:Int)≤u):Fun Tryz.prog 163 [.agg (F2 f),.c (.int .u64 u)] [] (.v (.agg (cEv (E0 f u)))) []:=by
 have hN:Bf=274877906944:=rfl
 refine Aq Tryz.func163 Q4 Q4 (w:=let zi:Int→C:= .int .i64;let z1:List C:=[zi 2,zi f.number,.int .u64 u,zi 0,.str [],zi 0,zi 0];(.br (.br (.leaf () []) (.leaf () [])) (.leaf () []),((decide (f.kind=3))=true→((!decide (u=0))=true→(.v (.agg [zi 2,zi f.number,.int .u64 1,zi 0,.str [],zi 0,zi 0]):S)= .v (.agg (cEv (E0 f u)))∧([]:List Blk)=[])∧((!decide (u=0))=false→(.v (.agg z1):S)= .v (.agg (cEv (E0 f u)))∧([]:List Blk)=[]))∧((decide (f.kind=3))=false→(.v (.agg z1):S)= .v (.agg (cEv (E0 f u)))∧([]:List Blk)=[]))) Q4 ?_
 refine dsp (fun h1 p1=>?_) fun h1 p1=>?_
 refine⟨fun h2=>have q2:=Ap h2;have p2:=of_decide_eq_false q2;?_,fun h2=>have q2:=An h2;have p2:=of_decide_eq_true q2;?_⟩
 refine have hm1:E0 f u=(⟨2,f.number,1,0,[],0,0⟩:Ev):=?_;?_
 rotate_left
 exact⟨Q7,rfl⟩
 refine have hm1:E0 f u=(⟨2,f.number,u,0,[],0,0⟩:Ev):=?_;?_
 rotate_left
 exact⟨Q7,rfl⟩
 refine have hm1:E0 f u=(⟨2,f.number,u,0,[],0,0⟩:Ev):=?_;?_
 rotate_left
 exact⟨Q7,rfl⟩
 all_goals simp[E0, *]<;>omega
theorem To (f:Fld) (u:Int) (hp1:(0:Int)≤u):Fun Tryz.prog 127 [.agg (F2 f),.c (.int .u64 u)] [] (.v (.agg (cEv (E0 f u)))) []:=by
 have hN:Bf=274877906944:=rfl
 refine Aq Tryz.func127 Q4 Q4 (w:=let zi:Int→C:= .int .i64;let z1:List C:=[zi 2,zi f.number,.int .u64 u,zi 0,.str [],zi 0,zi 0];(.br (.br (.leaf () []) (.leaf () [])) (.leaf () []),((decide (f.kind=3))=true→((decide (1<u))=true→(.v (.agg [zi 2,zi f.number,.int .u64 1,zi 0,.str [],zi 0,zi 0]):S)= .v (.agg (cEv (E0 f u)))∧([]:List Blk)=[])∧((decide (1<u))=false→(.v (.agg z1):S)= .v (.agg (cEv (E0 f u)))∧([]:List Blk)=[]))∧((decide (f.kind=3))=false→(.v (.agg z1):S)= .v (.agg (cEv (E0 f u)))∧([]:List Blk)=[]))) Q4 ?_
 refine dsp (fun h1 p1=>?_) fun h1 p1=>?_
 refine dsp (fun h2 p2=>?_) fun h2 p2=>?_
 refine have hm1:E0 f u=(⟨2,f.number,1,0,[],0,0⟩:Ev):=?_;?_
 rotate_left
 exact⟨Q7,rfl⟩
 refine have hm1:E0 f u=(⟨2,f.number,u,0,[],0,0⟩:Ev):=?_;?_
 rotate_left
 exact⟨Q7,rfl⟩
 refine have hm1:E0 f u=(⟨2,f.number,u,0,[],0,0⟩:Ev):=?_;?_
 rotate_left
 exact⟨Q7,rfl⟩
 all_goals simp[E0, *]<;>omega
theorem Ag7 (u:Utf):Fun Tryz.prog 80 [.agg (H9 u)] [] (.v (vB (E6 u))) []:=by
 have hN:Bf=274877906944:=rfl
 refine Aq Tryz.func80 Q4 Q4 (w:=let z1:=decide (u.low=128)&&decide (u.high=191);let z2:=decide (u.want=2)&&(decide (u.low=160)&&decide (u.high=191));let z3:=decide (u.want=2)&&(decide (u.low=128)&&decide (u.high=159));let z4:=decide (u.want=3)&&(decide (u.low=144)&&decide (u.high=191));let z5:=decide (u.want=0)&&(decide (u.low=0)&&decide (u.high=0));let z6:=(.v (vB true):S);let z7:=([]:List Blk);let z8:=vB (E6 u);let z9:=decide (u.want=3)&&(decide (u.low=128)&&decide (u.high=143));let z10:=decide (u.want=1)&&z1;let z11:=decide (u.want=2)&&z1;let z12:=decide (u.want=3)&&z1;(.br (.seg [.br true] (.leaf () [])) (.br (.seg [.br true] (.leaf () [])) (.br (.seg [.br true] (.leaf () [])) (.br (.seg [.br true] (.leaf () [])) (.br (.seg [.br true] (.leaf () [])) (.br (.seg [.br true] (.leaf () [])) (.br (.seg [.br true] (.leaf () [])) (.br (.leaf () []) (.leaf () [])))))))),(z5=true→(z5=true)∧z6= .v z8∧z7=[])∧(z5=false→(z10=true→(z10=true)∧z6= .v z8∧z7=[])∧(z10=false→(z11=true→(z11=true)∧z6= .v z8∧z7=[])∧(z11=false→(z12=true→(z12=true)∧z6= .v z8∧z7=[])∧(z12=false→(z2=true→(z2=true)∧z6= .v z8∧z7=[])∧(z2=false→(z3=true→(z3=true)∧z6= .v z8∧z7=[])∧(z3=false→(z4=true→(z4=true)∧z6= .v z8∧z7=[])∧(z4=false→(z9=true→z6= .v z8∧z7=[])∧(z9=false→(.v (vB false):S)= .v z8∧z7=[])))))))))) Q4 ?_
 refine⟨fun h1=>have p1:=(Cg dT (Cg dT dT)).1 h1;?_,fun h1=>have p1:=(Ch dT (Ch dT dF)).1 h1;?_⟩
 refine⟨h1,(sB ?_),rfl⟩
 rotate_left
 refine⟨fun h2=>have p2:=(Cg dT (Cg dT dT)).1 h2;?_,fun h2=>have p2:=(Ch dT (Ch dT dF)).1 h2;?_⟩
 refine⟨h2,(sB ?_),rfl⟩
 rotate_left
 refine⟨fun h3=>have p3:=(Cg dT (Cg dT dT)).1 h3;?_,fun h3=>have p3:=(Ch dT (Ch dT dF)).1 h3;?_⟩
 refine⟨h3,(sB ?_),rfl⟩
 rotate_left
 refine⟨fun h4=>have p4:=(Cg dT (Cg dT dT)).1 h4;?_,fun h4=>have p4:=(Ch dT (Ch dT dF)).1 h4;?_⟩
 refine⟨h4,(sB ?_),rfl⟩
 rotate_left
 refine⟨fun h5=>have p5:=(Cg dT (Cg dT dT)).1 h5;?_,fun h5=>have p5:=(Ch dT (Ch dT dF)).1 h5;?_⟩
 refine⟨h5,(sB ?_),rfl⟩
 rotate_left
 refine⟨fun h6=>have p6:=(Cg dT (Cg dT dT)).1 h6;?_,fun h6=>have p6:=(Ch dT (Ch dT dF)).1 h6;?_⟩
 refine⟨h6,(sB ?_),rfl⟩
 rotate_left
 refine⟨fun h7=>have p7:=(Cg dT (Cg dT dT)).1 h7;?_,fun h7=>have p7:=(Ch dT (Ch dT dF)).1 h7;?_⟩
 refine⟨h7,(sB ?_),rfl⟩
 rotate_left
 refine⟨fun h8=>have p8:=(Cg dT (Cg dT dT)).1 h8;?_,fun h8=>have p8:=(Ch dT (Ch dT dF)).1 h8;?_⟩
 refine⟨(sB ?_),rfl⟩
 rotate_left
 refine⟨(sB ?_),rfl⟩
 rotate_left
 all_goals first|(rw[Bool.eq_iff_iff];simp[E6,N5];omega)|(rw[Bool.eq_iff_iff];simp[E6,N5,Am];omega)|(simp_all[E6,N5,Am];done)
theorem Ag8 (u:Utf):Fun Tryz.prog 68 [.agg (H9 u)] [] (.v (vB (E6 u))) []:=by
 have hN:Bf=274877906944:=rfl
 refine Aq Tryz.func68 Q4 Q4 (w:=let z1:=decide (u.low=128);let z2:=([]:List Blk);let z3:=vB (E6 u);let z4:=decide (u.high=191);let z5:=(.v (vB false):S);let z6:=decide (u.want=0)&&(decide (u.low=0)&&decide (u.high=0));let z7:=decide (u.low=160);let z8:=decide (u.low=144);let z9:=decide (u.want=2);let z10:=decide (u.want=3);let z11:=z4=true→(.v (vB true):S)= .v z3∧z2=[];let z12:=z4=false→(z1=false)∧z5= .v z3∧z2=[];let z13:=vB (Am u.want 1 3);let z14:=(.v (vB (decide (u.high=159))):S);let z15:=(.v (vB (decide (u.high=143))):S);let z16:=z10=false→z5= .v z3∧z2=[];(.br (.leaf () []) (.br (.br (.seg [.call [] (.v z13) []] (.leaf () [])) (.br (.br (.seg [.br false,.br true] (.leaf () [])) (.seg [.br true] (.leaf () []))) (.br (.br (.seg [.br false,.br true] (.leaf () [])) (.seg [.br true] (.leaf () []))) (.leaf () [])))) (.br (.br (.br (.leaf () []) (.seg [.br false] (.leaf () []))) (.seg [.br false] (.leaf () []))) (.br (.br (.br (.leaf () []) (.seg [.br false] (.leaf () []))) (.seg [.br false] (.leaf () []))) (.leaf () [])))),(z6=true→(.v (vB true):S)= .v z3∧z2=[])∧(z6=false→(z1=true→(z4=true→(Fun Tryz.prog 59 [vI u.want,vI 1,vI 3] [] (.v z13) [])∧(.v z13:S)= .v z3∧z2=[])∧(z4=false→(z9=true→(z7=true→(z4=false)∧(z1=true)∧z14= .v z3∧z2=[])∧(z7=false→(z1=true)∧z14= .v z3∧z2=[]))∧(z9=false→(z10=true→(z8=true→(z4=false)∧(z1=true)∧z15= .v z3∧z2=[])∧(z8=false→(z1=true)∧z15= .v z3∧z2=[]))∧z16)))∧(z1=false→(z9=true→(z7=true→z11∧z12)∧(z7=false→(z1=false)∧z5= .v z3∧z2=[]))∧(z9=false→(z10=true→(z8=true→z11∧z12)∧(z8=false→(z1=false)∧z5= .v z3∧z2=[]))∧z16))))) Q4 ?_
 refine⟨fun h1=>have p1:=(Cg dT (Cg dT dT)).1 h1;?_,fun h1=>have p1:=(Ch dT (Ch dT dF)).1 h1;?_⟩
 refine⟨(sB ?_),rfl⟩
 rotate_left
 refine dsp (fun h2 p2=>?_) fun h2 p2=>?_
 refine dsp (fun h3 p3=>?_) fun h3 p3=>?_
 refine⟨(Be _ _ _),(sB ?_),rfl⟩
 rotate_left
 refine dsp (fun h4 p4=>?_) fun h4 p4=>?_
 refine dsp (fun h5 p5=>?_) fun h5 p5=>?_
 refine⟨h3,h2,(sB ?_),rfl⟩
 rotate_left
 refine⟨h2,(sB ?_),rfl⟩
 rotate_left
 refine dsp (fun h5 p5=>?_) fun h5 p5=>?_
 refine dsp (fun h6 p6=>?_) fun h6 p6=>?_
 refine⟨h3,h2,(sB ?_),rfl⟩
 rotate_left
 refine⟨h2,(sB ?_),rfl⟩
 rotate_left
 refine⟨(sB ?_),rfl⟩
 rotate_left
 refine dsp (fun h3 p3=>?_) fun h3 p3=>?_
 refine dsp (fun h4 p4=>?_) fun h4 p4=>?_
 refine dsp (fun h5 p5=>?_) fun h5 p5=>?_
 refine⟨(sB ?_),rfl⟩
 rotate_left
 refine⟨h2,(sB ?_),rfl⟩
 rotate_left
 refine⟨h2,(sB ?_),rfl⟩
 rotate_left
 refine dsp (fun h4 p4=>?_) fun h4 p4=>?_
 refine dsp (fun h5 p5=>?_) fun h5 p5=>?_
 refine dsp (fun h6 p6=>?_) fun h6 p6=>?_
 refine⟨(sB ?_),rfl⟩
 rotate_left
 refine⟨h2,(sB ?_),rfl⟩
 rotate_left
 refine⟨h2,(sB ?_),rfl⟩
 rotate_left
 refine⟨(sB ?_),rfl⟩
 rotate_left
 all_goals first|(rw[Bool.eq_iff_iff];simp[E6,N5];omega)|(rw[Bool.eq_iff_iff];simp[E6,N5,Am];omega)|(simp_all[E6,N5,Am];done)
theorem Aeo (b:Int):Fun Tryz.prog 205 [vI b] [] (.tup [.agg (H9 ((Bd b).getD utf0)),vB (Bd b).isSome]) []:=by
 have hN:Bf=274877906944:=rfl
 refine Aq Tryz.func205 Q4 Q4 (w:=let zi:Int→C:= .int .i64;let z2:=([]:List Blk);let z3:=Bd b;let z1:=H9 (z3.getD utf0);let z4:=decide (b=224);let z5:=decide (b=237);let z6:=decide (b=240);let z7:=decide (b=244);let z8:=Am b 194 223;let z9:=Am b 224 239;let z10:=Am b 240 244;let z11:=Am b 0 127;(.seg [.call [] (.v (vB z11)) []] (.br (.leaf () []) (.seg [.call [] (.v (vB z8)) []] (.br (.br (.leaf () []) (.br (.leaf () []) (.br (.leaf () []) (.br (.leaf () []) (.leaf () []))))) (.seg [.call [] (.v (vB z9)) []] (.br (.br (.leaf () []) (.br (.leaf () []) (.br (.leaf () []) (.br (.leaf () []) (.leaf () []))))) (.seg [.call [] (.v (vB z10)) []] (.br (.br (.leaf () []) (.br (.leaf () []) (.br (.leaf () []) (.br (.leaf () []) (.leaf () []))))) (.leaf () [])))))))),(Fun Tryz.prog 79 [vI b,vI 0,vI 127] [] (.v (vB z11)) [])∧(z11=true→(.tup [.agg [zi 0,zi 0,zi 0],vB true]:S)= .tup [.agg z1,vB z3.isSome]∧z2=[])∧(z11=false→(Fun Tryz.prog 79 [vI b,vI 194,vI 223] [] (.v (vB z8)) [])∧(z8=true→(z4=true→(.tup [.agg [zi 1,zi 160,zi 191],vB true]:S)= .tup [.agg z1,vB z3.isSome]∧z2=[])∧(z4=false→(z5=true→(.tup [.agg [zi 1,zi 128,zi 159],vB true]:S)= .tup [.agg z1,vB z3.isSome]∧z2=[])∧(z5=false→(z6=true→(.tup [.agg [zi 1,zi 144,zi 191],vB true]:S)= .tup [.agg z1,vB z3.isSome]∧z2=[])∧(z6=false→(z7=true→(.tup [.agg [zi 1,zi 128,zi 143],vB true]:S)= .tup [.agg z1,vB z3.isSome]∧z2=[])∧(z7=false→(.tup [.agg [zi 1,zi 128,zi 191],vB true]:S)= .tup [.agg z1,vB z3.isSome]∧z2=[])))))∧(z8=false→(Fun Tryz.prog 79 [vI b,vI 224,vI 239] [] (.v (vB z9)) [])∧(z9=true→(z4=true→(.tup [.agg [zi 2,zi 160,zi 191],vB true]:S)= .tup [.agg z1,vB z3.isSome]∧z2=[])∧(z4=false→(z5=true→(.tup [.agg [zi 2,zi 128,zi 159],vB true]:S)= .tup [.agg z1,vB z3.isSome]∧z2=[])∧(z5=false→(z6=true→(.tup [.agg [zi 2,zi 144,zi 191],vB true]:S)= .tup [.agg z1,vB z3.isSome]∧z2=[])∧(z6=false→(z7=true→(.tup [.agg [zi 2,zi 128,zi 143],vB true]:S)= .tup [.agg z1,vB z3.isSome]∧z2=[])∧(z7=false→(.tup [.agg [zi 2,zi 128,zi 191],vB true]:S)= .tup [.agg z1,vB z3.isSome]∧z2=[])))))∧(z9=false→(Fun Tryz.prog 79 [vI b,vI 240,vI 244] [] (.v (vB z10)) [])∧(z10=true→(z4=true→(.tup [.agg [zi 3,zi 160,zi 191],vB true]:S)= .tup [.agg z1,vB z3.isSome]∧z2=[])∧(z4=false→(z5=true→(.tup [.agg [zi 3,zi 128,zi 159],vB true]:S)= .tup [.agg z1,vB z3.isSome]∧z2=[])∧(z5=false→(z6=true→(.tup [.agg [zi 3,zi 144,zi 191],vB true]:S)= .tup [.agg z1,vB z3.isSome]∧z2=[])∧(z6=false→(z7=true→(.tup [.agg [zi 3,zi 128,zi 143],vB true]:S)= .tup [.agg z1,vB z3.isSome]∧z2=[])∧(z7=false→(.tup [.agg [zi 3,zi 128,zi 191],vB true]:S)= .tup [.agg z1,vB z3.isSome]∧z2=[])))))∧(z10=false→(.tup [.agg [zi 0,zi 0,zi 0],vB false]:S)= .tup [.agg z1,vB z3.isSome]∧z2=[])))))) Q4 ?_
 refine⟨(Cc _ _ _),fun h1=>have p1:=As h1;?_,fun h1=>have p1:=A0 h1;?_⟩
 refine have hm1:(Bd b).getD utf0=utf0:=?_;?_
 rotate_left
 refine⟨(congrArg S.tup (Ah (congrArg V.agg (Ah (congrArg (C.int .i64) ?_) (Ah (congrArg (C.int .i64) ?_) (Ah (congrArg (C.int .i64) ?_) rfl)))) (Ah (congrArg V.c (congrArg C.bool ?_)) rfl))),rfl⟩
 rotate_left 4
 refine⟨(Cc _ _ _),fun h2=>have p2:=As h2;?_,fun h2=>have p2:=A0 h2;?_⟩
 refine dsp (fun h3 p3=>?_) fun h3 p3=>?_
 refine have hm1:(Bd b).getD utf0=(⟨1,160,191⟩:Utf):=?_;?_
 rotate_left
 refine⟨(congrArg S.tup (Ah (congrArg V.agg (Ah (congrArg (C.int .i64) ?_) (Ah (congrArg (C.int .i64) ?_) (Ah (congrArg (C.int .i64) ?_) rfl)))) (Ah (congrArg V.c (congrArg C.bool ?_)) rfl))),rfl⟩
 rotate_left 4
 refine dsp (fun h4 p4=>?_) fun h4 p4=>?_
 refine have hm1:(Bd b).getD utf0=(⟨1,128,159⟩:Utf):=?_;?_
 rotate_left
 refine⟨(congrArg S.tup (Ah (congrArg V.agg (Ah (congrArg (C.int .i64) ?_) (Ah (congrArg (C.int .i64) ?_) (Ah (congrArg (C.int .i64) ?_) rfl)))) (Ah (congrArg V.c (congrArg C.bool ?_)) rfl))),rfl⟩
 rotate_left 4
 refine dsp (fun h5 p5=>?_) fun h5 p5=>?_
 refine have hm1:(Bd b).getD utf0=(⟨1,144,191⟩:Utf):=?_;?_
 rotate_left
 refine⟨(congrArg S.tup (Ah (congrArg V.agg (Ah (congrArg (C.int .i64) ?_) (Ah (congrArg (C.int .i64) ?_) (Ah (congrArg (C.int .i64) ?_) rfl)))) (Ah (congrArg V.c (congrArg C.bool ?_)) rfl))),rfl⟩
 rotate_left 4
 refine dsp (fun h6 p6=>?_) fun h6 p6=>?_
 refine have hm1:(Bd b).getD utf0=(⟨1,128,143⟩:Utf):=?_;?_
 rotate_left
 refine⟨(congrArg S.tup (Ah (congrArg V.agg (Ah (congrArg (C.int .i64) ?_) (Ah (congrArg (C.int .i64) ?_) (Ah (congrArg (C.int .i64) ?_) rfl)))) (Ah (congrArg V.c (congrArg C.bool ?_)) rfl))),rfl⟩
 rotate_left 4
 refine have hm1:(Bd b).getD utf0=(⟨1,128,191⟩:Utf):=?_;?_
 rotate_left
 refine⟨(congrArg S.tup (Ah (congrArg V.agg (Ah (congrArg (C.int .i64) ?_) (Ah (congrArg (C.int .i64) ?_) (Ah (congrArg (C.int .i64) ?_) rfl)))) (Ah (congrArg V.c (congrArg C.bool ?_)) rfl))),rfl⟩
 rotate_left 4
 refine⟨(Cc _ _ _),fun h3=>have p3:=As h3;?_,fun h3=>have p3:=A0 h3;?_⟩
 refine dsp (fun h4 p4=>?_) fun h4 p4=>?_
 refine have hm1:(Bd b).getD utf0=(⟨2,160,191⟩:Utf):=?_;?_
 rotate_left
 refine⟨(congrArg S.tup (Ah (congrArg V.agg (Ah (congrArg (C.int .i64) ?_) (Ah (congrArg (C.int .i64) ?_) (Ah (congrArg (C.int .i64) ?_) rfl)))) (Ah (congrArg V.c (congrArg C.bool ?_)) rfl))),rfl⟩
 rotate_left 4
 refine dsp (fun h5 p5=>?_) fun h5 p5=>?_
 refine have hm1:(Bd b).getD utf0=(⟨2,128,159⟩:Utf):=?_;?_
 rotate_left
 refine⟨(congrArg S.tup (Ah (congrArg V.agg (Ah (congrArg (C.int .i64) ?_) (Ah (congrArg (C.int .i64) ?_) (Ah (congrArg (C.int .i64) ?_) rfl)))) (Ah (congrArg V.c (congrArg C.bool ?_)) rfl))),rfl⟩
 rotate_left 4
 refine dsp (fun h6 p6=>?_) fun h6 p6=>?_
 refine have hm1:(Bd b).getD utf0=(⟨2,144,191⟩:Utf):=?_;?_
 rotate_left
 refine⟨(congrArg S.tup (Ah (congrArg V.agg (Ah (congrArg (C.int .i64) ?_) (Ah (congrArg (C.int .i64) ?_) (Ah (congrArg (C.int .i64) ?_) rfl)))) (Ah (congrArg V.c (congrArg C.bool ?_)) rfl))),rfl⟩
 rotate_left 4
 refine dsp (fun h7 p7=>?_) fun h7 p7=>?_
 refine have hm1:(Bd b).getD utf0=(⟨2,128,143⟩:Utf):=?_;?_
 rotate_left
 refine⟨(congrArg S.tup (Ah (congrArg V.agg (Ah (congrArg (C.int .i64) ?_) (Ah (congrArg (C.int .i64) ?_) (Ah (congrArg (C.int .i64) ?_) rfl)))) (Ah (congrArg V.c (congrArg C.bool ?_)) rfl))),rfl⟩
 rotate_left 4
 refine have hm1:(Bd b).getD utf0=(⟨2,128,191⟩:Utf):=?_;?_
 rotate_left
 refine⟨(congrArg S.tup (Ah (congrArg V.agg (Ah (congrArg (C.int .i64) ?_) (Ah (congrArg (C.int .i64) ?_) (Ah (congrArg (C.int .i64) ?_) rfl)))) (Ah (congrArg V.c (congrArg C.bool ?_)) rfl))),rfl⟩
 rotate_left 4
 refine⟨(Cc _ _ _),fun h4=>have p4:=As h4;?_,fun h4=>have p4:=A0 h4;?_⟩
 refine dsp (fun h5 p5=>?_) fun h5 p5=>?_
 refine have hm1:(Bd b).getD utf0=(⟨3,160,191⟩:Utf):=?_;?_
 rotate_left
 refine⟨(congrArg S.tup (Ah (congrArg V.agg (Ah (congrArg (C.int .i64) ?_) (Ah (congrArg (C.int .i64) ?_) (Ah (congrArg (C.int .i64) ?_) rfl)))) (Ah (congrArg V.c (congrArg C.bool ?_)) rfl))),rfl⟩
 rotate_left 4
 refine dsp (fun h6 p6=>?_) fun h6 p6=>?_
 refine have hm1:(Bd b).getD utf0=(⟨3,128,159⟩:Utf):=?_;?_
 rotate_left
 refine⟨(congrArg S.tup (Ah (congrArg V.agg (Ah (congrArg (C.int .i64) ?_) (Ah (congrArg (C.int .i64) ?_) (Ah (congrArg (C.int .i64) ?_) rfl)))) (Ah (congrArg V.c (congrArg C.bool ?_)) rfl))),rfl⟩
 rotate_left 4
 refine dsp (fun h7 p7=>?_) fun h7 p7=>?_
 refine have hm1:(Bd b).getD utf0=(⟨3,144,191⟩:Utf):=?_;?_
 rotate_left
 refine⟨(congrArg S.tup (Ah (congrArg V.agg (Ah (congrArg (C.int .i64) ?_) (Ah (congrArg (C.int .i64) ?_) (Ah (congrArg (C.int .i64) ?_) rfl)))) (Ah (congrArg V.c (congrArg C.bool ?_)) rfl))),rfl⟩
 rotate_left 4
 refine dsp (fun h8 p8=>?_) fun h8 p8=>?_
 refine have hm1:(Bd b).getD utf0=(⟨3,128,143⟩:Utf):=?_;?_
 rotate_left
 refine⟨(congrArg S.tup (Ah (congrArg V.agg (Ah (congrArg (C.int .i64) ?_) (Ah (congrArg (C.int .i64) ?_) (Ah (congrArg (C.int .i64) ?_) rfl)))) (Ah (congrArg V.c (congrArg C.bool ?_)) rfl))),rfl⟩
 rotate_left 4
 refine have hm1:(Bd b).getD utf0=(⟨3,128,191⟩:Utf):=?_;?_
 rotate_left
 refine⟨(congrArg S.tup (Ah (congrArg V.agg (Ah (congrArg (C.int .i64) ?_) (Ah (congrArg (C.int .i64) ?_) (Ah (congrArg (C.int .i64) ?_) rfl)))) (Ah (congrArg V.c (congrArg C.bool ?_)) rfl))),rfl⟩
 rotate_left 4
 refine have hm1:(Bd b).getD utf0=utf0:=?_;?_
 rotate_left
 refine⟨(congrArg S.tup (Ah (congrArg V.agg (Ah (congrArg (C.int .i64) ?_) (Ah (congrArg (C.int .i64) ?_) (Ah (congrArg (C.int .i64) ?_) rfl)))) (Ah (congrArg V.c (congrArg C.bool ?_)) rfl))),rfl⟩
 rotate_left 4
 all_goals first|(simp[Bd,utf0, *];done)|(simp_all[Bd,utf0,Am];done)|(simp_all[Bd,utf0,Am];omega)
theorem Aep (b:Int):Fun Tryz.prog 125 [vI b] [] (.tup [.agg (H9 ((Bd b).getD utf0)),vB (Bd b).isSome]) []:=by
 have hN:Bf=274877906944:=rfl
 refine Aq Tryz.func125 Q4 Q4 (w:=let zi:Int→C:= .int .i64;let z2:=([]:List Blk);let z3:=Bd b;let z1:=H9 (z3.getD utf0);let z4:=decide (b=224);let z5:=decide (b=237);let z6:=decide (b=240);let z7:=decide (b=244);let z8:=Am b 194 223;let z9:=Am b 224 239;let z10:=Am b 240 244;let z11:=Am b 0 127;(.seg [.call [] (.v (vB z11)) []] (.br (.leaf () []) (.seg [.call [] (.v (vB z8)) []] (.br (.br (.leaf () []) (.br (.leaf () []) (.br (.leaf () []) (.br (.leaf () []) (.leaf () []))))) (.seg [.call [] (.v (vB z9)) []] (.br (.br (.leaf () []) (.br (.leaf () []) (.br (.leaf () []) (.br (.leaf () []) (.leaf () []))))) (.seg [.call [] (.v (vB z10)) []] (.br (.br (.leaf () []) (.br (.leaf () []) (.br (.leaf () []) (.br (.leaf () []) (.leaf () []))))) (.leaf () [])))))))),(Fun Tryz.prog 59 [vI b,vI 0,vI 127] [] (.v (vB z11)) [])∧(z11=true→(.tup [.agg [zi 0,zi 0,zi 0],vB true]:S)= .tup [.agg z1,vB z3.isSome]∧z2=[])∧(z11=false→(Fun Tryz.prog 59 [vI b,vI 194,vI 223] [] (.v (vB z8)) [])∧(z8=true→(z4=true→(.tup [.agg [zi 1,zi 160,zi 191],vB true]:S)= .tup [.agg z1,vB z3.isSome]∧z2=[])∧(z4=false→(z5=true→(.tup [.agg [zi 1,zi 128,zi 159],vB true]:S)= .tup [.agg z1,vB z3.isSome]∧z2=[])∧(z5=false→(z6=true→(.tup [.agg [zi 1,zi 144,zi 191],vB true]:S)= .tup [.agg z1,vB z3.isSome]∧z2=[])∧(z6=false→(z7=true→(.tup [.agg [zi 1,zi 128,zi 143],vB true]:S)= .tup [.agg z1,vB z3.isSome]∧z2=[])∧(z7=false→(.tup [.agg [zi 1,zi 128,zi 191],vB true]:S)= .tup [.agg z1,vB z3.isSome]∧z2=[])))))∧(z8=false→(Fun Tryz.prog 59 [vI b,vI 224,vI 239] [] (.v (vB z9)) [])∧(z9=true→(z4=true→(.tup [.agg [zi 2,zi 160,zi 191],vB true]:S)= .tup [.agg z1,vB z3.isSome]∧z2=[])∧(z4=false→(z5=true→(.tup [.agg [zi 2,zi 128,zi 159],vB true]:S)= .tup [.agg z1,vB z3.isSome]∧z2=[])∧(z5=false→(z6=true→(.tup [.agg [zi 2,zi 144,zi 191],vB true]:S)= .tup [.agg z1,vB z3.isSome]∧z2=[])∧(z6=false→(z7=true→(.tup [.agg [zi 2,zi 128,zi 143],vB true]:S)= .tup [.agg z1,vB z3.isSome]∧z2=[])∧(z7=false→(.tup [.agg [zi 2,zi 128,zi 191],vB true]:S)= .tup [.agg z1,vB z3.isSome]∧z2=[])))))∧(z9=false→(Fun Tryz.prog 59 [vI b,vI 240,vI 244] [] (.v (vB z10)) [])∧(z10=true→(z4=true→(.tup [.agg [zi 3,zi 160,zi 191],vB true]:S)= .tup [.agg z1,vB z3.isSome]∧z2=[])∧(z4=false→(z5=true→(.tup [.agg [zi 3,zi 128,zi 159],vB true]:S)= .tup [.agg z1,vB z3.isSome]∧z2=[])∧(z5=false→(z6=true→(.tup [.agg [zi 3,zi 144,zi 191],vB true]:S)= .tup [.agg z1,vB z3.isSome]∧z2=[])∧(z6=false→(z7=true→(.tup [.agg [zi 3,zi 128,zi 143],vB true]:S)= .tup [.agg z1,vB z3.isSome]∧z2=[])∧(z7=false→(.tup [.agg [zi 3,zi 128,zi 191],vB true]:S)= .tup [.agg z1,vB z3.isSome]∧z2=[])))))∧(z10=false→(.tup [.agg [zi 0,zi 0,zi 0],vB false]:S)= .tup [.agg z1,vB z3.isSome]∧z2=[])))))) Q4 ?_
 refine⟨(Be _ _ _),fun h1=>have p1:=As h1;?_,fun h1=>have p1:=A0 h1;?_⟩
 refine have hm1:(Bd b).getD utf0=utf0:=?_;?_
 rotate_left
 refine⟨(congrArg S.tup (Ah (congrArg V.agg (Ah (congrArg (C.int .i64) ?_) (Ah (congrArg (C.int .i64) ?_) (Ah (congrArg (C.int .i64) ?_) rfl)))) (Ah (congrArg V.c (congrArg C.bool ?_)) rfl))),rfl⟩
 rotate_left 4
 refine⟨(Be _ _ _),fun h2=>have p2:=As h2;?_,fun h2=>have p2:=A0 h2;?_⟩
 refine dsp (fun h3 p3=>?_) fun h3 p3=>?_
 refine have hm1:(Bd b).getD utf0=(⟨1,160,191⟩:Utf):=?_;?_
 rotate_left
 refine⟨(congrArg S.tup (Ah (congrArg V.agg (Ah (congrArg (C.int .i64) ?_) (Ah (congrArg (C.int .i64) ?_) (Ah (congrArg (C.int .i64) ?_) rfl)))) (Ah (congrArg V.c (congrArg C.bool ?_)) rfl))),rfl⟩
 rotate_left 4
 refine dsp (fun h4 p4=>?_) fun h4 p4=>?_
 refine have hm1:(Bd b).getD utf0=(⟨1,128,159⟩:Utf):=?_;?_
 rotate_left
 refine⟨(congrArg S.tup (Ah (congrArg V.agg (Ah (congrArg (C.int .i64) ?_) (Ah (congrArg (C.int .i64) ?_) (Ah (congrArg (C.int .i64) ?_) rfl)))) (Ah (congrArg V.c (congrArg C.bool ?_)) rfl))),rfl⟩
 rotate_left 4
 refine dsp (fun h5 p5=>?_) fun h5 p5=>?_
 refine have hm1:(Bd b).getD utf0=(⟨1,144,191⟩:Utf):=?_;?_
 rotate_left
 refine⟨(congrArg S.tup (Ah (congrArg V.agg (Ah (congrArg (C.int .i64) ?_) (Ah (congrArg (C.int .i64) ?_) (Ah (congrArg (C.int .i64) ?_) rfl)))) (Ah (congrArg V.c (congrArg C.bool ?_)) rfl))),rfl⟩
 rotate_left 4
 refine dsp (fun h6 p6=>?_) fun h6 p6=>?_
 refine have hm1:(Bd b).getD utf0=(⟨1,128,143⟩:Utf):=?_;?_
 rotate_left
 refine⟨(congrArg S.tup (Ah (congrArg V.agg (Ah (congrArg (C.int .i64) ?_) (Ah (congrArg (C.int .i64) ?_) (Ah (congrArg (C.int .i64) ?_) rfl)))) (Ah (congrArg V.c (congrArg C.bool ?_)) rfl))),rfl⟩
 rotate_left 4
 refine have hm1:(Bd b).getD utf0=(⟨1,128,191⟩:Utf):=?_;?_
 rotate_left
 refine⟨(congrArg S.tup (Ah (congrArg V.agg (Ah (congrArg (C.int .i64) ?_) (Ah (congrArg (C.int .i64) ?_) (Ah (congrArg (C.int .i64) ?_) rfl)))) (Ah (congrArg V.c (congrArg C.bool ?_)) rfl))),rfl⟩
 rotate_left 4
 refine⟨(Be _ _ _),fun h3=>have p3:=As h3;?_,fun h3=>have p3:=A0 h3;?_⟩
 refine dsp (fun h4 p4=>?_) fun h4 p4=>?_
 refine have hm1:(Bd b).getD utf0=(⟨2,160,191⟩:Utf):=?_;?_
 rotate_left
 refine⟨(congrArg S.tup (Ah (congrArg V.agg (Ah (congrArg (C.int .i64) ?_) (Ah (congrArg (C.int .i64) ?_) (Ah (congrArg (C.int .i64) ?_) rfl)))) (Ah (congrArg V.c (congrArg C.bool ?_)) rfl))),rfl⟩
 rotate_left 4
 refine dsp (fun h5 p5=>?_) fun h5 p5=>?_
 refine have hm1:(Bd b).getD utf0=(⟨2,128,159⟩:Utf):=?_;?_
 rotate_left
 refine⟨(congrArg S.tup (Ah (congrArg V.agg (Ah (congrArg (C.int .i64) ?_) (Ah (congrArg (C.int .i64) ?_) (Ah (congrArg (C.int .i64) ?_) rfl)))) (Ah (congrArg V.c (congrArg C.bool ?_)) rfl))),rfl⟩
 rotate_left 4
 refine dsp (fun h6 p6=>?_) fun h6 p6=>?_
 refine have hm1:(Bd b).getD utf0=(⟨2,144,191⟩:Utf):=?_;?_
 rotate_left
 refine⟨(congrArg S.tup (Ah (congrArg V.agg (Ah (congrArg (C.int .i64) ?_) (Ah (congrArg (C.int .i64) ?_) (Ah (congrArg (C.int .i64) ?_) rfl)))) (Ah (congrArg V.c (congrArg C.bool ?_)) rfl))),rfl⟩
 rotate_left 4
 refine dsp (fun h7 p7=>?_) fun h7 p7=>?_
 refine have hm1:(Bd b).getD utf0=(⟨2,128,143⟩:Utf):=?_;?_
 rotate_left
 refine⟨(congrArg S.tup (Ah (congrArg V.agg (Ah (congrArg (C.int .i64) ?_) (Ah (congrArg (C.int .i64) ?_) (Ah (congrArg (C.int .i64) ?_) rfl)))) (Ah (congrArg V.c (congrArg C.bool ?_)) rfl))),rfl⟩
 rotate_left 4
 refine have hm1:(Bd b).getD utf0=(⟨2,128,191⟩:Utf):=?_;?_
 rotate_left
 refine⟨(congrArg S.tup (Ah (congrArg V.agg (Ah (congrArg (C.int .i64) ?_) (Ah (congrArg (C.int .i64) ?_) (Ah (congrArg (C.int .i64) ?_) rfl)))) (Ah (congrArg V.c (congrArg C.bool ?_)) rfl))),rfl⟩
 rotate_left 4
 refine⟨(Be _ _ _),fun h4=>have p4:=As h4;?_,fun h4=>have p4:=A0 h4;?_⟩
 refine dsp (fun h5 p5=>?_) fun h5 p5=>?_
 refine have hm1:(Bd b).getD utf0=(⟨3,160,191⟩:Utf):=?_;?_
 rotate_left
 refine⟨(congrArg S.tup (Ah (congrArg V.agg (Ah (congrArg (C.int .i64) ?_) (Ah (congrArg (C.int .i64) ?_) (Ah (congrArg (C.int .i64) ?_) rfl)))) (Ah (congrArg V.c (congrArg C.bool ?_)) rfl))),rfl⟩
 rotate_left 4
 refine dsp (fun h6 p6=>?_) fun h6 p6=>?_
 refine have hm1:(Bd b).getD utf0=(⟨3,128,159⟩:Utf):=?_;?_
 rotate_left
 refine⟨(congrArg S.tup (Ah (congrArg V.agg (Ah (congrArg (C.int .i64) ?_) (Ah (congrArg (C.int .i64) ?_) (Ah (congrArg (C.int .i64) ?_) rfl)))) (Ah (congrArg V.c (congrArg C.bool ?_)) rfl))),rfl⟩
 rotate_left 4
 refine dsp (fun h7 p7=>?_) fun h7 p7=>?_
 refine have hm1:(Bd b).getD utf0=(⟨3,144,191⟩:Utf):=?_;?_
 rotate_left
 refine⟨(congrArg S.tup (Ah (congrArg V.agg (Ah (congrArg (C.int .i64) ?_) (Ah (congrArg (C.int .i64) ?_) (Ah (congrArg (C.int .i64) ?_) rfl)))) (Ah (congrArg V.c (congrArg C.bool ?_)) rfl))),rfl⟩
 rotate_left 4
 refine dsp (fun h8 p8=>?_) fun h8 p8=>?_
 refine have hm1:(Bd b).getD utf0=(⟨3,128,143⟩:Utf):=?_;?_
 rotate_left
 refine⟨(congrArg S.tup (Ah (congrArg V.agg (Ah (congrArg (C.int .i64) ?_) (Ah (congrArg (C.int .i64) ?_) (Ah (congrArg (C.int .i64) ?_) rfl)))) (Ah (congrArg V.c (congrArg C.bool ?_)) rfl))),rfl⟩
 rotate_left 4
 refine have hm1:(Bd b).getD utf0=(⟨3,128,191⟩:Utf):=?_;?_
 rotate_left
 refine⟨(congrArg S.tup (Ah (congrArg V.agg (Ah (congrArg (C.int .i64) ?_) (Ah (congrArg (C.int .i64) ?_) (Ah (congrArg (C.int .i64) ?_) rfl)))) (Ah (congrArg V.c (congrArg C.bool ?_)) rfl))),rfl⟩
 rotate_left 4
 refine have hm1:(Bd b).getD utf0=utf0:=?_;?_
 rotate_left
 refine⟨(congrArg S.tup (Ah (congrArg V.agg (Ah (congrArg (C.int .i64) ?_) (Ah (congrArg (C.int .i64) ?_) (Ah (congrArg (C.int .i64) ?_) rfl)))) (Ah (congrArg V.c (congrArg C.bool ?_)) rfl))),rfl⟩
 rotate_left 4
 all_goals first|(simp[Bd,utf0, *];done)|(simp_all[Bd,utf0,Am];done)|(simp_all[Bd,utf0,Am];omega)
theorem Ag9 (u:Utf) (b:Int):Fun Tryz.prog 172 [.agg (H9 u),vI b] [] (.tup [.agg (H9 ((Bo u b).getD u)),vB (Bo u b).isSome]) []:=by
 have hN:Bf=274877906944:=rfl
 refine Aq Tryz.func172 Q4 Q4 (w:=let z2:=(.tup [.agg (H9 u),vB false]:S);let z3:=Am b u.low u.high;let z4:=Bo u b;let z1:=H9 (z4.getD u);let z5:=([]:List Blk);let z7:=Bd b;let z6:=H9 (z7.getD utf0);(.seg [.call [] (.v (vB (E6 u))) []] (.br (.leaf () []) (.br (.seg [.call [] (.tup [.agg z6,vB z7.isSome]) []] (.br (.leaf () []) (.leaf () []))) (.seg [.call [] (.v (vB z3)) []] (.br (.leaf () []) (.br (.leaf () []) (.seg [.as 42 (.v (vI (u.want-1)))] (.leaf () []))))))),(Fun Tryz.prog 80 [.agg (H9 u)] [] (.v (vB (E6 u))) [])∧((!(E6 u))=true→z2= .tup [.agg z1,vB z4.isSome]∧z5=[])∧((!(E6 u))=false→((decide (u.want=0))=true→(Fun Tryz.prog 205 [vI b] [] (.tup [.agg z6,vB z7.isSome]) [])∧((!z7.isSome)=true→z2= .tup [.agg z1,vB z4.isSome]∧z5=[])∧((!z7.isSome)=false→(.tup [.agg z6,vB true]:S)= .tup [.agg z1,vB z4.isSome]∧z5=[]))∧((decide (u.want=0))=false→(Fun Tryz.prog 79 [vI b,vI u.low,vI u.high] [] (.v (vB z3)) [])∧((!z3)=true→z2= .tup [.agg z1,vB z4.isSome]∧z5=[])∧((!z3)=false→((decide (u.want=1))=true→(.tup [.agg [.int .i64 0,.int .i64 0,.int .i64 0],vB true]:S)= .tup [.agg z1,vB z4.isSome]∧z5=[])∧((decide (u.want=1))=false→((.v (vI (IntKind.i64.wrap (u.want-1))):S)= .v (vI (u.want-1)))∧(.tup [.agg [.int .i64 (u.want-1),.int .i64 128,.int .i64 191],vB true]:S)= .tup [.agg z1,vB z4.isSome]∧z5=[])))))) Q4 ?_
 refine⟨(Ag7 u),fun h1=>have q1:=Ap h1;?_,fun h1=>have q1:=An h1;have p1:=Lw q1;?_⟩
 refine have hm1:(Bo u b).getD u=u:=?_;?_
 rotate_left
 refine⟨(congrArg S.tup (Ah (congrArg V.agg (Ah (congrArg (C.int .i64) ?_) (Ah (congrArg (C.int .i64) ?_) (Ah (congrArg (C.int .i64) ?_) rfl)))) (Ah (congrArg V.c (congrArg C.bool ?_)) rfl))),rfl⟩
 rotate_left 4
 refine dsp (fun h2 p2=>?_) fun h2 p2=>?_
 have hu:=X2 q1 p2
 refine⟨(Aeo _),fun h3=>have q3:=Ap h3;?_,fun h3=>have q3:=An h3;?_⟩
 refine have hm1:(Bo u b).getD u=u:=?_;?_
 rotate_left
 refine⟨(congrArg S.tup (Ah (congrArg V.agg (Ah (congrArg (C.int .i64) ?_) (Ah (congrArg (C.int .i64) ?_) (Ah (congrArg (C.int .i64) ?_) rfl)))) (Ah (congrArg V.c (congrArg C.bool ?_)) rfl))),rfl⟩
 rotate_left 4
 refine have hm1:(Bo u b).getD u=((Bd b).getD utf0):=?_;?_
 rotate_left
 refine⟨(congrArg S.tup (Ah (congrArg V.agg (Ah (congrArg (C.int .i64) ?_) (Ah (congrArg (C.int .i64) ?_) (Ah (congrArg (C.int .i64) ?_) rfl)))) (Ah (congrArg V.c (congrArg C.bool ?_)) rfl))),rfl⟩
 rotate_left 4
 refine⟨(Cc _ _ _),fun h3=>have q3:=Ap h3;have p3:=A0 q3;?_,fun h3=>have q3:=An h3;have p3:=As q3;?_⟩
 refine have hm1:(Bo u b).getD u=u:=?_;?_
 rotate_left
 refine⟨(congrArg S.tup (Ah (congrArg V.agg (Ah (congrArg (C.int .i64) ?_) (Ah (congrArg (C.int .i64) ?_) (Ah (congrArg (C.int .i64) ?_) rfl)))) (Ah (congrArg V.c (congrArg C.bool ?_)) rfl))),rfl⟩
 rotate_left 4
 refine dsp (fun h4 p4=>?_) fun h4 p4=>?_
 refine have hm1:(Bo u b).getD u=utf0:=?_;?_
 rotate_left
 refine⟨(congrArg S.tup (Ah (congrArg V.agg (Ah (congrArg (C.int .i64) ?_) (Ah (congrArg (C.int .i64) ?_) (Ah (congrArg (C.int .i64) ?_) rfl)))) (Ah (congrArg V.c (congrArg C.bool ?_)) rfl))),rfl⟩
 rotate_left 4
 refine⟨(Ae Q2 Q2),?_⟩
 refine have hm1:(Bo u b).getD u=(⟨u.want-1,128,191⟩:Utf):=?_;?_
 rotate_left
 refine⟨(congrArg S.tup (Ah (congrArg V.agg (Ah (congrArg (C.int .i64) ?_) (Ah (congrArg (C.int .i64) ?_) (Ah (congrArg (C.int .i64) ?_) rfl)))) (Ah (congrArg V.c (congrArg C.bool ?_)) rfl))),rfl⟩
 rotate_left 4
 all_goals first|(simp[Bo, *];done)|(simp[Bo,utf0, *];done)|(simp_all[Bo,utf0,Am];done)|(simp_all[Bo,utf0,Am];omega)
theorem Sz (u:Utf) (b:Int):Fun Tryz.prog 62 [.agg (H9 u),vI b] [] (.tup [.agg (H9 ((Bo u b).getD u)),vB (Bo u b).isSome]) []:=by
 have hN:Bf=274877906944:=rfl
 refine Aq Tryz.func62 Q4 Q4 (w:=let z2:=Am b u.low u.high;let z3:=H9 ((Bd b).getD utf0);let z4:=Bo u b;let z1:=H9 (z4.getD u);let z5:=([]:List Blk);let z6:=(.tup [.agg (H9 u),vB false]:S);(.seg [.call [] (.v (vB (E6 u))) []] (.br (.leaf () []) (.br (.seg [.call [] (.tup [.agg z3,vB (Bd b).isSome]) []] (.leaf () [])) (.seg [.call [] (.v (vB z2)) []] (.br (.leaf () []) (.br (.leaf () []) (.seg [.as 31 (.v (vI (u.want-1)))] (.leaf () []))))))),(Fun Tryz.prog 68 [.agg (H9 u)] [] (.v (vB (E6 u))) [])∧((!(E6 u))=true→z6= .tup [.agg z1,vB z4.isSome]∧z5=[])∧((!(E6 u))=false→((decide (u.want=0))=true→(Fun Tryz.prog 125 [vI b] [] (.tup [.agg z3,vB (Bd b).isSome]) [])∧(.tup [.agg z3,vB (Bd b).isSome]:S)= .tup [.agg z1,vB z4.isSome]∧z5=[])∧((decide (u.want=0))=false→(Fun Tryz.prog 59 [vI b,vI u.low,vI u.high] [] (.v (vB z2)) [])∧((!z2)=true→z6= .tup [.agg z1,vB z4.isSome]∧z5=[])∧((!z2)=false→((decide (u.want=1))=true→(.tup [.agg [.int .i64 0,.int .i64 0,.int .i64 0],vB true]:S)= .tup [.agg z1,vB z4.isSome]∧z5=[])∧((decide (u.want=1))=false→((.v (vI (IntKind.i64.wrap (u.want-1))):S)= .v (vI (u.want-1)))∧(.tup [.agg [.int .i64 (u.want-1),.int .i64 128,.int .i64 191],vB true]:S)= .tup [.agg z1,vB z4.isSome]∧z5=[])))))) Q4 ?_
 refine⟨(Ag8 u),fun h1=>have q1:=Ap h1;?_,fun h1=>have q1:=An h1;have p1:=Lw q1;?_⟩
 refine have hm1:(Bo u b).getD u=u:=?_;?_
 rotate_left
 refine⟨(congrArg S.tup (Ah (congrArg V.agg (Ah (congrArg (C.int .i64) ?_) (Ah (congrArg (C.int .i64) ?_) (Ah (congrArg (C.int .i64) ?_) rfl)))) (Ah (congrArg V.c (congrArg C.bool ?_)) rfl))),rfl⟩
 rotate_left 4
 refine dsp (fun h2 p2=>?_) fun h2 p2=>?_
 have hu:=X2 q1 p2
 refine⟨(Aep _),?_⟩
 refine have hm1:(Bo u b).getD u=((Bd b).getD utf0):=?_;?_
 rotate_left
 refine⟨(congrArg S.tup (Ah (congrArg V.agg (Ah (congrArg (C.int .i64) ?_) (Ah (congrArg (C.int .i64) ?_) (Ah (congrArg (C.int .i64) ?_) rfl)))) (Ah (congrArg V.c (congrArg C.bool ?_)) rfl))),rfl⟩
 rotate_left 4
 refine⟨(Be _ _ _),fun h3=>have q3:=Ap h3;have p3:=A0 q3;?_,fun h3=>have q3:=An h3;have p3:=As q3;?_⟩
 refine have hm1:(Bo u b).getD u=u:=?_;?_
 rotate_left
 refine⟨(congrArg S.tup (Ah (congrArg V.agg (Ah (congrArg (C.int .i64) ?_) (Ah (congrArg (C.int .i64) ?_) (Ah (congrArg (C.int .i64) ?_) rfl)))) (Ah (congrArg V.c (congrArg C.bool ?_)) rfl))),rfl⟩
 rotate_left 4
 refine dsp (fun h4 p4=>?_) fun h4 p4=>?_
 refine have hm1:(Bo u b).getD u=utf0:=?_;?_
 rotate_left
 refine⟨(congrArg S.tup (Ah (congrArg V.agg (Ah (congrArg (C.int .i64) ?_) (Ah (congrArg (C.int .i64) ?_) (Ah (congrArg (C.int .i64) ?_) rfl)))) (Ah (congrArg V.c (congrArg C.bool ?_)) rfl))),rfl⟩
 rotate_left 4
 refine⟨(Ae Q2 Q2),?_⟩
 refine have hm1:(Bo u b).getD u=(⟨u.want-1,128,191⟩:Utf):=?_;?_
 rotate_left
 refine⟨(congrArg S.tup (Ah (congrArg V.agg (Ah (congrArg (C.int .i64) ?_) (Ah (congrArg (C.int .i64) ?_) (Ah (congrArg (C.int .i64) ?_) rfl)))) (Ah (congrArg V.c (congrArg C.bool ?_)) rfl))),rfl⟩
 rotate_left 4
 all_goals first|(simp[Bo, *];done)|(simp[Bo,utf0, *];done)|(simp_all[Bo,utf0,Am];done)|(simp_all[Bo,utf0,Am];omega)
structure Ak8 where
 u:Utf
 v:Nat
structure K4 where
 u:Utf
 i:Nat
def K5 (u:Utf) (s:List UInt8):Fam:=⟨K4,fun q1=>[(1,.v (vT s)),(2,.v (vP 0)),(4,.v (vP 1)),(6,.v (vI (q1.i:Int)))],fun q1=>[.cells (H9 q1.u),.cells [.int .i64 0,.int .i64 0,.int .i64 0]],fun q1=>q1.i≤s.length∧Pn q1.u (List.drop q1.i s) q1.i=Pn u s 0,fun q1=>s.length-q1.i⟩
theorem Aha (u:Utf) (s:List UInt8) (hp1:s.length≤Bf):Fun Tryz.prog 202 [.agg (H9 u),vT s] [] (.tup [.agg (H9 (Rt u s)),vI (Uk u s)]) []:=by
 have hN:Bf=274877906944:=rfl
 refine Aq Tryz.func202 Q4 Q4 (w:=let zi:Int→C:= .int .i64;let z5:=K5 u s;(.seg [.at 0,.keep [1,2,4,6],.sel [0,1]] (.loop z5 fun q1=> .br (.intro (fun (x1:UInt8)=>s[q1.i]? =some x1) fun x1=>let z1:=Bo q1.u ((UInt8.toNat x1:Nat):Int);.seg [.tree (fr (.two 5 (fr (.one 9 (.one 10 (.first 11 (.done)))) 6 3) 9 (.one 5 (fr (.one 10 (.first 11 (.done))) 6 3))) 0 5) 12 [],.ch x1,.as 20 (.v (vI ((UInt8.toNat x1:Nat):Int))),.call [] (.tup [.agg (H9 (z1.getD q1.u)),vB z1.isSome]) [],.at 0,.keep [1,2,4,6,7,8],.sel [0,1,2],.call [] (.tup [.agg (H9 (z1.getD q1.u)),vB z1.isSome]) [],.at 0,.keep [1,2,4,6,7,8],.sel [0,1,2]] (.br (.leaf () []) (.seg [.as 14 (.v (vI ((q1.i:Int)+1))),.at 0,.keep [1,2,4,6],.sel [0,1]] (.next)))) (.leaf () [])),z5.Has [(1,.v (vT s)),(2,.v (vP 0)),(4,.v (vP 1)),(6,.v (vI 0))] [.cells (H9 u),.cells [zi 0,zi 0,zi 0]]∧∀q1,z5.inv q1→(let z3:=(q1.i:Int);let z4:=H9 q1.u;((decide (z3<(s.length:Int)))=true→(∃(x1:UInt8),s[q1.i]? =some x1)∧∀(x1:UInt8),(s[q1.i]? =some x1)→(let z2:=((UInt8.toNat x1:Nat):Int);(s[q1.i]? =some x1)∧((0:Int)≤z3)∧(s[q1.i]? =some x1)∧((0:Int)≤z3)∧((.v (vI (IntKind.i64.wrap (z2))):S)= .v (vI z2))∧((.v (vI (IntKind.i64.wrap (z2))):S)= .v (vI z2))∧(Fun Tryz.prog 62 [.agg z4,vI z2] [] (.tup [.agg (H9 ((Bo q1.u z2).getD q1.u)),vB (Bo q1.u z2).isSome]) [])∧(Fun Tryz.prog 62 [.agg z4,vI z2] [] (.tup [.agg (H9 ((Bo q1.u z2).getD q1.u)),vB (Bo q1.u z2).isSome]) [])∧(([.cells z4,.cells [zi 0,zi 0,zi 0],.cells (H9 ((Bo q1.u z2).getD q1.u))]:List Blk)=[.cells z4,.cells [zi 0,zi 0,zi 0],.cells (H9 ((Bo q1.u z2).getD q1.u))])∧(([(1,.v (vT s)),(2,.v (vP 0)),(4,.v (vP 1)),(6,.v (vI z3)),(7,.v (vP 2)),(8,.v (vB (Bo q1.u z2).isSome))]:List (Nat×S))=[(1,.v (vT s)),(2,.v (vP 0)),(4,.v (vP 1)),(6,.v (vI z3)),(7,.v (vP 2)),(8,.v (vB (Bo q1.u z2).isSome))])∧((!(Bo q1.u z2).isSome)=true→(.tup [.agg z4,vI z3]:S)= .tup [.agg (H9 (Rt u s)),vI (Uk u s)]∧([]:List Blk)=[])∧((!(Bo q1.u z2).isSome)=false→((.v (vI (IntKind.i64.wrap (z3+1))):S)= .v (vI (z3+1)))∧z5.Nxt q1 [(1,.v (vT s)),(2,.v (vP 0)),(4,.v (vP 1)),(6,.v (vI (z3+1)))] [.cells (H9 ((Bo q1.u z2).getD q1.u)),.cells [zi 0,zi 0,zi 0]])))∧((decide (z3<(s.length:Int)))=false→(.tup [.agg z4,vI (-1)]:S)= .tup [.agg (H9 (Rt u s)),vI (Uk u s)]∧([]:List Blk)=[])))) Q4 ?_
 refine⟨Bi (j:=(⟨u,0⟩:K4)) Q10 rfl (by dsimp only[K5];exact⟨by omega,by simp⟩),fun (q1:K4) hq_q1=>?_⟩
 have hi_q1:q1.i≤s.length∧Pn q1.u (List.drop q1.i s) q1.i=Pn u s 0:=hq_q1
 obtain ⟨v1,v2⟩:=hi_q1
 refine dsp (fun h1 p1=>?_) fun h1 p1=>?_
 refine⟨(Bh (l:=s) (i:=q1.i) Q2),fun x1 hx1=>?_⟩
 have hb_x1:=UInt8.toNat_lt x1
 refine⟨hx1,Q2,hx1,Q2,(Ae Q2 Q2),(Ae Q2 Q2),(Sz q1.u _),(Sz q1.u _),rfl,rfl,fun h2=>have q2:=Ap h2;?_,fun h2=>have q2:=An h2;?_⟩
 rw[C9 hx1,Pn] at v2
 refine have hm1:Rt u s=q1.u:=?_;?_
 rotate_left
 refine⟨(congrArg S.tup (Ah (congrArg V.agg (Ah (congrArg (C.int .i64) ?_) (Ah (congrArg (C.int .i64) ?_) (Ah (congrArg (C.int .i64) ?_) rfl)))) (Ah (congrArg V.c (congrArg (C.int .i64) ?_)) rfl))),rfl⟩
 rotate_left 4
 rw[C9 hx1,Pn] at v2
 exact⟨(Ae Q2 Q2),A5 (j:=(⟨((Bo q1.u ((UInt8.toNat x1:Nat):Int)).getD q1.u),q1.i+1⟩:K4)) Q10 rfl (by dsimp only[K5];exact⟨by omega,by cases hu:Bo q1.u (x1.toNat:Int)<;>simp_all⟩) (by dsimp only[K5];omega)⟩
 rw[K0 p1] at v2
 refine have hm1:Rt u s=q1.u:=?_;?_
 rotate_left
 refine⟨(congrArg S.tup (Ah (congrArg V.agg (Ah (congrArg (C.int .i64) ?_) (Ah (congrArg (C.int .i64) ?_) (Ah (congrArg (C.int .i64) ?_) rfl)))) (Ah (congrArg V.c (congrArg (C.int .i64) ?_)) rfl))),rfl⟩
 rotate_left 4
 all_goals first|(unfold Rt;rw[←v2,Pn];done)|(unfold Uk;rw[←v2,Pn];done)|(unfold Rt;rw[←v2];clear v2;cases hu:Bo q1.u (x1.toNat:Int)<;>simp_all)|(unfold Uk;rw[←v2];clear v2;cases hu:Bo q1.u (x1.toNat:Int)<;>simp_all)
end Go.Proofs.YtcmnedgnppnhoaaGreat.Ax
