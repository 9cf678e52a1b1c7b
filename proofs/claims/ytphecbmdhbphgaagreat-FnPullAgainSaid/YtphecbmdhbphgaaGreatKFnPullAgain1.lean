/- Models. Models: the machine. Models: the machine's steps. Models: bytes, whole inputs. Models: readers, streams. Numbers. Readers. ReadSome. A byte keeps a decoder right. A byte keeps a decoder right. Whole inputs. -/
import Derived.Test.YtphecbmdhbphgaaGreatKB4
set_option linter.unusedSimpArgs false
set_option linter.unusedVariables false
namespace Go.Proofs.YtphecbmdhbphgaaGreat.Ax
open Go.RowKit
theorem Ab {α:Type} {a b:α} {l m:List α} (h:a=b) (t:l=m):a::l=b::m:=by rw[h,t]
def vI (x:Int):V:= .c (.int .i64 x)
def vB (x:Bool):V:= .c (.bool x)
def vT (x:List UInt8):V:= .c (.str x)
def vO (j:Nat):V:= .c (.own j)
def vP (j:Nat):V:= .c (.ptr j 0)
theorem sB {a b:Bool} (h:a=b):(.v (.c (.bool a)):S)= .v (.c (.bool b)):=by rw[h]
theorem sI {a b:Int} (h:a=b):(.v (.c (.int .i64 a)):S)= .v (.c (.int .i64 b)):=by rw[h]
theorem dT {p:Prop} [Decidable p]:decide p=true↔p:=decide_eq_true_iff
theorem dF {p:Prop} [Decidable p]:decide p=false↔¬p:=decide_eq_false_iff_not
theorem Ch {a b:Bool} {P Q:Prop} (h:a=true↔P) (g:b=true↔Q):(a&&b)=true↔P∧Q:=by rw[Bool.and_eq_true,h,g]
theorem Ci {a b:Bool} {P Q:Prop} (h:a=true↔P) (g:b=false↔Q):(a&&b)=false↔(P→Q):=by rw[Bool.and_eq_false_imp,h,g]
theorem orT {a b:Bool} {P Q:Prop} (h:a=true↔P) (g:b=true↔Q):(a||b)=true↔P∨Q:=by rw[Bool.or_eq_true,h,g]
theorem orF {a b:Bool} {P Q:Prop} (h:a=false↔P) (g:b=false↔Q):(a||b)=false↔P∧Q:=by rw[Bool.or_eq_false_iff,h,g]
theorem Bj {F:Fam} {j:F.ι} {tm:List (Nat×S)} {H:List Blk} (h1:tm=F.tm j) (h2:H=F.H j) (h:F.inv j):F.Has tm H:=⟨j,h,h1,h2⟩
theorem A5 {F:Fam} {i j:F.ι} {tm:List (Nat×S)} {H:List Blk} (h1:tm=F.tm j) (h2:H=F.H j) (h:F.inv j) (hm:F.mu j<F.mu i):F.Nxt i tm H:=⟨j,⟨h,hm⟩,h1,h2⟩
abbrev In {α:Type} (P Q:α→Prop):Prop:=(∃o,P o)∧∀o,P o→Q o
theorem Aq {P : Program} {f : FuncId} {fn : Func} (hf : P.funcs[f]? = some fn) (hb : fn.body.isNone = false) (hn : (fn.name == "runtime.NumGoroutine") = false) {args : List V} {L L' : List Blk} {r : S} {w : DT Unit × Prop}
  (hw:Aem P fn args L w.1 (fun _ r' Lp=>r'=r∧Lp=L')=w.2) (h:w.2):Fun P f args L r L':=Anz hf hb hn hw h
theorem B4 {P : Program} {ι : Type} {f : FuncId} {fn : Func} (hf : P.funcs[f]? = some fn) (hb : fn.body.isNone = false) (hn : (fn.name == "runtime.NumGoroutine") = false) {args : List V} {L : List Blk} {L' : ι → List Blk} {r : ι → S} {good : ι → Prop} {w : DT ι × Prop}
  (hw:Aem P fn args L w.1 (fun i r' Lp=>good i∧r'=r i∧Lp=L' i)=w.2) (h:w.2): ∃i,good i∧Fun P f args L (r i) (L' i):=Ame hf hb hn hw h
abbrev Bc (p:Bool) (A B:Prop):Prop:=(p=true→A)∧(p=false→B)
abbrev Lf (a b:S) (x y:List Blk):Prop:=a=b∧x=y
abbrev Sx {α:Type} (o:Option α):α→Prop:=fun x=>o=some x
abbrev El {α:Type} (o:Option α) (Q:α→Prop):Prop:=(∃x,o=some x)∧∀x,o=some x→Q x
abbrev wI (x:Int):Prop:=(.v (vI (IntKind.i64.wrap x)):S)= .v (vI x)
abbrev wU (x:Int):Prop:=(.v (.c (.int .u64 (IntKind.u64.wrap x))):S)= .v (.c (.int .u64 x))
abbrev Fp:=Fun Tryz.prog
theorem zE {β:Type} {p:Prop} (a b:β) (h:a=b→p) (h1:a=b):p:=h h1
theorem zD {β γ:Type} {p:Prop} (a b:β) (c d:γ) (h:a=b→c=d→p) (h1:a=b) (h2:c=d):p:=h h1 h2
theorem zM {α β γ:Type} {p:Prop} (f:α→β) (g:α→γ) (m x:α) (h:f m=f x→g m=g x→p) (h1:f m=f x) (h2:g m=g x):p:=h h1 h2
theorem dsp {p:Prop} [Decidable p] {A B:Prop} (h1:decide p=true→p→A) (h2:decide p=false→¬p→B):(decide p=true→A)∧(decide p=false→B):=⟨fun h=>h1 h (of_decide_eq_true h),fun h=>h2 h (of_decide_eq_false h)⟩
/-! ### Structures -/
structure Scn where
 bits:Int
 have_:Int
 deriving DecidableEq,Inhabited
structure Utf where
 want:Int
 low:Int
 high:Int
 deriving DecidableEq,Inhabited
structure Pln where
 shapes:List Shp
 root:Int
 deep:Int
 most:Int
 deriving DecidableEq,Inhabited
structure Dcd where
 plan:Pln
 mode:Int
 stack:List Lev
 scan:Scn
 start:Int
 at_:Int
 field:Fld
 wire:Int
 want:Int
 utf:Utf
 end_:Ev
 deriving DecidableEq,Inhabited
def fld0:Fld:=⟨0,0,false,false,0⟩
def ev0:Ev:=⟨0,0,0,0,[],0,0⟩
def utf0:Utf:=⟨0,0,0⟩
def scn0:Scn:=⟨0,0⟩
theorem Dj {α:Type} {l:List α} {i:Nat} {x:α} (h:l[i]? =some x):l.drop i=x::l.drop (i+1):=by
 have hl:=(List.getElem?_eq_some_iff.1 h).1
 rw[List.drop_eq_getElem_cons hl]
 congr 1
 rw[List.getElem?_eq_getElem hl] at h
 exact Option.some.inj h
theorem An {b:Bool} (h:(!b)=true):b=false:=by cases b<;>simp_all
theorem Am {b:Bool} (h:(!b)=false):b=true:=by cases b<;>simp_all
theorem Wi {α:Type} {l:List α} {i:Nat} {x d:α} (h:l[i]? =some x):l.getD i d=x:=by simp[List.getD,h]
theorem Lj {α:Type} {l:List α} {i:Nat} (h: ¬((i:Nat):Int)<((l.length:Nat):Int)):l.drop i=[]:=List.drop_eq_nil_of_le (by omega)
/-! ### Words of numbers -/
theorem Zi {k:IntKind} {a m:Int} (h:0≤a):(.v (.c (.int k (Int.tmod a m))):S)= .v (.c (.int k (a % m))):=by rw[Int.tmod_eq_emod_of_nonneg h]
theorem Wj {a m:Int} (h:0≤a) (h2:a≤18446744073709551615) (hm:0<m):(.v (.c (.int .u64 (IntKind.u64.wrap (Int.tdiv a m)))):S)= .v (.c (.int .u64 (a / m))):=by
 rw[Int.tdiv_eq_ediv_of_nonneg h]
 have h3:=Int.ediv_nonneg h (Int.le_of_lt hm)
 have h4:=Int.ediv_le_self m h
 exact B3 Q2 Q2
theorem An1 {a b:Int} {k:Nat} (ha:0≤a) (hk:a<2 ^ k) {c:Int} (hc:0≤c) (hb:b=c*2 ^ k) (hs:b+2 ^ k≤18446744073709551616):(((BitVec.ofInt 64 a|||BitVec.ofInt 64 b).toNat:Nat):Int)=a+b:=by
 obtain ⟨n,rfl⟩:=Int.eq_ofNat_of_zero_le ha
 obtain ⟨m,rfl⟩:=Int.eq_ofNat_of_zero_le hc
 have hb':b=((m*2 ^ k:Nat):Int):=by rw[hb,Int.natCast_mul,Int.natCast_pow];rfl
 have hp:(0:Int)<2 ^ k:=Int.pow_pos (by decide)
 subst hb'
 have e:((2 ^ k:Nat):Int)=2 ^ k:=by rw[Int.natCast_pow];rfl
 rw[←e] at hk hs hp
 have h1:n<2 ^ k:=by omega
 have h2:m*2 ^ k+2 ^ k≤18446744073709551616:=by omega
 have h3:n<2 ^ 64:=by omega
 have h4:m*2 ^ k<2 ^ 64:=by omega
 rw[BitVec.toNat_or,BitVec.ofInt_natCast,BitVec.ofInt_natCast,BitVec.toNat_ofNat,BitVec.toNat_ofNat,Nat.mod_eq_of_lt h3,Nat.mod_eq_of_lt h4,Nat.or_comm,Nat.mul_comm m,←Nat.two_pow_add_eq_or_of_lt h1]
 rw[Nat.mul_comm,Int.natCast_add,Int.add_comm]
/-! ### Kinds, wires, numbers -/
def Dq (n:Int):Bool:=Ak n 1 536870911&& !Ak n 19000 19999
def D1 (w:Int):Bool:=decide (w=0)||decide (w=1)||decide (w=2)||decide (w=5)
def Ey (k:Int):Bool:=Ak k 1 8
def Db (k:Int):Bool:=Ak k 1 5
def Cd (k:Int):Int:=if Ey k then (if k=4 then 5 else if k=5 then 1 else if k≤3 then 0 else 2) else-1
def A4 (w:Int):Int:=if w=1 then 8 else if w=5 then 4 else 0
def Uu (f:Fld):Bool:=f.rep&&Db f.kind
def Dk (f:Fld) (w:Int):Bool:=decide (w=Cd f.kind)||(decide (w=2)&&Uu f)
def E0 (k:Int):Bool:=decide (k=2)||decide (k=3)||decide (k=6)
theorem Em (w:Int):0≤A4 w∧A4 w≤8:=by unfold A4;split<;>(try split)<;>omega
def Jh (f:Fld) (n:Int):Bool:=Dq f.number&&Ey f.kind&& !(f.packed&&(!f.rep|| !Db f.kind))&&(if f.kind=8 then Ak f.msg 0 (n-1) else decide (f.msg= -1))
def Dc (n:Int):Int→List Fld→Bool
 |_,[]=>true
 |b,f::r=>decide (b<f.number)&&Jh f n&&Dc n f.number r
def En (n:Int):Int→List Shp→Bool
 |_,[]=>true
 |b,x::r=>decide (b<x.id)&&decide (x.id≤99)&&decide ((x.fields.length:Int)≤8)&&Dc n 0 x.fields&&En n x.id r
def Dw (l:List Shp):Bool:=decide ((l.length:Int)≤6)&&En (l.length:Int) 0 l
def Gs (l:List Fld) (n:Int):Option Fld:=l.find? fun f=>decide (f.number=n)
def Apg:Shp:=⟨0,[]⟩
def fieldAt (l:List Shp) (s n:Int):Option Fld:=if Ak s 0 ((l.length:Int)-1) then Gs (l.getD s.toNat Apg).fields n else none
def Dh (p:Pln):Bool:=Dw p.shapes&&Ak p.root 0 ((p.shapes.length:Int)-1)&&Ak p.deep 1 8&&Ak p.most 0 2000
theorem Acb {f:Fld} {n:Int} (h:Jh f n=true):1≤f.number∧f.number≤536870911∧1≤f.kind∧f.kind≤8∧(f.kind=8→0≤f.msg∧f.msg≤n-1)∧(f.kind≠8→f.msg= -1):=by
 simp only[Jh,Dq,Ey,Ak,Bool.and_eq_true,decide_eq_true_eq] at h
 obtain ⟨⟨⟨h1,h2⟩,h3⟩,h4⟩:=h
 refine⟨h1.1.1,h1.1.2,h2.1,h2.2,fun hk=>?_,fun hk=>?_⟩
 ·rw[if_pos hk] at h4;simpa using h4
 ·rw[if_neg hk] at h4;simpa using h4
theorem T3 {l:List Shp} (h:Dw l=true):l.length≤6:=by
 simp only[Dw,Bool.and_eq_true,decide_eq_true_eq] at h;omega
theorem Cj {p:Pln} (h:Dh p=true):p.shapes.length≤6∧Dw p.shapes=true∧0≤p.root∧p.root<(p.shapes.length:Int)∧1≤p.deep∧p.deep≤8∧0≤p.most∧p.most≤2000:=by
 simp only[Dh,Ak,Bool.and_eq_true,decide_eq_true_eq] at h
 have:=T3 h.1.1.1
 refine⟨this,h.1.1.1,?_⟩;omega
theorem Uv {n:Int} : ∀ {b:Int} {l:List Fld},Dc n b l=true→∀f∈l,Jh f n=true∧b<f.number
 |_,[],_,f,hf=>by cases hf
 |b,g::r,h,f,hf=>by
  simp only[Dc,Bool.and_eq_true,decide_eq_true_eq] at h
  rcases List.mem_cons.1 hf with rfl|hf
  ·exact⟨h.1.2,h.1.1⟩
  ·have:=Uv h.2 f hf;exact⟨this.1,by omega⟩
theorem Qa {n:Int} : ∀ {b:Int} {l:List Shp},En n b l=true→∀x∈l,(x.fields.length≤8∧Dc n 0 x.fields=true)∧b<x.id∧x.id≤99
 |_,[],_,f,hf=>by cases hf
 |b,g::r,h,f,hf=>by
  simp only[En,Bool.and_eq_true,decide_eq_true_eq] at h
  rcases List.mem_cons.1 hf with rfl|hf
  ·exact⟨⟨by omega,h.1.2⟩,h.1.1.1.1,h.1.1.1.2⟩
  ·have:=Qa h.2 f hf;exact⟨this.1,by omega,this.2.2⟩
theorem D7 {l:List Shp} (h:Dw l=true): ∀x∈l,List.length x.fields≤1000:=fun x hx=>by
 simp only[Dw,Bool.and_eq_true] at h
 have:=(Qa h.2 x hx).1.1
 omega
theorem Yd {l:List Shp} {s n:Int} {f:Fld} (hl:Dw l=true) (h:fieldAt l s n=some f):Jh f (l.length:Int)=true∧f.number=n:=by
 unfold fieldAt at h
 split at h
 ·rename_i hs
  have hs:=As hs
  simp only[Dw,Bool.and_eq_true,decide_eq_true_eq] at hl
  have hm:l.getD s.toNat Apg∈l:=by
   rw[List.getD_eq_getElem?_getD,List.getElem?_eq_getElem (by omega)]
   exact List.getElem_mem _
  have hx:=(Qa hl.2 _ hm).1.2
  have hf:=List.mem_of_find?_eq_some h
  have hp:=List.find?_some h
  exact⟨(Uv hx f hf).1,by simpa using hp⟩
 ·cases h
/-! ### Tags -/
def C5 (n w:Int):Int:=if Ak n 1 536870911&&Ak w 0 7 then 8*n+w else 0
def Nh (u:Int):Bool:=Ak u 8 4294967295
def Bw (u:Int):Int:=if Nh u then u / 8 else 0
def Aj (u:Int):Int:=if Nh u then u % 8 else 0
theorem Bn (n w:Int):0≤C5 n w∧C5 n w≤4294967295:=by
 unfold C5 Ak;split<;>simp_all<;>omega
/-! ### Utf-8 -/
def Pu (u:Utf) (w l h:Int):Bool:=decide (u.want=w)&&(decide (u.low=l)&&decide (u.high=h))
def E4 (u:Utf):Bool:=Pu u 0 0 0||Pu u 1 128 191||Pu u 2 128 191||Pu u 3 128 191||Pu u 2 160 191||Pu u 2 128 159||Pu u 3 144 191||Pu u 3 128 143
theorem Acc {u:Utf} (h:E4 u=true):(u.want=0∧u.low=0∧u.high=0)∨(u.want=1∧u.low=128∧u.high=191)∨(u.want=2∧u.low=128∧u.high=191)∨(u.want=3∧u.low=128∧u.high=191)∨(u.want=2∧u.low=160∧u.high=191)∨(u.want=2∧u.low=128∧u.high=159)∨(u.want=3∧u.low=144∧u.high=191)∨(u.want=3∧u.low=128∧u.high=143):=by
 simp only[E4,Pu,Bool.or_eq_true,Bool.and_eq_true,decide_eq_true_eq] at h
 rcases h with ((((((h|h)|h)|h)|h)|h)|h)|h<;>simp[h]
theorem Ye {u:Utf} (h:E4 u=true) (h0:u.want=0):u=utf0:=by
 rcases Acc h with h|h|h|h|h|h|h|h<;>first|(cases u;simp_all[utf0];done)|omega
theorem Mo {u:Utf} (h:E4 u=true):0≤u.want∧u.want≤3:=by
 rcases Acc h with h|h|h|h|h|h|h|h<;>omega
def Bd (b:Int):Option Utf:=
 if Ak b 0 127 then some utf0
 else if Ak b 194 223 then some ⟨1,128,191⟩
 else if Ak b 224 239 then some ⟨2,if b=224 then 160 else 128,if b=237 then 159 else 191⟩
 else if Ak b 240 244 then some ⟨3,if b=240 then 144 else 128,if b=244 then 143 else 191⟩
 else none
def By (u:Utf) (b:Int):Option Utf:=
 if E4 u then (if u.want=0 then Bd b else if Ak b u.low u.high then some (if u.want=1 then utf0 else ⟨u.want-1,128,191⟩) else none) else none
def Qb:Utf→List UInt8→Nat→Utf×Option Nat
 |u,[],_=>(u,none)
 |u,b::r,i=>match By u (b.toNat:Int) with
  |some v=>Qb v r (i+1)
  |none=>(u,some i)
def T4 (u:Utf) (s:List UInt8):Utf:=(Qb u s 0).1
def Aa0 (u:Utf) (s:List UInt8):Int:=match (Qb u s 0).2 with
 |some i=>(i:Int)
 |none=> -1
/-! ### Varints -/
def Ni (u:Nat):List UInt8:=if h:u<128 then [UInt8.ofNat u] else UInt8.ofNat (u % 128+128)::Ni (u / 128)
termination_by u
decreasing_by omega
def Ec (u:Int):List UInt8:=Ni u.toNat
def Lk (u:Int):Int:=((Ec u).length:Int)
theorem Nj {u:Nat} (h:u<128):Ni u=[UInt8.ofNat u]:=by rw[Ni,dif_pos h]
theorem Se {u:Nat} (h: ¬u<128):Ni u=UInt8.ofNat (u % 128+128)::Ni (u / 128):=by rw[Ni,dif_neg h]
theorem Wm: ∀(k u:Nat),u<128 ^ k→1≤k→(Ni u).length≤k
 |0,_,_,h=>by omega
 |k+1,u,h,_=>by
  by_cases hu:u<128
  ·rw[Nj hu];simp
  ·rw[Se hu]
   have hk:1≤k:=by
    rcases k with _|k
    ·simp at h;omega
    ·omega
   have:=Wm k (u / 128) (by rw[Nat.pow_succ] at h;exact Nat.div_lt_of_lt_mul (by rw[Nat.mul_comm];exact h)) hk
   simp;omega
theorem Wn (u:Nat):1≤(Ni u).length:=by
 by_cases hu:u<128
 ·rw[Nj hu];simp
 ·rw[Se hu];simp
theorem Aa1 {u:Int} (h0:0≤u) (h:u≤127):Ec u=[UInt8.ofNat u.toNat]:=Nj (by omega)
theorem Yf {u:Int} (h0:0≤u) (h:127<u):Ec u=UInt8.ofNat (u % 128+128).toNat::Ec (u / 128):=by
 unfold Ec
 rw[Se (by omega),show (u / 128).toNat=u.toNat / 128 by omega,show (u % 128+128).toNat=u.toNat % 128+128 by omega]
theorem Yg (u:Int):1≤(Ec u).length:=Wn _
theorem Adi {u:Int} (h:u≤18446744073709551615):1≤Lk u∧Lk u≤10:=by
 have h1:=Wn u.toNat
 have h2:=Wm 10 u.toNat (by omega) (by omega)
 unfold Lk Ec;omega
def A3 (c a:Int):Ev:=⟨10,0,0,0,[],c,a⟩
def Hs (f:Fld) (u:Int):Ev:=⟨2,f.number,if f.kind=3∧u≠0 then 1 else u,0,[],0,0⟩
theorem Uw {f:Fld} {l:List Fld} {n:Int} :Gs (f::l) n=if f.number=n then some f else Gs l n:=by
 unfold Gs;rw[List.find?_cons];by_cases h:f.number=n<;>simp[h]
theorem Yh {l:List Shp} {s n:Int} {x:Shp} (hs:Ak s 0 ((l.length:Int)-1)=true) (hx:l[s.toNat]? =some x):fieldAt l s n=Gs x.fields n:=by
 rw[fieldAt,if_pos hs,Wi hx]
def An2 (l:List Ev) (k:Int):Int:=((l.filter fun e=>decide (e.kind=k)).length:Int)
structure Fa where
 stack:List Int
 inText:Bool
 isText:Bool
 utf:Utf
 ended:Bool
 deriving Inhabited
structure Fmr where
 plan:Pln
 st:Fa
structure Fs where
 stack:List Int
 field:Fld
 open_:Bool
 utf:Utf
 ended:Bool
def Gt (k:Int):Bool:=decide (k=6)||decide (k=7)
theorem Acd {b:Int} {u:Utf} (h:Bd b=some u):E4 u=true:=by
 unfold Bd at h
 repeat' split at h
 all_goals first|(cases h;done)|(cases h;first|decide|(exfalso;omega)|(simp only[E4,Pu];simp_all;done)|(simp only[E4,Pu];simp_all;omega))
theorem Aeq {u v:Utf} {b:Int} (h:By u b=some v):E4 v=true:=by
 unfold By at h
 split at h
 ·rename_i hu
  have hw:=Mo hu
  split at h
  ·exact Acd h
  ·split at h
   ·split at h
    ·cases h;decide
    ·cases h
     rcases Acc hu with h|h|h|h|h|h|h|h<;>simp_all[E4,Pu]
   ·cases h
 ·cases h
def EvB (e:Ev):Prop:=List.length e.text≤A8∧(0:Int)≤e.bits∧e.bits≤18446744073709551615
def cEv (x:Ev):List C:=[.int .i64 x.kind,.int .i64 x.field,.int .u64 x.bits,.int .i64 x.len,.str x.text,.int .i64 x.code,.int .i64 x.at_]
def Gb (x:Fld):List C:=[.int .i64 x.number,.int .i64 x.kind,.bool x.rep,.bool x.packed,.int .i64 x.msg]
def Akp (x:Shp):List C:=[.int .i64 x.id,.seq .fld x.fields]
def Ao2 (x:Lev):List C:=[.int .i64 x.msg,.int .i64 x.left]
def Lg (x:Scn):List C:=[.int .u64 x.bits,.int .i64 x.have_]
def K3 (x:Utf):List C:=[.int .i64 x.want,.int .i64 x.low,.int .i64 x.high]
def Mg (x:Pln):List C:=[.seq .shp x.shapes,.int .i64 x.root,.int .i64 x.deep,.int .i64 x.most]
def Bs (x:Dcd):List C:=[.seq .shp x.plan.shapes,.int .i64 x.plan.root,.int .i64 x.plan.deep,.int .i64 x.plan.most,.int .i64 x.mode,.seq .lev x.stack,.int .u64 x.scan.bits,.int .i64 x.scan.have_,.int .i64 x.start,.int .i64 x.at_,.int .i64 x.field.number,.int .i64 x.field.kind,.bool x.field.rep,.bool x.field.packed,.int .i64 x.field.msg,.int .i64 x.wire,.int .i64 x.want,.int .i64 x.utf.want,.int .i64 x.utf.low,.int .i64 x.utf.high,.int .i64 x.end_.kind,.int .i64 x.end_.field,.int .u64 x.end_.bits,.int .i64 x.end_.len,.str x.end_.text,.int .i64 x.end_.code,.int .i64 x.end_.at_]
def Ae (j0:Nat) (j5:Nat) (x:Dcd):List C:=[.own j0,.int .i64 x.plan.root,.int .i64 x.plan.deep,.int .i64 x.plan.most,.int .i64 x.mode,.own j5,.int .u64 x.scan.bits,.int .i64 x.scan.have_,.int .i64 x.start,.int .i64 x.at_,.int .i64 x.field.number,.int .i64 x.field.kind,.bool x.field.rep,.bool x.field.packed,.int .i64 x.field.msg,.int .i64 x.wire,.int .i64 x.want,.int .i64 x.utf.want,.int .i64 x.utf.low,.int .i64 x.utf.high,.int .i64 x.end_.kind,.int .i64 x.end_.field,.int .u64 x.end_.bits,.int .i64 x.end_.len,.str x.end_.text,.int .i64 x.end_.code,.int .i64 x.end_.at_]
def Ai8 (j0:Nat) (x:Pln):List C:=[.own j0,.int .i64 x.root,.int .i64 x.deep,.int .i64 x.most]
abbrev L2 (d:Dcd):List Blk:=[.tree d.plan.shapes,.lst .lev d.stack]
abbrev Ls (d:Dcd) (o:List Ev):List Blk:=[.tree d.plan.shapes,.lst .lev d.stack,.lst .ev o]
def Ao8:Lev:=⟨0,0⟩
def D6 (d:Dcd):Int:=(d.stack.getD (d.stack.length-1) Ao8).left
def Fj (n:Int) (l:Lev):Bool:=Ak l.msg 0 (n-1)&&Ak l.left 0 2000
def Bi (d:Dcd):Bool:=Dh d.plan&&decide ((d.stack.length:Int)≤d.plan.deep)&&d.stack.all (Fj (d.plan.shapes.length:Int))
def Xy (n:Int):List Lev→Nat
 |[]=>0
 |l::r=>if Fj n l then Xy n r+1 else 0
theorem S5 {n:Int} {l:Lev} {r:List Lev} :Xy n (l::r)=if Fj n l then Xy n r+1 else 0:=rfl
theorem Nk (n:Int): ∀l:List Lev,l.all (Fj n)=decide (Xy n l=l.length)
 |[]=>rfl
 |l::r=>by
  rw[List.all_cons,Nk n r,S5]
  cases h:Fj n l with
  |true=>rw[if_pos rfl];simp
  |false=>rw[if_neg (by simp)];simp
def Lm (n:Int) (l:List Lev):Int:=if Xy n l=l.length then-1 else (Xy n l:Int)
def Dr (s:Scn):Bool:=Ak s.have_ 0 9&&decide (Int.fdiv s.bits (2 ^ min (Int.toNat (7*s.have_)) 64)=0)
def Bu (d:Dcd):Int:=if d.mode=5 then A4 d.wire else if d.mode=8 then A4 (Cd d.field.kind) else 0
def Qc (d:Dcd):Int:=if d.mode=8 then d.want else D6 d
def J6 (d:Dcd):Bool:=if 0<Bu d then Ak d.scan.have_ 0 (Bu d-1)&&decide (Int.fdiv d.scan.bits (2 ^ min (Int.toNat (8*d.scan.have_)) 64)=0)&&decide (Bu d-d.scan.have_≤Qc d)
 else if d.mode=6∨d.mode=7∨d.mode=9 then decide (d.scan=scn0) else Dr d.scan
def Ji (d:Dcd):Bool:=if d.mode=6∨d.mode=7∨d.mode=8 then Ak d.want 1 (D6 d) else decide (d.want=0)
def Akq (d:Dcd):Bool:=decide (d.field=fld0)||Dk d.field d.wire
def Jj (d:Dcd):Bool:=if d.mode=6 then Gt d.field.kind else if d.mode=8 then Uu d.field else if d.mode=3 then decide (d.wire=0)&&Akq d else if d.mode=4 then decide (d.wire=2)&&Akq d else if d.mode=5 then decide (0<A4 d.wire)&&Akq d else true
def Gc (l:List Shp) (f:Fld):Nat→Bool
 |0=>false
 |k+1=>Gc l f k||decide (fieldAt l (k:Int) f.number=some f)
def Jz (l:List Shp) (f:Fld):Bool:=Gc l f l.length
def Mh (k:Int):Bool:=Ak k 1 10
def Eo (e:Ev):Ev:=⟨e.kind,if e.kind=2∨e.kind=3∨e.kind=6 then e.field else 0,if e.kind=2 then e.bits else 0,if e.kind=1∨e.kind=3∨e.kind=6 then e.len else 0,if e.kind=4 then e.text else [],if e.kind=10 then e.code else 0,if e.kind=9∨e.kind=10 then e.at_ else 0⟩
def S6 (e:Ev):Bool:=decide (e=Eo e)
def Fn (e:Ev):Bool:=Mh e.kind&&S6 e&&decide (0≤e.len)&&decide (0≤e.at_)&&(if E0 e.kind then Ak e.field 1 536870911 else if e.kind=4 then !decide (e.text=[]) else if e.kind=10 then decide (1≤e.code) else true)
def Dg (e:Ev):Bool:=decide (e.kind=9)||decide (e.kind=10)
def Zj (d:Dcd):Bool:=if d.mode=9 then Fn d.end_&&Dg d.end_ else decide (d.end_=ev0)
def J2 (d:Dcd):Bool:=if d.mode=1 then decide (d.stack=[]) else if d.mode=9 then true else decide (1≤D6 d)
def Bv (d:Dcd):Bool:=Bi d&&Ak d.mode 1 9&&Ak d.at_ 0 1000000000&&Ak d.start 0 d.at_&&E4 d.utf&&D1 d.wire&&(decide (d.field=fld0)||Jz d.plan.shapes d.field)&&Zj d&&J2 d&&Ji d&&Jj d&&J6 d
theorem Agy {o f:Fld} (h:o.number=f.number∧o.kind=f.kind∧o.rep=f.rep∧o.packed=f.packed∧o.msg=f.msg):o=f:=by
 cases o;cases f;simp_all
theorem Agz {o f:Fld} (h:o.number=f.number→o.kind=f.kind→o.rep=f.rep→o.packed=f.packed→¬o.msg=f.msg):o≠f:=fun e=>by subst e;exact h rfl rfl rfl rfl rfl
theorem Wo {l:List Shp} {f:Fld} : ∀ {k m:Nat},k≤m→Gc l f k=true→Gc l f m=true
 |k,0,h,hk=>by rw[show k=0 by omega] at hk;exact hk
 |k,m+1,h,hk=>by
  by_cases e:k=m+1
  ·rw[←e];exact hk
  ·rw[Gc,Wo (m:=m) (by omega) hk];rfl
theorem Zk {l:List Shp} {f:Fld} {k:Nat} (h:k<l.length) (hf:fieldAt l (k:Int) f.number=some f):Jz l f=true:=by
 have:Gc l f (k+1)=true:=by rw[Gc,hf];simp
 exact Wo (show k+1≤l.length by omega) this
theorem Nm {l:List Shp} {f:Fld} {k:Nat} (h:Gc l f k=false) (hf:fieldAt l (k:Int) f.number≠some f):Gc l f (k+1)=false:=by
 rw[Gc,h];simp[hf]
theorem Adj {l:List Shp} {f:Fld} {k:Nat} (h:Gc l f k=false) (hk:l.length=k):Jz l f=false:=by unfold Jz;rw[hk];exact h
theorem Zm {f:Fld} (h:f.number=0∧f.kind=0∧f.rep=false∧f.packed=false∧f.msg=0):f=fld0:=Agy h
def Ry (d:Dcd):Bool:=d.stack.all (Fj (d.plan.shapes.length:Int))&&(if d.mode=1 then decide ((d.stack.length:Int)=0) else if d.mode=9 then decide ((d.stack.length:Int)≤d.plan.deep) else Ak (d.stack.length:Int) 1 d.plan.deep&&decide (1≤D6 d))
def An3 (d:Dcd):Bool:=Ak d.scan.have_ 0 (Bu d-1)&&decide (Int.fdiv d.scan.bits (2 ^ min (Int.toNat (8*d.scan.have_)) 64)=0)&&decide (Bu d-d.scan.have_≤Qc d)
def Ace (d:Dcd):Bool:=if d.mode=6∨d.mode=7∨d.mode=9 then decide (d.scan=scn0) else if d.mode=5 then An3 d else if d.mode=8 then (if Bu d=0 then Dr d.scan else An3 d) else Dr d.scan
def Ux (d:Dcd):Bool:=(decide (d.mode=3)&& !decide (d.wire=0))||(decide (d.mode=4)&& !decide (d.wire=2))||(decide (d.mode=5)&&decide (A4 d.wire=0))
def Aa2 (d:Dcd):Bool:=Dh d.plan&&Ak d.mode 1 9&&Ak d.at_ 0 1000000000&&Ak d.start 0 d.at_&&E4 d.utf&&D1 d.wire&&(decide (d.field=fld0)||Jz d.plan.shapes d.field)&&Ry d&&Zj d&&Ji d&& !Ux d&& !(Ak d.mode 3 5&& !decide (d.field=fld0)&& !Dk d.field d.wire)&&(!decide (d.mode=6)||Gt d.field.kind)&&(!decide (d.mode=8)||Uu d.field)&&Ace d
theorem Zn {d:Dcd} (h:d.stack=[]):D6 d=0:=by unfold D6;rw[h];rfl
theorem S7 (w:Int):A4 w=0∨A4 w=4∨A4 w=8:=by unfold A4;split<;>(try split)<;>omega
theorem Ag0 (d:Dcd):Aa2 d=Bv d:=by
 have hw:=S7 d.wire
 have hw2:=S7 (Cd d.field.kind)
 by_cases hm:Ak d.mode 1 9=true
 ·have hm:=As hm
  have hp:Dh d.plan=true→1≤d.plan.deep:=fun h=>(Cj h).2.2.2.2.1
  have ht:= @Zn d
  obtain ⟨⟨sh,ro,de,mo⟩,m,st,sc,sa,a,f,w,wa,u,e⟩:=d
  simp only at hm hw hw2 hp ht
  have hs:(decide (st=[]):Bool)=decide ((st.length:Int)=0):=by cases st<;>simp<;>omega
  have hl: ∀x:Lev,(([]:List Lev).length:Int)=0:=fun _=>rfl
  rcases (show m=1∨m=2∨m=3∨m=4∨m=5∨m=6∨m=7∨m=8∨m=9 by omega) with rfl|rfl|rfl|rfl|rfl|rfl|rfl|rfl|rfl<;>
   rw[Bool.eq_iff_iff]<;>simp[Aa2,Bv,Bi,Ry,J2,Ux,Ace,An3,J6,Jj,Akq,Ji,Qc,Bu,hs,Ak]<;>grind
 ·have hm:Ak d.mode 1 9=false:=by simpa using hm
  simp[Aa2,Bv,hm]
theorem An4 {e f:Ev} (h:e.kind=f.kind∧e.field=f.field∧e.bits=f.bits∧e.len=f.len∧e.text=f.text∧e.code=f.code∧e.at_=f.at_):e=f:=by cases e;cases f;simp_all
theorem Ai9 {e:Ev} (h:e.kind=(Eo e).kind∧e.field=(Eo e).field∧e.bits=(Eo e).bits∧e.len=(Eo e).len∧e.text=(Eo e).text∧e.code=(Eo e).code∧e.at_=(Eo e).at_):S6 e=true:=decide_eq_true (An4 h)
theorem S8 {e f:Ev} (h:Eo e=f):S6 e=(decide (e.kind=f.kind)&&(decide (e.field=f.field)&&(decide (e.bits=f.bits)&&(decide (e.len=f.len)&&(decide (e.text=f.text)&&(decide (e.code=f.code)&&decide (e.at_=f.at_))))))):=by
 subst h
 rw[Bool.eq_iff_iff]
 simp only[Bool.and_eq_true,decide_eq_true_eq]
 constructor
 ·intro h
  have h:e=Eo e:=of_decide_eq_true h
  exact⟨congrArg Ev.kind h,congrArg Ev.field h,congrArg Ev.bits h,congrArg Ev.len h,congrArg Ev.text h,congrArg Ev.code h,congrArg Ev.at_ h⟩
 ·exact fun h=>Ai9 h
structure Mac where
 d:Dcd
 out:List Ev
def Wp:Ev:=⟨5,0,0,0,[],0,0⟩
def Akr:Ev:=⟨7,0,0,0,[],0,0⟩
def Ln:Ev:=⟨8,0,0,0,[],0,0⟩
def Ag1 (n:Int):Ev:=⟨1,0,0,n,[],0,0⟩
def Acf (f n:Int):Ev:=⟨6,f,0,n,[],0,0⟩
def Acg (f n:Int):Ev:=⟨3,f,0,n,[],0,0⟩
def Zo (b:Int):Ev:=⟨4,0,0,0,[Bh b],0,0⟩
def A9 (d:Dcd) (c a:Int):Dcd:=⟨d.plan,9,d.stack,⟨0,0⟩,d.start,d.at_,d.field,d.wire,0,d.utf,A3 c a⟩
def Az (m:Mac) (c a:Int):Mac:=⟨A9 m.d c a,m.out++[A3 c a]⟩
def A0 (m:Mac):Option Mac:=
 if m.d.mode=6∧m.d.want<1 then
  (if 0<m.d.utf.want then some (Az m 5 m.d.at_) else some ⟨⟨m.d.plan,2,m.d.stack,m.d.scan,m.d.start,m.d.at_,m.d.field,m.d.wire,0,⟨0,0,0⟩,m.d.end_⟩,m.out++[Wp]⟩)
 else if (m.d.mode=7∨(m.d.mode=8∧m.d.scan.have_=0))∧m.d.want<1 then some ⟨⟨m.d.plan,2,m.d.stack,m.d.scan,m.d.start,m.d.at_,m.d.field,m.d.wire,0,m.d.utf,m.d.end_⟩,m.out⟩
 else if m.d.mode=2∧m.d.scan.have_=0∧0<m.d.stack.length∧D6 m.d=0 then
  some (if m.d.stack.length=1 then ⟨⟨m.d.plan,1,m.d.stack.take (m.d.stack.length-1),m.d.scan,m.d.start,m.d.at_,m.d.field,m.d.wire,m.d.want,m.d.utf,m.d.end_⟩,m.out++[Ln]⟩
   else ⟨⟨m.d.plan,m.d.mode,m.d.stack.take (m.d.stack.length-1),m.d.scan,m.d.start,m.d.at_,m.d.field,m.d.wire,m.d.want,m.d.utf,m.d.end_⟩,m.out++[Akr]⟩)
 else none
def wM (m:Mac):Nat:=m.d.stack.length+(if m.d.mode=6∨m.d.mode=7∨m.d.mode=8 then 2 else if m.d.mode=2 then 1 else 0)
theorem Cc {m q:Mac} (h:A0 m=some q):wM q<wM m∧q.out.length≤m.out.length+1:=by
 unfold A0 at h
 split at h
 ·rename_i h1
  split at h
  ·cases h;simp[wM,Az,A9,h1.1]
  ·cases h;simp[wM,h1.1]
 ·split at h
  ·rename_i h1
   cases h
   rcases h1.1 with h2|h2
   ·simp[wM,h2]
   ·simp[wM,h2.1]
  ·split at h
   ·rename_i h1
    cases h
    have:=h1.2.2.1
    split
    ·simp[wM,h1.1];omega
    ·simp[wM,h1.1];omega
   ·cases h
def Af (m:Mac):Mac:=match h:A0 m with
 |none=>m
 |some q=>Af q
termination_by wM m
decreasing_by exact(Cc h).1
theorem Cq {m q:Mac} (h:A0 m=some q):Af m=Af q:=by
 rw[Af]
 split
 ·rename_i h1;rw[h] at h1;cases h1
 ·rename_i x h1;rw[h] at h1;cases h1;rfl
theorem B6 {m:Mac} (h:A0 m=none):Af m=m:=by
 rw[Af]
 split
 ·rfl
 ·rename_i x h1;rw[h] at h1;cases h1
def C1 (m:Mac) (u:Int):Mac:=
 if m.d.plan.most<u then Az m 7 m.d.start
 else Af ⟨⟨m.d.plan,2,[⟨m.d.plan.root,u⟩],⟨0,0⟩,m.d.start,m.d.at_,m.d.field,m.d.wire,m.d.want,m.d.utf,m.d.end_⟩,m.out++[Ag1 u]⟩
def Hz (d:Dcd):Lev:=d.stack.getD (d.stack.length-1) Ao8
def Ew (m:Mac) (u:Int):Mac:=
 if Nh u=false∨m.d.stack.length=0 then Az m 2 m.d.start
 else if D1 (Aj u)=false then Az m 3 m.d.start
 else if (fieldAt m.d.plan.shapes (Hz m.d).msg (Bw u)).isSome=true∧Dk ((fieldAt m.d.plan.shapes (Hz m.d).msg (Bw u)).getD fld0) (Aj u)=false then Az m 4 m.d.start
 else if D6 m.d<max (A4 (Aj u)) 1 then Az ⟨⟨m.d.plan,m.d.mode,m.d.stack,⟨0,0⟩,m.d.start,m.d.at_,(fieldAt m.d.plan.shapes (Hz m.d).msg (Bw u)).getD fld0,Aj u,m.d.want,m.d.utf,m.d.end_⟩,m.out⟩ 9 m.d.at_
 else ⟨⟨m.d.plan,if Aj u=0 then 3 else if Aj u=2 then 4 else 5,m.d.stack,⟨0,0⟩,m.d.start,m.d.at_,(fieldAt m.d.plan.shapes (Hz m.d).msg (Bw u)).getD fld0,Aj u,m.d.want,m.d.utf,m.d.end_⟩,m.out⟩
def Ct (m:Mac) (u:Int):Mac:=
 if m.d.stack.length=0∨D6 m.d<u then Az m 8 m.d.start
 else if m.d.field=fld0 then Af ⟨⟨m.d.plan,7,m.d.stack,⟨0,0⟩,m.d.start,m.d.at_,m.d.field,m.d.wire,u,m.d.utf,m.d.end_⟩,m.out⟩
 else if m.d.field.kind=8 then
  (if m.d.plan.deep≤(m.d.stack.length:Int) then Az m 6 m.d.start
  else Af ⟨⟨m.d.plan,2,m.d.stack.set (m.d.stack.length-1) ⟨(Hz m.d).msg,D6 m.d-u⟩++[⟨m.d.field.msg,u⟩],⟨0,0⟩,m.d.start,m.d.at_,m.d.field,m.d.wire,0,m.d.utf,m.d.end_⟩,m.out++[Acf m.d.field.number u]⟩)
 else if Gt m.d.field.kind=true then Af ⟨⟨m.d.plan,6,m.d.stack,⟨0,0⟩,m.d.start,m.d.at_,m.d.field,m.d.wire,u,⟨0,0,0⟩,m.d.end_⟩,m.out++[Acg m.d.field.number u]⟩
 else if 0<u∧u<A4 (Cd m.d.field.kind) then Az m 9 m.d.at_
 else Af ⟨⟨m.d.plan,8,m.d.stack,⟨0,0⟩,m.d.start,m.d.at_,m.d.field,m.d.wire,u,m.d.utf,m.d.end_⟩,m.out⟩
def Br (m:Mac) (u:Int):Mac:=⟨⟨m.d.plan,if m.d.mode=8 then 8 else 2,m.d.stack,m.d.scan,m.d.start,m.d.at_,m.d.field,m.d.wire,m.d.want,m.d.utf,m.d.end_⟩,if m.d.field=fld0 then m.out else m.out++[Hs m.d.field u]⟩
def Ht (d:Dcd) (s:Scn):Dcd:=⟨d.plan,d.mode,d.stack,s,d.start,d.at_,d.field,d.wire,d.want,d.utf,d.end_⟩
def Ah (s:Scn) (b:Int):Scn×Int:=
 if Dr s=false∨Ak b 0 255=false∨(s.have_=9∧1<b) then (s,2)
 else (⟨s.bits+b % 128*2 ^ (7*s.have_.toNat),s.have_+1⟩,if b<128 then 1 else 0)
def Bz (s:Scn) (b:Int):Scn:=if Ak s.have_ 0 7=true∧Ak b 0 255=true then ⟨IntKind.u64.wrap (s.bits+IntKind.u64.wrap (b*2 ^ min (Int.toNat (8*s.have_)) 64)),s.have_+1⟩ else s
def Mp (d:Dcd) (a:Int):Dcd:=⟨d.plan,d.mode,d.stack,d.scan,if d.scan.have_=0∧(d.mode=1∨d.mode=2∨d.mode=4) then a else d.start,d.at_,d.field,d.wire,d.want,d.utf,d.end_⟩
def Wq (m q:Mac):Mac:=if (m.d.mode≠1∧D6 m.d=0)∨(m.d.mode=8∧m.d.want=0) then Az q 9 m.d.at_ else q
def Bx (m:Mac) (b a:Int):Mac:=
 if (Ah m.d.scan b).2=2 then Az ⟨Mp m.d a,m.out⟩ 1 a
 else if (Ah m.d.scan b).2=0 then Wq m ⟨Ht (Mp m.d a) (Ah m.d.scan b).1,m.out⟩
 else if m.d.mode=1 then C1 ⟨Ht (Mp m.d a) scn0,m.out⟩ (Ah m.d.scan b).1.bits
 else if m.d.mode=2 then Ew ⟨Ht (Mp m.d a) scn0,m.out⟩ (Ah m.d.scan b).1.bits
 else if m.d.mode=4 then Ct ⟨Ht (Mp m.d a) scn0,m.out⟩ (Ah m.d.scan b).1.bits
 else Af (Br ⟨Ht (Mp m.d a) scn0,m.out⟩ (Ah m.d.scan b).1.bits)
def D2 (m:Mac) (b:Int):Mac:=
 if (Bz m.d.scan b).have_<Bu m.d then ⟨Ht m.d (Bz m.d.scan b),m.out⟩
 else if m.d.mode=8∧0<m.d.want∧m.d.want<Bu m.d then Az (Br ⟨Ht m.d scn0,m.out⟩ (Bz m.d.scan b).bits) 9 m.d.at_
 else Af (Br ⟨Ht m.d scn0,m.out⟩ (Bz m.d.scan b).bits)
def Ano (d:Dcd) (u:Utf):Dcd:=⟨d.plan,d.mode,d.stack,d.scan,d.start,d.at_,d.field,d.wire,d.want,u,d.end_⟩
def Ez (m:Mac) (b:Int):Mac:=
 if m.d.field.kind=6 then (match By m.d.utf b with
  |none=>Az m 5 (m.d.at_-1)
  |some u=>Af ⟨Ano m.d u,m.out++[Zo b]⟩)
 else Af ⟨m.d,m.out++[Zo b]⟩
def Df (d:Dcd):Dcd:=⟨d.plan,d.mode,if d.stack.length=0 then d.stack else d.stack.set (d.stack.length-1) ⟨(Hz d).msg,D6 d-1⟩,d.scan,d.start,d.at_+1,d.field,d.wire,if d.mode=6∨d.mode=7∨d.mode=8 then d.want-1 else d.want,d.utf,d.end_⟩
def Ep (m:Mac) (b:Int):Mac:=
 if m.d.mode=6 then Ez ⟨Df m.d,m.out⟩ b
 else if m.d.mode=7 then Af ⟨Df m.d,m.out⟩
 else if 0<Bu m.d then D2 ⟨Df m.d,m.out⟩ b
 else Bx ⟨Df m.d,m.out⟩ b m.d.at_
theorem Kp {m q:Mac} (h:A0 m=some q):q.d.stack.length≤m.d.stack.length∧q.d.plan=m.d.plan:=by
 unfold A0 at h
 split at h
 ·split at h<;>(cases h;exact⟨Nat.le_refl _,rfl⟩)
 ·split at h
  ·cases h;exact⟨Nat.le_refl _,rfl⟩
  ·split at h
   ·cases h
    split<;>(refine⟨?_,rfl⟩;simp only[List.length_take];omega)
   ·cases h
theorem Wr (m:Mac):(Af m).out.length≤m.out.length+wM m:=by
 suffices ∀(k:Nat) (m:Mac),wM m≤k→(Af m).out.length≤m.out.length+wM m from this _ m (Nat.le_refl _)
 intro k
 induction k with
 |zero=>
  intro m hk
  cases h:A0 m with
  |none=>rw[B6 h];omega
  |some q=>have:=(Cc h).1;omega
 |succ k ih=>
  intro m hk
  cases h:A0 m with
  |none=>rw[B6 h];omega
  |some q=>
   have h1:=Cc h
   have:=ih q (by omega)
   rw[Cq h];omega
theorem Afw (m:Mac):wM m≤m.d.stack.length+2:=by unfold wM;split<;>(try split)<;>omega
theorem B7 {d:Dcd} (h:Bi d=true):Dh d.plan=true∧(d.stack.length:Int)≤d.plan.deep∧d.stack.length≤8∧(∀l∈d.stack,Fj (d.plan.shapes.length:Int) l=true):=by
 simp only[Bi,Bool.and_eq_true,decide_eq_true_eq,List.all_eq_true] at h
 have:=Cj h.1.1
 exact⟨h.1.1,h.1.2,by omega,h.2⟩
theorem K4 {d:Dcd} (h1:Dh d.plan=true) (h2:(d.stack.length:Int)≤d.plan.deep) (h3: ∀l∈d.stack,Fj (d.plan.shapes.length:Int) l=true):Bi d=true:=by
 simp only[Bi,Bool.and_eq_true,decide_eq_true_eq,List.all_eq_true];exact⟨⟨h1,h2⟩,h3⟩
theorem Rz {d e:Dcd} {u:Int} (h:Bi d=true) (hp:e.plan=d.plan) (hs:e.stack=[⟨d.plan.root,u⟩]) (h0:0≤u) (hu:u≤d.plan.most):Bi e=true:=by
 have hb:=B7 h
 have ht:=Cj hb.1
 refine K4 (by rw[hp];exact hb.1) (by rw[hs,hp];simp;omega) fun l hl=>?_
 rw[hs] at hl
 simp at hl
 subst hl
 rw[hp]
 simp[Fj,Ak];omega
theorem B9 {d e:Dcd} (h:Bi d=true) (hp:e.plan=d.plan) (hs:e.stack=d.stack):Bi e=true:=by
 have hb:=B7 h
 exact K4 (by rw[hp];exact hb.1) (by rw[hs,hp];exact hb.2.1) (by rw[hs,hp];exact hb.2.2.2)
theorem Yi {l:List Shp} {f:Fld} (hl:Dw l=true): ∀ {k:Nat},Gc l f k=true→Jh f (l.length:Int)=true
 |0,h=>by cases h
 |k+1,h=>by
  simp only[Gc,Bool.or_eq_true,decide_eq_true_eq] at h
  rcases h with h|h
  ·exact Yi hl h
  ·exact(Yd hl h).1
theorem S9 {d:Dcd} (h:d.stack.length≠0):Hz d∈d.stack:=by
 unfold Hz
 rw[List.getD_eq_getElem?_getD,List.getElem?_eq_getElem (by omega)]
 exact List.getElem_mem _
theorem Ta {d e:Dcd} {u:Int} (h:Bi d=true) (hk:Jz d.plan.shapes d.field=true) (h8:d.field.kind=8) (hn:d.stack.length≠0) (hd:(d.stack.length:Int)<d.plan.deep) (h0:0≤u) (hu:u≤D6 d) (hp:e.plan=d.plan)
  (hs:e.stack=d.stack.set (d.stack.length-1) ⟨(Hz d).msg,D6 d-u⟩++[⟨d.field.msg,u⟩]):Bi e=true:=by
 have hb:=B7 h
 have hf:=Acb (Yi (Cj hb.1).2.1 hk)
 have hm:=hf.2.2.2.2.1 h8
 have hl:=hb.2.2.2 _ (S9 hn)
 have ht:D6 d=(Hz d).left:=rfl
 simp only[Fj,Bool.and_eq_true] at hl
 have hl1:=As hl.1;have hl2:=As hl.2
 refine K4 (by rw[hp];exact hb.1) (by rw[hs,hp];simp;omega) fun l hl=>?_
 rw[hs] at hl
 rw[hp]
 rcases List.mem_append.1 hl with hl|hl
 ·rcases List.mem_or_eq_of_mem_set hl with hl|hl
  ·exact hb.2.2.2 l hl
  ·subst hl;simp[Fj,Ak];omega
 ·simp at hl;subst hl;simp[Fj,Ak];omega
theorem Hu {d:Dcd} (h:Bi d=true):0≤D6 d∧D6 d≤2000:=by
 by_cases hn:d.stack.length=0
 ·rw[Zn (List.eq_nil_of_length_eq_zero hn)];omega
 ·have hl:=(B7 h).2.2.2 _ (S9 hn)
  have ht:D6 d=(Hz d).left:=rfl
  simp only[Fj,Bool.and_eq_true] at hl
  have:=As hl.2;omega
theorem J7 {d:Dcd} {x:Lev} (h:d.stack[d.stack.length-1]? =some x):Hz d=x∧D6 d=x.left:=by
 have e:Hz d=x:=by unfold Hz;exact Wi h
 exact⟨e,by show (Hz d).left=_;rw[e]⟩
theorem Aks (u:Int):0≤Aj u∧Aj u≤7:=by unfold Aj;split<;>omega
theorem Vi {s:Scn} (h:Dr s=true) (h0:0≤s.bits):0≤s.have_∧s.have_≤9∧s.bits<2 ^ (7*s.have_.toNat):=by
 simp only[Dr,Bool.and_eq_true,decide_eq_true_eq] at h
 have hw:=As h.1
 refine⟨hw.1,hw.2,?_⟩
 have h2:=h.2
 rw[show min (Int.toNat (7*s.have_)) 64=7*s.have_.toNat by omega] at h2
 have hp:(0:Int)<2 ^ (7*s.have_.toNat):=Int.pow_pos (by decide)
 rw[Int.fdiv_eq_ediv_of_nonneg _ (Int.le_of_lt hp)] at h2
 apply Int.not_le.1
 intro hle
 have:=Int.le_ediv_of_mul_le hp (show 1*2 ^ (7*s.have_.toNat)≤s.bits by rw[Int.one_mul];exact hle)
 omega
theorem Adk {c:Int} {h:Int} (h0:0≤h) (h9:h≤9) (c0:0≤c) (c1:c≤127) (hc:h=9→c≤1):0≤c*2 ^ (7*h.toNat)∧c*2 ^ (7*h.toNat)+2 ^ (7*h.toNat)≤18446744073709551616:=by
 obtain ⟨k,rfl⟩:=Int.eq_ofNat_of_zero_le h0
 have hk:k≤9:=by omega
 rw[Int.toNat_natCast]
 rcases (show k=0∨k=1∨k=2∨k=3∨k=4∨k=5∨k=6∨k=7∨k=8∨k=9 by omega) with rfl|rfl|rfl|rfl|rfl|rfl|rfl|rfl|rfl|rfl<;>simp at * <;>omega
theorem Tb {c h:Int} (h0:0≤h) (h9:h≤9) (c0:0≤c) (c1:c≤127) (hc:h=9→c≤1):(.v (.c (.int .u64 (IntKind.u64.wrap (c*2 ^ min (Int.toNat (7*h)) 64)))):S)= .v (.c (.int .u64 (c*2 ^ (7*h.toNat)))):=by
 have:=Adk h0 h9 c0 c1 hc
 have hp:(0:Int)<2 ^ (7*h.toNat):=Int.pow_pos (by decide)
 rw[show min (Int.toNat (7*h)) 64=7*h.toNat by omega]
 exact B3 Q2 Q2
theorem Adm {u c h:Int} (h0:0≤h) (h9:h≤9) (c0:0≤c) (c1:c≤127) (hc:h=9→c≤1) (u0:0≤u) (u1:u<2 ^ (7*h.toNat)):(.v (.c (.int .u64 (IntKind.u64.wrap (((BitVec.ofInt 64 u|||BitVec.ofInt 64 (c*2 ^ (7*h.toNat))).toNat:Nat):Int)))):S)= .v (.c (.int .u64 (u+c*2 ^ (7*h.toNat)))):=by
 have:=Adk h0 h9 c0 c1 hc
 rw[An1 (k:=7*h.toNat) (c:=c) u0 u1 c0 rfl (by omega)]
 exact B3 Q2 Q2
theorem Aa3 {u c h:Int} (h0:0≤h) (h9:h≤9) (c0:0≤c) (c1:c≤127) (hc:h=9→c≤1) (u0:0≤u) (u1:u<2 ^ (7*h.toNat)):(.v (.c (.int .u64 (IntKind.u64.wrap (u+c*2 ^ (7*h.toNat))))):S)= .v (.c (.int .u64 (u+c*2 ^ (7*h.toNat)))):=by
 have:=Adk h0 h9 c0 c1 hc
 exact B3 Q2 Q2
theorem Qx {s:Scn} {b:Int} (h0:0≤s.bits) (h1:s.bits≤18446744073709551615):0≤(Ah s b).1.bits∧(Ah s b).1.bits≤18446744073709551615:=by
 unfold Ah
 split
 ·exact⟨h0,h1⟩
 ·rename_i h
  simp only[not_or] at h
  have hs:Dr s=true:=by simpa using h.1
  have hb:=As (show Ak b 0 255=true by simpa using h.2.1)
  have hk:=Vi hs h0
  have hc:=Adk (c:=b % 128) hk.1 hk.2.1 (by omega) (by omega) (fun h9=>by have:=h.2.2;omega)
  simp only;omega
structure MW (d:Dcd):Prop where
 lv:Bi d=true
 kn:d.field=fld0∨Jz d.plan.shapes d.field=true
 b0:0≤d.scan.bits∧d.scan.bits≤18446744073709551615
 at_:0≤d.at_∧d.at_≤1000000001
 want: -1≤d.want∧d.want≤2001
theorem Aa4 {s:Scn} {b:Int} (h0:0≤s.bits∧s.bits≤18446744073709551615):0≤(Bz s b).bits∧(Bz s b).bits≤18446744073709551615:=by
 unfold Bz
 split
 ·simp only
  rw[IntKind.wrap_u64]
  have:=Int.emod_nonneg (s.bits+IntKind.u64.wrap (b*2 ^ min (Int.toNat (8*s.have_)) 64)) (show (18446744073709551616:Int)≠0 by decide)
  have:=Int.emod_lt_of_pos (s.bits+IntKind.u64.wrap (b*2 ^ min (Int.toNat (8*s.have_)) 64)) (show (0:Int)<18446744073709551616 by decide)
  omega
 ·exact h0
theorem MW.step {d:Dcd} (h:MW d) (hs:d.stack.length=0∨1≤D6 d) (ha:d.at_≤1000000000) (hw:(d.mode=6∨d.mode=7∨d.mode=8)→0≤d.want):MW (Df d):=by
 have hb:=B7 h.lv
 refine⟨?_,h.kn,h.b0,?_,?_⟩
 ·refine K4 (d:=Df d) hb.1 ?_ ?_
  ·show (((Df d).stack.length:Nat):Int)≤d.plan.deep
   unfold Df;simp only;split
   ·exact hb.2.1
   ·rw[List.length_set];exact hb.2.1
  ·intro l hl
   show Fj (d.plan.shapes.length:Int) l=true
   unfold Df at hl
   simp only at hl
   split at hl
   ·exact hb.2.2.2 l hl
   ·rename_i hn
    rcases List.mem_or_eq_of_mem_set hl with hl|hl
    ·exact hb.2.2.2 l hl
    ·have hx:=hb.2.2.2 _ (S9 hn)
     have ht:D6 d=(Hz d).left:=rfl
     simp only[Fj,Bool.and_eq_true] at hx
     have h1:=As hx.1;have h2:=As hx.2
     subst hl;simp[Fj,Ak];omega
 ·have:=h.at_;show 0≤d.at_+1∧d.at_+1≤1000000001;omega
 ·have:=h.want
  show-1≤(if d.mode=6∨d.mode=7∨d.mode=8 then d.want-1 else d.want)∧(if d.mode=6∨d.mode=7∨d.mode=8 then d.want-1 else d.want)≤2001
  split
  ·rename_i hm;have:=hw hm;omega
  ·exact this
theorem Fg (m:Mac) (u:Int):(Br m u).out.length≤m.out.length+1:=by
 unfold Br
 simp only
 split<;>simp
theorem Tc (m:Mac) (u:Int):(Br m u).d.at_=m.d.at_:=rfl
theorem Nn (m:Mac) (u:Int):(Br m u).d.want=m.d.want:=rfl
def Ac (j0:Nat) (j5:Nat) (j27:Nat) (x:Mac):List C:=[.own j0,.int .i64 x.d.plan.root,.int .i64 x.d.plan.deep,.int .i64 x.d.plan.most,.int .i64 x.d.mode,.own j5,.int .u64 x.d.scan.bits,.int .i64 x.d.scan.have_,.int .i64 x.d.start,.int .i64 x.d.at_,.int .i64 x.d.field.number,.int .i64 x.d.field.kind,.bool x.d.field.rep,.bool x.d.field.packed,.int .i64 x.d.field.msg,.int .i64 x.d.wire,.int .i64 x.d.want,.int .i64 x.d.utf.want,.int .i64 x.d.utf.low,.int .i64 x.d.utf.high,.int .i64 x.d.end_.kind,.int .i64 x.d.end_.field,.int .u64 x.d.end_.bits,.int .i64 x.d.end_.len,.str x.d.end_.text,.int .i64 x.d.end_.code,.int .i64 x.d.end_.at_,.own j27]
def Fc (p:Pln):Dcd:=if Dh p=true then ⟨p,1,[],⟨0,0⟩,0,0,⟨0,0,false,false,0⟩,0,0,⟨0,0,0⟩,⟨0,0,0,0,[],0,0⟩⟩ else ⟨⟨[],0,0,0⟩,0,[],⟨0,0⟩,0,0,⟨0,0,false,false,0⟩,0,0,⟨0,0,0⟩,⟨0,0,0,0,[],0,0⟩⟩
theorem D4 {l:List Shp} (h:Dw l=true): ∀e∈l,e.fields.length≤1048576:=fun e he=>by have:=D7 h e he;omega
theorem Aa5 {m:Mac} (h1:m.d.mode=6) (h2:m.d.want<1) (h3:0<m.d.utf.want):Af m=Az m 5 m.d.at_:=by
 have hc:A0 m=some (Az m 5 m.d.at_):=by unfold A0;rw[if_pos ⟨h1,h2⟩,if_pos h3]
 rw[Cq hc,B6]
 unfold A0 Az A9
 simp
theorem Ws {d:Dcd} {o:List Ev} (h2:d.mode=2) (hs:d.scan.have_=0) (hl:0<d.stack.length) (ht:D6 d=0) (h1:d.stack.length=1):A0 ⟨d,o⟩=some ⟨⟨d.plan,1,d.stack.take (d.stack.length-1),d.scan,d.start,d.at_,d.field,d.wire,d.want,d.utf,d.end_⟩,o++[Ln]⟩:=by
 unfold A0
 simp only
 rw[if_neg (by omega),if_neg (by omega),if_pos ⟨h2,hs,hl,ht⟩,if_pos h1]
theorem Wt {d:Dcd} {o:List Ev} (h2:d.mode=2) (hs:d.scan.have_=0) (hl:0<d.stack.length) (ht:D6 d=0) (h1:d.stack.length≠1):A0 ⟨d,o⟩=some ⟨⟨d.plan,d.mode,d.stack.take (d.stack.length-1),d.scan,d.start,d.at_,d.field,d.wire,d.want,d.utf,d.end_⟩,o++[Akr]⟩:=by
 unfold A0
 simp only
 rw[if_neg (by omega),if_neg (by omega),if_pos ⟨h2,hs,hl,ht⟩,if_neg h1]
theorem Ag2 {d:Dcd} {o:List Ev} {u:Int} (h:d.mode=8) (hf:d.field≠fld0):Br ⟨d,o⟩ u=⟨d,o++[Hs d.field u]⟩:=by
 cases d
 unfold Br
 simp only at h hf ⊢
 rw[if_pos h,if_neg hf,h]
theorem Ag3 {d:Dcd} {o:List Ev} {u:Int} (h:d.mode=8) (hf:d.field=fld0):Br ⟨d,o⟩ u=⟨d,o⟩:=by
 cases d
 unfold Br
 simp only at h hf ⊢
 rw[if_pos h,if_pos hf,h]
theorem Mi {d:Dcd} (h:Bv d=true):Bi d=true∧(1≤d.mode∧d.mode≤9)∧(0≤d.at_∧d.at_≤1000000000)∧(0≤d.start∧d.start≤d.at_)∧E4 d.utf=true∧D1 d.wire=true∧(d.field=fld0∨Jz d.plan.shapes d.field=true)∧Zj d=true∧J2 d=true∧Ji d=true∧Jj d=true∧J6 d=true:=by
 simp only[Bv,Bool.and_eq_true,Bool.or_eq_true,decide_eq_true_eq] at h
 obtain ⟨⟨⟨⟨⟨⟨⟨⟨⟨⟨⟨h1,h2⟩,h3⟩,h4⟩,h5⟩,h6⟩,h7⟩,h8⟩,h9⟩,h10⟩,h11⟩,h12⟩:=h
 exact⟨h1,As h2,As h3,As h4,h5,h6,h7,h8,h9,h10,h11,h12⟩
theorem Zp {d:Dcd} (h:Ji d=true):((d.mode=6∨d.mode=7∨d.mode=8)→1≤d.want∧d.want≤D6 d)∧(¬(d.mode=6∨d.mode=7∨d.mode=8)→d.want=0):=by
 unfold Ji at h
 split at h
 ·rename_i hm;exact⟨fun _=>As h,fun h=>absurd hm h⟩
 ·rename_i hm;exact⟨fun h=>absurd h hm,fun _=>of_decide_eq_true h⟩
theorem Zq {d:Dcd} (h:Bv d=true) (hb:0≤d.scan.bits∧d.scan.bits≤18446744073709551615):MW d:=by
 obtain ⟨h1,h2,h3,h4,h5,h6,h7,h8,h9,h10,h11,h12⟩:=Mi h
 have ht:=Hu h1
 have hw:=Zp h10
 refine⟨h1,h7,hb,by omega,?_⟩
 by_cases hm:d.mode=6∨d.mode=7∨d.mode=8
 ·have:=hw.1 hm;omega
 ·have:=hw.2 hm;omega
theorem Zr {d:Dcd} (h:Bv d=true) (h9:d.mode≠9):(d.stack.length=0∨1≤D6 d)∧d.at_≤1000000000∧((d.mode=6∨d.mode=7∨d.mode=8)→0≤d.want)∧(d.mode=8→Uu d.field=true)∧d.end_=ev0:=by
 obtain ⟨h1,h2,h3,h4,h5,h6,h7,h8,hs,h10,h11,h12⟩:=Mi h
 have hw:=Zp h10
 refine⟨?_,by omega,fun hm=>by have:=hw.1 hm;omega,fun hm=>?_,?_⟩
 ·unfold J2 at hs
  by_cases hm1:d.mode=1
  ·rw[if_pos hm1] at hs;left;rw[of_decide_eq_true hs];rfl
  ·rw[if_neg hm1,if_neg h9] at hs;exact .inr (of_decide_eq_true hs)
 ·unfold Jj at h11
  rw[if_neg (by omega),if_pos hm] at h11
  exact h11
 ·unfold Zj at h8
  rw[if_neg h9] at h8
  exact of_decide_eq_true h8
def Fi (d:Dcd):Bool:= !decide (d.mode=9)&&decide (d.at_<1000000000)
def Cp (d:Dcd) (b:Int):Mac:=if Bv d=true∧Fi d=true∧Ak b 0 255=true then Ep ⟨d,[]⟩ b else ⟨d,[]⟩
theorem Amh {f:Fld} (h:Uu f=true):f≠fld0:=fun e=>by subst e;simp[Uu,fld0] at h
theorem Aa6 (m:Mac):(Af m).d.plan=m.d.plan∧(Af m).d.stack.length≤m.d.stack.length:=by
 suffices ∀(k:Nat) (m:Mac),wM m≤k→(Af m).d.plan=m.d.plan∧(Af m).d.stack.length≤m.d.stack.length from this _ m (Nat.le_refl _)
 intro k
 induction k with
 |zero=>
  intro m hk
  cases h:A0 m with
  |none=>rw[B6 h];exact⟨rfl,Nat.le_refl _⟩
  |some q=>have:=(Cc h).1;omega
 |succ k ih=>
  intro m hk
  cases h:A0 m with
  |none=>rw[B6 h];exact⟨rfl,Nat.le_refl _⟩
  |some q=>
   have h1:=Cc h
   have h2:=Kp h
   have h3:=ih q (by omega)
   rw[Cq h]
   exact⟨h3.1.trans h2.2,Nat.le_trans h3.2 h2.1⟩
structure Gr (m q:Mac):Prop where
 plan:q.d.plan=m.d.plan
 stack:q.d.stack.length≤m.d.stack.length+1
 out:q.out.length≤m.out.length+m.d.stack.length+6
theorem Gr.fail (m:Mac) (c a:Int):Gr m (Az m c a):=⟨rfl,Nat.le_succ _,by simp only[Az,List.length_append,List.length_cons,List.length_nil];omega⟩
theorem Gr.settle {m x:Mac} (hp:x.d.plan=m.d.plan) (hs:x.d.stack.length≤m.d.stack.length+1) (ho:x.out.length≤m.out.length+2):Gr m (Af x):=by
 have h1:=Aa6 x
 have h2:=Wr x
 have h3:=Afw x
 exact⟨h1.1.trans hp,by omega,by omega⟩
theorem Gr.of {m x q:Mac} (h:Gr x q) (hp:x.d.plan=m.d.plan) (hs:x.d.stack.length=m.d.stack.length) (ho:x.out.length=m.out.length):Gr m q:=⟨h.plan.trans hp,by have:=h.stack;omega,by have:=h.out;omega⟩
theorem Ag4 (m:Mac) (u:Int):Gr m (C1 m u):=by
 unfold C1
 split
 ·exact Gr.fail _ _ _
 ·exact Gr.settle rfl (by simp) (by simp)
theorem Ami (m:Mac) (u:Int):Gr m (Ew m u):=by
 unfold Ew
 split
 ·exact Gr.fail _ _ _
 ·split
  ·exact Gr.fail _ _ _
  ·split
   ·exact Gr.fail _ _ _
   ·split
    ·exact(Gr.fail _ _ _).of rfl rfl rfl
    ·exact⟨rfl,Nat.le_succ _,by simp only;omega⟩
theorem Aja (m:Mac) (u:Int):Gr m (Ct m u):=by
 unfold Ct
 split
 ·exact Gr.fail _ _ _
 ·split
  ·exact Gr.settle rfl (Nat.le_succ _) (by simp)
  ·split
   ·split
    ·exact Gr.fail _ _ _
    ·exact Gr.settle rfl (by simp) (by simp)
   ·split
    ·exact Gr.settle rfl (Nat.le_succ _) (by simp)
    ·split
     ·exact Gr.fail _ _ _
     ·exact Gr.settle rfl (Nat.le_succ _) (by simp)
theorem Amj (m:Mac) (b a:Int):Gr m (Bx m b a):=by
 unfold Bx
 split
 ·exact(Gr.fail _ _ _).of rfl rfl rfl
 ·split
  ·unfold Wq
   split
   ·exact(Gr.fail _ _ _).of rfl rfl rfl
   ·exact⟨rfl,Nat.le_succ _,by simp only;omega⟩
  ·split
   ·exact(Ag4 _ _).of rfl rfl rfl
   ·split
    ·exact(Ami _ _).of rfl rfl rfl
    ·split
     ·exact(Aja _ _).of rfl rfl rfl
     ·exact Gr.settle rfl (Nat.le_succ _) (Nat.le_trans (Fg _ _) (Nat.le_succ _))
theorem Amk (m:Mac) (b:Int):Gr m (D2 m b):=by
 unfold D2
 split
 ·exact⟨rfl,Nat.le_succ _,by simp only;omega⟩
 ·split
  ·have:=Fg ⟨Ht m.d scn0,m.out⟩ (Bz m.d.scan b).bits
   exact⟨rfl,Nat.le_succ _,by simp only[Az,List.length_append,List.length_cons,List.length_nil] at this ⊢;omega⟩
  ·exact Gr.settle rfl (Nat.le_succ _) (Nat.le_trans (Fg _ _) (Nat.le_succ _))
theorem Ajb (m:Mac) (b:Int):Gr m (Ez m b):=by
 unfold Ez
 split
 ·split
  ·exact Gr.fail _ _ _
  ·exact Gr.settle rfl (Nat.le_succ _) (by simp)
 ·exact Gr.settle rfl (Nat.le_succ _) (by simp)
theorem Hb (d:Dcd):(Df d).stack.length=d.stack.length:=by unfold Df;simp only;split<;>simp
theorem Ajc (m:Mac) (b:Int):Gr m (Ep m b):=by
 unfold Ep
 split
 ·exact(Ajb _ _).of rfl (Hb _) rfl
 ·split
  ·exact Gr.settle rfl (by show (Df m.d).stack.length≤_;rw[Hb];omega) (by simp)
  ·split
   ·exact(Amk _ _).of rfl (Hb _) rfl
   ·exact(Amj _ _ _).of rfl (Hb _) rfl
theorem Zs (d:Dcd) (b:Int):Gr ⟨d,[]⟩ (Cp d b):=by
 unfold Cp
 split
 ·exact Ajc _ _
 ·exact⟨rfl,Nat.le_succ _,by simp⟩
theorem Aer {d:Dcd} {b:Int} :(Cp d b).d.plan=d.plan∧(Cp d b).d.stack.length≤d.stack.length+1:=⟨(Zs d b).plan,(Zs d b).stack⟩
theorem Ag5 {d:Dcd} {b:Int} :(Cp d b).out.length≤d.stack.length+6:=by have:=(Zs d b).out;simp only[List.length_nil] at this;omega
structure Rdr where
 data:List UInt8
 at_:Int
 script:List Rd
 next:Int
 code:Int
structure Strm where
 reader:Rdr
 dec:Dcd
 queue:List Ev
 reads:Int
def Bo (r:Rdr):Bool:=decide ((r.data.length:Int)≤4000)&&Ak r.at_ 0 (r.data.length:Int)&&decide ((r.script.length:Int)≤200)&&Ak r.next 0 (r.script.length:Int)&&(decide (r.code=0)||decide (r.code=1)||decide (20≤r.code))
theorem Eg {a:Rdr} (h:Bo a=true):(a.data.length:Int)≤4000∧0≤a.at_∧a.at_≤(a.data.length:Int)∧(a.script.length:Int)≤200∧0≤a.next∧a.next≤(a.script.length:Int)∧(a.code=0∨a.code=1∨20≤a.code):=by
 simp only[Bo,Ak,Bool.and_eq_true,Bool.or_eq_true,decide_eq_true_eq] at h
 omega
def Dv (n room left:Int):Int:=max (min (min n room) left) 0
theorem Td (n room left:Int):0≤Dv n room left∧(0≤left→Dv n room left≤left)∧(1≤n→1≤room→1≤left→1≤Dv n room left):=by unfold Dv;omega
def Dm (r:Rdr) (room:Int):Rd:=if r.next<(r.script.length:Int) then r.script.getD r.next.toNat ⟨0,0⟩ else ⟨room,1⟩
def K5 (r:Rdr):Int:=if r.next<(r.script.length:Int) then r.next+1 else r.next
def rsN (r:Rdr) (room:Int):Int:=Dv (Dm r room).n room ((r.data.length:Int)-r.at_)
def Mq (r:Rdr) (room:Int):Int:=if 20≤(Dm r room).code then (Dm r room).code else if (Dm r room).code=1∧r.at_+rsN r room=(r.data.length:Int) then 1 else r.code
def Va (r:Rdr) (room:Int):Bool:= !Bo r||decide (room<1)|| !decide (r.code=0)
def A7 (r:Rdr) (room:Int):Rdr:=if Va r room then r else ⟨r.data,r.at_+rsN r room,r.script,K5 r,Mq r room⟩
def A2 (r:Rdr) (room:Int):List UInt8:=if Va r room then [] else List.drop r.at_.toNat (List.take (r.at_+rsN r room).toNat r.data)
def B0 (r:Rdr) (room:Int):Int:=if !Bo r||decide (room<1) then 1 else if !decide (r.code=0) then r.code else Mq r room
def An5:Rdr:=⟨[],0,[],0,0⟩
def Lo (data:List UInt8) (script:List Rd):Rdr:=if Bo ⟨data,0,script,0,0⟩=true then ⟨data,0,script,0,0⟩ else ⟨[],0,[],0,0⟩
def No (data:List UInt8) (script:List Rd):Bool:=Bo ⟨data,0,script,0,0⟩
def Ao3:Dcd:=⟨⟨[],0,0,0⟩,0,[],⟨0,0⟩,0,0,⟨0,0,false,false,0⟩,0,0,⟨0,0,0⟩,⟨0,0,0,0,[],0,0⟩⟩
def K6 (p:Pln) (data:List UInt8) (script:List Rd):Bool:=No data script&&Dh p
def Fo (p:Pln) (data:List UInt8) (script:List Rd):Strm:=if K6 p data script=true then ⟨Lo data script,Fc p,[],0⟩ else ⟨An5,Ao3,[],0⟩
def Zt (x:Rdr):List C:=[.str x.data,.int .i64 x.at_,.seq .rd x.script,.int .i64 x.next,.int .i64 x.code]
def Sf (x:Strm):List C:=[.str x.reader.data,.int .i64 x.reader.at_,.seq .rd x.reader.script,.int .i64 x.reader.next,.int .i64 x.reader.code,.seq .shp x.dec.plan.shapes,.int .i64 x.dec.plan.root,.int .i64 x.dec.plan.deep,.int .i64 x.dec.plan.most,.int .i64 x.dec.mode,.seq .lev x.dec.stack,.int .u64 x.dec.scan.bits,.int .i64 x.dec.scan.have_,.int .i64 x.dec.start,.int .i64 x.dec.at_,.int .i64 x.dec.field.number,.int .i64 x.dec.field.kind,.bool x.dec.field.rep,.bool x.dec.field.packed,.int .i64 x.dec.field.msg,.int .i64 x.dec.wire,.int .i64 x.dec.want,.int .i64 x.dec.utf.want,.int .i64 x.dec.utf.low,.int .i64 x.dec.utf.high,.int .i64 x.dec.end_.kind,.int .i64 x.dec.end_.field,.int .u64 x.dec.end_.bits,.int .i64 x.dec.end_.len,.str x.dec.end_.text,.int .i64 x.dec.end_.code,.int .i64 x.dec.end_.at_,.seq .ev x.queue,.int .i64 x.reads]
def Fd (j2:Nat) (x:Rdr):List C:=[.str x.data,.int .i64 x.at_,.own j2,.int .i64 x.next,.int .i64 x.code]
def C2 (j2:Nat) (j5:Nat) (j10:Nat) (x:Strm):List C:=[.str x.reader.data,.int .i64 x.reader.at_,.own j2,.int .i64 x.reader.next,.int .i64 x.reader.code,.own j5,.int .i64 x.dec.plan.root,.int .i64 x.dec.plan.deep,.int .i64 x.dec.plan.most,.int .i64 x.dec.mode,.own j10,.int .u64 x.dec.scan.bits,.int .i64 x.dec.scan.have_,.int .i64 x.dec.start,.int .i64 x.dec.at_,.int .i64 x.dec.field.number,.int .i64 x.dec.field.kind,.bool x.dec.field.rep,.bool x.dec.field.packed,.int .i64 x.dec.field.msg,.int .i64 x.dec.wire,.int .i64 x.dec.want,.int .i64 x.dec.utf.want,.int .i64 x.dec.utf.low,.int .i64 x.dec.utf.high,.int .i64 x.dec.end_.kind,.int .i64 x.dec.end_.field,.int .u64 x.dec.end_.bits,.int .i64 x.dec.end_.len,.str x.dec.end_.text,.int .i64 x.dec.end_.code,.int .i64 x.dec.end_.at_,.seq .ev x.queue,.int .i64 x.reads]
def Ar (j2:Nat) (j5:Nat) (j10:Nat) (j32:Nat) (x:Strm):List C:=[.str x.reader.data,.int .i64 x.reader.at_,.own j2,.int .i64 x.reader.next,.int .i64 x.reader.code,.own j5,.int .i64 x.dec.plan.root,.int .i64 x.dec.plan.deep,.int .i64 x.dec.plan.most,.int .i64 x.dec.mode,.own j10,.int .u64 x.dec.scan.bits,.int .i64 x.dec.scan.have_,.int .i64 x.dec.start,.int .i64 x.dec.at_,.int .i64 x.dec.field.number,.int .i64 x.dec.field.kind,.bool x.dec.field.rep,.bool x.dec.field.packed,.int .i64 x.dec.field.msg,.int .i64 x.dec.wire,.int .i64 x.dec.want,.int .i64 x.dec.utf.want,.int .i64 x.dec.utf.low,.int .i64 x.dec.utf.high,.int .i64 x.dec.end_.kind,.int .i64 x.dec.end_.field,.int .u64 x.dec.end_.bits,.int .i64 x.dec.end_.len,.str x.dec.end_.text,.int .i64 x.dec.end_.code,.int .i64 x.dec.end_.at_,.own j32,.int .i64 x.reads]
theorem Cf (n:Int) (lo:Int) (hi:Int):Fun Tryz.prog 97 [vI n,vI lo,vI hi] [] (.v (vB (Ak n lo hi))) []:=by
 have hN:A8=274877906944:=rfl
 refine Aq Tryz.func97 Q4 Q4 (w:=(.br (.leaf () []) (.leaf () []),Bc (decide (lo≤n)) (Lf (.v (vB (decide (n≤hi)))) (.v (vB (Ak n lo hi))) [] []) (Lf (.v (vB false)) (.v (vB (Ak n lo hi))) [] []))) Q4 ?_
 refine dsp (fun h1 p1=>?_) fun h1 p1=>?_
 exact⟨(congrArg S.v (congrArg V.c (congrArg C.bool (by simp[Ak, *])))),rfl⟩
 exact⟨(congrArg S.v (congrArg V.c (congrArg C.bool (by simp[Ak, *])))),rfl⟩
theorem Bf (n:Int) (lo:Int) (hi:Int):Fun Tryz.prog 44 [vI n,vI lo,vI hi] [] (.v (vB (Ak n lo hi))) []:=by
 have hN:A8=274877906944:=rfl
 refine Aq Tryz.func44 Q4 Q4 (w:=(.br (.leaf () []) (.leaf () []),Bc (decide (lo≤n)) (Lf (.v (vB (decide (n≤hi)))) (.v (vB (Ak n lo hi))) [] []) (Lf (.v (vB false)) (.v (vB (Ak n lo hi))) [] []))) Q4 ?_
 refine dsp (fun h1 p1=>?_) fun h1 p1=>?_
 exact⟨(congrArg S.v (congrArg V.c (congrArg C.bool (by simp[Ak, *])))),rfl⟩
 exact⟨(congrArg S.v (congrArg V.c (congrArg C.bool (by simp[Ak, *])))),rfl⟩
theorem Ajd (a:Int) (b:Int):Fun Tryz.prog 83 [vI a,vI b] [] (.v (vI (min a b))) []:=by
 have hN:A8=274877906944:=rfl
 refine Aq Tryz.func83 Q4 Q4 (w:=(.br (.leaf () []) (.leaf () []),Bc (decide (a<b)) (Lf (.v (vI a)) (.v (vI (min a b))) [] []) (Lf (.v (vI b)) (.v (vI (min a b))) [] []))) Q4 ?_
 refine dsp (fun h1 p1=>?_) fun h1 p1=>?_
 exact⟨(congrArg S.v (congrArg V.c (congrArg (C.int .i64) Q2))),rfl⟩
 exact⟨(congrArg S.v (congrArg V.c (congrArg (C.int .i64) Q2))),rfl⟩
theorem G4 (a:Int) (b:Int):Fun Tryz.prog 84 [vI a,vI b] [] (.v (vI (max a b))) []:=by
 have hN:A8=274877906944:=rfl
 refine Aq Tryz.func84 Q4 Q4 (w:=(.br (.leaf () []) (.leaf () []),Bc (decide (b<a)) (Lf (.v (vI a)) (.v (vI (max a b))) [] []) (Lf (.v (vI b)) (.v (vI (max a b))) [] []))) Q4 ?_
 refine dsp (fun h1 p1=>?_) fun h1 p1=>?_
 exact⟨(congrArg S.v (congrArg V.c (congrArg (C.int .i64) Q2))),rfl⟩
 exact⟨(congrArg S.v (congrArg V.c (congrArg (C.int .i64) Q2))),rfl⟩
theorem Aes (n:Int):Fun Tryz.prog 207 [vI n] [] (.v (vB (Dq n))) []:=by
 have hN:A8=274877906944:=rfl
 refine Aq Tryz.func207 Q4 Q4 (w:=let z1:=Ak n 1 536870911;let z2:=Ak n 19000 19999;(.seg [.call [] (.v (vB z1)) []] (.br (.seg [.call [] (.v (vB z2)) []] (.leaf () [])) (.leaf () [])),(Fp 97 [vI n,vI 1,vI 536870911] [] (.v (vB z1)) [])∧Bc z1 ((Fp 97 [vI n,vI 19000,vI 19999] [] (.v (vB z2)) [])∧Lf (.v (vB (!z2))) (.v (vB (Dq n))) [] []) (Lf (.v (vB false)) (.v (vB (Dq n))) [] []))) Q4 ?_
 refine⟨(Cf _ _ _),fun h1=>have p1:=As h1;?_,fun h1=>have p1:=Ay h1;?_⟩
 exact⟨(Cf _ _ _),(congrArg S.v (congrArg V.c (congrArg C.bool (by simp[Dq, *])))),rfl⟩
 exact⟨(congrArg S.v (congrArg V.c (congrArg C.bool (by simp[Dq, *])))),rfl⟩
theorem Yj (n:Int):Fun Tryz.prog 156 [vI n] [] (.v (vB (Dq n))) []:=by
 have hN:A8=274877906944:=rfl
 refine Aq Tryz.func156 Q4 Q4 (w:=let z1:=Ak n 1 536870911;let z2:=Ak n 19000 19999;(.seg [.call [] (.v (vB z1)) []] (.br (.seg [.call [] (.v (vB z2)) []] (.leaf () [])) (.leaf () [])),(Fp 44 [vI n,vI 1,vI 536870911] [] (.v (vB z1)) [])∧Bc z1 ((Fp 44 [vI n,vI 19000,vI 19999] [] (.v (vB z2)) [])∧Lf (.v (vB (!z2))) (.v (vB (Dq n))) [] []) (Lf (.v (vB false)) (.v (vB (Dq n))) [] []))) Q4 ?_
 refine⟨(Bf _ _ _),fun h1=>have p1:=As h1;?_,fun h1=>have p1:=Ay h1;?_⟩
 exact⟨(Bf _ _ _),(congrArg S.v (congrArg V.c (congrArg C.bool (by simp[Dq, *])))),rfl⟩
 exact⟨(congrArg S.v (congrArg V.c (congrArg C.bool (by simp[Dq, *])))),rfl⟩
theorem Adn (w:Int):Fun Tryz.prog 104 [vI w] [] (.v (vB (D1 w))) []:=by
 have hN:A8=274877906944:=rfl
 refine Aq Tryz.func104 Q4 Q4 (w:=let z1:=Lf (.v (vB true)) (.v (vB (D1 w))) [] [];(.br (.leaf () []) (.br (.leaf () []) (.br (.leaf () []) (.leaf () []))),Bc (decide (w=0)) z1 (Bc (decide (w=1)) z1 (Bc (decide (w=2)) z1 (Lf (.v (vB (decide (w=5)))) (.v (vB (D1 w))) [] []))))) Q4 ?_
 refine dsp (fun h1 p1=>?_) fun h1 p1=>?_
 exact⟨(congrArg S.v (congrArg V.c (congrArg C.bool Q84))),rfl⟩
 refine dsp (fun h2 p2=>?_) fun h2 p2=>?_
 exact⟨(congrArg S.v (congrArg V.c (congrArg C.bool Q84))),rfl⟩
 refine dsp (fun h3 p3=>?_) fun h3 p3=>?_
 exact⟨(congrArg S.v (congrArg V.c (congrArg C.bool Q84))),rfl⟩
 exact⟨(congrArg S.v (congrArg V.c (congrArg C.bool Q84))),rfl⟩
theorem Ado (w:Int):Fun Tryz.prog 122 [vI w] [] (.v (vB (D1 w))) []:=by
 have hN:A8=274877906944:=rfl
 refine Aq Tryz.func122 Q4 Q4 (w:=let z1:=Lf (.v (vB true)) (.v (vB (D1 w))) [] [];(.br (.leaf () []) (.br (.leaf () []) (.br (.leaf () []) (.leaf () []))),Bc (decide (w=0)) z1 (Bc (decide (w=1)) z1 (Bc (decide (w=2)) z1 (Lf (.v (vB (decide (w=5)))) (.v (vB (D1 w))) [] []))))) Q4 ?_
 refine dsp (fun h1 p1=>?_) fun h1 p1=>?_
 exact⟨(congrArg S.v (congrArg V.c (congrArg C.bool Q84))),rfl⟩
 refine dsp (fun h2 p2=>?_) fun h2 p2=>?_
 exact⟨(congrArg S.v (congrArg V.c (congrArg C.bool Q84))),rfl⟩
 refine dsp (fun h3 p3=>?_) fun h3 p3=>?_
 exact⟨(congrArg S.v (congrArg V.c (congrArg C.bool Q84))),rfl⟩
 exact⟨(congrArg S.v (congrArg V.c (congrArg C.bool Q84))),rfl⟩
theorem Adp (k:Int):Fun Tryz.prog 208 [vI k] [] (.v (vB (Ey k))) []:=by
 have hN:A8=274877906944:=rfl
 refine Aq Tryz.func208 Q4 Q4 (w:=let z1:S:= .v (vB (Ak k 1 8));(.seg [.call [] z1 []] (.leaf () []),(Fp 97 [vI k,vI 1,vI 8] [] z1 [])∧Lf z1 (.v (vB (Ey k))) [] [])) Q4 ?_
 exact⟨(Cf _ _ _),(congrArg S.v (congrArg V.c (congrArg C.bool (by rfl)))),rfl⟩
theorem Vj (k:Int):Fun Tryz.prog 157 [vI k] [] (.v (vB (Ey k))) []:=by
 have hN:A8=274877906944:=rfl
 refine Aq Tryz.func157 Q4 Q4 (w:=let z1:S:= .v (vB (Ak k 1 8));(.seg [.call [] z1 []] (.leaf () []),(Fp 44 [vI k,vI 1,vI 8] [] z1 [])∧Lf z1 (.v (vB (Ey k))) [] [])) Q4 ?_
 exact⟨(Bf _ _ _),(congrArg S.v (congrArg V.c (congrArg C.bool (by rfl)))),rfl⟩
theorem Aa7 (k:Int):Fun Tryz.prog 209 [vI k] [] (.v (vB (Db k))) []:=by
 have hN:A8=274877906944:=rfl
 refine Aq Tryz.func209 Q4 Q4 (w:=let z1:S:= .v (vB (Ak k 1 5));(.seg [.call [] z1 []] (.leaf () []),(Fp 97 [vI k,vI 1,vI 5] [] z1 [])∧Lf z1 (.v (vB (Db k))) [] [])) Q4 ?_
 exact⟨(Cf _ _ _),(congrArg S.v (congrArg V.c (congrArg C.bool (by rfl)))),rfl⟩
theorem Mr (k:Int):Fun Tryz.prog 158 [vI k] [] (.v (vB (Db k))) []:=by
 have hN:A8=274877906944:=rfl
 refine Aq Tryz.func158 Q4 Q4 (w:=let z1:S:= .v (vB (Ak k 1 5));(.seg [.call [] z1 []] (.leaf () []),(Fp 44 [vI k,vI 1,vI 5] [] z1 [])∧Lf z1 (.v (vB (Db k))) [] [])) Q4 ?_
 exact⟨(Bf _ _ _),(congrArg S.v (congrArg V.c (congrArg C.bool (by rfl)))),rfl⟩
theorem Zu (k:Int):Fun Tryz.prog 181 [vI k] [] (.v (vI (Cd k))) []:=by
 have hN:A8=274877906944:=rfl
 refine Aq Tryz.func181 Q4 Q4 (w:=let zi:Int→C:= .int .i64;let z1:=List.getD [0,0,0,5,1,2,2,2] (Int.toNat (k-1)) 0;(.seg [.call [] (.v (vB (Ey k))) []] (.br (.leaf () []) (.seg [.as 8 (.v (vI (k-1))),.ce (zi z1)] (.leaf () []))),(Fp 208 [vI k] [] (.v (vB (Ey k))) [])∧Bc (!(Ey k)) (Lf (.v (vI (-1))) (.v (vI (Cd k))) [] []) ((wI (k-1))∧((([zi 0,zi 0,zi 0,zi 5,zi 1,zi 2,zi 2,zi 2]:List C)[Int.toNat (k-1)]?)=some (zi z1))∧(k-1<((8:Nat):Int))∧((0:Int)≤k-1)∧Lf (.v (vI z1)) (.v (vI (Cd k))) [] []))) Q4 ?_
 refine⟨(Adp _),fun h1=>have q1:=An h1;have p1:=Ay q1;?_,fun h1=>have q1:=Am h1;have p1:=As q1;?_⟩
 refine⟨(sI ?_),rfl⟩
 rotate_left
 refine⟨(Ad Q2 Q2),(Anx (l:=[0,0,0,5,1,2,2,2]) (by simp;omega)),Q2,Q2,(sI ?_),rfl⟩
 rotate_left
 all_goals first|(simp[Cd, *];done)|(rcases (show k=1∨k=2∨k=3∨k=4∨k=5∨k=6∨k=7∨k=8 by omega) with rfl|rfl|rfl|rfl|rfl|rfl|rfl|rfl<;>rfl)
theorem Qy (k:Int):Fun Tryz.prog 131 [vI k] [] (.v (vI (Cd k))) []:=by
 have hN:A8=274877906944:=rfl
 refine Aq Tryz.func131 Q4 Q4 (w:=let z1:S:= .v (vI (Cd k));(.seg [.call [] (.v (vB (Ey k))) []] (.br (.leaf () []) (.br (.leaf () []) (.br (.leaf () []) (.seg [.call [] (.v (vB (Db k))) []] (.br (.leaf () []) (.leaf () [])))))),(Fp 157 [vI k] [] (.v (vB (Ey k))) [])∧Bc (!(Ey k)) (Lf (.v (vI (-1))) z1 [] []) (Bc (decide (k=4)) (Lf (.v (vI 5)) z1 [] []) (Bc (decide (k=5)) (Lf (.v (vI 1)) z1 [] []) ((Fp 158 [vI k] [] (.v (vB (Db k))) [])∧Bc (Db k) (Lf (.v (vI 0)) z1 [] []) (Lf (.v (vI 2)) z1 [] [])))))) Q4 ?_
 refine⟨(Vj _),fun h1=>have q1:=An h1;have p1:=Ay q1;?_,fun h1=>have q1:=Am h1;have p1:=As q1;?_⟩
 refine⟨(sI ?_),rfl⟩
 rotate_left
 refine dsp (fun h2 p2=>?_) fun h2 p2=>?_
 refine⟨(sI ?_),rfl⟩
 rotate_left
 refine dsp (fun h3 p3=>?_) fun h3 p3=>?_
 refine⟨(sI ?_),rfl⟩
 rotate_left
 refine⟨(Mr _),fun h4=>have p4:=As h4;?_,fun h4=>have p4:=Ay h4;?_⟩
 refine⟨(sI ?_),rfl⟩
 rotate_left
 refine⟨(sI ?_),rfl⟩
 rotate_left
 all_goals first|(simp[Cd, *]<;>(repeat' split)<;>omega)|(subst_vars;rfl)
theorem Fq (w:Int):Fun Tryz.prog 171 [vI w] [] (.v (vI (A4 w))) []:=by
 have hN:A8=274877906944:=rfl
 refine Aq Tryz.func171 Q4 Q4 (w:=let z1:S:= .v (vI (A4 w));(.br (.leaf () []) (.br (.leaf () []) (.leaf () [])),Bc (decide (w=1)) (Lf (.v (vI 8)) z1 [] []) (Bc (decide (w=5)) (Lf (.v (vI 4)) z1 [] []) (Lf (.v (vI 0)) z1 [] [])))) Q4 ?_
 refine dsp (fun h1 p1=>?_) fun h1 p1=>?_
 exact⟨(congrArg S.v (congrArg V.c (congrArg (C.int .i64) (by simp[A4, *])))),rfl⟩
 refine dsp (fun h2 p2=>?_) fun h2 p2=>?_
 exact⟨(congrArg S.v (congrArg V.c (congrArg (C.int .i64) (by simp[A4, *])))),rfl⟩
 exact⟨(congrArg S.v (congrArg V.c (congrArg (C.int .i64) (by simp[A4, *])))),rfl⟩
theorem D8 (w:Int):Fun Tryz.prog 127 [vI w] [] (.v (vI (A4 w))) []:=by
 have hN:A8=274877906944:=rfl
 refine Aq Tryz.func127 Q4 Q4 (w:=let z1:S:= .v (vI (A4 w));(.br (.leaf () []) (.br (.leaf () []) (.leaf () [])),Bc (decide (w=1)) (Lf (.v (vI 8)) z1 [] []) (Bc (decide (w=5)) (Lf (.v (vI 4)) z1 [] []) (Lf (.v (vI 0)) z1 [] [])))) Q4 ?_
 refine dsp (fun h1 p1=>?_) fun h1 p1=>?_
 exact⟨(congrArg S.v (congrArg V.c (congrArg (C.int .i64) (by simp[A4, *])))),rfl⟩
 refine dsp (fun h2 p2=>?_) fun h2 p2=>?_
 exact⟨(congrArg S.v (congrArg V.c (congrArg (C.int .i64) (by simp[A4, *])))),rfl⟩
 exact⟨(congrArg S.v (congrArg V.c (congrArg (C.int .i64) (by simp[A4, *])))),rfl⟩
theorem Ag6 (f:Fld):Fun Tryz.prog 169 [.agg (Gb f)] [] (.v (vB (Uu f))) []:=by
 have hN:A8=274877906944:=rfl
 refine Aq Tryz.func169 Q4 Q4 (w:=let z1:S:= .v (vB (Db f.kind));(.br (.seg [.call [] z1 []] (.leaf () [])) (.leaf () []),Bc f.rep ((Fp 209 [vI f.kind] [] z1 [])∧Lf z1 (.v (vB (Uu f))) [] []) (Lf (.v (vB false)) (.v (vB (Uu f))) [] []))) Q4 ?_
 refine⟨fun h1=>?_,fun h1=>?_⟩
 exact⟨(Aa7 _),(congrArg S.v (congrArg V.c (congrArg C.bool (by simp[Uu, *])))),rfl⟩
 exact⟨(congrArg S.v (congrArg V.c (congrArg C.bool (by simp[Uu, *])))),rfl⟩
theorem Wu (f:Fld):Fun Tryz.prog 129 [.agg (Gb f)] [] (.v (vB (Uu f))) []:=by
 have hN:A8=274877906944:=rfl
 refine Aq Tryz.func129 Q4 Q4 (w:=let z1:S:= .v (vB (Db f.kind));(.br (.seg [.call [] z1 []] (.leaf () [])) (.leaf () []),Bc f.rep ((Fp 158 [vI f.kind] [] z1 [])∧Lf z1 (.v (vB (Uu f))) [] []) (Lf (.v (vB false)) (.v (vB (Uu f))) [] []))) Q4 ?_
 refine⟨fun h1=>?_,fun h1=>?_⟩
 exact⟨(Mr _),(congrArg S.v (congrArg V.c (congrArg C.bool (by simp[Uu, *])))),rfl⟩
 exact⟨(congrArg S.v (congrArg V.c (congrArg C.bool (by simp[Uu, *])))),rfl⟩
theorem K7 (f:Fld) (w:Int) (hp1:(0:Int)≤w):Fun Tryz.prog 170 [.agg (Gb f),vI w] [] (.v (vB (Dk f w))) []:=by
 have hN:A8=274877906944:=rfl
 refine Aq Tryz.func170 Q4 Q4 (w:=let z1:S:= .v (vB (Dk f w));let z2:S:= .v (vB (Uu f));(.seg [.call [] (.v (vI (Cd f.kind))) []] (.br (.leaf () []) (.br (.seg [.call [] z2 []] (.leaf () [])) (.leaf () []))),(Fp 181 [vI f.kind] [] (.v (vI (Cd f.kind))) [])∧Bc (decide (w=Cd f.kind)) (Lf (.v (vB true)) z1 [] []) (Bc (decide (w=2)) ((Fp 169 [.agg (Gb f)] [] z2 [])∧Lf z2 z1 [] []) (Lf (.v (vB false)) z1 [] [])))) Q4 ?_
 refine⟨(Zu _),dsp (fun h1 p1=>?_) fun h1 p1=>?_⟩
 refine⟨(sB ?_),rfl⟩
 rotate_left
 refine dsp (fun h2 p2=>?_) fun h2 p2=>?_
 refine⟨(Ag6 f),(sB ?_),rfl⟩
 rotate_left
 refine⟨(sB ?_),rfl⟩
 rotate_left
 all_goals first|(simp[Dk, *]<;>(repeat' split)<;>omega)|(simp[Dk,Cd, *]<;>(repeat' split)<;>omega)
theorem Aa8 (f:Fld) (w:Int) (hp1:(0:Int)≤w):Fun Tryz.prog 128 [.agg (Gb f),vI w] [] (.v (vB (Dk f w))) []:=by
 have hN:A8=274877906944:=rfl
 refine Aq Tryz.func128 Q4 Q4 (w:=let z1:S:= .v (vB (Dk f w));let z2:S:= .v (vB (Uu f));(.seg [.call [] (.v (vB (Ey f.kind))) []] (.br (.seg [.call [] (.v (vI (Cd f.kind))) []] (.br (.leaf () []) (.br (.seg [.call [] z2 []] (.leaf () [])) (.leaf () [])))) (.br (.seg [.call [] z2 []] (.leaf () [])) (.leaf () []))),(Fp 157 [vI f.kind] [] (.v (vB (Ey f.kind))) [])∧Bc (Ey f.kind) ((Fp 131 [vI f.kind] [] (.v (vI (Cd f.kind))) [])∧Bc (decide (w=Cd f.kind)) (Lf (.v (vB true)) z1 [] []) (Bc (decide (w=2)) ((Fp 129 [.agg (Gb f)] [] z2 [])∧Lf z2 z1 [] []) (Lf (.v (vB false)) z1 [] []))) (Bc (decide (w=2)) ((Fp 129 [.agg (Gb f)] [] z2 [])∧Lf z2 z1 [] []) (Lf (.v (vB false)) z1 [] [])))) Q4 ?_
 refine⟨(Vj _),fun h1=>have p1:=As h1;?_,fun h1=>have p1:=Ay h1;?_⟩
 refine⟨(Qy _),dsp (fun h2 p2=>?_) fun h2 p2=>?_⟩
 refine⟨(sB ?_),rfl⟩
 rotate_left
 refine dsp (fun h3 p3=>?_) fun h3 p3=>?_
 refine⟨(Wu f),(sB ?_),rfl⟩
 rotate_left
 refine⟨(sB ?_),rfl⟩
 rotate_left
 refine dsp (fun h2 p2=>?_) fun h2 p2=>?_
 refine⟨(Wu f),(sB ?_),rfl⟩
 rotate_left
 refine⟨(sB ?_),rfl⟩
 rotate_left
 all_goals first|(simp[Dk, *]<;>(repeat' split)<;>omega)|(simp[Dk,Cd, *]<;>(repeat' split)<;>omega)
theorem Amm (l:List Rd) (hp1:List.length l≤A8):Fun Tryz.prog 143 [.c (.seq .rd l)] [] (.v (vO 0)) [.lst .rd l]:=by
 refine⟨Gp Tryz.func143 Q4 Q4,?_⟩
 have key:Sm Tryz.prog 8 0 (Aay Tryz.f143 1) [(2,.v (.c .nil)),(0,.v (.c (.seq .rd l)))] [] .ret [(2,.v (.c (.own 0)))] [.lst .rd l]:=by
  refine Sm.nilTest' (s:=0) (t3:=3) (t4:=4) (t:= .rd) (l:=l) rfl rfl rfl rfl rfl rfl rfl Tryz.underlying66 Q4 rfl rfl rfl fun p hp=>?_
  cases p with
  |true=>
   have hl:=hp rfl
   subst hl
   exact .inr ⟨by decide,Dt (ds:=[.br true,.at 0,.mkS 2 .rd,.keep [2],.sel [0]]) (ob:=[true=true]) Q4 ⟨rfl,trivial⟩⟩
  |false=>
   exact .inl ⟨[(0,.v (.c (.seq .rd l)))],[],Dt (ds:=[.br false,.at 0,.keep [0],.sel []]) (ob:=[false=false]) Q4 ⟨rfl,trivial⟩,
    (Dt (tm':=[(2,.v (.c (.own 0)))]) (H':=[.lst .rd ([]++l)]) (ds:=[.ty .rd,.ty .rd,.at 0,.keep [2],.sel [1]]) (ob:=[List.length ([]:List Rd)+List.length l≤A8]) (by kernel_rfl) ⟨by simpa using hp1,trivial⟩).to (by rfl) (by rfl)⟩
 exact Qw Tryz.func143 (res:= .v (.c (.own 0))) (L':=[.lst .rd l]) (ds:=[.jump 1 .ret [(2,.v (.c (.own 0)))] [.lst .rd l]]) (σ:=[0]) (ob:=[Sm Tryz.prog 8 0 (Aay Tryz.f143 1) [(2,.v (.c .nil)),(0,.v (.c (.seq .rd l)))] [] .ret [(2,.v (.c (.own 0)))] [.lst .rd l]]) Q4 ⟨key,trivial⟩
theorem Yk (r:Rdr) (hp1:List.length (r).data≤A8) (hp2:List.length (r).script≤A8):Fun Tryz.prog 76 [.agg (Zt r)] [] (.v (vB (Bo r))) []:=by
 have hN:A8=274877906944:=rfl
 refine Aq Tryz.func76 Q4 Q4 (w:=let z2:=((List.length r.script:Nat):Int);let z3:=((List.length r.data:Nat):Int);let z4:S:= .v (vB (Bo r));let z1:=Lf (.v (vB false)) z4 [] [];let z5:=Ak r.next 0 z2;let z6:=Ak r.at_ 0 z3;(.br (.seg [.call [] (.v (vB z6)) []] (.br (.br (.seg [.call [] (.v (vB z5)) []] (.br (.br (.leaf () []) (.br (.leaf () []) (.leaf () []))) (.leaf () []))) (.leaf () [])) (.leaf () []))) (.leaf () []),Bc (decide (z3≤4000)) ((Fp 97 [vI r.at_,vI 0,vI z3] [] (.v (vB z6)) [])∧Bc z6 (Bc (decide (z2≤200)) ((Fp 97 [vI r.next,vI 0,vI z2] [] (.v (vB z5)) [])∧Bc z5 (Bc (decide (r.code=0)) (Lf (.v (vB true)) z4 [] []) (Bc (decide (r.code=1)) (Lf (.v (vB true)) z4 [] []) (Lf (.v (vB (decide (20≤r.code)))) z4 [] []))) z1) z1) z1) z1)) Q4 ?_
 refine dsp (fun h1 p1=>?_) fun h1 p1=>?_
 refine⟨(Cf _ _ _),fun h2=>have p2:=As h2;?_,fun h2=>have p2:=Ay h2;?_⟩
 refine dsp (fun h3 p3=>?_) fun h3 p3=>?_
 refine⟨(Cf _ _ _),fun h4=>have p4:=As h4;?_,fun h4=>have p4:=Ay h4;?_⟩
 refine dsp (fun h5 p5=>?_) fun h5 p5=>?_
 refine⟨(sB ?_),rfl⟩
 rotate_left
 refine dsp (fun h6 p6=>?_) fun h6 p6=>?_
 refine⟨(sB ?_),rfl⟩
 rotate_left
 refine⟨(sB ?_),rfl⟩
 rotate_left
 refine⟨(sB ?_),rfl⟩
 rotate_left
 refine⟨(sB ?_),rfl⟩
 rotate_left
 refine⟨(sB ?_),rfl⟩
 rotate_left
 refine⟨(sB ?_),rfl⟩
 rotate_left
 all_goals first|(simp_all[Bo];done)|(grind[Bo])
theorem T5 (r:Rdr) (hp1:List.length (r).data≤A8) (hp2:List.length (r).script≤A8):Fun Tryz.prog 75 [.agg (Zt r)] [] (.v (vB (Bo r))) []:=by
 have hN:A8=274877906944:=rfl
 refine Aq Tryz.func75 Q4 Q4 (w:=let z2:=((List.length r.script:Nat):Int);let z3:=((List.length r.data:Nat):Int);let z4:S:= .v (vB (Bo r));let z1:=Lf (.v (vB false)) z4 [] [];let z5:=Ak r.next 0 z2;let z6:=Ak r.at_ 0 z3;(.br (.leaf () []) (.seg [.call [] (.v (vB z6)) []] (.br (.leaf () []) (.br (.leaf () []) (.seg [.call [] (.v (vB z5)) []] (.br (.leaf () []) (.br (.leaf () []) (.br (.leaf () []) (.leaf () [])))))))),Bc (decide (4000<z3)) z1 ((Fp 44 [vI r.at_,vI 0,vI z3] [] (.v (vB z6)) [])∧Bc (!z6) z1 (Bc (decide (200<z2)) z1 ((Fp 44 [vI r.next,vI 0,vI z2] [] (.v (vB z5)) [])∧Bc (!z5) z1 (Bc (decide (r.code=0)) (Lf (.v (vB true)) z4 [] []) (Bc (decide (r.code=1)) (Lf (.v (vB true)) z4 [] []) (Lf (.v (vB (decide (20≤r.code)))) z4 [] [])))))))) Q4 ?_
 refine dsp (fun h1 p1=>?_) fun h1 p1=>?_
 refine⟨(sB ?_),rfl⟩
 rotate_left
 refine⟨(Bf _ _ _),fun h2=>have q2:=An h2;have p2:=Ay q2;?_,fun h2=>have q2:=Am h2;have p2:=As q2;?_⟩
 refine⟨(sB ?_),rfl⟩
 rotate_left
 refine dsp (fun h3 p3=>?_) fun h3 p3=>?_
 refine⟨(sB ?_),rfl⟩
 rotate_left
 refine⟨(Bf _ _ _),fun h4=>have q4:=An h4;have p4:=Ay q4;?_,fun h4=>have q4:=Am h4;have p4:=As q4;?_⟩
 refine⟨(sB ?_),rfl⟩
 rotate_left
 refine dsp (fun h5 p5=>?_) fun h5 p5=>?_
 refine⟨(sB ?_),rfl⟩
 rotate_left
 refine dsp (fun h6 p6=>?_) fun h6 p6=>?_
 refine⟨(sB ?_),rfl⟩
 rotate_left
 refine⟨(sB ?_),rfl⟩
 rotate_left
 all_goals first|(simp_all[Bo];done)|(grind[Bo])
theorem Uy {r:Rdr} {room:Int} {x:Rd} (h:r.next<(r.script.length:Int)) (hx:r.script[r.next.toNat]? =some x):Dm r room=x:=by
 simp[Dm,h,List.getD,hx]
theorem Uz {r:Rdr} {room:Int} (h: ¬r.next<(r.script.length:Int)):Dm r room=⟨room,1⟩:=by
 simp[Dm,h]
theorem Wv (r:Rdr) (hp1:List.length (r).script≤A8):Fun Tryz.prog 70 [.agg (Zt r)] [] (.v (.agg (Fd 0 r))) [.lst .rd r.script]:=by
 have hN:A8=274877906944:=rfl
 refine Aq Tryz.func70 Q4 Q4 (w:=let z1:List Blk:=[.lst .rd r.script];(.seg [.call [] (.v (vO 0)) z1] (.leaf () [2]),(Fp 143 [.c (.seq .rd r.script)] [] (.v (vO 0)) z1)∧Lf (.v (.agg (Fd 0 r))) (.v (.agg (Fd 0 r))) z1 z1)) Q4 ?_
 exact⟨(Amm r.script Q2),rfl,rfl⟩
theorem Ww (r:Rdr) (hp1:List.length (r).script≤A8):Fun Tryz.prog 145 [.agg (Zt r)] [] (.v (.agg (Fd 0 r))) [.lst .rd r.script]:=by
 have hN:A8=274877906944:=rfl
 refine Aq Tryz.func145 Q4 Q4 (w:=(.seg [.ty .rd,.ty .rd] (.leaf () [3]),(List.length ([]:List Rd)+List.length r.script≤A8)∧Lf (.v (.agg (Fd 0 r))) (.v (.agg (Fd 0 r))) [.lst .rd (([]:List Rd)++r.script)] [.lst .rd r.script])) Q4 ?_
 refine⟨Q5,?_⟩
 have hm1:r=(⟨r.data,r.at_,([]:List Rd)++r.script,r.next,r.code⟩:Rdr):=by rfl
 exact⟨Q6,Q6⟩
theorem Aet (r:Rdr) (room:Int) (hp1:List.length (r).script≤A8) (hp2:List.length (r).data≤A8):Fun Tryz.prog 194 [.agg (Zt r),vI room] [] (.tup [.agg (Fd 0 (A7 r room)),vT (A2 r room),vI (B0 r room)]) [.lst .rd (A7 r room).script]:=by
 have hN:A8=274877906944:=rfl
 refine Aq Tryz.func194 Q4 Q4 (w:=let zi:Int→C:= .int .i64;let z5:=((List.length r.data:Nat):Int);let z6:S:= .tup [.agg (Fd 0 (A7 r room)),vT (A2 r room),vI (B0 r room)];let z8:List Blk:=[.lst .rd (A7 r room).script];let z9:=(0:Int)≤r.at_;let z10:List Blk:=[.lst .rd r.script];let z12:=Int.toNat r.at_;let z14:=z5-r.at_;let z7:=Dv room room z14;let z15:=r.at_≤r.at_+z7;let z16:=Lf (.tup [.agg (Fd 0 r),vT [],vI 1]) z6 z10 z8;let z17:=r.next+1;let z18:=os 13 [10];let z19:=r.at_+z7≤z5;let z20:=r.at_+z7;let z13:=List.drop z12 (List.take (Int.toNat z20) r.data);let z21:=if room<room then room else room;let z11:=if z5-r.at_<z21 then z5-r.at_ else z21;(.seg [.call [] (.v (.agg (Fd 0 r))) z10,.call [] (.v (vB (Bo r))) []] (.br (.leaf () [2]) (.br (.leaf () [2]) (.br (.seg [.ord (os 6 [3]) [1]] (.leaf () [2])) (.br (.intro (Sx (r.script[Int.toNat r.next]?)) fun x1=>let z1:=Dv x1.n room z14;.seg [.el .rd x1,.as 44 (.v (vI z17)),.as 54 (.v (vI z14)),.as 56 (.v (vI z1)),.as 60 (.v (vI (r.at_+z1)))] (.br (.seg [.ord z18 [1]] (.leaf () [2])) (.br (.br (.seg [.ord z18 [1]] (.leaf () [2])) (.seg [.ord z18 [1]] (.leaf () [2]))) (.seg [.ord z18 [1]] (.leaf () [2]))))) (.seg [.as 54 (.v (vI z14)),.as 56 (.v (vI z7)),.as 60 (.v (vI z20)),.br false,.br true] (.br (.seg [.ord z18 [1]] (.leaf () [2])) (.seg [.ord z18 [1]] (.leaf () [2])))))))),(Fp 70 [.agg (Zt r)] [] (.v (.agg (Fd 0 r))) z10)∧(Fp 76 [.agg (Zt r)] [] (.v (vB (Bo r))) [])∧Bc (!(Bo r)) z16 (Bc (decide (room<1)) z16 (Bc (!decide (r.code=0)) (Lf (.tup [.agg (Fd 0 r),vT [],vI r.code]) z6 z10 z8) (Bc (decide (r.next<((List.length r.script:Nat):Int))) (El (r.script[Int.toNat r.next]?) fun x1=>(let z2:=Dv x1.n room z14;let z4:=if room<x1.n then room else x1.n;let z3:=if z5-r.at_<z4 then z5-r.at_ else z4;(r.script[Int.toNat r.next]? =some x1)∧((0:Int)≤r.next)∧(wI z17)∧(wI z14)∧((.v (vI (if 0>z3 then 0 else z3)):S)= .v (vI z2))∧(wI (r.at_+z2))∧Bc (decide (20≤x1.code)) ((r.at_+z2≤z5)∧(r.at_≤r.at_+z2)∧z9∧(r.at_+z2≤z5)∧(r.at_≤r.at_+z2)∧z9∧Lf (.tup [.agg [.str r.data,zi (r.at_+z2),.own 0,zi z17,zi x1.code],vT (List.drop z12 (List.take (Int.toNat (r.at_+z2)) r.data)),vI x1.code]) z6 z10 z8) (Bc (decide (x1.code=1)) (Bc (decide (r.at_+z2=z5)) ((r.at_+z2≤z5)∧(r.at_≤r.at_+z2)∧z9∧(r.at_+z2≤z5)∧(r.at_≤r.at_+z2)∧z9∧Lf (.tup [.agg [.str r.data,zi (r.at_+z2),.own 0,zi z17,zi 1],vT (List.drop z12 (List.take (Int.toNat (r.at_+z2)) r.data)),vI 1]) z6 z10 z8) ((r.at_+z2≤z5)∧(r.at_≤r.at_+z2)∧z9∧(r.at_+z2≤z5)∧(r.at_≤r.at_+z2)∧z9∧Lf (.tup [.agg [.str r.data,zi (r.at_+z2),.own 0,zi z17,zi r.code],vT (List.drop z12 (List.take (Int.toNat (r.at_+z2)) r.data)),vI r.code]) z6 z10 z8)) ((r.at_+z2≤z5)∧(r.at_≤r.at_+z2)∧z9∧(r.at_+z2≤z5)∧(r.at_≤r.at_+z2)∧z9∧Lf (.tup [.agg [.str r.data,zi (r.at_+z2),.own 0,zi z17,zi r.code],vT (List.drop z12 (List.take (Int.toNat (r.at_+z2)) r.data)),vI r.code]) z6 z10 z8)))) ((wI z14)∧((.v (vI (if 0>z11 then 0 else z11)):S)= .v (vI z7))∧(wI z20)∧((decide (20≤1))=false)∧((decide (1=1))=true)∧Bc (decide (r.at_+z7=z5)) (z19∧z15∧z9∧z19∧z15∧z9∧Lf (.tup [.agg [.str r.data,zi z20,.own 0,zi r.next,zi 1],vT z13,vI 1]) z6 z10 z8) (z19∧z15∧z9∧z19∧z15∧z9∧Lf (.tup [.agg [.str r.data,zi z20,.own 0,zi r.next,zi r.code],vT z13,vI r.code]) z6 z10 z8))))))) Q4 ?_
 refine⟨(Wv r Q2),(Yk r Q2 Q2),fun h1=>have q1:=An h1;?_,fun h1=>have q1:=Am h1;have p1:=Eg q1;?_⟩
 refine zE (A7 r room) r (fun hm1=>⟨(congrArg S.tup (Ab (congrArg V.agg (Ab (congrArg C.str ?_) (Ab (congrArg (C.int .i64) ?_) (Ab rfl (Ab (congrArg (C.int .i64) ?_) (Ab (congrArg (C.int .i64) ?_) rfl)))))) (Ab (congrArg V.c (congrArg C.str ?_)) (Ab (congrArg V.c (congrArg (C.int .i64) ?_)) rfl)))),Q6⟩) ?_
 rotate_left 7
 refine dsp (fun h2 p2=>?_) fun h2 p2=>?_
 refine zE (A7 r room) r (fun hm1=>⟨(congrArg S.tup (Ab (congrArg V.agg (Ab (congrArg C.str ?_) (Ab (congrArg (C.int .i64) ?_) (Ab rfl (Ab (congrArg (C.int .i64) ?_) (Ab (congrArg (C.int .i64) ?_) rfl)))))) (Ab (congrArg V.c (congrArg C.str ?_)) (Ab (congrArg V.c (congrArg (C.int .i64) ?_)) rfl)))),Q6⟩) ?_
 rotate_left 7
 refine⟨fun h3=>have q3:=An h3;have p3:=of_decide_eq_false q3;?_,fun h3=>have q3:=Am h3;have p3:=of_decide_eq_true q3;?_⟩
 refine zE (A7 r room) r (fun hm1=>⟨(congrArg S.tup (Ab (congrArg V.agg (Ab (congrArg C.str ?_) (Ab (congrArg (C.int .i64) ?_) (Ab rfl (Ab (congrArg (C.int .i64) ?_) (Ab (congrArg (C.int .i64) ?_) rfl)))))) (Ab (congrArg V.c (congrArg C.str ?_)) (Ab (congrArg V.c (congrArg (C.int .i64) ?_)) rfl)))),Q6⟩) ?_
 rotate_left 7
 refine dsp (fun h4 p4=>?_) fun h4 p4=>?_
 refine⟨(Bm (l:=r.script) (i:=Int.toNat r.next) Q2),fun x1 hx1=>?_⟩
 have he:Dm r room=x1:=Uy (by omega) hx1
 refine⟨hx1,Q2,(Ad Q2 Q2),(Ad Q2 Q2),(Adh (by unfold Dv;omega)),(Ad Q11 Q11),dsp (fun h5 p5=>?_) fun h5 p5=>?_⟩
 refine zE (A7 r room) (⟨r.data,r.at_+(Dv x1.n room (((List.length r.data:Nat):Int)-r.at_)),r.script,r.next+1,x1.code⟩:Rdr) (fun hm1=>⟨Q11,Q11,Q2,Q11,Q11,Q2,(congrArg S.tup (Ab (congrArg V.agg (Ab (congrArg C.str ?_) (Ab (congrArg (C.int .i64) ?_) (Ab rfl (Ab (congrArg (C.int .i64) ?_) (Ab (congrArg (C.int .i64) ?_) rfl)))))) (Ab (congrArg V.c (congrArg C.str ?_)) (Ab (congrArg V.c (congrArg (C.int .i64) ?_)) rfl)))),Q6⟩) ?_
 rotate_left 7
 refine dsp (fun h6 p6=>?_) fun h6 p6=>?_
 refine dsp (fun h7 p7=>?_) fun h7 p7=>?_
 refine zE (A7 r room) (⟨r.data,r.at_+(Dv x1.n room (((List.length r.data:Nat):Int)-r.at_)),r.script,r.next+1,1⟩:Rdr) (fun hm1=>⟨Q11,Q11,Q2,Q11,Q11,Q2,(congrArg S.tup (Ab (congrArg V.agg (Ab (congrArg C.str ?_) (Ab (congrArg (C.int .i64) ?_) (Ab rfl (Ab (congrArg (C.int .i64) ?_) (Ab (congrArg (C.int .i64) ?_) rfl)))))) (Ab (congrArg V.c (congrArg C.str ?_)) (Ab (congrArg V.c (congrArg (C.int .i64) ?_)) rfl)))),Q6⟩) ?_
 rotate_left 7
 refine zE (A7 r room) (⟨r.data,r.at_+(Dv x1.n room (((List.length r.data:Nat):Int)-r.at_)),r.script,r.next+1,r.code⟩:Rdr) (fun hm1=>⟨Q11,Q11,Q2,Q11,Q11,Q2,(congrArg S.tup (Ab (congrArg V.agg (Ab (congrArg C.str ?_) (Ab (congrArg (C.int .i64) ?_) (Ab rfl (Ab (congrArg (C.int .i64) ?_) (Ab (congrArg (C.int .i64) ?_) rfl)))))) (Ab (congrArg V.c (congrArg C.str ?_)) (Ab (congrArg V.c (congrArg (C.int .i64) ?_)) rfl)))),Q6⟩) ?_
 rotate_left 7
 refine zE (A7 r room) (⟨r.data,r.at_+(Dv x1.n room (((List.length r.data:Nat):Int)-r.at_)),r.script,r.next+1,r.code⟩:Rdr) (fun hm1=>⟨Q11,Q11,Q2,Q11,Q11,Q2,(congrArg S.tup (Ab (congrArg V.agg (Ab (congrArg C.str ?_) (Ab (congrArg (C.int .i64) ?_) (Ab rfl (Ab (congrArg (C.int .i64) ?_) (Ab (congrArg (C.int .i64) ?_) rfl)))))) (Ab (congrArg V.c (congrArg C.str ?_)) (Ab (congrArg V.c (congrArg (C.int .i64) ?_)) rfl)))),Q6⟩) ?_
 rotate_left 7
 have he:Dm r room=⟨room,1⟩:=Uz (by omega)
 refine⟨(Ad Q2 Q2),(Adh (by unfold Dv;omega)),(Ad Q19 Q19),Q30,Q30,dsp (fun h5 p5=>?_) fun h5 p5=>?_⟩
 refine zE (A7 r room) (⟨r.data,r.at_+(Dv room room (((List.length r.data:Nat):Int)-r.at_)),r.script,r.next,1⟩:Rdr) (fun hm1=>⟨Q19,Q19,Q2,Q19,Q19,Q2,(congrArg S.tup (Ab (congrArg V.agg (Ab (congrArg C.str ?_) (Ab (congrArg (C.int .i64) ?_) (Ab rfl (Ab (congrArg (C.int .i64) ?_) (Ab (congrArg (C.int .i64) ?_) rfl)))))) (Ab (congrArg V.c (congrArg C.str ?_)) (Ab (congrArg V.c (congrArg (C.int .i64) ?_)) rfl)))),Q6⟩) ?_
 rotate_left 7
 refine zE (A7 r room) (⟨r.data,r.at_+(Dv room room (((List.length r.data:Nat):Int)-r.at_)),r.script,r.next,r.code⟩:Rdr) (fun hm1=>⟨Q19,Q19,Q2,Q19,Q19,Q2,(congrArg S.tup (Ab (congrArg V.agg (Ab (congrArg C.str ?_) (Ab (congrArg (C.int .i64) ?_) (Ab rfl (Ab (congrArg (C.int .i64) ?_) (Ab (congrArg (C.int .i64) ?_) rfl)))))) (Ab (congrArg V.c (congrArg C.str ?_)) (Ab (congrArg V.c (congrArg (C.int .i64) ?_)) rfl)))),Q6⟩) ?_
 rotate_left 7
 all_goals first|((simp[A7,A2,B0,Va,K5,rsN,Mq, *]<;>omega))|((simp[A7,A2,B0,Va,K5,rsN,Mq, *];done))|((simp_all[A7,A2,B0,Va,K5,rsN,Mq];done))|(grind[A7,A2,B0,Va,K5,rsN,Mq])
theorem Ym (r:Rdr) (room:Int) (hp1:List.length (r).script≤A8) (hp2:List.length (r).data≤A8):Fun Tryz.prog 146 [.agg (Zt r),vI room] [] (.tup [.agg (Fd 0 (A7 r room)),vT (A2 r room),vI (B0 r room)]) [.lst .rd (A7 r room).script]:=by
 have hN:A8=274877906944:=rfl
 refine Aq Tryz.func146 Q4 Q4 (w:=let zi:Int→C:= .int .i64;let z7:S:= .tup [.agg (Fd 0 (A7 r room)),vT (A2 r room),vI (B0 r room)];let z8:=((List.length r.data:Nat):Int);let z6:=z8-r.at_;let z9:=Dv room room z6;let z10:List Blk:=[.lst .rd (A7 r room).script];let z11:=(0:Int)≤r.at_;let z12:List Blk:=[.lst .rd r.script];let z13:=min room z6;let z15:=min room z13;let z16:=Lf (.tup [.agg (Fd 0 r),vT [],vI 1]) z7 z12 z10;let z17:=r.at_≤r.at_+z9;let z18:=os 13 [10];let z19:=Int.toNat r.at_;let z20:=r.at_+z9≤z8;let z21:=r.next+1;let z22:=r.at_+z9;let z14:=List.drop z19 (List.take (Int.toNat z22) r.data);let z23:S:= .v (vI z13);(.seg [.call [] (.v (.agg (Fd 0 r))) z12,.call [] (.v (vB (Bo r))) []] (.br (.leaf () [2]) (.br (.leaf () [2]) (.br (.seg [.ord (os 6 [3]) [1]] (.leaf () [2])) (.br (.intro (Sx (r.script[Int.toNat r.next]?)) fun x1=>let z1:=min x1.n z13;let z2:=Dv x1.n room z6;.seg [.el .rd x1,.as 42 (.v (vI z21)),.ord (os 13 [9,10,11]) [],.as 52 (.v (vI z6)),.call [] z23 [],.call [] (.v (vI z1)) [],.call [] (.v (vI (max 0 z1))) [],.as 55 (.v (vI z2)),.as 59 (.v (vI (r.at_+z2)))] (.br (.seg [.ord z18 [1]] (.leaf () [2])) (.br (.br (.seg [.ord z18 [1]] (.leaf () [2])) (.seg [.ord z18 [1]] (.leaf () [2]))) (.seg [.ord z18 [1]] (.leaf () [2]))))) (.seg [.ord (os 13 [9,10,11]) [],.as 52 (.v (vI z6)),.call [] z23 [],.call [] (.v (vI z15)) [],.call [] (.v (vI (max 0 z15))) [],.as 55 (.v (vI z9)),.as 59 (.v (vI z22)),.br false,.br true] (.br (.seg [.ord z18 [1]] (.leaf () [2])) (.seg [.ord z18 [1]] (.leaf () [2])))))))),(Fp 145 [.agg (Zt r)] [] (.v (.agg (Fd 0 r))) z12)∧(Fp 75 [.agg (Zt r)] [] (.v (vB (Bo r))) [])∧Bc (!(Bo r)) z16 (Bc (decide (room<1)) z16 (Bc (!decide (r.code=0)) (Lf (.tup [.agg (Fd 0 r),vT [],vI r.code]) z7 z12 z10) (Bc (decide (r.next<((List.length r.script:Nat):Int))) (El (r.script[Int.toNat r.next]?) fun x1=>(let z3:=Dv x1.n room z6;let z4:=(r.at_+z3≤z8)∧(r.at_≤r.at_+z3)∧z11∧(r.at_+z3≤z8)∧(r.at_≤r.at_+z3)∧z11∧Lf (.tup [.agg [.str r.data,zi (r.at_+z3),.own 0,zi z21,zi x1.code],vT (List.drop z19 (List.take (Int.toNat (r.at_+z3)) r.data)),vI x1.code]) z7 z12 z10;let z5:=min x1.n z13;(r.script[Int.toNat r.next]? =some x1)∧((0:Int)≤r.next)∧(wI z21)∧(wI z6)∧(wI z6)∧(Fp 83 [vI room,vI z6] [] z23 [])∧(Fp 83 [vI x1.n,vI z13] [] (.v (vI z5)) [])∧(Fp 84 [vI 0,vI z5] [] (.v (vI (max 0 z5))) [])∧((.v (vI (max 0 z5)):S)= .v (vI z3))∧(wI (r.at_+z3))∧Bc (decide (20≤x1.code)) z4 (Bc (decide (x1.code=1)) (Bc (decide (r.at_+z3=z8)) z4 ((r.at_+z3≤z8)∧(r.at_≤r.at_+z3)∧z11∧(r.at_+z3≤z8)∧(r.at_≤r.at_+z3)∧z11∧Lf (.tup [.agg [.str r.data,zi (r.at_+z3),.own 0,zi z21,zi r.code],vT (List.drop z19 (List.take (Int.toNat (r.at_+z3)) r.data)),vI r.code]) z7 z12 z10)) ((r.at_+z3≤z8)∧(r.at_≤r.at_+z3)∧z11∧(r.at_+z3≤z8)∧(r.at_≤r.at_+z3)∧z11∧Lf (.tup [.agg [.str r.data,zi (r.at_+z3),.own 0,zi z21,zi r.code],vT (List.drop z19 (List.take (Int.toNat (r.at_+z3)) r.data)),vI r.code]) z7 z12 z10)))) ((wI z6)∧(wI z6)∧(Fp 83 [vI room,vI z6] [] z23 [])∧(Fp 83 [vI room,vI z13] [] (.v (vI z15)) [])∧(Fp 84 [vI 0,vI z15] [] (.v (vI (max 0 z15))) [])∧((.v (vI (max 0 z15)):S)= .v (vI z9))∧(wI z22)∧((decide (20≤1))=false)∧((decide (1=1))=true)∧Bc (decide (r.at_+z9=z8)) (z20∧z17∧z11∧z20∧z17∧z11∧Lf (.tup [.agg [.str r.data,zi z22,.own 0,zi r.next,zi 1],vT z14,vI 1]) z7 z12 z10) (z20∧z17∧z11∧z20∧z17∧z11∧Lf (.tup [.agg [.str r.data,zi z22,.own 0,zi r.next,zi r.code],vT z14,vI r.code]) z7 z12 z10))))))) Q4 ?_
 refine⟨(Ww r Q2),(T5 r Q2 Q2),fun h1=>have q1:=An h1;?_,fun h1=>have q1:=Am h1;have p1:=Eg q1;?_⟩
 refine zE (A7 r room) r (fun hm1=>⟨(congrArg S.tup (Ab (congrArg V.agg (Ab (congrArg C.str ?_) (Ab (congrArg (C.int .i64) ?_) (Ab rfl (Ab (congrArg (C.int .i64) ?_) (Ab (congrArg (C.int .i64) ?_) rfl)))))) (Ab (congrArg V.c (congrArg C.str ?_)) (Ab (congrArg V.c (congrArg (C.int .i64) ?_)) rfl)))),Q6⟩) ?_
 rotate_left 7
 refine dsp (fun h2 p2=>?_) fun h2 p2=>?_
 refine zE (A7 r room) r (fun hm1=>⟨(congrArg S.tup (Ab (congrArg V.agg (Ab (congrArg C.str ?_) (Ab (congrArg (C.int .i64) ?_) (Ab rfl (Ab (congrArg (C.int .i64) ?_) (Ab (congrArg (C.int .i64) ?_) rfl)))))) (Ab (congrArg V.c (congrArg C.str ?_)) (Ab (congrArg V.c (congrArg (C.int .i64) ?_)) rfl)))),Q6⟩) ?_
 rotate_left 7
 refine⟨fun h3=>have q3:=An h3;have p3:=of_decide_eq_false q3;?_,fun h3=>have q3:=Am h3;have p3:=of_decide_eq_true q3;?_⟩
 refine zE (A7 r room) r (fun hm1=>⟨(congrArg S.tup (Ab (congrArg V.agg (Ab (congrArg C.str ?_) (Ab (congrArg (C.int .i64) ?_) (Ab rfl (Ab (congrArg (C.int .i64) ?_) (Ab (congrArg (C.int .i64) ?_) rfl)))))) (Ab (congrArg V.c (congrArg C.str ?_)) (Ab (congrArg V.c (congrArg (C.int .i64) ?_)) rfl)))),Q6⟩) ?_
 rotate_left 7
 refine dsp (fun h4 p4=>?_) fun h4 p4=>?_
 refine⟨(Bm (l:=r.script) (i:=Int.toNat r.next) Q2),fun x1 hx1=>?_⟩
 have he:Dm r room=x1:=Uy (by omega) hx1
 refine⟨hx1,Q2,(Ad Q2 Q2),(Ad Q2 Q2),(Ad Q2 Q2),(Ajd _ _),(Ajd _ _),(G4 _ _),(Adh (by unfold Dv;omega)),(Ad Q11 Q11),dsp (fun h5 p5=>?_) fun h5 p5=>?_⟩
 refine zE (A7 r room) (⟨r.data,r.at_+(Dv x1.n room (((List.length r.data:Nat):Int)-r.at_)),r.script,r.next+1,x1.code⟩:Rdr) (fun hm1=>⟨Q11,Q11,Q2,Q11,Q11,Q2,(congrArg S.tup (Ab (congrArg V.agg (Ab (congrArg C.str ?_) (Ab (congrArg (C.int .i64) ?_) (Ab rfl (Ab (congrArg (C.int .i64) ?_) (Ab (congrArg (C.int .i64) ?_) rfl)))))) (Ab (congrArg V.c (congrArg C.str ?_)) (Ab (congrArg V.c (congrArg (C.int .i64) ?_)) rfl)))),Q6⟩) ?_
 rotate_left 7
 refine dsp (fun h6 p6=>?_) fun h6 p6=>?_
 refine dsp (fun h7 p7=>?_) fun h7 p7=>?_
 refine zE (A7 r room) (⟨r.data,r.at_+(Dv x1.n room (((List.length r.data:Nat):Int)-r.at_)),r.script,r.next+1,x1.code⟩:Rdr) (fun hm1=>⟨Q11,Q11,Q2,Q11,Q11,Q2,(congrArg S.tup (Ab (congrArg V.agg (Ab (congrArg C.str ?_) (Ab (congrArg (C.int .i64) ?_) (Ab rfl (Ab (congrArg (C.int .i64) ?_) (Ab (congrArg (C.int .i64) ?_) rfl)))))) (Ab (congrArg V.c (congrArg C.str ?_)) (Ab (congrArg V.c (congrArg (C.int .i64) ?_)) rfl)))),Q6⟩) ?_
 rotate_left 7
 refine zE (A7 r room) (⟨r.data,r.at_+(Dv x1.n room (((List.length r.data:Nat):Int)-r.at_)),r.script,r.next+1,r.code⟩:Rdr) (fun hm1=>⟨Q11,Q11,Q2,Q11,Q11,Q2,(congrArg S.tup (Ab (congrArg V.agg (Ab (congrArg C.str ?_) (Ab (congrArg (C.int .i64) ?_) (Ab rfl (Ab (congrArg (C.int .i64) ?_) (Ab (congrArg (C.int .i64) ?_) rfl)))))) (Ab (congrArg V.c (congrArg C.str ?_)) (Ab (congrArg V.c (congrArg (C.int .i64) ?_)) rfl)))),Q6⟩) ?_
 rotate_left 7
 refine zE (A7 r room) (⟨r.data,r.at_+(Dv x1.n room (((List.length r.data:Nat):Int)-r.at_)),r.script,r.next+1,r.code⟩:Rdr) (fun hm1=>⟨Q11,Q11,Q2,Q11,Q11,Q2,(congrArg S.tup (Ab (congrArg V.agg (Ab (congrArg C.str ?_) (Ab (congrArg (C.int .i64) ?_) (Ab rfl (Ab (congrArg (C.int .i64) ?_) (Ab (congrArg (C.int .i64) ?_) rfl)))))) (Ab (congrArg V.c (congrArg C.str ?_)) (Ab (congrArg V.c (congrArg (C.int .i64) ?_)) rfl)))),Q6⟩) ?_
 rotate_left 7
 have he:Dm r room=⟨room,1⟩:=Uz (by omega)
 refine⟨(Ad Q2 Q2),(Ad Q2 Q2),(Ajd _ _),(Ajd _ _),(G4 _ _),(Adh (by unfold Dv;omega)),(Ad Q19 Q19),Q30,Q30,dsp (fun h5 p5=>?_) fun h5 p5=>?_⟩
 refine zE (A7 r room) (⟨r.data,r.at_+(Dv room room (((List.length r.data:Nat):Int)-r.at_)),r.script,r.next,1⟩:Rdr) (fun hm1=>⟨Q19,Q19,Q2,Q19,Q19,Q2,(congrArg S.tup (Ab (congrArg V.agg (Ab (congrArg C.str ?_) (Ab (congrArg (C.int .i64) ?_) (Ab rfl (Ab (congrArg (C.int .i64) ?_) (Ab (congrArg (C.int .i64) ?_) rfl)))))) (Ab (congrArg V.c (congrArg C.str ?_)) (Ab (congrArg V.c (congrArg (C.int .i64) ?_)) rfl)))),Q6⟩) ?_
 rotate_left 7
 refine zE (A7 r room) (⟨r.data,r.at_+(Dv room room (((List.length r.data:Nat):Int)-r.at_)),r.script,r.next,r.code⟩:Rdr) (fun hm1=>⟨Q19,Q19,Q2,Q19,Q19,Q2,(congrArg S.tup (Ab (congrArg V.agg (Ab (congrArg C.str ?_) (Ab (congrArg (C.int .i64) ?_) (Ab rfl (Ab (congrArg (C.int .i64) ?_) (Ab (congrArg (C.int .i64) ?_) rfl)))))) (Ab (congrArg V.c (congrArg C.str ?_)) (Ab (congrArg V.c (congrArg (C.int .i64) ?_)) rfl)))),Q6⟩) ?_
 rotate_left 7
 all_goals first|((simp[A7,A2,B0,Va,K5,rsN,Mq, *]<;>omega))|((simp[A7,A2,B0,Va,K5,rsN,Mq, *];done))|((simp_all[A7,A2,B0,Va,K5,rsN,Mq];done))|(grind[A7,A2,B0,Va,K5,rsN,Mq])
structure Com (d:Dcd):Prop where
 lv:Bi d=true
 at_:0≤d.at_∧d.at_≤1000000000
 st:0≤d.start∧d.start≤d.at_
 ut:E4 d.utf=true
 wi:D1 d.wire=true
 fl:d.field=fld0∨Jz d.plan.shapes d.field=true
 en:d.end_=ev0
theorem Jb {d:Dcd} (lv:Bi d=true) (hm:1≤d.mode∧d.mode≤9) (at_:0≤d.at_∧d.at_≤1000000000) (st:0≤d.start∧d.start≤d.at_) (ut:E4 d.utf=true) (wi:D1 d.wire=true) (fl:d.field=fld0∨Jz d.plan.shapes d.field=true)
  (h8:Zj d=true) (h9:J2 d=true) (h10:Ji d=true) (h11:Jj d=true) (h12:J6 d=true):Bv d=true:=by
 simp only[Bv,Bool.and_eq_true,Bool.or_eq_true,decide_eq_true_eq]
 refine⟨⟨⟨⟨⟨⟨⟨⟨⟨⟨⟨lv,?_⟩,?_⟩,?_⟩,ut⟩,wi⟩,fl⟩,h8⟩,h9⟩,h10⟩,h11⟩,h12⟩<;>simp only[Ak,Bool.and_eq_true,decide_eq_true_eq]<;>assumption
theorem Adq {d:Dcd} {c a:Int} (lv:Bi d=true) (at_:0≤d.at_∧d.at_≤1000000000) (st:0≤d.start∧d.start≤d.at_) (ut:E4 d.utf=true) (wi:D1 d.wire=true) (fl:d.field=fld0∨Jz d.plan.shapes d.field=true) (hc:1≤c) (ha:0≤a):Bv (A9 d c a)=true:=by
 have hs:(⟨0,0⟩:Scn)=scn0:=rfl
 refine Jb (B9 lv rfl rfl) (show (1:Int)≤9∧(9:Int)≤9 by decide) at_ st ut wi fl ?_ ?_ ?_ ?_ ?_
 ·simp[Zj,A9,Fn,Mh,Ak,S6,Eo,A3,E0,Dg,hc,ha]
 ·simp[J2,A9]
 ·simp[Ji,A9]
 ·simp[Jj,A9]
 ·simp[J6,A9,Bu,hs]
theorem Com.fail {d:Dcd} (h:Com d) {c a:Int} (hc:1≤c) (ha:0≤a):Bv (A9 d c a)=true:=Adq h.lv h.at_ h.st h.ut h.wi h.fl hc ha
theorem Adr {m:Mac} (h:m.d.mode=9∨m.d.mode=1):A0 m=none:=by
 unfold A0
 rw[if_neg (by omega),if_neg (by omega),if_neg (by omega)]
structure Pre (d:Dcd):Prop extends Com d where
 sc:d.scan=scn0
 ne:0<d.stack.length
 md:(d.mode=2∧d.want=0)∨(d.mode=6∧Gt d.field.kind=true∧0≤d.want∧d.want≤D6 d)∨(d.mode=7∧0≤d.want∧d.want≤D6 d)∨(d.mode=8∧Uu d.field=true∧0≤d.want∧d.want≤D6 d∧(d.want=0∨A4 (Cd d.field.kind)≤d.want))
theorem Sg:Dr scn0=true:=by simp[Dr,scn0,Ak]
theorem Te {d e:Dcd} {k:Nat} (h:Bi d=true) (hp:e.plan=d.plan) (hs:e.stack=d.stack.take k):Bi e=true:=by
 have hb:=B7 h
 refine K4 (by rw[hp];exact hb.1) ?_ fun l hl=>?_
 ·rw[hs,hp];have:=hb.2.1;simp only[List.length_take];omega
 ·rw[hp];rw[hs] at hl;exact hb.2.2.2 l (List.mem_of_mem_take hl)
theorem Ag7:E4 ⟨0,0,0⟩=true:=by decide
set_option maxHeartbeats 3200000 in
theorem Pre.close {d:Dcd} (h:Pre d) (o:List Ev):(A0 ⟨d,o⟩=none∧Bv d=true)∨∃q,A0 ⟨d,o⟩=some q∧(Pre q.d∨(Bv q.d=true∧A0 q=none)):=by
 have hb:=Hu h.lv
 have hsc:=h.sc
 have hne:=h.ne
 have h0:d.scan.have_=0:=by rw[hsc];rfl
 have hb0:d.scan.bits=0:=by rw[hsc];rfl
 have hend:d.mode≠9→Zj d=true:=fun h9=>by unfold Zj;rw[if_neg h9];exact decide_eq_true h.en
 have hst:d.mode≠1→1≤D6 d→J2 d=true:=fun h1 ht=>by unfold J2;rw[if_neg h1];split;rfl;exact decide_eq_true ht
 rcases h.md with ⟨hm,hw⟩|⟨hm,hk,hw0,hw1⟩|⟨hm,hw0,hw1⟩|⟨hm,hk,hw0,hw1,hw2⟩
 ·by_cases ht:D6 d=0
  ·right
   by_cases h1:d.stack.length=1
   ·refine⟨_,Ws hm h0 hne ht h1,.inr ⟨?_,Adr (.inr rfl)⟩⟩
    have hn:d.stack.take (d.stack.length-1)=[]:=by rw[h1];rfl
    refine Jb (Te h.lv rfl rfl) (show (1:Int)≤1∧(1:Int)≤9 by decide) h.at_ h.st h.ut h.wi h.fl ?_ ?_ ?_ ?_ ?_
    ·simp[Zj,h.en]
    ·simp[J2,hn]
    ·simp[Ji,hw]
    ·simp[Jj]
    ·simp[J6,Bu,hsc,Sg]
   ·refine⟨_,Wt hm h0 hne ht h1,.inl ⟨⟨Te h.lv rfl rfl,h.at_,h.st,h.ut,h.wi,h.fl,h.en⟩,hsc,?_,.inl ⟨hm,hw⟩⟩⟩
    simp only[List.length_take];omega
  ·left
   refine⟨?_,?_⟩
   ·unfold A0;simp only;rw[if_neg (by omega),if_neg (by omega),if_neg (by omega)]
   ·refine Jb h.lv (by omega) h.at_ h.st h.ut h.wi h.fl (hend (by omega)) (hst (by omega) (by omega)) ?_ ?_ ?_
    ·simp[Ji,hm,hw]
    ·simp[Jj,hm]
    ·simp[J6,Bu,hm,hsc,Sg]
 ·by_cases hw:d.want<1
  ·right
   by_cases hu:0<d.utf.want
   ·refine⟨Az ⟨d,o⟩ 5 d.at_,by unfold A0;simp only;rw[if_pos ⟨hm,hw⟩,if_pos hu],.inr ⟨h.toCom.fail (by decide) h.at_.1,Adr (.inl rfl)⟩⟩
   ·refine⟨_,by unfold A0;simp only;rw[if_pos ⟨hm,hw⟩,if_neg hu],.inl ⟨⟨B9 h.lv rfl rfl,h.at_,h.st,Ag7,h.wi,h.fl,h.en⟩,hsc,hne,.inl ⟨rfl,rfl⟩⟩⟩
  ·left
   refine⟨?_,?_⟩
   ·unfold A0;simp only;rw[if_neg (by omega),if_neg (by omega),if_neg (by omega)]
   ·refine Jb h.lv (by omega) h.at_ h.st h.ut h.wi h.fl (hend (by omega)) (hst (by omega) (by omega)) ?_ ?_ ?_
    ·simp[Ji,hm,Ak];omega
    ·simp[Jj,hm,hk]
    ·simp[J6,Bu,hm,hsc]
 ·by_cases hw:d.want<1
  ·right
   refine⟨_,by unfold A0;simp only;rw[if_neg (by omega),if_pos ⟨.inl hm,hw⟩],.inl ⟨⟨B9 h.lv rfl rfl,h.at_,h.st,h.ut,h.wi,h.fl,h.en⟩,hsc,hne,.inl ⟨rfl,rfl⟩⟩⟩
  ·left
   refine⟨?_,?_⟩
   ·unfold A0;simp only;rw[if_neg (by omega),if_neg (by omega),if_neg (by omega)]
   ·refine Jb h.lv (by omega) h.at_ h.st h.ut h.wi h.fl (hend (by omega)) (hst (by omega) (by omega)) ?_ ?_ ?_
    ·simp[Ji,hm,Ak];omega
    ·simp[Jj,hm]
    ·simp[J6,Bu,hm,hsc]
 ·by_cases hw:d.want<1
  ·right
   refine⟨_,by unfold A0;simp only;rw[if_neg (by omega),if_pos ⟨.inr ⟨hm,h0⟩,hw⟩],.inl ⟨⟨B9 h.lv rfl rfl,h.at_,h.st,h.ut,h.wi,h.fl,h.en⟩,hsc,hne,.inl ⟨rfl,rfl⟩⟩⟩
  ·left
   refine⟨?_,?_⟩
   ·unfold A0;simp only;rw[if_neg (by omega),if_neg (by omega),if_neg (by omega)]
   ·refine Jb h.lv (by omega) h.at_ h.st h.ut h.wi h.fl (hend (by omega)) (hst (by omega) (by omega)) ?_ ?_ ?_
    ·simp[Ji,hm,Ak];omega
    ·simp[Jj,hm,hk]
    ·have hwd:Bu d=A4 (Cd d.field.kind):=by unfold Bu;rw[if_neg (by omega),if_pos hm]
     have hr:Qc d=d.want:=by unfold Qc;rw[if_pos hm]
     unfold J6
     split
     ·rw[h0,hb0,hr]
      simp[Ak]
      omega
     ·rw[if_neg (by omega),hsc];exact Sg
theorem Pre.settle: ∀(k:Nat) (m:Mac),wM m≤k→Pre m.d→Bv (Af m).d=true:=by
 intro k
 induction k with
 |zero=>
  intro m hk h
  have:=h.ne
  have:m.d.stack.length≤wM m:=by unfold wM;omega
  omega
 |succ k ih=>
  intro m hk h
  rcases h.close m.out with ⟨h1,h2⟩|⟨q,h1,h2⟩
  ·rw[B6 h1];exact h2
  ·rw[Cq h1]
   rcases h2 with h2|⟨h2,h3⟩
   ·exact ih q (by have h3:wM q<wM m:=(Cc h1).1;omega) h2
   ·rw[B6 h3];exact h2
theorem Gd {m:Mac} (h:Pre m.d):Bv (Af m).d=true:=Pre.settle _ m (Nat.le_refl _) h
theorem Aje {d:Dcd} {o:List Ev} {u:Int} (h:Com d) (hw:d.want=0) (hu:0≤u):Bv (C1 ⟨d,o⟩ u).d=true:=by
 unfold C1
 simp only
 split
 ·exact h.fail (by decide) h.st.1
 ·exact Gd ⟨⟨Rz (u:=u) h.lv rfl rfl hu (by omega),h.at_,h.st,h.ut,h.wi,h.fl,h.en⟩,rfl,Nat.zero_lt_one,.inl ⟨rfl,hw⟩⟩
theorem Ajf {d:Dcd} {n:Int} (h:Com d) (hn:d.stack.length≠0):(fieldAt d.plan.shapes (Hz d).msg n).getD fld0=fld0∨Jz d.plan.shapes ((fieldAt d.plan.shapes (Hz d).msg n).getD fld0)=true:=by
 cases hf:fieldAt d.plan.shapes (Hz d).msg n with
 |none=>exact .inl rfl
 |some f=>
  right
  have hb:=B7 h.lv
  have hl:=hb.2.2.2 _ (S9 hn)
  simp only[Fj,Bool.and_eq_true] at hl
  have hl:=As hl.1
  have hk:=(Yd (Cj hb.1).2.1 hf).2
  show Jz d.plan.shapes f=true
  refine Zk (k:=(Hz d).msg.toNat) Q2 ?_
  rw[hk,show (((Hz d).msg.toNat:Nat):Int)=(Hz d).msg by omega];exact hf
theorem An6 {d:Dcd} {o:List Ev} {u:Int} (h:Com d) (hw:d.want=0):Bv (Ew ⟨d,o⟩ u).d=true:=by
 unfold Ew
 simp only
 split
 ·exact h.fail (by decide) h.st.1
 ·rename_i h1
  simp only[not_or] at h1
  have hk:=Ajf (n:=Bw u) h h1.2
  split
  ·exact h.fail (by decide) h.st.1
  ·rename_i h2
   have h2:D1 (Aj u)=true:=by simpa using h2
   split
   ·exact h.fail (by decide) h.st.1
   ·rename_i h3
    split
    ·exact Adq (d:=⟨d.plan,d.mode,d.stack,⟨0,0⟩,d.start,d.at_,(fieldAt d.plan.shapes (Hz d).msg (Bw u)).getD fld0,Aj u,d.want,d.utf,d.end_⟩) (B9 h.lv rfl rfl) h.at_ h.st h.ut h2 hk (by decide) h.at_.1
    ·rename_i h4
     have hfit:(fieldAt d.plan.shapes (Hz d).msg (Bw u)).getD fld0=fld0∨Dk ((fieldAt d.plan.shapes (Hz d).msg (Bw u)).getD fld0) (Aj u)=true:=by
      cases hf:fieldAt d.plan.shapes (Hz d).msg (Bw u) with
      |none=>exact .inl rfl
      |some f=>right;rw[hf] at h3;simpa using h3
     have hwi:Aj u=0∨Aj u=1∨Aj u=2∨Aj u=5:=by
      simp only[D1,Bool.or_eq_true,decide_eq_true_eq] at h2;omega
     have hwb:=Em (Aj u)
     have htop: ∀e:Dcd,e.stack=d.stack→D6 e=D6 d:=fun e he=>by unfold D6;rw[he]
     generalize (fieldAt d.plan.shapes (Hz d).msg (Bw u)).getD fld0=f at *
     generalize Aj u=w at *
     refine Jb (B9 h.lv rfl rfl) ?_ h.at_ h.st h.ut h2 hk ?_ ?_ ?_ ?_ ?_
     ·show 1≤(if w=0 then (3:Int) else if w=2 then 4 else 5)∧(if w=0 then (3:Int) else if w=2 then 4 else 5)≤9
      split<;>(try split)<;>omega
     ·rcases hwi with rfl|rfl|rfl|rfl<;>simp[Zj,h.en]
     ·have:=htop ⟨d.plan,if w=0 then 3 else if w=2 then 4 else 5,d.stack,⟨0,0⟩,d.start,d.at_,f,w,d.want,d.utf,d.end_⟩ rfl
      rcases hwi with rfl|rfl|rfl|rfl<;>simp[J2] at this ⊢ <;>rw[this]<;>omega
     ·rcases hwi with rfl|rfl|rfl|rfl<;>simp[Ji,hw]
     ·rcases hwi with rfl|rfl|rfl|rfl<;>simp[Jj,Akq,A4]<;>exact hfit
     ·have:=htop ⟨d.plan,if w=0 then 3 else if w=2 then 4 else 5,d.stack,⟨0,0⟩,d.start,d.at_,f,w,d.want,d.utf,d.end_⟩ rfl
      rcases hwi with rfl|rfl|rfl|rfl<;>simp[J6,Bu,A4,Qc,Ak,Dr] at this h4 ⊢ <;>rw[this]<;>omega
theorem Amn {f:Fld} (h:f=fld0∨Dk f 2=true) (h0:f≠fld0) (h8:f.kind≠8) (hb:Gt f.kind=false):Uu f=true:=by
 rcases h with h|h
 ·exact absurd h h0
 ·simp only[Dk,Bool.or_eq_true,Bool.and_eq_true,decide_eq_true_eq] at h
  rcases h with h|h
  ·exfalso
   simp only[Gt,Bool.or_eq_false_iff,decide_eq_false_iff_not] at hb
   unfold Cd Ey at h
   split at h
   ·rename_i hk
    have hk:=As hk
    repeat' split at h
    all_goals omega
   ·omega
  ·exact h.2
theorem Amo {d:Dcd} {o:List Ev} {u:Int} (h:Com d) (hw:d.want=0) (hu:0≤u) (hf:d.field=fld0∨Dk d.field 2=true):Bv (Ct ⟨d,o⟩ u).d=true:=by
 unfold Ct
 simp only
 split
 ·exact h.fail (by decide) h.st.1
 ·rename_i h1
  simp only[not_or] at h1
  have hn:0<d.stack.length:=by omega
  split
  ·exact Gd ⟨⟨B9 h.lv rfl rfl,h.at_,h.st,h.ut,h.wi,h.fl,h.en⟩,rfl,hn,.inr (.inr (.inl ⟨rfl,hu,by show u≤D6 d;omega⟩))⟩
  ·rename_i h0
   split
   ·rename_i h8
    split
    ·exact h.fail (by decide) h.st.1
    ·rename_i hd
     have hk:=h.fl.resolve_left h0
     exact Gd ⟨⟨Ta (u:=u) h.lv hk h8 h1.1 Q2 hu Q2 rfl rfl,h.at_,h.st,h.ut,h.wi,h.fl,h.en⟩,rfl,by simp,.inl ⟨rfl,rfl⟩⟩
   ·rename_i h8
    split
    ·rename_i hb
     exact Gd ⟨⟨B9 h.lv rfl rfl,h.at_,h.st,Ag7,h.wi,h.fl,h.en⟩,rfl,hn,.inr (.inl ⟨rfl,hb,hu,by show u≤D6 d;omega⟩)⟩
    ·rename_i hb
     split
     ·exact h.fail (by decide) h.at_.1
     ·rename_i hx
      exact Gd ⟨⟨B9 h.lv rfl rfl,h.at_,h.st,h.ut,h.wi,h.fl,h.en⟩,rfl,hn,.inr (.inr (.inr ⟨rfl,Amn hf h0 h8 (by simpa using hb),hu,by show u≤D6 d;omega,by show u=0∨A4 (Cd d.field.kind)≤u;omega⟩))⟩
theorem Com.start {d:Dcd} (h:Com d) {a:Int} (ha:0≤a∧a≤d.at_):Com (Mp d a):=by
 refine⟨B9 h.lv rfl rfl,h.at_,?_,h.ut,h.wi,h.fl,h.en⟩
 show 0≤(if d.scan.have_=0∧(d.mode=1∨d.mode=2∨d.mode=4) then a else d.start)∧(if d.scan.have_=0∧(d.mode=1∨d.mode=2∨d.mode=4) then a else d.start)≤d.at_
 split
 ·exact ha
 ·exact h.st
theorem Com.scan {d:Dcd} (h:Com d) (s:Scn):Com (Ht d s):=⟨B9 h.lv rfl rfl,h.at_,h.st,h.ut,h.wi,h.fl,h.en⟩
theorem Ag8 {s:Scn} {b:Int} (h0:0≤s.bits) (h:(Ah s b).2=0):Dr (Ah s b).1=true:=by
 unfold Ah at h ⊢
 split at h
 ·simp at h
 ·rename_i hc
  rw[if_neg hc]
  simp only[not_or] at hc
  have hs:Dr s=true:=by simpa using hc.1
  have hb:=As (show Ak b 0 255=true by simpa using hc.2.1)
  have hk:=Vi hs h0
  have hb2: ¬b<128:=fun hx=>by rw[if_pos hx] at h;simp at h
  have h9:s.have_≠9:=fun e=>hc.2.2 ⟨e,by omega⟩
  obtain ⟨u,hv⟩:=s
  simp only at h0 hk h9 ⊢
  obtain ⟨k,rfl⟩:=Int.eq_ofNat_of_zero_le hk.1
  have hk9:k<9:=by omega
  have hu:=hk.2.2
  rw[Int.toNat_natCast] at hu ⊢
  have hp:(0:Int)<2 ^ (7*(k+1)):=Int.pow_pos (by decide)
  have hp2:(2:Int) ^ (7*(k+1))=2 ^ (7*k)*128:=by rw[show 7*(k+1)=7*k+7 by omega,Int.pow_add];rfl
  have hp0:(0:Int)<2 ^ (7*k):=Int.pow_pos (by decide)
  have hm:b % 128*2 ^ (7*k)≤127*2 ^ (7*k):=Int.mul_le_mul_of_nonneg_right (by omega) (by omega)
  have hm0:0≤b % 128*2 ^ (7*k):=Int.mul_nonneg (by omega) (by omega)
  simp only[Dr,Ak,Bool.and_eq_true,decide_eq_true_eq]
  refine⟨⟨by omega,by omega⟩,?_⟩
  rw[show min (Int.toNat (7*((k:Int)+1))) 64=7*(k+1) by omega,Int.fdiv_eq_ediv_of_nonneg _ (Int.le_of_lt hp)]
  exact Int.ediv_eq_zero_of_lt Q2 Q2
theorem An7 {d:Dcd} {o:List Ev} {b a:Int} (h:Com d) (hb:0≤d.scan.bits∧d.scan.bits≤18446744073709551615) (ha:0≤a∧a≤d.at_) (h1:d.mode=1→d.stack=[]) (hn:d.mode≠1→0<d.stack.length) (hk:Jj d=true)
  (hm:((d.mode=1∨d.mode=2∨d.mode=3∨d.mode=4)∧d.want=0)∨(d.mode=8∧A4 (Cd d.field.kind)=0∧0≤d.want∧d.want≤D6 d)):Bv (Bx ⟨d,o⟩ b a).d=true:=by
 have hcs:=h.start ha
 have hbt:=Hu h.lv
 have hbb:=Qx (b:=b) hb.1 hb.2
 unfold Bx
 simp only
 split
 ·exact hcs.fail (by decide) ha.1
 ·split
  ·rename_i hc
   have hsn:=Ag8 hb.1 hc
   unfold Wq
   simp only
   split
   ·exact(hcs.scan _).fail (by decide) h.at_.1
   ·rename_i hx
    simp only[not_or,not_and] at hx
    have hcc:=hcs.scan (Ah d.scan b).1
    refine Jb hcc.lv (show 1≤d.mode∧d.mode≤9 by omega) hcc.at_ hcc.st hcc.ut hcc.wi hcc.fl ?_ ?_ ?_ hk ?_
    ·show (if d.mode=9 then _ else _)=true
     rw[if_neg (by omega)];exact decide_eq_true h.en
    ·show (if d.mode=1 then decide (d.stack=[]) else if d.mode=9 then true else decide (1≤D6 d))=true
     split
     ·rename_i hm1;exact decide_eq_true (h1 hm1)
     ·rename_i hm1
      rw[if_neg (by omega)];exact decide_eq_true (by have:=hx.1 hm1;omega)
    ·show (if d.mode=6∨d.mode=7∨d.mode=8 then Ak d.want 1 (D6 d) else decide (d.want=0))=true
     split
     ·have:=hx.2 (by omega)
      simp only[Ak,Bool.and_eq_true,decide_eq_true_eq];omega
     ·exact decide_eq_true (by omega)
    ·have hw:Bu (Ht (Mp d a) (Ah d.scan b).1)=0:=by
      show (if d.mode=5 then A4 d.wire else if d.mode=8 then A4 (Cd d.field.kind) else 0)=0
      rw[if_neg (by omega)]
      split<;>omega
     unfold J6
     rw[hw,if_neg (by decide)]
     show (if d.mode=6∨d.mode=7∨d.mode=9 then decide ((Ah d.scan b).1=scn0) else Dr (Ah d.scan b).1)=true
     rw[if_neg (by omega)]
     exact hsn
  ·split
   ·rename_i hm1
    exact Aje (hcs.scan _) (show d.want=0 by omega) hbb.1
   ·split
    ·rename_i hm1
     exact An6 (hcs.scan _) (show d.want=0 by omega)
    ·split
     ·rename_i hm1
      refine Amo (hcs.scan _) (show d.want=0 by omega) hbb.1 ?_
      unfold Jj at hk
      rw[if_neg (by omega),if_neg (by omega),if_neg (by omega),if_pos hm1] at hk
      simp only[Bool.and_eq_true,decide_eq_true_eq,Akq,Bool.or_eq_true] at hk
      rw[hk.1] at hk
      exact hk.2
     ·rename_i hc1 hc2 hc3 hc4 hc5
      have hcc:=hcs.scan scn0
      refine Gd ⟨⟨B9 hcc.lv rfl rfl,hcc.at_,hcc.st,hcc.ut,hcc.wi,hcc.fl,hcc.en⟩,rfl,hn hc3,?_⟩
      rcases hm with hm|hm
      ·exact .inl ⟨by show (if d.mode=8 then (8:Int) else 2)=2;rw[if_neg (by omega)],hm.2⟩
      ·refine .inr (.inr (.inr ⟨by show (if d.mode=8 then (8:Int) else 2)=8;rw[if_pos hm.1],?_,hm.2.2.1,hm.2.2.2,?_⟩))
       ·unfold Jj at hk
        rw[if_neg (by omega),if_pos hm.1] at hk
        exact hk
       ·right;show A4 (Cd d.field.kind)≤d.want;omega
theorem Ajg {s:Scn} {b w:Int} (h:0≤s.have_∧s.have_+1<w) (hw:w≤8) (hf:Int.fdiv s.bits (2 ^ min (Int.toNat (8*s.have_)) 64)=0) (hb:0≤b∧b≤255):(Bz s b).have_=s.have_+1∧Int.fdiv (Bz s b).bits (2 ^ min (Int.toNat (8*(s.have_+1))) 64)=0:=by
 obtain ⟨u,hv⟩:=s
 simp only at h hf
 unfold Bz
 rw[if_pos ⟨by simp only[Ak,Bool.and_eq_true,decide_eq_true_eq];omega,by simp only[Ak,Bool.and_eq_true,decide_eq_true_eq];omega⟩]
 refine⟨rfl,?_⟩
 simp only
 obtain ⟨k,rfl⟩:=Int.eq_ofNat_of_zero_le h.1
 have hk:k<7:=by omega
 rw[show min (Int.toNat (8*(k:Int))) 64=8*k by omega] at hf ⊢
 rw[show min (Int.toNat (8*((k:Int)+1))) 64=8*(k+1) by omega]
 have hp0:(0:Int)<2 ^ (8*k):=Int.pow_pos (by decide)
 have hp:(0:Int)<2 ^ (8*(k+1)):=Int.pow_pos (by decide)
 have hp2:(2:Int) ^ (8*(k+1))=2 ^ (8*k)*256:=by rw[show 8*(k+1)=8*k+8 by omega,Int.pow_add];rfl
 have hp3:(2:Int) ^ (8*(k+1))≤2 ^ 56:=by
  rcases (show k=0∨k=1∨k=2∨k=3∨k=4∨k=5∨k=6 by omega) with rfl|rfl|rfl|rfl|rfl|rfl|rfl<;>decide
 have hp56:(2:Int) ^ 56=72057594037927936:=rfl
 rw[Int.fdiv_eq_ediv_of_nonneg _ (Int.le_of_lt hp0)] at hf
 have hd:=Int.mul_ediv_add_emod u (2 ^ (8*k))
 rw[hf,Int.mul_zero,Int.zero_add] at hd
 have hu0:=Int.emod_nonneg u (show (2:Int) ^ (8*k)≠0 by omega)
 have hu1:=Int.emod_lt_of_pos u hp0
 have hm:b*2 ^ (8*k)≤255*2 ^ (8*k):=Int.mul_le_mul_of_nonneg_right (by omega) (by omega)
 have hm0:0≤b*2 ^ (8*k):=Int.mul_nonneg (by omega) (by omega)
 rw[Int.fdiv_eq_ediv_of_nonneg _ (Int.le_of_lt hp),IntKind.wrap_u64,IntKind.wrap_u64]
 have e1:b*2 ^ (8*k) % 18446744073709551616=b*2 ^ (8*k):=Int.emod_eq_of_lt hm0 (by omega)
 rw[e1,Int.emod_eq_of_lt (by omega) (by omega)]
 exact Int.ediv_eq_zero_of_lt Q2 Q2
theorem An8 {d:Dcd} {o:List Ev} {b:Int} (h:Com d) (hn:0<d.stack.length) (hk:Jj d=true) (hb:0≤b∧b≤255) (h0:0≤d.scan.have_∧d.scan.have_≤Bu d-1) (hf:Int.fdiv d.scan.bits (2 ^ min (Int.toNat (8*d.scan.have_)) 64)=0) (hr:Bu d-d.scan.have_-1≤Qc d)
  (hm:(d.mode=5∧d.want=0)∨(d.mode=8∧0≤d.want∧d.want≤D6 d)):Bv (D2 ⟨d,o⟩ b).d=true:=by
 have hbt:=Hu h.lv
 have hwb:0≤Bu d∧Bu d≤8:=by
  have h1:=Em d.wire
  have h2:=Em (Cd d.field.kind)
  unfold Bu
  split
  ·omega
  ·split<;>omega
 have hro:Qc d=if d.mode=8 then d.want else D6 d:=rfl
 unfold D2
 simp only
 split
 ·rename_i hx
  have h1:d.scan.have_+1<Bu d:=by
   unfold Bz at hx
   rw[if_pos ⟨by simp only[Ak,Bool.and_eq_true,decide_eq_true_eq];omega,by simp only[Ak,Bool.and_eq_true,decide_eq_true_eq];omega⟩] at hx
   exact hx
  have hfn:=Ajg ⟨h0.1,h1⟩ hwb.2 hf hb
  have hcc:=h.scan (Bz d.scan b)
  refine Jb hcc.lv (show 1≤d.mode∧d.mode≤9 by omega) hcc.at_ hcc.st hcc.ut hcc.wi hcc.fl ?_ ?_ ?_ hk ?_
  ·show (if d.mode=9 then _ else _)=true
   rw[if_neg (by omega)];exact decide_eq_true h.en
  ·show (if d.mode=1 then decide (d.stack=[]) else if d.mode=9 then true else decide (1≤D6 d))=true
   rw[if_neg (by omega),if_neg (by omega)]
   refine decide_eq_true ?_
   split at hro<;>omega
  ·show (if d.mode=6∨d.mode=7∨d.mode=8 then Ak d.want 1 (D6 d) else decide (d.want=0))=true
   split
   ·rw[if_pos (by omega)] at hro
    simp only[Ak,Bool.and_eq_true,decide_eq_true_eq];omega
   ·exact decide_eq_true (by omega)
  ·have hw:Bu (Ht d (Bz d.scan b))=Bu d:=rfl
   have hrr:Qc (Ht d (Bz d.scan b))=Qc d:=rfl
   have hss:(Ht d (Bz d.scan b)).scan=Bz d.scan b:=rfl
   unfold J6
   rw[hw,if_pos (by omega),hrr,hss,hfn.1]
   simp only[Ak,Bool.and_eq_true,decide_eq_true_eq]
   exact⟨⟨⟨by omega,by omega⟩,hfn.2⟩,by omega⟩
 ·have hcc:=h.scan scn0
  have hcv:Com (Br ⟨Ht d scn0,o⟩ (Bz d.scan b).bits).d:=⟨B9 hcc.lv rfl rfl,hcc.at_,hcc.st,hcc.ut,hcc.wi,hcc.fl,hcc.en⟩
  split
  ·exact hcv.fail (by decide) h.at_.1
  ·rename_i hx
   refine Gd ⟨hcv,rfl,hn,?_⟩
   rcases hm with hm|hm
   ·exact .inl ⟨by show (if d.mode=8 then (8:Int) else 2)=2;rw[if_neg (by omega)],hm.2⟩
   ·have hw:Bu d=A4 (Cd d.field.kind):=by unfold Bu;rw[if_neg (by omega),if_pos hm.1]
    refine .inr (.inr (.inr ⟨by show (if d.mode=8 then (8:Int) else 2)=8;rw[if_pos hm.1],?_,hm.2.1,hm.2.2,?_⟩))
    ·unfold Jj at hk
     rw[if_neg (by omega),if_pos hm.1] at hk
     exact hk
    ·show d.want=0∨A4 (Cd d.field.kind)≤d.want
     omega
theorem Amp {d:Dcd} {o:List Ev} {b:Int} (h:Com d) (h1:1≤d.at_) (hm:d.mode=6) (hk:Gt d.field.kind=true) (hw:0≤d.want∧d.want≤D6 d) (hn:0<d.stack.length) (hs:d.scan=scn0):Bv (Ez ⟨d,o⟩ b).d=true:=by
 unfold Ez
 simp only
 split
 ·split
  ·exact h.fail (by decide) (by omega)
  ·rename_i u hu
   exact Gd ⟨⟨B9 h.lv rfl rfl,h.at_,h.st,Aeq hu,h.wi,h.fl,h.en⟩,hs,hn,.inr (.inl ⟨hm,hk,hw.1,hw.2⟩)⟩
 ·exact Gd ⟨h,hs,hn,.inr (.inl ⟨hm,hk,hw.1,hw.2⟩)⟩
theorem Akt {u:Int} {k:Nat} (hk:k≤64) (h:Int.fdiv u (2 ^ k)=0):0≤u∧u≤18446744073709551615:=by
 have hp0:(0:Int)<2 ^ k:=Int.pow_pos (by decide)
 rw[Int.fdiv_eq_ediv_of_nonneg _ (Int.le_of_lt hp0)] at h
 have hd:=Int.mul_ediv_add_emod u (2 ^ k)
 rw[h,Int.mul_zero,Int.zero_add] at hd
 have hu0:=Int.emod_nonneg u (show (2:Int) ^ k≠0 by omega)
 have hu1:=Int.emod_lt_of_pos u hp0
 have hp:(2:Nat) ^ k≤2 ^ 64:=Nat.pow_le_pow_right (by decide) hk
 have hc:((2 ^ k:Nat):Int)=(2:Int) ^ k:=by simp
 have h64:(2:Nat) ^ 64=18446744073709551616:=rfl
 omega
theorem Qz {d:Dcd} (h:Bv d=true):0≤d.scan.bits∧d.scan.bits≤18446744073709551615:=by
 have hs:=(Mi h).2.2.2.2.2.2.2.2.2.2.2
 unfold J6 at hs
 split at hs
 ·simp only[Bool.and_eq_true,decide_eq_true_eq] at hs
  exact Akt (Nat.min_le_right _ _) hs.1.2
 ·split at hs
  ·have e:d.scan=scn0:=of_decide_eq_true hs
   rw[e];decide
  ·simp only[Dr,Bool.and_eq_true,decide_eq_true_eq] at hs
   exact Akt (Nat.min_le_right _ _) hs.2
theorem Ag9 {d:Dcd} (h:d.stack.length≠0):D6 (Df d)=D6 d-1:=by
 show (List.getD (Df d).stack ((Df d).stack.length-1) Ao8).left=_
 rw[Hb]
 unfold Df
 simp only
 rw[if_neg h,List.getD_eq_getElem?_getD,List.getElem?_set_self (by omega)]
 rfl
theorem Amq {d:Dcd} {o:List Ev} {b:Int} (hok:Bv d=true) (h9:d.mode≠9) (hat:d.at_<1000000000) (hb:0≤b∧b≤255):Bv (Ep ⟨d,o⟩ b).d=true:=by
 obtain ⟨lv,hm,hat0,hst,hut,hwi,hfl,hen,hsk,hwd,hkd,hsc⟩:=Mi hok
 have hbits:=Qz hok
 have hs:=Zr hok h9
 have hms:=(Zq hok hbits).step hs.1 hs.2.1 hs.2.2.1
 have hw:=Zp hwd
 have hc:Com (Df d):=⟨hms.lv,(show 0≤d.at_+1∧d.at_+1≤1000000000 by omega),(show 0≤d.start∧d.start≤d.at_+1 by omega),hut,hwi,hfl,hs.2.2.2.2⟩
 have hk:Jj (Df d)=true:=hkd
 have htp:d.mode≠1→1≤D6 d:=fun h1=>by unfold J2 at hsk;rw[if_neg h1,if_neg h9] at hsk;exact of_decide_eq_true hsk
 have hn:d.mode≠1→0<d.stack.length:=fun h1=>by
  have:=htp h1
  by_cases h0:d.stack.length=0
  ·rw[Zn (List.eq_nil_of_length_eq_zero h0)] at this;omega
  ·omega
 have hns:d.mode≠1→0<(Df d).stack.length:=fun h1=>by rw[Hb];exact hn h1
 have ht:d.mode≠1→D6 (Df d)=D6 d-1:=fun h1=>Ag9 (by have:=hn h1;omega)
 have hwa:(Df d).want=if d.mode=6∨d.mode=7∨d.mode=8 then d.want-1 else d.want:=rfl
 have hwb:=Em (Cd d.field.kind)
 unfold Ep
 simp only
 split
 ·rename_i h6
  have hw1:=hw.1 (by omega)
  rw[if_pos (by omega)] at hwa
  have ht:=ht (by omega)
  refine Amp hc (show 1≤d.at_+1 by omega) h6 ?_ Q2 (hns Q2) ?_
  ·unfold Jj at hkd;rw[if_pos h6] at hkd;exact hkd
  ·unfold J6 Bu at hsc
   rw[if_neg (show¬d.mode=5 by omega),if_neg (show¬d.mode=8 by omega),if_neg (by decide),if_pos (by omega)] at hsc
   exact of_decide_eq_true hsc
 ·split
  ·rename_i h6 h7
   have hw1:=hw.1 (by omega)
   rw[if_pos (by omega)] at hwa
   have ht:=ht (by omega)
   refine Gd ⟨hc,?_,hns Q2,.inr (.inr (.inl ⟨h7,by show 0≤(Df d).want;omega,by show (Df d).want≤D6 (Df d);omega⟩))⟩
   unfold J6 Bu at hsc
   rw[if_neg (show¬d.mode=5 by omega),if_neg (show¬d.mode=8 by omega),if_neg (by decide),if_pos (by omega)] at hsc
   exact of_decide_eq_true hsc
  ·rename_i h6 h7
   split
   ·rename_i h0
    unfold J6 at hsc
    rw[if_pos h0] at hsc
    simp only[Bool.and_eq_true,decide_eq_true_eq] at hsc
    have hh:=As hsc.1.1
    have hwe:Bu (Df d)=Bu d:=rfl
    have hmm:d.mode=5∨d.mode=8:=by unfold Bu at h0;split at h0<;>(try split at h0)<;>omega
    have ht:=ht (by omega)
    have hr1:Qc d=if d.mode=8 then d.want else D6 d:=rfl
    have hr2:Qc (Df d)=if d.mode=8 then (Df d).want else D6 (Df d):=rfl
    refine An8 hc (hns Q2) hk hb (by rw[hwe];exact hh) hsc.1.2 ?_ ?_
    ·rw[hwe]
     show Bu d-d.scan.have_-1≤Qc (Df d)
     rcases hmm with h5|h8
     ·rw[if_neg (by omega)] at hr1 hr2;omega
     ·rw[if_pos h8] at hr1 hr2;rw[if_pos (by omega)] at hwa;omega
    ·rcases hmm with h5|h8
     ·rw[if_neg (by omega)] at hwa
      exact .inl ⟨h5,by rw[hwa];exact hw.2 Q2⟩
     ·rw[if_pos (by omega)] at hwa
      have hw1:=hw.1 (by omega)
      exact .inr ⟨h8,by omega,by omega⟩
   ·rename_i h0
    have h5:d.mode≠5:=fun h5=>by
     unfold Jj at hkd
     rw[if_neg (by omega),if_neg (by omega),if_neg (by omega),if_neg (by omega),if_pos h5] at hkd
     simp only[Bool.and_eq_true,decide_eq_true_eq] at hkd
     unfold Bu at h0
     rw[if_pos h5] at h0
     omega
    refine An7 hc hbits (show 0≤d.at_∧d.at_≤d.at_+1 by omega) (fun h1=>?_) hns hk ?_
    ·unfold J2 at hsk
     rw[if_pos (show d.mode=1 from h1)] at hsk
     have e:d.stack=[]:=of_decide_eq_true hsk
     exact List.eq_nil_of_length_eq_zero (by rw[Hb,e];rfl)
    ·by_cases h8:d.mode=8
     ·rw[if_pos (by omega)] at hwa
      have hw1:=hw.1 (by omega)
      have ht:=ht (by omega)
      refine .inr ⟨h8,?_,by omega,by omega⟩
      unfold Bu at h0
      rw[if_neg (by omega),if_pos h8] at h0
      show A4 (Cd d.field.kind)=0
      omega
     ·rw[if_neg (by omega)] at hwa
      exact .inl ⟨(show d.mode=1∨d.mode=2∨d.mode=3∨d.mode=4 by omega),by rw[hwa];exact hw.2 Q2⟩
def K8 (o:List Ev) (m:Mac):Mac:=⟨m.d,o++m.out⟩
theorem Fr (o:List Ev) (m:Mac) (c a:Int):Az (K8 o m) c a=K8 o (Az m c a):=by simp[Az,K8,List.append_assoc]
theorem Yn (o:List Ev) (m:Mac):A0 (K8 o m)=(A0 m).map (K8 o):=by
 have hd:(K8 o m).d=m.d:=rfl
 unfold A0
 rw[hd]
 split
 ·split<;>simp[Az,K8,List.append_assoc]
 ·split
  ·simp[K8]
  ·split
   ·split<;>simp[K8,List.append_assoc]
   ·rfl
theorem Lq (o:List Ev): ∀(m:Mac),Af (K8 o m)=K8 o (Af m):=by
 suffices ∀(k:Nat) (m:Mac),wM m≤k→Af (K8 o m)=K8 o (Af m) from fun m=>this _ m (Nat.le_refl _)
 intro k
 induction k with
 |zero=>
  intro m hk
  have hp:=Yn o m
  cases h:A0 m with
  |none=>rw[B6 h];rw[h] at hp;exact B6 hp
  |some q=>have:=(Cc h).1;omega
 |succ k ih=>
  intro m hk
  have hp:=Yn o m
  cases h:A0 m with
  |none=>rw[B6 h];rw[h] at hp;exact B6 hp
  |some q=>
   rw[h] at hp
   rw[Cq h,Cq hp]
   exact ih q (by have:=(Cc h).1;omega)
theorem E5 {o:List Ev} {d:Dcd} {p r:List Ev} (h:r=o++p):Af ⟨d,r⟩=K8 o (Af ⟨d,p⟩):=by subst h;exact Lq o ⟨d,p⟩
theorem Aeu (o:List Ev) (m:Mac) (u:Int):C1 (K8 o m) u=K8 o (C1 m u):=by
 have hd:(K8 o m).d=m.d:=rfl
 unfold C1
 rw[hd]
 split
 ·exact Fr _ _ _ _
 ·exact E5 (List.append_assoc _ _ _)
theorem Ajh (o:List Ev) (m:Mac) (u:Int):Ew (K8 o m) u=K8 o (Ew m u):=by
 have hd:(K8 o m).d=m.d:=rfl
 unfold Ew
 rw[hd]
 split
 ·exact Fr _ _ _ _
 ·split
  ·exact Fr _ _ _ _
  ·split
   ·exact Fr _ _ _ _
   ·split
    ·simp[Az,K8,List.append_assoc]
    ·rfl
theorem Aha (o:List Ev) (m:Mac) (u:Int):Ct (K8 o m) u=K8 o (Ct m u):=by
 have hd:(K8 o m).d=m.d:=rfl
 unfold Ct
 rw[hd]
 split
 ·exact Fr _ _ _ _
 ·split
  ·exact E5 rfl
  ·split
   ·split
    ·exact Fr _ _ _ _
    ·exact E5 (List.append_assoc _ _ _)
   ·split
    ·exact E5 (List.append_assoc _ _ _)
    ·split
     ·exact Fr _ _ _ _
     ·exact E5 rfl
theorem T6 (o:List Ev) (m:Mac) (u:Int):Br (K8 o m) u=K8 o (Br m u):=by
 unfold Br K8
 simp only
 by_cases h:m.d.field=fld0<;>simp[h,List.append_assoc]
theorem Aji (o:List Ev) (m:Mac) (b a:Int):Bx (K8 o m) b a=K8 o (Bx m b a):=by
 have hd:(K8 o m).d=m.d:=rfl
 have hq: ∀d:Dcd,(⟨d,(K8 o m).out⟩:Mac)=K8 o ⟨d,m.out⟩:=fun _=>rfl
 unfold Bx
 simp only[hd,hq]
 split
 ·exact Fr _ _ _ _
 ·split
  ·unfold Wq
   rw[hd]
   split
   ·exact Fr _ _ _ _
   ·rfl
  ·split
   ·exact Aeu _ _ _
   ·split
    ·exact Ajh _ _ _
    ·split
     ·exact Aha _ _ _
     ·rw[T6,Lq]
theorem Ajj (o:List Ev) (m:Mac) (b:Int):D2 (K8 o m) b=K8 o (D2 m b):=by
 have hd:(K8 o m).d=m.d:=rfl
 have hq: ∀d:Dcd,(⟨d,(K8 o m).out⟩:Mac)=K8 o ⟨d,m.out⟩:=fun _=>rfl
 unfold D2
 simp only[hd,hq]
 split
 ·rfl
 ·split
  ·rw[T6,Fr]
  ·rw[T6,Lq]
theorem Ahb (o:List Ev) (m:Mac) (b:Int):Ez (K8 o m) b=K8 o (Ez m b):=by
 have hd:(K8 o m).d=m.d:=rfl
 unfold Ez
 rw[hd]
 split
 ·split
  ·exact Fr _ _ _ _
  ·exact E5 (List.append_assoc _ _ _)
 ·exact E5 (List.append_assoc _ _ _)
theorem Ahc (o:List Ev) (m:Mac) (b:Int):Ep (K8 o m) b=K8 o (Ep m b):=by
 have hd:(K8 o m).d=m.d:=rfl
 have hq: ∀d:Dcd,(⟨d,(K8 o m).out⟩:Mac)=K8 o ⟨d,m.out⟩:=fun _=>rfl
 unfold Ep
 simp only[hd,hq]
 split
 ·exact Ahb _ _ _
 ·split
  ·exact Lq _ _
  ·split
   ·exact Ajj _ _ _
   ·exact Aji _ _ _ _
def Rr (m:Mac) (b:Int):Mac:=⟨(Cp m.d b).d,m.out++(Cp m.d b).out⟩
def Cv (m:Mac) (s:List UInt8):Mac:=s.foldl (fun m b=>Rr m (b.toNat:Int)) m
theorem Aa9 (m:Mac):Cv m []=m:=rfl
theorem G0 (m:Mac) (b:UInt8) (r:List UInt8):Cv m (b::r)=Cv (Rr m (b.toNat:Int)) r:=List.foldl_cons ..
theorem Aev {d:Dcd} {b:Int} (hok:Bv d=true) (ht:Fi d=true) (hb:0≤b∧b≤255):Cp d b=Ep ⟨d,[]⟩ b:=by
 unfold Cp
 rw[if_pos ⟨hok,ht,by simp only[Ak,Bool.and_eq_true,decide_eq_true_eq];exact hb⟩]
theorem Aew {m:Mac} {b:Int} (hok:Bv m.d=true) (ht:Fi m.d=true) (hb:0≤b∧b≤255):Rr m b=Ep m b:=by
 have h:=Ahc m.out ⟨m.d,[]⟩ b
 have e:K8 m.out ⟨m.d,[]⟩=m:=by cases m;simp[K8]
 rw[e] at h
 unfold Rr
 rw[Aev hok ht hb,h];rfl
theorem Ads {d:Dcd} {b:Int} (h:Bv d=false∨Fi d=false):Cp d b=⟨d,[]⟩:=by
 unfold Cp
 rw[if_neg]
 rintro ⟨h1,h2,-⟩
 rcases h with h|h
 ·rw[h] at h1;cases h1
 ·rw[h] at h2;cases h2
theorem Adt {m:Mac} {b:Int} (h:Bv m.d=false∨Fi m.d=false):Rr m b=m:=by
 unfold Rr
 rw[Ads h]
 cases m;simp
theorem Adu {d:Dcd} (h:Fi d=true):d.mode≠9∧d.at_<1000000000:=by
 simpa only[Fi,Bool.and_eq_true,Bool.not_eq_true',decide_eq_false_iff_not,decide_eq_true_eq] using h
theorem Zv {d:Dcd} {b:Int} (hok:Bv d=true):Bv (Cp d b).d=true:=by
 unfold Cp
 split
 ·rename_i h
  have ht:=Adu h.2.1
  exact Amq hok ht.1 ht.2 (As h.2.2)
 ·exact hok
theorem Aba {m:Mac} (h:Bv m.d=false): ∀s:List UInt8,Cv m s=m
 |[]=>rfl
 |b::r=>by rw[G0,Adt (.inl h)];exact Aba h r
theorem Zw {m:Mac} (h:Fi m.d=false): ∀s:List UInt8,Cv m s=m
 |[]=>rfl
 |b::r=>by rw[G0,Adt (.inr h)];exact Zw h r
theorem Aex {m:Mac} (h:Fi m.d=false) (s r:List UInt8):Cv m s=Cv m r:=by rw[Zw h,Zw h]
theorem Qd {d:Dcd} {b:Int} :(Cp d b).d.plan=d.plan∧((Cp d b).d.stack.length:Int)≤max (d.stack.length:Int) 8∧(Cp d b).out.length≤14∧((0≤d.scan.bits∧d.scan.bits≤18446744073709551615)→0≤(Cp d b).d.scan.bits∧(Cp d b).d.scan.bits≤18446744073709551615):=by
 cases hok:Bv d with
 |false=>rw[Ads (.inl hok)];exact⟨rfl,by simp only;omega,by simp,fun h=>h⟩
 |true=>
  have h1:=Zv (b:=b) hok
  have h2:=B7 (Mi hok).1
  have h3:=B7 (Mi h1).1
  exact⟨Aer.1,by omega,by have:=Ag5 (d:=d) (b:=b);omega,fun _=>Qz h1⟩
theorem Aph (b:UInt8):(0:Int)≤(b.toNat:Int)∧(b.toNat:Int)≤255:=by have:=b.toNat_lt;omega
theorem Wx: ∀(s:List UInt8) (m:Mac),(Cv m s).d.plan=m.d.plan∧((Cv m s).d.stack.length:Int)≤max (m.d.stack.length:Int) 8∧(Cv m s).out.length≤m.out.length+14*s.length∧((0≤m.d.scan.bits∧m.d.scan.bits≤18446744073709551615)→0≤(Cv m s).d.scan.bits∧(Cv m s).d.scan.bits≤18446744073709551615)
 |[],m=>⟨rfl,by show (m.d.stack.length:Int)≤_;omega,Nat.le_refl _,fun h=>h⟩
 |b::r,m=>by
  have h1:=Qd (d:=m.d) (b:=(b.toNat:Int))
  have h2:=Wx r (Rr m (b.toNat:Int))
  rw[G0]
  have e1:(Rr m (b.toNat:Int)).d=(Cp m.d (b.toNat:Int)).d:=rfl
  have e2:(Rr m (b.toNat:Int)).out.length=m.out.length+(Cp m.d (b.toNat:Int)).out.length:=by simp[Rr]
  rw[e1,e2] at h2
  refine⟨h2.1.trans h1.1,by omega,by simp only[List.length_cons];omega,fun h=>h2.2.2.2 (h1.2.2.2 h)⟩
end Go.Proofs.YtphecbmdhbphgaaGreat.Ax
