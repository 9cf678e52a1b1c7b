/- Models. Models: the machine. Models: the machine's steps. Models: bytes, whole inputs. Numbers. Varints. Numbers of so Ah0 bytes; tags. Utf-8. -/
import Derived.Test.YtphecbmdhbphgaaGreatKB4
set_option linter.unusedSimpArgs false
set_option linter.unusedVariables false
namespace Go.Proofs.YtphecbmdhbphgaaGreat.Ax
open Go.RowKit
theorem Ag {α:Type} {a b:α} {l m:List α} (h:a=b) (t:l=m):a::l=b::m:=by rw[h,t]
def vI (x:Int):V:= .c (.int .i64 x)
def vB (x:Bool):V:= .c (.bool x)
def vT (x:List UInt8):V:= .c (.str x)
def vO (j:Nat):V:= .c (.own j)
def vP (j:Nat):V:= .c (.ptr j 0)
theorem sB {a b:Bool} (h:a=b):(.v (.c (.bool a)):S)= .v (.c (.bool b)):=by rw[h]
theorem sI {a b:Int} (h:a=b):(.v (.c (.int .i64 a)):S)= .v (.c (.int .i64 b)):=by rw[h]
theorem dT {p:Prop} [Decidable p]:decide p=true↔p:=decide_eq_true_iff
theorem dF {p:Prop} [Decidable p]:decide p=false↔¬p:=decide_eq_false_iff_not
theorem Cb {a b:Bool} {P Q:Prop} (h:a=true↔P) (g:b=true↔Q):(a&&b)=true↔P∧Q:=by rw[Bool.and_eq_true,h,g]
theorem Cc {a b:Bool} {P Q:Prop} (h:a=true↔P) (g:b=false↔Q):(a&&b)=false↔(P→Q):=by rw[Bool.and_eq_false_imp,h,g]
theorem orT {a b:Bool} {P Q:Prop} (h:a=true↔P) (g:b=true↔Q):(a||b)=true↔P∨Q:=by rw[Bool.or_eq_true,h,g]
theorem orF {a b:Bool} {P Q:Prop} (h:a=false↔P) (g:b=false↔Q):(a||b)=false↔P∧Q:=by rw[Bool.or_eq_false_iff,h,g]
theorem Bh {F:Fam} {j:F.ι} {tm:List (Nat×S)} {H:List Blk} (h1:tm=F.tm j) (h2:H=F.H j) (h:F.inv j):F.Has tm H:=⟨j,h,h1,h2⟩
theorem Bb {F:Fam} {i j:F.ι} {tm:List (Nat×S)} {H:List Blk} (h1:tm=F.tm j) (h2:H=F.H j) (h:F.inv j) (hm:F.mu j<F.mu i):F.Nxt i tm H:=⟨j,⟨h,hm⟩,h1,h2⟩
abbrev In {α:Type} (P Q:α→Prop):Prop:=(∃o,P o)∧∀o,P o→Q o
theorem Ar {P : Program} {f : FuncId} {fn : Func} (hf : P.funcs[f]? = some fn) (hb : fn.body.isNone = false) (hn : (fn.name == "runtime.NumGoroutine") = false) {args : List V} {L L' : List Blk} {r : S} {w : DT Unit × Prop}
  (hw:Zv P fn args L w.1 (fun _ r' Lp=>r'=r∧Lp=L')=w.2) (h:w.2):Fun P f args L r L':=Agp hf hb hn hw h
theorem Bv {P : Program} {ι : Type} {f : FuncId} {fn : Func} (hf : P.funcs[f]? = some fn) (hb : fn.body.isNone = false) (hn : (fn.name == "runtime.NumGoroutine") = false) {args : List V} {L : List Blk} {L' : ι → List Blk} {r : ι → S} {good : ι → Prop} {w : DT ι × Prop}
  (hw:Zv P fn args L w.1 (fun i r' Lp=>good i∧r'=r i∧Lp=L' i)=w.2) (h:w.2): ∃i,good i∧Fun P f args L (r i) (L' i):=Aff hf hb hn hw h
abbrev Bc (p:Bool) (A B:Prop):Prop:=(p=true→A)∧(p=false→B)
abbrev Lf (a b:S) (x y:List Blk):Prop:=a=b∧x=y
abbrev Sx {α:Type} (o:Option α):α→Prop:=fun x=>o=some x
abbrev El {α:Type} (o:Option α) (Q:α→Prop):Prop:=(∃x,o=some x)∧∀x,o=some x→Q x
abbrev wI (x:Int):Prop:=(.v (vI (IntKind.i64.wrap x)):S)= .v (vI x)
abbrev wU (x:Int):Prop:=(.v (.c (.int .u64 (IntKind.u64.wrap x))):S)= .v (.c (.int .u64 x))
abbrev Fp:=Fun Tryz.prog
theorem zE {β:Type} {p:Prop} (a b:β) (h:a=b→p) (h1:a=b):p:=h h1
theorem zD {β γ:Type} {p:Prop} (a b:β) (c d:γ) (h:a=b→c=d→p) (h1:a=b) (h2:c=d):p:=h h1 h2
theorem zM {α β γ:Type} {p:Prop} (f:α→β) (g:α→γ) (m x:α) (h:f m=f x→g m=g x→p) (h1:f m=f x) (h2:g m=g x):p:=h h1 h2
theorem dsp {p:Prop} [Decidable p] {A B:Prop} (h1:decide p=true→p→A) (h2:decide p=false→¬p→B):(decide p=true→A)∧(decide p=false→B):=⟨fun h=>h1 h (of_decide_eq_true h),fun h=>h2 h (of_decide_eq_false h)⟩
/-! ### Structures -/
structure Scn where
 bits:Int
 have_:Int
 deriving DecidableEq,Inhabited
structure Utf where
 want:Int
 low:Int
 high:Int
 deriving DecidableEq,Inhabited
structure Pln where
 shapes:List Shp
 root:Int
 deep:Int
 most:Int
 deriving DecidableEq,Inhabited
structure Dcd where
 plan:Pln
 mode:Int
 stack:List Lev
 scan:Scn
 start:Int
 at_:Int
 field:Fld
 wire:Int
 want:Int
 utf:Utf
 end_:Ev
 deriving DecidableEq,Inhabited
def fld0:Fld:=⟨0,0,false,false,0⟩
def ev0:Ev:=⟨0,0,0,0,[],0,0⟩
def utf0:Utf:=⟨0,0,0⟩
def scn0:Scn:=⟨0,0⟩
theorem Ff {α:Type} {l:List α} {i:Nat} {x:α} (h:l[i]? =some x):l.drop i=x::l.drop (i+1):=by
 have hl:=(List.getElem?_eq_some_iff.1 h).1
 rw[List.drop_eq_getElem_cons hl]
 congr 1
 rw[List.getElem?_eq_getElem hl] at h
 exact Option.some.inj h
theorem Ao {b:Bool} (h:(!b)=true):b=false:=by cases b<;>simp_all
theorem An {b:Bool} (h:(!b)=false):b=true:=by cases b<;>simp_all
theorem Th {α:Type} {l:List α} {i:Nat} {x d:α} (h:l[i]? =some x):l.getD i d=x:=by simp[List.getD,h]
theorem Jx {α:Type} {l:List α} {i:Nat} (h: ¬((i:Nat):Int)<((l.length:Nat):Int)):l.drop i=[]:=List.drop_eq_nil_of_le (by omega)
/-! ### Words of numbers -/
theorem Vw {k:IntKind} {a m:Int} (h:0≤a):(.v (.c (.int k (Int.tmod a m))):S)= .v (.c (.int k (a % m))):=by rw[Int.tmod_eq_emod_of_nonneg h]
theorem Ti {a m:Int} (h:0≤a) (h2:a≤18446744073709551615) (hm:0<m):(.v (.c (.int .u64 (IntKind.u64.wrap (Int.tdiv a m)))):S)= .v (.c (.int .u64 (a / m))):=by
 rw[Int.tdiv_eq_ediv_of_nonneg h]
 have h3:=Int.ediv_nonneg h (Int.le_of_lt hm)
 have h4:=Int.ediv_le_self m h
 exact Bt Q2 Q2
theorem Agr {a b:Int} {k:Nat} (ha:0≤a) (hk:a<2 ^ k) {c:Int} (hc:0≤c) (hb:b=c*2 ^ k) (hs:b+2 ^ k≤18446744073709551616):(((BitVec.ofInt 64 a|||BitVec.ofInt 64 b).toNat:Nat):Int)=a+b:=by
 obtain ⟨n,rfl⟩:=Int.eq_ofNat_of_zero_le ha
 obtain ⟨m,rfl⟩:=Int.eq_ofNat_of_zero_le hc
 have hb':b=((m*2 ^ k:Nat):Int):=by rw[hb,Int.natCast_mul,Int.natCast_pow];rfl
 have hp:(0:Int)<2 ^ k:=Int.pow_pos (by decide)
 subst hb'
 have e:((2 ^ k:Nat):Int)=2 ^ k:=by rw[Int.natCast_pow];rfl
 rw[←e] at hk hs hp
 have h1:n<2 ^ k:=by omega
 have h2:m*2 ^ k+2 ^ k≤18446744073709551616:=by omega
 have h3:n<2 ^ 64:=by omega
 have h4:m*2 ^ k<2 ^ 64:=by omega
 rw[BitVec.toNat_or,BitVec.ofInt_natCast,BitVec.ofInt_natCast,BitVec.toNat_ofNat,BitVec.toNat_ofNat,Nat.mod_eq_of_lt h3,Nat.mod_eq_of_lt h4,Nat.or_comm,Nat.mul_comm m,←Nat.two_pow_add_eq_or_of_lt h1]
 rw[Nat.mul_comm,Int.natCast_add,Int.add_comm]
/-! ### Kinds, wires, numbers -/
def C7 (n:Int):Bool:=Ak n 1 536870911&& !Ak n 19000 19999
def Dh (w:Int):Bool:=decide (w=0)||decide (w=1)||decide (w=2)||decide (w=5)
def D4 (k:Int):Bool:=Ak k 1 8
def Cw (k:Int):Bool:=Ak k 1 5
def B3 (k:Int):Int:=if D4 k then (if k=4 then 5 else if k=5 then 1 else if k≤3 then 0 else 2) else-1
def Ay (w:Int):Int:=if w=1 then 8 else if w=5 then 4 else 0
def Rx (f:Fld):Bool:=f.rep&&Cw f.kind
def C4 (f:Fld) (w:Int):Bool:=decide (w=B3 f.kind)||(decide (w=2)&&Rx f)
def Ec (k:Int):Bool:=decide (k=2)||decide (k=3)||decide (k=6)
theorem Dx (w:Int):0≤Ay w∧Ay w≤8:=by unfold Ay;split<;>(try split)<;>omega
def G2 (f:Fld) (n:Int):Bool:=C7 f.number&&D4 f.kind&& !(f.packed&&(!f.rep|| !Cw f.kind))&&(if f.kind=8 then Ak f.msg 0 (n-1) else decide (f.msg= -1))
def Cx (n:Int):Int→List Fld→Bool
 |_,[]=>true
 |b,f::r=>decide (b<f.number)&&G2 f n&&Cx n f.number r
def Dy (n:Int):Int→List Shp→Bool
 |_,[]=>true
 |b,x::r=>decide (b<x.id)&&decide (x.id≤99)&&decide ((x.fields.length:Int)≤8)&&Cx n 0 x.fields&&Dy n x.id r
def Dc (l:List Shp):Bool:=decide ((l.length:Int)≤6)&&Dy (l.length:Int) 0 l
def Fg (l:List Fld) (n:Int):Option Fld:=l.find? fun f=>decide (f.number=n)
def Ahm:Shp:=⟨0,[]⟩
def fieldAt (l:List Shp) (s n:Int):Option Fld:=if Ak s 0 ((l.length:Int)-1) then Fg (l.getD s.toNat Ahm).fields n else none
def Da (p:Pln):Bool:=Dc p.shapes&&Ak p.root 0 ((p.shapes.length:Int)-1)&&Ak p.deep 1 8&&Ak p.most 0 2000
theorem X5 {f:Fld} {n:Int} (h:G2 f n=true):1≤f.number∧f.number≤536870911∧1≤f.kind∧f.kind≤8∧(f.kind=8→0≤f.msg∧f.msg≤n-1)∧(f.kind≠8→f.msg= -1):=by
 simp only[G2,C7,D4,Ak,Bool.and_eq_true,decide_eq_true_eq] at h
 obtain ⟨⟨⟨h1,h2⟩,h3⟩,h4⟩:=h
 refine⟨h1.1.1,h1.1.2,h2.1,h2.2,fun hk=>?_,fun hk=>?_⟩
 ·rw[if_pos hk] at h4;simpa using h4
 ·rw[if_neg hk] at h4;simpa using h4
theorem Qy {l:List Shp} (h:Dc l=true):l.length≤6:=by
 simp only[Dc,Bool.and_eq_true,decide_eq_true_eq] at h;omega
theorem B9 {p:Pln} (h:Da p=true):p.shapes.length≤6∧Dc p.shapes=true∧0≤p.root∧p.root<(p.shapes.length:Int)∧1≤p.deep∧p.deep≤8∧0≤p.most∧p.most≤2000:=by
 simp only[Da,Ak,Bool.and_eq_true,decide_eq_true_eq] at h
 have:=Qy h.1.1.1
 refine⟨this,h.1.1.1,?_⟩;omega
theorem Ry {n:Int} : ∀ {b:Int} {l:List Fld},Cx n b l=true→∀f∈l,G2 f n=true∧b<f.number
 |_,[],_,f,hf=>by cases hf
 |b,g::r,h,f,hf=>by
  simp only[Cx,Bool.and_eq_true,decide_eq_true_eq] at h
  rcases List.mem_cons.1 hf with rfl|hf
  ·exact⟨h.1.2,h.1.1⟩
  ·have:=Ry h.2 f hf;exact⟨this.1,by omega⟩
theorem M8 {n:Int} : ∀ {b:Int} {l:List Shp},Dy n b l=true→∀x∈l,(x.fields.length≤8∧Cx n 0 x.fields=true)∧b<x.id∧x.id≤99
 |_,[],_,f,hf=>by cases hf
 |b,g::r,h,f,hf=>by
  simp only[Dy,Bool.and_eq_true,decide_eq_true_eq] at h
  rcases List.mem_cons.1 hf with rfl|hf
  ·exact⟨⟨by omega,h.1.2⟩,h.1.1.1.1,h.1.1.1.2⟩
  ·have:=M8 h.2 f hf;exact⟨this.1,by omega,this.2.2⟩
theorem Dk {l:List Shp} (h:Dc l=true): ∀x∈l,List.length x.fields≤1000:=fun x hx=>by
 simp only[Dc,Bool.and_eq_true] at h
 have:=(M8 h.2 x hx).1.1
 omega
theorem U2 {l:List Shp} {s n:Int} {f:Fld} (hl:Dc l=true) (h:fieldAt l s n=some f):G2 f (l.length:Int)=true∧f.number=n:=by
 unfold fieldAt at h
 split at h
 ·rename_i hs
  have hs:=Aq hs
  simp only[Dc,Bool.and_eq_true,decide_eq_true_eq] at hl
  have hm:l.getD s.toNat Ahm∈l:=by
   rw[List.getD_eq_getElem?_getD,List.getElem?_eq_getElem (by omega)]
   exact List.getElem_mem _
  have hx:=(M8 hl.2 _ hm).1.2
  have hf:=List.mem_of_find?_eq_some h
  have hp:=List.find?_some h
  exact⟨(Ry hx f hf).1,by simpa using hp⟩
 ·cases h
/-! ### Tags -/
def Cq (n w:Int):Int:=if Ak n 1 536870911&&Ak w 0 7 then 8*n+w else 0
def Lh (u:Int):Bool:=Ak u 8 4294967295
def Bn (u:Int):Int:=if Lh u then u / 8 else 0
def Aj (u:Int):Int:=if Lh u then u % 8 else 0
theorem Be (n w:Int):0≤Cq n w∧Cq n w≤4294967295:=by
 unfold Cq Ak;split<;>simp_all<;>omega
/-! ### Utf-8 -/
def Ms (u:Utf) (w l h:Int):Bool:=decide (u.want=w)&&(decide (u.low=l)&&decide (u.high=h))
def Ed (u:Utf):Bool:=Ms u 0 0 0||Ms u 1 128 191||Ms u 2 128 191||Ms u 3 128 191||Ms u 2 160 191||Ms u 2 128 159||Ms u 3 144 191||Ms u 3 128 143
theorem X6 {u:Utf} (h:Ed u=true):(u.want=0∧u.low=0∧u.high=0)∨(u.want=1∧u.low=128∧u.high=191)∨(u.want=2∧u.low=128∧u.high=191)∨(u.want=3∧u.low=128∧u.high=191)∨(u.want=2∧u.low=160∧u.high=191)∨(u.want=2∧u.low=128∧u.high=159)∨(u.want=3∧u.low=144∧u.high=191)∨(u.want=3∧u.low=128∧u.high=143):=by
 simp only[Ed,Ms,Bool.or_eq_true,Bool.and_eq_true,decide_eq_true_eq] at h
 rcases h with ((((((h|h)|h)|h)|h)|h)|h)|h<;>simp[h]
theorem U3 {u:Utf} (h:Ed u=true) (h0:u.want=0):u=utf0:=by
 rcases X6 h with h|h|h|h|h|h|h|h<;>first|(cases u;simp_all[utf0];done)|omega
theorem Kp {u:Utf} (h:Ed u=true):0≤u.want∧u.want≤3:=by
 rcases X6 h with h|h|h|h|h|h|h|h<;>omega
def A5 (b:Int):Option Utf:=
 if Ak b 0 127 then some utf0
 else if Ak b 194 223 then some ⟨1,128,191⟩
 else if Ak b 224 239 then some ⟨2,if b=224 then 160 else 128,if b=237 then 159 else 191⟩
 else if Ak b 240 244 then some ⟨3,if b=240 then 144 else 128,if b=244 then 143 else 191⟩
 else none
def Bo (u:Utf) (b:Int):Option Utf:=
 if Ed u then (if u.want=0 then A5 b else if Ak b u.low u.high then some (if u.want=1 then utf0 else ⟨u.want-1,128,191⟩) else none) else none
def M9:Utf→List UInt8→Nat→Utf×Option Nat
 |u,[],_=>(u,none)
 |u,b::r,i=>match Bo u (b.toNat:Int) with
  |some v=>M9 v r (i+1)
  |none=>(u,some i)
def Qz (u:Utf) (s:List UInt8):Utf:=(M9 u s 0).1
def W1 (u:Utf) (s:List UInt8):Int:=match (M9 u s 0).2 with
 |some i=>(i:Int)
 |none=> -1
/-! ### Varints -/
def Li (u:Nat):List UInt8:=if h:u<128 then [UInt8.ofNat u] else UInt8.ofNat (u % 128+128)::Li (u / 128)
termination_by u
decreasing_by omega
def Dp (u:Int):List UInt8:=Li u.toNat
def Jy (u:Int):Int:=((Dp u).length:Int)
theorem Lj {u:Nat} (h:u<128):Li u=[UInt8.ofNat u]:=by rw[Li,dif_pos h]
theorem Pr {u:Nat} (h: ¬u<128):Li u=UInt8.ofNat (u % 128+128)::Li (u / 128):=by rw[Li,dif_neg h]
theorem Tj: ∀(k u:Nat),u<128 ^ k→1≤k→(Li u).length≤k
 |0,_,_,h=>by omega
 |k+1,u,h,_=>by
  by_cases hu:u<128
  ·rw[Lj hu];simp
  ·rw[Pr hu]
   have hk:1≤k:=by
    rcases k with _|k
    ·simp at h;omega
    ·omega
   have:=Tj k (u / 128) (by rw[Nat.pow_succ] at h;exact Nat.div_lt_of_lt_mul (by rw[Nat.mul_comm];exact h)) hk
   simp;omega
theorem Tk (u:Nat):1≤(Li u).length:=by
 by_cases hu:u<128
 ·rw[Lj hu];simp
 ·rw[Pr hu];simp
theorem W3 {u:Int} (h0:0≤u) (h:u≤127):Dp u=[UInt8.ofNat u.toNat]:=Lj (by omega)
theorem U4 {u:Int} (h0:0≤u) (h:127<u):Dp u=UInt8.ofNat (u % 128+128).toNat::Dp (u / 128):=by
 unfold Dp
 rw[Pr (by omega),show (u / 128).toNat=u.toNat / 128 by omega,show (u % 128+128).toNat=u.toNat % 128+128 by omega]
theorem U5 (u:Int):1≤(Dp u).length:=Tk _
theorem Y6 {u:Int} (h:u≤18446744073709551615):1≤Jy u∧Jy u≤10:=by
 have h1:=Tk u.toNat
 have h2:=Tj 10 u.toNat (by omega) (by omega)
 unfold Jy Dp;omega
def A2 (c a:Int):Ev:=⟨10,0,0,0,[],c,a⟩
def Gg (f:Fld) (u:Int):Ev:=⟨2,f.number,if f.kind=3∧u≠0 then 1 else u,0,[],0,0⟩
theorem Rz {f:Fld} {l:List Fld} {n:Int} :Fg (f::l) n=if f.number=n then some f else Fg l n:=by
 unfold Fg;rw[List.find?_cons];by_cases h:f.number=n<;>simp[h]
theorem U6 {l:List Shp} {s n:Int} {x:Shp} (hs:Ak s 0 ((l.length:Int)-1)=true) (hx:l[s.toNat]? =some x):fieldAt l s n=Fg x.fields n:=by
 rw[fieldAt,if_pos hs,Th hx]
def Ah0 (l:List Ev) (k:Int):Int:=((l.filter fun e=>decide (e.kind=k)).length:Int)
structure Fa where
 stack:List Int
 inText:Bool
 isText:Bool
 utf:Utf
 ended:Bool
 deriving Inhabited
structure Fmr where
 plan:Pln
 st:Fa
structure Fs where
 stack:List Int
 field:Fld
 open_:Bool
 utf:Utf
 ended:Bool
def Fh (k:Int):Bool:=decide (k=6)||decide (k=7)
theorem X7 {b:Int} {u:Utf} (h:A5 b=some u):Ed u=true:=by
 unfold A5 at h
 repeat' split at h
 all_goals first|(cases h;done)|(cases h;first|decide|(exfalso;omega)|(simp only[Ed,Ms];simp_all;done)|(simp only[Ed,Ms];simp_all;omega))
theorem Zz {u v:Utf} {b:Int} (h:Bo u b=some v):Ed v=true:=by
 unfold Bo at h
 split at h
 ·rename_i hu
  have hw:=Kp hu
  split at h
  ·exact X7 h
  ·split at h
   ·split at h
    ·cases h;decide
    ·cases h
     rcases X6 hu with h|h|h|h|h|h|h|h<;>simp_all[Ed,Ms]
   ·cases h
 ·cases h
def EvB (e:Ev):Prop:=List.length e.text≤Bj∧(0:Int)≤e.bits∧e.bits≤18446744073709551615
def cEv (x:Ev):List C:=[.int .i64 x.kind,.int .i64 x.field,.int .u64 x.bits,.int .i64 x.len,.str x.text,.int .i64 x.code,.int .i64 x.at_]
def E6 (x:Fld):List C:=[.int .i64 x.number,.int .i64 x.kind,.bool x.rep,.bool x.packed,.int .i64 x.msg]
def Aew (x:Shp):List C:=[.int .i64 x.id,.seq .fld x.fields]
def Ahg (x:Lev):List C:=[.int .i64 x.msg,.int .i64 x.left]
def Jt (x:Scn):List C:=[.int .u64 x.bits,.int .i64 x.have_]
def Jg (x:Utf):List C:=[.int .i64 x.want,.int .i64 x.low,.int .i64 x.high]
def Mt (x:Pln):List C:=[.seq .shp x.shapes,.int .i64 x.root,.int .i64 x.deep,.int .i64 x.most]
def Bu (x:Dcd):List C:=[.seq .shp x.plan.shapes,.int .i64 x.plan.root,.int .i64 x.plan.deep,.int .i64 x.plan.most,.int .i64 x.mode,.seq .lev x.stack,.int .u64 x.scan.bits,.int .i64 x.scan.have_,.int .i64 x.start,.int .i64 x.at_,.int .i64 x.field.number,.int .i64 x.field.kind,.bool x.field.rep,.bool x.field.packed,.int .i64 x.field.msg,.int .i64 x.wire,.int .i64 x.want,.int .i64 x.utf.want,.int .i64 x.utf.low,.int .i64 x.utf.high,.int .i64 x.end_.kind,.int .i64 x.end_.field,.int .u64 x.end_.bits,.int .i64 x.end_.len,.str x.end_.text,.int .i64 x.end_.code,.int .i64 x.end_.at_]
def Ah (j0:Nat) (j5:Nat) (x:Dcd):List C:=[.own j0,.int .i64 x.plan.root,.int .i64 x.plan.deep,.int .i64 x.plan.most,.int .i64 x.mode,.own j5,.int .u64 x.scan.bits,.int .i64 x.scan.have_,.int .i64 x.start,.int .i64 x.at_,.int .i64 x.field.number,.int .i64 x.field.kind,.bool x.field.rep,.bool x.field.packed,.int .i64 x.field.msg,.int .i64 x.wire,.int .i64 x.want,.int .i64 x.utf.want,.int .i64 x.utf.low,.int .i64 x.utf.high,.int .i64 x.end_.kind,.int .i64 x.end_.field,.int .u64 x.end_.bits,.int .i64 x.end_.len,.str x.end_.text,.int .i64 x.end_.code,.int .i64 x.end_.at_]
def Ado (j0:Nat) (x:Pln):List C:=[.own j0,.int .i64 x.root,.int .i64 x.deep,.int .i64 x.most]
abbrev L2 (d:Dcd):List Blk:=[.tree d.plan.shapes,.lst .lev d.stack]
abbrev Ls (d:Dcd) (o:List Ev):List Blk:=[.tree d.plan.shapes,.lst .lev d.stack,.lst .ev o]
def Ahn:Lev:=⟨0,0⟩
def Dj (d:Dcd):Int:=(d.stack.getD (d.stack.length-1) Ahn).left
def Ek (n:Int) (l:Lev):Bool:=Ak l.msg 0 (n-1)&&Ak l.left 0 2000
def A9 (d:Dcd):Bool:=Da d.plan&&decide ((d.stack.length:Int)≤d.plan.deep)&&d.stack.all (Ek (d.plan.shapes.length:Int))
def Uk (n:Int):List Lev→Nat
 |[]=>0
 |l::r=>if Ek n l then Uk n r+1 else 0
theorem Qb {n:Int} {l:Lev} {r:List Lev} :Uk n (l::r)=if Ek n l then Uk n r+1 else 0:=rfl
theorem Lk (n:Int): ∀l:List Lev,l.all (Ek n)=decide (Uk n l=l.length)
 |[]=>rfl
 |l::r=>by
  rw[List.all_cons,Lk n r,Qb]
  cases h:Ek n l with
  |true=>rw[if_pos rfl];simp
  |false=>rw[if_neg (by simp)];simp
def Jz (n:Int) (l:List Lev):Int:=if Uk n l=l.length then-1 else (Uk n l:Int)
def Db (s:Scn):Bool:=Ak s.have_ 0 9&&decide (Int.fdiv s.bits (2 ^ min (Int.toNat (7*s.have_)) 64)=0)
def Bp (d:Dcd):Int:=if d.mode=5 then Ay d.wire else if d.mode=8 then Ay (B3 d.field.kind) else 0
def Na (d:Dcd):Int:=if d.mode=8 then d.want else Dj d
def Ju (d:Dcd):Bool:=if 0<Bp d then Ak d.scan.have_ 0 (Bp d-1)&&decide (Int.fdiv d.scan.bits (2 ^ min (Int.toNat (8*d.scan.have_)) 64)=0)&&decide (Bp d-d.scan.have_≤Na d)
 else if d.mode=6∨d.mode=7∨d.mode=9 then decide (d.scan=scn0) else Db d.scan
def Hd (d:Dcd):Bool:=if d.mode=6∨d.mode=7∨d.mode=8 then Ak d.want 1 (Dj d) else decide (d.want=0)
def Aex (d:Dcd):Bool:=decide (d.field=fld0)||C4 d.field d.wire
def He (d:Dcd):Bool:=if d.mode=6 then Fh d.field.kind else if d.mode=8 then Rx d.field else if d.mode=3 then decide (d.wire=0)&&Aex d else if d.mode=4 then decide (d.wire=2)&&Aex d else if d.mode=5 then decide (0<Ay d.wire)&&Aex d else true
def E7 (l:List Shp) (f:Fld):Nat→Bool
 |0=>false
 |k+1=>E7 l f k||decide (fieldAt l (k:Int) f.number=some f)
def Hf (l:List Shp) (f:Fld):Bool:=E7 l f l.length
def Lm (k:Int):Bool:=Ak k 1 10
def D5 (e:Ev):Ev:=⟨e.kind,if e.kind=2∨e.kind=3∨e.kind=6 then e.field else 0,if e.kind=2 then e.bits else 0,if e.kind=1∨e.kind=3∨e.kind=6 then e.len else 0,if e.kind=4 then e.text else [],if e.kind=10 then e.code else 0,if e.kind=9∨e.kind=10 then e.at_ else 0⟩
def R3 (e:Ev):Bool:=decide (e=D5 e)
def E5 (e:Ev):Bool:=Lm e.kind&&R3 e&&decide (0≤e.len)&&decide (0≤e.at_)&&(if Ec e.kind then Ak e.field 1 536870911 else if e.kind=4 then !decide (e.text=[]) else if e.kind=10 then decide (1≤e.code) else true)
def Do (e:Ev):Bool:=decide (e.kind=9)||decide (e.kind=10)
def We (d:Dcd):Bool:=if d.mode=9 then E5 d.end_&&Do d.end_ else decide (d.end_=ev0)
def J0 (d:Dcd):Bool:=if d.mode=1 then decide (d.stack=[]) else if d.mode=9 then true else decide (1≤Dj d)
def D2 (d:Dcd):Bool:=A9 d&&Ak d.mode 1 9&&Ak d.at_ 0 1000000000&&Ak d.start 0 d.at_&&Ed d.utf&&Dh d.wire&&(decide (d.field=fld0)||Hf d.plan.shapes d.field)&&We d&&J0 d&&Hd d&&He d&&Ju d
theorem Abs {o f:Fld} (h:o.number=f.number∧o.kind=f.kind∧o.rep=f.rep∧o.packed=f.packed∧o.msg=f.msg):o=f:=by
 cases o;cases f;simp_all
theorem Abt {o f:Fld} (h:o.number=f.number→o.kind=f.kind→o.rep=f.rep→o.packed=f.packed→¬o.msg=f.msg):o≠f:=fun e=>by subst e;exact h rfl rfl rfl rfl rfl
theorem Tm {l:List Shp} {f:Fld} : ∀ {k m:Nat},k≤m→E7 l f k=true→E7 l f m=true
 |k,0,h,hk=>by rw[show k=0 by omega] at hk;exact hk
 |k,m+1,h,hk=>by
  by_cases e:k=m+1
  ·rw[←e];exact hk
  ·rw[E7,Tm (m:=m) (by omega) hk];rfl
theorem Vx {l:List Shp} {f:Fld} {k:Nat} (h:k<l.length) (hf:fieldAt l (k:Int) f.number=some f):Hf l f=true:=by
 have:E7 l f (k+1)=true:=by rw[E7,hf];simp
 exact Tm (show k+1≤l.length by omega) this
theorem Ln {l:List Shp} {f:Fld} {k:Nat} (h:E7 l f k=false) (hf:fieldAt l (k:Int) f.number≠some f):E7 l f (k+1)=false:=by
 rw[E7,h];simp[hf]
theorem Y7 {l:List Shp} {f:Fld} {k:Nat} (h:E7 l f k=false) (hk:l.length=k):Hf l f=false:=by unfold Hf;rw[hk];exact h
theorem Vy {f:Fld} (h:f.number=0∧f.kind=0∧f.rep=false∧f.packed=false∧f.msg=0):f=fld0:=Abs h
def Pe (d:Dcd):Bool:=d.stack.all (Ek (d.plan.shapes.length:Int))&&(if d.mode=1 then decide ((d.stack.length:Int)=0) else if d.mode=9 then decide ((d.stack.length:Int)≤d.plan.deep) else Ak (d.stack.length:Int) 1 d.plan.deep&&decide (1≤Dj d))
def Ags (d:Dcd):Bool:=Ak d.scan.have_ 0 (Bp d-1)&&decide (Int.fdiv d.scan.bits (2 ^ min (Int.toNat (8*d.scan.have_)) 64)=0)&&decide (Bp d-d.scan.have_≤Na d)
def X8 (d:Dcd):Bool:=if d.mode=6∨d.mode=7∨d.mode=9 then decide (d.scan=scn0) else if d.mode=5 then Ags d else if d.mode=8 then (if Bp d=0 then Db d.scan else Ags d) else Db d.scan
def R4 (d:Dcd):Bool:=(decide (d.mode=3)&& !decide (d.wire=0))||(decide (d.mode=4)&& !decide (d.wire=2))||(decide (d.mode=5)&&decide (Ay d.wire=0))
def W4 (d:Dcd):Bool:=Da d.plan&&Ak d.mode 1 9&&Ak d.at_ 0 1000000000&&Ak d.start 0 d.at_&&Ed d.utf&&Dh d.wire&&(decide (d.field=fld0)||Hf d.plan.shapes d.field)&&Pe d&&We d&&Hd d&& !R4 d&& !(Ak d.mode 3 5&& !decide (d.field=fld0)&& !C4 d.field d.wire)&&(!decide (d.mode=6)||Fh d.field.kind)&&(!decide (d.mode=8)||Rx d.field)&&X8 d
theorem Vz {d:Dcd} (h:d.stack=[]):Dj d=0:=by unfold Dj;rw[h];rfl
theorem Qc (w:Int):Ay w=0∨Ay w=4∨Ay w=8:=by unfold Ay;split<;>(try split)<;>omega
theorem Abu (d:Dcd):W4 d=D2 d:=by
 have hw:=Qc d.wire
 have hw2:=Qc (B3 d.field.kind)
 by_cases hm:Ak d.mode 1 9=true
 ·have hm:=Aq hm
  have hp:Da d.plan=true→1≤d.plan.deep:=fun h=>(B9 h).2.2.2.2.1
  have ht:= @Vz d
  obtain ⟨⟨sh,ro,de,mo⟩,m,st,sc,sa,a,f,w,wa,u,e⟩:=d
  simp only at hm hw hw2 hp ht
  have hs:(decide (st=[]):Bool)=decide ((st.length:Int)=0):=by cases st<;>simp<;>omega
  have hl: ∀x:Lev,(([]:List Lev).length:Int)=0:=fun _=>rfl
  rcases (show m=1∨m=2∨m=3∨m=4∨m=5∨m=6∨m=7∨m=8∨m=9 by omega) with rfl|rfl|rfl|rfl|rfl|rfl|rfl|rfl|rfl<;>
   rw[Bool.eq_iff_iff]<;>simp[W4,D2,A9,Pe,J0,R4,X8,Ags,Ju,He,Aex,Hd,Na,Bp,hs,Ak]<;>grind
 ·have hm:Ak d.mode 1 9=false:=by simpa using hm
  simp[W4,D2,hm]
theorem Agt {e f:Ev} (h:e.kind=f.kind∧e.field=f.field∧e.bits=f.bits∧e.len=f.len∧e.text=f.text∧e.code=f.code∧e.at_=f.at_):e=f:=by cases e;cases f;simp_all
theorem Adp {e:Ev} (h:e.kind=(D5 e).kind∧e.field=(D5 e).field∧e.bits=(D5 e).bits∧e.len=(D5 e).len∧e.text=(D5 e).text∧e.code=(D5 e).code∧e.at_=(D5 e).at_):R3 e=true:=decide_eq_true (Agt h)
theorem Qd {e f:Ev} (h:D5 e=f):R3 e=(decide (e.kind=f.kind)&&(decide (e.field=f.field)&&(decide (e.bits=f.bits)&&(decide (e.len=f.len)&&(decide (e.text=f.text)&&(decide (e.code=f.code)&&decide (e.at_=f.at_))))))):=by
 subst h
 rw[Bool.eq_iff_iff]
 simp only[Bool.and_eq_true,decide_eq_true_eq]
 constructor
 ·intro h
  have h:e=D5 e:=of_decide_eq_true h
  exact⟨congrArg Ev.kind h,congrArg Ev.field h,congrArg Ev.bits h,congrArg Ev.len h,congrArg Ev.text h,congrArg Ev.code h,congrArg Ev.at_ h⟩
 ·exact fun h=>Adp h
structure Mac where
 d:Dcd
 out:List Ev
def Tn:Ev:=⟨5,0,0,0,[],0,0⟩
def Aey:Ev:=⟨7,0,0,0,[],0,0⟩
def J1:Ev:=⟨8,0,0,0,[],0,0⟩
def Abv (n:Int):Ev:=⟨1,0,0,n,[],0,0⟩
def X9 (f n:Int):Ev:=⟨6,f,0,n,[],0,0⟩
def Ya (f n:Int):Ev:=⟨3,f,0,n,[],0,0⟩
def Yb (b:Int):Ev:=⟨4,0,0,0,[Bf b],0,0⟩
def A7 (d:Dcd) (c a:Int):Dcd:=⟨d.plan,9,d.stack,⟨0,0⟩,d.start,d.at_,d.field,d.wire,0,d.utf,A2 c a⟩
def A0 (m:Mac) (c a:Int):Mac:=⟨A7 m.d c a,m.out++[A2 c a]⟩
def A1 (m:Mac):Option Mac:=
 if m.d.mode=6∧m.d.want<1 then
  (if 0<m.d.utf.want then some (A0 m 5 m.d.at_) else some ⟨⟨m.d.plan,2,m.d.stack,m.d.scan,m.d.start,m.d.at_,m.d.field,m.d.wire,0,⟨0,0,0⟩,m.d.end_⟩,m.out++[Tn]⟩)
 else if (m.d.mode=7∨(m.d.mode=8∧m.d.scan.have_=0))∧m.d.want<1 then some ⟨⟨m.d.plan,2,m.d.stack,m.d.scan,m.d.start,m.d.at_,m.d.field,m.d.wire,0,m.d.utf,m.d.end_⟩,m.out⟩
 else if m.d.mode=2∧m.d.scan.have_=0∧0<m.d.stack.length∧Dj m.d=0 then
  some (if m.d.stack.length=1 then ⟨⟨m.d.plan,1,m.d.stack.take (m.d.stack.length-1),m.d.scan,m.d.start,m.d.at_,m.d.field,m.d.wire,m.d.want,m.d.utf,m.d.end_⟩,m.out++[J1]⟩
   else ⟨⟨m.d.plan,m.d.mode,m.d.stack.take (m.d.stack.length-1),m.d.scan,m.d.start,m.d.at_,m.d.field,m.d.wire,m.d.want,m.d.utf,m.d.end_⟩,m.out++[Aey]⟩)
 else none
def wM (m:Mac):Nat:=m.d.stack.length+(if m.d.mode=6∨m.d.mode=7∨m.d.mode=8 then 2 else if m.d.mode=2 then 1 else 0)
theorem Ch {m q:Mac} (h:A1 m=some q):wM q<wM m∧q.out.length≤m.out.length+1:=by
 unfold A1 at h
 split at h
 ·rename_i h1
  split at h
  ·cases h;simp[wM,A0,A7,h1.1]
  ·cases h;simp[wM,h1.1]
 ·split at h
  ·rename_i h1
   cases h
   rcases h1.1 with h2|h2
   ·simp[wM,h2]
   ·simp[wM,h2.1]
  ·split at h
   ·rename_i h1
    cases h
    have:=h1.2.2.1
    split
    ·simp[wM,h1.1];omega
    ·simp[wM,h1.1];omega
   ·cases h
def Ae (m:Mac):Mac:=match h:A1 m with
 |none=>m
 |some q=>Ae q
termination_by wM m
decreasing_by exact(Ch h).1
theorem C5 {m q:Mac} (h:A1 m=some q):Ae m=Ae q:=by
 rw[Ae]
 split
 ·rename_i h1;rw[h] at h1;cases h1
 ·rename_i x h1;rw[h] at h1;cases h1;rfl
theorem Cr {m:Mac} (h:A1 m=none):Ae m=m:=by
 rw[Ae]
 split
 ·rfl
 ·rename_i x h1;rw[h] at h1;cases h1
def C2 (m:Mac) (u:Int):Mac:=
 if m.d.plan.most<u then A0 m 7 m.d.start
 else Ae ⟨⟨m.d.plan,2,[⟨m.d.plan.root,u⟩],⟨0,0⟩,m.d.start,m.d.at_,m.d.field,m.d.wire,m.d.want,m.d.utf,m.d.end_⟩,m.out++[Abv u]⟩
def Gq (d:Dcd):Lev:=d.stack.getD (d.stack.length-1) Ahn
def D8 (m:Mac) (u:Int):Mac:=
 if Lh u=false∨m.d.stack.length=0 then A0 m 2 m.d.start
 else if Dh (Aj u)=false then A0 m 3 m.d.start
 else if (fieldAt m.d.plan.shapes (Gq m.d).msg (Bn u)).isSome=true∧C4 ((fieldAt m.d.plan.shapes (Gq m.d).msg (Bn u)).getD fld0) (Aj u)=false then A0 m 4 m.d.start
 else if Dj m.d<max (Ay (Aj u)) 1 then A0 ⟨⟨m.d.plan,m.d.mode,m.d.stack,⟨0,0⟩,m.d.start,m.d.at_,(fieldAt m.d.plan.shapes (Gq m.d).msg (Bn u)).getD fld0,Aj u,m.d.want,m.d.utf,m.d.end_⟩,m.out⟩ 9 m.d.at_
 else ⟨⟨m.d.plan,if Aj u=0 then 3 else if Aj u=2 then 4 else 5,m.d.stack,⟨0,0⟩,m.d.start,m.d.at_,(fieldAt m.d.plan.shapes (Gq m.d).msg (Bn u)).getD fld0,Aj u,m.d.want,m.d.utf,m.d.end_⟩,m.out⟩
def Cm (m:Mac) (u:Int):Mac:=
 if m.d.stack.length=0∨Dj m.d<u then A0 m 8 m.d.start
 else if m.d.field=fld0 then Ae ⟨⟨m.d.plan,7,m.d.stack,⟨0,0⟩,m.d.start,m.d.at_,m.d.field,m.d.wire,u,m.d.utf,m.d.end_⟩,m.out⟩
 else if m.d.field.kind=8 then
  (if m.d.plan.deep≤(m.d.stack.length:Int) then A0 m 6 m.d.start
  else Ae ⟨⟨m.d.plan,2,m.d.stack.set (m.d.stack.length-1) ⟨(Gq m.d).msg,Dj m.d-u⟩++[⟨m.d.field.msg,u⟩],⟨0,0⟩,m.d.start,m.d.at_,m.d.field,m.d.wire,0,m.d.utf,m.d.end_⟩,m.out++[X9 m.d.field.number u]⟩)
 else if Fh m.d.field.kind=true then Ae ⟨⟨m.d.plan,6,m.d.stack,⟨0,0⟩,m.d.start,m.d.at_,m.d.field,m.d.wire,u,⟨0,0,0⟩,m.d.end_⟩,m.out++[Ya m.d.field.number u]⟩
 else if 0<u∧u<Ay (B3 m.d.field.kind) then A0 m 9 m.d.at_
 else Ae ⟨⟨m.d.plan,8,m.d.stack,⟨0,0⟩,m.d.start,m.d.at_,m.d.field,m.d.wire,u,m.d.utf,m.d.end_⟩,m.out⟩
def Bs (m:Mac) (u:Int):Mac:=⟨⟨m.d.plan,if m.d.mode=8 then 8 else 2,m.d.stack,m.d.scan,m.d.start,m.d.at_,m.d.field,m.d.wire,m.d.want,m.d.utf,m.d.end_⟩,if m.d.field=fld0 then m.out else m.out++[Gg m.d.field u]⟩
def G3 (d:Dcd) (s:Scn):Dcd:=⟨d.plan,d.mode,d.stack,s,d.start,d.at_,d.field,d.wire,d.want,d.utf,d.end_⟩
def Af (s:Scn) (b:Int):Scn×Int:=
 if Db s=false∨Ak b 0 255=false∨(s.have_=9∧1<b) then (s,2)
 else (⟨s.bits+b % 128*2 ^ (7*s.have_.toNat),s.have_+1⟩,if b<128 then 1 else 0)
def Bq (s:Scn) (b:Int):Scn:=if Ak s.have_ 0 7=true∧Ak b 0 255=true then ⟨IntKind.u64.wrap (s.bits+IntKind.u64.wrap (b*2 ^ min (Int.toNat (8*s.have_)) 64)),s.have_+1⟩ else s
def Kq (d:Dcd) (a:Int):Dcd:=⟨d.plan,d.mode,d.stack,d.scan,if d.scan.have_=0∧(d.mode=1∨d.mode=2∨d.mode=4) then a else d.start,d.at_,d.field,d.wire,d.want,d.utf,d.end_⟩
def W5 (m q:Mac):Mac:=if (m.d.mode≠1∧Dj m.d=0)∨(m.d.mode=8∧m.d.want=0) then A0 q 9 m.d.at_ else q
def Br (m:Mac) (b a:Int):Mac:=
 if (Af m.d.scan b).2=2 then A0 ⟨Kq m.d a,m.out⟩ 1 a
 else if (Af m.d.scan b).2=0 then W5 m ⟨G3 (Kq m.d a) (Af m.d.scan b).1,m.out⟩
 else if m.d.mode=1 then C2 ⟨G3 (Kq m.d a) scn0,m.out⟩ (Af m.d.scan b).1.bits
 else if m.d.mode=2 then D8 ⟨G3 (Kq m.d a) scn0,m.out⟩ (Af m.d.scan b).1.bits
 else if m.d.mode=4 then Cm ⟨G3 (Kq m.d a) scn0,m.out⟩ (Af m.d.scan b).1.bits
 else Ae (Bs ⟨G3 (Kq m.d a) scn0,m.out⟩ (Af m.d.scan b).1.bits)
def Dq (m:Mac) (b:Int):Mac:=
 if (Bq m.d.scan b).have_<Bp m.d then ⟨G3 m.d (Bq m.d.scan b),m.out⟩
 else if m.d.mode=8∧0<m.d.want∧m.d.want<Bp m.d then A0 (Bs ⟨G3 m.d scn0,m.out⟩ (Bq m.d.scan b).bits) 9 m.d.at_
 else Ae (Bs ⟨G3 m.d scn0,m.out⟩ (Bq m.d.scan b).bits)
def Age (d:Dcd) (u:Utf):Dcd:=⟨d.plan,d.mode,d.stack,d.scan,d.start,d.at_,d.field,d.wire,d.want,u,d.end_⟩
def Em (m:Mac) (b:Int):Mac:=
 if m.d.field.kind=6 then (match Bo m.d.utf b with
  |none=>A0 m 5 (m.d.at_-1)
  |some u=>Ae ⟨Age m.d u,m.out++[Yb b]⟩)
 else Ae ⟨m.d,m.out++[Yb b]⟩
def Di (d:Dcd):Dcd:=⟨d.plan,d.mode,if d.stack.length=0 then d.stack else d.stack.set (d.stack.length-1) ⟨(Gq d).msg,Dj d-1⟩,d.scan,d.start,d.at_+1,d.field,d.wire,if d.mode=6∨d.mode=7∨d.mode=8 then d.want-1 else d.want,d.utf,d.end_⟩
def Ew (m:Mac) (b:Int):Mac:=
 if m.d.mode=6 then Em ⟨Di m.d,m.out⟩ b
 else if m.d.mode=7 then Ae ⟨Di m.d,m.out⟩
 else if 0<Bp m.d then Dq ⟨Di m.d,m.out⟩ b
 else Br ⟨Di m.d,m.out⟩ b m.d.at_
theorem H3 {m q:Mac} (h:A1 m=some q):q.d.stack.length≤m.d.stack.length∧q.d.plan=m.d.plan:=by
 unfold A1 at h
 split at h
 ·split at h<;>(cases h;exact⟨Nat.le_refl _,rfl⟩)
 ·split at h
  ·cases h;exact⟨Nat.le_refl _,rfl⟩
  ·split at h
   ·cases h
    split<;>(refine⟨?_,rfl⟩;simp only[List.length_take];omega)
   ·cases h
theorem To (m:Mac):(Ae m).out.length≤m.out.length+wM m:=by
 suffices ∀(k:Nat) (m:Mac),wM m≤k→(Ae m).out.length≤m.out.length+wM m from this _ m (Nat.le_refl _)
 intro k
 induction k with
 |zero=>
  intro m hk
  cases h:A1 m with
  |none=>rw[Cr h];omega
  |some q=>have:=(Ch h).1;omega
 |succ k ih=>
  intro m hk
  cases h:A1 m with
  |none=>rw[Cr h];omega
  |some q=>
   have h1:=Ch h
   have:=ih q (by omega)
   rw[C5 h];omega
theorem Aaq (m:Mac):wM m≤m.d.stack.length+2:=by unfold wM;split<;>(try split)<;>omega
theorem Bz {d:Dcd} (h:A9 d=true):Da d.plan=true∧(d.stack.length:Int)≤d.plan.deep∧d.stack.length≤8∧(∀l∈d.stack,Ek (d.plan.shapes.length:Int) l=true):=by
 simp only[A9,Bool.and_eq_true,decide_eq_true_eq,List.all_eq_true] at h
 have:=B9 h.1.1
 exact⟨h.1.1,h.1.2,by omega,h.2⟩
theorem Jh {d:Dcd} (h1:Da d.plan=true) (h2:(d.stack.length:Int)≤d.plan.deep) (h3: ∀l∈d.stack,Ek (d.plan.shapes.length:Int) l=true):A9 d=true:=by
 simp only[A9,Bool.and_eq_true,decide_eq_true_eq,List.all_eq_true];exact⟨⟨h1,h2⟩,h3⟩
theorem Pf {d e:Dcd} {u:Int} (h:A9 d=true) (hp:e.plan=d.plan) (hs:e.stack=[⟨d.plan.root,u⟩]) (h0:0≤u) (hu:u≤d.plan.most):A9 e=true:=by
 have hb:=Bz h
 have ht:=B9 hb.1
 refine Jh (by rw[hp];exact hb.1) (by rw[hs,hp];simp;omega) fun l hl=>?_
 rw[hs] at hl
 simp at hl
 subst hl
 rw[hp]
 simp[Ek,Ak];omega
theorem B1 {d e:Dcd} (h:A9 d=true) (hp:e.plan=d.plan) (hs:e.stack=d.stack):A9 e=true:=by
 have hb:=Bz h
 exact Jh (by rw[hp];exact hb.1) (by rw[hs,hp];exact hb.2.1) (by rw[hs,hp];exact hb.2.2.2)
theorem U7 {l:List Shp} {f:Fld} (hl:Dc l=true): ∀ {k:Nat},E7 l f k=true→G2 f (l.length:Int)=true
 |0,h=>by cases h
 |k+1,h=>by
  simp only[E7,Bool.or_eq_true,decide_eq_true_eq] at h
  rcases h with h|h
  ·exact U7 hl h
  ·exact(U2 hl h).1
theorem Qe {d:Dcd} (h:d.stack.length≠0):Gq d∈d.stack:=by
 unfold Gq
 rw[List.getD_eq_getElem?_getD,List.getElem?_eq_getElem (by omega)]
 exact List.getElem_mem _
theorem Qf {d e:Dcd} {u:Int} (h:A9 d=true) (hk:Hf d.plan.shapes d.field=true) (h8:d.field.kind=8) (hn:d.stack.length≠0) (hd:(d.stack.length:Int)<d.plan.deep) (h0:0≤u) (hu:u≤Dj d) (hp:e.plan=d.plan)
  (hs:e.stack=d.stack.set (d.stack.length-1) ⟨(Gq d).msg,Dj d-u⟩++[⟨d.field.msg,u⟩]):A9 e=true:=by
 have hb:=Bz h
 have hf:=X5 (U7 (B9 hb.1).2.1 hk)
 have hm:=hf.2.2.2.2.1 h8
 have hl:=hb.2.2.2 _ (Qe hn)
 have ht:Dj d=(Gq d).left:=rfl
 simp only[Ek,Bool.and_eq_true] at hl
 have hl1:=Aq hl.1;have hl2:=Aq hl.2
 refine Jh (by rw[hp];exact hb.1) (by rw[hs,hp];simp;omega) fun l hl=>?_
 rw[hs] at hl
 rw[hp]
 rcases List.mem_append.1 hl with hl|hl
 ·rcases List.mem_or_eq_of_mem_set hl with hl|hl
  ·exact hb.2.2.2 l hl
  ·subst hl;simp[Ek,Ak];omega
 ·simp at hl;subst hl;simp[Ek,Ak];omega
theorem F2 {d:Dcd} (h:A9 d=true):0≤Dj d∧Dj d≤2000:=by
 by_cases hn:d.stack.length=0
 ·rw[Vz (List.eq_nil_of_length_eq_zero hn)];omega
 ·have hl:=(Bz h).2.2.2 _ (Qe hn)
  have ht:Dj d=(Gq d).left:=rfl
  simp only[Ek,Bool.and_eq_true] at hl
  have:=Aq hl.2;omega
theorem Hk {d:Dcd} {x:Lev} (h:d.stack[d.stack.length-1]? =some x):Gq d=x∧Dj d=x.left:=by
 have e:Gq d=x:=by unfold Gq;exact Th h
 exact⟨e,by show (Gq d).left=_;rw[e]⟩
theorem Aez (u:Int):0≤Aj u∧Aj u≤7:=by unfold Aj;split<;>omega
theorem Sk {s:Scn} (h:Db s=true) (h0:0≤s.bits):0≤s.have_∧s.have_≤9∧s.bits<2 ^ (7*s.have_.toNat):=by
 simp only[Db,Bool.and_eq_true,decide_eq_true_eq] at h
 have hw:=Aq h.1
 refine⟨hw.1,hw.2,?_⟩
 have h2:=h.2
 rw[show min (Int.toNat (7*s.have_)) 64=7*s.have_.toNat by omega] at h2
 have hp:(0:Int)<2 ^ (7*s.have_.toNat):=Int.pow_pos (by decide)
 rw[Int.fdiv_eq_ediv_of_nonneg _ (Int.le_of_lt hp)] at h2
 apply Int.not_le.1
 intro hle
 have:=Int.le_ediv_of_mul_le hp (show 1*2 ^ (7*s.have_.toNat)≤s.bits by rw[Int.one_mul];exact hle)
 omega
theorem Y8 {c:Int} {h:Int} (h0:0≤h) (h9:h≤9) (c0:0≤c) (c1:c≤127) (hc:h=9→c≤1):0≤c*2 ^ (7*h.toNat)∧c*2 ^ (7*h.toNat)+2 ^ (7*h.toNat)≤18446744073709551616:=by
 obtain ⟨k,rfl⟩:=Int.eq_ofNat_of_zero_le h0
 have hk:k≤9:=by omega
 rw[Int.toNat_natCast]
 rcases (show k=0∨k=1∨k=2∨k=3∨k=4∨k=5∨k=6∨k=7∨k=8∨k=9 by omega) with rfl|rfl|rfl|rfl|rfl|rfl|rfl|rfl|rfl|rfl<;>simp at * <;>omega
theorem Qg {c h:Int} (h0:0≤h) (h9:h≤9) (c0:0≤c) (c1:c≤127) (hc:h=9→c≤1):(.v (.c (.int .u64 (IntKind.u64.wrap (c*2 ^ min (Int.toNat (7*h)) 64)))):S)= .v (.c (.int .u64 (c*2 ^ (7*h.toNat)))):=by
 have:=Y8 h0 h9 c0 c1 hc
 have hp:(0:Int)<2 ^ (7*h.toNat):=Int.pow_pos (by decide)
 rw[show min (Int.toNat (7*h)) 64=7*h.toNat by omega]
 exact Bt Q2 Q2
theorem Y9 {u c h:Int} (h0:0≤h) (h9:h≤9) (c0:0≤c) (c1:c≤127) (hc:h=9→c≤1) (u0:0≤u) (u1:u<2 ^ (7*h.toNat)):(.v (.c (.int .u64 (IntKind.u64.wrap (((BitVec.ofInt 64 u|||BitVec.ofInt 64 (c*2 ^ (7*h.toNat))).toNat:Nat):Int)))):S)= .v (.c (.int .u64 (u+c*2 ^ (7*h.toNat)))):=by
 have:=Y8 h0 h9 c0 c1 hc
 rw[Agr (k:=7*h.toNat) (c:=c) u0 u1 c0 rfl (by omega)]
 exact Bt Q2 Q2
theorem W6 {u c h:Int} (h0:0≤h) (h9:h≤9) (c0:0≤c) (c1:c≤127) (hc:h=9→c≤1) (u0:0≤u) (u1:u<2 ^ (7*h.toNat)):(.v (.c (.int .u64 (IntKind.u64.wrap (u+c*2 ^ (7*h.toNat))))):S)= .v (.c (.int .u64 (u+c*2 ^ (7*h.toNat)))):=by
 have:=Y8 h0 h9 c0 c1 hc
 exact Bt Q2 Q2
theorem Nt {s:Scn} {b:Int} (h0:0≤s.bits) (h1:s.bits≤18446744073709551615):0≤(Af s b).1.bits∧(Af s b).1.bits≤18446744073709551615:=by
 unfold Af
 split
 ·exact⟨h0,h1⟩
 ·rename_i h
  simp only[not_or] at h
  have hs:Db s=true:=by simpa using h.1
  have hb:=Aq (show Ak b 0 255=true by simpa using h.2.1)
  have hk:=Sk hs h0
  have hc:=Y8 (c:=b % 128) hk.1 hk.2.1 (by omega) (by omega) (fun h9=>by have:=h.2.2;omega)
  simp only;omega
structure MW (d:Dcd):Prop where
 lv:A9 d=true
 kn:d.field=fld0∨Hf d.plan.shapes d.field=true
 b0:0≤d.scan.bits∧d.scan.bits≤18446744073709551615
 at_:0≤d.at_∧d.at_≤1000000001
 want: -1≤d.want∧d.want≤2001
theorem W7 {s:Scn} {b:Int} (h0:0≤s.bits∧s.bits≤18446744073709551615):0≤(Bq s b).bits∧(Bq s b).bits≤18446744073709551615:=by
 unfold Bq
 split
 ·simp only
  rw[IntKind.wrap_u64]
  have:=Int.emod_nonneg (s.bits+IntKind.u64.wrap (b*2 ^ min (Int.toNat (8*s.have_)) 64)) (show (18446744073709551616:Int)≠0 by decide)
  have:=Int.emod_lt_of_pos (s.bits+IntKind.u64.wrap (b*2 ^ min (Int.toNat (8*s.have_)) 64)) (show (0:Int)<18446744073709551616 by decide)
  omega
 ·exact h0
theorem MW.step {d:Dcd} (h:MW d) (hs:d.stack.length=0∨1≤Dj d) (ha:d.at_≤1000000000) (hw:(d.mode=6∨d.mode=7∨d.mode=8)→0≤d.want):MW (Di d):=by
 have hb:=Bz h.lv
 refine⟨?_,h.kn,h.b0,?_,?_⟩
 ·refine Jh (d:=Di d) hb.1 ?_ ?_
  ·show (((Di d).stack.length:Nat):Int)≤d.plan.deep
   unfold Di;simp only;split
   ·exact hb.2.1
   ·rw[List.length_set];exact hb.2.1
  ·intro l hl
   show Ek (d.plan.shapes.length:Int) l=true
   unfold Di at hl
   simp only at hl
   split at hl
   ·exact hb.2.2.2 l hl
   ·rename_i hn
    rcases List.mem_or_eq_of_mem_set hl with hl|hl
    ·exact hb.2.2.2 l hl
    ·have hx:=hb.2.2.2 _ (Qe hn)
     have ht:Dj d=(Gq d).left:=rfl
     simp only[Ek,Bool.and_eq_true] at hx
     have h1:=Aq hx.1;have h2:=Aq hx.2
     subst hl;simp[Ek,Ak];omega
 ·have:=h.at_;show 0≤d.at_+1∧d.at_+1≤1000000001;omega
 ·have:=h.want
  show-1≤(if d.mode=6∨d.mode=7∨d.mode=8 then d.want-1 else d.want)∧(if d.mode=6∨d.mode=7∨d.mode=8 then d.want-1 else d.want)≤2001
  split
  ·rename_i hm;have:=hw hm;omega
  ·exact this
theorem Ex (m:Mac) (u:Int):(Bs m u).out.length≤m.out.length+1:=by
 unfold Bs
 simp only
 split<;>simp
theorem Qh (m:Mac) (u:Int):(Bs m u).d.at_=m.d.at_:=rfl
theorem Lo (m:Mac) (u:Int):(Bs m u).d.want=m.d.want:=rfl
def Ab (j0:Nat) (j5:Nat) (j27:Nat) (x:Mac):List C:=[.own j0,.int .i64 x.d.plan.root,.int .i64 x.d.plan.deep,.int .i64 x.d.plan.most,.int .i64 x.d.mode,.own j5,.int .u64 x.d.scan.bits,.int .i64 x.d.scan.have_,.int .i64 x.d.start,.int .i64 x.d.at_,.int .i64 x.d.field.number,.int .i64 x.d.field.kind,.bool x.d.field.rep,.bool x.d.field.packed,.int .i64 x.d.field.msg,.int .i64 x.d.wire,.int .i64 x.d.want,.int .i64 x.d.utf.want,.int .i64 x.d.utf.low,.int .i64 x.d.utf.high,.int .i64 x.d.end_.kind,.int .i64 x.d.end_.field,.int .u64 x.d.end_.bits,.int .i64 x.d.end_.len,.str x.d.end_.text,.int .i64 x.d.end_.code,.int .i64 x.d.end_.at_,.own j27]
def E3 (p:Pln):Dcd:=if Da p=true then ⟨p,1,[],⟨0,0⟩,0,0,⟨0,0,false,false,0⟩,0,0,⟨0,0,0⟩,⟨0,0,0,0,[],0,0⟩⟩ else ⟨⟨[],0,0,0⟩,0,[],⟨0,0⟩,0,0,⟨0,0,false,false,0⟩,0,0,⟨0,0,0⟩,⟨0,0,0,0,[],0,0⟩⟩
theorem D6 {l:List Shp} (h:Dc l=true): ∀e∈l,e.fields.length≤1048576:=fun e he=>by have:=Dk h e he;omega
theorem W8 {m:Mac} (h1:m.d.mode=6) (h2:m.d.want<1) (h3:0<m.d.utf.want):Ae m=A0 m 5 m.d.at_:=by
 have hc:A1 m=some (A0 m 5 m.d.at_):=by unfold A1;rw[if_pos ⟨h1,h2⟩,if_pos h3]
 rw[C5 hc,Cr]
 unfold A1 A0 A7
 simp
theorem Tp {d:Dcd} {o:List Ev} (h2:d.mode=2) (hs:d.scan.have_=0) (hl:0<d.stack.length) (ht:Dj d=0) (h1:d.stack.length=1):A1 ⟨d,o⟩=some ⟨⟨d.plan,1,d.stack.take (d.stack.length-1),d.scan,d.start,d.at_,d.field,d.wire,d.want,d.utf,d.end_⟩,o++[J1]⟩:=by
 unfold A1
 simp only
 rw[if_neg (by omega),if_neg (by omega),if_pos ⟨h2,hs,hl,ht⟩,if_pos h1]
theorem Tq {d:Dcd} {o:List Ev} (h2:d.mode=2) (hs:d.scan.have_=0) (hl:0<d.stack.length) (ht:Dj d=0) (h1:d.stack.length≠1):A1 ⟨d,o⟩=some ⟨⟨d.plan,d.mode,d.stack.take (d.stack.length-1),d.scan,d.start,d.at_,d.field,d.wire,d.want,d.utf,d.end_⟩,o++[Aey]⟩:=by
 unfold A1
 simp only
 rw[if_neg (by omega),if_neg (by omega),if_pos ⟨h2,hs,hl,ht⟩,if_neg h1]
theorem Abw {d:Dcd} {o:List Ev} {u:Int} (h:d.mode=8) (hf:d.field≠fld0):Bs ⟨d,o⟩ u=⟨d,o++[Gg d.field u]⟩:=by
 cases d
 unfold Bs
 simp only at h hf ⊢
 rw[if_pos h,if_neg hf,h]
theorem Abx {d:Dcd} {o:List Ev} {u:Int} (h:d.mode=8) (hf:d.field=fld0):Bs ⟨d,o⟩ u=⟨d,o⟩:=by
 cases d
 unfold Bs
 simp only at h hf ⊢
 rw[if_pos h,if_pos hf,h]
theorem Ra {d:Dcd} (h:D2 d=true):A9 d=true∧(1≤d.mode∧d.mode≤9)∧(0≤d.at_∧d.at_≤1000000000)∧(0≤d.start∧d.start≤d.at_)∧Ed d.utf=true∧Dh d.wire=true∧(d.field=fld0∨Hf d.plan.shapes d.field=true)∧We d=true∧J0 d=true∧Hd d=true∧He d=true∧Ju d=true:=by
 simp only[D2,Bool.and_eq_true,Bool.or_eq_true,decide_eq_true_eq] at h
 obtain ⟨⟨⟨⟨⟨⟨⟨⟨⟨⟨⟨h1,h2⟩,h3⟩,h4⟩,h5⟩,h6⟩,h7⟩,h8⟩,h9⟩,h10⟩,h11⟩,h12⟩:=h
 exact⟨h1,Aq h2,Aq h3,Aq h4,h5,h6,h7,h8,h9,h10,h11,h12⟩
theorem Yc {d:Dcd} (h:Hd d=true):((d.mode=6∨d.mode=7∨d.mode=8)→1≤d.want∧d.want≤Dj d)∧(¬(d.mode=6∨d.mode=7∨d.mode=8)→d.want=0):=by
 unfold Hd at h
 split at h
 ·rename_i hm;exact⟨fun _=>Aq h,fun h=>absurd hm h⟩
 ·rename_i hm;exact⟨fun h=>absurd h hm,fun _=>of_decide_eq_true h⟩
theorem V0 {d:Dcd} (h:D2 d=true) (hb:0≤d.scan.bits∧d.scan.bits≤18446744073709551615):MW d:=by
 obtain ⟨h1,h2,h3,h4,h5,h6,h7,h8,h9,h10,h11,h12⟩:=Ra h
 have ht:=F2 h1
 have hw:=Yc h10
 refine⟨h1,h7,hb,by omega,?_⟩
 by_cases hm:d.mode=6∨d.mode=7∨d.mode=8
 ·have:=hw.1 hm;omega
 ·have:=hw.2 hm;omega
theorem V2 {d:Dcd} (h:D2 d=true) (h9:d.mode≠9):(d.stack.length=0∨1≤Dj d)∧d.at_≤1000000000∧((d.mode=6∨d.mode=7∨d.mode=8)→0≤d.want)∧(d.mode=8→Rx d.field=true)∧d.end_=ev0:=by
 obtain ⟨h1,h2,h3,h4,h5,h6,h7,h8,hs,h10,h11,h12⟩:=Ra h
 have hw:=Yc h10
 refine⟨?_,by omega,fun hm=>by have:=hw.1 hm;omega,fun hm=>?_,?_⟩
 ·unfold J0 at hs
  by_cases hm1:d.mode=1
  ·rw[if_pos hm1] at hs;left;rw[of_decide_eq_true hs];rfl
  ·rw[if_neg hm1,if_neg h9] at hs;exact .inr (of_decide_eq_true hs)
 ·unfold He at h11
  rw[if_neg (by omega),if_pos hm] at h11
  exact h11
 ·unfold We at h8
  rw[if_neg h9] at h8
  exact of_decide_eq_true h8
def Gi (d:Dcd):Bool:= !decide (d.mode=9)&&decide (d.at_<1000000000)
def B5 (d:Dcd) (b:Int):Mac:=if D2 d=true∧Gi d=true∧Ak b 0 255=true then Ew ⟨d,[]⟩ b else ⟨d,[]⟩
theorem Afi {f:Fld} (h:Rx f=true):f≠fld0:=fun e=>by subst e;simp[Rx,fld0] at h
theorem W9 (m:Mac):(Ae m).d.plan=m.d.plan∧(Ae m).d.stack.length≤m.d.stack.length:=by
 suffices ∀(k:Nat) (m:Mac),wM m≤k→(Ae m).d.plan=m.d.plan∧(Ae m).d.stack.length≤m.d.stack.length from this _ m (Nat.le_refl _)
 intro k
 induction k with
 |zero=>
  intro m hk
  cases h:A1 m with
  |none=>rw[Cr h];exact⟨rfl,Nat.le_refl _⟩
  |some q=>have:=(Ch h).1;omega
 |succ k ih=>
  intro m hk
  cases h:A1 m with
  |none=>rw[Cr h];exact⟨rfl,Nat.le_refl _⟩
  |some q=>
   have h1:=Ch h
   have h2:=H3 h
   have h3:=ih q (by omega)
   rw[C5 h]
   exact⟨h3.1.trans h2.2,Nat.le_trans h3.2 h2.1⟩
structure Gr (m q:Mac):Prop where
 plan:q.d.plan=m.d.plan
 stack:q.d.stack.length≤m.d.stack.length+1
 out:q.out.length≤m.out.length+m.d.stack.length+6
theorem Gr.fail (m:Mac) (c a:Int):Gr m (A0 m c a):=⟨rfl,Nat.le_succ _,by simp only[A0,List.length_append,List.length_cons,List.length_nil];omega⟩
theorem Gr.settle {m x:Mac} (hp:x.d.plan=m.d.plan) (hs:x.d.stack.length≤m.d.stack.length+1) (ho:x.out.length≤m.out.length+2):Gr m (Ae x):=by
 have h1:=W9 x
 have h2:=To x
 have h3:=Aaq x
 exact⟨h1.1.trans hp,by omega,by omega⟩
theorem Gr.of {m x q:Mac} (h:Gr x q) (hp:x.d.plan=m.d.plan) (hs:x.d.stack.length=m.d.stack.length) (ho:x.out.length=m.out.length):Gr m q:=⟨h.plan.trans hp,by have:=h.stack;omega,by have:=h.out;omega⟩
theorem Aby (m:Mac) (u:Int):Gr m (C2 m u):=by
 unfold C2
 split
 ·exact Gr.fail _ _ _
 ·exact Gr.settle rfl (by simp) (by simp)
theorem Afj (m:Mac) (u:Int):Gr m (D8 m u):=by
 unfold D8
 split
 ·exact Gr.fail _ _ _
 ·split
  ·exact Gr.fail _ _ _
  ·split
   ·exact Gr.fail _ _ _
   ·split
    ·exact(Gr.fail _ _ _).of rfl rfl rfl
    ·exact⟨rfl,Nat.le_succ _,by simp only;omega⟩
theorem Adq (m:Mac) (u:Int):Gr m (Cm m u):=by
 unfold Cm
 split
 ·exact Gr.fail _ _ _
 ·split
  ·exact Gr.settle rfl (Nat.le_succ _) (by simp)
  ·split
   ·split
    ·exact Gr.fail _ _ _
    ·exact Gr.settle rfl (by simp) (by simp)
   ·split
    ·exact Gr.settle rfl (Nat.le_succ _) (by simp)
    ·split
     ·exact Gr.fail _ _ _
     ·exact Gr.settle rfl (Nat.le_succ _) (by simp)
theorem Afk (m:Mac) (b a:Int):Gr m (Br m b a):=by
 unfold Br
 split
 ·exact(Gr.fail _ _ _).of rfl rfl rfl
 ·split
  ·unfold W5
   split
   ·exact(Gr.fail _ _ _).of rfl rfl rfl
   ·exact⟨rfl,Nat.le_succ _,by simp only;omega⟩
  ·split
   ·exact(Aby _ _).of rfl rfl rfl
   ·split
    ·exact(Afj _ _).of rfl rfl rfl
    ·split
     ·exact(Adq _ _).of rfl rfl rfl
     ·exact Gr.settle rfl (Nat.le_succ _) (Nat.le_trans (Ex _ _) (Nat.le_succ _))
theorem Afm (m:Mac) (b:Int):Gr m (Dq m b):=by
 unfold Dq
 split
 ·exact⟨rfl,Nat.le_succ _,by simp only;omega⟩
 ·split
  ·have:=Ex ⟨G3 m.d scn0,m.out⟩ (Bq m.d.scan b).bits
   exact⟨rfl,Nat.le_succ _,by simp only[A0,List.length_append,List.length_cons,List.length_nil] at this ⊢;omega⟩
  ·exact Gr.settle rfl (Nat.le_succ _) (Nat.le_trans (Ex _ _) (Nat.le_succ _))
theorem Adr (m:Mac) (b:Int):Gr m (Em m b):=by
 unfold Em
 split
 ·split
  ·exact Gr.fail _ _ _
  ·exact Gr.settle rfl (Nat.le_succ _) (by simp)
 ·exact Gr.settle rfl (Nat.le_succ _) (by simp)
theorem Ji (d:Dcd):(Di d).stack.length=d.stack.length:=by unfold Di;simp only;split<;>simp
theorem Ads (m:Mac) (b:Int):Gr m (Ew m b):=by
 unfold Ew
 split
 ·exact(Adr _ _).of rfl (Ji _) rfl
 ·split
  ·exact Gr.settle rfl (by show (Di m.d).stack.length≤_;rw[Ji];omega) (by simp)
  ·split
   ·exact(Afm _ _).of rfl (Ji _) rfl
   ·exact(Afk _ _ _).of rfl (Ji _) rfl
theorem V3 (d:Dcd) (b:Int):Gr ⟨d,[]⟩ (B5 d b):=by
 unfold B5
 split
 ·exact Ads _ _
 ·exact⟨rfl,Nat.le_succ _,by simp⟩
theorem Z0 {d:Dcd} {b:Int} :(B5 d b).d.plan=d.plan∧(B5 d b).d.stack.length≤d.stack.length+1:=⟨(V3 d b).plan,(V3 d b).stack⟩
theorem Abz {d:Dcd} {b:Int} :(B5 d b).out.length≤d.stack.length+6:=by have:=(V3 d b).out;simp only[List.length_nil] at this;omega
theorem B8 (n:Int) (lo:Int) (hi:Int):Fun Tryz.prog 97 [vI n,vI lo,vI hi] [] (.v (vB (Ak n lo hi))) []:=by
 have hN:Bj=274877906944:=rfl
 refine Ar Tryz.func97 Q4 Q4 (w:=(.br (.leaf () []) (.leaf () []),Bc (decide (lo≤n)) (Lf (.v (vB (decide (n≤hi)))) (.v (vB (Ak n lo hi))) [] []) (Lf (.v (vB false)) (.v (vB (Ak n lo hi))) [] []))) Q4 ?_
 refine dsp (fun h1 p1=>?_) fun h1 p1=>?_
 exact⟨(congrArg S.v (congrArg V.c (congrArg C.bool (by simp[Ak, *])))),rfl⟩
 exact⟨(congrArg S.v (congrArg V.c (congrArg C.bool (by simp[Ak, *])))),rfl⟩
theorem Ba (n:Int) (lo:Int) (hi:Int):Fun Tryz.prog 44 [vI n,vI lo,vI hi] [] (.v (vB (Ak n lo hi))) []:=by
 have hN:Bj=274877906944:=rfl
 refine Ar Tryz.func44 Q4 Q4 (w:=(.br (.leaf () []) (.leaf () []),Bc (decide (lo≤n)) (Lf (.v (vB (decide (n≤hi)))) (.v (vB (Ak n lo hi))) [] []) (Lf (.v (vB false)) (.v (vB (Ak n lo hi))) [] []))) Q4 ?_
 refine dsp (fun h1 p1=>?_) fun h1 p1=>?_
 exact⟨(congrArg S.v (congrArg V.c (congrArg C.bool (by simp[Ak, *])))),rfl⟩
 exact⟨(congrArg S.v (congrArg V.c (congrArg C.bool (by simp[Ak, *])))),rfl⟩
theorem Gh (a:Int) (b:Int):Fun Tryz.prog 84 [vI a,vI b] [] (.v (vI (max a b))) []:=by
 have hN:Bj=274877906944:=rfl
 refine Ar Tryz.func84 Q4 Q4 (w:=(.br (.leaf () []) (.leaf () []),Bc (decide (b<a)) (Lf (.v (vI a)) (.v (vI (max a b))) [] []) (Lf (.v (vI b)) (.v (vI (max a b))) [] []))) Q4 ?_
 refine dsp (fun h1 p1=>?_) fun h1 p1=>?_
 exact⟨(congrArg S.v (congrArg V.c (congrArg (C.int .i64) Q2))),rfl⟩
 exact⟨(congrArg S.v (congrArg V.c (congrArg (C.int .i64) Q2))),rfl⟩
theorem Z1 (n:Int):Fun Tryz.prog 207 [vI n] [] (.v (vB (C7 n))) []:=by
 have hN:Bj=274877906944:=rfl
 refine Ar Tryz.func207 Q4 Q4 (w:=let z1:=Ak n 1 536870911;let z2:=Ak n 19000 19999;(.seg [.call [] (.v (vB z1)) []] (.br (.seg [.call [] (.v (vB z2)) []] (.leaf () [])) (.leaf () [])),(Fp 97 [vI n,vI 1,vI 536870911] [] (.v (vB z1)) [])∧Bc z1 ((Fp 97 [vI n,vI 19000,vI 19999] [] (.v (vB z2)) [])∧Lf (.v (vB (!z2))) (.v (vB (C7 n))) [] []) (Lf (.v (vB false)) (.v (vB (C7 n))) [] []))) Q4 ?_
 refine⟨(B8 _ _ _),fun h1=>have p1:=Aq h1;?_,fun h1=>have p1:=Aw h1;?_⟩
 exact⟨(B8 _ _ _),(congrArg S.v (congrArg V.c (congrArg C.bool (by simp[C7, *])))),rfl⟩
 exact⟨(congrArg S.v (congrArg V.c (congrArg C.bool (by simp[C7, *])))),rfl⟩
theorem U8 (n:Int):Fun Tryz.prog 156 [vI n] [] (.v (vB (C7 n))) []:=by
 have hN:Bj=274877906944:=rfl
 refine Ar Tryz.func156 Q4 Q4 (w:=let z1:=Ak n 1 536870911;let z2:=Ak n 19000 19999;(.seg [.call [] (.v (vB z1)) []] (.br (.seg [.call [] (.v (vB z2)) []] (.leaf () [])) (.leaf () [])),(Fp 44 [vI n,vI 1,vI 536870911] [] (.v (vB z1)) [])∧Bc z1 ((Fp 44 [vI n,vI 19000,vI 19999] [] (.v (vB z2)) [])∧Lf (.v (vB (!z2))) (.v (vB (C7 n))) [] []) (Lf (.v (vB false)) (.v (vB (C7 n))) [] []))) Q4 ?_
 refine⟨(Ba _ _ _),fun h1=>have p1:=Aq h1;?_,fun h1=>have p1:=Aw h1;?_⟩
 exact⟨(Ba _ _ _),(congrArg S.v (congrArg V.c (congrArg C.bool (by simp[C7, *])))),rfl⟩
 exact⟨(congrArg S.v (congrArg V.c (congrArg C.bool (by simp[C7, *])))),rfl⟩
theorem Za (w:Int):Fun Tryz.prog 104 [vI w] [] (.v (vB (Dh w))) []:=by
 have hN:Bj=274877906944:=rfl
 refine Ar Tryz.func104 Q4 Q4 (w:=let z1:=Lf (.v (vB true)) (.v (vB (Dh w))) [] [];(.br (.leaf () []) (.br (.leaf () []) (.br (.leaf () []) (.leaf () []))),Bc (decide (w=0)) z1 (Bc (decide (w=1)) z1 (Bc (decide (w=2)) z1 (Lf (.v (vB (decide (w=5)))) (.v (vB (Dh w))) [] []))))) Q4 ?_
 refine dsp (fun h1 p1=>?_) fun h1 p1=>?_
 exact⟨(congrArg S.v (congrArg V.c (congrArg C.bool Q66))),rfl⟩
 refine dsp (fun h2 p2=>?_) fun h2 p2=>?_
 exact⟨(congrArg S.v (congrArg V.c (congrArg C.bool Q66))),rfl⟩
 refine dsp (fun h3 p3=>?_) fun h3 p3=>?_
 exact⟨(congrArg S.v (congrArg V.c (congrArg C.bool Q66))),rfl⟩
 exact⟨(congrArg S.v (congrArg V.c (congrArg C.bool Q66))),rfl⟩
theorem Zb (w:Int):Fun Tryz.prog 122 [vI w] [] (.v (vB (Dh w))) []:=by
 have hN:Bj=274877906944:=rfl
 refine Ar Tryz.func122 Q4 Q4 (w:=let z1:=Lf (.v (vB true)) (.v (vB (Dh w))) [] [];(.br (.leaf () []) (.br (.leaf () []) (.br (.leaf () []) (.leaf () []))),Bc (decide (w=0)) z1 (Bc (decide (w=1)) z1 (Bc (decide (w=2)) z1 (Lf (.v (vB (decide (w=5)))) (.v (vB (Dh w))) [] []))))) Q4 ?_
 refine dsp (fun h1 p1=>?_) fun h1 p1=>?_
 exact⟨(congrArg S.v (congrArg V.c (congrArg C.bool Q66))),rfl⟩
 refine dsp (fun h2 p2=>?_) fun h2 p2=>?_
 exact⟨(congrArg S.v (congrArg V.c (congrArg C.bool Q66))),rfl⟩
 refine dsp (fun h3 p3=>?_) fun h3 p3=>?_
 exact⟨(congrArg S.v (congrArg V.c (congrArg C.bool Q66))),rfl⟩
 exact⟨(congrArg S.v (congrArg V.c (congrArg C.bool Q66))),rfl⟩
theorem Zc (k:Int):Fun Tryz.prog 208 [vI k] [] (.v (vB (D4 k))) []:=by
 have hN:Bj=274877906944:=rfl
 refine Ar Tryz.func208 Q4 Q4 (w:=let z1:S:= .v (vB (Ak k 1 8));(.seg [.call [] z1 []] (.leaf () []),(Fp 97 [vI k,vI 1,vI 8] [] z1 [])∧Lf z1 (.v (vB (D4 k))) [] [])) Q4 ?_
 exact⟨(B8 _ _ _),(congrArg S.v (congrArg V.c (congrArg C.bool (by rfl)))),rfl⟩
theorem Sn (k:Int):Fun Tryz.prog 157 [vI k] [] (.v (vB (D4 k))) []:=by
 have hN:Bj=274877906944:=rfl
 refine Ar Tryz.func157 Q4 Q4 (w:=let z1:S:= .v (vB (Ak k 1 8));(.seg [.call [] z1 []] (.leaf () []),(Fp 44 [vI k,vI 1,vI 8] [] z1 [])∧Lf z1 (.v (vB (D4 k))) [] [])) Q4 ?_
 exact⟨(Ba _ _ _),(congrArg S.v (congrArg V.c (congrArg C.bool (by rfl)))),rfl⟩
theorem Xa (k:Int):Fun Tryz.prog 209 [vI k] [] (.v (vB (Cw k))) []:=by
 have hN:Bj=274877906944:=rfl
 refine Ar Tryz.func209 Q4 Q4 (w:=let z1:S:= .v (vB (Ak k 1 5));(.seg [.call [] z1 []] (.leaf () []),(Fp 97 [vI k,vI 1,vI 5] [] z1 [])∧Lf z1 (.v (vB (Cw k))) [] [])) Q4 ?_
 exact⟨(B8 _ _ _),(congrArg S.v (congrArg V.c (congrArg C.bool (by rfl)))),rfl⟩
theorem Kr (k:Int):Fun Tryz.prog 158 [vI k] [] (.v (vB (Cw k))) []:=by
 have hN:Bj=274877906944:=rfl
 refine Ar Tryz.func158 Q4 Q4 (w:=let z1:S:= .v (vB (Ak k 1 5));(.seg [.call [] z1 []] (.leaf () []),(Fp 44 [vI k,vI 1,vI 5] [] z1 [])∧Lf z1 (.v (vB (Cw k))) [] [])) Q4 ?_
 exact⟨(Ba _ _ _),(congrArg S.v (congrArg V.c (congrArg C.bool (by rfl)))),rfl⟩
theorem V4 (k:Int):Fun Tryz.prog 181 [vI k] [] (.v (vI (B3 k))) []:=by
 have hN:Bj=274877906944:=rfl
 refine Ar Tryz.func181 Q4 Q4 (w:=let zi:Int→C:= .int .i64;let z1:=List.getD [0,0,0,5,1,2,2,2] (Int.toNat (k-1)) 0;(.seg [.call [] (.v (vB (D4 k))) []] (.br (.leaf () []) (.seg [.as 8 (.v (vI (k-1))),.ce (zi z1)] (.leaf () []))),(Fp 208 [vI k] [] (.v (vB (D4 k))) [])∧Bc (!(D4 k)) (Lf (.v (vI (-1))) (.v (vI (B3 k))) [] []) ((wI (k-1))∧((([zi 0,zi 0,zi 0,zi 5,zi 1,zi 2,zi 2,zi 2]:List C)[Int.toNat (k-1)]?)=some (zi z1))∧(k-1<((8:Nat):Int))∧((0:Int)≤k-1)∧Lf (.v (vI z1)) (.v (vI (B3 k))) [] []))) Q4 ?_
 refine⟨(Zc _),fun h1=>have q1:=Ao h1;have p1:=Aw q1;?_,fun h1=>have q1:=An h1;have p1:=Aq q1;?_⟩
 refine⟨(sI ?_),rfl⟩
 rotate_left
 refine⟨(Ac Q2 Q2),(Agn (l:=[0,0,0,5,1,2,2,2]) (by simp;omega)),Q2,Q2,(sI ?_),rfl⟩
 rotate_left
 all_goals first|(simp[B3, *];done)|(rcases (show k=1∨k=2∨k=3∨k=4∨k=5∨k=6∨k=7∨k=8 by omega) with rfl|rfl|rfl|rfl|rfl|rfl|rfl|rfl<;>rfl)
theorem Nu (k:Int):Fun Tryz.prog 131 [vI k] [] (.v (vI (B3 k))) []:=by
 have hN:Bj=274877906944:=rfl
 refine Ar Tryz.func131 Q4 Q4 (w:=let z1:S:= .v (vI (B3 k));(.seg [.call [] (.v (vB (D4 k))) []] (.br (.leaf () []) (.br (.leaf () []) (.br (.leaf () []) (.seg [.call [] (.v (vB (Cw k))) []] (.br (.leaf () []) (.leaf () [])))))),(Fp 157 [vI k] [] (.v (vB (D4 k))) [])∧Bc (!(D4 k)) (Lf (.v (vI (-1))) z1 [] []) (Bc (decide (k=4)) (Lf (.v (vI 5)) z1 [] []) (Bc (decide (k=5)) (Lf (.v (vI 1)) z1 [] []) ((Fp 158 [vI k] [] (.v (vB (Cw k))) [])∧Bc (Cw k) (Lf (.v (vI 0)) z1 [] []) (Lf (.v (vI 2)) z1 [] [])))))) Q4 ?_
 refine⟨(Sn _),fun h1=>have q1:=Ao h1;have p1:=Aw q1;?_,fun h1=>have q1:=An h1;have p1:=Aq q1;?_⟩
 refine⟨(sI ?_),rfl⟩
 rotate_left
 refine dsp (fun h2 p2=>?_) fun h2 p2=>?_
 refine⟨(sI ?_),rfl⟩
 rotate_left
 refine dsp (fun h3 p3=>?_) fun h3 p3=>?_
 refine⟨(sI ?_),rfl⟩
 rotate_left
 refine⟨(Kr _),fun h4=>have p4:=Aq h4;?_,fun h4=>have p4:=Aw h4;?_⟩
 refine⟨(sI ?_),rfl⟩
 rotate_left
 refine⟨(sI ?_),rfl⟩
 rotate_left
 all_goals first|(simp[B3, *]<;>(repeat' split)<;>omega)|(subst_vars;rfl)
theorem Ep (w:Int):Fun Tryz.prog 171 [vI w] [] (.v (vI (Ay w))) []:=by
 have hN:Bj=274877906944:=rfl
 refine Ar Tryz.func171 Q4 Q4 (w:=let z1:S:= .v (vI (Ay w));(.br (.leaf () []) (.br (.leaf () []) (.leaf () [])),Bc (decide (w=1)) (Lf (.v (vI 8)) z1 [] []) (Bc (decide (w=5)) (Lf (.v (vI 4)) z1 [] []) (Lf (.v (vI 0)) z1 [] [])))) Q4 ?_
 refine dsp (fun h1 p1=>?_) fun h1 p1=>?_
 exact⟨(congrArg S.v (congrArg V.c (congrArg (C.int .i64) (by simp[Ay, *])))),rfl⟩
 refine dsp (fun h2 p2=>?_) fun h2 p2=>?_
 exact⟨(congrArg S.v (congrArg V.c (congrArg (C.int .i64) (by simp[Ay, *])))),rfl⟩
 exact⟨(congrArg S.v (congrArg V.c (congrArg (C.int .i64) (by simp[Ay, *])))),rfl⟩
theorem Dm (w:Int):Fun Tryz.prog 127 [vI w] [] (.v (vI (Ay w))) []:=by
 have hN:Bj=274877906944:=rfl
 refine Ar Tryz.func127 Q4 Q4 (w:=let z1:S:= .v (vI (Ay w));(.br (.leaf () []) (.br (.leaf () []) (.leaf () [])),Bc (decide (w=1)) (Lf (.v (vI 8)) z1 [] []) (Bc (decide (w=5)) (Lf (.v (vI 4)) z1 [] []) (Lf (.v (vI 0)) z1 [] [])))) Q4 ?_
 refine dsp (fun h1 p1=>?_) fun h1 p1=>?_
 exact⟨(congrArg S.v (congrArg V.c (congrArg (C.int .i64) (by simp[Ay, *])))),rfl⟩
 refine dsp (fun h2 p2=>?_) fun h2 p2=>?_
 exact⟨(congrArg S.v (congrArg V.c (congrArg (C.int .i64) (by simp[Ay, *])))),rfl⟩
 exact⟨(congrArg S.v (congrArg V.c (congrArg (C.int .i64) (by simp[Ay, *])))),rfl⟩
theorem Ab0 (f:Fld):Fun Tryz.prog 169 [.agg (E6 f)] [] (.v (vB (Rx f))) []:=by
 have hN:Bj=274877906944:=rfl
 refine Ar Tryz.func169 Q4 Q4 (w:=let z1:S:= .v (vB (Cw f.kind));(.br (.seg [.call [] z1 []] (.leaf () [])) (.leaf () []),Bc f.rep ((Fp 209 [vI f.kind] [] z1 [])∧Lf z1 (.v (vB (Rx f))) [] []) (Lf (.v (vB false)) (.v (vB (Rx f))) [] []))) Q4 ?_
 refine⟨fun h1=>?_,fun h1=>?_⟩
 exact⟨(Xa _),(congrArg S.v (congrArg V.c (congrArg C.bool (by simp[Rx, *])))),rfl⟩
 exact⟨(congrArg S.v (congrArg V.c (congrArg C.bool (by simp[Rx, *])))),rfl⟩
theorem Ts (f:Fld):Fun Tryz.prog 129 [.agg (E6 f)] [] (.v (vB (Rx f))) []:=by
 have hN:Bj=274877906944:=rfl
 refine Ar Tryz.func129 Q4 Q4 (w:=let z1:S:= .v (vB (Cw f.kind));(.br (.seg [.call [] z1 []] (.leaf () [])) (.leaf () []),Bc f.rep ((Fp 158 [vI f.kind] [] z1 [])∧Lf z1 (.v (vB (Rx f))) [] []) (Lf (.v (vB false)) (.v (vB (Rx f))) [] []))) Q4 ?_
 refine⟨fun h1=>?_,fun h1=>?_⟩
 exact⟨(Kr _),(congrArg S.v (congrArg V.c (congrArg C.bool (by simp[Rx, *])))),rfl⟩
 exact⟨(congrArg S.v (congrArg V.c (congrArg C.bool (by simp[Rx, *])))),rfl⟩
theorem Jj (f:Fld) (w:Int) (hp1:(0:Int)≤w):Fun Tryz.prog 170 [.agg (E6 f),vI w] [] (.v (vB (C4 f w))) []:=by
 have hN:Bj=274877906944:=rfl
 refine Ar Tryz.func170 Q4 Q4 (w:=let z1:S:= .v (vB (C4 f w));let z2:S:= .v (vB (Rx f));(.seg [.call [] (.v (vI (B3 f.kind))) []] (.br (.leaf () []) (.br (.seg [.call [] z2 []] (.leaf () [])) (.leaf () []))),(Fp 181 [vI f.kind] [] (.v (vI (B3 f.kind))) [])∧Bc (decide (w=B3 f.kind)) (Lf (.v (vB true)) z1 [] []) (Bc (decide (w=2)) ((Fp 169 [.agg (E6 f)] [] z2 [])∧Lf z2 z1 [] []) (Lf (.v (vB false)) z1 [] [])))) Q4 ?_
 refine⟨(V4 _),dsp (fun h1 p1=>?_) fun h1 p1=>?_⟩
 refine⟨(sB ?_),rfl⟩
 rotate_left
 refine dsp (fun h2 p2=>?_) fun h2 p2=>?_
 refine⟨(Ab0 f),(sB ?_),rfl⟩
 rotate_left
 refine⟨(sB ?_),rfl⟩
 rotate_left
 all_goals first|(simp[C4, *]<;>(repeat' split)<;>omega)|(simp[C4,B3, *]<;>(repeat' split)<;>omega)
theorem Xb (f:Fld) (w:Int) (hp1:(0:Int)≤w):Fun Tryz.prog 128 [.agg (E6 f),vI w] [] (.v (vB (C4 f w))) []:=by
 have hN:Bj=274877906944:=rfl
 refine Ar Tryz.func128 Q4 Q4 (w:=let z1:S:= .v (vB (C4 f w));let z2:S:= .v (vB (Rx f));(.seg [.call [] (.v (vB (D4 f.kind))) []] (.br (.seg [.call [] (.v (vI (B3 f.kind))) []] (.br (.leaf () []) (.br (.seg [.call [] z2 []] (.leaf () [])) (.leaf () [])))) (.br (.seg [.call [] z2 []] (.leaf () [])) (.leaf () []))),(Fp 157 [vI f.kind] [] (.v (vB (D4 f.kind))) [])∧Bc (D4 f.kind) ((Fp 131 [vI f.kind] [] (.v (vI (B3 f.kind))) [])∧Bc (decide (w=B3 f.kind)) (Lf (.v (vB true)) z1 [] []) (Bc (decide (w=2)) ((Fp 129 [.agg (E6 f)] [] z2 [])∧Lf z2 z1 [] []) (Lf (.v (vB false)) z1 [] []))) (Bc (decide (w=2)) ((Fp 129 [.agg (E6 f)] [] z2 [])∧Lf z2 z1 [] []) (Lf (.v (vB false)) z1 [] [])))) Q4 ?_
 refine⟨(Sn _),fun h1=>have p1:=Aq h1;?_,fun h1=>have p1:=Aw h1;?_⟩
 refine⟨(Nu _),dsp (fun h2 p2=>?_) fun h2 p2=>?_⟩
 refine⟨(sB ?_),rfl⟩
 rotate_left
 refine dsp (fun h3 p3=>?_) fun h3 p3=>?_
 refine⟨(Ts f),(sB ?_),rfl⟩
 rotate_left
 refine⟨(sB ?_),rfl⟩
 rotate_left
 refine dsp (fun h2 p2=>?_) fun h2 p2=>?_
 refine⟨(Ts f),(sB ?_),rfl⟩
 rotate_left
 refine⟨(sB ?_),rfl⟩
 rotate_left
 all_goals first|(simp[C4, *]<;>(repeat' split)<;>omega)|(simp[C4,B3, *]<;>(repeat' split)<;>omega)
structure Lq where
 u:Int
 out:List Int
def Lr (u:Int):Fam:=⟨Lq,fun q1=>[(0,.v (.c (.int .u64 q1.u))),(3,.v (vO 0))],fun q1=>[.lst .u8 q1.out],fun q1=>(0:Int)≤q1.u∧q1.u≤18446744073709551615∧List.map Bf q1.out++Dp q1.u=Dp u∧q1.out.length+List.length (Dp q1.u)≤10,fun q1=>q1.u.toNat⟩
theorem So (u:Int) (hp1:(0:Int)≤u∧u≤18446744073709551615):Fun Tryz.prog 202 [.c (.int .u64 u)] [] (.v (vT (Dp u))) []:=by
 have hN:Bj=274877906944:=rfl
 refine Ar Tryz.func202 Q4 Q4 (w:=let z2:=Lr u;(.seg [.ty .u8,.at 0,.keep [0,3],.sel [0]] (.loop z2 fun q1=> .br (.seg [.as 9 (.v (.c (.int .u64 (q1.u % 128)))),.as 10 (.v (.c (.int .u64 (q1.u % 128+128)))),.as 11 (.v (.c (.int .u8 (q1.u % 128+128)))),.ty .u8,.ty .u8,.as 15 (.v (.c (.int .u64 (q1.u / 128)))),.at 0,.keep [0,3],.sel [2]] (.next)) (.seg [.as 18 (.v (.c (.int .u8 q1.u))),.ty .u8,.ty .u8] (.leaf () []))),z2.Has [(0,.v (.c (.int .u64 u))),(3,.v (vO 0))] [.lst .u8 ([]:List Int)]∧∀q1,z2.inv q1→(let z1:=q1.u % 128+128;Bc (decide (127<q1.u)) (((128:Int)≠0)∧((.v (.c (.int .u64 (Int.tmod q1.u 128))):S)= .v (.c (.int .u64 (q1.u % 128))))∧((.v (.c (.int .u64 (IntKind.u64.wrap ((q1.u % 128)+128)))):S)= .v (.c (.int .u64 z1)))∧((.v (.c (.int .u8 (IntKind.u8.wrap z1))):S)= .v (.c (.int .u8 z1)))∧(q1.out.length+List.length [q1.u % 128+128]≤Bj)∧((128:Int)≠0)∧((.v (.c (.int .u64 (IntKind.u64.wrap (Int.tdiv q1.u 128)))):S)= .v (.c (.int .u64 (q1.u / 128))))∧z2.Nxt q1 [(0,.v (.c (.int .u64 (q1.u / 128)))),(3,.v (vO 0))] [.lst .u8 (q1.out++[q1.u % 128+128])]) (((.v (.c (.int .u8 (IntKind.u8.wrap (q1.u)))):S)= .v (.c (.int .u8 q1.u)))∧(q1.out.length+List.length [q1.u]≤Bj)∧Lf (.v (vT (List.map Bf (q1.out++[q1.u])))) (.v (vT (Dp u))) [] [])))) Q4 ?_
 refine⟨Bh (j:=(⟨u,([]:List Int)⟩:Lq)) rfl rfl (by dsimp only[Lr];exact⟨by omega,by omega,by simp,by have:=Y6 (u:=u) Q2;unfold Jy at this;simp;omega⟩),fun (q1:Lq) hq_q1=>?_⟩
 have hi_q1:(0:Int)≤q1.u∧q1.u≤18446744073709551615∧List.map Bf q1.out++Dp q1.u=Dp u∧q1.out.length+List.length (Dp q1.u)≤10:=hq_q1
 obtain ⟨v1,v2,v3,v4⟩:=hi_q1
 refine dsp (fun h1 p1=>?_) fun h1 p1=>?_
 exact⟨Q25,(Vw Q2),(Bt Q2 Q2),(Ko Q2 Q2),(by have:=U5 q1.u;simp;omega),Q25,(Ti Q2 Q2 Q25),Bb (j:=(⟨q1.u / 128,q1.out++[q1.u % 128+128]⟩:Lq)) rfl rfl (by dsimp only[Lr];exact⟨by omega,by omega,by rw[←v3,U4 (u:=q1.u) (by omega) (by omega)];simp[Bf],by rw[U4 (u:=q1.u) (by omega) (by omega)] at v4;simp at v4 ⊢;omega⟩) (by dsimp only[Lr];omega)⟩
 refine⟨(Ko Q2 Q2),(by have:=U5 q1.u;simp;omega),(congrArg S.v (congrArg V.c (congrArg C.str ?_))),rfl⟩
 rotate_left
 all_goals rw[←v3,W3 (u:=q1.u) (by omega) (by omega)];simp[Bf]
structure Ac3 where
 u:Int
 k:Nat
structure Afn where
 u:Int
 i:Int
theorem Ci (n:Int) (w:Int):Fun Tryz.prog 222 [vI n,vI w] [] (.v (.c (.int .u64 (Cq n w)))) []:=by
 have hN:Bj=274877906944:=rfl
 refine Ar Tryz.func222 Q4 Q4 (w:=let z2:=(8*n)+w;let z3:=Ak n 1 536870911;let z4:S:= .v (.c (.int .u64 (Cq n w)));let z1:=Lf (.v (.c (.int .u64 0))) z4 [] [];(.seg [.call [] (.v (vB z3)) []] (.br (.leaf () []) (.seg [.call [] (.v (vB (Ak w 0 7))) []] (.br (.leaf () []) (.seg [.as 14 (.v (vI (8*n))),.as 16 (.v (vI z2)),.as 17 (.v (.c (.int .u64 z2)))] (.leaf () []))))),(Fp 44 [vI n,vI 1,vI 536870911] [] (.v (vB z3)) [])∧Bc (!z3) z1 ((Fp 44 [vI w,vI 0,vI 7] [] (.v (vB (Ak w 0 7))) [])∧Bc (!(Ak w 0 7)) z1 ((wI (8*n))∧(wI z2)∧(wU z2)∧Lf (.v (.c (.int .u64 z2))) z4 [] [])))) Q4 ?_
 refine⟨(Ba _ _ _),fun h1=>have q1:=Ao h1;have p1:=Aw q1;?_,fun h1=>have q1:=An h1;have p1:=Aq q1;?_⟩
 exact⟨(congrArg S.v (congrArg V.c (congrArg (C.int .u64) (by simp[Cq, *])))),rfl⟩
 refine⟨(Ba _ _ _),fun h2=>have q2:=Ao h2;have p2:=Aw q2;?_,fun h2=>have q2:=An h2;have p2:=Aq q2;?_⟩
 exact⟨(congrArg S.v (congrArg V.c (congrArg (C.int .u64) (by simp[Cq, *])))),rfl⟩
 exact⟨(Ac Q2 Q2),(Ac Q2 Q2),(Bt Q2 Q2),(congrArg S.v (congrArg V.c (congrArg (C.int .u64) (by simp[Cq, *])))),rfl⟩
theorem Afo (u:Int) (hp1:(0:Int)≤u∧u≤18446744073709551615):Fun Tryz.prog 216 [.c (.int .u64 u)] [] (.tup [vI (Bn u),vI (Aj u),vB (Lh u)]) []:=by
 have hN:Bj=274877906944:=rfl
 refine Ar Tryz.func216 Q4 Q4 (w:=let z1:S:= .tup [vI (Bn u),vI (Aj u),vB (Lh u)];let z2:=(.v (.c (.int .u64 (Int.fdiv u (2 ^ 3)))):S)= .v (.c (.int .u64 (u / 8)));let z3:=Lf (.tup [vI 0,vI 0,vB false]) z1 [] [];(.br (.leaf () []) (.seg [.as 9 (.v (.c (.int .u64 (u / 8))))] (.br (.leaf () []) (.seg [.as 13 (.v (.c (.int .u64 (u / 8)))),.as 14 (.v (vI (u / 8))),.as 16 (.v (.c (.int .u64 (u % 8)))),.as 17 (.v (vI (u % 8)))] (.leaf () [])))),Bc (decide (u<8)) z3 (((0:Int)≤3)∧z2∧Bc (decide (536870911<u / 8)) z3 (((0:Int)≤3)∧z2∧(wI (u / 8))∧((.v (.c (.int .u64 (IntKind.u64.wrap (((BitVec.ofInt 64 u&&&BitVec.ofInt 64 7).toNat:Nat))))):S)= .v (.c (.int .u64 (u % 8))))∧(wI (u % 8))∧Lf (.tup [vI (u / 8),vI (u % 8),vB true]) z1 [] [])))) Q4 ?_
 refine dsp (fun h1 p1=>?_) fun h1 p1=>?_
 refine⟨(congrArg S.tup (Ag (congrArg V.c (congrArg (C.int .i64) ?_)) (Ag (congrArg V.c (congrArg (C.int .i64) ?_)) (Ag (congrArg V.c (congrArg C.bool ?_)) rfl)))),rfl⟩
 rotate_left 3
 refine⟨Q25,(U0 (k:=3) Q25 Q25),dsp (fun h2 p2=>?_) fun h2 p2=>?_⟩
 refine⟨(congrArg S.tup (Ag (congrArg V.c (congrArg (C.int .i64) ?_)) (Ag (congrArg V.c (congrArg (C.int .i64) ?_)) (Ag (congrArg V.c (congrArg C.bool ?_)) rfl)))),rfl⟩
 rotate_left 3
 refine⟨Q25,(U0 (k:=3) Q25 Q25),(Ac Q2 Q2),(X3 (k:=3) Q25 Q25),(Ac Q2 Q2),(congrArg S.tup (Ag (congrArg V.c (congrArg (C.int .i64) ?_)) (Ag (congrArg V.c (congrArg (C.int .i64) ?_)) (Ag (congrArg V.c (congrArg C.bool ?_)) rfl)))),rfl⟩
 rotate_left 3
 all_goals first|((have ht:Lh u=true:=by (simp[Lh,Ak];omega));simp[Bn,Aj,ht])|((have ht:Lh u=false:=by (simp[Lh,Ak];omega));simp[Bn,Aj,ht])
theorem Afp (u:Int) (hp1:(0:Int)≤u∧u≤18446744073709551615):Fun Tryz.prog 191 [.c (.int .u64 u)] [] (.tup [vI (Bn u),vI (Aj u),vB (Lh u)]) []:=by
 have hN:Bj=274877906944:=rfl
 refine Ar Tryz.func191 Q4 Q4 (w:=let z1:S:= .tup [vI (Bn u),vI (Aj u),vB (Lh u)];let z2:=Lf (.tup [vI 0,vI 0,vB false]) z1 [] [];(.br (.leaf () []) (.br (.leaf () []) (.seg [.as 12 (.v (.c (.int .u64 (u / 8)))),.as 13 (.v (vI (u / 8))),.as 15 (.v (.c (.int .u64 (u % 8)))),.as 16 (.v (vI (u % 8)))] (.leaf () []))),Bc (decide (u<8)) z2 (Bc (decide (4294967295<u)) z2 (((8:Int)≠0)∧((.v (.c (.int .u64 (IntKind.u64.wrap (Int.tdiv u 8)))):S)= .v (.c (.int .u64 (u / 8))))∧(wI (u / 8))∧((8:Int)≠0)∧((.v (.c (.int .u64 (Int.tmod u 8))):S)= .v (.c (.int .u64 (u % 8))))∧(wI (u % 8))∧Lf (.tup [vI (u / 8),vI (u % 8),vB true]) z1 [] [])))) Q4 ?_
 refine dsp (fun h1 p1=>?_) fun h1 p1=>?_
 refine⟨(congrArg S.tup (Ag (congrArg V.c (congrArg (C.int .i64) ?_)) (Ag (congrArg V.c (congrArg (C.int .i64) ?_)) (Ag (congrArg V.c (congrArg C.bool ?_)) rfl)))),rfl⟩
 rotate_left 3
 refine dsp (fun h2 p2=>?_) fun h2 p2=>?_
 refine⟨(congrArg S.tup (Ag (congrArg V.c (congrArg (C.int .i64) ?_)) (Ag (congrArg V.c (congrArg (C.int .i64) ?_)) (Ag (congrArg V.c (congrArg C.bool ?_)) rfl)))),rfl⟩
 rotate_left 3
 refine⟨Q25,(Ti Q2 Q2 Q25),(Ac Q2 Q2),Q25,(Vw Q2),(Ac Q2 Q2),(congrArg S.tup (Ag (congrArg V.c (congrArg (C.int .i64) ?_)) (Ag (congrArg V.c (congrArg (C.int .i64) ?_)) (Ag (congrArg V.c (congrArg C.bool ?_)) rfl)))),rfl⟩
 rotate_left 3
 all_goals first|((have ht:Lh u=true:=by (simp[Lh,Ak];omega));simp[Bn,Aj,ht])|((have ht:Lh u=false:=by (simp[Lh,Ak];omega));simp[Bn,Aj,ht])
theorem Ab1 (c:Int) (a:Int):Fun Tryz.prog 111 [vI c,vI a] [] (.v (.agg (cEv (A2 c a)))) []:=by
 have hN:Bj=274877906944:=rfl
 refine Ar Tryz.func111 Q4 Q4 (w:=(.leaf () [],Lf (.v (.agg [.int .i64 10,.int .i64 0,.int .u64 0,.int .i64 0,.str [],.int .i64 c,.int .i64 a])) (.v (.agg (cEv (A2 c a)))) [] [])) Q4 ?_
 have hm1:A2 c a=(⟨10,0,0,0,[],c,a⟩:Ev):=by rfl
 exact⟨Q6,rfl⟩
theorem Ab2 (c:Int) (a:Int):Fun Tryz.prog 94 [vI c,vI a] [] (.v (.agg (cEv (A2 c a)))) []:=by
 have hN:Bj=274877906944:=rfl
 refine Ar Tryz.func94 Q4 Q4 (w:=(.leaf () [],Lf (.v (.agg [.int .i64 10,.int .i64 0,.int .u64 0,.int .i64 0,.str [],.int .i64 c,.int .i64 a])) (.v (.agg (cEv (A2 c a)))) [] [])) Q4 ?_
 have hm1:A2 c a=(⟨10,0,0,0,[],c,a⟩:Ev):=by rfl
 exact⟨Q6,rfl⟩
theorem U9 (f:Fld) (u:Int) (hp1:(0:Int)≤u):Fun Tryz.prog 215 [.agg (E6 f),.c (.int .u64 u)] [] (.v (.agg (cEv (Gg f u)))) []:=by
 have hN:Bj=274877906944:=rfl
 refine Ar Tryz.func215 Q4 Q4 (w:=let zi:Int→C:= .int .i64;let z1:List C:=[zi 2,zi f.number,.int .u64 u,zi 0,.str [],zi 0,zi 0];let z2:=Lf (.v (.agg z1)) (.v (.agg (cEv (Gg f u)))) [] [];(.br (.br (.leaf () []) (.leaf () [])) (.leaf () []),Bc (decide (f.kind=3)) (Bc (!decide (u=0)) (Lf (.v (.agg [zi 2,zi f.number,.int .u64 1,zi 0,.str [],zi 0,zi 0])) (.v (.agg (cEv (Gg f u)))) [] []) z2) z2)) Q4 ?_
 refine dsp (fun h1 p1=>?_) fun h1 p1=>?_
 refine⟨fun h2=>have q2:=Ao h2;have p2:=of_decide_eq_false q2;?_,fun h2=>have q2:=An h2;have p2:=of_decide_eq_true q2;?_⟩
 refine zE (Gg f u) (⟨2,f.number,1,0,[],0,0⟩:Ev) (fun hm1=>⟨Q6,rfl⟩) ?_
 rotate_left
 refine zE (Gg f u) (⟨2,f.number,u,0,[],0,0⟩:Ev) (fun hm1=>⟨Q6,rfl⟩) ?_
 rotate_left
 refine zE (Gg f u) (⟨2,f.number,u,0,[],0,0⟩:Ev) (fun hm1=>⟨Q6,rfl⟩) ?_
 rotate_left
 all_goals simp[Gg, *]<;>omega
theorem Rb (f:Fld) (u:Int) (hp1:(0:Int)≤u):Fun Tryz.prog 134 [.agg (E6 f),.c (.int .u64 u)] [] (.v (.agg (cEv (Gg f u)))) []:=by
 have hN:Bj=274877906944:=rfl
 refine Ar Tryz.func134 Q4 Q4 (w:=let zi:Int→C:= .int .i64;let z1:List C:=[zi 2,zi f.number,.int .u64 u,zi 0,.str [],zi 0,zi 0];let z2:=Lf (.v (.agg z1)) (.v (.agg (cEv (Gg f u)))) [] [];(.br (.br (.leaf () []) (.leaf () [])) (.leaf () []),Bc (decide (f.kind=3)) (Bc (decide (1<u)) (Lf (.v (.agg [zi 2,zi f.number,.int .u64 1,zi 0,.str [],zi 0,zi 0])) (.v (.agg (cEv (Gg f u)))) [] []) z2) z2)) Q4 ?_
 refine dsp (fun h1 p1=>?_) fun h1 p1=>?_
 refine dsp (fun h2 p2=>?_) fun h2 p2=>?_
 refine zE (Gg f u) (⟨2,f.number,1,0,[],0,0⟩:Ev) (fun hm1=>⟨Q6,rfl⟩) ?_
 rotate_left
 refine zE (Gg f u) (⟨2,f.number,u,0,[],0,0⟩:Ev) (fun hm1=>⟨Q6,rfl⟩) ?_
 rotate_left
 refine zE (Gg f u) (⟨2,f.number,u,0,[],0,0⟩:Ev) (fun hm1=>⟨Q6,rfl⟩) ?_
 rotate_left
 all_goals simp[Gg, *]<;>omega
theorem Ab3 (u:Utf):Fun Tryz.prog 103 [.agg (Jg u)] [] (.v (vB (Ed u))) []:=by
 have hN:Bj=274877906944:=rfl
 refine Ar Tryz.func103 Q4 Q4 (w:=let z1:=decide (u.low=128)&&decide (u.high=191);let z2:S:= .v (vB (Ed u));let z3:S:= .v (vB true);let z4:=decide (u.want=2)&&(decide (u.low=160)&&decide (u.high=191));let z5:=decide (u.want=2)&&(decide (u.low=128)&&decide (u.high=159));let z6:=decide (u.want=3)&&(decide (u.low=144)&&decide (u.high=191));let z7:=decide (u.want=0)&&(decide (u.low=0)&&decide (u.high=0));(.br (.seg [.br true] (.leaf () [])) (.br (.seg [.br true] (.leaf () [])) (.br (.seg [.br true] (.leaf () [])) (.br (.seg [.br true] (.leaf () [])) (.br (.seg [.br true] (.leaf () [])) (.br (.seg [.br true] (.leaf () [])) (.br (.seg [.br true] (.leaf () [])) (.br (.leaf () []) (.leaf () [])))))))),Bc z7 ((z7=true)∧Lf z3 z2 [] []) (Bc (decide (u.want=1)&&z1) (((decide (u.want=1)&&z1)=true)∧Lf z3 z2 [] []) (Bc (decide (u.want=2)&&z1) (((decide (u.want=2)&&z1)=true)∧Lf z3 z2 [] []) (Bc (decide (u.want=3)&&z1) (((decide (u.want=3)&&z1)=true)∧Lf z3 z2 [] []) (Bc z4 ((z4=true)∧Lf z3 z2 [] []) (Bc z5 ((z5=true)∧Lf z3 z2 [] []) (Bc z6 ((z6=true)∧Lf z3 z2 [] []) (Bc (decide (u.want=3)&&(decide (u.low=128)&&decide (u.high=143))) (Lf z3 z2 [] []) (Lf (.v (vB false)) z2 [] [])))))))))) Q4 ?_
 refine⟨fun h1=>have p1:=(Cb dT (Cb dT dT)).1 h1;?_,fun h1=>have p1:=(Cc dT (Cc dT dF)).1 h1;?_⟩
 refine⟨h1,(sB ?_),rfl⟩
 rotate_left
 refine⟨fun h2=>have p2:=(Cb dT (Cb dT dT)).1 h2;?_,fun h2=>have p2:=(Cc dT (Cc dT dF)).1 h2;?_⟩
 refine⟨h2,(sB ?_),rfl⟩
 rotate_left
 refine⟨fun h3=>have p3:=(Cb dT (Cb dT dT)).1 h3;?_,fun h3=>have p3:=(Cc dT (Cc dT dF)).1 h3;?_⟩
 refine⟨h3,(sB ?_),rfl⟩
 rotate_left
 refine⟨fun h4=>have p4:=(Cb dT (Cb dT dT)).1 h4;?_,fun h4=>have p4:=(Cc dT (Cc dT dF)).1 h4;?_⟩
 refine⟨h4,(sB ?_),rfl⟩
 rotate_left
 refine⟨fun h5=>have p5:=(Cb dT (Cb dT dT)).1 h5;?_,fun h5=>have p5:=(Cc dT (Cc dT dF)).1 h5;?_⟩
 refine⟨h5,(sB ?_),rfl⟩
 rotate_left
 refine⟨fun h6=>have p6:=(Cb dT (Cb dT dT)).1 h6;?_,fun h6=>have p6:=(Cc dT (Cc dT dF)).1 h6;?_⟩
 refine⟨h6,(sB ?_),rfl⟩
 rotate_left
 refine⟨fun h7=>have p7:=(Cb dT (Cb dT dT)).1 h7;?_,fun h7=>have p7:=(Cc dT (Cc dT dF)).1 h7;?_⟩
 refine⟨h7,(sB ?_),rfl⟩
 rotate_left
 refine⟨fun h8=>have p8:=(Cb dT (Cb dT dT)).1 h8;?_,fun h8=>have p8:=(Cc dT (Cc dT dF)).1 h8;?_⟩
 refine⟨(sB ?_),rfl⟩
 rotate_left
 refine⟨(sB ?_),rfl⟩
 rotate_left
 all_goals first|(rw[Bool.eq_iff_iff];simp[Ed,Ms];omega)|(rw[Bool.eq_iff_iff];simp[Ed,Ms,Ak];omega)|(simp_all[Ed,Ms,Ak];done)
theorem Ab4 (u:Utf):Fun Tryz.prog 121 [.agg (Jg u)] [] (.v (vB (Ed u))) []:=by
 have hN:Bj=274877906944:=rfl
 refine Ar Tryz.func121 Q4 Q4 (w:=let z2:S:= .v (vB (Ed u));let z3:=decide (u.low=128);let z1:=(z3=false)∧Lf (.v (vB false)) z2 [] [];let z4:=decide (u.high=191);let z5:S:= .v (vB (Ak u.want 1 3));let z6:=Lf (.v (vB true)) z2 [] [];let z7:S:= .v (vB (decide (u.high=159)));let z8:S:= .v (vB (decide (u.high=143)));(.br (.leaf () []) (.br (.br (.seg [.call [] z5 []] (.leaf () [])) (.br (.br (.seg [.br false,.br true] (.leaf () [])) (.seg [.br true] (.leaf () []))) (.br (.br (.seg [.br false,.br true] (.leaf () [])) (.seg [.br true] (.leaf () []))) (.leaf () [])))) (.br (.br (.br (.leaf () []) (.seg [.br false] (.leaf () []))) (.seg [.br false] (.leaf () []))) (.br (.br (.br (.leaf () []) (.seg [.br false] (.leaf () []))) (.seg [.br false] (.leaf () []))) (.leaf () [])))),Bc (decide (u.want=0)&&(decide (u.low=0)&&decide (u.high=0))) z6 (Bc z3 (Bc z4 ((Fp 44 [vI u.want,vI 1,vI 3] [] z5 [])∧Lf z5 z2 [] []) (Bc (decide (u.want=2)) (Bc (decide (u.low=160)) ((z4=false)∧(z3=true)∧Lf z7 z2 [] []) ((z3=true)∧Lf z7 z2 [] [])) (Bc (decide (u.want=3)) (Bc (decide (u.low=144)) ((z4=false)∧(z3=true)∧Lf z8 z2 [] []) ((z3=true)∧Lf z8 z2 [] [])) (Lf (.v (vB false)) z2 [] [])))) (Bc (decide (u.want=2)) (Bc (decide (u.low=160)) (Bc z4 z6 z1) z1) (Bc (decide (u.want=3)) (Bc (decide (u.low=144)) (Bc z4 z6 z1) z1) (Lf (.v (vB false)) z2 [] [])))))) Q4 ?_
 refine⟨fun h1=>have p1:=(Cb dT (Cb dT dT)).1 h1;?_,fun h1=>have p1:=(Cc dT (Cc dT dF)).1 h1;?_⟩
 refine⟨(sB ?_),rfl⟩
 rotate_left
 refine dsp (fun h2 p2=>?_) fun h2 p2=>?_
 refine dsp (fun h3 p3=>?_) fun h3 p3=>?_
 refine⟨(Ba _ _ _),(sB ?_),rfl⟩
 rotate_left
 refine dsp (fun h4 p4=>?_) fun h4 p4=>?_
 refine dsp (fun h5 p5=>?_) fun h5 p5=>?_
 refine⟨h3,h2,(sB ?_),rfl⟩
 rotate_left
 refine⟨h2,(sB ?_),rfl⟩
 rotate_left
 refine dsp (fun h5 p5=>?_) fun h5 p5=>?_
 refine dsp (fun h6 p6=>?_) fun h6 p6=>?_
 refine⟨h3,h2,(sB ?_),rfl⟩
 rotate_left
 refine⟨h2,(sB ?_),rfl⟩
 rotate_left
 refine⟨(sB ?_),rfl⟩
 rotate_left
 refine dsp (fun h3 p3=>?_) fun h3 p3=>?_
 refine dsp (fun h4 p4=>?_) fun h4 p4=>?_
 refine dsp (fun h5 p5=>?_) fun h5 p5=>?_
 refine⟨(sB ?_),rfl⟩
 rotate_left
 refine⟨h2,(sB ?_),rfl⟩
 rotate_left
 refine⟨h2,(sB ?_),rfl⟩
 rotate_left
 refine dsp (fun h4 p4=>?_) fun h4 p4=>?_
 refine dsp (fun h5 p5=>?_) fun h5 p5=>?_
 refine dsp (fun h6 p6=>?_) fun h6 p6=>?_
 refine⟨(sB ?_),rfl⟩
 rotate_left
 refine⟨h2,(sB ?_),rfl⟩
 rotate_left
 refine⟨h2,(sB ?_),rfl⟩
 rotate_left
 refine⟨(sB ?_),rfl⟩
 rotate_left
 all_goals first|(rw[Bool.eq_iff_iff];simp[Ed,Ms];omega)|(rw[Bool.eq_iff_iff];simp[Ed,Ms,Ak];omega)|(simp_all[Ed,Ms,Ak];done)
theorem Z2 (b:Int):Fun Tryz.prog 214 [vI b] [] (.tup [.agg (Jg ((A5 b).getD utf0)),vB (A5 b).isSome]) []:=by
 have hN:Bj=274877906944:=rfl
 refine Ar Tryz.func214 Q4 Q4 (w:=let zi:Int→C:= .int .i64;let z1:S:= .tup [.agg (Jg ((A5 b).getD utf0)),vB (A5 b).isSome];let z2:=Ak b 194 223;let z3:=Ak b 224 239;let z4:=Ak b 240 244;let z5:=decide (b=224);let z6:=decide (b=237);let z7:=decide (b=240);let z8:=decide (b=244);(.seg [.call [] (.v (vB (Ak b 0 127))) []] (.br (.leaf () []) (.seg [.call [] (.v (vB z2)) []] (.br (.br (.leaf () []) (.br (.leaf () []) (.br (.leaf () []) (.br (.leaf () []) (.leaf () []))))) (.seg [.call [] (.v (vB z3)) []] (.br (.br (.leaf () []) (.br (.leaf () []) (.br (.leaf () []) (.br (.leaf () []) (.leaf () []))))) (.seg [.call [] (.v (vB z4)) []] (.br (.br (.leaf () []) (.br (.leaf () []) (.br (.leaf () []) (.br (.leaf () []) (.leaf () []))))) (.leaf () [])))))))),(Fp 97 [vI b,vI 0,vI 127] [] (.v (vB (Ak b 0 127))) [])∧Bc (Ak b 0 127) (Lf (.tup [.agg [zi 0,zi 0,zi 0],vB true]) z1 [] []) ((Fp 97 [vI b,vI 194,vI 223] [] (.v (vB z2)) [])∧Bc z2 (Bc z5 (Lf (.tup [.agg [zi 1,zi 160,zi 191],vB true]) z1 [] []) (Bc z6 (Lf (.tup [.agg [zi 1,zi 128,zi 159],vB true]) z1 [] []) (Bc z7 (Lf (.tup [.agg [zi 1,zi 144,zi 191],vB true]) z1 [] []) (Bc z8 (Lf (.tup [.agg [zi 1,zi 128,zi 143],vB true]) z1 [] []) (Lf (.tup [.agg [zi 1,zi 128,zi 191],vB true]) z1 [] []))))) ((Fp 97 [vI b,vI 224,vI 239] [] (.v (vB z3)) [])∧Bc z3 (Bc z5 (Lf (.tup [.agg [zi 2,zi 160,zi 191],vB true]) z1 [] []) (Bc z6 (Lf (.tup [.agg [zi 2,zi 128,zi 159],vB true]) z1 [] []) (Bc z7 (Lf (.tup [.agg [zi 2,zi 144,zi 191],vB true]) z1 [] []) (Bc z8 (Lf (.tup [.agg [zi 2,zi 128,zi 143],vB true]) z1 [] []) (Lf (.tup [.agg [zi 2,zi 128,zi 191],vB true]) z1 [] []))))) ((Fp 97 [vI b,vI 240,vI 244] [] (.v (vB z4)) [])∧Bc z4 (Bc z5 (Lf (.tup [.agg [zi 3,zi 160,zi 191],vB true]) z1 [] []) (Bc z6 (Lf (.tup [.agg [zi 3,zi 128,zi 159],vB true]) z1 [] []) (Bc z7 (Lf (.tup [.agg [zi 3,zi 144,zi 191],vB true]) z1 [] []) (Bc z8 (Lf (.tup [.agg [zi 3,zi 128,zi 143],vB true]) z1 [] []) (Lf (.tup [.agg [zi 3,zi 128,zi 191],vB true]) z1 [] []))))) (Lf (.tup [.agg [zi 0,zi 0,zi 0],vB false]) z1 [] [])))))) Q4 ?_
 refine⟨(B8 _ _ _),fun h1=>have p1:=Aq h1;?_,fun h1=>have p1:=Aw h1;?_⟩
 refine zE ((A5 b).getD utf0) utf0 (fun hm1=>⟨(congrArg S.tup (Ag (congrArg V.agg (Ag (congrArg (C.int .i64) ?_) (Ag (congrArg (C.int .i64) ?_) (Ag (congrArg (C.int .i64) ?_) rfl)))) (Ag (congrArg V.c (congrArg C.bool ?_)) rfl))),rfl⟩) ?_
 rotate_left 5
 refine⟨(B8 _ _ _),fun h2=>have p2:=Aq h2;?_,fun h2=>have p2:=Aw h2;?_⟩
 refine dsp (fun h3 p3=>?_) fun h3 p3=>?_
 refine zE ((A5 b).getD utf0) (⟨1,160,191⟩:Utf) (fun hm1=>⟨(congrArg S.tup (Ag (congrArg V.agg (Ag (congrArg (C.int .i64) ?_) (Ag (congrArg (C.int .i64) ?_) (Ag (congrArg (C.int .i64) ?_) rfl)))) (Ag (congrArg V.c (congrArg C.bool ?_)) rfl))),rfl⟩) ?_
 rotate_left 5
 refine dsp (fun h4 p4=>?_) fun h4 p4=>?_
 refine zE ((A5 b).getD utf0) (⟨1,128,159⟩:Utf) (fun hm1=>⟨(congrArg S.tup (Ag (congrArg V.agg (Ag (congrArg (C.int .i64) ?_) (Ag (congrArg (C.int .i64) ?_) (Ag (congrArg (C.int .i64) ?_) rfl)))) (Ag (congrArg V.c (congrArg C.bool ?_)) rfl))),rfl⟩) ?_
 rotate_left 5
 refine dsp (fun h5 p5=>?_) fun h5 p5=>?_
 refine zE ((A5 b).getD utf0) (⟨1,144,191⟩:Utf) (fun hm1=>⟨(congrArg S.tup (Ag (congrArg V.agg (Ag (congrArg (C.int .i64) ?_) (Ag (congrArg (C.int .i64) ?_) (Ag (congrArg (C.int .i64) ?_) rfl)))) (Ag (congrArg V.c (congrArg C.bool ?_)) rfl))),rfl⟩) ?_
 rotate_left 5
 refine dsp (fun h6 p6=>?_) fun h6 p6=>?_
 refine zE ((A5 b).getD utf0) (⟨1,128,143⟩:Utf) (fun hm1=>⟨(congrArg S.tup (Ag (congrArg V.agg (Ag (congrArg (C.int .i64) ?_) (Ag (congrArg (C.int .i64) ?_) (Ag (congrArg (C.int .i64) ?_) rfl)))) (Ag (congrArg V.c (congrArg C.bool ?_)) rfl))),rfl⟩) ?_
 rotate_left 5
 refine zE ((A5 b).getD utf0) (⟨1,128,191⟩:Utf) (fun hm1=>⟨(congrArg S.tup (Ag (congrArg V.agg (Ag (congrArg (C.int .i64) ?_) (Ag (congrArg (C.int .i64) ?_) (Ag (congrArg (C.int .i64) ?_) rfl)))) (Ag (congrArg V.c (congrArg C.bool ?_)) rfl))),rfl⟩) ?_
 rotate_left 5
 refine⟨(B8 _ _ _),fun h3=>have p3:=Aq h3;?_,fun h3=>have p3:=Aw h3;?_⟩
 refine dsp (fun h4 p4=>?_) fun h4 p4=>?_
 refine zE ((A5 b).getD utf0) (⟨2,160,191⟩:Utf) (fun hm1=>⟨(congrArg S.tup (Ag (congrArg V.agg (Ag (congrArg (C.int .i64) ?_) (Ag (congrArg (C.int .i64) ?_) (Ag (congrArg (C.int .i64) ?_) rfl)))) (Ag (congrArg V.c (congrArg C.bool ?_)) rfl))),rfl⟩) ?_
 rotate_left 5
 refine dsp (fun h5 p5=>?_) fun h5 p5=>?_
 refine zE ((A5 b).getD utf0) (⟨2,128,159⟩:Utf) (fun hm1=>⟨(congrArg S.tup (Ag (congrArg V.agg (Ag (congrArg (C.int .i64) ?_) (Ag (congrArg (C.int .i64) ?_) (Ag (congrArg (C.int .i64) ?_) rfl)))) (Ag (congrArg V.c (congrArg C.bool ?_)) rfl))),rfl⟩) ?_
 rotate_left 5
 refine dsp (fun h6 p6=>?_) fun h6 p6=>?_
 refine zE ((A5 b).getD utf0) (⟨2,144,191⟩:Utf) (fun hm1=>⟨(congrArg S.tup (Ag (congrArg V.agg (Ag (congrArg (C.int .i64) ?_) (Ag (congrArg (C.int .i64) ?_) (Ag (congrArg (C.int .i64) ?_) rfl)))) (Ag (congrArg V.c (congrArg C.bool ?_)) rfl))),rfl⟩) ?_
 rotate_left 5
 refine dsp (fun h7 p7=>?_) fun h7 p7=>?_
 refine zE ((A5 b).getD utf0) (⟨2,128,143⟩:Utf) (fun hm1=>⟨(congrArg S.tup (Ag (congrArg V.agg (Ag (congrArg (C.int .i64) ?_) (Ag (congrArg (C.int .i64) ?_) (Ag (congrArg (C.int .i64) ?_) rfl)))) (Ag (congrArg V.c (congrArg C.bool ?_)) rfl))),rfl⟩) ?_
 rotate_left 5
 refine zE ((A5 b).getD utf0) (⟨2,128,191⟩:Utf) (fun hm1=>⟨(congrArg S.tup (Ag (congrArg V.agg (Ag (congrArg (C.int .i64) ?_) (Ag (congrArg (C.int .i64) ?_) (Ag (congrArg (C.int .i64) ?_) rfl)))) (Ag (congrArg V.c (congrArg C.bool ?_)) rfl))),rfl⟩) ?_
 rotate_left 5
 refine⟨(B8 _ _ _),fun h4=>have p4:=Aq h4;?_,fun h4=>have p4:=Aw h4;?_⟩
 refine dsp (fun h5 p5=>?_) fun h5 p5=>?_
 refine zE ((A5 b).getD utf0) (⟨3,160,191⟩:Utf) (fun hm1=>⟨(congrArg S.tup (Ag (congrArg V.agg (Ag (congrArg (C.int .i64) ?_) (Ag (congrArg (C.int .i64) ?_) (Ag (congrArg (C.int .i64) ?_) rfl)))) (Ag (congrArg V.c (congrArg C.bool ?_)) rfl))),rfl⟩) ?_
 rotate_left 5
 refine dsp (fun h6 p6=>?_) fun h6 p6=>?_
 refine zE ((A5 b).getD utf0) (⟨3,128,159⟩:Utf) (fun hm1=>⟨(congrArg S.tup (Ag (congrArg V.agg (Ag (congrArg (C.int .i64) ?_) (Ag (congrArg (C.int .i64) ?_) (Ag (congrArg (C.int .i64) ?_) rfl)))) (Ag (congrArg V.c (congrArg C.bool ?_)) rfl))),rfl⟩) ?_
 rotate_left 5
 refine dsp (fun h7 p7=>?_) fun h7 p7=>?_
 refine zE ((A5 b).getD utf0) (⟨3,144,191⟩:Utf) (fun hm1=>⟨(congrArg S.tup (Ag (congrArg V.agg (Ag (congrArg (C.int .i64) ?_) (Ag (congrArg (C.int .i64) ?_) (Ag (congrArg (C.int .i64) ?_) rfl)))) (Ag (congrArg V.c (congrArg C.bool ?_)) rfl))),rfl⟩) ?_
 rotate_left 5
 refine dsp (fun h8 p8=>?_) fun h8 p8=>?_
 refine zE ((A5 b).getD utf0) (⟨3,128,143⟩:Utf) (fun hm1=>⟨(congrArg S.tup (Ag (congrArg V.agg (Ag (congrArg (C.int .i64) ?_) (Ag (congrArg (C.int .i64) ?_) (Ag (congrArg (C.int .i64) ?_) rfl)))) (Ag (congrArg V.c (congrArg C.bool ?_)) rfl))),rfl⟩) ?_
 rotate_left 5
 refine zE ((A5 b).getD utf0) (⟨3,128,191⟩:Utf) (fun hm1=>⟨(congrArg S.tup (Ag (congrArg V.agg (Ag (congrArg (C.int .i64) ?_) (Ag (congrArg (C.int .i64) ?_) (Ag (congrArg (C.int .i64) ?_) rfl)))) (Ag (congrArg V.c (congrArg C.bool ?_)) rfl))),rfl⟩) ?_
 rotate_left 5
 refine zE ((A5 b).getD utf0) utf0 (fun hm1=>⟨(congrArg S.tup (Ag (congrArg V.agg (Ag (congrArg (C.int .i64) ?_) (Ag (congrArg (C.int .i64) ?_) (Ag (congrArg (C.int .i64) ?_) rfl)))) (Ag (congrArg V.c (congrArg C.bool ?_)) rfl))),rfl⟩) ?_
 rotate_left 5
 all_goals first|(simp[A5,utf0, *];done)|(simp_all[A5,utf0,Ak];done)|(simp_all[A5,utf0,Ak];omega)
theorem Z3 (b:Int):Fun Tryz.prog 132 [vI b] [] (.tup [.agg (Jg ((A5 b).getD utf0)),vB (A5 b).isSome]) []:=by
 have hN:Bj=274877906944:=rfl
 refine Ar Tryz.func132 Q4 Q4 (w:=let zi:Int→C:= .int .i64;let z1:S:= .tup [.agg (Jg ((A5 b).getD utf0)),vB (A5 b).isSome];let z2:=Ak b 194 223;let z3:=Ak b 224 239;let z4:=Ak b 240 244;let z5:=decide (b=224);let z6:=decide (b=237);let z7:=decide (b=240);let z8:=decide (b=244);(.seg [.call [] (.v (vB (Ak b 0 127))) []] (.br (.leaf () []) (.seg [.call [] (.v (vB z2)) []] (.br (.br (.leaf () []) (.br (.leaf () []) (.br (.leaf () []) (.br (.leaf () []) (.leaf () []))))) (.seg [.call [] (.v (vB z3)) []] (.br (.br (.leaf () []) (.br (.leaf () []) (.br (.leaf () []) (.br (.leaf () []) (.leaf () []))))) (.seg [.call [] (.v (vB z4)) []] (.br (.br (.leaf () []) (.br (.leaf () []) (.br (.leaf () []) (.br (.leaf () []) (.leaf () []))))) (.leaf () [])))))))),(Fp 44 [vI b,vI 0,vI 127] [] (.v (vB (Ak b 0 127))) [])∧Bc (Ak b 0 127) (Lf (.tup [.agg [zi 0,zi 0,zi 0],vB true]) z1 [] []) ((Fp 44 [vI b,vI 194,vI 223] [] (.v (vB z2)) [])∧Bc z2 (Bc z5 (Lf (.tup [.agg [zi 1,zi 160,zi 191],vB true]) z1 [] []) (Bc z6 (Lf (.tup [.agg [zi 1,zi 128,zi 159],vB true]) z1 [] []) (Bc z7 (Lf (.tup [.agg [zi 1,zi 144,zi 191],vB true]) z1 [] []) (Bc z8 (Lf (.tup [.agg [zi 1,zi 128,zi 143],vB true]) z1 [] []) (Lf (.tup [.agg [zi 1,zi 128,zi 191],vB true]) z1 [] []))))) ((Fp 44 [vI b,vI 224,vI 239] [] (.v (vB z3)) [])∧Bc z3 (Bc z5 (Lf (.tup [.agg [zi 2,zi 160,zi 191],vB true]) z1 [] []) (Bc z6 (Lf (.tup [.agg [zi 2,zi 128,zi 159],vB true]) z1 [] []) (Bc z7 (Lf (.tup [.agg [zi 2,zi 144,zi 191],vB true]) z1 [] []) (Bc z8 (Lf (.tup [.agg [zi 2,zi 128,zi 143],vB true]) z1 [] []) (Lf (.tup [.agg [zi 2,zi 128,zi 191],vB true]) z1 [] []))))) ((Fp 44 [vI b,vI 240,vI 244] [] (.v (vB z4)) [])∧Bc z4 (Bc z5 (Lf (.tup [.agg [zi 3,zi 160,zi 191],vB true]) z1 [] []) (Bc z6 (Lf (.tup [.agg [zi 3,zi 128,zi 159],vB true]) z1 [] []) (Bc z7 (Lf (.tup [.agg [zi 3,zi 144,zi 191],vB true]) z1 [] []) (Bc z8 (Lf (.tup [.agg [zi 3,zi 128,zi 143],vB true]) z1 [] []) (Lf (.tup [.agg [zi 3,zi 128,zi 191],vB true]) z1 [] []))))) (Lf (.tup [.agg [zi 0,zi 0,zi 0],vB false]) z1 [] [])))))) Q4 ?_
 refine⟨(Ba _ _ _),fun h1=>have p1:=Aq h1;?_,fun h1=>have p1:=Aw h1;?_⟩
 refine zE ((A5 b).getD utf0) utf0 (fun hm1=>⟨(congrArg S.tup (Ag (congrArg V.agg (Ag (congrArg (C.int .i64) ?_) (Ag (congrArg (C.int .i64) ?_) (Ag (congrArg (C.int .i64) ?_) rfl)))) (Ag (congrArg V.c (congrArg C.bool ?_)) rfl))),rfl⟩) ?_
 rotate_left 5
 refine⟨(Ba _ _ _),fun h2=>have p2:=Aq h2;?_,fun h2=>have p2:=Aw h2;?_⟩
 refine dsp (fun h3 p3=>?_) fun h3 p3=>?_
 refine zE ((A5 b).getD utf0) (⟨1,160,191⟩:Utf) (fun hm1=>⟨(congrArg S.tup (Ag (congrArg V.agg (Ag (congrArg (C.int .i64) ?_) (Ag (congrArg (C.int .i64) ?_) (Ag (congrArg (C.int .i64) ?_) rfl)))) (Ag (congrArg V.c (congrArg C.bool ?_)) rfl))),rfl⟩) ?_
 rotate_left 5
 refine dsp (fun h4 p4=>?_) fun h4 p4=>?_
 refine zE ((A5 b).getD utf0) (⟨1,128,159⟩:Utf) (fun hm1=>⟨(congrArg S.tup (Ag (congrArg V.agg (Ag (congrArg (C.int .i64) ?_) (Ag (congrArg (C.int .i64) ?_) (Ag (congrArg (C.int .i64) ?_) rfl)))) (Ag (congrArg V.c (congrArg C.bool ?_)) rfl))),rfl⟩) ?_
 rotate_left 5
 refine dsp (fun h5 p5=>?_) fun h5 p5=>?_
 refine zE ((A5 b).getD utf0) (⟨1,144,191⟩:Utf) (fun hm1=>⟨(congrArg S.tup (Ag (congrArg V.agg (Ag (congrArg (C.int .i64) ?_) (Ag (congrArg (C.int .i64) ?_) (Ag (congrArg (C.int .i64) ?_) rfl)))) (Ag (congrArg V.c (congrArg C.bool ?_)) rfl))),rfl⟩) ?_
 rotate_left 5
 refine dsp (fun h6 p6=>?_) fun h6 p6=>?_
 refine zE ((A5 b).getD utf0) (⟨1,128,143⟩:Utf) (fun hm1=>⟨(congrArg S.tup (Ag (congrArg V.agg (Ag (congrArg (C.int .i64) ?_) (Ag (congrArg (C.int .i64) ?_) (Ag (congrArg (C.int .i64) ?_) rfl)))) (Ag (congrArg V.c (congrArg C.bool ?_)) rfl))),rfl⟩) ?_
 rotate_left 5
 refine zE ((A5 b).getD utf0) (⟨1,128,191⟩:Utf) (fun hm1=>⟨(congrArg S.tup (Ag (congrArg V.agg (Ag (congrArg (C.int .i64) ?_) (Ag (congrArg (C.int .i64) ?_) (Ag (congrArg (C.int .i64) ?_) rfl)))) (Ag (congrArg V.c (congrArg C.bool ?_)) rfl))),rfl⟩) ?_
 rotate_left 5
 refine⟨(Ba _ _ _),fun h3=>have p3:=Aq h3;?_,fun h3=>have p3:=Aw h3;?_⟩
 refine dsp (fun h4 p4=>?_) fun h4 p4=>?_
 refine zE ((A5 b).getD utf0) (⟨2,160,191⟩:Utf) (fun hm1=>⟨(congrArg S.tup (Ag (congrArg V.agg (Ag (congrArg (C.int .i64) ?_) (Ag (congrArg (C.int .i64) ?_) (Ag (congrArg (C.int .i64) ?_) rfl)))) (Ag (congrArg V.c (congrArg C.bool ?_)) rfl))),rfl⟩) ?_
 rotate_left 5
 refine dsp (fun h5 p5=>?_) fun h5 p5=>?_
 refine zE ((A5 b).getD utf0) (⟨2,128,159⟩:Utf) (fun hm1=>⟨(congrArg S.tup (Ag (congrArg V.agg (Ag (congrArg (C.int .i64) ?_) (Ag (congrArg (C.int .i64) ?_) (Ag (congrArg (C.int .i64) ?_) rfl)))) (Ag (congrArg V.c (congrArg C.bool ?_)) rfl))),rfl⟩) ?_
 rotate_left 5
 refine dsp (fun h6 p6=>?_) fun h6 p6=>?_
 refine zE ((A5 b).getD utf0) (⟨2,144,191⟩:Utf) (fun hm1=>⟨(congrArg S.tup (Ag (congrArg V.agg (Ag (congrArg (C.int .i64) ?_) (Ag (congrArg (C.int .i64) ?_) (Ag (congrArg (C.int .i64) ?_) rfl)))) (Ag (congrArg V.c (congrArg C.bool ?_)) rfl))),rfl⟩) ?_
 rotate_left 5
 refine dsp (fun h7 p7=>?_) fun h7 p7=>?_
 refine zE ((A5 b).getD utf0) (⟨2,128,143⟩:Utf) (fun hm1=>⟨(congrArg S.tup (Ag (congrArg V.agg (Ag (congrArg (C.int .i64) ?_) (Ag (congrArg (C.int .i64) ?_) (Ag (congrArg (C.int .i64) ?_) rfl)))) (Ag (congrArg V.c (congrArg C.bool ?_)) rfl))),rfl⟩) ?_
 rotate_left 5
 refine zE ((A5 b).getD utf0) (⟨2,128,191⟩:Utf) (fun hm1=>⟨(congrArg S.tup (Ag (congrArg V.agg (Ag (congrArg (C.int .i64) ?_) (Ag (congrArg (C.int .i64) ?_) (Ag (congrArg (C.int .i64) ?_) rfl)))) (Ag (congrArg V.c (congrArg C.bool ?_)) rfl))),rfl⟩) ?_
 rotate_left 5
 refine⟨(Ba _ _ _),fun h4=>have p4:=Aq h4;?_,fun h4=>have p4:=Aw h4;?_⟩
 refine dsp (fun h5 p5=>?_) fun h5 p5=>?_
 refine zE ((A5 b).getD utf0) (⟨3,160,191⟩:Utf) (fun hm1=>⟨(congrArg S.tup (Ag (congrArg V.agg (Ag (congrArg (C.int .i64) ?_) (Ag (congrArg (C.int .i64) ?_) (Ag (congrArg (C.int .i64) ?_) rfl)))) (Ag (congrArg V.c (congrArg C.bool ?_)) rfl))),rfl⟩) ?_
 rotate_left 5
 refine dsp (fun h6 p6=>?_) fun h6 p6=>?_
 refine zE ((A5 b).getD utf0) (⟨3,128,159⟩:Utf) (fun hm1=>⟨(congrArg S.tup (Ag (congrArg V.agg (Ag (congrArg (C.int .i64) ?_) (Ag (congrArg (C.int .i64) ?_) (Ag (congrArg (C.int .i64) ?_) rfl)))) (Ag (congrArg V.c (congrArg C.bool ?_)) rfl))),rfl⟩) ?_
 rotate_left 5
 refine dsp (fun h7 p7=>?_) fun h7 p7=>?_
 refine zE ((A5 b).getD utf0) (⟨3,144,191⟩:Utf) (fun hm1=>⟨(congrArg S.tup (Ag (congrArg V.agg (Ag (congrArg (C.int .i64) ?_) (Ag (congrArg (C.int .i64) ?_) (Ag (congrArg (C.int .i64) ?_) rfl)))) (Ag (congrArg V.c (congrArg C.bool ?_)) rfl))),rfl⟩) ?_
 rotate_left 5
 refine dsp (fun h8 p8=>?_) fun h8 p8=>?_
 refine zE ((A5 b).getD utf0) (⟨3,128,143⟩:Utf) (fun hm1=>⟨(congrArg S.tup (Ag (congrArg V.agg (Ag (congrArg (C.int .i64) ?_) (Ag (congrArg (C.int .i64) ?_) (Ag (congrArg (C.int .i64) ?_) rfl)))) (Ag (congrArg V.c (congrArg C.bool ?_)) rfl))),rfl⟩) ?_
 rotate_left 5
 refine zE ((A5 b).getD utf0) (⟨3,128,191⟩:Utf) (fun hm1=>⟨(congrArg S.tup (Ag (congrArg V.agg (Ag (congrArg (C.int .i64) ?_) (Ag (congrArg (C.int .i64) ?_) (Ag (congrArg (C.int .i64) ?_) rfl)))) (Ag (congrArg V.c (congrArg C.bool ?_)) rfl))),rfl⟩) ?_
 rotate_left 5
 refine zE ((A5 b).getD utf0) utf0 (fun hm1=>⟨(congrArg S.tup (Ag (congrArg V.agg (Ag (congrArg (C.int .i64) ?_) (Ag (congrArg (C.int .i64) ?_) (Ag (congrArg (C.int .i64) ?_) rfl)))) (Ag (congrArg V.c (congrArg C.bool ?_)) rfl))),rfl⟩) ?_
 rotate_left 5
 all_goals first|(simp[A5,utf0, *];done)|(simp_all[A5,utf0,Ak];done)|(simp_all[A5,utf0,Ak];omega)
theorem Ab5 (u:Utf) (b:Int):Fun Tryz.prog 179 [.agg (Jg u),vI b] [] (.tup [.agg (Jg ((Bo u b).getD u)),vB (Bo u b).isSome]) []:=by
 have hN:Bj=274877906944:=rfl
 refine Ar Tryz.func179 Q4 Q4 (w:=let z1:S:= .tup [.agg (Jg ((Bo u b).getD u)),vB (Bo u b).isSome];let z2:=Lf (.tup [.agg (Jg u),vB false]) z1 [] [];let z3:S:= .tup [.agg (Jg ((A5 b).getD utf0)),vB (A5 b).isSome];let z4:=Ak b u.low u.high;(.seg [.call [] (.v (vB (Ed u))) []] (.br (.leaf () []) (.br (.seg [.call [] z3 []] (.br (.leaf () []) (.leaf () []))) (.seg [.call [] (.v (vB z4)) []] (.br (.leaf () []) (.br (.leaf () []) (.seg [.as 42 (.v (vI (u.want-1)))] (.leaf () []))))))),(Fp 103 [.agg (Jg u)] [] (.v (vB (Ed u))) [])∧Bc (!(Ed u)) z2 (Bc (decide (u.want=0)) ((Fp 214 [vI b] [] z3 [])∧Bc (!(A5 b).isSome) z2 (Lf (.tup [.agg (Jg ((A5 b).getD utf0)),vB true]) z1 [] [])) ((Fp 97 [vI b,vI u.low,vI u.high] [] (.v (vB z4)) [])∧Bc (!z4) z2 (Bc (decide (u.want=1)) (Lf (.tup [.agg [.int .i64 0,.int .i64 0,.int .i64 0],vB true]) z1 [] []) ((wI (u.want-1))∧Lf (.tup [.agg [.int .i64 (u.want-1),.int .i64 128,.int .i64 191],vB true]) z1 [] [])))))) Q4 ?_
 refine⟨(Ab3 u),fun h1=>have q1:=Ao h1;?_,fun h1=>have q1:=An h1;have p1:=Kp q1;?_⟩
 refine zE ((Bo u b).getD u) u (fun hm1=>⟨(congrArg S.tup (Ag (congrArg V.agg (Ag (congrArg (C.int .i64) ?_) (Ag (congrArg (C.int .i64) ?_) (Ag (congrArg (C.int .i64) ?_) rfl)))) (Ag (congrArg V.c (congrArg C.bool ?_)) rfl))),rfl⟩) ?_
 rotate_left 5
 refine dsp (fun h2 p2=>?_) fun h2 p2=>?_
 have hu:=U3 q1 p2
 refine⟨(Z2 _),fun h3=>have q3:=Ao h3;?_,fun h3=>have q3:=An h3;?_⟩
 refine zE ((Bo u b).getD u) u (fun hm1=>⟨(congrArg S.tup (Ag (congrArg V.agg (Ag (congrArg (C.int .i64) ?_) (Ag (congrArg (C.int .i64) ?_) (Ag (congrArg (C.int .i64) ?_) rfl)))) (Ag (congrArg V.c (congrArg C.bool ?_)) rfl))),rfl⟩) ?_
 rotate_left 5
 refine zE ((Bo u b).getD u) ((A5 b).getD utf0) (fun hm1=>⟨(congrArg S.tup (Ag (congrArg V.agg (Ag (congrArg (C.int .i64) ?_) (Ag (congrArg (C.int .i64) ?_) (Ag (congrArg (C.int .i64) ?_) rfl)))) (Ag (congrArg V.c (congrArg C.bool ?_)) rfl))),rfl⟩) ?_
 rotate_left 5
 refine⟨(B8 _ _ _),fun h3=>have q3:=Ao h3;have p3:=Aw q3;?_,fun h3=>have q3:=An h3;have p3:=Aq q3;?_⟩
 refine zE ((Bo u b).getD u) u (fun hm1=>⟨(congrArg S.tup (Ag (congrArg V.agg (Ag (congrArg (C.int .i64) ?_) (Ag (congrArg (C.int .i64) ?_) (Ag (congrArg (C.int .i64) ?_) rfl)))) (Ag (congrArg V.c (congrArg C.bool ?_)) rfl))),rfl⟩) ?_
 rotate_left 5
 refine dsp (fun h4 p4=>?_) fun h4 p4=>?_
 refine zE ((Bo u b).getD u) utf0 (fun hm1=>⟨(congrArg S.tup (Ag (congrArg V.agg (Ag (congrArg (C.int .i64) ?_) (Ag (congrArg (C.int .i64) ?_) (Ag (congrArg (C.int .i64) ?_) rfl)))) (Ag (congrArg V.c (congrArg C.bool ?_)) rfl))),rfl⟩) ?_
 rotate_left 5
 refine zE ((Bo u b).getD u) (⟨u.want-1,128,191⟩:Utf) (fun hm1=>⟨(Ac Q2 Q2),(congrArg S.tup (Ag (congrArg V.agg (Ag (congrArg (C.int .i64) ?_) (Ag (congrArg (C.int .i64) ?_) (Ag (congrArg (C.int .i64) ?_) rfl)))) (Ag (congrArg V.c (congrArg C.bool ?_)) rfl))),rfl⟩) ?_
 rotate_left 5
 all_goals first|(simp[Bo, *];done)|(simp[Bo,utf0, *];done)|(simp_all[Bo,utf0,Ak];done)|(simp_all[Bo,utf0,Ak];omega)
theorem Qi (u:Utf) (b:Int):Fun Tryz.prog 63 [.agg (Jg u),vI b] [] (.tup [.agg (Jg ((Bo u b).getD u)),vB (Bo u b).isSome]) []:=by
 have hN:Bj=274877906944:=rfl
 refine Ar Tryz.func63 Q4 Q4 (w:=let z1:S:= .tup [.agg (Jg ((Bo u b).getD u)),vB (Bo u b).isSome];let z2:S:= .tup [.agg (Jg ((A5 b).getD utf0)),vB (A5 b).isSome];let z3:=Lf (.tup [.agg (Jg u),vB false]) z1 [] [];let z4:=Ak b u.low u.high;(.seg [.call [] (.v (vB (Ed u))) []] (.br (.leaf () []) (.br (.seg [.call [] z2 []] (.leaf () [])) (.seg [.call [] (.v (vB z4)) []] (.br (.leaf () []) (.br (.leaf () []) (.seg [.as 31 (.v (vI (u.want-1)))] (.leaf () []))))))),(Fp 121 [.agg (Jg u)] [] (.v (vB (Ed u))) [])∧Bc (!(Ed u)) z3 (Bc (decide (u.want=0)) ((Fp 132 [vI b] [] z2 [])∧Lf z2 z1 [] []) ((Fp 44 [vI b,vI u.low,vI u.high] [] (.v (vB z4)) [])∧Bc (!z4) z3 (Bc (decide (u.want=1)) (Lf (.tup [.agg [.int .i64 0,.int .i64 0,.int .i64 0],vB true]) z1 [] []) ((wI (u.want-1))∧Lf (.tup [.agg [.int .i64 (u.want-1),.int .i64 128,.int .i64 191],vB true]) z1 [] [])))))) Q4 ?_
 refine⟨(Ab4 u),fun h1=>have q1:=Ao h1;?_,fun h1=>have q1:=An h1;have p1:=Kp q1;?_⟩
 refine zE ((Bo u b).getD u) u (fun hm1=>⟨(congrArg S.tup (Ag (congrArg V.agg (Ag (congrArg (C.int .i64) ?_) (Ag (congrArg (C.int .i64) ?_) (Ag (congrArg (C.int .i64) ?_) rfl)))) (Ag (congrArg V.c (congrArg C.bool ?_)) rfl))),rfl⟩) ?_
 rotate_left 5
 refine dsp (fun h2 p2=>?_) fun h2 p2=>?_
 have hu:=U3 q1 p2
 refine zE ((Bo u b).getD u) ((A5 b).getD utf0) (fun hm1=>⟨(Z3 _),(congrArg S.tup (Ag (congrArg V.agg (Ag (congrArg (C.int .i64) ?_) (Ag (congrArg (C.int .i64) ?_) (Ag (congrArg (C.int .i64) ?_) rfl)))) (Ag (congrArg V.c (congrArg C.bool ?_)) rfl))),rfl⟩) ?_
 rotate_left 5
 refine⟨(Ba _ _ _),fun h3=>have q3:=Ao h3;have p3:=Aw q3;?_,fun h3=>have q3:=An h3;have p3:=Aq q3;?_⟩
 refine zE ((Bo u b).getD u) u (fun hm1=>⟨(congrArg S.tup (Ag (congrArg V.agg (Ag (congrArg (C.int .i64) ?_) (Ag (congrArg (C.int .i64) ?_) (Ag (congrArg (C.int .i64) ?_) rfl)))) (Ag (congrArg V.c (congrArg C.bool ?_)) rfl))),rfl⟩) ?_
 rotate_left 5
 refine dsp (fun h4 p4=>?_) fun h4 p4=>?_
 refine zE ((Bo u b).getD u) utf0 (fun hm1=>⟨(congrArg S.tup (Ag (congrArg V.agg (Ag (congrArg (C.int .i64) ?_) (Ag (congrArg (C.int .i64) ?_) (Ag (congrArg (C.int .i64) ?_) rfl)))) (Ag (congrArg V.c (congrArg C.bool ?_)) rfl))),rfl⟩) ?_
 rotate_left 5
 refine zE ((Bo u b).getD u) (⟨u.want-1,128,191⟩:Utf) (fun hm1=>⟨(Ac Q2 Q2),(congrArg S.tup (Ag (congrArg V.agg (Ag (congrArg (C.int .i64) ?_) (Ag (congrArg (C.int .i64) ?_) (Ag (congrArg (C.int .i64) ?_) rfl)))) (Ag (congrArg V.c (congrArg C.bool ?_)) rfl))),rfl⟩) ?_
 rotate_left 5
 all_goals first|(simp[Bo, *];done)|(simp[Bo,utf0, *];done)|(simp_all[Bo,utf0,Ak];done)|(simp_all[Bo,utf0,Ak];omega)
structure J2 where
 u:Utf
 i:Nat
def J3 (u:Utf) (s:List UInt8):Fam:=⟨J2,fun q1=>[(1,.v (vT s)),(2,.v (vP 0)),(4,.v (vP 1)),(6,.v (vI (q1.i:Int)))],fun q1=>[.cells (Jg q1.u),.cells [.int .i64 0,.int .i64 0,.int .i64 0]],fun q1=>q1.i≤s.length∧M9 q1.u (List.drop q1.i s) q1.i=M9 u s 0,fun q1=>s.length-q1.i⟩
theorem Ab6 (u:Utf) (s:List UInt8) (hp1:s.length≤Bj):Fun Tryz.prog 212 [.agg (Jg u),vT s] [] (.tup [.agg (Jg (Qz u s)),vI (W1 u s)]) []:=by
 have hN:Bj=274877906944:=rfl
 refine Ar Tryz.func212 Q4 Q4 (w:=let zi:Int→C:= .int .i64;let z7:=J3 u s;let z8:S:= .tup [.agg (Jg (Qz u s)),vI (W1 u s)];(.seg [.at 0,.keep [1,2,4,6],.sel [0,1]] (.loop z7 fun q1=> .br (.intro (Sx (s[q1.i]?)) fun x1=>let z2:=((UInt8.toNat x1:Nat):Int);let z1:S:= .tup [.agg (Jg ((Bo q1.u z2).getD q1.u)),vB (Bo q1.u z2).isSome];.seg [.tree (fr (.two 5 (fr (.one 9 (.one 10 (.first 11 (.done)))) 6 3) 9 (.one 5 (fr (.one 10 (.first 11 (.done))) 6 3))) 0 5) 12 [],.ch x1,.as 20 (.v (vI z2)),.call [] z1 [],.at 0,.keep [1,2,4,6,7,8],.sel [0,1,2],.call [] z1 [],.at 0,.keep [1,2,4,6,7,8],.sel [0,1,2]] (.br (.leaf () []) (.seg [.as 14 (.v (vI ((q1.i:Int)+1))),.at 0,.keep [1,2,4,6],.sel [0,1]] (.next)))) (.leaf () [])),z7.Has [(1,.v (vT s)),(2,.v (vP 0)),(4,.v (vP 1)),(6,.v (vI 0))] [.cells (Jg u),.cells [zi 0,zi 0,zi 0]]∧∀q1,z7.inv q1→(let z5:=(q1.i:Int);let z6:=Jg q1.u;Bc (decide (z5<(s.length:Int))) (El (s[q1.i]?) fun x1=>(let z4:=((UInt8.toNat x1:Nat):Int);let z3:=Bo q1.u z4;(s[q1.i]? =some x1)∧((0:Int)≤z5)∧(s[q1.i]? =some x1)∧((0:Int)≤z5)∧(wI (z4))∧(wI (z4))∧(Fp 63 [.agg z6,vI z4] [] (.tup [.agg (Jg (z3.getD q1.u)),vB z3.isSome]) [])∧(Fp 63 [.agg z6,vI z4] [] (.tup [.agg (Jg (z3.getD q1.u)),vB z3.isSome]) [])∧(([.cells z6,.cells [zi 0,zi 0,zi 0],.cells (Jg (z3.getD q1.u))]:List Blk)=[.cells z6,.cells [zi 0,zi 0,zi 0],.cells (Jg (z3.getD q1.u))])∧(([(1,.v (vT s)),(2,.v (vP 0)),(4,.v (vP 1)),(6,.v (vI z5)),(7,.v (vP 2)),(8,.v (vB z3.isSome))]:List (Nat×S))=[(1,.v (vT s)),(2,.v (vP 0)),(4,.v (vP 1)),(6,.v (vI z5)),(7,.v (vP 2)),(8,.v (vB z3.isSome))])∧Bc (!z3.isSome) (Lf (.tup [.agg z6,vI z5]) z8 [] []) ((wI (z5+1))∧z7.Nxt q1 [(1,.v (vT s)),(2,.v (vP 0)),(4,.v (vP 1)),(6,.v (vI (z5+1)))] [.cells (Jg (z3.getD q1.u)),.cells [zi 0,zi 0,zi 0]]))) (Lf (.tup [.agg z6,vI (-1)]) z8 [] [])))) Q4 ?_
 refine⟨Bh (j:=(⟨u,0⟩:J2)) Q9 rfl (by dsimp only[J3];exact⟨by omega,by simp⟩),fun (q1:J2) hq_q1=>?_⟩
 have hi_q1:q1.i≤s.length∧M9 q1.u (List.drop q1.i s) q1.i=M9 u s 0:=hq_q1
 obtain ⟨v1,v2⟩:=hi_q1
 refine dsp (fun h1 p1=>?_) fun h1 p1=>?_
 refine⟨(Bg (l:=s) (i:=q1.i) Q2),fun x1 hx1=>?_⟩
 have hb_x1:=UInt8.toNat_lt x1
 refine⟨hx1,Q2,hx1,Q2,(Ac Q2 Q2),(Ac Q2 Q2),(Qi q1.u _),(Qi q1.u _),rfl,rfl,fun h2=>have q2:=Ao h2;?_,fun h2=>have q2:=An h2;?_⟩
 rw[Ff hx1,M9] at v2
 refine zE (Qz u s) q1.u (fun hm1=>⟨(congrArg S.tup (Ag (congrArg V.agg (Ag (congrArg (C.int .i64) ?_) (Ag (congrArg (C.int .i64) ?_) (Ag (congrArg (C.int .i64) ?_) rfl)))) (Ag (congrArg V.c (congrArg (C.int .i64) ?_)) rfl))),rfl⟩) ?_
 rotate_left 5
 rw[Ff hx1,M9] at v2
 exact⟨(Ac Q2 Q2),Bb (j:=(⟨((Bo q1.u ((UInt8.toNat x1:Nat):Int)).getD q1.u),q1.i+1⟩:J2)) Q9 rfl (by dsimp only[J3];exact⟨by omega,by cases hu:Bo q1.u (x1.toNat:Int)<;>simp_all⟩) (by dsimp only[J3];omega)⟩
 rw[Jx p1] at v2
 refine zE (Qz u s) q1.u (fun hm1=>⟨(congrArg S.tup (Ag (congrArg V.agg (Ag (congrArg (C.int .i64) ?_) (Ag (congrArg (C.int .i64) ?_) (Ag (congrArg (C.int .i64) ?_) rfl)))) (Ag (congrArg V.c (congrArg (C.int .i64) ?_)) rfl))),rfl⟩) ?_
 rotate_left 5
 all_goals first|(unfold Qz;rw[←v2,M9];done)|(unfold W1;rw[←v2,M9];done)|(unfold Qz;rw[←v2];clear v2;cases hu:Bo q1.u (x1.toNat:Int)<;>simp_all)|(unfold W1;rw[←v2];clear v2;cases hu:Bo q1.u (x1.toNat:Int)<;>simp_all)
end Go.Proofs.YtphecbmdhbphgaaGreat.Ax
