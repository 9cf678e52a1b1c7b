/- Models. Models: the machine. Models: the machine's steps. Models: bytes, whole inputs. Models: readers, streams. Numbers. Readers. ReadSome. A byte keeps a decoder right. A byte keeps a decoder right. Whole inputs. Models: Fu events. -/
import Derived.Test.YtphecbmdhbphgaaGreatKB4
set_option linter.unusedSimpArgs false
set_option linter.unusedVariables false
namespace Go.Proofs.YtphecbmdhbphgaaGreat.Ax
open Go.RowKit
theorem cI {a b:Int} (h:a=b):C.int .i64 a=C.int .i64 b:=congrArg (C.int .i64) h
theorem Ab {α:Type} {a b:α} {l m:List α} (h:a=b) (t:l=m):a::l=b::m:=by rw[h,t]
def vI (x:Int):V:= .c (.int .i64 x)
def vB (x:Bool):V:= .c (.bool x)
def vT (x:List UInt8):V:= .c (.str x)
def vO (j:Nat):V:= .c (.own j)
def vP (j:Nat):V:= .c (.ptr j 0)
theorem sB {a b:Bool} (h:a=b):(.v (.c (.bool a)):S)= .v (.c (.bool b)):=by rw[h]
theorem sI {a b:Int} (h:a=b):(.v (.c (.int .i64 a)):S)= .v (.c (.int .i64 b)):=by rw[h]
theorem dT {p:Prop} [Decidable p]:decide p=true↔p:=decide_eq_true_iff
theorem dF {p:Prop} [Decidable p]:decide p=false↔¬p:=decide_eq_false_iff_not
theorem Cx {a b:Bool} {P Q:Prop} (h:a=true↔P) (g:b=true↔Q):(a&&b)=true↔P∧Q:=by rw[Bool.and_eq_true,h,g]
theorem Cy {a b:Bool} {P Q:Prop} (h:a=true↔P) (g:b=false↔Q):(a&&b)=false↔(P→Q):=by rw[Bool.and_eq_false_imp,h,g]
theorem orT {a b:Bool} {P Q:Prop} (h:a=true↔P) (g:b=true↔Q):(a||b)=true↔P∨Q:=by rw[Bool.or_eq_true,h,g]
theorem orF {a b:Bool} {P Q:Prop} (h:a=false↔P) (g:b=false↔Q):(a||b)=false↔P∧Q:=by rw[Bool.or_eq_false_iff,h,g]
theorem Bm {F:Fam} {j:F.ι} {tm:List (Nat×S)} {H:List Blk} (h1:tm=F.tm j) (h2:H=F.H j) (h:F.inv j):F.Has tm H:=⟨j,h,h1,h2⟩
theorem A4 {F:Fam} {i j:F.ι} {tm:List (Nat×S)} {H:List Blk} (h1:tm=F.tm j) (h2:H=F.H j) (h:F.inv j) (hm:F.mu j<F.mu i):F.Nxt i tm H:=⟨j,⟨h,hm⟩,h1,h2⟩
abbrev In {α:Type} (P Q:α→Prop):Prop:=(∃o,P o)∧∀o,P o→Q o
theorem Ap {P : Program} {f : FuncId} {fn : Func} (hf : P.funcs[f]? = some fn) (hb : fn.body.isNone = false) (hn : (fn.name == "runtime.NumGoroutine") = false) {args : List V} {L L' : List Blk} {r : S} {w : DT Unit × Prop}
  (hw:Afa P fn args L w.1 (fun _ r' Lp=>r'=r∧Lp=L')=w.2) (h:w.2):Fun P f args L r L':=Aor hf hb hn hw h
theorem B4 {P : Program} {ι : Type} {f : FuncId} {fn : Func} (hf : P.funcs[f]? = some fn) (hb : fn.body.isNone = false) (hn : (fn.name == "runtime.NumGoroutine") = false) {args : List V} {L : List Blk} {L' : ι → List Blk} {r : ι → S} {good : ι → Prop} {w : DT ι × Prop}
  (hw:Afa P fn args L w.1 (fun i r' Lp=>good i∧r'=r i∧Lp=L' i)=w.2) (h:w.2): ∃i,good i∧Fun P f args L (r i) (L' i):=Am6 hf hb hn hw h
abbrev Bc (p:Bool) (A B:Prop):Prop:=(p=true→A)∧(p=false→B)
abbrev Lf (a b:S) (x y:List Blk):Prop:=a=b∧x=y
abbrev Sx {α:Type} (o:Option α):α→Prop:=fun x=>o=some x
abbrev El {α:Type} (o:Option α) (Q:α→Prop):Prop:=(∃x,o=some x)∧∀x,o=some x→Q x
abbrev wI (x:Int):Prop:=(.v (vI (IntKind.i64.wrap x)):S)= .v (vI x)
abbrev wU (x:Int):Prop:=(.v (.c (.int .u64 (IntKind.u64.wrap x))):S)= .v (.c (.int .u64 x))
abbrev Fp:=Fun Tryz.prog
theorem zE {β:Type} {p:Prop} (a b:β) (h:a=b→p) (h1:a=b):p:=h h1
theorem zD {β γ:Type} {p:Prop} (a b:β) (c d:γ) (h:a=b→c=d→p) (h1:a=b) (h2:c=d):p:=h h1 h2
theorem zM {α β γ:Type} {p:Prop} (f:α→β) (g:α→γ) (m x:α) (h:f m=f x→g m=g x→p) (h1:f m=f x) (h2:g m=g x):p:=h h1 h2
theorem dsp {p:Prop} [Decidable p] {A B:Prop} (h1:decide p=true→p→A) (h2:decide p=false→¬p→B):(decide p=true→A)∧(decide p=false→B):=⟨fun h=>h1 h (of_decide_eq_true h),fun h=>h2 h (of_decide_eq_false h)⟩
/-! ### Structures -/
structure Scn where
 bits:Int
 hJ:Int
 deriving DecidableEq,Inhabited
structure Utf where
 wK:Int
 low:Int
 high:Int
 deriving DecidableEq,Inhabited
structure Pln where
 sQ:List Shp
 rJ:Int
 dJ:Int
 most:Int
 deriving DecidableEq,Inhabited
structure Dcd where
 pJ:Pln
 mJ:Int
 sJ:List Lev
 sK:Scn
 sX:Int
 aJ:Int
 field:Fld
 wJ:Int
 wK:Int
 uJ:Utf
 eJ:Ev
 deriving DecidableEq,Inhabited
def fld0:Fld:=⟨0,0,false,false,0⟩
def ev0:Ev:=⟨0,0,0,0,[],0,0⟩
def utf0:Utf:=⟨0,0,0⟩
def scn0:Scn:=⟨0,0⟩
theorem Do {α:Type} {l:List α} {i:Nat} {x:α} (h:l[i]? =some x):l.drop i=x::l.drop (i+1):=by
 have hl:=(List.getElem?_eq_some_iff.1 h).1
 rw[List.drop_eq_getElem_cons hl]
 congr 1
 rw[List.getElem?_eq_getElem hl] at h
 exact Option.some.inj h
theorem An {b:Bool} (h:(!b)=true):b=false:=by cases b<;>simp_all
theorem Am {b:Bool} (h:(!b)=false):b=true:=by cases b<;>simp_all
theorem Wt {α:Type} {l:List α} {i:Nat} {x d:α} (h:l[i]? =some x):l.getD i d=x:=by simp[List.getD,h]
theorem Lo {α:Type} {l:List α} {i:Nat} (h: ¬((i:Nat):Int)<((l.length:Nat):Int)):l.drop i=[]:=List.drop_eq_nil_of_le (by omega)
/-! ### Words of numbers -/
theorem Z3 {k:IntKind} {a m:Int} (h:0≤a):(.v (.c (.int k (Int.tmod a m))):S)= .v (.c (.int k (a % m))):=by rw[Int.tmod_eq_emod_of_nonneg h]
theorem Wu {a m:Int} (h:0≤a) (h2:a≤18446744073709551615) (hm:0<m):(.v (.c (.int .u64 (IntKind.u64.wrap (Int.tdiv a m)))):S)= .v (.c (.int .u64 (a / m))):=by
 rw[Int.tdiv_eq_ediv_of_nonneg h]
 have h3:=Int.ediv_nonneg h (Int.le_of_lt hm)
 have h4:=Int.ediv_le_self m h
 exact B3 Q2 Q2
theorem Aot {a b:Int} {k:Nat} (ha:0≤a) (hk:a<2 ^ k) {c:Int} (hc:0≤c) (hb:b=c*2 ^ k) (hs:b+2 ^ k≤18446744073709551616):(((BitVec.ofInt 64 a|||BitVec.ofInt 64 b).toNat:Nat):Int)=a+b:=by
 obtain ⟨n,rfl⟩:=Int.eq_ofNat_of_zero_le ha
 obtain ⟨m,rfl⟩:=Int.eq_ofNat_of_zero_le hc
 have hb':b=((m*2 ^ k:Nat):Int):=by rw[hb,Int.natCast_mul,Int.natCast_pow];rfl
 have hp:(0:Int)<2 ^ k:=Int.pow_pos (by decide)
 subst hb'
 have e:((2 ^ k:Nat):Int)=2 ^ k:=by rw[Int.natCast_pow];rfl
 rw[←e] at hk hs hp
 have h1:n<2 ^ k:=by omega
 have h2:m*2 ^ k+2 ^ k≤18446744073709551616:=by omega
 have h3:n<2 ^ 64:=by omega
 have h4:m*2 ^ k<2 ^ 64:=by omega
 rw[BitVec.toNat_or,BitVec.ofInt_natCast,BitVec.ofInt_natCast,BitVec.toNat_ofNat,BitVec.toNat_ofNat,Nat.mod_eq_of_lt h3,Nat.mod_eq_of_lt h4,Nat.or_comm,Nat.mul_comm m,←Nat.two_pow_add_eq_or_of_lt h1]
 rw[Nat.mul_comm,Int.natCast_add,Int.add_comm]
/-! ### Kinds, wires, numbers -/
def Dr (n:Int):Bool:=Ak n 1 536870911&& !Ak n 19000 19999
def D3 (w:Int):Bool:=decide (w=0)||decide (w=1)||decide (w=2)||decide (w=5)
def Ez (k:Int):Bool:=Ak k 1 8
def Dj (k:Int):Bool:=Ak k 1 5
def Ci (k:Int):Int:=if Ez k then (if k=4 then 5 else if k=5 then 1 else if k≤3 then 0 else 2) else-1
def A3 (w:Int):Int:=if w=1 then 8 else if w=5 then 4 else 0
def U5 (f:Fld):Bool:=f.rep&&Dj f.kind
def Dx (f:Fld) (w:Int):Bool:=decide (w=Ci f.kind)||(decide (w=2)&&U5 f)
def Fi (k:Int):Bool:=decide (k=2)||decide (k=3)||decide (k=6)
theorem En (w:Int):0≤A3 w∧A3 w≤8:=by unfold A3;split<;>(try split)<;>omega
def Lj (f:Fld) (n:Int):Bool:=Dr f.nJ&&Ez f.kind&& !(f.packed&&(!f.rep|| !Dj f.kind))&&(if f.kind=8 then Ak f.mK 0 (n-1) else decide (f.mK= -1))
def Df (n:Int):Int→List Fld→Bool
 |_,[]=>true
 |b,f::r=>decide (b<f.nJ)&&Lj f n&&Df n f.nJ r
def Eo (n:Int):Int→List Shp→Bool
 |_,[]=>true
 |b,x::r=>decide (b<x.id)&&decide (x.id≤99)&&decide ((x.fJ.length:Int)≤8)&&Df n 0 x.fJ&&Eo n x.id r
def Dy (l:List Shp):Bool:=decide ((l.length:Int)≤6)&&Eo (l.length:Int) 0 l
def Hc (l:List Fld) (n:Int):Option Fld:=l.find? fun f=>decide (f.nJ=n)
def Aqc:Shp:=⟨0,[]⟩
def fieldAt (l:List Shp) (s n:Int):Option Fld:=if Ak s 0 ((l.length:Int)-1) then Hc (l.getD s.toNat Aqc).fJ n else none
def Dm (p:Pln):Bool:=Dy p.sQ&&Ak p.rJ 0 ((p.sQ.length:Int)-1)&&Ak p.dJ 1 8&&Ak p.most 0 2000
theorem Acz {f:Fld} {n:Int} (h:Lj f n=true):1≤f.nJ∧f.nJ≤536870911∧1≤f.kind∧f.kind≤8∧(f.kind=8→0≤f.mK∧f.mK≤n-1)∧(f.kind≠8→f.mK= -1):=by
 simp only[Lj,Dr,Ez,Ak,Bool.and_eq_true,decide_eq_true_eq] at h
 obtain ⟨⟨⟨h1,h2⟩,h3⟩,h4⟩:=h
 refine⟨h1.1.1,h1.1.2,h2.1,h2.2,fun hk=>?_,fun hk=>?_⟩
 ·rw[if_pos hk] at h4;simpa using h4
 ·rw[if_neg hk] at h4;simpa using h4
theorem Ud {l:List Shp} (h:Dy l=true):l.length≤6:=by
 simp only[Dy,Bool.and_eq_true,decide_eq_true_eq] at h;omega
theorem Cm {p:Pln} (h:Dm p=true):p.sQ.length≤6∧Dy p.sQ=true∧0≤p.rJ∧p.rJ<(p.sQ.length:Int)∧1≤p.dJ∧p.dJ≤8∧0≤p.most∧p.most≤2000:=by
 simp only[Dm,Ak,Bool.and_eq_true,decide_eq_true_eq] at h
 have:=Ud h.1.1.1
 refine⟨this,h.1.1.1,?_⟩;omega
theorem U6 {n:Int} : ∀ {b:Int} {l:List Fld},Df n b l=true→∀f∈l,Lj f n=true∧b<f.nJ
 |_,[],_,f,hf=>by cases hf
 |b,g::r,h,f,hf=>by
  simp only[Df,Bool.and_eq_true,decide_eq_true_eq] at h
  rcases List.mem_cons.1 hf with rfl|hf
  ·exact⟨h.1.2,h.1.1⟩
  ·have:=U6 h.2 f hf;exact⟨this.1,by omega⟩
theorem Qc {n:Int} : ∀ {b:Int} {l:List Shp},Eo n b l=true→∀x∈l,(x.fJ.length≤8∧Df n 0 x.fJ=true)∧b<x.id∧x.id≤99
 |_,[],_,f,hf=>by cases hf
 |b,g::r,h,f,hf=>by
  simp only[Eo,Bool.and_eq_true,decide_eq_true_eq] at h
  rcases List.mem_cons.1 hf with rfl|hf
  ·exact⟨⟨by omega,h.1.2⟩,h.1.1.1.1,h.1.1.1.2⟩
  ·have:=Qc h.2 f hf;exact⟨this.1,by omega,this.2.2⟩
theorem Ea {l:List Shp} (h:Dy l=true): ∀x∈l,x.fJ.length≤1000:=fun x hx=>by
 simp only[Dy,Bool.and_eq_true] at h
 have:=(Qc h.2 x hx).1.1
 omega
theorem Yx {l:List Shp} {s n:Int} {f:Fld} (hl:Dy l=true) (h:fieldAt l s n=some f):Lj f (l.length:Int)=true∧f.nJ=n:=by
 unfold fieldAt at h
 split at h
 ·rename_i hs
  have hs:=Ar hs
  simp only[Dy,Bool.and_eq_true,decide_eq_true_eq] at hl
  have hm:l.getD s.toNat Aqc∈l:=by
   rw[List.getD_eq_getElem?_getD,List.getElem?_eq_getElem (by omega)]
   exact List.getElem_mem _
  have hx:=(Qc hl.2 _ hm).1.2
  have hf:=List.mem_of_find?_eq_some h
  have hp:=List.find?_some h
  exact⟨(U6 hx f hf).1,by simpa using hp⟩
 ·cases h
/-! ### Tags -/
def C9 (n w:Int):Int:=if Ak n 1 536870911&&Ak w 0 7 then 8*n+w else 0
def Si (u:Int):Bool:=Ak u 8 4294967295
def B0 (u:Int):Int:=if Si u then u / 8 else 0
def Aj (u:Int):Int:=if Si u then u % 8 else 0
theorem Bp (n w:Int):0≤C9 n w∧C9 n w≤4294967295:=by
 unfold C9 Ak;split<;>simp_all<;>omega
/-! ### Utf-8 -/
def Sj (u:Utf) (w l h:Int):Bool:=decide (u.wK=w)&&(decide (u.low=l)&&decide (u.high=h))
def Fk (u:Utf):Bool:=Sj u 0 0 0||Sj u 1 128 191||Sj u 2 128 191||Sj u 3 128 191||Sj u 2 160 191||Sj u 2 128 159||Sj u 3 144 191||Sj u 3 128 143
theorem Ac0 {u:Utf} (h:Fk u=true):(u.wK=0∧u.low=0∧u.high=0)∨(u.wK=1∧u.low=128∧u.high=191)∨(u.wK=2∧u.low=128∧u.high=191)∨(u.wK=3∧u.low=128∧u.high=191)∨(u.wK=2∧u.low=160∧u.high=191)∨(u.wK=2∧u.low=128∧u.high=159)∨(u.wK=3∧u.low=144∧u.high=191)∨(u.wK=3∧u.low=128∧u.high=143):=by
 simp only[Fk,Sj,Bool.or_eq_true,Bool.and_eq_true,decide_eq_true_eq] at h
 rcases h with ((((((h|h)|h)|h)|h)|h)|h)|h<;>simp[h]
theorem Yy {u:Utf} (h:Fk u=true) (h0:u.wK=0):u=utf0:=by
 rcases Ac0 h with h|h|h|h|h|h|h|h<;>first|(cases u;simp_all[utf0];done)|omega
theorem Mu {u:Utf} (h:Fk u=true):0≤u.wK∧u.wK≤3:=by
 rcases Ac0 h with h|h|h|h|h|h|h|h<;>omega
def Bi (b:Int):Option Utf:=
 if Ak b 0 127 then some utf0
 else if Ak b 194 223 then some ⟨1,128,191⟩
 else if Ak b 224 239 then some ⟨2,if b=224 then 160 else 128,if b=237 then 159 else 191⟩
 else if Ak b 240 244 then some ⟨3,if b=240 then 144 else 128,if b=244 then 143 else 191⟩
 else none
def B5 (u:Utf) (b:Int):Option Utf:=
 if Fk u then (if u.wK=0 then Bi b else if Ak b u.low u.high then some (if u.wK=1 then utf0 else ⟨u.wK-1,128,191⟩) else none) else none
def Qd:Utf→List UInt8→Nat→Utf×Option Nat
 |u,[],_=>(u,none)
 |u,b::r,i=>match B5 u (b.toNat:Int) with
  |some v=>Qd v r (i+1)
  |none=>(u,some i)
def Ue (u:Utf) (s:List UInt8):Utf:=(Qd u s 0).1
def Abi (u:Utf) (s:List UInt8):Int:=match (Qd u s 0).2 with
 |some i=>(i:Int)
 |none=> -1
/-! ### Varints -/
def Nm (u:Nat):List UInt8:=if h:u<128 then [UInt8.ofNat u] else UInt8.ofNat (u % 128+128)::Nm (u / 128)
termination_by u
decreasing_by omega
def Ef (u:Int):List UInt8:=Nm u.toNat
def Lq (u:Int):Int:=((Ef u).length:Int)
theorem Nn {u:Nat} (h:u<128):Nm u=[UInt8.ofNat u]:=by rw[Nm,dif_pos h]
theorem Sk {u:Nat} (h: ¬u<128):Nm u=UInt8.ofNat (u % 128+128)::Nm (u / 128):=by rw[Nm,dif_neg h]
theorem Wv: ∀(k u:Nat),u<128 ^ k→1≤k→(Nm u).length≤k
 |0,_,_,h=>by omega
 |k+1,u,h,_=>by
  by_cases hu:u<128
  ·rw[Nn hu];simp
  ·rw[Sk hu]
   have hk:1≤k:=by
    rcases k with _|k
    ·simp at h;omega
    ·omega
   have:=Wv k (u / 128) (by rw[Nat.pow_succ] at h;exact Nat.div_lt_of_lt_mul (by rw[Nat.mul_comm];exact h)) hk
   simp;omega
theorem Ww (u:Nat):1≤(Nm u).length:=by
 by_cases hu:u<128
 ·rw[Nn hu];simp
 ·rw[Sk hu];simp
theorem Abj {u:Int} (h0:0≤u) (h:u≤127):Ef u=[UInt8.ofNat u.toNat]:=Nn (by omega)
theorem Yz {u:Int} (h0:0≤u) (h:127<u):Ef u=UInt8.ofNat (u % 128+128).toNat::Ef (u / 128):=by
 unfold Ef
 rw[Sk (by omega),show (u / 128).toNat=u.toNat / 128 by omega,show (u % 128+128).toNat=u.toNat % 128+128 by omega]
theorem Y0 (u:Int):1≤(Ef u).length:=Ww _
theorem Ad6 {u:Int} (h:u≤18446744073709551615):1≤Lq u∧Lq u≤10:=by
 have h1:=Ww u.toNat
 have h2:=Wv 10 u.toNat (by omega) (by omega)
 unfold Lq Ef;omega
def A2 (c a:Int):Ev:=⟨10,0,0,0,[],c,a⟩
def H7 (f:Fld) (u:Int):Ev:=⟨2,f.nJ,if f.kind=3∧u≠0 then 1 else u,0,[],0,0⟩
theorem U7 {f:Fld} {l:List Fld} {n:Int} :Hc (f::l) n=if f.nJ=n then some f else Hc l n:=by
 unfold Hc;rw[List.find?_cons];by_cases h:f.nJ=n<;>simp[h]
theorem Y1 {l:List Shp} {s n:Int} {x:Shp} (hs:Ak s 0 ((l.length:Int)-1)=true) (hx:l[s.toNat]? =some x):fieldAt l s n=Hc x.fJ n:=by
 rw[fieldAt,if_pos hs,Wt hx]
def Aou (l:List Ev) (k:Int):Int:=((l.filter fun e=>decide (e.kind=k)).length:Int)
structure Fa where
 sJ:List Int
 inText:Bool
 isText:Bool
 uJ:Utf
 ended:Bool
 deriving Inhabited
structure Fmr where
 pJ:Pln
 st:Fa
structure Fs where
 sJ:List Int
 field:Fld
 open_:Bool
 uJ:Utf
 ended:Bool
def Gu (k:Int):Bool:=decide (k=6)||decide (k=7)
theorem Ac1 {b:Int} {u:Utf} (h:Bi b=some u):Fk u=true:=by
 unfold Bi at h
 repeat' split at h
 all_goals first|(cases h;done)|(cases h;first|decide|(exfalso;omega)|(simp only[Fk,Sj];simp_all;done)|(simp only[Fk,Sj];simp_all;omega))
theorem Afe {u v:Utf} {b:Int} (h:B5 u b=some v):Fk v=true:=by
 unfold B5 at h
 split at h
 ·rename_i hu
  have hw:=Mu hu
  split at h
  ·exact Ac1 h
  ·split at h
   ·split at h
    ·cases h;decide
    ·cases h
     rcases Ac0 hu with h|h|h|h|h|h|h|h<;>simp_all[Fk,Sj]
   ·cases h
 ·cases h
def EvB (e:Ev):Prop:=List.length e.text≤A7∧(0:Int)≤e.bits∧e.bits≤18446744073709551615
def cEv (x:Ev):List C:=[.int .i64 x.kind,.int .i64 x.field,.int .u64 x.bits,.int .i64 x.len,.str x.text,.int .i64 x.code,.int .i64 x.aJ]
def Gc (x:Fld):List C:=[.int .i64 x.nJ,.int .i64 x.kind,.bool x.rep,.bool x.packed,.int .i64 x.mK]
def Apw (x:Shp):List C:=[.int .i64 x.id,.seq .fld x.fJ]
def Apx (x:Lev):List C:=[.int .i64 x.mK,.int .i64 x.left]
def Lk (x:Scn):List C:=[.int .u64 x.bits,.int .i64 x.hJ]
def K5 (x:Utf):List C:=[.int .i64 x.wK,.int .i64 x.low,.int .i64 x.high]
def Mp (x:Pln):List C:=[.seq .shp x.sQ,.int .i64 x.rJ,.int .i64 x.dJ,.int .i64 x.most]
def Bx (x:Dcd):List C:=[.seq .shp x.pJ.sQ,.int .i64 x.pJ.rJ,.int .i64 x.pJ.dJ,.int .i64 x.pJ.most,.int .i64 x.mJ,.seq .lev x.sJ,.int .u64 x.sK.bits,.int .i64 x.sK.hJ,.int .i64 x.sX,.int .i64 x.aJ,.int .i64 x.field.nJ,.int .i64 x.field.kind,.bool x.field.rep,.bool x.field.packed,.int .i64 x.field.mK,.int .i64 x.wJ,.int .i64 x.wK,.int .i64 x.uJ.wK,.int .i64 x.uJ.low,.int .i64 x.uJ.high,.int .i64 x.eJ.kind,.int .i64 x.eJ.field,.int .u64 x.eJ.bits,.int .i64 x.eJ.len,.str x.eJ.text,.int .i64 x.eJ.code,.int .i64 x.eJ.aJ]
def Ae (j0:Nat) (j5:Nat) (x:Dcd):List C:=[.own j0,.int .i64 x.pJ.rJ,.int .i64 x.pJ.dJ,.int .i64 x.pJ.most,.int .i64 x.mJ,.own j5,.int .u64 x.sK.bits,.int .i64 x.sK.hJ,.int .i64 x.sX,.int .i64 x.aJ,.int .i64 x.field.nJ,.int .i64 x.field.kind,.bool x.field.rep,.bool x.field.packed,.int .i64 x.field.mK,.int .i64 x.wJ,.int .i64 x.wK,.int .i64 x.uJ.wK,.int .i64 x.uJ.low,.int .i64 x.uJ.high,.int .i64 x.eJ.kind,.int .i64 x.eJ.field,.int .u64 x.eJ.bits,.int .i64 x.eJ.len,.str x.eJ.text,.int .i64 x.eJ.code,.int .i64 x.eJ.aJ]
def Ajw (j0:Nat) (x:Pln):List C:=[.own j0,.int .i64 x.rJ,.int .i64 x.dJ,.int .i64 x.most]
abbrev L2 (d:Dcd):List Blk:=[.tree d.pJ.sQ,.lst .lev d.sJ]
abbrev Ls (d:Dcd) (o:List Ev):List Blk:=[.tree d.pJ.sQ,.lst .lev d.sJ,.lst .ev o]
def Ap3:Lev:=⟨0,0⟩
def Eb (d:Dcd):Int:=(d.sJ.getD (d.sJ.length-1) Ap3).left
def Fm (n:Int) (l:Lev):Bool:=Ak l.mK 0 (n-1)&&Ak l.left 0 2000
def Bk (d:Dcd):Bool:=Dm d.pJ&&decide ((d.sJ.length:Int)≤d.pJ.dJ)&&d.sJ.all (Fm (d.pJ.sQ.length:Int))
def Yg (n:Int):List Lev→Nat
 |[]=>0
 |l::r=>if Fm n l then Yg n r+1 else 0
theorem Tb {n:Int} {l:Lev} {r:List Lev} :Yg n (l::r)=if Fm n l then Yg n r+1 else 0:=rfl
theorem No (n:Int): ∀l:List Lev,l.all (Fm n)=decide (Yg n l=l.length)
 |[]=>rfl
 |l::r=>by
  rw[List.all_cons,No n r,Tb]
  cases h:Fm n l with
  |true=>rw[if_pos rfl];simp
  |false=>rw[if_neg (by simp)];simp
def Lr (n:Int) (l:List Lev):Int:=if Yg n l=l.length then-1 else (Yg n l:Int)
def D4 (s:Scn):Bool:=Ak s.hJ 0 9&&decide (Int.fdiv s.bits (2 ^ min (Int.toNat (7*s.hJ)) 64)=0)
def By (d:Dcd):Int:=if d.mJ=5 then A3 d.wJ else if d.mJ=8 then A3 (Ci d.field.kind) else 0
def Qe (d:Dcd):Int:=if d.mJ=8 then d.wK else Eb d
def J9 (d:Dcd):Bool:=if 0<By d then Ak d.sK.hJ 0 (By d-1)&&decide (Int.fdiv d.sK.bits (2 ^ min (Int.toNat (8*d.sK.hJ)) 64)=0)&&decide (By d-d.sK.hJ≤Qe d)
 else if d.mJ=6∨d.mJ=7∨d.mJ=9 then decide (d.sK=scn0) else D4 d.sK
def Jn (d:Dcd):Bool:=if d.mJ=6∨d.mJ=7∨d.mJ=8 then Ak d.wK 1 (Eb d) else decide (d.wK=0)
def Amh (d:Dcd):Bool:=decide (d.field=fld0)||Dx d.field d.wJ
def Jo (d:Dcd):Bool:=if d.mJ=6 then Gu d.field.kind else if d.mJ=8 then U5 d.field else if d.mJ=3 then decide (d.wJ=0)&&Amh d else if d.mJ=4 then decide (d.wJ=2)&&Amh d else if d.mJ=5 then decide (0<A3 d.wJ)&&Amh d else true
def Gd (l:List Shp) (f:Fld):Nat→Bool
 |0=>false
 |k+1=>Gd l f k||decide (fieldAt l (k:Int) f.nJ=some f)
def J2 (l:List Shp) (f:Fld):Bool:=Gd l f l.length
def Qf (k:Int):Bool:=Ak k 1 10
def Ep (e:Ev):Ev:=⟨e.kind,if e.kind=2∨e.kind=3∨e.kind=6 then e.field else 0,if e.kind=2 then e.bits else 0,if e.kind=1∨e.kind=3∨e.kind=6 then e.len else 0,if e.kind=4 then e.text else [],if e.kind=10 then e.code else 0,if e.kind=9∨e.kind=10 then e.aJ else 0⟩
def Tc (e:Ev):Bool:=decide (e=Ep e)
def Gv (e:Ev):Bool:=Qf e.kind&&Tc e&&decide (0≤e.len)&&decide (0≤e.aJ)&&(if Fi e.kind then Ak e.field 1 536870911 else if e.kind=4 then !decide (e.text=[]) else if e.kind=10 then decide (1≤e.code) else true)
def B6 (e:Ev):Bool:=decide (e.kind=9)||decide (e.kind=10)
def Y2 (d:Dcd):Bool:=if d.mJ=9 then Gv d.eJ&&B6 d.eJ else decide (d.eJ=ev0)
def J4 (d:Dcd):Bool:=if d.mJ=1 then decide (d.sJ=[]) else if d.mJ=9 then true else decide (1≤Eb d)
def Bs (d:Dcd):Bool:=Bk d&&Ak d.mJ 1 9&&Ak d.aJ 0 1000000000&&Ak d.sX 0 d.aJ&&Fk d.uJ&&D3 d.wJ&&(decide (d.field=fld0)||J2 d.pJ.sQ d.field)&&Y2 d&&J4 d&&Jn d&&Jo d&&J9 d
theorem Ahk {o f:Fld} (h:o.nJ=f.nJ∧o.kind=f.kind∧o.rep=f.rep∧o.packed=f.packed∧o.mK=f.mK):o=f:=by
 cases o;cases f;simp_all
theorem Ahm {o f:Fld} (h:o.nJ=f.nJ→o.kind=f.kind→o.rep=f.rep→o.packed=f.packed→¬o.mK=f.mK):o≠f:=fun e=>by subst e;exact h rfl rfl rfl rfl rfl
theorem Wx {l:List Shp} {f:Fld} : ∀ {k m:Nat},k≤m→Gd l f k=true→Gd l f m=true
 |k,0,h,hk=>by rw[show k=0 by omega] at hk;exact hk
 |k,m+1,h,hk=>by
  by_cases e:k=m+1
  ·rw[←e];exact hk
  ·rw[Gd,Wx (m:=m) (by omega) hk];rfl
theorem Z4 {l:List Shp} {f:Fld} {k:Nat} (h:k<l.length) (hf:fieldAt l (k:Int) f.nJ=some f):J2 l f=true:=by
 have:Gd l f (k+1)=true:=by rw[Gd,hf];simp
 exact Wx (show k+1≤l.length by omega) this
theorem Np {l:List Shp} {f:Fld} {k:Nat} (h:Gd l f k=false) (hf:fieldAt l (k:Int) f.nJ≠some f):Gd l f (k+1)=false:=by
 rw[Gd,h];simp[hf]
theorem Ad7 {l:List Shp} {f:Fld} {k:Nat} (h:Gd l f k=false) (hk:l.length=k):J2 l f=false:=by unfold J2;rw[hk];exact h
theorem Z5 {f:Fld} (h:f.nJ=0∧f.kind=0∧f.rep=false∧f.packed=false∧f.mK=0):f=fld0:=Ahk h
def R5 (d:Dcd):Bool:=d.sJ.all (Fm (d.pJ.sQ.length:Int))&&(if d.mJ=1 then decide ((d.sJ.length:Int)=0) else if d.mJ=9 then decide ((d.sJ.length:Int)≤d.pJ.dJ) else Ak (d.sJ.length:Int) 1 d.pJ.dJ&&decide (1≤Eb d))
def Aov (d:Dcd):Bool:=Ak d.sK.hJ 0 (By d-1)&&decide (Int.fdiv d.sK.bits (2 ^ min (Int.toNat (8*d.sK.hJ)) 64)=0)&&decide (By d-d.sK.hJ≤Qe d)
def Ac2 (d:Dcd):Bool:=if d.mJ=6∨d.mJ=7∨d.mJ=9 then decide (d.sK=scn0) else if d.mJ=5 then Aov d else if d.mJ=8 then (if By d=0 then D4 d.sK else Aov d) else D4 d.sK
def U8 (d:Dcd):Bool:=(decide (d.mJ=3)&& !decide (d.wJ=0))||(decide (d.mJ=4)&& !decide (d.wJ=2))||(decide (d.mJ=5)&&decide (A3 d.wJ=0))
def Abk (d:Dcd):Bool:=Dm d.pJ&&Ak d.mJ 1 9&&Ak d.aJ 0 1000000000&&Ak d.sX 0 d.aJ&&Fk d.uJ&&D3 d.wJ&&(decide (d.field=fld0)||J2 d.pJ.sQ d.field)&&R5 d&&Y2 d&&Jn d&& !U8 d&& !(Ak d.mJ 3 5&& !decide (d.field=fld0)&& !Dx d.field d.wJ)&&(!decide (d.mJ=6)||Gu d.field.kind)&&(!decide (d.mJ=8)||U5 d.field)&&Ac2 d
theorem Z6 {d:Dcd} (h:d.sJ=[]):Eb d=0:=by unfold Eb;rw[h];rfl
theorem Td (w:Int):A3 w=0∨A3 w=4∨A3 w=8:=by unfold A3;split<;>(try split)<;>omega
theorem Ahn (d:Dcd):Abk d=Bs d:=by
 have hw:=Td d.wJ
 have hw2:=Td (Ci d.field.kind)
 by_cases hm:Ak d.mJ 1 9=true
 ·have hm:=Ar hm
  have hp:Dm d.pJ=true→1≤d.pJ.dJ:=fun h=>(Cm h).2.2.2.2.1
  have ht:= @Z6 d
  obtain ⟨⟨sh,ro,de,mo⟩,m,st,sc,sa,a,f,w,wa,u,e⟩:=d
  simp only at hm hw hw2 hp ht
  have hs:(decide (st=[]):Bool)=decide ((st.length:Int)=0):=by cases st<;>simp<;>omega
  have hl: ∀x:Lev,(([]:List Lev).length:Int)=0:=fun _=>rfl
  rcases (show m=1∨m=2∨m=3∨m=4∨m=5∨m=6∨m=7∨m=8∨m=9 by omega) with rfl|rfl|rfl|rfl|rfl|rfl|rfl|rfl|rfl<;>
   rw[Bool.eq_iff_iff]<;>simp[Abk,Bs,Bk,R5,J4,U8,Ac2,Aov,J9,Jo,Amh,Jn,Qe,By,hs,Ak]<;>grind
 ·have hm:Ak d.mJ 1 9=false:=by simpa using hm
  simp[Abk,Bs,hm]
theorem Aow {e f:Ev} (h:e.kind=f.kind∧e.field=f.field∧e.bits=f.bits∧e.len=f.len∧e.text=f.text∧e.code=f.code∧e.aJ=f.aJ):e=f:=by cases e;cases f;simp_all
theorem Ajx {e:Ev} (h:e.kind=(Ep e).kind∧e.field=(Ep e).field∧e.bits=(Ep e).bits∧e.len=(Ep e).len∧e.text=(Ep e).text∧e.code=(Ep e).code∧e.aJ=(Ep e).aJ):Tc e=true:=decide_eq_true (Aow h)
theorem Te {e f:Ev} (h:Ep e=f):Tc e=(decide (e.kind=f.kind)&&(decide (e.field=f.field)&&(decide (e.bits=f.bits)&&(decide (e.len=f.len)&&(decide (e.text=f.text)&&(decide (e.code=f.code)&&decide (e.aJ=f.aJ))))))):=by
 subst h
 rw[Bool.eq_iff_iff]
 simp only[Bool.and_eq_true,decide_eq_true_eq]
 constructor
 ·intro h
  have h:e=Ep e:=of_decide_eq_true h
  exact⟨congrArg Ev.kind h,congrArg Ev.field h,congrArg Ev.bits h,congrArg Ev.len h,congrArg Ev.text h,congrArg Ev.code h,congrArg Ev.aJ h⟩
 ·exact fun h=>Ajx h
structure Mac where
 d:Dcd
 oJ:List Ev
def Wy:Ev:=⟨5,0,0,0,[],0,0⟩
def Ami:Ev:=⟨7,0,0,0,[],0,0⟩
def Lt:Ev:=⟨8,0,0,0,[],0,0⟩
def Aho (n:Int):Ev:=⟨1,0,0,n,[],0,0⟩
def Ac3 (f n:Int):Ev:=⟨6,f,0,n,[],0,0⟩
def Ac4 (f n:Int):Ev:=⟨3,f,0,n,[],0,0⟩
def Z7 (b:Int):Ev:=⟨4,0,0,0,[Bh b],0,0⟩
def A8 (d:Dcd) (c a:Int):Dcd:=⟨d.pJ,9,d.sJ,⟨0,0⟩,d.sX,d.aJ,d.field,d.wJ,0,d.uJ,A2 c a⟩
def A1 (m:Mac) (c a:Int):Mac:=⟨A8 m.d c a,m.oJ++[A2 c a]⟩
def Az (m:Mac):Option Mac:=
 if m.d.mJ=6∧m.d.wK<1 then
  (if 0<m.d.uJ.wK then some (A1 m 5 m.d.aJ) else some ⟨⟨m.d.pJ,2,m.d.sJ,m.d.sK,m.d.sX,m.d.aJ,m.d.field,m.d.wJ,0,⟨0,0,0⟩,m.d.eJ⟩,m.oJ++[Wy]⟩)
 else if (m.d.mJ=7∨(m.d.mJ=8∧m.d.sK.hJ=0))∧m.d.wK<1 then some ⟨⟨m.d.pJ,2,m.d.sJ,m.d.sK,m.d.sX,m.d.aJ,m.d.field,m.d.wJ,0,m.d.uJ,m.d.eJ⟩,m.oJ⟩
 else if m.d.mJ=2∧m.d.sK.hJ=0∧0<m.d.sJ.length∧Eb m.d=0 then
  some (if m.d.sJ.length=1 then ⟨⟨m.d.pJ,1,m.d.sJ.take (m.d.sJ.length-1),m.d.sK,m.d.sX,m.d.aJ,m.d.field,m.d.wJ,m.d.wK,m.d.uJ,m.d.eJ⟩,m.oJ++[Lt]⟩
   else ⟨⟨m.d.pJ,m.d.mJ,m.d.sJ.take (m.d.sJ.length-1),m.d.sK,m.d.sX,m.d.aJ,m.d.field,m.d.wJ,m.d.wK,m.d.uJ,m.d.eJ⟩,m.oJ++[Ami]⟩)
 else none
def wM (m:Mac):Nat:=m.d.sJ.length+(if m.d.mJ=6∨m.d.mJ=7∨m.d.mJ=8 then 2 else if m.d.mJ=2 then 1 else 0)
theorem Cg {m q:Mac} (h:Az m=some q):wM q<wM m∧q.oJ.length≤m.oJ.length+1:=by
 unfold Az at h
 split at h
 ·rename_i h1
  split at h
  ·cases h;simp[wM,A1,A8,h1.1]
  ·cases h;simp[wM,h1.1]
 ·split at h
  ·rename_i h1
   cases h
   rcases h1.1 with h2|h2
   ·simp[wM,h2]
   ·simp[wM,h2.1]
  ·split at h
   ·rename_i h1
    cases h
    have:=h1.2.2.1
    split
    ·simp[wM,h1.1];omega
    ·simp[wM,h1.1];omega
   ·cases h
def Af (m:Mac):Mac:=match h:Az m with
 |none=>m
 |some q=>Af q
termination_by wM m
decreasing_by exact(Cg h).1
theorem Cs {m q:Mac} (h:Az m=some q):Af m=Af q:=by
 rw[Af]
 split
 ·rename_i h1;rw[h] at h1;cases h1
 ·rename_i x h1;rw[h] at h1;cases h1;rfl
theorem B8 {m:Mac} (h:Az m=none):Af m=m:=by
 rw[Af]
 split
 ·rfl
 ·rename_i x h1;rw[h] at h1;cases h1
def C6 (m:Mac) (u:Int):Mac:=
 if m.d.pJ.most<u then A1 m 7 m.d.sX
 else Af ⟨⟨m.d.pJ,2,[⟨m.d.pJ.rJ,u⟩],⟨0,0⟩,m.d.sX,m.d.aJ,m.d.field,m.d.wJ,m.d.wK,m.d.uJ,m.d.eJ⟩,m.oJ++[Aho u]⟩
def H8 (d:Dcd):Lev:=d.sJ.getD (d.sJ.length-1) Ap3
def Ex (m:Mac) (u:Int):Mac:=
 if Si u=false∨m.d.sJ.length=0 then A1 m 2 m.d.sX
 else if D3 (Aj u)=false then A1 m 3 m.d.sX
 else if (fieldAt m.d.pJ.sQ (H8 m.d).mK (B0 u)).isSome=true∧Dx ((fieldAt m.d.pJ.sQ (H8 m.d).mK (B0 u)).getD fld0) (Aj u)=false then A1 m 4 m.d.sX
 else if Eb m.d<max (A3 (Aj u)) 1 then A1 ⟨⟨m.d.pJ,m.d.mJ,m.d.sJ,⟨0,0⟩,m.d.sX,m.d.aJ,(fieldAt m.d.pJ.sQ (H8 m.d).mK (B0 u)).getD fld0,Aj u,m.d.wK,m.d.uJ,m.d.eJ⟩,m.oJ⟩ 9 m.d.aJ
 else ⟨⟨m.d.pJ,if Aj u=0 then 3 else if Aj u=2 then 4 else 5,m.d.sJ,⟨0,0⟩,m.d.sX,m.d.aJ,(fieldAt m.d.pJ.sQ (H8 m.d).mK (B0 u)).getD fld0,Aj u,m.d.wK,m.d.uJ,m.d.eJ⟩,m.oJ⟩
def Cw (m:Mac) (u:Int):Mac:=
 if m.d.sJ.length=0∨Eb m.d<u then A1 m 8 m.d.sX
 else if m.d.field=fld0 then Af ⟨⟨m.d.pJ,7,m.d.sJ,⟨0,0⟩,m.d.sX,m.d.aJ,m.d.field,m.d.wJ,u,m.d.uJ,m.d.eJ⟩,m.oJ⟩
 else if m.d.field.kind=8 then
  (if m.d.pJ.dJ≤(m.d.sJ.length:Int) then A1 m 6 m.d.sX
  else Af ⟨⟨m.d.pJ,2,m.d.sJ.set (m.d.sJ.length-1) ⟨(H8 m.d).mK,Eb m.d-u⟩++[⟨m.d.field.mK,u⟩],⟨0,0⟩,m.d.sX,m.d.aJ,m.d.field,m.d.wJ,0,m.d.uJ,m.d.eJ⟩,m.oJ++[Ac3 m.d.field.nJ u]⟩)
 else if Gu m.d.field.kind=true then Af ⟨⟨m.d.pJ,6,m.d.sJ,⟨0,0⟩,m.d.sX,m.d.aJ,m.d.field,m.d.wJ,u,⟨0,0,0⟩,m.d.eJ⟩,m.oJ++[Ac4 m.d.field.nJ u]⟩
 else if 0<u∧u<A3 (Ci m.d.field.kind) then A1 m 9 m.d.aJ
 else Af ⟨⟨m.d.pJ,8,m.d.sJ,⟨0,0⟩,m.d.sX,m.d.aJ,m.d.field,m.d.wJ,u,m.d.uJ,m.d.eJ⟩,m.oJ⟩
def Bt (m:Mac) (u:Int):Mac:=⟨⟨m.d.pJ,if m.d.mJ=8 then 8 else 2,m.d.sJ,m.d.sK,m.d.sX,m.d.aJ,m.d.field,m.d.wJ,m.d.wK,m.d.uJ,m.d.eJ⟩,if m.d.field=fld0 then m.oJ else m.oJ++[H7 m.d.field u]⟩
def Hx (d:Dcd) (s:Scn):Dcd:=⟨d.pJ,d.mJ,d.sJ,s,d.sX,d.aJ,d.field,d.wJ,d.wK,d.uJ,d.eJ⟩
def Ah (s:Scn) (b:Int):Scn×Int:=
 if D4 s=false∨Ak b 0 255=false∨(s.hJ=9∧1<b) then (s,2)
 else (⟨s.bits+b % 128*2 ^ (7*s.hJ.toNat),s.hJ+1⟩,if b<128 then 1 else 0)
def B2 (s:Scn) (b:Int):Scn:=if Ak s.hJ 0 7=true∧Ak b 0 255=true then ⟨IntKind.u64.wrap (s.bits+IntKind.u64.wrap (b*2 ^ min (Int.toNat (8*s.hJ)) 64)),s.hJ+1⟩ else s
def Mv (d:Dcd) (a:Int):Dcd:=⟨d.pJ,d.mJ,d.sJ,d.sK,if d.sK.hJ=0∧(d.mJ=1∨d.mJ=2∨d.mJ=4) then a else d.sX,d.aJ,d.field,d.wJ,d.wK,d.uJ,d.eJ⟩
def Wz (m q:Mac):Mac:=if (m.d.mJ≠1∧Eb m.d=0)∨(m.d.mJ=8∧m.d.wK=0) then A1 q 9 m.d.aJ else q
def Bw (m:Mac) (b a:Int):Mac:=
 if (Ah m.d.sK b).2=2 then A1 ⟨Mv m.d a,m.oJ⟩ 1 a
 else if (Ah m.d.sK b).2=0 then Wz m ⟨Hx (Mv m.d a) (Ah m.d.sK b).1,m.oJ⟩
 else if m.d.mJ=1 then C6 ⟨Hx (Mv m.d a) scn0,m.oJ⟩ (Ah m.d.sK b).1.bits
 else if m.d.mJ=2 then Ex ⟨Hx (Mv m.d a) scn0,m.oJ⟩ (Ah m.d.sK b).1.bits
 else if m.d.mJ=4 then Cw ⟨Hx (Mv m.d a) scn0,m.oJ⟩ (Ah m.d.sK b).1.bits
 else Af (Bt ⟨Hx (Mv m.d a) scn0,m.oJ⟩ (Ah m.d.sK b).1.bits)
def D5 (m:Mac) (b:Int):Mac:=
 if (B2 m.d.sK b).hJ<By m.d then ⟨Hx m.d (B2 m.d.sK b),m.oJ⟩
 else if m.d.mJ=8∧0<m.d.wK∧m.d.wK<By m.d then A1 (Bt ⟨Hx m.d scn0,m.oJ⟩ (B2 m.d.sK b).bits) 9 m.d.aJ
 else Af (Bt ⟨Hx m.d scn0,m.oJ⟩ (B2 m.d.sK b).bits)
def Aof (d:Dcd) (u:Utf):Dcd:=⟨d.pJ,d.mJ,d.sJ,d.sK,d.sX,d.aJ,d.field,d.wJ,d.wK,u,d.eJ⟩
def E0 (m:Mac) (b:Int):Mac:=
 if m.d.field.kind=6 then (match B5 m.d.uJ b with
  |none=>A1 m 5 (m.d.aJ-1)
  |some u=>Af ⟨Aof m.d u,m.oJ++[Z7 b]⟩)
 else Af ⟨m.d,m.oJ++[Z7 b]⟩
def Di (d:Dcd):Dcd:=⟨d.pJ,d.mJ,if d.sJ.length=0 then d.sJ else d.sJ.set (d.sJ.length-1) ⟨(H8 d).mK,Eb d-1⟩,d.sK,d.sX,d.aJ+1,d.field,d.wJ,if d.mJ=6∨d.mJ=7∨d.mJ=8 then d.wK-1 else d.wK,d.uJ,d.eJ⟩
def Er (m:Mac) (b:Int):Mac:=
 if m.d.mJ=6 then E0 ⟨Di m.d,m.oJ⟩ b
 else if m.d.mJ=7 then Af ⟨Di m.d,m.oJ⟩
 else if 0<By m.d then D5 ⟨Di m.d,m.oJ⟩ b
 else Bw ⟨Di m.d,m.oJ⟩ b m.d.aJ
theorem Kp {m q:Mac} (h:Az m=some q):q.d.sJ.length≤m.d.sJ.length∧q.d.pJ=m.d.pJ:=by
 unfold Az at h
 split at h
 ·split at h<;>(cases h;exact⟨Nat.le_refl _,rfl⟩)
 ·split at h
  ·cases h;exact⟨Nat.le_refl _,rfl⟩
  ·split at h
   ·cases h
    split<;>(refine⟨?_,rfl⟩;simp only[List.length_take];omega)
   ·cases h
theorem Xa (m:Mac):(Af m).oJ.length≤m.oJ.length+wM m:=by
 suffices ∀(k:Nat) (m:Mac),wM m≤k→(Af m).oJ.length≤m.oJ.length+wM m from this _ m (Nat.le_refl _)
 intro k
 induction k with
 |zero=>
  intro m hk
  cases h:Az m with
  |none=>rw[B8 h];omega
  |some q=>have:=(Cg h).1;omega
 |succ k ih=>
  intro m hk
  cases h:Az m with
  |none=>rw[B8 h];omega
  |some q=>
   have h1:=Cg h
   have:=ih q (by omega)
   rw[Cs h];omega
theorem Agi (m:Mac):wM m≤m.d.sJ.length+2:=by unfold wM;split<;>(try split)<;>omega
theorem Cb {d:Dcd} (h:Bk d=true):Dm d.pJ=true∧(d.sJ.length:Int)≤d.pJ.dJ∧d.sJ.length≤8∧(∀l∈d.sJ,Fm (d.pJ.sQ.length:Int) l=true):=by
 simp only[Bk,Bool.and_eq_true,decide_eq_true_eq,List.all_eq_true] at h
 have:=Cm h.1.1
 exact⟨h.1.1,h.1.2,by omega,h.2⟩
theorem K6 {d:Dcd} (h1:Dm d.pJ=true) (h2:(d.sJ.length:Int)≤d.pJ.dJ) (h3: ∀l∈d.sJ,Fm (d.pJ.sQ.length:Int) l=true):Bk d=true:=by
 simp only[Bk,Bool.and_eq_true,decide_eq_true_eq,List.all_eq_true];exact⟨⟨h1,h2⟩,h3⟩
theorem R6 {d e:Dcd} {u:Int} (h:Bk d=true) (hp:e.pJ=d.pJ) (hs:e.sJ=[⟨d.pJ.rJ,u⟩]) (h0:0≤u) (hu:u≤d.pJ.most):Bk e=true:=by
 have hb:=Cb h
 have ht:=Cm hb.1
 refine K6 (by rw[hp];exact hb.1) (by rw[hs,hp];simp;omega) fun l hl=>?_
 rw[hs] at hl
 simp at hl
 subst hl
 rw[hp]
 simp[Fm,Ak];omega
theorem Cd {d e:Dcd} (h:Bk d=true) (hp:e.pJ=d.pJ) (hs:e.sJ=d.sJ):Bk e=true:=by
 have hb:=Cb h
 exact K6 (by rw[hp];exact hb.1) (by rw[hs,hp];exact hb.2.1) (by rw[hs,hp];exact hb.2.2.2)
theorem Y3 {l:List Shp} {f:Fld} (hl:Dy l=true): ∀ {k:Nat},Gd l f k=true→Lj f (l.length:Int)=true
 |0,h=>by cases h
 |k+1,h=>by
  simp only[Gd,Bool.or_eq_true,decide_eq_true_eq] at h
  rcases h with h|h
  ·exact Y3 hl h
  ·exact(Yx hl h).1
theorem Tf {d:Dcd} (h:d.sJ.length≠0):H8 d∈d.sJ:=by
 unfold H8
 rw[List.getD_eq_getElem?_getD,List.getElem?_eq_getElem (by omega)]
 exact List.getElem_mem _
theorem Tg {d e:Dcd} {u:Int} (h:Bk d=true) (hk:J2 d.pJ.sQ d.field=true) (h8:d.field.kind=8) (hn:d.sJ.length≠0) (hd:(d.sJ.length:Int)<d.pJ.dJ) (h0:0≤u) (hu:u≤Eb d) (hp:e.pJ=d.pJ)
  (hs:e.sJ=d.sJ.set (d.sJ.length-1) ⟨(H8 d).mK,Eb d-u⟩++[⟨d.field.mK,u⟩]):Bk e=true:=by
 have hb:=Cb h
 have hf:=Acz (Y3 (Cm hb.1).2.1 hk)
 have hm:=hf.2.2.2.2.1 h8
 have hl:=hb.2.2.2 _ (Tf hn)
 have ht:Eb d=(H8 d).left:=rfl
 simp only[Fm,Bool.and_eq_true] at hl
 have hl1:=Ar hl.1;have hl2:=Ar hl.2
 refine K6 (by rw[hp];exact hb.1) (by rw[hs,hp];simp;omega) fun l hl=>?_
 rw[hs] at hl
 rw[hp]
 rcases List.mem_append.1 hl with hl|hl
 ·rcases List.mem_or_eq_of_mem_set hl with hl|hl
  ·exact hb.2.2.2 l hl
  ·subst hl;simp[Fm,Ak];omega
 ·simp at hl;subst hl;simp[Fm,Ak];omega
theorem Hy {d:Dcd} (h:Bk d=true):0≤Eb d∧Eb d≤2000:=by
 by_cases hn:d.sJ.length=0
 ·rw[Z6 (List.eq_nil_of_length_eq_zero hn)];omega
 ·have hl:=(Cb h).2.2.2 _ (Tf hn)
  have ht:Eb d=(H8 d).left:=rfl
  simp only[Fm,Bool.and_eq_true] at hl
  have:=Ar hl.2;omega
theorem Ka {d:Dcd} {x:Lev} (h:d.sJ[d.sJ.length-1]? =some x):H8 d=x∧Eb d=x.left:=by
 have e:H8 d=x:=by unfold H8;exact Wt h
 exact⟨e,by show (H8 d).left=_;rw[e]⟩
theorem Amj (u:Int):0≤Aj u∧Aj u≤7:=by unfold Aj;split<;>omega
theorem Vt {s:Scn} (h:D4 s=true) (h0:0≤s.bits):0≤s.hJ∧s.hJ≤9∧s.bits<2 ^ (7*s.hJ.toNat):=by
 simp only[D4,Bool.and_eq_true,decide_eq_true_eq] at h
 have hw:=Ar h.1
 refine⟨hw.1,hw.2,?_⟩
 have h2:=h.2
 rw[show min (Int.toNat (7*s.hJ)) 64=7*s.hJ.toNat by omega] at h2
 have hp:(0:Int)<2 ^ (7*s.hJ.toNat):=Int.pow_pos (by decide)
 rw[Int.fdiv_eq_ediv_of_nonneg _ (Int.le_of_lt hp)] at h2
 apply Int.not_le.1
 intro hle
 have:=Int.le_ediv_of_mul_le hp (show 1*2 ^ (7*s.hJ.toNat)≤s.bits by rw[Int.one_mul];exact hle)
 omega
theorem Ad8 {c:Int} {h:Int} (h0:0≤h) (h9:h≤9) (c0:0≤c) (c1:c≤127) (hc:h=9→c≤1):0≤c*2 ^ (7*h.toNat)∧c*2 ^ (7*h.toNat)+2 ^ (7*h.toNat)≤18446744073709551616:=by
 obtain ⟨k,rfl⟩:=Int.eq_ofNat_of_zero_le h0
 have hk:k≤9:=by omega
 rw[Int.toNat_natCast]
 rcases (show k=0∨k=1∨k=2∨k=3∨k=4∨k=5∨k=6∨k=7∨k=8∨k=9 by omega) with rfl|rfl|rfl|rfl|rfl|rfl|rfl|rfl|rfl|rfl<;>simp at * <;>omega
theorem Th {c h:Int} (h0:0≤h) (h9:h≤9) (c0:0≤c) (c1:c≤127) (hc:h=9→c≤1):(.v (.c (.int .u64 (IntKind.u64.wrap (c*2 ^ min (Int.toNat (7*h)) 64)))):S)= .v (.c (.int .u64 (c*2 ^ (7*h.toNat)))):=by
 have:=Ad8 h0 h9 c0 c1 hc
 have hp:(0:Int)<2 ^ (7*h.toNat):=Int.pow_pos (by decide)
 rw[show min (Int.toNat (7*h)) 64=7*h.toNat by omega]
 exact B3 Q2 Q2
theorem Ad9 {u c h:Int} (h0:0≤h) (h9:h≤9) (c0:0≤c) (c1:c≤127) (hc:h=9→c≤1) (u0:0≤u) (u1:u<2 ^ (7*h.toNat)):(.v (.c (.int .u64 (IntKind.u64.wrap (((BitVec.ofInt 64 u|||BitVec.ofInt 64 (c*2 ^ (7*h.toNat))).toNat:Nat):Int)))):S)= .v (.c (.int .u64 (u+c*2 ^ (7*h.toNat)))):=by
 have:=Ad8 h0 h9 c0 c1 hc
 rw[Aot (k:=7*h.toNat) (c:=c) u0 u1 c0 rfl (by omega)]
 exact B3 Q2 Q2
theorem Abm {u c h:Int} (h0:0≤h) (h9:h≤9) (c0:0≤c) (c1:c≤127) (hc:h=9→c≤1) (u0:0≤u) (u1:u<2 ^ (7*h.toNat)):(.v (.c (.int .u64 (IntKind.u64.wrap (u+c*2 ^ (7*h.toNat))))):S)= .v (.c (.int .u64 (u+c*2 ^ (7*h.toNat)))):=by
 have:=Ad8 h0 h9 c0 c1 hc
 exact B3 Q2 Q2
theorem Rc {s:Scn} {b:Int} (h0:0≤s.bits) (h1:s.bits≤18446744073709551615):0≤(Ah s b).1.bits∧(Ah s b).1.bits≤18446744073709551615:=by
 unfold Ah
 split
 ·exact⟨h0,h1⟩
 ·rename_i h
  simp only[not_or] at h
  have hs:D4 s=true:=by simpa using h.1
  have hb:=Ar (show Ak b 0 255=true by simpa using h.2.1)
  have hk:=Vt hs h0
  have hc:=Ad8 (c:=b % 128) hk.1 hk.2.1 (by omega) (by omega) (fun h9=>by have:=h.2.2;omega)
  simp only;omega
structure MW (d:Dcd):Prop where
 lv:Bk d=true
 kn:d.field=fld0∨J2 d.pJ.sQ d.field=true
 b0:0≤d.sK.bits∧d.sK.bits≤18446744073709551615
 aJ:0≤d.aJ∧d.aJ≤1000000001
 wK: -1≤d.wK∧d.wK≤2001
theorem Abn {s:Scn} {b:Int} (h0:0≤s.bits∧s.bits≤18446744073709551615):0≤(B2 s b).bits∧(B2 s b).bits≤18446744073709551615:=by
 unfold B2
 split
 ·simp only
  rw[IntKind.wrap_u64]
  have:=Int.emod_nonneg (s.bits+IntKind.u64.wrap (b*2 ^ min (Int.toNat (8*s.hJ)) 64)) (show (18446744073709551616:Int)≠0 by decide)
  have:=Int.emod_lt_of_pos (s.bits+IntKind.u64.wrap (b*2 ^ min (Int.toNat (8*s.hJ)) 64)) (show (0:Int)<18446744073709551616 by decide)
  omega
 ·exact h0
theorem MW.step {d:Dcd} (h:MW d) (hs:d.sJ.length=0∨1≤Eb d) (ha:d.aJ≤1000000000) (hw:(d.mJ=6∨d.mJ=7∨d.mJ=8)→0≤d.wK):MW (Di d):=by
 have hb:=Cb h.lv
 refine⟨?_,h.kn,h.b0,?_,?_⟩
 ·refine K6 (d:=Di d) hb.1 ?_ ?_
  ·show (((Di d).sJ.length:Nat):Int)≤d.pJ.dJ
   unfold Di;simp only;split
   ·exact hb.2.1
   ·rw[List.length_set];exact hb.2.1
  ·intro l hl
   show Fm (d.pJ.sQ.length:Int) l=true
   unfold Di at hl
   simp only at hl
   split at hl
   ·exact hb.2.2.2 l hl
   ·rename_i hn
    rcases List.mem_or_eq_of_mem_set hl with hl|hl
    ·exact hb.2.2.2 l hl
    ·have hx:=hb.2.2.2 _ (Tf hn)
     have ht:Eb d=(H8 d).left:=rfl
     simp only[Fm,Bool.and_eq_true] at hx
     have h1:=Ar hx.1;have h2:=Ar hx.2
     subst hl;simp[Fm,Ak];omega
 ·have:=h.aJ;show 0≤d.aJ+1∧d.aJ+1≤1000000001;omega
 ·have:=h.wK
  show-1≤(if d.mJ=6∨d.mJ=7∨d.mJ=8 then d.wK-1 else d.wK)∧(if d.mJ=6∨d.mJ=7∨d.mJ=8 then d.wK-1 else d.wK)≤2001
  split
  ·rename_i hm;have:=hw hm;omega
  ·exact this
theorem Fg (m:Mac) (u:Int):(Bt m u).oJ.length≤m.oJ.length+1:=by
 unfold Bt
 simp only
 split<;>simp
theorem Ti (m:Mac) (u:Int):(Bt m u).d.aJ=m.d.aJ:=rfl
theorem Nq (m:Mac) (u:Int):(Bt m u).d.wK=m.d.wK:=rfl
def Ac (j0:Nat) (j5:Nat) (j27:Nat) (x:Mac):List C:=[.own j0,.int .i64 x.d.pJ.rJ,.int .i64 x.d.pJ.dJ,.int .i64 x.d.pJ.most,.int .i64 x.d.mJ,.own j5,.int .u64 x.d.sK.bits,.int .i64 x.d.sK.hJ,.int .i64 x.d.sX,.int .i64 x.d.aJ,.int .i64 x.d.field.nJ,.int .i64 x.d.field.kind,.bool x.d.field.rep,.bool x.d.field.packed,.int .i64 x.d.field.mK,.int .i64 x.d.wJ,.int .i64 x.d.wK,.int .i64 x.d.uJ.wK,.int .i64 x.d.uJ.low,.int .i64 x.d.uJ.high,.int .i64 x.d.eJ.kind,.int .i64 x.d.eJ.field,.int .u64 x.d.eJ.bits,.int .i64 x.d.eJ.len,.str x.d.eJ.text,.int .i64 x.d.eJ.code,.int .i64 x.d.eJ.aJ,.own j27]
def Fd (p:Pln):Dcd:=if Dm p=true then ⟨p,1,[],⟨0,0⟩,0,0,⟨0,0,false,false,0⟩,0,0,⟨0,0,0⟩,⟨0,0,0,0,[],0,0⟩⟩ else ⟨⟨[],0,0,0⟩,0,[],⟨0,0⟩,0,0,⟨0,0,false,false,0⟩,0,0,⟨0,0,0⟩,⟨0,0,0,0,[],0,0⟩⟩
theorem D7 {l:List Shp} (h:Dy l=true): ∀e∈l,e.fJ.length≤1048576:=fun e he=>by have:=Ea h e he;omega
theorem Abo {m:Mac} (h1:m.d.mJ=6) (h2:m.d.wK<1) (h3:0<m.d.uJ.wK):Af m=A1 m 5 m.d.aJ:=by
 have hc:Az m=some (A1 m 5 m.d.aJ):=by unfold Az;rw[if_pos ⟨h1,h2⟩,if_pos h3]
 rw[Cs hc,B8]
 unfold Az A1 A8
 simp
theorem Xb {d:Dcd} {o:List Ev} (h2:d.mJ=2) (hs:d.sK.hJ=0) (hl:0<d.sJ.length) (ht:Eb d=0) (h1:d.sJ.length=1):Az ⟨d,o⟩=some ⟨⟨d.pJ,1,d.sJ.take (d.sJ.length-1),d.sK,d.sX,d.aJ,d.field,d.wJ,d.wK,d.uJ,d.eJ⟩,o++[Lt]⟩:=by
 unfold Az
 simp only
 rw[if_neg (by omega),if_neg (by omega),if_pos ⟨h2,hs,hl,ht⟩,if_pos h1]
theorem Xc {d:Dcd} {o:List Ev} (h2:d.mJ=2) (hs:d.sK.hJ=0) (hl:0<d.sJ.length) (ht:Eb d=0) (h1:d.sJ.length≠1):Az ⟨d,o⟩=some ⟨⟨d.pJ,d.mJ,d.sJ.take (d.sJ.length-1),d.sK,d.sX,d.aJ,d.field,d.wJ,d.wK,d.uJ,d.eJ⟩,o++[Ami]⟩:=by
 unfold Az
 simp only
 rw[if_neg (by omega),if_neg (by omega),if_pos ⟨h2,hs,hl,ht⟩,if_neg h1]
theorem Ahp {d:Dcd} {o:List Ev} {u:Int} (h:d.mJ=8) (hf:d.field≠fld0):Bt ⟨d,o⟩ u=⟨d,o++[H7 d.field u]⟩:=by
 cases d
 unfold Bt
 simp only at h hf ⊢
 rw[if_pos h,if_neg hf,h]
theorem Ahq {d:Dcd} {o:List Ev} {u:Int} (h:d.mJ=8) (hf:d.field=fld0):Bt ⟨d,o⟩ u=⟨d,o⟩:=by
 cases d
 unfold Bt
 simp only at h hf ⊢
 rw[if_pos h,if_pos hf,h]
theorem K7 {d:Dcd} (h:Bs d=true):Bk d=true∧(1≤d.mJ∧d.mJ≤9)∧(0≤d.aJ∧d.aJ≤1000000000)∧(0≤d.sX∧d.sX≤d.aJ)∧Fk d.uJ=true∧D3 d.wJ=true∧(d.field=fld0∨J2 d.pJ.sQ d.field=true)∧Y2 d=true∧J4 d=true∧Jn d=true∧Jo d=true∧J9 d=true:=by
 simp only[Bs,Bool.and_eq_true,Bool.or_eq_true,decide_eq_true_eq] at h
 obtain ⟨⟨⟨⟨⟨⟨⟨⟨⟨⟨⟨h1,h2⟩,h3⟩,h4⟩,h5⟩,h6⟩,h7⟩,h8⟩,h9⟩,h10⟩,h11⟩,h12⟩:=h
 exact⟨h1,Ar h2,Ar h3,Ar h4,h5,h6,h7,h8,h9,h10,h11,h12⟩
theorem Z8 {d:Dcd} (h:Jn d=true):((d.mJ=6∨d.mJ=7∨d.mJ=8)→1≤d.wK∧d.wK≤Eb d)∧(¬(d.mJ=6∨d.mJ=7∨d.mJ=8)→d.wK=0):=by
 unfold Jn at h
 split at h
 ·rename_i hm;exact⟨fun _=>Ar h,fun h=>absurd hm h⟩
 ·rename_i hm;exact⟨fun h=>absurd h hm,fun _=>of_decide_eq_true h⟩
theorem Z9 {d:Dcd} (h:Bs d=true) (hb:0≤d.sK.bits∧d.sK.bits≤18446744073709551615):MW d:=by
 obtain ⟨h1,h2,h3,h4,h5,h6,h7,h8,h9,h10,h11,h12⟩:=K7 h
 have ht:=Hy h1
 have hw:=Z8 h10
 refine⟨h1,h7,hb,by omega,?_⟩
 by_cases hm:d.mJ=6∨d.mJ=7∨d.mJ=8
 ·have:=hw.1 hm;omega
 ·have:=hw.2 hm;omega
theorem Aaa {d:Dcd} (h:Bs d=true) (h9:d.mJ≠9):(d.sJ.length=0∨1≤Eb d)∧d.aJ≤1000000000∧((d.mJ=6∨d.mJ=7∨d.mJ=8)→0≤d.wK)∧(d.mJ=8→U5 d.field=true)∧d.eJ=ev0:=by
 obtain ⟨h1,h2,h3,h4,h5,h6,h7,h8,hs,h10,h11,h12⟩:=K7 h
 have hw:=Z8 h10
 refine⟨?_,by omega,fun hm=>by have:=hw.1 hm;omega,fun hm=>?_,?_⟩
 ·unfold J4 at hs
  by_cases hm1:d.mJ=1
  ·rw[if_pos hm1] at hs;left;rw[of_decide_eq_true hs];rfl
  ·rw[if_neg hm1,if_neg h9] at hs;exact .inr (of_decide_eq_true hs)
 ·unfold Jo at h11
  rw[if_neg (by omega),if_pos hm] at h11
  exact h11
 ·unfold Y2 at h8
  rw[if_neg h9] at h8
  exact of_decide_eq_true h8
def Fj (d:Dcd):Bool:= !decide (d.mJ=9)&&decide (d.aJ<1000000000)
def Cr (d:Dcd) (b:Int):Mac:=if Bs d=true∧Fj d=true∧Ak b 0 255=true then Er ⟨d,[]⟩ b else ⟨d,[]⟩
theorem Am9 {f:Fld} (h:U5 f=true):f≠fld0:=fun e=>by subst e;simp[U5,fld0] at h
theorem Abp (m:Mac):(Af m).d.pJ=m.d.pJ∧(Af m).d.sJ.length≤m.d.sJ.length:=by
 suffices ∀(k:Nat) (m:Mac),wM m≤k→(Af m).d.pJ=m.d.pJ∧(Af m).d.sJ.length≤m.d.sJ.length from this _ m (Nat.le_refl _)
 intro k
 induction k with
 |zero=>
  intro m hk
  cases h:Az m with
  |none=>rw[B8 h];exact⟨rfl,Nat.le_refl _⟩
  |some q=>have:=(Cg h).1;omega
 |succ k ih=>
  intro m hk
  cases h:Az m with
  |none=>rw[B8 h];exact⟨rfl,Nat.le_refl _⟩
  |some q=>
   have h1:=Cg h
   have h2:=Kp h
   have h3:=ih q (by omega)
   rw[Cs h]
   exact⟨h3.1.trans h2.2,Nat.le_trans h3.2 h2.1⟩
structure Gr (m q:Mac):Prop where
 pJ:q.d.pJ=m.d.pJ
 sJ:q.d.sJ.length≤m.d.sJ.length+1
 oJ:q.oJ.length≤m.oJ.length+m.d.sJ.length+6
theorem Gr.fail (m:Mac) (c a:Int):Gr m (A1 m c a):=⟨rfl,Nat.le_succ _,by simp only[A1,List.length_append,List.length_cons,List.length_nil];omega⟩
theorem Gr.settle {m x:Mac} (hp:x.d.pJ=m.d.pJ) (hs:x.d.sJ.length≤m.d.sJ.length+1) (ho:x.oJ.length≤m.oJ.length+2):Gr m (Af x):=by
 have h1:=Abp x
 have h2:=Xa x
 have h3:=Agi x
 exact⟨h1.1.trans hp,by omega,by omega⟩
theorem Gr.of {m x q:Mac} (h:Gr x q) (hp:x.d.pJ=m.d.pJ) (hs:x.d.sJ.length=m.d.sJ.length) (ho:x.oJ.length=m.oJ.length):Gr m q:=⟨h.pJ.trans hp,by have:=h.sJ;omega,by have:=h.oJ;omega⟩
theorem Ahr (m:Mac) (u:Int):Gr m (C6 m u):=by
 unfold C6
 split
 ·exact Gr.fail _ _ _
 ·exact Gr.settle rfl (by simp) (by simp)
theorem Ana (m:Mac) (u:Int):Gr m (Ex m u):=by
 unfold Ex
 split
 ·exact Gr.fail _ _ _
 ·split
  ·exact Gr.fail _ _ _
  ·split
   ·exact Gr.fail _ _ _
   ·split
    ·exact(Gr.fail _ _ _).of rfl rfl rfl
    ·exact⟨rfl,Nat.le_succ _,by simp only;omega⟩
theorem Ajy (m:Mac) (u:Int):Gr m (Cw m u):=by
 unfold Cw
 split
 ·exact Gr.fail _ _ _
 ·split
  ·exact Gr.settle rfl (Nat.le_succ _) (by simp)
  ·split
   ·split
    ·exact Gr.fail _ _ _
    ·exact Gr.settle rfl (by simp) (by simp)
   ·split
    ·exact Gr.settle rfl (Nat.le_succ _) (by simp)
    ·split
     ·exact Gr.fail _ _ _
     ·exact Gr.settle rfl (Nat.le_succ _) (by simp)
theorem Anb (m:Mac) (b a:Int):Gr m (Bw m b a):=by
 unfold Bw
 split
 ·exact(Gr.fail _ _ _).of rfl rfl rfl
 ·split
  ·unfold Wz
   split
   ·exact(Gr.fail _ _ _).of rfl rfl rfl
   ·exact⟨rfl,Nat.le_succ _,by simp only;omega⟩
  ·split
   ·exact(Ahr _ _).of rfl rfl rfl
   ·split
    ·exact(Ana _ _).of rfl rfl rfl
    ·split
     ·exact(Ajy _ _).of rfl rfl rfl
     ·exact Gr.settle rfl (Nat.le_succ _) (Nat.le_trans (Fg _ _) (Nat.le_succ _))
theorem Anc (m:Mac) (b:Int):Gr m (D5 m b):=by
 unfold D5
 split
 ·exact⟨rfl,Nat.le_succ _,by simp only;omega⟩
 ·split
  ·have:=Fg ⟨Hx m.d scn0,m.oJ⟩ (B2 m.d.sK b).bits
   exact⟨rfl,Nat.le_succ _,by simp only[A1,List.length_append,List.length_cons,List.length_nil] at this ⊢;omega⟩
  ·exact Gr.settle rfl (Nat.le_succ _) (Nat.le_trans (Fg _ _) (Nat.le_succ _))
theorem Ajz (m:Mac) (b:Int):Gr m (E0 m b):=by
 unfold E0
 split
 ·split
  ·exact Gr.fail _ _ _
  ·exact Gr.settle rfl (Nat.le_succ _) (by simp)
 ·exact Gr.settle rfl (Nat.le_succ _) (by simp)
theorem Hd (d:Dcd):(Di d).sJ.length=d.sJ.length:=by unfold Di;simp only;split<;>simp
theorem Aj0 (m:Mac) (b:Int):Gr m (Er m b):=by
 unfold Er
 split
 ·exact(Ajz _ _).of rfl (Hd _) rfl
 ·split
  ·exact Gr.settle rfl (by show (Di m.d).sJ.length≤_;rw[Hd];omega) (by simp)
  ·split
   ·exact(Anc _ _).of rfl (Hd _) rfl
   ·exact(Anb _ _ _).of rfl (Hd _) rfl
theorem Aab (d:Dcd) (b:Int):Gr ⟨d,[]⟩ (Cr d b):=by
 unfold Cr
 split
 ·exact Aj0 _ _
 ·exact⟨rfl,Nat.le_succ _,by simp⟩
theorem Aff {d:Dcd} {b:Int} :(Cr d b).d.pJ=d.pJ∧(Cr d b).d.sJ.length≤d.sJ.length+1:=⟨(Aab d b).pJ,(Aab d b).sJ⟩
theorem Ahs {d:Dcd} {b:Int} :(Cr d b).oJ.length≤d.sJ.length+6:=by have:=(Aab d b).oJ;simp only[List.length_nil] at this;omega
structure Rdr where
 data:List UInt8
 aJ:Int
 script:List Rd
 next:Int
 code:Int
structure Strm where
 reader:Rdr
 dec:Dcd
 queue:List Ev
 reads:Int
def Bj (r:Rdr):Bool:=decide ((r.data.length:Int)≤4000)&&Ak r.aJ 0 (r.data.length:Int)&&decide ((r.script.length:Int)≤200)&&Ak r.next 0 (r.script.length:Int)&&(decide (r.code=0)||decide (r.code=1)||decide (20≤r.code))
theorem D8 {a:Rdr} (h:Bj a=true):(a.data.length:Int)≤4000∧0≤a.aJ∧a.aJ≤(a.data.length:Int)∧(a.script.length:Int)≤200∧0≤a.next∧a.next≤(a.script.length:Int)∧(a.code=0∨a.code=1∨20≤a.code):=by
 simp only[Bj,Ak,Bool.and_eq_true,Bool.or_eq_true,decide_eq_true_eq] at h
 omega
def Dw (n room left:Int):Int:=max (min (min n room) left) 0
theorem Tj (n room left:Int):0≤Dw n room left∧(0≤left→Dw n room left≤left)∧(1≤n→1≤room→1≤left→1≤Dw n room left):=by unfold Dw;omega
def Dp (r:Rdr) (room:Int):Rd:=if r.next<(r.script.length:Int) then r.script.getD r.next.toNat ⟨0,0⟩ else ⟨room,1⟩
def Qg (r:Rdr):Int:=if r.next<(r.script.length:Int) then r.next+1 else r.next
def rsN (r:Rdr) (room:Int):Int:=Dw (Dp r room).n room ((r.data.length:Int)-r.aJ)
def Tk (r:Rdr) (room:Int):Int:=if 20≤(Dp r room).code then (Dp r room).code else if (Dp r room).code=1∧r.aJ+rsN r room=(r.data.length:Int) then 1 else r.code
def Abq (r:Rdr) (room:Int):Bool:= !Bj r||decide (room<1)|| !decide (r.code=0)
def A9 (r:Rdr) (room:Int):Rdr:=if Abq r room then r else ⟨r.data,r.aJ+rsN r room,r.script,Qg r,Tk r room⟩
def A5 (r:Rdr) (room:Int):List UInt8:=if Abq r room then [] else List.drop r.aJ.toNat (List.take (r.aJ+rsN r room).toNat r.data)
def B9 (r:Rdr) (room:Int):Int:=if !Bj r||decide (room<1) then 1 else if !decide (r.code=0) then r.code else Tk r room
def Aox:Rdr:=⟨[],0,[],0,0⟩
def Lu (data:List UInt8) (script:List Rd):Rdr:=if Bj ⟨data,0,script,0,0⟩=true then ⟨data,0,script,0,0⟩ else ⟨[],0,[],0,0⟩
def Nr (data:List UInt8) (script:List Rd):Bool:=Bj ⟨data,0,script,0,0⟩
def Apy:Dcd:=⟨⟨[],0,0,0⟩,0,[],⟨0,0⟩,0,0,⟨0,0,false,false,0⟩,0,0,⟨0,0,0⟩,⟨0,0,0,0,[],0,0⟩⟩
def K8 (p:Pln) (data:List UInt8) (script:List Rd):Bool:=Nr data script&&Dm p
def Fq (p:Pln) (data:List UInt8) (script:List Rd):Strm:=if K8 p data script=true then ⟨Lu data script,Fd p,[],0⟩ else ⟨Aox,Apy,[],0⟩
def Yh (x:Rdr):List C:=[.str x.data,.int .i64 x.aJ,.seq .rd x.script,.int .i64 x.next,.int .i64 x.code]
def Gw (x:Strm):List C:=[.str x.reader.data,.int .i64 x.reader.aJ,.seq .rd x.reader.script,.int .i64 x.reader.next,.int .i64 x.reader.code,.seq .shp x.dec.pJ.sQ,.int .i64 x.dec.pJ.rJ,.int .i64 x.dec.pJ.dJ,.int .i64 x.dec.pJ.most,.int .i64 x.dec.mJ,.seq .lev x.dec.sJ,.int .u64 x.dec.sK.bits,.int .i64 x.dec.sK.hJ,.int .i64 x.dec.sX,.int .i64 x.dec.aJ,.int .i64 x.dec.field.nJ,.int .i64 x.dec.field.kind,.bool x.dec.field.rep,.bool x.dec.field.packed,.int .i64 x.dec.field.mK,.int .i64 x.dec.wJ,.int .i64 x.dec.wK,.int .i64 x.dec.uJ.wK,.int .i64 x.dec.uJ.low,.int .i64 x.dec.uJ.high,.int .i64 x.dec.eJ.kind,.int .i64 x.dec.eJ.field,.int .u64 x.dec.eJ.bits,.int .i64 x.dec.eJ.len,.str x.dec.eJ.text,.int .i64 x.dec.eJ.code,.int .i64 x.dec.eJ.aJ,.seq .ev x.queue,.int .i64 x.reads]
def E4 (j2:Nat) (x:Rdr):List C:=[.str x.data,.int .i64 x.aJ,.own j2,.int .i64 x.next,.int .i64 x.code]
def Bv (j2:Nat) (j5:Nat) (j10:Nat) (x:Strm):List C:=[.str x.reader.data,.int .i64 x.reader.aJ,.own j2,.int .i64 x.reader.next,.int .i64 x.reader.code,.own j5,.int .i64 x.dec.pJ.rJ,.int .i64 x.dec.pJ.dJ,.int .i64 x.dec.pJ.most,.int .i64 x.dec.mJ,.own j10,.int .u64 x.dec.sK.bits,.int .i64 x.dec.sK.hJ,.int .i64 x.dec.sX,.int .i64 x.dec.aJ,.int .i64 x.dec.field.nJ,.int .i64 x.dec.field.kind,.bool x.dec.field.rep,.bool x.dec.field.packed,.int .i64 x.dec.field.mK,.int .i64 x.dec.wJ,.int .i64 x.dec.wK,.int .i64 x.dec.uJ.wK,.int .i64 x.dec.uJ.low,.int .i64 x.dec.uJ.high,.int .i64 x.dec.eJ.kind,.int .i64 x.dec.eJ.field,.int .u64 x.dec.eJ.bits,.int .i64 x.dec.eJ.len,.str x.dec.eJ.text,.int .i64 x.dec.eJ.code,.int .i64 x.dec.eJ.aJ,.seq .ev x.queue,.int .i64 x.reads]
def Au (j2:Nat) (j5:Nat) (j10:Nat) (j32:Nat) (x:Strm):List C:=[.str x.reader.data,.int .i64 x.reader.aJ,.own j2,.int .i64 x.reader.next,.int .i64 x.reader.code,.own j5,.int .i64 x.dec.pJ.rJ,.int .i64 x.dec.pJ.dJ,.int .i64 x.dec.pJ.most,.int .i64 x.dec.mJ,.own j10,.int .u64 x.dec.sK.bits,.int .i64 x.dec.sK.hJ,.int .i64 x.dec.sX,.int .i64 x.dec.aJ,.int .i64 x.dec.field.nJ,.int .i64 x.dec.field.kind,.bool x.dec.field.rep,.bool x.dec.field.packed,.int .i64 x.dec.field.mK,.int .i64 x.dec.wJ,.int .i64 x.dec.wK,.int .i64 x.dec.uJ.wK,.int .i64 x.dec.uJ.low,.int .i64 x.dec.uJ.high,.int .i64 x.dec.eJ.kind,.int .i64 x.dec.eJ.field,.int .u64 x.dec.eJ.bits,.int .i64 x.dec.eJ.len,.str x.dec.eJ.text,.int .i64 x.dec.eJ.code,.int .i64 x.dec.eJ.aJ,.own j32,.int .i64 x.reads]
theorem Cj (n:Int) (lo:Int) (hi:Int):Fun Tryz.prog 97 [vI n,vI lo,vI hi] [] (.v (vB (Ak n lo hi))) []:=by
 have hN:A7=274877906944:=rfl
 refine Ap Tryz.func97 Q4 Q4 (w:=(.br (.lJ () []) (.lJ () []),Bc (decide (lo≤n)) (Lf (.v (vB (decide (n≤hi)))) (.v (vB (Ak n lo hi))) [] []) (Lf (.v (vB false)) (.v (vB (Ak n lo hi))) [] []))) Q4 ?_
 refine dsp (fun h1 p1=>?_) fun h1 p1=>?_
 exact⟨(congrArg S.v (congrArg V.c (congrArg C.bool (by simp[Ak, *])))),rfl⟩
 exact⟨(congrArg S.v (congrArg V.c (congrArg C.bool (by simp[Ak, *])))),rfl⟩
theorem Bf (n:Int) (lo:Int) (hi:Int):Fun Tryz.prog 44 [vI n,vI lo,vI hi] [] (.v (vB (Ak n lo hi))) []:=by
 have hN:A7=274877906944:=rfl
 refine Ap Tryz.func44 Q4 Q4 (w:=(.br (.lJ () []) (.lJ () []),Bc (decide (lo≤n)) (Lf (.v (vB (decide (n≤hi)))) (.v (vB (Ak n lo hi))) [] []) (Lf (.v (vB false)) (.v (vB (Ak n lo hi))) [] []))) Q4 ?_
 refine dsp (fun h1 p1=>?_) fun h1 p1=>?_
 exact⟨(congrArg S.v (congrArg V.c (congrArg C.bool (by simp[Ak, *])))),rfl⟩
 exact⟨(congrArg S.v (congrArg V.c (congrArg C.bool (by simp[Ak, *])))),rfl⟩
theorem Aj1 (a:Int) (b:Int):Fun Tryz.prog 83 [vI a,vI b] [] (.v (vI (min a b))) []:=by
 have hN:A7=274877906944:=rfl
 refine Ap Tryz.func83 Q4 Q4 (w:=(.br (.lJ () []) (.lJ () []),Bc (decide (a<b)) (Lf (.v (vI a)) (.v (vI (min a b))) [] []) (Lf (.v (vI b)) (.v (vI (min a b))) [] []))) Q4 ?_
 refine dsp (fun h1 p1=>?_) fun h1 p1=>?_
 exact⟨(congrArg S.v (congrArg V.c (congrArg (C.int .i64) Q2))),rfl⟩
 exact⟨(congrArg S.v (congrArg V.c (congrArg (C.int .i64) Q2))),rfl⟩
theorem G7 (a:Int) (b:Int):Fun Tryz.prog 84 [vI a,vI b] [] (.v (vI (max a b))) []:=by
 have hN:A7=274877906944:=rfl
 refine Ap Tryz.func84 Q4 Q4 (w:=(.br (.lJ () []) (.lJ () []),Bc (decide (b<a)) (Lf (.v (vI a)) (.v (vI (max a b))) [] []) (Lf (.v (vI b)) (.v (vI (max a b))) [] []))) Q4 ?_
 refine dsp (fun h1 p1=>?_) fun h1 p1=>?_
 exact⟨(congrArg S.v (congrArg V.c (congrArg (C.int .i64) Q2))),rfl⟩
 exact⟨(congrArg S.v (congrArg V.c (congrArg (C.int .i64) Q2))),rfl⟩
theorem Afg (n:Int):Fun Tryz.prog 207 [vI n] [] (.v (vB (Dr n))) []:=by
 have hN:A7=274877906944:=rfl
 refine Ap Tryz.func207 Q4 Q4 (w:=let z1:=Ak n 1 536870911;let z2:=Ak n 19000 19999;(.sZ [.call [] (.v (vB z1)) []] (.br (.sZ [.call [] (.v (vB z2)) []] (.lJ () [])) (.lJ () [])),(Fp 97 [vI n,vI 1,vI 536870911] [] (.v (vB z1)) [])∧Bc z1 ((Fp 97 [vI n,vI 19000,vI 19999] [] (.v (vB z2)) [])∧Lf (.v (vB (!z2))) (.v (vB (Dr n))) [] []) (Lf (.v (vB false)) (.v (vB (Dr n))) [] []))) Q4 ?_
 refine⟨(Cj _ _ _),fun h1=>have p1:=Ar h1;?_,fun h1=>have p1:=Ay h1;?_⟩
 exact⟨(Cj _ _ _),(congrArg S.v (congrArg V.c (congrArg C.bool (by simp[Dr, *])))),rfl⟩
 exact⟨(congrArg S.v (congrArg V.c (congrArg C.bool (by simp[Dr, *])))),rfl⟩
theorem Y4 (n:Int):Fun Tryz.prog 156 [vI n] [] (.v (vB (Dr n))) []:=by
 have hN:A7=274877906944:=rfl
 refine Ap Tryz.func156 Q4 Q4 (w:=let z1:=Ak n 1 536870911;let z2:=Ak n 19000 19999;(.sZ [.call [] (.v (vB z1)) []] (.br (.sZ [.call [] (.v (vB z2)) []] (.lJ () [])) (.lJ () [])),(Fp 44 [vI n,vI 1,vI 536870911] [] (.v (vB z1)) [])∧Bc z1 ((Fp 44 [vI n,vI 19000,vI 19999] [] (.v (vB z2)) [])∧Lf (.v (vB (!z2))) (.v (vB (Dr n))) [] []) (Lf (.v (vB false)) (.v (vB (Dr n))) [] []))) Q4 ?_
 refine⟨(Bf _ _ _),fun h1=>have p1:=Ar h1;?_,fun h1=>have p1:=Ay h1;?_⟩
 exact⟨(Bf _ _ _),(congrArg S.v (congrArg V.c (congrArg C.bool (by simp[Dr, *])))),rfl⟩
 exact⟨(congrArg S.v (congrArg V.c (congrArg C.bool (by simp[Dr, *])))),rfl⟩
theorem Aea (w:Int):Fun Tryz.prog 104 [vI w] [] (.v (vB (D3 w))) []:=by
 have hN:A7=274877906944:=rfl
 refine Ap Tryz.func104 Q4 Q4 (w:=let z1:=Lf (.v (vB true)) (.v (vB (D3 w))) [] [];(.br (.lJ () []) (.br (.lJ () []) (.br (.lJ () []) (.lJ () []))),Bc (decide (w=0)) z1 (Bc (decide (w=1)) z1 (Bc (decide (w=2)) z1 (Lf (.v (vB (decide (w=5)))) (.v (vB (D3 w))) [] []))))) Q4 ?_
 refine dsp (fun h1 p1=>?_) fun h1 p1=>?_
 exact⟨(congrArg S.v (congrArg V.c (congrArg C.bool Q81))),rfl⟩
 refine dsp (fun h2 p2=>?_) fun h2 p2=>?_
 exact⟨(congrArg S.v (congrArg V.c (congrArg C.bool Q81))),rfl⟩
 refine dsp (fun h3 p3=>?_) fun h3 p3=>?_
 exact⟨(congrArg S.v (congrArg V.c (congrArg C.bool Q81))),rfl⟩
 exact⟨(congrArg S.v (congrArg V.c (congrArg C.bool Q81))),rfl⟩
theorem Aeb (w:Int):Fun Tryz.prog 122 [vI w] [] (.v (vB (D3 w))) []:=by
 have hN:A7=274877906944:=rfl
 refine Ap Tryz.func122 Q4 Q4 (w:=let z1:=Lf (.v (vB true)) (.v (vB (D3 w))) [] [];(.br (.lJ () []) (.br (.lJ () []) (.br (.lJ () []) (.lJ () []))),Bc (decide (w=0)) z1 (Bc (decide (w=1)) z1 (Bc (decide (w=2)) z1 (Lf (.v (vB (decide (w=5)))) (.v (vB (D3 w))) [] []))))) Q4 ?_
 refine dsp (fun h1 p1=>?_) fun h1 p1=>?_
 exact⟨(congrArg S.v (congrArg V.c (congrArg C.bool Q81))),rfl⟩
 refine dsp (fun h2 p2=>?_) fun h2 p2=>?_
 exact⟨(congrArg S.v (congrArg V.c (congrArg C.bool Q81))),rfl⟩
 refine dsp (fun h3 p3=>?_) fun h3 p3=>?_
 exact⟨(congrArg S.v (congrArg V.c (congrArg C.bool Q81))),rfl⟩
 exact⟨(congrArg S.v (congrArg V.c (congrArg C.bool Q81))),rfl⟩
theorem Aec (k:Int):Fun Tryz.prog 208 [vI k] [] (.v (vB (Ez k))) []:=by
 have hN:A7=274877906944:=rfl
 refine Ap Tryz.func208 Q4 Q4 (w:=let z1:S:= .v (vB (Ak k 1 8));(.sZ [.call [] z1 []] (.lJ () []),(Fp 97 [vI k,vI 1,vI 8] [] z1 [])∧Lf z1 (.v (vB (Ez k))) [] [])) Q4 ?_
 exact⟨(Cj _ _ _),(congrArg S.v (congrArg V.c (congrArg C.bool (by rfl)))),rfl⟩
theorem Vu (k:Int):Fun Tryz.prog 157 [vI k] [] (.v (vB (Ez k))) []:=by
 have hN:A7=274877906944:=rfl
 refine Ap Tryz.func157 Q4 Q4 (w:=let z1:S:= .v (vB (Ak k 1 8));(.sZ [.call [] z1 []] (.lJ () []),(Fp 44 [vI k,vI 1,vI 8] [] z1 [])∧Lf z1 (.v (vB (Ez k))) [] [])) Q4 ?_
 exact⟨(Bf _ _ _),(congrArg S.v (congrArg V.c (congrArg C.bool (by rfl)))),rfl⟩
theorem Abr (k:Int):Fun Tryz.prog 209 [vI k] [] (.v (vB (Dj k))) []:=by
 have hN:A7=274877906944:=rfl
 refine Ap Tryz.func209 Q4 Q4 (w:=let z1:S:= .v (vB (Ak k 1 5));(.sZ [.call [] z1 []] (.lJ () []),(Fp 97 [vI k,vI 1,vI 5] [] z1 [])∧Lf z1 (.v (vB (Dj k))) [] [])) Q4 ?_
 exact⟨(Cj _ _ _),(congrArg S.v (congrArg V.c (congrArg C.bool (by rfl)))),rfl⟩
theorem Mw (k:Int):Fun Tryz.prog 158 [vI k] [] (.v (vB (Dj k))) []:=by
 have hN:A7=274877906944:=rfl
 refine Ap Tryz.func158 Q4 Q4 (w:=let z1:S:= .v (vB (Ak k 1 5));(.sZ [.call [] z1 []] (.lJ () []),(Fp 44 [vI k,vI 1,vI 5] [] z1 [])∧Lf z1 (.v (vB (Dj k))) [] [])) Q4 ?_
 exact⟨(Bf _ _ _),(congrArg S.v (congrArg V.c (congrArg C.bool (by rfl)))),rfl⟩
theorem Aac (k:Int):Fun Tryz.prog 181 [vI k] [] (.v (vI (Ci k))) []:=by
 have hN:A7=274877906944:=rfl
 refine Ap Tryz.func181 Q4 Q4 (w:=let zi:Int→C:= .int .i64;let z1:=List.getD [0,0,0,5,1,2,2,2] (Int.toNat (k-1)) 0;(.sZ [.call [] (.v (vB (Ez k))) []] (.br (.lJ () []) (.sZ [.as 8 (.v (vI (k-1))),.ce (zi z1)] (.lJ () []))),(Fp 208 [vI k] [] (.v (vB (Ez k))) [])∧Bc (!(Ez k)) (Lf (.v (vI (-1))) (.v (vI (Ci k))) [] []) ((wI (k-1))∧((([zi 0,zi 0,zi 0,zi 5,zi 1,zi 2,zi 2,zi 2]:List C)[Int.toNat (k-1)]?)=some (zi z1))∧(k-1<((8:Nat):Int))∧((0:Int)≤k-1)∧Lf (.v (vI z1)) (.v (vI (Ci k))) [] []))) Q4 ?_
 refine⟨(Aec _),fun h1=>have q1:=An h1;have p1:=Ay q1;?_,fun h1=>have q1:=Am h1;have p1:=Ar q1;?_⟩
 exact⟨(sI W0),rfl⟩
 exact⟨(Ad Q2 Q2),(Aop (l:=[0,0,0,5,1,2,2,2]) (by simp;omega)),Q2,Q2,(sI W0),rfl⟩
theorem Re (k:Int):Fun Tryz.prog 131 [vI k] [] (.v (vI (Ci k))) []:=by
 have hN:A7=274877906944:=rfl
 refine Ap Tryz.func131 Q4 Q4 (w:=let z1:S:= .v (vI (Ci k));(.sZ [.call [] (.v (vB (Ez k))) []] (.br (.lJ () []) (.br (.lJ () []) (.br (.lJ () []) (.sZ [.call [] (.v (vB (Dj k))) []] (.br (.lJ () []) (.lJ () [])))))),(Fp 157 [vI k] [] (.v (vB (Ez k))) [])∧Bc (!(Ez k)) (Lf (.v (vI (-1))) z1 [] []) (Bc (decide (k=4)) (Lf (.v (vI 5)) z1 [] []) (Bc (decide (k=5)) (Lf (.v (vI 1)) z1 [] []) ((Fp 158 [vI k] [] (.v (vB (Dj k))) [])∧Bc (Dj k) (Lf (.v (vI 0)) z1 [] []) (Lf (.v (vI 2)) z1 [] [])))))) Q4 ?_
 refine⟨(Vu _),fun h1=>have q1:=An h1;have p1:=Ay q1;?_,fun h1=>have q1:=Am h1;have p1:=Ar q1;?_⟩
 exact⟨(sI W1),rfl⟩
 refine dsp (fun h2 p2=>?_) fun h2 p2=>?_
 exact⟨(sI W1),rfl⟩
 refine dsp (fun h3 p3=>?_) fun h3 p3=>?_
 exact⟨(sI W1),rfl⟩
 refine⟨(Mw _),fun h4=>have p4:=Ar h4;?_,fun h4=>have p4:=Ay h4;?_⟩
 exact⟨(sI W1),rfl⟩
 exact⟨(sI W1),rfl⟩
theorem Fr (w:Int):Fun Tryz.prog 171 [vI w] [] (.v (vI (A3 w))) []:=by
 have hN:A7=274877906944:=rfl
 refine Ap Tryz.func171 Q4 Q4 (w:=let z1:S:= .v (vI (A3 w));(.br (.lJ () []) (.br (.lJ () []) (.lJ () [])),Bc (decide (w=1)) (Lf (.v (vI 8)) z1 [] []) (Bc (decide (w=5)) (Lf (.v (vI 4)) z1 [] []) (Lf (.v (vI 0)) z1 [] [])))) Q4 ?_
 refine dsp (fun h1 p1=>?_) fun h1 p1=>?_
 exact⟨(congrArg S.v (congrArg V.c (congrArg (C.int .i64) (by simp[A3, *])))),rfl⟩
 refine dsp (fun h2 p2=>?_) fun h2 p2=>?_
 exact⟨(congrArg S.v (congrArg V.c (congrArg (C.int .i64) (by simp[A3, *])))),rfl⟩
 exact⟨(congrArg S.v (congrArg V.c (congrArg (C.int .i64) (by simp[A3, *])))),rfl⟩
theorem Ec (w:Int):Fun Tryz.prog 127 [vI w] [] (.v (vI (A3 w))) []:=by
 have hN:A7=274877906944:=rfl
 refine Ap Tryz.func127 Q4 Q4 (w:=let z1:S:= .v (vI (A3 w));(.br (.lJ () []) (.br (.lJ () []) (.lJ () [])),Bc (decide (w=1)) (Lf (.v (vI 8)) z1 [] []) (Bc (decide (w=5)) (Lf (.v (vI 4)) z1 [] []) (Lf (.v (vI 0)) z1 [] [])))) Q4 ?_
 refine dsp (fun h1 p1=>?_) fun h1 p1=>?_
 exact⟨(congrArg S.v (congrArg V.c (congrArg (C.int .i64) (by simp[A3, *])))),rfl⟩
 refine dsp (fun h2 p2=>?_) fun h2 p2=>?_
 exact⟨(congrArg S.v (congrArg V.c (congrArg (C.int .i64) (by simp[A3, *])))),rfl⟩
 exact⟨(congrArg S.v (congrArg V.c (congrArg (C.int .i64) (by simp[A3, *])))),rfl⟩
theorem Aht (f:Fld):Fun Tryz.prog 169 [.agg (Gc f)] [] (.v (vB (U5 f))) []:=by
 have hN:A7=274877906944:=rfl
 refine Ap Tryz.func169 Q4 Q4 (w:=let z1:S:= .v (vB (Dj f.kind));(.br (.sZ [.call [] z1 []] (.lJ () [])) (.lJ () []),Bc f.rep ((Fp 209 [vI f.kind] [] z1 [])∧Lf z1 (.v (vB (U5 f))) [] []) (Lf (.v (vB false)) (.v (vB (U5 f))) [] []))) Q4 ?_
 refine⟨fun h1=>?_,fun h1=>?_⟩
 exact⟨(Abr _),(congrArg S.v (congrArg V.c (congrArg C.bool (by simp[U5, *])))),rfl⟩
 exact⟨(congrArg S.v (congrArg V.c (congrArg C.bool (by simp[U5, *])))),rfl⟩
theorem Xd (f:Fld):Fun Tryz.prog 129 [.agg (Gc f)] [] (.v (vB (U5 f))) []:=by
 have hN:A7=274877906944:=rfl
 refine Ap Tryz.func129 Q4 Q4 (w:=let z1:S:= .v (vB (Dj f.kind));(.br (.sZ [.call [] z1 []] (.lJ () [])) (.lJ () []),Bc f.rep ((Fp 158 [vI f.kind] [] z1 [])∧Lf z1 (.v (vB (U5 f))) [] []) (Lf (.v (vB false)) (.v (vB (U5 f))) [] []))) Q4 ?_
 refine⟨fun h1=>?_,fun h1=>?_⟩
 exact⟨(Mw _),(congrArg S.v (congrArg V.c (congrArg C.bool (by simp[U5, *])))),rfl⟩
 exact⟨(congrArg S.v (congrArg V.c (congrArg C.bool (by simp[U5, *])))),rfl⟩
theorem K9 (f:Fld) (w:Int) (hp1:(0:Int)≤w):Fun Tryz.prog 170 [.agg (Gc f),vI w] [] (.v (vB (Dx f w))) []:=by
 have hN:A7=274877906944:=rfl
 refine Ap Tryz.func170 Q4 Q4 (w:=let z1:S:= .v (vB (Dx f w));let z2:S:= .v (vB (U5 f));(.sZ [.call [] (.v (vI (Ci f.kind))) []] (.br (.lJ () []) (.br (.sZ [.call [] z2 []] (.lJ () [])) (.lJ () []))),(Fp 181 [vI f.kind] [] (.v (vI (Ci f.kind))) [])∧Bc (decide (w=Ci f.kind)) (Lf (.v (vB true)) z1 [] []) (Bc (decide (w=2)) ((Fp 169 [.agg (Gc f)] [] z2 [])∧Lf z2 z1 [] []) (Lf (.v (vB false)) z1 [] [])))) Q4 ?_
 refine⟨(Aac _),dsp (fun h1 p1=>?_) fun h1 p1=>?_⟩
 exact⟨(sB W2),rfl⟩
 refine dsp (fun h2 p2=>?_) fun h2 p2=>?_
 exact⟨(Aht f),(sB W2),rfl⟩
 exact⟨(sB W2),rfl⟩
theorem Abs (f:Fld) (w:Int) (hp1:(0:Int)≤w):Fun Tryz.prog 128 [.agg (Gc f),vI w] [] (.v (vB (Dx f w))) []:=by
 have hN:A7=274877906944:=rfl
 refine Ap Tryz.func128 Q4 Q4 (w:=let z1:S:= .v (vB (Dx f w));let z2:S:= .v (vB (U5 f));(.sZ [.call [] (.v (vB (Ez f.kind))) []] (.br (.sZ [.call [] (.v (vI (Ci f.kind))) []] (.br (.lJ () []) (.br (.sZ [.call [] z2 []] (.lJ () [])) (.lJ () [])))) (.br (.sZ [.call [] z2 []] (.lJ () [])) (.lJ () []))),(Fp 157 [vI f.kind] [] (.v (vB (Ez f.kind))) [])∧Bc (Ez f.kind) ((Fp 131 [vI f.kind] [] (.v (vI (Ci f.kind))) [])∧Bc (decide (w=Ci f.kind)) (Lf (.v (vB true)) z1 [] []) (Bc (decide (w=2)) ((Fp 129 [.agg (Gc f)] [] z2 [])∧Lf z2 z1 [] []) (Lf (.v (vB false)) z1 [] []))) (Bc (decide (w=2)) ((Fp 129 [.agg (Gc f)] [] z2 [])∧Lf z2 z1 [] []) (Lf (.v (vB false)) z1 [] [])))) Q4 ?_
 refine⟨(Vu _),fun h1=>have p1:=Ar h1;?_,fun h1=>have p1:=Ay h1;?_⟩
 refine⟨(Re _),dsp (fun h2 p2=>?_) fun h2 p2=>?_⟩
 exact⟨(sB W2),rfl⟩
 refine dsp (fun h3 p3=>?_) fun h3 p3=>?_
 exact⟨(Xd f),(sB W2),rfl⟩
 exact⟨(sB W2),rfl⟩
 refine dsp (fun h2 p2=>?_) fun h2 p2=>?_
 exact⟨(Xd f),(sB W2),rfl⟩
 exact⟨(sB W2),rfl⟩
theorem Ane (l:List Rd) (hp1:l.length≤A7):Fun Tryz.prog 143 [.c (.seq .rd l)] [] (.v (vO 0)) [.lst .rd l]:=by
 refine⟨Gs Tryz.func143 Q4 Q4,?_⟩
 have key:Sm Tryz.prog 8 0 (Abg Tryz.f143 1) [(2,.v (.c .nil)),(0,.v (.c (.seq .rd l)))] [] .ret [(2,.v (.c (.own 0)))] [.lst .rd l]:=by
  refine Sm.nilTest' (s:=0) (t3:=3) (t4:=4) (t:= .rd) (l:=l) rfl rfl rfl rfl rfl rfl rfl Tryz.underlying66 Q4 rfl rfl rfl fun p hp=>?_
  cases p with
  |true=>
   have hl:=hp rfl
   subst hl
   exact .inr ⟨by decide,Dt (ds:=[.br true,.at 0,.mkS 2 .rd,.keep [2],.sel [0]]) (ob:=[true=true]) Q4 ⟨rfl,trivial⟩⟩
  |false=>
   exact .inl ⟨[(0,.v (.c (.seq .rd l)))],[],Dt (ds:=[.br false,.at 0,.keep [0],.sel []]) (ob:=[false=false]) Q4 ⟨rfl,trivial⟩,
    (Dt (tm':=[(2,.v (.c (.own 0)))]) (H':=[.lst .rd ([]++l)]) (ds:=[.ty .rd,.ty .rd,.at 0,.keep [2],.sel [1]]) (ob:=[List.length ([]:List Rd)+l.length≤A7]) (by kernel_rfl) ⟨by simpa using hp1,trivial⟩).to (by rfl) (by rfl)⟩
 exact Rb Tryz.func143 (res:= .v (.c (.own 0))) (L':=[.lst .rd l]) (ds:=[.jump 1 .ret [(2,.v (.c (.own 0)))] [.lst .rd l]]) (σ:=[0]) (ob:=[Sm Tryz.prog 8 0 (Abg Tryz.f143 1) [(2,.v (.c .nil)),(0,.v (.c (.seq .rd l)))] [] .ret [(2,.v (.c (.own 0)))] [.lst .rd l]]) Q4 ⟨key,trivial⟩
theorem Y5 (r:Rdr) (hp1:List.length (r).data≤A7) (hp2:List.length (r).script≤A7):Fun Tryz.prog 76 [.agg (Yh r)] [] (.v (vB (Bj r))) []:=by
 have hN:A7=274877906944:=rfl
 refine Ap Tryz.func76 Q4 Q4 (w:=let z2:=((r.script.length:Nat):Int);let z3:=((r.data.length:Nat):Int);let z4:S:= .v (vB (Bj r));let z1:=Lf (.v (vB false)) z4 [] [];let z5:=Ak r.next 0 z2;let z6:=Ak r.aJ 0 z3;(.br (.sZ [.call [] (.v (vB z6)) []] (.br (.br (.sZ [.call [] (.v (vB z5)) []] (.br (.br (.lJ () []) (.br (.lJ () []) (.lJ () []))) (.lJ () []))) (.lJ () [])) (.lJ () []))) (.lJ () []),Bc (decide (z3≤4000)) ((Fp 97 [vI r.aJ,vI 0,vI z3] [] (.v (vB z6)) [])∧Bc z6 (Bc (decide (z2≤200)) ((Fp 97 [vI r.next,vI 0,vI z2] [] (.v (vB z5)) [])∧Bc z5 (Bc (decide (r.code=0)) (Lf (.v (vB true)) z4 [] []) (Bc (decide (r.code=1)) (Lf (.v (vB true)) z4 [] []) (Lf (.v (vB (decide (20≤r.code)))) z4 [] []))) z1) z1) z1) z1)) Q4 ?_
 refine dsp (fun h1 p1=>?_) fun h1 p1=>?_
 refine⟨(Cj _ _ _),fun h2=>have p2:=Ar h2;?_,fun h2=>have p2:=Ay h2;?_⟩
 refine dsp (fun h3 p3=>?_) fun h3 p3=>?_
 refine⟨(Cj _ _ _),fun h4=>have p4:=Ar h4;?_,fun h4=>have p4:=Ay h4;?_⟩
 refine dsp (fun h5 p5=>?_) fun h5 p5=>?_
 exact⟨(sB W3),rfl⟩
 refine dsp (fun h6 p6=>?_) fun h6 p6=>?_
 exact⟨(sB W3),rfl⟩
 exact⟨(sB W3),rfl⟩
 exact⟨(sB W3),rfl⟩
 exact⟨(sB W3),rfl⟩
 exact⟨(sB W3),rfl⟩
 exact⟨(sB W3),rfl⟩
theorem Uf (r:Rdr) (hp1:List.length (r).data≤A7) (hp2:List.length (r).script≤A7):Fun Tryz.prog 75 [.agg (Yh r)] [] (.v (vB (Bj r))) []:=by
 have hN:A7=274877906944:=rfl
 refine Ap Tryz.func75 Q4 Q4 (w:=let z2:=((r.script.length:Nat):Int);let z3:=((r.data.length:Nat):Int);let z4:S:= .v (vB (Bj r));let z1:=Lf (.v (vB false)) z4 [] [];let z5:=Ak r.next 0 z2;let z6:=Ak r.aJ 0 z3;(.br (.lJ () []) (.sZ [.call [] (.v (vB z6)) []] (.br (.lJ () []) (.br (.lJ () []) (.sZ [.call [] (.v (vB z5)) []] (.br (.lJ () []) (.br (.lJ () []) (.br (.lJ () []) (.lJ () [])))))))),Bc (decide (4000<z3)) z1 ((Fp 44 [vI r.aJ,vI 0,vI z3] [] (.v (vB z6)) [])∧Bc (!z6) z1 (Bc (decide (200<z2)) z1 ((Fp 44 [vI r.next,vI 0,vI z2] [] (.v (vB z5)) [])∧Bc (!z5) z1 (Bc (decide (r.code=0)) (Lf (.v (vB true)) z4 [] []) (Bc (decide (r.code=1)) (Lf (.v (vB true)) z4 [] []) (Lf (.v (vB (decide (20≤r.code)))) z4 [] [])))))))) Q4 ?_
 refine dsp (fun h1 p1=>?_) fun h1 p1=>?_
 exact⟨(sB W3),rfl⟩
 refine⟨(Bf _ _ _),fun h2=>have q2:=An h2;have p2:=Ay q2;?_,fun h2=>have q2:=Am h2;have p2:=Ar q2;?_⟩
 exact⟨(sB W3),rfl⟩
 refine dsp (fun h3 p3=>?_) fun h3 p3=>?_
 exact⟨(sB W3),rfl⟩
 refine⟨(Bf _ _ _),fun h4=>have q4:=An h4;have p4:=Ay q4;?_,fun h4=>have q4:=Am h4;have p4:=Ar q4;?_⟩
 exact⟨(sB W3),rfl⟩
 refine dsp (fun h5 p5=>?_) fun h5 p5=>?_
 exact⟨(sB W3),rfl⟩
 refine dsp (fun h6 p6=>?_) fun h6 p6=>?_
 exact⟨(sB W3),rfl⟩
 exact⟨(sB W3),rfl⟩
theorem U9 {r:Rdr} {room:Int} {x:Rd} (h:r.next<(r.script.length:Int)) (hx:r.script[r.next.toNat]? =some x):Dp r room=x:=by
 simp[Dp,h,List.getD,hx]
theorem Va {r:Rdr} {room:Int} (h: ¬r.next<(r.script.length:Int)):Dp r room=⟨room,1⟩:=by
 simp[Dp,h]
theorem Qh (r:Rdr) (hp1:List.length (r).script≤A7):Fun Tryz.prog 70 [.agg (Yh r)] [] (.v (.agg (E4 0 r))) [.lst .rd r.script]:=by
 have hN:A7=274877906944:=rfl
 refine Ap Tryz.func70 Q4 Q4 (w:=let z1:List Blk:=[.lst .rd r.script];(.sZ [.call [] (.v (vO 0)) z1] (.lJ () [2]),(Fp 143 [.c (.seq .rd r.script)] [] (.v (vO 0)) z1)∧Lf (.v (.agg (E4 0 r))) (.v (.agg (E4 0 r))) z1 z1)) Q4 ?_
 exact⟨(Ane r.script Q2),rfl,rfl⟩
theorem Xe (r:Rdr) (hp1:List.length (r).script≤A7):Fun Tryz.prog 145 [.agg (Yh r)] [] (.v (.agg (E4 0 r))) [.lst .rd r.script]:=by
 have hN:A7=274877906944:=rfl
 refine Ap Tryz.func145 Q4 Q4 (w:=(.sZ [.ty .rd,.ty .rd] (.lJ () [3]),(List.length ([]:List Rd)+r.script.length≤A7)∧Lf (.v (.agg (E4 0 r))) (.v (.agg (E4 0 r))) [.lst .rd (([]:List Rd)++r.script)] [.lst .rd r.script])) Q4 ?_
 refine⟨Q5,?_⟩
 have hm1:r=(⟨r.data,r.aJ,([]:List Rd)++r.script,r.next,r.code⟩:Rdr):=by rfl
 exact⟨Q6,Q6⟩
theorem Afh (r:Rdr) (room:Int) (hp1:List.length (r).script≤A7) (hp2:List.length (r).data≤A7):Fun Tryz.prog 194 [.agg (Yh r),vI room] [] (.tup [.agg (E4 0 (A9 r room)),vT (A5 r room),vI (B9 r room)]) [.lst .rd (A9 r room).script]:=by
 have hN:A7=274877906944:=rfl
 refine Ap Tryz.func194 Q4 Q4 (w:=let zi:Int→C:= .int .i64;let z5:=((r.data.length:Nat):Int);let z6:S:= .tup [.agg (E4 0 (A9 r room)),vT (A5 r room),vI (B9 r room)];let z8:List Blk:=[.lst .rd (A9 r room).script];let z9:=(0:Int)≤r.aJ;let z10:List Blk:=[.lst .rd r.script];let z12:=Int.toNat r.aJ;let z14:=z5-r.aJ;let z7:=Dw room room z14;let z15:=r.aJ≤r.aJ+z7;let z16:=Lf (.tup [.agg (E4 0 r),vT [],vI 1]) z6 z10 z8;let z17:=r.next+1;let z18:=os 13 [10];let z19:=r.aJ+z7≤z5;let z20:=r.aJ+z7;let z13:=List.drop z12 (List.take (Int.toNat z20) r.data);let z21:=if room<room then room else room;let z11:=if z5-r.aJ<z21 then z5-r.aJ else z21;(.sZ [.call [] (.v (.agg (E4 0 r))) z10,.call [] (.v (vB (Bj r))) []] (.br (.lJ () [2]) (.br (.lJ () [2]) (.br (.sZ [.ord (os 6 [3]) [1]] (.lJ () [2])) (.br (.intro (Sx (r.script[Int.toNat r.next]?)) fun x1=>let z1:=Dw x1.n room z14;.sZ [.el .rd x1,.as 44 (.v (vI z17)),.as 54 (.v (vI z14)),.as 56 (.v (vI z1)),.as 60 (.v (vI (r.aJ+z1)))] (.br (.sZ [.ord z18 [1]] (.lJ () [2])) (.br (.br (.sZ [.ord z18 [1]] (.lJ () [2])) (.sZ [.ord z18 [1]] (.lJ () [2]))) (.sZ [.ord z18 [1]] (.lJ () [2]))))) (.sZ [.as 54 (.v (vI z14)),.as 56 (.v (vI z7)),.as 60 (.v (vI z20)),.br false,.br true] (.br (.sZ [.ord z18 [1]] (.lJ () [2])) (.sZ [.ord z18 [1]] (.lJ () [2])))))))),(Fp 70 [.agg (Yh r)] [] (.v (.agg (E4 0 r))) z10)∧(Fp 76 [.agg (Yh r)] [] (.v (vB (Bj r))) [])∧Bc (!(Bj r)) z16 (Bc (decide (room<1)) z16 (Bc (!decide (r.code=0)) (Lf (.tup [.agg (E4 0 r),vT [],vI r.code]) z6 z10 z8) (Bc (decide (r.next<((r.script.length:Nat):Int))) (El (r.script[Int.toNat r.next]?) fun x1=>(let z2:=Dw x1.n room z14;let z4:=if room<x1.n then room else x1.n;let z3:=if z5-r.aJ<z4 then z5-r.aJ else z4;(r.script[Int.toNat r.next]? =some x1)∧((0:Int)≤r.next)∧(wI z17)∧(wI z14)∧((.v (vI (if 0>z3 then 0 else z3)):S)= .v (vI z2))∧(wI (r.aJ+z2))∧Bc (decide (20≤x1.code)) ((r.aJ+z2≤z5)∧(r.aJ≤r.aJ+z2)∧z9∧(r.aJ+z2≤z5)∧(r.aJ≤r.aJ+z2)∧z9∧Lf (.tup [.agg [.str r.data,zi (r.aJ+z2),.own 0,zi z17,zi x1.code],vT (List.drop z12 (List.take (Int.toNat (r.aJ+z2)) r.data)),vI x1.code]) z6 z10 z8) (Bc (decide (x1.code=1)) (Bc (decide (r.aJ+z2=z5)) ((r.aJ+z2≤z5)∧(r.aJ≤r.aJ+z2)∧z9∧(r.aJ+z2≤z5)∧(r.aJ≤r.aJ+z2)∧z9∧Lf (.tup [.agg [.str r.data,zi (r.aJ+z2),.own 0,zi z17,zi 1],vT (List.drop z12 (List.take (Int.toNat (r.aJ+z2)) r.data)),vI 1]) z6 z10 z8) ((r.aJ+z2≤z5)∧(r.aJ≤r.aJ+z2)∧z9∧(r.aJ+z2≤z5)∧(r.aJ≤r.aJ+z2)∧z9∧Lf (.tup [.agg [.str r.data,zi (r.aJ+z2),.own 0,zi z17,zi r.code],vT (List.drop z12 (List.take (Int.toNat (r.aJ+z2)) r.data)),vI r.code]) z6 z10 z8)) ((r.aJ+z2≤z5)∧(r.aJ≤r.aJ+z2)∧z9∧(r.aJ+z2≤z5)∧(r.aJ≤r.aJ+z2)∧z9∧Lf (.tup [.agg [.str r.data,zi (r.aJ+z2),.own 0,zi z17,zi r.code],vT (List.drop z12 (List.take (Int.toNat (r.aJ+z2)) r.data)),vI r.code]) z6 z10 z8)))) ((wI z14)∧((.v (vI (if 0>z11 then 0 else z11)):S)= .v (vI z7))∧(wI z20)∧((decide (20≤1))=false)∧((decide (1=1))=true)∧Bc (decide (r.aJ+z7=z5)) (z19∧z15∧z9∧z19∧z15∧z9∧Lf (.tup [.agg [.str r.data,zi z20,.own 0,zi r.next,zi 1],vT z13,vI 1]) z6 z10 z8) (z19∧z15∧z9∧z19∧z15∧z9∧Lf (.tup [.agg [.str r.data,zi z20,.own 0,zi r.next,zi r.code],vT z13,vI r.code]) z6 z10 z8))))))) Q4 ?_
 refine⟨(Qh r Q2),(Y5 r Q2 Q2),fun h1=>have q1:=An h1;?_,fun h1=>have q1:=Am h1;have p1:=D8 q1;?_⟩
 exact zE (A9 r room) r (fun hm1=>⟨(congrArg S.tup (Ab (congrArg V.agg (Ab (congrArg C.str W4) (Ab (cI W4) (Ab rfl (Ab (cI W4) (Ab (cI W4) rfl)))))) (Ab (congrArg V.c (congrArg C.str W4)) (Ab (congrArg V.c (cI W4)) rfl)))),Q6⟩) W4
 refine dsp (fun h2 p2=>?_) fun h2 p2=>?_
 exact zE (A9 r room) r (fun hm1=>⟨(congrArg S.tup (Ab (congrArg V.agg (Ab (congrArg C.str W4) (Ab (cI W4) (Ab rfl (Ab (cI W4) (Ab (cI W4) rfl)))))) (Ab (congrArg V.c (congrArg C.str W4)) (Ab (congrArg V.c (cI W4)) rfl)))),Q6⟩) W4
 refine⟨fun h3=>have q3:=An h3;have p3:=of_decide_eq_false q3;?_,fun h3=>have q3:=Am h3;have p3:=of_decide_eq_true q3;?_⟩
 exact zE (A9 r room) r (fun hm1=>⟨(congrArg S.tup (Ab (congrArg V.agg (Ab (congrArg C.str W4) (Ab (cI W4) (Ab rfl (Ab (cI W4) (Ab (cI W4) rfl)))))) (Ab (congrArg V.c (congrArg C.str W4)) (Ab (congrArg V.c (cI W4)) rfl)))),Q6⟩) W4
 refine dsp (fun h4 p4=>?_) fun h4 p4=>?_
 refine⟨(Bo (l:=r.script) (i:=Int.toNat r.next) Q2),fun x1 hx1=>?_⟩
 have he:Dp r room=x1:=U9 (by omega) hx1
 refine⟨hx1,Q2,(Ad Q2 Q2),(Ad Q2 Q2),(Ad5 (by unfold Dw;omega)),(Ad Q13 Q13),dsp (fun h5 p5=>?_) fun h5 p5=>?_⟩
 exact zE (A9 r room) (⟨r.data,r.aJ+(Dw x1.n room (((r.data.length:Nat):Int)-r.aJ)),r.script,r.next+1,x1.code⟩:Rdr) (fun hm1=>⟨Q13,Q13,Q2,Q13,Q13,Q2,(congrArg S.tup (Ab (congrArg V.agg (Ab (congrArg C.str W4) (Ab (cI W4) (Ab rfl (Ab (cI W4) (Ab (cI W4) rfl)))))) (Ab (congrArg V.c (congrArg C.str W4)) (Ab (congrArg V.c (cI W4)) rfl)))),Q6⟩) W4
 refine dsp (fun h6 p6=>?_) fun h6 p6=>?_
 refine dsp (fun h7 p7=>?_) fun h7 p7=>?_
 exact zE (A9 r room) (⟨r.data,r.aJ+(Dw x1.n room (((r.data.length:Nat):Int)-r.aJ)),r.script,r.next+1,1⟩:Rdr) (fun hm1=>⟨Q13,Q13,Q2,Q13,Q13,Q2,(congrArg S.tup (Ab (congrArg V.agg (Ab (congrArg C.str W4) (Ab (cI W4) (Ab rfl (Ab (cI W4) (Ab (cI W4) rfl)))))) (Ab (congrArg V.c (congrArg C.str W4)) (Ab (congrArg V.c (cI W4)) rfl)))),Q6⟩) W4
 exact zE (A9 r room) (⟨r.data,r.aJ+(Dw x1.n room (((r.data.length:Nat):Int)-r.aJ)),r.script,r.next+1,r.code⟩:Rdr) (fun hm1=>⟨Q13,Q13,Q2,Q13,Q13,Q2,(congrArg S.tup (Ab (congrArg V.agg (Ab (congrArg C.str W4) (Ab (cI W4) (Ab rfl (Ab (cI W4) (Ab (cI W4) rfl)))))) (Ab (congrArg V.c (congrArg C.str W4)) (Ab (congrArg V.c (cI W4)) rfl)))),Q6⟩) W4
 exact zE (A9 r room) (⟨r.data,r.aJ+(Dw x1.n room (((r.data.length:Nat):Int)-r.aJ)),r.script,r.next+1,r.code⟩:Rdr) (fun hm1=>⟨Q13,Q13,Q2,Q13,Q13,Q2,(congrArg S.tup (Ab (congrArg V.agg (Ab (congrArg C.str W4) (Ab (cI W4) (Ab rfl (Ab (cI W4) (Ab (cI W4) rfl)))))) (Ab (congrArg V.c (congrArg C.str W4)) (Ab (congrArg V.c (cI W4)) rfl)))),Q6⟩) W4
 have he:Dp r room=⟨room,1⟩:=Va (by omega)
 refine⟨(Ad Q2 Q2),(Ad5 (by unfold Dw;omega)),(Ad Q21 Q21),Q30,Q30,dsp (fun h5 p5=>?_) fun h5 p5=>?_⟩
 exact zE (A9 r room) (⟨r.data,r.aJ+(Dw room room (((r.data.length:Nat):Int)-r.aJ)),r.script,r.next,1⟩:Rdr) (fun hm1=>⟨Q21,Q21,Q2,Q21,Q21,Q2,(congrArg S.tup (Ab (congrArg V.agg (Ab (congrArg C.str W4) (Ab (cI W4) (Ab rfl (Ab (cI W4) (Ab (cI W4) rfl)))))) (Ab (congrArg V.c (congrArg C.str W4)) (Ab (congrArg V.c (cI W4)) rfl)))),Q6⟩) W4
 exact zE (A9 r room) (⟨r.data,r.aJ+(Dw room room (((r.data.length:Nat):Int)-r.aJ)),r.script,r.next,r.code⟩:Rdr) (fun hm1=>⟨Q21,Q21,Q2,Q21,Q21,Q2,(congrArg S.tup (Ab (congrArg V.agg (Ab (congrArg C.str W4) (Ab (cI W4) (Ab rfl (Ab (cI W4) (Ab (cI W4) rfl)))))) (Ab (congrArg V.c (congrArg C.str W4)) (Ab (congrArg V.c (cI W4)) rfl)))),Q6⟩) W4
theorem Y6 (r:Rdr) (room:Int) (hp1:List.length (r).script≤A7) (hp2:List.length (r).data≤A7):Fun Tryz.prog 146 [.agg (Yh r),vI room] [] (.tup [.agg (E4 0 (A9 r room)),vT (A5 r room),vI (B9 r room)]) [.lst .rd (A9 r room).script]:=by
 have hN:A7=274877906944:=rfl
 refine Ap Tryz.func146 Q4 Q4 (w:=let zi:Int→C:= .int .i64;let z7:S:= .tup [.agg (E4 0 (A9 r room)),vT (A5 r room),vI (B9 r room)];let z8:=((r.data.length:Nat):Int);let z6:=z8-r.aJ;let z9:=Dw room room z6;let z10:List Blk:=[.lst .rd (A9 r room).script];let z11:=(0:Int)≤r.aJ;let z12:List Blk:=[.lst .rd r.script];let z13:=min room z6;let z15:=min room z13;let z16:=Lf (.tup [.agg (E4 0 r),vT [],vI 1]) z7 z12 z10;let z17:=r.aJ≤r.aJ+z9;let z18:=os 13 [10];let z19:=Int.toNat r.aJ;let z20:=r.aJ+z9≤z8;let z21:=r.next+1;let z22:=r.aJ+z9;let z14:=List.drop z19 (List.take (Int.toNat z22) r.data);let z23:S:= .v (vI z13);(.sZ [.call [] (.v (.agg (E4 0 r))) z12,.call [] (.v (vB (Bj r))) []] (.br (.lJ () [2]) (.br (.lJ () [2]) (.br (.sZ [.ord (os 6 [3]) [1]] (.lJ () [2])) (.br (.intro (Sx (r.script[Int.toNat r.next]?)) fun x1=>let z1:=min x1.n z13;let z2:=Dw x1.n room z6;.sZ [.el .rd x1,.as 42 (.v (vI z21)),.ord (os 13 [9,10,11]) [],.as 52 (.v (vI z6)),.call [] z23 [],.call [] (.v (vI z1)) [],.call [] (.v (vI (max 0 z1))) [],.as 55 (.v (vI z2)),.as 59 (.v (vI (r.aJ+z2)))] (.br (.sZ [.ord z18 [1]] (.lJ () [2])) (.br (.br (.sZ [.ord z18 [1]] (.lJ () [2])) (.sZ [.ord z18 [1]] (.lJ () [2]))) (.sZ [.ord z18 [1]] (.lJ () [2]))))) (.sZ [.ord (os 13 [9,10,11]) [],.as 52 (.v (vI z6)),.call [] z23 [],.call [] (.v (vI z15)) [],.call [] (.v (vI (max 0 z15))) [],.as 55 (.v (vI z9)),.as 59 (.v (vI z22)),.br false,.br true] (.br (.sZ [.ord z18 [1]] (.lJ () [2])) (.sZ [.ord z18 [1]] (.lJ () [2])))))))),(Fp 145 [.agg (Yh r)] [] (.v (.agg (E4 0 r))) z12)∧(Fp 75 [.agg (Yh r)] [] (.v (vB (Bj r))) [])∧Bc (!(Bj r)) z16 (Bc (decide (room<1)) z16 (Bc (!decide (r.code=0)) (Lf (.tup [.agg (E4 0 r),vT [],vI r.code]) z7 z12 z10) (Bc (decide (r.next<((r.script.length:Nat):Int))) (El (r.script[Int.toNat r.next]?) fun x1=>(let z3:=Dw x1.n room z6;let z4:=(r.aJ+z3≤z8)∧(r.aJ≤r.aJ+z3)∧z11∧(r.aJ+z3≤z8)∧(r.aJ≤r.aJ+z3)∧z11∧Lf (.tup [.agg [.str r.data,zi (r.aJ+z3),.own 0,zi z21,zi x1.code],vT (List.drop z19 (List.take (Int.toNat (r.aJ+z3)) r.data)),vI x1.code]) z7 z12 z10;let z5:=min x1.n z13;(r.script[Int.toNat r.next]? =some x1)∧((0:Int)≤r.next)∧(wI z21)∧(wI z6)∧(wI z6)∧(Fp 83 [vI room,vI z6] [] z23 [])∧(Fp 83 [vI x1.n,vI z13] [] (.v (vI z5)) [])∧(Fp 84 [vI 0,vI z5] [] (.v (vI (max 0 z5))) [])∧((.v (vI (max 0 z5)):S)= .v (vI z3))∧(wI (r.aJ+z3))∧Bc (decide (20≤x1.code)) z4 (Bc (decide (x1.code=1)) (Bc (decide (r.aJ+z3=z8)) z4 ((r.aJ+z3≤z8)∧(r.aJ≤r.aJ+z3)∧z11∧(r.aJ+z3≤z8)∧(r.aJ≤r.aJ+z3)∧z11∧Lf (.tup [.agg [.str r.data,zi (r.aJ+z3),.own 0,zi z21,zi r.code],vT (List.drop z19 (List.take (Int.toNat (r.aJ+z3)) r.data)),vI r.code]) z7 z12 z10)) ((r.aJ+z3≤z8)∧(r.aJ≤r.aJ+z3)∧z11∧(r.aJ+z3≤z8)∧(r.aJ≤r.aJ+z3)∧z11∧Lf (.tup [.agg [.str r.data,zi (r.aJ+z3),.own 0,zi z21,zi r.code],vT (List.drop z19 (List.take (Int.toNat (r.aJ+z3)) r.data)),vI r.code]) z7 z12 z10)))) ((wI z6)∧(wI z6)∧(Fp 83 [vI room,vI z6] [] z23 [])∧(Fp 83 [vI room,vI z13] [] (.v (vI z15)) [])∧(Fp 84 [vI 0,vI z15] [] (.v (vI (max 0 z15))) [])∧((.v (vI (max 0 z15)):S)= .v (vI z9))∧(wI z22)∧((decide (20≤1))=false)∧((decide (1=1))=true)∧Bc (decide (r.aJ+z9=z8)) (z20∧z17∧z11∧z20∧z17∧z11∧Lf (.tup [.agg [.str r.data,zi z22,.own 0,zi r.next,zi 1],vT z14,vI 1]) z7 z12 z10) (z20∧z17∧z11∧z20∧z17∧z11∧Lf (.tup [.agg [.str r.data,zi z22,.own 0,zi r.next,zi r.code],vT z14,vI r.code]) z7 z12 z10))))))) Q4 ?_
 refine⟨(Xe r Q2),(Uf r Q2 Q2),fun h1=>have q1:=An h1;?_,fun h1=>have q1:=Am h1;have p1:=D8 q1;?_⟩
 exact zE (A9 r room) r (fun hm1=>⟨(congrArg S.tup (Ab (congrArg V.agg (Ab (congrArg C.str W4) (Ab (cI W4) (Ab rfl (Ab (cI W4) (Ab (cI W4) rfl)))))) (Ab (congrArg V.c (congrArg C.str W4)) (Ab (congrArg V.c (cI W4)) rfl)))),Q6⟩) W4
 refine dsp (fun h2 p2=>?_) fun h2 p2=>?_
 exact zE (A9 r room) r (fun hm1=>⟨(congrArg S.tup (Ab (congrArg V.agg (Ab (congrArg C.str W4) (Ab (cI W4) (Ab rfl (Ab (cI W4) (Ab (cI W4) rfl)))))) (Ab (congrArg V.c (congrArg C.str W4)) (Ab (congrArg V.c (cI W4)) rfl)))),Q6⟩) W4
 refine⟨fun h3=>have q3:=An h3;have p3:=of_decide_eq_false q3;?_,fun h3=>have q3:=Am h3;have p3:=of_decide_eq_true q3;?_⟩
 exact zE (A9 r room) r (fun hm1=>⟨(congrArg S.tup (Ab (congrArg V.agg (Ab (congrArg C.str W4) (Ab (cI W4) (Ab rfl (Ab (cI W4) (Ab (cI W4) rfl)))))) (Ab (congrArg V.c (congrArg C.str W4)) (Ab (congrArg V.c (cI W4)) rfl)))),Q6⟩) W4
 refine dsp (fun h4 p4=>?_) fun h4 p4=>?_
 refine⟨(Bo (l:=r.script) (i:=Int.toNat r.next) Q2),fun x1 hx1=>?_⟩
 have he:Dp r room=x1:=U9 (by omega) hx1
 refine⟨hx1,Q2,(Ad Q2 Q2),(Ad Q2 Q2),(Ad Q2 Q2),(Aj1 _ _),(Aj1 _ _),(G7 _ _),(Ad5 (by unfold Dw;omega)),(Ad Q13 Q13),dsp (fun h5 p5=>?_) fun h5 p5=>?_⟩
 exact zE (A9 r room) (⟨r.data,r.aJ+(Dw x1.n room (((r.data.length:Nat):Int)-r.aJ)),r.script,r.next+1,x1.code⟩:Rdr) (fun hm1=>⟨Q13,Q13,Q2,Q13,Q13,Q2,(congrArg S.tup (Ab (congrArg V.agg (Ab (congrArg C.str W4) (Ab (cI W4) (Ab rfl (Ab (cI W4) (Ab (cI W4) rfl)))))) (Ab (congrArg V.c (congrArg C.str W4)) (Ab (congrArg V.c (cI W4)) rfl)))),Q6⟩) W4
 refine dsp (fun h6 p6=>?_) fun h6 p6=>?_
 refine dsp (fun h7 p7=>?_) fun h7 p7=>?_
 exact zE (A9 r room) (⟨r.data,r.aJ+(Dw x1.n room (((r.data.length:Nat):Int)-r.aJ)),r.script,r.next+1,x1.code⟩:Rdr) (fun hm1=>⟨Q13,Q13,Q2,Q13,Q13,Q2,(congrArg S.tup (Ab (congrArg V.agg (Ab (congrArg C.str W4) (Ab (cI W4) (Ab rfl (Ab (cI W4) (Ab (cI W4) rfl)))))) (Ab (congrArg V.c (congrArg C.str W4)) (Ab (congrArg V.c (cI W4)) rfl)))),Q6⟩) W4
 exact zE (A9 r room) (⟨r.data,r.aJ+(Dw x1.n room (((r.data.length:Nat):Int)-r.aJ)),r.script,r.next+1,r.code⟩:Rdr) (fun hm1=>⟨Q13,Q13,Q2,Q13,Q13,Q2,(congrArg S.tup (Ab (congrArg V.agg (Ab (congrArg C.str W4) (Ab (cI W4) (Ab rfl (Ab (cI W4) (Ab (cI W4) rfl)))))) (Ab (congrArg V.c (congrArg C.str W4)) (Ab (congrArg V.c (cI W4)) rfl)))),Q6⟩) W4
 exact zE (A9 r room) (⟨r.data,r.aJ+(Dw x1.n room (((r.data.length:Nat):Int)-r.aJ)),r.script,r.next+1,r.code⟩:Rdr) (fun hm1=>⟨Q13,Q13,Q2,Q13,Q13,Q2,(congrArg S.tup (Ab (congrArg V.agg (Ab (congrArg C.str W4) (Ab (cI W4) (Ab rfl (Ab (cI W4) (Ab (cI W4) rfl)))))) (Ab (congrArg V.c (congrArg C.str W4)) (Ab (congrArg V.c (cI W4)) rfl)))),Q6⟩) W4
 have he:Dp r room=⟨room,1⟩:=Va (by omega)
 refine⟨(Ad Q2 Q2),(Ad Q2 Q2),(Aj1 _ _),(Aj1 _ _),(G7 _ _),(Ad5 (by unfold Dw;omega)),(Ad Q21 Q21),Q30,Q30,dsp (fun h5 p5=>?_) fun h5 p5=>?_⟩
 exact zE (A9 r room) (⟨r.data,r.aJ+(Dw room room (((r.data.length:Nat):Int)-r.aJ)),r.script,r.next,1⟩:Rdr) (fun hm1=>⟨Q21,Q21,Q2,Q21,Q21,Q2,(congrArg S.tup (Ab (congrArg V.agg (Ab (congrArg C.str W4) (Ab (cI W4) (Ab rfl (Ab (cI W4) (Ab (cI W4) rfl)))))) (Ab (congrArg V.c (congrArg C.str W4)) (Ab (congrArg V.c (cI W4)) rfl)))),Q6⟩) W4
 exact zE (A9 r room) (⟨r.data,r.aJ+(Dw room room (((r.data.length:Nat):Int)-r.aJ)),r.script,r.next,r.code⟩:Rdr) (fun hm1=>⟨Q21,Q21,Q2,Q21,Q21,Q2,(congrArg S.tup (Ab (congrArg V.agg (Ab (congrArg C.str W4) (Ab (cI W4) (Ab rfl (Ab (cI W4) (Ab (cI W4) rfl)))))) (Ab (congrArg V.c (congrArg C.str W4)) (Ab (congrArg V.c (cI W4)) rfl)))),Q6⟩) W4
structure Com (d:Dcd):Prop where
 lv:Bk d=true
 aJ:0≤d.aJ∧d.aJ≤1000000000
 st:0≤d.sX∧d.sX≤d.aJ
 ut:Fk d.uJ=true
 wi:D3 d.wJ=true
 fl:d.field=fld0∨J2 d.pJ.sQ d.field=true
 en:d.eJ=ev0
theorem Jg {d:Dcd} (lv:Bk d=true) (hm:1≤d.mJ∧d.mJ≤9) (aJ:0≤d.aJ∧d.aJ≤1000000000) (st:0≤d.sX∧d.sX≤d.aJ) (ut:Fk d.uJ=true) (wi:D3 d.wJ=true) (fl:d.field=fld0∨J2 d.pJ.sQ d.field=true)
  (h8:Y2 d=true) (h9:J4 d=true) (h10:Jn d=true) (h11:Jo d=true) (h12:J9 d=true):Bs d=true:=by
 simp only[Bs,Bool.and_eq_true,Bool.or_eq_true,decide_eq_true_eq]
 refine⟨⟨⟨⟨⟨⟨⟨⟨⟨⟨⟨lv,?_⟩,?_⟩,?_⟩,ut⟩,wi⟩,fl⟩,h8⟩,h9⟩,h10⟩,h11⟩,h12⟩<;>simp only[Ak,Bool.and_eq_true,decide_eq_true_eq]<;>assumption
theorem Aed {d:Dcd} {c a:Int} (lv:Bk d=true) (aJ:0≤d.aJ∧d.aJ≤1000000000) (st:0≤d.sX∧d.sX≤d.aJ) (ut:Fk d.uJ=true) (wi:D3 d.wJ=true) (fl:d.field=fld0∨J2 d.pJ.sQ d.field=true) (hc:1≤c) (ha:0≤a):Bs (A8 d c a)=true:=by
 have hs:(⟨0,0⟩:Scn)=scn0:=rfl
 refine Jg (Cd lv rfl rfl) (show (1:Int)≤9∧(9:Int)≤9 by decide) aJ st ut wi fl ?_ ?_ ?_ ?_ ?_
 ·simp[Y2,A8,Gv,Qf,Ak,Tc,Ep,A2,Fi,B6,hc,ha]
 ·simp[J4,A8]
 ·simp[Jn,A8]
 ·simp[Jo,A8]
 ·simp[J9,A8,By,hs]
theorem Com.fail {d:Dcd} (h:Com d) {c a:Int} (hc:1≤c) (ha:0≤a):Bs (A8 d c a)=true:=Aed h.lv h.aJ h.st h.ut h.wi h.fl hc ha
theorem Aee {m:Mac} (h:m.d.mJ=9∨m.d.mJ=1):Az m=none:=by
 unfold Az
 rw[if_neg (by omega),if_neg (by omega),if_neg (by omega)]
structure Pre (d:Dcd):Prop extends Com d where
 sc:d.sK=scn0
 ne:0<d.sJ.length
 md:(d.mJ=2∧d.wK=0)∨(d.mJ=6∧Gu d.field.kind=true∧0≤d.wK∧d.wK≤Eb d)∨(d.mJ=7∧0≤d.wK∧d.wK≤Eb d)∨(d.mJ=8∧U5 d.field=true∧0≤d.wK∧d.wK≤Eb d∧(d.wK=0∨A3 (Ci d.field.kind)≤d.wK))
theorem Sn:D4 scn0=true:=by simp[D4,scn0,Ak]
theorem Tm {d e:Dcd} {k:Nat} (h:Bk d=true) (hp:e.pJ=d.pJ) (hs:e.sJ=d.sJ.take k):Bk e=true:=by
 have hb:=Cb h
 refine K6 (by rw[hp];exact hb.1) ?_ fun l hl=>?_
 ·rw[hs,hp];have:=hb.2.1;simp only[List.length_take];omega
 ·rw[hp];rw[hs] at hl;exact hb.2.2.2 l (List.mem_of_mem_take hl)
theorem Ahu:Fk ⟨0,0,0⟩=true:=by decide
set_option maxHeartbeats 3200000 in
theorem Pre.close {d:Dcd} (h:Pre d) (o:List Ev):(Az ⟨d,o⟩=none∧Bs d=true)∨∃q,Az ⟨d,o⟩=some q∧(Pre q.d∨(Bs q.d=true∧Az q=none)):=by
 have hb:=Hy h.lv
 have hsc:=h.sc
 have hne:=h.ne
 have h0:d.sK.hJ=0:=by rw[hsc];rfl
 have hb0:d.sK.bits=0:=by rw[hsc];rfl
 have hend:d.mJ≠9→Y2 d=true:=fun h9=>by unfold Y2;rw[if_neg h9];exact decide_eq_true h.en
 have hst:d.mJ≠1→1≤Eb d→J4 d=true:=fun h1 ht=>by unfold J4;rw[if_neg h1];split;rfl;exact decide_eq_true ht
 rcases h.md with ⟨hm,hw⟩|⟨hm,hk,hw0,hw1⟩|⟨hm,hw0,hw1⟩|⟨hm,hk,hw0,hw1,hw2⟩
 ·by_cases ht:Eb d=0
  ·right
   by_cases h1:d.sJ.length=1
   ·refine⟨_,Xb hm h0 hne ht h1,.inr ⟨?_,Aee (.inr rfl)⟩⟩
    have hn:d.sJ.take (d.sJ.length-1)=[]:=by rw[h1];rfl
    refine Jg (Tm h.lv rfl rfl) (show (1:Int)≤1∧(1:Int)≤9 by decide) h.aJ h.st h.ut h.wi h.fl ?_ ?_ ?_ ?_ ?_
    ·simp[Y2,h.en]
    ·simp[J4,hn]
    ·simp[Jn,hw]
    ·simp[Jo]
    ·simp[J9,By,hsc,Sn]
   ·refine⟨_,Xc hm h0 hne ht h1,.inl ⟨⟨Tm h.lv rfl rfl,h.aJ,h.st,h.ut,h.wi,h.fl,h.en⟩,hsc,?_,.inl ⟨hm,hw⟩⟩⟩
    simp only[List.length_take];omega
  ·left
   refine⟨?_,?_⟩
   ·unfold Az;simp only;rw[if_neg (by omega),if_neg (by omega),if_neg (by omega)]
   ·refine Jg h.lv (by omega) h.aJ h.st h.ut h.wi h.fl (hend (by omega)) (hst (by omega) (by omega)) ?_ ?_ ?_
    ·simp[Jn,hm,hw]
    ·simp[Jo,hm]
    ·simp[J9,By,hm,hsc,Sn]
 ·by_cases hw:d.wK<1
  ·right
   by_cases hu:0<d.uJ.wK
   ·refine⟨A1 ⟨d,o⟩ 5 d.aJ,by unfold Az;simp only;rw[if_pos ⟨hm,hw⟩,if_pos hu],.inr ⟨h.toCom.fail (by decide) h.aJ.1,Aee (.inl rfl)⟩⟩
   ·refine⟨_,by unfold Az;simp only;rw[if_pos ⟨hm,hw⟩,if_neg hu],.inl ⟨⟨Cd h.lv rfl rfl,h.aJ,h.st,Ahu,h.wi,h.fl,h.en⟩,hsc,hne,.inl ⟨rfl,rfl⟩⟩⟩
  ·left
   refine⟨?_,?_⟩
   ·unfold Az;simp only;rw[if_neg (by omega),if_neg (by omega),if_neg (by omega)]
   ·refine Jg h.lv (by omega) h.aJ h.st h.ut h.wi h.fl (hend (by omega)) (hst (by omega) (by omega)) ?_ ?_ ?_
    ·simp[Jn,hm,Ak];omega
    ·simp[Jo,hm,hk]
    ·simp[J9,By,hm,hsc]
 ·by_cases hw:d.wK<1
  ·right
   refine⟨_,by unfold Az;simp only;rw[if_neg (by omega),if_pos ⟨.inl hm,hw⟩],.inl ⟨⟨Cd h.lv rfl rfl,h.aJ,h.st,h.ut,h.wi,h.fl,h.en⟩,hsc,hne,.inl ⟨rfl,rfl⟩⟩⟩
  ·left
   refine⟨?_,?_⟩
   ·unfold Az;simp only;rw[if_neg (by omega),if_neg (by omega),if_neg (by omega)]
   ·refine Jg h.lv (by omega) h.aJ h.st h.ut h.wi h.fl (hend (by omega)) (hst (by omega) (by omega)) ?_ ?_ ?_
    ·simp[Jn,hm,Ak];omega
    ·simp[Jo,hm]
    ·simp[J9,By,hm,hsc]
 ·by_cases hw:d.wK<1
  ·right
   refine⟨_,by unfold Az;simp only;rw[if_neg (by omega),if_pos ⟨.inr ⟨hm,h0⟩,hw⟩],.inl ⟨⟨Cd h.lv rfl rfl,h.aJ,h.st,h.ut,h.wi,h.fl,h.en⟩,hsc,hne,.inl ⟨rfl,rfl⟩⟩⟩
  ·left
   refine⟨?_,?_⟩
   ·unfold Az;simp only;rw[if_neg (by omega),if_neg (by omega),if_neg (by omega)]
   ·refine Jg h.lv (by omega) h.aJ h.st h.ut h.wi h.fl (hend (by omega)) (hst (by omega) (by omega)) ?_ ?_ ?_
    ·simp[Jn,hm,Ak];omega
    ·simp[Jo,hm,hk]
    ·have hwd:By d=A3 (Ci d.field.kind):=by unfold By;rw[if_neg (by omega),if_pos hm]
     have hr:Qe d=d.wK:=by unfold Qe;rw[if_pos hm]
     unfold J9
     split
     ·rw[h0,hb0,hr]
      simp[Ak]
      omega
     ·rw[if_neg (by omega),hsc];exact Sn
theorem Pre.settle: ∀(k:Nat) (m:Mac),wM m≤k→Pre m.d→Bs (Af m).d=true:=by
 intro k
 induction k with
 |zero=>
  intro m hk h
  have:=h.ne
  have:m.d.sJ.length≤wM m:=by unfold wM;omega
  omega
 |succ k ih=>
  intro m hk h
  rcases h.close m.oJ with ⟨h1,h2⟩|⟨q,h1,h2⟩
  ·rw[B8 h1];exact h2
  ·rw[Cs h1]
   rcases h2 with h2|⟨h2,h3⟩
   ·exact ih q (by have h3:wM q<wM m:=(Cg h1).1;omega) h2
   ·rw[B8 h3];exact h2
theorem Ge {m:Mac} (h:Pre m.d):Bs (Af m).d=true:=Pre.settle _ m (Nat.le_refl _) h
theorem Aj2 {d:Dcd} {o:List Ev} {u:Int} (h:Com d) (hw:d.wK=0) (hu:0≤u):Bs (C6 ⟨d,o⟩ u).d=true:=by
 unfold C6
 simp only
 split
 ·exact h.fail (by decide) h.st.1
 ·exact Ge ⟨⟨R6 (u:=u) h.lv rfl rfl hu (by omega),h.aJ,h.st,h.ut,h.wi,h.fl,h.en⟩,rfl,Nat.zero_lt_one,.inl ⟨rfl,hw⟩⟩
theorem Aj3 {d:Dcd} {n:Int} (h:Com d) (hn:d.sJ.length≠0):(fieldAt d.pJ.sQ (H8 d).mK n).getD fld0=fld0∨J2 d.pJ.sQ ((fieldAt d.pJ.sQ (H8 d).mK n).getD fld0)=true:=by
 cases hf:fieldAt d.pJ.sQ (H8 d).mK n with
 |none=>exact .inl rfl
 |some f=>
  right
  have hb:=Cb h.lv
  have hl:=hb.2.2.2 _ (Tf hn)
  simp only[Fm,Bool.and_eq_true] at hl
  have hl:=Ar hl.1
  have hk:=(Yx (Cm hb.1).2.1 hf).2
  show J2 d.pJ.sQ f=true
  refine Z4 (k:=(H8 d).mK.toNat) Q2 ?_
  rw[hk,show (((H8 d).mK.toNat:Nat):Int)=(H8 d).mK by omega];exact hf
theorem Aoy {d:Dcd} {o:List Ev} {u:Int} (h:Com d) (hw:d.wK=0):Bs (Ex ⟨d,o⟩ u).d=true:=by
 unfold Ex
 simp only
 split
 ·exact h.fail (by decide) h.st.1
 ·rename_i h1
  simp only[not_or] at h1
  have hk:=Aj3 (n:=B0 u) h h1.2
  split
  ·exact h.fail (by decide) h.st.1
  ·rename_i h2
   have h2:D3 (Aj u)=true:=by simpa using h2
   split
   ·exact h.fail (by decide) h.st.1
   ·rename_i h3
    split
    ·exact Aed (d:=⟨d.pJ,d.mJ,d.sJ,⟨0,0⟩,d.sX,d.aJ,(fieldAt d.pJ.sQ (H8 d).mK (B0 u)).getD fld0,Aj u,d.wK,d.uJ,d.eJ⟩) (Cd h.lv rfl rfl) h.aJ h.st h.ut h2 hk (by decide) h.aJ.1
    ·rename_i h4
     have hfit:(fieldAt d.pJ.sQ (H8 d).mK (B0 u)).getD fld0=fld0∨Dx ((fieldAt d.pJ.sQ (H8 d).mK (B0 u)).getD fld0) (Aj u)=true:=by
      cases hf:fieldAt d.pJ.sQ (H8 d).mK (B0 u) with
      |none=>exact .inl rfl
      |some f=>right;rw[hf] at h3;simpa using h3
     have hwi:Aj u=0∨Aj u=1∨Aj u=2∨Aj u=5:=by
      simp only[D3,Bool.or_eq_true,decide_eq_true_eq] at h2;omega
     have hwb:=En (Aj u)
     have htop: ∀e:Dcd,e.sJ=d.sJ→Eb e=Eb d:=fun e he=>by unfold Eb;rw[he]
     generalize (fieldAt d.pJ.sQ (H8 d).mK (B0 u)).getD fld0=f at *
     generalize Aj u=w at *
     refine Jg (Cd h.lv rfl rfl) ?_ h.aJ h.st h.ut h2 hk ?_ ?_ ?_ ?_ ?_
     ·show 1≤(if w=0 then (3:Int) else if w=2 then 4 else 5)∧(if w=0 then (3:Int) else if w=2 then 4 else 5)≤9
      split<;>(try split)<;>omega
     ·rcases hwi with rfl|rfl|rfl|rfl<;>simp[Y2,h.en]
     ·have:=htop ⟨d.pJ,if w=0 then 3 else if w=2 then 4 else 5,d.sJ,⟨0,0⟩,d.sX,d.aJ,f,w,d.wK,d.uJ,d.eJ⟩ rfl
      rcases hwi with rfl|rfl|rfl|rfl<;>simp[J4] at this ⊢ <;>rw[this]<;>omega
     ·rcases hwi with rfl|rfl|rfl|rfl<;>simp[Jn,hw]
     ·rcases hwi with rfl|rfl|rfl|rfl<;>simp[Jo,Amh,A3]<;>exact hfit
     ·have:=htop ⟨d.pJ,if w=0 then 3 else if w=2 then 4 else 5,d.sJ,⟨0,0⟩,d.sX,d.aJ,f,w,d.wK,d.uJ,d.eJ⟩ rfl
      rcases hwi with rfl|rfl|rfl|rfl<;>simp[J9,By,A3,Qe,Ak,D4] at this h4 ⊢ <;>rw[this]<;>omega
theorem Anf {f:Fld} (h:f=fld0∨Dx f 2=true) (h0:f≠fld0) (h8:f.kind≠8) (hb:Gu f.kind=false):U5 f=true:=by
 rcases h with h|h
 ·exact absurd h h0
 ·simp only[Dx,Bool.or_eq_true,Bool.and_eq_true,decide_eq_true_eq] at h
  rcases h with h|h
  ·exfalso
   simp only[Gu,Bool.or_eq_false_iff,decide_eq_false_iff_not] at hb
   unfold Ci Ez at h
   split at h
   ·rename_i hk
    have hk:=Ar hk
    repeat' split at h
    all_goals omega
   ·omega
  ·exact h.2
theorem Ang {d:Dcd} {o:List Ev} {u:Int} (h:Com d) (hw:d.wK=0) (hu:0≤u) (hf:d.field=fld0∨Dx d.field 2=true):Bs (Cw ⟨d,o⟩ u).d=true:=by
 unfold Cw
 simp only
 split
 ·exact h.fail (by decide) h.st.1
 ·rename_i h1
  simp only[not_or] at h1
  have hn:0<d.sJ.length:=by omega
  split
  ·exact Ge ⟨⟨Cd h.lv rfl rfl,h.aJ,h.st,h.ut,h.wi,h.fl,h.en⟩,rfl,hn,.inr (.inr (.inl ⟨rfl,hu,by show u≤Eb d;omega⟩))⟩
  ·rename_i h0
   split
   ·rename_i h8
    split
    ·exact h.fail (by decide) h.st.1
    ·rename_i hd
     have hk:=h.fl.resolve_left h0
     exact Ge ⟨⟨Tg (u:=u) h.lv hk h8 h1.1 Q2 hu Q2 rfl rfl,h.aJ,h.st,h.ut,h.wi,h.fl,h.en⟩,rfl,by simp,.inl ⟨rfl,rfl⟩⟩
   ·rename_i h8
    split
    ·rename_i hb
     exact Ge ⟨⟨Cd h.lv rfl rfl,h.aJ,h.st,Ahu,h.wi,h.fl,h.en⟩,rfl,hn,.inr (.inl ⟨rfl,hb,hu,by show u≤Eb d;omega⟩)⟩
    ·rename_i hb
     split
     ·exact h.fail (by decide) h.aJ.1
     ·rename_i hx
      exact Ge ⟨⟨Cd h.lv rfl rfl,h.aJ,h.st,h.ut,h.wi,h.fl,h.en⟩,rfl,hn,.inr (.inr (.inr ⟨rfl,Anf hf h0 h8 (by simpa using hb),hu,by show u≤Eb d;omega,by show u=0∨A3 (Ci d.field.kind)≤u;omega⟩))⟩
theorem Com.sX {d:Dcd} (h:Com d) {a:Int} (ha:0≤a∧a≤d.aJ):Com (Mv d a):=by
 refine⟨Cd h.lv rfl rfl,h.aJ,?_,h.ut,h.wi,h.fl,h.en⟩
 show 0≤(if d.sK.hJ=0∧(d.mJ=1∨d.mJ=2∨d.mJ=4) then a else d.sX)∧(if d.sK.hJ=0∧(d.mJ=1∨d.mJ=2∨d.mJ=4) then a else d.sX)≤d.aJ
 split
 ·exact ha
 ·exact h.st
theorem Com.sK {d:Dcd} (h:Com d) (s:Scn):Com (Hx d s):=⟨Cd h.lv rfl rfl,h.aJ,h.st,h.ut,h.wi,h.fl,h.en⟩
theorem Ahv {s:Scn} {b:Int} (h0:0≤s.bits) (h:(Ah s b).2=0):D4 (Ah s b).1=true:=by
 unfold Ah at h ⊢
 split at h
 ·simp at h
 ·rename_i hc
  rw[if_neg hc]
  simp only[not_or] at hc
  have hs:D4 s=true:=by simpa using hc.1
  have hb:=Ar (show Ak b 0 255=true by simpa using hc.2.1)
  have hk:=Vt hs h0
  have hb2: ¬b<128:=fun hx=>by rw[if_pos hx] at h;simp at h
  have h9:s.hJ≠9:=fun e=>hc.2.2 ⟨e,by omega⟩
  obtain ⟨u,hv⟩:=s
  simp only at h0 hk h9 ⊢
  obtain ⟨k,rfl⟩:=Int.eq_ofNat_of_zero_le hk.1
  have hk9:k<9:=by omega
  have hu:=hk.2.2
  rw[Int.toNat_natCast] at hu ⊢
  have hp:(0:Int)<2 ^ (7*(k+1)):=Int.pow_pos (by decide)
  have hp2:(2:Int) ^ (7*(k+1))=2 ^ (7*k)*128:=by rw[show 7*(k+1)=7*k+7 by omega,Int.pow_add];rfl
  have hp0:(0:Int)<2 ^ (7*k):=Int.pow_pos (by decide)
  have hm:b % 128*2 ^ (7*k)≤127*2 ^ (7*k):=Int.mul_le_mul_of_nonneg_right (by omega) (by omega)
  have hm0:0≤b % 128*2 ^ (7*k):=Int.mul_nonneg (by omega) (by omega)
  simp only[D4,Ak,Bool.and_eq_true,decide_eq_true_eq]
  refine⟨⟨by omega,by omega⟩,?_⟩
  rw[show min (Int.toNat (7*((k:Int)+1))) 64=7*(k+1) by omega,Int.fdiv_eq_ediv_of_nonneg _ (Int.le_of_lt hp)]
  exact Int.ediv_eq_zero_of_lt Q2 Q2
theorem Aoz {d:Dcd} {o:List Ev} {b a:Int} (h:Com d) (hb:0≤d.sK.bits∧d.sK.bits≤18446744073709551615) (ha:0≤a∧a≤d.aJ) (h1:d.mJ=1→d.sJ=[]) (hn:d.mJ≠1→0<d.sJ.length) (hk:Jo d=true)
  (hm:((d.mJ=1∨d.mJ=2∨d.mJ=3∨d.mJ=4)∧d.wK=0)∨(d.mJ=8∧A3 (Ci d.field.kind)=0∧0≤d.wK∧d.wK≤Eb d)):Bs (Bw ⟨d,o⟩ b a).d=true:=by
 have hcs:=h.sX ha
 have hbt:=Hy h.lv
 have hbb:=Rc (b:=b) hb.1 hb.2
 unfold Bw
 simp only
 split
 ·exact hcs.fail (by decide) ha.1
 ·split
  ·rename_i hc
   have hsn:=Ahv hb.1 hc
   unfold Wz
   simp only
   split
   ·exact(hcs.sK _).fail (by decide) h.aJ.1
   ·rename_i hx
    simp only[not_or,not_and] at hx
    have hcc:=hcs.sK (Ah d.sK b).1
    refine Jg hcc.lv (show 1≤d.mJ∧d.mJ≤9 by omega) hcc.aJ hcc.st hcc.ut hcc.wi hcc.fl ?_ ?_ ?_ hk ?_
    ·show (if d.mJ=9 then _ else _)=true
     rw[if_neg (by omega)];exact decide_eq_true h.en
    ·show (if d.mJ=1 then decide (d.sJ=[]) else if d.mJ=9 then true else decide (1≤Eb d))=true
     split
     ·rename_i hm1;exact decide_eq_true (h1 hm1)
     ·rename_i hm1
      rw[if_neg (by omega)];exact decide_eq_true (by have:=hx.1 hm1;omega)
    ·show (if d.mJ=6∨d.mJ=7∨d.mJ=8 then Ak d.wK 1 (Eb d) else decide (d.wK=0))=true
     split
     ·have:=hx.2 (by omega)
      simp only[Ak,Bool.and_eq_true,decide_eq_true_eq];omega
     ·exact decide_eq_true (by omega)
    ·have hw:By (Hx (Mv d a) (Ah d.sK b).1)=0:=by
      show (if d.mJ=5 then A3 d.wJ else if d.mJ=8 then A3 (Ci d.field.kind) else 0)=0
      rw[if_neg (by omega)]
      split<;>omega
     unfold J9
     rw[hw,if_neg (by decide)]
     show (if d.mJ=6∨d.mJ=7∨d.mJ=9 then decide ((Ah d.sK b).1=scn0) else D4 (Ah d.sK b).1)=true
     rw[if_neg (by omega)]
     exact hsn
  ·split
   ·rename_i hm1
    exact Aj2 (hcs.sK _) (show d.wK=0 by omega) hbb.1
   ·split
    ·rename_i hm1
     exact Aoy (hcs.sK _) (show d.wK=0 by omega)
    ·split
     ·rename_i hm1
      refine Ang (hcs.sK _) (show d.wK=0 by omega) hbb.1 ?_
      unfold Jo at hk
      rw[if_neg (by omega),if_neg (by omega),if_neg (by omega),if_pos hm1] at hk
      simp only[Bool.and_eq_true,decide_eq_true_eq,Amh,Bool.or_eq_true] at hk
      rw[hk.1] at hk
      exact hk.2
     ·rename_i hc1 hc2 hc3 hc4 hc5
      have hcc:=hcs.sK scn0
      refine Ge ⟨⟨Cd hcc.lv rfl rfl,hcc.aJ,hcc.st,hcc.ut,hcc.wi,hcc.fl,hcc.en⟩,rfl,hn hc3,?_⟩
      rcases hm with hm|hm
      ·exact .inl ⟨by show (if d.mJ=8 then (8:Int) else 2)=2;rw[if_neg (by omega)],hm.2⟩
      ·refine .inr (.inr (.inr ⟨by show (if d.mJ=8 then (8:Int) else 2)=8;rw[if_pos hm.1],?_,hm.2.2.1,hm.2.2.2,?_⟩))
       ·unfold Jo at hk
        rw[if_neg (by omega),if_pos hm.1] at hk
        exact hk
       ·right;show A3 (Ci d.field.kind)≤d.wK;omega
theorem Aj4 {s:Scn} {b w:Int} (h:0≤s.hJ∧s.hJ+1<w) (hw:w≤8) (hf:Int.fdiv s.bits (2 ^ min (Int.toNat (8*s.hJ)) 64)=0) (hb:0≤b∧b≤255):(B2 s b).hJ=s.hJ+1∧Int.fdiv (B2 s b).bits (2 ^ min (Int.toNat (8*(s.hJ+1))) 64)=0:=by
 obtain ⟨u,hv⟩:=s
 simp only at h hf
 unfold B2
 rw[if_pos ⟨by simp only[Ak,Bool.and_eq_true,decide_eq_true_eq];omega,by simp only[Ak,Bool.and_eq_true,decide_eq_true_eq];omega⟩]
 refine⟨rfl,?_⟩
 simp only
 obtain ⟨k,rfl⟩:=Int.eq_ofNat_of_zero_le h.1
 have hk:k<7:=by omega
 rw[show min (Int.toNat (8*(k:Int))) 64=8*k by omega] at hf ⊢
 rw[show min (Int.toNat (8*((k:Int)+1))) 64=8*(k+1) by omega]
 have hp0:(0:Int)<2 ^ (8*k):=Int.pow_pos (by decide)
 have hp:(0:Int)<2 ^ (8*(k+1)):=Int.pow_pos (by decide)
 have hp2:(2:Int) ^ (8*(k+1))=2 ^ (8*k)*256:=by rw[show 8*(k+1)=8*k+8 by omega,Int.pow_add];rfl
 have hp3:(2:Int) ^ (8*(k+1))≤2 ^ 56:=by
  rcases (show k=0∨k=1∨k=2∨k=3∨k=4∨k=5∨k=6 by omega) with rfl|rfl|rfl|rfl|rfl|rfl|rfl<;>decide
 have hp56:(2:Int) ^ 56=72057594037927936:=rfl
 rw[Int.fdiv_eq_ediv_of_nonneg _ (Int.le_of_lt hp0)] at hf
 have hd:=Int.mul_ediv_add_emod u (2 ^ (8*k))
 rw[hf,Int.mul_zero,Int.zero_add] at hd
 have hu0:=Int.emod_nonneg u (show (2:Int) ^ (8*k)≠0 by omega)
 have hu1:=Int.emod_lt_of_pos u hp0
 have hm:b*2 ^ (8*k)≤255*2 ^ (8*k):=Int.mul_le_mul_of_nonneg_right (by omega) (by omega)
 have hm0:0≤b*2 ^ (8*k):=Int.mul_nonneg (by omega) (by omega)
 rw[Int.fdiv_eq_ediv_of_nonneg _ (Int.le_of_lt hp),IntKind.wrap_u64,IntKind.wrap_u64]
 have e1:b*2 ^ (8*k) % 18446744073709551616=b*2 ^ (8*k):=Int.emod_eq_of_lt hm0 (by omega)
 rw[e1,Int.emod_eq_of_lt (by omega) (by omega)]
 exact Int.ediv_eq_zero_of_lt Q2 Q2
theorem Ao0 {d:Dcd} {o:List Ev} {b:Int} (h:Com d) (hn:0<d.sJ.length) (hk:Jo d=true) (hb:0≤b∧b≤255) (h0:0≤d.sK.hJ∧d.sK.hJ≤By d-1) (hf:Int.fdiv d.sK.bits (2 ^ min (Int.toNat (8*d.sK.hJ)) 64)=0) (hr:By d-d.sK.hJ-1≤Qe d)
  (hm:(d.mJ=5∧d.wK=0)∨(d.mJ=8∧0≤d.wK∧d.wK≤Eb d)):Bs (D5 ⟨d,o⟩ b).d=true:=by
 have hbt:=Hy h.lv
 have hwb:0≤By d∧By d≤8:=by
  have h1:=En d.wJ
  have h2:=En (Ci d.field.kind)
  unfold By
  split
  ·omega
  ·split<;>omega
 have hro:Qe d=if d.mJ=8 then d.wK else Eb d:=rfl
 unfold D5
 simp only
 split
 ·rename_i hx
  have h1:d.sK.hJ+1<By d:=by
   unfold B2 at hx
   rw[if_pos ⟨by simp only[Ak,Bool.and_eq_true,decide_eq_true_eq];omega,by simp only[Ak,Bool.and_eq_true,decide_eq_true_eq];omega⟩] at hx
   exact hx
  have hfn:=Aj4 ⟨h0.1,h1⟩ hwb.2 hf hb
  have hcc:=h.sK (B2 d.sK b)
  refine Jg hcc.lv (show 1≤d.mJ∧d.mJ≤9 by omega) hcc.aJ hcc.st hcc.ut hcc.wi hcc.fl ?_ ?_ ?_ hk ?_
  ·show (if d.mJ=9 then _ else _)=true
   rw[if_neg (by omega)];exact decide_eq_true h.en
  ·show (if d.mJ=1 then decide (d.sJ=[]) else if d.mJ=9 then true else decide (1≤Eb d))=true
   rw[if_neg (by omega),if_neg (by omega)]
   refine decide_eq_true ?_
   split at hro<;>omega
  ·show (if d.mJ=6∨d.mJ=7∨d.mJ=8 then Ak d.wK 1 (Eb d) else decide (d.wK=0))=true
   split
   ·rw[if_pos (by omega)] at hro
    simp only[Ak,Bool.and_eq_true,decide_eq_true_eq];omega
   ·exact decide_eq_true (by omega)
  ·have hw:By (Hx d (B2 d.sK b))=By d:=rfl
   have hrr:Qe (Hx d (B2 d.sK b))=Qe d:=rfl
   have hss:(Hx d (B2 d.sK b)).sK=B2 d.sK b:=rfl
   unfold J9
   rw[hw,if_pos (by omega),hrr,hss,hfn.1]
   simp only[Ak,Bool.and_eq_true,decide_eq_true_eq]
   exact⟨⟨⟨by omega,by omega⟩,hfn.2⟩,by omega⟩
 ·have hcc:=h.sK scn0
  have hcv:Com (Bt ⟨Hx d scn0,o⟩ (B2 d.sK b).bits).d:=⟨Cd hcc.lv rfl rfl,hcc.aJ,hcc.st,hcc.ut,hcc.wi,hcc.fl,hcc.en⟩
  split
  ·exact hcv.fail (by decide) h.aJ.1
  ·rename_i hx
   refine Ge ⟨hcv,rfl,hn,?_⟩
   rcases hm with hm|hm
   ·exact .inl ⟨by show (if d.mJ=8 then (8:Int) else 2)=2;rw[if_neg (by omega)],hm.2⟩
   ·have hw:By d=A3 (Ci d.field.kind):=by unfold By;rw[if_neg (by omega),if_pos hm.1]
    refine .inr (.inr (.inr ⟨by show (if d.mJ=8 then (8:Int) else 2)=8;rw[if_pos hm.1],?_,hm.2.1,hm.2.2,?_⟩))
    ·unfold Jo at hk
     rw[if_neg (by omega),if_pos hm.1] at hk
     exact hk
    ·show d.wK=0∨A3 (Ci d.field.kind)≤d.wK
     omega
theorem Anh {d:Dcd} {o:List Ev} {b:Int} (h:Com d) (h1:1≤d.aJ) (hm:d.mJ=6) (hk:Gu d.field.kind=true) (hw:0≤d.wK∧d.wK≤Eb d) (hn:0<d.sJ.length) (hs:d.sK=scn0):Bs (E0 ⟨d,o⟩ b).d=true:=by
 unfold E0
 simp only
 split
 ·split
  ·exact h.fail (by decide) (by omega)
  ·rename_i u hu
   exact Ge ⟨⟨Cd h.lv rfl rfl,h.aJ,h.st,Afe hu,h.wi,h.fl,h.en⟩,hs,hn,.inr (.inl ⟨hm,hk,hw.1,hw.2⟩)⟩
 ·exact Ge ⟨h,hs,hn,.inr (.inl ⟨hm,hk,hw.1,hw.2⟩)⟩
theorem Amk {u:Int} {k:Nat} (hk:k≤64) (h:Int.fdiv u (2 ^ k)=0):0≤u∧u≤18446744073709551615:=by
 have hp0:(0:Int)<2 ^ k:=Int.pow_pos (by decide)
 rw[Int.fdiv_eq_ediv_of_nonneg _ (Int.le_of_lt hp0)] at h
 have hd:=Int.mul_ediv_add_emod u (2 ^ k)
 rw[h,Int.mul_zero,Int.zero_add] at hd
 have hu0:=Int.emod_nonneg u (show (2:Int) ^ k≠0 by omega)
 have hu1:=Int.emod_lt_of_pos u hp0
 have hp:(2:Nat) ^ k≤2 ^ 64:=Nat.pow_le_pow_right (by decide) hk
 have hc:((2 ^ k:Nat):Int)=(2:Int) ^ k:=by simp
 have h64:(2:Nat) ^ 64=18446744073709551616:=rfl
 omega
theorem Rf {d:Dcd} (h:Bs d=true):0≤d.sK.bits∧d.sK.bits≤18446744073709551615:=by
 have hs:=(K7 h).2.2.2.2.2.2.2.2.2.2.2
 unfold J9 at hs
 split at hs
 ·simp only[Bool.and_eq_true,decide_eq_true_eq] at hs
  exact Amk (Nat.min_le_right _ _) hs.1.2
 ·split at hs
  ·have e:d.sK=scn0:=of_decide_eq_true hs
   rw[e];decide
  ·simp only[D4,Bool.and_eq_true,decide_eq_true_eq] at hs
   exact Amk (Nat.min_le_right _ _) hs.2
theorem Ahw {d:Dcd} (h:d.sJ.length≠0):Eb (Di d)=Eb d-1:=by
 show (List.getD (Di d).sJ ((Di d).sJ.length-1) Ap3).left=_
 rw[Hd]
 unfold Di
 simp only
 rw[if_neg h,List.getD_eq_getElem?_getD,List.getElem?_set_self (by omega)]
 rfl
theorem Ani {d:Dcd} {o:List Ev} {b:Int} (hok:Bs d=true) (h9:d.mJ≠9) (hat:d.aJ<1000000000) (hb:0≤b∧b≤255):Bs (Er ⟨d,o⟩ b).d=true:=by
 obtain ⟨lv,hm,hat0,hst,hut,hwi,hfl,hen,hsk,hwd,hkd,hsc⟩:=K7 hok
 have hbits:=Rf hok
 have hs:=Aaa hok h9
 have hms:=(Z9 hok hbits).step hs.1 hs.2.1 hs.2.2.1
 have hw:=Z8 hwd
 have hc:Com (Di d):=⟨hms.lv,(show 0≤d.aJ+1∧d.aJ+1≤1000000000 by omega),(show 0≤d.sX∧d.sX≤d.aJ+1 by omega),hut,hwi,hfl,hs.2.2.2.2⟩
 have hk:Jo (Di d)=true:=hkd
 have htp:d.mJ≠1→1≤Eb d:=fun h1=>by unfold J4 at hsk;rw[if_neg h1,if_neg h9] at hsk;exact of_decide_eq_true hsk
 have hn:d.mJ≠1→0<d.sJ.length:=fun h1=>by
  have:=htp h1
  by_cases h0:d.sJ.length=0
  ·rw[Z6 (List.eq_nil_of_length_eq_zero h0)] at this;omega
  ·omega
 have hns:d.mJ≠1→0<(Di d).sJ.length:=fun h1=>by rw[Hd];exact hn h1
 have ht:d.mJ≠1→Eb (Di d)=Eb d-1:=fun h1=>Ahw (by have:=hn h1;omega)
 have hwa:(Di d).wK=if d.mJ=6∨d.mJ=7∨d.mJ=8 then d.wK-1 else d.wK:=rfl
 have hwb:=En (Ci d.field.kind)
 unfold Er
 simp only
 split
 ·rename_i h6
  have hw1:=hw.1 (by omega)
  rw[if_pos (by omega)] at hwa
  have ht:=ht (by omega)
  refine Anh hc (show 1≤d.aJ+1 by omega) h6 ?_ Q2 (hns Q2) ?_
  ·unfold Jo at hkd;rw[if_pos h6] at hkd;exact hkd
  ·unfold J9 By at hsc
   rw[if_neg (show¬d.mJ=5 by omega),if_neg (show¬d.mJ=8 by omega),if_neg (by decide),if_pos (by omega)] at hsc
   exact of_decide_eq_true hsc
 ·split
  ·rename_i h6 h7
   have hw1:=hw.1 (by omega)
   rw[if_pos (by omega)] at hwa
   have ht:=ht (by omega)
   refine Ge ⟨hc,?_,hns Q2,.inr (.inr (.inl ⟨h7,by show 0≤(Di d).wK;omega,by show (Di d).wK≤Eb (Di d);omega⟩))⟩
   unfold J9 By at hsc
   rw[if_neg (show¬d.mJ=5 by omega),if_neg (show¬d.mJ=8 by omega),if_neg (by decide),if_pos (by omega)] at hsc
   exact of_decide_eq_true hsc
  ·rename_i h6 h7
   split
   ·rename_i h0
    unfold J9 at hsc
    rw[if_pos h0] at hsc
    simp only[Bool.and_eq_true,decide_eq_true_eq] at hsc
    have hh:=Ar hsc.1.1
    have hwe:By (Di d)=By d:=rfl
    have hmm:d.mJ=5∨d.mJ=8:=by unfold By at h0;split at h0<;>(try split at h0)<;>omega
    have ht:=ht (by omega)
    have hr1:Qe d=if d.mJ=8 then d.wK else Eb d:=rfl
    have hr2:Qe (Di d)=if d.mJ=8 then (Di d).wK else Eb (Di d):=rfl
    refine Ao0 hc (hns Q2) hk hb (by rw[hwe];exact hh) hsc.1.2 ?_ ?_
    ·rw[hwe]
     show By d-d.sK.hJ-1≤Qe (Di d)
     rcases hmm with h5|h8
     ·rw[if_neg (by omega)] at hr1 hr2;omega
     ·rw[if_pos h8] at hr1 hr2;rw[if_pos (by omega)] at hwa;omega
    ·rcases hmm with h5|h8
     ·rw[if_neg (by omega)] at hwa
      exact .inl ⟨h5,by rw[hwa];exact hw.2 Q2⟩
     ·rw[if_pos (by omega)] at hwa
      have hw1:=hw.1 (by omega)
      exact .inr ⟨h8,by omega,by omega⟩
   ·rename_i h0
    have h5:d.mJ≠5:=fun h5=>by
     unfold Jo at hkd
     rw[if_neg (by omega),if_neg (by omega),if_neg (by omega),if_neg (by omega),if_pos h5] at hkd
     simp only[Bool.and_eq_true,decide_eq_true_eq] at hkd
     unfold By at h0
     rw[if_pos h5] at h0
     omega
    refine Aoz hc hbits (show 0≤d.aJ∧d.aJ≤d.aJ+1 by omega) (fun h1=>?_) hns hk ?_
    ·unfold J4 at hsk
     rw[if_pos (show d.mJ=1 from h1)] at hsk
     have e:d.sJ=[]:=of_decide_eq_true hsk
     exact List.eq_nil_of_length_eq_zero (by rw[Hd,e];rfl)
    ·by_cases h8:d.mJ=8
     ·rw[if_pos (by omega)] at hwa
      have hw1:=hw.1 (by omega)
      have ht:=ht (by omega)
      refine .inr ⟨h8,?_,by omega,by omega⟩
      unfold By at h0
      rw[if_neg (by omega),if_pos h8] at h0
      show A3 (Ci d.field.kind)=0
      omega
     ·rw[if_neg (by omega)] at hwa
      exact .inl ⟨(show d.mJ=1∨d.mJ=2∨d.mJ=3∨d.mJ=4 by omega),by rw[hwa];exact hw.2 Q2⟩
def La (o:List Ev) (m:Mac):Mac:=⟨m.d,o++m.oJ⟩
theorem Ft (o:List Ev) (m:Mac) (c a:Int):A1 (La o m) c a=La o (A1 m c a):=by simp[A1,La,List.append_assoc]
theorem Y7 (o:List Ev) (m:Mac):Az (La o m)=(Az m).map (La o):=by
 have hd:(La o m).d=m.d:=rfl
 unfold Az
 rw[hd]
 split
 ·split<;>simp[A1,La,List.append_assoc]
 ·split
  ·simp[La]
  ·split
   ·split<;>simp[La,List.append_assoc]
   ·rfl
theorem Lv (o:List Ev): ∀(m:Mac),Af (La o m)=La o (Af m):=by
 suffices ∀(k:Nat) (m:Mac),wM m≤k→Af (La o m)=La o (Af m) from fun m=>this _ m (Nat.le_refl _)
 intro k
 induction k with
 |zero=>
  intro m hk
  have hp:=Y7 o m
  cases h:Az m with
  |none=>rw[B8 h];rw[h] at hp;exact B8 hp
  |some q=>have:=(Cg h).1;omega
 |succ k ih=>
  intro m hk
  have hp:=Y7 o m
  cases h:Az m with
  |none=>rw[B8 h];rw[h] at hp;exact B8 hp
  |some q=>
   rw[h] at hp
   rw[Cs h,Cs hp]
   exact ih q (by have:=(Cg h).1;omega)
theorem E5 {o:List Ev} {d:Dcd} {p r:List Ev} (h:r=o++p):Af ⟨d,r⟩=La o (Af ⟨d,p⟩):=by subst h;exact Lv o ⟨d,p⟩
theorem Afi (o:List Ev) (m:Mac) (u:Int):C6 (La o m) u=La o (C6 m u):=by
 have hd:(La o m).d=m.d:=rfl
 unfold C6
 rw[hd]
 split
 ·exact Ft _ _ _ _
 ·exact E5 (List.append_assoc _ _ _)
theorem Aj5 (o:List Ev) (m:Mac) (u:Int):Ex (La o m) u=La o (Ex m u):=by
 have hd:(La o m).d=m.d:=rfl
 unfold Ex
 rw[hd]
 split
 ·exact Ft _ _ _ _
 ·split
  ·exact Ft _ _ _ _
  ·split
   ·exact Ft _ _ _ _
   ·split
    ·simp[A1,La,List.append_assoc]
    ·rfl
theorem Ahx (o:List Ev) (m:Mac) (u:Int):Cw (La o m) u=La o (Cw m u):=by
 have hd:(La o m).d=m.d:=rfl
 unfold Cw
 rw[hd]
 split
 ·exact Ft _ _ _ _
 ·split
  ·exact E5 rfl
  ·split
   ·split
    ·exact Ft _ _ _ _
    ·exact E5 (List.append_assoc _ _ _)
   ·split
    ·exact E5 (List.append_assoc _ _ _)
    ·split
     ·exact Ft _ _ _ _
     ·exact E5 rfl
theorem Ug (o:List Ev) (m:Mac) (u:Int):Bt (La o m) u=La o (Bt m u):=by
 unfold Bt La
 simp only
 by_cases h:m.d.field=fld0<;>simp[h,List.append_assoc]
theorem Aj6 (o:List Ev) (m:Mac) (b a:Int):Bw (La o m) b a=La o (Bw m b a):=by
 have hd:(La o m).d=m.d:=rfl
 have hq: ∀d:Dcd,(⟨d,(La o m).oJ⟩:Mac)=La o ⟨d,m.oJ⟩:=fun _=>rfl
 unfold Bw
 simp only[hd,hq]
 split
 ·exact Ft _ _ _ _
 ·split
  ·unfold Wz
   rw[hd]
   split
   ·exact Ft _ _ _ _
   ·rfl
  ·split
   ·exact Afi _ _ _
   ·split
    ·exact Aj5 _ _ _
    ·split
     ·exact Ahx _ _ _
     ·rw[Ug,Lv]
theorem Aj7 (o:List Ev) (m:Mac) (b:Int):D5 (La o m) b=La o (D5 m b):=by
 have hd:(La o m).d=m.d:=rfl
 have hq: ∀d:Dcd,(⟨d,(La o m).oJ⟩:Mac)=La o ⟨d,m.oJ⟩:=fun _=>rfl
 unfold D5
 simp only[hd,hq]
 split
 ·rfl
 ·split
  ·rw[Ug,Ft]
  ·rw[Ug,Lv]
theorem Ahy (o:List Ev) (m:Mac) (b:Int):E0 (La o m) b=La o (E0 m b):=by
 have hd:(La o m).d=m.d:=rfl
 unfold E0
 rw[hd]
 split
 ·split
  ·exact Ft _ _ _ _
  ·exact E5 (List.append_assoc _ _ _)
 ·exact E5 (List.append_assoc _ _ _)
theorem Ahz (o:List Ev) (m:Mac) (b:Int):Er (La o m) b=La o (Er m b):=by
 have hd:(La o m).d=m.d:=rfl
 have hq: ∀d:Dcd,(⟨d,(La o m).oJ⟩:Mac)=La o ⟨d,m.oJ⟩:=fun _=>rfl
 unfold Er
 simp only[hd,hq]
 split
 ·exact Ahy _ _ _
 ·split
  ·exact Lv _ _
  ·split
   ·exact Aj7 _ _ _
   ·exact Aj6 _ _ _ _
def Rw (m:Mac) (b:Int):Mac:=⟨(Cr m.d b).d,m.oJ++(Cr m.d b).oJ⟩
def C1 (m:Mac) (s:List UInt8):Mac:=s.foldl (fun m b=>Rw m (b.toNat:Int)) m
theorem Abt (m:Mac):C1 m []=m:=rfl
theorem G3 (m:Mac) (b:UInt8) (r:List UInt8):C1 m (b::r)=C1 (Rw m (b.toNat:Int)) r:=List.foldl_cons ..
theorem Afj {d:Dcd} {b:Int} (hok:Bs d=true) (ht:Fj d=true) (hb:0≤b∧b≤255):Cr d b=Er ⟨d,[]⟩ b:=by
 unfold Cr
 rw[if_pos ⟨hok,ht,by simp only[Ak,Bool.and_eq_true,decide_eq_true_eq];exact hb⟩]
theorem Afk {m:Mac} {b:Int} (hok:Bs m.d=true) (ht:Fj m.d=true) (hb:0≤b∧b≤255):Rw m b=Er m b:=by
 have h:=Ahz m.oJ ⟨m.d,[]⟩ b
 have e:La m.oJ ⟨m.d,[]⟩=m:=by cases m;simp[La]
 rw[e] at h
 unfold Rw
 rw[Afj hok ht hb,h];rfl
theorem Aef {d:Dcd} {b:Int} (h:Bs d=false∨Fj d=false):Cr d b=⟨d,[]⟩:=by
 unfold Cr
 rw[if_neg]
 rintro ⟨h1,h2,-⟩
 rcases h with h|h
 ·rw[h] at h1;cases h1
 ·rw[h] at h2;cases h2
theorem Aeg {m:Mac} {b:Int} (h:Bs m.d=false∨Fj m.d=false):Rw m b=m:=by
 unfold Rw
 rw[Aef h]
 cases m;simp
theorem Aeh {d:Dcd} (h:Fj d=true):d.mJ≠9∧d.aJ<1000000000:=by
 simpa only[Fj,Bool.and_eq_true,Bool.not_eq_true',decide_eq_false_iff_not,decide_eq_true_eq] using h
theorem Aad {d:Dcd} {b:Int} (hok:Bs d=true):Bs (Cr d b).d=true:=by
 unfold Cr
 split
 ·rename_i h
  have ht:=Aeh h.2.1
  exact Ani hok ht.1 ht.2 (Ar h.2.2)
 ·exact hok
theorem Abu {m:Mac} (h:Bs m.d=false): ∀s:List UInt8,C1 m s=m
 |[]=>rfl
 |b::r=>by rw[G3,Aeg (.inl h)];exact Abu h r
theorem Aae {m:Mac} (h:Fj m.d=false): ∀s:List UInt8,C1 m s=m
 |[]=>rfl
 |b::r=>by rw[G3,Aeg (.inr h)];exact Aae h r
theorem Afm {m:Mac} (h:Fj m.d=false) (s r:List UInt8):C1 m s=C1 m r:=by rw[Aae h,Aae h]
theorem Qi {d:Dcd} {b:Int} :(Cr d b).d.pJ=d.pJ∧((Cr d b).d.sJ.length:Int)≤max (d.sJ.length:Int) 8∧(Cr d b).oJ.length≤14∧((0≤d.sK.bits∧d.sK.bits≤18446744073709551615)→0≤(Cr d b).d.sK.bits∧(Cr d b).d.sK.bits≤18446744073709551615):=by
 cases hok:Bs d with
 |false=>rw[Aef (.inl hok)];exact⟨rfl,by simp only;omega,by simp,fun h=>h⟩
 |true=>
  have h1:=Aad (b:=b) hok
  have h2:=Cb (K7 hok).1
  have h3:=Cb (K7 h1).1
  exact⟨Aff.1,by omega,by have:=Ahs (d:=d) (b:=b);omega,fun _=>Rf h1⟩
theorem Aqd (b:UInt8):(0:Int)≤(b.toNat:Int)∧(b.toNat:Int)≤255:=by have:=b.toNat_lt;omega
theorem Xf: ∀(s:List UInt8) (m:Mac),(C1 m s).d.pJ=m.d.pJ∧((C1 m s).d.sJ.length:Int)≤max (m.d.sJ.length:Int) 8∧(C1 m s).oJ.length≤m.oJ.length+14*s.length∧((0≤m.d.sK.bits∧m.d.sK.bits≤18446744073709551615)→0≤(C1 m s).d.sK.bits∧(C1 m s).d.sK.bits≤18446744073709551615)
 |[],m=>⟨rfl,by show (m.d.sJ.length:Int)≤_;omega,Nat.le_refl _,fun h=>h⟩
 |b::r,m=>by
  have h1:=Qi (d:=m.d) (b:=(b.toNat:Int))
  have h2:=Xf r (Rw m (b.toNat:Int))
  rw[G3]
  have e1:(Rw m (b.toNat:Int)).d=(Cr m.d (b.toNat:Int)).d:=rfl
  have e2:(Rw m (b.toNat:Int)).oJ.length=m.oJ.length+(Cr m.d (b.toNat:Int)).oJ.length:=by simp[Rw]
  rw[e1,e2] at h2
  refine⟨h2.1.trans h1.1,by omega,by simp only[List.length_cons];omega,fun h=>h2.2.2.2 (h1.2.2.2 h)⟩
theorem Gp (s:List UInt8):List.map Bh (List.map (fun b=>(UInt8.toNat b:Int)) s)=s:=by
 rw[List.map_map]
 conv=>rhs;rw[←List.map_id s]
 apply List.map_congr_left
 intro b _
 simp[Bh]
def Uh (l:List Ev):Ev:=l.getD (l.length-1) ev0
def Vm (e:Ev) (t:List UInt8):Ev:=⟨e.kind,e.field,e.bits,e.len,t,e.code,e.aJ⟩
def tx:List Ev→Nat
 |[]=>0
 |e::r=>e.text.length+tx r
def J5 (o:List Ev) (e:Ev):List Ev:=
 if e.kind=4∧e.text=[] then o
 else if e.kind=4∧0<o.length∧(Uh o).kind=4 then o.set (o.length-1) (Vm (Uh o) ((Uh o).text++e.text))
 else o++[e]
def Pt (o l:List Ev):List Ev:=l.foldl J5 o
def Fu (l:List Ev):List Ev:=Pt [] l
theorem Y8 (o:List Ev):Pt o []=o:=rfl
theorem H9 (o:List Ev) (e:Ev) (r:List Ev):Pt o (e::r)=Pt (J5 o e) r:=List.foldl_cons ..
theorem Xg: ∀(a b:List Ev),tx (a++b)=tx a+tx b
 |[],b=>by simp[tx]
 |e::r,b=>by rw[List.cons_append,tx,tx,Xg r b];omega
theorem Amm: ∀ {l:List Ev} {i:Nat} {x:Ev},l[i]? =some x→x.text.length≤tx l
 |[],i,x,h=>by simp at h
 |y::r,0,x,h=>by simp at h;subst h;rw[tx];omega
 |y::r,i+1,x,h=>by
  have:=Amm (l:=r) (i:=i) (x:=x) (by simpa using h)
  rw[tx];omega
theorem Amn: ∀ {l:List Ev} {i:Nat} {x:Ev} (t:List UInt8),l[i]? =some x→tx (l.set i (Vm x (x.text++t)))=tx l+t.length
 |[],i,x,t,h=>by simp at h
 |y::r,0,x,t,h=>by simp at h;subst h;simp only[List.set_cons_zero,tx,Vm,List.length_append];omega
 |y::r,i+1,x,t,h=>by
  have:=Amn (l:=r) (i:=i) (x:=x) t (by simpa using h)
  simp only[List.set_cons_succ,tx,this];omega
theorem Vv {l:List Ev} {x:Ev} (h:l[l.length-1]? =some x):Uh l=x:=by unfold Uh;exact Wt h
theorem Afn (o:List Ev) (e:Ev):Uh (o++[e])=e:=Vv (by simp)
theorem Ns {o:List Ev} {e:Ev} (h:e.kind=4) (ht:e.text=[]):J5 o e=o:=by unfold J5;rw[if_pos ⟨h,ht⟩]
theorem Vb {o:List Ev} {e:Ev} (h:e.kind≠4):J5 o e=o++[e]:=by unfold J5;rw[if_neg (fun x=>h x.1),if_neg (fun x=>h x.1)]
theorem Ui {o:List Ev} {e:Ev} (ht:e.text≠[]) (hs: ¬(0<o.length∧(Uh o).kind=4)):J5 o e=o++[e]:=by unfold J5;rw[if_neg (fun x=>ht x.2),if_neg (fun x=>hs x.2)]
theorem Xh {o:List Ev} {e x:Ev} (hk:e.kind=4) (ht:e.text≠[]) (h0:0<o.length) (hx:o[o.length-1]? =some x) (hx4:x.kind=4):J5 o e=o.set (o.length-1) (Vm x (x.text++e.text)):=by
 unfold J5
 rw[if_neg (fun y=>ht y.2),if_pos ⟨hk,h0,by rw[Vv hx];exact hx4⟩,Vv hx]
theorem Ac5 {o:List Ev} {e f:Ev} {t:List UInt8} (hk:e.kind=4) (ht:e.text≠[]) (hf:f.kind=4):J5 (o++[Vm f t]) e=o++[Vm f (t++e.text)]:=by
 rw[Xh (x:=Vm f t) hk ht (by simp) (by simp) hf]
 have e1:(o++[Vm f t]).length-1=o.length:=by simp
 rw[e1,List.set_append_right _ _ (Nat.le_refl _)]
 simp[Vm]
def sep (o r:List Ev):Prop:= ∀x q,r=x::q→x.kind=4→¬(0<o.length∧(Uh o).kind=4)
theorem Ao1 {o l:List Ev} {i:Nat} {x:Ev} (h:sep o (l.drop i)) (hx:l[i]? =some x) (hk:x.kind=4): ¬(0<o.length∧(Uh o).kind=4):=h x _ (Do hx) hk
theorem Ah0 {o r:List Ev} {e:Ev} (h:e.kind≠4):sep (o++[e]) r:=fun _ _ _ _ x=>h (by rw[Afn] at x;exact x.2)
theorem Anj {r:List Ev} :sep [] r:=fun _ _ _ _ x=>absurd x.1 (Nat.lt_irrefl 0)
theorem Aei {o l:List Ev} {i:Nat} (h:l.length≤i∨∃x,l[i]? =some x∧x.kind≠4):sep o (l.drop i):=by
 intro x q hx hk
 exfalso
 rcases h with h|⟨y,hy,hn⟩
 ·rw[List.drop_eq_nil_of_le h] at hx;cases hx
 ·rw[Do hy] at hx
  cases hx
  exact hn hk
theorem Ac6 {o:List Ev} {f e:Ev} {t:List UInt8} (hf:f.kind=4) (hk:e.kind=4):J5 (o++[Vm f t]) e=o++[Vm f (t++e.text)]:=by
 by_cases ht:e.text=[]
 ·rw[Ns hk ht,ht,List.append_nil]
 ·exact Ac5 hk ht hf
def Aaf (o:List Ev) (f:Ev) (t:List UInt8) (fd:Bool) (r m:List Ev):Prop:=(fd=true→f.kind=4∧Pt (o++[Vm f t]) r=m)∧(fd=false→t=[]∧Pt o r=m)
theorem Aj8 {o r m:List Ev} {e:Ev} (hk:e.kind=4) (hs: ¬(0<o.length∧(Uh o).kind=4)) (h:Pt (J5 o e) r=m):Aaf o e e.text (!decide (e.text=[])) r m:=by
 by_cases ht:e.text=[]
 ·rw[Ns hk ht] at h;exact⟨fun x=>by simp[ht] at x,fun _=>⟨ht,h⟩⟩
 ·rw[Ui ht hs] at h;exact⟨fun _=>⟨hk,h⟩,fun x=>by simp[ht] at x⟩
theorem Aqj {o r m:List Ev} {f x:Ev} {t:List UInt8} {fd:Bool} (h:Aaf o f t fd (x::r) m) (hk:x.kind=4) (hf:fd=true):Aaf o f (t++x.text) fd r m:=by
 have h1:=h.1 hf
 refine⟨fun _=>⟨h1.1,?_⟩,fun y=>by rw[hf] at y;cases y⟩
 rw[H9,Ac6 h1.1 hk] at h1
 exact h1.2
theorem Aqk {o r m:List Ev} {f x:Ev} {t:List UInt8} {fd:Bool} (h:Aaf o f t fd (x::r) m) (hk:x.kind=4) (ht:x.text≠[]) (hf:fd=false) (hs: ¬(0<o.length∧(Uh o).kind=4)):Aaf o x (t++x.text) true r m:=by
 have h1:=h.2 hf
 refine⟨fun _=>⟨hk,?_⟩,fun y=>by cases y⟩
 rw[H9,Ui ht hs] at h1
 rw[h1.1]
 exact h1.2
theorem Aqm {o r m:List Ev} {f x:Ev} {t:List UInt8} {fd:Bool} (h:Aaf o f t fd (x::r) m) (hk:x.kind=4) (ht:x.text=[]) (hf:fd=false):Aaf o f (t++x.text) fd r m:=by
 have h1:=h.2 hf
 refine⟨fun y=>(by rw[hf] at y;cases y),fun _=>⟨by rw[h1.1,ht];rfl,?_⟩⟩
 rw[H9,Ns hk ht] at h1
 exact h1.2
theorem Ah1: ∀(l:List Ev) (i:Nat),tx (l.drop i)≤tx l
 |[],i=>by simp[tx]
 |e::r,0=>Nat.le_refl _
 |e::r,i+1=>by have:=Ah1 r i;rw[List.drop_succ_cons,tx];omega
theorem Afo (o:List Ev) (e:Ev):(J5 o e).length≤o.length+1:=by
 unfold J5
 split
 ·omega
 ·split<;>simp
theorem Y9: ∀(l o:List Ev),(Pt o l).length≤o.length+l.length
 |[],o=>Nat.le_refl _
 |e::r,o=>by
  have h1:=Afo o e
  have h2:=Y9 r (J5 o e)
  rw[H9,List.length_cons];omega
theorem Za (l:List Ev):(Fu l).length≤l.length:=by have:=Y9 l [];simpa [Fu] using this
end Go.Proofs.YtphecbmdhbphgaaGreat.Ax
