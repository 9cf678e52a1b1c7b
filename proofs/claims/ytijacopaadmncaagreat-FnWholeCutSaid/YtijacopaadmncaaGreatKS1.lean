/- Models. Numbers. Varints. Numbers of so Ns bytes; tags. -/
import Derived.Test.YtijacopaadmncaaGreatKB4
set_option linter.unusedSimpArgs false
set_option linter.unusedVariables false
namespace Go.Proofs.YtijacopaadmncaaGreat.Ax
open Go.RowKit
theorem Af {α:Type} {a b:α} {l m:List α} (h:a=b) (t:l=m):a::l=b::m:=by rw[h,t]
def vI (x:Int):V:= .c (.int .i64 x)
def vB (x:Bool):V:= .c (.bool x)
def vT (x:List UInt8):V:= .c (.str x)
def vO (j:Nat):V:= .c (.own j)
def vP (j:Nat):V:= .c (.ptr j 0)
theorem sB {a b:Bool} (h:a=b):(.v (.c (.bool a)):S)= .v (.c (.bool b)):=by rw[h]
theorem sI {a b:Int} (h:a=b):(.v (.c (.int .i64 a)):S)= .v (.c (.int .i64 b)):=by rw[h]
theorem dT {p:Prop} [Decidable p]:decide p=true↔p:=decide_eq_true_iff
theorem dF {p:Prop} [Decidable p]:decide p=false↔¬p:=decide_eq_false_iff_not
theorem M1 {a b:Bool} {P Q:Prop} (h:a=true↔P) (g:b=true↔Q):(a&&b)=true↔P∧Q:=by rw[Bool.and_eq_true,h,g]
theorem M2 {a b:Bool} {P Q:Prop} (h:a=true↔P) (g:b=false↔Q):(a&&b)=false↔(P→Q):=by rw[Bool.and_eq_false_imp,h,g]
theorem Bv {F:Fam} {j:F.ι} {tm:List (Nat×S)} {H:List Blk} (h1:tm=F.tm j) (h2:H=F.H j) (h:F.inv j):F.Has tm H:=⟨j,h,h1,h2⟩
theorem Ay {F:Fam} {i j:F.ι} {tm:List (Nat×S)} {H:List Blk} (h1:tm=F.tm j) (h2:H=F.H j) (h:F.inv j) (hm:F.mu j<F.mu i):F.Nxt i tm H:=⟨j,⟨h,hm⟩,h1,h2⟩
abbrev In {α:Type} (P Q:α→Prop):Prop:=(∃o,P o)∧∀o,P o→Q o
theorem Av {P : Program} {f : FuncId} {fn : Func} (hf : P.funcs[f]? = some fn) (hb : fn.body.isNone = false) (hn : (fn.name == "runtime.NumGoroutine") = false) {args : List V} {L L' : List Blk} {r : S} {w : DT Unit × Prop}
  (hw:Ahr P fn args L w.1 (fun _ r' Lp=>r'=r∧Lp=L')=w.2) (h:w.2):Fun P f args L r L':=Asp hf hb hn hw h
theorem Bz {P : Program} {ι : Type} {f : FuncId} {fn : Func} (hf : P.funcs[f]? = some fn) (hb : fn.body.isNone = false) (hn : (fn.name == "runtime.NumGoroutine") = false) {args : List V} {L : List Blk} {L' : ι → List Blk} {r : ι → S} {good : ι → Prop} {w : DT ι × Prop}
  (hw:Ahr P fn args L w.1 (fun i r' Lp=>good i∧r'=r i∧Lp=L' i)=w.2) (h:w.2): ∃i,good i∧Fun P f args L (r i) (L' i):=Aqv hf hb hn hw h
abbrev Bc (p:Bool) (A B:Prop):Prop:=(p=true→A)∧(p=false→B)
abbrev Lf (a b:S) (x y:List Blk):Prop:=a=b∧x=y
abbrev Sx {α:Type} (o:Option α):α→Prop:=fun x=>o=some x
abbrev El {α:Type} (o:Option α) (Q:α→Prop):Prop:=(∃x,o=some x)∧∀x,o=some x→Q x
abbrev wI (x:Int):Prop:=(.v (vI (IntKind.i64.wrap x)):S)= .v (vI x)
abbrev wU (x:Int):Prop:=(.v (.c (.int .u64 (IntKind.u64.wrap x))):S)= .v (.c (.int .u64 x))
abbrev Fp:=Fun Tryz.prog
theorem zE {β:Type} {p:Prop} (a b:β) (h:a=b→p) (h1:a=b):p:=h h1
theorem zD {β γ:Type} {p:Prop} (a b:β) (c d:γ) (h:a=b→c=d→p) (h1:a=b) (h2:c=d):p:=h h1 h2
theorem dsp {p:Prop} [Decidable p] {A B:Prop} (h1:decide p=true→p→A) (h2:decide p=false→¬p→B):(decide p=true→A)∧(decide p=false→B):=⟨fun h=>h1 h (of_decide_eq_true h),fun h=>h2 h (of_decide_eq_false h)⟩
/-! ### Structures -/
structure Scn where
 bits:Int
 have_:Int
 deriving DecidableEq,Inhabited
structure Utf where
 want:Int
 low:Int
 high:Int
 deriving DecidableEq,Inhabited
structure Pln where
 shapes:List Shp
 root:Int
 deep:Int
 most:Int
 deriving DecidableEq,Inhabited
structure Dcd where
 plan:Pln
 mode:Int
 stack:List Lev
 scan:Scn
 start:Int
 at_:Int
 field:Fld
 wire:Int
 want:Int
 utf:Utf
 end_:Ev
 deriving DecidableEq,Inhabited
def fld0:Fld:=⟨0,0,false,false,0⟩
def ev0:Ev:=⟨0,0,0,0,[],0,0⟩
def utf0:Utf:=⟨0,0,0⟩
theorem C5 {α:Type} {l:List α} {i:Nat} {x:α} (h:l[i]? =some x):l.drop i=x::l.drop (i+1):=by
 have hl:=(List.getElem?_eq_some_iff.1 h).1
 rw[List.drop_eq_getElem_cons hl]
 congr 1
 rw[List.getElem?_eq_getElem hl] at h
 exact Option.some.inj h
theorem Ar {b:Bool} (h:(!b)=true):b=false:=by cases b<;>simp_all
theorem Ao {b:Bool} (h:(!b)=false):b=true:=by cases b<;>simp_all
theorem N0 {α:Type} {l:List α} {i:Nat} {x d:α} (h:l[i]? =some x):l.getD i d=x:=by simp[List.getD,h]
theorem E2 {α:Type} {l:List α} {i:Nat} (h: ¬((i:Nat):Int)<((l.length:Nat):Int)):l.drop i=[]:=List.drop_eq_nil_of_le (by omega)
/-! ### Words of numbers -/
theorem Ki {k:IntKind} {a m:Int} (h:0≤a):(.v (.c (.int k (Int.tmod a m))):S)= .v (.c (.int k (a % m))):=by rw[Int.tmod_eq_emod_of_nonneg h]
theorem H6 {a m:Int} (h:0≤a) (h2:a≤18446744073709551615) (hm:0<m):(.v (.c (.int .u64 (IntKind.u64.wrap (Int.tdiv a m)))):S)= .v (.c (.int .u64 (a / m))):=by
 rw[Int.tdiv_eq_ediv_of_nonneg h]
 have h3:=Int.ediv_nonneg h (Int.le_of_lt hm)
 have h4:=Int.ediv_le_self m h
 exact Bm Q5 Q5
theorem Aju {a b:Int} {k:Nat} (ha:0≤a) (hk:a<2 ^ k) {c:Int} (hc:0≤c) (hb:b=c*2 ^ k) (hs:b+2 ^ k≤18446744073709551616):(((BitVec.ofInt 64 a|||BitVec.ofInt 64 b).toNat:Nat):Int)=a+b:=by
 obtain ⟨n,rfl⟩:=Int.eq_ofNat_of_zero_le ha
 obtain ⟨m,rfl⟩:=Int.eq_ofNat_of_zero_le hc
 have hb':b=((m*2 ^ k:Nat):Int):=by rw[hb,Int.natCast_mul,Int.natCast_pow];rfl
 have hp:(0:Int)<2 ^ k:=Int.pow_pos (by decide)
 subst hb'
 have e:((2 ^ k:Nat):Int)=2 ^ k:=by rw[Int.natCast_pow];rfl
 rw[←e] at hk hs hp
 have h1:n<2 ^ k:=by omega
 have h2:m*2 ^ k+2 ^ k≤18446744073709551616:=by omega
 have h3:n<2 ^ 64:=by omega
 have h4:m*2 ^ k<2 ^ 64:=by omega
 rw[BitVec.toNat_or,BitVec.ofInt_natCast,BitVec.ofInt_natCast,BitVec.toNat_ofNat,BitVec.toNat_ofNat,Nat.mod_eq_of_lt h3,Nat.mod_eq_of_lt h4,Nat.or_comm,Nat.mul_comm m,←Nat.two_pow_add_eq_or_of_lt h1]
 rw[Nat.mul_comm,Int.natCast_add,Int.add_comm]
/-! ### Kinds, wires, numbers -/
def D8 (n:Int):Bool:=Aw n 1 536870911&& !Aw n 19000 19999
def Ha (w:Int):Bool:=decide (w=0)||decide (w=1)||decide (w=2)||decide (w=5)
def Ec (k:Int):Bool:=Aw k 1 8
def Bs (k:Int):Bool:=Aw k 1 5
def A3 (k:Int):Int:=if Ec k then (if k=4 then 5 else if k=5 then 1 else if k≤3 then 0 else 2) else-1
def Az (w:Int):Int:=if w=1 then 8 else if w=5 then 4 else 0
def Cb (k u:Int):Bool:=if k=3 then decide (u≤1) else if k=4 then decide (u≤4294967295) else Bs k
def Ww (f:Fld):Bool:=f.rep&&Bs f.kind
def D0 (f:Fld) (w:Int):Bool:=decide (w=A3 f.kind)||(decide (w=2)&&Ww f)
def Cf (k:Int):Bool:=decide (k=2)||decide (k=3)||decide (k=6)
theorem J0 (w:Int):0≤Az w∧Az w≤8:=by unfold Az;split<;>(try split)<;>omega
theorem Ane (k:Int): -1≤A3 k∧A3 k≤5:=by unfold A3;repeat' split;all_goals omega
/-! ### Schemas -/
def H7 (f:Fld) (n:Int):Bool:=D8 f.number&&Ec f.kind&& !(f.packed&&(!f.rep|| !Bs f.kind))&&(if f.kind=8 then Aw f.msg 0 (n-1) else decide (f.msg= -1))
def Do (n:Int):Int→List Fld→Bool
 |_,[]=>true
 |b,f::r=>decide (b<f.number)&&H7 f n&&Do n f.number r
def Ew (n:Int):Int→List Shp→Bool
 |_,[]=>true
 |b,x::r=>decide (b<x.id)&&decide (x.id≤99)&&decide ((x.fields.length:Int)≤8)&&Do n 0 x.fields&&Ew n x.id r
def Cp (l:List Shp):Bool:=decide ((l.length:Int)≤6)&&Ew (l.length:Int) 0 l
def G0 (l:List Fld) (n:Int):Option Fld:=l.find? fun f=>decide (f.number=n)
def Auv:Shp:=⟨0,[]⟩
def fieldAt (l:List Shp) (s n:Int):Option Fld:=if Aw s 0 ((l.length:Int)-1) then G0 (l.getD s.toNat Auv).fields n else none
def B3 (p:Pln):Bool:=Cp p.shapes&&Aw p.root 0 ((p.shapes.length:Int)-1)&&Aw p.deep 1 8&&Aw p.most 0 2000
theorem Qv {f:Fld} {n:Int} (h:H7 f n=true):1≤f.number∧f.number≤536870911∧1≤f.kind∧f.kind≤8∧(f.kind=8→0≤f.msg∧f.msg≤n-1)∧(f.kind≠8→f.msg= -1):=by
 simp only[H7,D8,Ec,Aw,Bool.and_eq_true,decide_eq_true_eq] at h
 obtain ⟨⟨⟨h1,h2⟩,h3⟩,h4⟩:=h
 refine⟨h1.1.1,h1.1.2,h2.1,h2.2,fun hk=>?_,fun hk=>?_⟩
 ·rw[if_pos hk] at h4;simpa using h4
 ·rw[if_neg hk] at h4;simpa using h4
theorem K2 {l:List Shp} (h:Cp l=true):l.length≤6:=by
 simp only[Cp,Bool.and_eq_true,decide_eq_true_eq] at h;omega
theorem C6 {p:Pln} (h:B3 p=true):p.shapes.length≤6∧Cp p.shapes=true∧0≤p.root∧p.root<(p.shapes.length:Int)∧1≤p.deep∧p.deep≤8∧0≤p.most∧p.most≤2000:=by
 simp only[B3,Aw,Bool.and_eq_true,decide_eq_true_eq] at h
 have:=K2 h.1.1.1
 refine⟨this,h.1.1.1,?_⟩;omega
theorem Qw {n:Int} : ∀ {b:Int} {l:List Fld},Do n b l=true→∀f∈l,H7 f n=true∧b<f.number
 |_,[],_,f,hf=>by cases hf
 |b,g::r,h,f,hf=>by
  simp only[Do,Bool.and_eq_true,decide_eq_true_eq] at h
  rcases List.mem_cons.1 hf with rfl|hf
  ·exact⟨h.1.2,h.1.1⟩
  ·have:=Qw h.2 f hf;exact⟨this.1,by omega⟩
theorem Me {n:Int} : ∀ {b:Int} {l:List Shp},Ew n b l=true→∀x∈l,(x.fields.length≤8∧Do n 0 x.fields=true)∧b<x.id∧x.id≤99
 |_,[],_,f,hf=>by cases hf
 |b,g::r,h,f,hf=>by
  simp only[Ew,Bool.and_eq_true,decide_eq_true_eq] at h
  rcases List.mem_cons.1 hf with rfl|hf
  ·exact⟨⟨by omega,h.1.2⟩,h.1.1.1.1,h.1.1.1.2⟩
  ·have:=Me h.2 f hf;exact⟨this.1,by omega,this.2.2⟩
theorem Cy {l:List Shp} (h:Cp l=true): ∀x∈l,List.length x.fields≤1000:=fun x hx=>by
 simp only[Cp,Bool.and_eq_true] at h
 have:=(Me h.2 x hx).1.1
 omega
theorem K3 {l:List Shp} {s n:Int} {f:Fld} (hl:Cp l=true) (h:fieldAt l s n=some f):H7 f (l.length:Int)=true∧f.number=n:=by
 unfold fieldAt at h
 split at h
 ·rename_i hs
  have hs:=Bp hs
  simp only[Cp,Bool.and_eq_true,decide_eq_true_eq] at hl
  have hm:l.getD s.toNat Auv∈l:=by
   rw[List.getD_eq_getElem?_getD,List.getElem?_eq_getElem (by omega)]
   exact List.getElem_mem _
  have hx:=(Me hl.2 _ hm).1.2
  have hf:=List.mem_of_find?_eq_some h
  have hp:=List.find?_some h
  exact⟨(Qw hx f hf).1,by simpa using hp⟩
 ·cases h
/-! ### Tags -/
def Bo (n w:Int):Int:=if Aw n 1 536870911&&Aw w 0 7 then 8*n+w else 0
def Kp (u:Int):Bool:=Aw u 8 4294967295
def B9 (u:Int):Int:=if Kp u then u / 8 else 0
def B1 (u:Int):Int:=if Kp u then u % 8 else 0
theorem Au (n w:Int):0≤Bo n w∧Bo n w≤4294967295:=by
 unfold Bo Aw;split<;>simp_all<;>omega
/-! ### Utf-8 -/
def Qg (u:Utf) (w l h:Int):Bool:=decide (u.want=w)&&(decide (u.low=l)&&decide (u.high=h))
def Fh (u:Utf):Bool:=Qg u 0 0 0||Qg u 1 128 191||Qg u 2 128 191||Qg u 3 128 191||Qg u 2 160 191||Qg u 2 128 159||Qg u 3 144 191||Qg u 3 128 143
theorem Aeq {u:Utf} (h:Fh u=true):(u.want=0∧u.low=0∧u.high=0)∨(u.want=1∧u.low=128∧u.high=191)∨(u.want=2∧u.low=128∧u.high=191)∨(u.want=3∧u.low=128∧u.high=191)∨(u.want=2∧u.low=160∧u.high=191)∨(u.want=2∧u.low=128∧u.high=159)∨(u.want=3∧u.low=144∧u.high=191)∨(u.want=3∧u.low=128∧u.high=143):=by
 simp only[Fh,Qg,Bool.or_eq_true,Bool.and_eq_true,decide_eq_true_eq] at h
 rcases h with ((((((h|h)|h)|h)|h)|h)|h)|h<;>simp[h]
theorem K4 {u:Utf} (h:Fh u=true) (h0:u.want=0):u=utf0:=by
 rcases Aeq h with h|h|h|h|h|h|h|h<;>first|(cases u;simp_all[utf0];done)|omega
theorem K5 {u:Utf} (h:Fh u=true):0≤u.want∧u.want≤3:=by
 rcases Aeq h with h|h|h|h|h|h|h|h<;>omega
def Br (b:Int):Option Utf:=
 if Aw b 0 127 then some utf0
 else if Aw b 194 223 then some ⟨1,128,191⟩
 else if Aw b 224 239 then some ⟨2,if b=224 then 160 else 128,if b=237 then 159 else 191⟩
 else if Aw b 240 244 then some ⟨3,if b=240 then 144 else 128,if b=244 then 143 else 191⟩
 else none
def utfByte (u:Utf) (b:Int):Option Utf:=
 if Fh u then (if u.want=0 then Br b else if Aw b u.low u.high then some (if u.want=1 then utf0 else ⟨u.want-1,128,191⟩) else none) else none
def Db:Utf→List UInt8→Nat→Utf×Option Nat
 |u,[],_=>(u,none)
 |u,b::r,i=>match utfByte u (b.toNat:Int) with
  |some v=>Db v r (i+1)
  |none=>(u,some i)
def Ft (u:Utf) (s:List UInt8):Utf:=(Db u s 0).1
def C1 (u:Utf) (s:List UInt8):Int:=match (Db u s 0).2 with
 |some i=>(i:Int)
 |none=> -1
/-! ### Varints -/
theorem Apf {u:Utf} (h:u.want=0∧u.low=0∧u.high=0):u=utf0:=by cases u;simp_all[utf0]
theorem Apg {u:Utf} (h: ¬(u.want=0∧u.low=0∧u.high=0)):u≠utf0:=fun e=>h (by subst e;simp[utf0])
def Fo (u:Nat):List UInt8:=if h:u<128 then [UInt8.ofNat u] else UInt8.ofNat (u % 128+128)::Fo (u / 128)
termination_by u
decreasing_by omega
def A9 (u:Int):List UInt8:=Fo u.toNat
def Dg (u:Int):Int:=((A9 u).length:Int)
theorem F8 {u:Nat} (h:u<128):Fo u=[UInt8.ofNat u]:=by rw[Fo,dif_pos h]
theorem H8 {u:Nat} (h: ¬u<128):Fo u=UInt8.ofNat (u % 128+128)::Fo (u / 128):=by rw[Fo,dif_neg h]
theorem Tk: ∀(k u:Nat),u<128 ^ k→1≤k→(Fo u).length≤k
 |0,_,_,h=>by omega
 |k+1,u,h,_=>by
  by_cases hu:u<128
  ·rw[F8 hu];simp
  ·rw[H8 hu]
   have hk:1≤k:=by
    rcases k with _|k
    ·simp at h;omega
    ·omega
   have:=Tk k (u / 128) (by rw[Nat.pow_succ] at h;exact Nat.div_lt_of_lt_mul (by rw[Nat.mul_comm];exact h)) hk
   simp;omega
theorem N1 (u:Nat):1≤(Fo u).length:=by
 by_cases hu:u<128
 ·rw[F8 hu];simp
 ·rw[H8 hu];simp
theorem Qx {u:Int} (h0:0≤u) (h:u≤127):A9 u=[UInt8.ofNat u.toNat]:=F8 (by omega)
theorem Vd {u:Int} (h0:0≤u) (h:127<u):A9 u=UInt8.ofNat (u % 128+128).toNat::A9 (u / 128):=by
 unfold A9
 rw[H8 (by omega),show (u / 128).toNat=u.toNat / 128 by omega,show (u % 128+128).toNat=u.toNat % 128+128 by omega]
theorem F9 (u:Int):1≤(A9 u).length:=N1 _
theorem T9 {u:Int} (h:u≤18446744073709551615):1≤Dg u∧Dg u≤10:=by
 have h1:=N1 u.toNat
 have h2:=Tk 10 u.toNat (by omega) (by omega)
 unfold Dg A9;omega
def Ad3 (u n:Nat):List Int:=(List.range n).map fun (i:Nat)=>((u / 128 ^ i % 128+128:Nat):Int)
theorem Ua {u n:Nat} :(Ad3 u n).length=n:=by simp[Ad3]
theorem Abq {u n i:Nat} (h:i<n):(Ad3 u n)[i]? =some ((u / 128 ^ i % 128+128:Nat):Int):=by simp[Ad3,h]
theorem Ajv {u i:Nat} :((u / 128 ^ i:Nat):Int) / 128=((u / 128 ^ (i+1):Nat):Int):=by
 rw[Nat.pow_succ,←Nat.div_div_eq_div_mul];omega
theorem Ajw {u n:Nat} :Ad3 u (n+1)=((u % 128+128:Nat):Int)::Ad3 (u / 128) n:=by
 simp only[Ad3,List.range_succ_eq_map,List.map_cons,List.map_map]
 congr 1
 ·simp
 ·apply List.map_congr_left
  intro i _
  simp only[Function.comp,Nat.succ_eq_add_one]
  rw[Nat.pow_succ,Nat.mul_comm,←Nat.div_div_eq_div_mul]
theorem X3: ∀(k u:Nat),(Fo u).length=k+1→Fo u=((Ad3 u k).map A5)++[UInt8.ofNat (u / 128 ^ k % 128)]
 |0,u,h=>by
  by_cases hu:u<128
  ·rw[F8 hu];simp[Ad3,Nat.mod_eq_of_lt hu]
  ·rw[H8 hu] at h
   have:=N1 (u / 128)
   simp only[List.length_cons] at h;omega
 |k+1,u,h=>by
  by_cases hu:u<128
  ·rw[F8 hu] at h;simp at h
  ·rw[H8 hu] at h ⊢
   have ih:=X3 k (u / 128) (by simpa using h)
   rw[ih,Ajw]
   simp only[List.map_cons,List.cons_append]
   congr 2
   rw[Nat.pow_succ,Nat.mul_comm,←Nat.div_div_eq_div_mul]
theorem Anf {u:Int} {n:Nat} {x:Int} (hn:n=(A9 u).length) (hx:(Ad3 u.toNat n)[n-1]? =some x):List.map A5 (List.set (Ad3 u.toNat n) (n-1) (x % 128))=A9 u:=by
 have hp:=F9 u
 obtain ⟨k,rfl⟩: ∃k,n=k+1:=⟨n-1,by omega⟩
 have h:=X3 k u.toNat (by unfold A9 at hn;omega)
 unfold A9
 rw[h]
 have hk:k+1-1=k:=by omega
 rw[hk] at hx ⊢
 rw[Abq (by omega)] at hx
 have hx:=Option.some.inj hx
 have hs:Ad3 u.toNat (k+1)=Ad3 u.toNat k++[((u.toNat / 128 ^ k % 128+128:Nat):Int)]:=by simp[Ad3,List.range_succ]
 rw[hs,List.set_append_right _ _ (by rw[Ua];omega),Ua,Nat.sub_self,List.map_append]
 simp only[List.set_cons_zero,List.map_cons,List.map_nil,A5]
 rw[←hx]
 congr 3
 omega
theorem Aer {a:Int} (h:0≤a) (h2:a≤255):(.v (.c (.int .u8 (IntKind.u8.wrap (((BitVec.ofInt 8 a&&&BitVec.ofInt 8 127).toNat:Nat):Int)))):S)= .v (.c (.int .u8 (a % 128))):=by
 obtain ⟨n,rfl⟩:=Int.eq_ofNat_of_zero_le h
 have e:(BitVec.ofInt 8 ((n:Nat):Int)&&&BitVec.ofInt 8 127).toNat=n % 128:=by
  rw[BitVec.toNat_and,BitVec.ofInt_natCast,BitVec.toNat_ofNat,Nat.mod_eq_of_lt (by omega)]
  exact Nat.and_two_pow_sub_one_eq_mod n 7
 rw[e]
 have:=M7 (x:=((n % 128:Nat):Int)) (by omega) (by omega)
 rw[this];simp
theorem Asr {a:Int} (h:0≤a) (h2:a≤127):(.v (.c (.int .u64 (IntKind.u64.wrap (((BitVec.ofInt 64 a|||BitVec.ofInt 64 128).toNat:Nat):Int)))):S)= .v (.c (.int .u64 (a+128))):=by
 rw[Aju (k:=7) (c:=1) h (by omega) (by omega) (by decide) (by decide)]
 exact Bm Q5 Q5
def vwA (s:List UInt8) (at_ end_:Int):Nat→Int→Int→Int×Int×Int
 |0,_,_=>(0,(s.length:Int),10)
 |f+1,k,u=>
  if end_≤at_+k then (0,end_,9)
  else if (s.length:Int)≤at_+k then (0,(s.length:Int),10)
  else if k=9∧1<((s.getD (at_+k).toNat 0).toNat:Int) then (0,at_+k,1)
  else if ((s.getD (at_+k).toNat 0).toNat:Int)<128 then (u+((s.getD (at_+k).toNat 0).toNat:Int) % 128*2 ^ (7*k).toNat,at_+k+1,0)
  else vwA s at_ end_ f (k+1) (u+((s.getD (at_+k).toNat 0).toNat:Int) % 128*2 ^ (7*k).toNat)
def Ah (s:List UInt8) (at_ end_:Int):Int×Int×Int:=if Aw at_ 0 (s.length:Int) then vwA s at_ end_ 10 0 0 else (0,(s.length:Int),10)
theorem Aad {c:Int} {k:Nat} (hk:k≤9) (h0:0≤c) (h1:c≤127) (h9:k=9→c≤1):0≤c*2 ^ (7*k)∧c*2 ^ (7*k)+2 ^ (7*k)≤18446744073709551616∧(0:Int)<2 ^ (7*k)∧c*2 ^ (7*k)+2 ^ (7*k)≤2 ^ (7*(k+1)):=by
 rcases (show k=0∨k=1∨k=2∨k=3∨k=4∨k=5∨k=6∨k=7∨k=8∨k=9 by omega) with rfl|rfl|rfl|rfl|rfl|rfl|rfl|rfl|rfl|rfl<;>simp at * <;>omega
theorem Ub {c:Int} {k:Nat} (hk:k≤9) (h0:0≤c) (h1:c≤127) (h9:k=9→c≤1):(.v (.c (.int .u64 (IntKind.u64.wrap (c*2 ^ min (Int.toNat (7*((k:Nat):Int))) 64)))):S)= .v (.c (.int .u64 (c*2 ^ (7*k)))):=by
 have h:=Aad hk h0 h1 h9
 rw[show min (Int.toNat (7*((k:Nat):Int))) 64=7*k by omega]
 exact Bm Q5 Q5
theorem Agb {u c:Int} {k:Nat} (hk:k≤9) (h0:0≤c) (h1:c≤127) (h9:k=9→c≤1) (hu:0≤u) (hu':u<2 ^ (7*k)):(.v (.c (.int .u64 (IntKind.u64.wrap (((BitVec.ofInt 64 u|||BitVec.ofInt 64 (c*2 ^ (7*k))).toNat:Nat):Int)))):S)= .v (.c (.int .u64 (u+c*2 ^ (7*k)))):=by
 have h:=Aad hk h0 h1 h9
 rw[Aju (k:=7*k) (c:=c) hu hu' h0 rfl (by omega)]
 exact Bm Q5 Q5
theorem Ass {s:List UInt8} {a e:Int} : ∀(f k:Nat) (u:Int),k≤9→10≤f+k→0≤u→u<2 ^ (7*k)→0≤(vwA s a e f k u).1∧(vwA s a e f k u).1≤18446744073709551615
 |0,k,u,_,_,_,_=>by simp[vwA]
 |f+1,k,u,hk,hf,h0,h1=>by
  rw[vwA]
  have hb:=UInt8.toNat_lt (s.getD (a+(k:Int)).toNat 0)
  split
  ·simp
  split
  ·simp
  split
  ·simp
  rename_i h9
  have h9':k=9→¬(1<((s.getD (a+(k:Int)).toNat 0).toNat:Int)):=fun h hh=>h9 ⟨by omega,hh⟩
  have e7:((7*(k:Int)).toNat)=7*k:=by omega
  have hv:=Aad (c:=((s.getD (a+(k:Int)).toNat 0).toNat:Int) % 128) (k:=k) (by omega) (by omega) (by omega) (by intro h;have:=h9' h;omega)
  split
  ·rw[e7];dsimp only;omega
  ·rename_i h128
   have hk8:k≠9:=fun h=>by have:=h9' h;omega
   rw[e7,show (k:Int)+1=((k+1:Nat):Int) by simp]
   exact Ass f (k+1) _ Q5 Q5 Q5 Q5
theorem Lm (s:List UInt8) (a e:Int):0≤(Ah s a e).1∧(Ah s a e).1≤18446744073709551615:=by
 unfold Ah
 split
 ·exact Ass 10 0 0 (by omega) (by omega) (by omega) (by decide)
 ·simp
/-! ### Numbers of so Ns bytes -/
def D4:Nat→Nat→List UInt8
 |0,_=>[]
 |n+1,u=>UInt8.ofNat (u % 256)::D4 n (u / 256)
def De (w:Int):Bool:=decide (w=4)||decide (w=8)
def Fy (u w:Int):List UInt8:=if !De w||(decide (w=4)&&decide (4294967295<u)) then [] else D4 w.toNat u.toNat
def En:List UInt8→Nat
 |[]=>0
 |b::r=>b.toNat+256*En r
def C3 (s:List UInt8) (at_ w:Int):Bool:=De w&&Aw at_ 0 ((s.length:Int)-w)
def Gg (s:List UInt8) (at_ w:Int):Int:=if C3 s at_ w then (En ((s.drop at_.toNat).take w.toNat):Int) else 0
theorem Wg: ∀(l:List UInt8) (b:UInt8),En (l++[b])=En l+b.toNat*2 ^ (8*l.length)
 |[],b=>by simp[En]
 |a::l,b=>by
  simp only[List.cons_append,En,Wg l b,List.length_cons]
  rw[show 8*(l.length+1)=8*l.length+8 by omega,Nat.pow_add,←Nat.mul_assoc]
  omega
theorem Aae: ∀(l:List UInt8),En l<2 ^ (8*l.length)
 |[]=>by simp[En]
 |a::l=>by
  have:=Aae l
  have:=UInt8.toNat_lt a
  simp only[En,List.length_cons]
  rw[show 8*(l.length+1)=8*l.length+8 by omega,Nat.pow_add]
  omega
theorem K6 {l:List UInt8} {k:Nat} (h:l.length≤k):En l<2 ^ (8*k):=Nat.lt_of_lt_of_le (Aae l) (Nat.pow_le_pow_right (by decide) (by omega))
theorem Ajx {α:Type} {l:List α} {a i:Nat} {x:α} (h:l[a+i]? =some x):(l.drop a).take (i+1)=(l.drop a).take i++[x]:=by
 have h':(l.drop a)[i]? =some x:=by rw[List.getElem?_drop];exact h
 obtain ⟨hl,hx⟩:=List.getElem?_eq_some_iff.1 h'
 rw[List.take_succ_eq_append_getElem hl,hx]
theorem Aph {c:Int} {k:Nat} (hk:k≤7) (h0:0≤c) (h1:c≤255):0≤c*2 ^ (8*k)∧c*2 ^ (8*k)+2 ^ (8*k)≤18446744073709551616∧(0:Int)<2 ^ (8*k):=by
 rcases (show k=0∨k=1∨k=2∨k=3∨k=4∨k=5∨k=6∨k=7 by omega) with rfl|rfl|rfl|rfl|rfl|rfl|rfl|rfl<;>simp at * <;>omega
theorem Ajy {c:Int} {k:Nat} (hk:k≤7) (h0:0≤c) (h1:c≤255):(.v (.c (.int .u64 (IntKind.u64.wrap (c*2 ^ min (Int.toNat (8*((k:Nat):Int))) 64)))):S)= .v (.c (.int .u64 (c*2 ^ (8*k)))):=by
 have h:=Aph hk h0 h1
 rw[show min (Int.toNat (8*((k:Nat):Int))) 64=8*k by omega]
 exact Bm Q5 Q5
theorem Ang {u c:Int} {k:Nat} (hk:k≤7) (h0:0≤c) (h1:c≤255) (hu:0≤u) (hu':u<2 ^ (8*k)):(.v (.c (.int .u64 (IntKind.u64.wrap (((BitVec.ofInt 64 u|||BitVec.ofInt 64 (c*2 ^ (8*k))).toNat:Nat):Int)))):S)= .v (.c (.int .u64 (u+c*2 ^ (8*k)))):=by
 have h:=Aph hk h0 h1
 rw[Aju (k:=8*k) (c:=c) hu hu' h0 rfl (by omega)]
 exact Bm Q5 Q5
theorem Qy {w:Int} (h:De w=true):w=4∨w=8:=by simpa [De] using h
theorem Ac0 {w:Int} (h:De w=false):w≠4∧w≠8:=by simpa [De] using h
def Anh (u n:Nat):List Int:=(List.range n).map fun (i:Nat)=>((u / 256 ^ i % 256:Nat):Int)
theorem Uc {u n:Nat} :(Anh u n).length=n:=by simp[Anh]
theorem Ani {u n i:Nat} (h:i<n):(Anh u n)[i]? =some ((u / 256 ^ i % 256:Nat):Int):=by simp[Anh,h]
theorem Ajz {u i:Nat} :((u / 256 ^ i:Nat):Int) / 256=((u / 256 ^ (i+1):Nat):Int):=by
 rw[Nat.pow_succ,←Nat.div_div_eq_div_mul];omega
theorem Abr: ∀(n u:Nat),(Anh u n).map A5=D4 n u
 |0,u=>rfl
 |n+1,u=>by
  rw[D4,←Abr n (u / 256)]
  simp only[Anh,List.range_succ_eq_map,List.map_cons,List.map_map]
  congr 1
  ·simp only[A5,Nat.pow_zero,Nat.div_one];congr 1
  ·apply List.map_congr_left
   intro i _
   simp only[Function.comp,Nat.succ_eq_add_one]
   rw[Nat.pow_succ,Nat.mul_comm,←Nat.div_div_eq_div_mul]
theorem Aj0 {u:Int} (h:0≤u):(.v (.c (.int .u8 (IntKind.u8.wrap u))):S)= .v (.c (.int .u8 (u % 256))):=by
 have:IntKind.u8.wrap u=u % 256:=by simp[IntKind.wrap,IntKind.signed,IntKind.bits]
 rw[this]
theorem Ahu {u w:Int} :(Fy u w).length≤8:=by
 have hlen: ∀(n u:Nat),(D4 n u).length=n:=fun n=>by induction n with
  |zero=>intro u;rfl
  |succ n ih=>intro u;simp[D4,ih]
 unfold Fy
 split
 ·simp
 ·rename_i h
  have hw:De w=true:=by
   simp only[Bool.or_eq_true,Bool.not_eq_true',Bool.and_eq_true,not_or] at h
   simpa using h.1
  rw[hlen]
  rcases Qy hw with rfl|rfl<;>decide
def Bx (c a:Int):Ev:=⟨10,0,0,0,[],c,a⟩
def Ed (f:Fld) (u:Int):Ev:=⟨2,f.number,if f.kind=3∧u≠0 then 1 else u,0,[],0,0⟩
def A1 (b:List UInt8):List UInt8:=A9 (b.length:Int)++b
theorem Fm {u:Int} (h:u≤18446744073709551615):(A9 u).length≤10:=by
 have:=Tk 10 u.toNat (by omega) (by omega);exact this
theorem Wi {f:Fld} {l:List Fld} {n:Int} :G0 (f::l) n=if f.number=n then some f else G0 l n:=by
 unfold G0;rw[List.find?_cons];by_cases h:f.number=n<;>simp[h]
theorem Aaf {l:List Shp} {s n:Int} {x:Shp} (hs:Aw s 0 ((l.length:Int)-1)=true) (hx:l[s.toNat]? =some x):fieldAt l s n=G0 x.fields n:=by
 rw[fieldAt,if_pos hs,N0 hx]
def Ns (l:List Ev) (k:Int):Int:=((l.filter fun e=>decide (e.kind=k)).length:Int)
theorem Ac1 {e:Ev} {l:List Ev} {k:Int} :Ns (e::l) k=(if e.kind=k then 1 else 0)+Ns l k:=by
 unfold Ns;rw[List.filter_cons];by_cases h:e.kind=k<;>simp[h];omega
def Dh:List Ev→Nat→Int
 |[],_=> -1
 |e::r,i=>if e.kind=8 then (i:Int) else Dh r (i+1)
def Ck (l:List Ev) (a:Int):Int:=if a<0 then-1 else Dh (l.drop a.toNat) a.toNat
structure Fa where
 stack:List Int
 inText:Bool
 isText:Bool
 utf:Utf
 ended:Bool
 deriving Inhabited
structure Fmr where
 plan:Pln
 st:Fa
structure Fs where
 stack:List Int
 field:Fld
 open_:Bool
 utf:Utf
 ended:Bool
def Kq (l:List Int):Int:=l.getD (l.length-1) 0
def Mb (p:Pln) (a:Fa) (e:Ev):Option Fld:=fieldAt p.shapes (Kq a.stack) e.field
def isBytes (k:Int):Bool:=decide (k=6)||decide (k=7)
def E6 (p:Pln) (a:Fa) (e:Ev):Int:=match Mb p a e with
 |none=>3
 |some f=>
  if (e.kind=2∧Bs f.kind=false)∨(e.kind=3∧isBytes f.kind=false)∨(e.kind=6∧f.kind≠8) then 2
  else if e.kind=2∧Cb f.kind e.bits=false then 4
  else if e.kind=6∧p.deep≤(a.stack.length:Int) then 6
  else 0
def Bj (p:Pln) (a:Fa) (e:Ev):Fa:=
 if E6 p a e≠0 then a
 else if e.kind=3 then ⟨a.stack,true,decide (((Mb p a e).getD fld0).kind=6),utf0,a.ended⟩
 else if e.kind=6 then ⟨a.stack++[((Mb p a e).getD fld0).msg],a.inText,a.isText,a.utf,a.ended⟩
 else a
theorem J3 {p:Pln} {a:Fa} {e:Ev} {f:Fld} (h:Mb p a e=some f):E6 p a e=if (e.kind=2∧Bs f.kind=false)∨(e.kind=3∧isBytes f.kind=false)∨(e.kind=6∧f.kind≠8) then 2 else if e.kind=2∧Cb f.kind e.bits=false then 4 else if e.kind=6∧p.deep≤(a.stack.length:Int) then 6 else 0:=by
 unfold E6;rw[h]
theorem Hb {p:Pln} {a:Fa} {e:Ev} (h:Mb p a e=none):E6 p a e=3:=by
 unfold E6;rw[h]
theorem Hc {p:Pln} {a:Fa} {e:Ev} {f:Fld} (h:Mb p a e=some f):Bj p a e=if E6 p a e≠0 then a else if e.kind=3 then ⟨a.stack,true,decide (f.kind=6),utf0,a.ended⟩ else if e.kind=6 then ⟨a.stack++[f.msg],a.inText,a.isText,a.utf,a.ended⟩ else a:=by
 unfold Bj;rw[h];rfl
theorem Qz {p:Pln} {a:Fa} {e:Ev} (h:Mb p a e=none):Bj p a e=a:=by
 unfold Bj;rw[if_pos (by rw[Hb h];decide)]
def C9 (a:Fa) (e:Ev):Int:=
 if e.kind=4 then (if a.isText=true∧0≤C1 a.utf e.text then 5 else 0)
 else if e.kind=5 then (if a.isText=true∧a.utf≠utf0 then 5 else 0)
 else 2
def Bn (a:Fa) (e:Ev):Fa:=
 if C9 a e≠0 then a
 else if e.kind=4 then (if a.isText=true then ⟨a.stack,a.inText,a.isText,Ft a.utf e.text,a.ended⟩ else a)
 else ⟨a.stack,false,a.isText,a.utf,a.ended⟩
def C2 (p:Pln) (a:Fa) (e:Ev):Int:=
 if a.ended=true then 2
 else if a.inText=true then C9 a e
 else if Cf e.kind=true then E6 p a e
 else if e.kind=7∧1<a.stack.length then 0
 else if e.kind=8∧a.stack.length=1 then 0
 else 2
def B5 (p:Pln) (a:Fa) (e:Ev):Fa:=
 if a.ended=true then a
 else if a.inText=true then Bn a e
 else if Cf e.kind=true then Bj p a e
 else if e.kind=7∧1<a.stack.length then ⟨a.stack.take (a.stack.length-1),a.inText,a.isText,a.utf,a.ended⟩
 else if e.kind=8∧a.stack.length=1 then ⟨a.stack,a.inText,a.isText,a.utf,true⟩
 else a
def Ln (p:Pln):Fa→List Ev→Int→Int×Int
 |a,[],i=>if a.ended=true then (0,0) else (7,i)
 |a,e::r,i=>if C2 p a e≠0 then (C2 p a e,i) else Ln p (B5 p a e) r (i+1)
def fa0 (p:Pln):Fa:=⟨[p.root],false,false,utf0,false⟩
def Bk (p:Pln) (l:List Ev):Int×Int:=match l with
 |[]=>(1,0)
 |e::r=>if B3 p=true∧e.kind=1 then Ln p (fa0 p) r 1 else (1,0)
def Lo (r:Fs):Fa:=⟨r.stack,r.open_,decide (r.field.kind=6),r.utf,r.ended⟩
theorem Aes {b:Int} {u:Utf} (h:Br b=some u):Fh u=true:=by
 unfold Br at h
 repeat' split at h
 all_goals first|(cases h;done)|(cases h;first|decide|(exfalso;omega)|(simp only[Fh,Qg];simp_all;done)|(simp only[Fh,Qg];simp_all;omega))
theorem Ahv {u v:Utf} {b:Int} (h:utfByte u b=some v):Fh v=true:=by
 unfold utfByte at h
 split at h
 ·rename_i hu
  have hw:=K5 hu
  split at h
  ·exact Aes h
  ·split at h
   ·split at h
    ·cases h;decide
    ·cases h
     rcases Aeq hu with h|h|h|h|h|h|h|h<;>simp_all[Fh,Qg]
   ·cases h
 ·cases h
theorem Ac2: ∀ {u:Utf} {s:List UInt8} {i:Nat},Fh u=true→Fh (Db u s i).1=true
 |u,[],i,h=>h
 |u,b::r,i,h=>by
  unfold Db
  split
  ·rename_i v hv;exact Ac2 (Ahv hv)
  ·exact h
theorem R8 {u:Utf} {s:List UInt8} (h:Fh u=true):Fh (Ft u s)=true:=Ac2 h
def Gj (r:Fs) (e:Ev):Fs:=⟨r.stack,r.field,(Bn (Lo r) e).inText,(Bn (Lo r) e).utf,r.ended⟩
def He (p:Pln) (r:Fs) (e:Ev):Fs:=⟨(Bj p (Lo r) e).stack,if E6 p (Lo r) e=0∧e.kind=3 then (Mb p (Lo r) e).getD fld0 else r.field,(Bj p (Lo r) e).inText,(Bj p (Lo r) e).utf,r.ended⟩
def Fr (p:Pln) (r:Fs) (e:Ev):Fs:=
 if r.ended=true then r
 else if r.open_=true then Gj r e
 else if Cf e.kind=true then He p r e
 else if e.kind=7∧1<r.stack.length then ⟨r.stack.take (r.stack.length-1),r.field,r.open_,r.utf,r.ended⟩
 else if e.kind=8∧r.stack.length=1 then ⟨r.stack,r.field,r.open_,r.utf,true⟩
 else r
theorem Aj1 (r:Fs) (e:Ev):Lo (Gj r e)=Bn (Lo r) e:=by
 unfold Gj Bn;repeat' split
 all_goals (simp_all[Lo])
theorem Anj (p:Pln) (r:Fs) (e:Ev):Lo (He p r e)=Bj p (Lo r) e:=by
 unfold He Bj;repeat' split
 all_goals (simp_all[Lo])
theorem X4 (p:Pln) (r:Fs) (e:Ev):Lo (Fr p r e)=B5 p (Lo r) e:=by
 unfold Fr B5
 have h1:(Lo r).ended=r.ended:=rfl
 have h2:(Lo r).inText=r.open_:=rfl
 have h3:(Lo r).stack=r.stack:=rfl
 rw[h1,h2,h3]
 split
 ·rfl
 split
 ·exact Aj1 r e
 split
 ·exact Anj p r e
 split
 ·rfl
 split<;>rfl
theorem Zt (a:Fa) (e:Ev):(Bn a e).stack=a.stack:=by
 unfold Bn;repeat' split
 all_goals rfl
theorem Ra {p:Pln} {a:Fa} (e:Ev) (h1:1≤a.stack.length) (h2:a.stack.length≤8) (hd:p.deep≤8):1≤(B5 p a e).stack.length∧(B5 p a e).stack.length≤8:=by
 unfold B5
 split
 ·exact⟨h1,h2⟩
 split
 ·rw[Zt];exact⟨h1,h2⟩
 split
 ·unfold Bj
  split
  ·exact⟨h1,h2⟩
  ·rename_i hv
   split
   ·exact⟨h1,h2⟩
   split
   ·rename_i h6
    have hv:E6 p a e=0:=by simpa using hv
    have:(a.stack.length:Int)<p.deep:=by
     unfold E6 at hv
     split at hv
     ·omega
     ·split at hv
      ·omega
      split at hv
      ·omega
      split at hv
      ·omega
      ·rename_i hh;omega
    simp;omega
   ·exact⟨h1,h2⟩
 split
 ·rename_i hh;simp;omega
 split<;>exact⟨h1,h2⟩
theorem Ahw {p:Pln} {a:Fa} {e:Ev} (h:Fh a.utf=true):Fh (B5 p a e).utf=true:=by
 unfold B5 Bn Bj
 repeat' split
 all_goals first|exact h|exact R8 h|(show Fh utf0=true;decide)
theorem Wj (p:Pln) (r:Fs) (e:Ev):(Fr p r e).stack=(B5 p (Lo r) e).stack:=by rw[←X4];rfl
theorem Ahx (p:Pln) (r:Fs) (e:Ev):(Fr p r e).utf=(B5 p (Lo r) e).utf:=by rw[←X4];rfl
def EvB (e:Ev):Prop:=List.length e.text≤Ba∧(0:Int)≤e.bits∧e.bits≤18446744073709551615
theorem M3 {p:Pln} {l:List Ev} {e:Ev} (h0:l[0]? =some e) (hp:B3 p=true) (hk:e.kind=1):Bk p l=Ln p (fa0 p) (l.drop 1) 1:=by
 cases l with
 |nil=>simp at h0
 |cons a r=>simp at h0;subst h0;simp[Bk,hp,hk]
theorem N2 {p:Pln} {l:List Ev} {e:Ev} (h0:l[0]? =some e) (hp: ¬(B3 p=true∧e.kind=1)):Bk p l=(1,0):=by
 cases l with
 |nil=>rfl
 |cons a r=>simp at h0;subst h0;simp only[Bk];rw[if_neg hp]
theorem M4 {p:Pln} {l:List Ev} (hp:B3 p=false):Bk p l=(1,0):=by
 cases l with
 |nil=>rfl
 |cons a r=>simp[Bk,hp]
theorem Ga {p:Pln} {a:Fa} {e:Ev} {r:List Ev} {i:Int} :Ln p a (e::r) i=if C2 p a e≠0 then (C2 p a e,i) else Ln p (B5 p a e) r (i+1):=rfl
theorem Hj {p:Pln} {a:Fa} {i:Int} :Ln p a [] i=if a.ended=true then (0,0) else (7,i):=rfl
def cEv (x:Ev):List C:=[.int .i64 x.kind,.int .i64 x.field,.int .u64 x.bits,.int .i64 x.len,.str x.text,.int .i64 x.code,.int .i64 x.at_]
def Dd (x:Fld):List C:=[.int .i64 x.number,.int .i64 x.kind,.bool x.rep,.bool x.packed,.int .i64 x.msg]
def At7 (x:Shp):List C:=[.int .i64 x.id,.seq .fld x.fields]
def Hy (x:Utf):List C:=[.int .i64 x.want,.int .i64 x.low,.int .i64 x.high]
def Cd (x:Pln):List C:=[.seq .shp x.shapes,.int .i64 x.root,.int .i64 x.deep,.int .i64 x.most]
def Fu (j4:Nat) (x:Fmr):List C:=[.seq .shp x.plan.shapes,.int .i64 x.plan.root,.int .i64 x.plan.deep,.int .i64 x.plan.most,.own j4,.bool x.st.inText,.bool x.st.isText,.int .i64 x.st.utf.want,.int .i64 x.st.utf.low,.int .i64 x.st.utf.high,.bool x.st.ended]
def Ve (j0:Nat) (x:Fs):List C:=[.own j0,.int .i64 x.field.number,.int .i64 x.field.kind,.bool x.field.rep,.bool x.field.packed,.int .i64 x.field.msg,.bool x.open_,.int .i64 x.utf.want,.int .i64 x.utf.low,.int .i64 x.utf.high,.bool x.ended]
abbrev L2 (d:Dcd):List Blk:=[.tree d.plan.shapes,.lst .lev d.stack]
theorem D9 (n:Int) (lo:Int) (hi:Int):Fun Tryz.prog 69 [vI n,vI lo,vI hi] [] (.v (vB (Aw n lo hi))) []:=by
 have hN:Ba=274877906944:=rfl
 refine Av Tryz.func69 Q8 Q8 (w:=(.br (.leaf () []) (.leaf () []),Bc (decide (lo≤n)) (Lf (.v (vB (decide (n≤hi)))) (.v (vB (Aw n lo hi))) [] []) (Lf (.v (vB false)) (.v (vB (Aw n lo hi))) [] []))) Q8 ?_
 refine dsp (fun h1 p1=>?_) fun h1 p1=>?_
 exact⟨(congrArg S.v (congrArg V.c (congrArg C.bool (by simp[Aw, *])))),rfl⟩
 exact⟨(congrArg S.v (congrArg V.c (congrArg C.bool (by simp[Aw, *])))),rfl⟩
theorem Cm (n:Int) (lo:Int) (hi:Int):Fun Tryz.prog 71 [vI n,vI lo,vI hi] [] (.v (vB (Aw n lo hi))) []:=by
 have hN:Ba=274877906944:=rfl
 refine Av Tryz.func71 Q8 Q8 (w:=(.br (.leaf () []) (.leaf () []),Bc (decide (lo≤n)) (Lf (.v (vB (decide (n≤hi)))) (.v (vB (Aw n lo hi))) [] []) (Lf (.v (vB false)) (.v (vB (Aw n lo hi))) [] []))) Q8 ?_
 refine dsp (fun h1 p1=>?_) fun h1 p1=>?_
 exact⟨(congrArg S.v (congrArg V.c (congrArg C.bool (by simp[Aw, *])))),rfl⟩
 exact⟨(congrArg S.v (congrArg V.c (congrArg C.bool (by simp[Aw, *])))),rfl⟩
theorem Ast (a:Int) (b:Int):Fun Tryz.prog 74 [vI a,vI b] [] (.v (vI (min a b))) []:=by
 have hN:Ba=274877906944:=rfl
 refine Av Tryz.func74 Q8 Q8 (w:=(.br (.leaf () []) (.leaf () []),Bc (decide (a<b)) (Lf (.v (vI a)) (.v (vI (min a b))) [] []) (Lf (.v (vI b)) (.v (vI (min a b))) [] []))) Q8 ?_
 refine dsp (fun h1 p1=>?_) fun h1 p1=>?_
 exact⟨(congrArg S.v (congrArg V.c (congrArg (C.int .i64) Q5))),rfl⟩
 exact⟨(congrArg S.v (congrArg V.c (congrArg (C.int .i64) Q5))),rfl⟩
theorem Dw (a:Int) (b:Int):Fun Tryz.prog 75 [vI a,vI b] [] (.v (vI (max a b))) []:=by
 have hN:Ba=274877906944:=rfl
 refine Av Tryz.func75 Q8 Q8 (w:=(.br (.leaf () []) (.leaf () []),Bc (decide (b<a)) (Lf (.v (vI a)) (.v (vI (max a b))) [] []) (Lf (.v (vI b)) (.v (vI (max a b))) [] []))) Q8 ?_
 refine dsp (fun h1 p1=>?_) fun h1 p1=>?_
 exact⟨(congrArg S.v (congrArg V.c (congrArg (C.int .i64) Q5))),rfl⟩
 exact⟨(congrArg S.v (congrArg V.c (congrArg (C.int .i64) Q5))),rfl⟩
theorem Ahy (n:Int):Fun Tryz.prog 232 [vI n] [] (.v (vB (D8 n))) []:=by
 have hN:Ba=274877906944:=rfl
 refine Av Tryz.func232 Q8 Q8 (w:=let z1:=Aw n 1 536870911;let z2:=Aw n 19000 19999;(.seg [.call [] (.v (vB z1)) []] (.br (.seg [.call [] (.v (vB z2)) []] (.leaf () [])) (.leaf () [])),(Fp 69 [vI n,vI 1,vI 536870911] [] (.v (vB z1)) [])∧Bc z1 ((Fp 69 [vI n,vI 19000,vI 19999] [] (.v (vB z2)) [])∧Lf (.v (vB (!z2))) (.v (vB (D8 n))) [] []) (Lf (.v (vB false)) (.v (vB (D8 n))) [] []))) Q8 ?_
 refine⟨(D9 _ _ _),fun h1=>have p1:=Bp h1;?_,fun h1=>have p1:=Bw h1;?_⟩
 exact⟨(D9 _ _ _),(congrArg S.v (congrArg V.c (congrArg C.bool (by simp[D8, *])))),rfl⟩
 exact⟨(congrArg S.v (congrArg V.c (congrArg C.bool (by simp[D8, *])))),rfl⟩
theorem Aag (n:Int):Fun Tryz.prog 206 [vI n] [] (.v (vB (D8 n))) []:=by
 have hN:Ba=274877906944:=rfl
 refine Av Tryz.func206 Q8 Q8 (w:=let z1:=Aw n 1 536870911;let z2:=Aw n 19000 19999;(.seg [.call [] (.v (vB z1)) []] (.br (.seg [.call [] (.v (vB z2)) []] (.leaf () [])) (.leaf () [])),(Fp 71 [vI n,vI 1,vI 536870911] [] (.v (vB z1)) [])∧Bc z1 ((Fp 71 [vI n,vI 19000,vI 19999] [] (.v (vB z2)) [])∧Lf (.v (vB (!z2))) (.v (vB (D8 n))) [] []) (Lf (.v (vB false)) (.v (vB (D8 n))) [] []))) Q8 ?_
 refine⟨(Cm _ _ _),fun h1=>have p1:=Bp h1;?_,fun h1=>have p1:=Bw h1;?_⟩
 exact⟨(Cm _ _ _),(congrArg S.v (congrArg V.c (congrArg C.bool (by simp[D8, *])))),rfl⟩
 exact⟨(congrArg S.v (congrArg V.c (congrArg C.bool (by simp[D8, *])))),rfl⟩
theorem Ank (w:Int):Fun Tryz.prog 122 [vI w] [] (.v (vB (Ha w))) []:=by
 have hN:Ba=274877906944:=rfl
 refine Av Tryz.func122 Q8 Q8 (w:=let z1:=Lf (.v (vB true)) (.v (vB (Ha w))) [] [];(.br (.leaf () []) (.br (.leaf () []) (.br (.leaf () []) (.leaf () []))),Bc (decide (w=0)) z1 (Bc (decide (w=1)) z1 (Bc (decide (w=2)) z1 (Lf (.v (vB (decide (w=5)))) (.v (vB (Ha w))) [] []))))) Q8 ?_
 refine dsp (fun h1 p1=>?_) fun h1 p1=>?_
 exact⟨(congrArg S.v (congrArg V.c (congrArg C.bool Q94))),rfl⟩
 refine dsp (fun h2 p2=>?_) fun h2 p2=>?_
 exact⟨(congrArg S.v (congrArg V.c (congrArg C.bool Q94))),rfl⟩
 refine dsp (fun h3 p3=>?_) fun h3 p3=>?_
 exact⟨(congrArg S.v (congrArg V.c (congrArg C.bool Q94))),rfl⟩
 exact⟨(congrArg S.v (congrArg V.c (congrArg C.bool Q94))),rfl⟩
theorem Anm (w:Int):Fun Tryz.prog 130 [vI w] [] (.v (vB (Ha w))) []:=by
 have hN:Ba=274877906944:=rfl
 refine Av Tryz.func130 Q8 Q8 (w:=let z1:=Lf (.v (vB true)) (.v (vB (Ha w))) [] [];(.br (.leaf () []) (.br (.leaf () []) (.br (.leaf () []) (.leaf () []))),Bc (decide (w=0)) z1 (Bc (decide (w=1)) z1 (Bc (decide (w=2)) z1 (Lf (.v (vB (decide (w=5)))) (.v (vB (Ha w))) [] []))))) Q8 ?_
 refine dsp (fun h1 p1=>?_) fun h1 p1=>?_
 exact⟨(congrArg S.v (congrArg V.c (congrArg C.bool Q94))),rfl⟩
 refine dsp (fun h2 p2=>?_) fun h2 p2=>?_
 exact⟨(congrArg S.v (congrArg V.c (congrArg C.bool Q94))),rfl⟩
 refine dsp (fun h3 p3=>?_) fun h3 p3=>?_
 exact⟨(congrArg S.v (congrArg V.c (congrArg C.bool Q94))),rfl⟩
 exact⟨(congrArg S.v (congrArg V.c (congrArg C.bool Q94))),rfl⟩
theorem Agc (k:Int):Fun Tryz.prog 233 [vI k] [] (.v (vB (Ec k))) []:=by
 have hN:Ba=274877906944:=rfl
 refine Av Tryz.func233 Q8 Q8 (w:=let z1:S:= .v (vB (Aw k 1 8));(.seg [.call [] z1 []] (.leaf () []),(Fp 69 [vI k,vI 1,vI 8] [] z1 [])∧Lf z1 (.v (vB (Ec k))) [] [])) Q8 ?_
 exact⟨(D9 _ _ _),(congrArg S.v (congrArg V.c (congrArg C.bool (by rfl)))),rfl⟩
theorem Wx (k:Int):Fun Tryz.prog 191 [vI k] [] (.v (vB (Ec k))) []:=by
 have hN:Ba=274877906944:=rfl
 refine Av Tryz.func191 Q8 Q8 (w:=let z1:S:= .v (vB (Aw k 1 8));(.seg [.call [] z1 []] (.leaf () []),(Fp 71 [vI k,vI 1,vI 8] [] z1 [])∧Lf z1 (.v (vB (Ec k))) [] [])) Q8 ?_
 exact⟨(Cm _ _ _),(congrArg S.v (congrArg V.c (congrArg C.bool (by rfl)))),rfl⟩
theorem Rb (k:Int):Fun Tryz.prog 186 [vI k] [] (.v (vB (Bs k))) []:=by
 have hN:Ba=274877906944:=rfl
 refine Av Tryz.func186 Q8 Q8 (w:=let z1:S:= .v (vB (Aw k 1 5));(.seg [.call [] z1 []] (.leaf () []),(Fp 69 [vI k,vI 1,vI 5] [] z1 [])∧Lf z1 (.v (vB (Bs k))) [] [])) Q8 ?_
 exact⟨(D9 _ _ _),(congrArg S.v (congrArg V.c (congrArg C.bool (by rfl)))),rfl⟩
theorem Gk (k:Int):Fun Tryz.prog 207 [vI k] [] (.v (vB (Bs k))) []:=by
 have hN:Ba=274877906944:=rfl
 refine Av Tryz.func207 Q8 Q8 (w:=let z1:S:= .v (vB (Aw k 1 5));(.seg [.call [] z1 []] (.leaf () []),(Fp 71 [vI k,vI 1,vI 5] [] z1 [])∧Lf z1 (.v (vB (Bs k))) [] [])) Q8 ?_
 exact⟨(Cm _ _ _),(congrArg S.v (congrArg V.c (congrArg C.bool (by rfl)))),rfl⟩
theorem Abs (k:Int):Fun Tryz.prog 184 [vI k] [] (.v (vI (A3 k))) []:=by
 have hN:Ba=274877906944:=rfl
 refine Av Tryz.func184 Q8 Q8 (w:=let zi:Int→C:= .int .i64;let z1:=List.getD [0,0,0,5,1,2,2,2] (Int.toNat (k-1)) 0;(.seg [.call [] (.v (vB (Ec k))) []] (.br (.leaf () []) (.seg [.as 8 (.v (vI (k-1))),.ce (zi z1)] (.leaf () []))),(Fp 233 [vI k] [] (.v (vB (Ec k))) [])∧Bc (!(Ec k)) (Lf (.v (vI (-1))) (.v (vI (A3 k))) [] []) ((wI (k-1))∧((([zi 0,zi 0,zi 0,zi 5,zi 1,zi 2,zi 2,zi 2]:List C)[Int.toNat (k-1)]?)=some (zi z1))∧(k-1<((8:Nat):Int))∧((0:Int)≤k-1)∧Lf (.v (vI z1)) (.v (vI (A3 k))) [] []))) Q8 ?_
 refine⟨(Agc _),fun h1=>have q1:=Ar h1;have p1:=Bw q1;?_,fun h1=>have q1:=Ao h1;have p1:=Bp q1;?_⟩
 refine⟨(sI ?_),rfl⟩
 rotate_left
 refine⟨(Ac Q5 Q5),(Asn (l:=[0,0,0,5,1,2,2,2]) (by simp;omega)),Q5,Q5,(sI ?_),rfl⟩
 rotate_left
 all_goals first|(simp[A3, *];done)|(rcases (show k=1∨k=2∨k=3∨k=4∨k=5∨k=6∨k=7∨k=8 by omega) with rfl|rfl|rfl|rfl|rfl|rfl|rfl|rfl<;>rfl)
theorem Ji (k:Int):Fun Tryz.prog 178 [vI k] [] (.v (vI (A3 k))) []:=by
 have hN:Ba=274877906944:=rfl
 refine Av Tryz.func178 Q8 Q8 (w:=let z1:S:= .v (vI (A3 k));(.seg [.call [] (.v (vB (Ec k))) []] (.br (.leaf () []) (.br (.leaf () []) (.br (.leaf () []) (.seg [.call [] (.v (vB (Bs k))) []] (.br (.leaf () []) (.leaf () [])))))),(Fp 191 [vI k] [] (.v (vB (Ec k))) [])∧Bc (!(Ec k)) (Lf (.v (vI (-1))) z1 [] []) (Bc (decide (k=4)) (Lf (.v (vI 5)) z1 [] []) (Bc (decide (k=5)) (Lf (.v (vI 1)) z1 [] []) ((Fp 207 [vI k] [] (.v (vB (Bs k))) [])∧Bc (Bs k) (Lf (.v (vI 0)) z1 [] []) (Lf (.v (vI 2)) z1 [] [])))))) Q8 ?_
 refine⟨(Wx _),fun h1=>have q1:=Ar h1;have p1:=Bw q1;?_,fun h1=>have q1:=Ao h1;have p1:=Bp q1;?_⟩
 refine⟨(sI ?_),rfl⟩
 rotate_left
 refine dsp (fun h2 p2=>?_) fun h2 p2=>?_
 refine⟨(sI ?_),rfl⟩
 rotate_left
 refine dsp (fun h3 p3=>?_) fun h3 p3=>?_
 refine⟨(sI ?_),rfl⟩
 rotate_left
 refine⟨(Gk _),fun h4=>have p4:=Bp h4;?_,fun h4=>have p4:=Bw h4;?_⟩
 refine⟨(sI ?_),rfl⟩
 rotate_left
 refine⟨(sI ?_),rfl⟩
 rotate_left
 all_goals first|(simp[A3, *]<;>(repeat' split)<;>omega)|(subst_vars;rfl)
theorem Ac3 (w:Int):Fun Tryz.prog 189 [vI w] [] (.v (vI (Az w))) []:=by
 have hN:Ba=274877906944:=rfl
 refine Av Tryz.func189 Q8 Q8 (w:=let z1:S:= .v (vI (Az w));(.br (.leaf () []) (.br (.leaf () []) (.leaf () [])),Bc (decide (w=1)) (Lf (.v (vI 8)) z1 [] []) (Bc (decide (w=5)) (Lf (.v (vI 4)) z1 [] []) (Lf (.v (vI 0)) z1 [] [])))) Q8 ?_
 refine dsp (fun h1 p1=>?_) fun h1 p1=>?_
 exact⟨(congrArg S.v (congrArg V.c (congrArg (C.int .i64) (by simp[Az, *])))),rfl⟩
 refine dsp (fun h2 p2=>?_) fun h2 p2=>?_
 exact⟨(congrArg S.v (congrArg V.c (congrArg (C.int .i64) (by simp[Az, *])))),rfl⟩
 exact⟨(congrArg S.v (congrArg V.c (congrArg (C.int .i64) (by simp[Az, *])))),rfl⟩
theorem Ex (w:Int):Fun Tryz.prog 177 [vI w] [] (.v (vI (Az w))) []:=by
 have hN:Ba=274877906944:=rfl
 refine Av Tryz.func177 Q8 Q8 (w:=let z1:S:= .v (vI (Az w));(.br (.leaf () []) (.br (.leaf () []) (.leaf () [])),Bc (decide (w=1)) (Lf (.v (vI 8)) z1 [] []) (Bc (decide (w=5)) (Lf (.v (vI 4)) z1 [] []) (Lf (.v (vI 0)) z1 [] [])))) Q8 ?_
 refine dsp (fun h1 p1=>?_) fun h1 p1=>?_
 exact⟨(congrArg S.v (congrArg V.c (congrArg (C.int .i64) (by simp[Az, *])))),rfl⟩
 refine dsp (fun h2 p2=>?_) fun h2 p2=>?_
 exact⟨(congrArg S.v (congrArg V.c (congrArg (C.int .i64) (by simp[Az, *])))),rfl⟩
 exact⟨(congrArg S.v (congrArg V.c (congrArg (C.int .i64) (by simp[Az, *])))),rfl⟩
theorem J4 (k:Int) (u:Int) (hp1:(0:Int)≤u∧u≤18446744073709551615):Fun Tryz.prog 197 [vI k,.c (.int .u64 u)] [] (.v (vB (Cb k u))) []:=by
 have hN:Ba=274877906944:=rfl
 refine Av Tryz.func197 Q8 Q8 (w:=let z1:S:= .v (vB (Cb k u));(.br (.seg [.br true] (.leaf () [])) (.br (.seg [.br true] (.leaf () [])) (.br (.leaf () []) (.br (.leaf () []) (.br (.seg [.as 17 (.v (.c (.int .u64 (u / 4294967296))))] (.leaf () [])) (.leaf () []))))),Bc (decide (k=1)) (((decide (k=1))=true)∧Lf (.v (vB true)) z1 [] []) (Bc (decide (k=2)) (((decide (k=2))=true)∧Lf (.v (vB true)) z1 [] []) (Bc (decide (k=5)) (Lf (.v (vB true)) z1 [] []) (Bc (decide (k=3)) (Lf (.v (vB (decide (u≤1)))) z1 [] []) (Bc (decide (k=4)) (((0:Int)≤32)∧((.v (.c (.int .u64 (Int.fdiv u (2 ^ 32)))):S)= .v (.c (.int .u64 (u / 4294967296))))∧Lf (.v (vB (decide (u / 4294967296=0)))) z1 [] []) (Lf (.v (vB false)) z1 [] []))))))) Q8 ?_
 refine dsp (fun h1 p1=>?_) fun h1 p1=>?_
 refine⟨h1,(sB ?_),rfl⟩
 rotate_left
 refine dsp (fun h2 p2=>?_) fun h2 p2=>?_
 refine⟨h2,(sB ?_),rfl⟩
 rotate_left
 refine dsp (fun h3 p3=>?_) fun h3 p3=>?_
 refine⟨(sB ?_),rfl⟩
 rotate_left
 refine dsp (fun h4 p4=>?_) fun h4 p4=>?_
 refine⟨(sB ?_),rfl⟩
 rotate_left
 refine dsp (fun h5 p5=>?_) fun h5 p5=>?_
 refine⟨Q26,(P8 (k:=32) Q26 Q26),(sB ?_),rfl⟩
 rotate_left
 refine⟨(sB ?_),rfl⟩
 rotate_left
 all_goals simp[Cb,Bs,Aw, *]<;>omega
theorem Ac4 (k:Int) (u:Int) (hp1:(0:Int)≤u∧u≤18446744073709551615):Fun Tryz.prog 229 [vI k,.c (.int .u64 u)] [] (.v (vB (Cb k u))) []:=by
 have hN:Ba=274877906944:=rfl
 refine Av Tryz.func229 Q8 Q8 (w:=let z1:S:= .v (vB (Cb k u));let z2:S:= .v (vB (Bs k));(.br (.leaf () []) (.br (.leaf () []) (.seg [.call [] z2 []] (.leaf () []))),Bc (decide (k=3)) (Lf (.v (vB (decide (u≤1)))) z1 [] []) (Bc (decide (k=4)) (Lf (.v (vB (decide (u≤4294967295)))) z1 [] []) ((Fp 207 [vI k] [] z2 [])∧Lf z2 z1 [] [])))) Q8 ?_
 refine dsp (fun h1 p1=>?_) fun h1 p1=>?_
 refine⟨(sB ?_),rfl⟩
 rotate_left
 refine dsp (fun h2 p2=>?_) fun h2 p2=>?_
 refine⟨(sB ?_),rfl⟩
 rotate_left
 refine⟨(Gk _),(sB ?_),rfl⟩
 rotate_left
 all_goals simp[Cb,Bs,Aw, *]<;>omega
theorem Asu (f:Fld):Fun Tryz.prog 185 [.agg (Dd f)] [] (.v (vB (Ww f))) []:=by
 have hN:Ba=274877906944:=rfl
 refine Av Tryz.func185 Q8 Q8 (w:=let z1:S:= .v (vB (Bs f.kind));(.br (.seg [.call [] z1 []] (.leaf () [])) (.leaf () []),Bc f.rep ((Fp 186 [vI f.kind] [] z1 [])∧Lf z1 (.v (vB (Ww f))) [] []) (Lf (.v (vB false)) (.v (vB (Ww f))) [] []))) Q8 ?_
 refine⟨fun h1=>?_,fun h1=>?_⟩
 exact⟨(Rb _),(congrArg S.v (congrArg V.c (congrArg C.bool (by simp[Ww, *])))),rfl⟩
 exact⟨(congrArg S.v (congrArg V.c (congrArg C.bool (by simp[Ww, *])))),rfl⟩
theorem Ac5 (f:Fld):Fun Tryz.prog 181 [.agg (Dd f)] [] (.v (vB (Ww f))) []:=by
 have hN:Ba=274877906944:=rfl
 refine Av Tryz.func181 Q8 Q8 (w:=let z1:S:= .v (vB (Bs f.kind));(.br (.seg [.call [] z1 []] (.leaf () [])) (.leaf () []),Bc f.rep ((Fp 207 [vI f.kind] [] z1 [])∧Lf z1 (.v (vB (Ww f))) [] []) (Lf (.v (vB false)) (.v (vB (Ww f))) [] []))) Q8 ?_
 refine⟨fun h1=>?_,fun h1=>?_⟩
 exact⟨(Gk _),(congrArg S.v (congrArg V.c (congrArg C.bool (by simp[Ww, *])))),rfl⟩
 exact⟨(congrArg S.v (congrArg V.c (congrArg C.bool (by simp[Ww, *])))),rfl⟩
theorem Aj2 (f:Fld) (w:Int) (hp1:(0:Int)≤w):Fun Tryz.prog 123 [.agg (Dd f),vI w] [] (.v (vB (D0 f w))) []:=by
 have hN:Ba=274877906944:=rfl
 refine Av Tryz.func123 Q8 Q8 (w:=let z1:S:= .v (vB (D0 f w));let z2:S:= .v (vB (Ww f));(.seg [.call [] (.v (vI (A3 f.kind))) []] (.br (.leaf () []) (.br (.seg [.call [] z2 []] (.leaf () [])) (.leaf () []))),(Fp 184 [vI f.kind] [] (.v (vI (A3 f.kind))) [])∧Bc (decide (w=A3 f.kind)) (Lf (.v (vB true)) z1 [] []) (Bc (decide (w=2)) ((Fp 185 [.agg (Dd f)] [] z2 [])∧Lf z2 z1 [] []) (Lf (.v (vB false)) z1 [] [])))) Q8 ?_
 refine⟨(Abs _),dsp (fun h1 p1=>?_) fun h1 p1=>?_⟩
 refine⟨(sB ?_),rfl⟩
 rotate_left
 refine dsp (fun h2 p2=>?_) fun h2 p2=>?_
 refine⟨(Asu f),(sB ?_),rfl⟩
 rotate_left
 refine⟨(sB ?_),rfl⟩
 rotate_left
 all_goals first|(simp[D0, *]<;>(repeat' split)<;>omega)|(simp[D0,A3, *]<;>(repeat' split)<;>omega)
theorem Aj3 (f:Fld) (w:Int) (hp1:(0:Int)≤w):Fun Tryz.prog 131 [.agg (Dd f),vI w] [] (.v (vB (D0 f w))) []:=by
 have hN:Ba=274877906944:=rfl
 refine Av Tryz.func131 Q8 Q8 (w:=let z1:S:= .v (vB (D0 f w));let z2:S:= .v (vB (Ww f));(.seg [.call [] (.v (vB (Ec f.kind))) []] (.br (.seg [.call [] (.v (vI (A3 f.kind))) []] (.br (.leaf () []) (.br (.seg [.call [] z2 []] (.leaf () [])) (.leaf () [])))) (.br (.seg [.call [] z2 []] (.leaf () [])) (.leaf () []))),(Fp 191 [vI f.kind] [] (.v (vB (Ec f.kind))) [])∧Bc (Ec f.kind) ((Fp 178 [vI f.kind] [] (.v (vI (A3 f.kind))) [])∧Bc (decide (w=A3 f.kind)) (Lf (.v (vB true)) z1 [] []) (Bc (decide (w=2)) ((Fp 181 [.agg (Dd f)] [] z2 [])∧Lf z2 z1 [] []) (Lf (.v (vB false)) z1 [] []))) (Bc (decide (w=2)) ((Fp 181 [.agg (Dd f)] [] z2 [])∧Lf z2 z1 [] []) (Lf (.v (vB false)) z1 [] [])))) Q8 ?_
 refine⟨(Wx _),fun h1=>have p1:=Bp h1;?_,fun h1=>have p1:=Bw h1;?_⟩
 refine⟨(Ji _),dsp (fun h2 p2=>?_) fun h2 p2=>?_⟩
 refine⟨(sB ?_),rfl⟩
 rotate_left
 refine dsp (fun h3 p3=>?_) fun h3 p3=>?_
 refine⟨(Ac5 f),(sB ?_),rfl⟩
 rotate_left
 refine⟨(sB ?_),rfl⟩
 rotate_left
 refine dsp (fun h2 p2=>?_) fun h2 p2=>?_
 refine⟨(Ac5 f),(sB ?_),rfl⟩
 rotate_left
 refine⟨(sB ?_),rfl⟩
 rotate_left
 all_goals first|(simp[D0, *]<;>(repeat' split)<;>omega)|(simp[D0,A3, *]<;>(repeat' split)<;>omega)
structure N3 where
 u:Int
 out:List Int
def N4 (u:Int):Fam:=⟨N3,fun q1=>[(0,.v (.c (.int .u64 q1.u))),(3,.v (vO 0))],fun q1=>[.lst .u8 q1.out],fun q1=>(0:Int)≤q1.u∧q1.u≤18446744073709551615∧List.map A5 q1.out++A9 q1.u=A9 u∧q1.out.length+List.length (A9 q1.u)≤10,fun q1=>q1.u.toNat⟩
theorem N5 (u:Int) (hp1:(0:Int)≤u∧u≤18446744073709551615):Fun Tryz.prog 107 [.c (.int .u64 u)] [] (.v (vT (A9 u))) []:=by
 have hN:Ba=274877906944:=rfl
 refine Av Tryz.func107 Q8 Q8 (w:=let z2:=N4 u;(.seg [.ty .u8,.at 0,.keep [0,3],.sel [0]] (.loop z2 fun q1=> .br (.seg [.as 9 (.v (.c (.int .u64 (q1.u % 128)))),.as 10 (.v (.c (.int .u64 (q1.u % 128+128)))),.as 11 (.v (.c (.int .u8 (q1.u % 128+128)))),.ty .u8,.ty .u8,.as 15 (.v (.c (.int .u64 (q1.u / 128)))),.at 0,.keep [0,3],.sel [2]] (.next)) (.seg [.as 18 (.v (.c (.int .u8 q1.u))),.ty .u8,.ty .u8] (.leaf () []))),z2.Has [(0,.v (.c (.int .u64 u))),(3,.v (vO 0))] [.lst .u8 ([]:List Int)]∧∀q1,z2.inv q1→(let z1:=q1.u % 128+128;Bc (decide (127<q1.u)) (((128:Int)≠0)∧((.v (.c (.int .u64 (Int.tmod q1.u 128))):S)= .v (.c (.int .u64 (q1.u % 128))))∧((.v (.c (.int .u64 (IntKind.u64.wrap ((q1.u % 128)+128)))):S)= .v (.c (.int .u64 z1)))∧((.v (.c (.int .u8 (IntKind.u8.wrap z1))):S)= .v (.c (.int .u8 z1)))∧(q1.out.length+List.length [q1.u % 128+128]≤Ba)∧((128:Int)≠0)∧((.v (.c (.int .u64 (IntKind.u64.wrap (Int.tdiv q1.u 128)))):S)= .v (.c (.int .u64 (q1.u / 128))))∧z2.Nxt q1 [(0,.v (.c (.int .u64 (q1.u / 128)))),(3,.v (vO 0))] [.lst .u8 (q1.out++[q1.u % 128+128])]) (((.v (.c (.int .u8 (IntKind.u8.wrap (q1.u)))):S)= .v (.c (.int .u8 q1.u)))∧(q1.out.length+List.length [q1.u]≤Ba)∧Lf (.v (vT (List.map A5 (q1.out++[q1.u])))) (.v (vT (A9 u))) [] [])))) Q8 ?_
 refine⟨Bv (j:=(⟨u,([]:List Int)⟩:N3)) rfl rfl (by dsimp only[N4];exact⟨by omega,by omega,by simp,by have:=T9 (u:=u) Q5;unfold Dg at this;simp;omega⟩),fun (q1:N3) hq_q1=>?_⟩
 have hi_q1:(0:Int)≤q1.u∧q1.u≤18446744073709551615∧List.map A5 q1.out++A9 q1.u=A9 u∧q1.out.length+List.length (A9 q1.u)≤10:=hq_q1
 obtain ⟨v1,v2,v3,v4⟩:=hi_q1
 refine dsp (fun h1 p1=>?_) fun h1 p1=>?_
 exact⟨Q26,(Ki Q5),(Bm Q5 Q5),(M7 Q5 Q5),(by have:=F9 q1.u;simp;omega),Q26,(H6 Q5 Q5 Q26),Ay (j:=(⟨q1.u / 128,q1.out++[q1.u % 128+128]⟩:N3)) rfl rfl (by dsimp only[N4];exact⟨by omega,by omega,by rw[←v3,Vd (u:=q1.u) (by omega) (by omega)];simp[A5],by rw[Vd (u:=q1.u) (by omega) (by omega)] at v4;simp at v4 ⊢;omega⟩) (by dsimp only[N4];omega)⟩
 refine⟨(M7 Q5 Q5),(by have:=F9 q1.u;simp;omega),(congrArg S.v (congrArg V.c (congrArg C.str ?_))),rfl⟩
 rotate_left
 all_goals rw[←v3,Qx (u:=q1.u) (by omega) (by omega)];simp[A5]
structure N6 where
 u:Int
 n:Int
def N7 (u:Int):Fam:=⟨N6,fun q1=>[(0,.v (.c (.int .u64 q1.u))),(3,.v (vI q1.n))],fun _=>[],fun q1=>(0:Int)≤q1.u∧q1.u≤18446744073709551615∧((List.length (A9 q1.u):Nat):Int)+q1.n=Dg u+1∧1≤q1.n,fun q1=>q1.u.toNat⟩
theorem Agd (u:Int) (hp1:(0:Int)≤u∧u≤18446744073709551615):Fun Tryz.prog 270 [.c (.int .u64 u)] [] (.v (vI (Dg u))) []:=by
 have hN:Ba=274877906944:=rfl
 refine Av Tryz.func270 Q8 Q8 (w:=let z1:=N7 u;(.seg [.at 0,.keep [0,3],.sel []] (.loop z1 fun q1=> .br (.seg [.as 9 (.v (vI (q1.n+1))),.as 7 (.v (.c (.int .u64 (q1.u / 128)))),.at 0,.keep [0,3],.sel []] (.next)) (.leaf () [])),z1.Has [(0,.v (.c (.int .u64 u))),(3,.v (vI 1))] []∧∀q1,z1.inv q1→(Bc (decide (127<q1.u)) ((wI (q1.n+1))∧((0:Int)≤7)∧((.v (.c (.int .u64 (Int.fdiv q1.u (2 ^ 7)))):S)= .v (.c (.int .u64 (q1.u / 128))))∧z1.Nxt q1 [(0,.v (.c (.int .u64 (q1.u / 128)))),(3,.v (vI (q1.n+1)))] []) (Lf (.v (vI q1.n)) (.v (vI (Dg u))) [] [])))) Q8 ?_
 refine⟨Bv (j:=(⟨u,1⟩:N6)) rfl rfl (by dsimp only[N7];exact⟨by omega,by omega,by unfold Dg;omega,by omega⟩),fun (q1:N6) hq_q1=>?_⟩
 have hi_q1:(0:Int)≤q1.u∧q1.u≤18446744073709551615∧((List.length (A9 q1.u):Nat):Int)+q1.n=Dg u+1∧1≤q1.n:=hq_q1
 obtain ⟨v1,v2,v3,v4⟩:=hi_q1
 have hb:=T9 (u:=u) (by omega)
 have hc:=F9 q1.u
 refine dsp (fun h1 p1=>?_) fun h1 p1=>?_
 exact⟨(Ac Q5 Q5),Q26,(P8 (k:=7) Q26 Q26),Ay (j:=(⟨q1.u / 128,q1.n+1⟩:N6)) rfl rfl (by dsimp only[N7];exact⟨by omega,by omega,by rw[Vd (u:=q1.u) (by omega) (by omega)] at v3;simp at v3 ⊢;omega,by omega⟩) (by dsimp only[N7];omega)⟩
 refine⟨(sI ?_),rfl⟩
 rotate_left
 all_goals rw[Qx (u:=q1.u) (by omega) (by omega)] at v3;simp at v3;omega
structure N8 where
 u:Int
 out:List Int
 v:Nat
def N9 (u:Int):Fam:=⟨N8,fun q1=>[(0,.v (.c (.int .u64 q1.u))),(1,.v (vI (Dg u))),(5,.v (vO 0)),(15,.v (vI (Dg u))),(16,.v (vI (q1.v:Int)))],fun q1=>[.lst .u8 q1.out],fun q1=>q1.v≤(List.length (A9 u))∧q1.out.length=(List.length (A9 u))∧List.take q1.v q1.out=List.take q1.v (Ad3 (u.toNat) (List.length (A9 u)))∧q1.u=((u.toNat / 128 ^ q1.v:Nat):Int),fun q1=>(List.length (A9 u))-q1.v⟩
theorem Ann (u:Int) (hp1:(0:Int)≤u∧u≤18446744073709551615):Fun Tryz.prog 269 [.c (.int .u64 u),vI (Dg u)] [] (.v (vT (A9 u))) []:=by
 have hN:Ba=274877906944:=rfl
 have hb:=T9 (u:=u) (by omega)
 have hl:Dg u=(((A9 u).length:Nat):Int):=rfl
 refine Av Tryz.func269 Q8 Q8 (w:=let z4:=Dg u;let z5:=Dg u-1;let z6:=List.replicate (z4.toNat) (0:Int);let z7:=N9 u;(.seg [.call [] (.v (vI z4)) [],.call [] (.v (vB (Aw z4 z4 10))) [],.br false,.ty .u8,.as 15 (.v (vI z4)),.at 0,.keep [0,1,5,15,16],.sel [0]] (.loop z7 fun q1=> .br (.seg [.as 22 (.v (.c (.int .u64 (q1.u % 128)))),.as 23 (.v (.c (.int .u64 ((q1.u % 128)+128)))),.as 24 (.v (.c (.int .u8 (q1.u % 128+128))))] (.intro (Sx (q1.out[q1.v]?)) fun x1=> .seg [.el .u8 x1,.as 27 (.v (.c (.int .u64 (q1.u / 128)))),.as 28 (.v (vI ((q1.v:Int)+1))),.at 0,.keep [0,1,5,15,16],.sel [0]] (.next))) (.seg [.as 31 (.v (vI z5))] (.intro (Sx (q1.out[z5.toNat]?)) fun x1=> .seg [.el .u8 x1,.as 34 (.v (.c (.int .u8 (x1 % 128)))),.el .u8 x1] (.leaf () [])))),(Fp 270 [.c (.int .u64 u)] [] (.v (vI z4)) [])∧(Fp 69 [vI z4,vI z4,vI 10] [] (.v (vB (Aw z4 z4 10))) [])∧((!(Aw z4 z4 10))=false)∧(Dg u≤9223372036854775807)∧(((1:Nat):Int)*z4≤281474976710656)∧(Dg u≤Dg u)∧((0:Int)≤Dg u)∧((.v (vI (z6.length:Int)):S)= .v (vI z4))∧z7.Has [(0,.v (.c (.int .u64 u))),(1,.v (vI z4)),(5,.v (vO 0)),(15,.v (vI z4)),(16,.v (vI 0))] [.lst .u8 z6]∧∀q1,z7.inv q1→(let z2:=(q1.v:Int);let z3:=(q1.out.length:Int);Bc (decide (z2<Dg u)) (((.v (.c (.int .u64 (IntKind.u64.wrap (((BitVec.ofInt 64 q1.u&&&BitVec.ofInt 64 127).toNat:Nat))))):S)= .v (.c (.int .u64 (q1.u % 128))))∧((.v (.c (.int .u64 (IntKind.u64.wrap (((BitVec.ofInt 64 (q1.u % 128)|||BitVec.ofInt 64 128).toNat:Nat))))):S)= .v (.c (.int .u64 ((q1.u % 128)+128))))∧((.v (.c (.int .u8 (IntKind.u8.wrap ((q1.u % 128)+128)))):S)= .v (.c (.int .u8 (q1.u % 128+128))))∧El (q1.out[q1.v]?) fun x1=>((z2<z3)∧((0:Int)≤z2)∧(q1.out[q1.v]? =some x1)∧((0:Int)≤7)∧((.v (.c (.int .u64 (Int.fdiv q1.u (2 ^ 7)))):S)= .v (.c (.int .u64 (q1.u / 128))))∧(wI (z2+1))∧z7.Nxt q1 [(0,.v (.c (.int .u64 (q1.u / 128)))),(1,.v (vI z4)),(5,.v (vO 0)),(15,.v (vI z4)),(16,.v (vI (z2+1)))] [.lst .u8 (List.set q1.out q1.v (q1.u % 128+128))])) (((.v (vI (IntKind.i64.wrap (z4-1))):S)= .v (vI z5))∧El (q1.out[z5.toNat]?) fun x1=>(let z1:=q1.out[z5.toNat]? =some x1;(Dg u-1<z3)∧((0:Int)≤Dg u-1)∧z1∧((.v (.c (.int .u8 (IntKind.u8.wrap (((BitVec.ofInt 8 x1&&&BitVec.ofInt 8 127).toNat:Nat))))):S)= .v (.c (.int .u8 (x1 % 128))))∧(Dg u-1<z3)∧((0:Int)≤Dg u-1)∧z1∧Lf (.v (vT (List.map A5 (List.set q1.out (z5.toNat) (x1 % 128))))) (.v (vT (A9 u))) [] []))))) Q8 ?_
 refine⟨(Agd _ Q5),(D9 _ _ _),(by simp[Aw];omega),Q5,Q5,Q5,Q5,(Ajn (by rw[List.length_replicate];omega)),Bv (j:=(⟨u,List.replicate (Int.toNat (Dg u)) (0:Int),0⟩:N8)) Q12 rfl (by dsimp only[N9];exact⟨by omega,by unfold Dg;simp,by simp,by simp;omega⟩),fun (q1:N8) hq_q1=>?_⟩
 have hi_q1:q1.v≤(List.length (A9 u))∧q1.out.length=(List.length (A9 u))∧List.take q1.v q1.out=List.take q1.v (Ad3 (u.toNat) (List.length (A9 u)))∧q1.u=((u.toNat / 128 ^ q1.v:Nat):Int):=hq_q1
 obtain ⟨v1,v2,v3,v4⟩:=hi_q1
 have hb:=T9 (u:=u) (by omega)
 have hu0:(0:Int)≤q1.u:=by rw[v4];exact Int.natCast_nonneg _
 have hu1:q1.u≤18446744073709551615:=by rw[v4];have:=Nat.div_le_self (u.toNat) (128 ^ q1.v);omega
 refine dsp (fun h1 p1=>?_) fun h1 p1=>?_
 refine⟨(Xy (k:=7) Q26 Q26),(Asr Q5 Q5),(M7 Q5 Q5),(A8 (l:=q1.out) (i:=q1.v) Q5),fun x1 hx1=>?_⟩
 exact⟨Q5,Q5,hx1,Q26,(P8 (k:=7) Q26 Q26),(Ac Q5 Q5),Ay (j:=(⟨q1.u / 128,List.set q1.out q1.v (q1.u % 128+128),q1.v+1⟩:N8)) Q12 rfl (by dsimp only[N9];exact⟨by omega,by simp[v2],Aga v3 (by rw[v2,Ua]) (by rw[Abq (by omega),v4];simp<;>omega),by rw[v4,Ajv]⟩) (by dsimp only[N9];omega)⟩
 refine⟨(Ac Q5 Q5),(A8 (l:=q1.out) (i:=Int.toNat (Dg u-1)) Q5),fun x1 hx1=>?_⟩
 refine⟨Q5,Q5,?_⟩
 have hq:=Xz v3 (by rw[v2,Ua]) (by rw[Ua];omega)
 have hxe:=hx1
 rw[hq,Abq (by omega)] at hxe
 have hxe:=Option.some.inj hxe
 have hxb:0≤x1∧x1≤255:=by rw[←hxe];omega
 refine⟨hx1,(Aer Q5 Q5),Q5,Q5,hx1,(congrArg S.v (congrArg V.c (congrArg C.str ?_))),rfl⟩
 rotate_left
 all_goals rw[hq] at hx1 ⊢;rw[show Int.toNat (Dg u-1)=List.length (A9 u)-1 by omega] at hx1 ⊢;exact Anf rfl hx1
theorem Mf (u:Int) (hp1:(0:Int)≤u∧u≤18446744073709551615):Fun Tryz.prog 223 [.c (.int .u64 u)] [] (.v (vT (A9 u))) []:=by
 have hN:Ba=274877906944:=rfl
 refine Av Tryz.func223 Q8 Q8 (w:=let z1:S:= .v (vT (A9 u));(.seg [.call [] (.v (vI (Dg u))) [],.call [] z1 []] (.leaf () []),(Fp 270 [.c (.int .u64 u)] [] (.v (vI (Dg u))) [])∧(Fp 269 [.c (.int .u64 u),vI (Dg u)] [] z1 [])∧Lf z1 z1 [] [])) Q8 ?_
 exact⟨(Agd _ Q5),(Ann _ Q5),rfl,rfl⟩
structure Gm where
 u:Int
 k:Nat
def Gn (s:List UInt8) (at_:Int) (end_:Int):Fam:=⟨Gm,fun q1=>[(0,.v (vT s)),(1,.v (vI at_)),(2,.v (vI end_)),(9,.v (.c (.int .u64 q1.u))),(10,.v (vI (q1.k:Int)))],fun _=>[],fun q1=>q1.k≤9∧(0:Int)≤q1.u∧q1.u<2 ^ (7*q1.k)∧vwA s at_ end_ (10-q1.k) (((q1.k:Nat)):Int) q1.u=Ah s at_ end_,fun q1=>10-q1.k⟩
theorem Aet (s:List UInt8) (at_:Int) (end_:Int) (hp1:s.length≤Ba):Fun Tryz.prog 173 [vT s,vI at_,vI end_] [] (.tup [.c (.int .u64 (Ah s at_ end_).1),vI (Ah s at_ end_).2.1,vI (Ah s at_ end_).2.2]) []:=by
 have hN:Ba=274877906944:=rfl
 refine Av Tryz.func173 Q8 Q8 (w:=let z11:=(s.length:Int);let z12:=Gn s at_ end_;let z14:=Ah s at_ end_;let z10:S:= .tup [.c (.int .u64 z14.1),vI z14.2.1,vI z14.2.2];let z13:=Lf (.tup [.c (.int .u64 0),vI z11,vI 10]) z10 [] [];let z15:=Aw at_ 0 z11;(.seg [.call [] (.v (vB z15)) []] (.br (.leaf () []) (.seg [.at 0,.keep [0,1,2,9,10],.sel []] (.loop z12 fun q1=>let z7:=(q1.k:Int);.seg [.as 24 (.v (vI (at_+z7)))] (.br (.leaf () []) (.seg [.as 31 (.v (vI (at_+z7)))] (.br (.leaf () []) (.br (.seg [.as 44 (.v (vI (at_+z7)))] (.intro (Sx (s[Int.toNat (at_+z7)]?)) fun x1=>let z1:=((UInt8.toNat x1:Nat):Int) % 128;.seg [.ch x1] (.br (.seg [.as 50 (.v (vI (at_+z7)))] (.leaf () [])) (.seg [.as 54 (.v (vI (at_+z7))),.ch x1,.as 58 (.v (.c (.int .u8 z1))),.as 59 (.v (.c (.int .u64 z1))),.as 61 (.v (vI (7*z7))),.as 62 (.v (.c (.int .u64 (7*z7)))),.as 63 (.v (.c (.int .u64 (z1*2 ^ (7*q1.k))))),.as 64 (.v (.c (.int .u64 (q1.u+z1*2 ^ (7*q1.k)))))] (.br (.seg [.as 70 (.v (vI (at_+z7))),.as 71 (.v (vI (at_+z7+1)))] (.leaf () [])) (.seg [.as 20 (.v (vI (z7+1))),.at 0,.keep [0,1,2,9,10],.sel []] (.next))))))) (.seg [.as 54 (.v (vI (at_+z7)))] (.intro (Sx (s[Int.toNat (at_+z7)]?)) fun x1=>let z4:=((UInt8.toNat x1:Nat):Int) % 128;.seg [.ch x1,.as 58 (.v (.c (.int .u8 z4))),.as 59 (.v (.c (.int .u64 z4))),.as 61 (.v (vI (7*z7))),.as 62 (.v (.c (.int .u64 (7*z7)))),.as 63 (.v (.c (.int .u64 (z4*2 ^ (7*q1.k))))),.as 64 (.v (.c (.int .u64 (q1.u+z4*2 ^ (7*q1.k)))))] (.br (.seg [.as 70 (.v (vI (at_+z7))),.as 71 (.v (vI (at_+z7+1)))] (.leaf () [])) (.seg [.as 20 (.v (vI (z7+1))),.at 0,.keep [0,1,2,9,10],.sel []] (.next)))))))))))),(Fp 69 [vI at_,vI 0,vI z11] [] (.v (vB z15)) [])∧Bc (!z15) z13 (z12.Has [(0,.v (vT s)),(1,.v (vI at_)),(2,.v (vI end_)),(9,.v (.c (.int .u64 0))),(10,.v (vI 0))] []∧∀q1,z12.inv q1→(let z8:=(q1.k:Int);let z9:=7*q1.k;(wI (at_+z8))∧Bc (decide (end_≤at_+z8)) (Lf (.tup [.c (.int .u64 0),vI end_,vI 9]) z10 [] []) ((wI (at_+z8))∧Bc (decide (z11≤at_+z8)) z13 (Bc (decide (z8=9)) ((wI (at_+z8))∧El (s[Int.toNat (at_+z8)]?) fun x1=>(let z2:=((UInt8.toNat x1:Nat):Int);let z3:=s[Int.toNat (at_+z8)]? =some x1;z3∧((0:Int)≤at_+z8)∧Bc (decide (1<z2)) ((wI (at_+z8))∧Lf (.tup [.c (.int .u64 0),vI (at_+z8),vI 1]) z10 [] []) ((wI (at_+z8))∧z3∧((0:Int)≤at_+z8)∧((.v (.c (.int .u8 (IntKind.u8.wrap (((BitVec.ofInt 8 z2&&&BitVec.ofInt 8 127).toNat:Nat))))):S)= .v (.c (.int .u8 (z2 % 128))))∧(wU (z2 % 128))∧(wI (7*z8))∧(wU (7*z8))∧((0:Int)≤7*z8)∧((.v (.c (.int .u64 (IntKind.u64.wrap ((z2 % 128)*2 ^ min (Int.toNat (7*z8)) 64)))):S)= .v (.c (.int .u64 ((z2 % 128)*2 ^ z9))))∧((.v (.c (.int .u64 (IntKind.u64.wrap (((BitVec.ofInt 64 q1.u|||BitVec.ofInt 64 ((z2 % 128)*2 ^ z9)).toNat:Nat))))):S)= .v (.c (.int .u64 (q1.u+(z2 % 128)*2 ^ z9))))∧Bc (decide (z2<128)) ((wI (at_+z8))∧((.v (vI (IntKind.i64.wrap ((at_+z8)+1))):S)= .v (vI (at_+z8+1)))∧Lf (.tup [.c (.int .u64 (q1.u+(z2 % 128)*2 ^ z9)),vI (at_+z8+1),vI 0]) z10 [] []) ((wI (z8+1))∧z12.Nxt q1 [(0,.v (vT s)),(1,.v (vI at_)),(2,.v (vI end_)),(9,.v (.c (.int .u64 (q1.u+(z2 % 128)*2 ^ z9)))),(10,.v (vI (z8+1)))] [])))) ((wI (at_+z8))∧El (s[Int.toNat (at_+z8)]?) fun x1=>(let z6:=((UInt8.toNat x1:Nat):Int);let z5:=z6 % 128;(s[Int.toNat (at_+z8)]? =some x1)∧((0:Int)≤at_+z8)∧((.v (.c (.int .u8 (IntKind.u8.wrap (((BitVec.ofInt 8 z6&&&BitVec.ofInt 8 127).toNat:Nat))))):S)= .v (.c (.int .u8 z5)))∧(wU z5)∧(wI (7*z8))∧(wU (7*z8))∧((0:Int)≤7*z8)∧((.v (.c (.int .u64 (IntKind.u64.wrap (z5*2 ^ min (Int.toNat (7*z8)) 64)))):S)= .v (.c (.int .u64 (z5*2 ^ z9))))∧((.v (.c (.int .u64 (IntKind.u64.wrap (((BitVec.ofInt 64 q1.u|||BitVec.ofInt 64 (z5*2 ^ z9)).toNat:Nat))))):S)= .v (.c (.int .u64 (q1.u+z5*2 ^ z9))))∧Bc (decide (z6<128)) ((wI (at_+z8))∧((.v (vI (IntKind.i64.wrap ((at_+z8)+1))):S)= .v (vI (at_+z8+1)))∧Lf (.tup [.c (.int .u64 (q1.u+z5*2 ^ z9)),vI (at_+z8+1),vI 0]) z10 [] []) ((wI (z8+1))∧z12.Nxt q1 [(0,.v (vT s)),(1,.v (vI at_)),(2,.v (vI end_)),(9,.v (.c (.int .u64 (q1.u+z5*2 ^ z9)))),(10,.v (vI (z8+1)))] []))))))))) Q8 ?_
 refine⟨(D9 _ _ _),fun h1=>have q1:=Ar h1;have p1:=Bw q1;?_,fun h1=>have q1:=Ao h1;have p1:=Bp q1;?_⟩
 refine⟨(congrArg S.tup (Af (congrArg V.c (congrArg (C.int .u64) ?_)) (Af (congrArg V.c (congrArg (C.int .i64) ?_)) (Af (congrArg V.c (congrArg (C.int .i64) ?_)) rfl)))),rfl⟩
 rotate_left 3
 have hw:Aw at_ 0 (s.length:Int)=true:=by simpa using h1
 refine⟨Bv (j:=(⟨0,0⟩:Gm)) Q12 rfl (by dsimp only[Gn];exact⟨by omega,by omega,by decide,by simp[Ah,hw]⟩),fun (q1:Gm) hq_q1=>?_⟩
 have hi_q1:q1.k≤9∧(0:Int)≤q1.u∧q1.u<2 ^ (7*q1.k)∧vwA s at_ end_ (10-q1.k) (((q1.k:Nat)):Int) q1.u=Ah s at_ end_:=hq_q1
 obtain ⟨v1,v2,v3,v4⟩:=hi_q1
 obtain ⟨f,hf⟩: ∃f,10-q1.k=f+1:=⟨9-q1.k,by omega⟩
 rw[hf,vwA] at v4
 have e7:Int.toNat (7*(q1.k:Int))=7*q1.k:=by omega
 refine⟨(Ac Q5 Q5),dsp (fun h2 p2=>?_) fun h2 p2=>?_⟩
 rw[if_pos p2] at v4
 refine⟨(congrArg S.tup (Af (congrArg V.c (congrArg (C.int .u64) ?_)) (Af (congrArg V.c (congrArg (C.int .i64) ?_)) (Af (congrArg V.c (congrArg (C.int .i64) ?_)) rfl)))),rfl⟩
 rotate_left 3
 rw[if_neg p2] at v4
 refine⟨(Ac Q5 Q5),dsp (fun h3 p3=>?_) fun h3 p3=>?_⟩
 rw[if_pos p3] at v4
 refine⟨(congrArg S.tup (Af (congrArg V.c (congrArg (C.int .u64) ?_)) (Af (congrArg V.c (congrArg (C.int .i64) ?_)) (Af (congrArg V.c (congrArg (C.int .i64) ?_)) rfl)))),rfl⟩
 rotate_left 3
 rw[if_neg p3] at v4
 refine dsp (fun h4 p4=>?_) fun h4 p4=>?_
 refine⟨(Ac Q5 Q5),(A8 (l:=s) (i:=Int.toNat (at_+(q1.k:Int))) Q5),fun x1 hx1=>?_⟩
 have hb_x1:=UInt8.toNat_lt x1
 have he:=N0 (d:=0) hx1
 have hv:=fun h9=>Aad (c:=(x1.toNat:Int) % 128) (k:=q1.k) (by omega) (by omega) (by omega) h9
 refine⟨hx1,Q5,dsp (fun h5 p5=>?_) fun h5 p5=>?_⟩
 rw[if_pos ⟨by omega,by rw[he];omega⟩] at v4
 refine⟨(Ac Q5 Q5),(congrArg S.tup (Af (congrArg V.c (congrArg (C.int .u64) ?_)) (Af (congrArg V.c (congrArg (C.int .i64) ?_)) (Af (congrArg V.c (congrArg (C.int .i64) ?_)) rfl)))),rfl⟩
 rotate_left 3
 rw[if_neg (by rw[he];omega)] at v4
 refine⟨(Ac Q5 Q5),hx1,Q5,(Aer Q5 Q5),(Bm Q5 Q5),(Ac Q5 Q5),(Bm Q5 Q5),Q5,(Ub Q5 Q5 Q5 (by intro h;omega)),(Agb Q5 Q5 Q5 (by intro h;omega) Q5 Q5),dsp (fun h6 p6=>?_) fun h6 p6=>?_⟩
 have hv:=hv (by intro h;omega)
 rw[he,e7] at v4
 rw[if_pos p6] at v4
 refine⟨(Ac Q5 Q5),(Ac Q5 Q5),(congrArg S.tup (Af (congrArg V.c (congrArg (C.int .u64) ?_)) (Af (congrArg V.c (congrArg (C.int .i64) ?_)) (Af (congrArg V.c (congrArg (C.int .i64) ?_)) rfl)))),rfl⟩
 rotate_left 3
 have hv:=hv (by intro h;omega)
 rw[he,e7] at v4
 rw[if_neg p6] at v4
 exact⟨(Ac Q5 Q5),Ay (j:=(⟨q1.u+(((UInt8.toNat x1:Nat):Int) % 128)*2 ^ (7*q1.k),q1.k+1⟩:Gm)) Q12 rfl Q82 (by dsimp only[Gn];omega)⟩
 rw[if_neg (by omega)] at v4
 refine⟨(Ac Q5 Q5),(A8 (l:=s) (i:=Int.toNat (at_+(q1.k:Int))) Q5),fun x1 hx1=>?_⟩
 have hb_x1:=UInt8.toNat_lt x1
 have he:=N0 (d:=0) hx1
 have hv:=fun h9=>Aad (c:=(x1.toNat:Int) % 128) (k:=q1.k) (by omega) (by omega) (by omega) h9
 refine⟨hx1,Q5,(Aer Q5 Q5),(Bm Q5 Q5),(Ac Q5 Q5),(Bm Q5 Q5),Q5,(Ub Q5 Q5 Q5 (by intro h;omega)),(Agb Q5 Q5 Q5 (by intro h;omega) Q5 Q5),dsp (fun h5 p5=>?_) fun h5 p5=>?_⟩
 have hv:=hv (by intro h;omega)
 rw[he,e7] at v4
 rw[if_pos p5] at v4
 refine⟨(Ac Q5 Q5),(Ac Q5 Q5),(congrArg S.tup (Af (congrArg V.c (congrArg (C.int .u64) ?_)) (Af (congrArg V.c (congrArg (C.int .i64) ?_)) (Af (congrArg V.c (congrArg (C.int .i64) ?_)) rfl)))),rfl⟩
 rotate_left 3
 have hv:=hv (by intro h;omega)
 rw[he,e7] at v4
 rw[if_neg p5] at v4
 exact⟨(Ac Q5 Q5),Ay (j:=(⟨q1.u+(((UInt8.toNat x1:Nat):Int) % 128)*2 ^ (7*q1.k),q1.k+1⟩:Gm)) Q12 rfl Q82 (by dsimp only[Gn];omega)⟩
 all_goals first|(rw[←v4])|(simp[Ah, *];done)
structure Gp where
 u:Int
 k:Nat
def Gq (s:List UInt8) (at_:Int) (end_:Int):Fam:=⟨Gp,fun q1=>[(0,.v (vT s)),(1,.v (vI at_)),(2,.v (vI end_)),(9,.v (.c (.int .u64 q1.u))),(10,.v (vI (q1.k:Int)))],fun _=>[],fun q1=>q1.k≤9∧(0:Int)≤q1.u∧q1.u<2 ^ (7*q1.k)∧vwA s at_ end_ (10-q1.k) (((q1.k:Nat)):Int) q1.u=Ah s at_ end_,fun q1=>10-q1.k⟩
theorem X5 (s:List UInt8) (at_:Int) (end_:Int) (hp1:s.length≤Ba):Fun Tryz.prog 112 [vT s,vI at_,vI end_] [] (.tup [.c (.int .u64 (Ah s at_ end_).1),vI (Ah s at_ end_).2.1,vI (Ah s at_ end_).2.2]) []:=by
 have hN:Ba=274877906944:=rfl
 refine Av Tryz.func112 Q8 Q8 (w:=let z7:=(s.length:Int);let z8:=Gq s at_ end_;let z10:=Ah s at_ end_;let z6:S:= .tup [.c (.int .u64 z10.1),vI z10.2.1,vI z10.2.2];let z9:=Lf (.tup [.c (.int .u64 0),vI z7,vI 10]) z6 [] [];(.seg [.call [] (.v (vB (Aw at_ 0 z7))) []] (.br (.leaf () []) (.seg [.at 0,.keep [0,1,2,9,10],.sel []] (.loop z8 fun q1=>let z4:=(q1.k:Int);.seg [.br true,.as 26 (.v (vI (at_+z4)))] (.br (.leaf () []) (.seg [.as 33 (.v (vI (at_+z4)))] (.br (.leaf () []) (.seg [.as 42 (.v (vI (at_+z4)))] (.intro (Sx (s[Int.toNat (at_+z4)]?)) fun x1=>let z1:=((UInt8.toNat x1:Nat):Int) % 128;.seg [.ch x1,.as 44 (.v (.c (.int .u64 ((UInt8.toNat x1:Nat):Int))))] (.br (.br (.seg [.as 53 (.v (vI (at_+z4)))] (.leaf () [])) (.seg [.as 56 (.v (.c (.int .u64 z1))),.as 58 (.v (vI (7*z4))),.as 59 (.v (.c (.int .u64 (7*z4)))),.as 60 (.v (.c (.int .u64 (z1*2 ^ (7*q1.k))))),.as 61 (.v (.c (.int .u64 (q1.u+(z1*2 ^ (7*q1.k))))))] (.br (.seg [.as 67 (.v (vI (at_+z4))),.as 68 (.v (vI (at_+z4+1)))] (.leaf () [])) (.seg [.as 22 (.v (vI (z4+1))),.at 0,.keep [0,1,2,9,10],.sel []] (.next))))) (.seg [.as 56 (.v (.c (.int .u64 z1))),.as 58 (.v (vI (7*z4))),.as 59 (.v (.c (.int .u64 (7*z4)))),.as 60 (.v (.c (.int .u64 (z1*2 ^ (7*q1.k))))),.as 61 (.v (.c (.int .u64 (q1.u+(z1*2 ^ (7*q1.k))))))] (.br (.seg [.as 67 (.v (vI (at_+z4))),.as 68 (.v (vI (at_+z4+1)))] (.leaf () [])) (.seg [.as 22 (.v (vI (z4+1))),.at 0,.keep [0,1,2,9,10],.sel []] (.next))))))))))))),(Fp 71 [vI at_,vI 0,vI z7] [] (.v (vB (Aw at_ 0 z7))) [])∧Bc (!(Aw at_ 0 z7)) z9 (z8.Has [(0,.v (vT s)),(1,.v (vI at_)),(2,.v (vI end_)),(9,.v (.c (.int .u64 0))),(10,.v (vI 0))] []∧∀q1,z8.inv q1→(let z5:=(q1.k:Int);((decide (z5<10))=true)∧(wI (at_+z5))∧Bc (decide (end_≤at_+z5)) (Lf (.tup [.c (.int .u64 0),vI end_,vI 9]) z6 [] []) ((wI (at_+z5))∧Bc (decide (z7≤at_+z5)) z9 ((wI (at_+z5))∧El (s[Int.toNat (at_+z5)]?) fun x1=>(let z3:=((UInt8.toNat x1:Nat):Int);let z2:=((128:Int)≠0)∧((.v (.c (.int .u64 (Int.tmod z3 128))):S)= .v (.c (.int .u64 (z3 % 128))))∧(wI (7*z5))∧(wU (7*z5))∧((0:Int)≤7*z5)∧((.v (.c (.int .u64 (IntKind.u64.wrap ((z3 % 128)*2 ^ min (Int.toNat (7*z5)) 64)))):S)= .v (.c (.int .u64 ((z3 % 128)*2 ^ (7*q1.k)))))∧(wU (q1.u+((z3 % 128)*2 ^ (7*q1.k))))∧Bc (decide (z3<128)) ((wI (at_+z5))∧((.v (vI (IntKind.i64.wrap ((at_+z5)+1))):S)= .v (vI (at_+z5+1)))∧Lf (.tup [.c (.int .u64 (q1.u+((z3 % 128)*2 ^ (7*q1.k)))),vI (at_+z5+1),vI 0]) z6 [] []) ((wI (z5+1))∧z8.Nxt q1 [(0,.v (vT s)),(1,.v (vI at_)),(2,.v (vI end_)),(9,.v (.c (.int .u64 (q1.u+((z3 % 128)*2 ^ (7*q1.k)))))),(10,.v (vI (z5+1)))] []);(s[Int.toNat (at_+z5)]? =some x1)∧((0:Int)≤at_+z5)∧(wU (z3))∧Bc (decide (z5=9)) (Bc (decide (1<z3)) ((wI (at_+z5))∧Lf (.tup [.c (.int .u64 0),vI (at_+z5),vI 1]) z6 [] []) z2) z2))))))) Q8 ?_
 refine⟨(Cm _ _ _),fun h1=>have q1:=Ar h1;have p1:=Bw q1;?_,fun h1=>have q1:=Ao h1;have p1:=Bp q1;?_⟩
 refine⟨(congrArg S.tup (Af (congrArg V.c (congrArg (C.int .u64) ?_)) (Af (congrArg V.c (congrArg (C.int .i64) ?_)) (Af (congrArg V.c (congrArg (C.int .i64) ?_)) rfl)))),rfl⟩
 rotate_left 3
 have hw:Aw at_ 0 (s.length:Int)=true:=by simpa using h1
 refine⟨Bv (j:=(⟨0,0⟩:Gp)) Q12 rfl (by dsimp only[Gq];exact⟨by omega,by omega,by decide,by simp[Ah,hw]⟩),fun (q1:Gp) hq_q1=>?_⟩
 have hi_q1:q1.k≤9∧(0:Int)≤q1.u∧q1.u<2 ^ (7*q1.k)∧vwA s at_ end_ (10-q1.k) (((q1.k:Nat)):Int) q1.u=Ah s at_ end_:=hq_q1
 obtain ⟨v1,v2,v3,v4⟩:=hi_q1
 obtain ⟨f,hf⟩: ∃f,10-q1.k=f+1:=⟨9-q1.k,by omega⟩
 rw[hf,vwA] at v4
 have e7:Int.toNat (7*(q1.k:Int))=7*q1.k:=by omega
 refine⟨(by simp;omega),(Ac Q5 Q5),dsp (fun h2 p2=>?_) fun h2 p2=>?_⟩
 rw[if_pos p2] at v4
 refine⟨(congrArg S.tup (Af (congrArg V.c (congrArg (C.int .u64) ?_)) (Af (congrArg V.c (congrArg (C.int .i64) ?_)) (Af (congrArg V.c (congrArg (C.int .i64) ?_)) rfl)))),rfl⟩
 rotate_left 3
 rw[if_neg p2] at v4
 refine⟨(Ac Q5 Q5),dsp (fun h3 p3=>?_) fun h3 p3=>?_⟩
 rw[if_pos p3] at v4
 refine⟨(congrArg S.tup (Af (congrArg V.c (congrArg (C.int .u64) ?_)) (Af (congrArg V.c (congrArg (C.int .i64) ?_)) (Af (congrArg V.c (congrArg (C.int .i64) ?_)) rfl)))),rfl⟩
 rotate_left 3
 rw[if_neg p3] at v4
 refine⟨(Ac Q5 Q5),(A8 (l:=s) (i:=Int.toNat (at_+(q1.k:Int))) Q5),fun x1 hx1=>?_⟩
 have hb_x1:=UInt8.toNat_lt x1
 have he:=N0 (d:=0) hx1
 have hv:=fun h9=>Aad (c:=(x1.toNat:Int) % 128) (k:=q1.k) (by omega) (by omega) (by omega) h9
 refine⟨hx1,Q5,(Bm Q5 Q5),dsp (fun h4 p4=>?_) fun h4 p4=>?_⟩
 refine dsp (fun h5 p5=>?_) fun h5 p5=>?_
 rw[if_pos ⟨by omega,by rw[he];omega⟩] at v4
 refine⟨(Ac Q5 Q5),(congrArg S.tup (Af (congrArg V.c (congrArg (C.int .u64) ?_)) (Af (congrArg V.c (congrArg (C.int .i64) ?_)) (Af (congrArg V.c (congrArg (C.int .i64) ?_)) rfl)))),rfl⟩
 rotate_left 3
 rw[if_neg (by rw[he];omega)] at v4
 refine⟨Q26,(Ki Q5),(Ac Q5 Q5),(Bm Q5 Q5),Q5,(Ub Q5 Q5 Q5 (by intro h;omega)),(Bm Q5 Q5),dsp (fun h6 p6=>?_) fun h6 p6=>?_⟩
 have hv:=hv (by intro h;omega)
 rw[he,e7] at v4
 rw[if_pos p6] at v4
 refine⟨(Ac Q5 Q5),(Ac Q5 Q5),(congrArg S.tup (Af (congrArg V.c (congrArg (C.int .u64) ?_)) (Af (congrArg V.c (congrArg (C.int .i64) ?_)) (Af (congrArg V.c (congrArg (C.int .i64) ?_)) rfl)))),rfl⟩
 rotate_left 3
 have hv:=hv (by intro h;omega)
 rw[he,e7] at v4
 rw[if_neg p6] at v4
 exact⟨(Ac Q5 Q5),Ay (j:=(⟨q1.u+((((UInt8.toNat x1:Nat):Int) % 128)*2 ^ (7*q1.k)),q1.k+1⟩:Gp)) Q12 rfl Q81 (by dsimp only[Gq];omega)⟩
 rw[if_neg (by omega)] at v4
 refine⟨Q26,(Ki Q5),(Ac Q5 Q5),(Bm Q5 Q5),Q5,(Ub Q5 Q5 Q5 (by intro h;omega)),(Bm Q5 Q5),dsp (fun h5 p5=>?_) fun h5 p5=>?_⟩
 have hv:=hv (by intro h;omega)
 rw[he,e7] at v4
 rw[if_pos p5] at v4
 refine⟨(Ac Q5 Q5),(Ac Q5 Q5),(congrArg S.tup (Af (congrArg V.c (congrArg (C.int .u64) ?_)) (Af (congrArg V.c (congrArg (C.int .i64) ?_)) (Af (congrArg V.c (congrArg (C.int .i64) ?_)) rfl)))),rfl⟩
 rotate_left 3
 have hv:=hv (by intro h;omega)
 rw[he,e7] at v4
 rw[if_neg p5] at v4
 exact⟨(Ac Q5 Q5),Ay (j:=(⟨q1.u+((((UInt8.toNat x1:Nat):Int) % 128)*2 ^ (7*q1.k)),q1.k+1⟩:Gp)) Q12 rfl Q81 (by dsimp only[Gq];omega)⟩
 all_goals first|(rw[←v4])|(simp[Ah, *];done)
theorem Ac6 (w:Int):Fun Tryz.prog 274 [vI w] [] (.v (vB (De w))) []:=by
 have hN:Ba=274877906944:=rfl
 refine Av Tryz.func274 Q8 Q8 (w:=(.br (.leaf () []) (.leaf () []),Bc (decide (w=4)) (Lf (.v (vB true)) (.v (vB (De w))) [] []) (Lf (.v (vB (decide (w=8)))) (.v (vB (De w))) [] []))) Q8 ?_
 refine dsp (fun h1 p1=>?_) fun h1 p1=>?_
 exact⟨(congrArg S.v (congrArg V.c (congrArg C.bool (by simp[De, *])))),rfl⟩
 exact⟨(congrArg S.v (congrArg V.c (congrArg C.bool (by simp[De, *])))),rfl⟩
structure Pa where
 u:Int
 v:Nat
def Pb (s:List UInt8) (at_:Int) (w:Int):Fam:=⟨Pa,fun q1=>[(0,.v (vT s)),(1,.v (vI at_)),(8,.v (.c (.int .u64 q1.u))),(22,.v (vI w)),(23,.v (vI (q1.v:Int)))],fun _=>[],fun q1=>(q1.v:Int)≤w∧q1.u=((En (List.take q1.v (List.drop (at_.toNat) s)):Nat):Int),fun q1=>w.toNat-q1.v⟩
theorem Ano (s:List UInt8) (at_:Int) (w:Int) (hp1:s.length≤Ba):Fun Tryz.prog 241 [vT s,vI at_,vI w] [] (.tup [.c (.int .u64 (Gg s at_ w)),vB (C3 s at_ w)]) []:=by
 have hN:Ba=274877906944:=rfl
 refine Av Tryz.func241 Q8 Q8 (w:=let z5:=(s.length:Int)-w;let z6:S:= .tup [.c (.int .u64 (Gg s at_ w)),vB (C3 s at_ w)];let z7:=Pb s at_ w;let z8:=Lf (.tup [.c (.int .u64 0),vB false]) z6 [] [];(.seg [.call [] (.v (vB (De w))) []] (.br (.leaf () []) (.seg [.as 18 (.v (vI z5)),.call [] (.v (vB (Aw at_ 0 z5))) []] (.br (.leaf () []) (.seg [.at 0,.keep [0,1,8,22,23],.sel []] (.loop z7 fun q1=>let z3:=(q1.v:Int);.br (.seg [.as 30 (.v (vI (at_+z3)))] (.intro (Sx (s[Int.toNat (at_+z3)]?)) fun x1=>let z1:=((UInt8.toNat x1:Nat):Int);.seg [.ch x1,.as 32 (.v (.c (.int .u64 z1))),.as 34 (.v (vI (8*z3))),.as 35 (.v (.c (.int .u64 (8*z3)))),.as 36 (.v (.c (.int .u64 (z1*2 ^ (8*q1.v))))),.as 37 (.v (.c (.int .u64 (q1.u+z1*2 ^ (8*q1.v))))),.as 38 (.v (vI (z3+1))),.at 0,.keep [0,1,8,22,23],.sel []] (.next))) (.leaf () [])))))),(Fp 274 [vI w] [] (.v (vB (De w))) [])∧Bc (!(De w)) z8 ((wI z5)∧(Fp 69 [vI at_,vI 0,vI z5] [] (.v (vB (Aw at_ 0 z5))) [])∧Bc (!(Aw at_ 0 z5)) z8 (z7.Has [(0,.v (vT s)),(1,.v (vI at_)),(8,.v (.c (.int .u64 0))),(22,.v (vI w)),(23,.v (vI 0))] []∧∀q1,z7.inv q1→(let z4:=(q1.v:Int);Bc (decide (z4<w)) ((wI (at_+z4))∧El (s[Int.toNat (at_+z4)]?) fun x1=>(let z2:=((UInt8.toNat x1:Nat):Int);(s[Int.toNat (at_+z4)]? =some x1)∧((0:Int)≤at_+z4)∧(wU (z2))∧(wI (8*z4))∧(wU (8*z4))∧((0:Int)≤8*z4)∧((.v (.c (.int .u64 (IntKind.u64.wrap (z2*2 ^ min (Int.toNat (8*z4)) 64)))):S)= .v (.c (.int .u64 (z2*2 ^ (8*q1.v)))))∧((.v (.c (.int .u64 (IntKind.u64.wrap (((BitVec.ofInt 64 q1.u|||BitVec.ofInt 64 (z2*2 ^ (8*q1.v))).toNat:Nat))))):S)= .v (.c (.int .u64 (q1.u+z2*2 ^ (8*q1.v)))))∧(wI (z4+1))∧z7.Nxt q1 [(0,.v (vT s)),(1,.v (vI at_)),(8,.v (.c (.int .u64 (q1.u+z2*2 ^ (8*q1.v))))),(22,.v (vI w)),(23,.v (vI (z4+1)))] [])) (Lf (.tup [.c (.int .u64 q1.u),vB true]) z6 [] [])))))) Q8 ?_
 refine⟨(Ac6 _),fun h1=>have q1:=Ar h1;have p1:=Ac0 q1;?_,fun h1=>have q1:=Ao h1;have p1:=Qy q1;?_⟩
 refine⟨(congrArg S.tup (Af (congrArg V.c (congrArg (C.int .u64) ?_)) (Af (congrArg V.c (congrArg C.bool ?_)) rfl))),rfl⟩
 rotate_left 2
 refine⟨(Ac Q5 Q5),(D9 _ _ _),fun h2=>have q2:=Ar h2;have p2:=Bw q2;?_,fun h2=>have q2:=Ao h2;have p2:=Bp q2;?_⟩
 refine⟨(congrArg S.tup (Af (congrArg V.c (congrArg (C.int .u64) ?_)) (Af (congrArg V.c (congrArg C.bool ?_)) rfl))),rfl⟩
 rotate_left 2
 refine⟨Bv (j:=(⟨0,0⟩:Pa)) Q12 rfl (by dsimp only[Pb];exact⟨by omega,by simp[En]⟩),fun (q1:Pa) hq_q1=>?_⟩
 have hi_q1:(q1.v:Int)≤w∧q1.u=((En (List.take q1.v (List.drop (at_.toNat) s)):Nat):Int):=hq_q1
 obtain ⟨v1,v2⟩:=hi_q1
 have hw8:w=4∨w=8:=by omega
 have hlt:=K6 (l:=List.take q1.v (List.drop (at_.toNat) s)) (k:=q1.v) (by simp;omega)
 have hlt2:q1.u<2 ^ (8*q1.v):=by rw[v2];exact_mod_cast hlt
 have hu0:(0:Int)≤q1.u:=by rw[v2];exact Int.natCast_nonneg _
 refine dsp (fun h3 p3=>?_) fun h3 p3=>?_
 refine⟨(Ac Q5 Q5),(A8 (l:=s) (i:=Int.toNat (at_+(q1.v:Int))) Q5),fun x1 hx1=>?_⟩
 have hb_x1:=UInt8.toNat_lt x1
 exact⟨hx1,Q5,(Bm Q5 Q5),(Ac Q5 Q5),(Bm Q5 Q5),Q5,(Ajy Q5 Q5 Q5),(Ang Q5 Q5 Q5 Q5 Q5),(Ac Q5 Q5),Ay (j:=(⟨q1.u+((UInt8.toNat x1:Nat):Int)*2 ^ (8*q1.v),q1.v+1⟩:Pa)) Q12 rfl (by dsimp only[Pb];exact⟨by omega,by rw[Ajx (x:=x1) (by rw[←hx1];congr 1;omega),Wg,v2,show List.length (List.take q1.v (List.drop (at_.toNat) s))=q1.v by simp;omega];simp⟩) (by dsimp only[Pb];omega)⟩
 have hok:C3 s at_ w=true:=by simp[C3,De,Aw];omega
 have hvw:q1.v=w.toNat:=by omega
 rw[hvw] at v2
 have hr:q1.u=Gg s at_ w:=by rw[Gg,if_pos hok,v2]
 refine⟨(congrArg S.tup (Af (congrArg V.c (congrArg (C.int .u64) ?_)) (Af (congrArg V.c (congrArg C.bool ?_)) rfl))),rfl⟩
 rotate_left 2
 all_goals first|(exact hr)|(exact hok.symm)|(simp_all[C3,Gg,De];done)
structure G1 where
 u:Int
 i:Int
def H9 (s:List UInt8) (at_:Int) (w:Int):Fam:=⟨G1,fun q1=>[(0,.v (vT s)),(1,.v (vI at_)),(8,.v (.c (.int .u64 q1.u))),(9,.v (vI q1.i))],fun _=>[],fun q1=>(-1:Int)≤q1.i∧q1.i<w∧q1.u=((En (List.take (Int.toNat (w-1-q1.i)) (List.drop (Int.toNat (at_+q1.i+1)) s)):Nat):Int),fun q1=>Int.toNat (q1.i+1)⟩
theorem Anp (s:List UInt8) (at_:Int) (w:Int) (hp1:s.length≤Ba):Fun Tryz.prog 242 [vT s,vI at_,vI w] [] (.tup [.c (.int .u64 (Gg s at_ w)),vB (C3 s at_ w)]) []:=by
 have hN:Ba=274877906944:=rfl
 refine Av Tryz.func242 Q8 Q8 (w:=let z3:=(s.length:Int)-w;let z4:S:= .tup [.c (.int .u64 (Gg s at_ w)),vB (C3 s at_ w)];let z5:=H9 s at_ w;let z6:=Lf (.tup [.c (.int .u64 0),vB false]) z4 [] [];let z7:S:= .v (vB (Aw at_ 0 z3));(.br (.br (.leaf () []) (.seg [.as 21 (.v (vI z3)),.call [] z7 []] (.br (.leaf () []) (.seg [.as 26 (.v (vI (w-1))),.at 0,.keep [0,1,8,9],.sel []] (.loop z5 fun q1=> .br (.seg [.as 32 (.v (.c (.int .u64 (256*q1.u)))),.as 36 (.v (vI (at_+q1.i)))] (.intro (Sx (s[Int.toNat (at_+q1.i)]?)) fun x1=> .seg [.ch x1,.as 38 (.v (.c (.int .u64 ((UInt8.toNat x1:Nat):Int)))),.as 39 (.v (.c (.int .u64 ((256*q1.u)+((UInt8.toNat x1:Nat):Int))))),.as 30 (.v (vI (q1.i-1))),.at 0,.keep [0,1,8,9],.sel []] (.next))) (.leaf () [])))))) (.seg [.as 21 (.v (vI z3)),.call [] z7 []] (.br (.leaf () []) (.seg [.as 26 (.v (vI (w-1))),.at 0,.keep [0,1,8,9],.sel []] (.loop z5 fun q1=> .br (.seg [.as 32 (.v (.c (.int .u64 (256*q1.u)))),.as 36 (.v (vI (at_+q1.i)))] (.intro (Sx (s[Int.toNat (at_+q1.i)]?)) fun x1=> .seg [.ch x1,.as 38 (.v (.c (.int .u64 ((UInt8.toNat x1:Nat):Int)))),.as 39 (.v (.c (.int .u64 ((256*q1.u)+((UInt8.toNat x1:Nat):Int))))),.as 30 (.v (vI (q1.i-1))),.at 0,.keep [0,1,8,9],.sel []] (.next))) (.leaf () []))))),Bc (!decide (w=4)) (Bc (!decide (w=8)) z6 ((wI z3)∧(Fp 71 [vI at_,vI 0,vI z3] [] z7 [])∧Bc (!(Aw at_ 0 z3)) z6 ((wI (w-1))∧z5.Has [(0,.v (vT s)),(1,.v (vI at_)),(8,.v (.c (.int .u64 0))),(9,.v (vI (w-1)))] []∧∀q1,z5.inv q1→(Bc (decide (0≤q1.i)) ((wU (256*q1.u))∧(wI (at_+q1.i))∧El (s[Int.toNat (at_+q1.i)]?) fun x1=>(let z1:=((UInt8.toNat x1:Nat):Int);(s[Int.toNat (at_+q1.i)]? =some x1)∧((0:Int)≤at_+q1.i)∧(wU (z1))∧(wU ((256*q1.u)+z1))∧(wI (q1.i-1))∧z5.Nxt q1 [(0,.v (vT s)),(1,.v (vI at_)),(8,.v (.c (.int .u64 ((256*q1.u)+z1)))),(9,.v (vI (q1.i-1)))] [])) (Lf (.tup [.c (.int .u64 q1.u),vB true]) z4 [] []))))) ((wI z3)∧(Fp 71 [vI at_,vI 0,vI z3] [] z7 [])∧Bc (!(Aw at_ 0 z3)) z6 ((wI (w-1))∧z5.Has [(0,.v (vT s)),(1,.v (vI at_)),(8,.v (.c (.int .u64 0))),(9,.v (vI (w-1)))] []∧∀q1,z5.inv q1→(Bc (decide (0≤q1.i)) ((wU (256*q1.u))∧(wI (at_+q1.i))∧El (s[Int.toNat (at_+q1.i)]?) fun x1=>(let z2:=((UInt8.toNat x1:Nat):Int);(s[Int.toNat (at_+q1.i)]? =some x1)∧((0:Int)≤at_+q1.i)∧(wU (z2))∧(wU ((256*q1.u)+z2))∧(wI (q1.i-1))∧z5.Nxt q1 [(0,.v (vT s)),(1,.v (vI at_)),(8,.v (.c (.int .u64 ((256*q1.u)+z2)))),(9,.v (vI (q1.i-1)))] [])) (Lf (.tup [.c (.int .u64 q1.u),vB true]) z4 [] [])))))) Q8 ?_
 refine⟨fun h1=>have q1:=Ar h1;have p1:=of_decide_eq_false q1;?_,fun h1=>have q1:=Ao h1;have p1:=of_decide_eq_true q1;?_⟩
 refine⟨fun h2=>have q2:=Ar h2;have p2:=of_decide_eq_false q2;?_,fun h2=>have q2:=Ao h2;have p2:=of_decide_eq_true q2;?_⟩
 refine⟨(congrArg S.tup (Af (congrArg V.c (congrArg (C.int .u64) ?_)) (Af (congrArg V.c (congrArg C.bool ?_)) rfl))),rfl⟩
 rotate_left 2
 refine⟨(Ac Q5 Q5),(Cm _ _ _),fun h3=>have q3:=Ar h3;have p3:=Bw q3;?_,fun h3=>have q3:=Ao h3;have p3:=Bp q3;?_⟩
 refine⟨(congrArg S.tup (Af (congrArg V.c (congrArg (C.int .u64) ?_)) (Af (congrArg V.c (congrArg C.bool ?_)) rfl))),rfl⟩
 rotate_left 2
 refine⟨(Ac Q5 Q5),Bv (j:=(⟨0,w-1⟩:G1)) rfl rfl (by dsimp only[H9];exact⟨by omega,by omega,by simp[En]⟩),fun (q1:G1) hq_q1=>?_⟩
 have hi_q1:(-1:Int)≤q1.i∧q1.i<w∧q1.u=((En (List.take (Int.toNat (w-1-q1.i)) (List.drop (Int.toNat (at_+q1.i+1)) s)):Nat):Int):=hq_q1
 obtain ⟨v1,v2,v3⟩:=hi_q1
 have hw8:w=4∨w=8:=by omega
 have hlt:=K6 (l:=List.take (Int.toNat (w-1-q1.i)) (List.drop (Int.toNat (at_+q1.i+1)) s)) (k:=Int.toNat (w-1-q1.i)) (by rw[List.length_take];omega)
 have hu0:(0:Int)≤q1.u:=by rw[v3];exact Int.natCast_nonneg _
 refine dsp (fun h4 p4=>?_) fun h4 p4=>?_
 have hle:En (List.take (Int.toNat (w-1-q1.i)) (List.drop (Int.toNat (at_+q1.i+1)) s))<2 ^ 56:=Nat.lt_of_lt_of_le hlt (Nat.pow_le_pow_right (by decide) (by omega))
 have hu1:q1.u<72057594037927936:=by rw[v3];omega
 refine⟨(Bm Q5 Q5),(Ac Q5 Q5),(A8 (l:=s) (i:=Int.toNat (at_+q1.i)) Q5),fun x1 hx1=>?_⟩
 have hb_x1:=UInt8.toNat_lt x1
 exact⟨hx1,Q5,(Bm Q5 Q5),(Bm Q5 Q5),(Ac Q5 Q5),Ay (j:=(⟨(256*q1.u)+((UInt8.toNat x1:Nat):Int),q1.i-1⟩:G1)) rfl rfl Q59 (by dsimp only[H9];omega)⟩
 have hok:C3 s at_ w=true:=by simp[C3,De,Aw];omega
 have hvw:q1.i= -1:=by omega
 rw[hvw] at v3
 have hr:q1.u=Gg s at_ w:=by rw[Gg,if_pos hok,v3,show Int.toNat (w-1- -1)=w.toNat by omega,show Int.toNat (at_+ -1+1)=at_.toNat by omega]
 refine⟨(congrArg S.tup (Af (congrArg V.c (congrArg (C.int .u64) ?_)) (Af (congrArg V.c (congrArg C.bool ?_)) rfl))),rfl⟩
 rotate_left 2
 refine⟨(Ac Q5 Q5),(Cm _ _ _),fun h2=>have q2:=Ar h2;have p2:=Bw q2;?_,fun h2=>have q2:=Ao h2;have p2:=Bp q2;?_⟩
 refine⟨(congrArg S.tup (Af (congrArg V.c (congrArg (C.int .u64) ?_)) (Af (congrArg V.c (congrArg C.bool ?_)) rfl))),rfl⟩
 rotate_left 2
 refine⟨(Ac Q5 Q5),Bv (j:=(⟨0,w-1⟩:G1)) rfl rfl (by dsimp only[H9];exact⟨by omega,by omega,by simp[En]⟩),fun (q1:G1) hq_q1=>?_⟩
 have hi_q1:(-1:Int)≤q1.i∧q1.i<w∧q1.u=((En (List.take (Int.toNat (w-1-q1.i)) (List.drop (Int.toNat (at_+q1.i+1)) s)):Nat):Int):=hq_q1
 obtain ⟨v1,v2,v3⟩:=hi_q1
 have hw8:w=4∨w=8:=by omega
 have hlt:=K6 (l:=List.take (Int.toNat (w-1-q1.i)) (List.drop (Int.toNat (at_+q1.i+1)) s)) (k:=Int.toNat (w-1-q1.i)) (by rw[List.length_take];omega)
 have hu0:(0:Int)≤q1.u:=by rw[v3];exact Int.natCast_nonneg _
 refine dsp (fun h3 p3=>?_) fun h3 p3=>?_
 have hle:En (List.take (Int.toNat (w-1-q1.i)) (List.drop (Int.toNat (at_+q1.i+1)) s))<2 ^ 56:=Nat.lt_of_lt_of_le hlt (Nat.pow_le_pow_right (by decide) (by omega))
 have hu1:q1.u<72057594037927936:=by rw[v3];omega
 refine⟨(Bm Q5 Q5),(Ac Q5 Q5),(A8 (l:=s) (i:=Int.toNat (at_+q1.i)) Q5),fun x1 hx1=>?_⟩
 have hb_x1:=UInt8.toNat_lt x1
 exact⟨hx1,Q5,(Bm Q5 Q5),(Bm Q5 Q5),(Ac Q5 Q5),Ay (j:=(⟨(256*q1.u)+((UInt8.toNat x1:Nat):Int),q1.i-1⟩:G1)) rfl rfl Q59 (by dsimp only[H9];omega)⟩
 have hok:C3 s at_ w=true:=by simp[C3,De,Aw];omega
 have hvw:q1.i= -1:=by omega
 rw[hvw] at v3
 have hr:q1.u=Gg s at_ w:=by rw[Gg,if_pos hok,v3,show Int.toNat (w-1- -1)=w.toNat by omega,show Int.toNat (at_+ -1+1)=at_.toNat by omega]
 refine⟨(congrArg S.tup (Af (congrArg V.c (congrArg (C.int .u64) ?_)) (Af (congrArg V.c (congrArg C.bool ?_)) rfl))),rfl⟩
 rotate_left 2
 all_goals first|(exact hr)|(exact hok.symm)|(simp_all[C3,Gg,De];done)
structure G2 where
 u:Int
 out:List Int
 v:Nat
def Ja (u:Int) (w:Int):Fam:=⟨G2,fun q1=>[(0,.v (.c (.int .u64 q1.u))),(5,.v (vO 0)),(22,.v (vI w)),(23,.v (vI (q1.v:Int)))],fun q1=>[.lst .u8 q1.out],fun q1=>q1.v≤(w.toNat)∧q1.out.length=(w.toNat)∧List.take q1.v q1.out=List.take q1.v (Anh (u.toNat) (w.toNat))∧q1.u=((u.toNat / 256 ^ q1.v:Nat):Int),fun q1=>(w.toNat)-q1.v⟩
theorem Anq (u:Int) (w:Int) (hp1:(0:Int)≤u∧u≤18446744073709551615):Fun Tryz.prog 268 [.c (.int .u64 u),vI w] [] (.v (vT (Fy u w))) []:=by
 have hN:Ba=274877906944:=rfl
 refine Av Tryz.func268 Q8 Q8 (w:=let z3:=List.replicate (w.toNat) (0:Int);let z4:=Ja u w;let z5:S:= .v (vT (Fy u w));let z6:=(.v (vI (z3.length:Int)):S)= .v (vI w);let z7:=((1:Nat):Int)*w≤281474976710656;(.seg [.call [] (.v (vB (De w))) []] (.br (.leaf () []) (.br (.seg [.as 15 (.v (.c (.int .u64 (u / 4294967296))))] (.br (.leaf () []) (.seg [.ty .u8,.as 22 (.v (vI w)),.at 0,.keep [0,5,22,23],.sel [0]] (.loop z4 fun q1=> .br (.seg [.as 29 (.v (.c (.int .u8 (q1.u % 256))))] (.intro (Sx (q1.out[q1.v]?)) fun x1=> .seg [.el .u8 x1,.as 32 (.v (.c (.int .u64 (q1.u / 256)))),.as 33 (.v (vI ((q1.v:Int)+1))),.at 0,.keep [0,5,22,23],.sel [0]] (.next))) (.leaf () []))))) (.seg [.ty .u8,.as 22 (.v (vI w)),.at 0,.keep [0,5,22,23],.sel [0]] (.loop z4 fun q1=> .br (.seg [.as 29 (.v (.c (.int .u8 (q1.u % 256))))] (.intro (Sx (q1.out[q1.v]?)) fun x1=> .seg [.el .u8 x1,.as 32 (.v (.c (.int .u64 (q1.u / 256)))),.as 33 (.v (vI ((q1.v:Int)+1))),.at 0,.keep [0,5,22,23],.sel [0]] (.next))) (.leaf () []))))),(Fp 274 [vI w] [] (.v (vB (De w))) [])∧Bc (!(De w)) (Lf (.v (vT [])) z5 [] []) (Bc (decide (w=4)) (((0:Int)≤32)∧((.v (.c (.int .u64 (Int.fdiv u (2 ^ 32)))):S)= .v (.c (.int .u64 (u / 4294967296))))∧Bc (!decide (u / 4294967296=0)) (Lf (.v (vT [])) z5 [] []) ((w≤9223372036854775807)∧z7∧(w≤w)∧((0:Int)≤w)∧z6∧z4.Has [(0,.v (.c (.int .u64 u))),(5,.v (vO 0)),(22,.v (vI w)),(23,.v (vI 0))] [.lst .u8 z3]∧∀q1,z4.inv q1→(let z1:=(q1.v:Int);Bc (decide (z1<w)) (((.v (.c (.int .u8 (IntKind.u8.wrap (q1.u)))):S)= .v (.c (.int .u8 (q1.u % 256))))∧El (q1.out[q1.v]?) fun x1=>((z1<(q1.out.length:Int))∧((0:Int)≤z1)∧(q1.out[q1.v]? =some x1)∧((0:Int)≤8)∧((.v (.c (.int .u64 (Int.fdiv q1.u (2 ^ 8)))):S)= .v (.c (.int .u64 (q1.u / 256))))∧(wI (z1+1))∧z4.Nxt q1 [(0,.v (.c (.int .u64 (q1.u / 256)))),(5,.v (vO 0)),(22,.v (vI w)),(23,.v (vI (z1+1)))] [.lst .u8 (List.set q1.out q1.v (q1.u % 256))])) (Lf (.v (vT (List.map A5 q1.out))) z5 [] [])))) ((w≤9223372036854775807)∧z7∧(w≤w)∧((0:Int)≤w)∧z6∧z4.Has [(0,.v (.c (.int .u64 u))),(5,.v (vO 0)),(22,.v (vI w)),(23,.v (vI 0))] [.lst .u8 z3]∧∀q1,z4.inv q1→(let z2:=(q1.v:Int);Bc (decide (z2<w)) (((.v (.c (.int .u8 (IntKind.u8.wrap (q1.u)))):S)= .v (.c (.int .u8 (q1.u % 256))))∧El (q1.out[q1.v]?) fun x1=>((z2<(q1.out.length:Int))∧((0:Int)≤z2)∧(q1.out[q1.v]? =some x1)∧((0:Int)≤8)∧((.v (.c (.int .u64 (Int.fdiv q1.u (2 ^ 8)))):S)= .v (.c (.int .u64 (q1.u / 256))))∧(wI (z2+1))∧z4.Nxt q1 [(0,.v (.c (.int .u64 (q1.u / 256)))),(5,.v (vO 0)),(22,.v (vI w)),(23,.v (vI (z2+1)))] [.lst .u8 (List.set q1.out q1.v (q1.u % 256))])) (Lf (.v (vT (List.map A5 q1.out))) z5 [] [])))))) Q8 ?_
 refine⟨(Ac6 _),fun h1=>have q1:=Ar h1;have p1:=Ac0 q1;?_,fun h1=>have q1:=Ao h1;have p1:=Qy q1;?_⟩
 refine⟨(congrArg S.v (congrArg V.c (congrArg C.str ?_))),rfl⟩
 rotate_left
 have hw8:=Qy (by simpa using h1)
 refine dsp (fun h2 p2=>?_) fun h2 p2=>?_
 refine⟨Q26,(P8 (k:=32) Q26 Q26),fun h3=>have q3:=Ar h3;have p3:=of_decide_eq_false q3;?_,fun h3=>have q3:=Ao h3;have p3:=of_decide_eq_true q3;?_⟩
 refine⟨(congrArg S.v (congrArg V.c (congrArg C.str ?_))),rfl⟩
 rotate_left
 refine⟨Q5,Q5,Q5,Q5,(Ajn (by rw[List.length_replicate];omega)),Bv (j:=(⟨u,List.replicate (w.toNat) (0:Int),0⟩:G2)) Q12 rfl (by dsimp only[Ja];exact⟨by omega,by simp,by simp,by simp;omega⟩),fun (q1:G2) hq_q1=>?_⟩
 have hi_q1:q1.v≤(w.toNat)∧q1.out.length=(w.toNat)∧List.take q1.v q1.out=List.take q1.v (Anh (u.toNat) (w.toNat))∧q1.u=((u.toNat / 256 ^ q1.v:Nat):Int):=hq_q1
 obtain ⟨v1,v2,v3,v4⟩:=hi_q1
 have hu0:(0:Int)≤q1.u:=by rw[v4];exact Int.natCast_nonneg _
 have hu1:q1.u≤18446744073709551615:=by rw[v4];have:=Nat.div_le_self (u.toNat) (256 ^ q1.v);omega
 refine dsp (fun h4 p4=>?_) fun h4 p4=>?_
 refine⟨(Aj0 Q5),(A8 (l:=q1.out) (i:=q1.v) Q5),fun x1 hx1=>?_⟩
 exact⟨Q5,Q5,hx1,Q26,(P8 (k:=8) Q26 Q26),(Ac Q5 Q5),Ay (j:=(⟨q1.u / 256,List.set q1.out q1.v (q1.u % 256),q1.v+1⟩:G2)) Q12 rfl Q84 (by dsimp only[Ja];omega)⟩
 have hq:=Xz v3 (by rw[v2,Uc]) (by rw[Uc];omega)
 refine⟨(congrArg S.v (congrArg V.c (congrArg C.str ?_))),rfl⟩
 rotate_left
 refine⟨Q5,Q5,Q5,Q5,(Ajn (by rw[List.length_replicate];omega)),Bv (j:=(⟨u,List.replicate (w.toNat) (0:Int),0⟩:G2)) Q12 rfl (by dsimp only[Ja];exact⟨by omega,by simp,by simp,by simp;omega⟩),fun (q1:G2) hq_q1=>?_⟩
 have hi_q1:q1.v≤(w.toNat)∧q1.out.length=(w.toNat)∧List.take q1.v q1.out=List.take q1.v (Anh (u.toNat) (w.toNat))∧q1.u=((u.toNat / 256 ^ q1.v:Nat):Int):=hq_q1
 obtain ⟨v1,v2,v3,v4⟩:=hi_q1
 have hu0:(0:Int)≤q1.u:=by rw[v4];exact Int.natCast_nonneg _
 have hu1:q1.u≤18446744073709551615:=by rw[v4];have:=Nat.div_le_self (u.toNat) (256 ^ q1.v);omega
 refine dsp (fun h3 p3=>?_) fun h3 p3=>?_
 refine⟨(Aj0 Q5),(A8 (l:=q1.out) (i:=q1.v) Q5),fun x1 hx1=>?_⟩
 exact⟨Q5,Q5,hx1,Q26,(P8 (k:=8) Q26 Q26),(Ac Q5 Q5),Ay (j:=(⟨q1.u / 256,List.set q1.out q1.v (q1.u % 256),q1.v+1⟩:G2)) Q12 rfl Q84 (by dsimp only[Ja];omega)⟩
 have hq:=Xz v3 (by rw[v2,Uc]) (by rw[Uc];omega)
 refine⟨(congrArg S.v (congrArg V.c (congrArg C.str ?_))),rfl⟩
 rotate_left
 all_goals first|(rw[hq,Abr];simp_all[Fy,De];omega)|(rw[hq,Abr];simp_all[Fy,De])|(simp_all[Fy,De];done)|(simp_all[Fy,De];omega)
structure D1 where
 u:Int
 out:List Int
 i:Nat
def G3 (u:Int) (w:Int):Fam:=⟨D1,fun q1=>[(0,.v (.c (.int .u64 q1.u))),(1,.v (vI w)),(5,.v (vO 0)),(6,.v (vI (q1.i:Int)))],fun q1=>[.lst .u8 q1.out],fun q1=>(q1.i:Int)≤w∧(0:Int)≤q1.u∧q1.u≤18446744073709551615∧List.map A5 q1.out++D4 (w.toNat-q1.i) (q1.u.toNat)=D4 (w.toNat) (u.toNat)∧q1.out.length=q1.i,fun q1=>w.toNat-q1.i⟩
theorem Anr (u:Int) (w:Int) (hp1:(0:Int)≤u∧u≤18446744073709551615):Fun Tryz.prog 271 [.c (.int .u64 u),vI w] [] (.v (vT (Fy u w))) []:=by
 have hN:Ba=274877906944:=rfl
 refine Av Tryz.func271 Q8 Q8 (w:=let z5:=G3 u w;let z6:S:= .v (vT (Fy u w));let z7:=(256:Int)≠0;let z8:List Blk:=[.lst .u8 ([]:List Int)];let z9:=Lf (.v (vT [])) z6 [] [];(.br (.br (.leaf () []) (.br (.br (.leaf () []) (.seg [.ty .u8,.at 0,.keep [0,1,5,6],.sel [0]] (.loop z5 fun q1=> .br (.seg [.as 29 (.v (.c (.int .u64 (q1.u % 256)))),.as 30 (.v (.c (.int .u8 (q1.u % 256)))),.ty .u8,.ty .u8,.as 34 (.v (.c (.int .u64 (q1.u / 256)))),.as 26 (.v (vI ((q1.i:Int)+1))),.at 0,.keep [0,1,5,6],.sel [2]] (.next)) (.leaf () [])))) (.seg [.ty .u8,.at 0,.keep [0,1,5,6],.sel [0]] (.loop z5 fun q1=> .br (.seg [.as 29 (.v (.c (.int .u64 (q1.u % 256)))),.as 30 (.v (.c (.int .u8 (q1.u % 256)))),.ty .u8,.ty .u8,.as 34 (.v (.c (.int .u64 (q1.u / 256)))),.as 26 (.v (vI ((q1.i:Int)+1))),.at 0,.keep [0,1,5,6],.sel [2]] (.next)) (.leaf () []))))) (.br (.br (.leaf () []) (.seg [.ty .u8,.at 0,.keep [0,1,5,6],.sel [0]] (.loop z5 fun q1=> .br (.seg [.as 29 (.v (.c (.int .u64 (q1.u % 256)))),.as 30 (.v (.c (.int .u8 (q1.u % 256)))),.ty .u8,.ty .u8,.as 34 (.v (.c (.int .u64 (q1.u / 256)))),.as 26 (.v (vI ((q1.i:Int)+1))),.at 0,.keep [0,1,5,6],.sel [2]] (.next)) (.leaf () [])))) (.seg [.ty .u8,.at 0,.keep [0,1,5,6],.sel [0]] (.loop z5 fun q1=> .br (.seg [.as 29 (.v (.c (.int .u64 (q1.u % 256)))),.as 30 (.v (.c (.int .u8 (q1.u % 256)))),.ty .u8,.ty .u8,.as 34 (.v (.c (.int .u64 (q1.u / 256)))),.as 26 (.v (vI ((q1.i:Int)+1))),.at 0,.keep [0,1,5,6],.sel [2]] (.next)) (.leaf () [])))),Bc (!decide (w=4)) (Bc (!decide (w=8)) z9 (Bc (decide (w=4)) (Bc (decide (4294967295<u)) z9 (z5.Has [(0,.v (.c (.int .u64 u))),(1,.v (vI w)),(5,.v (vO 0)),(6,.v (vI 0))] z8∧∀q1,z5.inv q1→(let z1:=(q1.i:Int);Bc (decide (z1<w)) (z7∧((.v (.c (.int .u64 (Int.tmod q1.u 256))):S)= .v (.c (.int .u64 (q1.u % 256))))∧((.v (.c (.int .u8 (IntKind.u8.wrap (q1.u % 256)))):S)= .v (.c (.int .u8 (q1.u % 256))))∧(q1.out.length+List.length [q1.u % 256]≤Ba)∧z7∧((.v (.c (.int .u64 (IntKind.u64.wrap (Int.tdiv q1.u 256)))):S)= .v (.c (.int .u64 (q1.u / 256))))∧(wI (z1+1))∧z5.Nxt q1 [(0,.v (.c (.int .u64 (q1.u / 256)))),(1,.v (vI w)),(5,.v (vO 0)),(6,.v (vI (z1+1)))] [.lst .u8 (q1.out++[q1.u % 256])]) (Lf (.v (vT (List.map A5 q1.out))) z6 [] [])))) (z5.Has [(0,.v (.c (.int .u64 u))),(1,.v (vI w)),(5,.v (vO 0)),(6,.v (vI 0))] z8∧∀q1,z5.inv q1→(let z2:=(q1.i:Int);Bc (decide (z2<w)) (z7∧((.v (.c (.int .u64 (Int.tmod q1.u 256))):S)= .v (.c (.int .u64 (q1.u % 256))))∧((.v (.c (.int .u8 (IntKind.u8.wrap (q1.u % 256)))):S)= .v (.c (.int .u8 (q1.u % 256))))∧(q1.out.length+List.length [q1.u % 256]≤Ba)∧z7∧((.v (.c (.int .u64 (IntKind.u64.wrap (Int.tdiv q1.u 256)))):S)= .v (.c (.int .u64 (q1.u / 256))))∧(wI (z2+1))∧z5.Nxt q1 [(0,.v (.c (.int .u64 (q1.u / 256)))),(1,.v (vI w)),(5,.v (vO 0)),(6,.v (vI (z2+1)))] [.lst .u8 (q1.out++[q1.u % 256])]) (Lf (.v (vT (List.map A5 q1.out))) z6 [] []))))) (Bc (decide (w=4)) (Bc (decide (4294967295<u)) z9 (z5.Has [(0,.v (.c (.int .u64 u))),(1,.v (vI w)),(5,.v (vO 0)),(6,.v (vI 0))] z8∧∀q1,z5.inv q1→(let z3:=(q1.i:Int);Bc (decide (z3<w)) (z7∧((.v (.c (.int .u64 (Int.tmod q1.u 256))):S)= .v (.c (.int .u64 (q1.u % 256))))∧((.v (.c (.int .u8 (IntKind.u8.wrap (q1.u % 256)))):S)= .v (.c (.int .u8 (q1.u % 256))))∧(q1.out.length+List.length [q1.u % 256]≤Ba)∧z7∧((.v (.c (.int .u64 (IntKind.u64.wrap (Int.tdiv q1.u 256)))):S)= .v (.c (.int .u64 (q1.u / 256))))∧(wI (z3+1))∧z5.Nxt q1 [(0,.v (.c (.int .u64 (q1.u / 256)))),(1,.v (vI w)),(5,.v (vO 0)),(6,.v (vI (z3+1)))] [.lst .u8 (q1.out++[q1.u % 256])]) (Lf (.v (vT (List.map A5 q1.out))) z6 [] [])))) (z5.Has [(0,.v (.c (.int .u64 u))),(1,.v (vI w)),(5,.v (vO 0)),(6,.v (vI 0))] z8∧∀q1,z5.inv q1→(let z4:=(q1.i:Int);Bc (decide (z4<w)) (z7∧((.v (.c (.int .u64 (Int.tmod q1.u 256))):S)= .v (.c (.int .u64 (q1.u % 256))))∧((.v (.c (.int .u8 (IntKind.u8.wrap (q1.u % 256)))):S)= .v (.c (.int .u8 (q1.u % 256))))∧(q1.out.length+List.length [q1.u % 256]≤Ba)∧z7∧((.v (.c (.int .u64 (IntKind.u64.wrap (Int.tdiv q1.u 256)))):S)= .v (.c (.int .u64 (q1.u / 256))))∧(wI (z4+1))∧z5.Nxt q1 [(0,.v (.c (.int .u64 (q1.u / 256)))),(1,.v (vI w)),(5,.v (vO 0)),(6,.v (vI (z4+1)))] [.lst .u8 (q1.out++[q1.u % 256])]) (Lf (.v (vT (List.map A5 q1.out))) z6 [] [])))))) Q8 ?_
 refine⟨fun h1=>have q1:=Ar h1;have p1:=of_decide_eq_false q1;?_,fun h1=>have q1:=Ao h1;have p1:=of_decide_eq_true q1;?_⟩
 refine⟨fun h2=>have q2:=Ar h2;have p2:=of_decide_eq_false q2;?_,fun h2=>have q2:=Ao h2;have p2:=of_decide_eq_true q2;?_⟩
 refine⟨(congrArg S.v (congrArg V.c (congrArg C.str ?_))),rfl⟩
 rotate_left
 refine dsp (fun h3 p3=>?_) fun h3 p3=>?_
 refine dsp (fun h4 p4=>?_) fun h4 p4=>?_
 refine⟨(congrArg S.v (congrArg V.c (congrArg C.str ?_))),rfl⟩
 rotate_left
 refine⟨Bv (j:=(⟨u,([]:List Int),0⟩:D1)) Q12 rfl Q72,fun (q1:D1) hq_q1=>?_⟩
 have hi_q1:(q1.i:Int)≤w∧(0:Int)≤q1.u∧q1.u≤18446744073709551615∧List.map A5 q1.out++D4 (w.toNat-q1.i) (q1.u.toNat)=D4 (w.toNat) (u.toNat)∧q1.out.length=q1.i:=hq_q1
 obtain ⟨v1,v2,v3,v4,v5⟩:=hi_q1
 refine dsp (fun h5 p5=>?_) fun h5 p5=>?_
 exact⟨Q26,(Ki Q5),(M7 Q5 Q5),Q9,Q26,(H6 Q5 Q5 Q26),(Ac Q5 Q5),Ay (j:=(⟨q1.u / 256,q1.out++[q1.u % 256],q1.i+1⟩:D1)) Q12 rfl Q28 (by dsimp only[G3];omega)⟩
 have hz:w.toNat-q1.i=0:=by omega
 rw[hz] at v4
 simp only[D4,List.append_nil] at v4
 refine⟨(congrArg S.v (congrArg V.c (congrArg C.str ?_))),rfl⟩
 rotate_left
 refine⟨Bv (j:=(⟨u,([]:List Int),0⟩:D1)) Q12 rfl Q72,fun (q1:D1) hq_q1=>?_⟩
 have hi_q1:(q1.i:Int)≤w∧(0:Int)≤q1.u∧q1.u≤18446744073709551615∧List.map A5 q1.out++D4 (w.toNat-q1.i) (q1.u.toNat)=D4 (w.toNat) (u.toNat)∧q1.out.length=q1.i:=hq_q1
 obtain ⟨v1,v2,v3,v4,v5⟩:=hi_q1
 refine dsp (fun h4 p4=>?_) fun h4 p4=>?_
 exact⟨Q26,(Ki Q5),(M7 Q5 Q5),Q9,Q26,(H6 Q5 Q5 Q26),(Ac Q5 Q5),Ay (j:=(⟨q1.u / 256,q1.out++[q1.u % 256],q1.i+1⟩:D1)) Q12 rfl Q28 (by dsimp only[G3];omega)⟩
 have hz:w.toNat-q1.i=0:=by omega
 rw[hz] at v4
 simp only[D4,List.append_nil] at v4
 refine⟨(congrArg S.v (congrArg V.c (congrArg C.str ?_))),rfl⟩
 rotate_left
 refine dsp (fun h2 p2=>?_) fun h2 p2=>?_
 refine dsp (fun h3 p3=>?_) fun h3 p3=>?_
 refine⟨(congrArg S.v (congrArg V.c (congrArg C.str ?_))),rfl⟩
 rotate_left
 refine⟨Bv (j:=(⟨u,([]:List Int),0⟩:D1)) Q12 rfl Q72,fun (q1:D1) hq_q1=>?_⟩
 have hi_q1:(q1.i:Int)≤w∧(0:Int)≤q1.u∧q1.u≤18446744073709551615∧List.map A5 q1.out++D4 (w.toNat-q1.i) (q1.u.toNat)=D4 (w.toNat) (u.toNat)∧q1.out.length=q1.i:=hq_q1
 obtain ⟨v1,v2,v3,v4,v5⟩:=hi_q1
 refine dsp (fun h4 p4=>?_) fun h4 p4=>?_
 exact⟨Q26,(Ki Q5),(M7 Q5 Q5),Q9,Q26,(H6 Q5 Q5 Q26),(Ac Q5 Q5),Ay (j:=(⟨q1.u / 256,q1.out++[q1.u % 256],q1.i+1⟩:D1)) Q12 rfl Q28 (by dsimp only[G3];omega)⟩
 have hz:w.toNat-q1.i=0:=by omega
 rw[hz] at v4
 simp only[D4,List.append_nil] at v4
 refine⟨(congrArg S.v (congrArg V.c (congrArg C.str ?_))),rfl⟩
 rotate_left
 refine⟨Bv (j:=(⟨u,([]:List Int),0⟩:D1)) Q12 rfl Q72,fun (q1:D1) hq_q1=>?_⟩
 have hi_q1:(q1.i:Int)≤w∧(0:Int)≤q1.u∧q1.u≤18446744073709551615∧List.map A5 q1.out++D4 (w.toNat-q1.i) (q1.u.toNat)=D4 (w.toNat) (u.toNat)∧q1.out.length=q1.i:=hq_q1
 obtain ⟨v1,v2,v3,v4,v5⟩:=hi_q1
 refine dsp (fun h3 p3=>?_) fun h3 p3=>?_
 exact⟨Q26,(Ki Q5),(M7 Q5 Q5),Q9,Q26,(H6 Q5 Q5 Q26),(Ac Q5 Q5),Ay (j:=(⟨q1.u / 256,q1.out++[q1.u % 256],q1.i+1⟩:D1)) Q12 rfl Q28 (by dsimp only[G3];omega)⟩
 have hz:w.toNat-q1.i=0:=by omega
 rw[hz] at v4
 simp only[D4,List.append_nil] at v4
 refine⟨(congrArg S.v (congrArg V.c (congrArg C.str ?_))),rfl⟩
 rotate_left
 all_goals first|(rw[v4];simp_all[Fy,De];done)|(rw[v4];simp_all[Fy,De];omega)|(simp_all[Fy,De];done)|(simp_all[Fy,De];omega)
theorem Vf (n:Int) (w:Int):Fun Tryz.prog 224 [vI n,vI w] [] (.v (.c (.int .u64 (Bo n w)))) []:=by
 have hN:Ba=274877906944:=rfl
 refine Av Tryz.func224 Q8 Q8 (w:=let z2:=Aw n 1 536870911;let z3:S:= .v (.c (.int .u64 ((8*n)+w)));let z4:S:= .v (.c (.int .u64 (Bo n w)));let z1:=Lf (.v (.c (.int .u64 0))) z4 [] [];(.seg [.call [] (.v (vB z2)) []] (.br (.leaf () []) (.seg [.call [] (.v (vB (Aw w 0 7))) []] (.br (.leaf () []) (.seg [.as 14 (.v (.c (.int .u64 n))),.as 15 (.v (.c (.int .u64 (8*n)))),.as 17 (.v (.c (.int .u64 w))),.as 18 z3] (.leaf () []))))),(Fp 69 [vI n,vI 1,vI 536870911] [] (.v (vB z2)) [])∧Bc (!z2) z1 ((Fp 69 [vI w,vI 0,vI 7] [] (.v (vB (Aw w 0 7))) [])∧Bc (!(Aw w 0 7)) z1 ((wU (n))∧(wU (8*n))∧(wU (w))∧(wU ((8*n)+w))∧Lf z3 z4 [] [])))) Q8 ?_
 refine⟨(D9 _ _ _),fun h1=>have q1:=Ar h1;have p1:=Bw q1;?_,fun h1=>have q1:=Ao h1;have p1:=Bp q1;?_⟩
 exact⟨(congrArg S.v (congrArg V.c (congrArg (C.int .u64) (by simp[Bo, *])))),rfl⟩
 refine⟨(D9 _ _ _),fun h2=>have q2:=Ar h2;have p2:=Bw q2;?_,fun h2=>have q2:=Ao h2;have p2:=Bp q2;?_⟩
 exact⟨(congrArg S.v (congrArg V.c (congrArg (C.int .u64) (by simp[Bo, *])))),rfl⟩
 exact⟨(Bm Q5 Q5),(Bm Q5 Q5),(Bm Q5 Q5),(Bm Q5 Q5),(congrArg S.v (congrArg V.c (congrArg (C.int .u64) (by simp[Bo, *])))),rfl⟩
theorem B0 (n:Int) (w:Int):Fun Tryz.prog 176 [vI n,vI w] [] (.v (.c (.int .u64 (Bo n w)))) []:=by
 have hN:Ba=274877906944:=rfl
 refine Av Tryz.func176 Q8 Q8 (w:=let z2:=(8*n)+w;let z3:=Aw n 1 536870911;let z4:S:= .v (.c (.int .u64 (Bo n w)));let z1:=Lf (.v (.c (.int .u64 0))) z4 [] [];(.seg [.call [] (.v (vB z3)) []] (.br (.leaf () []) (.seg [.call [] (.v (vB (Aw w 0 7))) []] (.br (.leaf () []) (.seg [.as 14 (.v (vI (8*n))),.as 16 (.v (vI z2)),.as 17 (.v (.c (.int .u64 z2)))] (.leaf () []))))),(Fp 71 [vI n,vI 1,vI 536870911] [] (.v (vB z3)) [])∧Bc (!z3) z1 ((Fp 71 [vI w,vI 0,vI 7] [] (.v (vB (Aw w 0 7))) [])∧Bc (!(Aw w 0 7)) z1 ((wI (8*n))∧(wI z2)∧(wU z2)∧Lf (.v (.c (.int .u64 z2))) z4 [] [])))) Q8 ?_
 refine⟨(Cm _ _ _),fun h1=>have q1:=Ar h1;have p1:=Bw q1;?_,fun h1=>have q1:=Ao h1;have p1:=Bp q1;?_⟩
 exact⟨(congrArg S.v (congrArg V.c (congrArg (C.int .u64) (by simp[Bo, *])))),rfl⟩
 refine⟨(Cm _ _ _),fun h2=>have q2:=Ar h2;have p2:=Bw q2;?_,fun h2=>have q2:=Ao h2;have p2:=Bp q2;?_⟩
 exact⟨(congrArg S.v (congrArg V.c (congrArg (C.int .u64) (by simp[Bo, *])))),rfl⟩
 exact⟨(Ac Q5 Q5),(Ac Q5 Q5),(Bm Q5 Q5),(congrArg S.v (congrArg V.c (congrArg (C.int .u64) (by simp[Bo, *])))),rfl⟩
theorem Aqw (u:Int) (hp1:(0:Int)≤u∧u≤18446744073709551615):Fun Tryz.prog 120 [.c (.int .u64 u)] [] (.tup [vI (B9 u),vI (B1 u),vB (Kp u)]) []:=by
 have hN:Ba=274877906944:=rfl
 refine Av Tryz.func120 Q8 Q8 (w:=let z1:S:= .tup [vI (B9 u),vI (B1 u),vB (Kp u)];let z2:=(.v (.c (.int .u64 (Int.fdiv u (2 ^ 3)))):S)= .v (.c (.int .u64 (u / 8)));let z3:=Lf (.tup [vI 0,vI 0,vB false]) z1 [] [];(.br (.leaf () []) (.seg [.as 9 (.v (.c (.int .u64 (u / 8))))] (.br (.leaf () []) (.seg [.as 13 (.v (.c (.int .u64 (u / 8)))),.as 14 (.v (vI (u / 8))),.as 16 (.v (.c (.int .u64 (u % 8)))),.as 17 (.v (vI (u % 8)))] (.leaf () [])))),Bc (decide (u<8)) z3 (((0:Int)≤3)∧z2∧Bc (decide (536870911<u / 8)) z3 (((0:Int)≤3)∧z2∧(wI (u / 8))∧((.v (.c (.int .u64 (IntKind.u64.wrap (((BitVec.ofInt 64 u&&&BitVec.ofInt 64 7).toNat:Nat))))):S)= .v (.c (.int .u64 (u % 8))))∧(wI (u % 8))∧Lf (.tup [vI (u / 8),vI (u % 8),vB true]) z1 [] [])))) Q8 ?_
 refine dsp (fun h1 p1=>?_) fun h1 p1=>?_
 refine⟨(congrArg S.tup (Af (congrArg V.c (congrArg (C.int .i64) ?_)) (Af (congrArg V.c (congrArg (C.int .i64) ?_)) (Af (congrArg V.c (congrArg C.bool ?_)) rfl)))),rfl⟩
 rotate_left 3
 refine⟨Q26,(P8 (k:=3) Q26 Q26),dsp (fun h2 p2=>?_) fun h2 p2=>?_⟩
 refine⟨(congrArg S.tup (Af (congrArg V.c (congrArg (C.int .i64) ?_)) (Af (congrArg V.c (congrArg (C.int .i64) ?_)) (Af (congrArg V.c (congrArg C.bool ?_)) rfl)))),rfl⟩
 rotate_left 3
 refine⟨Q26,(P8 (k:=3) Q26 Q26),(Ac Q5 Q5),(Xy (k:=3) Q26 Q26),(Ac Q5 Q5),(congrArg S.tup (Af (congrArg V.c (congrArg (C.int .i64) ?_)) (Af (congrArg V.c (congrArg (C.int .i64) ?_)) (Af (congrArg V.c (congrArg C.bool ?_)) rfl)))),rfl⟩
 rotate_left 3
 all_goals first|((have ht:Kp u=true:=by (simp[Kp,Aw];omega));simp[B9,B1,ht])|((have ht:Kp u=false:=by (simp[Kp,Aw];omega));simp[B9,B1,ht])
theorem Aqx (u:Int) (hp1:(0:Int)≤u∧u≤18446744073709551615):Fun Tryz.prog 128 [.c (.int .u64 u)] [] (.tup [vI (B9 u),vI (B1 u),vB (Kp u)]) []:=by
 have hN:Ba=274877906944:=rfl
 refine Av Tryz.func128 Q8 Q8 (w:=let z1:S:= .tup [vI (B9 u),vI (B1 u),vB (Kp u)];let z2:=Lf (.tup [vI 0,vI 0,vB false]) z1 [] [];(.br (.leaf () []) (.br (.leaf () []) (.seg [.as 12 (.v (.c (.int .u64 (u / 8)))),.as 13 (.v (vI (u / 8))),.as 15 (.v (.c (.int .u64 (u % 8)))),.as 16 (.v (vI (u % 8)))] (.leaf () []))),Bc (decide (u<8)) z2 (Bc (decide (4294967295<u)) z2 (((8:Int)≠0)∧((.v (.c (.int .u64 (IntKind.u64.wrap (Int.tdiv u 8)))):S)= .v (.c (.int .u64 (u / 8))))∧(wI (u / 8))∧((8:Int)≠0)∧((.v (.c (.int .u64 (Int.tmod u 8))):S)= .v (.c (.int .u64 (u % 8))))∧(wI (u % 8))∧Lf (.tup [vI (u / 8),vI (u % 8),vB true]) z1 [] [])))) Q8 ?_
 refine dsp (fun h1 p1=>?_) fun h1 p1=>?_
 refine⟨(congrArg S.tup (Af (congrArg V.c (congrArg (C.int .i64) ?_)) (Af (congrArg V.c (congrArg (C.int .i64) ?_)) (Af (congrArg V.c (congrArg C.bool ?_)) rfl)))),rfl⟩
 rotate_left 3
 refine dsp (fun h2 p2=>?_) fun h2 p2=>?_
 refine⟨(congrArg S.tup (Af (congrArg V.c (congrArg (C.int .i64) ?_)) (Af (congrArg V.c (congrArg (C.int .i64) ?_)) (Af (congrArg V.c (congrArg C.bool ?_)) rfl)))),rfl⟩
 rotate_left 3
 refine⟨Q26,(H6 Q5 Q5 Q26),(Ac Q5 Q5),Q26,(Ki Q5),(Ac Q5 Q5),(congrArg S.tup (Af (congrArg V.c (congrArg (C.int .i64) ?_)) (Af (congrArg V.c (congrArg (C.int .i64) ?_)) (Af (congrArg V.c (congrArg C.bool ?_)) rfl)))),rfl⟩
 rotate_left 3
 all_goals first|((have ht:Kp u=true:=by (simp[Kp,Aw];omega));simp[B9,B1,ht])|((have ht:Kp u=false:=by (simp[Kp,Aw];omega));simp[B9,B1,ht])
theorem Aj4 (c:Int) (a:Int):Fun Tryz.prog 157 [vI c,vI a] [] (.v (.agg (cEv (Bx c a)))) []:=by
 have hN:Ba=274877906944:=rfl
 refine Av Tryz.func157 Q8 Q8 (w:=(.leaf () [],Lf (.v (.agg [.int .i64 10,.int .i64 0,.int .u64 0,.int .i64 0,.str [],.int .i64 c,.int .i64 a])) (.v (.agg (cEv (Bx c a)))) [] [])) Q8 ?_
 have hm1:Bx c a=(⟨10,0,0,0,[],c,a⟩:Ev):=by rfl
 exact⟨Q17,rfl⟩
theorem Dz (c:Int) (a:Int):Fun Tryz.prog 113 [vI c,vI a] [] (.v (.agg (cEv (Bx c a)))) []:=by
 have hN:Ba=274877906944:=rfl
 refine Av Tryz.func113 Q8 Q8 (w:=(.leaf () [],Lf (.v (.agg [.int .i64 10,.int .i64 0,.int .u64 0,.int .i64 0,.str [],.int .i64 c,.int .i64 a])) (.v (.agg (cEv (Bx c a)))) [] [])) Q8 ?_
 have hm1:Bx c a=(⟨10,0,0,0,[],c,a⟩:Ev):=by rfl
 exact⟨Q17,rfl⟩
theorem Aah (f:Fld) (u:Int) (hp1:(0:Int)≤u):Fun Tryz.prog 126 [.agg (Dd f),.c (.int .u64 u)] [] (.v (.agg (cEv (Ed f u)))) []:=by
 have hN:Ba=274877906944:=rfl
 refine Av Tryz.func126 Q8 Q8 (w:=let zi:Int→C:= .int .i64;let z1:List C:=[zi 2,zi f.number,.int .u64 u,zi 0,.str [],zi 0,zi 0];let z2:=Lf (.v (.agg z1)) (.v (.agg (cEv (Ed f u)))) [] [];(.br (.br (.leaf () []) (.leaf () [])) (.leaf () []),Bc (decide (f.kind=3)) (Bc (!decide (u=0)) (Lf (.v (.agg [zi 2,zi f.number,.int .u64 1,zi 0,.str [],zi 0,zi 0])) (.v (.agg (cEv (Ed f u)))) [] []) z2) z2)) Q8 ?_
 refine dsp (fun h1 p1=>?_) fun h1 p1=>?_
 refine⟨fun h2=>have q2:=Ar h2;have p2:=of_decide_eq_false q2;?_,fun h2=>have q2:=Ao h2;have p2:=of_decide_eq_true q2;?_⟩
 refine zE (Ed f u) (⟨2,f.number,1,0,[],0,0⟩:Ev) (fun hm1=>⟨Q17,rfl⟩) ?_
 rotate_left
 refine zE (Ed f u) (⟨2,f.number,u,0,[],0,0⟩:Ev) (fun hm1=>⟨Q17,rfl⟩) ?_
 rotate_left
 refine zE (Ed f u) (⟨2,f.number,u,0,[],0,0⟩:Ev) (fun hm1=>⟨Q17,rfl⟩) ?_
 rotate_left
 all_goals simp[Ed, *]<;>omega
theorem Aai (f:Fld) (u:Int) (hp1:(0:Int)≤u):Fun Tryz.prog 195 [.agg (Dd f),.c (.int .u64 u)] [] (.v (.agg (cEv (Ed f u)))) []:=by
 have hN:Ba=274877906944:=rfl
 refine Av Tryz.func195 Q8 Q8 (w:=let zi:Int→C:= .int .i64;let z1:List C:=[zi 2,zi f.number,.int .u64 u,zi 0,.str [],zi 0,zi 0];let z2:=Lf (.v (.agg z1)) (.v (.agg (cEv (Ed f u)))) [] [];(.br (.br (.leaf () []) (.leaf () [])) (.leaf () []),Bc (decide (f.kind=3)) (Bc (decide (1<u)) (Lf (.v (.agg [zi 2,zi f.number,.int .u64 1,zi 0,.str [],zi 0,zi 0])) (.v (.agg (cEv (Ed f u)))) [] []) z2) z2)) Q8 ?_
 refine dsp (fun h1 p1=>?_) fun h1 p1=>?_
 refine dsp (fun h2 p2=>?_) fun h2 p2=>?_
 refine zE (Ed f u) (⟨2,f.number,1,0,[],0,0⟩:Ev) (fun hm1=>⟨Q17,rfl⟩) ?_
 rotate_left
 refine zE (Ed f u) (⟨2,f.number,u,0,[],0,0⟩:Ev) (fun hm1=>⟨Q17,rfl⟩) ?_
 rotate_left
 refine zE (Ed f u) (⟨2,f.number,u,0,[],0,0⟩:Ev) (fun hm1=>⟨Q17,rfl⟩) ?_
 rotate_left
 all_goals simp[Ed, *]<;>omega
theorem Ud (b:List UInt8) (hp1:b.length≤Ba):Fun Tryz.prog 225 [vT b] [] (.v (vT (A1 b))) []:=by
 have hN:Ba=274877906944:=rfl
 refine Av Tryz.func225 Q8 Q8 (w:=let z1:=(b.length:Int);(.seg [.as 5 (.v (.c (.int .u64 z1))),.call [] (.v (vT (A9 z1))) []] (.leaf () []),(wU (z1))∧(Fp 223 [.c (.int .u64 z1)] [] (.v (vT (A9 z1))) [])∧(((List.length (A9 z1)+b.length:Nat):Int)≤Aq)∧Lf (.v (vT ((A9 z1)++b))) (.v (vT (A1 b))) [] [])) Q8 ?_
 exact⟨(Bm Q5 Q5),(Mf _ Q5),(by have:=Fm (u:=(b.length:Int)) Q5;simp only[Aq];omega),(congrArg S.v (congrArg V.c (congrArg C.str (by rfl)))),rfl⟩
theorem Rc (b:List UInt8) (hp1:b.length≤Ba):Fun Tryz.prog 55 [vT b] [] (.v (vT (A1 b))) []:=by
 have hN:Ba=274877906944:=rfl
 refine Av Tryz.func55 Q8 Q8 (w:=let z1:=(b.length:Int);(.seg [.as 5 (.v (.c (.int .u64 z1))),.call [] (.v (vT (A9 z1))) []] (.leaf () []),(wU (z1))∧(Fp 107 [.c (.int .u64 z1)] [] (.v (vT (A9 z1))) [])∧(((List.length (A9 z1)+b.length:Nat):Int)≤Aq)∧Lf (.v (vT ((A9 z1)++b))) (.v (vT (A1 b))) [] [])) Q8 ?_
 exact⟨(Bm Q5 Q5),(N5 _ Q5),(by have:=Fm (u:=(b.length:Int)) Q5;simp only[Aq];omega),(congrArg S.v (congrArg V.c (congrArg C.str (by rfl)))),rfl⟩
end Go.Proofs.YtijacopaadmncaaGreat.Ax
