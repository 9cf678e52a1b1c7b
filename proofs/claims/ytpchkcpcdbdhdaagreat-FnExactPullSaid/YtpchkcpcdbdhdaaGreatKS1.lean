/- Models. Models: the machine. Models: the machine's steps. Models: bytes, whole inputs. Models: readers, streams. Numbers. Varints. Numbers of so Akk bytes; tags. Utf-8. -/
import Derived.Test.YtpchkcpcdbdhdaaGreatKB4
set_option linter.unusedSimpArgs false
set_option linter.unusedVariables false
namespace Go.Proofs.YtpchkcpcdbdhdaaGreat.Ax
open Go.RowKit
theorem Aa {α:Type} {a b:α} {l m:List α} (h:a=b) (t:l=m):a::l=b::m:=by rw[h,t]
def vI (x:Int):V:= .c (.int .i64 x)
def vB (x:Bool):V:= .c (.bool x)
def vT (x:List UInt8):V:= .c (.str x)
def vO (j:Nat):V:= .c (.own j)
def vP (j:Nat):V:= .c (.ptr j 0)
theorem sB {a b:Bool} (h:a=b):(.v (.c (.bool a)):S)= .v (.c (.bool b)):=by rw[h]
theorem sI {a b:Int} (h:a=b):(.v (.c (.int .i64 a)):S)= .v (.c (.int .i64 b)):=by rw[h]
theorem dT {p:Prop} [Decidable p]:decide p=true↔p:=decide_eq_true_iff
theorem dF {p:Prop} [Decidable p]:decide p=false↔¬p:=decide_eq_false_iff_not
theorem Co {a b:Bool} {P Q:Prop} (h:a=true↔P) (g:b=true↔Q):(a&&b)=true↔P∧Q:=by rw[Bool.and_eq_true,h,g]
theorem Cp {a b:Bool} {P Q:Prop} (h:a=true↔P) (g:b=false↔Q):(a&&b)=false↔(P→Q):=by rw[Bool.and_eq_false_imp,h,g]
theorem orT {a b:Bool} {P Q:Prop} (h:a=true↔P) (g:b=true↔Q):(a||b)=true↔P∨Q:=by rw[Bool.or_eq_true,h,g]
theorem orF {a b:Bool} {P Q:Prop} (h:a=false↔P) (g:b=false↔Q):(a||b)=false↔P∧Q:=by rw[Bool.or_eq_false_iff,h,g]
theorem Bc {F:Fam} {j:F.ι} {tm:List (Nat×S)} {H:List Blk} (h1:tm=F.tm j) (h2:H=F.H j) (h:F.inv j):F.Has tm H:=⟨j,h,h1,h2⟩
theorem Bm {F:Fam} {i j:F.ι} {tm:List (Nat×S)} {H:List Blk} (h1:tm=F.tm j) (h2:H=F.H j) (h:F.inv j) (hm:F.mu j<F.mu i):F.Nxt i tm H:=⟨j,⟨h,hm⟩,h1,h2⟩
theorem Af {P : Program} {f : FuncId} {fn : Func} (hf : P.funcs[f]? = some fn) (hb : fn.body.isNone = false) (hn : (fn.name == "runtime.NumGoroutine") = false) {args : List V} {L L' : List Blk} {r : S} {w : DT Unit × Prop}
  (hw:Afd P fn args L w.1 (fun _ r' Lp=>r'=r∧Lp=L')=w.2) (h:w.2):Fun P f args L r L':=Aiq hf hb hn hw h
theorem dsp {p:Prop} [Decidable p] {A B:Prop} (h1:decide p=true→p→A) (h2:decide p=false→¬p→B):(decide p=true→A)∧(decide p=false→B):=⟨fun h=>h1 h (of_decide_eq_true h),fun h=>h2 h (of_decide_eq_false h)⟩
/-! ### Structures -/
structure Scn where
 bits:Int
 have_:Int
 deriving DecidableEq,Inhabited
structure Utf where
 want:Int
 low:Int
 high:Int
 deriving DecidableEq,Inhabited
structure Pln where
 shapes:List Shp
 root:Int
 deep:Int
 most:Int
 deriving DecidableEq,Inhabited
structure Dcd where
 plan:Pln
 mode:Int
 stack:List Lev
 scan:Scn
 start:Int
 at_:Int
 field:Fld
 wire:Int
 want:Int
 utf:Utf
 end_:Ev
 deriving DecidableEq,Inhabited
def fld0:Fld:=⟨0,0,false,false,0⟩
def ev0:Ev:=⟨0,0,0,0,[],0,0⟩
def utf0:Utf:=⟨0,0,0⟩
def scn0:Scn:=⟨0,0⟩
theorem C7 {α:Type} {l:List α} {i:Nat} {x:α} (h:l[i]? =some x):l.drop i=x::l.drop (i+1):=by
 have hl:=(List.getElem?_eq_some_iff.1 h).1
 rw[List.drop_eq_getElem_cons hl]
 congr 1
 rw[List.getElem?_eq_getElem hl] at h
 exact Option.some.inj h
theorem Am {b:Bool} (h:(!b)=true):b=false:=by cases b<;>simp_all
theorem Aj {b:Bool} (h:(!b)=false):b=true:=by cases b<;>simp_all
theorem Ss {α:Type} {l:List α} {i:Nat} {x d:α} (h:l[i]? =some x):l.getD i d=x:=by simp[List.getD,h]
theorem Ja {α:Type} {l:List α} {i:Nat} (h: ¬((i:Nat):Int)<((l.length:Nat):Int)):l.drop i=[]:=List.drop_eq_nil_of_le (by omega)
/-! ### Words of numbers -/
theorem Nv {k:IntKind} {a m:Int} (h:0≤a):(.v (.c (.int k (Int.tmod a m))):S)= .v (.c (.int k (a % m))):=by rw[Int.tmod_eq_emod_of_nonneg h]
theorem Yg {a m:Int} (h:0≤a) (h2:a≤18446744073709551615) (hm:0<m):(.v (.c (.int .u64 (IntKind.u64.wrap (Int.tdiv a m)))):S)= .v (.c (.int .u64 (a / m))):=by
 rw[Int.tdiv_eq_ediv_of_nonneg h]
 have h3:=Int.ediv_nonneg h (Int.le_of_lt hm)
 have h4:=Int.ediv_le_self m h
 exact Dx (by omega) (by omega)
theorem Air {a b:Int} {k:Nat} (ha:0≤a) (hk:a<2 ^ k) {c:Int} (hc:0≤c) (hb:b=c*2 ^ k) (hs:b+2 ^ k≤18446744073709551616):(((BitVec.ofInt 64 a|||BitVec.ofInt 64 b).toNat:Nat):Int)=a+b:=by
 obtain ⟨n,rfl⟩:=Int.eq_ofNat_of_zero_le ha
 obtain ⟨m,rfl⟩:=Int.eq_ofNat_of_zero_le hc
 have hb':b=((m*2 ^ k:Nat):Int):=by rw[hb,Int.natCast_mul,Int.natCast_pow];rfl
 have hp:(0:Int)<2 ^ k:=Int.pow_pos (by decide)
 subst hb'
 have e:((2 ^ k:Nat):Int)=2 ^ k:=by rw[Int.natCast_pow];rfl
 rw[←e] at hk hs hp
 have h1:n<2 ^ k:=by omega
 have h2:m*2 ^ k+2 ^ k≤18446744073709551616:=by omega
 have h3:n<2 ^ 64:=by omega
 have h4:m*2 ^ k<2 ^ 64:=by omega
 rw[BitVec.toNat_or,BitVec.ofInt_natCast,BitVec.ofInt_natCast,BitVec.toNat_ofNat,BitVec.toNat_ofNat,Nat.mod_eq_of_lt h3,Nat.mod_eq_of_lt h4,Nat.or_comm,Nat.mul_comm m,←Nat.two_pow_add_eq_or_of_lt h1]
 rw[Nat.mul_comm,Int.natCast_add,Int.add_comm]
/-! ### Kinds, wires, numbers -/
def Ez (n:Int):Bool:=Ak n 1 536870911&& !Ak n 19000 19999
def C4 (w:Int):Bool:=decide (w=0)||decide (w=1)||decide (w=2)||decide (w=5)
def Ga (k:Int):Bool:=Ak k 1 8
def Gb (k:Int):Bool:=Ak k 1 5
def Cq (k:Int):Int:=if Ga k then (if k=4 then 5 else if k=5 then 1 else if k≤3 then 0 else 2) else-1
def Aw (w:Int):Int:=if w=1 then 8 else if w=5 then 4 else 0
def Q9 (f:Fld):Bool:=f.rep&&Gb f.kind
def Cx (f:Fld) (w:Int):Bool:=decide (w=Cq f.kind)||(decide (w=2)&&Q9 f)
def Ef (k:Int):Bool:=decide (k=2)||decide (k=3)||decide (k=6)
theorem Gc (w:Int):0≤Aw w∧Aw w≤8:=by unfold Aw;split<;>(try split)<;>omega
def Gj (f:Fld) (n:Int):Bool:=Ez f.number&&Ga f.kind&& !(f.packed&&(!f.rep|| !Gb f.kind))&&(if f.kind=8 then Ak f.msg 0 (n-1) else decide (f.msg= -1))
def Cu (n:Int):Int→List Fld→Bool
 |_,[]=>true
 |b,f::r=>decide (b<f.number)&&Gj f n&&Cu n f.number r
def D1 (n:Int):Int→List Shp→Bool
 |_,[]=>true
 |b,x::r=>decide (b<x.id)&&decide (x.id≤99)&&decide ((x.fields.length:Int)≤8)&&Cu n 0 x.fields&&D1 n x.id r
def Cc (l:List Shp):Bool:=decide ((l.length:Int)≤6)&&D1 (l.length:Int) 0 l
def F0 (l:List Fld) (n:Int):Option Fld:=l.find? fun f=>decide (f.number=n)
def Akg:Shp:=⟨0,[]⟩
def fieldAt (l:List Shp) (s n:Int):Option Fld:=if Ak s 0 ((l.length:Int)-1) then F0 (l.getD s.toNat Akg).fields n else none
def Cv (p:Pln):Bool:=Cc p.shapes&&Ak p.root 0 ((p.shapes.length:Int)-1)&&Ak p.deep 1 8&&Ak p.most 0 2000
theorem Yh {f:Fld} {n:Int} (h:Gj f n=true):1≤f.number∧f.number≤536870911∧1≤f.kind∧f.kind≤8∧(f.kind=8→0≤f.msg∧f.msg≤n-1)∧(f.kind≠8→f.msg= -1):=by
 simp only[Gj,Ez,Ga,Ak,Bool.and_eq_true,decide_eq_true_eq] at h
 obtain ⟨⟨⟨h1,h2⟩,h3⟩,h4⟩:=h
 refine⟨h1.1.1,h1.1.2,h2.1,h2.2,fun hk=>?_,fun hk=>?_⟩
 ·rw[if_pos hk] at h4;simpa using h4
 ·rw[if_neg hk] at h4;simpa using h4
theorem Qb {l:List Shp} (h:Cc l=true):l.length≤6:=by
 simp only[Cc,Bool.and_eq_true,decide_eq_true_eq] at h;omega
theorem By {p:Pln} (h:Cv p=true):p.shapes.length≤6∧Cc p.shapes=true∧0≤p.root∧p.root<(p.shapes.length:Int)∧1≤p.deep∧p.deep≤8∧0≤p.most∧p.most≤2000:=by
 simp only[Cv,Ak,Bool.and_eq_true,decide_eq_true_eq] at h
 have:=Qb h.1.1.1
 refine⟨this,h.1.1.1,?_⟩;omega
theorem Q2 {n:Int} : ∀ {b:Int} {l:List Fld},Cu n b l=true→∀f∈l,Gj f n=true∧b<f.number
 |_,[],_,f,hf=>by cases hf
 |b,g::r,h,f,hf=>by
  simp only[Cu,Bool.and_eq_true,decide_eq_true_eq] at h
  rcases List.mem_cons.1 hf with rfl|hf
  ·exact⟨h.1.2,h.1.1⟩
  ·have:=Q2 h.2 f hf;exact⟨this.1,by omega⟩
theorem Ms {n:Int} : ∀ {b:Int} {l:List Shp},D1 n b l=true→∀x∈l,(x.fields.length≤8∧Cu n 0 x.fields=true)∧b<x.id∧x.id≤99
 |_,[],_,f,hf=>by cases hf
 |b,g::r,h,f,hf=>by
  simp only[D1,Bool.and_eq_true,decide_eq_true_eq] at h
  rcases List.mem_cons.1 hf with rfl|hf
  ·exact⟨⟨by omega,h.1.2⟩,h.1.1.1.1,h.1.1.1.2⟩
  ·have:=Ms h.2 f hf;exact⟨this.1,by omega,this.2.2⟩
theorem Dr {l:List Shp} (h:Cc l=true): ∀x∈l,List.length x.fields≤1000:=fun x hx=>by
 simp only[Cc,Bool.and_eq_true] at h
 have:=(Ms h.2 x hx).1.1
 omega
theorem Uj {l:List Shp} {s n:Int} {f:Fld} (hl:Cc l=true) (h:fieldAt l s n=some f):Gj f (l.length:Int)=true∧f.number=n:=by
 unfold fieldAt at h
 split at h
 ·rename_i hs
  have hs:=Ap hs
  simp only[Cc,Bool.and_eq_true,decide_eq_true_eq] at hl
  have hm:l.getD s.toNat Akg∈l:=by
   rw[List.getD_eq_getElem?_getD,List.getElem?_eq_getElem (by omega)]
   exact List.getElem_mem _
  have hx:=(Ms hl.2 _ hm).1.2
  have hf:=List.mem_of_find?_eq_some h
  have hp:=List.find?_some h
  exact⟨(Q2 hx f hf).1,by simpa using hp⟩
 ·cases h
/-! ### Tags -/
def J5 (u:Int):Bool:=Ak u 8 4294967295
def Bp (u:Int):Int:=if J5 u then u / 8 else 0
def Ag (u:Int):Int:=if J5 u then u % 8 else 0
def Md (u:Utf) (w l h:Int):Bool:=decide (u.want=w)&&(decide (u.low=l)&&decide (u.high=h))
def Ew (u:Utf):Bool:=Md u 0 0 0||Md u 1 128 191||Md u 2 128 191||Md u 3 128 191||Md u 2 160 191||Md u 2 128 159||Md u 3 144 191||Md u 3 128 143
theorem Yi {u:Utf} (h:Ew u=true):(u.want=0∧u.low=0∧u.high=0)∨(u.want=1∧u.low=128∧u.high=191)∨(u.want=2∧u.low=128∧u.high=191)∨(u.want=3∧u.low=128∧u.high=191)∨(u.want=2∧u.low=160∧u.high=191)∨(u.want=2∧u.low=128∧u.high=159)∨(u.want=3∧u.low=144∧u.high=191)∨(u.want=3∧u.low=128∧u.high=143):=by
 simp only[Ew,Md,Bool.or_eq_true,Bool.and_eq_true,decide_eq_true_eq] at h
 rcases h with ((((((h|h)|h)|h)|h)|h)|h)|h<;>simp[h]
theorem Uk {u:Utf} (h:Ew u=true) (h0:u.want=0):u=utf0:=by
 rcases Yi h with h|h|h|h|h|h|h|h<;>first|(cases u;simp_all[utf0];done)|omega
theorem Kz {u:Utf} (h:Ew u=true):0≤u.want∧u.want≤3:=by
 rcases Yi h with h|h|h|h|h|h|h|h<;>omega
def A6 (b:Int):Option Utf:=
 if Ak b 0 127 then some utf0
 else if Ak b 194 223 then some ⟨1,128,191⟩
 else if Ak b 224 239 then some ⟨2,if b=224 then 160 else 128,if b=237 then 159 else 191⟩
 else if Ak b 240 244 then some ⟨3,if b=240 then 144 else 128,if b=244 then 143 else 191⟩
 else none
def Bx (u:Utf) (b:Int):Option Utf:=
 if Ew u then (if u.want=0 then A6 b else if Ak b u.low u.high then some (if u.want=1 then utf0 else ⟨u.want-1,128,191⟩) else none) else none
def Av (c a:Int):Ev:=⟨10,0,0,0,[],c,a⟩
def Fp (f:Fld) (u:Int):Ev:=⟨2,f.number,if f.kind=3∧u≠0 then 1 else u,0,[],0,0⟩
theorem Q3 {f:Fld} {l:List Fld} {n:Int} :F0 (f::l) n=if f.number=n then some f else F0 l n:=by
 unfold F0;rw[List.find?_cons];by_cases h:f.number=n<;>simp[h]
theorem Um {l:List Shp} {s n:Int} {x:Shp} (hs:Ak s 0 ((l.length:Int)-1)=true) (hx:l[s.toNat]? =some x):fieldAt l s n=F0 x.fields n:=by
 rw[fieldAt,if_pos hs,Ss hx]
def Akk (l:List Ev) (k:Int):Int:=((l.filter fun e=>decide (e.kind=k)).length:Int)
structure Fa where
 stack:List Int
 inText:Bool
 isText:Bool
 utf:Utf
 ended:Bool
 deriving Inhabited
structure Fmr where
 plan:Pln
 st:Fa
structure Fs where
 stack:List Int
 field:Fld
 open_:Bool
 utf:Utf
 ended:Bool
def F1 (k:Int):Bool:=decide (k=6)||decide (k=7)
theorem Yj {b:Int} {u:Utf} (h:A6 b=some u):Ew u=true:=by
 unfold A6 at h
 repeat' split at h
 all_goals first|(cases h;done)|(cases h;first|decide|(exfalso;omega)|(simp only[Ew,Md];simp_all;done)|(simp only[Ew,Md];simp_all;omega))
theorem Aa7 {u v:Utf} {b:Int} (h:Bx u b=some v):Ew v=true:=by
 unfold Bx at h
 split at h
 ·rename_i hu
  have hw:=Kz hu
  split at h
  ·exact Yj h
  ·split at h
   ·split at h
    ·cases h;decide
    ·cases h
     rcases Yi hu with h|h|h|h|h|h|h|h<;>simp_all[Ew,Md]
   ·cases h
 ·cases h
def cEv (x:Ev):List C:=[.int .i64 x.kind,.int .i64 x.field,.int .u64 x.bits,.int .i64 x.len,.str x.text,.int .i64 x.code,.int .i64 x.at_]
def Fd (x:Fld):List C:=[.int .i64 x.number,.int .i64 x.kind,.bool x.rep,.bool x.packed,.int .i64 x.msg]
def Acb (x:Shp):List C:=[.int .i64 x.id,.seq .fld x.fields]
def Yk (x:Lev):List C:=[.int .i64 x.msg,.int .i64 x.left]
def cRd (x:Rd):List C:=[.int .i64 x.n,.int .i64 x.code]
def J6 (x:Scn):List C:=[.int .u64 x.bits,.int .i64 x.have_]
def Lb (x:Utf):List C:=[.int .i64 x.want,.int .i64 x.low,.int .i64 x.high]
def F4 (x:Pln):List C:=[.seq .shp x.shapes,.int .i64 x.root,.int .i64 x.deep,.int .i64 x.most]
def Bi (x:Dcd):List C:=[.seq .shp x.plan.shapes,.int .i64 x.plan.root,.int .i64 x.plan.deep,.int .i64 x.plan.most,.int .i64 x.mode,.seq .lev x.stack,.int .u64 x.scan.bits,.int .i64 x.scan.have_,.int .i64 x.start,.int .i64 x.at_,.int .i64 x.field.number,.int .i64 x.field.kind,.bool x.field.rep,.bool x.field.packed,.int .i64 x.field.msg,.int .i64 x.wire,.int .i64 x.want,.int .i64 x.utf.want,.int .i64 x.utf.low,.int .i64 x.utf.high,.int .i64 x.end_.kind,.int .i64 x.end_.field,.int .u64 x.end_.bits,.int .i64 x.end_.len,.str x.end_.text,.int .i64 x.end_.code,.int .i64 x.end_.at_]
def Ac (j0:Nat) (j5:Nat) (x:Dcd):List C:=[.own j0,.int .i64 x.plan.root,.int .i64 x.plan.deep,.int .i64 x.plan.most,.int .i64 x.mode,.own j5,.int .u64 x.scan.bits,.int .i64 x.scan.have_,.int .i64 x.start,.int .i64 x.at_,.int .i64 x.field.number,.int .i64 x.field.kind,.bool x.field.rep,.bool x.field.packed,.int .i64 x.field.msg,.int .i64 x.wire,.int .i64 x.want,.int .i64 x.utf.want,.int .i64 x.utf.low,.int .i64 x.utf.high,.int .i64 x.end_.kind,.int .i64 x.end_.field,.int .u64 x.end_.bits,.int .i64 x.end_.len,.str x.end_.text,.int .i64 x.end_.code,.int .i64 x.end_.at_]
def Nw (j0:Nat) (x:Pln):List C:=[.own j0,.int .i64 x.root,.int .i64 x.deep,.int .i64 x.most]
def Aj0:Lev:=⟨0,0⟩
def Dm (d:Dcd):Int:=(d.stack.getD (d.stack.length-1) Aj0).left
def E2 (n:Int) (l:Lev):Bool:=Ak l.msg 0 (n-1)&&Ak l.left 0 2000
def A5 (d:Dcd):Bool:=Cv d.plan&&decide ((d.stack.length:Int)≤d.plan.deep)&&d.stack.all (E2 (d.plan.shapes.length:Int))
def Tz (n:Int):List Lev→Nat
 |[]=>0
 |l::r=>if E2 n l then Tz n r+1 else 0
theorem Pf {n:Int} {l:Lev} {r:List Lev} :Tz n (l::r)=if E2 n l then Tz n r+1 else 0:=rfl
theorem Lj (n:Int): ∀l:List Lev,l.all (E2 n)=decide (Tz n l=l.length)
 |[]=>rfl
 |l::r=>by
  rw[List.all_cons,Lj n r,Pf]
  cases h:E2 n l with
  |true=>rw[if_pos rfl];simp
  |false=>rw[if_neg (by simp)];simp
def J7 (n:Int) (l:List Lev):Int:=if Tz n l=l.length then-1 else (Tz n l:Int)
def Cz (s:Scn):Bool:=Ak s.have_ 0 9&&decide (Int.fdiv s.bits (2 ^ min (Int.toNat (7*s.have_)) 64)=0)
def Bd (d:Dcd):Int:=if d.mode=5 then Aw d.wire else if d.mode=8 then Aw (Cq d.field.kind) else 0
def Mt (d:Dcd):Int:=if d.mode=8 then d.want else Dm d
def H3 (d:Dcd):Bool:=if 0<Bd d then Ak d.scan.have_ 0 (Bd d-1)&&decide (Int.fdiv d.scan.bits (2 ^ min (Int.toNat (8*d.scan.have_)) 64)=0)&&decide (Bd d-d.scan.have_≤Mt d)
 else if d.mode=6∨d.mode=7∨d.mode=9 then decide (d.scan=scn0) else Cz d.scan
def Fk (d:Dcd):Bool:=if d.mode=6∨d.mode=7∨d.mode=8 then Ak d.want 1 (Dm d) else decide (d.want=0)
def Agz (d:Dcd):Bool:=decide (d.field=fld0)||Cx d.field d.wire
def Gq (d:Dcd):Bool:=if d.mode=6 then F1 d.field.kind else if d.mode=8 then Q9 d.field else if d.mode=3 then decide (d.wire=0)&&Agz d else if d.mode=4 then decide (d.wire=2)&&Agz d else if d.mode=5 then decide (0<Aw d.wire)&&Agz d else true
def Fq (l:List Shp) (f:Fld):Nat→Bool
 |0=>false
 |k+1=>Fq l f k||decide (fieldAt l (k:Int) f.number=some f)
def H4 (l:List Shp) (f:Fld):Bool:=Fq l f l.length
def Ks (k:Int):Bool:=Ak k 1 10
def Cg (e:Ev):Ev:=⟨e.kind,if e.kind=2∨e.kind=3∨e.kind=6 then e.field else 0,if e.kind=2 then e.bits else 0,if e.kind=1∨e.kind=3∨e.kind=6 then e.len else 0,if e.kind=4 then e.text else [],if e.kind=10 then e.code else 0,if e.kind=9∨e.kind=10 then e.at_ else 0⟩
def Pg (e:Ev):Bool:=decide (e=Cg e)
def Gs (e:Ev):Bool:=Ks e.kind&&Pg e&&decide (0≤e.len)&&decide (0≤e.at_)&&(if Ef e.kind then Ak e.field 1 536870911 else if e.kind=4 then !decide (e.text=[]) else if e.kind=10 then decide (1≤e.code) else true)
def Bt (e:Ev):Bool:=decide (e.kind=9)||decide (e.kind=10)
def N0 (d:Dcd):Bool:=if d.mode=9 then Gs d.end_&&Bt d.end_ else decide (d.end_=ev0)
def H6 (d:Dcd):Bool:=if d.mode=1 then decide (d.stack=[]) else if d.mode=9 then true else decide (1≤Dm d)
def Be (d:Dcd):Bool:=A5 d&&Ak d.mode 1 9&&Ak d.at_ 0 1000000000&&Ak d.start 0 d.at_&&Ew d.utf&&C4 d.wire&&(decide (d.field=fld0)||H4 d.plan.shapes d.field)&&N0 d&&H6 d&&Fk d&&Gq d&&H3 d
theorem Ada {o f:Fld} (h:o.number=f.number∧o.kind=f.kind∧o.rep=f.rep∧o.packed=f.packed∧o.msg=f.msg):o=f:=by
 cases o;cases f;simp_all
theorem Adb {o f:Fld} (h:o.number=f.number→o.kind=f.kind→o.rep=f.rep→o.packed=f.packed→¬o.msg=f.msg):o≠f:=fun e=>by subst e;exact h rfl rfl rfl rfl rfl
theorem St {l:List Shp} {f:Fld} : ∀ {k m:Nat},k≤m→Fq l f k=true→Fq l f m=true
 |k,0,h,hk=>by rw[show k=0 by omega] at hk;exact hk
 |k,m+1,h,hk=>by
  by_cases e:k=m+1
  ·rw[←e];exact hk
  ·rw[Fq,St (m:=m) (by omega) hk];rfl
theorem Vk {l:List Shp} {f:Fld} {k:Nat} (h:k<l.length) (hf:fieldAt l (k:Int) f.number=some f):H4 l f=true:=by
 have:Fq l f (k+1)=true:=by rw[Fq,hf];simp
 exact St (show k+1≤l.length by omega) this
theorem Lk {l:List Shp} {f:Fld} {k:Nat} (h:Fq l f k=false) (hf:fieldAt l (k:Int) f.number≠some f):Fq l f (k+1)=false:=by
 rw[Fq,h];simp[hf]
theorem Z6 {l:List Shp} {f:Fld} {k:Nat} (h:Fq l f k=false) (hk:l.length=k):H4 l f=false:=by unfold H4;rw[hk];exact h
theorem Vm {f:Fld} (h:f.number=0∧f.kind=0∧f.rep=false∧f.packed=false∧f.msg=0):f=fld0:=Ada h
def Mu (d:Dcd):Bool:=d.stack.all (E2 (d.plan.shapes.length:Int))&&(if d.mode=1 then decide ((d.stack.length:Int)=0) else if d.mode=9 then decide ((d.stack.length:Int)≤d.plan.deep) else Ak (d.stack.length:Int) 1 d.plan.deep&&decide (1≤Dm d))
def Ais (d:Dcd):Bool:=Ak d.scan.have_ 0 (Bd d-1)&&decide (Int.fdiv d.scan.bits (2 ^ min (Int.toNat (8*d.scan.have_)) 64)=0)&&decide (Bd d-d.scan.have_≤Mt d)
def Ym (d:Dcd):Bool:=if d.mode=6∨d.mode=7∨d.mode=9 then decide (d.scan=scn0) else if d.mode=5 then Ais d else if d.mode=8 then (if Bd d=0 then Cz d.scan else Ais d) else Cz d.scan
def D4 (d:Dcd):Bool:=(decide (d.mode=3)&& !decide (d.wire=0))||(decide (d.mode=4)&& !decide (d.wire=2))||(decide (d.mode=5)&&decide (Aw d.wire=0))
def W7 (d:Dcd):Bool:=Cv d.plan&&Ak d.mode 1 9&&Ak d.at_ 0 1000000000&&Ak d.start 0 d.at_&&Ew d.utf&&C4 d.wire&&(decide (d.field=fld0)||H4 d.plan.shapes d.field)&&Mu d&&N0 d&&Fk d&& !D4 d&& !(Ak d.mode 3 5&& !decide (d.field=fld0)&& !Cx d.field d.wire)&&(!decide (d.mode=6)||F1 d.field.kind)&&(!decide (d.mode=8)||Q9 d.field)&&Ym d
theorem Vn {d:Dcd} (h:d.stack=[]):Dm d=0:=by unfold Dm;rw[h];rfl
theorem Ph (w:Int):Aw w=0∨Aw w=4∨Aw w=8:=by unfold Aw;split<;>(try split)<;>omega
theorem Adc (d:Dcd):W7 d=Be d:=by
 have hw:=Ph d.wire
 have hw2:=Ph (Cq d.field.kind)
 by_cases hm:Ak d.mode 1 9=true
 ·have hm:=Ap hm
  have hp:Cv d.plan=true→1≤d.plan.deep:=fun h=>(By h).2.2.2.2.1
  have ht:= @Vn d
  obtain ⟨⟨sh,ro,de,mo⟩,m,st,sc,sa,a,f,w,wa,u,e⟩:=d
  simp only at hm hw hw2 hp ht
  have hs:(decide (st=[]):Bool)=decide ((st.length:Int)=0):=by cases st<;>simp<;>omega
  have hl: ∀x:Lev,(([]:List Lev).length:Int)=0:=fun _=>rfl
  rcases (show m=1∨m=2∨m=3∨m=4∨m=5∨m=6∨m=7∨m=8∨m=9 by omega) with rfl|rfl|rfl|rfl|rfl|rfl|rfl|rfl|rfl<;>
   rw[Bool.eq_iff_iff]<;>simp[W7,Be,A5,Mu,H6,D4,Ym,Ais,H3,Gq,Agz,Fk,Mt,Bd,hs,Ak]<;>grind
 ·have hm:Ak d.mode 1 9=false:=by simpa using hm
  simp[W7,Be,hm]
theorem Ait {e f:Ev} (h:e.kind=f.kind∧e.field=f.field∧e.bits=f.bits∧e.len=f.len∧e.text=f.text∧e.code=f.code∧e.at_=f.at_):e=f:=by cases e;cases f;simp_all
theorem Afe {e:Ev} (h:e.kind=(Cg e).kind∧e.field=(Cg e).field∧e.bits=(Cg e).bits∧e.len=(Cg e).len∧e.text=(Cg e).text∧e.code=(Cg e).code∧e.at_=(Cg e).at_):Pg e=true:=decide_eq_true (Ait h)
theorem Pi {e f:Ev} (h:Cg e=f):Pg e=(decide (e.kind=f.kind)&&(decide (e.field=f.field)&&(decide (e.bits=f.bits)&&(decide (e.len=f.len)&&(decide (e.text=f.text)&&(decide (e.code=f.code)&&decide (e.at_=f.at_))))))):=by
 subst h
 rw[Bool.eq_iff_iff]
 simp only[Bool.and_eq_true,decide_eq_true_eq]
 constructor
 ·intro h
  have h:e=Cg e:=of_decide_eq_true h
  exact⟨congrArg Ev.kind h,congrArg Ev.field h,congrArg Ev.bits h,congrArg Ev.len h,congrArg Ev.text h,congrArg Ev.code h,congrArg Ev.at_ h⟩
 ·exact fun h=>Afe h
structure Mac where
 d:Dcd
 out:List Ev
def Hp:Ev:=⟨5,0,0,0,[],0,0⟩
def Wg:Ev:=⟨7,0,0,0,[],0,0⟩
def Du:Ev:=⟨8,0,0,0,[],0,0⟩
def Add (n:Int):Ev:=⟨1,0,0,n,[],0,0⟩
def Yn (f n:Int):Ev:=⟨6,f,0,n,[],0,0⟩
def Yo (f n:Int):Ev:=⟨3,f,0,n,[],0,0⟩
def Yp (b:Int):Ev:=⟨4,0,0,0,[Cy b],0,0⟩
def Au (d:Dcd) (c a:Int):Dcd:=⟨d.plan,9,d.stack,⟨0,0⟩,d.start,d.at_,d.field,d.wire,0,d.utf,Av c a⟩
def As (m:Mac) (c a:Int):Mac:=⟨Au m.d c a,m.out++[Av c a]⟩
def Aq (m:Mac):Option Mac:=
 if m.d.mode=6∧m.d.want<1 then
  (if 0<m.d.utf.want then some (As m 5 m.d.at_) else some ⟨⟨m.d.plan,2,m.d.stack,m.d.scan,m.d.start,m.d.at_,m.d.field,m.d.wire,0,⟨0,0,0⟩,m.d.end_⟩,m.out++[Hp]⟩)
 else if (m.d.mode=7∨(m.d.mode=8∧m.d.scan.have_=0))∧m.d.want<1 then some ⟨⟨m.d.plan,2,m.d.stack,m.d.scan,m.d.start,m.d.at_,m.d.field,m.d.wire,0,m.d.utf,m.d.end_⟩,m.out⟩
 else if m.d.mode=2∧m.d.scan.have_=0∧0<m.d.stack.length∧Dm m.d=0 then
  some (if m.d.stack.length=1 then ⟨⟨m.d.plan,1,m.d.stack.take (m.d.stack.length-1),m.d.scan,m.d.start,m.d.at_,m.d.field,m.d.wire,m.d.want,m.d.utf,m.d.end_⟩,m.out++[Du]⟩
   else ⟨⟨m.d.plan,m.d.mode,m.d.stack.take (m.d.stack.length-1),m.d.scan,m.d.start,m.d.at_,m.d.field,m.d.wire,m.d.want,m.d.utf,m.d.end_⟩,m.out++[Wg]⟩)
 else none
def wM (m:Mac):Nat:=m.d.stack.length+(if m.d.mode=6∨m.d.mode=7∨m.d.mode=8 then 2 else if m.d.mode=2 then 1 else 0)
theorem Bg {m q:Mac} (h:Aq m=some q):wM q<wM m∧q.out.length≤m.out.length+1:=by
 unfold Aq at h
 split at h
 ·rename_i h1
  split at h
  ·cases h;simp[wM,As,Au,h1.1]
  ·cases h;simp[wM,h1.1]
 ·split at h
  ·rename_i h1
   cases h
   rcases h1.1 with h2|h2
   ·simp[wM,h2]
   ·simp[wM,h2.1]
  ·split at h
   ·rename_i h1
    cases h
    have:=h1.2.2.1
    split
    ·simp[wM,h1.1];omega
    ·simp[wM,h1.1];omega
   ·cases h
def Ad (m:Mac):Mac:=match h:Aq m with
 |none=>m
 |some q=>Ad q
termination_by wM m
decreasing_by exact(Bg h).1
theorem Bu {m q:Mac} (h:Aq m=some q):Ad m=Ad q:=by
 rw[Ad]
 split
 ·rename_i h1;rw[h] at h1;cases h1
 ·rename_i x h1;rw[h] at h1;cases h1;rfl
theorem Bv {m:Mac} (h:Aq m=none):Ad m=m:=by
 rw[Ad]
 split
 ·rfl
 ·rename_i x h1;rw[h] at h1;cases h1
def Cj (m:Mac) (u:Int):Mac:=
 if m.d.plan.most<u then As m 7 m.d.start
 else Ad ⟨⟨m.d.plan,2,[⟨m.d.plan.root,u⟩],⟨0,0⟩,m.d.start,m.d.at_,m.d.field,m.d.wire,m.d.want,m.d.utf,m.d.end_⟩,m.out++[Add u]⟩
def Gt (d:Dcd):Lev:=d.stack.getD (d.stack.length-1) Aj0
def D5 (m:Mac) (u:Int):Mac:=
 if J5 u=false∨m.d.stack.length=0 then As m 2 m.d.start
 else if C4 (Ag u)=false then As m 3 m.d.start
 else if (fieldAt m.d.plan.shapes (Gt m.d).msg (Bp u)).isSome=true∧Cx ((fieldAt m.d.plan.shapes (Gt m.d).msg (Bp u)).getD fld0) (Ag u)=false then As m 4 m.d.start
 else if Dm m.d<max (Aw (Ag u)) 1 then As ⟨⟨m.d.plan,m.d.mode,m.d.stack,⟨0,0⟩,m.d.start,m.d.at_,(fieldAt m.d.plan.shapes (Gt m.d).msg (Bp u)).getD fld0,Ag u,m.d.want,m.d.utf,m.d.end_⟩,m.out⟩ 9 m.d.at_
 else ⟨⟨m.d.plan,if Ag u=0 then 3 else if Ag u=2 then 4 else 5,m.d.stack,⟨0,0⟩,m.d.start,m.d.at_,(fieldAt m.d.plan.shapes (Gt m.d).msg (Bp u)).getD fld0,Ag u,m.d.want,m.d.utf,m.d.end_⟩,m.out⟩
def Cb (m:Mac) (u:Int):Mac:=
 if m.d.stack.length=0∨Dm m.d<u then As m 8 m.d.start
 else if m.d.field=fld0 then Ad ⟨⟨m.d.plan,7,m.d.stack,⟨0,0⟩,m.d.start,m.d.at_,m.d.field,m.d.wire,u,m.d.utf,m.d.end_⟩,m.out⟩
 else if m.d.field.kind=8 then
  (if m.d.plan.deep≤(m.d.stack.length:Int) then As m 6 m.d.start
  else Ad ⟨⟨m.d.plan,2,m.d.stack.set (m.d.stack.length-1) ⟨(Gt m.d).msg,Dm m.d-u⟩++[⟨m.d.field.msg,u⟩],⟨0,0⟩,m.d.start,m.d.at_,m.d.field,m.d.wire,0,m.d.utf,m.d.end_⟩,m.out++[Yn m.d.field.number u]⟩)
 else if F1 m.d.field.kind=true then Ad ⟨⟨m.d.plan,6,m.d.stack,⟨0,0⟩,m.d.start,m.d.at_,m.d.field,m.d.wire,u,⟨0,0,0⟩,m.d.end_⟩,m.out++[Yo m.d.field.number u]⟩
 else if 0<u∧u<Aw (Cq m.d.field.kind) then As m 9 m.d.at_
 else Ad ⟨⟨m.d.plan,8,m.d.stack,⟨0,0⟩,m.d.start,m.d.at_,m.d.field,m.d.wire,u,m.d.utf,m.d.end_⟩,m.out⟩
def Ba (m:Mac) (u:Int):Mac:=⟨⟨m.d.plan,if m.d.mode=8 then 8 else 2,m.d.stack,m.d.scan,m.d.start,m.d.at_,m.d.field,m.d.wire,m.d.want,m.d.utf,m.d.end_⟩,if m.d.field=fld0 then m.out else m.out++[Fp m.d.field u]⟩
def Hq (d:Dcd) (s:Scn):Dcd:=⟨d.plan,d.mode,d.stack,s,d.start,d.at_,d.field,d.wire,d.want,d.utf,d.end_⟩
def Ae (s:Scn) (b:Int):Scn×Int:=
 if Cz s=false∨Ak b 0 255=false∨(s.have_=9∧1<b) then (s,2)
 else (⟨s.bits+b % 128*2 ^ (7*s.have_.toNat),s.have_+1⟩,if b<128 then 1 else 0)
def Bk (s:Scn) (b:Int):Scn:=if Ak s.have_ 0 7=true∧Ak b 0 255=true then ⟨IntKind.u64.wrap (s.bits+IntKind.u64.wrap (b*2 ^ min (Int.toNat (8*s.have_)) 64)),s.have_+1⟩ else s
def K0 (d:Dcd) (a:Int):Dcd:=⟨d.plan,d.mode,d.stack,d.scan,if d.scan.have_=0∧(d.mode=1∨d.mode=2∨d.mode=4) then a else d.start,d.at_,d.field,d.wire,d.want,d.utf,d.end_⟩
def T0 (m q:Mac):Mac:=if (m.d.mode≠1∧Dm m.d=0)∨(m.d.mode=8∧m.d.want=0) then As q 9 m.d.at_ else q
def Bf (m:Mac) (b a:Int):Mac:=
 if (Ae m.d.scan b).2=2 then As ⟨K0 m.d a,m.out⟩ 1 a
 else if (Ae m.d.scan b).2=0 then T0 m ⟨Hq (K0 m.d a) (Ae m.d.scan b).1,m.out⟩
 else if m.d.mode=1 then Cj ⟨Hq (K0 m.d a) scn0,m.out⟩ (Ae m.d.scan b).1.bits
 else if m.d.mode=2 then D5 ⟨Hq (K0 m.d a) scn0,m.out⟩ (Ae m.d.scan b).1.bits
 else if m.d.mode=4 then Cb ⟨Hq (K0 m.d a) scn0,m.out⟩ (Ae m.d.scan b).1.bits
 else Ad (Ba ⟨Hq (K0 m.d a) scn0,m.out⟩ (Ae m.d.scan b).1.bits)
def C8 (m:Mac) (b:Int):Mac:=
 if (Bk m.d.scan b).have_<Bd m.d then ⟨Hq m.d (Bk m.d.scan b),m.out⟩
 else if m.d.mode=8∧0<m.d.want∧m.d.want<Bd m.d then As (Ba ⟨Hq m.d scn0,m.out⟩ (Bk m.d.scan b).bits) 9 m.d.at_
 else Ad (Ba ⟨Hq m.d scn0,m.out⟩ (Bk m.d.scan b).bits)
def Aig (d:Dcd) (u:Utf):Dcd:=⟨d.plan,d.mode,d.stack,d.scan,d.start,d.at_,d.field,d.wire,d.want,u,d.end_⟩
def Eb (m:Mac) (b:Int):Mac:=
 if m.d.field.kind=6 then (match Bx m.d.utf b with
  |none=>As m 5 (m.d.at_-1)
  |some u=>Ad ⟨Aig m.d u,m.out++[Yp b]⟩)
 else Ad ⟨m.d,m.out++[Yp b]⟩
def Br (d:Dcd):Dcd:=⟨d.plan,d.mode,if d.stack.length=0 then d.stack else d.stack.set (d.stack.length-1) ⟨(Gt d).msg,Dm d-1⟩,d.scan,d.start,d.at_+1,d.field,d.wire,if d.mode=6∨d.mode=7∨d.mode=8 then d.want-1 else d.want,d.utf,d.end_⟩
def D6 (m:Mac) (b:Int):Mac:=
 if m.d.mode=6 then Eb ⟨Br m.d,m.out⟩ b
 else if m.d.mode=7 then Ad ⟨Br m.d,m.out⟩
 else if 0<Bd m.d then C8 ⟨Br m.d,m.out⟩ b
 else Bf ⟨Br m.d,m.out⟩ b m.d.at_
theorem D8 {m q:Mac} (h:Aq m=some q):q.d.stack.length≤m.d.stack.length∧q.d.plan=m.d.plan:=by
 unfold Aq at h
 split at h
 ·split at h<;>(cases h;exact⟨Nat.le_refl _,rfl⟩)
 ·split at h
  ·cases h;exact⟨Nat.le_refl _,rfl⟩
  ·split at h
   ·cases h
    split<;>(refine⟨?_,rfl⟩;simp only[List.length_take];omega)
   ·cases h
theorem Su (m:Mac):(Ad m).out.length≤m.out.length+wM m:=by
 suffices ∀(k:Nat) (m:Mac),wM m≤k→(Ad m).out.length≤m.out.length+wM m from this _ m (Nat.le_refl _)
 intro k
 induction k with
 |zero=>
  intro m hk
  cases h:Aq m with
  |none=>rw[Bv h];omega
  |some q=>have:=(Bg h).1;omega
 |succ k ih=>
  intro m hk
  cases h:Aq m with
  |none=>rw[Bv h];omega
  |some q=>
   have h1:=Bg h
   have:=ih q (by omega)
   rw[Bu h];omega
theorem Acc (m:Mac):wM m≤m.d.stack.length+2:=by unfold wM;split<;>(try split)<;>omega
theorem Bs {d:Dcd} (h:A5 d=true):Cv d.plan=true∧(d.stack.length:Int)≤d.plan.deep∧d.stack.length≤8∧(∀l∈d.stack,E2 (d.plan.shapes.length:Int) l=true):=by
 simp only[A5,Bool.and_eq_true,decide_eq_true_eq,List.all_eq_true] at h
 have:=By h.1.1
 exact⟨h.1.1,h.1.2,by omega,h.2⟩
theorem Gu {d:Dcd} (h1:Cv d.plan=true) (h2:(d.stack.length:Int)≤d.plan.deep) (h3: ∀l∈d.stack,E2 (d.plan.shapes.length:Int) l=true):A5 d=true:=by
 simp only[A5,Bool.and_eq_true,decide_eq_true_eq,List.all_eq_true];exact⟨⟨h1,h2⟩,h3⟩
theorem Nd {d e:Dcd} {u:Int} (h:A5 d=true) (hp:e.plan=d.plan) (hs:e.stack=[⟨d.plan.root,u⟩]) (h0:0≤u) (hu:u≤d.plan.most):A5 e=true:=by
 have hb:=Bs h
 have ht:=By hb.1
 refine Gu (by rw[hp];exact hb.1) (by rw[hs,hp];simp;omega) fun l hl=>?_
 rw[hs] at hl
 simp at hl
 subst hl
 rw[hp]
 simp[E2,Ak];omega
theorem Ao {d e:Dcd} (h:A5 d=true) (hp:e.plan=d.plan) (hs:e.stack=d.stack):A5 e=true:=by
 have hb:=Bs h
 exact Gu (by rw[hp];exact hb.1) (by rw[hs,hp];exact hb.2.1) (by rw[hs,hp];exact hb.2.2.2)
theorem Un {l:List Shp} {f:Fld} (hl:Cc l=true): ∀ {k:Nat},Fq l f k=true→Gj f (l.length:Int)=true
 |0,h=>by cases h
 |k+1,h=>by
  simp only[Fq,Bool.or_eq_true,decide_eq_true_eq] at h
  rcases h with h|h
  ·exact Un hl h
  ·exact(Uj hl h).1
theorem Pj {d:Dcd} (h:d.stack.length≠0):Gt d∈d.stack:=by
 unfold Gt
 rw[List.getD_eq_getElem?_getD,List.getElem?_eq_getElem (by omega)]
 exact List.getElem_mem _
theorem D2 {d e:Dcd} {u:Int} (h:A5 d=true) (hk:H4 d.plan.shapes d.field=true) (h8:d.field.kind=8) (hn:d.stack.length≠0) (hd:(d.stack.length:Int)<d.plan.deep) (h0:0≤u) (hu:u≤Dm d) (hp:e.plan=d.plan)
  (hs:e.stack=d.stack.set (d.stack.length-1) ⟨(Gt d).msg,Dm d-u⟩++[⟨d.field.msg,u⟩]):A5 e=true:=by
 have hb:=Bs h
 have hf:=Yh (Un (By hb.1).2.1 hk)
 have hm:=hf.2.2.2.2.1 h8
 have hl:=hb.2.2.2 _ (Pj hn)
 have ht:Dm d=(Gt d).left:=rfl
 simp only[E2,Bool.and_eq_true] at hl
 have hl1:=Ap hl.1;have hl2:=Ap hl.2
 refine Gu (by rw[hp];exact hb.1) (by rw[hs,hp];simp;omega) fun l hl=>?_
 rw[hs] at hl
 rw[hp]
 rcases List.mem_append.1 hl with hl|hl
 ·rcases List.mem_or_eq_of_mem_set hl with hl|hl
  ·exact hb.2.2.2 l hl
  ·subst hl;simp[E2,Ak];omega
 ·simp at hl;subst hl;simp[E2,Ak];omega
theorem Gm {d:Dcd} (h:A5 d=true):0≤Dm d∧Dm d≤2000:=by
 by_cases hn:d.stack.length=0
 ·rw[Vn (List.eq_nil_of_length_eq_zero hn)];omega
 ·have hl:=(Bs h).2.2.2 _ (Pj hn)
  have ht:Dm d=(Gt d).left:=rfl
  simp only[E2,Bool.and_eq_true] at hl
  have:=Ap hl.2;omega
theorem Jb {d:Dcd} {x:Lev} (h:d.stack[d.stack.length-1]? =some x):Gt d=x∧Dm d=x.left:=by
 have e:Gt d=x:=by unfold Gt;exact Ss h
 exact⟨e,by show (Gt d).left=_;rw[e]⟩
theorem Ag0 (u:Int):0≤Ag u∧Ag u≤7:=by unfold Ag;split<;>omega
theorem Rp {s:Scn} (h:Cz s=true) (h0:0≤s.bits):0≤s.have_∧s.have_≤9∧s.bits<2 ^ (7*s.have_.toNat):=by
 simp only[Cz,Bool.and_eq_true,decide_eq_true_eq] at h
 have hw:=Ap h.1
 refine⟨hw.1,hw.2,?_⟩
 have h2:=h.2
 rw[show min (Int.toNat (7*s.have_)) 64=7*s.have_.toNat by omega] at h2
 have hp:(0:Int)<2 ^ (7*s.have_.toNat):=Int.pow_pos (by decide)
 rw[Int.fdiv_eq_ediv_of_nonneg _ (Int.le_of_lt hp)] at h2
 apply Int.not_le.1
 intro hle
 have:=Int.le_ediv_of_mul_le hp (show 1*2 ^ (7*s.have_.toNat)≤s.bits by rw[Int.one_mul];exact hle)
 omega
theorem Z7 {c:Int} {h:Int} (h0:0≤h) (h9:h≤9) (c0:0≤c) (c1:c≤127) (hc:h=9→c≤1):0≤c*2 ^ (7*h.toNat)∧c*2 ^ (7*h.toNat)+2 ^ (7*h.toNat)≤18446744073709551616:=by
 obtain ⟨k,rfl⟩:=Int.eq_ofNat_of_zero_le h0
 have hk:k≤9:=by omega
 rw[Int.toNat_natCast]
 rcases (show k=0∨k=1∨k=2∨k=3∨k=4∨k=5∨k=6∨k=7∨k=8∨k=9 by omega) with rfl|rfl|rfl|rfl|rfl|rfl|rfl|rfl|rfl|rfl<;>simp at * <;>omega
theorem Pk {c h:Int} (h0:0≤h) (h9:h≤9) (c0:0≤c) (c1:c≤127) (hc:h=9→c≤1):(.v (.c (.int .u64 (IntKind.u64.wrap (c*2 ^ min (Int.toNat (7*h)) 64)))):S)= .v (.c (.int .u64 (c*2 ^ (7*h.toNat)))):=by
 have:=Z7 h0 h9 c0 c1 hc
 have hp:(0:Int)<2 ^ (7*h.toNat):=Int.pow_pos (by decide)
 rw[show min (Int.toNat (7*h)) 64=7*h.toNat by omega]
 exact Dx (by omega) (by omega)
theorem Z8 {u c h:Int} (h0:0≤h) (h9:h≤9) (c0:0≤c) (c1:c≤127) (hc:h=9→c≤1) (u0:0≤u) (u1:u<2 ^ (7*h.toNat)):(.v (.c (.int .u64 (IntKind.u64.wrap (((BitVec.ofInt 64 u|||BitVec.ofInt 64 (c*2 ^ (7*h.toNat))).toNat:Nat):Int)))):S)= .v (.c (.int .u64 (u+c*2 ^ (7*h.toNat)))):=by
 have:=Z7 h0 h9 c0 c1 hc
 rw[Air (k:=7*h.toNat) (c:=c) u0 u1 c0 rfl (by omega)]
 exact Dx (by omega) (by omega)
theorem W8 {u c h:Int} (h0:0≤h) (h9:h≤9) (c0:0≤c) (c1:c≤127) (hc:h=9→c≤1) (u0:0≤u) (u1:u<2 ^ (7*h.toNat)):(.v (.c (.int .u64 (IntKind.u64.wrap (u+c*2 ^ (7*h.toNat))))):S)= .v (.c (.int .u64 (u+c*2 ^ (7*h.toNat)))):=by
 have:=Z7 h0 h9 c0 c1 hc
 exact Dx (by omega) (by omega)
theorem Qc {s:Scn} {b:Int} (h0:0≤s.bits) (h1:s.bits≤18446744073709551615):0≤(Ae s b).1.bits∧(Ae s b).1.bits≤18446744073709551615:=by
 unfold Ae
 split
 ·exact⟨h0,h1⟩
 ·rename_i h
  simp only[not_or] at h
  have hs:Cz s=true:=by simpa using h.1
  have hb:=Ap (show Ak b 0 255=true by simpa using h.2.1)
  have hk:=Rp hs h0
  have hc:=Z7 (c:=b % 128) hk.1 hk.2.1 (by omega) (by omega) (fun h9=>by have:=h.2.2;omega)
  simp only;omega
structure MW (d:Dcd):Prop where
 lv:A5 d=true
 kn:d.field=fld0∨H4 d.plan.shapes d.field=true
 b0:0≤d.scan.bits∧d.scan.bits≤18446744073709551615
 at_:0≤d.at_∧d.at_≤1000000001
 want: -1≤d.want∧d.want≤2001
theorem W9 {s:Scn} {b:Int} (h0:0≤s.bits∧s.bits≤18446744073709551615):0≤(Bk s b).bits∧(Bk s b).bits≤18446744073709551615:=by
 unfold Bk
 split
 ·simp only
  rw[IntKind.wrap_u64]
  have:=Int.emod_nonneg (s.bits+IntKind.u64.wrap (b*2 ^ min (Int.toNat (8*s.have_)) 64)) (show (18446744073709551616:Int)≠0 by decide)
  have:=Int.emod_lt_of_pos (s.bits+IntKind.u64.wrap (b*2 ^ min (Int.toNat (8*s.have_)) 64)) (show (0:Int)<18446744073709551616 by decide)
  omega
 ·exact h0
theorem MW.step {d:Dcd} (h:MW d) (hs:d.stack.length=0∨1≤Dm d) (ha:d.at_≤1000000000) (hw:(d.mode=6∨d.mode=7∨d.mode=8)→0≤d.want):MW (Br d):=by
 have hb:=Bs h.lv
 refine⟨?_,h.kn,h.b0,?_,?_⟩
 ·refine Gu (d:=Br d) hb.1 ?_ ?_
  ·show (((Br d).stack.length:Nat):Int)≤d.plan.deep
   unfold Br;simp only;split
   ·exact hb.2.1
   ·rw[List.length_set];exact hb.2.1
  ·intro l hl
   show E2 (d.plan.shapes.length:Int) l=true
   unfold Br at hl
   simp only at hl
   split at hl
   ·exact hb.2.2.2 l hl
   ·rename_i hn
    rcases List.mem_or_eq_of_mem_set hl with hl|hl
    ·exact hb.2.2.2 l hl
    ·have hx:=hb.2.2.2 _ (Pj hn)
     have ht:Dm d=(Gt d).left:=rfl
     simp only[E2,Bool.and_eq_true] at hx
     have h1:=Ap hx.1;have h2:=Ap hx.2
     subst hl;simp[E2,Ak];omega
 ·have:=h.at_;show 0≤d.at_+1∧d.at_+1≤1000000001;omega
 ·have:=h.want
  show-1≤(if d.mode=6∨d.mode=7∨d.mode=8 then d.want-1 else d.want)∧(if d.mode=6∨d.mode=7∨d.mode=8 then d.want-1 else d.want)≤2001
  split
  ·rename_i hm;have:=hw hm;omega
  ·exact this
theorem Fe (m:Mac) (u:Int):(Ba m u).out.length≤m.out.length+1:=by
 unfold Ba
 simp only
 split<;>simp
theorem Pm (m:Mac) (u:Int):(Ba m u).d.at_=m.d.at_:=rfl
theorem Lm (m:Mac) (u:Int):(Ba m u).d.want=m.d.want:=rfl
def Ab (j0:Nat) (j5:Nat) (j27:Nat) (x:Mac):List C:=[.own j0,.int .i64 x.d.plan.root,.int .i64 x.d.plan.deep,.int .i64 x.d.plan.most,.int .i64 x.d.mode,.own j5,.int .u64 x.d.scan.bits,.int .i64 x.d.scan.have_,.int .i64 x.d.start,.int .i64 x.d.at_,.int .i64 x.d.field.number,.int .i64 x.d.field.kind,.bool x.d.field.rep,.bool x.d.field.packed,.int .i64 x.d.field.msg,.int .i64 x.d.wire,.int .i64 x.d.want,.int .i64 x.d.utf.want,.int .i64 x.d.utf.low,.int .i64 x.d.utf.high,.int .i64 x.d.end_.kind,.int .i64 x.d.end_.field,.int .u64 x.d.end_.bits,.int .i64 x.d.end_.len,.str x.d.end_.text,.int .i64 x.d.end_.code,.int .i64 x.d.end_.at_,.own j27]
def E0 (p:Pln):Dcd:=if Cv p=true then ⟨p,1,[],⟨0,0⟩,0,0,⟨0,0,false,false,0⟩,0,0,⟨0,0,0⟩,⟨0,0,0,0,[],0,0⟩⟩ else ⟨⟨[],0,0,0⟩,0,[],⟨0,0⟩,0,0,⟨0,0,false,false,0⟩,0,0,⟨0,0,0⟩,⟨0,0,0,0,[],0,0⟩⟩
theorem Dp {l:List Shp} (h:Cc l=true): ∀e∈l,e.fields.length≤1048576:=fun e he=>by have:=Dr h e he;omega
theorem Xa {m:Mac} (h1:m.d.mode=6) (h2:m.d.want<1) (h3:0<m.d.utf.want):Ad m=As m 5 m.d.at_:=by
 have hc:Aq m=some (As m 5 m.d.at_):=by unfold Aq;rw[if_pos ⟨h1,h2⟩,if_pos h3]
 rw[Bu hc,Bv]
 unfold Aq As Au
 simp
theorem C2 {d:Dcd} {o:List Ev} (h2:d.mode=2) (hs:d.scan.have_=0) (hl:0<d.stack.length) (ht:Dm d=0) (h1:d.stack.length=1):Aq ⟨d,o⟩=some ⟨⟨d.plan,1,d.stack.take (d.stack.length-1),d.scan,d.start,d.at_,d.field,d.wire,d.want,d.utf,d.end_⟩,o++[Du]⟩:=by
 unfold Aq
 simp only
 rw[if_neg (by omega),if_neg (by omega),if_pos ⟨h2,hs,hl,ht⟩,if_pos h1]
theorem C3 {d:Dcd} {o:List Ev} (h2:d.mode=2) (hs:d.scan.have_=0) (hl:0<d.stack.length) (ht:Dm d=0) (h1:d.stack.length≠1):Aq ⟨d,o⟩=some ⟨⟨d.plan,d.mode,d.stack.take (d.stack.length-1),d.scan,d.start,d.at_,d.field,d.wire,d.want,d.utf,d.end_⟩,o++[Wg]⟩:=by
 unfold Aq
 simp only
 rw[if_neg (by omega),if_neg (by omega),if_pos ⟨h2,hs,hl,ht⟩,if_neg h1]
theorem Ade {d:Dcd} {o:List Ev} {u:Int} (h:d.mode=8) (hf:d.field≠fld0):Ba ⟨d,o⟩ u=⟨d,o++[Fp d.field u]⟩:=by
 cases d
 unfold Ba
 simp only at h hf ⊢
 rw[if_pos h,if_neg hf,h]
theorem Adf {d:Dcd} {o:List Ev} {u:Int} (h:d.mode=8) (hf:d.field=fld0):Ba ⟨d,o⟩ u=⟨d,o⟩:=by
 cases d
 unfold Ba
 simp only at h hf ⊢
 rw[if_pos h,if_pos hf,h]
theorem Ln {d:Dcd} (h:Be d=true):A5 d=true∧(1≤d.mode∧d.mode≤9)∧(0≤d.at_∧d.at_≤1000000000)∧(0≤d.start∧d.start≤d.at_)∧Ew d.utf=true∧C4 d.wire=true∧(d.field=fld0∨H4 d.plan.shapes d.field=true)∧N0 d=true∧H6 d=true∧Fk d=true∧Gq d=true∧H3 d=true:=by
 simp only[Be,Bool.and_eq_true,Bool.or_eq_true,decide_eq_true_eq] at h
 obtain ⟨⟨⟨⟨⟨⟨⟨⟨⟨⟨⟨h1,h2⟩,h3⟩,h4⟩,h5⟩,h6⟩,h7⟩,h8⟩,h9⟩,h10⟩,h11⟩,h12⟩:=h
 exact⟨h1,Ap h2,Ap h3,Ap h4,h5,h6,h7,h8,h9,h10,h11,h12⟩
theorem Vo {d:Dcd} (h:Fk d=true):((d.mode=6∨d.mode=7∨d.mode=8)→1≤d.want∧d.want≤Dm d)∧(¬(d.mode=6∨d.mode=7∨d.mode=8)→d.want=0):=by
 unfold Fk at h
 split at h
 ·rename_i hm;exact⟨fun _=>Ap h,fun h=>absurd hm h⟩
 ·rename_i hm;exact⟨fun h=>absurd h hm,fun _=>of_decide_eq_true h⟩
theorem Vp {d:Dcd} (h:Be d=true) (hb:0≤d.scan.bits∧d.scan.bits≤18446744073709551615):MW d:=by
 obtain ⟨h1,h2,h3,h4,h5,h6,h7,h8,h9,h10,h11,h12⟩:=Ln h
 have ht:=Gm h1
 have hw:=Vo h10
 refine⟨h1,h7,hb,by omega,?_⟩
 by_cases hm:d.mode=6∨d.mode=7∨d.mode=8
 ·have:=hw.1 hm;omega
 ·have:=hw.2 hm;omega
theorem Vq {d:Dcd} (h:Be d=true) (h9:d.mode≠9):(d.stack.length=0∨1≤Dm d)∧d.at_≤1000000000∧((d.mode=6∨d.mode=7∨d.mode=8)→0≤d.want)∧(d.mode=8→Q9 d.field=true)∧d.end_=ev0:=by
 obtain ⟨h1,h2,h3,h4,h5,h6,h7,h8,hs,h10,h11,h12⟩:=Ln h
 have hw:=Vo h10
 refine⟨?_,by omega,fun hm=>by have:=hw.1 hm;omega,fun hm=>?_,?_⟩
 ·unfold H6 at hs
  by_cases hm1:d.mode=1
  ·rw[if_pos hm1] at hs;left;rw[of_decide_eq_true hs];rfl
  ·rw[if_neg hm1,if_neg h9] at hs;exact .inr (of_decide_eq_true hs)
 ·unfold Gq at h11
  rw[if_neg (by omega),if_pos hm] at h11
  exact h11
 ·unfold N0 at h8
  rw[if_neg h9] at h8
  exact of_decide_eq_true h8
def En (d:Dcd):Bool:= !decide (d.mode=9)&&decide (d.at_<1000000000)
def B4 (d:Dcd) (b:Int):Mac:=if Be d=true∧En d=true∧Ak b 0 255=true then D6 ⟨d,[]⟩ b else ⟨d,[]⟩
theorem Ahj {f:Fld} (h:Q9 f=true):f≠fld0:=fun e=>by subst e;simp[Q9,fld0] at h
theorem Xb (m:Mac):(Ad m).d.plan=m.d.plan∧(Ad m).d.stack.length≤m.d.stack.length:=by
 suffices ∀(k:Nat) (m:Mac),wM m≤k→(Ad m).d.plan=m.d.plan∧(Ad m).d.stack.length≤m.d.stack.length from this _ m (Nat.le_refl _)
 intro k
 induction k with
 |zero=>
  intro m hk
  cases h:Aq m with
  |none=>rw[Bv h];exact⟨rfl,Nat.le_refl _⟩
  |some q=>have:=(Bg h).1;omega
 |succ k ih=>
  intro m hk
  cases h:Aq m with
  |none=>rw[Bv h];exact⟨rfl,Nat.le_refl _⟩
  |some q=>
   have h1:=Bg h
   have h2:=D8 h
   have h3:=ih q (by omega)
   rw[Bu h]
   exact⟨h3.1.trans h2.2,Nat.le_trans h3.2 h2.1⟩
structure Gr (m q:Mac):Prop where
 plan:q.d.plan=m.d.plan
 stack:q.d.stack.length≤m.d.stack.length+1
 out:q.out.length≤m.out.length+m.d.stack.length+6
theorem Gr.fail (m:Mac) (c a:Int):Gr m (As m c a):=⟨rfl,Nat.le_succ _,by simp only[As,List.length_append,List.length_cons,List.length_nil];omega⟩
theorem Gr.settle {m x:Mac} (hp:x.d.plan=m.d.plan) (hs:x.d.stack.length≤m.d.stack.length+1) (ho:x.out.length≤m.out.length+2):Gr m (Ad x):=by
 have h1:=Xb x
 have h2:=Su x
 have h3:=Acc x
 exact⟨h1.1.trans hp,by omega,by omega⟩
theorem Gr.of {m x q:Mac} (h:Gr x q) (hp:x.d.plan=m.d.plan) (hs:x.d.stack.length=m.d.stack.length) (ho:x.out.length=m.out.length):Gr m q:=⟨h.plan.trans hp,by have:=h.stack;omega,by have:=h.out;omega⟩
theorem Adg (m:Mac) (u:Int):Gr m (Cj m u):=by
 unfold Cj
 split
 ·exact Gr.fail _ _ _
 ·exact Gr.settle rfl (by simp) (by simp)
theorem Ahk (m:Mac) (u:Int):Gr m (D5 m u):=by
 unfold D5
 split
 ·exact Gr.fail _ _ _
 ·split
  ·exact Gr.fail _ _ _
  ·split
   ·exact Gr.fail _ _ _
   ·split
    ·exact(Gr.fail _ _ _).of rfl rfl rfl
    ·exact⟨rfl,Nat.le_succ _,by simp only;omega⟩
theorem Aff (m:Mac) (u:Int):Gr m (Cb m u):=by
 unfold Cb
 split
 ·exact Gr.fail _ _ _
 ·split
  ·exact Gr.settle rfl (Nat.le_succ _) (by simp)
  ·split
   ·split
    ·exact Gr.fail _ _ _
    ·exact Gr.settle rfl (by simp) (by simp)
   ·split
    ·exact Gr.settle rfl (Nat.le_succ _) (by simp)
    ·split
     ·exact Gr.fail _ _ _
     ·exact Gr.settle rfl (Nat.le_succ _) (by simp)
theorem Ahm (m:Mac) (b a:Int):Gr m (Bf m b a):=by
 unfold Bf
 split
 ·exact(Gr.fail _ _ _).of rfl rfl rfl
 ·split
  ·unfold T0
   split
   ·exact(Gr.fail _ _ _).of rfl rfl rfl
   ·exact⟨rfl,Nat.le_succ _,by simp only;omega⟩
  ·split
   ·exact(Adg _ _).of rfl rfl rfl
   ·split
    ·exact(Ahk _ _).of rfl rfl rfl
    ·split
     ·exact(Aff _ _).of rfl rfl rfl
     ·exact Gr.settle rfl (Nat.le_succ _) (Nat.le_trans (Fe _ _) (Nat.le_succ _))
theorem Ahn (m:Mac) (b:Int):Gr m (C8 m b):=by
 unfold C8
 split
 ·exact⟨rfl,Nat.le_succ _,by simp only;omega⟩
 ·split
  ·have:=Fe ⟨Hq m.d scn0,m.out⟩ (Bk m.d.scan b).bits
   exact⟨rfl,Nat.le_succ _,by simp only[As,List.length_append,List.length_cons,List.length_nil] at this ⊢;omega⟩
  ·exact Gr.settle rfl (Nat.le_succ _) (Nat.le_trans (Fe _ _) (Nat.le_succ _))
theorem Afg (m:Mac) (b:Int):Gr m (Eb m b):=by
 unfold Eb
 split
 ·split
  ·exact Gr.fail _ _ _
  ·exact Gr.settle rfl (Nat.le_succ _) (by simp)
 ·exact Gr.settle rfl (Nat.le_succ _) (by simp)
theorem J8 (d:Dcd):(Br d).stack.length=d.stack.length:=by unfold Br;simp only;split<;>simp
theorem Afh (m:Mac) (b:Int):Gr m (D6 m b):=by
 unfold D6
 split
 ·exact(Afg _ _).of rfl (J8 _) rfl
 ·split
  ·exact Gr.settle rfl (by show (Br m.d).stack.length≤_;rw[J8];omega) (by simp)
  ·split
   ·exact(Ahn _ _).of rfl (J8 _) rfl
   ·exact(Ahm _ _ _).of rfl (J8 _) rfl
theorem Vr (d:Dcd) (b:Int):Gr ⟨d,[]⟩ (B4 d b):=by
 unfold B4
 split
 ·exact Afh _ _
 ·exact⟨rfl,Nat.le_succ _,by simp⟩
theorem Aa8 {d:Dcd} {b:Int} :(B4 d b).d.plan=d.plan∧(B4 d b).d.stack.length≤d.stack.length+1:=⟨(Vr d b).plan,(Vr d b).stack⟩
theorem Adh {d:Dcd} {b:Int} :(B4 d b).out.length≤d.stack.length+6:=by have:=(Vr d b).out;simp only[List.length_nil] at this;omega
structure Rdr where
 data:List UInt8
 at_:Int
 script:List Rd
 next:Int
 code:Int
structure Strm where
 reader:Rdr
 dec:Dcd
 queue:List Ev
 reads:Int
def A3 (r:Rdr):Bool:=decide ((r.data.length:Int)≤4000)&&Ak r.at_ 0 (r.data.length:Int)&&decide ((r.script.length:Int)≤200)&&Ak r.next 0 (r.script.length:Int)&&(decide (r.code=0)||decide (r.code=1)||decide (20≤r.code))
theorem Et {a:Rdr} (h:A3 a=true):(a.data.length:Int)≤4000∧0≤a.at_∧a.at_≤(a.data.length:Int)∧(a.script.length:Int)≤200∧0≤a.next∧a.next≤(a.script.length:Int)∧(a.code=0∨a.code=1∨20≤a.code):=by
 simp only[A3,Ak,Bool.and_eq_true,Bool.or_eq_true,decide_eq_true_eq] at h
 omega
def Ds (n room left:Int):Int:=max (min (min n room) left) 0
theorem A4 (n room left:Int):0≤Ds n room left∧(0≤left→Ds n room left≤left)∧(1≤n→1≤room→1≤left→1≤Ds n room left):=by unfold Ds;omega
def Di (r:Rdr) (room:Int):Rd:=if r.next<(r.script.length:Int) then r.script.getD r.next.toNat ⟨0,0⟩ else ⟨room,1⟩
def J9 (r:Rdr):Int:=if r.next<(r.script.length:Int) then r.next+1 else r.next
def rsN (r:Rdr) (room:Int):Int:=Ds (Di r room).n room ((r.data.length:Int)-r.at_)
def K2 (r:Rdr) (room:Int):Int:=if 20≤(Di r room).code then (Di r room).code else if (Di r room).code=1∧r.at_+rsN r room=(r.data.length:Int) then 1 else r.code
def Ra (r:Rdr) (room:Int):Bool:= !A3 r||decide (room<1)|| !decide (r.code=0)
def A7 (r:Rdr) (room:Int):Rdr:=if Ra r room then r else ⟨r.data,r.at_+rsN r room,r.script,J9 r,K2 r room⟩
def A2 (r:Rdr) (room:Int):List UInt8:=if Ra r room then [] else List.drop r.at_.toNat (List.take (r.at_+rsN r room).toNat r.data)
def Bw (r:Rdr) (room:Int):Int:=if !A3 r||decide (room<1) then 1 else if !decide (r.code=0) then r.code else K2 r room
def Aiu:Rdr:=⟨[],0,[],0,0⟩
def E4 (data:List UInt8) (script:List Rd):Rdr:=if A3 ⟨data,0,script,0,0⟩=true then ⟨data,0,script,0,0⟩ else ⟨[],0,[],0,0⟩
def E1 (data:List UInt8) (script:List Rd):Bool:=A3 ⟨data,0,script,0,0⟩
def Aiv:Dcd:=⟨⟨[],0,0,0⟩,0,[],⟨0,0⟩,0,0,⟨0,0,false,false,0⟩,0,0,⟨0,0,0⟩,⟨0,0,0,0,[],0,0⟩⟩
def C9 (p:Pln) (data:List UInt8) (script:List Rd):Bool:=E1 data script&&Cv p
def Bn (p:Pln) (data:List UInt8) (script:List Rd):Strm:=if C9 p data script=true then ⟨E4 data script,E0 p,[],0⟩ else ⟨Aiu,Aiv,[],0⟩
def Q4 (x:Rdr):List C:=[.str x.data,.int .i64 x.at_,.seq .rd x.script,.int .i64 x.next,.int .i64 x.code]
def C5 (x:Strm):List C:=[.str x.reader.data,.int .i64 x.reader.at_,.seq .rd x.reader.script,.int .i64 x.reader.next,.int .i64 x.reader.code,.seq .shp x.dec.plan.shapes,.int .i64 x.dec.plan.root,.int .i64 x.dec.plan.deep,.int .i64 x.dec.plan.most,.int .i64 x.dec.mode,.seq .lev x.dec.stack,.int .u64 x.dec.scan.bits,.int .i64 x.dec.scan.have_,.int .i64 x.dec.start,.int .i64 x.dec.at_,.int .i64 x.dec.field.number,.int .i64 x.dec.field.kind,.bool x.dec.field.rep,.bool x.dec.field.packed,.int .i64 x.dec.field.msg,.int .i64 x.dec.wire,.int .i64 x.dec.want,.int .i64 x.dec.utf.want,.int .i64 x.dec.utf.low,.int .i64 x.dec.utf.high,.int .i64 x.dec.end_.kind,.int .i64 x.dec.end_.field,.int .u64 x.dec.end_.bits,.int .i64 x.dec.end_.len,.str x.dec.end_.text,.int .i64 x.dec.end_.code,.int .i64 x.dec.end_.at_,.seq .ev x.queue,.int .i64 x.reads]
def D9 (j2:Nat) (x:Rdr):List C:=[.str x.data,.int .i64 x.at_,.own j2,.int .i64 x.next,.int .i64 x.code]
def Az (j2:Nat) (j5:Nat) (j10:Nat) (x:Strm):List C:=[.str x.reader.data,.int .i64 x.reader.at_,.own j2,.int .i64 x.reader.next,.int .i64 x.reader.code,.own j5,.int .i64 x.dec.plan.root,.int .i64 x.dec.plan.deep,.int .i64 x.dec.plan.most,.int .i64 x.dec.mode,.own j10,.int .u64 x.dec.scan.bits,.int .i64 x.dec.scan.have_,.int .i64 x.dec.start,.int .i64 x.dec.at_,.int .i64 x.dec.field.number,.int .i64 x.dec.field.kind,.bool x.dec.field.rep,.bool x.dec.field.packed,.int .i64 x.dec.field.msg,.int .i64 x.dec.wire,.int .i64 x.dec.want,.int .i64 x.dec.utf.want,.int .i64 x.dec.utf.low,.int .i64 x.dec.utf.high,.int .i64 x.dec.end_.kind,.int .i64 x.dec.end_.field,.int .u64 x.dec.end_.bits,.int .i64 x.dec.end_.len,.str x.dec.end_.text,.int .i64 x.dec.end_.code,.int .i64 x.dec.end_.at_,.seq .ev x.queue,.int .i64 x.reads]
def An (j2:Nat) (j5:Nat) (j10:Nat) (j32:Nat) (x:Strm):List C:=[.str x.reader.data,.int .i64 x.reader.at_,.own j2,.int .i64 x.reader.next,.int .i64 x.reader.code,.own j5,.int .i64 x.dec.plan.root,.int .i64 x.dec.plan.deep,.int .i64 x.dec.plan.most,.int .i64 x.dec.mode,.own j10,.int .u64 x.dec.scan.bits,.int .i64 x.dec.scan.have_,.int .i64 x.dec.start,.int .i64 x.dec.at_,.int .i64 x.dec.field.number,.int .i64 x.dec.field.kind,.bool x.dec.field.rep,.bool x.dec.field.packed,.int .i64 x.dec.field.msg,.int .i64 x.dec.wire,.int .i64 x.dec.want,.int .i64 x.dec.utf.want,.int .i64 x.dec.utf.low,.int .i64 x.dec.utf.high,.int .i64 x.dec.end_.kind,.int .i64 x.dec.end_.field,.int .u64 x.dec.end_.bits,.int .i64 x.dec.end_.len,.str x.dec.end_.text,.int .i64 x.dec.end_.code,.int .i64 x.dec.end_.at_,.own j32,.int .i64 x.reads]
theorem B1 (n:Int) (lo:Int) (hi:Int):Fun Tryz.prog 173 [vI n,vI lo,vI hi] [] (.v (vB (Ak n lo hi))) []:=by
 have hN:bigN=274877906944:=rfl
 refine Af Tryz.func173 (by kernel_rfl) (by kernel_rfl) (w:=(.br (.leaf () []) (.leaf () []),((decide (lo≤n))=true→(.v (vB (decide (n≤hi))):S)= .v (vB (Ak n lo hi))∧([]:List Blk)=[])∧((decide (lo≤n))=false→(.v (vB false):S)= .v (vB (Ak n lo hi))∧([]:List Blk)=[]))) (by kernel_rfl) ?_
 refine dsp (fun h1 p1=>?_) fun h1 p1=>?_
 exact⟨(congrArg S.v (congrArg V.c (congrArg C.bool (by simp[Ak, *])))),rfl⟩
 exact⟨(congrArg S.v (congrArg V.c (congrArg C.bool (by simp[Ak, *])))),rfl⟩
theorem A8 (n:Int) (lo:Int) (hi:Int):Fun Tryz.prog 105 [vI n,vI lo,vI hi] [] (.v (vB (Ak n lo hi))) []:=by
 have hN:bigN=274877906944:=rfl
 refine Af Tryz.func105 (by kernel_rfl) (by kernel_rfl) (w:=(.br (.leaf () []) (.leaf () []),((decide (lo≤n))=true→(.v (vB (decide (n≤hi))):S)= .v (vB (Ak n lo hi))∧([]:List Blk)=[])∧((decide (lo≤n))=false→(.v (vB false):S)= .v (vB (Ak n lo hi))∧([]:List Blk)=[]))) (by kernel_rfl) ?_
 refine dsp (fun h1 p1=>?_) fun h1 p1=>?_
 exact⟨(congrArg S.v (congrArg V.c (congrArg C.bool (by simp[Ak, *])))),rfl⟩
 exact⟨(congrArg S.v (congrArg V.c (congrArg C.bool (by simp[Ak, *])))),rfl⟩
theorem Afi (a:Int) (b:Int):Fun Tryz.prog 182 [vI a,vI b] [] (.v (vI (min a b))) []:=by
 have hN:bigN=274877906944:=rfl
 refine Af Tryz.func182 (by kernel_rfl) (by kernel_rfl) (w:=(.br (.leaf () []) (.leaf () []),((decide (a<b))=true→(.v (vI a):S)= .v (vI (min a b))∧([]:List Blk)=[])∧((decide (a<b))=false→(.v (vI b):S)= .v (vI (min a b))∧([]:List Blk)=[]))) (by kernel_rfl) ?_
 refine dsp (fun h1 p1=>?_) fun h1 p1=>?_
 exact⟨(congrArg S.v (congrArg V.c (congrArg (C.int .i64) (by omega)))),rfl⟩
 exact⟨(congrArg S.v (congrArg V.c (congrArg (C.int .i64) (by omega)))),rfl⟩
theorem Aiw (a:Int) (b:Int):Fun Tryz.prog 53 [vI a,vI b] [] (.v (vI (max a b))) []:=by
 have hN:bigN=274877906944:=rfl
 refine Af Tryz.func53 (by kernel_rfl) (by kernel_rfl) (w:=(.br (.leaf () []) (.leaf () []),((decide (b<a))=true→(.v (vI a):S)= .v (vI (max a b))∧([]:List Blk)=[])∧((decide (b<a))=false→(.v (vI b):S)= .v (vI (max a b))∧([]:List Blk)=[]))) (by kernel_rfl) ?_
 refine dsp (fun h1 p1=>?_) fun h1 p1=>?_
 exact⟨(congrArg S.v (congrArg V.c (congrArg (C.int .i64) (by omega)))),rfl⟩
 exact⟨(congrArg S.v (congrArg V.c (congrArg (C.int .i64) (by omega)))),rfl⟩
theorem Aa9 (n:Int):Fun Tryz.prog 236 [vI n] [] (.v (vB (Ez n))) []:=by
 have hN:bigN=274877906944:=rfl
 refine Af Tryz.func236 (by kernel_rfl) (by kernel_rfl) (w:=let z1:=Ak n 1 536870911;let z2:=Ak n 19000 19999;(.seg [.call [] (.v (vB z1)) []] (.br (.seg [.call [] (.v (vB z2)) []] (.leaf () [])) (.leaf () [])),(Fun Tryz.prog 173 [vI n,vI 1,vI 536870911] [] (.v (vB z1)) [])∧(z1=true→(Fun Tryz.prog 173 [vI n,vI 19000,vI 19999] [] (.v (vB z2)) [])∧(.v (vB (!z2)):S)= .v (vB (Ez n))∧([]:List Blk)=[])∧(z1=false→(.v (vB false):S)= .v (vB (Ez n))∧([]:List Blk)=[]))) (by kernel_rfl) ?_
 refine⟨(B1 _ _ _),fun h1=>have p1:=Ap h1;?_,fun h1=>have p1:=Ay h1;?_⟩
 exact⟨(B1 _ _ _),(congrArg S.v (congrArg V.c (congrArg C.bool (by simp[Ez, *])))),rfl⟩
 exact⟨(congrArg S.v (congrArg V.c (congrArg C.bool (by simp[Ez, *])))),rfl⟩
theorem Aba (n:Int):Fun Tryz.prog 221 [vI n] [] (.v (vB (Ez n))) []:=by
 have hN:bigN=274877906944:=rfl
 refine Af Tryz.func221 (by kernel_rfl) (by kernel_rfl) (w:=let z1:=Ak n 1 536870911;let z2:=Ak n 19000 19999;(.seg [.call [] (.v (vB z1)) []] (.br (.seg [.call [] (.v (vB z2)) []] (.leaf () [])) (.leaf () [])),(Fun Tryz.prog 105 [vI n,vI 1,vI 536870911] [] (.v (vB z1)) [])∧(z1=true→(Fun Tryz.prog 105 [vI n,vI 19000,vI 19999] [] (.v (vB z2)) [])∧(.v (vB (!z2)):S)= .v (vB (Ez n))∧([]:List Blk)=[])∧(z1=false→(.v (vB false):S)= .v (vB (Ez n))∧([]:List Blk)=[]))) (by kernel_rfl) ?_
 refine⟨(A8 _ _ _),fun h1=>have p1:=Ap h1;?_,fun h1=>have p1:=Ay h1;?_⟩
 exact⟨(A8 _ _ _),(congrArg S.v (congrArg V.c (congrArg C.bool (by simp[Ez, *])))),rfl⟩
 exact⟨(congrArg S.v (congrArg V.c (congrArg C.bool (by simp[Ez, *])))),rfl⟩
theorem Z9 (w:Int):Fun Tryz.prog 176 [vI w] [] (.v (vB (C4 w))) []:=by
 have hN:bigN=274877906944:=rfl
 refine Af Tryz.func176 (by kernel_rfl) (by kernel_rfl) (w:=let z1:=vB (C4 w);let z2:=([]:List Blk);let z3:=(.v (vB true):S);(.br (.leaf () []) (.br (.leaf () []) (.br (.leaf () []) (.leaf () []))),((decide (w=0))=true→z3= .v z1∧z2=[])∧((decide (w=0))=false→((decide (w=1))=true→z3= .v z1∧z2=[])∧((decide (w=1))=false→((decide (w=2))=true→z3= .v z1∧z2=[])∧((decide (w=2))=false→(.v (vB (decide (w=5))):S)= .v z1∧z2=[]))))) (by kernel_rfl) ?_
 refine dsp (fun h1 p1=>?_) fun h1 p1=>?_
 exact⟨(congrArg S.v (congrArg V.c (congrArg C.bool (by simp[C4, *])))),rfl⟩
 refine dsp (fun h2 p2=>?_) fun h2 p2=>?_
 exact⟨(congrArg S.v (congrArg V.c (congrArg C.bool (by simp[C4, *])))),rfl⟩
 refine dsp (fun h3 p3=>?_) fun h3 p3=>?_
 exact⟨(congrArg S.v (congrArg V.c (congrArg C.bool (by simp[C4, *])))),rfl⟩
 exact⟨(congrArg S.v (congrArg V.c (congrArg C.bool (by simp[C4, *])))),rfl⟩
theorem Aaa (w:Int):Fun Tryz.prog 145 [vI w] [] (.v (vB (C4 w))) []:=by
 have hN:bigN=274877906944:=rfl
 refine Af Tryz.func145 (by kernel_rfl) (by kernel_rfl) (w:=let z1:=vB (C4 w);let z2:=([]:List Blk);let z3:=(.v (vB true):S);(.br (.leaf () []) (.br (.leaf () []) (.br (.leaf () []) (.leaf () []))),((decide (w=0))=true→z3= .v z1∧z2=[])∧((decide (w=0))=false→((decide (w=1))=true→z3= .v z1∧z2=[])∧((decide (w=1))=false→((decide (w=2))=true→z3= .v z1∧z2=[])∧((decide (w=2))=false→(.v (vB (decide (w=5))):S)= .v z1∧z2=[]))))) (by kernel_rfl) ?_
 refine dsp (fun h1 p1=>?_) fun h1 p1=>?_
 exact⟨(congrArg S.v (congrArg V.c (congrArg C.bool (by simp[C4, *])))),rfl⟩
 refine dsp (fun h2 p2=>?_) fun h2 p2=>?_
 exact⟨(congrArg S.v (congrArg V.c (congrArg C.bool (by simp[C4, *])))),rfl⟩
 refine dsp (fun h3 p3=>?_) fun h3 p3=>?_
 exact⟨(congrArg S.v (congrArg V.c (congrArg C.bool (by simp[C4, *])))),rfl⟩
 exact⟨(congrArg S.v (congrArg V.c (congrArg C.bool (by simp[C4, *])))),rfl⟩
theorem Aab (k:Int):Fun Tryz.prog 237 [vI k] [] (.v (vB (Ga k))) []:=by
 have hN:bigN=274877906944:=rfl
 refine Af Tryz.func237 (by kernel_rfl) (by kernel_rfl) (w:=let z1:=vB (Ak k 1 8);(.seg [.call [] (.v z1) []] (.leaf () []),(Fun Tryz.prog 173 [vI k,vI 1,vI 8] [] (.v z1) [])∧(.v z1:S)= .v (vB (Ga k))∧([]:List Blk)=[])) (by kernel_rfl) ?_
 exact⟨(B1 _ _ _),(congrArg S.v (congrArg V.c (congrArg C.bool (by rfl)))),rfl⟩
theorem Vs (k:Int):Fun Tryz.prog 191 [vI k] [] (.v (vB (Ga k))) []:=by
 have hN:bigN=274877906944:=rfl
 refine Af Tryz.func191 (by kernel_rfl) (by kernel_rfl) (w:=let z1:=vB (Ak k 1 8);(.seg [.call [] (.v z1) []] (.leaf () []),(Fun Tryz.prog 105 [vI k,vI 1,vI 8] [] (.v z1) [])∧(.v z1:S)= .v (vB (Ga k))∧([]:List Blk)=[])) (by kernel_rfl) ?_
 exact⟨(A8 _ _ _),(congrArg S.v (congrArg V.c (congrArg C.bool (by rfl)))),rfl⟩
theorem Xc (k:Int):Fun Tryz.prog 234 [vI k] [] (.v (vB (Gb k))) []:=by
 have hN:bigN=274877906944:=rfl
 refine Af Tryz.func234 (by kernel_rfl) (by kernel_rfl) (w:=let z1:=vB (Ak k 1 5);(.seg [.call [] (.v z1) []] (.leaf () []),(Fun Tryz.prog 173 [vI k,vI 1,vI 5] [] (.v z1) [])∧(.v z1:S)= .v (vB (Gb k))∧([]:List Blk)=[])) (by kernel_rfl) ?_
 exact⟨(B1 _ _ _),(congrArg S.v (congrArg V.c (congrArg C.bool (by rfl)))),rfl⟩
theorem Sv (k:Int):Fun Tryz.prog 192 [vI k] [] (.v (vB (Gb k))) []:=by
 have hN:bigN=274877906944:=rfl
 refine Af Tryz.func192 (by kernel_rfl) (by kernel_rfl) (w:=let z1:=vB (Ak k 1 5);(.seg [.call [] (.v z1) []] (.leaf () []),(Fun Tryz.prog 105 [vI k,vI 1,vI 5] [] (.v z1) [])∧(.v z1:S)= .v (vB (Gb k))∧([]:List Blk)=[])) (by kernel_rfl) ?_
 exact⟨(A8 _ _ _),(congrArg S.v (congrArg V.c (congrArg C.bool (by rfl)))),rfl⟩
theorem Vt (k:Int):Fun Tryz.prog 225 [vI k] [] (.v (vI (Cq k))) []:=by
 have hN:bigN=274877906944:=rfl
 refine Af Tryz.func225 (by kernel_rfl) (by kernel_rfl) (w:=let zi:Int→C:= .int .i64;let z1:=List.getD [0,0,0,5,1,2,2,2] (Int.toNat (k-1)) 0;(.seg [.call [] (.v (vB (Ga k))) []] (.br (.leaf () []) (.seg [.as 8 (.v (vI (k-1))),.ce (zi z1)] (.leaf () []))),(Fun Tryz.prog 237 [vI k] [] (.v (vB (Ga k))) [])∧((!(Ga k))=true→(.v (vI (-1)):S)= .v (vI (Cq k))∧([]:List Blk)=[])∧((!(Ga k))=false→((.v (vI (IntKind.i64.wrap (k-1))):S)= .v (vI (k-1)))∧((([zi 0,zi 0,zi 0,zi 5,zi 1,zi 2,zi 2,zi 2]:List C)[Int.toNat (k-1)]?)=some (zi z1))∧(k-1<((8:Nat):Int))∧((0:Int)≤k-1)∧(.v (vI z1):S)= .v (vI (Cq k))∧([]:List Blk)=[]))) (by kernel_rfl) ?_
 refine⟨(Aab _),fun h1=>have q1:=Am h1;have p1:=Ay q1;?_,fun h1=>have q1:=Aj h1;have p1:=Ap q1;?_⟩
 refine⟨(sI ?_),rfl⟩
 rotate_left
 refine⟨(Ah (by omega) (by omega)),(Aio (l:=[0,0,0,5,1,2,2,2]) (by simp;omega)),(by omega),(by omega),(sI ?_),rfl⟩
 rotate_left
 all_goals first|(simp[Cq, *];done)|(rcases (show k=1∨k=2∨k=3∨k=4∨k=5∨k=6∨k=7∨k=8 by omega) with rfl|rfl|rfl|rfl|rfl|rfl|rfl|rfl<;>rfl)
theorem Vu (k:Int):Fun Tryz.prog 154 [vI k] [] (.v (vI (Cq k))) []:=by
 have hN:bigN=274877906944:=rfl
 refine Af Tryz.func154 (by kernel_rfl) (by kernel_rfl) (w:=let z1:=vI (Cq k);let z2:=([]:List Blk);(.seg [.call [] (.v (vB (Ga k))) []] (.br (.leaf () []) (.br (.leaf () []) (.br (.leaf () []) (.seg [.call [] (.v (vB (Gb k))) []] (.br (.leaf () []) (.leaf () [])))))),(Fun Tryz.prog 191 [vI k] [] (.v (vB (Ga k))) [])∧((!(Ga k))=true→(.v (vI (-1)):S)= .v z1∧z2=[])∧((!(Ga k))=false→((decide (k=4))=true→(.v (vI 5):S)= .v z1∧z2=[])∧((decide (k=4))=false→((decide (k=5))=true→(.v (vI 1):S)= .v z1∧z2=[])∧((decide (k=5))=false→(Fun Tryz.prog 192 [vI k] [] (.v (vB (Gb k))) [])∧((Gb k)=true→(.v (vI 0):S)= .v z1∧z2=[])∧((Gb k)=false→(.v (vI 2):S)= .v z1∧z2=[])))))) (by kernel_rfl) ?_
 refine⟨(Vs _),fun h1=>have q1:=Am h1;have p1:=Ay q1;?_,fun h1=>have q1:=Aj h1;have p1:=Ap q1;?_⟩
 refine⟨(sI ?_),rfl⟩
 rotate_left
 refine dsp (fun h2 p2=>?_) fun h2 p2=>?_
 refine⟨(sI ?_),rfl⟩
 rotate_left
 refine dsp (fun h3 p3=>?_) fun h3 p3=>?_
 refine⟨(sI ?_),rfl⟩
 rotate_left
 refine⟨(Sv _),fun h4=>have p4:=Ap h4;?_,fun h4=>have p4:=Ay h4;?_⟩
 refine⟨(sI ?_),rfl⟩
 rotate_left
 refine⟨(sI ?_),rfl⟩
 rotate_left
 all_goals first|(simp[Cq, *]<;>(repeat' split)<;>omega)|(subst_vars;rfl)
theorem E5 (w:Int):Fun Tryz.prog 215 [vI w] [] (.v (vI (Aw w))) []:=by
 have hN:bigN=274877906944:=rfl
 refine Af Tryz.func215 (by kernel_rfl) (by kernel_rfl) (w:=(.br (.leaf () []) (.br (.leaf () []) (.leaf () [])),((decide (w=1))=true→(.v (vI 8):S)= .v (vI (Aw w))∧([]:List Blk)=[])∧((decide (w=1))=false→((decide (w=5))=true→(.v (vI 4):S)= .v (vI (Aw w))∧([]:List Blk)=[])∧((decide (w=5))=false→(.v (vI 0):S)= .v (vI (Aw w))∧([]:List Blk)=[])))) (by kernel_rfl) ?_
 refine dsp (fun h1 p1=>?_) fun h1 p1=>?_
 exact⟨(congrArg S.v (congrArg V.c (congrArg (C.int .i64) (by simp[Aw, *])))),rfl⟩
 refine dsp (fun h2 p2=>?_) fun h2 p2=>?_
 exact⟨(congrArg S.v (congrArg V.c (congrArg (C.int .i64) (by simp[Aw, *])))),rfl⟩
 exact⟨(congrArg S.v (congrArg V.c (congrArg (C.int .i64) (by simp[Aw, *])))),rfl⟩
theorem Gd (w:Int):Fun Tryz.prog 150 [vI w] [] (.v (vI (Aw w))) []:=by
 have hN:bigN=274877906944:=rfl
 refine Af Tryz.func150 (by kernel_rfl) (by kernel_rfl) (w:=(.br (.leaf () []) (.br (.leaf () []) (.leaf () [])),((decide (w=1))=true→(.v (vI 8):S)= .v (vI (Aw w))∧([]:List Blk)=[])∧((decide (w=1))=false→((decide (w=5))=true→(.v (vI 4):S)= .v (vI (Aw w))∧([]:List Blk)=[])∧((decide (w=5))=false→(.v (vI 0):S)= .v (vI (Aw w))∧([]:List Blk)=[])))) (by kernel_rfl) ?_
 refine dsp (fun h1 p1=>?_) fun h1 p1=>?_
 exact⟨(congrArg S.v (congrArg V.c (congrArg (C.int .i64) (by simp[Aw, *])))),rfl⟩
 refine dsp (fun h2 p2=>?_) fun h2 p2=>?_
 exact⟨(congrArg S.v (congrArg V.c (congrArg (C.int .i64) (by simp[Aw, *])))),rfl⟩
 exact⟨(congrArg S.v (congrArg V.c (congrArg (C.int .i64) (by simp[Aw, *])))),rfl⟩
theorem Adi (f:Fld):Fun Tryz.prog 213 [.agg (Fd f)] [] (.v (vB (Q9 f))) []:=by
 have hN:bigN=274877906944:=rfl
 refine Af Tryz.func213 (by kernel_rfl) (by kernel_rfl) (w:=let z1:=vB (Gb f.kind);(.br (.seg [.call [] (.v z1) []] (.leaf () [])) (.leaf () []),(f.rep=true→(Fun Tryz.prog 234 [vI f.kind] [] (.v z1) [])∧(.v z1:S)= .v (vB (Q9 f))∧([]:List Blk)=[])∧(f.rep=false→(.v (vB false):S)= .v (vB (Q9 f))∧([]:List Blk)=[]))) (by kernel_rfl) ?_
 refine⟨fun h1=>?_,fun h1=>?_⟩
 exact⟨(Xc _),(congrArg S.v (congrArg V.c (congrArg C.bool (by simp[Q9, *])))),rfl⟩
 exact⟨(congrArg S.v (congrArg V.c (congrArg C.bool (by simp[Q9, *])))),rfl⟩
theorem Uo (f:Fld):Fun Tryz.prog 152 [.agg (Fd f)] [] (.v (vB (Q9 f))) []:=by
 have hN:bigN=274877906944:=rfl
 refine Af Tryz.func152 (by kernel_rfl) (by kernel_rfl) (w:=let z1:=vB (Gb f.kind);(.br (.seg [.call [] (.v z1) []] (.leaf () [])) (.leaf () []),(f.rep=true→(Fun Tryz.prog 192 [vI f.kind] [] (.v z1) [])∧(.v z1:S)= .v (vB (Q9 f))∧([]:List Blk)=[])∧(f.rep=false→(.v (vB false):S)= .v (vB (Q9 f))∧([]:List Blk)=[]))) (by kernel_rfl) ?_
 refine⟨fun h1=>?_,fun h1=>?_⟩
 exact⟨(Sv _),(congrArg S.v (congrArg V.c (congrArg C.bool (by simp[Q9, *])))),rfl⟩
 exact⟨(congrArg S.v (congrArg V.c (congrArg C.bool (by simp[Q9, *])))),rfl⟩
theorem Ka (f:Fld) (w:Int) (hp1:(0:Int)≤w):Fun Tryz.prog 214 [.agg (Fd f),vI w] [] (.v (vB (Cx f w))) []:=by
 have hN:bigN=274877906944:=rfl
 refine Af Tryz.func214 (by kernel_rfl) (by kernel_rfl) (w:=let z1:=vB (Cx f w);(.seg [.call [] (.v (vI (Cq f.kind))) []] (.br (.leaf () []) (.br (.seg [.call [] (.v (vB (Q9 f))) []] (.leaf () [])) (.leaf () []))),(Fun Tryz.prog 225 [vI f.kind] [] (.v (vI (Cq f.kind))) [])∧((decide (w=Cq f.kind))=true→(.v (vB true):S)= .v z1∧([]:List Blk)=[])∧((decide (w=Cq f.kind))=false→((decide (w=2))=true→(Fun Tryz.prog 213 [.agg (Fd f)] [] (.v (vB (Q9 f))) [])∧(.v (vB (Q9 f)):S)= .v z1∧([]:List Blk)=[])∧((decide (w=2))=false→(.v (vB false):S)= .v z1∧([]:List Blk)=[])))) (by kernel_rfl) ?_
 refine⟨(Vt _),dsp (fun h1 p1=>?_) fun h1 p1=>?_⟩
 refine⟨(sB ?_),rfl⟩
 rotate_left
 refine dsp (fun h2 p2=>?_) fun h2 p2=>?_
 refine⟨(Adi f),(sB ?_),rfl⟩
 rotate_left
 refine⟨(sB ?_),rfl⟩
 rotate_left
 all_goals first|(simp[Cx, *]<;>(repeat' split)<;>omega)|(simp[Cx,Cq, *]<;>(repeat' split)<;>omega)
theorem Xd (f:Fld) (w:Int) (hp1:(0:Int)≤w):Fun Tryz.prog 151 [.agg (Fd f),vI w] [] (.v (vB (Cx f w))) []:=by
 have hN:bigN=274877906944:=rfl
 refine Af Tryz.func151 (by kernel_rfl) (by kernel_rfl) (w:=let z2:=vB (Q9 f);let z3:=vB (Cx f w);let z4:=Ga f.kind;let z5:=([]:List Blk);let z1:=(decide (w=2))=false→(.v (vB false):S)= .v z3∧z5=[];(.seg [.call [] (.v (vB z4)) []] (.br (.seg [.call [] (.v (vI (Cq f.kind))) []] (.br (.leaf () []) (.br (.seg [.call [] (.v z2) []] (.leaf () [])) (.leaf () [])))) (.br (.seg [.call [] (.v z2) []] (.leaf () [])) (.leaf () []))),(Fun Tryz.prog 191 [vI f.kind] [] (.v (vB z4)) [])∧(z4=true→(Fun Tryz.prog 154 [vI f.kind] [] (.v (vI (Cq f.kind))) [])∧((decide (w=Cq f.kind))=true→(.v (vB true):S)= .v z3∧z5=[])∧((decide (w=Cq f.kind))=false→((decide (w=2))=true→(Fun Tryz.prog 152 [.agg (Fd f)] [] (.v z2) [])∧(.v z2:S)= .v z3∧z5=[])∧z1))∧(z4=false→((decide (w=2))=true→(Fun Tryz.prog 152 [.agg (Fd f)] [] (.v z2) [])∧(.v z2:S)= .v z3∧z5=[])∧z1))) (by kernel_rfl) ?_
 refine⟨(Vs _),fun h1=>have p1:=Ap h1;?_,fun h1=>have p1:=Ay h1;?_⟩
 refine⟨(Vu _),dsp (fun h2 p2=>?_) fun h2 p2=>?_⟩
 refine⟨(sB ?_),rfl⟩
 rotate_left
 refine dsp (fun h3 p3=>?_) fun h3 p3=>?_
 refine⟨(Uo f),(sB ?_),rfl⟩
 rotate_left
 refine⟨(sB ?_),rfl⟩
 rotate_left
 refine dsp (fun h2 p2=>?_) fun h2 p2=>?_
 refine⟨(Uo f),(sB ?_),rfl⟩
 rotate_left
 refine⟨(sB ?_),rfl⟩
 rotate_left
 all_goals first|(simp[Cx, *]<;>(repeat' split)<;>omega)|(simp[Cx,Cq, *]<;>(repeat' split)<;>omega)
theorem Aho (u:Int) (hp1:(0:Int)≤u∧u≤18446744073709551615):Fun Tryz.prog 241 [.c (.int .u64 u)] [] (.tup [vI (Bp u),vI (Ag u),vB (J5 u)]) []:=by
 have hN:bigN=274877906944:=rfl
 refine Af Tryz.func241 (by kernel_rfl) (by kernel_rfl) (w:=let z1:List V:=[vI (Bp u),vI (Ag u),vB (J5 u)];let z2:=(.v (.c (.int .u64 (Int.fdiv u (2 ^ 3)))):S)= .v (.c (.int .u64 (u / 8)));let z3:=(.tup [vI 0,vI 0,vB false]:S);(.br (.leaf () []) (.seg [.as 9 (.v (.c (.int .u64 (u / 8))))] (.br (.leaf () []) (.seg [.as 13 (.v (.c (.int .u64 (u / 8)))),.as 14 (.v (vI (u / 8))),.as 16 (.v (.c (.int .u64 (u % 8)))),.as 17 (.v (vI (u % 8)))] (.leaf () [])))),((decide (u<8))=true→z3= .tup z1∧([]:List Blk)=[])∧((decide (u<8))=false→((0:Int)≤3)∧z2∧((decide (536870911<u / 8))=true→z3= .tup z1∧([]:List Blk)=[])∧((decide (536870911<u / 8))=false→((0:Int)≤3)∧z2∧((.v (vI (IntKind.i64.wrap (u / 8))):S)= .v (vI (u / 8)))∧((.v (.c (.int .u64 (IntKind.u64.wrap (((BitVec.ofInt 64 u&&&BitVec.ofInt 64 7).toNat:Nat))))):S)= .v (.c (.int .u64 (u % 8))))∧((.v (vI (IntKind.i64.wrap (u % 8))):S)= .v (vI (u % 8)))∧(.tup [vI (u / 8),vI (u % 8),vB true]:S)= .tup z1∧([]:List Blk)=[])))) (by kernel_rfl) ?_
 refine dsp (fun h1 p1=>?_) fun h1 p1=>?_
 refine⟨(congrArg S.tup (Aa (congrArg V.c (congrArg (C.int .i64) ?_)) (Aa (congrArg V.c (congrArg (C.int .i64) ?_)) (Aa (congrArg V.c (congrArg C.bool ?_)) rfl)))),rfl⟩
 rotate_left 3
 refine⟨(by decide),(Agv (k:=3) (by decide) (by decide)),dsp (fun h2 p2=>?_) fun h2 p2=>?_⟩
 refine⟨(congrArg S.tup (Aa (congrArg V.c (congrArg (C.int .i64) ?_)) (Aa (congrArg V.c (congrArg (C.int .i64) ?_)) (Aa (congrArg V.c (congrArg C.bool ?_)) rfl)))),rfl⟩
 rotate_left 3
 refine⟨(by decide),(Agv (k:=3) (by decide) (by decide)),(Ah (by omega) (by omega)),(Yc (k:=3) (by decide) (by decide)),(Ah (by omega) (by omega)),(congrArg S.tup (Aa (congrArg V.c (congrArg (C.int .i64) ?_)) (Aa (congrArg V.c (congrArg (C.int .i64) ?_)) (Aa (congrArg V.c (congrArg C.bool ?_)) rfl)))),rfl⟩
 rotate_left 3
 all_goals first|((have ht:J5 u=true:=by (simp[J5,Ak];omega));simp[Bp,Ag,ht])|((have ht:J5 u=false:=by (simp[J5,Ak];omega));simp[Bp,Ag,ht])
theorem Ahp (u:Int) (hp1:(0:Int)≤u∧u≤18446744073709551615):Fun Tryz.prog 195 [.c (.int .u64 u)] [] (.tup [vI (Bp u),vI (Ag u),vB (J5 u)]) []:=by
 have hN:bigN=274877906944:=rfl
 refine Af Tryz.func195 (by kernel_rfl) (by kernel_rfl) (w:=let z1:List V:=[vI (Bp u),vI (Ag u),vB (J5 u)];let z2:=(.tup [vI 0,vI 0,vB false]:S);(.br (.leaf () []) (.br (.leaf () []) (.seg [.as 12 (.v (.c (.int .u64 (u / 8)))),.as 13 (.v (vI (u / 8))),.as 15 (.v (.c (.int .u64 (u % 8)))),.as 16 (.v (vI (u % 8)))] (.leaf () []))),((decide (u<8))=true→z2= .tup z1∧([]:List Blk)=[])∧((decide (u<8))=false→((decide (4294967295<u))=true→z2= .tup z1∧([]:List Blk)=[])∧((decide (4294967295<u))=false→((8:Int)≠0)∧((.v (.c (.int .u64 (IntKind.u64.wrap (Int.tdiv u 8)))):S)= .v (.c (.int .u64 (u / 8))))∧((.v (vI (IntKind.i64.wrap (u / 8))):S)= .v (vI (u / 8)))∧((8:Int)≠0)∧((.v (.c (.int .u64 (Int.tmod u 8))):S)= .v (.c (.int .u64 (u % 8))))∧((.v (vI (IntKind.i64.wrap (u % 8))):S)= .v (vI (u % 8)))∧(.tup [vI (u / 8),vI (u % 8),vB true]:S)= .tup z1∧([]:List Blk)=[])))) (by kernel_rfl) ?_
 refine dsp (fun h1 p1=>?_) fun h1 p1=>?_
 refine⟨(congrArg S.tup (Aa (congrArg V.c (congrArg (C.int .i64) ?_)) (Aa (congrArg V.c (congrArg (C.int .i64) ?_)) (Aa (congrArg V.c (congrArg C.bool ?_)) rfl)))),rfl⟩
 rotate_left 3
 refine dsp (fun h2 p2=>?_) fun h2 p2=>?_
 refine⟨(congrArg S.tup (Aa (congrArg V.c (congrArg (C.int .i64) ?_)) (Aa (congrArg V.c (congrArg (C.int .i64) ?_)) (Aa (congrArg V.c (congrArg C.bool ?_)) rfl)))),rfl⟩
 rotate_left 3
 refine⟨(by decide),(Yg (by omega) (by omega) (by decide)),(Ah (by omega) (by omega)),(by decide),(Nv (by omega)),(Ah (by omega) (by omega)),(congrArg S.tup (Aa (congrArg V.c (congrArg (C.int .i64) ?_)) (Aa (congrArg V.c (congrArg (C.int .i64) ?_)) (Aa (congrArg V.c (congrArg C.bool ?_)) rfl)))),rfl⟩
 rotate_left 3
 all_goals first|((have ht:J5 u=true:=by (simp[J5,Ak];omega));simp[Bp,Ag,ht])|((have ht:J5 u=false:=by (simp[J5,Ak];omega));simp[Bp,Ag,ht])
theorem Adj (c:Int) (a:Int):Fun Tryz.prog 235 [vI c,vI a] [] (.v (.agg (cEv (Av c a)))) []:=by
 have hN:bigN=274877906944:=rfl
 refine Af Tryz.func235 (by kernel_rfl) (by kernel_rfl) (w:=(.leaf () [],(.v (.agg [.int .i64 10,.int .i64 0,.int .u64 0,.int .i64 0,.str [],.int .i64 c,.int .i64 a]):S)= .v (.agg (cEv (Av c a)))∧([]:List Blk)=[])) (by kernel_rfl) ?_
 have hm1:Av c a=(⟨10,0,0,0,[],c,a⟩:Ev):=by rfl
 exact⟨(congrArg S.v (congrArg V.agg (Aa (congrArg (C.int .i64) (by rfl)) (Aa (congrArg (C.int .i64) (by rfl)) (Aa (congrArg (C.int .u64) (by rfl)) (Aa (congrArg (C.int .i64) (by rfl)) (Aa (congrArg C.str (by rfl)) (Aa (congrArg (C.int .i64) (by rfl)) (Aa (congrArg (C.int .i64) (by rfl)) rfl))))))))),rfl⟩
theorem Adk (c:Int) (a:Int):Fun Tryz.prog 156 [vI c,vI a] [] (.v (.agg (cEv (Av c a)))) []:=by
 have hN:bigN=274877906944:=rfl
 refine Af Tryz.func156 (by kernel_rfl) (by kernel_rfl) (w:=(.leaf () [],(.v (.agg [.int .i64 10,.int .i64 0,.int .u64 0,.int .i64 0,.str [],.int .i64 c,.int .i64 a]):S)= .v (.agg (cEv (Av c a)))∧([]:List Blk)=[])) (by kernel_rfl) ?_
 have hm1:Av c a=(⟨10,0,0,0,[],c,a⟩:Ev):=by rfl
 exact⟨(congrArg S.v (congrArg V.agg (Aa (congrArg (C.int .i64) (by rfl)) (Aa (congrArg (C.int .i64) (by rfl)) (Aa (congrArg (C.int .u64) (by rfl)) (Aa (congrArg (C.int .i64) (by rfl)) (Aa (congrArg C.str (by rfl)) (Aa (congrArg (C.int .i64) (by rfl)) (Aa (congrArg (C.int .i64) (by rfl)) rfl))))))))),rfl⟩
theorem Up (f:Fld) (u:Int) (hp1:(0:Int)≤u):Fun Tryz.prog 240 [.agg (Fd f),.c (.int .u64 u)] [] (.v (.agg (cEv (Fp f u)))) []:=by
 have hN:bigN=274877906944:=rfl
 refine Af Tryz.func240 (by kernel_rfl) (by kernel_rfl) (w:=let zi:Int→C:= .int .i64;let z1:List C:=[zi 2,zi f.number,.int .u64 u,zi 0,.str [],zi 0,zi 0];(.br (.br (.leaf () []) (.leaf () [])) (.leaf () []),((decide (f.kind=3))=true→((!decide (u=0))=true→(.v (.agg [zi 2,zi f.number,.int .u64 1,zi 0,.str [],zi 0,zi 0]):S)= .v (.agg (cEv (Fp f u)))∧([]:List Blk)=[])∧((!decide (u=0))=false→(.v (.agg z1):S)= .v (.agg (cEv (Fp f u)))∧([]:List Blk)=[]))∧((decide (f.kind=3))=false→(.v (.agg z1):S)= .v (.agg (cEv (Fp f u)))∧([]:List Blk)=[]))) (by kernel_rfl) ?_
 refine dsp (fun h1 p1=>?_) fun h1 p1=>?_
 refine⟨fun h2=>have q2:=Am h2;have p2:=of_decide_eq_false q2;?_,fun h2=>have q2:=Aj h2;have p2:=of_decide_eq_true q2;?_⟩
 refine have hm1:Fp f u=(⟨2,f.number,1,0,[],0,0⟩:Ev):=?_;?_
 rotate_left
 refine⟨(congrArg S.v (congrArg V.agg (Aa (congrArg (C.int .i64) ?_) (Aa (congrArg (C.int .i64) ?_) (Aa (congrArg (C.int .u64) ?_) (Aa (congrArg (C.int .i64) ?_) (Aa (congrArg C.str ?_) (Aa (congrArg (C.int .i64) ?_) (Aa (congrArg (C.int .i64) ?_) rfl))))))))),rfl⟩
 rotate_left 7
 refine have hm1:Fp f u=(⟨2,f.number,u,0,[],0,0⟩:Ev):=?_;?_
 rotate_left
 refine⟨(congrArg S.v (congrArg V.agg (Aa (congrArg (C.int .i64) ?_) (Aa (congrArg (C.int .i64) ?_) (Aa (congrArg (C.int .u64) ?_) (Aa (congrArg (C.int .i64) ?_) (Aa (congrArg C.str ?_) (Aa (congrArg (C.int .i64) ?_) (Aa (congrArg (C.int .i64) ?_) rfl))))))))),rfl⟩
 rotate_left 7
 refine have hm1:Fp f u=(⟨2,f.number,u,0,[],0,0⟩:Ev):=?_;?_
 rotate_left
 refine⟨(congrArg S.v (congrArg V.agg (Aa (congrArg (C.int .i64) ?_) (Aa (congrArg (C.int .i64) ?_) (Aa (congrArg (C.int .u64) ?_) (Aa (congrArg (C.int .i64) ?_) (Aa (congrArg C.str ?_) (Aa (congrArg (C.int .i64) ?_) (Aa (congrArg (C.int .i64) ?_) rfl))))))))),rfl⟩
 rotate_left 7
 all_goals simp[Fp, *]<;>omega
theorem Qd (f:Fld) (u:Int) (hp1:(0:Int)≤u):Fun Tryz.prog 158 [.agg (Fd f),.c (.int .u64 u)] [] (.v (.agg (cEv (Fp f u)))) []:=by
 have hN:bigN=274877906944:=rfl
 refine Af Tryz.func158 (by kernel_rfl) (by kernel_rfl) (w:=let zi:Int→C:= .int .i64;let z1:List C:=[zi 2,zi f.number,.int .u64 u,zi 0,.str [],zi 0,zi 0];(.br (.br (.leaf () []) (.leaf () [])) (.leaf () []),((decide (f.kind=3))=true→((decide (1<u))=true→(.v (.agg [zi 2,zi f.number,.int .u64 1,zi 0,.str [],zi 0,zi 0]):S)= .v (.agg (cEv (Fp f u)))∧([]:List Blk)=[])∧((decide (1<u))=false→(.v (.agg z1):S)= .v (.agg (cEv (Fp f u)))∧([]:List Blk)=[]))∧((decide (f.kind=3))=false→(.v (.agg z1):S)= .v (.agg (cEv (Fp f u)))∧([]:List Blk)=[]))) (by kernel_rfl) ?_
 refine dsp (fun h1 p1=>?_) fun h1 p1=>?_
 refine dsp (fun h2 p2=>?_) fun h2 p2=>?_
 refine have hm1:Fp f u=(⟨2,f.number,1,0,[],0,0⟩:Ev):=?_;?_
 rotate_left
 refine⟨(congrArg S.v (congrArg V.agg (Aa (congrArg (C.int .i64) ?_) (Aa (congrArg (C.int .i64) ?_) (Aa (congrArg (C.int .u64) ?_) (Aa (congrArg (C.int .i64) ?_) (Aa (congrArg C.str ?_) (Aa (congrArg (C.int .i64) ?_) (Aa (congrArg (C.int .i64) ?_) rfl))))))))),rfl⟩
 rotate_left 7
 refine have hm1:Fp f u=(⟨2,f.number,u,0,[],0,0⟩:Ev):=?_;?_
 rotate_left
 refine⟨(congrArg S.v (congrArg V.agg (Aa (congrArg (C.int .i64) ?_) (Aa (congrArg (C.int .i64) ?_) (Aa (congrArg (C.int .u64) ?_) (Aa (congrArg (C.int .i64) ?_) (Aa (congrArg C.str ?_) (Aa (congrArg (C.int .i64) ?_) (Aa (congrArg (C.int .i64) ?_) rfl))))))))),rfl⟩
 rotate_left 7
 refine have hm1:Fp f u=(⟨2,f.number,u,0,[],0,0⟩:Ev):=?_;?_
 rotate_left
 refine⟨(congrArg S.v (congrArg V.agg (Aa (congrArg (C.int .i64) ?_) (Aa (congrArg (C.int .i64) ?_) (Aa (congrArg (C.int .u64) ?_) (Aa (congrArg (C.int .i64) ?_) (Aa (congrArg C.str ?_) (Aa (congrArg (C.int .i64) ?_) (Aa (congrArg (C.int .i64) ?_) rfl))))))))),rfl⟩
 rotate_left 7
 all_goals simp[Fp, *]<;>omega
theorem Adm (u:Utf):Fun Tryz.prog 175 [.agg (Lb u)] [] (.v (vB (Ew u))) []:=by
 have hN:bigN=274877906944:=rfl
 refine Af Tryz.func175 (by kernel_rfl) (by kernel_rfl) (w:=let z1:=decide (u.low=128)&&decide (u.high=191);let z2:=decide (u.want=2)&&(decide (u.low=160)&&decide (u.high=191));let z3:=decide (u.want=2)&&(decide (u.low=128)&&decide (u.high=159));let z4:=decide (u.want=3)&&(decide (u.low=144)&&decide (u.high=191));let z5:=decide (u.want=0)&&(decide (u.low=0)&&decide (u.high=0));let z6:=(.v (vB true):S);let z7:=([]:List Blk);let z8:=vB (Ew u);let z9:=decide (u.want=3)&&(decide (u.low=128)&&decide (u.high=143));let z10:=decide (u.want=1)&&z1;let z11:=decide (u.want=2)&&z1;let z12:=decide (u.want=3)&&z1;(.br (.seg [.br true] (.leaf () [])) (.br (.seg [.br true] (.leaf () [])) (.br (.seg [.br true] (.leaf () [])) (.br (.seg [.br true] (.leaf () [])) (.br (.seg [.br true] (.leaf () [])) (.br (.seg [.br true] (.leaf () [])) (.br (.seg [.br true] (.leaf () [])) (.br (.leaf () []) (.leaf () [])))))))),(z5=true→(z5=true)∧z6= .v z8∧z7=[])∧(z5=false→(z10=true→(z10=true)∧z6= .v z8∧z7=[])∧(z10=false→(z11=true→(z11=true)∧z6= .v z8∧z7=[])∧(z11=false→(z12=true→(z12=true)∧z6= .v z8∧z7=[])∧(z12=false→(z2=true→(z2=true)∧z6= .v z8∧z7=[])∧(z2=false→(z3=true→(z3=true)∧z6= .v z8∧z7=[])∧(z3=false→(z4=true→(z4=true)∧z6= .v z8∧z7=[])∧(z4=false→(z9=true→z6= .v z8∧z7=[])∧(z9=false→(.v (vB false):S)= .v z8∧z7=[])))))))))) (by kernel_rfl) ?_
 refine⟨fun h1=>have p1:=(Co dT (Co dT dT)).1 h1;?_,fun h1=>have p1:=(Cp dT (Cp dT dF)).1 h1;?_⟩
 refine⟨h1,(sB ?_),rfl⟩
 rotate_left
 refine⟨fun h2=>have p2:=(Co dT (Co dT dT)).1 h2;?_,fun h2=>have p2:=(Cp dT (Cp dT dF)).1 h2;?_⟩
 refine⟨h2,(sB ?_),rfl⟩
 rotate_left
 refine⟨fun h3=>have p3:=(Co dT (Co dT dT)).1 h3;?_,fun h3=>have p3:=(Cp dT (Cp dT dF)).1 h3;?_⟩
 refine⟨h3,(sB ?_),rfl⟩
 rotate_left
 refine⟨fun h4=>have p4:=(Co dT (Co dT dT)).1 h4;?_,fun h4=>have p4:=(Cp dT (Cp dT dF)).1 h4;?_⟩
 refine⟨h4,(sB ?_),rfl⟩
 rotate_left
 refine⟨fun h5=>have p5:=(Co dT (Co dT dT)).1 h5;?_,fun h5=>have p5:=(Cp dT (Cp dT dF)).1 h5;?_⟩
 refine⟨h5,(sB ?_),rfl⟩
 rotate_left
 refine⟨fun h6=>have p6:=(Co dT (Co dT dT)).1 h6;?_,fun h6=>have p6:=(Cp dT (Cp dT dF)).1 h6;?_⟩
 refine⟨h6,(sB ?_),rfl⟩
 rotate_left
 refine⟨fun h7=>have p7:=(Co dT (Co dT dT)).1 h7;?_,fun h7=>have p7:=(Cp dT (Cp dT dF)).1 h7;?_⟩
 refine⟨h7,(sB ?_),rfl⟩
 rotate_left
 refine⟨fun h8=>have p8:=(Co dT (Co dT dT)).1 h8;?_,fun h8=>have p8:=(Cp dT (Cp dT dF)).1 h8;?_⟩
 refine⟨(sB ?_),rfl⟩
 rotate_left
 refine⟨(sB ?_),rfl⟩
 rotate_left
 all_goals first|(rw[Bool.eq_iff_iff];simp[Ew,Md];omega)|(rw[Bool.eq_iff_iff];simp[Ew,Md,Ak];omega)|(simp_all[Ew,Md,Ak];done)
theorem Adn (u:Utf):Fun Tryz.prog 144 [.agg (Lb u)] [] (.v (vB (Ew u))) []:=by
 have hN:bigN=274877906944:=rfl
 refine Af Tryz.func144 (by kernel_rfl) (by kernel_rfl) (w:=let z1:=decide (u.low=128);let z2:=([]:List Blk);let z3:=vB (Ew u);let z4:=decide (u.high=191);let z5:=(.v (vB false):S);let z6:=decide (u.want=0)&&(decide (u.low=0)&&decide (u.high=0));let z7:=decide (u.low=160);let z8:=decide (u.low=144);let z9:=decide (u.want=2);let z10:=decide (u.want=3);let z11:=z4=true→(.v (vB true):S)= .v z3∧z2=[];let z12:=z4=false→(z1=false)∧z5= .v z3∧z2=[];let z13:=vB (Ak u.want 1 3);let z14:=(.v (vB (decide (u.high=159))):S);let z15:=(.v (vB (decide (u.high=143))):S);let z16:=z10=false→z5= .v z3∧z2=[];(.br (.leaf () []) (.br (.br (.seg [.call [] (.v z13) []] (.leaf () [])) (.br (.br (.seg [.br false,.br true] (.leaf () [])) (.seg [.br true] (.leaf () []))) (.br (.br (.seg [.br false,.br true] (.leaf () [])) (.seg [.br true] (.leaf () []))) (.leaf () [])))) (.br (.br (.br (.leaf () []) (.seg [.br false] (.leaf () []))) (.seg [.br false] (.leaf () []))) (.br (.br (.br (.leaf () []) (.seg [.br false] (.leaf () []))) (.seg [.br false] (.leaf () []))) (.leaf () [])))),(z6=true→(.v (vB true):S)= .v z3∧z2=[])∧(z6=false→(z1=true→(z4=true→(Fun Tryz.prog 105 [vI u.want,vI 1,vI 3] [] (.v z13) [])∧(.v z13:S)= .v z3∧z2=[])∧(z4=false→(z9=true→(z7=true→(z4=false)∧(z1=true)∧z14= .v z3∧z2=[])∧(z7=false→(z1=true)∧z14= .v z3∧z2=[]))∧(z9=false→(z10=true→(z8=true→(z4=false)∧(z1=true)∧z15= .v z3∧z2=[])∧(z8=false→(z1=true)∧z15= .v z3∧z2=[]))∧z16)))∧(z1=false→(z9=true→(z7=true→z11∧z12)∧(z7=false→(z1=false)∧z5= .v z3∧z2=[]))∧(z9=false→(z10=true→(z8=true→z11∧z12)∧(z8=false→(z1=false)∧z5= .v z3∧z2=[]))∧z16))))) (by kernel_rfl) ?_
 refine⟨fun h1=>have p1:=(Co dT (Co dT dT)).1 h1;?_,fun h1=>have p1:=(Cp dT (Cp dT dF)).1 h1;?_⟩
 refine⟨(sB ?_),rfl⟩
 rotate_left
 refine dsp (fun h2 p2=>?_) fun h2 p2=>?_
 refine dsp (fun h3 p3=>?_) fun h3 p3=>?_
 refine⟨(A8 _ _ _),(sB ?_),rfl⟩
 rotate_left
 refine dsp (fun h4 p4=>?_) fun h4 p4=>?_
 refine dsp (fun h5 p5=>?_) fun h5 p5=>?_
 refine⟨h3,h2,(sB ?_),rfl⟩
 rotate_left
 refine⟨h2,(sB ?_),rfl⟩
 rotate_left
 refine dsp (fun h5 p5=>?_) fun h5 p5=>?_
 refine dsp (fun h6 p6=>?_) fun h6 p6=>?_
 refine⟨h3,h2,(sB ?_),rfl⟩
 rotate_left
 refine⟨h2,(sB ?_),rfl⟩
 rotate_left
 refine⟨(sB ?_),rfl⟩
 rotate_left
 refine dsp (fun h3 p3=>?_) fun h3 p3=>?_
 refine dsp (fun h4 p4=>?_) fun h4 p4=>?_
 refine dsp (fun h5 p5=>?_) fun h5 p5=>?_
 refine⟨(sB ?_),rfl⟩
 rotate_left
 refine⟨h2,(sB ?_),rfl⟩
 rotate_left
 refine⟨h2,(sB ?_),rfl⟩
 rotate_left
 refine dsp (fun h4 p4=>?_) fun h4 p4=>?_
 refine dsp (fun h5 p5=>?_) fun h5 p5=>?_
 refine dsp (fun h6 p6=>?_) fun h6 p6=>?_
 refine⟨(sB ?_),rfl⟩
 rotate_left
 refine⟨h2,(sB ?_),rfl⟩
 rotate_left
 refine⟨h2,(sB ?_),rfl⟩
 rotate_left
 refine⟨(sB ?_),rfl⟩
 rotate_left
 all_goals first|(rw[Bool.eq_iff_iff];simp[Ew,Md];omega)|(rw[Bool.eq_iff_iff];simp[Ew,Md,Ak];omega)|(simp_all[Ew,Md,Ak];done)
theorem Abb (b:Int):Fun Tryz.prog 238 [vI b] [] (.tup [.agg (Lb ((A6 b).getD utf0)),vB (A6 b).isSome]) []:=by
 have hN:bigN=274877906944:=rfl
 refine Af Tryz.func238 (by kernel_rfl) (by kernel_rfl) (w:=let zi:Int→C:= .int .i64;let z2:=([]:List Blk);let z3:=A6 b;let z1:=Lb (z3.getD utf0);let z4:=decide (b=224);let z5:=decide (b=237);let z6:=decide (b=240);let z7:=decide (b=244);let z8:=Ak b 194 223;let z9:=Ak b 224 239;let z10:=Ak b 240 244;let z11:=Ak b 0 127;(.seg [.call [] (.v (vB z11)) []] (.br (.leaf () []) (.seg [.call [] (.v (vB z8)) []] (.br (.br (.leaf () []) (.br (.leaf () []) (.br (.leaf () []) (.br (.leaf () []) (.leaf () []))))) (.seg [.call [] (.v (vB z9)) []] (.br (.br (.leaf () []) (.br (.leaf () []) (.br (.leaf () []) (.br (.leaf () []) (.leaf () []))))) (.seg [.call [] (.v (vB z10)) []] (.br (.br (.leaf () []) (.br (.leaf () []) (.br (.leaf () []) (.br (.leaf () []) (.leaf () []))))) (.leaf () [])))))))),(Fun Tryz.prog 173 [vI b,vI 0,vI 127] [] (.v (vB z11)) [])∧(z11=true→(.tup [.agg [zi 0,zi 0,zi 0],vB true]:S)= .tup [.agg z1,vB z3.isSome]∧z2=[])∧(z11=false→(Fun Tryz.prog 173 [vI b,vI 194,vI 223] [] (.v (vB z8)) [])∧(z8=true→(z4=true→(.tup [.agg [zi 1,zi 160,zi 191],vB true]:S)= .tup [.agg z1,vB z3.isSome]∧z2=[])∧(z4=false→(z5=true→(.tup [.agg [zi 1,zi 128,zi 159],vB true]:S)= .tup [.agg z1,vB z3.isSome]∧z2=[])∧(z5=false→(z6=true→(.tup [.agg [zi 1,zi 144,zi 191],vB true]:S)= .tup [.agg z1,vB z3.isSome]∧z2=[])∧(z6=false→(z7=true→(.tup [.agg [zi 1,zi 128,zi 143],vB true]:S)= .tup [.agg z1,vB z3.isSome]∧z2=[])∧(z7=false→(.tup [.agg [zi 1,zi 128,zi 191],vB true]:S)= .tup [.agg z1,vB z3.isSome]∧z2=[])))))∧(z8=false→(Fun Tryz.prog 173 [vI b,vI 224,vI 239] [] (.v (vB z9)) [])∧(z9=true→(z4=true→(.tup [.agg [zi 2,zi 160,zi 191],vB true]:S)= .tup [.agg z1,vB z3.isSome]∧z2=[])∧(z4=false→(z5=true→(.tup [.agg [zi 2,zi 128,zi 159],vB true]:S)= .tup [.agg z1,vB z3.isSome]∧z2=[])∧(z5=false→(z6=true→(.tup [.agg [zi 2,zi 144,zi 191],vB true]:S)= .tup [.agg z1,vB z3.isSome]∧z2=[])∧(z6=false→(z7=true→(.tup [.agg [zi 2,zi 128,zi 143],vB true]:S)= .tup [.agg z1,vB z3.isSome]∧z2=[])∧(z7=false→(.tup [.agg [zi 2,zi 128,zi 191],vB true]:S)= .tup [.agg z1,vB z3.isSome]∧z2=[])))))∧(z9=false→(Fun Tryz.prog 173 [vI b,vI 240,vI 244] [] (.v (vB z10)) [])∧(z10=true→(z4=true→(.tup [.agg [zi 3,zi 160,zi 191],vB true]:S)= .tup [.agg z1,vB z3.isSome]∧z2=[])∧(z4=false→(z5=true→(.tup [.agg [zi 3,zi 128,zi 159],vB true]:S)= .tup [.agg z1,vB z3.isSome]∧z2=[])∧(z5=false→(z6=true→(.tup [.agg [zi 3,zi 144,zi 191],vB true]:S)= .tup [.agg z1,vB z3.isSome]∧z2=[])∧(z6=false→(z7=true→(.tup [.agg [zi 3,zi 128,zi 143],vB true]:S)= .tup [.agg z1,vB z3.isSome]∧z2=[])∧(z7=false→(.tup [.agg [zi 3,zi 128,zi 191],vB true]:S)= .tup [.agg z1,vB z3.isSome]∧z2=[])))))∧(z10=false→(.tup [.agg [zi 0,zi 0,zi 0],vB false]:S)= .tup [.agg z1,vB z3.isSome]∧z2=[])))))) (by kernel_rfl) ?_
 refine⟨(B1 _ _ _),fun h1=>have p1:=Ap h1;?_,fun h1=>have p1:=Ay h1;?_⟩
 refine have hm1:(A6 b).getD utf0=utf0:=?_;?_
 rotate_left
 refine⟨(congrArg S.tup (Aa (congrArg V.agg (Aa (congrArg (C.int .i64) ?_) (Aa (congrArg (C.int .i64) ?_) (Aa (congrArg (C.int .i64) ?_) rfl)))) (Aa (congrArg V.c (congrArg C.bool ?_)) rfl))),rfl⟩
 rotate_left 4
 refine⟨(B1 _ _ _),fun h2=>have p2:=Ap h2;?_,fun h2=>have p2:=Ay h2;?_⟩
 refine dsp (fun h3 p3=>?_) fun h3 p3=>?_
 refine have hm1:(A6 b).getD utf0=(⟨1,160,191⟩:Utf):=?_;?_
 rotate_left
 refine⟨(congrArg S.tup (Aa (congrArg V.agg (Aa (congrArg (C.int .i64) ?_) (Aa (congrArg (C.int .i64) ?_) (Aa (congrArg (C.int .i64) ?_) rfl)))) (Aa (congrArg V.c (congrArg C.bool ?_)) rfl))),rfl⟩
 rotate_left 4
 refine dsp (fun h4 p4=>?_) fun h4 p4=>?_
 refine have hm1:(A6 b).getD utf0=(⟨1,128,159⟩:Utf):=?_;?_
 rotate_left
 refine⟨(congrArg S.tup (Aa (congrArg V.agg (Aa (congrArg (C.int .i64) ?_) (Aa (congrArg (C.int .i64) ?_) (Aa (congrArg (C.int .i64) ?_) rfl)))) (Aa (congrArg V.c (congrArg C.bool ?_)) rfl))),rfl⟩
 rotate_left 4
 refine dsp (fun h5 p5=>?_) fun h5 p5=>?_
 refine have hm1:(A6 b).getD utf0=(⟨1,144,191⟩:Utf):=?_;?_
 rotate_left
 refine⟨(congrArg S.tup (Aa (congrArg V.agg (Aa (congrArg (C.int .i64) ?_) (Aa (congrArg (C.int .i64) ?_) (Aa (congrArg (C.int .i64) ?_) rfl)))) (Aa (congrArg V.c (congrArg C.bool ?_)) rfl))),rfl⟩
 rotate_left 4
 refine dsp (fun h6 p6=>?_) fun h6 p6=>?_
 refine have hm1:(A6 b).getD utf0=(⟨1,128,143⟩:Utf):=?_;?_
 rotate_left
 refine⟨(congrArg S.tup (Aa (congrArg V.agg (Aa (congrArg (C.int .i64) ?_) (Aa (congrArg (C.int .i64) ?_) (Aa (congrArg (C.int .i64) ?_) rfl)))) (Aa (congrArg V.c (congrArg C.bool ?_)) rfl))),rfl⟩
 rotate_left 4
 refine have hm1:(A6 b).getD utf0=(⟨1,128,191⟩:Utf):=?_;?_
 rotate_left
 refine⟨(congrArg S.tup (Aa (congrArg V.agg (Aa (congrArg (C.int .i64) ?_) (Aa (congrArg (C.int .i64) ?_) (Aa (congrArg (C.int .i64) ?_) rfl)))) (Aa (congrArg V.c (congrArg C.bool ?_)) rfl))),rfl⟩
 rotate_left 4
 refine⟨(B1 _ _ _),fun h3=>have p3:=Ap h3;?_,fun h3=>have p3:=Ay h3;?_⟩
 refine dsp (fun h4 p4=>?_) fun h4 p4=>?_
 refine have hm1:(A6 b).getD utf0=(⟨2,160,191⟩:Utf):=?_;?_
 rotate_left
 refine⟨(congrArg S.tup (Aa (congrArg V.agg (Aa (congrArg (C.int .i64) ?_) (Aa (congrArg (C.int .i64) ?_) (Aa (congrArg (C.int .i64) ?_) rfl)))) (Aa (congrArg V.c (congrArg C.bool ?_)) rfl))),rfl⟩
 rotate_left 4
 refine dsp (fun h5 p5=>?_) fun h5 p5=>?_
 refine have hm1:(A6 b).getD utf0=(⟨2,128,159⟩:Utf):=?_;?_
 rotate_left
 refine⟨(congrArg S.tup (Aa (congrArg V.agg (Aa (congrArg (C.int .i64) ?_) (Aa (congrArg (C.int .i64) ?_) (Aa (congrArg (C.int .i64) ?_) rfl)))) (Aa (congrArg V.c (congrArg C.bool ?_)) rfl))),rfl⟩
 rotate_left 4
 refine dsp (fun h6 p6=>?_) fun h6 p6=>?_
 refine have hm1:(A6 b).getD utf0=(⟨2,144,191⟩:Utf):=?_;?_
 rotate_left
 refine⟨(congrArg S.tup (Aa (congrArg V.agg (Aa (congrArg (C.int .i64) ?_) (Aa (congrArg (C.int .i64) ?_) (Aa (congrArg (C.int .i64) ?_) rfl)))) (Aa (congrArg V.c (congrArg C.bool ?_)) rfl))),rfl⟩
 rotate_left 4
 refine dsp (fun h7 p7=>?_) fun h7 p7=>?_
 refine have hm1:(A6 b).getD utf0=(⟨2,128,143⟩:Utf):=?_;?_
 rotate_left
 refine⟨(congrArg S.tup (Aa (congrArg V.agg (Aa (congrArg (C.int .i64) ?_) (Aa (congrArg (C.int .i64) ?_) (Aa (congrArg (C.int .i64) ?_) rfl)))) (Aa (congrArg V.c (congrArg C.bool ?_)) rfl))),rfl⟩
 rotate_left 4
 refine have hm1:(A6 b).getD utf0=(⟨2,128,191⟩:Utf):=?_;?_
 rotate_left
 refine⟨(congrArg S.tup (Aa (congrArg V.agg (Aa (congrArg (C.int .i64) ?_) (Aa (congrArg (C.int .i64) ?_) (Aa (congrArg (C.int .i64) ?_) rfl)))) (Aa (congrArg V.c (congrArg C.bool ?_)) rfl))),rfl⟩
 rotate_left 4
 refine⟨(B1 _ _ _),fun h4=>have p4:=Ap h4;?_,fun h4=>have p4:=Ay h4;?_⟩
 refine dsp (fun h5 p5=>?_) fun h5 p5=>?_
 refine have hm1:(A6 b).getD utf0=(⟨3,160,191⟩:Utf):=?_;?_
 rotate_left
 refine⟨(congrArg S.tup (Aa (congrArg V.agg (Aa (congrArg (C.int .i64) ?_) (Aa (congrArg (C.int .i64) ?_) (Aa (congrArg (C.int .i64) ?_) rfl)))) (Aa (congrArg V.c (congrArg C.bool ?_)) rfl))),rfl⟩
 rotate_left 4
 refine dsp (fun h6 p6=>?_) fun h6 p6=>?_
 refine have hm1:(A6 b).getD utf0=(⟨3,128,159⟩:Utf):=?_;?_
 rotate_left
 refine⟨(congrArg S.tup (Aa (congrArg V.agg (Aa (congrArg (C.int .i64) ?_) (Aa (congrArg (C.int .i64) ?_) (Aa (congrArg (C.int .i64) ?_) rfl)))) (Aa (congrArg V.c (congrArg C.bool ?_)) rfl))),rfl⟩
 rotate_left 4
 refine dsp (fun h7 p7=>?_) fun h7 p7=>?_
 refine have hm1:(A6 b).getD utf0=(⟨3,144,191⟩:Utf):=?_;?_
 rotate_left
 refine⟨(congrArg S.tup (Aa (congrArg V.agg (Aa (congrArg (C.int .i64) ?_) (Aa (congrArg (C.int .i64) ?_) (Aa (congrArg (C.int .i64) ?_) rfl)))) (Aa (congrArg V.c (congrArg C.bool ?_)) rfl))),rfl⟩
 rotate_left 4
 refine dsp (fun h8 p8=>?_) fun h8 p8=>?_
 refine have hm1:(A6 b).getD utf0=(⟨3,128,143⟩:Utf):=?_;?_
 rotate_left
 refine⟨(congrArg S.tup (Aa (congrArg V.agg (Aa (congrArg (C.int .i64) ?_) (Aa (congrArg (C.int .i64) ?_) (Aa (congrArg (C.int .i64) ?_) rfl)))) (Aa (congrArg V.c (congrArg C.bool ?_)) rfl))),rfl⟩
 rotate_left 4
 refine have hm1:(A6 b).getD utf0=(⟨3,128,191⟩:Utf):=?_;?_
 rotate_left
 refine⟨(congrArg S.tup (Aa (congrArg V.agg (Aa (congrArg (C.int .i64) ?_) (Aa (congrArg (C.int .i64) ?_) (Aa (congrArg (C.int .i64) ?_) rfl)))) (Aa (congrArg V.c (congrArg C.bool ?_)) rfl))),rfl⟩
 rotate_left 4
 refine have hm1:(A6 b).getD utf0=utf0:=?_;?_
 rotate_left
 refine⟨(congrArg S.tup (Aa (congrArg V.agg (Aa (congrArg (C.int .i64) ?_) (Aa (congrArg (C.int .i64) ?_) (Aa (congrArg (C.int .i64) ?_) rfl)))) (Aa (congrArg V.c (congrArg C.bool ?_)) rfl))),rfl⟩
 rotate_left 4
 all_goals first|(simp[A6,utf0, *];done)|(simp_all[A6,utf0,Ak];done)|(simp_all[A6,utf0,Ak];omega)
theorem Abc (b:Int):Fun Tryz.prog 155 [vI b] [] (.tup [.agg (Lb ((A6 b).getD utf0)),vB (A6 b).isSome]) []:=by
 have hN:bigN=274877906944:=rfl
 refine Af Tryz.func155 (by kernel_rfl) (by kernel_rfl) (w:=let zi:Int→C:= .int .i64;let z2:=([]:List Blk);let z3:=A6 b;let z1:=Lb (z3.getD utf0);let z4:=decide (b=224);let z5:=decide (b=237);let z6:=decide (b=240);let z7:=decide (b=244);let z8:=Ak b 194 223;let z9:=Ak b 224 239;let z10:=Ak b 240 244;let z11:=Ak b 0 127;(.seg [.call [] (.v (vB z11)) []] (.br (.leaf () []) (.seg [.call [] (.v (vB z8)) []] (.br (.br (.leaf () []) (.br (.leaf () []) (.br (.leaf () []) (.br (.leaf () []) (.leaf () []))))) (.seg [.call [] (.v (vB z9)) []] (.br (.br (.leaf () []) (.br (.leaf () []) (.br (.leaf () []) (.br (.leaf () []) (.leaf () []))))) (.seg [.call [] (.v (vB z10)) []] (.br (.br (.leaf () []) (.br (.leaf () []) (.br (.leaf () []) (.br (.leaf () []) (.leaf () []))))) (.leaf () [])))))))),(Fun Tryz.prog 105 [vI b,vI 0,vI 127] [] (.v (vB z11)) [])∧(z11=true→(.tup [.agg [zi 0,zi 0,zi 0],vB true]:S)= .tup [.agg z1,vB z3.isSome]∧z2=[])∧(z11=false→(Fun Tryz.prog 105 [vI b,vI 194,vI 223] [] (.v (vB z8)) [])∧(z8=true→(z4=true→(.tup [.agg [zi 1,zi 160,zi 191],vB true]:S)= .tup [.agg z1,vB z3.isSome]∧z2=[])∧(z4=false→(z5=true→(.tup [.agg [zi 1,zi 128,zi 159],vB true]:S)= .tup [.agg z1,vB z3.isSome]∧z2=[])∧(z5=false→(z6=true→(.tup [.agg [zi 1,zi 144,zi 191],vB true]:S)= .tup [.agg z1,vB z3.isSome]∧z2=[])∧(z6=false→(z7=true→(.tup [.agg [zi 1,zi 128,zi 143],vB true]:S)= .tup [.agg z1,vB z3.isSome]∧z2=[])∧(z7=false→(.tup [.agg [zi 1,zi 128,zi 191],vB true]:S)= .tup [.agg z1,vB z3.isSome]∧z2=[])))))∧(z8=false→(Fun Tryz.prog 105 [vI b,vI 224,vI 239] [] (.v (vB z9)) [])∧(z9=true→(z4=true→(.tup [.agg [zi 2,zi 160,zi 191],vB true]:S)= .tup [.agg z1,vB z3.isSome]∧z2=[])∧(z4=false→(z5=true→(.tup [.agg [zi 2,zi 128,zi 159],vB true]:S)= .tup [.agg z1,vB z3.isSome]∧z2=[])∧(z5=false→(z6=true→(.tup [.agg [zi 2,zi 144,zi 191],vB true]:S)= .tup [.agg z1,vB z3.isSome]∧z2=[])∧(z6=false→(z7=true→(.tup [.agg [zi 2,zi 128,zi 143],vB true]:S)= .tup [.agg z1,vB z3.isSome]∧z2=[])∧(z7=false→(.tup [.agg [zi 2,zi 128,zi 191],vB true]:S)= .tup [.agg z1,vB z3.isSome]∧z2=[])))))∧(z9=false→(Fun Tryz.prog 105 [vI b,vI 240,vI 244] [] (.v (vB z10)) [])∧(z10=true→(z4=true→(.tup [.agg [zi 3,zi 160,zi 191],vB true]:S)= .tup [.agg z1,vB z3.isSome]∧z2=[])∧(z4=false→(z5=true→(.tup [.agg [zi 3,zi 128,zi 159],vB true]:S)= .tup [.agg z1,vB z3.isSome]∧z2=[])∧(z5=false→(z6=true→(.tup [.agg [zi 3,zi 144,zi 191],vB true]:S)= .tup [.agg z1,vB z3.isSome]∧z2=[])∧(z6=false→(z7=true→(.tup [.agg [zi 3,zi 128,zi 143],vB true]:S)= .tup [.agg z1,vB z3.isSome]∧z2=[])∧(z7=false→(.tup [.agg [zi 3,zi 128,zi 191],vB true]:S)= .tup [.agg z1,vB z3.isSome]∧z2=[])))))∧(z10=false→(.tup [.agg [zi 0,zi 0,zi 0],vB false]:S)= .tup [.agg z1,vB z3.isSome]∧z2=[])))))) (by kernel_rfl) ?_
 refine⟨(A8 _ _ _),fun h1=>have p1:=Ap h1;?_,fun h1=>have p1:=Ay h1;?_⟩
 refine have hm1:(A6 b).getD utf0=utf0:=?_;?_
 rotate_left
 refine⟨(congrArg S.tup (Aa (congrArg V.agg (Aa (congrArg (C.int .i64) ?_) (Aa (congrArg (C.int .i64) ?_) (Aa (congrArg (C.int .i64) ?_) rfl)))) (Aa (congrArg V.c (congrArg C.bool ?_)) rfl))),rfl⟩
 rotate_left 4
 refine⟨(A8 _ _ _),fun h2=>have p2:=Ap h2;?_,fun h2=>have p2:=Ay h2;?_⟩
 refine dsp (fun h3 p3=>?_) fun h3 p3=>?_
 refine have hm1:(A6 b).getD utf0=(⟨1,160,191⟩:Utf):=?_;?_
 rotate_left
 refine⟨(congrArg S.tup (Aa (congrArg V.agg (Aa (congrArg (C.int .i64) ?_) (Aa (congrArg (C.int .i64) ?_) (Aa (congrArg (C.int .i64) ?_) rfl)))) (Aa (congrArg V.c (congrArg C.bool ?_)) rfl))),rfl⟩
 rotate_left 4
 refine dsp (fun h4 p4=>?_) fun h4 p4=>?_
 refine have hm1:(A6 b).getD utf0=(⟨1,128,159⟩:Utf):=?_;?_
 rotate_left
 refine⟨(congrArg S.tup (Aa (congrArg V.agg (Aa (congrArg (C.int .i64) ?_) (Aa (congrArg (C.int .i64) ?_) (Aa (congrArg (C.int .i64) ?_) rfl)))) (Aa (congrArg V.c (congrArg C.bool ?_)) rfl))),rfl⟩
 rotate_left 4
 refine dsp (fun h5 p5=>?_) fun h5 p5=>?_
 refine have hm1:(A6 b).getD utf0=(⟨1,144,191⟩:Utf):=?_;?_
 rotate_left
 refine⟨(congrArg S.tup (Aa (congrArg V.agg (Aa (congrArg (C.int .i64) ?_) (Aa (congrArg (C.int .i64) ?_) (Aa (congrArg (C.int .i64) ?_) rfl)))) (Aa (congrArg V.c (congrArg C.bool ?_)) rfl))),rfl⟩
 rotate_left 4
 refine dsp (fun h6 p6=>?_) fun h6 p6=>?_
 refine have hm1:(A6 b).getD utf0=(⟨1,128,143⟩:Utf):=?_;?_
 rotate_left
 refine⟨(congrArg S.tup (Aa (congrArg V.agg (Aa (congrArg (C.int .i64) ?_) (Aa (congrArg (C.int .i64) ?_) (Aa (congrArg (C.int .i64) ?_) rfl)))) (Aa (congrArg V.c (congrArg C.bool ?_)) rfl))),rfl⟩
 rotate_left 4
 refine have hm1:(A6 b).getD utf0=(⟨1,128,191⟩:Utf):=?_;?_
 rotate_left
 refine⟨(congrArg S.tup (Aa (congrArg V.agg (Aa (congrArg (C.int .i64) ?_) (Aa (congrArg (C.int .i64) ?_) (Aa (congrArg (C.int .i64) ?_) rfl)))) (Aa (congrArg V.c (congrArg C.bool ?_)) rfl))),rfl⟩
 rotate_left 4
 refine⟨(A8 _ _ _),fun h3=>have p3:=Ap h3;?_,fun h3=>have p3:=Ay h3;?_⟩
 refine dsp (fun h4 p4=>?_) fun h4 p4=>?_
 refine have hm1:(A6 b).getD utf0=(⟨2,160,191⟩:Utf):=?_;?_
 rotate_left
 refine⟨(congrArg S.tup (Aa (congrArg V.agg (Aa (congrArg (C.int .i64) ?_) (Aa (congrArg (C.int .i64) ?_) (Aa (congrArg (C.int .i64) ?_) rfl)))) (Aa (congrArg V.c (congrArg C.bool ?_)) rfl))),rfl⟩
 rotate_left 4
 refine dsp (fun h5 p5=>?_) fun h5 p5=>?_
 refine have hm1:(A6 b).getD utf0=(⟨2,128,159⟩:Utf):=?_;?_
 rotate_left
 refine⟨(congrArg S.tup (Aa (congrArg V.agg (Aa (congrArg (C.int .i64) ?_) (Aa (congrArg (C.int .i64) ?_) (Aa (congrArg (C.int .i64) ?_) rfl)))) (Aa (congrArg V.c (congrArg C.bool ?_)) rfl))),rfl⟩
 rotate_left 4
 refine dsp (fun h6 p6=>?_) fun h6 p6=>?_
 refine have hm1:(A6 b).getD utf0=(⟨2,144,191⟩:Utf):=?_;?_
 rotate_left
 refine⟨(congrArg S.tup (Aa (congrArg V.agg (Aa (congrArg (C.int .i64) ?_) (Aa (congrArg (C.int .i64) ?_) (Aa (congrArg (C.int .i64) ?_) rfl)))) (Aa (congrArg V.c (congrArg C.bool ?_)) rfl))),rfl⟩
 rotate_left 4
 refine dsp (fun h7 p7=>?_) fun h7 p7=>?_
 refine have hm1:(A6 b).getD utf0=(⟨2,128,143⟩:Utf):=?_;?_
 rotate_left
 refine⟨(congrArg S.tup (Aa (congrArg V.agg (Aa (congrArg (C.int .i64) ?_) (Aa (congrArg (C.int .i64) ?_) (Aa (congrArg (C.int .i64) ?_) rfl)))) (Aa (congrArg V.c (congrArg C.bool ?_)) rfl))),rfl⟩
 rotate_left 4
 refine have hm1:(A6 b).getD utf0=(⟨2,128,191⟩:Utf):=?_;?_
 rotate_left
 refine⟨(congrArg S.tup (Aa (congrArg V.agg (Aa (congrArg (C.int .i64) ?_) (Aa (congrArg (C.int .i64) ?_) (Aa (congrArg (C.int .i64) ?_) rfl)))) (Aa (congrArg V.c (congrArg C.bool ?_)) rfl))),rfl⟩
 rotate_left 4
 refine⟨(A8 _ _ _),fun h4=>have p4:=Ap h4;?_,fun h4=>have p4:=Ay h4;?_⟩
 refine dsp (fun h5 p5=>?_) fun h5 p5=>?_
 refine have hm1:(A6 b).getD utf0=(⟨3,160,191⟩:Utf):=?_;?_
 rotate_left
 refine⟨(congrArg S.tup (Aa (congrArg V.agg (Aa (congrArg (C.int .i64) ?_) (Aa (congrArg (C.int .i64) ?_) (Aa (congrArg (C.int .i64) ?_) rfl)))) (Aa (congrArg V.c (congrArg C.bool ?_)) rfl))),rfl⟩
 rotate_left 4
 refine dsp (fun h6 p6=>?_) fun h6 p6=>?_
 refine have hm1:(A6 b).getD utf0=(⟨3,128,159⟩:Utf):=?_;?_
 rotate_left
 refine⟨(congrArg S.tup (Aa (congrArg V.agg (Aa (congrArg (C.int .i64) ?_) (Aa (congrArg (C.int .i64) ?_) (Aa (congrArg (C.int .i64) ?_) rfl)))) (Aa (congrArg V.c (congrArg C.bool ?_)) rfl))),rfl⟩
 rotate_left 4
 refine dsp (fun h7 p7=>?_) fun h7 p7=>?_
 refine have hm1:(A6 b).getD utf0=(⟨3,144,191⟩:Utf):=?_;?_
 rotate_left
 refine⟨(congrArg S.tup (Aa (congrArg V.agg (Aa (congrArg (C.int .i64) ?_) (Aa (congrArg (C.int .i64) ?_) (Aa (congrArg (C.int .i64) ?_) rfl)))) (Aa (congrArg V.c (congrArg C.bool ?_)) rfl))),rfl⟩
 rotate_left 4
 refine dsp (fun h8 p8=>?_) fun h8 p8=>?_
 refine have hm1:(A6 b).getD utf0=(⟨3,128,143⟩:Utf):=?_;?_
 rotate_left
 refine⟨(congrArg S.tup (Aa (congrArg V.agg (Aa (congrArg (C.int .i64) ?_) (Aa (congrArg (C.int .i64) ?_) (Aa (congrArg (C.int .i64) ?_) rfl)))) (Aa (congrArg V.c (congrArg C.bool ?_)) rfl))),rfl⟩
 rotate_left 4
 refine have hm1:(A6 b).getD utf0=(⟨3,128,191⟩:Utf):=?_;?_
 rotate_left
 refine⟨(congrArg S.tup (Aa (congrArg V.agg (Aa (congrArg (C.int .i64) ?_) (Aa (congrArg (C.int .i64) ?_) (Aa (congrArg (C.int .i64) ?_) rfl)))) (Aa (congrArg V.c (congrArg C.bool ?_)) rfl))),rfl⟩
 rotate_left 4
 refine have hm1:(A6 b).getD utf0=utf0:=?_;?_
 rotate_left
 refine⟨(congrArg S.tup (Aa (congrArg V.agg (Aa (congrArg (C.int .i64) ?_) (Aa (congrArg (C.int .i64) ?_) (Aa (congrArg (C.int .i64) ?_) rfl)))) (Aa (congrArg V.c (congrArg C.bool ?_)) rfl))),rfl⟩
 rotate_left 4
 all_goals first|(simp[A6,utf0, *];done)|(simp_all[A6,utf0,Ak];done)|(simp_all[A6,utf0,Ak];omega)
theorem Ado (u:Utf) (b:Int):Fun Tryz.prog 223 [.agg (Lb u),vI b] [] (.tup [.agg (Lb ((Bx u b).getD u)),vB (Bx u b).isSome]) []:=by
 have hN:bigN=274877906944:=rfl
 refine Af Tryz.func223 (by kernel_rfl) (by kernel_rfl) (w:=let z2:=(.tup [.agg (Lb u),vB false]:S);let z3:=Ak b u.low u.high;let z4:=Bx u b;let z1:=Lb (z4.getD u);let z5:=([]:List Blk);let z7:=A6 b;let z6:=Lb (z7.getD utf0);(.seg [.call [] (.v (vB (Ew u))) []] (.br (.leaf () []) (.br (.seg [.call [] (.tup [.agg z6,vB z7.isSome]) []] (.br (.leaf () []) (.leaf () []))) (.seg [.call [] (.v (vB z3)) []] (.br (.leaf () []) (.br (.leaf () []) (.seg [.as 42 (.v (vI (u.want-1)))] (.leaf () []))))))),(Fun Tryz.prog 175 [.agg (Lb u)] [] (.v (vB (Ew u))) [])∧((!(Ew u))=true→z2= .tup [.agg z1,vB z4.isSome]∧z5=[])∧((!(Ew u))=false→((decide (u.want=0))=true→(Fun Tryz.prog 238 [vI b] [] (.tup [.agg z6,vB z7.isSome]) [])∧((!z7.isSome)=true→z2= .tup [.agg z1,vB z4.isSome]∧z5=[])∧((!z7.isSome)=false→(.tup [.agg z6,vB true]:S)= .tup [.agg z1,vB z4.isSome]∧z5=[]))∧((decide (u.want=0))=false→(Fun Tryz.prog 173 [vI b,vI u.low,vI u.high] [] (.v (vB z3)) [])∧((!z3)=true→z2= .tup [.agg z1,vB z4.isSome]∧z5=[])∧((!z3)=false→((decide (u.want=1))=true→(.tup [.agg [.int .i64 0,.int .i64 0,.int .i64 0],vB true]:S)= .tup [.agg z1,vB z4.isSome]∧z5=[])∧((decide (u.want=1))=false→((.v (vI (IntKind.i64.wrap (u.want-1))):S)= .v (vI (u.want-1)))∧(.tup [.agg [.int .i64 (u.want-1),.int .i64 128,.int .i64 191],vB true]:S)= .tup [.agg z1,vB z4.isSome]∧z5=[])))))) (by kernel_rfl) ?_
 refine⟨(Adm u),fun h1=>have q1:=Am h1;?_,fun h1=>have q1:=Aj h1;have p1:=Kz q1;?_⟩
 refine have hm1:(Bx u b).getD u=u:=?_;?_
 rotate_left
 refine⟨(congrArg S.tup (Aa (congrArg V.agg (Aa (congrArg (C.int .i64) ?_) (Aa (congrArg (C.int .i64) ?_) (Aa (congrArg (C.int .i64) ?_) rfl)))) (Aa (congrArg V.c (congrArg C.bool ?_)) rfl))),rfl⟩
 rotate_left 4
 refine dsp (fun h2 p2=>?_) fun h2 p2=>?_
 have hu:=Uk q1 p2
 refine⟨(Abb _),fun h3=>have q3:=Am h3;?_,fun h3=>have q3:=Aj h3;?_⟩
 refine have hm1:(Bx u b).getD u=u:=?_;?_
 rotate_left
 refine⟨(congrArg S.tup (Aa (congrArg V.agg (Aa (congrArg (C.int .i64) ?_) (Aa (congrArg (C.int .i64) ?_) (Aa (congrArg (C.int .i64) ?_) rfl)))) (Aa (congrArg V.c (congrArg C.bool ?_)) rfl))),rfl⟩
 rotate_left 4
 refine have hm1:(Bx u b).getD u=((A6 b).getD utf0):=?_;?_
 rotate_left
 refine⟨(congrArg S.tup (Aa (congrArg V.agg (Aa (congrArg (C.int .i64) ?_) (Aa (congrArg (C.int .i64) ?_) (Aa (congrArg (C.int .i64) ?_) rfl)))) (Aa (congrArg V.c (congrArg C.bool ?_)) rfl))),rfl⟩
 rotate_left 4
 refine⟨(B1 _ _ _),fun h3=>have q3:=Am h3;have p3:=Ay q3;?_,fun h3=>have q3:=Aj h3;have p3:=Ap q3;?_⟩
 refine have hm1:(Bx u b).getD u=u:=?_;?_
 rotate_left
 refine⟨(congrArg S.tup (Aa (congrArg V.agg (Aa (congrArg (C.int .i64) ?_) (Aa (congrArg (C.int .i64) ?_) (Aa (congrArg (C.int .i64) ?_) rfl)))) (Aa (congrArg V.c (congrArg C.bool ?_)) rfl))),rfl⟩
 rotate_left 4
 refine dsp (fun h4 p4=>?_) fun h4 p4=>?_
 refine have hm1:(Bx u b).getD u=utf0:=?_;?_
 rotate_left
 refine⟨(congrArg S.tup (Aa (congrArg V.agg (Aa (congrArg (C.int .i64) ?_) (Aa (congrArg (C.int .i64) ?_) (Aa (congrArg (C.int .i64) ?_) rfl)))) (Aa (congrArg V.c (congrArg C.bool ?_)) rfl))),rfl⟩
 rotate_left 4
 refine⟨(Ah (by omega) (by omega)),?_⟩
 refine have hm1:(Bx u b).getD u=(⟨u.want-1,128,191⟩:Utf):=?_;?_
 rotate_left
 refine⟨(congrArg S.tup (Aa (congrArg V.agg (Aa (congrArg (C.int .i64) ?_) (Aa (congrArg (C.int .i64) ?_) (Aa (congrArg (C.int .i64) ?_) rfl)))) (Aa (congrArg V.c (congrArg C.bool ?_)) rfl))),rfl⟩
 rotate_left 4
 all_goals first|(simp[Bx, *];done)|(simp[Bx,utf0, *];done)|(simp_all[Bx,utf0,Ak];done)|(simp_all[Bx,utf0,Ak];omega)
theorem Xe (u:Utf) (b:Int):Fun Tryz.prog 108 [.agg (Lb u),vI b] [] (.tup [.agg (Lb ((Bx u b).getD u)),vB (Bx u b).isSome]) []:=by
 have hN:bigN=274877906944:=rfl
 refine Af Tryz.func108 (by kernel_rfl) (by kernel_rfl) (w:=let z2:=Ak b u.low u.high;let z3:=Lb ((A6 b).getD utf0);let z4:=Bx u b;let z1:=Lb (z4.getD u);let z5:=([]:List Blk);let z6:=(.tup [.agg (Lb u),vB false]:S);(.seg [.call [] (.v (vB (Ew u))) []] (.br (.leaf () []) (.br (.seg [.call [] (.tup [.agg z3,vB (A6 b).isSome]) []] (.leaf () [])) (.seg [.call [] (.v (vB z2)) []] (.br (.leaf () []) (.br (.leaf () []) (.seg [.as 31 (.v (vI (u.want-1)))] (.leaf () []))))))),(Fun Tryz.prog 144 [.agg (Lb u)] [] (.v (vB (Ew u))) [])∧((!(Ew u))=true→z6= .tup [.agg z1,vB z4.isSome]∧z5=[])∧((!(Ew u))=false→((decide (u.want=0))=true→(Fun Tryz.prog 155 [vI b] [] (.tup [.agg z3,vB (A6 b).isSome]) [])∧(.tup [.agg z3,vB (A6 b).isSome]:S)= .tup [.agg z1,vB z4.isSome]∧z5=[])∧((decide (u.want=0))=false→(Fun Tryz.prog 105 [vI b,vI u.low,vI u.high] [] (.v (vB z2)) [])∧((!z2)=true→z6= .tup [.agg z1,vB z4.isSome]∧z5=[])∧((!z2)=false→((decide (u.want=1))=true→(.tup [.agg [.int .i64 0,.int .i64 0,.int .i64 0],vB true]:S)= .tup [.agg z1,vB z4.isSome]∧z5=[])∧((decide (u.want=1))=false→((.v (vI (IntKind.i64.wrap (u.want-1))):S)= .v (vI (u.want-1)))∧(.tup [.agg [.int .i64 (u.want-1),.int .i64 128,.int .i64 191],vB true]:S)= .tup [.agg z1,vB z4.isSome]∧z5=[])))))) (by kernel_rfl) ?_
 refine⟨(Adn u),fun h1=>have q1:=Am h1;?_,fun h1=>have q1:=Aj h1;have p1:=Kz q1;?_⟩
 refine have hm1:(Bx u b).getD u=u:=?_;?_
 rotate_left
 refine⟨(congrArg S.tup (Aa (congrArg V.agg (Aa (congrArg (C.int .i64) ?_) (Aa (congrArg (C.int .i64) ?_) (Aa (congrArg (C.int .i64) ?_) rfl)))) (Aa (congrArg V.c (congrArg C.bool ?_)) rfl))),rfl⟩
 rotate_left 4
 refine dsp (fun h2 p2=>?_) fun h2 p2=>?_
 have hu:=Uk q1 p2
 refine⟨(Abc _),?_⟩
 refine have hm1:(Bx u b).getD u=((A6 b).getD utf0):=?_;?_
 rotate_left
 refine⟨(congrArg S.tup (Aa (congrArg V.agg (Aa (congrArg (C.int .i64) ?_) (Aa (congrArg (C.int .i64) ?_) (Aa (congrArg (C.int .i64) ?_) rfl)))) (Aa (congrArg V.c (congrArg C.bool ?_)) rfl))),rfl⟩
 rotate_left 4
 refine⟨(A8 _ _ _),fun h3=>have q3:=Am h3;have p3:=Ay q3;?_,fun h3=>have q3:=Aj h3;have p3:=Ap q3;?_⟩
 refine have hm1:(Bx u b).getD u=u:=?_;?_
 rotate_left
 refine⟨(congrArg S.tup (Aa (congrArg V.agg (Aa (congrArg (C.int .i64) ?_) (Aa (congrArg (C.int .i64) ?_) (Aa (congrArg (C.int .i64) ?_) rfl)))) (Aa (congrArg V.c (congrArg C.bool ?_)) rfl))),rfl⟩
 rotate_left 4
 refine dsp (fun h4 p4=>?_) fun h4 p4=>?_
 refine have hm1:(Bx u b).getD u=utf0:=?_;?_
 rotate_left
 refine⟨(congrArg S.tup (Aa (congrArg V.agg (Aa (congrArg (C.int .i64) ?_) (Aa (congrArg (C.int .i64) ?_) (Aa (congrArg (C.int .i64) ?_) rfl)))) (Aa (congrArg V.c (congrArg C.bool ?_)) rfl))),rfl⟩
 rotate_left 4
 refine⟨(Ah (by omega) (by omega)),?_⟩
 refine have hm1:(Bx u b).getD u=(⟨u.want-1,128,191⟩:Utf):=?_;?_
 rotate_left
 refine⟨(congrArg S.tup (Aa (congrArg V.agg (Aa (congrArg (C.int .i64) ?_) (Aa (congrArg (C.int .i64) ?_) (Aa (congrArg (C.int .i64) ?_) rfl)))) (Aa (congrArg V.c (congrArg C.bool ?_)) rfl))),rfl⟩
 rotate_left 4
 all_goals first|(simp[Bx, *];done)|(simp[Bx,utf0, *];done)|(simp_all[Bx,utf0,Ak];done)|(simp_all[Bx,utf0,Ak];omega)
end Go.Proofs.YtpchkcpcdbdhdaaGreat.Ax
