/- Chunks. Chunks of an input. Chunks of an input. Models: readers, streams. Models: streams. Ends of decoders. Ends of an input. Decoders that are the same. Draws of numbers, bytes, scripts. Drawn descriptions: checks. What drawn descriptions compile to. Drawn descriptions. -/
import Derived.Test.YtphecbmdhbphgaaGreatKFnDecode4
import Derived.Test.YtphecbmdhbphgaaGreatKFnDecode5
import Derived.Test.YtphecbmdhbphgaaGreatKFnDecode1
import Derived.Test.YtphecbmdhbphgaaGreatKFnDecode2
set_option linter.unusedSimpArgs false
set_option linter.unusedVariables false
namespace Go.Proofs.YtphecbmdhbphgaaGreat.Ax
open Go.RowKit
theorem Asp (d:Dcd) (s:List UInt8) (hp1:List.length (d).pJ.sQ≤1048576) (hp2: ∀e∈(d).pJ.sQ,e.fJ.length≤1048576) (hp3:List.length (d).sJ≤1048576) (hp4:(0:Int)≤(d).sK.bits∧(d).sK.bits≤18446744073709551615) (hp5:s.length≤1048576):Fun Tryz.prog 20 [.agg (B9 d),vT s] [] (.tup [.agg (Af 0 1 (Df d s).d),vO 2]) [.tree (Df d s).d.pJ.sQ,.lst .lev (Df d s).d.sJ,.lst .ev (Df d s).oJ]:=by
 have hN:Bh=274877906944:=rfl
 have hfb:=Akt d s
 refine Ar Tryz.func20 Q4 Q4 (w:=let z1:=Cb ⟨d,[]⟩ s;let z2:S:= .tup [.agg (Af 0 1 z1.d),vO 2];(.sZ [.call [] z2 (Ls z1.d z1.oJ),.tree (.first 0 (.first 1 (.one 2 (.one 3 (.first 4 (.done)))))) 3 [],.call [] (.v (vO 0)) [.lst .ev (Ca z1.oJ)]] (.lJ () [2,3,6]),(Fp 48 [.agg (B9 d),vT s] [] z2 (Ls z1.d z1.oJ))∧(Fp 49 [.c (.seq .ev z1.oJ)] [] (.v (vO 0)) [.lst .ev (Ca z1.oJ)])∧Lf z2 (.tup [.agg (Af 0 1 (Df d s).d),vO 2]) (Ls z1.d (Ca z1.oJ)) (Ls (Df d s).d (Df d s).oJ))) Q4 ?_
 refine⟨(Akk d _ Q2 (hp2) Q2 Q2 Q2),(An8 _ Q2 Q2),?_⟩
 have hm1:(Df d s).d=(Cb ⟨d,[]⟩ s).d:=by rfl
 have hm2:(Df d s).oJ=Ca (Cb ⟨d,[]⟩ s).oJ:=by rfl
 exact⟨Q5,Q9⟩
theorem Ap6 (d:Dcd) (s:List UInt8) (hp1:List.length (d).pJ.sQ≤1048576) (hp2: ∀e∈(d).pJ.sQ,e.fJ.length≤1048576) (hp3:List.length (d).sJ≤1048576) (hp4:(0:Int)≤(d).sK.bits∧(d).sK.bits≤18446744073709551615) (hp5:s.length≤1048576):Fun Tryz.prog 90 [.agg (B9 d),vT s] [] (.tup [.agg (Af 0 1 (Df d s).d),vO 2]) [.tree (Df d s).d.pJ.sQ,.lst .lev (Df d s).d.sJ,.lst .ev (Df d s).oJ]:=by
 have hN:Bh=274877906944:=rfl
 have hfb:=Akt d s
 refine Ar Tryz.func90 Q4 Q4 (w:=let z1:=Cb ⟨d,[]⟩ s;let z2:S:= .tup [.agg (Af 0 1 z1.d),vO 2];(.sZ [.call [] z2 (Ls z1.d z1.oJ),.tree (.first 0 (.first 1 (.one 2 (.one 3 (.first 4 (.done)))))) 3 [],.call [] (.v (vO 0)) [.lst .ev (Ca z1.oJ)]] (.lJ () [2,3,6]),(Fp 155 [.agg (B9 d),vT s] [] z2 (Ls z1.d z1.oJ))∧(Fp 15 [.c (.seq .ev z1.oJ)] [] (.v (vO 0)) [.lst .ev (Ca z1.oJ)])∧Lf z2 (.tup [.agg (Af 0 1 (Df d s).d),vO 2]) (Ls z1.d (Ca z1.oJ)) (Ls (Df d s).d (Df d s).oJ))) Q4 ?_
 refine⟨(Ako d _ Q2 (hp2) Q2 Q2 Q2),(Ab4 _ Q2 Q2),?_⟩
 have hm1:(Df d s).d=(Cb ⟨d,[]⟩ s).d:=by rfl
 have hm2:(Df d s).oJ=Ca (Cb ⟨d,[]⟩ s).oJ:=by rfl
 exact⟨Q5,Q9⟩
def S6:List (List UInt8)→Nat
 |[]=>0
 |c::r=>c.length+S6 r
theorem Y0: ∀(l:List (List UInt8)) (i:Nat),S6 (l.drop i)≤S6 l
 |[],i=>by simp[S6]
 |e::r,0=>Nat.le_refl _
 |e::r,i+1=>by have:=Y0 r i;rw[List.drop_succ_cons,S6];omega
def Cc (m:Mac) (cs:List (List UInt8)):Mac:=cs.foldl (fun m c=>⟨(Df m.d c).d,m.oJ++(Df m.d c).oJ⟩) m
theorem Pz (m:Mac):Cc m []=m:=rfl
theorem Ht (m:Mac) (c:List UInt8) (r:List (List UInt8)):Cc m (c::r)=Cc ⟨(Df m.d c).d,m.oJ++(Df m.d c).oJ⟩ r:=List.foldl_cons ..
theorem Sg: ∀(cs:List (List UInt8)) (m:Mac),(Cc m cs).d.pJ=m.d.pJ∧((Cc m cs).d.sJ.length:Int)≤max (m.d.sJ.length:Int) 8∧(Cc m cs).oJ.length≤m.oJ.length+14*S6 cs∧((0≤m.d.sK.bits∧m.d.sK.bits≤18446744073709551615)→0≤(Cc m cs).d.sK.bits∧(Cc m cs).d.sK.bits≤18446744073709551615)
 |[],m=>⟨rfl,by show (m.d.sJ.length:Int)≤_;omega,Nat.le_refl _,fun h=>h⟩
 |c::r,m=>by
  have h1:=Yz m.d c
  have h2:=Sg r ⟨(Df m.d c).d,m.oJ++(Df m.d c).oJ⟩
  simp only[List.length_append] at h2
  rw[Ht,S6]
  exact⟨h2.1.trans h1.1,by omega,by omega,fun h=>h2.2.2.2 (h1.2.2.2 h)⟩
def Aoa (a:Int):Ev:=⟨9,0,0,0,[],0,a⟩
def Gh (d:Dcd):Bool:=Ce d&&decide (d.mJ=1)&&decide (d.sK.hJ=0)
def Kq (d:Dcd):Mac:=if Ce d=false∨d.mJ=9 then ⟨d,[]⟩ else if d.mJ=1∧d.sK.hJ=0 then ⟨⟨d.pJ,9,d.sJ,d.sK,d.sX,d.aJ,d.field,d.wJ,d.wK,d.uJ,Aoa d.aJ⟩,[Aoa d.aJ]⟩ else ⟨Ba d 10 d.aJ,[As 10 d.aJ]⟩
theorem Ab6 (d:Dcd):(Kq d).oJ.length≤1:=by unfold Kq;split;simp;split<;>simp
def Dt (p:Pln) (cs:List (List UInt8)):List Ev:=if B2 p=true then (Cc ⟨Bs p,[]⟩ cs).oJ++(Kq (Cc ⟨Bs p,[]⟩ cs).d).oJ else []
theorem Aez (p:Pln) (cs:List (List UInt8)):(Dt p cs).length≤14*S6 cs+1:=by
 unfold Dt
 split
 ·have h1:=(Sg cs ⟨Bs p,[]⟩).2.2.1
  have h2:=Ab6 (Cc ⟨Bs p,[]⟩ cs).d
  simp only[List.length_nil,List.length_append] at h1 ⊢
  omega
 ·simp
structure Mw where
 next:Dcd
 oJ:List Ev
 v:Nat
def Mx (d:Dcd) (l:List (List UInt8)):Fam:=⟨Mw,fun q1=>[(4,.v (vP 0)),(6,.v (vP 1)),(7,.v (vO 4)),(15,.v (.c (.seq .str l))),(16,.v (vI ((List.length l:Nat):Int))),(17,.v (vI ((q1.v:Nat):Int)))],fun q1=>[.cells [.nil,.int .i64 0,.int .i64 0,.int .i64 0,.int .i64 0,.nil,.int .u64 0,.int .i64 0,.int .i64 0,.int .i64 0,.int .i64 0,.int .i64 0,.bool false,.bool false,.int .i64 0,.int .i64 0,.int .i64 0,.int .i64 0,.int .i64 0,.int .i64 0,.int .i64 0,.int .i64 0,.int .u64 0,.int .i64 0,.str [],.int .i64 0,.int .i64 0],.cells (Af 2 3 q1.next),.tree q1.next.pJ.sQ,.lst .lev q1.next.sJ,.lst .ev q1.oJ],fun q1=>q1.v≤List.length l∧Cc ⟨q1.next,q1.oJ⟩ (List.drop q1.v l)=Cc ⟨d,[]⟩ l∧(q1.next).pJ=d.pJ∧List.length (q1.next).sJ≤1048576∧((0:Int)≤(q1.next).sK.bits∧(q1.next).sK.bits≤18446744073709551615)∧List.length q1.oJ+14*S6 (List.drop q1.v l)≤14*S6 l,fun q1=>List.length l-q1.v⟩
theorem Aku (d:Dcd) (l:List (List UInt8)) (hp1:List.length (d).pJ.sQ≤1048576) (hp2: ∀e∈(d).pJ.sQ,e.fJ.length≤1048576) (hp3:List.length (d).sJ≤1048576) (hp4:(0:Int)≤(d).sK.bits∧(d).sK.bits≤18446744073709551615) (hp5:l.length≤1048576) (hp6:S6 l≤1048576):Fun Tryz.prog 38 [.agg (B9 d),.c (.seq .str l)] [] (.tup [.agg (Af 0 1 (Cc ⟨d,[]⟩ l).d),vO 2]) [.tree (Cc ⟨d,[]⟩ l).d.pJ.sQ,.lst .lev (Cc ⟨d,[]⟩ l).d.sJ,.lst .ev (Cc ⟨d,[]⟩ l).oJ]:=by
 have hN:Bh=274877906944:=rfl
 refine Ar Tryz.func38 Q4 Q4 (w:=let zi:Int→C:= .int .i64;let z4:List C:=[.nil,zi 0,zi 0,zi 0,zi 0,.nil,.int .u64 0,zi 0,zi 0,zi 0,zi 0,zi 0,.bool false,.bool false,zi 0,zi 0,zi 0,zi 0,zi 0,zi 0,zi 0,zi 0,.int .u64 0,zi 0,.str [],zi 0,zi 0];let z5:=((l.length:Nat):Int);let z6:=Mx d l;let z7:=Cc ⟨d,[]⟩ l;(.sZ [.call [] (.v (.agg (Af 0 1 d))) (L2 d),.ty .ev,.at 0,.keep [4,6,7,15,16,17],.sel [1,5,2,3,4]] (.loop z6 fun q1=> .br (.intro (Sx (l[q1.v]?)) fun x1=>let z1:=Df q1.next x1;.sZ [.el .str x1,.call [] (.tup [.agg (Af 0 1 z1.d),vO 2]) (Ls z1.d z1.oJ),.tree (fr (.one 3 (.one 4 (.first 5 (.done)))) 0 3) 4 [4,7],.ty .ev,.as 31 (.v (vI (((q1.v:Nat):Int)+1))),.at 0,.keep [4,6,7,15,16,17],.sel [0,1,5,6,9]] (.next)) (.lJ () [2,3,4])),(Fp 50 [.agg (B9 d)] [] (.v (.agg (Af 0 1 d))) (L2 d))∧z6.Has [(4,.v (vP 0)),(6,.v (vP 1)),(7,.v (vO 4)),(15,.v (.c (.seq .str l))),(16,.v (vI z5)),(17,.v (vI 0))] [.cells z4,.cells (Af 2 3 d),.tree d.pJ.sQ,.lst .lev d.sJ,.lst .ev ([]:List Ev)]∧∀q1,z6.inv q1→(let z3:=((q1.v:Nat):Int);Bc (decide (z3<z5)) (El (l[q1.v]?) fun x1=>(let z2:=Df q1.next x1;(l[q1.v]? =some x1)∧((0:Int)≤z3)∧(Fp 20 [.agg (B9 q1.next),vT x1] [] (.tup [.agg (Af 0 1 z2.d),vO 2]) (Ls z2.d z2.oJ))∧(q1.oJ.length+z2.oJ.length≤Bh)∧(wI (z3+1))∧z6.Nxt q1 [(4,.v (vP 0)),(6,.v (vP 1)),(7,.v (vO 4)),(15,.v (.c (.seq .str l))),(16,.v (vI z5)),(17,.v (vI (z3+1)))] [.cells z4,.cells (Af 2 3 z2.d),.tree z2.d.pJ.sQ,.lst .lev z2.d.sJ,.lst .ev (q1.oJ++z2.oJ)])) (Lf (.tup [.agg (Af 0 1 q1.next),vO 2]) (.tup [.agg (Af 0 1 z7.d),vO 2]) (Ls q1.next q1.oJ) (Ls z7.d z7.oJ))))) Q4 ?_
 refine⟨(Yr d Q2 (Q63) Q2),Bp (j:=(⟨d,([]:List Ev),0⟩:Mw)) Q8 rfl (by dsimp only[Mx];exact⟨by omega,rfl,rfl,hp3,hp4,by simp⟩),fun (q1:Mw) hq_q1=>?_⟩
 have hi_q1:q1.v≤l.length∧Cc ⟨q1.next,q1.oJ⟩ (List.drop q1.v l)=Cc ⟨d,[]⟩ l∧(q1.next).pJ=d.pJ∧List.length (q1.next).sJ≤1048576∧((0:Int)≤(q1.next).sK.bits∧(q1.next).sK.bits≤18446744073709551615)∧q1.oJ.length+14*S6 (List.drop q1.v l)≤14*S6 l:=hq_q1
 obtain ⟨v1,v2,v3,v4,v5,v6⟩:=hi_q1
 have hsl:q1.next.pJ.sQ.length=d.pJ.sQ.length:=by rw[v3]
 have hsf: ∀e∈q1.next.pJ.sQ,e.fJ.length≤1048576:=by rw[v3];exact hp2
 have hbd:=Y0 l q1.v
 refine dsp (fun h1 p1=>?_) fun h1 p1=>?_
 refine⟨(Bo (l:=l) (i:=q1.v) Q2),fun x1 hx1=>?_⟩
 rw[C3 hx1,Ht] at v2
 have hdb:S6 (List.drop q1.v l)=x1.length+S6 (List.drop (q1.v+1) l):=by rw[C3 hx1,S6]
 have hl:=Yz q1.next x1
 exact⟨hx1,Q2,(Asp q1.next _ Q2 (Q63) Q2 Q2 Q2),Q2,(Ad Q2 Q2),A6 (j:=(⟨(Df q1.next x1).d,q1.oJ++(Df q1.next x1).oJ,q1.v+1⟩:Mw)) Q8 rfl (by dsimp only[Mx];exact⟨by omega,v2,hl.1.trans v3,by omega,hl.2.2.2 v5,by rw[List.length_append];omega⟩) (by dsimp only[Mx];omega)⟩
 rw[List.drop_eq_nil_of_le (by omega),Pz] at v2
 exact zD ((Cc ⟨d,[]⟩ l).d) q1.next ((Cc ⟨d,[]⟩ l).oJ) q1.oJ (fun hm1 hm2=>⟨Q5,Q9⟩) W48 W48
structure My where
 d:Dcd
 oJ:List Ev
 i:Nat
def Mz (d:Dcd) (l:List (List UInt8)):Fam:=⟨My,fun q1=>[(1,.v (.c (.seq .str l))),(2,.v (vP 0)),(4,.v (vP 3)),(6,.v (vO 4)),(7,.v (vI ((q1.i:Nat):Int)))],fun q1=>[.cells (Af 1 2 q1.d),.tree q1.d.pJ.sQ,.lst .lev q1.d.sJ,.cells [.nil,.int .i64 0,.int .i64 0,.int .i64 0,.int .i64 0,.nil,.int .u64 0,.int .i64 0,.int .i64 0,.int .i64 0,.int .i64 0,.int .i64 0,.bool false,.bool false,.int .i64 0,.int .i64 0,.int .i64 0,.int .i64 0,.int .i64 0,.int .i64 0,.int .i64 0,.int .i64 0,.int .u64 0,.int .i64 0,.str [],.int .i64 0,.int .i64 0],.lst .ev q1.oJ],fun q1=>q1.i≤List.length l∧Cc ⟨q1.d,q1.oJ⟩ (List.drop q1.i l)=Cc ⟨d,[]⟩ l∧(q1.d).pJ=d.pJ∧List.length (q1.d).sJ≤1048576∧((0:Int)≤(q1.d).sK.bits∧(q1.d).sK.bits≤18446744073709551615)∧List.length q1.oJ+14*S6 (List.drop q1.i l)≤14*S6 l,fun q1=>List.length l-q1.i⟩
theorem Akv (d:Dcd) (l:List (List UInt8)) (hp1:List.length (d).pJ.sQ≤1048576) (hp2: ∀e∈(d).pJ.sQ,e.fJ.length≤1048576) (hp3:List.length (d).sJ≤1048576) (hp4:(0:Int)≤(d).sK.bits∧(d).sK.bits≤18446744073709551615) (hp5:l.length≤1048576) (hp6:S6 l≤1048576):Fun Tryz.prog 41 [.agg (B9 d),.c (.seq .str l)] [] (.tup [.agg (Af 0 1 (Cc ⟨d,[]⟩ l).d),vO 2]) [.tree (Cc ⟨d,[]⟩ l).d.pJ.sQ,.lst .lev (Cc ⟨d,[]⟩ l).d.sJ,.lst .ev (Cc ⟨d,[]⟩ l).oJ]:=by
 have hN:Bh=274877906944:=rfl
 refine Ar Tryz.func41 Q4 Q4 (w:=let zi:Int→C:= .int .i64;let z5:List C:=[.nil,zi 0,zi 0,zi 0,zi 0,.nil,.int .u64 0,zi 0,zi 0,zi 0,zi 0,zi 0,.bool false,.bool false,zi 0,zi 0,zi 0,zi 0,zi 0,zi 0,zi 0,zi 0,.int .u64 0,zi 0,.str [],zi 0,zi 0];let z6:=Mz d l;let z7:=Cc ⟨d,[]⟩ l;(.sZ [.call [] (.v (.agg (Af 0 1 d))) (L2 d),.ty .ev,.at 0,.keep [1,2,4,6,7],.sel [0,2,3,1,4]] (.loop z6 fun q1=> .br (.intro (Sx (l[q1.i]?)) fun x1=>let z1:=Df q1.d x1;.sZ [.tree (fr (.two 5 (fr (.one 9 (.one 10 (.first 11 (.done)))) 6 3) 9 (.one 5 (fr (.one 10 (.first 11 (.done))) 6 3))) 0 5) 12 [],.el .str x1,.call [] (.tup [.agg (Af 0 1 z1.d),vO 2]) (Ls z1.d z1.oJ),.at 0,.keep [1,2,4,6,7,8,9],.sel [0,1,2,3,4,8,5,6,7],.call [] (.tup [.agg (Af 0 1 z1.d),vO 2]) (Ls z1.d z1.oJ),.at 0,.keep [1,2,4,6,7,8,9],.sel [0,1,2,3,4,5,6,7,8],.ty .ev,.as 18 (.v (vI (((q1.i:Nat):Int)+1))),.at 0,.keep [1,2,4,6,7],.sel [0,6,7,3,9]] (.next)) (.lJ () [1,2,4])),(Fp 59 [.agg (B9 d)] [] (.v (.agg (Af 0 1 d))) (L2 d))∧z6.Has [(1,.v (.c (.seq .str l))),(2,.v (vP 0)),(4,.v (vP 3)),(6,.v (vO 4)),(7,.v (vI 0))] [.cells (Af 1 2 d),.tree d.pJ.sQ,.lst .lev d.sJ,.cells z5,.lst .ev ([]:List Ev)]∧∀q1,z6.inv q1→(let z4:=((q1.i:Nat):Int);Bc (decide (z4<((l.length:Nat):Int))) (El (l[q1.i]?) fun x1=>(let z3:=Df q1.d x1;let z2:List Blk:=[.cells (Af 1 2 q1.d),.tree q1.d.pJ.sQ,.lst .lev q1.d.sJ,.cells z5,.lst .ev q1.oJ,.cells (Af 6 7 z3.d),.tree z3.d.pJ.sQ,.lst .lev z3.d.sJ,.lst .ev z3.oJ];(l[q1.i]? =some x1)∧((0:Int)≤z4)∧(l[q1.i]? =some x1)∧((0:Int)≤z4)∧(Fp 90 [.agg (B9 q1.d),vT x1] [] (.tup [.agg (Af 0 1 z3.d),vO 2]) (Ls z3.d z3.oJ))∧(Fp 90 [.agg (B9 q1.d),vT x1] [] (.tup [.agg (Af 0 1 z3.d),vO 2]) (Ls z3.d z3.oJ))∧((z2:List Blk)=z2)∧(([(1,.v (.c (.seq .str l))),(2,.v (vP 0)),(4,.v (vP 3)),(6,.v (vO 4)),(7,.v (vI z4)),(8,.v (vP 5)),(9,.v (vO 8))]:List (Nat×S))=[(1,.v (.c (.seq .str l))),(2,.v (vP 0)),(4,.v (vP 3)),(6,.v (vO 4)),(7,.v (vI z4)),(8,.v (vP 5)),(9,.v (vO 8))])∧(q1.oJ.length+z3.oJ.length≤Bh)∧(wI (z4+1))∧z6.Nxt q1 [(1,.v (.c (.seq .str l))),(2,.v (vP 0)),(4,.v (vP 3)),(6,.v (vO 4)),(7,.v (vI (z4+1)))] [.cells (Af 1 2 z3.d),.tree z3.d.pJ.sQ,.lst .lev z3.d.sJ,.cells z5,.lst .ev (q1.oJ++z3.oJ)])) (Lf (.tup [.agg (Af 0 1 q1.d),vO 2]) (.tup [.agg (Af 0 1 z7.d),vO 2]) (Ls q1.d q1.oJ) (Ls z7.d z7.oJ))))) Q4 ?_
 refine⟨(Lr d Q2 (Q63) Q2),Bp (j:=(⟨d,([]:List Ev),0⟩:My)) Q8 rfl (by dsimp only[Mz];exact⟨by omega,rfl,rfl,hp3,hp4,by simp⟩),fun (q1:My) hq_q1=>?_⟩
 have hi_q1:q1.i≤l.length∧Cc ⟨q1.d,q1.oJ⟩ (List.drop q1.i l)=Cc ⟨d,[]⟩ l∧(q1.d).pJ=d.pJ∧List.length (q1.d).sJ≤1048576∧((0:Int)≤(q1.d).sK.bits∧(q1.d).sK.bits≤18446744073709551615)∧q1.oJ.length+14*S6 (List.drop q1.i l)≤14*S6 l:=hq_q1
 obtain ⟨v1,v2,v3,v4,v5,v6⟩:=hi_q1
 have hsl:q1.d.pJ.sQ.length=d.pJ.sQ.length:=by rw[v3]
 have hsf: ∀e∈q1.d.pJ.sQ,e.fJ.length≤1048576:=by rw[v3];exact hp2
 have hbd:=Y0 l q1.i
 refine dsp (fun h1 p1=>?_) fun h1 p1=>?_
 refine⟨(Bo (l:=l) (i:=q1.i) Q2),fun x1 hx1=>?_⟩
 rw[C3 hx1,Ht] at v2
 have hdb:S6 (List.drop q1.i l)=x1.length+S6 (List.drop (q1.i+1) l):=by rw[C3 hx1,S6]
 have hl:=Yz q1.d x1
 exact⟨hx1,Q2,hx1,Q2,(Ap6 q1.d _ Q2 (Q63) Q2 Q2 Q2),(Ap6 q1.d _ Q2 (Q63) Q2 Q2 Q2),rfl,rfl,Q2,(Ad Q2 Q2),A6 (j:=(⟨(Df q1.d x1).d,q1.oJ++(Df q1.d x1).oJ,q1.i+1⟩:My)) Q8 rfl (by dsimp only[Mz];exact⟨by omega,v2,hl.1.trans v3,by omega,hl.2.2.2 v5,by rw[List.length_append];omega⟩) (by dsimp only[Mz];omega)⟩
 rw[List.drop_eq_nil_of_le (by omega),Pz] at v2
 exact zD ((Cc ⟨d,[]⟩ l).d) q1.d ((Cc ⟨d,[]⟩ l).oJ) q1.oJ (fun hm1 hm2=>⟨Q5,Q9⟩) W48 W48
structure Rdr where
 data:List UInt8
 aJ:Int
 script:List Rd
 next:Int
 code:Int
structure Aui where
 reader:Rdr
 dec:Dcd
 queue:List Ev
 reads:Int
def At4 (d:Dcd) (c:Int):Mac:=if Ce d=true∧d.mJ≠9∧1≤c then ⟨Ba d c d.aJ,[As c d.aJ]⟩ else ⟨d,[]⟩
theorem Atr {d:Dcd} (h:d.mJ=9):(∀s:List UInt8,Cb ⟨d,[]⟩ s=⟨d,[]⟩)∧Kq d=⟨d,[]⟩∧∀c,At4 d c=⟨d,[]⟩:=by
 refine⟨fun s=>?_,?_,fun c=>?_⟩
 ·exact Uu (m:=⟨d,[]⟩) (by simp[Fc,h]) s
 ·unfold Kq;rw[if_pos (.inr h)]
 ·unfold At4;rw[if_neg (fun hc=>hc.2.1 h)]
theorem Akw (d:Dcd) (hp1:List.length (d).pJ.sQ≤1048576) (hp2: ∀e∈(d).pJ.sQ,e.fJ.length≤1048576) (hp3:List.length (d).sJ≤1048576) (hp4:(0:Int)≤(d).sK.bits∧(d).sK.bits≤18446744073709551615):Fun Tryz.prog 87 [.agg (B9 d)] [] (.v (vB (Gh d))) []:=by
 have hN:Bh=274877906944:=rfl
 refine Ar Tryz.func87 Q4 Q4 (w:=let z1:=Lf (.v (vB false)) (.v (vB (Gh d))) [] [];(.sZ [.call [] (.v (vB (Ce d))) []] (.br (.br (.lJ () []) (.lJ () [])) (.lJ () [])),(Fp 51 [.agg (B9 d)] [] (.v (vB (Ce d))) [])∧Bc (Ce d) (Bc (decide (d.mJ=1)) (Lf (.v (vB (decide (d.sK.hJ=0)))) (.v (vB (Gh d))) [] []) z1) z1)) Q4 ?_
 refine⟨(Aeu d Q2 Q2),fun h1=>?_,fun h1=>?_⟩
 refine dsp (fun h2 p2=>?_) fun h2 p2=>?_
 exact⟨(sB W62),rfl⟩
 exact⟨(sB W62),rfl⟩
 exact⟨(sB W62),rfl⟩
theorem Aob (d:Dcd) (hp1:List.length (d).pJ.sQ≤1048576) (hp2: ∀e∈(d).pJ.sQ,e.fJ.length≤1048576) (hp3:List.length (d).sJ≤1048576) (hp4:(0:Int)≤(d).sK.bits∧(d).sK.bits≤18446744073709551615):Fun Tryz.prog 39 [.agg (B9 d)] [] (.tup [.agg (Af 0 1 (Kq d).d),vO 2]) [.tree (Kq d).d.pJ.sQ,.lst .lev (Kq d).d.sJ,.lst .ev (Kq d).oJ]:=by
 have hN:Bh=274877906944:=rfl
 refine Ar Tryz.func39 Q4 Q4 (w:=let zi:Int→C:= .int .i64;let z1:List C:=[.own 1,zi d.pJ.rJ,zi d.pJ.dJ,zi d.pJ.most,zi 9,.own 2,.int .u64 d.sK.bits,zi d.sK.hJ,zi d.sX,zi d.aJ,zi d.field.nJ,zi d.field.kind,.bool d.field.rep,.bool d.field.packed,zi d.field.mK,zi d.wJ,zi d.wK,zi d.uJ.wK,zi d.uJ.low,zi d.uJ.high,zi 9,zi 0,.int .u64 0,zi 0,.str [],zi 0,zi d.aJ,.own 4];let z2:List C:=[zi 9,zi 0,.int .u64 0,zi 0,.str [],zi 0,zi d.aJ];let z7:S:= .tup [.agg (Af 0 1 (Kq d).d),vO 2];let z8:=([]:List Ev);let z3:=A3 (⟨d,z8⟩:Mac) 10 d.aJ;let z6:List Blk:=[.cells (Ac 1 2 4 z3),.tree z3.d.pJ.sQ,.lst .lev z3.d.sJ,.dK,.lst .ev z3.oJ];let z9:=Ls (Kq d).d (Kq d).oJ;let z4:=Lf (.tup [.agg (Af 0 1 d),vO 2]) z7 (Ls d z8) z9;let z10:=z8++[(⟨9,0,0,0,[],0,d.aJ⟩:Ev)];let z5:List Blk:=[.cells z1,.tree d.pJ.sQ,.lst .lev d.sJ,.dK,.lst .ev z10];(.sZ [.call [] (.v (.agg (Af 0 1 d))) (L2 d),.call [] (.v (vB (Ce d))) []] (.br (.sZ [.at 8,.mk 4 27 .ev,.ord (os 10 [8]) [1]] (.lJ () [2,3,5])) (.br (.sZ [.at 8,.mk 4 27 .ev,.ord (os 10 [8]) [1]] (.lJ () [2,3,5])) (.sZ [.call [] (.v (vB (Gh d))) []] (.br (.sZ [.at 6,.mk 4 27 .ev,.ord (os 13 [8,12]) [4],.call [4,2,3,5] (.tup []) z5,.ord (os 10 [8]) [1]] (.lJ () [2,3,6])) (.sZ [.at 3,.mk 4 27 .ev,.call [4,2,3,5] (.tup []) z6,.ord (os 10 [8]) [1]] (.lJ () [2,3,6])))))),(Fp 50 [.agg (B9 d)] [] (.v (.agg (Af 0 1 d))) (L2 d))∧(Fp 51 [.agg (B9 d)] [] (.v (vB (Ce d))) [])∧Bc (!(Ce d)) z4 (Bc (decide (d.mJ=9)) z4 ((Fp 87 [.agg (B9 d)] [] (.v (vB (Gh d))) [])∧Bc (Gh d) ((Fp 88 [vP 0,.agg z2] [.cells [.own 1,zi d.pJ.rJ,zi d.pJ.dJ,zi d.pJ.most,zi 9,.own 2,.int .u64 d.sK.bits,zi d.sK.hJ,zi d.sX,zi d.aJ,zi d.field.nJ,zi d.field.kind,.bool d.field.rep,.bool d.field.packed,zi d.field.mK,zi d.wJ,zi d.wK,zi d.uJ.wK,zi d.uJ.low,zi d.uJ.high,zi 9,zi 0,.int .u64 0,zi 0,.str [],zi 0,zi d.aJ,.own 3],.tree d.pJ.sQ,.lst .lev d.sJ,.lst .ev z8] (.tup []) z5)∧Lf (.tup [.agg (.own 0::zi d.pJ.rJ::zi d.pJ.dJ::zi d.pJ.most::zi 9:: .own 1:: .int .u64 d.sK.bits::zi d.sK.hJ::zi d.sX::zi d.aJ::zi d.field.nJ::zi d.field.kind:: .bool d.field.rep:: .bool d.field.packed::zi d.field.mK::zi d.wJ::zi d.wK::zi d.uJ.wK::zi d.uJ.low::zi d.uJ.high::z2),vO 2]) z7 (Ls d z10) z9) ((Fp 52 [vP 0,vI 10,vI d.aJ] [.cells [.own 1,zi d.pJ.rJ,zi d.pJ.dJ,zi d.pJ.most,zi d.mJ,.own 2,.int .u64 d.sK.bits,zi d.sK.hJ,zi d.sX,zi d.aJ,zi d.field.nJ,zi d.field.kind,.bool d.field.rep,.bool d.field.packed,zi d.field.mK,zi d.wJ,zi d.wK,zi d.uJ.wK,zi d.uJ.low,zi d.uJ.high,zi d.eJ.kind,zi d.eJ.field,.int .u64 d.eJ.bits,zi d.eJ.len,.str d.eJ.text,zi d.eJ.code,zi d.eJ.aJ,.own 3],.tree d.pJ.sQ,.lst .lev d.sJ,.lst .ev z8] (.tup []) z6)∧Lf (.tup [.agg (Af 0 1 z3.d),vO 2]) z7 (Ls z3.d z3.oJ) z9))))) Q4 ?_
 refine⟨(Yr d Q2 (hp2) Q2),(Aeu d Q2 Q2),fun h1=>have q1:=Ao h1;?_,fun h1=>have q1:=An h1;?_⟩
 exact zD ((Kq d).d) d ((Kq d).oJ) ([]:List Ev) (fun hm1 hm2=>⟨Q5,Q9⟩) W63 W63
 refine dsp (fun h2 p2=>?_) fun h2 p2=>?_
 exact zD ((Kq d).d) d ((Kq d).oJ) ([]:List Ev) (fun hm1 hm2=>⟨Q5,Q9⟩) W63 W63
 refine⟨(Akw d Q2 (hp2) Q2 Q2),fun h3=>?_,fun h3=>?_⟩
 exact zD ((Kq d).d) (⟨d.pJ,9,d.sJ,d.sK,d.sX,d.aJ,d.field,d.wJ,d.wK,d.uJ,(⟨9,0,0,0,[],0,d.aJ⟩:Ev)⟩:Dcd) ((Kq d).oJ) (([]:List Ev)++[(⟨9,0,0,0,[],0,d.aJ⟩:Ev)]) (fun hm1 hm2=>⟨(Ge (⟨(⟨d.pJ,9,d.sJ,d.sK,d.sX,d.aJ,d.field,d.wJ,d.wK,d.uJ,(⟨9,0,0,0,[],0,d.aJ⟩:Ev)⟩:Dcd),([]:List Ev)⟩:Mac) (⟨9,0,0,0,[],0,d.aJ⟩:Ev) Q16),Q5,Q9⟩) W63 W63
 exact zM Mac.d Mac.oJ (Kq d) (A3 (⟨d,([]:List Ev)⟩:Mac) 10 d.aJ) (fun hm1 hm2=>⟨(Co (⟨d,([]:List Ev)⟩:Mac) _ _ Q16),Q5,Q9⟩) W63 W63
theorem Akx (d:Dcd) (hp1:List.length (d).pJ.sQ≤1048576) (hp2: ∀e∈(d).pJ.sQ,e.fJ.length≤1048576) (hp3:List.length (d).sJ≤1048576) (hp4:(0:Int)≤(d).sK.bits∧(d).sK.bits≤18446744073709551615):Fun Tryz.prog 91 [.agg (B9 d)] [] (.v (vB (Gh d))) []:=by
 have hN:Bh=274877906944:=rfl
 refine Ar Tryz.func91 Q4 Q4 (w:=let z1:=Lf (.v (vB false)) (.v (vB (Gh d))) [] [];(.sZ [.call [] (.v (vB (Ce d))) []] (.br (.br (.lJ () []) (.lJ () [])) (.lJ () [])),(Fp 60 [.agg (B9 d)] [] (.v (vB (Ce d))) [])∧Bc (Ce d) (Bc (decide (d.mJ=1)) (Lf (.v (vB (decide (d.sK.hJ=0)))) (.v (vB (Gh d))) [] []) z1) z1)) Q4 ?_
 refine⟨(Aev d Q2 Q2),fun h1=>?_,fun h1=>?_⟩
 refine dsp (fun h2 p2=>?_) fun h2 p2=>?_
 exact⟨(sB W62),rfl⟩
 exact⟨(sB W62),rfl⟩
 exact⟨(sB W62),rfl⟩
theorem Aoc (d:Dcd) (hp1:List.length (d).pJ.sQ≤1048576) (hp2: ∀e∈(d).pJ.sQ,e.fJ.length≤1048576) (hp3:List.length (d).sJ≤1048576) (hp4:(0:Int)≤(d).sK.bits∧(d).sK.bits≤18446744073709551615):Fun Tryz.prog 42 [.agg (B9 d)] [] (.tup [.agg (Af 0 1 (Kq d).d),vO 2]) [.tree (Kq d).d.pJ.sQ,.lst .lev (Kq d).d.sJ,.lst .ev (Kq d).oJ]:=by
 have hN:Bh=274877906944:=rfl
 refine Ar Tryz.func42 Q4 Q4 (w:=let zi:Int→C:= .int .i64;let z1:List C:=[.int .u64 d.sK.bits,zi d.sK.hJ,zi d.sX,zi d.aJ,zi d.field.nJ,zi d.field.kind,.bool d.field.rep,.bool d.field.packed,zi d.field.mK,zi d.wJ,zi d.wK,zi d.uJ.wK,zi d.uJ.low,zi d.uJ.high,zi 9,zi 0,.int .u64 0,zi 0,.str [],zi 0,zi d.aJ];let z4:S:= .tup [.agg (Af 0 1 (Kq d).d),vO 2];let z5:=Ba d 10 d.aJ;let z6:=Ls (Kq d).d (Kq d).oJ;let z7:=Af 0 1 d;let z3:=Lf (.tup [.agg z7,vO 2]) z4 (Ls d ([]:List Ev)) z6;let z8:S:= .tup [.agg (Af 2 3 z5),vO 4];let z9:List Blk:= .dK:: .dK::Ls z5 [As 10 d.aJ];let z10:=(⟨9,0,0,0,[],0,d.aJ⟩:Ev);let z2:List Blk:=[.cells (.own 1::zi d.pJ.rJ::zi d.pJ.dJ::zi d.pJ.most::zi 9:: .own 2::z1),.tree d.pJ.sQ,.lst .lev d.sJ,.lst .ev [z10]];(.sZ [.call [] (.v (.agg z7)) (L2 d),.call [] (.v (vB (Ce d))) []] (.br (.sZ [.ty .ev] (.lJ () [2,3,5])) (.br (.sZ [.ty .ev] (.lJ () [2,3,5])) (.sZ [.call [] (.v (vB (Gh d))) []] (.br (.sZ [.call [2,3] z8 z9] (.lJ () [5,6,7])) (.sZ [.tree (fr (.two 3 (.one 4 (.first 5 (.done))) 4 (.one 3 (.first 5 (.done)))) 0 3) 6 [1],.ty .ev,.at 0,.keep [2,3],.sel [1,2,3,5],.ty .ev,.at 0,.keep [2,3],.sel [1,2,3,5]] (.lJ () [1,2,3])))))),(Fp 59 [.agg (B9 d)] [] (.v (.agg z7)) (L2 d))∧(Fp 60 [.agg (B9 d)] [] (.v (vB (Ce d))) [])∧Bc (!(Ce d)) z3 (Bc (decide (d.mJ=9)) z3 ((Fp 91 [.agg (B9 d)] [] (.v (vB (Gh d))) [])∧Bc (!(Gh d)) ((Fp 64 [.agg z7,vI 10,vI d.aJ] (L2 d) z8 z9)∧Lf (.tup [.agg (Af 0 1 z5),vO 2]) z4 (Ls z5 [As 10 d.aJ]) z6) (((z2:List Blk)=z2)∧(([(2,.v (vP 0)),(3,.v (vO 3))]:List (Nat×S))=[(2,.v (vP 0)),(3,.v (vO 3))])∧Lf (.tup [.agg (.own 0::zi d.pJ.rJ::zi d.pJ.dJ::zi d.pJ.most::zi 9:: .own 1::z1),vO 2]) z4 (Ls d [z10]) z6))))) Q4 ?_
 refine⟨(Lr d Q2 (hp2) Q2),(Aev d Q2 Q2),fun h1=>have q1:=Ao h1;?_,fun h1=>have q1:=An h1;?_⟩
 exact zD ((Kq d).d) d ((Kq d).oJ) ([]:List Ev) (fun hm1 hm2=>⟨Q5,Q9⟩) W63 W63
 refine dsp (fun h2 p2=>?_) fun h2 p2=>?_
 exact zD ((Kq d).d) d ((Kq d).oJ) ([]:List Ev) (fun hm1 hm2=>⟨Q5,Q9⟩) W63 W63
 refine⟨(Akx d Q2 (hp2) Q2 Q2),fun h3=>have q3:=Ao h3;?_,fun h3=>have q3:=An h3;?_⟩
 exact zD ((Kq d).d) (Ba d 10 d.aJ) ((Kq d).oJ) [As 10 d.aJ] (fun hm1 hm2=>⟨(De d _ _),Q5,Q9⟩) W63 W63
 exact zD ((Kq d).d) (⟨d.pJ,9,d.sJ,d.sK,d.sX,d.aJ,d.field,d.wJ,d.wK,d.uJ,(⟨9,0,0,0,[],0,d.aJ⟩:Ev)⟩:Dcd) ((Kq d).oJ) [(⟨9,0,0,0,[],0,d.aJ⟩:Ev)] (fun hm1 hm2=>⟨rfl,rfl,Q5,Q9⟩) W63 W63
theorem Aay (p:Pln) (l:List (List UInt8)) (hp1:List.length (p).sQ≤Bh) (hp2:l.length≤1048576) (hp3:S6 l≤1048576):Fun Tryz.prog 10 [.agg (G0 p),.c (.seq .str l)] [] (.v (vO 0)) [.lst .ev (Dt p l)]:=by
 have hN:Bh=274877906944:=rfl
 refine Ar Tryz.func10 Q4 Q4 (w:=let z1:=Cc ⟨(Bs p),[]⟩ l;let z2:=Kq z1.d;let z3:S:= .tup [.agg (Af 0 1 (Bs p)),vB (B2 p)];let z4:S:= .tup [.agg (Af 0 1 z1.d),vO 2];let z5:S:= .tup [.agg (Af 0 1 z2.d),vO 2];(.sZ [.call [] z3 (L2 (Bs p))] (.br (.sZ [.at 0,.mkS 4 .ev] (.lJ () [4])) (.sZ [.call [] z4 (Ls z1.d z1.oJ),.call [] z5 (Ls z2.d z2.oJ),.ty .ev] (.lJ () [11]))),(Fp 19 [.agg (G0 p)] [] z3 (L2 (Bs p)))∧Bc (!(B2 p)) (Lf (.v (vO 0)) (.v (vO 0)) [.lst .ev ([]:List Ev)] [.lst .ev (Dt p l)]) ((Fp 38 [.agg (B9 (Bs p)),.c (.seq .str l)] [] z4 (Ls z1.d z1.oJ))∧(Fp 39 [.agg (B9 z1.d)] [] z5 (Ls z2.d z2.oJ))∧(z1.oJ.length+z2.oJ.length≤Bh)∧Lf (.v (vO 0)) (.v (vO 0)) [.lst .ev (z1.oJ++z2.oJ)] [.lst .ev (Dt p l)]))) Q4 ?_
 refine⟨(Anz p Q2),fun h1=>have q1:=Ao h1;?_,fun h1=>have q1:=An h1;have p1:=By q1;?_⟩
 exact⟨rfl,(Ab (congrArg (Blk.lst .ev) W64) rfl)⟩
 have hdn:=Af5 q1
 have hpt:=By q1
 have hsl:List.length (Bs p).pJ.sQ=p.sQ.length:=by rw[hdn.1]
 have hst0:List.length (Bs p).sJ=0:=by rw[hdn.2.1];rfl
 have hbt:(0:Int)≤(Bs p).sK.bits∧(Bs p).sK.bits≤18446744073709551615:=by rw[hdn.2.2];decide
 have hfl: ∀e∈(Bs p).pJ.sQ,e.fJ.length≤1048576:=by rw[hdn.1];exact Dx hpt.2.1
 have hcl:=Sg l ⟨Bs p,[]⟩
 simp only[List.length_nil] at hcl
 have hcb:=hcl.2.2.2 hbt
 have hcs:List.length (Cc ⟨Bs p,[]⟩ l).d.pJ.sQ=p.sQ.length:=by rw[hcl.1,hdn.1]
 have hcf: ∀e∈(Cc ⟨Bs p,[]⟩ l).d.pJ.sQ,e.fJ.length≤1048576:=by rw[hcl.1];exact hfl
 have hfn:=Ab6 (Cc ⟨Bs p,[]⟩ l).d
 exact⟨(Aku (Bs p) _ Q2 (Q75) Q2 Q2 Q2 Q2),(Aob (Cc ⟨(Bs p),[]⟩ l).d Q2 (Q75) Q2 Q2),Q2,rfl,(Ab (congrArg (Blk.lst .ev) W64) rfl)⟩
theorem Ahr (p:Pln) (l:List (List UInt8)) (hp1:List.length (p).sQ≤Bh) (hp2:l.length≤1048576) (hp3:S6 l≤1048576):Fun Tryz.prog 11 [.agg (G0 p),.c (.seq .str l)] [] (.v (vO 0)) [.lst .ev (Dt p l)]:=by
 have hN:Bh=274877906944:=rfl
 refine Ar Tryz.func11 Q4 Q4 (w:=let z1:=Cc ⟨(Bs p),[]⟩ l;let z2:=Kq z1.d;let z3:S:= .tup [.agg (Af 0 1 (Bs p)),vB (B2 p)];let z4:S:= .tup [.agg (Af 0 1 z1.d),vO 2];let z5:S:= .tup [.agg (Af 0 1 z2.d),vO 2];(.sZ [.call [] z3 (L2 (Bs p))] (.br (.sZ [.ty .ev] (.lJ () [4])) (.sZ [.call [] z4 (Ls z1.d z1.oJ),.call [] z5 (Ls z2.d z2.oJ),.ty .ev] (.lJ () [11]))),(Fp 40 [.agg (G0 p)] [] z3 (L2 (Bs p)))∧Bc (!(B2 p)) (Lf (.v (vO 0)) (.v (vO 0)) [.lst .ev ([]:List Ev)] [.lst .ev (Dt p l)]) ((Fp 41 [.agg (B9 (Bs p)),.c (.seq .str l)] [] z4 (Ls z1.d z1.oJ))∧(Fp 42 [.agg (B9 z1.d)] [] z5 (Ls z2.d z2.oJ))∧(z1.oJ.length+z2.oJ.length≤Bh)∧Lf (.v (vO 0)) (.v (vO 0)) [.lst .ev (z1.oJ++z2.oJ)] [.lst .ev (Dt p l)]))) Q4 ?_
 refine⟨(An0 p Q2),fun h1=>have q1:=Ao h1;?_,fun h1=>have q1:=An h1;have p1:=By q1;?_⟩
 exact⟨rfl,(Ab (congrArg (Blk.lst .ev) W64) rfl)⟩
 have hdn:=Af5 q1
 have hpt:=By q1
 have hsl:List.length (Bs p).pJ.sQ=p.sQ.length:=by rw[hdn.1]
 have hst0:List.length (Bs p).sJ=0:=by rw[hdn.2.1];rfl
 have hbt:(0:Int)≤(Bs p).sK.bits∧(Bs p).sK.bits≤18446744073709551615:=by rw[hdn.2.2];decide
 have hfl: ∀e∈(Bs p).pJ.sQ,e.fJ.length≤1048576:=by rw[hdn.1];exact Dx hpt.2.1
 have hcl:=Sg l ⟨Bs p,[]⟩
 simp only[List.length_nil] at hcl
 have hcb:=hcl.2.2.2 hbt
 have hcs:List.length (Cc ⟨Bs p,[]⟩ l).d.pJ.sQ=p.sQ.length:=by rw[hcl.1,hdn.1]
 have hcf: ∀e∈(Cc ⟨Bs p,[]⟩ l).d.pJ.sQ,e.fJ.length≤1048576:=by rw[hcl.1];exact hfl
 have hfn:=Ab6 (Cc ⟨Bs p,[]⟩ l).d
 exact⟨(Akv (Bs p) _ Q2 (Q75) Q2 Q2 Q2 Q2),(Aoc (Cc ⟨(Bs p),[]⟩ l).d Q2 (Q75) Q2 Q2),Q2,rfl,(Ab (congrArg (Blk.lst .ev) W64) rfl)⟩
theorem Aod (p:Pln) (s:List UInt8) (hp1:List.length (p).sQ≤Bh) (hp2:s.length≤1048576):Fun Tryz.prog 17 [.agg (G0 p),vT s] [] (.v (vO 0)) [.lst .ev (Dt p [s])]:=by
 have hN:Bh=274877906944:=rfl
 refine Ar Tryz.func17 Q4 Q4 (w:=let z1:List Blk:=[.lst .ev (Dt p [s])];(.sZ [.ty .str,.pubS 7,.call [] (.v (vO 0)) z1] (.lJ () [2]),(Fp 10 [.agg (G0 p),.c (.seq .str [s])] [] (.v (vO 0)) z1)∧Lf (.v (vO 0)) (.v (vO 0)) z1 z1)) Q4 ?_
 exact⟨(Aay p _ Q2 Q6 (by simp[S6];omega)),rfl,rfl⟩
structure Aoe where
 i:Nat
structure Aof where
 k:Nat
structure Aog where
 i:Nat
theorem Asq {x y:Ev} (h:x.kind=y.kind∧x.field=y.field∧x.bits=y.bits∧x.len=y.len∧x.text=y.text∧x.code=y.code∧x.aJ=y.aJ):x=y:=by
 cases x;cases y;simp at h ⊢;exact h
theorem Aky {a b:List Ev} {i:Nat} {x y:Ev} (h:a.take i=b.take i) (hx:a[i]? =some x) (hy:b[i]? =some y) (e:x=y):a.take (i+1)=b.take (i+1):=by
 rw[List.take_add_one,List.take_add_one,h,hx,hy,e]
theorem Aoh {a b:List Ev} {i:Nat} (h:a.take i=b.take i) (hl:a.length=b.length) (hi:a.length≤i):a=b:=by
 rwa [List.take_of_length_le hi,List.take_of_length_le (by omega)] at h
structure M0 where
 i:Nat
def M1 (a:List Ev) (b:List Ev):Fam:=⟨M0,fun q1=>[(0,.v (.c (.seq .ev a))),(1,.v (.c (.seq .ev b))),(5,.v (vI ((q1.i:Nat):Int)))],fun _=>[],fun q1=>q1.i≤List.length a∧List.length a=List.length b∧List.take q1.i a=List.take q1.i b,fun q1=>List.length a-q1.i⟩
theorem Y1 (a:List Ev) (b:List Ev) (hp1:a.length≤Bh) (hp2:b.length≤Bh):Fun Tryz.prog 14 [.c (.seq .ev a),.c (.seq .ev b)] [] (.v (vB (decide (a=b)))) []:=by
 have hN:Bh=274877906944:=rfl
 refine Ar Tryz.func14 Q4 Q4 (w:=let z2:=Lf (.v (vB false)) (.v (vB (decide (a=b)))) [] [];let z3:=M1 a b;(.br (.lJ () []) (.sZ [.at 0,.keep [0,1,5],.sel []] (.loop z3 fun q1=> .br (.intro (Sx (a[q1.i]?)) fun x1=> .intro (Sx (b[q1.i]?)) fun x2=> .sZ [.ord (os 9 []) [],.el .ev x1,.el .ev x2] (.br (.lJ () []) (.sZ [.as 16 (.v (vI (((q1.i:Nat):Int)+1))),.at 0,.keep [0,1,5],.sel []] (.next)))) (.lJ () []))),Bc (!decide (((a.length:Nat):Int)=((b.length:Nat):Int))) z2 (z3.Has [(0,.v (.c (.seq .ev a))),(1,.v (.c (.seq .ev b))),(5,.v (vI 0))] []∧∀q1,z3.inv q1→(let z1:=((q1.i:Nat):Int);Bc (decide (z1<((a.length:Nat):Int))) (El (a[q1.i]?) fun x1=>(El (b[q1.i]?) fun x2=>((a[q1.i]? =some x1)∧((0:Int)≤z1)∧(a[q1.i]? =some x1)∧((0:Int)≤z1)∧(b[q1.i]? =some x2)∧((0:Int)≤z1)∧(b[q1.i]? =some x2)∧((0:Int)≤z1)∧Bc (!(decide (x1.kind=x2.kind)&&(decide (x1.field=x2.field)&&(decide (x1.bits=x2.bits)&&(decide (x1.len=x2.len)&&(decide (x1.text=x2.text)&&(decide (x1.code=x2.code)&&decide (x1.aJ=x2.aJ)))))))) z2 ((wI (z1+1))∧z3.Nxt q1 [(0,.v (.c (.seq .ev a))),(1,.v (.c (.seq .ev b))),(5,.v (vI (z1+1)))] [])))) (Lf (.v (vB true)) (.v (vB (decide (a=b)))) [] []))))) Q4 ?_
 refine⟨fun h1=>have q1:=Ao h1;have p1:=of_decide_eq_false q1;?_,fun h1=>have q1:=An h1;have p1:=of_decide_eq_true q1;?_⟩
 exact⟨(sB W65),rfl⟩
 refine⟨Bp (j:=(⟨0⟩:M0)) Q8 rfl (by dsimp only[M1];exact⟨by omega,by omega,by simp⟩),fun (q1:M0) hq_q1=>?_⟩
 have hi_q1:q1.i≤a.length∧a.length=b.length∧List.take q1.i a=List.take q1.i b:=hq_q1
 obtain ⟨v1,v2,v3⟩:=hi_q1
 refine dsp (fun h2 p2=>?_) fun h2 p2=>?_
 refine⟨(Bo (l:=a) (i:=q1.i) Q2),fun x1 hx1=>?_⟩
 refine⟨(Bo (l:=b) (i:=q1.i) Q2),fun x2 hx2=>?_⟩
 refine⟨hx1,Q2,hx1,Q2,hx2,Q2,hx2,Q2,fun h3=>have q3:=Ao h3;have p3:=(Da dT (Da dT (Da dT (Da dT (Da dT (Da dT dF)))))).1 q3;?_,fun h3=>have q3:=An h3;have p3:=(C9 dT (C9 dT (C9 dT (C9 dT (C9 dT (C9 dT dT)))))).1 q3;?_⟩
 exact⟨(sB W65),rfl⟩
 exact⟨(Ad Q2 Q2),A6 (j:=(⟨q1.i+1⟩:M0)) Q8 rfl (by dsimp only[M1];exact⟨by omega,v2,Aky v3 hx1 hx2 (Asq p3)⟩) (by dsimp only[M1];omega)⟩
 exact⟨(sB W65),rfl⟩
structure Cur where
 b:List Int
 i:Int
 h:Int
def A4 (c:Cur):Prop:=0≤c.i∧c.b.length≤1048576
def Ct (x:Cur):List C:=[.seq .u8 x.b,.int .i64 x.i,.int .i64 x.h]
abbrev Kc (c:Cur):List Blk:=[.cells (Ct c)]
structure Nr where
 x:Int
 c1:Cur
def Hu (c:Cur) (o:Nr):Prop:=Fun Tryz.prog 154 [vP 0] [.cells (Ct c)] (.v (vI o.x)) [.cells (Ct o.c1)]
def Ex (c:Cur) (o:Nr):Prop:=(((0:Int)≤o.x∧o.x≤255)∧(A4 o.c1))∧Hu c o
theorem P1 (c:Cur) (hp1:A4 c): ∃o:Nr,Ex c o:=by
 have hN:Bh=274877906944:=rfl
 have hcb:=hp1.1
 have hcl:=hp1.2
 refine Cj Tryz.func154 Q4 Q4 (w:=let z5:=(IntKind.i64.wrap (c.h*6364136223846793005))+1442695040888963407;let z3:=IntKind.i64.wrap z5;let z8:=(.v (vI (Int.fdiv z3 (2 ^ 33))):S)= .v (vI (z3 / 8589934592));let z10:List Blk:=[.cells [.seq .u8 c.b,.int .i64 (c.i+1),.int .i64 z3]];let z11:List Blk:=[.cells [.seq .u8 c.b,.int .i64 c.i,.int .i64 z3]];let z12:=z3 / 35184372088832;let z4:=IntKind.i64.wrap (((BitVec.ofInt 64 (z3 / 8589934592) ^^^ BitVec.ofInt 64 z12).toNat:Nat));let z7:=(.v (vI (Int.fdiv z3 (2 ^ 45))):S)= .v (vI z12);let z9:=z4 % 256;let z6:=(.v (vI (IntKind.i64.wrap (((BitVec.ofInt 64 z4&&&BitVec.ofInt 64 255).toNat:Nat)))):S)= .v (vI z9);(.sZ [.ord (os 13 []) [],.as 17 (.v (vI (z3 / 8589934592))),.as 22 (.v (vI z12)),.as 24 (.v (vI z9)),.ord (os 10 []) []] (.br (.intro (Sx (c.b[Int.toNat c.i]?)) fun x1=>let z1:=IntKind.i64.wrap (z9+(IntKind.i64.wrap (x1)));.sZ [.ord (os 15 []) [],.el .u8 x1,.as 48 (.v (vI (z1 % 256))),.as 54 (.v (vI (c.i+1)))] (.lJ (⟨z1 % 256,(⟨c.b,c.i+1,IntKind.i64.wrap z5⟩:Cur)⟩:Nr) [0])) (.lJ (⟨z4 % 256,(⟨c.b,c.i,IntKind.i64.wrap z5⟩:Cur)⟩:Nr) [0])),((0:Int)≤33)∧((0:Int)≤33)∧z8∧z8∧((0:Int)≤45)∧((0:Int)≤45)∧z7∧z7∧z6∧z6∧Bc (decide (c.i<((c.b.length:Nat):Int))) (El (c.b[Int.toNat c.i]?) fun x1=>(let z2:=IntKind.i64.wrap (z9+(IntKind.i64.wrap (x1)));(c.b[Int.toNat c.i]? =some x1)∧((0:Int)≤c.i)∧(c.b[Int.toNat c.i]? =some x1)∧((0:Int)≤c.i)∧((.v (vI (IntKind.i64.wrap (((BitVec.ofInt 64 z2&&&BitVec.ofInt 64 255).toNat:Nat)))):S)= .v (vI (z2 % 256)))∧((.v (vI (IntKind.i64.wrap (((BitVec.ofInt 64 z2&&&BitVec.ofInt 64 255).toNat:Nat)))):S)= .v (vI (z2 % 256)))∧(wI (c.i+1))∧(((0:Int)≤(z2 % 256)∧(z2 % 256)≤255)∧(A4 (⟨c.b,c.i+1,IntKind.i64.wrap z5⟩:Cur)))∧Lf (.v (vI (z2 % 256))) (.v (vI (z2 % 256))) z10 z10)) ((((0:Int)≤z9∧z9≤255)∧(A4 (⟨c.b,c.i,IntKind.i64.wrap z5⟩:Cur)))∧Lf (.v (vI z9)) (.v (vI z9)) z11 z11))) Q4 ?_
 refine⟨Q27,Q27,(Aaf (k:=33) Q27 Q27),(Aaf (k:=33) Q27 Q27),Q27,Q27,(Aaf (k:=45) Q27 Q27),(Aaf (k:=45) Q27 Q27),(Hh (k:=8) Q27 Q27),(Hh (k:=8) Q27 Q27),dsp (fun h1 p1=>?_) fun h1 p1=>?_⟩
 refine⟨(Bo (l:=c.b) (i:=Int.toNat c.i) Q2),fun x1 hx1=>?_⟩
 exact⟨hx1,Q2,hx1,Q2,(Hh (k:=8) Q27 Q27),(Hh (k:=8) Q27 Q27),(Ad Q2 Q2),⟨Q2,Q0⟩,rfl,rfl⟩
 exact⟨⟨Q2,Q0⟩,rfl,rfl⟩
structure Dp where
 x:Int
 c1:Cur
def Ap (c:Cur) (n:Int) (o:Dp):Prop:=Fun Tryz.prog 85 [vP 0,vI n] [.cells (Ct c)] (.v (vI o.x)) [.cells (Ct o.c1)]
def Aa (c:Cur) (n:Int) (o:Dp):Prop:=(((0:Int)≤o.x)∧((1:Int)≤n→o.x<n)∧(n≤(0:Int)→o.x=(0:Int))∧(A4 o.c1))∧Ap c n o
theorem Az (c:Cur) (n:Int) (hp1:A4 c): ∃o:Dp,Aa c n o:=by
 have hN:Bh=274877906944:=rfl
 refine Cj Tryz.func85 Q4 Q4 (w:=let z8:=Ex c;(.br (.lJ (⟨0,c⟩:Dp) [0]) (.br (.intro z8 fun o1=> .sZ [.call [0] (.v (vI o1.x)) (Kc o1.c1)] (.lJ (⟨Int.tmod o1.x n,o1.c1⟩:Dp) [0])) (.intro z8 fun o1=> .sZ [.call [0] (.v (vI o1.x)) (Kc o1.c1)] (.intro (Ex o1.c1) fun o2=>let z6:=(o1.x*16777216)+(o2.x*65536);.sZ [.call [0] (.v (vI o2.x)) (Kc o2.c1)] (.intro (Ex o2.c1) fun o3=>let z4:=z6+(o3.x*256);.sZ [.call [0] (.v (vI o3.x)) (Kc o3.c1)] (.intro (Ex o3.c1) fun o4=>let z2:=z4+o4.x;.sZ [.call [0] (.v (vI o4.x)) (Kc o4.c1),.as 26 (.v (vI (o1.x*16777216))),.as 28 (.v (vI (o2.x*65536))),.as 29 (.v (vI z6)),.as 31 (.v (vI (o3.x*256))),.as 32 (.v (vI z4)),.as 34 (.v (vI z2))] (.lJ (⟨Int.tmod z2 n,o4.c1⟩:Dp) [0])))))),Bc (decide (n≤0)) ((((0:Int)≤0)∧((1:Int)≤n→0<n)∧(n≤(0:Int)→0=(0:Int))∧(A4 c))∧Lf (.v (vI 0)) (.v (vI 0)) (Kc c) (Kc c)) (Bc (decide (n≤256)) (In z8 fun o1=>(let z1:=Int.tmod o1.x n;(Hu c o1)∧(n≠0)∧(((0:Int)≤z1)∧((1:Int)≤n→z1<n)∧(n≤(0:Int)→z1=(0:Int))∧(A4 o1.c1))∧Lf (.v (vI z1)) (.v (vI z1)) (Kc o1.c1) (Kc o1.c1))) (In z8 fun o1=>((Hu c o1)∧In (Ex o1.c1) fun o2=>(let z7:=(o1.x*16777216)+(o2.x*65536);(Hu o1.c1 o2)∧In (Ex o2.c1) fun o3=>(let z5:=z7+(o3.x*256);(Hu o2.c1 o3)∧In (Ex o3.c1) fun o4=>(let z3:=z5+o4.x;(Hu o3.c1 o4)∧(wI (o1.x*16777216))∧(wI (o2.x*65536))∧(wI z7)∧(wI (o3.x*256))∧(wI z5)∧(wI z3)∧(n≠0)∧(((0:Int)≤(Int.tmod z3 n))∧((1:Int)≤n→(Int.tmod z3 n)<n)∧(n≤(0:Int)→(Int.tmod z3 n)=(0:Int))∧(A4 o4.c1))∧Lf (.v (vI (Int.tmod z3 n))) (.v (vI (Int.tmod z3 n))) (Kc o4.c1) (Kc o4.c1))))))))) Q4 ?_
 refine dsp (fun h1 p1=>?_) fun h1 p1=>?_
 exact⟨⟨Q2,Q2,Q2,Q0⟩,rfl,rfl⟩
 refine dsp (fun h2 p2=>?_) fun h2 p2=>?_
 refine⟨(P1 c Q0),fun o1 ho_o1=>?_⟩
 obtain ⟨⟨hp_o1_0,hp_o1_1⟩,hf_o1⟩:=ho_o1
 exact⟨hf_o1,Q2,⟨(by have:=Yd o1.x n;omega),(by have:=Yd o1.x n;omega),(by have:=Yd o1.x n;omega),Q0⟩,rfl,rfl⟩
 refine⟨(P1 c Q0),fun o1 ho_o1=>?_⟩
 obtain ⟨⟨hp_o1_0,hp_o1_1⟩,hf_o1⟩:=ho_o1
 refine⟨hf_o1,(P1 o1.c1 Q0),fun o2 ho_o2=>?_⟩
 obtain ⟨⟨hp_o2_0,hp_o2_1⟩,hf_o2⟩:=ho_o2
 refine⟨hf_o2,(P1 o2.c1 Q0),fun o3 ho_o3=>?_⟩
 obtain ⟨⟨hp_o3_0,hp_o3_1⟩,hf_o3⟩:=ho_o3
 refine⟨hf_o3,(P1 o3.c1 Q0),fun o4 ho_o4=>?_⟩
 obtain ⟨⟨hp_o4_0,hp_o4_1⟩,hf_o4⟩:=ho_o4
 exact⟨hf_o4,(Ad Q2 Q2),(Ad Q2 Q2),(Ad Q2 Q2),(Ad Q2 Q2),(Ad Q2 Q2),(Ad Q2 Q2),Q2,⟨Q72,Q72,Q72,Q0⟩,rfl,rfl⟩
structure Sh where
 p:Bool
 c1:Cur
def Bq (c:Cur) (n:Int) (o:Sh):Prop:=Fun Tryz.prog 81 [vP 0,vI n] [.cells (Ct c)] (.v (vB o.p)) [.cells (Ct o.c1)]
def Au (c:Cur) (n:Int) (o:Sh):Prop:=((A4 o.c1))∧Bq c n o
theorem Cf (c:Cur) (n:Int) (hp1:A4 c): ∃o:Sh,Au c n o:=by
 have hN:Bh=274877906944:=rfl
 refine Cj Tryz.func81 Q4 Q4 (w:=(.intro (Aa c n) fun o1=> .sZ [.call [0] (.v (vI o1.x)) (Kc o1.c1)] (.lJ (⟨decide (o1.x=0),o1.c1⟩:Sh) [0]),In (Aa c n) fun o1=>((Ap c n o1)∧((A4 o1.c1))∧Lf (.v (vB (decide (o1.x=0)))) (.v (vB (decide (o1.x=0)))) (Kc o1.c1) (Kc o1.c1)))) Q4 ?_
 refine⟨(Az c n Q0),fun o1 ho_o1=>?_⟩
 obtain ⟨⟨hp_o1_0,hp_o1_1,hp_o1_2,hp_o1_3⟩,hf_o1⟩:=ho_o1
 exact⟨hf_o1,Q0,rfl,rfl⟩
structure K3 where
 x:Int
 c1:Cur
def Dq (c:Cur) (l:List Int) (o:K3):Prop:=Fun Tryz.prog 86 [vP 0,.c (.seq .int l)] [.cells (Ct c)] (.v (vI o.x)) [.cells (Ct o.c1)]
def B5 (c:Cur) (l:List Int) (o:K3):Prop:=((o.x∈l)∧(A4 o.c1))∧Dq c l o
theorem E9 (c:Cur) (l:List Int) (hp1:A4 c) (hp2:1≤l.length) (hp3:l.length≤1000): ∃o:K3,B5 c l o:=by
 have hN:Bh=274877906944:=rfl
 refine Cj Tryz.func86 Q4 Q4 (w:=let z1:=((l.length:Nat):Int);(.intro (Aa c z1) fun o1=> .sZ [.call [0] (.v (vI o1.x)) (Kc o1.c1)] (.intro (Sx (l[Int.toNat o1.x]?)) fun x1=> .sZ [.el .int x1] (.lJ (⟨x1,o1.c1⟩:K3) [0])),In (Aa c z1) fun o1=>((Ap c z1 o1)∧El (l[Int.toNat o1.x]?) fun x1=>((l[Int.toNat o1.x]? =some x1)∧((0:Int)≤o1.x)∧((x1∈l)∧(A4 o1.c1))∧Lf (.v (vI x1)) (.v (vI x1)) (Kc o1.c1) (Kc o1.c1))))) Q4 ?_
 refine⟨(Az c ((l.length:Nat):Int) Q0),fun o1 ho_o1=>?_⟩
 obtain ⟨⟨hp_o1_0,hp_o1_1,hp_o1_2,hp_o1_3⟩,hf_o1⟩:=ho_o1
 refine⟨hf_o1,(Bo (l:=l) (i:=Int.toNat o1.x) Q2),fun x1 hx1=>?_⟩
 exact⟨hx1,Q2,⟨(List.mem_of_getElem? hx1),Q0⟩,rfl,rfl⟩
structure Aq4 where
 x:Int
 c1:Cur
structure Rt where
 c1:Cur
def Adj (b:List Int) (o:Rt):Prop:=Fun Tryz.prog 53 [.c (.seq .u8 b)] [] (.v (vP 0)) [.cells (Ct o.c1)]
def Y2 (b:List Int) (o:Rt):Prop:=((A4 o.c1))∧Adj b o
structure Si where
 h:Int
 i:Nat
def Sj (b:List Int):Fam:=⟨Si,fun q1=>[(0,.v (.c (.seq .u8 b))),(3,.v (vI q1.h)),(4,.v (vI ((q1.i:Nat):Int)))],fun _=>[],fun q1=>q1.i≤List.length b∧(0:Int)≤q1.h∧q1.h≤1073741823,fun q1=>List.length b-q1.i⟩
theorem Aq5 (b:List Int) (hp1:b.length≤1048576): ∃o:Rt,Y2 b o:=by
 have hN:Bh=274877906944:=rfl
 refine Cj Tryz.func53 Q4 Q4 (w:=let z5:=((b.length:Nat):Int);let z6:=Sj b;(.sZ [.as 7 (.v (vI (28433+z5))),.at 0,.keep [0,3,4],.sel []] (.loop z6 fun q1=> .br (.br (.sZ [.as 19 (.v (vI (q1.h*131)))] (.intro (Sx (b[q1.i]?)) fun x1=> .sZ [.el .u8 x1,.as 27 (.v (vI ((IntKind.i64.wrap ((IntKind.i64.wrap ((q1.h*131)+(IntKind.i64.wrap (x1))))+7)) % 1073741824))),.as 17 (.v (vI (((q1.i:Nat):Int)+1))),.at 0,.keep [0,3,4],.sel []] (.next))) (.lJ (⟨(⟨b,0,q1.h⟩:Cur)⟩:Rt) [0])) (.lJ (⟨(⟨b,0,q1.h⟩:Cur)⟩:Rt) [0])),(wI (28433+z5))∧z6.Has [(0,.v (.c (.seq .u8 b))),(3,.v (vI (28433+z5))),(4,.v (vI 0))] []∧∀q1,z6.inv q1→(let z3:=((q1.i:Nat):Int);let z4:List Blk:=[.cells [.seq .u8 b,.int .i64 0,.int .i64 q1.h]];let z2:=((A4 (⟨b,0,q1.h⟩:Cur)))∧Lf (.v (vP 0)) (.v (vP 0)) z4 z4;Bc (decide (z3<z5)) (Bc (decide (z3<4000)) ((wI (q1.h*131))∧El (b[q1.i]?) fun x1=>(let z1:=IntKind.i64.wrap ((IntKind.i64.wrap ((q1.h*131)+(IntKind.i64.wrap (x1))))+7);(b[q1.i]? =some x1)∧((0:Int)≤z3)∧((.v (vI (IntKind.i64.wrap (((BitVec.ofInt 64 z1&&&BitVec.ofInt 64 1073741823).toNat:Nat)))):S)= .v (vI (z1 % 1073741824)))∧(wI (z3+1))∧z6.Nxt q1 [(0,.v (.c (.seq .u8 b))),(3,.v (vI (z1 % 1073741824))),(4,.v (vI (z3+1)))] [])) z2) z2))) Q4 ?_
 refine⟨(Ad Q2 Q2),Bp (j:=(⟨28433+((b.length:Nat):Int),0⟩:Si)) Q8 rfl (by dsimp only[Sj];exact⟨by omega,by omega,by omega⟩),fun (q1:Si) hq_q1=>?_⟩
 have hi_q1:q1.i≤b.length∧(0:Int)≤q1.h∧q1.h≤1073741823:=hq_q1
 obtain ⟨v1,v2,v3⟩:=hi_q1
 refine dsp (fun h1 p1=>?_) fun h1 p1=>?_
 refine dsp (fun h2 p2=>?_) fun h2 p2=>?_
 refine⟨(Ad Q2 Q2),(Bo (l:=b) (i:=q1.i) Q2),fun x1 hx1=>?_⟩
 exact⟨hx1,Q2,(Hh (k:=30) Q27 Q27),(Ad Q2 Q2),A6 (j:=(⟨(IntKind.i64.wrap ((IntKind.i64.wrap ((q1.h*131)+(IntKind.i64.wrap (x1))))+7)) % 1073741824,q1.i+1⟩:Si)) Q8 rfl (by dsimp only[Sj];exact⟨by omega,by omega,by omega⟩) (by dsimp only[Sj];omega)⟩
 exact⟨(⟨by dsimp only;omega,hp1⟩),rfl,rfl⟩
 exact⟨(⟨by dsimp only;omega,hp1⟩),rfl,rfl⟩
structure P2 where
 l:List Int
 c1:Cur
def Dr (c:Cur) (n:Int) (o:P2):Prop:=Fun Tryz.prog 193 [vP 0,vI n] [.cells (Ct c)] (.v (vO 1)) [.cells (Ct o.c1),.lst .u8 o.l]
def B1 (c:Cur) (n:Int) (o:P2):Prop:=((List.length o.l≤Int.toNat n)∧(A4 o.c1))∧Dr c n o
structure M2 where
 c:Cur
 b:List Int
 i:Nat
def M3 (n:Int):Fam:=⟨M2,fun q1=>[(0,.v (vP 0)),(1,.v (vI n)),(5,.v (vO 1)),(6,.v (vI ((q1.i:Nat):Int)))],fun q1=>[.cells (Ct q1.c),.lst .u8 q1.b],fun q1=>A4 q1.c∧List.length q1.b=q1.i∧(q1.i=0∨((q1.i:Nat):Int)≤n),fun q1=>Int.toNat n-q1.i⟩
theorem Fi (c:Cur) (n:Int) (hp1:A4 c) (hp2:n≤100000): ∃o:P2,B1 c n o:=by
 have hN:Bh=274877906944:=rfl
 refine Cj Tryz.func193 Q4 Q4 (w:=let z2:=M3 n;(.sZ [.ty .u8,.at 0,.keep [0,1,5,6],.sel [0,1]] (.loop z2 fun q1=> .br (.intro (Ex q1.c) fun o1=> .sZ [.call [0] (.v (vI o1.x)) (Kc o1.c1),.as 16 (.v (.c (.int .u8 o1.x))),.ty .u8,.ty .u8,.as 12 (.v (vI (((q1.i:Nat):Int)+1))),.at 0,.keep [0,1,5,6],.sel [0,3]] (.next)) (.lJ (⟨q1.b,q1.c⟩:P2) [0,1])),z2.Has [(0,.v (vP 0)),(1,.v (vI n)),(5,.v (vO 1)),(6,.v (vI 0))] [.cells (Ct c),.lst .u8 ([]:List Int)]∧∀q1,z2.inv q1→(let z1:=((q1.i:Nat):Int);Bc (decide (z1<n)) (In (Ex q1.c) fun o1=>((Hu q1.c o1)∧((.v (.c (.int .u8 (IntKind.u8.wrap (o1.x)))):S)= .v (.c (.int .u8 o1.x)))∧(q1.b.length+List.length [o1.x]≤Bh)∧(wI (z1+1))∧z2.Nxt q1 [(0,.v (vP 0)),(1,.v (vI n)),(5,.v (vO 1)),(6,.v (vI (z1+1)))] [.cells (Ct o1.c1),.lst .u8 (q1.b++[o1.x])])) (((q1.b.length≤Int.toNat n)∧(A4 q1.c))∧Lf (.v (vO 1)) (.v (vO 1)) [.cells (Ct q1.c),.lst .u8 q1.b] [.cells (Ct q1.c),.lst .u8 q1.b])))) Q4 ?_
 refine⟨Bp (j:=(⟨c,([]:List Int),0⟩:M2)) Q8 rfl (by dsimp only[M3];exact⟨hp1,rfl,.inl rfl⟩),fun (q1:M2) hq_q1=>?_⟩
 have hi_q1:A4 q1.c∧q1.b.length=q1.i∧(q1.i=0∨((q1.i:Nat):Int)≤n):=hq_q1
 obtain ⟨v1,v2,v3⟩:=hi_q1
 refine dsp (fun h1 p1=>?_) fun h1 p1=>?_
 refine⟨(P1 q1.c Q0),fun o1 ho_o1=>?_⟩
 obtain ⟨⟨hp_o1_0,hp_o1_1⟩,hf_o1⟩:=ho_o1
 exact⟨hf_o1,(Nd Q2 Q2),Q6,(Ad Q2 Q2),A6 (j:=(⟨o1.c1,q1.b++[o1.x],q1.i+1⟩:M2)) Q8 rfl (by dsimp only[M3];exact⟨by assumption,by simp;omega,by omega⟩) (by dsimp only[M3];omega)⟩
 exact⟨⟨Q2,Q0⟩,rfl,rfl⟩
structure Aoi where
 l:List Rd
 c1:Cur
structure Am7 where
 c:Cur
 oJ:List Rd
 i:Nat
structure Raw where
 mQ:List Shp
structure Vio where
 code:Int
 mK:Int
 field:Int
structure At5 (ids:List Int) (f:Fld):Prop where
 num:D3 f.nJ=true
 kd:1≤f.kind∧f.kind≤8
 pk:f.packed=true→f.rep=true∧f.kind≤5
 ref:f.kind=8→f.mK∈ids
 no:f.kind≠8→f.mK=0
 n44:f.nJ≠44
def Am8 (fs:List Fld):List Int:=fs.map fun f=>f.nJ
def Hw (l:List Shp):List Int:=l.map fun m=>m.id
def Ru (l:List Shp) (id:Int):Bool:=l.any fun m=>decide (m.id=id)
def Cq (l:List Fld) (n:Int):Bool:=l.any fun f=>decide (f.nJ=n)
structure FldsG (ids:List Int) (fs:List Fld):Prop where
 len:fs.length≤5
 num:(Am8 fs).Nodup
 all: ∀f∈fs,At5 ids f
structure RawK (n:Nat) (l:List Shp):Prop where
 len:l.length=n
 pos:1≤n∧n≤3
 ids:Hw l=[5,1,99].take n
 flds: ∀m∈l,FldsG (Hw l) m.fJ
theorem Agh {l:List Fld} {n:Int} :Cq l n=false↔∀f∈l,f.nJ≠n:=by
 simp[Cq]
theorem Ae0 {l:List Shp} {x:Int} :Ru l x=true↔x∈Hw l:=by
 simp[Ru,Hw]
theorem Aaz {l:List Int} (h:l.Nodup) {i:Nat} {x:Int} (hx:l[i]? =some x):x ∉ l.take i:=by
 intro hm
 obtain ⟨j,hj,he⟩:=List.mem_take_iff_getElem.1 hm
 have hi:=(List.getElem?_eq_some_iff.1 hx)
 obtain ⟨hi1,hi2⟩:=hi
 exact List.pairwise_iff_getElem.1 h j i Q2 hi1 Q2 (by rw[hi2,he])
theorem RawK.nodup {n:Nat} {l:List Shp} (h:RawK n l):(Hw l).Nodup:=by
 rw[h.ids]
 have h2:=h.pos
 have:n=1∨n=2∨n=3:=by omega
 rcases this with rfl|rfl|rfl<;>decide
theorem RawK.noId {n:Nat} {l:List Shp} (h:RawK n l) {i:Nat} {m:Shp} (hm:l[i]? =some m):Ru (l.take i) m.id=false:=by
 cases hc:Ru (l.take i) m.id with
 |false=>rfl
 |true=>
  have:=Ae0.1 hc
  unfold Hw at this
  rw[List.map_take] at this
  exact absurd this (Aaz (l:=Hw l) h.nodup (by unfold Hw;rw[List.getElem?_map,hm];rfl))
theorem FldsG.noNum {ids:List Int} {fs:List Fld} (h:FldsG ids fs) {i:Nat} {f:Fld} (hf:fs[i]? =some f):Cq (fs.take i) f.nJ=false:=by
 rw[Agh]
 intro g hg he
 have:f.nJ∈(Am8 fs).take i:=by
  unfold Am8
  rw[←List.map_take]
  exact List.mem_map.2 ⟨g,hg,he⟩
 exact absurd this (Aaz (l:=Am8 fs) h.num (by unfold Am8;rw[List.getElem?_map,hf];rfl))
theorem RawK.id_ok {n:Nat} {l:List Shp} (h:RawK n l) {m:Shp} (hm:m∈l):1≤m.id∧m.id≤99:=by
 have hx:m.id∈Hw l:=List.mem_map.2 ⟨m,hm,rfl⟩
 rw[h.ids] at hx
 have:=List.mem_of_mem_take hx
 simp at this
 omega
theorem Akz {l:List Shp} {i:Nat} {m:Shp} {fs:List Fld} (h:l[i]? =some m):Hw (l.set i ⟨m.id,fs⟩)=Hw l:=by
 unfold Hw
 apply List.ext_getElem?
 intro j
 rw[List.getElem?_map,List.getElem?_map,List.getElem?_set]
 split
 ·rename_i hij
  subst hij
  have hl:=(List.getElem?_eq_some_iff.1 h).1
  rw[if_pos hl,h]
  rfl
 ·rfl
theorem Aoj (fs:List Fld) (f:Fld):Am8 (fs++[f])=Am8 fs++[f.nJ]:=by simp[Am8]
theorem RawK.add {n:Nat} {l:List Shp} (h:RawK n l) {i:Nat} {m:Shp} {f:Fld} (hm:l[i]? =some m) (hf:At5 (Hw l) f) (hn:Cq m.fJ f.nJ=false) (hk:m.fJ.length≤4):RawK n (l.set i ⟨m.id,m.fJ++[f]⟩):=by
 have hM:=h.flds m (List.mem_of_getElem? hm)
 refine⟨by rw[List.length_set];exact h.len,h.pos,by rw[Akz hm];exact h.ids,fun x hx=>?_⟩
 rw[Akz hm]
 rcases List.mem_or_eq_of_mem_set hx with hx|rfl
 ·exact h.flds x hx
 ·refine⟨by rw[List.length_append];simp;omega,?_,fun g hg=>?_⟩
  ·show (Am8 (m.fJ++[f])).Nodup
   rw[Aoj,List.nodup_append]
   refine⟨hM.num,by simp,fun a ha b hb=>?_⟩
   simp at hb
   subst hb
   intro e
   subst e
   obtain ⟨g,hg,he⟩:=List.mem_map.1 ha
   exact Agh.1 hn g hg he
  ·rcases List.mem_append.1 hg with hg|hg
   ·exact hM.all g hg
   ·simp at hg;subst hg;exact hf
def Y3 (l:List Shp) (id:Int):Nat:=(l.filter fun m=>decide (m.id<id)).length
theorem Adk {l:List Shp} {i:Nat} {m:Shp} {id:Int} (h:l[i]? =some m):Y3 (l.take (i+1)) id=Y3 (l.take i) id+(if m.id<id then 1 else 0):=by
 have ht:l.take (i+1)=l.take i++[m]:=by rw[List.take_add_one,h];rfl
 unfold Y3
 rw[ht,List.filter_append,List.length_append]
 split<;>simp[*]
theorem Aq6 (l:List Shp) (id:Int):Y3 l id≤l.length:=List.length_filter_le _ _
theorem Ak0 {l:List Shp} {id:Int} (h:id∈Hw l):Y3 l id<l.length:=by
 obtain ⟨m,hm,rfl⟩:=List.mem_map.1 h
 unfold Y3
 rcases Nat.lt_or_ge (l.filter fun x=>decide (x.id<m.id)).length l.length with h|h
 ·exact h
 ·have:=List.length_filter_eq_length_iff.1 (Nat.le_antisymm (List.length_filter_le _ _) h) m hm
  simp at this
theorem RawK.no55 {n:Nat} {l:List Shp} (h:RawK n l) {x:Int} (hx:x∈Hw l):x≠55:=by
 rw[h.ids] at hx
 have hm:=List.mem_of_mem_take hx
 simp at hm
 omega
def Ap7 (n:Nat) (e:Shp):Prop:=(e.fJ.length≤5∧e.id≠55)∧∀f∈e.fJ,1≤f.kind∧f.kind≤8∧(f.kind=8→0≤f.mK∧f.mK<(n:Int))∧f.nJ≠44
def SchG (l:List Shp):Prop:=(1≤l.length∧l.length≤3)∧∀e∈l,Ap7 l.length e
structure PlnG (p:Pln):Prop where
 sch:SchG p.sQ
 rJ:0≤p.rJ∧p.rJ<(p.sQ.length:Int)
 dJ:1≤p.dJ∧p.dJ≤4
 most:0≤p.most∧p.most≤2000
def Aim (p:Pln):Prop:=p.sQ.length≤7∧∀e∈p.sQ,e.fJ.length≤6
theorem PlnG.b {p:Pln} (h:PlnG p):Aim p:=⟨by have:=h.sch.1;omega,fun e he=>by have:=(h.sch.2 e he).1;omega⟩
theorem Adm {α:Type} {l:List α} {i:Nat} {x:α} (h:l[i]? =some x):l.take (i+1)=l.take i++[x]:=by rw[List.take_add_one,h];rfl
theorem Ahs {l:List Shp} {i:Nat} {m:Shp} {id:Int} (h:l[i]? =some m):Ru (l.take (i+1)) id=(Ru (l.take i) id||decide (m.id=id)):=by
 rw[Adm h];simp[Ru]
theorem Ae1 {l:List Fld} {i:Nat} {f:Fld} {n:Int} (h:l[i]? =some f):Cq (l.take (i+1)) n=(Cq (l.take i) n||decide (f.nJ=n)):=by
 rw[Adm h];simp[Cq]
theorem Aht {l:List Shp} {i:Nat} {m:Shp} {id:Int} {k:Nat} (h:l[i]? =some m) (hi:i<k) (he:m.id=id):Ru (l.take k) id=true:=by
 rw[Ru,List.any_eq_true]
 exact⟨m,List.mem_of_getElem? (by rw[List.getElem?_take,if_pos hi];exact h),by simpa using he⟩
theorem Ae2 {l:List Fld} {i:Nat} {f:Fld} {n:Int} (h:l[i]? =some f) (he:f.nJ=n):Cq l n=true:=by
 rw[Cq,List.any_eq_true]
 exact⟨f,List.mem_of_getElem? h,by simpa using he⟩
structure Sk where
 i:Nat
def Sn (r:Raw) (id:Int) (n:Int):Fam:=⟨Sk,fun q1=>[(1,.v (vI id)),(2,.v (vI n)),(3,.v (vP 0)),(7,.v (vI ((q1.i:Nat):Int)))],fun _=>[.cells [.seq .shp r.mQ]],fun q1=>((q1.i:Nat):Int)≤n∧Ru (List.take q1.i r.mQ) id=false,fun q1=>Int.toNat n-q1.i⟩
theorem Ae3 (r:Raw) (id:Int) (n:Int) (hp1:(0:Int)≤n∧n≤((List.length (r).mQ:Nat):Int)) (hp2:List.length (r).mQ≤1000):Fun Tryz.prog 232 [.agg [.seq .shp r.mQ],vI id,vI n] [] (.v (vB (Ru (List.take (Int.toNat n) (r).mQ) id))) []:=by
 have hN:Bh=274877906944:=rfl
 refine Ar Tryz.func232 Q4 Q4 (w:=let z2:S:= .v (vB (Ru (List.take (Int.toNat n) (r).mQ) id));let z3:=Sn r id n;(.sZ [.at 0,.keep [1,2,3,7],.sel [0]] (.loop z3 fun q1=> .br (.intro (Sx (r.mQ[q1.i]?)) fun x1=> .sZ [.el .shp x1] (.br (.lJ () []) (.sZ [.as 12 (.v (vI (((q1.i:Nat):Int)+1))),.at 0,.keep [1,2,3,7],.sel [0]] (.next)))) (.lJ () [])),z3.Has [(1,.v (vI id)),(2,.v (vI n)),(3,.v (vP 0)),(7,.v (vI 0))] [.cells [.seq .shp r.mQ]]∧∀q1,z3.inv q1→(let z1:=((q1.i:Nat):Int);Bc (decide (z1<n)) (El (r.mQ[q1.i]?) fun x1=>((r.mQ[q1.i]? =some x1)∧((0:Int)≤z1)∧Bc (decide (x1.id=id)) (Lf (.v (vB true)) z2 [] []) ((wI (z1+1))∧z3.Nxt q1 [(1,.v (vI id)),(2,.v (vI n)),(3,.v (vP 0)),(7,.v (vI (z1+1)))] [.cells [.seq .shp r.mQ]]))) (Lf (.v (vB false)) z2 [] [])))) Q4 ?_
 refine⟨Bp (j:=(⟨0⟩:Sk)) Q8 rfl (by dsimp only[Sn];exact⟨by omega,rfl⟩),fun (q1:Sk) hq_q1=>?_⟩
 have hi_q1:((q1.i:Nat):Int)≤n∧Ru (List.take q1.i r.mQ) id=false:=hq_q1
 obtain ⟨v1,v2⟩:=hi_q1
 refine dsp (fun h1 p1=>?_) fun h1 p1=>?_
 refine⟨(Bo (l:=r.mQ) (i:=q1.i) Q2),fun x1 hx1=>?_⟩
 refine⟨hx1,Q2,dsp (fun h2 p2=>?_) fun h2 p2=>?_⟩
 exact⟨(sB W66),rfl⟩
 exact⟨(Ad Q2 Q2),A6 (j:=(⟨q1.i+1⟩:Sk)) Q8 rfl (by dsimp only[Sn];exact⟨by omega,by rw[Ahs hx1,v2];simpa using by assumption⟩) (by dsimp only[Sn];omega)⟩
 have hin:Int.toNat n=q1.i:=by omega
 exact⟨(sB W66),rfl⟩
structure P3 where
 i:Nat
def P4 (l:List Fld) (n:Int):Fam:=⟨P3,fun q1=>[(0,.v (.c (.seq .fld l))),(1,.v (vI n)),(5,.v (vI ((q1.i:Nat):Int)))],fun _=>[],fun q1=>q1.i≤List.length l∧Cq (List.take q1.i l) n=false,fun q1=>List.length l-q1.i⟩
theorem Gw (l:List Fld) (n:Int) (hp1:l.length≤1000):Fun Tryz.prog 221 [.c (.seq .fld l),vI n] [] (.v (vB (Cq l n))) []:=by
 have hN:Bh=274877906944:=rfl
 refine Ar Tryz.func221 Q4 Q4 (w:=let z2:=P4 l n;(.sZ [.at 0,.keep [0,1,5],.sel []] (.loop z2 fun q1=> .br (.intro (Sx (l[q1.i]?)) fun x1=> .sZ [.el .fld x1] (.br (.lJ () []) (.sZ [.as 11 (.v (vI (((q1.i:Nat):Int)+1))),.at 0,.keep [0,1,5],.sel []] (.next)))) (.lJ () [])),z2.Has [(0,.v (.c (.seq .fld l))),(1,.v (vI n)),(5,.v (vI 0))] []∧∀q1,z2.inv q1→(let z1:=((q1.i:Nat):Int);Bc (decide (z1<((l.length:Nat):Int))) (El (l[q1.i]?) fun x1=>((l[q1.i]? =some x1)∧((0:Int)≤z1)∧Bc (decide (x1.nJ=n)) (Lf (.v (vB true)) (.v (vB (Cq l n))) [] []) ((wI (z1+1))∧z2.Nxt q1 [(0,.v (.c (.seq .fld l))),(1,.v (vI n)),(5,.v (vI (z1+1)))] []))) (Lf (.v (vB false)) (.v (vB (Cq l n))) [] [])))) Q4 ?_
 refine⟨Bp (j:=(⟨0⟩:P3)) Q8 rfl (by dsimp only[P4];exact⟨by omega,rfl⟩),fun (q1:P3) hq_q1=>?_⟩
 have hi_q1:q1.i≤l.length∧Cq (List.take q1.i l) n=false:=hq_q1
 obtain ⟨v1,v2⟩:=hi_q1
 refine dsp (fun h1 p1=>?_) fun h1 p1=>?_
 refine⟨(Bo (l:=l) (i:=q1.i) Q2),fun x1 hx1=>?_⟩
 refine⟨hx1,Q2,dsp (fun h2 p2=>?_) fun h2 p2=>?_⟩
 exact⟨(sB W67),rfl⟩
 exact⟨(Ad Q2 Q2),A6 (j:=(⟨q1.i+1⟩:P3)) Q8 rfl (by dsimp only[P4];exact⟨by omega,by rw[Ae1 hx1,v2];simpa using by assumption⟩) (by dsimp only[P4];omega)⟩
 have hin:List.take q1.i l=l:=List.take_of_length_le (by omega)
 rw[hin] at v2
 exact⟨(sB W67),rfl⟩
theorem Ak1 (r:Raw) (mK:Int) (hp1:RawK (List.length (r).mQ) (r).mQ) (hp2:(0:Int)≤mK∧mK<((List.length (r).mQ:Nat):Int)):Fun Tryz.prog 229 [.agg [.seq .shp r.mQ],vI mK] [] (.v (vI 0)) []:=by
 have hN:Bh=274877906944:=rfl
 have hpos:=hp1.pos
 refine Ar Tryz.func229 Q4 Q4 (w:=let z2:=((r.mQ.length:Nat):Int)-1;let z3:=List.take (Int.toNat mK) (r).mQ;let z4:S:= .v (vI 0);(.sZ [.as 10 (.v (vI z2)),.call [] (.v (vB (Ak mK 0 z2))) []] (.br (.lJ () []) (.intro (Sx (r.mQ[Int.toNat mK]?)) fun x1=> .sZ [.el .shp x1,.call [] (.v (vB (Ak x1.id 1 99))) []] (.br (.lJ () []) (.sZ [.call [] (.v (vB (Ru z3 x1.id))) [],.br false,.br false] (.lJ () []))))),(wI z2)∧(Fp 44 [vI mK,vI 0,vI z2] [] (.v (vB (Ak mK 0 z2))) [])∧Bc (!(Ak mK 0 z2)) (Lf z4 z4 [] []) (El (r.mQ[Int.toNat mK]?) fun x1=>(let z1:=Ru z3 x1.id;(r.mQ[Int.toNat mK]? =some x1)∧((0:Int)≤mK)∧(Fp 44 [vI x1.id,vI 1,vI 99] [] (.v (vB (Ak x1.id 1 99))) [])∧Bc (!(Ak x1.id 1 99)) (Lf (.v (vI 2)) z4 [] []) ((Fp 232 [.agg [.seq .shp r.mQ],vI x1.id,vI mK] [] (.v (vB z1)) [])∧(z1=false)∧((decide (8<((x1.fJ.length:Nat):Int)))=false)∧Lf z4 z4 [] []))))) Q4 ?_
 refine⟨(Ad Q2 Q2),(Bb _ _ _),fun h1=>have q1:=Ao h1;have p1:=A0 q1;?_,fun h1=>have q1:=An h1;have p1:=Av q1;?_⟩
 exact⟨rfl,rfl⟩
 refine⟨(Bo (l:=r.mQ) (i:=Int.toNat mK) Q2),fun x1 hx1=>?_⟩
 have hid:=hp1.id_ok (List.mem_of_getElem? hx1)
 have hfl:=(hp1.flds _ (List.mem_of_getElem? hx1)).len
 have hno:=hp1.noId hx1
 refine⟨hx1,Q2,(Bb _ _ _),fun h2=>have q2:=Ao h2;have p2:=A0 q2;?_,fun h2=>have q2:=An h2;have p2:=Av q2;?_⟩
 exact⟨(sI W68),rfl⟩
 exact⟨(Ae3 r _ _ Q2 Q2),hno,(decide_eq_false Q2),rfl,rfl⟩
theorem Ae4 (r:Raw) (mK:Int) (field:Int) (hp1:RawK (List.length (r).mQ) (r).mQ) (hp2:(0:Int)≤mK∧mK<((List.length (r).mQ:Nat):Int)) (hp3: ∀m,(r).mQ[Int.toNat mK]? =some m→(0:Int)≤field∧field<((m.fJ.length:Nat):Int)):Fun Tryz.prog 230 [.agg [.seq .shp r.mQ],vI mK,vI field] [] (.v (vI 0)) []:=by
 have hN:Bh=274877906944:=rfl
 have hpos:=hp1.pos
 refine Ar Tryz.func230 Q4 Q4 (w:=let z9:=((r.mQ.length:Nat):Int);let z10:S:= .v (vI 0);let z11:=Lf (.v (vI 9)) z10 [] [];let z12:=Lf z10 z10 [] [];let z13:=Ak mK 0 (z9-1);let z14:=List.take (Int.toNat z9) (r).mQ;let z15:=(0:Int)≤field;(.sZ [.as 13 (.v (vI (z9-1))),.call [] (.v (vB z13)) []] (.br (.lJ () []) (.intro (Sx (r.mQ[Int.toNat mK]?)) fun x1=>let z5:=((x1.fJ.length:Nat):Int)-1;.sZ [.el .shp x1,.as 25 (.v (vI z5)),.call [] (.v (vB (Ak field 0 z5))) []] (.br (.lJ () []) (.sZ [.el .shp x1] (.intro (Sx (x1.fJ[Int.toNat field]?)) fun x2=>let z1:S:= .v (vB (Ru z14 x2.mK));.sZ [.el .fld x2,.call [] (.v (vB (D3 x2.nJ))) []] (.br (.lJ () []) (.sZ [.ord (os 7 [5]) [],.call [] (.v (vB (Cq (List.take (Int.toNat field) x1.fJ) x2.nJ))) [],.br false,.call [] (.v (vB (En x2.kind))) []] (.br (.lJ () []) (.br (.br (.lJ () []) (.sZ [.call [] (.v (vB (C1 x2.kind))) []] (.br (.lJ () []) (.br (.sZ [.call [] z1 []] (.br (.lJ () []) (.br (.br (.lJ () []) (.lJ () [])) (.lJ () [])))) (.br (.br (.lJ () []) (.lJ () [])) (.lJ () [])))))) (.br (.sZ [.call [] z1 []] (.br (.lJ () []) (.br (.br (.lJ () []) (.lJ () [])) (.lJ () [])))) (.br (.br (.lJ () []) (.lJ () [])) (.lJ () [])))))))))))),(wI (z9-1))∧(Fp 44 [vI mK,vI 0,vI (z9-1)] [] (.v (vB z13)) [])∧Bc (!z13) z12 (El (r.mQ[Int.toNat mK]?) fun x1=>(let z6:=((x1.fJ.length:Nat):Int);let z7:=List.take (Int.toNat field) x1.fJ;let z8:=r.mQ[Int.toNat mK]? =some x1;z8∧((0:Int)≤mK)∧(wI (z6-1))∧(Fp 44 [vI field,vI 0,vI (z6-1)] [] (.v (vB (Ak field 0 (z6-1)))) [])∧Bc (!(Ak field 0 (z6-1))) z12 (z8∧((0:Int)≤mK)∧El (x1.fJ[Int.toNat field]?) fun x2=>(let z2:=Bc (!decide (x2.kind=8)) (Bc (!decide (x2.mK=0)) z11 z12) z12;let z3:=Ru z14 x2.mK;let z4:=Cq z7 x2.nJ;(x1.fJ[Int.toNat field]? =some x2)∧z15∧(Fp 156 [vI x2.nJ] [] (.v (vB (D3 x2.nJ))) [])∧Bc (!(D3 x2.nJ)) (Lf (.v (vI 5)) z10 [] []) ((field≤z6)∧z15∧(field≤z6)∧z15∧(Fp 221 [.c (.seq .fld z7),vI x2.nJ] [] (.v (vB z4)) [])∧(z4=false)∧(Fp 157 [vI x2.kind] [] (.v (vB (En x2.kind))) [])∧Bc (!(En x2.kind)) (Lf (.v (vI 7)) z10 [] []) (Bc x2.packed (Bc (!x2.rep) (Lf (.v (vI 8)) z10 [] []) ((Fp 158 [vI x2.kind] [] (.v (vB (C1 x2.kind))) [])∧Bc (!(C1 x2.kind)) (Lf (.v (vI 8)) z10 [] []) (Bc (decide (x2.kind=8)) ((Fp 232 [.agg [.seq .shp r.mQ],vI x2.mK,vI z9] [] (.v (vB z3)) [])∧Bc (!z3) z11 z2) z2))) (Bc (decide (x2.kind=8)) ((Fp 232 [.agg [.seq .shp r.mQ],vI x2.mK,vI z9] [] (.v (vB z3)) [])∧Bc (!z3) z11 z2) z2))))))))) Q4 ?_
 refine⟨(Ad Q2 Q2),(Bb _ _ _),fun h1=>have q1:=Ao h1;have p1:=A0 q1;?_,fun h1=>have q1:=An h1;have p1:=Av q1;?_⟩
 exact⟨rfl,rfl⟩
 refine⟨(Bo (l:=r.mQ) (i:=Int.toNat mK) Q2),fun x1 hx1=>?_⟩
 have hfb:=hp3 _ hx1
 have hfg:=hp1.flds _ (List.mem_of_getElem? hx1)
 have hfl:=hfg.len
 refine⟨hx1,Q2,(Ad Q2 Q2),(Bb _ _ _),fun h2=>have q2:=Ao h2;have p2:=A0 q2;?_,fun h2=>have q2:=An h2;have p2:=Av q2;?_⟩
 exact⟨rfl,rfl⟩
 refine⟨hx1,Q2,(Bo (l:=x1.fJ) (i:=Int.toNat field) Q2),fun x2 hx2=>?_⟩
 have hg:=hfg.all _ (List.mem_of_getElem? hx2)
 have hnn:=hfg.noNum hx2
 have hgk:=hg.kd
 have hgm:=hg.num
 have hgo:En x2.kind=true:=by simp only[En,Ak,Bool.and_eq_true,decide_eq_true_eq];omega
 have hgp:=hg.pk
 have hgn:=hg.no
 refine⟨hx2,Q2,(Aan _),fun h3=>have q3:=Ao h3;?_,fun h3=>have q3:=An h3;?_⟩
 exact⟨(sI W69),rfl⟩
 refine⟨Q2,Q2,Q2,Q2,(Gw _ _ (by simp only[List.length_take];omega)),hnn,(Xg _),fun h4=>have q4:=Ao h4;have p4:=A0 q4;?_,fun h4=>have q4:=An h4;have p4:=Av q4;?_⟩
 exact⟨(sI W69),rfl⟩
 refine⟨fun h5=>?_,fun h5=>?_⟩
 refine⟨fun h6=>have q6:=Ao h6;?_,fun h6=>have q6:=An h6;?_⟩
 exact⟨(sI W69),rfl⟩
 refine⟨(Nh _),fun h7=>have q7:=Ao h7;have p7:=A0 q7;?_,fun h7=>have q7:=An h7;have p7:=Av q7;?_⟩
 exact⟨(sI W69),rfl⟩
 refine dsp (fun h8 p8=>?_) fun h8 p8=>?_
 have hir:=(Ae0 (l:=r.mQ)).2 (hg.ref (by omega))
 refine⟨(Ae3 r _ _ Q2 Q2),fun h9=>have q9:=Ao h9;?_,fun h9=>have q9:=An h9;?_⟩
 exact⟨(sI W69),rfl⟩
 refine⟨fun h10=>have q10:=Ao h10;have p10:=of_decide_eq_false q10;?_,fun h10=>have q10:=An h10;have p10:=of_decide_eq_true q10;?_⟩
 refine⟨fun h11=>have q11:=Ao h11;have p11:=of_decide_eq_false q11;?_,fun h11=>have q11:=An h11;have p11:=of_decide_eq_true q11;?_⟩
 exact⟨(sI W69),rfl⟩
 exact⟨rfl,rfl⟩
 exact⟨rfl,rfl⟩
 refine⟨fun h9=>have q9:=Ao h9;have p9:=of_decide_eq_false q9;?_,fun h9=>have q9:=An h9;have p9:=of_decide_eq_true q9;?_⟩
 refine⟨fun h10=>have q10:=Ao h10;have p10:=of_decide_eq_false q10;?_,fun h10=>have q10:=An h10;have p10:=of_decide_eq_true q10;?_⟩
 exact⟨(sI W69),rfl⟩
 exact⟨rfl,rfl⟩
 exact⟨rfl,rfl⟩
 refine dsp (fun h6 p6=>?_) fun h6 p6=>?_
 have hir:=(Ae0 (l:=r.mQ)).2 (hg.ref (by omega))
 refine⟨(Ae3 r _ _ Q2 Q2),fun h7=>have q7:=Ao h7;?_,fun h7=>have q7:=An h7;?_⟩
 exact⟨(sI W69),rfl⟩
 refine⟨fun h8=>have q8:=Ao h8;have p8:=of_decide_eq_false q8;?_,fun h8=>have q8:=An h8;have p8:=of_decide_eq_true q8;?_⟩
 refine⟨fun h9=>have q9:=Ao h9;have p9:=of_decide_eq_false q9;?_,fun h9=>have q9:=An h9;have p9:=of_decide_eq_true q9;?_⟩
 exact⟨(sI W69),rfl⟩
 exact⟨rfl,rfl⟩
 exact⟨rfl,rfl⟩
 refine⟨fun h7=>have q7:=Ao h7;have p7:=of_decide_eq_false q7;?_,fun h7=>have q7:=An h7;have p7:=of_decide_eq_true q7;?_⟩
 refine⟨fun h8=>have q8:=Ao h8;have p8:=of_decide_eq_false q8;?_,fun h8=>have q8:=An h8;have p8:=of_decide_eq_true q8;?_⟩
 exact⟨(sI W69),rfl⟩
 exact⟨rfl,rfl⟩
 exact⟨rfl,rfl⟩
structure Ns where
 i:Nat
def So (r:Raw):Fam:=⟨Ns,fun q1=>[(1,.v (vP 0)),(2,.v (vP 1)),(3,.v (vI ((q1.i:Nat):Int)))],fun _=>[.cells [.seq .shp r.mQ],.cells [.int .i64 0,.int .i64 0,.int .i64 0]],fun q1=>q1.i≤List.length r.mQ,fun q1=>List.length r.mQ-q1.i⟩
structure Sp where
 k:Nat
def Jx (r:Raw) (q1:Ns):Fam:=⟨Sp,fun q2=>[(1,.v (vP 0)),(2,.v (vP 1)),(3,.v (vI ((q1.i:Nat):Int))),(5,.v (vI ((q2.k:Nat):Int)))],fun _=>[.cells [.seq .shp r.mQ],.cells [.int .i64 0,.int .i64 0,.int .i64 0]],fun q2=>q2.k≤5,fun q2=>5-q2.k⟩
theorem Aq7 (r:Raw) (hp1:RawK (List.length (r).mQ) (r).mQ):Fun Tryz.prog 218 [.agg [.seq .shp r.mQ]] [] (.v (.agg [.int .i64 0,.int .i64 0,.int .i64 0])) []:=by
 have hN:Bh=274877906944:=rfl
 have hpos:=hp1.pos
 refine Ar Tryz.func218 Q4 Q4 (w:=let zi:Int→C:= .int .i64;let z3:List Blk:=[.cells [.seq .shp r.mQ],.cells [zi 0,zi 0,zi 0]];let z4:S:= .v (.agg [zi 0,zi 0,zi 0]);let z5:=So r;let z6:=((r.mQ.length:Nat):Int);(.br (.lJ () []) (.sZ [.at 0,.keep [1,2,3],.sel [0,1]] (.loop z5 fun q1=> .br (.sZ [.call [] (.v (vI 0)) [],.br false,.at 0,.keep [1,2,3,5],.sel [0,1]] (.loop (Jx r q1) fun q2=> .intro (Sx (r.mQ[q1.i]?)) fun x1=> .sZ [.el .shp x1] (.br (.sZ [.call [] (.v (vI 0)) [],.br false,.as 36 (.v (vI (((q2.k:Nat):Int)+1))),.at 0,.keep [1,2,3,5],.sel [0,1]] (.next)) (.sZ [.as 17 (.v (vI (((q1.i:Nat):Int)+1))),.at 0,.keep [1,2,3],.sel [0,1]] (.next))))) (.lJ () []))),Bc (decide (6<z6)) (Lf (.v (.agg [zi 1,zi 6,zi (-1)])) z4 [] []) (z5.Has [(1,.v (vP 0)),(2,.v (vP 1)),(3,.v (vI 0))] z3∧∀q1,z5.inv q1→(let z2:=((q1.i:Nat):Int);Bc (decide (z2<z6)) ((Fp 229 [.agg [.seq .shp r.mQ],vI z2] [] (.v (vI 0)) [])∧((!decide (0=0))=false)∧(Jx r q1).Has [(1,.v (vP 0)),(2,.v (vP 1)),(3,.v (vI z2)),(5,.v (vI 0))] z3∧∀q2,(Jx r q1).inv q2→(let z1:=((q2.k:Nat):Int);El (r.mQ[q1.i]?) fun x1=>((r.mQ[q1.i]? =some x1)∧((0:Int)≤z2)∧Bc (decide (z1<((x1.fJ.length:Nat):Int))) ((Fp 230 [.agg [.seq .shp r.mQ],vI z2,vI z1] [] (.v (vI 0)) [])∧((!decide (0=0))=false)∧(wI (z1+1))∧(Jx r q1).Nxt q2 [(1,.v (vP 0)),(2,.v (vP 1)),(3,.v (vI z2)),(5,.v (vI (z1+1)))] z3) ((wI (z2+1))∧z5.Nxt q1 [(1,.v (vP 0)),(2,.v (vP 1)),(3,.v (vI (z2+1)))] z3)))) (Lf z4 z4 [] []))))) Q4 ?_
 refine dsp (fun h1 p1=>?_) fun h1 p1=>?_
 exact⟨(congrArg S.v (congrArg V.agg (Ab (cI W69) (Ab (cI W69) (Ab (cI W69) rfl))))),rfl⟩
 refine⟨Bp (j:=(⟨0⟩:Ns)) Q8 rfl (by dsimp only[So];omega),fun (q1:Ns) hq_q1=>?_⟩
 have hi_q1:q1.i≤r.mQ.length:=hq_q1
 have v1:=hi_q1
 refine dsp (fun h2 p2=>?_) fun h2 p2=>?_
 refine⟨(Ak1 r _ Q2 Q2),Q27,Bp (j:=(⟨0⟩:Sp)) Q8 rfl (by dsimp only[Jx];omega),fun (q2:Sp) hq_q2=>?_⟩
 have hi_q2:q2.k≤5:=hq_q2
 have w1:=hi_q2
 refine⟨(Bo (l:=r.mQ) (i:=q1.i) Q2),fun x1 hx1=>?_⟩
 have hfl:=(hp1.flds _ (List.mem_of_getElem? hx1)).len
 refine⟨hx1,Q2,dsp (fun h3 p3=>?_) fun h3 p3=>?_⟩
 exact⟨(Ae4 r _ _ Q2 Q2 (fun m hm=>by (try simp only[Int.toNat_natCast] at hm);rw[hx1] at hm;cases hm;omega)),Q27,(Ad Q2 Q2),A6 (j:=(⟨q2.k+1⟩:Sp)) Q8 rfl (by dsimp only[Jx];omega) (by dsimp only[Jx];omega)⟩
 exact⟨(Ad Q2 Q2),A6 (j:=(⟨q1.i+1⟩:Ns)) Q8 rfl (by dsimp only[So];omega) (by dsimp only[So];omega)⟩
 exact⟨rfl,rfl⟩
structure Rv where
 n:Int
 i:Nat
def Nt (r:Raw) (id:Int):Fam:=⟨Rv,fun q1=>[(1,.v (vI id)),(2,.v (vP 0)),(5,.v (vI q1.n)),(6,.v (vI ((q1.i:Nat):Int)))],fun _=>[.cells [.seq .shp r.mQ]],fun q1=>q1.i≤List.length r.mQ∧q1.n=((Y3 (List.take q1.i r.mQ) id:Nat):Int),fun q1=>List.length r.mQ-q1.i⟩
theorem Ap8 (r:Raw) (id:Int) (hp1:List.length (r).mQ≤1000):Fun Tryz.prog 219 [.agg [.seq .shp r.mQ],vI id] [] (.v (vI ((Y3 (r).mQ id:Nat):Int))) []:=by
 have hN:Bh=274877906944:=rfl
 refine Ar Tryz.func219 Q4 Q4 (w:=let z3:=Nt r id;let z4:List Blk:=[.cells [.seq .shp r.mQ]];(.sZ [.at 0,.keep [1,2,5,6],.sel [0]] (.loop z3 fun q1=>let z1:S:= .v (vI (((q1.i:Nat):Int)+1));.br (.intro (Sx (r.mQ[q1.i]?)) fun x1=> .sZ [.el .shp x1] (.br (.sZ [.as 23 (.v (vI (q1.n+1))),.as 13 z1,.at 0,.keep [1,2,5,6],.sel [0]] (.next)) (.sZ [.as 13 z1,.at 0,.keep [1,2,5,6],.sel [0]] (.next)))) (.lJ () [])),z3.Has [(1,.v (vI id)),(2,.v (vP 0)),(5,.v (vI 0)),(6,.v (vI 0))] z4∧∀q1,z3.inv q1→(let z2:=((q1.i:Nat):Int);Bc (decide (z2<((r.mQ.length:Nat):Int))) (El (r.mQ[q1.i]?) fun x1=>((r.mQ[q1.i]? =some x1)∧((0:Int)≤z2)∧Bc (decide (x1.id<id)) ((wI (q1.n+1))∧(wI (z2+1))∧z3.Nxt q1 [(1,.v (vI id)),(2,.v (vP 0)),(5,.v (vI (q1.n+1))),(6,.v (vI (z2+1)))] z4) ((wI (z2+1))∧z3.Nxt q1 [(1,.v (vI id)),(2,.v (vP 0)),(5,.v (vI q1.n)),(6,.v (vI (z2+1)))] z4))) (Lf (.v (vI q1.n)) (.v (vI ((Y3 (r).mQ id:Nat):Int))) [] [])))) Q4 ?_
 refine⟨Bp (j:=(⟨0,0⟩:Rv)) Q8 rfl (by dsimp only[Nt];exact⟨by omega,by simp[Y3]⟩),fun (q1:Rv) hq_q1=>?_⟩
 have hi_q1:q1.i≤r.mQ.length∧q1.n=((Y3 (List.take q1.i r.mQ) id:Nat):Int):=hq_q1
 obtain ⟨v1,v2⟩:=hi_q1
 refine dsp (fun h1 p1=>?_) fun h1 p1=>?_
 refine⟨(Bo (l:=r.mQ) (i:=q1.i) Q2),fun x1 hx1=>?_⟩
 have hrk:=Aq6 (List.take q1.i r.mQ) id
 have hrl:(List.take q1.i r.mQ).length≤q1.i:=by rw[List.length_take];omega
 refine⟨hx1,Q2,dsp (fun h2 p2=>?_) fun h2 p2=>?_⟩
 exact⟨(Ad Q2 Q2),(Ad Q2 Q2),A6 (j:=(⟨q1.n+1,q1.i+1⟩:Rv)) Q8 rfl (by dsimp only[Nt];exact⟨by omega,by rw[Adk hx1];split<;>omega⟩) (by dsimp only[Nt];omega)⟩
 exact⟨(Ad Q2 Q2),A6 (j:=(⟨q1.n,q1.i+1⟩:Rv)) Q8 rfl (by dsimp only[Nt];exact⟨by omega,by rw[Adk hx1];split<;>omega⟩) (by dsimp only[Nt];omega)⟩
 have hin:List.take q1.i r.mQ=r.mQ:=List.take_of_length_le (by omega)
 rw[hin] at v2
 exact⟨(sI W70),rfl⟩
theorem Ak2 {l:List Fld} {f g:Fld} {k:Nat} (h:g∈(([]++List.take k l)++[f])++List.drop k l):g=f∨g∈l:=by
 simp only[List.nil_append,List.mem_append,List.mem_singleton] at h
 rcases h with (h|h)|h
 ·exact .inr (List.mem_of_mem_take h)
 ·exact .inl h
 ·exact .inr (List.mem_of_mem_drop h)
structure Y4 where
 o:List Fld
def Ae5 (l:List Fld) (f:Fld) (o:Y4):Prop:=Fun Tryz.prog 220 [.c (.seq .fld l),.agg (Fg f)] [] (.v (vO 0)) [.lst .fld o.o]
def Y5 (l:List Fld) (f:Fld) (o:Y4):Prop:=((List.length o.o=List.length l+1)∧(∀g∈o.o,g=f∨g∈l))∧Ae5 l f o
structure Xp where
 k:Nat
def Xq (l:List Fld) (f:Fld):Fam:=⟨Xp,fun q1=>[(0,.v (.c (.seq .fld l))),(3,.v (vP 0)),(5,.v (vI ((q1.k:Nat):Int)))],fun _=>[.cells (Fg f)],fun q1=>q1.k≤List.length l,fun q1=>List.length l-q1.k⟩
theorem Asr (l:List Fld) (f:Fld) (hp1:l.length≤1000): ∃o:Y4,Y5 l f o:=by
 have hN:Bh=274877906944:=rfl
 refine Cj Tryz.func220 Q4 Q4 (w:=let z7:=((l.length:Nat):Int);let z8:=Xq l f;(.sZ [.at 0,.keep [0,3,5],.sel [0]] (.loop z8 fun q1=>let z1:=(([]:List Fld)++(List.take q1.k l))++[f];.case (decide (((q1.k:Nat):Int)<z7)) (.intro (Sx (l[q1.k]?)) fun x1=> .sZ [.ord (os 14 []) [],.br true,.el .fld x1] (.br (.sZ [.as 22 (.v (vI (((q1.k:Nat):Int)+1))),.at 0,.keep [0,3,5],.sel [0]] (.next)) (.sZ [.ty .fld,.ty .fld,.ord [(0,true),(1,true),(4,true),(5,true),(6,true),(2,false),(3,false),(7,false),(8,true)] [2],.ty .fld,.ty .fld,.ty .fld] (.lJ (⟨z1++(List.drop q1.k l)⟩:Y4) [5])))) (.sZ [.ord (os 14 []) [],.br false,.ty .fld,.ty .fld,.ord [(0,true),(1,true),(4,true),(5,true),(6,true),(2,false),(3,false),(7,false),(8,true)] [2],.ty .fld,.ty .fld,.ty .fld] (.lJ (⟨z1++(List.drop q1.k l)⟩:Y4) [5]))),z8.Has [(0,.v (.c (.seq .fld l))),(3,.v (vP 0)),(5,.v (vI 0))] [.cells (Fg f)]∧∀q1,z8.inv q1→(let z3:=((q1.k:Nat):Int);let z4:=([]:List Fld)++(List.take q1.k l);let z2:=(z4++[f])++(List.drop q1.k l);let z5:=List.length ([]:List Fld)+List.length (List.take q1.k l)≤Bh;let z6:=List.length (z4++[f])+List.length (List.drop q1.k l)≤Bh;Bc (decide (z3<z7)) (El (l[q1.k]?) fun x1=>(((decide (z3<z7))=true)∧(l[q1.k]? =some x1)∧((0:Int)≤z3)∧(l[q1.k]? =some x1)∧((0:Int)≤z3)∧Bc (decide (x1.nJ<f.nJ)) ((wI (z3+1))∧z8.Nxt q1 [(0,.v (.c (.seq .fld l))),(3,.v (vP 0)),(5,.v (vI (z3+1)))] [.cells (Fg f)]) ((z3≤z7)∧((0:Int)≤z3)∧z5∧(z3≤z7)∧((0:Int)≤z3)∧(z3≤z7)∧((0:Int)≤z3)∧(z4.length+List.length [f]≤Bh)∧z6∧((z2.length=l.length+1)∧(∀g∈z2,g=f∨g∈l))∧Lf (.v (vO 0)) (.v (vO 0)) [.lst .fld z2] [.lst .fld z2]))) (((decide (z3<z7))=false)∧(z3≤z7)∧((0:Int)≤z3)∧z5∧(z3≤z7)∧((0:Int)≤z3)∧(z3≤z7)∧((0:Int)≤z3)∧(z4.length+List.length [f]≤Bh)∧z6∧((z2.length=l.length+1)∧(∀g∈z2,g=f∨g∈l))∧Lf (.v (vO 0)) (.v (vO 0)) [.lst .fld z2] [.lst .fld z2])))) Q4 ?_
 refine⟨Bp (j:=(⟨0⟩:Xp)) Q8 rfl (by dsimp only[Xq];omega),fun (q1:Xp) hq_q1=>?_⟩
 have hi_q1:q1.k≤l.length:=hq_q1
 have v1:=hi_q1
 refine dsp (fun h1 p1=>?_) fun h1 p1=>?_
 refine⟨(Bo (l:=l) (i:=q1.k) Q2),fun x1 hx1=>?_⟩
 refine⟨h1,hx1,Q2,hx1,Q2,dsp (fun h2 p2=>?_) fun h2 p2=>?_⟩
 exact⟨(Ad Q2 Q2),A6 (j:=(⟨q1.k+1⟩:Xp)) Q8 rfl (by dsimp only[Xq];omega) (by dsimp only[Xq];omega)⟩
 exact⟨Q2,Q2,(by simp only[List.length_take,List.length_cons,List.length_nil];omega),Q2,Q2,Q2,Q2,(by simp;omega),(by simp;omega),⟨(by simp;omega),(fun g hg=>Ak2 hg)⟩,rfl,rfl⟩
 exact⟨h1,Q2,Q2,(by simp only[List.length_take,List.length_cons,List.length_nil];omega),Q2,Q2,Q2,Q2,(by simp;omega),(by simp;omega),⟨(by simp;omega),(fun g hg=>Ak2 hg)⟩,rfl,rfl⟩
def At6 (n:Nat) (f:Fld):Prop:=1≤f.kind∧f.kind≤8∧(f.kind=8→0≤f.mK∧f.mK<(n:Int))∧f.nJ≠44
theorem Aok {n m:Nat} {e:Shp} (h:e∈List.replicate m (⟨0,[]⟩:Shp)):Ap7 n e:=by
 rw[List.eq_of_mem_replicate h]
 exact⟨⟨by simp,by decide⟩,fun f hf=>by cases hf⟩
theorem Aom {n k:Nat} {l:List Shp} {x e:Shp} (h: ∀e∈l,Ap7 n e) (hx:Ap7 n x) (he:e∈l.set k x):Ap7 n e:=by
 rcases List.mem_or_eq_of_mem_set he with he|rfl
 ·exact h e he
 ·exact hx
theorem Hf {l:List Shp} {i:Nat} {x:Shp} (h:l[i]? =some x):l.set i ⟨x.id,x.fJ⟩=l:=by
 apply List.ext_getElem?
 intro j
 rw[List.getElem?_set]
 split
 ·rename_i hij
  subst hij
  rw[if_pos (List.getElem?_eq_some_iff.1 h).1,h]
 ·rfl
theorem Ak3 {l:List Shp} {i:Nat} {x:Int} (hl:Hw l=List.take i [5,1,99]) (hi:i<3) (hx:([5,1,99,7]:List Int)[i]? =some x):Hw (l++[⟨x,[]⟩])=List.take (i+1) [5,1,99]:=by
 have:Hw (l++[⟨x,[]⟩])=Hw l++[x]:=by simp[Hw]
 rw[this,hl]
 have h3:i=0∨i=1∨i=2:=by omega
 rcases h3 with rfl|rfl|rfl<;>simp at hx<;>subst hx<;>rfl
theorem Ak4 {n:Nat} {l:List Shp} (h1:l.length=n) (h2:1≤n∧n≤3) (h3:Hw l=List.take n [5,1,99]) (h4: ∀m∈l,m.fJ=[]):RawK n l:=
 ⟨h1,h2,h3,fun m hm=>by rw[h4 m hm];exact⟨by simp,by simp[Am8],fun f hf=>by cases hf⟩⟩
theorem Aq8 {l:List Shp} {i j:Nat} {x m:Shp} (h: ∀j m,i<j→l[j]? =some m→m.fJ=[]) (hj:i<j) (hm:(l.set i x)[j]? =some m):m.fJ=[]:=by
 rw[List.getElem?_set_ne (by omega)] at hm
 exact h j m hj hm
structure P5 where
 l:List Shp
def Y6 (r:Raw) (o:P5):Prop:=Fun Tryz.prog 196 [.agg [.seq .shp r.mQ]] [] (.tup [.agg [.own 0],.agg [.int .i64 0,.int .i64 0,.int .i64 0]]) [.tree o.l]
def Tq (r:Raw) (o:P5):Prop:=((SchG o.l))∧Y6 r o
structure Kd where
 sQ:List Shp
 i:Nat
def M4 (r:Raw):Fam:=⟨Kd,fun q1=>[(1,.v (vP 0)),(2,.v (vP 1)),(3,.v (vP 2)),(4,.v (vP 3)),(5,.v (vP 4)),(6,.v (vI ((q1.i:Nat):Int)))],fun q1=>[.cells [.seq .shp r.mQ],.cells [.nil],.cells [.int .i64 0,.int .i64 0,.int .i64 0],.cells [.int .i64 0,.int .i64 0,.int .i64 0],.cells [.own 5],.tree q1.sQ],fun q1=>q1.i≤List.length r.mQ∧List.length q1.sQ=List.length r.mQ∧∀e∈q1.sQ,Ap7 (List.length r.mQ) e,fun q1=>List.length r.mQ-q1.i⟩
structure Ke where
 x:Shp
 k:Nat
def Gi (r:Raw) (q1:Kd) (x1:Shp):Fam:=⟨Ke,fun q2=>[(1,.v (vP 0)),(2,.v (vP 1)),(3,.v (vP 2)),(4,.v (vP 3)),(5,.v (vP 4)),(6,.v (vI ((q1.i:Nat):Int))),(7,.v (vP 6)),(8,.v (vI ((q2.k:Nat):Int)))],fun q2=>[.cells [.seq .shp r.mQ],.cells [.nil],.cells [.int .i64 0,.int .i64 0,.int .i64 0],.cells [.int .i64 0,.int .i64 0,.int .i64 0],.cells [.own 5],.tree q1.sQ,.cells [.int .i64 q2.x.id,.own 7],.lst .fld q2.x.fJ],fun q2=>q2.k≤List.length x1.fJ∧(q2.x).id=x1.id∧List.length (q2.x).fJ=q2.k∧∀f∈(q2.x).fJ,At6 (List.length r.mQ) f,fun q2=>List.length x1.fJ-q2.k⟩
theorem Ak5 (r:Raw) (hp1:RawK (List.length (r).mQ) (r).mQ): ∃o:P5,Tq r o:=by
 have hN:Bh=274877906944:=rfl
 have hpos:=hp1.pos
 refine Cj Tryz.func196 Q4 Q4 (w:=let zi:Int→C:= .int .i64;let z11:=((r.mQ.length:Nat):Int);let z12:S:= .tup [.agg [.own 0],.agg [zi 0,zi 0,zi 0]];let z13:S:= .v (.agg [zi 0,zi 0,zi 0]);let z14:=M4 r;(.sZ [.call [] z13 [],.br false,.tyT,.at 0,.keep [1,2,3,4,5,6],.sel [0,1,2,3,5,4]] (.loop z14 fun q1=> .br (.intro (Sx (r.mQ[q1.i]?)) fun x1=> .sZ [.el .shp x1,.at 0,.mk 6 1 .fld,.keep [1,2,3,4,5,6,7,8],.sel [0,1,2,3,4,5,6,7]] (.loop (Gi r q1 x1) fun q2=>let z5:S:= .v (vI (((q2.k:Nat):Int)+1));.sZ [.el .shp x1] (.br (.sZ [.el .shp x1] (.intro (Sx (x1.fJ[q2.k]?)) fun x2=>let z1:=((Y3 (r).mQ x2.mK:Nat):Int);.sZ [.el .fld x2] (.br (.sZ [.call [] (.v (vI z1)) []] (.intro (Y5 q2.x.fJ (⟨x2.nJ,x2.kind,x2.rep,x2.packed,z1⟩:Fld)) fun o1=> .sZ [.call [] (.v (vO 0)) [.lst .fld o1.o],.as 47 z5,.at 0,.keep [1,2,3,4,5,6,7,8],.sel [0,1,2,3,4,5,6,10]] (.next))) (.intro (Y5 q2.x.fJ (⟨x2.nJ,x2.kind,x2.rep,x2.packed,(-1)⟩:Fld)) fun o1=> .sZ [.call [] (.v (vO 0)) [.lst .fld o1.o],.as 47 z5,.at 0,.keep [1,2,3,4,5,6,7,8],.sel [0,1,2,3,4,5,6,10]] (.next))))) (.intro (Sx (q1.sQ[Y3 (r).mQ q2.x.id]?)) fun x2=> .sZ [.ord [(0,true),(1,true),(2,true),(3,true),(4,true),(6,true),(5,false),(7,true),(8,false)] [],.call [] (.v (vI ((Y3 (r).mQ q2.x.id:Nat):Int))) [],.el .shp x2,.as 29 (.v (vI (((q1.i:Nat):Int)+1))),.at 0,.keep [1,2,3,4,5,6],.sel [0,1,2,3,4,5]] (.next))))) (.sZ [.ord (os 4 [2,3]) [1]] (.lJ (⟨q1.sQ⟩:P5) [5]))),(Fp 218 [.agg [.seq .shp r.mQ]] [] z13 [])∧((!decide (0=0))=false)∧(z11≤9223372036854775807)∧(((32:Nat):Int)*z11≤281474976710656)∧(z11≤z11)∧((0:Int)≤z11)∧z14.Has [(1,.v (vP 0)),(2,.v (vP 1)),(3,.v (vP 2)),(4,.v (vP 3)),(5,.v (vP 4)),(6,.v (vI 0))] [.cells [.seq .shp r.mQ],.cells [.nil],.cells [zi 0,zi 0,zi 0],.cells [zi 0,zi 0,zi 0],.cells [.own 5],.tree (List.replicate (r.mQ.length) (⟨0,([]:List Fld)⟩:Shp))]∧∀q1,z14.inv q1→(let z10:=((q1.i:Nat):Int);Bc (decide (z10<z11)) (El (r.mQ[q1.i]?) fun x1=>(let z8:=Gi r q1 x1;let z9:=r.mQ[q1.i]? =some x1;z9∧((0:Int)≤z10)∧z8.Has [(1,.v (vP 0)),(2,.v (vP 1)),(3,.v (vP 2)),(4,.v (vP 3)),(5,.v (vP 4)),(6,.v (vI z10)),(7,.v (vP 6)),(8,.v (vI 0))] [.cells [.seq .shp r.mQ],.cells [.nil],.cells [zi 0,zi 0,zi 0],.cells [zi 0,zi 0,zi 0],.cells [.own 5],.tree q1.sQ,.cells [zi x1.id,.own 7],.lst .fld ([]:List Fld)]∧∀q2,z8.inv q2→(let z6:=((q2.k:Nat):Int);let z7:=((Y3 (r).mQ q2.x.id:Nat):Int);z9∧((0:Int)≤z10)∧Bc (decide (z6<((x1.fJ.length:Nat):Int))) (z9∧((0:Int)≤z10)∧El (x1.fJ[q2.k]?) fun x2=>(let z3:=(⟨x2.nJ,x2.kind,x2.rep,x2.packed,(-1)⟩:Fld);let z4:=((Y3 (r).mQ x2.mK:Nat):Int);let z2:=(⟨x2.nJ,x2.kind,x2.rep,x2.packed,z4⟩:Fld);(x1.fJ[q2.k]? =some x2)∧((0:Int)≤z6)∧Bc (decide (x2.kind=8)) ((Fp 219 [.agg [.seq .shp r.mQ],vI x2.mK] [] (.v (vI z4)) [])∧In (Y5 q2.x.fJ z2) fun o1=>((Ae5 q2.x.fJ z2 o1)∧(wI (z6+1))∧z8.Nxt q2 [(1,.v (vP 0)),(2,.v (vP 1)),(3,.v (vP 2)),(4,.v (vP 3)),(5,.v (vP 4)),(6,.v (vI z10)),(7,.v (vP 6)),(8,.v (vI (z6+1)))] [.cells [.seq .shp r.mQ],.cells [.nil],.cells [zi 0,zi 0,zi 0],.cells [zi 0,zi 0,zi 0],.cells [.own 5],.tree q1.sQ,.cells [zi q2.x.id,.own 7],.lst .fld o1.o])) (In (Y5 q2.x.fJ z3) fun o1=>((Ae5 q2.x.fJ z3 o1)∧(wI (z6+1))∧z8.Nxt q2 [(1,.v (vP 0)),(2,.v (vP 1)),(3,.v (vP 2)),(4,.v (vP 3)),(5,.v (vP 4)),(6,.v (vI z10)),(7,.v (vP 6)),(8,.v (vI (z6+1)))] [.cells [.seq .shp r.mQ],.cells [.nil],.cells [zi 0,zi 0,zi 0],.cells [zi 0,zi 0,zi 0],.cells [.own 5],.tree q1.sQ,.cells [zi q2.x.id,.own 7],.lst .fld o1.o])))) (El (q1.sQ[Y3 (r).mQ q2.x.id]?) fun x2=>((Fp 219 [.agg [.seq .shp r.mQ],vI q2.x.id] [] (.v (vI z7)) [])∧(z7<((q1.sQ.length:Nat):Int))∧((0:Int)≤z7)∧(q1.sQ[Y3 (r).mQ q2.x.id]? =some x2)∧(wI (z10+1))∧z14.Nxt q1 [(1,.v (vP 0)),(2,.v (vP 1)),(3,.v (vP 2)),(4,.v (vP 3)),(5,.v (vP 4)),(6,.v (vI (z10+1)))] [.cells [.seq .shp r.mQ],.cells [.nil],.cells [zi 0,zi 0,zi 0],.cells [zi 0,zi 0,zi 0],.cells [.own 5],.tree (List.set q1.sQ (Y3 (r).mQ q2.x.id) (⟨q2.x.id,q2.x.fJ⟩:Shp))]))))) (((SchG q1.sQ))∧Lf z12 z12 [.tree q1.sQ] [.tree q1.sQ])))) Q4 ?_
 refine⟨(Aq7 r Q2),Q27,Q2,Q2,Q2,Q2,Bp (j:=(⟨List.replicate (r.mQ.length) (⟨0,([]:List Fld)⟩:Shp),0⟩:Kd)) Q8 rfl (by dsimp only[M4];exact⟨by omega,by simp,fun e he=>Aok he⟩),fun (q1:Kd) hq_q1=>?_⟩
 have hi_q1:q1.i≤r.mQ.length∧q1.sQ.length=r.mQ.length∧∀e∈q1.sQ,Ap7 (r.mQ.length) e:=hq_q1
 obtain ⟨v1,v2,v3⟩:=hi_q1
 refine dsp (fun h1 p1=>?_) fun h1 p1=>?_
 refine⟨(Bo (l:=r.mQ) (i:=q1.i) Q2),fun x1 hx1=>?_⟩
 have hfg:=hp1.flds _ (List.mem_of_getElem? hx1)
 have hfl:=hfg.len
 have hmi:x1.id∈Hw r.mQ:=List.mem_map.2 ⟨_,List.mem_of_getElem? hx1,rfl⟩
 have hrl:=Ak0 hmi
 have h55:=hp1.no55 hmi
 refine⟨hx1,Q2,Bp (j:=(⟨(⟨x1.id,([]:List Fld)⟩:Shp),0⟩:Ke)) Q8 Q8 (by dsimp only[Gi];exact⟨by omega,rfl,rfl,fun f hf=>by cases hf⟩),fun (q2:Ke) hq_q2=>?_⟩
 have hi_q2:q2.k≤x1.fJ.length∧(q2.x).id=x1.id∧List.length (q2.x).fJ=q2.k∧∀f∈(q2.x).fJ,At6 (r.mQ.length) f:=hq_q2
 obtain ⟨w1,w2,w3,w4⟩:=hi_q2
 refine⟨hx1,Q2,dsp (fun h2 p2=>?_) fun h2 p2=>?_⟩
 refine⟨hx1,Q2,(Bo (l:=x1.fJ) (i:=q2.k) Q2),fun x2 hx2=>?_⟩
 have hg:=hfg.all _ (List.mem_of_getElem? hx2)
 have hgk:=hg.kd
 refine⟨hx2,Q2,dsp (fun h3 p3=>?_) fun h3 p3=>?_⟩
 have hir:=Ak0 (hg.ref (by omega))
 refine⟨(Ap8 r _ Q2),(Asr q2.x.fJ (⟨x2.nJ,x2.kind,x2.rep,x2.packed,((Y3 (r).mQ x2.mK:Nat):Int)⟩:Fld) Q2),fun o1 ho_o1=>?_⟩
 obtain ⟨⟨hp_o1_0,hp_o1_1⟩,hf_o1⟩:=ho_o1
 exact⟨hf_o1,(Ad Q2 Q2),A6 (j:=(⟨(⟨q2.x.id,o1.o⟩:Shp),q2.k+1⟩:Ke)) Q8 Q8 (by dsimp only[Gi];exact⟨by omega,w2,by omega,fun f hf=>by
          rcases hp_o1_1 f hf with rfl|hf
          ·exact⟨by dsimp only;omega,by dsimp only;omega,fun h8=>by dsimp only at h8 ⊢;omega,by dsimp only;exact hg.n44⟩
          ·exact w4 f hf⟩) (by dsimp only[Gi];omega)⟩
 refine⟨(Asr q2.x.fJ (⟨x2.nJ,x2.kind,x2.rep,x2.packed,(-1)⟩:Fld) Q2),fun o1 ho_o1=>?_⟩
 obtain ⟨⟨hp_o1_0,hp_o1_1⟩,hf_o1⟩:=ho_o1
 exact⟨hf_o1,(Ad Q2 Q2),A6 (j:=(⟨(⟨q2.x.id,o1.o⟩:Shp),q2.k+1⟩:Ke)) Q8 Q8 (by dsimp only[Gi];exact⟨by omega,w2,by omega,fun f hf=>by
          rcases hp_o1_1 f hf with rfl|hf
          ·exact⟨by dsimp only;omega,by dsimp only;omega,fun h8=>by dsimp only at h8 ⊢;omega,by dsimp only;exact hg.n44⟩
          ·exact w4 f hf⟩) (by dsimp only[Gi];omega)⟩
 have hxg:Ap7 (r.mQ.length) q2.x:=⟨⟨by omega,by rw[w2];exact h55⟩,w4⟩
 have hrx:Y3 r.mQ q2.x.id<r.mQ.length:=by rw[w2];exact hrl
 refine⟨(Bo (l:=q1.sQ) (i:=Y3 (r).mQ q2.x.id) Q2),fun x2 hx2=>?_⟩
 exact⟨(Ap8 r _ Q2),Q2,Q2,hx2,(Ad Q2 Q2),A6 (j:=(⟨List.set q1.sQ (Y3 (r).mQ q2.x.id) (⟨q2.x.id,q2.x.fJ⟩:Shp),q1.i+1⟩:Kd)) Q8 rfl (by dsimp only[M4];exact⟨by omega,by rw[List.length_set];exact v2,fun e he=>Aom v3 hxg he⟩) (by dsimp only[M4];omega)⟩
 have hsg:SchG q1.sQ:=⟨by omega,fun e he=>by rw[v2];exact v3 e he⟩
 exact⟨(hsg),rfl,rfl⟩
theorem Adn {n:Int} (h:1≤n∧n≤18999∨20000≤n∧n≤536870911):D3 n=true:=by
 simp only[D3,Ak,Bool.and_eq_true,Bool.not_eq_true',Bool.and_eq_false_iff,decide_eq_true_eq,decide_eq_false_iff_not]
 omega
theorem Ats {x:Int} (h:x∈([16,2047,2048,18999,20000,536870911]:List Int)):1≤x∧x≤18999∨20000≤x∧x≤536870911:=by
 simp at h
 omega
theorem Ahu {k:Int} (h:C1 k=true):k≤5:=by
 simp only[C1,Ak,Bool.and_eq_true,decide_eq_true_eq] at h
 omega
theorem Aon {l:List Shp} {i:Nat} {x m:Shp} {k:Nat} (hx:x.fJ.length≤k) (hm:(l.set i x)[i]? =some m):m.fJ.length≤k:=by
 rw[List.getElem?_set] at hm
 simp at hm
 obtain ⟨_,rfl⟩:=hm
 exact hx
theorem Ass {x:Int} (h:x∈([16,2047,2048,18999,20000,536870911]:List Int)):x≠44:=by
 simp at h
 omega
structure P6 where
 r:Raw
 c1:Cur
def Y7 (c:Cur) (o:P6):Prop:=Fun Tryz.prog 197 [vP 0] [.cells (Ct c)] (.v (.agg [.own 1])) [.cells (Ct o.c1),.tree o.r.mQ]
def Ts (c:Cur) (o:P6):Prop:=((RawK (List.length (o.r).mQ) (o.r).mQ)∧(A4 o.c1))∧Y7 c o
structure M5 where
 c:Cur
 mQ:List Shp
 i:Nat
def Gj (o1:Dp):Fam:=⟨M5,fun q1=>[(0,.v (vP 0)),(2,.v (vP 1)),(3,.v (vP 2)),(4,.v (vI (1+o1.x))),(5,.v (vI ((q1.i:Nat):Int)))],fun q1=>[.cells (Ct q1.c),.cells [.nil],.cells [.own 3],.tree q1.mQ],fun q1=>A4 q1.c∧((q1.i:Nat):Int)≤1+o1.x∧List.length q1.mQ=q1.i∧Hw q1.mQ=List.take q1.i [5,1,99]∧∀m∈q1.mQ,m.fJ=[],fun q1=>3-q1.i⟩
structure Kf where
 c:Cur
 mQ:List Shp
 i:Nat
def Gk (o1:Dp):Fam:=⟨Kf,fun q2=>[(0,.v (vP 0)),(2,.v (vP 1)),(3,.v (vP 2)),(4,.v (vI (1+o1.x))),(6,.v (vI ((q2.i:Nat):Int)))],fun q2=>[.cells (Ct q2.c),.cells [.nil],.cells [.own 3],.tree q2.mQ],fun q2=>A4 q2.c∧q2.i≤Int.toNat (1+o1.x)∧RawK (Int.toNat (1+o1.x)) q2.mQ∧∀j m,q2.i≤j→q2.mQ[j]? =some m→m.fJ=[],fun q2=>3-q2.i⟩
structure Bt where
 c:Cur
 mQ:List Shp
 k:Nat
def Kg (o1:Dp) (q2:Kf) (o2:Dp):Fam:=⟨Bt,fun q3=>[(0,.v (vP 0)),(2,.v (vP 1)),(3,.v (vP 2)),(4,.v (vI (1+o1.x))),(6,.v (vI ((q2.i:Nat):Int))),(7,.v (vI o2.x)),(8,.v (vI ((q3.k:Nat):Int)))],fun q3=>[.cells (Ct q3.c),.cells [.nil],.cells [.own 3],.tree q3.mQ],fun q3=>A4 q3.c∧q3.k≤5∧RawK (Int.toNat (1+o1.x)) q3.mQ∧(∀j m,q2.i<j→q3.mQ[j]? =some m→m.fJ=[])∧∀m,q3.mQ[q2.i]? =some m→List.length m.fJ≤q3.k,fun q3=>5-q3.k⟩
theorem Ak6 (c:Cur) (hp1:A4 c): ∃o:P6,Ts c o:=by
 have hN:Bh=274877906944:=rfl
 refine Cj Tryz.func197 Q4 Q4 (w:=let z80:=fr (.first 9 (.two 8 (.one 10 (.one 11 (.first 12 (.first 13 (.one 14 (.done)))))) 10 (.one 8 (.one 11 (.first 12 (.first 13 (.one 14 (.done)))))))) 0 8;let z81:=fr (.one 4 (.first 5 (.first 6 (.one 7 (.first 8 (.one 9 (.done))))))) 0 4;let z82:=os 10 [8];(.intro (Aa c 3) fun o1=>let z77:=1+o1.x;.sZ [.call [0] (.v (vI o1.x)) (Kc o1.c1),.as 13 (.v (vI z77)),.at 0,.mkT 2 0,.keep [0,2,3,4,5],.sel [0,1,2,3]] (.loop (Gj o1) fun q1=> .br (.intro (Sx ([5,1,99,7][q1.i]?)) fun x1=> .sZ [.tree (.first 0 (.first 1 (.first 3 (.one 2 (.first 4 (.one 5 (.first 6 (.one 7 (.one 8 (.first 9 (.one 10 (.done)))))))))))) 10 [3],.ty .int,.el .int x1,.tyT,.tyT,.at 0,.keep [0,2,3,4,5],.sel [0,1,2,6],.as 18 (.v (vI (((q1.i:Nat):Int)+1))),.at 0,.keep [0,2,3,4,5],.sel [0,1,2,3]] (.next)) (.sZ [.at 0,.keep [0,2,3,4,6],.sel [0,1,2,3]] (.loop (Gk o1) fun q2=> .br (.intro (Aa q2.c 6) fun o2=> .sZ [.call [0] (.v (vI o2.x)) (Kc o2.c1),.at 0,.keep [0,2,3,4,6,7,8],.sel [0,1,2,3]] (.loop (Kg o1 q2 o2) fun q3=>let z63:S:= .v (vI (((q3.k:Nat):Int)+1));let z64:=Sx (q3.mQ[q2.i]?);.br (.intro (Aa q3.c 12) fun o3=>let z61:=1+o3.x;.sZ [.call [0] (.v (vI o3.x)) (Kc o3.c1),.as 43 (.v (vI z61))] (.intro (Aa o3.c1 8) fun o4=> .sZ [.call [0] (.v (vI o4.x)) (Kc o4.c1),.as 46 (.v (vI (1+o4.x)))] (.intro (Au o4.c1 2) fun o5=> .sZ [.call [0] (.v (vB o5.p)) (Kc o5.c1)] (.intro (Au o5.c1 12) fun o6=> .sZ [.call [0] (.v (vB o6.p)) (Kc o6.c1)] (.br (.sZ [.ty .int,.pubS 53] (.intro (B5 o6.c1 [16,2047,2048,18999,20000,536870911]) fun o7=> .sZ [.call [0] (.v (vI o7.x)) (Kc o7.c1)] (.br (.sZ [.call [] (.v (vB (C1 (1+o4.x)))) []] (.br (.intro (Au o7.c1 2) fun o8=> .sZ [.call [0] (.v (vB o8.p)) (Kc o8.c1)] (.br (.intro (Aa o8.c1 z77) fun o9=> .intro (Sx (q3.mQ[Int.toNat o9.x]?)) fun x1=> .sZ [.tree z81 9 [0],.call [0] (.v (vI o9.x)) (Kc o9.c1),.el .shp x1,.at 0,.keep [0,2,3,4,6,7,8,9],.sel [0,1,2,3,4]] (.intro z64 fun x2=> .take 20 3 q2.i x2 (.sZ [.ord z82 [],.call [] (.v (vB (Cq x2.fJ o7.x))) []] (.br (.sZ [.tree z80 14 [5],.ty .fld,.ty .fld,.el .shp x2,.at 0,.keep [0,2,3,4,6,7,8],.sel [0,1,2,3],.ty .fld,.ty .fld,.el .shp x2,.at 0,.keep [0,2,3,4,6,7,8],.sel [0,1,2,3],.as 40 z63,.at 0,.keep [0,2,3,4,6,7,8],.sel [0,1,2,3]] (.next)) (.give 13 3 x2 (.sZ [.as 40 z63,.at 0,.keep [0,2,3,4,6,7,8],.sel [0,1,2,3]] (.next))))))) (.intro z64 fun x1=> .take 20 3 q2.i x1 (.sZ [.ord z82 [],.call [] (.v (vB (Cq x1.fJ o7.x))) []] (.br (.sZ [.tree z80 14 [6],.ty .fld,.ty .fld,.el .shp x1,.at 0,.keep [0,2,3,4,6,7,8],.sel [0,1,2,3],.ty .fld,.ty .fld,.el .shp x1,.at 0,.keep [0,2,3,4,6,7,8],.sel [0,1,2,3],.as 40 z63,.at 0,.keep [0,2,3,4,6,7,8],.sel [0,1,2,3]] (.next)) (.give 13 3 x1 (.sZ [.as 40 z63,.at 0,.keep [0,2,3,4,6,7,8],.sel [0,1,2,3]] (.next)))))))) (.br (.intro (Aa o7.c1 z77) fun o8=> .intro (Sx (q3.mQ[Int.toNat o8.x]?)) fun x1=> .sZ [.tree z81 9 [0],.call [0] (.v (vI o8.x)) (Kc o8.c1),.el .shp x1,.at 0,.keep [0,2,3,4,6,7,8,9],.sel [0,1,2,3,4]] (.intro z64 fun x2=> .take 20 3 q2.i x2 (.sZ [.ord z82 [],.call [] (.v (vB (Cq x2.fJ o7.x))) []] (.br (.sZ [.tree z80 14 [5],.ty .fld,.ty .fld,.el .shp x2,.at 0,.keep [0,2,3,4,6,7,8],.sel [0,1,2,3],.ty .fld,.ty .fld,.el .shp x2,.at 0,.keep [0,2,3,4,6,7,8],.sel [0,1,2,3],.as 40 z63,.at 0,.keep [0,2,3,4,6,7,8],.sel [0,1,2,3]] (.next)) (.give 13 3 x2 (.sZ [.as 40 z63,.at 0,.keep [0,2,3,4,6,7,8],.sel [0,1,2,3]] (.next))))))) (.intro z64 fun x1=> .take 20 3 q2.i x1 (.sZ [.ord z82 [],.call [] (.v (vB (Cq x1.fJ o7.x))) []] (.br (.sZ [.tree z80 14 [6],.ty .fld,.ty .fld,.el .shp x1,.at 0,.keep [0,2,3,4,6,7,8],.sel [0,1,2,3],.ty .fld,.ty .fld,.el .shp x1,.at 0,.keep [0,2,3,4,6,7,8],.sel [0,1,2,3],.as 40 z63,.at 0,.keep [0,2,3,4,6,7,8],.sel [0,1,2,3]] (.next)) (.give 13 3 x1 (.sZ [.as 40 z63,.at 0,.keep [0,2,3,4,6,7,8],.sel [0,1,2,3]] (.next))))))))) (.br (.intro (Aa o7.c1 z77) fun o8=> .intro (Sx (q3.mQ[Int.toNat o8.x]?)) fun x1=> .sZ [.tree z81 9 [0],.call [0] (.v (vI o8.x)) (Kc o8.c1),.el .shp x1,.at 0,.keep [0,2,3,4,6,7,8,9],.sel [0,1,2,3,4]] (.intro z64 fun x2=> .take 20 3 q2.i x2 (.sZ [.ord z82 [],.call [] (.v (vB (Cq x2.fJ o7.x))) []] (.br (.sZ [.tree z80 14 [5],.ty .fld,.ty .fld,.el .shp x2,.at 0,.keep [0,2,3,4,6,7,8],.sel [0,1,2,3],.ty .fld,.ty .fld,.el .shp x2,.at 0,.keep [0,2,3,4,6,7,8],.sel [0,1,2,3],.as 40 z63,.at 0,.keep [0,2,3,4,6,7,8],.sel [0,1,2,3]] (.next)) (.give 13 3 x2 (.sZ [.as 40 z63,.at 0,.keep [0,2,3,4,6,7,8],.sel [0,1,2,3]] (.next))))))) (.intro z64 fun x1=> .take 20 3 q2.i x1 (.sZ [.ord z82 [],.call [] (.v (vB (Cq x1.fJ o7.x))) []] (.br (.sZ [.tree z80 14 [6],.ty .fld,.ty .fld,.el .shp x1,.at 0,.keep [0,2,3,4,6,7,8],.sel [0,1,2,3],.ty .fld,.ty .fld,.el .shp x1,.at 0,.keep [0,2,3,4,6,7,8],.sel [0,1,2,3],.as 40 z63,.at 0,.keep [0,2,3,4,6,7,8],.sel [0,1,2,3]] (.next)) (.give 13 3 x1 (.sZ [.as 40 z63,.at 0,.keep [0,2,3,4,6,7,8],.sel [0,1,2,3]] (.next)))))))))) (.br (.sZ [.call [] (.v (vB (C1 (1+o4.x)))) []] (.br (.intro (Au o6.c1 2) fun o7=> .sZ [.call [0] (.v (vB o7.p)) (Kc o7.c1)] (.br (.intro (Aa o7.c1 z77) fun o8=> .intro (Sx (q3.mQ[Int.toNat o8.x]?)) fun x1=> .sZ [.tree z81 9 [0],.call [0] (.v (vI o8.x)) (Kc o8.c1),.el .shp x1,.at 0,.keep [0,2,3,4,6,7,8,9],.sel [0,1,2,3,4]] (.intro z64 fun x2=> .take 20 3 q2.i x2 (.sZ [.ord z82 [],.call [] (.v (vB (Cq x2.fJ z61))) []] (.br (.sZ [.tree z80 14 [5],.ty .fld,.ty .fld,.el .shp x2,.at 0,.keep [0,2,3,4,6,7,8],.sel [0,1,2,3],.ty .fld,.ty .fld,.el .shp x2,.at 0,.keep [0,2,3,4,6,7,8],.sel [0,1,2,3],.as 40 z63,.at 0,.keep [0,2,3,4,6,7,8],.sel [0,1,2,3]] (.next)) (.give 13 3 x2 (.sZ [.as 40 z63,.at 0,.keep [0,2,3,4,6,7,8],.sel [0,1,2,3]] (.next))))))) (.intro z64 fun x1=> .take 20 3 q2.i x1 (.sZ [.ord z82 [],.call [] (.v (vB (Cq x1.fJ z61))) []] (.br (.sZ [.tree z80 14 [5],.ty .fld,.ty .fld,.el .shp x1,.at 0,.keep [0,2,3,4,6,7,8],.sel [0,1,2,3],.ty .fld,.ty .fld,.el .shp x1,.at 0,.keep [0,2,3,4,6,7,8],.sel [0,1,2,3],.as 40 z63,.at 0,.keep [0,2,3,4,6,7,8],.sel [0,1,2,3]] (.next)) (.give 13 3 x1 (.sZ [.as 40 z63,.at 0,.keep [0,2,3,4,6,7,8],.sel [0,1,2,3]] (.next)))))))) (.br (.intro (Aa o6.c1 z77) fun o7=> .intro (Sx (q3.mQ[Int.toNat o7.x]?)) fun x1=> .sZ [.tree z81 9 [0],.call [0] (.v (vI o7.x)) (Kc o7.c1),.el .shp x1,.at 0,.keep [0,2,3,4,6,7,8,9],.sel [0,1,2,3,4]] (.intro z64 fun x2=> .take 20 3 q2.i x2 (.sZ [.ord z82 [],.call [] (.v (vB (Cq x2.fJ z61))) []] (.br (.sZ [.tree z80 14 [5],.ty .fld,.ty .fld,.el .shp x2,.at 0,.keep [0,2,3,4,6,7,8],.sel [0,1,2,3],.ty .fld,.ty .fld,.el .shp x2,.at 0,.keep [0,2,3,4,6,7,8],.sel [0,1,2,3],.as 40 z63,.at 0,.keep [0,2,3,4,6,7,8],.sel [0,1,2,3]] (.next)) (.give 13 3 x2 (.sZ [.as 40 z63,.at 0,.keep [0,2,3,4,6,7,8],.sel [0,1,2,3]] (.next))))))) (.intro z64 fun x1=> .take 20 3 q2.i x1 (.sZ [.ord z82 [],.call [] (.v (vB (Cq x1.fJ z61))) []] (.br (.sZ [.tree z80 14 [5],.ty .fld,.ty .fld,.el .shp x1,.at 0,.keep [0,2,3,4,6,7,8],.sel [0,1,2,3],.ty .fld,.ty .fld,.el .shp x1,.at 0,.keep [0,2,3,4,6,7,8],.sel [0,1,2,3],.as 40 z63,.at 0,.keep [0,2,3,4,6,7,8],.sel [0,1,2,3]] (.next)) (.give 13 3 x1 (.sZ [.as 40 z63,.at 0,.keep [0,2,3,4,6,7,8],.sel [0,1,2,3]] (.next))))))))) (.br (.intro (Aa o6.c1 z77) fun o7=> .intro (Sx (q3.mQ[Int.toNat o7.x]?)) fun x1=> .sZ [.tree z81 9 [0],.call [0] (.v (vI o7.x)) (Kc o7.c1),.el .shp x1,.at 0,.keep [0,2,3,4,6,7,8,9],.sel [0,1,2,3,4]] (.intro z64 fun x2=> .take 20 3 q2.i x2 (.sZ [.ord z82 [],.call [] (.v (vB (Cq x2.fJ z61))) []] (.br (.sZ [.tree z80 14 [5],.ty .fld,.ty .fld,.el .shp x2,.at 0,.keep [0,2,3,4,6,7,8],.sel [0,1,2,3],.ty .fld,.ty .fld,.el .shp x2,.at 0,.keep [0,2,3,4,6,7,8],.sel [0,1,2,3],.as 40 z63,.at 0,.keep [0,2,3,4,6,7,8],.sel [0,1,2,3]] (.next)) (.give 13 3 x2 (.sZ [.as 40 z63,.at 0,.keep [0,2,3,4,6,7,8],.sel [0,1,2,3]] (.next))))))) (.intro z64 fun x1=> .take 20 3 q2.i x1 (.sZ [.ord z82 [],.call [] (.v (vB (Cq x1.fJ z61))) []] (.br (.sZ [.tree z80 14 [5],.ty .fld,.ty .fld,.el .shp x1,.at 0,.keep [0,2,3,4,6,7,8],.sel [0,1,2,3],.ty .fld,.ty .fld,.el .shp x1,.at 0,.keep [0,2,3,4,6,7,8],.sel [0,1,2,3],.as 40 z63,.at 0,.keep [0,2,3,4,6,7,8],.sel [0,1,2,3]] (.next)) (.give 13 3 x1 (.sZ [.as 40 z63,.at 0,.keep [0,2,3,4,6,7,8],.sel [0,1,2,3]] (.next))))))))))))) (.sZ [.as 33 (.v (vI (((q2.i:Nat):Int)+1))),.at 0,.keep [0,2,3,4,6],.sel [0,1,2,3]] (.next)))) (.lJ (⟨(⟨q2.mQ⟩:Raw),q2.c⟩:P6) [0,3])))),In (Aa c 3) fun o1=>(let z79:=1+o1.x;let z78:=vI z79;(Ap c 3 o1)∧(wI z79)∧(Gj o1).Has [(0,.v (vP 0)),(2,.v (vP 1)),(3,.v (vP 2)),(4,.v z78),(5,.v (vI 0))] [.cells (Ct o1.c1),.cells [.nil],.cells [.own 3],.tree ([]:List Shp)]∧∀q1,(Gj o1).inv q1→(let z76:=((q1.i:Nat):Int);Bc (decide (z76<1+o1.x)) (El ([5,1,99,7][q1.i]?) fun x1=>((z76<((List.length [5,1,99,7]:Nat):Int))∧((0:Int)≤z76)∧([5,1,99,7][q1.i]? =some x1)∧(q1.mQ.length+List.length [(⟨x1,([]:List Fld)⟩:Shp)]≤Bh)∧(wI (z76+1))∧(Gj o1).Nxt q1 [(0,.v (vP 0)),(2,.v (vP 1)),(3,.v (vP 2)),(4,.v z78),(5,.v (vI (z76+1)))] [.cells (Ct q1.c),.cells [.nil],.cells [.own 3],.tree (q1.mQ++[(⟨x1,([]:List Fld)⟩:Shp)])])) ((Gk o1).Has [(0,.v (vP 0)),(2,.v (vP 1)),(3,.v (vP 2)),(4,.v z78),(6,.v (vI 0))] [.cells (Ct q1.c),.cells [.nil],.cells [.own 3],.tree q1.mQ]∧∀q2,(Gk o1).inv q2→(let z73:=q2.i=q2.i;let z75:=((q2.i:Nat):Int);let z72:=(0:Int)≤z75;let z74:=vI z75;Bc (decide (z75<1+o1.x)) (In (Aa q2.c 6) fun o2=>(let z71:=Kg o1 q2 o2;(Ap q2.c 6 o2)∧z71.Has [(0,.v (vP 0)),(2,.v (vP 1)),(3,.v (vP 2)),(4,.v z78),(6,.v z74),(7,.v (vI o2.x)),(8,.v (vI 0))] [.cells (Ct o2.c1),.cells [.nil],.cells [.own 3],.tree q2.mQ]∧∀q3,z71.inv q3→(let z68:=q3.mQ[q2.i]?;let z69:=((q3.mQ.length:Nat):Int);let z65:=z75<z69;let z70:=((q3.k:Nat):Int);let z66:=([(0,.v (vP 0)),(2,.v (vP 1)),(3,.v (vP 2)),(4,.v z78),(6,.v z74),(7,.v (vI o2.x)),(8,.v (vI z70))]:List (Nat×S))=[(0,.v (vP 0)),(2,.v (vP 1)),(3,.v (vP 2)),(4,.v z78),(6,.v z74),(7,.v (vI o2.x)),(8,.v (vI z70))];let z67:=z70+1;Bc (decide (z70<o2.x)) (In (Aa q3.c 12) fun o3=>(let z62:=1+o3.x;(Ap q3.c 12 o3)∧(wI z62)∧In (Aa o3.c1 8) fun o4=>(let z59:=decide (1+o4.x=8);let z60:=C1 (1+o4.x);(Ap o3.c1 8 o4)∧(wI (1+o4.x))∧In (Au o4.c1 2) fun o5=>(let z58:=(⟨1+o3.x,1+o4.x,o5.p,false,0⟩:Fld);(Bq o4.c1 2 o5)∧In (Au o5.c1 12) fun o6=>((Bq o5.c1 12 o6)∧Bc o6.p (In (B5 o6.c1 [16,2047,2048,18999,20000,536870911]) fun o7=>(let z29:=(⟨o7.x,1+o4.x,o5.p,false,0⟩:Fld);(Dq o6.c1 [16,2047,2048,18999,20000,536870911] o7)∧Bc o5.p ((Fp 158 [vI (1+o4.x)] [] (.v (vB z60)) [])∧Bc z60 (In (Au o7.c1 2) fun o8=>(let z10:=(⟨o7.x,1+o4.x,o5.p,o8.p,0⟩:Fld);(Bq o7.c1 2 o8)∧Bc z59 (In (Aa o8.c1 z79) fun o9=>(El (q3.mQ[Int.toNat o9.x]?) fun x1=>(let z5:=(⟨o7.x,1+o4.x,o5.p,o8.p,x1.id⟩:Fld);(Ap o8.c1 z79 o9)∧(o9.x<z69)∧((0:Int)≤o9.x)∧(q3.mQ[Int.toNat o9.x]? =some x1)∧El z68 fun x2=>(let z1:List Blk:=[.cells (Ct o9.c1),.cells [.nil],.cells [.own 3],.tree (List.set q3.mQ q2.i (⟨x2.id,x2.fJ++[z5]⟩:Shp))];let z2:=z68.map (fun (x:Shp)=>x.fJ.length)=some (x2.fJ.length);let z3:=x2.fJ.length+List.length [z5]≤Bh;let z4:=q3.mQ[q2.i]? =some x2;z4∧z65∧z72∧z65∧z72∧z73∧z2∧z73∧z2∧(Fp 221 [.c (.seq .fld x2.fJ),vI o7.x] [] (.v (vB (Cq x2.fJ o7.x))) [])∧Bc (!(Cq x2.fJ o7.x)) (z65∧z72∧z65∧z72∧z73∧z2∧z3∧z65∧z72∧z65∧z72∧z73∧z4∧z73∧z2∧z3∧z65∧z72∧z65∧z72∧z73∧z4∧((z1:List Blk)=z1)∧z66∧(wI z67)∧z71.Nxt q3 [(0,.v (vP 0)),(2,.v (vP 1)),(3,.v (vP 2)),(4,.v z78),(6,.v z74),(7,.v (vI o2.x)),(8,.v (vI z67))] z1) ((x2.fJ.length=x2.fJ.length)∧z4∧(wI z67)∧z71.Nxt q3 [(0,.v (vP 0)),(2,.v (vP 1)),(3,.v (vP 2)),(4,.v z78),(6,.v z74),(7,.v (vI o2.x)),(8,.v (vI z67))] [.cells (Ct o9.c1),.cells [.nil],.cells [.own 3],.tree (List.set q3.mQ q2.i (⟨x2.id,x2.fJ⟩:Shp))]))))) (El z68 fun x1=>(let z6:List Blk:=[.cells (Ct o8.c1),.cells [.nil],.cells [.own 3],.tree (List.set q3.mQ q2.i (⟨x1.id,x1.fJ++[z10]⟩:Shp))];let z7:=z68.map (fun (x:Shp)=>x.fJ.length)=some (x1.fJ.length);let z8:=x1.fJ.length+List.length [z10]≤Bh;let z9:=q3.mQ[q2.i]? =some x1;z9∧z65∧z72∧z65∧z72∧z73∧z7∧z73∧z7∧(Fp 221 [.c (.seq .fld x1.fJ),vI o7.x] [] (.v (vB (Cq x1.fJ o7.x))) [])∧Bc (!(Cq x1.fJ o7.x)) (z65∧z72∧z65∧z72∧z73∧z7∧z8∧z65∧z72∧z65∧z72∧z73∧z9∧z73∧z7∧z8∧z65∧z72∧z65∧z72∧z73∧z9∧((z6:List Blk)=z6)∧z66∧(wI z67)∧z71.Nxt q3 [(0,.v (vP 0)),(2,.v (vP 1)),(3,.v (vP 2)),(4,.v z78),(6,.v z74),(7,.v (vI o2.x)),(8,.v (vI z67))] z6) ((x1.fJ.length=x1.fJ.length)∧z9∧(wI z67)∧z71.Nxt q3 [(0,.v (vP 0)),(2,.v (vP 1)),(3,.v (vP 2)),(4,.v z78),(6,.v z74),(7,.v (vI o2.x)),(8,.v (vI z67))] [.cells (Ct o8.c1),.cells [.nil],.cells [.own 3],.tree (List.set q3.mQ q2.i (⟨x1.id,x1.fJ⟩:Shp))]))))) (Bc z59 (In (Aa o7.c1 z79) fun o8=>(El (q3.mQ[Int.toNat o8.x]?) fun x1=>(let z15:=(⟨o7.x,1+o4.x,o5.p,false,x1.id⟩:Fld);(Ap o7.c1 z79 o8)∧(o8.x<z69)∧((0:Int)≤o8.x)∧(q3.mQ[Int.toNat o8.x]? =some x1)∧El z68 fun x2=>(let z11:List Blk:=[.cells (Ct o8.c1),.cells [.nil],.cells [.own 3],.tree (List.set q3.mQ q2.i (⟨x2.id,x2.fJ++[z15]⟩:Shp))];let z12:=z68.map (fun (x:Shp)=>x.fJ.length)=some (x2.fJ.length);let z13:=x2.fJ.length+List.length [z15]≤Bh;let z14:=q3.mQ[q2.i]? =some x2;z14∧z65∧z72∧z65∧z72∧z73∧z12∧z73∧z12∧(Fp 221 [.c (.seq .fld x2.fJ),vI o7.x] [] (.v (vB (Cq x2.fJ o7.x))) [])∧Bc (!(Cq x2.fJ o7.x)) (z65∧z72∧z65∧z72∧z73∧z12∧z13∧z65∧z72∧z65∧z72∧z73∧z14∧z73∧z12∧z13∧z65∧z72∧z65∧z72∧z73∧z14∧((z11:List Blk)=z11)∧z66∧(wI z67)∧z71.Nxt q3 [(0,.v (vP 0)),(2,.v (vP 1)),(3,.v (vP 2)),(4,.v z78),(6,.v z74),(7,.v (vI o2.x)),(8,.v (vI z67))] z11) ((x2.fJ.length=x2.fJ.length)∧z14∧(wI z67)∧z71.Nxt q3 [(0,.v (vP 0)),(2,.v (vP 1)),(3,.v (vP 2)),(4,.v z78),(6,.v z74),(7,.v (vI o2.x)),(8,.v (vI z67))] [.cells (Ct o8.c1),.cells [.nil],.cells [.own 3],.tree (List.set q3.mQ q2.i (⟨x2.id,x2.fJ⟩:Shp))]))))) (El z68 fun x1=>(let z16:List Blk:=[.cells (Ct o7.c1),.cells [.nil],.cells [.own 3],.tree (List.set q3.mQ q2.i (⟨x1.id,x1.fJ++[z29]⟩:Shp))];let z17:=z68.map (fun (x:Shp)=>x.fJ.length)=some (x1.fJ.length);let z18:=x1.fJ.length+List.length [z29]≤Bh;let z19:=q3.mQ[q2.i]? =some x1;z19∧z65∧z72∧z65∧z72∧z73∧z17∧z73∧z17∧(Fp 221 [.c (.seq .fld x1.fJ),vI o7.x] [] (.v (vB (Cq x1.fJ o7.x))) [])∧Bc (!(Cq x1.fJ o7.x)) (z65∧z72∧z65∧z72∧z73∧z17∧z18∧z65∧z72∧z65∧z72∧z73∧z19∧z73∧z17∧z18∧z65∧z72∧z65∧z72∧z73∧z19∧((z16:List Blk)=z16)∧z66∧(wI z67)∧z71.Nxt q3 [(0,.v (vP 0)),(2,.v (vP 1)),(3,.v (vP 2)),(4,.v z78),(6,.v z74),(7,.v (vI o2.x)),(8,.v (vI z67))] z16) ((x1.fJ.length=x1.fJ.length)∧z19∧(wI z67)∧z71.Nxt q3 [(0,.v (vP 0)),(2,.v (vP 1)),(3,.v (vP 2)),(4,.v z78),(6,.v z74),(7,.v (vI o2.x)),(8,.v (vI z67))] [.cells (Ct o7.c1),.cells [.nil],.cells [.own 3],.tree (List.set q3.mQ q2.i (⟨x1.id,x1.fJ⟩:Shp))]))))) (Bc z59 (In (Aa o7.c1 z79) fun o8=>(El (q3.mQ[Int.toNat o8.x]?) fun x1=>(let z24:=(⟨o7.x,1+o4.x,o5.p,false,x1.id⟩:Fld);(Ap o7.c1 z79 o8)∧(o8.x<z69)∧((0:Int)≤o8.x)∧(q3.mQ[Int.toNat o8.x]? =some x1)∧El z68 fun x2=>(let z20:List Blk:=[.cells (Ct o8.c1),.cells [.nil],.cells [.own 3],.tree (List.set q3.mQ q2.i (⟨x2.id,x2.fJ++[z24]⟩:Shp))];let z21:=z68.map (fun (x:Shp)=>x.fJ.length)=some (x2.fJ.length);let z22:=x2.fJ.length+List.length [z24]≤Bh;let z23:=q3.mQ[q2.i]? =some x2;z23∧z65∧z72∧z65∧z72∧z73∧z21∧z73∧z21∧(Fp 221 [.c (.seq .fld x2.fJ),vI o7.x] [] (.v (vB (Cq x2.fJ o7.x))) [])∧Bc (!(Cq x2.fJ o7.x)) (z65∧z72∧z65∧z72∧z73∧z21∧z22∧z65∧z72∧z65∧z72∧z73∧z23∧z73∧z21∧z22∧z65∧z72∧z65∧z72∧z73∧z23∧((z20:List Blk)=z20)∧z66∧(wI z67)∧z71.Nxt q3 [(0,.v (vP 0)),(2,.v (vP 1)),(3,.v (vP 2)),(4,.v z78),(6,.v z74),(7,.v (vI o2.x)),(8,.v (vI z67))] z20) ((x2.fJ.length=x2.fJ.length)∧z23∧(wI z67)∧z71.Nxt q3 [(0,.v (vP 0)),(2,.v (vP 1)),(3,.v (vP 2)),(4,.v z78),(6,.v z74),(7,.v (vI o2.x)),(8,.v (vI z67))] [.cells (Ct o8.c1),.cells [.nil],.cells [.own 3],.tree (List.set q3.mQ q2.i (⟨x2.id,x2.fJ⟩:Shp))]))))) (El z68 fun x1=>(let z25:List Blk:=[.cells (Ct o7.c1),.cells [.nil],.cells [.own 3],.tree (List.set q3.mQ q2.i (⟨x1.id,x1.fJ++[z29]⟩:Shp))];let z26:=z68.map (fun (x:Shp)=>x.fJ.length)=some (x1.fJ.length);let z27:=x1.fJ.length+List.length [z29]≤Bh;let z28:=q3.mQ[q2.i]? =some x1;z28∧z65∧z72∧z65∧z72∧z73∧z26∧z73∧z26∧(Fp 221 [.c (.seq .fld x1.fJ),vI o7.x] [] (.v (vB (Cq x1.fJ o7.x))) [])∧Bc (!(Cq x1.fJ o7.x)) (z65∧z72∧z65∧z72∧z73∧z26∧z27∧z65∧z72∧z65∧z72∧z73∧z28∧z73∧z26∧z27∧z65∧z72∧z65∧z72∧z73∧z28∧((z25:List Blk)=z25)∧z66∧(wI z67)∧z71.Nxt q3 [(0,.v (vP 0)),(2,.v (vP 1)),(3,.v (vP 2)),(4,.v z78),(6,.v z74),(7,.v (vI o2.x)),(8,.v (vI z67))] z25) ((x1.fJ.length=x1.fJ.length)∧z28∧(wI z67)∧z71.Nxt q3 [(0,.v (vP 0)),(2,.v (vP 1)),(3,.v (vP 2)),(4,.v z78),(6,.v z74),(7,.v (vI o2.x)),(8,.v (vI z67))] [.cells (Ct o7.c1),.cells [.nil],.cells [.own 3],.tree (List.set q3.mQ q2.i (⟨x1.id,x1.fJ⟩:Shp))])))))) (Bc o5.p ((Fp 158 [vI (1+o4.x)] [] (.v (vB z60)) [])∧Bc z60 (In (Au o6.c1 2) fun o7=>(let z39:=(⟨1+o3.x,1+o4.x,o5.p,o7.p,0⟩:Fld);(Bq o6.c1 2 o7)∧Bc z59 (In (Aa o7.c1 z79) fun o8=>(El (q3.mQ[Int.toNat o8.x]?) fun x1=>(let z34:=(⟨1+o3.x,1+o4.x,o5.p,o7.p,x1.id⟩:Fld);(Ap o7.c1 z79 o8)∧(o8.x<z69)∧((0:Int)≤o8.x)∧(q3.mQ[Int.toNat o8.x]? =some x1)∧El z68 fun x2=>(let z30:List Blk:=[.cells (Ct o8.c1),.cells [.nil],.cells [.own 3],.tree (List.set q3.mQ q2.i (⟨x2.id,x2.fJ++[z34]⟩:Shp))];let z31:=z68.map (fun (x:Shp)=>x.fJ.length)=some (x2.fJ.length);let z32:=x2.fJ.length+List.length [z34]≤Bh;let z33:=q3.mQ[q2.i]? =some x2;z33∧z65∧z72∧z65∧z72∧z73∧z31∧z73∧z31∧(Fp 221 [.c (.seq .fld x2.fJ),vI z62] [] (.v (vB (Cq x2.fJ z62))) [])∧Bc (!(Cq x2.fJ z62)) (z65∧z72∧z65∧z72∧z73∧z31∧z32∧z65∧z72∧z65∧z72∧z73∧z33∧z73∧z31∧z32∧z65∧z72∧z65∧z72∧z73∧z33∧((z30:List Blk)=z30)∧z66∧(wI z67)∧z71.Nxt q3 [(0,.v (vP 0)),(2,.v (vP 1)),(3,.v (vP 2)),(4,.v z78),(6,.v z74),(7,.v (vI o2.x)),(8,.v (vI z67))] z30) ((x2.fJ.length=x2.fJ.length)∧z33∧(wI z67)∧z71.Nxt q3 [(0,.v (vP 0)),(2,.v (vP 1)),(3,.v (vP 2)),(4,.v z78),(6,.v z74),(7,.v (vI o2.x)),(8,.v (vI z67))] [.cells (Ct o8.c1),.cells [.nil],.cells [.own 3],.tree (List.set q3.mQ q2.i (⟨x2.id,x2.fJ⟩:Shp))]))))) (El z68 fun x1=>(let z35:List Blk:=[.cells (Ct o7.c1),.cells [.nil],.cells [.own 3],.tree (List.set q3.mQ q2.i (⟨x1.id,x1.fJ++[z39]⟩:Shp))];let z36:=z68.map (fun (x:Shp)=>x.fJ.length)=some (x1.fJ.length);let z37:=x1.fJ.length+List.length [z39]≤Bh;let z38:=q3.mQ[q2.i]? =some x1;z38∧z65∧z72∧z65∧z72∧z73∧z36∧z73∧z36∧(Fp 221 [.c (.seq .fld x1.fJ),vI z62] [] (.v (vB (Cq x1.fJ z62))) [])∧Bc (!(Cq x1.fJ z62)) (z65∧z72∧z65∧z72∧z73∧z36∧z37∧z65∧z72∧z65∧z72∧z73∧z38∧z73∧z36∧z37∧z65∧z72∧z65∧z72∧z73∧z38∧((z35:List Blk)=z35)∧z66∧(wI z67)∧z71.Nxt q3 [(0,.v (vP 0)),(2,.v (vP 1)),(3,.v (vP 2)),(4,.v z78),(6,.v z74),(7,.v (vI o2.x)),(8,.v (vI z67))] z35) ((x1.fJ.length=x1.fJ.length)∧z38∧(wI z67)∧z71.Nxt q3 [(0,.v (vP 0)),(2,.v (vP 1)),(3,.v (vP 2)),(4,.v z78),(6,.v z74),(7,.v (vI o2.x)),(8,.v (vI z67))] [.cells (Ct o7.c1),.cells [.nil],.cells [.own 3],.tree (List.set q3.mQ q2.i (⟨x1.id,x1.fJ⟩:Shp))]))))) (Bc z59 (In (Aa o6.c1 z79) fun o7=>(El (q3.mQ[Int.toNat o7.x]?) fun x1=>(let z44:=(⟨1+o3.x,1+o4.x,o5.p,false,x1.id⟩:Fld);(Ap o6.c1 z79 o7)∧(o7.x<z69)∧((0:Int)≤o7.x)∧(q3.mQ[Int.toNat o7.x]? =some x1)∧El z68 fun x2=>(let z40:List Blk:=[.cells (Ct o7.c1),.cells [.nil],.cells [.own 3],.tree (List.set q3.mQ q2.i (⟨x2.id,x2.fJ++[z44]⟩:Shp))];let z41:=z68.map (fun (x:Shp)=>x.fJ.length)=some (x2.fJ.length);let z42:=x2.fJ.length+List.length [z44]≤Bh;let z43:=q3.mQ[q2.i]? =some x2;z43∧z65∧z72∧z65∧z72∧z73∧z41∧z73∧z41∧(Fp 221 [.c (.seq .fld x2.fJ),vI z62] [] (.v (vB (Cq x2.fJ z62))) [])∧Bc (!(Cq x2.fJ z62)) (z65∧z72∧z65∧z72∧z73∧z41∧z42∧z65∧z72∧z65∧z72∧z73∧z43∧z73∧z41∧z42∧z65∧z72∧z65∧z72∧z73∧z43∧((z40:List Blk)=z40)∧z66∧(wI z67)∧z71.Nxt q3 [(0,.v (vP 0)),(2,.v (vP 1)),(3,.v (vP 2)),(4,.v z78),(6,.v z74),(7,.v (vI o2.x)),(8,.v (vI z67))] z40) ((x2.fJ.length=x2.fJ.length)∧z43∧(wI z67)∧z71.Nxt q3 [(0,.v (vP 0)),(2,.v (vP 1)),(3,.v (vP 2)),(4,.v z78),(6,.v z74),(7,.v (vI o2.x)),(8,.v (vI z67))] [.cells (Ct o7.c1),.cells [.nil],.cells [.own 3],.tree (List.set q3.mQ q2.i (⟨x2.id,x2.fJ⟩:Shp))]))))) (El z68 fun x1=>(let z45:List Blk:=[.cells (Ct o6.c1),.cells [.nil],.cells [.own 3],.tree (List.set q3.mQ q2.i (⟨x1.id,x1.fJ++[z58]⟩:Shp))];let z46:=z68.map (fun (x:Shp)=>x.fJ.length)=some (x1.fJ.length);let z47:=x1.fJ.length+List.length [z58]≤Bh;let z48:=q3.mQ[q2.i]? =some x1;z48∧z65∧z72∧z65∧z72∧z73∧z46∧z73∧z46∧(Fp 221 [.c (.seq .fld x1.fJ),vI z62] [] (.v (vB (Cq x1.fJ z62))) [])∧Bc (!(Cq x1.fJ z62)) (z65∧z72∧z65∧z72∧z73∧z46∧z47∧z65∧z72∧z65∧z72∧z73∧z48∧z73∧z46∧z47∧z65∧z72∧z65∧z72∧z73∧z48∧((z45:List Blk)=z45)∧z66∧(wI z67)∧z71.Nxt q3 [(0,.v (vP 0)),(2,.v (vP 1)),(3,.v (vP 2)),(4,.v z78),(6,.v z74),(7,.v (vI o2.x)),(8,.v (vI z67))] z45) ((x1.fJ.length=x1.fJ.length)∧z48∧(wI z67)∧z71.Nxt q3 [(0,.v (vP 0)),(2,.v (vP 1)),(3,.v (vP 2)),(4,.v z78),(6,.v z74),(7,.v (vI o2.x)),(8,.v (vI z67))] [.cells (Ct o6.c1),.cells [.nil],.cells [.own 3],.tree (List.set q3.mQ q2.i (⟨x1.id,x1.fJ⟩:Shp))]))))) (Bc z59 (In (Aa o6.c1 z79) fun o7=>(El (q3.mQ[Int.toNat o7.x]?) fun x1=>(let z53:=(⟨1+o3.x,1+o4.x,o5.p,false,x1.id⟩:Fld);(Ap o6.c1 z79 o7)∧(o7.x<z69)∧((0:Int)≤o7.x)∧(q3.mQ[Int.toNat o7.x]? =some x1)∧El z68 fun x2=>(let z49:List Blk:=[.cells (Ct o7.c1),.cells [.nil],.cells [.own 3],.tree (List.set q3.mQ q2.i (⟨x2.id,x2.fJ++[z53]⟩:Shp))];let z50:=z68.map (fun (x:Shp)=>x.fJ.length)=some (x2.fJ.length);let z51:=x2.fJ.length+List.length [z53]≤Bh;let z52:=q3.mQ[q2.i]? =some x2;z52∧z65∧z72∧z65∧z72∧z73∧z50∧z73∧z50∧(Fp 221 [.c (.seq .fld x2.fJ),vI z62] [] (.v (vB (Cq x2.fJ z62))) [])∧Bc (!(Cq x2.fJ z62)) (z65∧z72∧z65∧z72∧z73∧z50∧z51∧z65∧z72∧z65∧z72∧z73∧z52∧z73∧z50∧z51∧z65∧z72∧z65∧z72∧z73∧z52∧((z49:List Blk)=z49)∧z66∧(wI z67)∧z71.Nxt q3 [(0,.v (vP 0)),(2,.v (vP 1)),(3,.v (vP 2)),(4,.v z78),(6,.v z74),(7,.v (vI o2.x)),(8,.v (vI z67))] z49) ((x2.fJ.length=x2.fJ.length)∧z52∧(wI z67)∧z71.Nxt q3 [(0,.v (vP 0)),(2,.v (vP 1)),(3,.v (vP 2)),(4,.v z78),(6,.v z74),(7,.v (vI o2.x)),(8,.v (vI z67))] [.cells (Ct o7.c1),.cells [.nil],.cells [.own 3],.tree (List.set q3.mQ q2.i (⟨x2.id,x2.fJ⟩:Shp))]))))) (El z68 fun x1=>(let z54:List Blk:=[.cells (Ct o6.c1),.cells [.nil],.cells [.own 3],.tree (List.set q3.mQ q2.i (⟨x1.id,x1.fJ++[z58]⟩:Shp))];let z55:=z68.map (fun (x:Shp)=>x.fJ.length)=some (x1.fJ.length);let z56:=x1.fJ.length+List.length [z58]≤Bh;let z57:=q3.mQ[q2.i]? =some x1;z57∧z65∧z72∧z65∧z72∧z73∧z55∧z73∧z55∧(Fp 221 [.c (.seq .fld x1.fJ),vI z62] [] (.v (vB (Cq x1.fJ z62))) [])∧Bc (!(Cq x1.fJ z62)) (z65∧z72∧z65∧z72∧z73∧z55∧z56∧z65∧z72∧z65∧z72∧z73∧z57∧z73∧z55∧z56∧z65∧z72∧z65∧z72∧z73∧z57∧((z54:List Blk)=z54)∧z66∧(wI z67)∧z71.Nxt q3 [(0,.v (vP 0)),(2,.v (vP 1)),(3,.v (vP 2)),(4,.v z78),(6,.v z74),(7,.v (vI o2.x)),(8,.v (vI z67))] z54) ((x1.fJ.length=x1.fJ.length)∧z57∧(wI z67)∧z71.Nxt q3 [(0,.v (vP 0)),(2,.v (vP 1)),(3,.v (vP 2)),(4,.v z78),(6,.v z74),(7,.v (vI o2.x)),(8,.v (vI z67))] [.cells (Ct o6.c1),.cells [.nil],.cells [.own 3],.tree (List.set q3.mQ q2.i (⟨x1.id,x1.fJ⟩:Shp))])))))))))) ((wI (z75+1))∧(Gk o1).Nxt q2 [(0,.v (vP 0)),(2,.v (vP 1)),(3,.v (vP 2)),(4,.v z78),(6,.v (vI (z75+1)))] [.cells (Ct q3.c),.cells [.nil],.cells [.own 3],.tree q3.mQ])))) (((RawK (List.length ((⟨q2.mQ⟩:Raw)).mQ) ((⟨q2.mQ⟩:Raw)).mQ)∧(A4 q2.c))∧Lf (.v (.agg [.own 1])) (.v (.agg [.own 1])) [.cells (Ct q2.c),.tree q2.mQ] [.cells (Ct q2.c),.tree q2.mQ]))))))) Q4 ?_
 refine⟨(Az c 3 Q0),fun o1 ho_o1=>?_⟩
 obtain ⟨⟨hp_o1_0,hp_o1_1,hp_o1_2,hp_o1_3⟩,hf_o1⟩:=ho_o1
 refine⟨hf_o1,(Ad Q2 Q2),Bp (j:=(⟨o1.c1,([]:List Shp),0⟩:M5)) Q8 rfl (by dsimp only[Gj];exact⟨by assumption,by omega,rfl,rfl,fun m hm=>by cases hm⟩),fun (q1:M5) hq_q1=>?_⟩
 have hi_q1:A4 q1.c∧((q1.i:Nat):Int)≤1+o1.x∧q1.mQ.length=q1.i∧Hw q1.mQ=List.take q1.i [5,1,99]∧∀m∈q1.mQ,m.fJ=[]:=hq_q1
 obtain ⟨v1,v2,v3,v4,v5⟩:=hi_q1
 refine dsp (fun h1 p1=>?_) fun h1 p1=>?_
 refine⟨(Bo (l:=[5,1,99,7]) (i:=q1.i) Q6),fun x1 hx1=>?_⟩
 exact⟨Q6,Q2,hx1,Q6,(Ad Q2 Q2),A6 (j:=(⟨q1.c,q1.mQ++[(⟨x1,([]:List Fld)⟩:Shp)],q1.i+1⟩:M5)) Q8 rfl (by dsimp only[Gj];exact⟨by assumption,by omega,by simp;omega,Ak3 v4 Q2 hx1,fun m hm=>by rcases List.mem_append.1 hm with hm|hm;exact v5 m hm;simp at hm;rw[hm]⟩) (by dsimp only[Gj];omega)⟩
 refine⟨Bp (j:=(⟨q1.c,q1.mQ,0⟩:Kf)) Q8 rfl (by dsimp only[Gk];exact⟨by assumption,by omega,Ak4 Q2 Q2 (by rw[v4];congr 1;omega) v5,fun j m _ hm=>v5 m (List.mem_of_getElem? hm)⟩),fun (q2:Kf) hq_q2=>?_⟩
 have hi_q2:A4 q2.c∧q2.i≤Int.toNat (1+o1.x)∧RawK (Int.toNat (1+o1.x)) q2.mQ∧∀j m,q2.i≤j→q2.mQ[j]? =some m→m.fJ=[]:=hq_q2
 obtain ⟨u1,u2,u3,u4⟩:=hi_q2
 have upos:=u3.pos
 have ulen:=u3.len
 refine dsp (fun h2 p2=>?_) fun h2 p2=>?_
 refine⟨(Az q2.c 6 Q0),fun o2 ho_o2=>?_⟩
 obtain ⟨⟨hp_o2_0,hp_o2_1,hp_o2_2,hp_o2_3⟩,hf_o2⟩:=ho_o2
 refine⟨hf_o2,Bp (j:=(⟨o2.c1,q2.mQ,0⟩:Bt)) Q8 rfl (by dsimp only[Kg];exact⟨by assumption,by omega,u3,fun j m hj hm=>u4 j m Q2 hm,fun m hm=>by rw[u4 _ m (Nat.le_refl _) hm];exact Nat.le_refl _⟩),fun (q3:Bt) hq_q3=>?_⟩
 have hi_q3:A4 q3.c∧q3.k≤5∧RawK (Int.toNat (1+o1.x)) q3.mQ∧(∀j m,q2.i<j→q3.mQ[j]? =some m→m.fJ=[])∧∀m,q3.mQ[q2.i]? =some m→m.fJ.length≤q3.k:=hq_q3
 obtain ⟨w1,w2,w3,w4,w5⟩:=hi_q3
 have wlen:=w3.len
 refine dsp (fun h3 p3=>?_) fun h3 p3=>?_
 refine⟨(Az q3.c 12 Q0),fun o3 ho_o3=>?_⟩
 obtain ⟨⟨hp_o3_0,hp_o3_1,hp_o3_2,hp_o3_3⟩,hf_o3⟩:=ho_o3
 refine⟨hf_o3,(Ad Q2 Q2),(Az o3.c1 8 Q0),fun o4 ho_o4=>?_⟩
 obtain ⟨⟨hp_o4_0,hp_o4_1,hp_o4_2,hp_o4_3⟩,hf_o4⟩:=ho_o4
 refine⟨hf_o4,(Ad Q2 Q2),(Cf o4.c1 2 Q0),fun o5 ho_o5=>?_⟩
 obtain ⟨hp_o5,hf_o5⟩:=ho_o5
 refine⟨hf_o5,(Cf o5.c1 12 Q0),fun o6 ho_o6=>?_⟩
 obtain ⟨hp_o6,hf_o6⟩:=ho_o6
 refine⟨hf_o6,fun h4=>?_,fun h4=>?_⟩
 refine⟨(E9 o6.c1 [16,2047,2048,18999,20000,536870911] Q0 Q6 Q6),fun o7 ho_o7=>?_⟩
 obtain ⟨⟨hp_o7_0,hp_o7_1⟩,hf_o7⟩:=ho_o7
 refine⟨hf_o7,fun h5=>?_,fun h5=>?_⟩
 refine⟨(Nh _),fun h6=>have p6:=Av h6;?_,fun h6=>have p6:=A0 h6;?_⟩
 refine⟨(Cf o7.c1 2 Q0),fun o8 ho_o8=>?_⟩
 obtain ⟨hp_o8,hf_o8⟩:=ho_o8
 refine⟨hf_o8,dsp (fun h7 p7=>?_) fun h7 p7=>?_⟩
 refine⟨(Az o8.c1 (1+o1.x) Q0),fun o9 ho_o9=>?_⟩
 obtain ⟨⟨hp_o9_0,hp_o9_1,hp_o9_2,hp_o9_3⟩,hf_o9⟩:=ho_o9
 refine⟨(Bo (l:=q3.mQ) (i:=Int.toNat o9.x) Q2),fun x1 hx1=>?_⟩
 have hri:x1.id∈Hw q3.mQ:=List.mem_map.2 ⟨_,List.mem_of_getElem? hx1,rfl⟩
 refine⟨hf_o9,Q2,Q2,hx1,(Bo (l:=q3.mQ) (i:=q2.i) Q2),fun x2 hx2=>?_⟩
 have hxl:=w5 _ hx2
 have hsame:=Hf hx2
 refine⟨hx2,Q2,Q2,Q2,Q2,rfl,Q51,rfl,Q51,(Gw _ _ Q2),fun h8=>have q8:=Ao h8;?_,fun h8=>have q8:=An h8;?_⟩
 exact⟨Q2,Q2,Q2,Q2,rfl,Q51,Q6,Q2,Q2,Q2,Q2,rfl,hx2,rfl,Q51,Q6,Q2,Q2,Q2,Q2,rfl,hx2,rfl,rfl,(Ad Q2 Q2),A6 (j:=(⟨o9.c1,List.set q3.mQ q2.i (⟨x2.id,x2.fJ++[(⟨o7.x,1+o4.x,o5.p,o8.p,x1.id⟩:Fld)]⟩:Shp),q3.k+1⟩:Bt)) Q8 rfl Q1 Q30⟩
 exact⟨Q8,hx2,(Ad Q2 Q2),A6 (j:=(⟨o9.c1,List.set q3.mQ q2.i (⟨x2.id,x2.fJ⟩:Shp),q3.k+1⟩:Bt)) Q8 rfl Q1 Q30⟩
 refine⟨(Bo (l:=q3.mQ) (i:=q2.i) Q2),fun x1 hx1=>?_⟩
 have hxl:=w5 _ hx1
 have hsame:=Hf hx1
 refine⟨hx1,Q2,Q2,Q2,Q2,rfl,Q43,rfl,Q43,(Gw _ _ Q2),fun h8=>have q8:=Ao h8;?_,fun h8=>have q8:=An h8;?_⟩
 exact⟨Q2,Q2,Q2,Q2,rfl,Q43,Q6,Q2,Q2,Q2,Q2,rfl,hx1,rfl,Q43,Q6,Q2,Q2,Q2,Q2,rfl,hx1,rfl,rfl,(Ad Q2 Q2),A6 (j:=(⟨o8.c1,List.set q3.mQ q2.i (⟨x1.id,x1.fJ++[(⟨o7.x,1+o4.x,o5.p,o8.p,0⟩:Fld)]⟩:Shp),q3.k+1⟩:Bt)) Q8 rfl Q1 Q30⟩
 exact⟨Q8,hx1,(Ad Q2 Q2),A6 (j:=(⟨o8.c1,List.set q3.mQ q2.i (⟨x1.id,x1.fJ⟩:Shp),q3.k+1⟩:Bt)) Q8 rfl Q1 Q30⟩
 refine dsp (fun h7 p7=>?_) fun h7 p7=>?_
 refine⟨(Az o7.c1 (1+o1.x) Q0),fun o8 ho_o8=>?_⟩
 obtain ⟨⟨hp_o8_0,hp_o8_1,hp_o8_2,hp_o8_3⟩,hf_o8⟩:=ho_o8
 refine⟨(Bo (l:=q3.mQ) (i:=Int.toNat o8.x) Q2),fun x1 hx1=>?_⟩
 have hri:x1.id∈Hw q3.mQ:=List.mem_map.2 ⟨_,List.mem_of_getElem? hx1,rfl⟩
 refine⟨hf_o8,Q2,Q2,hx1,(Bo (l:=q3.mQ) (i:=q2.i) Q2),fun x2 hx2=>?_⟩
 have hxl:=w5 _ hx2
 have hsame:=Hf hx2
 refine⟨hx2,Q2,Q2,Q2,Q2,rfl,Q51,rfl,Q51,(Gw _ _ Q2),fun h8=>have q8:=Ao h8;?_,fun h8=>have q8:=An h8;?_⟩
 exact⟨Q2,Q2,Q2,Q2,rfl,Q51,Q6,Q2,Q2,Q2,Q2,rfl,hx2,rfl,Q51,Q6,Q2,Q2,Q2,Q2,rfl,hx2,rfl,rfl,(Ad Q2 Q2),A6 (j:=(⟨o8.c1,List.set q3.mQ q2.i (⟨x2.id,x2.fJ++[(⟨o7.x,1+o4.x,o5.p,false,x1.id⟩:Fld)]⟩:Shp),q3.k+1⟩:Bt)) Q8 rfl Q1 Q30⟩
 exact⟨Q8,hx2,(Ad Q2 Q2),A6 (j:=(⟨o8.c1,List.set q3.mQ q2.i (⟨x2.id,x2.fJ⟩:Shp),q3.k+1⟩:Bt)) Q8 rfl Q1 Q30⟩
 refine⟨(Bo (l:=q3.mQ) (i:=q2.i) Q2),fun x1 hx1=>?_⟩
 have hxl:=w5 _ hx1
 have hsame:=Hf hx1
 refine⟨hx1,Q2,Q2,Q2,Q2,rfl,Q43,rfl,Q43,(Gw _ _ Q2),fun h8=>have q8:=Ao h8;?_,fun h8=>have q8:=An h8;?_⟩
 exact⟨Q2,Q2,Q2,Q2,rfl,Q43,Q6,Q2,Q2,Q2,Q2,rfl,hx1,rfl,Q43,Q6,Q2,Q2,Q2,Q2,rfl,hx1,rfl,rfl,(Ad Q2 Q2),A6 (j:=(⟨o7.c1,List.set q3.mQ q2.i (⟨x1.id,x1.fJ++[(⟨o7.x,1+o4.x,o5.p,false,0⟩:Fld)]⟩:Shp),q3.k+1⟩:Bt)) Q8 rfl Q1 Q30⟩
 exact⟨Q8,hx1,(Ad Q2 Q2),A6 (j:=(⟨o7.c1,List.set q3.mQ q2.i (⟨x1.id,x1.fJ⟩:Shp),q3.k+1⟩:Bt)) Q8 rfl Q1 Q30⟩
 refine dsp (fun h6 p6=>?_) fun h6 p6=>?_
 refine⟨(Az o7.c1 (1+o1.x) Q0),fun o8 ho_o8=>?_⟩
 obtain ⟨⟨hp_o8_0,hp_o8_1,hp_o8_2,hp_o8_3⟩,hf_o8⟩:=ho_o8
 refine⟨(Bo (l:=q3.mQ) (i:=Int.toNat o8.x) Q2),fun x1 hx1=>?_⟩
 have hri:x1.id∈Hw q3.mQ:=List.mem_map.2 ⟨_,List.mem_of_getElem? hx1,rfl⟩
 refine⟨hf_o8,Q2,Q2,hx1,(Bo (l:=q3.mQ) (i:=q2.i) Q2),fun x2 hx2=>?_⟩
 have hxl:=w5 _ hx2
 have hsame:=Hf hx2
 refine⟨hx2,Q2,Q2,Q2,Q2,rfl,Q51,rfl,Q51,(Gw _ _ Q2),fun h7=>have q7:=Ao h7;?_,fun h7=>have q7:=An h7;?_⟩
 exact⟨Q2,Q2,Q2,Q2,rfl,Q51,Q6,Q2,Q2,Q2,Q2,rfl,hx2,rfl,Q51,Q6,Q2,Q2,Q2,Q2,rfl,hx2,rfl,rfl,(Ad Q2 Q2),A6 (j:=(⟨o8.c1,List.set q3.mQ q2.i (⟨x2.id,x2.fJ++[(⟨o7.x,1+o4.x,o5.p,false,x1.id⟩:Fld)]⟩:Shp),q3.k+1⟩:Bt)) Q8 rfl Q1 Q30⟩
 exact⟨Q8,hx2,(Ad Q2 Q2),A6 (j:=(⟨o8.c1,List.set q3.mQ q2.i (⟨x2.id,x2.fJ⟩:Shp),q3.k+1⟩:Bt)) Q8 rfl Q1 Q30⟩
 refine⟨(Bo (l:=q3.mQ) (i:=q2.i) Q2),fun x1 hx1=>?_⟩
 have hxl:=w5 _ hx1
 have hsame:=Hf hx1
 refine⟨hx1,Q2,Q2,Q2,Q2,rfl,Q43,rfl,Q43,(Gw _ _ Q2),fun h7=>have q7:=Ao h7;?_,fun h7=>have q7:=An h7;?_⟩
 exact⟨Q2,Q2,Q2,Q2,rfl,Q43,Q6,Q2,Q2,Q2,Q2,rfl,hx1,rfl,Q43,Q6,Q2,Q2,Q2,Q2,rfl,hx1,rfl,rfl,(Ad Q2 Q2),A6 (j:=(⟨o7.c1,List.set q3.mQ q2.i (⟨x1.id,x1.fJ++[(⟨o7.x,1+o4.x,o5.p,false,0⟩:Fld)]⟩:Shp),q3.k+1⟩:Bt)) Q8 rfl Q1 Q30⟩
 exact⟨Q8,hx1,(Ad Q2 Q2),A6 (j:=(⟨o7.c1,List.set q3.mQ q2.i (⟨x1.id,x1.fJ⟩:Shp),q3.k+1⟩:Bt)) Q8 rfl Q1 Q30⟩
 refine⟨fun h5=>?_,fun h5=>?_⟩
 refine⟨(Nh _),fun h6=>have p6:=Av h6;?_,fun h6=>have p6:=A0 h6;?_⟩
 refine⟨(Cf o6.c1 2 Q0),fun o7 ho_o7=>?_⟩
 obtain ⟨hp_o7,hf_o7⟩:=ho_o7
 refine⟨hf_o7,dsp (fun h7 p7=>?_) fun h7 p7=>?_⟩
 refine⟨(Az o7.c1 (1+o1.x) Q0),fun o8 ho_o8=>?_⟩
 obtain ⟨⟨hp_o8_0,hp_o8_1,hp_o8_2,hp_o8_3⟩,hf_o8⟩:=ho_o8
 refine⟨(Bo (l:=q3.mQ) (i:=Int.toNat o8.x) Q2),fun x1 hx1=>?_⟩
 have hri:x1.id∈Hw q3.mQ:=List.mem_map.2 ⟨_,List.mem_of_getElem? hx1,rfl⟩
 refine⟨hf_o8,Q2,Q2,hx1,(Bo (l:=q3.mQ) (i:=q2.i) Q2),fun x2 hx2=>?_⟩
 have hxl:=w5 _ hx2
 have hsame:=Hf hx2
 refine⟨hx2,Q2,Q2,Q2,Q2,rfl,Q51,rfl,Q51,(Gw _ _ Q2),fun h8=>have q8:=Ao h8;?_,fun h8=>have q8:=An h8;?_⟩
 exact⟨Q2,Q2,Q2,Q2,rfl,Q51,Q6,Q2,Q2,Q2,Q2,rfl,hx2,rfl,Q51,Q6,Q2,Q2,Q2,Q2,rfl,hx2,rfl,rfl,(Ad Q2 Q2),A6 (j:=(⟨o8.c1,List.set q3.mQ q2.i (⟨x2.id,x2.fJ++[(⟨1+o3.x,1+o4.x,o5.p,o7.p,x1.id⟩:Fld)]⟩:Shp),q3.k+1⟩:Bt)) Q8 rfl Q1 Q30⟩
 exact⟨Q8,hx2,(Ad Q2 Q2),A6 (j:=(⟨o8.c1,List.set q3.mQ q2.i (⟨x2.id,x2.fJ⟩:Shp),q3.k+1⟩:Bt)) Q8 rfl Q1 Q30⟩
 refine⟨(Bo (l:=q3.mQ) (i:=q2.i) Q2),fun x1 hx1=>?_⟩
 have hxl:=w5 _ hx1
 have hsame:=Hf hx1
 refine⟨hx1,Q2,Q2,Q2,Q2,rfl,Q43,rfl,Q43,(Gw _ _ Q2),fun h8=>have q8:=Ao h8;?_,fun h8=>have q8:=An h8;?_⟩
 exact⟨Q2,Q2,Q2,Q2,rfl,Q43,Q6,Q2,Q2,Q2,Q2,rfl,hx1,rfl,Q43,Q6,Q2,Q2,Q2,Q2,rfl,hx1,rfl,rfl,(Ad Q2 Q2),A6 (j:=(⟨o7.c1,List.set q3.mQ q2.i (⟨x1.id,x1.fJ++[(⟨1+o3.x,1+o4.x,o5.p,o7.p,0⟩:Fld)]⟩:Shp),q3.k+1⟩:Bt)) Q8 rfl Q1 Q30⟩
 exact⟨Q8,hx1,(Ad Q2 Q2),A6 (j:=(⟨o7.c1,List.set q3.mQ q2.i (⟨x1.id,x1.fJ⟩:Shp),q3.k+1⟩:Bt)) Q8 rfl Q1 Q30⟩
 refine dsp (fun h7 p7=>?_) fun h7 p7=>?_
 refine⟨(Az o6.c1 (1+o1.x) Q0),fun o7 ho_o7=>?_⟩
 obtain ⟨⟨hp_o7_0,hp_o7_1,hp_o7_2,hp_o7_3⟩,hf_o7⟩:=ho_o7
 refine⟨(Bo (l:=q3.mQ) (i:=Int.toNat o7.x) Q2),fun x1 hx1=>?_⟩
 have hri:x1.id∈Hw q3.mQ:=List.mem_map.2 ⟨_,List.mem_of_getElem? hx1,rfl⟩
 refine⟨hf_o7,Q2,Q2,hx1,(Bo (l:=q3.mQ) (i:=q2.i) Q2),fun x2 hx2=>?_⟩
 have hxl:=w5 _ hx2
 have hsame:=Hf hx2
 refine⟨hx2,Q2,Q2,Q2,Q2,rfl,Q51,rfl,Q51,(Gw _ _ Q2),fun h8=>have q8:=Ao h8;?_,fun h8=>have q8:=An h8;?_⟩
 exact⟨Q2,Q2,Q2,Q2,rfl,Q51,Q6,Q2,Q2,Q2,Q2,rfl,hx2,rfl,Q51,Q6,Q2,Q2,Q2,Q2,rfl,hx2,rfl,rfl,(Ad Q2 Q2),A6 (j:=(⟨o7.c1,List.set q3.mQ q2.i (⟨x2.id,x2.fJ++[(⟨1+o3.x,1+o4.x,o5.p,false,x1.id⟩:Fld)]⟩:Shp),q3.k+1⟩:Bt)) Q8 rfl Q1 Q30⟩
 exact⟨Q8,hx2,(Ad Q2 Q2),A6 (j:=(⟨o7.c1,List.set q3.mQ q2.i (⟨x2.id,x2.fJ⟩:Shp),q3.k+1⟩:Bt)) Q8 rfl Q1 Q30⟩
 refine⟨(Bo (l:=q3.mQ) (i:=q2.i) Q2),fun x1 hx1=>?_⟩
 have hxl:=w5 _ hx1
 have hsame:=Hf hx1
 refine⟨hx1,Q2,Q2,Q2,Q2,rfl,Q43,rfl,Q43,(Gw _ _ Q2),fun h8=>have q8:=Ao h8;?_,fun h8=>have q8:=An h8;?_⟩
 exact⟨Q2,Q2,Q2,Q2,rfl,Q43,Q6,Q2,Q2,Q2,Q2,rfl,hx1,rfl,Q43,Q6,Q2,Q2,Q2,Q2,rfl,hx1,rfl,rfl,(Ad Q2 Q2),A6 (j:=(⟨o6.c1,List.set q3.mQ q2.i (⟨x1.id,x1.fJ++[(⟨1+o3.x,1+o4.x,o5.p,false,0⟩:Fld)]⟩:Shp),q3.k+1⟩:Bt)) Q8 rfl Q1 Q30⟩
 exact⟨Q8,hx1,(Ad Q2 Q2),A6 (j:=(⟨o6.c1,List.set q3.mQ q2.i (⟨x1.id,x1.fJ⟩:Shp),q3.k+1⟩:Bt)) Q8 rfl Q1 Q30⟩
 refine dsp (fun h6 p6=>?_) fun h6 p6=>?_
 refine⟨(Az o6.c1 (1+o1.x) Q0),fun o7 ho_o7=>?_⟩
 obtain ⟨⟨hp_o7_0,hp_o7_1,hp_o7_2,hp_o7_3⟩,hf_o7⟩:=ho_o7
 refine⟨(Bo (l:=q3.mQ) (i:=Int.toNat o7.x) Q2),fun x1 hx1=>?_⟩
 have hri:x1.id∈Hw q3.mQ:=List.mem_map.2 ⟨_,List.mem_of_getElem? hx1,rfl⟩
 refine⟨hf_o7,Q2,Q2,hx1,(Bo (l:=q3.mQ) (i:=q2.i) Q2),fun x2 hx2=>?_⟩
 have hxl:=w5 _ hx2
 have hsame:=Hf hx2
 refine⟨hx2,Q2,Q2,Q2,Q2,rfl,Q51,rfl,Q51,(Gw _ _ Q2),fun h7=>have q7:=Ao h7;?_,fun h7=>have q7:=An h7;?_⟩
 exact⟨Q2,Q2,Q2,Q2,rfl,Q51,Q6,Q2,Q2,Q2,Q2,rfl,hx2,rfl,Q51,Q6,Q2,Q2,Q2,Q2,rfl,hx2,rfl,rfl,(Ad Q2 Q2),A6 (j:=(⟨o7.c1,List.set q3.mQ q2.i (⟨x2.id,x2.fJ++[(⟨1+o3.x,1+o4.x,o5.p,false,x1.id⟩:Fld)]⟩:Shp),q3.k+1⟩:Bt)) Q8 rfl Q1 Q30⟩
 exact⟨Q8,hx2,(Ad Q2 Q2),A6 (j:=(⟨o7.c1,List.set q3.mQ q2.i (⟨x2.id,x2.fJ⟩:Shp),q3.k+1⟩:Bt)) Q8 rfl Q1 Q30⟩
 refine⟨(Bo (l:=q3.mQ) (i:=q2.i) Q2),fun x1 hx1=>?_⟩
 have hxl:=w5 _ hx1
 have hsame:=Hf hx1
 refine⟨hx1,Q2,Q2,Q2,Q2,rfl,Q43,rfl,Q43,(Gw _ _ Q2),fun h7=>have q7:=Ao h7;?_,fun h7=>have q7:=An h7;?_⟩
 exact⟨Q2,Q2,Q2,Q2,rfl,Q43,Q6,Q2,Q2,Q2,Q2,rfl,hx1,rfl,Q43,Q6,Q2,Q2,Q2,Q2,rfl,hx1,rfl,rfl,(Ad Q2 Q2),A6 (j:=(⟨o6.c1,List.set q3.mQ q2.i (⟨x1.id,x1.fJ++[(⟨1+o3.x,1+o4.x,o5.p,false,0⟩:Fld)]⟩:Shp),q3.k+1⟩:Bt)) Q8 rfl Q1 Q30⟩
 exact⟨Q8,hx1,(Ad Q2 Q2),A6 (j:=(⟨o6.c1,List.set q3.mQ q2.i (⟨x1.id,x1.fJ⟩:Shp),q3.k+1⟩:Bt)) Q8 rfl Q1 Q30⟩
 exact⟨(Ad Q2 Q2),A6 (j:=(⟨q3.c,q3.mQ,q2.i+1⟩:Kf)) Q8 rfl (by dsimp only[Gk];exact⟨by assumption,by omega,w3,fun j m hj hm=>w4 j m Q2 hm⟩) (by dsimp only[Gk];omega)⟩
 exact⟨⟨((by dsimp only;rw[ulen];exact u3)),Q0⟩,rfl,rfl⟩
end Go.Proofs.YtphecbmdhbphgaaGreat.Ax
