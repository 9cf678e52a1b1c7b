/- Drawn decoders. What a read tells. Bent readers. Models: how Aou events a byte tells. Models: how Aou pulls a stream takes. Drawn streams. Decoders that are the same. What is too long to draw from. The law FnPullOne. Opening what the laws are handed. -/
import Derived.Test.YtphecbmdhbphgaaGreatKFnPullOne8
import Derived.Test.YtphecbmdhbphgaaGreatKFnPullOne5
import Derived.Test.YtphecbmdhbphgaaGreatKFnPullOne1
import Derived.Test.YtphecbmdhbphgaaGreatKFnPullOne6
import Derived.Test.YtphecbmdhbphgaaGreatKFnPullOne2
import Derived.Test.YtphecbmdhbphgaaGreatKFnPullOne4
import Derived.Test.YtphecbmdhbphgaaGreatKB4
set_option linter.unusedSimpArgs false
set_option linter.unusedVariables false
namespace Go.Proofs.YtphecbmdhbphgaaGreat.Ax
open Go.RowKit
structure DecB (d:Dcd):Prop where
 pln:d.pJ.sQ=[]∨PlnG ⟨d.pJ.sQ,d.pJ.rJ,1,d.pJ.most⟩
 dJ:d.pJ.dJ≤4
 sJ:d.sJ.length≤300000
 bits:0≤d.sK.bits∧d.sK.bits≤18446744073709551615
theorem DecB.shs {d:Dcd} (h:DecB d):d.pJ.sQ.length≤3:=by
 rcases h.pln with h|h
 ·rw[h];simp
 ·exact h.sch.1.2
theorem DecB.flds {d:Dcd} (h:DecB d): ∀e∈d.pJ.sQ,e.fJ.length≤5:=fun e he=>by
 rcases h.pln with h|h
 ·rw[h] at he;cases he
 ·have:=(h.sch.2 e he).1;omega
theorem DecB.good {d:Dcd} (h:DecB d) (hp:Dm d.pJ=true):PlnG d.pJ:=by
 have ht:=Cm hp
 rcases h.pln with h2|h2
 ·rw[h2] at ht;simp at ht;omega
 ·exact⟨h2.sch,h2.rJ,by have:=h.dJ;omega,h2.most⟩
theorem DecB.like {d x:Dcd} (h:DecB d) (h1:x.pJ=d.pJ) (h2:x.sJ.length≤300000) (h3:0≤x.sK.bits∧x.sK.bits≤18446744073709551615):DecB x:=
 ⟨by rw[h1];exact h.pln,by rw[h1];exact h.dJ,h2,h3⟩
theorem V9 {p:Pln} (h:PlnG p):DecB (Fd p):=by
 have hd:=h.dJ
 unfold Fd;split
 ·exact⟨.inr ⟨h.sch,h.rJ,by show (1:Int)≤1∧(1:Int)≤4;decide,h.most⟩,hd.2,by simp,by show (0:Int)≤0∧(0:Int)≤18446744073709551615;decide⟩
 ·exact⟨.inl rfl,by show (0:Int)≤4;decide,by simp,by show (0:Int)≤0∧(0:Int)≤18446744073709551615;decide⟩
theorem Adi {d:Dcd} {b:Int} (h:DecB d):DecB (Cr d b).d:=by
 have hl:=Qi (d:=d) (b:=b)
 have hs:=h.sJ
 exact h.like hl.1 Q2 (hl.2.2.2 h.bits)
structure Jz where
 d:Dcd
 c1:Cur
def Vj (c:Cur) (o:Jz):Prop:=Fun Tryz.prog 112 [vP 0] [.cells (B1 c)] (.v (.agg (Ae 1 2 o.d))) [.cells (B1 o.c1),.tree o.d.pJ.sQ,.lst .lev o.d.sJ]
def Qv (c:Cur) (o:Jz):Prop:=((DecB o.d)∧(List.length (o.d).sJ≤8)∧(As o.c1))∧Vj c o
structure Hu where
 c:Cur
 d:Dcd
 i:Nat
def F9 (o2:G6) (o3:Co):Fam:=⟨Hu,fun q1=>[(0,.v (vP 0)),(2,.v (vP 1)),(4,.v (vP 2)),(6,.v (vT o2.t)),(7,.v (vI o3.x)),(8,.v (vI ((q1.i:Nat):Int)))],fun q1=>[.cells (B1 q1.c),.cells [.nil,.int .i64 0,.int .i64 0,.int .i64 0,.int .i64 0,.nil,.int .u64 0,.int .i64 0,.int .i64 0,.int .i64 0,.int .i64 0,.int .i64 0,.bool false,.bool false,.int .i64 0,.int .i64 0,.int .i64 0,.int .i64 0,.int .i64 0,.int .i64 0,.int .i64 0,.int .i64 0,.int .u64 0,.int .i64 0,.str [],.int .i64 0,.int .i64 0],.cells (Ae 3 4 q1.d),.tree q1.d.pJ.sQ,.lst .lev q1.d.sJ],fun q1=>As q1.c∧DecB q1.d∧q1.i≤List.length o2.t∧List.length (q1.d).sJ≤8,fun q1=>List.length o2.t+1-q1.i⟩
theorem Agc (c:Cur) (hp1:As c): ∃o:Jz,Qv c o:=by
 have hN:A7=274877906944:=rfl
 refine B4 Tryz.func112 Q4 Q4 (w:=let zi:Int→C:= .int .i64;let z13:List C:=[.nil,zi 0,zi 0,zi 0,zi 0,.nil,.int .u64 0,zi 0,zi 0,zi 0,zi 0,zi 0,.bool false,.bool false,zi 0,zi 0,zi 0,zi 0,zi 0,zi 0,zi 0,zi 0,.int .u64 0,zi 0,.str [],zi 0,zi 0];(.intro (Lc c) fun o1=> .sZ [.call [0] (.v (.agg (Mp o1.p))) (Kc o1.c1),.call [] (.tup [.agg (Ae 0 1 (Fd o1.p)),vB (Dm o1.p)]) (L2 (Fd o1.p))] (.intro (Jy o1.c1 o1.p) fun o2=>let z10:=((o2.t.length:Nat):Int)+1;.sZ [.call [0] (.v (vT o2.t)) (Kc o2.c1),.as 24 (.v (vI z10))] (.intro (Aa o2.c1 z10) fun o3=> .sZ [.call [0] (.v (vI o3.x)) (Kc o3.c1),.at 0,.keep [0,2,4,6,7,8],.sel [0,1,5,3,4]] (.loop (F9 o2 o3) fun q1=>let z5:S:= .v (vI (((q1.i:Nat):Int)+1));.br (.intro (Sx (o2.t[q1.i]?)) fun x1=>let z2:=Cr q1.d ((UInt8.toNat x1:Nat):Int);.sZ [.tree (fr (.two 5 (fr (.one 9 (.one 10 (.first 11 (.done)))) 6 3) 9 (.one 5 (fr (.one 10 (.first 11 (.done))) 6 3))) 0 5) 12 [],.ch x1,.as 36 (.v (vI ((UInt8.toNat x1:Nat):Int))),.call [] (.tup [.agg (Ae 0 1 z2.d),vO 2]) (Ls z2.d z2.oJ),.at 0,.keep [0,2,4,6,7,8,9],.sel [0,1,2,3,4,8,5,6],.call [] (.tup [.agg (Ae 0 1 z2.d),vO 2]) (Ls z2.d z2.oJ),.at 0,.keep [0,2,4,6,7,8,9],.sel [0,1,2,3,4,5,6,7]] (.br (.intro (Aq q1.c 4) fun o4=> .sZ [.call [0] (.v (vB o4.p)) (Kc o4.c1)] (.br (.lJ (⟨q1.d,o4.c1⟩:Jz) [0,3,4]) (.sZ [.as 30 z5,.at 0,.keep [0,2,4,6,7,8],.sel [0,1,2,6,7]] (.next)))) (.sZ [.as 30 z5,.at 0,.keep [0,2,4,6,7,8],.sel [0,1,2,6,7]] (.next)))) (.lJ (⟨q1.d,q1.c⟩:Jz) [0,3,4])))),In (Lc c) fun o1=>(let z12:=Fd o1.p;(St c o1)∧(Fp 40 [.agg (Mp o1.p)] [] (.tup [.agg (Ae 0 1 z12),vB (Dm o1.p)]) (L2 z12))∧In (Jy o1.c1 o1.p) fun o2=>(let z11:=((o2.t.length:Nat):Int)+1;(Mh o1.c1 o1.p o2)∧(wI z11)∧In (Aa o2.c1 z11) fun o3=>(let z9:=F9 o2 o3;(Ai o2.c1 z11 o3)∧z9.Has [(0,.v (vP 0)),(2,.v (vP 1)),(4,.v (vP 2)),(6,.v (vT o2.t)),(7,.v (vI o3.x)),(8,.v (vI 0))] [.cells (B1 o3.c1),.cells z13,.cells (Ae 3 4 z12),.tree z12.pJ.sQ,.lst .lev z12.sJ]∧∀q1,z9.inv q1→(let z6:=((q1.i:Nat):Int);let z7:S:= .v (.agg (Ae 1 2 q1.d));let z8:List Blk:=[.cells (B1 q1.c),.tree q1.d.pJ.sQ,.lst .lev q1.d.sJ];Bc (decide (z6<o3.x)) (El (o2.t[q1.i]?) fun x1=>(let z4:=((UInt8.toNat x1:Nat):Int);let z3:=Cr q1.d z4;(o2.t[q1.i]? =some x1)∧((0:Int)≤z6)∧(o2.t[q1.i]? =some x1)∧((0:Int)≤z6)∧(wI (z4))∧(wI (z4))∧(Fp 24 [.agg (Bx q1.d),vI z4] [] (.tup [.agg (Ae 0 1 z3.d),vO 2]) (Ls z3.d z3.oJ))∧(Fp 24 [.agg (Bx q1.d),vI z4] [] (.tup [.agg (Ae 0 1 z3.d),vO 2]) (Ls z3.d z3.oJ))∧(([.cells (B1 q1.c),.cells z13,.cells (Ae 3 4 q1.d),.tree q1.d.pJ.sQ,.lst .lev q1.d.sJ,.cells (Ae 6 7 z3.d),.tree z3.d.pJ.sQ,.lst .lev z3.d.sJ]:List Blk)=[.cells (B1 q1.c),.cells z13,.cells (Ae 3 4 q1.d),.tree q1.d.pJ.sQ,.lst .lev q1.d.sJ,.cells (Ae 6 7 z3.d),.tree z3.d.pJ.sQ,.lst .lev z3.d.sJ])∧(([(0,.v (vP 0)),(2,.v (vP 1)),(4,.v (vP 2)),(6,.v (vT o2.t)),(7,.v (vI o3.x)),(8,.v (vI z6)),(9,.v (vP 5))]:List (Nat×S))=[(0,.v (vP 0)),(2,.v (vP 1)),(4,.v (vP 2)),(6,.v (vT o2.t)),(7,.v (vI o3.x)),(8,.v (vI z6)),(9,.v (vP 5))])∧Bc (decide (z3.d.mJ=9)) (In (Aq q1.c 4) fun o4=>(let z1:List Blk:=[.cells (B1 o4.c1),.tree q1.d.pJ.sQ,.lst .lev q1.d.sJ];(Ba q1.c 4 o4)∧Bc (!o4.p) (((DecB q1.d)∧(List.length (q1.d).sJ≤8)∧(As o4.c1))∧Lf z7 z7 z1 z1) ((wI (z6+1))∧z9.Nxt q1 [(0,.v (vP 0)),(2,.v (vP 1)),(4,.v (vP 2)),(6,.v (vT o2.t)),(7,.v (vI o3.x)),(8,.v (vI (z6+1)))] [.cells (B1 o4.c1),.cells z13,.cells (Ae 3 4 z3.d),.tree z3.d.pJ.sQ,.lst .lev z3.d.sJ]))) ((wI (z6+1))∧z9.Nxt q1 [(0,.v (vP 0)),(2,.v (vP 1)),(4,.v (vP 2)),(6,.v (vT o2.t)),(7,.v (vI o3.x)),(8,.v (vI (z6+1)))] [.cells (B1 q1.c),.cells z13,.cells (Ae 3 4 z3.d),.tree z3.d.pJ.sQ,.lst .lev z3.d.sJ]))) (((DecB q1.d)∧(List.length (q1.d).sJ≤8)∧(As q1.c))∧Lf z7 z7 z8 z8))))))) Q4 ?_
 refine⟨(Ab5 c Q0),fun o1 ho_o1=>?_⟩
 obtain ⟨⟨hp_o1_0,hp_o1_1⟩,hf_o1⟩:=ho_o1
 refine⟨hf_o1,(Aen o1.p Q82),(Zp o1.c1 o1.p Q0 Q2),fun o2 ho_o2=>?_⟩
 obtain ⟨⟨hp_o2_0,hp_o2_1⟩,hf_o2⟩:=ho_o2
 refine⟨hf_o2,(Ad Q2 Q2),(Ao o2.c1 (((o2.t.length:Nat):Int)+1) Q0),fun o3 ho_o3=>?_⟩
 obtain ⟨⟨hp_o3_0,hp_o3_1,hp_o3_2,hp_o3_3⟩,hf_o3⟩:=ho_o3
 refine⟨hf_o3,Bm (j:=(⟨o3.c1,(Fd o1.p),0⟩:Hu)) Q9 rfl (by dsimp only[F9];exact⟨by assumption,V9 (by assumption),by omega,Aaq.2.2.1⟩),fun (q1:Hu) hq_q1=>?_⟩
 have hi_q1:As q1.c∧DecB q1.d∧q1.i≤o2.t.length∧List.length (q1.d).sJ≤8:=hq_q1
 obtain ⟨v1,v2,v3,v4⟩:=hi_q1
 refine dsp (fun h1 p1=>?_) fun h1 p1=>?_
 refine⟨(Bo (l:=o2.t) (i:=q1.i) Q2),fun x1 hx1=>?_⟩
 have hb_x1:=UInt8.toNat_lt x1
 refine⟨hx1,Q2,hx1,Q2,(Ad Q2 Q2),(Ad Q2 Q2),(Aan q1.d _ (by have:=v2.shs;omega) (fun e he=>by have:=v2.flds e he;omega) (by have:=v2.sJ;omega) (v2.bits)),(Aan q1.d _ (by have:=v2.shs;omega) (fun e he=>by have:=v2.flds e he;omega) (by have:=v2.sJ;omega) (v2.bits)),rfl,rfl,dsp (fun h2 p2=>?_) fun h2 p2=>?_⟩
 refine⟨(Bz q1.c 4 Q0),fun o4 ho_o4=>?_⟩
 obtain ⟨hp_o4,hf_o4⟩:=ho_o4
 refine⟨hf_o4,fun h3=>have q3:=An h3;?_,fun h3=>have q3:=Am h3;?_⟩
 exact⟨⟨(by first|assumption|exact V9 (by assumption)|exact Adi (by assumption)),(by first|exact v4|exact Aaq.2.2.1|omega),Q0⟩,rfl,rfl⟩
 exact⟨(Ad Q2 Q2),A4 (j:=(⟨o4.c1,(Cr q1.d ((UInt8.toNat x1:Nat):Int)).d,q1.i+1⟩:Hu)) Q9 rfl Q75 (by dsimp only[F9];omega)⟩
 exact⟨(Ad Q2 Q2),A4 (j:=(⟨q1.c,(Cr q1.d ((UInt8.toNat x1:Nat):Int)).d,q1.i+1⟩:Hu)) Q9 rfl Q75 (by dsimp only[F9];omega)⟩
 exact⟨⟨(by first|assumption|exact V9 (by assumption)|exact Adi (by assumption)),(by first|exact v4|exact Aaq.2.2.1|omega),Q0⟩,rfl,rfl⟩
structure C8 where
 d:Dcd
 c1:Cur
def X5 (c:Cur) (o:C8):Prop:=Fun Tryz.prog 54 [vP 0] [.cells (B1 c)] (.v (.agg (Ae 1 2 o.d))) [.cells (B1 o.c1),.tree o.d.pJ.sQ,.lst .lev o.d.sJ]
def Sy (c:Cur) (o:C8):Prop:=((DecB o.d)∧(As o.c1))∧X5 c o
theorem Ai5 (c:Cur) (hp1:As c): ∃o:C8,Sy c o:=by
 have hN:A7=274877906944:=rfl
 refine B4 Tryz.func54 Q4 Q4 (w:=let zi:Int→C:= .int .i64;(.intro (Qv c) fun o1=> .sZ [.call [0] (.v (.agg (Ae 1 2 o1.d))) [.cells (B1 o1.c1),.tree o1.d.pJ.sQ,.lst .lev o1.d.sJ]] (.intro (Aa o1.c1 22) fun o2=> .sZ [.call [0] (.v (vI o2.x)) (Kc o2.c1)] (.br (.intro (Aa o2.c1 12) fun o3=> .sZ [.call [0] (.v (vI o3.x)) (Kc o3.c1),.as 12 (.v (vI (o3.x-1)))] (.lJ (⟨(⟨o1.d.pJ,o3.x-1,o1.d.sJ,o1.d.sK,o1.d.sX,o1.d.aJ,o1.d.field,o1.d.wJ,o1.d.wK,o1.d.uJ,o1.d.eJ⟩:Dcd),o3.c1⟩:C8) [0,2,3])) (.br (.sZ [.ty .int,.pubS 17] (.intro (A0 o2.c1 [0,1,5,2000,(-1)]) fun o3=> .sZ [.call [0] (.v (vI o3.x)) (Kc o3.c1)] (.lJ (⟨(⟨o1.d.pJ,o1.d.mJ,o1.d.sJ,o1.d.sK,o1.d.sX,o1.d.aJ,o1.d.field,o1.d.wJ,o3.x,o1.d.uJ,o1.d.eJ⟩:Dcd),o3.c1⟩:C8) [0,2,3]))) (.br (.intro (Aa o2.c1 4) fun o3=> .intro (Hp o3.c1 [0,1,7,2000,2001,(-1)]) fun o4=>let z5:List Blk:=[.cells (B1 o4.c1),.lst .int [0,1,7,2000,2001,(-1)]];.sZ [.tree (fr (.first 5 (.two 3 (.first 4 (.one 6 (.one 7 (.first 8 (.one 9 (.one 10 (.first 11 (.one 12 (.done))))))))) 6 (.one 3 (.first 4 (.one 7 (.first 8 (.one 9 (.one 10 (.first 11 (.one 12 (.done))))))))))) 0 3) 12 [0,3],.call [0] (.v (vI o3.x)) (Kc o3.c1),.as 26 (.v (vI (o3.x-1))),.ty .int,.call [0,5] (.v (vI o4.x)) z5,.ty .lev,.ty .lev,.at 0,.keep [2,3],.sel [0,1,4,2,7],.ty .int,.call [0] (.v (vI o3.x)) (Kc o3.c1),.as 26 (.v (vI (o3.x-1))),.call [0,5] (.v (vI o4.x)) z5,.ty .lev,.ty .lev,.at 0,.keep [2,3],.sel [0,1,4,2,7]] (.lJ (⟨(⟨o1.d.pJ,o1.d.mJ,o1.d.sJ++[(⟨o3.x-1,o4.x⟩:Lev)],o1.d.sK,o1.d.sX,o1.d.aJ,o1.d.field,o1.d.wJ,o1.d.wK,o1.d.uJ,o1.d.eJ⟩:Dcd),o4.c1⟩:C8) [0,3,4])) (.br (.intro (Uu o2.c1) fun o3=> .sZ [.call [0] (.v (.agg (Lk o3.s))) (Kc o3.c1)] (.lJ (⟨(⟨o1.d.pJ,o1.d.mJ,o1.d.sJ,o3.s,o1.d.sX,o1.d.aJ,o1.d.field,o1.d.wJ,o1.d.wK,o1.d.uJ,o1.d.eJ⟩:Dcd),o3.c1⟩:C8) [0,2,3])) (.br (.intro (Aa o2.c1 9) fun o3=> .sZ [.call [0] (.v (vI o3.x)) (Kc o3.c1),.as 43 (.v (vI (o3.x-1)))] (.lJ (⟨(⟨o1.d.pJ,o1.d.mJ,o1.d.sJ,o1.d.sK,o1.d.sX,o1.d.aJ,o1.d.field,o3.x-1,o1.d.wK,o1.d.uJ,o1.d.eJ⟩:Dcd),o3.c1⟩:C8) [0,2,3])) (.br (.intro (Aa o2.c1 5) fun o3=> .sZ [.call [0] (.v (vI o3.x)) (Kc o3.c1),.as 49 (.v (vI (1+o3.x)))] (.intro (Aa o3.c1 8) fun o4=> .sZ [.call [0] (.v (vI o4.x)) (Kc o4.c1),.as 52 (.v (vI (1+o4.x)))] (.lJ (⟨(⟨o1.d.pJ,o1.d.mJ,o1.d.sJ,o1.d.sK,o1.d.sX,o1.d.aJ,(⟨1+o3.x,1+o4.x,false,false,(-1)⟩:Fld),o1.d.wJ,o1.d.wK,o1.d.uJ,o1.d.eJ⟩:Dcd),o4.c1⟩:C8) [0,2,3]))) (.br (.intro (Sw o2.c1) fun o3=> .sZ [.call [0] (.v (.agg (K5 o3.u))) (Kc o3.c1)] (.lJ (⟨(⟨o1.d.pJ,o1.d.mJ,o1.d.sJ,o1.d.sK,o1.d.sX,o1.d.aJ,o1.d.field,o1.d.wJ,o1.d.wK,o3.u,o1.d.eJ⟩:Dcd),o3.c1⟩:C8) [0,2,3])) (.br (.intro (Lh o2.c1) fun o3=> .sZ [.call [0] (.v (.agg (cEv o3.e))) (Kc o3.c1)] (.lJ (⟨(⟨o1.d.pJ,o1.d.mJ,o1.d.sJ,o1.d.sK,o1.d.sX,o1.d.aJ,o1.d.field,o1.d.wJ,o1.d.wK,o1.d.uJ,o3.e⟩:Dcd),o3.c1⟩:C8) [0,2,3])) (.br (.sZ [.ty .int,.pubS 68] (.intro (A0 o2.c1 [0,1000000000,1000000001,(-1),9223372036854775807]) fun o3=> .sZ [.call [0] (.v (vI o3.x)) (Kc o3.c1)] (.lJ (⟨(⟨o1.d.pJ,o1.d.mJ,o1.d.sJ,o1.d.sK,o1.d.sX,o3.x,o1.d.field,o1.d.wJ,o1.d.wK,o1.d.uJ,o1.d.eJ⟩:Dcd),o3.c1⟩:C8) [0,2,3]))) (.br (.sZ [.ty .int,.pubS 79] (.intro (A0 o2.c1 [0,o1.d.aJ,IntKind.i64.wrap (o1.d.aJ+1),(-1)]) fun o3=> .sZ [.call [0] (.v (vI o3.x)) (Kc o3.c1)] (.lJ (⟨(⟨o1.d.pJ,o1.d.mJ,o1.d.sJ,o1.d.sK,o3.x,o1.d.aJ,o1.d.field,o1.d.wJ,o1.d.wK,o1.d.uJ,o1.d.eJ⟩:Dcd),o3.c1⟩:C8) [0,2,3]))) (.br (.intro (Aa o2.c1 4) fun o3=> .sZ [.call [0] (.v (vI o3.x)) (Kc o3.c1)] (.lJ (⟨(⟨(⟨o1.d.pJ.sQ,o1.d.pJ.rJ,o3.x,o1.d.pJ.most⟩:Pln),o1.d.mJ,o1.d.sJ,o1.d.sK,o1.d.sX,o1.d.aJ,o1.d.field,o1.d.wJ,o1.d.wK,o1.d.uJ,o1.d.eJ⟩:Dcd),o3.c1⟩:C8) [0,2,3])) (.lJ (⟨o1.d,o2.c1⟩:C8) [0,2,3]))))))))))))),In (Qv c) fun o1=>(let z27:S:= .v (.agg (Ae 1 2 o1.d));(Vj c o1)∧In (Aa o1.c1 22) fun o2=>(let z26:List Blk:=[.cells (B1 o2.c1),.tree o1.d.pJ.sQ,.lst .lev o1.d.sJ];(Ai o1.c1 22 o2)∧Bc (decide (o2.x=0)) (In (Aa o2.c1 12) fun o3=>(let z1:S:= .v (.agg [.own 1,zi o1.d.pJ.rJ,zi o1.d.pJ.dJ,zi o1.d.pJ.most,zi (o3.x-1),.own 2,.int .u64 o1.d.sK.bits,zi o1.d.sK.hJ,zi o1.d.sX,zi o1.d.aJ,zi o1.d.field.nJ,zi o1.d.field.kind,.bool o1.d.field.rep,.bool o1.d.field.packed,zi o1.d.field.mK,zi o1.d.wJ,zi o1.d.wK,zi o1.d.uJ.wK,zi o1.d.uJ.low,zi o1.d.uJ.high,zi o1.d.eJ.kind,zi o1.d.eJ.field,.int .u64 o1.d.eJ.bits,zi o1.d.eJ.len,.str o1.d.eJ.text,zi o1.d.eJ.code,zi o1.d.eJ.aJ]);let z2:List Blk:=[.cells (B1 o3.c1),.tree o1.d.pJ.sQ,.lst .lev o1.d.sJ];(Ai o2.c1 12 o3)∧(wI (o3.x-1))∧((DecB (⟨o1.d.pJ,o3.x-1,o1.d.sJ,o1.d.sK,o1.d.sX,o1.d.aJ,o1.d.field,o1.d.wJ,o1.d.wK,o1.d.uJ,o1.d.eJ⟩:Dcd))∧(As o3.c1))∧Lf z1 z1 z2 z2)) (Bc (decide (o2.x=1)) (In (A0 o2.c1 [0,1,5,2000,(-1)]) fun o3=>(let z3:S:= .v (.agg [.own 1,zi o1.d.pJ.rJ,zi o1.d.pJ.dJ,zi o1.d.pJ.most,zi o1.d.mJ,.own 2,.int .u64 o1.d.sK.bits,zi o1.d.sK.hJ,zi o1.d.sX,zi o1.d.aJ,zi o1.d.field.nJ,zi o1.d.field.kind,.bool o1.d.field.rep,.bool o1.d.field.packed,zi o1.d.field.mK,zi o1.d.wJ,zi o3.x,zi o1.d.uJ.wK,zi o1.d.uJ.low,zi o1.d.uJ.high,zi o1.d.eJ.kind,zi o1.d.eJ.field,.int .u64 o1.d.eJ.bits,zi o1.d.eJ.len,.str o1.d.eJ.text,zi o1.d.eJ.code,zi o1.d.eJ.aJ]);let z4:List Blk:=[.cells (B1 o3.c1),.tree o1.d.pJ.sQ,.lst .lev o1.d.sJ];(B7 o2.c1 [0,1,5,2000,(-1)] o3)∧((DecB (⟨o1.d.pJ,o1.d.mJ,o1.d.sJ,o1.d.sK,o1.d.sX,o1.d.aJ,o1.d.field,o1.d.wJ,o3.x,o1.d.uJ,o1.d.eJ⟩:Dcd))∧(As o3.c1))∧Lf z3 z3 z4 z4)) (Bc (decide (o2.x=2)) (In (Aa o2.c1 4) fun o3=>(In (Hp o3.c1 [0,1,7,2000,2001,(-1)]) fun o4=>(let z7:=(⟨o3.x-1,o4.x⟩:Lev);let z6:List Blk:=[.cells (B1 o4.c1),.cells [.nil,zi 0,zi 0,zi 0,zi 0,.nil,.int .u64 0,zi 0,zi 0,zi 0,zi 0,zi 0,.bool false,.bool false,zi 0,zi 0,zi 0,zi 0,zi 0,zi 0,zi 0,zi 0,.int .u64 0,zi 0,.str [],zi 0,zi 0],.cells (Ae 3 4 o1.d),.tree o1.d.pJ.sQ,.lst .lev (o1.d.sJ++[z7])];let z8:List Blk:=[.cells (B1 o4.c1),.tree o1.d.pJ.sQ,.lst .lev (o1.d.sJ++[z7])];let z9:=Pf o3.c1 [0,1,7,2000,2001,(-1)] o4;(Ai o2.c1 4 o3)∧(wI (o3.x-1))∧z9∧(o1.d.sJ.length+List.length [z7]≤A7)∧(Ai o2.c1 4 o3)∧(wI (o3.x-1))∧z9∧(o1.d.sJ.length+List.length [z7]≤A7)∧((z6:List Blk)=z6)∧(([(2,.v (vP 1)),(3,.v (vP 2))]:List (Nat×S))=[(2,.v (vP 1)),(3,.v (vP 2))])∧((DecB (⟨o1.d.pJ,o1.d.mJ,o1.d.sJ++[z7],o1.d.sK,o1.d.sX,o1.d.aJ,o1.d.field,o1.d.wJ,o1.d.wK,o1.d.uJ,o1.d.eJ⟩:Dcd))∧(As o4.c1))∧Lf z27 z27 z8 z8))) (Bc (decide (o2.x=3)) (In (Uu o2.c1) fun o3=>(let z10:S:= .v (.agg [.own 1,zi o1.d.pJ.rJ,zi o1.d.pJ.dJ,zi o1.d.pJ.most,zi o1.d.mJ,.own 2,.int .u64 o3.s.bits,zi o3.s.hJ,zi o1.d.sX,zi o1.d.aJ,zi o1.d.field.nJ,zi o1.d.field.kind,.bool o1.d.field.rep,.bool o1.d.field.packed,zi o1.d.field.mK,zi o1.d.wJ,zi o1.d.wK,zi o1.d.uJ.wK,zi o1.d.uJ.low,zi o1.d.uJ.high,zi o1.d.eJ.kind,zi o1.d.eJ.field,.int .u64 o1.d.eJ.bits,zi o1.d.eJ.len,.str o1.d.eJ.text,zi o1.d.eJ.code,zi o1.d.eJ.aJ]);let z11:List Blk:=[.cells (B1 o3.c1),.tree o1.d.pJ.sQ,.lst .lev o1.d.sJ];(Zq o2.c1 o3)∧((DecB (⟨o1.d.pJ,o1.d.mJ,o1.d.sJ,o3.s,o1.d.sX,o1.d.aJ,o1.d.field,o1.d.wJ,o1.d.wK,o1.d.uJ,o1.d.eJ⟩:Dcd))∧(As o3.c1))∧Lf z10 z10 z11 z11)) (Bc (decide (o2.x=4)) (In (Aa o2.c1 9) fun o3=>(let z12:S:= .v (.agg [.own 1,zi o1.d.pJ.rJ,zi o1.d.pJ.dJ,zi o1.d.pJ.most,zi o1.d.mJ,.own 2,.int .u64 o1.d.sK.bits,zi o1.d.sK.hJ,zi o1.d.sX,zi o1.d.aJ,zi o1.d.field.nJ,zi o1.d.field.kind,.bool o1.d.field.rep,.bool o1.d.field.packed,zi o1.d.field.mK,zi (o3.x-1),zi o1.d.wK,zi o1.d.uJ.wK,zi o1.d.uJ.low,zi o1.d.uJ.high,zi o1.d.eJ.kind,zi o1.d.eJ.field,.int .u64 o1.d.eJ.bits,zi o1.d.eJ.len,.str o1.d.eJ.text,zi o1.d.eJ.code,zi o1.d.eJ.aJ]);let z13:List Blk:=[.cells (B1 o3.c1),.tree o1.d.pJ.sQ,.lst .lev o1.d.sJ];(Ai o2.c1 9 o3)∧(wI (o3.x-1))∧((DecB (⟨o1.d.pJ,o1.d.mJ,o1.d.sJ,o1.d.sK,o1.d.sX,o1.d.aJ,o1.d.field,o3.x-1,o1.d.wK,o1.d.uJ,o1.d.eJ⟩:Dcd))∧(As o3.c1))∧Lf z12 z12 z13 z13)) (Bc (decide (o2.x=5)) (In (Aa o2.c1 5) fun o3=>((Ai o2.c1 5 o3)∧(wI (1+o3.x))∧In (Aa o3.c1 8) fun o4=>(let z14:S:= .v (.agg [.own 1,zi o1.d.pJ.rJ,zi o1.d.pJ.dJ,zi o1.d.pJ.most,zi o1.d.mJ,.own 2,.int .u64 o1.d.sK.bits,zi o1.d.sK.hJ,zi o1.d.sX,zi o1.d.aJ,zi (1+o3.x),zi (1+o4.x),.bool false,.bool false,zi (-1),zi o1.d.wJ,zi o1.d.wK,zi o1.d.uJ.wK,zi o1.d.uJ.low,zi o1.d.uJ.high,zi o1.d.eJ.kind,zi o1.d.eJ.field,.int .u64 o1.d.eJ.bits,zi o1.d.eJ.len,.str o1.d.eJ.text,zi o1.d.eJ.code,zi o1.d.eJ.aJ]);let z15:List Blk:=[.cells (B1 o4.c1),.tree o1.d.pJ.sQ,.lst .lev o1.d.sJ];(Ai o3.c1 8 o4)∧(wI (1+o4.x))∧((DecB (⟨o1.d.pJ,o1.d.mJ,o1.d.sJ,o1.d.sK,o1.d.sX,o1.d.aJ,(⟨1+o3.x,1+o4.x,false,false,(-1)⟩:Fld),o1.d.wJ,o1.d.wK,o1.d.uJ,o1.d.eJ⟩:Dcd))∧(As o4.c1))∧Lf z14 z14 z15 z15))) (Bc (decide (o2.x=6)) (In (Sw o2.c1) fun o3=>(let z16:S:= .v (.agg [.own 1,zi o1.d.pJ.rJ,zi o1.d.pJ.dJ,zi o1.d.pJ.most,zi o1.d.mJ,.own 2,.int .u64 o1.d.sK.bits,zi o1.d.sK.hJ,zi o1.d.sX,zi o1.d.aJ,zi o1.d.field.nJ,zi o1.d.field.kind,.bool o1.d.field.rep,.bool o1.d.field.packed,zi o1.d.field.mK,zi o1.d.wJ,zi o1.d.wK,zi o3.u.wK,zi o3.u.low,zi o3.u.high,zi o1.d.eJ.kind,zi o1.d.eJ.field,.int .u64 o1.d.eJ.bits,zi o1.d.eJ.len,.str o1.d.eJ.text,zi o1.d.eJ.code,zi o1.d.eJ.aJ]);let z17:List Blk:=[.cells (B1 o3.c1),.tree o1.d.pJ.sQ,.lst .lev o1.d.sJ];(X4 o2.c1 o3)∧((DecB (⟨o1.d.pJ,o1.d.mJ,o1.d.sJ,o1.d.sK,o1.d.sX,o1.d.aJ,o1.d.field,o1.d.wJ,o1.d.wK,o3.u,o1.d.eJ⟩:Dcd))∧(As o3.c1))∧Lf z16 z16 z17 z17)) (Bc (decide (o2.x=7)) (In (Lh o2.c1) fun o3=>(let z18:S:= .v (.agg [.own 1,zi o1.d.pJ.rJ,zi o1.d.pJ.dJ,zi o1.d.pJ.most,zi o1.d.mJ,.own 2,.int .u64 o1.d.sK.bits,zi o1.d.sK.hJ,zi o1.d.sX,zi o1.d.aJ,zi o1.d.field.nJ,zi o1.d.field.kind,.bool o1.d.field.rep,.bool o1.d.field.packed,zi o1.d.field.mK,zi o1.d.wJ,zi o1.d.wK,zi o1.d.uJ.wK,zi o1.d.uJ.low,zi o1.d.uJ.high,zi o3.e.kind,zi o3.e.field,.int .u64 o3.e.bits,zi o3.e.len,.str o3.e.text,zi o3.e.code,zi o3.e.aJ]);let z19:List Blk:=[.cells (B1 o3.c1),.tree o1.d.pJ.sQ,.lst .lev o1.d.sJ];(Sv o2.c1 o3)∧((DecB (⟨o1.d.pJ,o1.d.mJ,o1.d.sJ,o1.d.sK,o1.d.sX,o1.d.aJ,o1.d.field,o1.d.wJ,o1.d.wK,o1.d.uJ,o3.e⟩:Dcd))∧(As o3.c1))∧Lf z18 z18 z19 z19)) (Bc (decide (o2.x=8)) (In (A0 o2.c1 [0,1000000000,1000000001,(-1),9223372036854775807]) fun o3=>(let z20:S:= .v (.agg [.own 1,zi o1.d.pJ.rJ,zi o1.d.pJ.dJ,zi o1.d.pJ.most,zi o1.d.mJ,.own 2,.int .u64 o1.d.sK.bits,zi o1.d.sK.hJ,zi o1.d.sX,zi o3.x,zi o1.d.field.nJ,zi o1.d.field.kind,.bool o1.d.field.rep,.bool o1.d.field.packed,zi o1.d.field.mK,zi o1.d.wJ,zi o1.d.wK,zi o1.d.uJ.wK,zi o1.d.uJ.low,zi o1.d.uJ.high,zi o1.d.eJ.kind,zi o1.d.eJ.field,.int .u64 o1.d.eJ.bits,zi o1.d.eJ.len,.str o1.d.eJ.text,zi o1.d.eJ.code,zi o1.d.eJ.aJ]);let z21:List Blk:=[.cells (B1 o3.c1),.tree o1.d.pJ.sQ,.lst .lev o1.d.sJ];(B7 o2.c1 [0,1000000000,1000000001,(-1),9223372036854775807] o3)∧((DecB (⟨o1.d.pJ,o1.d.mJ,o1.d.sJ,o1.d.sK,o1.d.sX,o3.x,o1.d.field,o1.d.wJ,o1.d.wK,o1.d.uJ,o1.d.eJ⟩:Dcd))∧(As o3.c1))∧Lf z20 z20 z21 z21)) (Bc (decide (o2.x=9)) (In (A0 o2.c1 [0,o1.d.aJ,IntKind.i64.wrap (o1.d.aJ+1),(-1)]) fun o3=>(let z22:S:= .v (.agg [.own 1,zi o1.d.pJ.rJ,zi o1.d.pJ.dJ,zi o1.d.pJ.most,zi o1.d.mJ,.own 2,.int .u64 o1.d.sK.bits,zi o1.d.sK.hJ,zi o3.x,zi o1.d.aJ,zi o1.d.field.nJ,zi o1.d.field.kind,.bool o1.d.field.rep,.bool o1.d.field.packed,zi o1.d.field.mK,zi o1.d.wJ,zi o1.d.wK,zi o1.d.uJ.wK,zi o1.d.uJ.low,zi o1.d.uJ.high,zi o1.d.eJ.kind,zi o1.d.eJ.field,.int .u64 o1.d.eJ.bits,zi o1.d.eJ.len,.str o1.d.eJ.text,zi o1.d.eJ.code,zi o1.d.eJ.aJ]);let z23:List Blk:=[.cells (B1 o3.c1),.tree o1.d.pJ.sQ,.lst .lev o1.d.sJ];(B7 o2.c1 [0,o1.d.aJ,IntKind.i64.wrap (o1.d.aJ+1),(-1)] o3)∧((DecB (⟨o1.d.pJ,o1.d.mJ,o1.d.sJ,o1.d.sK,o3.x,o1.d.aJ,o1.d.field,o1.d.wJ,o1.d.wK,o1.d.uJ,o1.d.eJ⟩:Dcd))∧(As o3.c1))∧Lf z22 z22 z23 z23)) (Bc (decide (o2.x=10)) (In (Aa o2.c1 4) fun o3=>(let z24:S:= .v (.agg [.own 1,zi o1.d.pJ.rJ,zi o3.x,zi o1.d.pJ.most,zi o1.d.mJ,.own 2,.int .u64 o1.d.sK.bits,zi o1.d.sK.hJ,zi o1.d.sX,zi o1.d.aJ,zi o1.d.field.nJ,zi o1.d.field.kind,.bool o1.d.field.rep,.bool o1.d.field.packed,zi o1.d.field.mK,zi o1.d.wJ,zi o1.d.wK,zi o1.d.uJ.wK,zi o1.d.uJ.low,zi o1.d.uJ.high,zi o1.d.eJ.kind,zi o1.d.eJ.field,.int .u64 o1.d.eJ.bits,zi o1.d.eJ.len,.str o1.d.eJ.text,zi o1.d.eJ.code,zi o1.d.eJ.aJ]);let z25:List Blk:=[.cells (B1 o3.c1),.tree o1.d.pJ.sQ,.lst .lev o1.d.sJ];(Ai o2.c1 4 o3)∧((DecB (⟨(⟨o1.d.pJ.sQ,o1.d.pJ.rJ,o3.x,o1.d.pJ.most⟩:Pln),o1.d.mJ,o1.d.sJ,o1.d.sK,o1.d.sX,o1.d.aJ,o1.d.field,o1.d.wJ,o1.d.wK,o1.d.uJ,o1.d.eJ⟩:Dcd))∧(As o3.c1))∧Lf z24 z24 z25 z25)) (((DecB o1.d)∧(As o2.c1))∧Lf z27 z27 z26 z26))))))))))))))) Q4 ?_
 refine⟨(Agc c Q0),fun o1 ho_o1=>?_⟩
 obtain ⟨⟨hp_o1_0,hp_o1_1,hp_o1_2⟩,hf_o1⟩:=ho_o1
 refine⟨hf_o1,(Ao o1.c1 22 Q0),fun o2 ho_o2=>?_⟩
 obtain ⟨⟨hp_o2_0,hp_o2_1,hp_o2_2,hp_o2_3⟩,hf_o2⟩:=ho_o2
 refine⟨hf_o2,dsp (fun h1 p1=>?_) fun h1 p1=>?_⟩
 refine⟨(Ao o2.c1 12 Q0),fun o3 ho_o3=>?_⟩
 obtain ⟨⟨hp_o3_0,hp_o3_1,hp_o3_2,hp_o3_3⟩,hf_o3⟩:=ho_o3
 exact⟨hf_o3,(Ad Q2 Q2),⟨Q8,Q0⟩,rfl,rfl⟩
 refine dsp (fun h2 p2=>?_) fun h2 p2=>?_
 refine⟨(Cp o2.c1 [0,1,5,2000,(-1)] Q0 Q5 Q5),fun o3 ho_o3=>?_⟩
 obtain ⟨⟨hp_o3_0,hp_o3_1⟩,hf_o3⟩:=ho_o3
 exact⟨hf_o3,⟨Q8,Q0⟩,rfl,rfl⟩
 refine dsp (fun h3 p3=>?_) fun h3 p3=>?_
 refine⟨(Ao o2.c1 4 Q0),fun o3 ho_o3=>?_⟩
 obtain ⟨⟨hp_o3_0,hp_o3_1,hp_o3_2,hp_o3_3⟩,hf_o3⟩:=ho_o3
 refine⟨(X1 o3.c1 [0,1,7,2000,2001,(-1)] Q0 Q5 Q5),fun o4 ho_o4=>?_⟩
 obtain ⟨⟨hp_o4_0,hp_o4_1⟩,hf_o4⟩:=ho_o4
 exact⟨hf_o3,(Ad Q2 Q2),hf_o4,(by have:=hp_o1_0.sJ;simp only[List.length_cons,List.length_nil];omega),hf_o3,(Ad Q2 Q2),hf_o4,(by have:=hp_o1_0.sJ;simp only[List.length_cons,List.length_nil];omega),rfl,rfl,⟨Q8,Q0⟩,rfl,rfl⟩
 refine dsp (fun h4 p4=>?_) fun h4 p4=>?_
 refine⟨(Akw o2.c1 Q0),fun o3 ho_o3=>?_⟩
 obtain ⟨⟨hp_o3_0,hp_o3_1⟩,hf_o3⟩:=ho_o3
 exact⟨hf_o3,⟨Q8,Q0⟩,rfl,rfl⟩
 refine dsp (fun h5 p5=>?_) fun h5 p5=>?_
 refine⟨(Ao o2.c1 9 Q0),fun o3 ho_o3=>?_⟩
 obtain ⟨⟨hp_o3_0,hp_o3_1,hp_o3_2,hp_o3_3⟩,hf_o3⟩:=ho_o3
 exact⟨hf_o3,(Ad Q2 Q2),⟨Q8,Q0⟩,rfl,rfl⟩
 refine dsp (fun h6 p6=>?_) fun h6 p6=>?_
 refine⟨(Ao o2.c1 5 Q0),fun o3 ho_o3=>?_⟩
 obtain ⟨⟨hp_o3_0,hp_o3_1,hp_o3_2,hp_o3_3⟩,hf_o3⟩:=ho_o3
 refine⟨hf_o3,(Ad Q2 Q2),(Ao o3.c1 8 Q0),fun o4 ho_o4=>?_⟩
 obtain ⟨⟨hp_o4_0,hp_o4_1,hp_o4_2,hp_o4_3⟩,hf_o4⟩:=ho_o4
 exact⟨hf_o4,(Ad Q2 Q2),⟨Q8,Q0⟩,rfl,rfl⟩
 refine dsp (fun h7 p7=>?_) fun h7 p7=>?_
 refine⟨(Ai4 o2.c1 Q0),fun o3 ho_o3=>?_⟩
 obtain ⟨hp_o3,hf_o3⟩:=ho_o3
 exact⟨hf_o3,⟨Q8,Q0⟩,rfl,rfl⟩
 refine dsp (fun h8 p8=>?_) fun h8 p8=>?_
 refine⟨(Ab7 o2.c1 Q0),fun o3 ho_o3=>?_⟩
 obtain ⟨⟨hp_o3_0,hp_o3_1,hp_o3_2⟩,hf_o3⟩:=ho_o3
 exact⟨hf_o3,⟨Q8,Q0⟩,rfl,rfl⟩
 refine dsp (fun h9 p9=>?_) fun h9 p9=>?_
 refine⟨(Cp o2.c1 [0,1000000000,1000000001,(-1),9223372036854775807] Q0 Q5 Q5),fun o3 ho_o3=>?_⟩
 obtain ⟨⟨hp_o3_0,hp_o3_1⟩,hf_o3⟩:=ho_o3
 exact⟨hf_o3,⟨Q8,Q0⟩,rfl,rfl⟩
 refine dsp (fun h10 p10=>?_) fun h10 p10=>?_
 refine⟨(Cp o2.c1 [0,o1.d.aJ,IntKind.i64.wrap (o1.d.aJ+1),(-1)] Q0 Q5 Q5),fun o3 ho_o3=>?_⟩
 obtain ⟨⟨hp_o3_0,hp_o3_1⟩,hf_o3⟩:=ho_o3
 exact⟨hf_o3,⟨Q8,Q0⟩,rfl,rfl⟩
 refine dsp (fun h11 p11=>?_) fun h11 p11=>?_
 refine⟨(Ao o2.c1 4 Q0),fun o3 ho_o3=>?_⟩
 obtain ⟨⟨hp_o3_0,hp_o3_1,hp_o3_2,hp_o3_3⟩,hf_o3⟩:=ho_o3
 exact⟨hf_o3,⟨Q8,Q0⟩,rfl,rfl⟩
 exact⟨⟨Q8,Q0⟩,rfl,rfl⟩
structure Agj where
 d:Dcd
 b:Int
theorem R8 (r:Rdr) (room:Int):(A9 r room).script=r.script∧(A9 r room).data=r.data:=by
 unfold A9
 split
 ·exact⟨rfl,rfl⟩
 ·exact⟨rfl,rfl⟩
structure F1 where
 r:Rdr
 c1:Cur
def X6 (c:Cur) (o:F1):Prop:=Fun Tryz.prog 142 [vP 0] [.cells (B1 c)] (.v (.agg (E4 1 o.r))) [.cells (B1 o.c1),.lst .rd o.r.script]
def Sz (c:Cur) (o:F1):Prop:=((List.length (o.r).script≤201)∧(List.length (o.r).data≤23)∧(As o.c1))∧X6 c o
structure Mi where
 c:Cur
 r:Rdr
 i:Nat
def F2 (o4:Co):Fam:=⟨Mi,fun q1=>[(0,.v (vP 0)),(2,.v (vP 1)),(3,.v (vP 2)),(4,.v (vI o4.x)),(5,.v (vI ((q1.i:Nat):Int)))],fun q1=>[.cells (B1 q1.c),.cells [.str [],.int .i64 0,.nil,.int .i64 0,.int .i64 0],.cells (E4 3 q1.r),.lst .rd q1.r.script],fun q1=>As q1.c∧(List.length (q1.r).script≤8∧List.length (q1.r).data≤23)∧q1.i≤8,fun q1=>8-q1.i⟩
structure Mj where
 c:Cur
 r:Rdr
def Mk  :Fam:=⟨Mj,fun q2=>[(0,.v (vP 0)),(2,.v (vP 1)),(3,.v (vP 2))],fun q2=>[.cells (B1 q2.c),.cells [.str [],.int .i64 0,.nil,.int .i64 0,.int .i64 0],.cells (E4 3 q2.r),.lst .rd q2.r.script],fun q2=>As q2.c∧(List.length (q2.r).script≤201∧List.length (q2.r).data≤23),fun q2=>202-List.length (q2.r).script⟩
theorem Ai6 (c:Cur) (hp1:As c): ∃o:F1,Sz c o:=by
 have hN:A7=274877906944:=rfl
 refine B4 Tryz.func142 Q4 Q4 (w:=let zi:Int→C:= .int .i64;let z22:List C:=[.str [],zi 0,.nil,zi 0,zi 0];let z23:=([(0,.v (vP 0)),(2,.v (vP 1)),(3,.v (vP 2))]:List (Nat×S))=[(0,.v (vP 0)),(2,.v (vP 1)),(3,.v (vP 2))];let z24:S:= .v (vO 1);let z25:=Mk;(.intro (Aa c 24) fun o1=> .intro (Br o1.c1 o1.x) fun o2=>let z20:List Blk:=[.cells (B1 o2.c1),.lst .u8 o2.l];.intro (Ho o2.c1) fun o3=>let z17:List Blk:=[.cells (B1 o3.c1),.lst .rd o3.l];.sZ [.tree (.first 0 (.first 1 (.first 5 (.two 2 (.two 3 (.three 4 (.two 6 (.first 7 (.one 8 (.one 9 (.done)))) 8 (.one 6 (.first 7 (.one 9 (.done))))) 6 (.two 4 (.first 7 (.one 8 (.one 9 (.done)))) 8 (.one 4 (.first 7 (.one 9 (.done))))) 8 (.two 4 (.one 6 (.first 7 (.one 9 (.done)))) 6 (.one 4 (.first 7 (.one 9 (.done)))))) 8 (.one 3 (.two 4 (.one 6 (.first 7 (.one 9 (.done)))) 6 (.one 4 (.first 7 (.one 9 (.done))))))) 8 (.one 2 (.one 3 (.two 4 (.one 6 (.first 7 (.one 9 (.done)))) 6 (.one 4 (.first 7 (.one 9 (.done))))))))))) 9 [0],.call [0] (.v (vI o1.x)) (Kc o1.c1),.call [0] z24 z20,.call [0] z24 z17,.at 0,.keep [0,2,3],.sel [0,1,4,3],.call [0] z24 z17,.at 0,.keep [0,2,3],.sel [0,1,3,4],.call [0] z24 z17,.at 0,.keep [0,2,3],.sel [0,1,4,3],.at 0,.keep [0,2,3],.sel [0,1,4,3],.call [0] z24 z17,.at 0,.keep [0,2,3],.sel [0,1,3,4],.call [0] z24 z17,.at 0,.keep [0,2,3],.sel [0,1,3,4],.call [0] z24 z20,.call [0] z24 z17,.at 0,.keep [0,2,3],.sel [0,1,2,4],.call [0] z24 z17,.at 0,.keep [0,2,3],.sel [0,1,2,4],.call [0] (.v (vI o1.x)) (Kc o1.c1),.call [0] z24 z20,.call [0] z24 z17,.at 0,.keep [0,2,3],.sel [0,1,2,4],.call [0] z24 z17,.at 0,.keep [0,2,3],.sel [0,1,2,4]] (.intro (Aa o3.c1 4) fun o4=> .sZ [.call [0] (.v (vI o4.x)) (Kc o4.c1),.at 0,.keep [0,2,3,4,5],.sel [0,1,2,3]] (.loop (F2 o4) fun q1=>let z10:=((q1.r.script.length:Nat):Int);let z11:=((q1.r.data.length:Nat):Int);.br (.intro (Aa q1.c 6) fun o5=> .sZ [.ord (os 10 [2,4,9]) [0],.call [0] (.v (vI o5.x)) (Kc o5.c1),.as 25 (.v (vI (1+o5.x))),.call [] (.tup [.agg (E4 0 (A9 q1.r (1+o5.x))),vT (A5 q1.r (1+o5.x)),vI (B9 q1.r (1+o5.x))]) [.lst .rd (A9 q1.r (1+o5.x)).script],.as 20 (.v (vI (((q1.i:Nat):Int)+1))),.at 0,.keep [0,2,3,4,5],.sel [0,1,2,4]] (.next)) (.intro (Aa q1.c 14) fun o5=> .sZ [.call [0] (.v (vI o5.x)) (Kc o5.c1)] (.br (.sZ [.as 41 (.v (vI (z11+1))),.ty .int,.pubS 42] (.intro (A0 o5.c1 [(-1),0,z11,z11+1,9223372036854775807]) fun o6=> .sZ [.call [0] (.v (vI o6.x)) (Kc o6.c1)] (.lJ (⟨(⟨q1.r.data,o6.x,q1.r.script,q1.r.next,q1.r.code⟩:Rdr),o6.c1⟩:F1) [0,3]))) (.br (.sZ [.as 54 (.v (vI (z10+1))),.ty .int,.pubS 55] (.intro (A0 o5.c1 [(-1),0,z10,z10+1]) fun o6=> .sZ [.call [0] (.v (vI o6.x)) (Kc o6.c1)] (.lJ (⟨(⟨q1.r.data,q1.r.aJ,q1.r.script,o6.x,q1.r.code⟩:Rdr),o6.c1⟩:F1) [0,3]))) (.br (.sZ [.ty .int,.pubS 61] (.intro (A0 o5.c1 [(-1),0,1,2,19,20]) fun o6=> .sZ [.call [0] (.v (vI o6.x)) (Kc o6.c1)] (.lJ (⟨(⟨q1.r.data,q1.r.aJ,q1.r.script,q1.r.next,o6.x⟩:Rdr),o6.c1⟩:F1) [0,3]))) (.br (.sZ [.at 0,.keep [0,2,3],.sel [0,1,2,3]] (.loop z25 fun q2=> .intro (Aa q2.c 2) fun o6=> .sZ [.ord (os 7 [4]) [0],.call [0] (.v (vI o6.x)) (Kc o6.c1),.as 71 (.v (vI (200+o6.x)))] (.br (.sZ [.ty .rd,.ty .rd,.at 0,.keep [0,2,3],.sel [0,1,2,5]] (.next)) (.lJ (⟨q2.r,o6.c1⟩:F1) [0,3])))) (.lJ (⟨q1.r,o5.c1⟩:F1) [0,3])))))))),In (Aa c 24) fun o1=>(In (Br o1.c1 o1.x) fun o2=>(let z21:=C7 o1.c1 o1.x o2;In (Ho o2.c1) fun o3=>(let z18:List Blk:=[.cells (B1 o3.c1),.cells z22,.cells [.str (List.map Bh o2.l),zi 0,.own 3,zi 0,zi 0],.lst .rd o3.l];let z19:=N9 o2.c1 o3;(Ai c 24 o1)∧z21∧z19∧z19∧((z18:List Blk)=z18)∧z23∧z19∧((z18:List Blk)=z18)∧z23∧((z18:List Blk)=z18)∧z23∧z19∧z19∧((z18:List Blk)=z18)∧z23∧((z18:List Blk)=z18)∧z23∧z21∧z19∧z19∧((z18:List Blk)=z18)∧z23∧((z18:List Blk)=z18)∧z23∧(Ai c 24 o1)∧z21∧z19∧z19∧((z18:List Blk)=z18)∧z23∧((z18:List Blk)=z18)∧z23∧In (Aa o3.c1 4) fun o4=>((Ai o3.c1 4 o4)∧(F2 o4).Has [(0,.v (vP 0)),(2,.v (vP 1)),(3,.v (vP 2)),(4,.v (vI o4.x)),(5,.v (vI 0))] [.cells (B1 o4.c1),.cells z22,.cells [.str (List.map Bh o2.l),zi 0,.own 3,zi 0,zi 0],.lst .rd o3.l]∧∀q1,(F2 o4).inv q1→(let z12:=((q1.r.script.length:Nat):Int);let z13:=((q1.r.data.length:Nat):Int);let z14:=q1.r.script.length≤201;let z15:=q1.r.data.length≤23;let z16:=((q1.i:Nat):Int);Bc (decide (z16<o4.x)) (In (Aa q1.c 6) fun o5=>(let z1:=A9 q1.r (1+o5.x);(Ai q1.c 6 o5)∧(wI (1+o5.x))∧(Fp 146 [.agg (Yh q1.r),vI (1+o5.x)] [] (.tup [.agg (E4 0 z1),vT (A5 q1.r (1+o5.x)),vI (B9 q1.r (1+o5.x))]) [.lst .rd z1.script])∧(wI (z16+1))∧(F2 o4).Nxt q1 [(0,.v (vP 0)),(2,.v (vP 1)),(3,.v (vP 2)),(4,.v (vI o4.x)),(5,.v (vI (z16+1)))] [.cells (B1 o5.c1),.cells z22,.cells (E4 3 z1),.lst .rd z1.script])) (In (Aa q1.c 14) fun o5=>(let z9:List Blk:=[.cells (B1 o5.c1),.lst .rd q1.r.script];(Ai q1.c 14 o5)∧Bc (decide (o5.x=0)) ((wI (z13+1))∧In (A0 o5.c1 [(-1),0,z13,z13+1,9223372036854775807]) fun o6=>(let z2:S:= .v (.agg [.str q1.r.data,zi o6.x,.own 1,zi q1.r.next,zi q1.r.code]);let z3:List Blk:=[.cells (B1 o6.c1),.lst .rd q1.r.script];(B7 o5.c1 [(-1),0,z13,z13+1,9223372036854775807] o6)∧(z14∧z15∧(As o6.c1))∧Lf z2 z2 z3 z3)) (Bc (decide (o5.x=1)) ((wI (z12+1))∧In (A0 o5.c1 [(-1),0,z12,z12+1]) fun o6=>(let z4:S:= .v (.agg [.str q1.r.data,zi q1.r.aJ,.own 1,zi o6.x,zi q1.r.code]);let z5:List Blk:=[.cells (B1 o6.c1),.lst .rd q1.r.script];(B7 o5.c1 [(-1),0,z12,z12+1] o6)∧(z14∧z15∧(As o6.c1))∧Lf z4 z4 z5 z5)) (Bc (decide (o5.x=2)) (In (A0 o5.c1 [(-1),0,1,2,19,20]) fun o6=>(let z6:S:= .v (.agg [.str q1.r.data,zi q1.r.aJ,.own 1,zi q1.r.next,zi o6.x]);let z7:List Blk:=[.cells (B1 o6.c1),.lst .rd q1.r.script];(B7 o5.c1 [(-1),0,1,2,19,20] o6)∧(z14∧z15∧(As o6.c1))∧Lf z6 z6 z7 z7)) (Bc (decide (o5.x=3)) (z25.Has [(0,.v (vP 0)),(2,.v (vP 1)),(3,.v (vP 2))] [.cells (B1 o5.c1),.cells z22,.cells (E4 3 q1.r),.lst .rd q1.r.script]∧∀q2,z25.inv q2→(In (Aa q2.c 2) fun o6=>(let z8:List Blk:=[.cells (B1 o6.c1),.lst .rd q2.r.script];(Ai q2.c 2 o6)∧(wI (200+o6.x))∧Bc (decide (((q2.r.script.length:Nat):Int)<200+o6.x)) ((q2.r.script.length+List.length [(⟨0,0⟩:Rd)]≤A7)∧z25.Nxt q2 [(0,.v (vP 0)),(2,.v (vP 1)),(3,.v (vP 2))] [.cells (B1 o6.c1),.cells z22,.cells (E4 3 q2.r),.lst .rd (q2.r.script++[(⟨0,0⟩:Rd)])]) (((List.length (q2.r).script≤201)∧(List.length (q2.r).data≤23)∧(As o6.c1))∧Lf (.v (.agg (E4 1 q2.r))) (.v (.agg (E4 1 q2.r))) z8 z8)))) (((List.length (q1.r).script≤201)∧(List.length (q1.r).data≤23)∧(As o5.c1))∧Lf (.v (.agg (E4 1 q1.r))) (.v (.agg (E4 1 q1.r))) z9 z9))))))))))))) Q4 ?_
 refine⟨(Ao c 24 Q0),fun o1 ho_o1=>?_⟩
 obtain ⟨⟨hp_o1_0,hp_o1_1,hp_o1_2,hp_o1_3⟩,hf_o1⟩:=ho_o1
 refine⟨(Et o1.c1 o1.x Q0 Q2),fun o2 ho_o2=>?_⟩
 obtain ⟨⟨hp_o2_0,hp_o2_1⟩,hf_o2⟩:=ho_o2
 refine⟨(Xu o2.c1 Q0),fun o3 ho_o3=>?_⟩
 obtain ⟨⟨hp_o3_0,hp_o3_1⟩,hf_o3⟩:=ho_o3
 refine⟨hf_o1,hf_o2,hf_o3,hf_o3,rfl,rfl,hf_o3,rfl,rfl,rfl,rfl,hf_o3,hf_o3,rfl,rfl,rfl,rfl,hf_o2,hf_o3,hf_o3,rfl,rfl,rfl,rfl,hf_o1,hf_o2,hf_o3,hf_o3,rfl,rfl,rfl,rfl,(Ao o3.c1 4 Q0),fun o4 ho_o4=>?_⟩
 obtain ⟨⟨hp_o4_0,hp_o4_1,hp_o4_2,hp_o4_3⟩,hf_o4⟩:=ho_o4
 refine⟨hf_o4,Bm (j:=(⟨o4.c1,(⟨List.map Bh o2.l,0,o3.l,0,0⟩:Rdr),0⟩:Mi)) Q9 Q9 (by dsimp only[F2];exact⟨by assumption,by (try dsimp only);(try simp only[List.length_map]);omega,by omega⟩),fun (q1:Mi) hq_q1=>?_⟩
 have hi_q1:As q1.c∧(List.length (q1.r).script≤8∧List.length (q1.r).data≤23)∧q1.i≤8:=hq_q1
 obtain ⟨v1,v2,v3⟩:=hi_q1
 refine dsp (fun h1 p1=>?_) fun h1 p1=>?_
 refine⟨(Ao q1.c 6 Q0),fun o5 ho_o5=>?_⟩
 obtain ⟨⟨hp_o5_0,hp_o5_1,hp_o5_2,hp_o5_3⟩,hf_o5⟩:=ho_o5
 exact⟨hf_o5,(Ad Q2 Q2),(Y6 q1.r _ Q2 Q2),(Ad Q2 Q2),A4 (j:=(⟨o5.c1,(A9 q1.r (1+o5.x)),q1.i+1⟩:Mi)) Q9 rfl (by dsimp only[F2];exact⟨by assumption,by rw[(R8 _ _).1,(R8 _ _).2];exact v2,by omega⟩) (by dsimp only[F2];omega)⟩
 refine⟨(Ao q1.c 14 Q0),fun o5 ho_o5=>?_⟩
 obtain ⟨⟨hp_o5_0,hp_o5_1,hp_o5_2,hp_o5_3⟩,hf_o5⟩:=ho_o5
 refine⟨hf_o5,dsp (fun h2 p2=>?_) fun h2 p2=>?_⟩
 refine⟨(Ad Q2 Q2),(Cp o5.c1 [(-1),0,((q1.r.data.length:Nat):Int),((q1.r.data.length:Nat):Int)+1,9223372036854775807] Q0 Q5 Q5),fun o6 ho_o6=>?_⟩
 obtain ⟨⟨hp_o6_0,hp_o6_1⟩,hf_o6⟩:=ho_o6
 exact⟨hf_o6,⟨Q2,Q2,Q0⟩,rfl,rfl⟩
 refine dsp (fun h3 p3=>?_) fun h3 p3=>?_
 refine⟨(Ad Q2 Q2),(Cp o5.c1 [(-1),0,((q1.r.script.length:Nat):Int),((q1.r.script.length:Nat):Int)+1] Q0 Q5 Q5),fun o6 ho_o6=>?_⟩
 obtain ⟨⟨hp_o6_0,hp_o6_1⟩,hf_o6⟩:=ho_o6
 exact⟨hf_o6,⟨Q2,Q2,Q0⟩,rfl,rfl⟩
 refine dsp (fun h4 p4=>?_) fun h4 p4=>?_
 refine⟨(Cp o5.c1 [(-1),0,1,2,19,20] Q0 Q5 Q5),fun o6 ho_o6=>?_⟩
 obtain ⟨⟨hp_o6_0,hp_o6_1⟩,hf_o6⟩:=ho_o6
 exact⟨hf_o6,⟨Q2,Q2,Q0⟩,rfl,rfl⟩
 refine dsp (fun h5 p5=>?_) fun h5 p5=>?_
 refine⟨Bm (j:=(⟨o5.c1,q1.r⟩:Mj)) rfl rfl (by dsimp only[Mk];exact⟨by assumption,by (try dsimp only);(try simp only[List.length_map]);omega⟩),fun (q2:Mj) hq_q2=>?_⟩
 have hi_q2:As q2.c∧(List.length (q2.r).script≤201∧List.length (q2.r).data≤23):=hq_q2
 obtain ⟨w1,w2⟩:=hi_q2
 refine⟨(Ao q2.c 2 Q0),fun o6 ho_o6=>?_⟩
 obtain ⟨⟨hp_o6_0,hp_o6_1,hp_o6_2,hp_o6_3⟩,hf_o6⟩:=ho_o6
 refine⟨hf_o6,(Ad Q2 Q2),dsp (fun h6 p6=>?_) fun h6 p6=>?_⟩
 exact⟨Q5,A4 (j:=(⟨o6.c1,(⟨q2.r.data,q2.r.aJ,q2.r.script++[(⟨0,0⟩:Rd)],q2.r.next,q2.r.code⟩:Rdr)⟩:Mj)) rfl Q9 (by dsimp only[Mk];exact⟨by assumption,by simp;omega⟩) (by dsimp only[Mk];simp;omega)⟩
 exact⟨⟨Q2,Q2,Q0⟩,rfl,rfl⟩
 exact⟨⟨Q2,Q2,Q0⟩,rfl,rfl⟩
/-! ### How Aou events a byte tells -/
def tl8 (m:Mac):Nat:=m.oJ.length+m.d.sJ.length
theorem Jf (m:Mac) (c a:Int):tl8 (A1 m c a)=tl8 m+1:=by unfold tl8 A1 A8;simp<;>omega
theorem Akx {m q:Mac} (h:Az m=some q):tl8 q≤tl8 m+(if m.d.mJ=6 then 1 else 0)∧q.d.mJ≠6:=by
 unfold Az at h
 split at h
 ·rename_i h1
  rw[if_pos h1.1]
  split at h
  ·cases h;exact⟨Nat.le_of_eq (Jf m 5 m.d.aJ),show (9:Int)≠6 by decide⟩
  ·cases h;exact⟨by unfold tl8;simp<;>omega,show (2:Int)≠6 by decide⟩
 ·split at h
  ·rename_i h1 h2
   cases h
   rw[if_neg (by omega)]
   exact⟨Nat.le_refl _,show (2:Int)≠6 by decide⟩
  ·split at h
   ·rename_i h1 h2 h3
    have:=h3.2.2.1
    split at h
    ·cases h
     exact⟨by unfold tl8;simp<;>omega,show (1:Int)≠6 by decide⟩
    ·cases h
     exact⟨by unfold tl8;simp<;>omega,show m.d.mJ≠6 by omega⟩
   ·cases h
theorem J0 (m:Mac):tl8 (Af m)≤tl8 m+(if m.d.mJ=6 then 1 else 0):=by
 suffices ∀(k:Nat) (m:Mac),wM m≤k→tl8 (Af m)≤tl8 m+(if m.d.mJ=6 then 1 else 0) from this _ m (Nat.le_refl _)
 intro k
 induction k with
 |zero=>
  intro m hk
  cases h:Az m with
  |none=>rw[B8 h];omega
  |some q=>have:=(Cg h).1;omega
 |succ k ih=>
  intro m hk
  cases h:Az m with
  |none=>rw[B8 h];omega
  |some q=>
   have h1:=Cg h
   have h2:=Akx h
   have h3:=ih q (by omega)
   rw[if_neg h2.2] at h3
   rw[Cs h];omega
theorem Aky {m:Mac} {u:Int} (h1:m.d.sJ.length=0):tl8 (C6 m u)≤tl8 m+2:=by
 unfold C6
 split
 ·rw[Jf];omega
 ·refine Nat.le_trans (J0 _) ?_
  rw[if_neg (show¬(2:Int)=6 by decide)]
  unfold tl8;simp<;>omega
theorem Api (m:Mac) (u:Int):tl8 (Ex m u)≤tl8 m+1:=by
 unfold Ex
 split
 ·exact Nat.le_of_eq (Jf _ _ _)
 split
 ·exact Nat.le_of_eq (Jf _ _ _)
 split
 ·exact Nat.le_of_eq (Jf _ _ _)
 split
 ·exact Nat.le_of_eq (Jf _ _ _)
 ·exact Nat.le_succ _
theorem An4 (m:Mac) (u:Int):tl8 (Cw m u)≤tl8 m+2:=by
 unfold Cw
 split
 ·rw[Jf];omega
 split
 ·refine Nat.le_trans (J0 _) ?_
  rw[if_neg (show¬(7:Int)=6 by decide)]
  exact Nat.le_add_right _ 2
 split
 ·split
  ·rw[Jf];omega
  ·refine Nat.le_trans (J0 _) ?_
   rw[if_neg (show¬(2:Int)=6 by decide)]
   unfold tl8;simp<;>omega
 split
 ·refine Nat.le_trans (J0 _) ?_
  rw[if_pos (show (6:Int)=6 from rfl)]
  unfold tl8;simp<;>omega
 split
 ·rw[Jf];omega
 ·refine Nat.le_trans (J0 _) ?_
  rw[if_neg (show¬(8:Int)=6 by decide)]
  exact Nat.le_add_right _ 2
theorem Aey (m:Mac) (u:Int):tl8 (Bt m u)≤tl8 m+1∧(Bt m u).d.mJ≠6:=by
 have:=Fg m u
 refine⟨by unfold tl8;show (Bt m u).oJ.length+m.d.sJ.length≤_;omega,?_⟩
 show (if m.d.mJ=8 then (8:Int) else 2)≠6
 split<;>decide
theorem Ai7 (m:Mac) (u:Int):tl8 (Af (Bt m u))≤tl8 m+1:=by
 have h:=Aey m u
 have h2:=J0 (Bt m u)
 rw[if_neg h.2] at h2
 omega
theorem Apj {m:Mac} {b a:Int} (h1:m.d.mJ=1→m.d.sJ.length=0):tl8 (Bw m b a)≤tl8 m+2:=by
 unfold Bw
 split
 ·rw[Jf];exact Nat.le_succ _
 split
 ·unfold Wz
  split
  ·rw[Jf];exact Nat.le_succ _
  ·exact Nat.le_add_right _ 2
 split
 ·rename_i hm;exact Aky (h1 hm)
 split
 ·exact Nat.le_trans (Api _ _) (Nat.le_succ _)
 split
 ·exact An4 _ _
 ·exact Nat.le_trans (Ai7 _ _) (Nat.le_succ _)
theorem Apk (m:Mac) (b:Int):tl8 (D5 m b)≤tl8 m+2:=by
 unfold D5
 split
 ·exact Nat.le_add_right _ 2
 split
 ·rw[Jf]
  have:=(Aey ⟨Hx m.d scn0,m.oJ⟩ (B2 m.d.sK b).bits).1
  have e:tl8 ⟨Hx m.d scn0,m.oJ⟩=tl8 m:=rfl
  omega
 ·exact Nat.le_trans (Ai7 _ _) (Nat.le_succ _)
theorem An5 (m:Mac) (b:Int):tl8 (E0 m b)≤tl8 m+2:=by
 have hs: ∀d:Dcd,d.sJ.length=m.d.sJ.length→tl8 (Af ⟨d,m.oJ++[Z7 b]⟩)≤tl8 m+2:=by
  intro d hd
  refine Nat.le_trans (J0 _) ?_
  have:tl8 ⟨d,m.oJ++[Z7 b]⟩=tl8 m+1:=by unfold tl8;simp<;>omega
  rw[this];split<;>omega
 unfold E0
 split
 ·split
  ·rw[Jf];omega
  ·exact hs _ rfl
 ·exact hs _ rfl
theorem An6 {m:Mac} {b:Int} (h1:m.d.mJ=1→m.d.sJ.length=0):tl8 (Er m b)≤tl8 m+2:=by
 have hd:tl8 ⟨Di m.d,m.oJ⟩=tl8 m:=by unfold tl8;show m.oJ.length+(Di m.d).sJ.length=_;rw[Hd]
 have h2:(Di m.d).mJ=1→(Di m.d).sJ.length=0:=fun h=>by rw[Hd];exact h1 h
 unfold Er
 split
 ·have:=An5 ⟨Di m.d,m.oJ⟩ b;omega
 split
 ·rename_i h7
  have:=J0 ⟨Di m.d,m.oJ⟩
  rw[if_neg (show¬(Di m.d).mJ=6 by show¬m.d.mJ=6;omega)] at this
  omega
 split
 ·have:=Apk ⟨Di m.d,m.oJ⟩ b;omega
 ·have:=Apj (m:=⟨Di m.d,m.oJ⟩) (b:=b) (a:=m.d.aJ) h2;omega
theorem An7 (m:Mac) (b:Int):tl8 (Rw m b)≤tl8 m+2:=by
 unfold Rw Cr
 split
 ·rename_i h
  have hs:=(K7 h.1).2.2.2.2.2.2.2.2.1
  have:=An6 (m:=⟨m.d,[]⟩) (b:=b) (fun h1=>by
   have h1:m.d.mJ=1:=h1
   unfold J4 at hs
   rw[if_pos h1] at hs
   have:=of_decide_eq_true hs
   show m.d.sJ.length=0
   rw[this];rfl)
  unfold tl8 at this ⊢
  simp only[List.length_nil,List.length_append] at this ⊢
  omega
 ·unfold tl8;simp
theorem Ai8: ∀(s:List UInt8) (m:Mac),tl8 (C1 m s)≤tl8 m+2*s.length
 |[],m=>Nat.le_refl _
 |b::r,m=>by
  have h1:=An7 m (b.toNat:Int)
  have h2:=Ai8 r (Rw m (b.toNat:Int))
  rw[G3,List.length_cons];omega
theorem An8 (d:Dcd) (s:List UInt8):(Bn d s).oJ.length+(Bn d s).d.sJ.length≤d.sJ.length+2*s.length:=by
 have h:=Ai8 s ⟨d,[]⟩
 have hm:=Za (C1 ⟨d,[]⟩ s).oJ
 unfold tl8 at h
 simp only[List.length_nil] at h
 show (Fu (C1 ⟨d,[]⟩ s).oJ).length+(C1 ⟨d,[]⟩ s).d.sJ.length≤_
 omega
/-! ### How Aou pulls a stream takes -/
theorem Agd {r:Rdr} (h:Bj r=true):(((A5 r 16).length:Nat):Int)=(A9 r 16).aJ-r.aJ∧(A5 r 16).length≤16:=by
 have ht:=D8 h
 have hc:=Tj (Dp r 16).n 16 ((r.data.length:Int)-r.aJ)
 have hn:rsN r 16=Dw (Dp r 16).n 16 ((r.data.length:Int)-r.aJ):=rfl
 have hc16:rsN r 16≤16:=by rw[hn];unfold Dw;omega
 unfold A5 A9
 split
 ·simp
 ·rw[List.length_drop,List.length_take]
  dsimp only
  omega
def pot (s:Strm):Nat:=s.queue.length+(if s.dec.mJ=9 then 0 else s.dec.sJ.length+2*((s.reader.data.length:Int)-s.reader.aJ).toNat+1)
theorem Akz {s:Strm} (hr:Bj s.reader=true) (hd:Bs s.dec=true) (hq:s.queue=[]) (h9:s.dec.mJ≠9):pot (Cz s)≤pot s∧(Cz s).queue.length≤60:=by
 have hl:=Agd hr
 have ht:=D8 hr
 have hr2:=D8 (E6 hr)
 have hk:=Tv s.reader 16
 have hc:=An8 s.dec (A5 s.reader 16)
 have he:=Aeq (Bn s.dec (A5 s.reader 16)).d (B9 s.reader 16)
 have hst:=Hn hr hd
 rw[hk.1] at hr2
 have hqq:(Cz s).queue.length=(Bn s.dec (A5 s.reader 16)).oJ.length+(Xj (Bn s.dec (A5 s.reader 16)).d (B9 s.reader 16)).oJ.length:=by
  show (s.queue++_++_).length=_
  rw[hq,List.nil_append,List.length_append]
 refine⟨?_,by omega⟩
 unfold pot
 rw[hqq,hq,if_neg h9]
 rw[show (Cz s).reader=A9 s.reader 16 from rfl,hk.1,show (Cz s).dec=(Xj (Bn s.dec (A5 s.reader 16)).d (B9 s.reader 16)).d from rfl]
 split
 ·simp only[List.length_nil];omega
 ·rename_i hn
  have hes:(Xj (Bn s.dec (A5 s.reader 16)).d (B9 s.reader 16)).oJ.length=0∧(Xj (Bn s.dec (A5 s.reader 16)).d (B9 s.reader 16)).d.sJ.length=(Bn s.dec (A5 s.reader 16)).d.sJ.length:=by
   have hok:Bs (Bn s.dec (A5 s.reader 16)).d=true:=Vx _ hd
   generalize (Bn s.dec (A5 s.reader 16)).d=d at *
   unfold Xj at hn ⊢
   split
   ·exact⟨rfl,rfl⟩
   ·rename_i h9'
    rw[if_neg h9'] at hn
    split
    ·rename_i hc1
     rw[if_pos hc1] at hn
     exact absurd ((Ac8 hok).2 h9') hn
    ·rename_i hc1
     rw[if_neg hc1] at hn
     split
     ·rename_i hc2
      rw[if_pos hc2] at hn
      unfold J6 at hn
      rw[if_pos ⟨hok,h9',by omega⟩] at hn
      exact absurd rfl hn
     ·exact⟨rfl,rfl⟩
  simp only[List.length_nil]
  omega
theorem X7: ∀(k:Nat) {s:Strm},Bj s.reader=true→Bs s.dec=true→pot (Gf k s)≤pot s∧(Gf k s).queue.length≤max s.queue.length 60
 |0,s,_,_=>⟨Nat.le_refl _,by rw[Gf];omega⟩
 |k+1,s,h1,h2=>by
  rw[Gf]
  split
  ·rename_i h
   have hf:=Akz h1 h2 h.1 h.2
   have hg:=X7 k (s:=Cz s) (E6 h1) (Jp h2)
   omega
  ·omega
theorem Age {s:Strm} (hr:Bj s.reader=true) (hd:Bs s.dec=true):(Fe s).queue≠[]∨(Fe s).dec.mJ=9:=by
 suffices ∀(n k:Nat) (s:Strm),rmu s.reader≤n→n+1≤k→Bj s.reader=true→Bs s.dec=true→(Gf k s).queue≠[]∨(Gf k s).dec.mJ=9 from this _ _ s (Nat.le_refl _) (Nat.le_refl _) hr hd
 intro n
 induction n with
 |zero=>
  intro k s hn hk hr hd
  obtain ⟨j,rfl⟩: ∃j,k=j+1:=⟨k-1,by omega⟩
  rw[Gf]
  split
  ·rename_i h
   rcases Kq hr hd with h9|h9
   ·rw[Dk (fun x=>x.2 h9)];exact .inr h9
   ·omega
  ·rename_i h
   by_cases hq:s.queue=[]
   ·by_cases h9:s.dec.mJ=9
    ·exact .inr h9
    ·exact absurd ⟨hq,h9⟩ h
   ·exact .inl hq
 |succ n ih=>
  intro k s hn hk hr hd
  obtain ⟨j,rfl⟩: ∃j,k=j+1:=⟨k-1,by omega⟩
  rw[Gf]
  split
  ·rename_i h
   rcases Kq hr hd with h9|h9
   ·rw[Dk (fun x=>x.2 h9)];exact .inr h9
   ·exact ih j (Cz s) (by omega) (by omega) (E6 hr) (Jp hd)
  ·rename_i h
   by_cases hq:s.queue=[]
   ·by_cases h9:s.dec.mJ=9
    ·exact .inr h9
    ·exact absurd ⟨hq,h9⟩ h
   ·exact .inl hq
theorem Adj {s:Strm} (hr:Bj s.reader=true) (hd:Bs s.dec=true):B6 (Qk s)=true∨pot (Hz s)+1≤pot s:=by
 have hk:=Zh hr hd
 have hp:=(X7 (rmu s.reader+1) hr hd).1
 have hp:pot (Fe s)≤pot s:=hp
 cases hq:(Fe s).queue with
 |nil=>
  left
  have h9:(Fe s).dec.mJ=9:=(Age hr hd).resolve_left (fun h=>h hq)
  unfold Qk
  rw[hq]
  show B6 (Fe s).dec.eJ=true
  have he:=(K7 hk.dc).2.2.2.2.2.2.2.1
  unfold Y2 at he
  rw[if_pos h9,Bool.and_eq_true] at he
  exact he.2
 |cons x r=>
  right
  unfold pot at hp ⊢
  rw[hq] at hp
  rw[show (Hz s).queue=(Fe s).queue.drop 1 from rfl,hq,show (Hz s).dec=(Fe s).dec from rfl,show (Hz s).reader=(Fe s).reader from rfl]
  simp only[List.length_cons,List.drop_succ_cons,List.drop_zero] at hp ⊢
  omega
theorem Ai9: ∀(n:Nat) {s:Strm} {j k:Nat},pot s≤n→n<j→n<k→Bj s.reader=true→Bs s.dec=true→(Hw j s).1=(Hw k s).1:=by
 intro n
 induction n with
 |zero=>
  intro s j k hn hj hk hr hd
  obtain ⟨j,rfl⟩: ∃i,j=i+1:=⟨j-1,by omega⟩
  obtain ⟨k,rfl⟩: ∃i,k=i+1:=⟨k-1,by omega⟩
  rcases Adj hr hd with h|h
  ·rw[Js h,Js h]
  ·omega
 |succ n ih=>
  intro s j k hn hj hk hr hd
  obtain ⟨j,rfl⟩: ∃i,j=i+1:=⟨j-1,by omega⟩
  obtain ⟨k,rfl⟩: ∃i,k=i+1:=⟨k-1,by omega⟩
  by_cases ht:B6 (Qk s)=true
  ·rw[Js ht,Js ht]
  ·have h:=(Adj hr hd).resolve_left ht
   have hp:=N1 hr hd
   rw[Lb ht,Lb ht]
   show Qk s::_=Qk s::_
   rw[ih (s:=Hz s) (j:=j) (k:=k) (by omega) (by omega) (by omega) hp.rd hp.dc]
theorem Ap8 {s:Strm} (hr:Bj s.reader=true) (hd:Bs s.dec=true):pot s≤s.queue.length+8009:=by
 have h:=Hn hr hd
 have ht:=D8 hr
 unfold pot
 split<;>omega
theorem Ak0 {s:Strm} (hs:Cu s=true) (hq:s.queue.length≤10000):(Hw Bd s).1[0]? =some (Qk s)∧(B6 (Qk s)=true∨(Hw Bd (Hz s)).1=(Hw Bd s).1.drop 1):=by
 obtain ⟨hr,hd,-⟩:=Ki hs
 have hp:=N1 hr hd
 rw[Sp]
 by_cases ht:B6 (Qk s)=true
 ·rw[show (20000:Nat)=19999+1 from rfl,Js ht];exact⟨rfl,.inl ht⟩
 ·have h:=(Adj hr hd).resolve_left ht
  have hb:=Ap8 hr hd
  have hf:=Ai9 (pot (Hz s)) (s:=Hz s) (j:=20000) (k:=19999) (Nat.le_refl _) (by omega) (by omega) hp.rd hp.dc
  refine⟨?_,.inr ?_⟩
  ·rw[show (20000:Nat)=19999+1 from rfl,Lb ht];rfl
  ·rw[hf]
   conv=>rhs;rw[show (20000:Nat)=19999+1 from rfl,Lb ht]
   rfl
theorem An9 {s:Strm} (hs:Cu s=true) (hr:s.reads≤1000000):Cu (Hz s)=true:=by
 obtain ⟨h1,h2,h3⟩:=Ki hs
 have hp:=N1 h1 h2
 exact Aby hp.rd hp.dc (hp.re h3 Q2).1
theorem Agf {s:Strm} (hs:Cu s=true):(Hz s).queue.length≤max s.queue.length 60:=by
 obtain ⟨h1,h2,h3⟩:=Ki hs
 have h:=(X7 (rmu s.reader+1) h1 h2).2
 show ((Fe s).queue.drop 1).length≤_
 rw[List.length_drop]
 have h:(Fe s).queue.length≤_:=h
 omega
structure StrK (n:Nat) (s:Strm):Prop where
 dec:DecB s.dec
 da:s.reader.data.length≤200000
 sc:s.reader.script.length≤201
 qu:s.queue.length≤100
 re:s.reads≤4201*(n:Int)
theorem StrK.shs {n:Nat} {s:Strm} (h:StrK n s):s.dec.pJ.sQ.length≤3:=h.dec.shs
theorem StrK.flds {n:Nat} {s:Strm} (h:StrK n s): ∀e∈s.dec.pJ.sQ,e.fJ.length≤5:=h.dec.flds
theorem StrK.mono {n m:Nat} {s:Strm} (h:StrK n s) (hm:n≤m):StrK m s:=⟨h.dec,h.da,h.sc,h.qu,by have:=h.re;omega⟩
theorem T5 {n:Nat} {s:Strm} (h:StrK n s) (hn:n≤100):StrK (n+1) (Dv s)∧(Dv s).queue.length≤max s.queue.length 60:=by
 by_cases hs:Cu s=true
 ·obtain ⟨h1,h2,h3⟩:=Ki hs
  have hk:=N1 h1 h2
  have hl:=Hn hk.rd hk.dc
  have hq:=Agf hs
  have hr:=h.re
  have hre:=(hk.re h3 (by omega)).2
  have hqu:=h.qu
  have e:Dv s=Hz s:=by unfold Dv;rw[if_pos hs]
  rw[e]
  exact⟨⟨h.dec.like hk.pl Q2 hl.2.2.2.1,by rw[hk.da];exact h.da,by rw[hk.sc];exact h.sc,by omega,by omega⟩,hq⟩
 ·have e:Dv s=s:=by unfold Dv;rw[if_neg hs]
  rw[e];exact⟨h.mono (by omega),by omega⟩
theorem Ab8 {p:Pln} {data:List UInt8} {script:List Rd} (h:PlnG p) (h1:data.length≤200000) (h2:script.length≤201):StrK 0 (Fq p data script)∧(Fq p data script).queue=[]:=by
 unfold Fq
 split
 ·refine⟨⟨V9 h,?_,?_,by simp,by simp⟩,rfl⟩
  ·show (Lu data script).data.length≤_
   unfold Lu;split
   ·exact h1
   ·simp
  ·show (Lu data script).script.length≤_
   unfold Lu;split
   ·exact h2
   ·simp
 ·exact⟨⟨⟨.inl rfl,by show (0:Int)≤4;decide,by simp[Apy],by show (0:Int)≤0∧(0:Int)≤18446744073709551615;decide⟩,by simp[Aox],by simp[Aox],by simp,by simp⟩,rfl⟩
structure F3 where
 s:Strm
 c1:Cur
def X8 (c:Cur) (o:F3):Prop:=Fun Tryz.prog 69 [vP 0] [.cells (B1 c)] (.v (.agg (Au 1 2 3 4 o.s))) [.cells (B1 o.c1),.lst .rd o.s.reader.script,.tree o.s.dec.pJ.sQ,.lst .lev o.s.dec.sJ,.lst .ev o.s.queue]
def S0 (c:Cur) (o:F3):Prop:=((StrK 6 o.s)∧(As o.c1))∧X8 c o
structure Mm where
 c:Cur
 s:Strm
 i:Nat
def F4 (o4:Co):Fam:=⟨Mm,fun q1=>[(0,.v (vP 0)),(2,.v (vP 1)),(4,.v (vP 2)),(6,.v (vI o4.x)),(7,.v (vI ((q1.i:Nat):Int)))],fun q1=>[.cells (B1 q1.c),.cells [.str [],.int .i64 0,.nil,.int .i64 0,.int .i64 0,.nil,.int .i64 0,.int .i64 0,.int .i64 0,.int .i64 0,.nil,.int .u64 0,.int .i64 0,.int .i64 0,.int .i64 0,.int .i64 0,.int .i64 0,.bool false,.bool false,.int .i64 0,.int .i64 0,.int .i64 0,.int .i64 0,.int .i64 0,.int .i64 0,.int .i64 0,.int .i64 0,.int .u64 0,.int .i64 0,.str [],.int .i64 0,.int .i64 0,.nil,.int .i64 0],.cells (Au 3 4 5 6 q1.s),.lst .rd q1.s.reader.script,.tree q1.s.dec.pJ.sQ,.lst .lev q1.s.dec.sJ,.lst .ev q1.s.queue],fun q1=>As q1.c∧StrK q1.i q1.s∧List.length (q1.s).queue≤60∧q1.i≤6,fun q1=>7-q1.i⟩
theorem Aja (c:Cur) (hp1:As c): ∃o:F3,S0 c o:=by
 have hN:A7=274877906944:=rfl
 refine B4 Tryz.func69 Q4 Q4 (w:=let zi:Int→C:= .int .i64;let z21:List C:=[.str [],zi 0,.nil,zi 0,zi 0,.nil,zi 0,zi 0,zi 0,zi 0,.nil,.int .u64 0,zi 0,zi 0,zi 0,zi 0,zi 0,.bool false,.bool false,zi 0,zi 0,zi 0,zi 0,zi 0,zi 0,zi 0,zi 0,.int .u64 0,zi 0,.str [],zi 0,zi 0,.nil,zi 0];let z22:=([(0,.v (vP 0)),(2,.v (vP 1)),(4,.v (vP 2))]:List (Nat×S))=[(0,.v (vP 0)),(2,.v (vP 1)),(4,.v (vP 2))];let z23:=fr (.one 11 (.first 12 (.done))) 7 3;(.intro (Lc c) fun o1=> .sZ [.call [0] (.v (.agg (Mp o1.p))) (Kc o1.c1)] (.intro (Jy o1.c1 o1.p) fun o2=> .intro (Ho o2.c1) fun o3=>let z15:=Fq o1.p o2.t o3.l;let z13:List Blk:=[.lst .rd z15.reader.script,.tree z15.dec.pJ.sQ,.lst .lev z15.dec.sJ,.lst .ev z15.queue];let z14:S:= .tup [.agg (Au 0 1 2 3 z15),vB (K8 o1.p o2.t o3.l)];let z16:List Blk:=[.cells (B1 o3.c1),.lst .rd o3.l];.sZ [.tree (fr (.first 4 (.two 3 (.two 5 (.two 6 (fr (.one 10 (.one 11 (.first 12 (.done)))) 7 3) 10 (.one 6 z23)) 10 (.one 5 (.one 6 z23))) 10 (.one 3 (.one 5 (.one 6 z23))))) 0 3) 13 [0],.call [0] (.v (vT o2.t)) (Kc o2.c1),.call [0] (.v (vO 1)) z16,.call [] z14 z13,.at 0,.keep [0,2,4],.sel [0,1,8,4,5,6,7],.call [] z14 z13,.at 0,.keep [0,2,4],.sel [0,1,4,5,6,7,8],.call [0] (.v (vO 1)) z16,.call [] z14 z13,.at 0,.keep [0,2,4],.sel [0,1,3,5,6,7,8],.call [0] (.v (vT o2.t)) (Kc o2.c1),.call [0] (.v (vO 1)) z16,.call [] z14 z13,.at 0,.keep [0,2,4],.sel [0,1,3,5,6,7,8]] (.intro (Aa o3.c1 6) fun o4=> .sZ [.call [0] (.v (vI o4.x)) (Kc o4.c1),.at 0,.keep [0,2,4,6,7],.sel [0,1,2,3,4,5,6]] (.loop (F4 o4) fun q1=>let z9:=Dv q1.s;.br (.sZ [.call [] (.tup [.agg (Au 0 1 2 3 z9),.agg (cEv (Gh q1.s))]) [.lst .rd z9.reader.script,.tree z9.dec.pJ.sQ,.lst .lev z9.dec.sJ,.lst .ev z9.queue],.as 26 (.v (vI (((q1.i:Nat):Int)+1))),.at 0,.keep [0,2,4,6,7],.sel [0,1,2,7,8,9,10]] (.next)) (.intro (Aa q1.c 12) fun o5=> .sZ [.call [0] (.v (vI o5.x)) (Kc o5.c1)] (.br (.intro (Sz o5.c1) fun o6=> .sZ [.call [0] (.v (.agg (E4 1 o6.r))) [.cells (B1 o6.c1),.lst .rd o6.r.script]] (.lJ (⟨(⟨o6.r,q1.s.dec,q1.s.queue,q1.s.reads⟩:Strm),o6.c1⟩:F3) [0,7,4,5,6])) (.br (.intro (Sy o5.c1) fun o6=> .sZ [.call [0] (.v (.agg (Ae 1 2 o6.d))) [.cells (B1 o6.c1),.tree o6.d.pJ.sQ,.lst .lev o6.d.sJ]] (.lJ (⟨(⟨q1.s.reader,o6.d,q1.s.queue,q1.s.reads⟩:Strm),o6.c1⟩:F3) [0,3,7,8,6])) (.br (.intro (Lh o5.c1) fun o6=> .sZ [.ord (os 8 [3,4,5,7]) [0,6],.call [0] (.v (.agg (cEv o6.e))) (Kc o6.c1),.ty .ev,.ty .ev] (.lJ (⟨(⟨q1.s.reader,q1.s.dec,q1.s.queue++[o6.e],q1.s.reads⟩:Strm),o6.c1⟩:F3) [0,3,4,5,8])) (.br (.sZ [.ty .int,.pubS 56] (.intro (A0 o5.c1 [(-1),0,5]) fun o6=> .sZ [.call [0] (.v (vI o6.x)) (Kc o6.c1)] (.lJ (⟨(⟨q1.s.reader,q1.s.dec,q1.s.queue,o6.x⟩:Strm),o6.c1⟩:F3) [0,3,4,5,6]))) (.lJ (⟨q1.s,o5.c1⟩:F3) [0,3,4,5,6]))))))))),In (Lc c) fun o1=>((St c o1)∧In (Jy o1.c1 o1.p) fun o2=>(In (Ho o2.c1) fun o3=>(let z18:=Fq o1.p o2.t o3.l;let z17:List Blk:=[.cells (B1 o3.c1),.cells z21,.cells (Au 3 4 5 6 z18),.lst .rd z18.reader.script,.tree z18.dec.pJ.sQ,.lst .lev z18.dec.sJ,.lst .ev z18.queue];let z19:S:= .tup [.agg (Au 0 1 2 3 z18),vB (K8 o1.p o2.t o3.l)];let z20:=N9 o2.c1 o3;(Mh o1.c1 o1.p o2)∧z20∧(Fp 140 [.agg (Mp o1.p),vT o2.t,.c (.seq .rd o3.l)] [] z19 [.lst .rd z18.reader.script,.tree z18.dec.pJ.sQ,.lst .lev z18.dec.sJ,.lst .ev z18.queue])∧(Fp 140 [.agg (Mp o1.p),vT o2.t,.c (.seq .rd o3.l)] [] z19 [.lst .rd z18.reader.script,.tree z18.dec.pJ.sQ,.lst .lev z18.dec.sJ,.lst .ev z18.queue])∧((z17:List Blk)=z17)∧z22∧z20∧(Fp 140 [.agg (Mp o1.p),vT o2.t,.c (.seq .rd o3.l)] [] z19 [.lst .rd z18.reader.script,.tree z18.dec.pJ.sQ,.lst .lev z18.dec.sJ,.lst .ev z18.queue])∧((z17:List Blk)=z17)∧z22∧(Mh o1.c1 o1.p o2)∧z20∧(Fp 140 [.agg (Mp o1.p),vT o2.t,.c (.seq .rd o3.l)] [] z19 [.lst .rd z18.reader.script,.tree z18.dec.pJ.sQ,.lst .lev z18.dec.sJ,.lst .ev z18.queue])∧((z17:List Blk)=z17)∧z22∧In (Aa o3.c1 6) fun o4=>((Ai o3.c1 6 o4)∧(F4 o4).Has [(0,.v (vP 0)),(2,.v (vP 1)),(4,.v (vP 2)),(6,.v (vI o4.x)),(7,.v (vI 0))] [.cells (B1 o4.c1),.cells z21,.cells (Au 3 4 5 6 z18),.lst .rd z18.reader.script,.tree z18.dec.pJ.sQ,.lst .lev z18.dec.sJ,.lst .ev z18.queue]∧∀q1,(F4 o4).inv q1→(let z10:S:= .v (.agg (Au 1 2 3 4 q1.s));let z11:=Dv q1.s;let z12:=((q1.i:Nat):Int);Bc (decide (z12<o4.x)) ((Fp 28 [.agg (Gw q1.s)] [] (.tup [.agg (Au 0 1 2 3 z11),.agg (cEv (Gh q1.s))]) [.lst .rd z11.reader.script,.tree z11.dec.pJ.sQ,.lst .lev z11.dec.sJ,.lst .ev z11.queue])∧(wI (z12+1))∧(F4 o4).Nxt q1 [(0,.v (vP 0)),(2,.v (vP 1)),(4,.v (vP 2)),(6,.v (vI o4.x)),(7,.v (vI (z12+1)))] [.cells (B1 q1.c),.cells z21,.cells (Au 3 4 5 6 z11),.lst .rd z11.reader.script,.tree z11.dec.pJ.sQ,.lst .lev z11.dec.sJ,.lst .ev z11.queue]) (In (Aa q1.c 12) fun o5=>(let z8:List Blk:=[.cells (B1 o5.c1),.lst .rd q1.s.reader.script,.tree q1.s.dec.pJ.sQ,.lst .lev q1.s.dec.sJ,.lst .ev q1.s.queue];(Ai q1.c 12 o5)∧Bc (decide (o5.x=0)) (In (Sz o5.c1) fun o6=>(let z1:S:= .v (.agg [.str o6.r.data,zi o6.r.aJ,.own 1,zi o6.r.next,zi o6.r.code,.own 2,zi q1.s.dec.pJ.rJ,zi q1.s.dec.pJ.dJ,zi q1.s.dec.pJ.most,zi q1.s.dec.mJ,.own 3,.int .u64 q1.s.dec.sK.bits,zi q1.s.dec.sK.hJ,zi q1.s.dec.sX,zi q1.s.dec.aJ,zi q1.s.dec.field.nJ,zi q1.s.dec.field.kind,.bool q1.s.dec.field.rep,.bool q1.s.dec.field.packed,zi q1.s.dec.field.mK,zi q1.s.dec.wJ,zi q1.s.dec.wK,zi q1.s.dec.uJ.wK,zi q1.s.dec.uJ.low,zi q1.s.dec.uJ.high,zi q1.s.dec.eJ.kind,zi q1.s.dec.eJ.field,.int .u64 q1.s.dec.eJ.bits,zi q1.s.dec.eJ.len,.str q1.s.dec.eJ.text,zi q1.s.dec.eJ.code,zi q1.s.dec.eJ.aJ,.own 4,zi q1.s.reads]);let z2:List Blk:=[.cells (B1 o6.c1),.lst .rd o6.r.script,.tree q1.s.dec.pJ.sQ,.lst .lev q1.s.dec.sJ,.lst .ev q1.s.queue];(X6 o5.c1 o6)∧((StrK 6 (⟨o6.r,q1.s.dec,q1.s.queue,q1.s.reads⟩:Strm))∧(As o6.c1))∧Lf z1 z1 z2 z2)) (Bc (decide (o5.x=1)) (In (Sy o5.c1) fun o6=>(let z3:S:= .v (.agg [.str q1.s.reader.data,zi q1.s.reader.aJ,.own 1,zi q1.s.reader.next,zi q1.s.reader.code,.own 2,zi o6.d.pJ.rJ,zi o6.d.pJ.dJ,zi o6.d.pJ.most,zi o6.d.mJ,.own 3,.int .u64 o6.d.sK.bits,zi o6.d.sK.hJ,zi o6.d.sX,zi o6.d.aJ,zi o6.d.field.nJ,zi o6.d.field.kind,.bool o6.d.field.rep,.bool o6.d.field.packed,zi o6.d.field.mK,zi o6.d.wJ,zi o6.d.wK,zi o6.d.uJ.wK,zi o6.d.uJ.low,zi o6.d.uJ.high,zi o6.d.eJ.kind,zi o6.d.eJ.field,.int .u64 o6.d.eJ.bits,zi o6.d.eJ.len,.str o6.d.eJ.text,zi o6.d.eJ.code,zi o6.d.eJ.aJ,.own 4,zi q1.s.reads]);let z4:List Blk:=[.cells (B1 o6.c1),.lst .rd q1.s.reader.script,.tree o6.d.pJ.sQ,.lst .lev o6.d.sJ,.lst .ev q1.s.queue];(X5 o5.c1 o6)∧((StrK 6 (⟨q1.s.reader,o6.d,q1.s.queue,q1.s.reads⟩:Strm))∧(As o6.c1))∧Lf z3 z3 z4 z4)) (Bc (decide (o5.x=2)) (In (Lh o5.c1) fun o6=>(let z5:List Blk:=[.cells (B1 o6.c1),.lst .rd q1.s.reader.script,.tree q1.s.dec.pJ.sQ,.lst .lev q1.s.dec.sJ,.lst .ev (q1.s.queue++[o6.e])];(Sv o5.c1 o6)∧(q1.s.queue.length+List.length [o6.e]≤A7)∧((StrK 6 (⟨q1.s.reader,q1.s.dec,q1.s.queue++[o6.e],q1.s.reads⟩:Strm))∧(As o6.c1))∧Lf z10 z10 z5 z5)) (Bc (decide (o5.x=3)) (In (A0 o5.c1 [(-1),0,5]) fun o6=>(let z6:S:= .v (.agg [.str q1.s.reader.data,zi q1.s.reader.aJ,.own 1,zi q1.s.reader.next,zi q1.s.reader.code,.own 2,zi q1.s.dec.pJ.rJ,zi q1.s.dec.pJ.dJ,zi q1.s.dec.pJ.most,zi q1.s.dec.mJ,.own 3,.int .u64 q1.s.dec.sK.bits,zi q1.s.dec.sK.hJ,zi q1.s.dec.sX,zi q1.s.dec.aJ,zi q1.s.dec.field.nJ,zi q1.s.dec.field.kind,.bool q1.s.dec.field.rep,.bool q1.s.dec.field.packed,zi q1.s.dec.field.mK,zi q1.s.dec.wJ,zi q1.s.dec.wK,zi q1.s.dec.uJ.wK,zi q1.s.dec.uJ.low,zi q1.s.dec.uJ.high,zi q1.s.dec.eJ.kind,zi q1.s.dec.eJ.field,.int .u64 q1.s.dec.eJ.bits,zi q1.s.dec.eJ.len,.str q1.s.dec.eJ.text,zi q1.s.dec.eJ.code,zi q1.s.dec.eJ.aJ,.own 4,zi o6.x]);let z7:List Blk:=[.cells (B1 o6.c1),.lst .rd q1.s.reader.script,.tree q1.s.dec.pJ.sQ,.lst .lev q1.s.dec.sJ,.lst .ev q1.s.queue];(B7 o5.c1 [(-1),0,5] o6)∧((StrK 6 (⟨q1.s.reader,q1.s.dec,q1.s.queue,o6.x⟩:Strm))∧(As o6.c1))∧Lf z6 z6 z7 z7)) (((StrK 6 q1.s)∧(As o5.c1))∧Lf z10 z10 z8 z8))))))))))))) Q4 ?_
 refine⟨(Ab5 c Q0),fun o1 ho_o1=>?_⟩
 obtain ⟨⟨hp_o1_0,hp_o1_1⟩,hf_o1⟩:=ho_o1
 refine⟨hf_o1,(Zp o1.c1 o1.p Q0 (by assumption)),fun o2 ho_o2=>?_⟩
 obtain ⟨⟨hp_o2_0,hp_o2_1⟩,hf_o2⟩:=ho_o2
 refine⟨(Xu o2.c1 Q0),fun o3 ho_o3=>?_⟩
 obtain ⟨⟨hp_o3_0,hp_o3_1⟩,hf_o3⟩:=ho_o3
 refine⟨hf_o2,hf_o3,(Tu o1.p _ _ Q58 Q58 Q82),(Tu o1.p _ _ Q58 Q58 Q82),rfl,rfl,hf_o3,(Tu o1.p _ _ Q58 Q58 Q82),rfl,rfl,hf_o2,hf_o3,(Tu o1.p _ _ Q58 Q58 Q82),rfl,rfl,(Ao o3.c1 6 Q0),fun o4 ho_o4=>?_⟩
 obtain ⟨⟨hp_o4_0,hp_o4_1,hp_o4_2,hp_o4_3⟩,hf_o4⟩:=ho_o4
 refine⟨hf_o4,Bm (j:=(⟨o4.c1,(Fq o1.p o2.t o3.l),0⟩:Mm)) Q9 rfl (by dsimp only[F4];exact⟨by assumption,(Ab8 hp_o1_0 Q2 Q2).1,by rw[(Ab8 (data:=o2.t) (script:=o3.l) hp_o1_0 (by omega) (by omega)).2];simp,by omega⟩),fun (q1:Mm) hq_q1=>?_⟩
 have hi_q1:As q1.c∧StrK q1.i q1.s∧List.length (q1.s).queue≤60∧q1.i≤6:=hq_q1
 obtain ⟨v1,v2,v3,v4⟩:=hi_q1
 refine dsp (fun h1 p1=>?_) fun h1 p1=>?_
 exact⟨(Ams q1.s (by have:=(v2).shs;omega) (fun e he=>by have:=(v2).flds e he;omega) (by have:=(v2).dec.sJ;omega) (by have:=(v2).sc;omega) (by have:=(v2).qu;(try simp only[List.length_append,List.length_cons,List.length_nil]);omega) (by have:=(v2).da;omega)),(Ad Q2 Q2),A4 (j:=(⟨q1.c,(Dv q1.s),q1.i+1⟩:Mm)) Q9 rfl (by dsimp only[F4];exact⟨by assumption,(T5 v2 Q2).1,by have:=(T5 v2 Q2).2;omega,by omega⟩) (by dsimp only[F4];omega)⟩
 refine⟨(Ao q1.c 12 Q0),fun o5 ho_o5=>?_⟩
 obtain ⟨⟨hp_o5_0,hp_o5_1,hp_o5_2,hp_o5_3⟩,hf_o5⟩:=ho_o5
 refine⟨hf_o5,dsp (fun h2 p2=>?_) fun h2 p2=>?_⟩
 refine⟨(Ai6 o5.c1 Q0),fun o6 ho_o6=>?_⟩
 obtain ⟨⟨hp_o6_0,hp_o6_1,hp_o6_2⟩,hf_o6⟩:=ho_o6
 exact⟨hf_o6,⟨Q11,Q0⟩,rfl,rfl⟩
 refine dsp (fun h3 p3=>?_) fun h3 p3=>?_
 refine⟨(Ai5 o5.c1 Q0),fun o6 ho_o6=>?_⟩
 obtain ⟨⟨hp_o6_0,hp_o6_1⟩,hf_o6⟩:=ho_o6
 exact⟨hf_o6,⟨Q11,Q0⟩,rfl,rfl⟩
 refine dsp (fun h4 p4=>?_) fun h4 p4=>?_
 refine⟨(Ab7 o5.c1 Q0),fun o6 ho_o6=>?_⟩
 obtain ⟨⟨hp_o6_0,hp_o6_1,hp_o6_2⟩,hf_o6⟩:=ho_o6
 exact⟨hf_o6,(by have:=(v2).qu;(try simp only[List.length_append,List.length_cons,List.length_nil]);omega),⟨Q11,Q0⟩,rfl,rfl⟩
 refine dsp (fun h5 p5=>?_) fun h5 p5=>?_
 refine⟨(Cp o5.c1 [(-1),0,5] Q0 (by first|omega|(simp only[List.length_cons,List.length_nil];omega)) (by first|omega|(simp only[List.length_cons,List.length_nil];omega))),fun o6 ho_o6=>?_⟩
 obtain ⟨⟨hp_o6_0,hp_o6_1⟩,hf_o6⟩:=ho_o6
 exact⟨hf_o6,⟨Q11,Q0⟩,rfl,rfl⟩
 exact⟨⟨Q11,Q0⟩,rfl,rfl⟩
structure Amx where
 s:Strm
structure Hv where
 s:Strm
def Qw (code:List Int) (o:Hv):Prop:=Fun Tryz.prog 32 [.c (.seq .u8 code)] [] (.v (.agg (Au 0 1 2 3 o.s))) [.lst .rd o.s.reader.script,.tree o.s.dec.pJ.sQ,.lst .lev o.s.dec.sJ,.lst .ev o.s.queue]
def Li (code:List Int) (o:Hv):Prop:=((StrK 6 o.s))∧Qw code o
theorem Aaw (code:List Int) (hp1:code.length≤1048576): ∃o:Hv,Li code o:=by
 have hN:A7=274877906944:=rfl
 refine B4 Tryz.func32 Q4 Q4 (w:=(.intro (Xt code) fun o1=> .sZ [.call [] (.v (vP 0)) (Kc o1.c1)] (.intro (S0 o1.c1) fun o2=> .sZ [.call [1] (.v (.agg (Au 1 2 3 4 o2.s))) [.cells (B1 o2.c1),.lst .rd o2.s.reader.script,.tree o2.s.dec.pJ.sQ,.lst .lev o2.s.dec.sJ,.lst .ev o2.s.queue]] (.lJ (⟨o2.s⟩:Hv) [2,3,4,5])),In (Xt code) fun o1=>((Ab1 code o1)∧In (S0 o1.c1) fun o2=>(let z1:List Blk:=[.lst .rd o2.s.reader.script,.tree o2.s.dec.pJ.sQ,.lst .lev o2.s.dec.sJ,.lst .ev o2.s.queue];let z2:S:= .v (.agg (Au 0 1 2 3 o2.s));(X8 o1.c1 o2)∧((StrK 6 o2.s))∧Lf z2 z2 z1 z1)))) Q4 ?_
 refine⟨(Anx code Q2),fun o1 ho_o1=>?_⟩
 obtain ⟨hp_o1,hf_o1⟩:=ho_o1
 refine⟨hf_o1,(Aja o1.c1 Q0),fun o2 ho_o2=>?_⟩
 obtain ⟨⟨hp_o2_0,hp_o2_1⟩,hf_o2⟩:=ho_o2
 exact⟨hf_o2,(by assumption),rfl,rfl⟩
structure Ak1 where
 i:Nat
structure Ak2 where
 k:Nat
structure Ak3 where
 i:Nat
theorem Apm {x y:Ev} (h:x.kind=y.kind∧x.field=y.field∧x.bits=y.bits∧x.len=y.len∧x.text=y.text∧x.code=y.code∧x.aJ=y.aJ):x=y:=by
 cases x;cases y;simp at h ⊢;exact h
theorem Ajb {a b:List Ev} {i:Nat} {x y:Ev} (h:a.take i=b.take i) (hx:a[i]? =some x) (hy:b[i]? =some y) (e:x=y):a.take (i+1)=b.take (i+1):=by
 rw[List.take_add_one,List.take_add_one,h,hx,hy,e]
theorem Ak4 {a b:List Ev} {i:Nat} (h:a.take i=b.take i) (hl:a.length=b.length) (hi:a.length≤i):a=b:=by
 rwa [List.take_of_length_le hi,List.take_of_length_le (by omega)] at h
structure Mn where
 i:Nat
def Mo (a:List Ev) (b:List Ev):Fam:=⟨Mn,fun q1=>[(0,.v (.c (.seq .ev a))),(1,.v (.c (.seq .ev b))),(5,.v (vI ((q1.i:Nat):Int)))],fun _=>[],fun q1=>q1.i≤List.length a∧List.length a=List.length b∧List.take q1.i a=List.take q1.i b,fun q1=>List.length a-q1.i⟩
theorem Ab9 (a:List Ev) (b:List Ev) (hp1:a.length≤A7) (hp2:b.length≤A7):Fun Tryz.prog 14 [.c (.seq .ev a),.c (.seq .ev b)] [] (.v (vB (decide (a=b)))) []:=by
 have hN:A7=274877906944:=rfl
 refine Ap Tryz.func14 Q4 Q4 (w:=let z2:=Lf (.v (vB false)) (.v (vB (decide (a=b)))) [] [];let z3:=Mo a b;(.br (.lJ () []) (.sZ [.at 0,.keep [0,1,5],.sel []] (.loop z3 fun q1=> .br (.intro (Sx (a[q1.i]?)) fun x1=> .intro (Sx (b[q1.i]?)) fun x2=> .sZ [.ord (os 9 []) [],.el .ev x1,.el .ev x2] (.br (.lJ () []) (.sZ [.as 16 (.v (vI (((q1.i:Nat):Int)+1))),.at 0,.keep [0,1,5],.sel []] (.next)))) (.lJ () []))),Bc (!decide (((a.length:Nat):Int)=((b.length:Nat):Int))) z2 (z3.Has [(0,.v (.c (.seq .ev a))),(1,.v (.c (.seq .ev b))),(5,.v (vI 0))] []∧∀q1,z3.inv q1→(let z1:=((q1.i:Nat):Int);Bc (decide (z1<((a.length:Nat):Int))) (El (a[q1.i]?) fun x1=>(El (b[q1.i]?) fun x2=>((a[q1.i]? =some x1)∧((0:Int)≤z1)∧(a[q1.i]? =some x1)∧((0:Int)≤z1)∧(b[q1.i]? =some x2)∧((0:Int)≤z1)∧(b[q1.i]? =some x2)∧((0:Int)≤z1)∧Bc (!(decide (x1.kind=x2.kind)&&(decide (x1.field=x2.field)&&(decide (x1.bits=x2.bits)&&(decide (x1.len=x2.len)&&(decide (x1.text=x2.text)&&(decide (x1.code=x2.code)&&decide (x1.aJ=x2.aJ)))))))) z2 ((wI (z1+1))∧z3.Nxt q1 [(0,.v (.c (.seq .ev a))),(1,.v (.c (.seq .ev b))),(5,.v (vI (z1+1)))] [])))) (Lf (.v (vB true)) (.v (vB (decide (a=b)))) [] []))))) Q4 ?_
 refine⟨fun h1=>have q1:=An h1;have p1:=of_decide_eq_false q1;?_,fun h1=>have q1:=Am h1;have p1:=of_decide_eq_true q1;?_⟩
 exact⟨(sB W82),rfl⟩
 refine⟨Bm (j:=(⟨0⟩:Mn)) Q9 rfl (by dsimp only[Mo];exact⟨by omega,by omega,by simp⟩),fun (q1:Mn) hq_q1=>?_⟩
 have hi_q1:q1.i≤a.length∧a.length=b.length∧List.take q1.i a=List.take q1.i b:=hq_q1
 obtain ⟨v1,v2,v3⟩:=hi_q1
 refine dsp (fun h2 p2=>?_) fun h2 p2=>?_
 refine⟨(Bo (l:=a) (i:=q1.i) Q2),fun x1 hx1=>?_⟩
 refine⟨(Bo (l:=b) (i:=q1.i) Q2),fun x2 hx2=>?_⟩
 refine⟨hx1,Q2,hx1,Q2,hx2,Q2,hx2,Q2,fun h3=>have q3:=An h3;have p3:=(Cy dT (Cy dT (Cy dT (Cy dT (Cy dT (Cy dT dF)))))).1 q3;?_,fun h3=>have q3:=Am h3;have p3:=(Cx dT (Cx dT (Cx dT (Cx dT (Cx dT (Cx dT dT)))))).1 q3;?_⟩
 exact⟨(sB W82),rfl⟩
 exact⟨(Ad Q2 Q2),A4 (j:=(⟨q1.i+1⟩:Mn)) Q9 rfl (by dsimp only[Mo];exact⟨by omega,v2,Ajb v3 hx1 hx2 (Apm p3)⟩) (by dsimp only[Mo];omega)⟩
 exact⟨(sB W82),rfl⟩
theorem Apn (l:List Int) (hp1:((l.length:Nat):Int)≤9223372036854775807):Fun Tryz.prog 8 [.c (.seq .u8 l)] [] (.v (vB (decide (1048576<((l.length:Nat):Int))))) []:=by
 have hN:A7=274877906944:=rfl
 refine Ap Tryz.func8 Q4 Q4 (w:=let z1:S:= .v (vB (decide (1048576<((l.length:Nat):Int))));(.lJ () [],Lf z1 z1 [] [])) Q4 ?_
 exact⟨rfl,rfl⟩
theorem X9 {s:Strm} (hs:Cu s=true) (hk:StrK 6 s):Ca s=(Hw Bd s).1∧(Ca s)[0]? =some (Gh s)∧1≤(Ca s).length∧(B6 (Gh s)=true∨Ca (Dv s)=(Ca s).drop 1):=by
 have hq:=hk.qu
 have hr:=hk.re
 obtain ⟨h1,h2⟩:=Ak0 hs (by omega)
 have e1:Ca s=(Hw Bd s).1:=by unfold Ca;rw[if_pos hs]
 have e2:Gh s=Qk s:=by unfold Gh;rw[if_pos hs]
 have e3:Dv s=Hz s:=by unfold Dv;rw[if_pos hs]
 have e4:Ca (Hz s)=(Hw Bd (Hz s)).1:=by unfold Ca;rw[if_pos (An9 hs (by omega))]
 rw[e1,e2,e3,e4]
 exact⟨rfl,h1,by have:=(List.getElem?_eq_some_iff.1 h1).1;omega,h2⟩
theorem Agg {s:Strm} (hs:Cu s=false):Ca s=[]:=by unfold Ca;rw[if_neg (by simp[hs])]
theorem Aca {s:Strm} (h: ¬(((Ca s).length:Nat):Int)=0):Cu s=true:=by
 cases hs:Cu s with
 |true=>rfl
 |false=>rw[Agg hs] at h;exact absurd rfl h
theorem Acb {s:Strm} (hk:StrK 6 s) (h:(((Ca s).length:Nat):Int)=0):Cu s=false:=by
 cases hs:Cu s with
 |false=>rfl
 |true=>have:=(X9 hs hk).2.2.1;omega
theorem Adk (code:List Int) (hp1:((code.length:Nat):Int)≤9223372036854775807):Fun Tryz.prog 7 [.c (.seq .u8 code)] [] (.v (vB true)) []:=by
 have hN:A7=274877906944:=rfl
 refine Ap Tryz.func7 Q4 Q4 (w:=let z7:=decide (1048576<((code.length:Nat):Int));let z8:S:= .v (vB true);let z9:S:= .v (vO 0);(.sZ [.call [] (.v (vB z7)) []] (.br (.lJ () []) (.intro (Li code) fun o1=>let z1:=Ca o1.s;let z2:=Dv o1.s;let z3:=B6 (Gh o1.s);.sZ [.call [] (.v (.agg (Au 0 1 2 3 o1.s))) [.lst .rd o1.s.reader.script,.tree o1.s.dec.pJ.sQ,.lst .lev o1.s.dec.sJ,.lst .ev o1.s.queue],.call [] z9 [.lst .ev z1],.call [] z9 [.lst .ev z1],.at 7,.pubS 4,.pubS 5,.call [] (.v (vB (decide (z1=z1)))) [],.br false] (.br (.sZ [.call [] (.v (vB (Cu o1.s))) []] (.lJ () [])) (.sZ [.call [] (.tup [.agg (Au 0 1 2 3 z2),.agg (cEv (Gh o1.s))]) [.lst .rd z2.reader.script,.tree z2.dec.pJ.sQ,.lst .lev z2.dec.sJ,.lst .ev z2.queue]] (.intro (Sx (z1[0]?)) fun x1=> .sZ [.ord (os 5 []) [],.el .ev x1] (.br (.lJ () []) (.case z3 (.sZ [.ord [(0,true),(1,false),(2,true),(3,true),(5,true),(6,true),(4,false),(7,false),(8,true),(9,true)] [],.call [] (.v (vB z3)) [],.br true] (.lJ () [])) (.sZ [.ord [(0,true),(1,false),(2,true),(3,true),(5,true),(6,true),(4,false),(7,false),(8,true),(9,true)] [],.call [] (.v (vB z3)) [],.br false,.call [] z9 [.lst .ev (Ca z2)],.call [] (.v (vB (decide ((Ca z2)=(List.drop 1 z1))))) []] (.lJ () []))))))))),(Fp 8 [.c (.seq .u8 code)] [] (.v (vB z7)) [])∧Bc z7 (Lf z8 z8 [] []) (In (Li code) fun o1=>(let z4:=Ca o1.s;let z5:=Gh o1.s;let z6:=Dv o1.s;(Qw code o1)∧(Fp 33 [.agg (Gw o1.s)] [] z9 [.lst .ev z4])∧(Fp 34 [.agg (Gw o1.s)] [] z9 [.lst .ev z4])∧(Fp 14 [.c (.seq .ev z4),.c (.seq .ev z4)] [] (.v (vB (decide (z4=z4)))) [])∧((!(decide (z4=z4)))=false)∧Bc (decide (((z4.length:Nat):Int)=0)) ((Fp 29 [.agg (Gw o1.s)] [] (.v (vB (Cu o1.s))) [])∧Lf (.v (vB (!(Cu o1.s)))) z8 [] []) ((Fp 27 [.agg (Gw o1.s)] [] (.tup [.agg (Au 0 1 2 3 z6),.agg (cEv z5)]) [.lst .rd z6.reader.script,.tree z6.dec.pJ.sQ,.lst .lev z6.dec.sJ,.lst .ev z6.queue])∧El (z4[0]?) fun x1=>((z4[0]? =some x1)∧((0:Int)≤0)∧(z4[0]? =some x1)∧((0:Int)≤0)∧Bc (!(decide (z5.kind=x1.kind)&&(decide (z5.field=x1.field)&&(decide (z5.bits=x1.bits)&&(decide (z5.len=x1.len)&&(decide (z5.text=x1.text)&&(decide (z5.code=x1.code)&&decide (z5.aJ=x1.aJ)))))))) (Lf (.v (vB false)) z8 [] []) (Bc (B6 z5) ((Fp 31 [.agg (cEv z5)] [] (.v (vB (B6 z5))) [])∧((B6 z5)=true)∧Lf z8 z8 [] []) ((Fp 31 [.agg (cEv z5)] [] (.v (vB (B6 z5))) [])∧((B6 z5)=false)∧(1≤((z4.length:Nat):Int))∧((0:Int)≤1)∧(1≤((z4.length:Nat):Int))∧((0:Int)≤1)∧(Fp 33 [.agg (Gw z6)] [] z9 [.lst .ev (Ca z6)])∧(Fp 14 [.c (.seq .ev (Ca z6)),.c (.seq .ev (List.drop 1 z4))] [] (.v (vB (decide ((Ca z6)=(List.drop 1 z4))))) [])∧Lf (.v (vB (decide ((Ca z6)=(List.drop 1 z4))))) z8 [] [])))))))) Q4 ?_
 refine⟨(Apn _ Q2),dsp (fun h1 p1=>?_) fun h1 p1=>?_⟩
 exact⟨rfl,rfl⟩
 refine⟨(Aaw code Q2),fun o1 ho_o1=>?_⟩
 obtain ⟨hp_o1,hf_o1⟩:=ho_o1
 refine⟨hf_o1,(Zk o1.s (by have:=(hp_o1).re;omega) (by have:=(hp_o1).shs;omega) (fun e he=>by have:=(hp_o1).flds e he;omega) (by have:=(hp_o1).dec.sJ;omega) (by have:=(hp_o1).sc;omega) Q70 (by have:=(hp_o1).da;omega)),(Af1 o1.s (by have:=(hp_o1).re;omega) (by have:=(hp_o1).shs;omega) (fun e he=>by have:=(hp_o1).flds e he;omega) (by have:=(hp_o1).dec.sJ;omega) (by have:=(hp_o1).sc;omega) Q70 (by have:=(hp_o1).da;omega)),(Ab9 _ _ Q38 Q38),(by simp),dsp (fun h2 p2=>?_) fun h2 p2=>?_⟩
 have hno:=Acb hp_o1 p2
 exact⟨(Aao o1.s (by have:=(hp_o1).da;omega) (by have:=(hp_o1).sc;omega) (by have:=(hp_o1).dec.sJ;omega) (by have:=(hp_o1).shs;omega)),(sB W83),rfl⟩
 have hso:=Aca p2
 have hpo:=X9 hso hp_o1
 refine⟨(Ape o1.s (by have:=(hp_o1).shs;omega) (fun e he=>by have:=(hp_o1).flds e he;omega) (by have:=(hp_o1).dec.sJ;omega) (by have:=(hp_o1).sc;omega) Q70 (by have:=(hp_o1).da;omega)),(Bo (l:=Ca o1.s) (i:=0) Q38),fun x1 hx1=>?_⟩
 have hx0:=Option.some.inj (hpo.2.1.symm.trans hx1)
 refine⟨hx1,Q30,hx1,Q30,fun h3=>have q3:=An h3;have p3:=(Cy dT (Cy dT (Cy dT (Cy dT (Cy dT (Cy dT dF)))))).1 q3;?_,fun h3=>have q3:=Am h3;have p3:=(Cx dT (Cx dT (Cx dT (Cx dT (Cx dT (Cx dT dT)))))).1 q3;?_⟩
 exact⟨(sB W83),rfl⟩
 refine⟨fun h4=>?_,fun h4=>?_⟩
 exact⟨(Rg (Gh o1.s)),h4,rfl,rfl⟩
 exact⟨(Rg (Gh o1.s)),h4,Q38,Q30,Q38,Q30,(Zk (Dv o1.s) (by have:=((T5 hp_o1 Q2).1).re;omega) (by have:=((T5 hp_o1 Q2).1).shs;omega) (fun e he=>by have:=((T5 hp_o1 Q2).1).flds e he;omega) (by have:=((T5 hp_o1 Q2).1).dec.sJ;omega) (by have:=((T5 hp_o1 Q2).1).sc;omega) (by have:=((T5 hp_o1 Q2).1).qu;(try simp only[List.length_append,List.length_cons,List.length_nil]);omega) (by have:=((T5 hp_o1 Q2).1).da;omega)),(Ab9 _ _ Q38 Q38),(sB W83),rfl⟩
end Go.Proofs.YtphecbmdhbphgaaGreat.Ax
namespace Go.Proofs.YtphecbmdhbphgaaGreat.Ax
open Go.ChangeShapes Go.WideShapes Go.ChangeAt Go.RowKit
theorem Ajc:Tryz.prog.cellsOf 5=1:=by kernel_rfl
theorem Aqq {H:Type} {tok:TypeId×Value→H} {w:World} {sp:Nat→Bool} {held:Bool} (fuel:Nat) (cs:List Value) (x:DataW H×List MemPlace) (hl:cs.length=1) (h:DataW.trod tok Tryz.prog w 0 sp held fuel 5 cs=some x): ∃y:Int,All2 Rep0 (enc .u8 y) cs∧(0≤y∧y≤255):=by
 obtain ⟨i,rfl,_,hw⟩:=DataW.trod_int Tryz.underlying5 h
 exact⟨i,.cons rfl .nil,bounds_u8 hw⟩
end Go.Proofs.YtphecbmdhbphgaaGreat.Ax
