/- Bent descriptions and plans. Drawn inputs. What is too long to draw from. Drawn chunks. Models: the grammar. The grammar: numbers, U3, texts. The grammar: texts. The grammar: values with a length. The grammar: messages. -/
import Derived.Test.YtphecbmdhbphgaaGreatKFnDecode7
import Derived.Test.YtphecbmdhbphgaaGreatKFnDecode1
import Derived.Test.YtphecbmdhbphgaaGreatKFnDecode5
import Derived.Test.YtphecbmdhbphgaaGreatKFnDecode2
set_option linter.unusedSimpArgs false
set_option linter.unusedVariables false
namespace Go.Proofs.YtphecbmdhbphgaaGreat.Ax
open Go.RowKit
def SchB (l:List Shp):Prop:=l.length≤7∧∀e∈l,e.fJ.length≤6
theorem SchG.b {l:List Shp} (h:SchG l):SchB l:=⟨by have:=h.1;omega,fun e he=>by have:=(h.2 e he).1;omega⟩
theorem SchB.set {l:List Shp} {i:Nat} {x:Shp} (h:SchB l) (hx:x.fJ.length≤6):SchB (l.set i x):=by
 refine⟨by rw[List.length_set];exact h.1,fun e he=>?_⟩
 rcases List.mem_or_eq_of_mem_set he with he|rfl
 ·exact h.2 e he
 ·exact hx
theorem SchB.app {l:List Shp} {k:Int} (h:SchB l) (hl:l.length≤6):SchB (l++[⟨k,[]⟩]):=by
 refine⟨by simp;omega,fun e he=>?_⟩
 rcases List.mem_append.1 he with he|he
 ·exact h.2 e he
 ·simp at he;rw[he];simp
structure Fj where
 l:List Shp
 c1:Cur
def Aa4 (c:Cur) (o:Fj):Prop:=Fun Tryz.prog 153 [vP 0] [.cells (Ct c)] (.v (.agg [.seq .shp o.l])) [.cells (Ct o.c1)]
def Vu (c:Cur) (o:Fj):Prop:=((SchB o.l)∧(A4 o.c1))∧Aa4 c o
structure Qh where
 c:Cur
 sQ:List Shp
def Qi  :Fam:=⟨Qh,fun q1=>[(0,.v (vP 0)),(2,.v (vP 1)),(3,.v (vP 2))],fun q1=>[.cells (Ct q1.c),.cells [.nil],.cells [.own 3],.tree q1.sQ],fun q1=>A4 q1.c∧SchB q1.sQ,fun q1=>8-List.length q1.sQ⟩
theorem Aow (c:Cur) (hp1:A4 c): ∃o:Fj,Vu c o:=by
 have hN:Bh=274877906944:=rfl
 refine Cj Tryz.func153 Q4 Q4 (w:=let z38:=([(2,.v (vP 1)),(3,.v (vP 2))]:List (Nat×S))=[(2,.v (vP 1)),(3,.v (vP 2))];let z39:=Qi;(.intro (Lv c) fun o1=> .sZ [.call [0] (.v (.agg [.own 1])) [.cells (Ct o1.c1),.tree o1.l]] (.intro (Aa o1.c1 ((o1.l.length:Nat):Int)) fun o2=>let z30:=Int.toNat o2.x;let z31:=Sx (o1.l[Int.toNat o2.x]?);.sZ [.call [0] (.v (vI o2.x)) (Kc o2.c1)] (.intro (Aa o2.c1 10) fun o3=> .sZ [.call [0] (.v (vI o3.x)) (Kc o3.c1)] (.br (.intro (Jf o3.c1 [0,5,100,(-1)]) fun o4=> .intro z31 fun x1=> .sZ [.ord (os 9 [4,5,8]) [0],.ty .int,.call [0,4] (.v (vI o4.x)) [.cells (Ct o4.c1),.lst .int [0,5,100,(-1)]],.el .shp x1,.at 0,.pub 1 0] (.lJ (⟨List.set o1.l z30 (⟨o4.x,x1.fJ⟩:Shp),o4.c1⟩:Fj) [0])) (.br (.intro z31 fun x1=> .take 7 2 z30 x1 (.intro (Rx o3.c1) fun o4=> .intro (Aa o4.c1 10) fun o5=> .intro (Aa o5.c1 4) fun o6=>let z2:S:= .v (vI (o6.x-1));let z3:List Blk:=(Kc o6.c1);let z4:S:= .v (vI o6.x);.sZ [.tree (fr (.first 9 (.first 11 (.first 13 (.two 8 (.one 10 (.one 12 (.one 14 (.first 15 (.first 16 (.one 17 (.one 18 (.first 19 (.first 20 (.one 21 (.done))))))))))) 10 (.two 8 (.one 12 (.one 14 (.first 15 (.first 16 (.one 17 (.one 18 (.first 19 (.first 20 (.one 21 (.done)))))))))) 12 (.two 8 (.one 14 (.first 15 (.first 16 (.one 17 (.one 18 (.first 19 (.first 20 (.one 21 (.done))))))))) 14 (.first 15 (.first 16 (.two 8 (.one 17 (.one 18 (.first 19 (.first 20 (.one 21 (.done)))))) 17 (.one 8 (.one 18 (.first 19 (.first 20 (.one 21 (.done))))))))))))))) 0 8) 21 [0,4],.call [0] (.v (vI o4.x)) (Kc o4.c1),.call [0] (.v (vI o5.x)) (Kc o5.c1),.call [0] z4 z3,.as 41 z2,.ty .fld,.ty .fld,.el .shp x1,.at 0,.keep [2,3],.sel [0,1,3,2],.call [0] (.v (vI o4.x)) (Kc o4.c1),.call [0] (.v (vI o5.x)) (Kc o5.c1),.call [0] z4 z3,.as 41 z2,.ty .fld,.ty .fld,.el .shp x1,.at 0,.keep [2,3],.sel [0,1,3,2],.call [0] (.v (vI o5.x)) (Kc o5.c1),.call [0] z4 z3,.as 41 z2,.ty .fld,.ty .fld,.el .shp x1,.at 0,.keep [2,3],.sel [0,1,3,2],.call [0] z4 z3,.as 41 z2,.ty .fld,.ty .fld,.el .shp x1,.at 0,.keep [2,3],.sel [0,1,3,2],.ty .fld,.ty .fld,.el .shp x1,.at 0,.keep [2,3],.sel [0,1,3,2],.at 0,.pub 1 0] (.lJ (⟨List.set o1.l z30 (⟨x1.id,x1.fJ++[(⟨o4.x,o5.x,false,false,o6.x-1⟩:Fld)]⟩:Shp),o6.c1⟩:Fj) [0]))) (.br (.intro z31 fun x1=> .take 9 2 z30 x1 (.br (.intro (Aa o3.c1 5) fun o4=> .intro (Sx (x1.fJ[0]?)) fun x2=> .sZ [.ord (os 12 [7,11]) [0],.call [0] (.v (vI o4.x)) (Kc o4.c1),.as 65 (.v (vI (o4.x-1))),.el .fld x2] (.give 17 2 x1 (.sZ [.at 0,.pub 1 0] (.lJ (⟨List.set o1.l z30 (⟨x1.id,List.set x1.fJ 0 (⟨x2.nJ,x2.kind,x2.rep,x2.packed,o4.x-1⟩:Fld)⟩:Shp),o4.c1⟩:Fj) [0])))) (.give 17 2 x1 (.sZ [.at 0,.pub 1 0] (.lJ (⟨List.set o1.l z30 (⟨x1.id,x1.fJ⟩:Shp),o3.c1⟩:Fj) [0]))))) (.br (.intro z31 fun x1=> .take 12 2 z30 x1 (.br (.intro (Sx (x1.fJ[0]?)) fun x2=> .sZ [.el .fld x2] (.give 17 2 x1 (.sZ [.at 0,.pub 1 0] (.lJ (⟨List.set o1.l z30 (⟨x1.id,List.set x1.fJ 0 (⟨x2.nJ,x2.kind,x2.rep,true,x2.mK⟩:Fld)⟩:Shp),o3.c1⟩:Fj) [0])))) (.give 17 2 x1 (.sZ [.at 0,.pub 1 0] (.lJ (⟨List.set o1.l z30 (⟨x1.id,x1.fJ⟩:Shp),o3.c1⟩:Fj) [0]))))) (.br (.sZ [.at 0,.keep [0,2,3],.sel [0,1,3,2]] (.loop z39 fun q1=> .intro (Aa q1.c 2) fun o4=> .sZ [.ord (os 7 [4]) [0],.call [0] (.v (vI o4.x)) (Kc o4.c1),.as 93 (.v (vI (6+o4.x)))] (.br (.sZ [.as 100 (.v (vI (91+((q1.sQ.length:Nat):Int)))),.tyT,.tyT,.at 0,.keep [0,2,3],.sel [0,1,2,5]] (.next)) (.sZ [.at 0,.pub 1 0] (.lJ (⟨q1.sQ,o4.c1⟩:Fj) [0]))))) (.sZ [.at 0,.pub 1 0] (.lJ (⟨o1.l,o3.c1⟩:Fj) [0]))))))))),In (Lv c) fun o1=>(let z37:=((o1.l.length:Nat):Int);(Tt c o1)∧In (Aa o1.c1 z37) fun o2=>(let z32:=o2.x<z37;let z34:=(0:Int)≤o2.x;let z35:=o1.l[Int.toNat o2.x]?;let z36:=Int.toNat o2.x;let z33:=z36=z36;(Ap o1.c1 z37 o2)∧In (Aa o2.c1 10) fun o3=>(let z28:List Blk:=(Kc o3.c1);let z29:=A4 o3.c1;(Ap o2.c1 10 o3)∧Bc (decide (o3.x=0)) (In (Jf o3.c1 [0,5,100,(-1)]) fun o4=>(El z35 fun x1=>(let z1:=List.set o1.l z36 (⟨o4.x,x1.fJ⟩:Shp);(P8 o3.c1 [0,5,100,(-1)] o4)∧z32∧z34∧z32∧z34∧(o1.l[Int.toNat o2.x]? =some x1)∧((SchB z1)∧(A4 o4.c1))∧Lf (.v (.agg [.seq .shp z1])) (.v (.agg [.seq .shp z1])) (Kc o4.c1) (Kc o4.c1)))) (Bc (decide (o3.x=1)) (El z35 fun x1=>(let z12:=z35.map (fun (x:Shp)=>x.fJ.length)=some (x1.fJ.length);let z13:=o1.l[Int.toNat o2.x]? =some x1;z13∧In (Rx o3.c1) fun o4=>(In (Aa o4.c1 10) fun o5=>(let z11:=Ap o4.c1 10 o5;In (Aa o5.c1 4) fun o6=>(let z8:=Ap o5.c1 4 o6;let z9:=(⟨o4.x,o5.x,false,false,o6.x-1⟩:Fld);let z6:=x1.fJ.length+List.length [z9]≤Bh;let z7:=List.set o1.l z36 (⟨x1.id,x1.fJ++[z9]⟩:Shp);let z5:List Blk:=[.cells (Ct o6.c1),.cells [.nil],.cells [.own 3],.tree z7];let z10:=wI (o6.x-1);z32∧z34∧z32∧z34∧z33∧z12∧(Rw o3.c1 o4)∧z11∧z8∧z10∧z6∧z32∧z34∧z32∧z34∧z33∧z13∧(Rw o3.c1 o4)∧z33∧z12∧z11∧z8∧z10∧z6∧z32∧z34∧z32∧z34∧z33∧z13∧z11∧z33∧z12∧z8∧z10∧z6∧z32∧z34∧z32∧z34∧z33∧z13∧z8∧z10∧z33∧z12∧z6∧z32∧z34∧z32∧z34∧z33∧z13∧z33∧z12∧z6∧z32∧z34∧z32∧z34∧z33∧z13∧((z5:List Blk)=z5)∧z38∧((z5:List Blk)=z5)∧z38∧((z5:List Blk)=z5)∧z38∧((z5:List Blk)=z5)∧z38∧((SchB z7)∧(A4 o6.c1))∧Lf (.v (.agg [.seq .shp z7])) (.v (.agg [.seq .shp z7])) (Kc o6.c1) (Kc o6.c1)))))) (Bc (decide (o3.x=2)) (El z35 fun x1=>(let z16:=z35.map (fun (x:Shp)=>x.fJ.length)=some (x1.fJ.length);let z17:=List.set o1.l z36 (⟨x1.id,x1.fJ⟩:Shp);let z18:=0<((x1.fJ.length:Nat):Int);let z19:=o1.l[Int.toNat o2.x]? =some x1;z19∧z32∧z34∧z33∧z16∧Bc (decide z18) (In (Aa o3.c1 5) fun o4=>(El (x1.fJ[0]?) fun x2=>(let z15:=(⟨x2.nJ,x2.kind,x2.rep,x2.packed,o4.x-1⟩:Fld);let z14:=List.set o1.l z36 (⟨x1.id,List.set x1.fJ 0 z15⟩:Shp);z32∧z34∧z32∧z34∧z33∧z16∧z33∧z16∧(Ap o3.c1 5 o4)∧(wI (o4.x-1))∧z18∧((0:Int)≤0)∧z18∧((0:Int)≤0)∧(x1.fJ[0]? =some x2)∧(List.length (List.set x1.fJ 0 z15)=x1.fJ.length)∧z19∧((SchB z14)∧(A4 o4.c1))∧Lf (.v (.agg [.seq .shp z14])) (.v (.agg [.seq .shp z14])) (Kc o4.c1) (Kc o4.c1)))) ((x1.fJ.length=x1.fJ.length)∧z19∧((SchB z17)∧z29)∧Lf (.v (.agg [.seq .shp z17])) (.v (.agg [.seq .shp z17])) z28 z28))) (Bc (decide (o3.x=3)) (El z35 fun x1=>(let z22:=List.set o1.l z36 (⟨x1.id,x1.fJ⟩:Shp);let z23:=z35.map (fun (x:Shp)=>x.fJ.length)=some (x1.fJ.length);let z24:=o1.l[Int.toNat o2.x]? =some x1;let z25:=0<((x1.fJ.length:Nat):Int);z24∧z32∧z34∧z33∧z23∧Bc (decide z25) (El (x1.fJ[0]?) fun x2=>(let z21:=(⟨x2.nJ,x2.kind,x2.rep,true,x2.mK⟩:Fld);let z20:=List.set o1.l z36 (⟨x1.id,List.set x1.fJ 0 z21⟩:Shp);z32∧z34∧z33∧z23∧z25∧((0:Int)≤0)∧(x1.fJ[0]? =some x2)∧(List.length (List.set x1.fJ 0 z21)=x1.fJ.length)∧z24∧((SchB z20)∧z29)∧Lf (.v (.agg [.seq .shp z20])) (.v (.agg [.seq .shp z20])) z28 z28)) ((x1.fJ.length=x1.fJ.length)∧z24∧((SchB z22)∧z29)∧Lf (.v (.agg [.seq .shp z22])) (.v (.agg [.seq .shp z22])) z28 z28))) (Bc (decide (o3.x=4)) (z39.Has [(0,.v (vP 0)),(2,.v (vP 1)),(3,.v (vP 2))] [.cells (Ct o3.c1),.cells [.nil],.cells [.own 3],.tree o1.l]∧∀q1,z39.inv q1→(let z26:=((q1.sQ.length:Nat):Int);let z27:S:= .v (.agg [.seq .shp q1.sQ]);In (Aa q1.c 2) fun o4=>((Ap q1.c 2 o4)∧(wI (6+o4.x))∧Bc (decide (z26<6+o4.x)) ((wI (91+z26))∧(q1.sQ.length+List.length [(⟨91+z26,([]:List Fld)⟩:Shp)]≤Bh)∧z39.Nxt q1 [(0,.v (vP 0)),(2,.v (vP 1)),(3,.v (vP 2))] [.cells (Ct o4.c1),.cells [.nil],.cells [.own 3],.tree (q1.sQ++[(⟨91+z26,([]:List Fld)⟩:Shp)])]) (((SchB q1.sQ)∧(A4 o4.c1))∧Lf z27 z27 (Kc o4.c1) (Kc o4.c1))))) (((SchB o1.l)∧z29)∧Lf (.v (.agg [.seq .shp o1.l])) (.v (.agg [.seq .shp o1.l])) z28 z28)))))))))) Q4 ?_
 refine⟨(Ado c Q0),fun o1 ho_o1=>?_⟩
 obtain ⟨⟨hp_o1_0,hp_o1_1,hp_o1_2,hp_o1_3⟩,hf_o1⟩:=ho_o1
 refine⟨hf_o1,(Az o1.c1 ((o1.l.length:Nat):Int) Q0),fun o2 ho_o2=>?_⟩
 obtain ⟨⟨hp_o2_0,hp_o2_1,hp_o2_2,hp_o2_3⟩,hf_o2⟩:=ho_o2
 refine⟨hf_o2,(Az o2.c1 10 Q0),fun o3 ho_o3=>?_⟩
 obtain ⟨⟨hp_o3_0,hp_o3_1,hp_o3_2,hp_o3_3⟩,hf_o3⟩:=ho_o3
 refine⟨hf_o3,dsp (fun h1 p1=>?_) fun h1 p1=>?_⟩
 refine⟨(Y8 o3.c1 [0,5,100,(-1)] Q0 Q6 Q6),fun o4 ho_o4=>?_⟩
 obtain ⟨⟨hp_o4_0,hp_o4_1⟩,hf_o4⟩:=ho_o4
 refine⟨(Bo (l:=o1.l) (i:=Int.toNat o2.x) Q2),fun x1 hx1=>?_⟩
 have hxl:=(hp_o1_0.2 _ (List.mem_of_getElem? hx1)).1
 exact⟨hf_o4,Q2,Q2,Q2,Q2,hx1,⟨Q34,Q0⟩,rfl,rfl⟩
 refine dsp (fun h2 p2=>?_) fun h2 p2=>?_
 refine⟨(Bo (l:=o1.l) (i:=Int.toNat o2.x) Q2),fun x1 hx1=>?_⟩
 have hxl:=(hp_o1_0.2 _ (List.mem_of_getElem? hx1)).1
 refine⟨hx1,(Ahv o3.c1 Q0),fun o4 ho_o4=>?_⟩
 obtain ⟨hp_o4,hf_o4⟩:=ho_o4
 refine⟨(Az o4.c1 10 Q0),fun o5 ho_o5=>?_⟩
 obtain ⟨⟨hp_o5_0,hp_o5_1,hp_o5_2,hp_o5_3⟩,hf_o5⟩:=ho_o5
 refine⟨(Az o5.c1 4 Q0),fun o6 ho_o6=>?_⟩
 obtain ⟨⟨hp_o6_0,hp_o6_1,hp_o6_2,hp_o6_3⟩,hf_o6⟩:=ho_o6
 exact⟨Q2,Q2,Q2,Q2,rfl,Q43,hf_o4,hf_o5,hf_o6,(Ad Q2 Q2),Q6,Q2,Q2,Q2,Q2,rfl,hx1,hf_o4,rfl,Q43,hf_o5,hf_o6,(Ad Q2 Q2),Q6,Q2,Q2,Q2,Q2,rfl,hx1,hf_o5,rfl,Q43,hf_o6,(Ad Q2 Q2),Q6,Q2,Q2,Q2,Q2,rfl,hx1,hf_o6,(Ad Q2 Q2),rfl,Q43,Q6,Q2,Q2,Q2,Q2,rfl,hx1,rfl,Q43,Q6,Q2,Q2,Q2,Q2,rfl,hx1,rfl,rfl,rfl,rfl,rfl,rfl,rfl,rfl,⟨Q34,Q0⟩,rfl,rfl⟩
 refine dsp (fun h3 p3=>?_) fun h3 p3=>?_
 refine⟨(Bo (l:=o1.l) (i:=Int.toNat o2.x) Q2),fun x1 hx1=>?_⟩
 have hxl:=(hp_o1_0.2 _ (List.mem_of_getElem? hx1)).1
 refine⟨hx1,Q2,Q2,rfl,Q43,dsp (fun h4 p4=>?_) fun h4 p4=>?_⟩
 refine⟨(Az o3.c1 5 Q0),fun o4 ho_o4=>?_⟩
 obtain ⟨⟨hp_o4_0,hp_o4_1,hp_o4_2,hp_o4_3⟩,hf_o4⟩:=ho_o4
 refine⟨(Bo (l:=x1.fJ) (i:=0) Q2),fun x2 hx2=>?_⟩
 refine⟨Q2,Q2,Q2,Q2,rfl,Q43,rfl,Q43,hf_o4,(Ad Q2 Q2),Q2,Q27,Q2,Q27,hx2,?_⟩
 exact⟨Q8,hx1,⟨Q34,Q0⟩,rfl,rfl⟩
 exact⟨Q8,hx1,⟨Q34,Q0⟩,rfl,rfl⟩
 refine dsp (fun h4 p4=>?_) fun h4 p4=>?_
 refine⟨(Bo (l:=o1.l) (i:=Int.toNat o2.x) Q2),fun x1 hx1=>?_⟩
 have hxl:=(hp_o1_0.2 _ (List.mem_of_getElem? hx1)).1
 refine⟨hx1,Q2,Q2,rfl,Q43,dsp (fun h5 p5=>?_) fun h5 p5=>?_⟩
 refine⟨(Bo (l:=x1.fJ) (i:=0) Q2),fun x2 hx2=>?_⟩
 refine⟨Q2,Q2,rfl,Q43,Q2,Q27,hx2,?_⟩
 exact⟨Q8,hx1,⟨Q34,Q0⟩,rfl,rfl⟩
 exact⟨Q8,hx1,⟨Q34,Q0⟩,rfl,rfl⟩
 refine dsp (fun h5 p5=>?_) fun h5 p5=>?_
 refine⟨Bp (j:=(⟨o3.c1,o1.l⟩:Qh)) rfl rfl (by dsimp only[Qi];exact⟨by assumption,SchG.b hp_o1_0⟩),fun (q1:Qh) hq_q1=>?_⟩
 have hi_q1:A4 q1.c∧SchB q1.sQ:=hq_q1
 obtain ⟨v1,v2⟩:=hi_q1
 have hs7:=v2.1
 refine⟨(Az q1.c 2 Q0),fun o4 ho_o4=>?_⟩
 obtain ⟨⟨hp_o4_0,hp_o4_1,hp_o4_2,hp_o4_3⟩,hf_o4⟩:=ho_o4
 refine⟨hf_o4,(Ad Q2 Q2),dsp (fun h6 p6=>?_) fun h6 p6=>?_⟩
 exact⟨(Ad Q2 Q2),Q6,A6 (j:=(⟨o4.c1,q1.sQ++[(⟨91+((q1.sQ.length:Nat):Int),([]:List Fld)⟩:Shp)]⟩:Qh)) rfl rfl (by dsimp only[Qi];exact⟨by assumption,SchB.app v2 Q2⟩) (by dsimp only[Qi];simp;omega)⟩
 exact⟨⟨Q34,Q0⟩,rfl,rfl⟩
 exact⟨⟨Q34,Q0⟩,rfl,rfl⟩
structure Gm where
 p:Pln
 c1:Cur
def Za (c:Cur) (o:Gm):Prop:=Fun Tryz.prog 82 [vP 0] [.cells (Ct c)] (.v (.agg (G0 o.p))) [.cells (Ct o.c1)]
def Tw (c:Cur) (o:Gm):Prop:=((Aim o.p)∧(A4 o.c1))∧Za c o
theorem Ak8 (c:Cur) (hp1:A4 c): ∃o:Gm,Tw c o:=by
 have hN:Bh=274877906944:=rfl
 refine Cj Tryz.func82 Q4 Q4 (w:=let zi:Int→C:= .int .i64;(.intro (Lw c) fun o1=> .sZ [.call [0] (.v (.agg (G0 o1.p))) (Kc o1.c1)] (.intro (Aa o1.c1 10) fun o2=> .sZ [.call [0] (.v (vI o2.x)) (Kc o2.c1)] (.br (.intro (Vu o2.c1) fun o3=> .sZ [.call [0] (.v (.agg [.seq .shp o3.l])) (Kc o3.c1)] (.lJ (⟨(⟨o3.l,o1.p.rJ,o1.p.dJ,o1.p.most⟩:Pln),o3.c1⟩:Gm) [0])) (.br (.sZ [.ty .int,.pubS 16] (.intro (B5 o2.c1 [(-1),0,3,9223372036854775807]) fun o3=> .sZ [.call [0] (.v (vI o3.x)) (Kc o3.c1)] (.lJ (⟨(⟨o1.p.sQ,o3.x,o1.p.dJ,o1.p.most⟩:Pln),o3.c1⟩:Gm) [0]))) (.br (.sZ [.ty .int,.pubS 22] (.intro (B5 o2.c1 [0,1,8,9,(-1)]) fun o3=> .sZ [.call [0] (.v (vI o3.x)) (Kc o3.c1)] (.lJ (⟨(⟨o1.p.sQ,o1.p.rJ,o3.x,o1.p.most⟩:Pln),o3.c1⟩:Gm) [0]))) (.br (.sZ [.ty .int,.pubS 28] (.intro (B5 o2.c1 [(-1),0,2000,2001]) fun o3=> .sZ [.call [0] (.v (vI o3.x)) (Kc o3.c1)] (.lJ (⟨(⟨o1.p.sQ,o1.p.rJ,o1.p.dJ,o3.x⟩:Pln),o3.c1⟩:Gm) [0]))) (.lJ (⟨o1.p,o2.c1⟩:Gm) [0])))))),In (Lw c) fun o1=>((Tu c o1)∧In (Aa o1.c1 10) fun o2=>((Ap o1.c1 10 o2)∧Bc (decide (o2.x=0)) (In (Vu o2.c1) fun o3=>(let z1:S:= .v (.agg [.seq .shp o3.l,zi o1.p.rJ,zi o1.p.dJ,zi o1.p.most]);(Aa4 o2.c1 o3)∧((Aim (⟨o3.l,o1.p.rJ,o1.p.dJ,o1.p.most⟩:Pln))∧(A4 o3.c1))∧Lf z1 z1 (Kc o3.c1) (Kc o3.c1))) (Bc (decide (o2.x=1)) (In (B5 o2.c1 [(-1),0,3,9223372036854775807]) fun o3=>(let z2:S:= .v (.agg [.seq .shp o1.p.sQ,zi o3.x,zi o1.p.dJ,zi o1.p.most]);(Dq o2.c1 [(-1),0,3,9223372036854775807] o3)∧((Aim (⟨o1.p.sQ,o3.x,o1.p.dJ,o1.p.most⟩:Pln))∧(A4 o3.c1))∧Lf z2 z2 (Kc o3.c1) (Kc o3.c1))) (Bc (decide (o2.x=2)) (In (B5 o2.c1 [0,1,8,9,(-1)]) fun o3=>(let z3:S:= .v (.agg [.seq .shp o1.p.sQ,zi o1.p.rJ,zi o3.x,zi o1.p.most]);(Dq o2.c1 [0,1,8,9,(-1)] o3)∧((Aim (⟨o1.p.sQ,o1.p.rJ,o3.x,o1.p.most⟩:Pln))∧(A4 o3.c1))∧Lf z3 z3 (Kc o3.c1) (Kc o3.c1))) (Bc (decide (o2.x=3)) (In (B5 o2.c1 [(-1),0,2000,2001]) fun o3=>(let z4:S:= .v (.agg [.seq .shp o1.p.sQ,zi o1.p.rJ,zi o1.p.dJ,zi o3.x]);(Dq o2.c1 [(-1),0,2000,2001] o3)∧((Aim (⟨o1.p.sQ,o1.p.rJ,o1.p.dJ,o3.x⟩:Pln))∧(A4 o3.c1))∧Lf z4 z4 (Kc o3.c1) (Kc o3.c1))) (((Aim o1.p)∧(A4 o2.c1))∧Lf (.v (.agg (G0 o1.p))) (.v (.agg (G0 o1.p))) (Kc o2.c1) (Kc o2.c1))))))))) Q4 ?_
 refine⟨(Adp c Q0),fun o1 ho_o1=>?_⟩
 obtain ⟨⟨hp_o1_0,hp_o1_1⟩,hf_o1⟩:=ho_o1
 refine⟨hf_o1,(Az o1.c1 10 Q0),fun o2 ho_o2=>?_⟩
 obtain ⟨⟨hp_o2_0,hp_o2_1,hp_o2_2,hp_o2_3⟩,hf_o2⟩:=ho_o2
 refine⟨hf_o2,dsp (fun h1 p1=>?_) fun h1 p1=>?_⟩
 refine⟨(Aow o2.c1 Q0),fun o3 ho_o3=>?_⟩
 obtain ⟨⟨hp_o3_0,hp_o3_1⟩,hf_o3⟩:=ho_o3
 exact⟨hf_o3,⟨Q74,Q0⟩,rfl,rfl⟩
 refine dsp (fun h2 p2=>?_) fun h2 p2=>?_
 refine⟨(E9 o2.c1 [(-1),0,3,9223372036854775807] Q0 Q6 Q6),fun o3 ho_o3=>?_⟩
 obtain ⟨⟨hp_o3_0,hp_o3_1⟩,hf_o3⟩:=ho_o3
 exact⟨hf_o3,⟨Q74,Q0⟩,rfl,rfl⟩
 refine dsp (fun h3 p3=>?_) fun h3 p3=>?_
 refine⟨(E9 o2.c1 [0,1,8,9,(-1)] Q0 Q6 Q6),fun o3 ho_o3=>?_⟩
 obtain ⟨⟨hp_o3_0,hp_o3_1⟩,hf_o3⟩:=ho_o3
 exact⟨hf_o3,⟨Q74,Q0⟩,rfl,rfl⟩
 refine dsp (fun h4 p4=>?_) fun h4 p4=>?_
 refine⟨(E9 o2.c1 [(-1),0,2000,2001] Q0 Q6 Q6),fun o3 ho_o3=>?_⟩
 obtain ⟨⟨hp_o3_0,hp_o3_1⟩,hf_o3⟩:=ho_o3
 exact⟨hf_o3,⟨Q74,Q0⟩,rfl,rfl⟩
 exact⟨⟨Q74,Q0⟩,rfl,rfl⟩
structure Fz where
 t:List UInt8
 c1:Cur
def Qj (c:Cur) (s:List UInt8) (o:Fz):Prop:=Fun Tryz.prog 152 [vP 0,vT s] [.cells (Ct c)] (.v (vT o.t)) [.cells (Ct o.c1)]
def Jh (c:Cur) (s:List UInt8) (o:Fz):Prop:=((List.length (o.t:List UInt8)≤List.length s+2)∧(A4 o.c1))∧Qj c s o
theorem Zb (c:Cur) (s:List UInt8) (hp1:A4 c) (hp2:s.length≤1000000): ∃o:Fz,Jh c s o:=by
 have hN:Bh=274877906944:=rfl
 refine Cj Tryz.func152 Q4 Q4 (w:=let z9:=((s.length:Nat):Int);(.intro (Aa c 8) fun o1=>let z7:=Aa o1.c1 (z9+1);.sZ [.call [0] (.v (vI o1.x)) (Kc o1.c1)] (.br (.intro (Ly o1.c1 s) fun o2=> .sZ [.call [0] (.v (vT o2.t)) (Kc o2.c1)] (.lJ (⟨o2.t,o2.c1⟩:Fz) [0])) (.br (.sZ [.as 19 (.v (vI (z9+1)))] (.intro z7 fun o2=> .sZ [.call [0] (.v (vI o2.x)) (Kc o2.c1)] (.lJ (⟨List.take (Int.toNat o2.x) s,o2.c1⟩:Fz) [0]))) (.br (.sZ [.as 27 (.v (vI (z9+1)))] (.intro z7 fun o2=> .sZ [.call [0] (.v (vI o2.x)) (Kc o2.c1)] (.intro (B1 o2.c1 1) fun o3=> .sZ [.ord [(0,true),(1,true),(2,true),(3,true),(7,true),(8,true),(9,true),(4,false),(5,false),(6,true),(10,true),(11,true)] [0],.call [0] (.v (vO 1)) [.cells (Ct o3.c1),.lst .u8 o3.l]] (.lJ (⟨((List.take (Int.toNat o2.x) s)++(List.map Bj o3.l))++(List.drop (Int.toNat o2.x) s),o3.c1⟩:Fz) [0])))) (.lJ (⟨s,o1.c1⟩:Fz) [0])))),In (Aa c 8) fun o1=>(let z8:=Aa o1.c1 (z9+1);(Ap c 8 o1)∧Bc (decide (o1.x=0)) (In (Ly o1.c1 s) fun o2=>((Tv o1.c1 s o2)∧((List.length (o2.t:List UInt8)≤s.length+2)∧(A4 o2.c1))∧Lf (.v (vT o2.t)) (.v (vT o2.t)) (Kc o2.c1) (Kc o2.c1))) (Bc (decide (o1.x=1)) ((wI (z9+1))∧In z8 fun o2=>(let z1:=List.take (Int.toNat o2.x) s;(Ap o1.c1 (z9+1) o2)∧(o2.x≤z9)∧((0:Int)≤o2.x)∧((List.length (z1:List UInt8)≤s.length+2)∧(A4 o2.c1))∧Lf (.v (vT z1)) (.v (vT z1)) (Kc o2.c1) (Kc o2.c1))) (Bc (decide (o1.x=2)) ((wI (z9+1))∧In z8 fun o2=>(let z4:=o2.x≤z9;let z5:=(0:Int)≤o2.x;let z6:=Int.toNat o2.x;(Ap o1.c1 (z9+1) o2)∧In (B1 o2.c1 1) fun o3=>(let z3:=(List.take z6 s)++(List.map Bj o3.l);let z2:=z3++(List.drop z6 s);z4∧z5∧z4∧z5∧z4∧z5∧z4∧z5∧(Dr o2.c1 1 o3)∧(((List.length (List.take z6 s)+List.length (List.map Bj o3.l):Nat):Int)≤Bi)∧(((z3.length+List.length (List.drop z6 s):Nat):Int)≤Bi)∧((List.length (z2:List UInt8)≤s.length+2)∧(A4 o3.c1))∧Lf (.v (vT z2)) (.v (vT z2)) (Kc o3.c1) (Kc o3.c1)))) (((List.length (s:List UInt8)≤s.length+2)∧(A4 o1.c1))∧Lf (.v (vT s)) (.v (vT s)) (Kc o1.c1) (Kc o1.c1))))))) Q4 ?_
 refine⟨(Az c 8 Q0),fun o1 ho_o1=>?_⟩
 obtain ⟨⟨hp_o1_0,hp_o1_1,hp_o1_2,hp_o1_3⟩,hf_o1⟩:=ho_o1
 refine⟨hf_o1,dsp (fun h1 p1=>?_) fun h1 p1=>?_⟩
 refine⟨(Adq o1.c1 s Q0 Q2),fun o2 ho_o2=>?_⟩
 obtain ⟨⟨hp_o2_0,hp_o2_1⟩,hf_o2⟩:=ho_o2
 exact⟨hf_o2,⟨Q2,Q0⟩,rfl,rfl⟩
 refine dsp (fun h2 p2=>?_) fun h2 p2=>?_
 refine⟨(Ad Q2 Q2),(Az o1.c1 (((s.length:Nat):Int)+1) Q0),fun o2 ho_o2=>?_⟩
 obtain ⟨⟨hp_o2_0,hp_o2_1,hp_o2_2,hp_o2_3⟩,hf_o2⟩:=ho_o2
 exact⟨hf_o2,Q2,Q2,⟨(by simp only[List.length_take];omega),Q0⟩,rfl,rfl⟩
 refine dsp (fun h3 p3=>?_) fun h3 p3=>?_
 refine⟨(Ad Q2 Q2),(Az o1.c1 (((s.length:Nat):Int)+1) Q0),fun o2 ho_o2=>?_⟩
 obtain ⟨⟨hp_o2_0,hp_o2_1,hp_o2_2,hp_o2_3⟩,hf_o2⟩:=ho_o2
 refine⟨hf_o2,(Fi o2.c1 1 Q0 Q2),fun o3 ho_o3=>?_⟩
 obtain ⟨⟨hp_o3_0,hp_o3_1⟩,hf_o3⟩:=ho_o3
 exact⟨Q2,Q2,Q2,Q2,Q2,Q2,Q2,Q2,hf_o3,Q3,Q3,⟨(by simp only[List.length_append,List.length_take,List.length_drop,List.length_map];omega),Q0⟩,rfl,rfl⟩
 exact⟨⟨Q2,Q0⟩,rfl,rfl⟩
structure Ki where
 t:List UInt8
 c1:Cur
def Wt (c:Cur) (p:Pln) (o:Ki):Prop:=Fun Tryz.prog 80 [vP 0,.agg (G0 p)] [.cells (Ct c)] (.v (vT o.t)) [.cells (Ct o.c1)]
def R5 (c:Cur) (p:Pln) (o:Ki):Prop:=((List.length (o.t:List UInt8)≤200000)∧(A4 o.c1))∧Wt c p o
structure K5 where
 c:Cur
 s:List UInt8
 i:Nat
def Ji (p:Pln) (o1:Dp):Fam:=⟨K5,fun q1=>[(0,.v (vP 0)),(3,.v (vP 1)),(5,.v (vT q1.s)),(6,.v (vI o1.x)),(7,.v (vI ((q1.i:Nat):Int)))],fun q1=>[.cells (Ct q1.c),.cells (G0 p)],fun q1=>A4 q1.c∧q1.i≤3∧List.length q1.s≤58010*q1.i,fun q1=>4-q1.i⟩
theorem Ah0 (c:Cur) (p:Pln) (hp1:A4 c) (hp2:PlnG p): ∃o:Ki,R5 c p o:=by
 have hN:Bh=274877906944:=rfl
 have hpd:=hp2.dJ
 have hpr:=hp2.rJ
 refine Cj Tryz.func80 Q4 Q4 (w:=(.intro (Aa c 4) fun o1=> .sZ [.call [0] (.v (vI o1.x)) (Kc o1.c1),.at 0,.keep [0,3,5,6,7],.sel [0,1]] (.loop (Ji p o1) fun q1=> .br (.intro (Aa q1.c 2) fun o2=> .intro (R4 o2.c1 p p.rJ (p.dJ-o2.x)) fun o3=>let z1:=((o3.t.length:Nat):Int);.sZ [.ord (os 11 [7,9]) [0],.call [0] (.v (vI o2.x)) (Kc o2.c1),.as 24 (.v (vI (p.dJ-o2.x))),.call [0] (.v (vT o3.t)) (Kc o3.c1),.as 30 (.v (.c (.int .u64 z1)))] (.intro (Ah o3.c1 z1) fun o4=> .sZ [.call [0] (.v (vT o4.t)) (Kc o4.c1),.as 15 (.v (vI (((q1.i:Nat):Int)+1))),.at 0,.keep [0,3,5,6,7],.sel [0,1]] (.next))) (.intro (Au q1.c 20) fun o2=> .sZ [.call [0] (.v (vB o2.p)) (Kc o2.c1)] (.br (.intro (Dd o2.c1) fun o3=> .sZ [.call [0] (.v (.c (.int .u64 o3.x))) (Kc o3.c1)] (.intro (Ah o3.c1 o3.x) fun o4=> .sZ [.call [0] (.v (vT o4.t)) (Kc o4.c1)] (.intro (Jh o4.c1 (q1.s++o4.t)) fun o5=> .sZ [.call [0] (.v (vT o5.t)) (Kc o5.c1)] (.lJ (⟨o5.t,o5.c1⟩:Ki) [0])))) (.intro (Jh o2.c1 q1.s) fun o3=> .sZ [.call [0] (.v (vT o3.t)) (Kc o3.c1)] (.lJ (⟨o3.t,o3.c1⟩:Ki) [0]))))),In (Aa c 4) fun o1=>(let z4:=Ji p o1;(Ap c 4 o1)∧z4.Has [(0,.v (vP 0)),(3,.v (vP 1)),(5,.v (vT [])),(6,.v (vI o1.x)),(7,.v (vI 0))] [.cells (Ct o1.c1),.cells (G0 p)]∧∀q1,z4.inv q1→(let z3:=((q1.i:Nat):Int);Bc (decide (z3<o1.x)) (In (Aa q1.c 2) fun o2=>(In (R4 o2.c1 p p.rJ (p.dJ-o2.x)) fun o3=>(let z2:=((o3.t.length:Nat):Int);(Ap q1.c 2 o2)∧(wI (p.dJ-o2.x))∧(Ws o2.c1 p p.rJ (p.dJ-o2.x) o3)∧(wU (z2))∧In (Ah o3.c1 z2) fun o4=>((Ay o3.c1 z2 o4)∧(((q1.s.length+o4.t.length:Nat):Int)≤Bi)∧(((List.length (q1.s++o4.t)+o3.t.length:Nat):Int)≤Bi)∧(wI (z3+1))∧z4.Nxt q1 [(0,.v (vP 0)),(3,.v (vP 1)),(5,.v (vT ((q1.s++o4.t)++o3.t))),(6,.v (vI o1.x)),(7,.v (vI (z3+1)))] [.cells (Ct o4.c1),.cells (G0 p)])))) (In (Au q1.c 20) fun o2=>((Bq q1.c 20 o2)∧Bc o2.p (In (Dd o2.c1) fun o3=>((Gx o2.c1 o3)∧In (Ah o3.c1 o3.x) fun o4=>((Ay o3.c1 o3.x o4)∧In (Jh o4.c1 (q1.s++o4.t)) fun o5=>((((q1.s.length+o4.t.length:Nat):Int)≤Bi)∧(Qj o4.c1 (q1.s++o4.t) o5)∧((List.length (o5.t:List UInt8)≤200000)∧(A4 o5.c1))∧Lf (.v (vT o5.t)) (.v (vT o5.t)) (Kc o5.c1) (Kc o5.c1))))) (In (Jh o2.c1 q1.s) fun o3=>((Qj o2.c1 q1.s o3)∧((List.length (o3.t:List UInt8)≤200000)∧(A4 o3.c1))∧Lf (.v (vT o3.t)) (.v (vT o3.t)) (Kc o3.c1) (Kc o3.c1))))))))) Q4 ?_
 refine⟨(Az c 4 Q0),fun o1 ho_o1=>?_⟩
 obtain ⟨⟨hp_o1_0,hp_o1_1,hp_o1_2,hp_o1_3⟩,hf_o1⟩:=ho_o1
 refine⟨hf_o1,Bp (j:=(⟨o1.c1,[],0⟩:K5)) Q8 rfl (by dsimp only[Ji];exact⟨by assumption,by omega,by simp⟩),fun (q1:K5) hq_q1=>?_⟩
 have hi_q1:A4 q1.c∧q1.i≤3∧q1.s.length≤58010*q1.i:=hq_q1
 obtain ⟨v1,v2,v3⟩:=hi_q1
 refine dsp (fun h1 p1=>?_) fun h1 p1=>?_
 refine⟨(Az q1.c 2 Q0),fun o2 ho_o2=>?_⟩
 obtain ⟨⟨hp_o2_0,hp_o2_1,hp_o2_2,hp_o2_3⟩,hf_o2⟩:=ho_o2
 refine⟨(Ahz o2.c1 p p.rJ (p.dJ-o2.x) Q0 Q2 Q2 Q2 Q2),fun o3 ho_o3=>?_⟩
 obtain ⟨⟨hp_o3_0,hp_o3_1,hp_o3_2⟩,hf_o3⟩:=ho_o3
 refine⟨hf_o2,(Ad Q2 Q2),hf_o3,(Bu Q2 Q2),(Bg o3.c1 ((o3.t.length:Nat):Int) Q0 Q2),fun o4 ho_o4=>?_⟩
 obtain ⟨⟨hp_o4_0,hp_o4_1⟩,hf_o4⟩:=ho_o4
 exact⟨hf_o4,Q68,Q68,(Ad Q2 Q2),A6 (j:=(⟨o4.c1,(q1.s++o4.t)++o3.t,q1.i+1⟩:K5)) Q8 rfl (by dsimp only[Ji];exact⟨by assumption,by omega,by have hmv:=Nx (d:=p.dJ-o2.x) Q2 Q2;simp only[List.length_append];omega⟩) (by dsimp only[Ji];omega)⟩
 refine⟨(Cf q1.c 20 Q0),fun o2 ho_o2=>?_⟩
 obtain ⟨hp_o2,hf_o2⟩:=ho_o2
 refine⟨hf_o2,fun h2=>?_,fun h2=>?_⟩
 refine⟨(M6 o2.c1 Q0),fun o3 ho_o3=>?_⟩
 obtain ⟨⟨hp_o3_0,hp_o3_1⟩,hf_o3⟩:=ho_o3
 refine⟨hf_o3,(Bg o3.c1 o3.x Q0 Q2),fun o4 ho_o4=>?_⟩
 obtain ⟨⟨hp_o4_0,hp_o4_1⟩,hf_o4⟩:=ho_o4
 refine⟨hf_o4,(Zb o4.c1 (q1.s++o4.t) Q0 Q26),fun o5 ho_o5=>?_⟩
 refine⟨Q68,?_⟩
 obtain ⟨⟨hp_o5_0,hp_o5_1⟩,hf_o5⟩:=ho_o5
 exact⟨hf_o5,⟨(by (try simp only[List.length_append] at *);omega),Q0⟩,rfl,rfl⟩
 refine⟨(Zb o2.c1 q1.s Q0 Q2),fun o3 ho_o3=>?_⟩
 obtain ⟨⟨hp_o3_0,hp_o3_1⟩,hf_o3⟩:=ho_o3
 exact⟨hf_o3,⟨(by (try simp only[List.length_append] at *);omega),Q0⟩,rfl,rfl⟩
structure L0 where
 c1:Cur
 p:Pln
 t:List UInt8
def Zc (code:List Int) (o:L0):Prop:=Fun Tryz.prog 35 [.c (.seq .u8 code)] [] (.tup [vP 0,.agg (G0 o.p),vT o.t]) [.cells (Ct o.c1)]
def Tx (code:List Int) (o:L0):Prop:=((A4 o.c1)∧(Aim o.p)∧(List.length (o.t:List UInt8)≤200000))∧Zc code o
theorem Ak9 (code:List Int) (hp1:code.length≤1048576): ∃o:L0,Tx code o:=by
 have hN:Bh=274877906944:=rfl
 refine Cj Tryz.func35 Q4 Q4 (w:=let z4:=fr (.one 4 (.first 5 (.done))) 0 4;(.intro (Y2 code) fun o1=> .sZ [.call [] (.v (vP 0)) (Kc o1.c1)] (.intro (Lw o1.c1) fun o2=> .sZ [.call [1] (.v (.agg (G0 o2.p))) (Kc o2.c1)] (.intro (R5 o2.c1 o2.p) fun o3=> .sZ [.call [1] (.v (vT o3.t)) (Kc o3.c1)] (.intro (Au o3.c1 16) fun o4=> .sZ [.call [1] (.v (vB o4.p)) (Kc o4.c1)] (.br (.intro (Tw o4.c1) fun o5=> .sZ [.call [1] (.v (.agg (G0 o5.p))) (Kc o5.c1),.tree z4 4 []] (.lJ (⟨o5.c1,o5.p,o3.t⟩:L0) [1])) (.sZ [.tree z4 4 []] (.lJ (⟨o4.c1,o2.p,o3.t⟩:L0) [1])))))),In (Y2 code) fun o1=>((Adj code o1)∧In (Lw o1.c1) fun o2=>((Tu o1.c1 o2)∧In (R5 o2.c1 o2.p) fun o3=>(let z2:=List.length (o3.t:List UInt8)≤200000;let z3:S:= .tup [vP 0,.agg (G0 o2.p),vT o3.t];(Wt o2.c1 o2.p o3)∧In (Au o3.c1 16) fun o4=>((Bq o3.c1 16 o4)∧Bc o4.p (In (Tw o4.c1) fun o5=>(let z1:S:= .tup [vP 0,.agg (G0 o5.p),vT o3.t];(Za o4.c1 o5)∧((A4 o5.c1)∧(Aim o5.p)∧z2)∧Lf z1 z1 (Kc o5.c1) (Kc o5.c1))) (((A4 o4.c1)∧(Aim o2.p)∧z2)∧Lf z3 z3 (Kc o4.c1) (Kc o4.c1)))))))) Q4 ?_
 refine⟨(Aq5 code Q2),fun o1 ho_o1=>?_⟩
 obtain ⟨hp_o1,hf_o1⟩:=ho_o1
 refine⟨hf_o1,(Adp o1.c1 Q0),fun o2 ho_o2=>?_⟩
 obtain ⟨⟨hp_o2_0,hp_o2_1⟩,hf_o2⟩:=ho_o2
 refine⟨hf_o2,(Ah0 o2.c1 o2.p Q0 Q2),fun o3 ho_o3=>?_⟩
 obtain ⟨⟨hp_o3_0,hp_o3_1⟩,hf_o3⟩:=ho_o3
 refine⟨hf_o3,(Cf o3.c1 16 Q0),fun o4 ho_o4=>?_⟩
 obtain ⟨hp_o4,hf_o4⟩:=ho_o4
 refine⟨hf_o4,fun h1=>?_,fun h1=>?_⟩
 refine⟨(Ak8 o4.c1 Q0),fun o5 ho_o5=>?_⟩
 obtain ⟨⟨hp_o5_0,hp_o5_1⟩,hf_o5⟩:=ho_o5
 exact⟨hf_o5,⟨Q0,(by first|assumption|exact hp_o2_0.b),Q2⟩,rfl,rfl⟩
 exact⟨⟨Q0,(by first|assumption|exact hp_o2_0.b),Q2⟩,rfl,rfl⟩
theorem Asu (l:List Int) (hp1:((l.length:Nat):Int)≤9223372036854775807):Fun Tryz.prog 8 [.c (.seq .u8 l)] [] (.v (vB (decide (1048576<((l.length:Nat):Int))))) []:=by
 have hN:Bh=274877906944:=rfl
 refine Ar Tryz.func8 Q4 Q4 (w:=let z1:S:= .v (vB (decide (1048576<((l.length:Nat):Int))));(.lJ () [],Lf z1 z1 [] [])) Q4 ?_
 exact⟨rfl,rfl⟩
structure Kj where
 l:List Int
 c1:Cur
def Wu (c:Cur) (o:Kj):Prop:=Fun Tryz.prog 37 [vP 0] [.cells (Ct c)] (.v (vO 1)) [.cells (Ct o.c1),.lst .int o.l]
def R6 (c:Cur) (o:Kj):Prop:=((List.length (o.l:List Int)≤20)∧(A4 o.c1))∧Wu c o
structure K6 where
 c:Cur
 oJ:List Int
 i:Nat
def Jj (o1:Dp):Fam:=⟨K6,fun q1=>[(0,.v (vP 0)),(3,.v (vO 1)),(4,.v (vI o1.x)),(5,.v (vI ((q1.i:Nat):Int)))],fun q1=>[.cells (Ct q1.c),.lst .int q1.oJ],fun q1=>A4 q1.c∧List.length q1.oJ=q1.i∧q1.i≤9,fun q1=>10-q1.i⟩
theorem Ah1 (c:Cur) (hp1:A4 c): ∃o:Kj,R6 c o:=by
 have hN:Bh=274877906944:=rfl
 refine Cj Tryz.func37 Q4 Q4 (w:=let z4:= -9223372036854775808;(.sZ [.ty .int] (.intro (Aa c 9) fun o1=> .sZ [.call [0] (.v (vI o1.x)) (Kc o1.c1),.at 0,.keep [0,3,4,5],.sel [0,1]] (.loop (Jj o1) fun q1=> .br (.sZ [.ty .int,.pubS 16] (.intro (B5 q1.c [0,1,1,2,3,5,9,30,(-1)]) fun o2=> .sZ [.call [0] (.v (vI o2.x)) (Kc o2.c1),.ty .int,.ty .int,.as 13 (.v (vI (((q1.i:Nat):Int)+1))),.at 0,.keep [0,3,4,5],.sel [0,4]] (.next))) (.intro (Au q1.c 12) fun o2=> .sZ [.call [0] (.v (vB o2.p)) (Kc o2.c1)] (.br (.sZ [.ty .int,.pubS 24] (.intro (B5 o2.c1 [9223372036854775807,z4]) fun o3=> .sZ [.call [0] (.v (vI o3.x)) (Kc o3.c1),.ty .int,.ty .int] (.lJ (⟨q1.oJ++[o3.x],o3.c1⟩:Kj) [0,4]))) (.lJ (⟨q1.oJ,o2.c1⟩:Kj) [0,1]))))),In (Aa c 9) fun o1=>(let z3:=Jj o1;(Ap c 9 o1)∧z3.Has [(0,.v (vP 0)),(3,.v (vO 1)),(4,.v (vI o1.x)),(5,.v (vI 0))] [.cells (Ct o1.c1),.lst .int ([]:List Int)]∧∀q1,z3.inv q1→(let z2:=((q1.i:Nat):Int);Bc (decide (z2<o1.x)) (In (B5 q1.c [0,1,1,2,3,5,9,30,(-1)]) fun o2=>((Dq q1.c [0,1,1,2,3,5,9,30,(-1)] o2)∧(q1.oJ.length+List.length [o2.x]≤Bh)∧(wI (z2+1))∧z3.Nxt q1 [(0,.v (vP 0)),(3,.v (vO 1)),(4,.v (vI o1.x)),(5,.v (vI (z2+1)))] [.cells (Ct o2.c1),.lst .int (q1.oJ++[o2.x])])) (In (Au q1.c 12) fun o2=>((Bq q1.c 12 o2)∧Bc o2.p (In (B5 o2.c1 [9223372036854775807,z4]) fun o3=>(let z1:List Blk:=[.cells (Ct o3.c1),.lst .int (q1.oJ++[o3.x])];(Dq o2.c1 [9223372036854775807,z4] o3)∧(q1.oJ.length+List.length [o3.x]≤Bh)∧((List.length ((q1.oJ++[o3.x]):List Int)≤20)∧(A4 o3.c1))∧Lf (.v (vO 1)) (.v (vO 1)) z1 z1)) (((List.length (q1.oJ:List Int)≤20)∧(A4 o2.c1))∧Lf (.v (vO 1)) (.v (vO 1)) [.cells (Ct o2.c1),.lst .int q1.oJ] [.cells (Ct o2.c1),.lst .int q1.oJ]))))))) Q4 ?_
 refine⟨(Az c 9 Q0),fun o1 ho_o1=>?_⟩
 obtain ⟨⟨hp_o1_0,hp_o1_1,hp_o1_2,hp_o1_3⟩,hf_o1⟩:=ho_o1
 refine⟨hf_o1,Bp (j:=(⟨o1.c1,([]:List Int),0⟩:K6)) Q8 rfl (by dsimp only[Jj];exact⟨by assumption,rfl,by omega⟩),fun (q1:K6) hq_q1=>?_⟩
 have hi_q1:A4 q1.c∧q1.oJ.length=q1.i∧q1.i≤9:=hq_q1
 obtain ⟨v1,v2,v3⟩:=hi_q1
 refine dsp (fun h1 p1=>?_) fun h1 p1=>?_
 refine⟨(E9 q1.c [0,1,1,2,3,5,9,30,(-1)] Q0 Q6 Q6),fun o2 ho_o2=>?_⟩
 obtain ⟨⟨hp_o2_0,hp_o2_1⟩,hf_o2⟩:=ho_o2
 exact⟨hf_o2,Q6,(Ad Q2 Q2),A6 (j:=(⟨o2.c1,q1.oJ++[o2.x],q1.i+1⟩:K6)) Q8 rfl (by dsimp only[Jj];exact⟨by assumption,by simp;omega,by omega⟩) (by dsimp only[Jj];omega)⟩
 refine⟨(Cf q1.c 12 Q0),fun o2 ho_o2=>?_⟩
 obtain ⟨hp_o2,hf_o2⟩:=ho_o2
 refine⟨hf_o2,fun h2=>?_,fun h2=>?_⟩
 refine⟨(E9 o2.c1 [9223372036854775807,(-9223372036854775808)] Q0 Q6 Q6),fun o3 ho_o3=>?_⟩
 obtain ⟨⟨hp_o3_0,hp_o3_1⟩,hf_o3⟩:=ho_o3
 exact⟨hf_o3,Q6,⟨Q38,Q0⟩,rfl,rfl⟩
 exact⟨⟨Q2,Q0⟩,rfl,rfl⟩
structure Zd where
 o:List (List UInt8)
def Ama (s:List UInt8) (l:List Int) (o:Zd):Prop:=Fun Tryz.prog 36 [vT s,.c (.seq .int l)] [] (.v (vO 0)) [.lst .str o.o]
def Ae6 (s:List UInt8) (l:List Int) (o:Zd):Prop:=((List.flatten (o.o:List (List UInt8))=s)∧(List.length (o.o:List (List UInt8))≤List.length l+1))∧Ama s l o
structure Xt where
 s:List UInt8
 oJ:List (List UInt8)
 i:Nat
def Xu (s:List UInt8) (l:List Int):Fam:=⟨Xt,fun q1=>[(0,.v (vT q1.s)),(1,.v (.c (.seq .int l))),(5,.v (vO 0)),(6,.v (vI ((q1.i:Nat):Int)))],fun q1=>[.lst .str q1.oJ],fun q1=>q1.i≤List.length l∧List.flatten q1.oJ++q1.s=s∧List.length q1.oJ≤q1.i,fun q1=>List.length l-q1.i⟩
theorem Atw (s:List UInt8) (l:List Int) (hp1:s.length≤1048576) (hp2:l.length≤1048576): ∃o:Zd,Ae6 s l o:=by
 have hN:Bh=274877906944:=rfl
 refine Cj Tryz.func36 Q4 Q4 (w:=let z7:=List UInt8;let z8:=Xu s l;(.sZ [.ty .str,.at 0,.keep [0,1,5,6],.sel [0]] (.loop z8 fun q1=> .br (.intro (Sx (l[q1.i]?)) fun x1=> .sZ [.el .int x1,.call [] (.v (vI (max 0 x1))) [],.call [] (.v (vI (min ((q1.s.length:Nat):Int) (max 0 x1)))) [],.ty .str,.ty .str,.as 14 (.v (vI (((q1.i:Nat):Int)+1))),.at 0,.keep [0,1,5,6],.sel [2]] (.next)) (.br (.sZ [.ty .str,.ty .str] (.lJ (⟨q1.oJ++[q1.s]⟩:Zd) [2])) (.lJ (⟨q1.oJ⟩:Zd) [0]))),z8.Has [(0,.v (vT s)),(1,.v (.c (.seq .int l))),(5,.v (vO 0)),(6,.v (vI 0))] [.lst .str ([]:List z7)]∧∀q1,z8.inv q1→(let z4:=((q1.s.length:Nat):Int);let z5:=((q1.i:Nat):Int);let z6:=q1.oJ++[q1.s];Bc (decide (z5<((l.length:Nat):Int))) (El (l[q1.i]?) fun x1=>(let z1:=min z4 (max 0 x1);let z2:=min z4 (max 0 x1)≤z4;let z3:=(0:Int)≤min z4 (max 0 x1);(l[q1.i]? =some x1)∧((0:Int)≤z5)∧(Fp 84 [vI 0,vI x1] [] (.v (vI (max 0 x1))) [])∧(Fp 83 [vI z4,vI (max 0 x1)] [] (.v (vI z1)) [])∧z2∧z3∧(q1.oJ.length+List.length [List.take (Int.toNat z1) q1.s]≤Bh)∧z2∧z3∧(wI (z5+1))∧z8.Nxt q1 [(0,.v (vT (List.drop (Int.toNat z1) q1.s))),(1,.v (.c (.seq .int l))),(5,.v (vO 0)),(6,.v (vI (z5+1)))] [.lst .str (q1.oJ++[List.take (Int.toNat z1) q1.s])])) (Bc (!decide (q1.s=[])) ((q1.oJ.length+List.length [q1.s]≤Bh)∧((List.flatten (z6:List z7)=s)∧(List.length (z6:List z7)≤l.length+1))∧Lf (.v (vO 0)) (.v (vO 0)) [.lst .str z6] [.lst .str z6]) (((List.flatten (q1.oJ:List z7)=s)∧(List.length (q1.oJ:List z7)≤l.length+1))∧Lf (.v (vO 0)) (.v (vO 0)) [.lst .str q1.oJ] [.lst .str q1.oJ]))))) Q4 ?_
 refine⟨Bp (j:=(⟨s,([]:List (List UInt8)),0⟩:Xt)) Q8 rfl (by dsimp only[Xu];exact⟨by omega,by simp,by simp⟩),fun (q1:Xt) hq_q1=>?_⟩
 have hi_q1:q1.i≤l.length∧List.flatten q1.oJ++q1.s=s∧q1.oJ.length≤q1.i:=hq_q1
 obtain ⟨v1,v2,v3⟩:=hi_q1
 have hsl:=congrArg List.length v2
 rw[List.length_append] at hsl
 refine dsp (fun h1 p1=>?_) fun h1 p1=>?_
 refine⟨(Bo (l:=l) (i:=q1.i) Q2),fun x1 hx1=>?_⟩
 exact⟨hx1,Q2,(H8 _ _),(Ase _ _),Q2,Q2,Q65,Q2,Q2,(Ad Q2 Q2),A6 (j:=(⟨List.drop (Int.toNat (min ((q1.s.length:Nat):Int) (max 0 x1))) q1.s,q1.oJ++[List.take (Int.toNat (min ((q1.s.length:Nat):Int) (max 0 x1))) q1.s],q1.i+1⟩:Xt)) Q8 rfl (by dsimp only[Xu];exact⟨by omega,by rw[List.flatten_append];simp[v2],by simp;omega⟩) (by dsimp only[Xu];omega)⟩
 refine⟨fun h2=>have q2:=Ao h2;have p2:=of_decide_eq_false q2;?_,fun h2=>have q2:=An h2;have p2:=of_decide_eq_true q2;?_⟩
 exact⟨Q65,⟨(by first|(simpa using v2)|(rw[←v2];simp;done)|(simp_all;done)),Q65⟩,rfl,rfl⟩
 exact⟨⟨(by first|(simpa using v2)|(rw[←v2];simp;done)|(simp_all;done)),Q65⟩,rfl,rfl⟩
structure Hg where
 p:Pln
 l:List (List UInt8)
def Qs (code:List Int) (o:Hg):Prop:=Fun Tryz.prog 9 [.c (.seq .u8 code)] [] (.tup [.agg (G0 o.p),vO 0]) [.lst .str o.l]
def Km (code:List Int) (o:Hg):Prop:=((Aim o.p)∧(List.length (List.flatten (o.l:List (List UInt8)))≤200000)∧(List.length (o.l:List (List UInt8))≤100))∧Qs code o
theorem Z1 (code:List Int) (hp1:code.length≤1048576): ∃o:Hg,Km code o:=by
 have hN:Bh=274877906944:=rfl
 refine Cj Tryz.func9 Q4 Q4 (w:=(.intro (Tx code) fun o1=> .sZ [.call [] (.tup [vP 0,.agg (G0 o1.p),vT o1.t]) (Kc o1.c1)] (.intro (R6 o1.c1) fun o2=> .intro (Ae6 o1.t o2.l) fun o3=> .sZ [.tree (fr (.one 3 (.one 4 (.one 5 (.first 6 (.done))))) 0 3) 5 [1],.call [1] (.v (vO 1)) [.cells (Ct o2.c1),.lst .int o2.l],.call [] (.v (vO 0)) [.lst .str o3.o]] (.lJ (⟨o1.p,o3.o⟩:Hg) [4])),In (Tx code) fun o1=>((Zc code o1)∧In (R6 o1.c1) fun o2=>(In (Ae6 o1.t o2.l) fun o3=>((Wu o1.c1 o2)∧(Ama o1.t o2.l o3)∧((Aim o1.p)∧(List.length (List.flatten (o3.o:List (List UInt8)))≤200000)∧(List.length (o3.o:List (List UInt8))≤100))∧Lf (.tup [.agg (G0 o1.p),vO 0]) (.tup [.agg (G0 o1.p),vO 0]) [.lst .str o3.o] [.lst .str o3.o]))))) Q4 ?_
 refine⟨(Ak9 code Q2),fun o1 ho_o1=>?_⟩
 obtain ⟨⟨hp_o1_0,hp_o1_1,hp_o1_2⟩,hf_o1⟩:=ho_o1
 refine⟨hf_o1,(Ah1 o1.c1 Q2),fun o2 ho_o2=>?_⟩
 obtain ⟨⟨hp_o2_0,hp_o2_1⟩,hf_o2⟩:=ho_o2
 refine⟨(Atw o1.t o2.l Q2 Q2),fun o3 ho_o3=>?_⟩
 obtain ⟨⟨hp_o3_0,hp_o3_1⟩,hf_o3⟩:=ho_o3
 exact⟨hf_o2,hf_o3,⟨(by assumption),(by first|(rw[hp_o3_0];omega)|(simp_all;omega)),Q2⟩,rfl,rfl⟩
structure Qk where
 oJ:List Int
 i:Nat
def Qm (l:List (List UInt8)):Fam:=⟨Qk,fun q1=>[(0,.v (.c (.seq .str l))),(3,.v (vO 0)),(4,.v (vI ((q1.i:Nat):Int)))],fun q1=>[.lst .u8 q1.oJ],fun q1=>q1.i≤List.length l∧List.map Bj q1.oJ++List.flatten (List.drop q1.i l)=List.flatten l,fun q1=>List.length l-q1.i⟩
theorem Aox (l:List (List UInt8)) (hp1:l.length≤1000000) (hp2:List.length (List.flatten l)≤1000000):Fun Tryz.prog 12 [.c (.seq .str l)] [] (.v (vT (List.flatten l))) []:=by
 have hN:Bh=274877906944:=rfl
 refine Ar Tryz.func12 Q4 Q4 (w:=let z3:=Qm l;(.sZ [.ty .u8,.at 0,.keep [0,3,4],.sel [0]] (.loop z3 fun q1=> .br (.intro (Sx (l[q1.i]?)) fun x1=> .sZ [.el .str x1,.ty .u8,.as 11 (.v (vI (((q1.i:Nat):Int)+1))),.at 0,.keep [0,3,4],.sel [1]] (.next)) (.lJ () [])),z3.Has [(0,.v (.c (.seq .str l))),(3,.v (vO 0)),(4,.v (vI 0))] [.lst .u8 ([]:List Int)]∧∀q1,z3.inv q1→(let z2:=((q1.i:Nat):Int);Bc (decide (z2<((l.length:Nat):Int))) (El (l[q1.i]?) fun x1=>(let z1:=List.map (fun b=>(UInt8.toNat b:Int)) x1;(l[q1.i]? =some x1)∧((0:Int)≤z2)∧(q1.oJ.length+z1.length≤Bh)∧(wI (z2+1))∧z3.Nxt q1 [(0,.v (.c (.seq .str l))),(3,.v (vO 0)),(4,.v (vI (z2+1)))] [.lst .u8 (q1.oJ++z1)])) (Lf (.v (vT (List.map Bj q1.oJ))) (.v (vT (List.flatten l))) [] [])))) Q4 ?_
 refine⟨Bp (j:=(⟨([]:List Int),0⟩:Qk)) Q8 rfl (by dsimp only[Qm];exact⟨by omega,rfl⟩),fun (q1:Qk) hq_q1=>?_⟩
 have hi_q1:q1.i≤l.length∧List.map Bj q1.oJ++List.flatten (List.drop q1.i l)=List.flatten l:=hq_q1
 obtain ⟨v1,v2⟩:=hi_q1
 have hol:=congrArg List.length v2
 rw[List.length_append,List.length_map] at hol
 refine dsp (fun h1 p1=>?_) fun h1 p1=>?_
 refine⟨(Bo (l:=l) (i:=q1.i) Q2),fun x1 hx1=>?_⟩
 rw[C3 hx1,List.flatten_cons] at v2 hol
 rw[List.length_append] at hol
 exact⟨hx1,Q2,Q17,(Ad Q2 Q2),A6 (j:=(⟨q1.oJ++(List.map (fun b=>(UInt8.toNat b:Int)) x1),q1.i+1⟩:Qk)) Q8 rfl (by dsimp only[Qm];exact⟨by omega,by rw[List.map_append,F1,List.append_assoc];exact v2⟩) (by dsimp only[Qm];omega)⟩
 rw[List.drop_eq_nil_of_le (by omega),List.flatten_nil,List.append_nil] at v2
 exact⟨(congrArg S.v (congrArg V.c (congrArg C.str W71))),rfl⟩
structure Mr where
 pJ:Pln
 s:List UInt8
 aJ:Int
 oJ:List Ev
 fail:Ev
 deriving Inhabited
def Dg (r:Mr) (c a:Int):Mr:=⟨r.pJ,r.s,r.aJ,r.oJ,As c a⟩
def Gy (r:Mr) (a:Int):Mr:=⟨r.pJ,r.s,a,r.oJ,r.fail⟩
def Am (r:Mr) (e:Ev):Mr:=⟨r.pJ,r.s,r.aJ,r.oJ++[e],r.fail⟩
def B6 (r:Mr) (eJ:Int):Bool:=decide ((Ai r.s r.aJ eJ).2.2=0)
def Bd (r:Mr) (eJ:Int):Int:=if B6 r eJ then (Ai r.s r.aJ eJ).1 else 0
def A5 (r:Mr) (eJ:Int):Mr:=if B6 r eJ then Gy r (Ai r.s r.aJ eJ).2.1 else Dg r (Ai r.s r.aJ eJ).2.2 (Ai r.s r.aJ eJ).2.1
def Jz (r:Mr) (w eJ:Int):Bool:=decide (w≤eJ-r.aJ)&&Em r.s r.aJ w
def M7 (r:Mr) (w eJ:Int):Int:=if Jz r w eJ then Ng r.s r.aJ w else 0
def Jk (r:Mr) (w eJ:Int):Mr:=if eJ-r.aJ<w then Dg r 9 r.aJ else if Em r.s r.aJ w then Gy r (r.aJ+w) else Dg r 10 (r.s.length:Int)
def F6 (r:Mr) (wJ eJ:Int):Bool:=if 0<Aq wJ then Jz r (Aq wJ) eJ else B6 r eJ
def Hv (r:Mr) (wJ eJ:Int):Int:=if 0<Aq wJ then M7 r (Aq wJ) eJ else Bd r eJ
def F2 (r:Mr) (wJ eJ:Int):Mr:=if 0<Aq wJ then Jk r (Aq wJ) eJ else A5 r eJ
def Bx (r:Mr) (f:Fld) (wJ eJ:Int):Mr:=if F6 r wJ eJ=true∧0<f.nJ then Am (F2 r wJ eJ) (Er f (Hv r wJ eJ)) else F2 r wJ eJ
def F7 {α:Type} (go:α→Bool) (step:α→α):Nat→α→α
 |0,a=>a
 |k+1,a=>if go a then F7 go step k (step a) else a
theorem Dy {α:Type} {go:α→Bool} {step:α→α} {k:Nat} {a:α} (h:go a=false):F7 go step k a=a:=by
 cases k with
 |zero=>rfl
 |succ k=>simp[F7,h]
theorem Ah2 {α:Type} {go:α→Bool} {step:α→α} (inv:α→Prop) (μ:α→Nat) (dec: ∀a,inv a→go a=true→inv (step a)∧μ (step a)<μ a): ∀(n:Nat) (a:α) (k l:Nat),μ a≤n→inv a→μ a≤k→μ a≤l→F7 go step k a=F7 go step l a:=by
 intro n
 induction n with
 |zero=>
  intro a k l h hi _ _
  cases hg:go a with
  |false=>rw[Dy hg,Dy hg]
  |true=>have:=(dec a hi hg).2;omega
 |succ n ih=>
  intro a k l h hi hk hl
  cases hg:go a with
  |false=>rw[Dy hg,Dy hg]
  |true=>
   obtain ⟨h1,h2⟩:=dec a hi hg
   obtain ⟨k,rfl⟩: ∃j,k=j+1:=⟨k-1,by omega⟩
   obtain ⟨l,rfl⟩: ∃j,l=j+1:=⟨l-1,by omega⟩
   simp only[F7,hg,if_true]
   exact ih _ _ _ Q2 h1 Q2 Q2
theorem Ab7 {α:Type} {go:α→Bool} {step:α→α} (inv:α→Prop) (μ:α→Nat) (dec: ∀a,inv a→go a=true→inv (step a)∧μ (step a)<μ a) {a:α} (hi:inv a) (hg:go a=true):F7 go step (μ a) a=F7 go step (μ (step a)) (step a):=by
 obtain ⟨h1,h2⟩:=dec a hi hg
 obtain ⟨k,hk⟩: ∃j,μ a=j+1:=⟨μ a-1,by omega⟩
 rw[hk]
 simp only[F7,hg,if_true]
 exact Ah2 inv μ dec _ _ _ _ (Nat.le_refl _) h1 Q2 (Nat.le_refl _)
def Na (eJ:Int) (r:Mr):Bool:=decide (r.aJ<eJ)&&decide (r.fail.kind=0)
def Nz (r:Mr):Nat:=if r.fail.kind=0 then (1+(r.s.length:Int)-r.aJ).toNat else 0
def L9 (r:Mr) (f:Fld) (eJ:Int):Mr:=F7 (Na eJ) (fun r=>Bx r f (Be f.kind) eJ) (Nz r) r
def A9 (f:Fld) (n:Int):Ev:=⟨3,f.nJ,0,n,[],0,0⟩
def Ei (t:List UInt8):Ev:=⟨4,0,0,0,t,0,0⟩
def L3:Ev:=⟨5,0,0,0,[],0,0⟩
def F3 (f:Fld) (n:Int):Ev:=⟨6,f.nJ,0,n,[],0,0⟩
def Asv:Ev:=⟨7,0,0,0,[],0,0⟩
def A2 (r:Mr) (n:Int):List UInt8:=(r.s.drop r.aJ.toNat).take n.toNat
def N0 (r:Mr) (f:Fld) (n:Int):Int:=if f.kind=6 then Gc utf0 (A2 r n) else-1
def Adr (r:Mr) (f:Fld) (n:Int):Utf:=if f.kind=6 then Vf utf0 (A2 r n) else utf0
def Kn (r:Mr) (f:Fld) (n:Int):List UInt8:=if 0≤N0 r f n then (A2 r n).take (N0 r f n).toNat else A2 r n
def Ed (r:Mr) (f:Fld) (n:Int):Mr:=if Kn r f n=[] then Am r (A9 f n) else Am (Am r (A9 f n)) (Ei (Kn r f n))
def Cx (r:Mr) (f:Fld) (n:Int):Mr:=
 if 0≤N0 r f n then Dg (Ed r f n) 5 (r.aJ+N0 r f n)
 else if ((A2 r n).length:Int)<n then Dg (Ed r f n) 10 (r.s.length:Int)
 else if (Adr r f n).wK≠0 then Dg (Ed r f n) 5 (r.aJ+n)
 else Am (Gy (Ed r f n) (r.aJ+n)) L3
def B7 (sub:Mr→Fld→Int→Int→Mr) (r:Mr) (f:Fld) (known:Bool) (eJ:Int):Mr:=
 if B6 r eJ=false then A5 r eJ
 else if eJ-(A5 r eJ).aJ<Bd r eJ then Dg (A5 r eJ) 8 r.aJ
 else if known=false then (if (r.s.length:Int)-(A5 r eJ).aJ<Bd r eJ then Dg (A5 r eJ) 10 (r.s.length:Int) else Gy (A5 r eJ) ((A5 r eJ).aJ+Bd r eJ))
 else if f.kind=8 then sub (A5 r eJ) f (Bd r eJ) r.aJ
 else if C1 f.kind=true then L9 (A5 r eJ) f ((A5 r eJ).aJ+Bd r eJ)
 else Cx (A5 r eJ) f (Bd r eJ)
def Ej (sub:Mr→Fld→Int→Int→Mr) (shape eJ:Int) (r:Mr):Mr:=
 if B6 r eJ=false then A5 r eJ
 else if Nf (Bd r eJ)=false then Dg (A5 r eJ) 2 r.aJ
 else if C4 (Ag (Bd r eJ))=false then Dg (A5 r eJ) 3 r.aJ
 else if (fieldAt r.pJ.sQ shape (A8 (Bd r eJ))).isSome=true∧Dk ((fieldAt r.pJ.sQ shape (A8 (Bd r eJ))).getD fld0) (Ag (Bd r eJ))=false then Dg (A5 r eJ) 4 r.aJ
 else if Ag (Bd r eJ)=2 then B7 sub (A5 r eJ) ((fieldAt r.pJ.sQ shape (A8 (Bd r eJ))).getD fld0) (fieldAt r.pJ.sQ shape (A8 (Bd r eJ))).isSome eJ
 else Bx (A5 r eJ) ((fieldAt r.pJ.sQ shape (A8 (Bd r eJ))).getD fld0) (Ag (Bd r eJ)) eJ
def J0:Nat→Int→Int→Mr→Mr
 |0,shape,eJ,r=>F7 (Na eJ) (Ej (fun r _ _ sX=>Dg r 6 sX) shape eJ) (Nz r) r
 |D+1,shape,eJ,r=>F7 (Na eJ) (Ej (fun r f n _=>if (J0 D f.mK (r.aJ+n) (Am r (F3 f n))).fail.kind=0 then Am (J0 D f.mK (r.aJ+n) (Am r (F3 f n))) Asv else J0 D f.mK (r.aJ+n) (Am r (F3 f n))) shape eJ) (Nz r) r
def Kr:Nat→Mr→Fld→Int→Int→Mr
 |0=>fun r _ _ sX=>Dg r 6 sX
 |D+1=>fun r f n _=>if (J0 D f.mK (r.aJ+n) (Am r (F3 f n))).fail.kind=0 then Am (J0 D f.mK (r.aJ+n) (Am r (F3 f n))) Asv else J0 D f.mK (r.aJ+n) (Am r (F3 f n))
theorem Qn (D:Nat) (shape eJ:Int) (r:Mr):J0 D shape eJ r=F7 (Na eJ) (Ej (Kr D) shape eJ) (Nz r) r:=by
 cases D<;>rfl
/-! ### What steps keep -/
theorem Ap9 {s:List UInt8} {a e:Int} : ∀(f k:Nat) (u:Int),(vwA s a e f k u).2.2=0→a+k<(vwA s a e f k u).2.1∧(vwA s a e f k u).2.1≤e∧(vwA s a e f k u).2.1≤(s.length:Int)
 |0,k,u=>by simp[vwA]
 |f+1,k,u=>by
  rw[vwA]
  split
  ·simp
  split
  ·simp
  split
  ·simp
  split
  ·simp;omega
  ·intro h
   have:=Ap9 f (k+1) _ h
   rw[show ((k+1:Nat):Int)=(k:Int)+1 by simp] at this
   omega
theorem Gn {s:List UInt8} {a e:Int} (h:(Ai s a e).2.2=0):0≤a∧a<(Ai s a e).2.1∧(Ai s a e).2.1≤e∧(Ai s a e).2.1≤(s.length:Int):=by
 unfold Ai at h ⊢
 split
 ·rename_i hw
  rw[if_pos hw] at h
  have:=Av hw
  have:=Ap9 10 0 0 h
  rw[show ((0:Nat):Int)=0 from rfl] at this
  omega
 ·rename_i hw
  rw[if_neg hw] at h
  simp at h
structure Adv (r r':Mr):Prop where
 pJ:r'.pJ=r.pJ
 s:r'.s=r.s
 aJ:r'.fail.kind=0→r.aJ≤r'.aJ∧r'.aJ≤(r.s.length:Int)
 fail:r'.fail.kind=0→r'.fail=r.fail
 room:r'.fail.kind=0→(r'.oJ.length:Int)+4*((r.s.length:Int)-r'.aJ)≤(r.oJ.length:Int)+4*((r.s.length:Int)-r.aJ)
 most:(r'.oJ.length:Int)≤(r.oJ.length:Int)+4*((r.s.length:Int)-r.aJ)
def Adv1 (r r':Mr):Prop:=Adv r r'∧(r'.fail.kind=0→r.aJ<r'.aJ)
theorem Adv.trans {a b c:Mr} (h:Adv a b) (hb:b.fail.kind=0) (g:Adv b c):Adv a c:=by
 obtain ⟨h1,h2⟩:=h.aJ hb
 have hr:=h.room hb
 have gm:=g.most
 rw[h.s] at gm
 refine⟨g.pJ.trans h.pJ,g.s.trans h.s,fun hc=>?_,fun hc=>(g.fail hc).trans (h.fail hb),fun hc=>?_,by omega⟩
 ·have:=g.aJ hc
  rw[h.s] at this
  omega
 ·have:=g.room hc
  rw[h.s] at this
  omega
theorem Adv.refl (r:Mr) (h:r.aJ≤(r.s.length:Int)):Adv r r:=⟨rfl,rfl,fun _=>⟨Int.le_refl _,h⟩,fun _=>rfl,fun _=>Int.le_refl _,by omega⟩
theorem Adv1.trans {a b c:Mr} (h:Adv1 a b) (hb:b.fail.kind=0) (g:Adv b c):Adv1 a c:=
 ⟨h.1.trans hb g,fun hc=>by
  have h1:=h.2 hb
  have:=g.aJ hc
  omega⟩
theorem Adv.failed {r r':Mr} (hp:r'.pJ=r.pJ) (hs:r'.s=r.s) (hk:r'.fail.kind≠0) (ho:(r'.oJ.length:Int)≤(r.oJ.length:Int)+4*((r.s.length:Int)-r.aJ)):Adv r r':=
 ⟨hp,hs,fun h=>(hk h).elim,fun h=>(hk h).elim,fun h=>(hk h).elim,ho⟩
theorem Adv1.failed {r r':Mr} (hp:r'.pJ=r.pJ) (hs:r'.s=r.s) (hk:r'.fail.kind≠0) (ho:(r'.oJ.length:Int)≤(r.oJ.length:Int)+4*((r.s.length:Int)-r.aJ)):Adv1 r r':=
 ⟨Adv.failed hp hs hk ho,fun h=>(hk h).elim⟩
theorem Cp (r:Mr) (c a:Int):(Dg r c a).fail.kind≠0:=by simp[Dg,As]
theorem Vv {r:Mr} {c a:Int} (h:r.aJ≤(r.s.length:Int)):Adv1 r (Dg r c a):=Adv1.failed rfl rfl (Cp r c a) (by simp only[Dg];omega)
theorem St {r:Mr} {e:Int} (h:B6 r e=true):A5 r e=Gy r (Ai r.s r.aJ e).2.1:=by unfold A5;rw[if_pos h]
theorem L4 {r:Mr} {e:Int} (h:B6 r e=false):A5 r e=Dg r (Ai r.s r.aJ e).2.2 (Ai r.s r.aJ e).2.1:=by unfold A5;rw[if_neg (by simp[h])]
theorem Agk {r:Mr} {a:Int} (h1:r.aJ<a) (h2:a≤(r.s.length:Int)):Adv1 r (Gy r a):=
 ⟨⟨rfl,rfl,fun _=>⟨by simp only[Gy];omega,h2⟩,fun _=>rfl,fun _=>by simp only[Gy];omega,by simp only[Gy];omega⟩,fun _=>h1⟩
theorem F4 {r:Mr} {e:Int} (h1:r.aJ≤(r.s.length:Int)):Adv1 r (A5 r e)∧(B6 r e=true→0≤r.aJ∧(A5 r e).aJ≤e)∧(A5 r e).oJ=r.oJ:=by
 cases hok:B6 r e with
 |true=>
  rw[St hok]
  have hc:(Ai r.s r.aJ e).2.2=0:=by simpa [B6] using hok
  have hv:=Gn hc
  exact⟨Agk hv.2.1 hv.2.2.2,fun _=>⟨hv.1,hv.2.2.1⟩,rfl⟩
 |false=>
  rw[L4 hok]
  exact⟨Vv h1,fun h=>by simp at h,rfl⟩
theorem E5 {r:Mr} {e:Int} (h0:r.fail.kind=0):B6 r e=decide ((A5 r e).fail.kind=0):=by
 cases hok:B6 r e with
 |true=>rw[St hok];simp[Gy,h0]
 |false=>rw[L4 hok];rfl
theorem N1 {s:List UInt8} {a w:Int} (h:Em s a w=true):(w=4∨w=8)∧0≤a∧a+w≤(s.length:Int):=by
 simp only[Em,Bool.and_eq_true] at h
 have:=Av h.2
 exact⟨Ajs h.1,by omega,by omega⟩
theorem Ads {r:Mr} {w e:Int} (h1:r.aJ≤(r.s.length:Int)):Adv1 r (Jk r w e)∧(Jk r w e).oJ=r.oJ:=by
 unfold Jk
 split
 ·exact⟨Vv h1,rfl⟩
 ·split
  ·rename_i h2 h3
   have:=N1 h3
   exact⟨Agk Q2 Q2,rfl⟩
  ·exact⟨Vv h1,rfl⟩
theorem Adt {r:Mr} {w e:Int} (h1:r.aJ≤(r.s.length:Int)):Adv1 r (F2 r w e)∧(F2 r w e).oJ=r.oJ:=by
 unfold F2;split
 ·exact Ads h1
 ·exact⟨(F4 h1).1,(F4 h1).2.2⟩
theorem Fr {r:Mr} {w e:Int} (h0:r.fail.kind=0):F6 r w e=decide ((F2 r w e).fail.kind=0):=by
 unfold F6 F2;split
 ·unfold Jk Jz
  split
  ·rename_i h;rw[decide_eq_false (by omega)];rfl
  ·rename_i h;rw[decide_eq_true (by omega)]
   split<;>rename_i h2
   ·simp[h2,Gy,h0]
   ·simp[h2,Dg,As]
 ·exact E5 h0
theorem Aoy {r r':Mr} {e:Ev} (h:Adv1 r r') (ho:r'.oJ=r.oJ) (hk:r'.fail.kind=0):Adv1 r (Am r' e):=by
 have ha:=h.1.aJ hk
 have hb:=h.2 hk
 refine⟨⟨h.1.pJ,h.1.s,h.1.aJ,h.1.fail,fun _=>?_,?_⟩,h.2⟩
 ·simp only[Am,List.length_append,List.length_cons,List.length_nil,ho];omega
 ·simp only[Am,List.length_append,List.length_cons,List.length_nil,ho];omega
theorem L5 {r:Mr} {f:Fld} {w e:Int} (h1:r.aJ≤(r.s.length:Int)) (h0:r.fail.kind=0):Adv1 r (Bx r f w e):=by
 have hv:=Adt (w:=w) (e:=e) h1
 unfold Bx
 split
 ·rename_i hh
  have:=hh.1
  rw[Fr h0] at this
  exact Aoy hv.1 hv.2 (by simpa using this)
 ·exact hv.1
theorem Ze {go:Mr→Bool} {step:Mr→Mr} (hgo: ∀r,go r=true→r.fail.kind=0) (hstep: ∀r,r.aJ≤(r.s.length:Int)→r.fail.kind=0→Adv1 r (step r)): ∀(k:Nat) (r:Mr),r.aJ≤(r.s.length:Int)→Adv r (F7 go step k r)
 |0,r,h=>Adv.refl r h
 |k+1,r,h=>by
  unfold F7
  cases hg:go r with
  |false=>exact Adv.refl r h
  |true=>
   have hk:=hgo r hg
   have hs:=hstep r h hk
   simp only[if_true]
   by_cases hk':(step r).fail.kind=0
   ·have:=hs.1.aJ hk'
    exact hs.1.trans hk' (Ze hgo hstep k (step r) (by rw[hs.1.s];exact this.2))
   ·have:F7 go step k (step r)=step r:=Dy (by cases hg':go (step r) with
     |false=>rfl
     |true=>exact(hk' (hgo _ hg')).elim)
    rw[this];exact hs.1
theorem L6 {e:Int} {r:Mr} (h:Na e r=true):r.fail.kind=0:=by simp[Na] at h;exact h.2
theorem Uv {r r':Mr} (h1:r.aJ≤(r.s.length:Int)) (h0:r.fail.kind=0) (h:Adv1 r r'):Nz r'<Nz r:=by
 unfold Nz
 rw[if_pos h0]
 split
 ·rename_i hk
  have:=h.2 hk
  have:=h.1.aJ hk
  rw[h.1.s];omega
 ·omega
theorem Amb {r:Mr} {f:Fld} {e:Int} (h1:r.aJ≤(r.s.length:Int)):Adv r (L9 r f e):=
 Ze (fun r h=>L6 h) (fun r h h0=>L5 h h0) _ r h1
theorem Agm {r:Mr} {f:Fld} {e:Int} (h1:r.aJ≤(r.s.length:Int)) (hg:Na e r=true):L9 r f e=L9 (Bx r f (Be f.kind) e) f e:=by
 unfold L9
 refine Ab7 (fun r=>r.aJ≤(r.s.length:Int)∨r.fail.kind≠0) Nz (fun a hi hg=>?_) (.inl h1) hg
 have hk:=L6 hg
 have ha:=hi.resolve_right (fun h=>h hk)
 have:=L5 (f:=f) (w:=Be f.kind) (e:=e) ha hk
 refine⟨?_,Uv ha hk this⟩
 by_cases hk':(Bx a f (Be f.kind) e).fail.kind=0
 ·left;rw[this.1.s];exact(this.1.aJ hk').2
 ·exact .inr hk'
theorem Vw {r:Mr} {f:Fld} {e:Int} (hg:Na e r=false):L9 r f e=r:=Dy hg
theorem Ah3 {r:Mr} {f:Fld} {w e:Int} (h:F6 r w e=true) (hf:0<f.nJ):Bx r f w e=Am (F2 r w e) (Er f (Hv r w e)):=by unfold Bx;rw[if_pos ⟨h,hf⟩]
theorem Ae7 {r:Mr} {f:Fld} {w e:Int} (h:F6 r w e=false):Bx r f w e=F2 r w e:=by unfold Bx;rw[if_neg (by simp[h])]
structure RunInv (r0:Mr) (f:Fld) (e:Int) (q:Mr):Prop where
 aJ:q.aJ≤(q.s.length:Int)
 fail:q.fail.kind=0
 adv:Adv r0 q
 run:L9 q f e=L9 r0 f e
theorem RunInv.refl {r:Mr} {f:Fld} {e:Int} (h1:r.aJ≤(r.s.length:Int)) (h0:r.fail.kind=0):RunInv r f e r:=⟨h1,h0,Adv.refl r h1,rfl⟩
theorem RunInv.next {r q:Mr} {f:Fld} {e:Int} (h:RunInv r f e q) (hg:q.aJ<e) (hok:F6 q (Be f.kind) e=true) (hf:0<f.nJ):RunInv r f e (Am (F2 q (Be f.kind) e) (Er f (Hv q (Be f.kind) e))):=by
 have hgo:Na e q=true:=by simp[Na,hg,h.fail]
 have hs:=L5 (f:=f) (w:=Be f.kind) (e:=e) h.aJ h.fail
 have hr:=Agm (f:=f) h.aJ hgo
 rw[Ah3 hok hf] at hs hr
 have hk:(Am (F2 q (Be f.kind) e) (Er f (Hv q (Be f.kind) e))).fail.kind=0:=by
  rw[Fr h.fail] at hok;simpa [Am] using hok
 exact⟨by rw[hs.1.s];exact(hs.1.aJ hk).2,hk,h.adv.trans h.fail hs.1,hr.symm.trans h.run⟩
theorem RunInv.bad {r q:Mr} {f:Fld} {e:Int} (h:RunInv r f e q) (hg:q.aJ<e) (hok:F6 q (Be f.kind) e=false):L9 r f e=F2 q (Be f.kind) e:=by
 have hgo:Na e q=true:=by simp[Na,hg,h.fail]
 have hr:=Agm (f:=f) h.aJ hgo
 rw[Ae7 hok] at hr
 rw[←h.run,hr]
 refine Vw ?_
 rw[Fr h.fail] at hok
 have:(F2 q (Be f.kind) e).fail.kind≠0:=by simpa using hok
 simp[Na,this]
theorem RunInv.eJ {r q:Mr} {f:Fld} {e:Int} (h:RunInv r f e q) (hg: ¬q.aJ<e):L9 r f e=q:=by
 rw[←h.run];exact Vw (by simp[Na];omega)
theorem RunInv.room {r q:Mr} {f:Fld} {e:Int} (h:RunInv r f e q):q.s=r.s∧q.pJ=r.pJ∧r.aJ≤q.aJ∧(q.oJ.length:Int)+4*((r.s.length:Int)-q.aJ)≤(r.oJ.length:Int)+4*((r.s.length:Int)-r.aJ):=
 ⟨h.adv.s,h.adv.pJ,(h.adv.aJ h.fail).1,h.adv.room h.fail⟩
theorem Aoz (r:Mr) (w e:Int):0≤M7 r w e∧M7 r w e≤18446744073709551615:=by
 unfold M7
 split
 ·rename_i h;simp only[Jz,Bool.and_eq_true] at h
  have hw:=N1 h.2
  unfold Ng;rw[if_pos h.2]
  have:=Se (l:=List.take w.toNat (List.drop r.aJ.toNat r.s)) (k:=8) (by rw[List.length_take];omega)
  have e8:(2:Nat) ^ (8*8)=18446744073709551616:=by decide
  omega
 ·omega
theorem Ao0 (r:Mr) (w e:Int):0≤Hv r w e∧Hv r w e≤18446744073709551615:=by
 unfold Hv M7 Bd
 split
 ·split
  ·rename_i h;simp only[Jz,Bool.and_eq_true] at h
   have hw:=N1 h.2
   unfold Ng;rw[if_pos h.2]
   have:=Se (l:=List.take (Aq w).toNat (List.drop r.aJ.toNat r.s)) (k:=8) (by rw[List.length_take];omega)
   have e8:(2:Nat) ^ (8*8)=18446744073709551616:=by decide
   omega
  ·omega
 ·split
  ·exact Lm _ _ _
  ·omega
theorem Qo (r:Mr) (e:Int):0≤Bd r e∧Bd r e≤18446744073709551615:=by
 unfold Bd;split
 ·exact Lm _ _ _
 ·omega
theorem Agn {b:Bool} (h:b=false):(!b)=true:=by rw[h];rfl
theorem Xv {b:Bool} (h:b=true):(!b)=false:=by rw[h];rfl
theorem Amc {s:List UInt8} {a n e:Int} (ha:0≤a) (hn:0≤n) (hl:a≤(s.length:Int)) (he:e=a+n∧a+n≤(s.length:Int)∨e=(s.length:Int)∧(s.length:Int)≤a+n):List.drop a.toNat (List.take e.toNat s)=(s.drop a.toNat).take n.toNat:=by
 rw[List.drop_take]
 rcases he with ⟨he,_⟩|⟨he,hm⟩
 ·rw[he,show (a+n).toNat-a.toNat=n.toNat by omega]
 ·rw[List.take_of_length_le (by rw[List.length_drop];omega),List.take_of_length_le (by rw[List.length_drop];omega)]
theorem Vx: ∀ {u:Utf} {s:List UInt8} {i j:Nat},(E2 u s i).2=some j→i≤j∧j<i+s.length
 |u,[],i,j,h=>by simp[E2] at h
 |u,b::r,i,j,h=>by
  unfold E2 at h
  split at h
  ·have:=Vx h;simp only[List.length_cons];omega
  ·simp at h;simp only[List.length_cons];omega
theorem Ao1 (u:Utf) (s:List UInt8): -1≤Gc u s∧(0≤Gc u s→Gc u s<(s.length:Int)):=by
 unfold Gc
 split
 ·rename_i h;have:=Vx h;omega
 ·omega
theorem R7 {r:Mr} {n:Int} (hn:0≤n) (ha:0≤r.aJ) (hl:r.aJ≤(r.s.length:Int)):((A2 r n).length:Int)≤n∧((A2 r n).length:Int)≤(r.s.length:Int)-r.aJ∧(((A2 r n).length:Int)<n→((A2 r n).length:Int)=(r.s.length:Int)-r.aJ):=by
 unfold A2;rw[List.length_take,List.length_drop];omega
/-! ### Texts, messages -/
structure AdvB (b:Int) (r r':Mr):Prop where
 pJ:r'.pJ=r.pJ
 s:r'.s=r.s
 aJ:r'.fail.kind=0→r.aJ≤r'.aJ∧r'.aJ≤(r.s.length:Int)
 fail:r'.fail.kind=0→r'.fail=r.fail
 room:r'.fail.kind=0→(r'.oJ.length:Int)+4*((r.s.length:Int)-r'.aJ)≤(r.oJ.length:Int)+b+4*((r.s.length:Int)-r.aJ)
 most:(r'.oJ.length:Int)≤(r.oJ.length:Int)+b+4*((r.s.length:Int)-r.aJ)
theorem Adv.b {r r':Mr} (h:Adv r r'):AdvB 0 r r':=⟨h.pJ,h.s,h.aJ,h.fail,fun hk=>by have:=h.room hk;omega,by have:=h.most;omega⟩
theorem AdvB.tell {b:Int} {r r':Mr} (h:AdvB b r r') (e:Ev):AdvB (b+1) r (Am r' e):=
 ⟨h.pJ,h.s,h.aJ,h.fail,fun hk=>by have:=h.room hk;simp only[Am,List.length_append,List.length_cons,List.length_nil];omega,by have:=h.most;simp only[Am,List.length_append,List.length_cons,List.length_nil];omega⟩
theorem AdvB.failed {b:Int} {r r':Mr} (h:AdvB b r r') (c a:Int):AdvB b r (Dg r' c a):=
 ⟨h.pJ,h.s,fun hk=>(Cp _ _ _ hk).elim,fun hk=>(Cp _ _ _ hk).elim,fun hk=>(Cp _ _ _ hk).elim,h.most⟩
theorem AdvB.moved {b:Int} {r r':Mr} (h:AdvB b r r') {a:Int} (h1:r'.fail.kind=0→r'.aJ≤a) (h2:a≤(r.s.length:Int)):AdvB b r (Gy r' a):=
 ⟨h.pJ,h.s,fun hk=>by have:=h.aJ hk;have:=h1 hk;exact⟨by simp only[Gy];omega,h2⟩,h.fail,fun hk=>by have:=h.room hk;have:=h1 hk;simp only[Gy];omega,h.most⟩
theorem AdvB.trans {b c:Int} {x y z:Mr} (h:AdvB b x y) (hb:y.fail.kind=0) (g:AdvB c y z):AdvB (b+c) x z:=by
 obtain ⟨h1,h2⟩:=h.aJ hb
 have hr:=h.room hb
 have gm:=g.most
 rw[h.s] at gm
 refine⟨g.pJ.trans h.pJ,g.s.trans h.s,fun hc=>?_,fun hc=>(g.fail hc).trans (h.fail hb),fun hc=>?_,by omega⟩
 ·have:=g.aJ hc
  rw[h.s] at this
  omega
 ·have:=g.room hc
  rw[h.s] at this
  omega
theorem AdvB.mono {b c:Int} {r r':Mr} (h:AdvB b r r') (hc:b≤c):AdvB c r r':=⟨h.pJ,h.s,h.aJ,h.fail,fun hk=>by have:=h.room hk;omega,by have:=h.most;omega⟩
theorem Adv1.after {b:Int} {r v w:Mr} (h:Adv1 r v) (ho:v.oJ=r.oJ) (hk:v.fail.kind=0) (g:AdvB b v w) (hb:b≤4):Adv1 r w:=by
 have h1:=h.1.aJ hk
 have h2:=h.2 hk
 have gm:=g.most
 rw[h.1.s,ho] at gm
 refine⟨⟨g.pJ.trans h.1.pJ,g.s.trans h.1.s,fun hc=>?_,fun hc=>(g.fail hc).trans (h.1.fail hk),fun hc=>?_,by omega⟩,fun hc=>?_⟩
 ·have:=g.aJ hc
  rw[h.1.s] at this
  omega
 ·have:=g.room hc
  rw[h.1.s,ho] at this
  omega
 ·have:=g.aJ hc
  omega
theorem Ae8 {r:Mr} {f:Fld} {n:Int} (hl:r.aJ≤(r.s.length:Int)):AdvB 2 r (Ed r f n)∧(Ed r f n).aJ=r.aJ∧(Ed r f n).fail=r.fail:=by
 unfold Ed
 split
 ·exact⟨((Adv.refl r hl).b.tell _).mono (by decide),rfl,rfl⟩
 ·exact⟨(((Adv.refl r hl).b.tell _).tell _).mono (by decide),rfl,rfl⟩
theorem Ae9 {r:Mr} {f:Fld} {n:Int} (ha:0≤r.aJ) (hl:r.aJ≤(r.s.length:Int)) (hn:0≤n):AdvB 3 r (Cx r f n):=by
 obtain ⟨h1,h2,h3⟩:=Ae8 (f:=f) (n:=n) hl
 have ht:=R7 hn ha hl
 unfold Cx
 split
 ·exact(h1.failed _ _).mono (by decide)
 split
 ·exact(h1.failed _ _).mono (by decide)
 split
 ·exact(h1.failed _ _).mono (by decide)
 ·exact((h1.moved (fun _=>by omega) (by omega)).tell _).mono (by decide)
def Ago (sub:Mr→Fld→Int→Int→Mr):Prop:= ∀(v:Mr) (f:Fld) (n s:Int),v.aJ≤(v.s.length:Int)→v.fail.kind=0→AdvB 2 v (sub v f n s)
theorem Adu {sub:Mr→Fld→Int→Int→Mr} (hsub:Ago sub) {r:Mr} {f:Fld} {known:Bool} {e:Int} (hl:r.aJ≤(r.s.length:Int)) (h0:r.fail.kind=0):Adv1 r (B7 sub r f known e):=by
 obtain ⟨hv,hv2,hv3⟩:=F4 (e:=e) hl
 have hu:=Qo r e
 unfold B7
 split
 ·exact hv
 ·rename_i hok
  have hok:B6 r e=true:=by simpa using hok
  have hk:(A5 r e).fail.kind=0:=by rw[E5 h0] at hok;simpa using hok
  have ha:=hv.1.aJ hk
  have hs:=congrArg List.length hv.1.s
  have h2:=hv2 hok
  have hl':(A5 r e).aJ≤((A5 r e).s.length:Int):=by omega
  have hr:=(Adv.refl (A5 r e) hl').b
  split
  ·exact hv.after hv3 hk (hr.failed _ _) (by decide)
  split
  ·split
   ·exact hv.after hv3 hk (hr.failed _ _) (by decide)
   ·exact hv.after hv3 hk (hr.moved (fun _=>by omega) (by omega)) (by decide)
  split
  ·exact hv.after hv3 hk (hsub _ _ _ _ hl' hk) (by decide)
  split
  ·exact hv.after hv3 hk (Amb hl').b (by decide)
  ·exact hv.after hv3 hk (Ae9 (by omega) hl' hu.1) (by decide)
theorem Zf {sub:Mr→Fld→Int→Int→Mr} (hsub:Ago sub) {shape e:Int} {r:Mr} (hl:r.aJ≤(r.s.length:Int)) (h0:r.fail.kind=0):Adv1 r (Ej sub shape e r):=by
 obtain ⟨hv,hv2,hv3⟩:=F4 (e:=e) hl
 unfold Ej
 split
 ·exact hv
 ·rename_i hok
  have hok:B6 r e=true:=by simpa using hok
  have hk:(A5 r e).fail.kind=0:=by rw[E5 h0] at hok;simpa using hok
  have ha:=hv.1.aJ hk
  have hs:=congrArg List.length hv.1.s
  have hl':(A5 r e).aJ≤((A5 r e).s.length:Int):=by omega
  have hr:=(Adv.refl (A5 r e) hl').b
  split
  ·exact hv.after hv3 hk (hr.failed _ _) (by decide)
  split
  ·exact hv.after hv3 hk (hr.failed _ _) (by decide)
  split
  ·exact hv.after hv3 hk (hr.failed _ _) (by decide)
  split
  ·exact hv.after hv3 hk (Adu hsub hl' hk).1.b (by decide)
  ·exact hv.after hv3 hk (L5 hl' hk).1.b (by decide)
theorem Adw {D:Nat} (hs:Ago (Kr D)) {shape e:Int} {r:Mr} (hl:r.aJ≤(r.s.length:Int)):Adv r (J0 D shape e r):=by
 rw[Qn]
 exact Ze (fun r h=>L6 h) (fun r h h0=>Zf hs h h0) _ r hl
theorem Ab8: ∀D,Ago (Kr D)
 |0=>fun v f n s hl h0=>((Adv.refl v hl).b.failed _ _).mono (by decide)
 |D+1=>fun v f n s hl h0=>by
  have ht:AdvB 1 v (Am v (F3 f n)):=(Adv.refl v hl).b.tell _
  have hm:=(Adw (Ab8 D) (shape:=f.mK) (e:=v.aJ+n) (r:=Am v (F3 f n)) hl).b
  have hb:=ht.trans h0 hm
  simp only[Kr]
  split
  ·exact(hb.tell _).mono (by decide)
  ·exact hb.mono (by decide)
theorem Ab9 {D:Nat} {shape e:Int} {r:Mr} (hl:r.aJ≤(r.s.length:Int)):Adv r (J0 D shape e r):=Adw (Ab8 D) hl
structure LInv (step:Mr→Mr) (e:Int) (r0 q:Mr):Prop where
 adv:Adv r0 q
 run:F7 (Na e) step (Nz q) q=F7 (Na e) step (Nz r0) r0
def Vy (step:Mr→Mr):Prop:= ∀r:Mr,r.aJ≤(r.s.length:Int)→r.fail.kind=0→Adv1 r (step r)
theorem LInv.refl {step:Mr→Mr} {e:Int} {r:Mr} (h1:r.aJ≤(r.s.length:Int)):LInv step e r r:=⟨Adv.refl r h1,rfl⟩
theorem LInv.aJ {step:Mr→Mr} {e:Int} {r q:Mr} (h:LInv step e r q) (hk:q.fail.kind=0):r.aJ≤q.aJ∧q.aJ≤(q.s.length:Int):=by
 have:=h.adv.aJ hk
 rw[h.adv.s];exact this
theorem LInv.room {step:Mr→Mr} {e:Int} {r q:Mr} (h:LInv step e r q) (hk:q.fail.kind=0):q.s.length=r.s.length∧q.pJ=r.pJ∧r.aJ≤q.aJ∧q.aJ≤(r.s.length:Int)∧(q.oJ.length:Int)+4*((r.s.length:Int)-q.aJ)≤(r.oJ.length:Int)+4*((r.s.length:Int)-r.aJ):=
 ⟨by rw[h.adv.s],h.adv.pJ,(h.adv.aJ hk).1,(h.adv.aJ hk).2,h.adv.room hk⟩
theorem LInv.go {step:Mr→Mr} (hs:Vy step) {e:Int} {r q:Mr} (h:LInv step e r q) (hg:q.aJ<e) (hk:q.fail.kind=0):LInv step e r (step q)∧Nz (step q)<Nz q:=by
 have hgo:Na e q=true:=by simp[Na,hg,hk]
 have ha:=h.aJ hk
 have hq:=hs q ha.2 hk
 refine⟨⟨h.adv.trans hk hq.1,?_⟩,Uv ha.2 hk hq⟩
 rw[←h.run]
 refine(Ab7 (fun r=>r.aJ≤(r.s.length:Int)∨r.fail.kind≠0) Nz (fun a hi hg=>?_) (.inl ha.2) hgo).symm
 have hk':=L6 hg
 have hl:a.aJ≤(a.s.length:Int):=hi.resolve_right (fun h=>h hk')
 refine⟨?_,Uv hl hk' (hs a hl hk')⟩
 by_cases hk2:(step a).fail.kind=0
 ·left;rw[(hs a hl hk').1.s];exact((hs a hl hk').1.aJ hk2).2
 ·exact .inr hk2
theorem LInv.stop {step:Mr→Mr} {e:Int} {r q:Mr} (h:LInv step e r q) (hg:Na e q=false):F7 (Na e) step (Nz r) r=q:=by rw[←h.run];exact Dy hg
theorem LInv.eJ {step:Mr→Mr} {e:Int} {r q:Mr} (h:LInv step e r q) (hg: ¬q.aJ<e):F7 (Na e) step (Nz r) r=q:=h.stop (by simp[Na];omega)
theorem LInv.bad {step:Mr→Mr} {e:Int} {r q:Mr} (h:LInv step e r q) (hk:q.fail.kind≠0):F7 (Na e) step (Nz r) r=q:=h.stop (by simp[Na,hk])
theorem N2 (D:Nat) (shape e:Int):Vy (Ej (Kr D) shape e):=fun _ h h0=>Zf (Ab8 D) h h0
theorem M8 (f:Fld) (w e:Int):Vy (fun r=>Bx r f w e):=fun _ h h0=>L5 h h0
theorem LInv.leave {step:Mr→Mr} (hs:Vy step) {e:Int} {r q x:Mr} (h:LInv step e r q) (hg:q.aJ<e) (hk:q.fail.kind=0) (hx:step q=x) (hx2:x.fail.kind≠0):F7 (Na e) step (Nz r) r=x:=by
 subst hx;exact(h.go hs hg hk).1.bad hx2
theorem LInv.next {step:Mr→Mr} (hs:Vy step) {e:Int} {r q x:Mr} (h:LInv step e r q) (hg:q.aJ<e) (hk:q.fail.kind=0) (hx:step q=x):LInv step e r x∧Nz x<Nz q:=by
 subst hx;exact h.go hs hg hk
theorem Ty {l:List Shp} {s n:Int} (hl:Du l=true):((fieldAt l s n).isSome=true→1≤((fieldAt l s n).getD fld0).nJ∧1≤((fieldAt l s n).getD fld0).kind∧((fieldAt l s n).getD fld0).kind≤8)∧((fieldAt l s n).isSome=false→((fieldAt l s n).getD fld0).nJ=0):=by
 cases h:fieldAt l s n with
 |none=>simp[fld0]
 |some f=>
  have:=Abp (Vd hl h).1
  simp;omega
theorem Aa5 {D:Nat} {s e:Int} {v:Mr} {b:Nat} (h:v.aJ≤(v.s.length:Int)) (hb:(v.oJ.length:Int)+4*((v.s.length:Int)-v.aJ)≤(b:Int)):(J0 D s e v).oJ.length≤b:=by
 have:=(Ab9 (D:=D) (shape:=s) (e:=e) h).most;omega
theorem Ah4 {k:Int} (h:1≤k∧k≤5):Be k=0∨Be k=1∨Be k=5:=by
 have hk:En k=true:=by simp only[En,Ak,Bool.and_eq_true,decide_eq_true_eq];omega
 unfold Be
 rw[if_pos hk]
 split
 ·exact .inr (.inr rfl)
 ·split
  ·exact .inr (.inl rfl)
  ·exact .inl (by rw[if_pos (by omega)])
theorem Amd (u:Int):0≤Ag u∧Ag u≤7:=by unfold Ag;split<;>omega
theorem Afa {l:List Shp} {s n:Int} (hl:Du l=true):(fieldAt l s n).isSome=decide (((fieldAt l s n).getD fld0).nJ≠0):=by
 have:=Ty (s:=s) (n:=n) hl
 cases h:(fieldAt l s n).isSome with
 |true=>exact(decide_eq_true (by have:=(this.1 h).1;omega)).symm
 |false=>exact(decide_eq_false (by have:=this.2 h;omega)).symm
def Fn (j6:Nat) (x:Mr):List C:=[.seq .shp x.pJ.sQ,.int .i64 x.pJ.rJ,.int .i64 x.pJ.dJ,.int .i64 x.pJ.most,.str x.s,.int .i64 x.aJ,.own j6,.int .i64 x.fail.kind,.int .i64 x.fail.field,.int .u64 x.fail.bits,.int .i64 x.fail.len,.str x.fail.text,.int .i64 x.fail.code,.int .i64 x.fail.aJ]
theorem Vz (r:Mr) (eJ:Int) (hp1:List.length (r).s≤Bh):Fun Tryz.prog 204 [vP 0,vI eJ] [.cells (Fn 1 r),.lst .ev r.oJ] (.v (.c (.int .u64 (Bd r eJ)))) [.cells (Fn 1 (A5 r eJ)),.lst .ev (A5 r eJ).oJ]:=by
 have hN:Bh=274877906944:=rfl
 refine Ar Tryz.func204 Q4 Q4 (w:=let zi:Int→C:= .int .i64;let z1:=Ai r.s r.aJ eJ;let z2:=As z1.2.2 z1.2.1;let z3:List Blk:=[.cells (Fn 1 (A5 r eJ)),.lst .ev (A5 r eJ).oJ];let z4:S:= .tup [.c (.int .u64 z1.1),vI z1.2.1,vI z1.2.2];let z5:S:= .v (.c (.int .u64 (Bd r eJ)));(.sZ [.ord (os 17 [9]) [],.call [] z4 []] (.br (.sZ [.call [] (.v (.agg (cEv z2))) []] (.lJ () [0,1])) (.lJ () [0,1])),(Fp 93 [vT r.s,vI r.aJ,vI eJ] [] z4 [])∧Bc (!decide (z1.2.2=0)) ((Fp 94 [vI z1.2.2,vI z1.2.1] [] (.v (.agg (cEv z2))) [])∧Lf (.v (.c (.int .u64 0))) z5 [.cells [.seq .shp r.pJ.sQ,zi r.pJ.rJ,zi r.pJ.dJ,zi r.pJ.most,.str r.s,zi r.aJ,.own 1,zi z2.kind,zi z2.field,.int .u64 z2.bits,zi z2.len,.str z2.text,zi z2.code,zi z2.aJ],.lst .ev r.oJ] z3) (Lf (.v (.c (.int .u64 z1.1))) z5 [.cells [.seq .shp r.pJ.sQ,zi r.pJ.rJ,zi r.pJ.dJ,zi r.pJ.most,.str r.s,zi z1.2.1,.own 1,zi r.fail.kind,zi r.fail.field,.int .u64 r.fail.bits,zi r.fail.len,.str r.fail.text,zi r.fail.code,zi r.fail.aJ],.lst .ev r.oJ] z3))) Q4 ?_
 refine⟨(Yp _ _ _ Q2),fun h1=>have q1:=Ao h1;have p1:=of_decide_eq_false q1;?_,fun h1=>have q1:=An h1;have p1:=of_decide_eq_true q1;?_⟩
 exact zE (A5 r eJ) (⟨r.pJ,r.s,r.aJ,r.oJ,(As (Ai r.s r.aJ eJ).2.2 (Ai r.s r.aJ eJ).2.1)⟩:Mr) (fun hm1=>⟨(Dn _ _),(congrArg S.v (congrArg V.c (congrArg (C.int .u64) W72))),Q5⟩) W72
 exact zE (A5 r eJ) (⟨r.pJ,r.s,(Ai r.s r.aJ eJ).2.1,r.oJ,r.fail⟩:Mr) (fun hm1=>⟨(congrArg S.v (congrArg V.c (congrArg (C.int .u64) W72))),Q5⟩) W72
theorem Aq9 (r:Mr) (w:Int) (eJ:Int) (hp1:List.length (r).s≤Bh) (hp2:(0:Int)≤(r).aJ∧(r).aJ≤((List.length (r).s:Nat):Int)) (hp3:(0:Int)≤w∧w≤8) (hp4: -1000000000≤eJ∧eJ≤9223372036854775807):Fun Tryz.prog 226 [vP 0,vI w,vI eJ] [.cells (Fn 1 r),.lst .ev r.oJ] (.v (.c (.int .u64 (M7 r w eJ)))) [.cells (Fn 1 (Jk r w eJ)),.lst .ev (Jk r w eJ).oJ]:=by
 have hN:Bh=274877906944:=rfl
 refine Ar Tryz.func226 Q4 Q4 (w:=let zi:Int→C:= .int .i64;let z1:=As 10 (r.s.length:Int);let z2:List Blk:=[.cells (Fn 1 (Jk r w eJ)),.lst .ev (Jk r w eJ).oJ];let z3:=As 9 r.aJ;let z4:S:= .v (.c (.int .u64 (M7 r w eJ)));let z5:S:= .tup [.c (.int .u64 (Ng r.s r.aJ w)),vB (Em r.s r.aJ w)];(.sZ [.as 14 (.v (vI (eJ-r.aJ)))] (.br (.sZ [.call [] (.v (.agg (cEv z3))) []] (.lJ () [0,1])) (.sZ [.ord (os 15 [9]) [],.call [] z5 []] (.br (.sZ [.call [] (.v (.agg (cEv z1))) []] (.lJ () [0,1])) (.sZ [.as 55 (.v (vI (r.aJ+w)))] (.lJ () [0,1]))))),(wI (eJ-r.aJ))∧Bc (decide (eJ-r.aJ<w)) ((Fp 94 [vI 9,vI r.aJ] [] (.v (.agg (cEv z3))) [])∧Lf (.v (.c (.int .u64 0))) z4 [.cells [.seq .shp r.pJ.sQ,zi r.pJ.rJ,zi r.pJ.dJ,zi r.pJ.most,.str r.s,zi r.aJ,.own 1,zi z3.kind,zi z3.field,.int .u64 z3.bits,zi z3.len,.str z3.text,zi z3.code,zi z3.aJ],.lst .ev r.oJ] z2) ((Fp 231 [vT r.s,vI r.aJ,vI w] [] z5 [])∧Bc (!(Em r.s r.aJ w)) ((Fp 94 [vI 10,vI (r.s.length:Int)] [] (.v (.agg (cEv z1))) [])∧Lf (.v (.c (.int .u64 0))) z4 [.cells [.seq .shp r.pJ.sQ,zi r.pJ.rJ,zi r.pJ.dJ,zi r.pJ.most,.str r.s,zi r.aJ,.own 1,zi z1.kind,zi z1.field,.int .u64 z1.bits,zi z1.len,.str z1.text,zi z1.code,zi z1.aJ],.lst .ev r.oJ] z2) ((wI (r.aJ+w))∧Lf (.v (.c (.int .u64 (Ng r.s r.aJ w)))) z4 [.cells [.seq .shp r.pJ.sQ,zi r.pJ.rJ,zi r.pJ.dJ,zi r.pJ.most,.str r.s,zi (r.aJ+w),.own 1,zi r.fail.kind,zi r.fail.field,.int .u64 r.fail.bits,zi r.fail.len,.str r.fail.text,zi r.fail.code,zi r.fail.aJ],.lst .ev r.oJ] z2)))) Q4 ?_
 refine⟨(Ad Q2 Q2),dsp (fun h1 p1=>?_) fun h1 p1=>?_⟩
 exact zE (Jk r w eJ) (⟨r.pJ,r.s,r.aJ,r.oJ,(As 9 r.aJ)⟩:Mr) (fun hm1=>⟨(Dn _ _),(congrArg S.v (congrArg V.c (congrArg (C.int .u64) W73))),Q5⟩) W73
 refine⟨(Anv _ _ _ Q2),fun h2=>have q2:=Ao h2;?_,fun h2=>have q2:=An h2;?_⟩
 exact zE (Jk r w eJ) (⟨r.pJ,r.s,r.aJ,r.oJ,(As 10 (r.s.length:Int))⟩:Mr) (fun hm1=>⟨(Dn _ _),(congrArg S.v (congrArg V.c (congrArg (C.int .u64) W73))),Q5⟩) W73
 have hfx:=N1 q2
 exact zE (Jk r w eJ) (⟨r.pJ,r.s,r.aJ+w,r.oJ,r.fail⟩:Mr) (fun hm1=>⟨(Ad Q2 Q2),(congrArg S.v (congrArg V.c (congrArg (C.int .u64) W73))),Q5⟩) W73
theorem Qt (r:Mr) (e:Ev) (hp1:List.length (r).oJ≤100000000):Fun Tryz.prog 224 [vP 0,.agg (cEv e)] [.cells (Fn 1 r),.lst .ev r.oJ] (.tup []) [.cells (Fn 2 (Am r e)),.dK,.lst .ev (Am r e).oJ]:=by
 have hN:Bh=274877906944:=rfl
 refine Ar Tryz.func224 Q4 Q4 (w:=(.sZ [.ord (os 11 [6,7,10]) [1],.ty .ev,.ty .ev] (.lJ () [0,1,4]),(r.oJ.length+List.length [e]≤Bh)∧Lf (.tup []) (.tup []) [.cells (Fn 2 r),.dK,.lst .ev (r.oJ++[e])] [.cells (Fn 2 (Am r e)),.dK,.lst .ev (Am r e).oJ])) Q4 ?_
 refine⟨Q6,?_⟩
 have hm1:Am r e=(⟨r.pJ,r.s,r.aJ,r.oJ++[e],r.fail⟩:Mr):=by rfl
 exact⟨rfl,Q5⟩
theorem Ara (r:Mr) (f:Fld) (w:Int) (eJ:Int) (hp1:List.length (r).s≤1048576) (hp2:(r).aJ≤((List.length (r).s:Nat):Int)) (hp3:(r).fail.kind=0) (hp4:((List.length (r).oJ:Nat):Int)+4*(((List.length (r).s:Nat):Int)-(r).aJ)≤100000000) (hp5: -1000000000≤eJ∧eJ≤9223372036854775807) (hp6:(0:Int)≤(r).aJ) (hp7:(w=0∨w=1∨w=5)):Fun Tryz.prog 206 [vP 0,.agg (Fg f),vI w,vI eJ] [.cells (Fn 1 r),.lst .ev r.oJ] (.tup []) [.cells (Fn 2 (Bx r f w eJ)),.dK,.lst .ev (Bx r f w eJ).oJ]:=by
 have hN:Bh=274877906944:=rfl
 have hwb:=Dv w
 have hu1:=Qo r eJ
 have hu2:=Aoz r (Aq w) eJ
 have hl1:=congrArg List.length (F4 (e:=eJ) hp2).2.2
 have hl2:=congrArg List.length (Ads (w:=Aq w) (e:=eJ) hp2).2
 refine Ar Tryz.func206 Q4 Q4 (w:=let z1:List Blk:=[.cells (Fn 2 (Bx r f w eJ)),.dK,.lst .ev (Bx r f w eJ).oJ];let z5:=A5 r eJ;let z9:=Lf (.tup []) (.tup []) [.cells (Fn 2 z5),.dK,.lst .ev z5.oJ] z1;let z11:List Blk:=[.cells (Fn 1 z5),.lst .ev z5.oJ];let z13:=Bd r eJ;let z7:=Er f z13;let z4:List Blk:=[.cells (Fn 2 (Am z5 z7)),.dK,.lst .ev (Am z5 z7).oJ];let z14:=Aq w;let z2:=Jk r z14 eJ;let z8:=M7 r z14 eJ;let z3:=Er f z8;let z6:List Blk:=[.cells (Fn 2 (Am z2 z3)),.dK,.lst .ev (Am z2 z3).oJ];let z10:=Lf (.tup []) (.tup []) [.cells (Fn 2 z2),.dK,.lst .ev z2.oJ] z1;let z12:List Blk:=[.cells (Fn 1 z2),.lst .ev z2.oJ];(.br (.sZ [.call [0,1] (.v (.c (.int .u64 z13))) z11] (.br (.br (.sZ [.call [] (.v (.agg (cEv z7))) [],.call [0,1] (.tup []) z4] (.lJ () [0,1,3])) (.sZ [.at 0,.cut 0 6] (.lJ () [0,1,3]))) (.sZ [.at 0,.cut 0 6] (.lJ () [0,1,3])))) (.sZ [.call [] (.v (vI z14)) [],.call [0,1] (.v (.c (.int .u64 z8))) z12] (.br (.br (.sZ [.call [] (.v (.agg (cEv z3))) [],.call [0,1] (.tup []) z6] (.lJ () [0,1,3])) (.sZ [.at 0,.cut 0 6] (.lJ () [0,1,3]))) (.sZ [.at 0,.cut 0 6] (.lJ () [0,1,3])))),Bc (decide (w=0)) ((Fp 204 [vP 0,vI eJ] [.cells (Fn 1 r),.lst .ev r.oJ] (.v (.c (.int .u64 z13))) z11)∧Bc (decide (z5.fail.kind=0)) (Bc (decide (0<f.nJ)) ((Fp 134 [.agg (Fg f),.c (.int .u64 z13)] [] (.v (.agg (cEv z7))) [])∧(Fp 224 [vP 0,.agg (cEv z7)] z11 (.tup []) z4)∧Lf (.tup []) (.tup []) z4 z1) z9) z9) ((Fp 127 [vI w] [] (.v (vI z14)) [])∧(Fp 226 [vP 0,vI z14,vI eJ] [.cells (Fn 1 r),.lst .ev r.oJ] (.v (.c (.int .u64 z8))) z12)∧Bc (decide (z2.fail.kind=0)) (Bc (decide (0<f.nJ)) ((Fp 134 [.agg (Fg f),.c (.int .u64 z8)] [] (.v (.agg (cEv z3))) [])∧(Fp 224 [vP 0,.agg (cEv z3)] z12 (.tup []) z6)∧Lf (.tup []) (.tup []) z6 z1) z10) z10))) Q4 ?_
 refine dsp (fun h1 p1=>?_) fun h1 p1=>?_
 refine⟨(Vz r _ Q2),dsp (fun h2 p2=>?_) fun h2 p2=>?_⟩
 have hvo:=Fr (r:=r) (w:=w) (e:=eJ) hp3
 have hwv:F2 r w eJ=(A5 r eJ):=by unfold F2;grind[Aq]
 refine dsp (fun h3 p3=>?_) fun h3 p3=>?_
 exact zE (Bx r f w eJ) (Am (A5 r eJ) (Er f (Bd r eJ))) (fun hm1=>⟨(Ni f _ Q2),(Qt (A5 r eJ) (Er f (Bd r eJ)) Q2),rfl,Q5⟩) W74
 exact zE (Bx r f w eJ) (A5 r eJ) (fun hm1=>⟨rfl,Q5⟩) W74
 have hvo:=Fr (r:=r) (w:=w) (e:=eJ) hp3
 have hwv:F2 r w eJ=(A5 r eJ):=by unfold F2;grind[Aq]
 exact zE (Bx r f w eJ) (A5 r eJ) (fun hm1=>⟨rfl,Q5⟩) W74
 refine⟨(D9 _),(Aq9 r _ _ Q2 Q2 Q2 Q2),dsp (fun h2 p2=>?_) fun h2 p2=>?_⟩
 have hvo:=Fr (r:=r) (w:=w) (e:=eJ) hp3
 have hwv:F2 r w eJ=(Jk r (Aq w) eJ):=by unfold F2;grind[Aq]
 refine dsp (fun h3 p3=>?_) fun h3 p3=>?_
 exact zE (Bx r f w eJ) (Am (Jk r (Aq w) eJ) (Er f (M7 r (Aq w) eJ))) (fun hm1=>⟨(Ni f _ Q2),(Qt (Jk r (Aq w) eJ) (Er f (M7 r (Aq w) eJ)) Q2),rfl,Q5⟩) W74
 exact zE (Bx r f w eJ) (Jk r (Aq w) eJ) (fun hm1=>⟨rfl,Q5⟩) W74
 have hvo:=Fr (r:=r) (w:=w) (e:=eJ) hp3
 have hwv:F2 r w eJ=(Jk r (Aq w) eJ):=by unfold F2;grind[Aq]
 exact zE (Bx r f w eJ) (Jk r (Aq w) eJ) (fun hm1=>⟨rfl,Q5⟩) W74
theorem Aqa (r:Mr) (f:Fld) (n:Int) (hp1:List.length (r).s≤1048576) (hp2:(r).aJ≤((List.length (r).s:Nat):Int)) (hp3:(r).fail.kind=0) (hp4:((List.length (r).oJ:Nat):Int)+4*(((List.length (r).s:Nat):Int)-(r).aJ)≤99999996) (hp5:(0:Int)≤(r).aJ) (hp6:(0:Int)≤n∧(r).aJ+n≤9223372036854775807):Fun Tryz.prog 225 [vP 0,.agg (Fg f),vI n] [.cells (Fn 1 r),.lst .ev r.oJ] (.tup []) [.cells (Fn 2 (Cx r f n)),.dK,.lst .ev (Cx r f n).oJ]:=by
 have hN:Bh=274877906944:=rfl
 have htl:=R7 hp6.1 hp5 hp2
 have hub:=Ao1 utf0 (A2 r n)
 have hu0:utf0.wK=0∧utf0.low=0∧utf0.high=0:=⟨rfl,rfl,rfl⟩
 have huw:=Jt (Af1 (u:=utf0) (s:=A2 r n) (by decide))
 have huz:(Vf utf0 (A2 r n)).wK=0→(Vf utf0 (A2 r n)).low=0∧(Vf utf0 (A2 r n)).high=0:=fun h0=>by rw[Ve (Af1 (u:=utf0) (s:=A2 r n) (by decide)) h0];exact⟨rfl,rfl⟩
 refine Ar Tryz.func225 Q4 Q4 (w:=let zi:Int→C:= .int .i64;let z6:List C:=[zi 5,zi 0,.int .u64 0,zi 0,.str [],zi 0,zi 0];let z8:=Am r (A9 f n);let z9:=Am z8 (⟨4,0,0,0,A2 r n,0,0⟩:Ev);let z13:List Blk:=[.cells (Fn 2 (Cx r f n)),.dK,.lst .ev (Cx r f n).oJ];let z15:=(z8.s.length:Int);let z17:=z8.aJ+n;let z4:List C:=[.seq .shp z8.pJ.sQ,zi z8.pJ.rJ,zi z8.pJ.dJ,zi z8.pJ.most,.str z8.s,zi z17,.own 1,zi z8.fail.kind,zi z8.fail.field,.int .u64 z8.fail.bits,zi z8.fail.len,.str z8.fail.text,zi z8.fail.code,zi z8.fail.aJ];let z19:=A2 r n;let z7:List C:=[zi 4,zi 0,.int .u64 0,zi 0,.str z19,zi 0,zi 0];let z21:=decide ((z19.length:Int)<n);let z22:=As 10 z15;let z3:List C:=[.seq .shp z8.pJ.sQ,zi z8.pJ.rJ,zi z8.pJ.dJ,zi z8.pJ.most,.str z8.s,zi z8.aJ,.own 2,zi z22.kind,zi z22.field,.int .u64 z22.bits,zi z22.len,.str z22.text,zi z22.code,zi z22.aJ];let z23:List Blk:=[.cells (Fn 2 z9),.dK,.lst .ev z9.oJ];let z24:=utf0;let z14:=Gc z24 z19;let z25:=As 5 z17;let z26:=Am (⟨z9.pJ,z9.s,z9.aJ+n,z9.oJ,z9.fail⟩:Mr) L3;let z11:List Blk:=[.cells (Fn 2 z26),.dK,.lst .ev z26.oJ];let z27:=Am (⟨z8.pJ,z8.s,z8.aJ+n,z8.oJ,z8.fail⟩:Mr) L3;let z12:List Blk:=[.cells (Fn 2 z27),.dK,.lst .ev z27.oJ];let z29:=z9.aJ+n;let z2:List C:=[.seq .shp z9.pJ.sQ,zi z9.pJ.rJ,zi z9.pJ.dJ,zi z9.pJ.most,.str z9.s,zi z29,.own 1,zi z9.fail.kind,zi z9.fail.field,.int .u64 z9.fail.bits,zi z9.fail.len,.str z9.fail.text,zi z9.fail.code,zi z9.fail.aJ];let z20:=As 5 z29;let z30:=(z9.s.length:Int);let z16:=As 10 z30;let z1:List C:=[.seq .shp z9.pJ.sQ,zi z9.pJ.rJ,zi z9.pJ.dJ,zi z9.pJ.most,.str z9.s,zi z9.aJ,.own 2,zi z16.kind,zi z16.field,.int .u64 z16.bits,zi z16.len,.str z16.text,zi z16.code,zi z16.aJ];let z31:S:= .v (.agg (cEv z16));let z32:S:= .v (.agg (cEv z22));let z33:S:= .tup [.agg (Pk (Vf z24 z19)),vI z14];let z34:=(!decide (z9.fail.kind=0))=false;let z35:=(!decide (z8.fail.kind=0))=false;let z36:List Blk:=[.cells (Fn 2 z8),.dK,.lst .ev z8.oJ];let z37:=z8.aJ+z14;let z18:=As 5 z37;let z5:List C:=[zi z18.kind,zi z18.field,.int .u64 z18.bits,zi z18.len,.str z18.text,zi z18.code,zi z18.aJ];let z10:=Am (⟨z8.pJ,z8.s,z8.aJ,z8.oJ,z18⟩:Mr) (⟨4,0,0,0,List.take (z14.toNat) z19,0,0⟩:Ev);let z28:List Blk:=[.cells (Fn 2 z10),.dK,.lst .ev z10.oJ];let z38:=decide (0<(Vf z24 z19).wK);let z39:List V:=[vP 0,.agg z6];let z40:S:= .v (vI z17);(.sZ [.call [0,1] (.tup []) z36,.ord (os 22 [19]) [],.as 34 z40,.call [] (.v (vI (min z15 z17))) [],.as 36 (.v (vT z19))] (.br (.sZ [.call [] z33 []] (.br (.sZ [.as 56 (.v (vI z37)),.call [] (.v (.agg (cEv z18))) []] (.br (.sZ [.call [0,3] (.tup []) z28,.br true] (.lJ () [0,1,6])) (.sZ [.br true] (.lJ () [0,1,3])))) (.br (.sZ [.call [0,3] (.tup []) z23,.br false] (.br (.sZ [.call [] z31 []] (.lJ () [0,1,6])) (.br (.sZ [.as 112 (.v (vI z29)),.call [] (.v (.agg (cEv z20))) []] (.lJ () [0,1,6])) (.sZ [.as 75 (.v (vI z29)),.call [0,6] (.tup []) z11] (.lJ () [0,1,7]))))) (.sZ [.br false] (.br (.sZ [.call [] z32 []] (.lJ () [0,1,3])) (.br (.sZ [.as 112 z40,.call [] (.v (.agg (cEv z25))) []] (.lJ () [0,1,3])) (.sZ [.as 75 z40,.call [0,3] (.tup []) z12] (.lJ () [0,1,6])))))))) (.br (.sZ [.call [0,3] (.tup []) z23,.br false] (.br (.sZ [.call [] z31 []] (.lJ () [0,1,5])) (.sZ [.br false,.as 75 (.v (vI z29)),.call [0,5] (.tup []) z11] (.lJ () [0,1,6])))) (.sZ [.br false] (.br (.sZ [.call [] z32 []] (.lJ () [0,1,3])) (.sZ [.br false,.as 75 z40,.call [0,3] (.tup []) z12] (.lJ () [0,1,5])))))),(Fp 224 [vP 0,.agg [zi 3,zi f.nJ,.int .u64 0,zi n,.str [],zi 0,zi 0]] [.cells (Fn 1 r),.lst .ev r.oJ] (.tup []) z36)∧(wI z17)∧(wI z17)∧(Fp 83 [vI z15,vI z17] [] (.v (vI (min z15 z17))) [])∧(min z15 z17≤z15)∧(z8.aJ≤min z15 z17)∧((0:Int)≤z8.aJ)∧((.v (vT (List.drop (z8.aJ.toNat) (List.take (Int.toNat (min z15 z17)) z8.s))):S)= .v (vT z19))∧Bc (decide (f.kind=6)) ((Fp 212 [.agg [zi 0,zi 0,zi 0],vT z19] [] z33 [])∧Bc (decide (0≤Gc z24 z19)) ((wI z37)∧(Fp 94 [vI 5,vI z37] [] (.v (.agg (cEv z18))) [])∧(Gc z24 z19≤(z19.length:Int))∧((0:Int)≤Gc z24 z19)∧Bc (!decide (List.take (z14.toNat) z19=[])) ((Fp 224 [vP 0,.agg [zi 4,zi 0,.int .u64 0,zi 0,.str (List.take (z14.toNat) z19),zi 0,zi 0]] [.cells (.seq .shp z8.pJ.sQ::zi z8.pJ.rJ::zi z8.pJ.dJ::zi z8.pJ.most:: .str z8.s::zi z8.aJ:: .own 1::z5),.lst .ev z8.oJ] (.tup []) z28)∧((!decide (z10.fail.kind=0))=true)∧Lf (.tup []) (.tup []) z28 z13) (((!decide (z18.kind=0))=true)∧Lf (.tup []) (.tup []) [.cells (.seq .shp z8.pJ.sQ::zi z8.pJ.rJ::zi z8.pJ.dJ::zi z8.pJ.most:: .str z8.s::zi z8.aJ:: .own 2::z5),.dK,.lst .ev z8.oJ] z13)) (Bc (!decide (A2 r n=[])) ((Fp 224 [vP 0,.agg z7] [.cells (Fn 1 z8),.lst .ev z8.oJ] (.tup []) z23)∧z34∧Bc z21 ((Fp 94 [vI 10,vI z30] [] z31 [])∧Lf (.tup []) (.tup []) [.cells z1,.dK,.lst .ev z9.oJ] z13) (Bc z38 ((wI z29)∧(Fp 94 [vI 5,vI z29] [] (.v (.agg (cEv z20))) [])∧Lf (.tup []) (.tup []) [.cells [.seq .shp z9.pJ.sQ,zi z9.pJ.rJ,zi z9.pJ.dJ,zi z9.pJ.most,.str z9.s,zi z9.aJ,.own 2,zi z20.kind,zi z20.field,.int .u64 z20.bits,zi z20.len,.str z20.text,zi z20.code,zi z20.aJ],.dK,.lst .ev z9.oJ] z13) ((wI z29)∧(Fp 224 z39 [.cells z2,.lst .ev z9.oJ] (.tup []) z11)∧Lf (.tup []) (.tup []) z11 z13))) (z35∧Bc z21 ((Fp 94 [vI 10,vI z15] [] z32 [])∧Lf (.tup []) (.tup []) [.cells z3,.dK,.lst .ev z8.oJ] z13) (Bc z38 ((wI z17)∧(Fp 94 [vI 5,vI z17] [] (.v (.agg (cEv z25))) [])∧Lf (.tup []) (.tup []) [.cells [.seq .shp z8.pJ.sQ,zi z8.pJ.rJ,zi z8.pJ.dJ,zi z8.pJ.most,.str z8.s,zi z8.aJ,.own 2,zi z25.kind,zi z25.field,.int .u64 z25.bits,zi z25.len,.str z25.text,zi z25.code,zi z25.aJ],.dK,.lst .ev z8.oJ] z13) ((wI z17)∧(Fp 224 z39 [.cells z4,.lst .ev z8.oJ] (.tup []) z12)∧Lf (.tup []) (.tup []) z12 z13))))) (Bc (!decide (A2 r n=[])) ((Fp 224 [vP 0,.agg z7] [.cells (Fn 1 z8),.lst .ev z8.oJ] (.tup []) z23)∧z34∧Bc z21 ((Fp 94 [vI 10,vI z30] [] z31 [])∧Lf (.tup []) (.tup []) [.cells z1,.dK,.lst .ev z9.oJ] z13) (((decide (0<0))=false)∧(wI z29)∧(Fp 224 z39 [.cells z2,.lst .ev z9.oJ] (.tup []) z11)∧Lf (.tup []) (.tup []) z11 z13)) (z35∧Bc z21 ((Fp 94 [vI 10,vI z15] [] z32 [])∧Lf (.tup []) (.tup []) [.cells z3,.dK,.lst .ev z8.oJ] z13) (((decide (0<0))=false)∧(wI z17)∧(Fp 224 z39 [.cells z4,.lst .ev z8.oJ] (.tup []) z12)∧Lf (.tup []) (.tup []) z12 z13))))) Q4 ?_
 refine⟨(Qt r (A9 f n) Q2),(Ad Q37 Q37),(Ad Q37 Q37),(Ase _ _),Q33,Q33,Q37,(Ar5 (Amc (s:=r.s) (a:=r.aJ) (n:=n) Q2 Q2 Q2 (by first|omega|(simp only[Am];omega)))),dsp (fun h1 p1=>?_) fun h1 p1=>?_⟩
 refine⟨(Aj6 utf0 _ Q2),dsp (fun h2 p2=>?_) fun h2 p2=>?_⟩
 refine⟨(Ad Q37 Q37),(Dn _ _),Q2,Q2,fun h3=>have q3:=Ao h3;have p3:=of_decide_eq_false q3;?_,fun h3=>have q3:=An h3;have p3:=of_decide_eq_true q3;?_⟩
 exact zE (Cx r f n) (Am (⟨(Am r (A9 f n)).pJ,(Am r (A9 f n)).s,(Am r (A9 f n)).aJ,(Am r (A9 f n)).oJ,(As 5 ((Am r (A9 f n)).aJ+(Gc utf0 (A2 r n))))⟩:Mr) (⟨4,0,0,0,List.take (Int.toNat (Gc utf0 (A2 r n))) (A2 r n),0,0⟩:Ev)) (fun hm1=>⟨(Qt (⟨(Am r (A9 f n)).pJ,(Am r (A9 f n)).s,(Am r (A9 f n)).aJ,(Am r (A9 f n)).oJ,(As 5 ((Am r (A9 f n)).aJ+(Gc utf0 (A2 r n))))⟩:Mr) (⟨4,0,0,0,List.take (Int.toNat (Gc utf0 (A2 r n))) (A2 r n),0,0⟩:Ev) Q33),(Agn (decide_eq_false (by simp[Am,As]))),rfl,Q5⟩) W75
 exact zE (Cx r f n) (⟨(Am r (A9 f n)).pJ,(Am r (A9 f n)).s,(Am r (A9 f n)).aJ,(Am r (A9 f n)).oJ,(As 5 ((Am r (A9 f n)).aJ+(Gc utf0 (A2 r n))))⟩:Mr) (fun hm1=>⟨(Agn (decide_eq_false (by simp[Am,As]))),rfl,Q5⟩) W75
 refine⟨fun h3=>have q3:=Ao h3;have p3:=of_decide_eq_false q3;?_,fun h3=>have q3:=An h3;have p3:=of_decide_eq_true q3;?_⟩
 refine⟨(Qt (Am r (A9 f n)) (⟨4,0,0,0,A2 r n,0,0⟩:Ev) Q33),(Xv (decide_eq_true hp3)),dsp (fun h4 p4=>?_) fun h4 p4=>?_⟩
 exact zE (Cx r f n) (⟨(Am (Am r (A9 f n)) (⟨4,0,0,0,A2 r n,0,0⟩:Ev)).pJ,(Am (Am r (A9 f n)) (⟨4,0,0,0,A2 r n,0,0⟩:Ev)).s,(Am (Am r (A9 f n)) (⟨4,0,0,0,A2 r n,0,0⟩:Ev)).aJ,(Am (Am r (A9 f n)) (⟨4,0,0,0,A2 r n,0,0⟩:Ev)).oJ,(As 10 ((List.length (Am (Am r (A9 f n)) (⟨4,0,0,0,A2 r n,0,0⟩:Ev)).s:Nat):Int))⟩:Mr) (fun hm1=>⟨(Dn _ _),rfl,Q5⟩) W75
 refine dsp (fun h5 p5=>?_) fun h5 p5=>?_
 exact zE (Cx r f n) (⟨(Am (Am r (A9 f n)) (⟨4,0,0,0,A2 r n,0,0⟩:Ev)).pJ,(Am (Am r (A9 f n)) (⟨4,0,0,0,A2 r n,0,0⟩:Ev)).s,(Am (Am r (A9 f n)) (⟨4,0,0,0,A2 r n,0,0⟩:Ev)).aJ,(Am (Am r (A9 f n)) (⟨4,0,0,0,A2 r n,0,0⟩:Ev)).oJ,(As 5 ((Am (Am r (A9 f n)) (⟨4,0,0,0,A2 r n,0,0⟩:Ev)).aJ+n))⟩:Mr) (fun hm1=>⟨(Ad Q37 Q37),(Dn _ _),rfl,Q5⟩) W75
 exact zE (Cx r f n) (Am (⟨(Am (Am r (A9 f n)) (⟨4,0,0,0,A2 r n,0,0⟩:Ev)).pJ,(Am (Am r (A9 f n)) (⟨4,0,0,0,A2 r n,0,0⟩:Ev)).s,(Am (Am r (A9 f n)) (⟨4,0,0,0,A2 r n,0,0⟩:Ev)).aJ+n,(Am (Am r (A9 f n)) (⟨4,0,0,0,A2 r n,0,0⟩:Ev)).oJ,(Am (Am r (A9 f n)) (⟨4,0,0,0,A2 r n,0,0⟩:Ev)).fail⟩:Mr) L3) (fun hm1=>⟨(Ad Q37 Q37),(Qt (⟨(Am (Am r (A9 f n)) (⟨4,0,0,0,A2 r n,0,0⟩:Ev)).pJ,(Am (Am r (A9 f n)) (⟨4,0,0,0,A2 r n,0,0⟩:Ev)).s,(Am (Am r (A9 f n)) (⟨4,0,0,0,A2 r n,0,0⟩:Ev)).aJ+n,(Am (Am r (A9 f n)) (⟨4,0,0,0,A2 r n,0,0⟩:Ev)).oJ,(Am (Am r (A9 f n)) (⟨4,0,0,0,A2 r n,0,0⟩:Ev)).fail⟩:Mr) L3 Q33),rfl,Q5⟩) W75
 refine⟨(Xv (decide_eq_true hp3)),dsp (fun h4 p4=>?_) fun h4 p4=>?_⟩
 exact zE (Cx r f n) (⟨(Am r (A9 f n)).pJ,(Am r (A9 f n)).s,(Am r (A9 f n)).aJ,(Am r (A9 f n)).oJ,(As 10 ((List.length (Am r (A9 f n)).s:Nat):Int))⟩:Mr) (fun hm1=>⟨(Dn _ _),rfl,Q5⟩) W75
 refine dsp (fun h5 p5=>?_) fun h5 p5=>?_
 exact zE (Cx r f n) (⟨(Am r (A9 f n)).pJ,(Am r (A9 f n)).s,(Am r (A9 f n)).aJ,(Am r (A9 f n)).oJ,(As 5 ((Am r (A9 f n)).aJ+n))⟩:Mr) (fun hm1=>⟨(Ad Q37 Q37),(Dn _ _),rfl,Q5⟩) W75
 exact zE (Cx r f n) (Am (⟨(Am r (A9 f n)).pJ,(Am r (A9 f n)).s,(Am r (A9 f n)).aJ+n,(Am r (A9 f n)).oJ,(Am r (A9 f n)).fail⟩:Mr) L3) (fun hm1=>⟨(Ad Q37 Q37),(Qt (⟨(Am r (A9 f n)).pJ,(Am r (A9 f n)).s,(Am r (A9 f n)).aJ+n,(Am r (A9 f n)).oJ,(Am r (A9 f n)).fail⟩:Mr) L3 Q33),rfl,Q5⟩) W75
 refine⟨fun h2=>have q2:=Ao h2;have p2:=of_decide_eq_false q2;?_,fun h2=>have q2:=An h2;have p2:=of_decide_eq_true q2;?_⟩
 refine⟨(Qt (Am r (A9 f n)) (⟨4,0,0,0,A2 r n,0,0⟩:Ev) Q33),(Xv (decide_eq_true hp3)),dsp (fun h3 p3=>?_) fun h3 p3=>?_⟩
 exact zE (Cx r f n) (⟨(Am (Am r (A9 f n)) (⟨4,0,0,0,A2 r n,0,0⟩:Ev)).pJ,(Am (Am r (A9 f n)) (⟨4,0,0,0,A2 r n,0,0⟩:Ev)).s,(Am (Am r (A9 f n)) (⟨4,0,0,0,A2 r n,0,0⟩:Ev)).aJ,(Am (Am r (A9 f n)) (⟨4,0,0,0,A2 r n,0,0⟩:Ev)).oJ,(As 10 ((List.length (Am (Am r (A9 f n)) (⟨4,0,0,0,A2 r n,0,0⟩:Ev)).s:Nat):Int))⟩:Mr) (fun hm1=>⟨(Dn _ _),rfl,Q5⟩) W75
 exact zE (Cx r f n) (Am (⟨(Am (Am r (A9 f n)) (⟨4,0,0,0,A2 r n,0,0⟩:Ev)).pJ,(Am (Am r (A9 f n)) (⟨4,0,0,0,A2 r n,0,0⟩:Ev)).s,(Am (Am r (A9 f n)) (⟨4,0,0,0,A2 r n,0,0⟩:Ev)).aJ+n,(Am (Am r (A9 f n)) (⟨4,0,0,0,A2 r n,0,0⟩:Ev)).oJ,(Am (Am r (A9 f n)) (⟨4,0,0,0,A2 r n,0,0⟩:Ev)).fail⟩:Mr) L3) (fun hm1=>⟨Q27,(Ad Q37 Q37),(Qt (⟨(Am (Am r (A9 f n)) (⟨4,0,0,0,A2 r n,0,0⟩:Ev)).pJ,(Am (Am r (A9 f n)) (⟨4,0,0,0,A2 r n,0,0⟩:Ev)).s,(Am (Am r (A9 f n)) (⟨4,0,0,0,A2 r n,0,0⟩:Ev)).aJ+n,(Am (Am r (A9 f n)) (⟨4,0,0,0,A2 r n,0,0⟩:Ev)).oJ,(Am (Am r (A9 f n)) (⟨4,0,0,0,A2 r n,0,0⟩:Ev)).fail⟩:Mr) L3 Q33),rfl,Q5⟩) W75
 refine⟨(Xv (decide_eq_true hp3)),dsp (fun h3 p3=>?_) fun h3 p3=>?_⟩
 exact zE (Cx r f n) (⟨(Am r (A9 f n)).pJ,(Am r (A9 f n)).s,(Am r (A9 f n)).aJ,(Am r (A9 f n)).oJ,(As 10 ((List.length (Am r (A9 f n)).s:Nat):Int))⟩:Mr) (fun hm1=>⟨(Dn _ _),rfl,Q5⟩) W75
 exact zE (Cx r f n) (Am (⟨(Am r (A9 f n)).pJ,(Am r (A9 f n)).s,(Am r (A9 f n)).aJ+n,(Am r (A9 f n)).oJ,(Am r (A9 f n)).fail⟩:Mr) L3) (fun hm1=>⟨Q27,(Ad Q37 Q37),(Qt (⟨(Am r (A9 f n)).pJ,(Am r (A9 f n)).s,(Am r (A9 f n)).aJ+n,(Am r (A9 f n)).oJ,(Am r (A9 f n)).fail⟩:Mr) L3 Q33),rfl,Q5⟩) W75
def Ame (K:Nat):Prop:= ∀(r:Mr) (shape:Int) (eJ:Int) (dJ:Int) (hp1:List.length (r).s≤1048576) (hp2:(r).aJ≤((List.length (r).s:Nat):Int)) (hp3:(r).fail.kind=0) (hp4:((List.length (r).oJ:Nat):Int)+4*(((List.length (r).s:Nat):Int)-(r).aJ)≤100000000) (hp5:(0:Int)≤(r).aJ) (hp6: -1000000000≤eJ∧eJ≤9223372036854775807) (hp7:B2 (r).pJ=true) (hp8:(1:Int)≤dJ∧dJ≤(r).pJ.dJ) (hp9:Int.toNat ((r).pJ.dJ-dJ)<K),Fun Tryz.prog 159 [vP 0,vI shape,vI eJ,vI dJ] [.cells (Fn 1 r),.lst .ev r.oJ] (.tup []) [.cells (Fn 2 (J0 (Int.toNat ((r).pJ.dJ-dJ)) shape eJ r)),.dK,.lst .ev (J0 (Int.toNat ((r).pJ.dJ-dJ)) shape eJ r).oJ]
structure Uw where
 r:Mr
def Ux (r:Mr) (f:Fld) (eJ:Int):Fam:=⟨Uw,fun q1=>[(0,.v (vP 0)),(5,.v (vP 3)),(11,.v (vI ((A5 r eJ).aJ+(Bd r eJ))))],fun q1=>[.cells (Fn 2 q1.r),.dK,.lst .ev q1.r.oJ,.cells (Fg f)],fun q1=>LInv (fun x=>Bx x f (Be f.kind) ((A5 r eJ).aJ+Bd r eJ)) ((A5 r eJ).aJ+Bd r eJ) (A5 r eJ) q1.r,fun q1=>Nz q1.r⟩
theorem Aqb (K:Nat) (hM:Ame K) (r:Mr) (f:Fld) (eJ:Int) (dJ:Int) (hp1:List.length (r).s≤1048576) (hp2:(r).aJ≤((List.length (r).s:Nat):Int)) (hp3:(r).fail.kind=0) (hp4:((List.length (r).oJ:Nat):Int)+4*(((List.length (r).s:Nat):Int)-(r).aJ)≤100000000) (hp5:(0:Int)≤(r).aJ) (hp6: -1000000000≤eJ∧eJ≤9223372036854775807) (hp7:B2 (r).pJ=true) (hp8:(1:Int)≤dJ∧dJ≤(r).pJ.dJ) (hp9:(0:Int)≤(f).nJ) (hp10:(f).nJ=0∨1≤(f).kind∧(f).kind≤8) (hp11:Int.toNat ((r).pJ.dJ-dJ)≤K):Fun Tryz.prog 205 [vP 0,.agg (Fg f),vI eJ,vI dJ] [.cells (Fn 1 r),.lst .ev r.oJ] (.tup []) [.cells (Fn 2 (B7 (Kr (Int.toNat ((r).pJ.dJ-dJ))) r f (decide ((f).nJ≠0)) eJ)),.dK,.lst .ev (B7 (Kr (Int.toNat ((r).pJ.dJ-dJ))) r f (decide ((f).nJ≠0)) eJ).oJ]:=by
 have hN:Bh=274877906944:=rfl
 have hpt:=By hp7
 obtain ⟨hv,hv2,hv3⟩:=F4 (e:=eJ) hp2
 have hvk:=E5 (r:=r) (e:=eJ) hp3
 have hu:=Qo r eJ
 have hvs:=congrArg List.length hv.1.s
 have hvo:=congrArg List.length hv3
 have hvp:=hv.1.pJ
 have hvd:(A5 r eJ).pJ.dJ=r.pJ.dJ:=by rw[hvp]
 have hnm:C1 f.kind=true↔1≤f.kind∧f.kind≤5:=by simp[C1,Ak]
 refine Ar Tryz.func205 Q4 Q4 (w:=let zi:Int→C:= .int .i64;let z6:=A5 r eJ;let z7:=Am z6 (⟨6,f.nJ,0,Bd r eJ,[],0,0⟩:Ev);let z9:=(z6.s.length:Int);let z10:=Bd r eJ;let z8:List Blk:=[.cells (Fn 2 (Cx z6 f z10)),.dK,.lst .ev (Cx z6 f z10).oJ];let z12:List Blk:=[.cells (Fn 1 z6),.lst .ev z6.oJ];let z13:=As 8 r.aJ;let z14:=As 6 r.aJ;let z15:=z6.aJ+z10;let z16:=As 10 z9;let z17:=B7 (Kr (Int.toNat ((r).pJ.dJ-dJ))) r f (decide ((f).nJ≠0)) eJ;let z5:List Blk:=[.cells (Fn 2 z17),.dK,.lst .ev z17.oJ];let z19:=Ux r f eJ;let z20:=Be f.kind;let z21:=z7.aJ+z10;let z4:=J0 (Int.toNat ((z7).pJ.dJ-(dJ+1))) f.mK z21 z7;let z18:List Blk:=[.cells (Fn 2 z4),.dK,.lst .ev z4.oJ];let z22:=Am z4 (⟨7,0,0,0,[],0,0⟩:Ev);let z11:List Blk:=[.cells (Fn 2 z22),.dK,.lst .ev z22.oJ];let z23:=eJ-z6.aJ;let z24:List Blk:=[.cells (Fn 2 z7),.dK,.lst .ev z7.oJ];(.sZ [.call [0,1] (.v (.c (.int .u64 z10))) z12] (.br (.sZ [.at 0,.cut 0 6] (.lJ () [0,1,3])) (.sZ [.as 31 (.v (vI z23)),.as 32 (.v (.c (.int .u64 z23)))] (.br (.sZ [.call [] (.v (.agg (cEv z13))) [],.at 0,.cut 0 6] (.lJ () [0,1,3])) (.sZ [.as 40 (.v (vI z10))] (.br (.sZ [.ord (os 12 []) [],.as 81 (.v (vI (z9-z6.aJ)))] (.br (.sZ [.call [] (.v (.agg (cEv z16))) [],.at 0,.cut 0 6] (.lJ () [0,1,3])) (.sZ [.as 99 (.v (vI z15)),.at 0,.cut 0 6] (.lJ () [0,1,3])))) (.br (.br (.sZ [.call [] (.v (.agg (cEv z14))) [],.at 0,.cut 0 6] (.lJ () [0,1,3])) (.sZ [.call [0,1] (.tup []) z24,.ord (os 12 [11]) [],.as 132 (.v (vI z21)),.as 134 (.v (vI (dJ+1))),.call [0,3] (.tup []) z18] (.br (.sZ [.call [0,4] (.tup []) z11] (.lJ () [0,1,5])) (.lJ () [0,1,4])))) (.br (.sZ [.call [0,1] (.tup []) z8] (.lJ () [0,1,3])) (.br (.sZ [.call [0,1] (.tup []) z8] (.lJ () [0,1,3])) (.sZ [.as 46 (.v (vI z15)),.at 0,.cut 0 6,.keep [0,5,11],.sel [0,1,3,2]] (.loop z19 fun q1=>let z1:=Bx q1.r f z20 z15;.br (.br (.sZ [.ord [(0,true),(1,true),(2,true),(3,true),(5,true),(4,false),(6,false)] [],.call [] (.v (vI z20)) [],.call [0,2] (.tup []) [.cells (Fn 2 z1),.dK,.lst .ev z1.oJ],.at 0,.keep [0,5,11],.sel [0,1,4,3]] (.next)) (.lJ () [0,1,2])) (.lJ () [0,1,2]))))))))))),(Fp 204 [vP 0,vI eJ] [.cells (Fn 1 r),.lst .ev r.oJ] (.v (.c (.int .u64 z10))) z12)∧Bc (!decide (z6.fail.kind=0)) (Lf (.tup []) (.tup []) [.cells (Fn 2 z6),.dK,.lst .ev z6.oJ] z5) ((wI z23)∧(wU z23)∧Bc (decide (eJ-z6.aJ<Bd r eJ)) ((Fp 94 [vI 8,vI r.aJ] [] (.v (.agg (cEv z13))) [])∧Lf (.tup []) (.tup []) [.cells [.seq .shp z6.pJ.sQ,zi z6.pJ.rJ,zi z6.pJ.dJ,zi z6.pJ.most,.str z6.s,zi z6.aJ,.own 2,zi z13.kind,zi z13.field,.int .u64 z13.bits,zi z13.len,.str z13.text,zi z13.code,zi z13.aJ],.dK,.lst .ev z6.oJ] z5) ((wI z10)∧Bc (decide (f.nJ=0)) ((wI (z9-z6.aJ))∧(wI (z9-z6.aJ))∧Bc (decide (z9-z6.aJ<Bd r eJ)) ((Fp 94 [vI 10,vI z9] [] (.v (.agg (cEv z16))) [])∧Lf (.tup []) (.tup []) [.cells [.seq .shp z6.pJ.sQ,zi z6.pJ.rJ,zi z6.pJ.dJ,zi z6.pJ.most,.str z6.s,zi z6.aJ,.own 2,zi z16.kind,zi z16.field,.int .u64 z16.bits,zi z16.len,.str z16.text,zi z16.code,zi z16.aJ],.dK,.lst .ev z6.oJ] z5) ((wI z15)∧Lf (.tup []) (.tup []) [.cells [.seq .shp z6.pJ.sQ,zi z6.pJ.rJ,zi z6.pJ.dJ,zi z6.pJ.most,.str z6.s,zi z15,.own 2,zi z6.fail.kind,zi z6.fail.field,.int .u64 z6.fail.bits,zi z6.fail.len,.str z6.fail.text,zi z6.fail.code,zi z6.fail.aJ],.dK,.lst .ev z6.oJ] z5)) (Bc (decide (f.kind=8)) (Bc (decide (z6.pJ.dJ≤dJ)) ((Fp 94 [vI 6,vI r.aJ] [] (.v (.agg (cEv z14))) [])∧Lf (.tup []) (.tup []) [.cells [.seq .shp z6.pJ.sQ,zi z6.pJ.rJ,zi z6.pJ.dJ,zi z6.pJ.most,.str z6.s,zi z6.aJ,.own 2,zi z14.kind,zi z14.field,.int .u64 z14.bits,zi z14.len,.str z14.text,zi z14.code,zi z14.aJ],.dK,.lst .ev z6.oJ] z5) ((Fp 224 [vP 0,.agg [zi 6,zi f.nJ,.int .u64 0,zi z10,.str [],zi 0,zi 0]] z12 (.tup []) z24)∧(wI z21)∧(wI z21)∧(wI (dJ+1))∧(wI (dJ+1))∧(Fp 159 [vP 0,vI f.mK,vI z21,vI (dJ+1)] [.cells (Fn 1 z7),.lst .ev z7.oJ] (.tup []) z18)∧Bc (decide (z4.fail.kind=0)) ((Fp 224 [vP 0,.agg [zi 7,zi 0,.int .u64 0,zi 0,.str [],zi 0,zi 0]] [.cells (Fn 1 z4),.lst .ev z4.oJ] (.tup []) z11)∧Lf (.tup []) (.tup []) z11 z5) (Lf (.tup []) (.tup []) z18 z5))) (Bc (decide (f.kind=6)) ((Fp 225 [vP 0,.agg (Fg f),vI z10] z12 (.tup []) z8)∧Lf (.tup []) (.tup []) z8 z5) (Bc (decide (f.kind=7)) ((Fp 225 [vP 0,.agg (Fg f),vI z10] z12 (.tup []) z8)∧Lf (.tup []) (.tup []) z8 z5) ((wI z15)∧z19.Has [(0,.v (vP 0)),(5,.v (vP 3)),(11,.v (vI z15))] [.cells (Fn 2 z6),.dK,.lst .ev z6.oJ,.cells (Fg f)]∧∀q1,z19.inv q1→(let z2:=Lf (.tup []) (.tup []) [.cells (Fn 2 q1.r),.dK,.lst .ev q1.r.oJ] z5;let z3:=Bx q1.r f z20 z15;Bc (decide (q1.r.aJ<z6.aJ+z10)) (Bc (decide (q1.r.fail.kind=0)) ((Fp 131 [vI f.kind] [] (.v (vI z20)) [])∧(Fp 206 [vP 0,.agg (Fg f),vI z20,vI z15] [.cells (Fn 1 q1.r),.lst .ev q1.r.oJ] (.tup []) [.cells (Fn 2 z3),.dK,.lst .ev z3.oJ])∧z19.Nxt q1 [(0,.v (vP 0)),(5,.v (vP 3)),(11,.v (vI z15))] [.cells (Fn 2 z3),.dK,.lst .ev z3.oJ,.cells (Fg f)]) z2) z2))))))))) Q4 ?_
 refine⟨(Vz r _ Q2),fun h1=>have q1:=Ao h1;have p1:=of_decide_eq_false q1;?_,fun h1=>have q1:=An h1;have p1:=of_decide_eq_true q1;?_⟩
 have hok:B6 r eJ=false:=by rw[hvk];simpa using q1
 exact zE (B7 (Kr (Int.toNat ((r).pJ.dJ-dJ))) r f (decide ((f).nJ≠0)) eJ) (A5 r eJ) (fun hm1=>⟨rfl,Q5⟩) W76
 have hok:B6 r eJ=true:=by rw[hvk];simpa using q1
 have hk:(A5 r eJ).fail.kind=0:=by rw[hvk] at hok;simpa using hok
 have ha:=hv.1.aJ hk
 have hb:=hv.2 hk
 have h2:=hv2 hok
 refine⟨(Ad Q2 Q2),(Bu Q2 Q2),dsp (fun h2 p2=>?_) fun h2 p2=>?_⟩
 exact zE (B7 (Kr (Int.toNat ((r).pJ.dJ-dJ))) r f (decide ((f).nJ≠0)) eJ) (⟨(A5 r eJ).pJ,(A5 r eJ).s,(A5 r eJ).aJ,(A5 r eJ).oJ,(As 8 r.aJ)⟩:Mr) (fun hm1=>⟨(Dn _ _),rfl,Q5⟩) W76
 refine⟨(Ad Q2 Q2),dsp (fun h3 p3=>?_) fun h3 p3=>?_⟩
 refine⟨(Ad Q2 Q2),(Ad Q2 Q2),dsp (fun h4 p4=>?_) fun h4 p4=>?_⟩
 exact zE (B7 (Kr (Int.toNat ((r).pJ.dJ-dJ))) r f (decide ((f).nJ≠0)) eJ) (⟨(A5 r eJ).pJ,(A5 r eJ).s,(A5 r eJ).aJ,(A5 r eJ).oJ,(As 10 ((List.length (A5 r eJ).s:Nat):Int))⟩:Mr) (fun hm1=>⟨(Dn _ _),rfl,Q5⟩) W76
 exact zE (B7 (Kr (Int.toNat ((r).pJ.dJ-dJ))) r f (decide ((f).nJ≠0)) eJ) (⟨(A5 r eJ).pJ,(A5 r eJ).s,(A5 r eJ).aJ+(Bd r eJ),(A5 r eJ).oJ,(A5 r eJ).fail⟩:Mr) (fun hm1=>⟨(Ad Q2 Q2),rfl,Q5⟩) W76
 refine dsp (fun h4 p4=>?_) fun h4 p4=>?_
 refine dsp (fun h5 p5=>?_) fun h5 p5=>?_
 have hsub: ∀(v:Mr) (n s:Int),Kr (Int.toNat (r.pJ.dJ-dJ)) v f n s=Dg v 6 s:=fun v n s=>by rw[show Int.toNat (r.pJ.dJ-dJ)=0 by omega];rfl
 exact zE (B7 (Kr (Int.toNat ((r).pJ.dJ-dJ))) r f (decide ((f).nJ≠0)) eJ) (⟨(A5 r eJ).pJ,(A5 r eJ).s,(A5 r eJ).aJ,(A5 r eJ).oJ,(As 6 r.aJ)⟩:Mr) (fun hm1=>⟨(Dn _ _),rfl,Q5⟩) W76
 have hsub: ∀(v:Mr) (n s:Int),Kr (Int.toNat (r.pJ.dJ-dJ)) v f n s=if (J0 (Int.toNat (r.pJ.dJ-(dJ+1))) f.mK (v.aJ+n) (Am v (F3 f n))).fail.kind=0 then Am (J0 (Int.toNat (r.pJ.dJ-(dJ+1))) f.mK (v.aJ+n) (Am v (F3 f n))) Asv else (J0 (Int.toNat (r.pJ.dJ-(dJ+1))) f.mK (v.aJ+n) (Am v (F3 f n))):=fun v n s=>by rw[show Int.toNat (r.pJ.dJ-dJ)=Int.toNat (r.pJ.dJ-(dJ+1))+1 by omega];rfl
 refine⟨(Qt (A5 r eJ) (⟨6,f.nJ,0,Bd r eJ,[],0,0⟩:Ev) Q2),(Ad Q37 Q37),(Ad Q37 Q37),(Ad Q2 Q2),(Ad Q2 Q2),(hM (Am (A5 r eJ) (⟨6,f.nJ,0,Bd r eJ,[],0,0⟩:Ev)) _ _ _ Q32 Q32 Q77 Q32 Q32 Q32 (by simpa [Am,hvp] using hp7) (by simp only[Am,hvp];omega) (by simp only[Am,hvp];omega)),dsp (fun h6 p6=>?_) fun h6 p6=>?_⟩
 exact zE (B7 (Kr (Int.toNat ((r).pJ.dJ-dJ))) r f (decide ((f).nJ≠0)) eJ) (Am (J0 (Int.toNat (((Am (A5 r eJ) (⟨6,f.nJ,0,Bd r eJ,[],0,0⟩:Ev))).pJ.dJ-(dJ+1))) f.mK ((Am (A5 r eJ) (⟨6,f.nJ,0,Bd r eJ,[],0,0⟩:Ev)).aJ+(Bd r eJ)) (Am (A5 r eJ) (⟨6,f.nJ,0,Bd r eJ,[],0,0⟩:Ev))) (⟨7,0,0,0,[],0,0⟩:Ev)) (fun hm1=>⟨(Qt (J0 (Int.toNat (((Am (A5 r eJ) (⟨6,f.nJ,0,Bd r eJ,[],0,0⟩:Ev))).pJ.dJ-(dJ+1))) f.mK ((Am (A5 r eJ) (⟨6,f.nJ,0,Bd r eJ,[],0,0⟩:Ev)).aJ+(Bd r eJ)) (Am (A5 r eJ) (⟨6,f.nJ,0,Bd r eJ,[],0,0⟩:Ev))) (⟨7,0,0,0,[],0,0⟩:Ev) (Aa5 Q32 Q32)),rfl,Q5⟩) W76
 exact zE (B7 (Kr (Int.toNat ((r).pJ.dJ-dJ))) r f (decide ((f).nJ≠0)) eJ) (J0 (Int.toNat (((Am (A5 r eJ) (⟨6,f.nJ,0,Bd r eJ,[],0,0⟩:Ev))).pJ.dJ-(dJ+1))) f.mK ((Am (A5 r eJ) (⟨6,f.nJ,0,Bd r eJ,[],0,0⟩:Ev)).aJ+(Bd r eJ)) (Am (A5 r eJ) (⟨6,f.nJ,0,Bd r eJ,[],0,0⟩:Ev))) (fun hm1=>⟨rfl,Q5⟩) W76
 refine dsp (fun h5 p5=>?_) fun h5 p5=>?_
 exact zE (B7 (Kr (Int.toNat ((r).pJ.dJ-dJ))) r f (decide ((f).nJ≠0)) eJ) (Cx (A5 r eJ) f (Bd r eJ)) (fun hm1=>⟨(Aqa (A5 r eJ) f _ Q2 Q2 Q77 Q2 Q2 Q2),rfl,Q5⟩) W76
 refine dsp (fun h6 p6=>?_) fun h6 p6=>?_
 exact zE (B7 (Kr (Int.toNat ((r).pJ.dJ-dJ))) r f (decide ((f).nJ≠0)) eJ) (Cx (A5 r eJ) f (Bd r eJ)) (fun hm1=>⟨(Aqa (A5 r eJ) f _ Q2 Q2 Q77 Q2 Q2 Q2),rfl,Q5⟩) W76
 refine⟨(Ad Q2 Q2),Bp (j:=(⟨(A5 r eJ)⟩:Uw)) rfl rfl (by dsimp only[Ux];exact LInv.refl Q2),fun (q1:Uw) hq_q1=>?_⟩
 have hi_q1:LInv (fun x=>Bx x f (Be f.kind) ((A5 r eJ).aJ+Bd r eJ)) ((A5 r eJ).aJ+Bd r eJ) (A5 r eJ) q1.r:=hq_q1
 have hwf:=Ah4 (k:=f.kind) (by omega)
 have hlg:= @LInv.go _ (M8 f (Be f.kind) ((A5 r eJ).aJ+Bd r eJ)) _ _ _ hi_q1
 refine dsp (fun h7 p7=>?_) fun h7 p7=>?_
 refine dsp (fun h8 p8=>?_) fun h8 p8=>?_
 have hrm:=hi_q1.room p8
 have hat:=hi_q1.aJ p8
 exact⟨(Pp _),(Ara q1.r f _ _ Q2 Q2 Q77 Q2 Q2 Q2 Q2),A6 (j:=(⟨(Bx q1.r f (Be f.kind) ((A5 r eJ).aJ+(Bd r eJ)))⟩:Uw)) rfl rfl (by dsimp only[Ux];exact(hlg Q2 Q2).1) (by dsimp only[Ux];exact(hlg Q2 Q2).2)⟩
 have hend:L9 (A5 r eJ) f ((A5 r eJ).aJ+Bd r eJ)=q1.r:=hi_q1.bad p8
 exact zE (B7 (Kr (Int.toNat ((r).pJ.dJ-dJ))) r f (decide ((f).nJ≠0)) eJ) q1.r (fun hm1=>⟨rfl,Q5⟩) W76
 have hend:L9 (A5 r eJ) f ((A5 r eJ).aJ+Bd r eJ)=q1.r:=hi_q1.eJ p7
 exact zE (B7 (Kr (Int.toNat ((r).pJ.dJ-dJ))) r f (decide ((f).nJ≠0)) eJ) q1.r (fun hm1=>⟨rfl,Q5⟩) W76
structure Ha where
 r:Mr
def Uy (r:Mr) (shape:Int) (eJ:Int) (dJ:Int):Fam:=⟨Ha,fun q1=>[(0,.v (vP 0)),(1,.v (vI shape)),(2,.v (vI eJ)),(3,.v (vI dJ))],fun q1=>[.cells (Fn 2 q1.r),.dK,.lst .ev q1.r.oJ],fun q1=>LInv (Ej (Kr (Int.toNat (r.pJ.dJ-dJ))) shape eJ) eJ r q1.r,fun q1=>Nz q1.r⟩
theorem Asw (K:Nat) (hM:Ame K) (r:Mr) (shape:Int) (eJ:Int) (dJ:Int) (hp1:List.length (r).s≤1048576) (hp2:(r).aJ≤((List.length (r).s:Nat):Int)) (hp3:(r).fail.kind=0) (hp4:((List.length (r).oJ:Nat):Int)+4*(((List.length (r).s:Nat):Int)-(r).aJ)≤100000000) (hp5:(0:Int)≤(r).aJ) (hp6: -1000000000≤eJ∧eJ≤9223372036854775807) (hp7:B2 (r).pJ=true) (hp8:(1:Int)≤dJ∧dJ≤(r).pJ.dJ) (hp9:Int.toNat ((r).pJ.dJ-dJ)≤K):Fun Tryz.prog 159 [vP 0,vI shape,vI eJ,vI dJ] [.cells (Fn 1 r),.lst .ev r.oJ] (.tup []) [.cells (Fn 2 (J0 (Int.toNat ((r).pJ.dJ-dJ)) shape eJ r)),.dK,.lst .ev (J0 (Int.toNat ((r).pJ.dJ-dJ)) shape eJ r).oJ]:=by
 have hN:Bh=274877906944:=rfl
 have hpt:=By hp7
 refine Ar Tryz.func159 Q4 Q4 (w:=let zi:Int→C:= .int .i64;let z13:=Uy r shape eJ dJ;let z14:=J0 (Int.toNat ((r).pJ.dJ-dJ)) shape eJ r;let z15:=vI shape;let z16:List Blk:=[.cells (Fn 2 z14),.dK,.lst .ev z14.oJ];(.sZ [.at 0,.cut 0 6,.keep [0,1,2,3],.sel [0,1,2]] (.loop z13 fun q1=>let z4:=Bd q1.r eJ;let z5:=A5 q1.r eJ;let z1:=(fieldAt z5.pJ.sQ shape (A8 z4)).getD fld0;let z2:=B7 (Kr (Int.toNat ((z5).pJ.dJ-dJ))) z5 z1 (decide ((z1).nJ≠0)) eJ;let z3:=Bx z5 z1 (Ag z4) eJ;.br (.br (.sZ [.call [0,2] (.v (.c (.int .u64 z4))) [.cells (Fn 1 z5),.lst .ev z5.oJ]] (.br (.lJ () [0,1,2]) (.sZ [.call [] (.tup [vI (A8 z4),vI (Ag z4),vB (Nf z4)]) [],.call [] (.tup [.agg (Fg z1),vB (fieldAt z5.pJ.sQ shape (A8 z4)).isSome]) []] (.br (.sZ [.call [] (.v (.agg (cEv (As 2 q1.r.aJ)))) [],.at 0,.keep [0,1,2,3],.sel [0,1,2]] (.next)) (.sZ [.call [] (.v (vB (C4 (Ag z4)))) []] (.br (.sZ [.call [] (.v (.agg (cEv (As 3 q1.r.aJ)))) [],.at 0,.keep [0,1,2,3],.sel [0,1,2]] (.next)) (.br (.sZ [.call [] (.v (vB (Dk z1 (Ag z4)))) []] (.br (.sZ [.call [] (.v (.agg (cEv (As 4 q1.r.aJ)))) [],.at 0,.keep [0,1,2,3],.sel [0,1,2]] (.next)) (.br (.sZ [.call [0,2] (.tup []) [.cells (Fn 2 z2),.dK,.lst .ev z2.oJ],.at 0,.keep [0,1,2,3],.sel [0,1,4]] (.next)) (.sZ [.call [0,2] (.tup []) [.cells (Fn 2 z3),.dK,.lst .ev z3.oJ],.at 0,.keep [0,1,2,3],.sel [0,1,4]] (.next))))) (.br (.sZ [.call [0,2] (.tup []) [.cells (Fn 2 z2),.dK,.lst .ev z2.oJ],.at 0,.keep [0,1,2,3],.sel [0,1,4]] (.next)) (.sZ [.call [0,2] (.tup []) [.cells (Fn 2 z3),.dK,.lst .ev z3.oJ],.at 0,.keep [0,1,2,3],.sel [0,1,4]] (.next)))))))))) (.lJ () [0,1,2])) (.lJ () [0,1,2])),z13.Has [(0,.v (vP 0)),(1,.v z15),(2,.v (vI eJ)),(3,.v (vI dJ))] [.cells (Fn 2 r),.dK,.lst .ev r.oJ]∧∀q1,z13.inv q1→(let z7:=A5 q1.r eJ;let z8:=Bd q1.r eJ;let z6:=(fieldAt z7.pJ.sQ shape (A8 z8)).getD fld0;let z9:=Lf (.tup []) (.tup []) [.cells (Fn 2 q1.r),.dK,.lst .ev q1.r.oJ] z16;let z10:=As 2 q1.r.aJ;let z11:=As 3 q1.r.aJ;let z12:=As 4 q1.r.aJ;Bc (decide (q1.r.aJ<eJ)) (Bc (decide (q1.r.fail.kind=0)) ((Fp 204 [vP 0,vI eJ] [.cells (Fn 1 q1.r),.lst .ev q1.r.oJ] (.v (.c (.int .u64 z8))) [.cells (Fn 1 z7),.lst .ev z7.oJ])∧Bc (!decide (z7.fail.kind=0)) (Lf (.tup []) (.tup []) [.cells (Fn 2 z7),.dK,.lst .ev z7.oJ] z16) ((Fp 191 [.c (.int .u64 z8)] [] (.tup [vI (A8 z8),vI (Ag z8),vB (Nf z8)]) [])∧(Fp 188 [.agg [.seq .shp z7.pJ.sQ],vI shape,vI (A8 z8)] [] (.tup [.agg (Fg z6),vB (fieldAt z7.pJ.sQ shape (A8 z8)).isSome]) [])∧Bc (!(Nf z8)) ((Fp 94 [vI 2,vI q1.r.aJ] [] (.v (.agg (cEv z10))) [])∧z13.Nxt q1 [(0,.v (vP 0)),(1,.v z15),(2,.v (vI eJ)),(3,.v (vI dJ))] [.cells [.seq .shp z7.pJ.sQ,zi z7.pJ.rJ,zi z7.pJ.dJ,zi z7.pJ.most,.str z7.s,zi z7.aJ,.own 2,zi z10.kind,zi z10.field,.int .u64 z10.bits,zi z10.len,.str z10.text,zi z10.code,zi z10.aJ],.dK,.lst .ev z7.oJ]) ((Fp 122 [vI (Ag z8)] [] (.v (vB (C4 (Ag z8)))) [])∧Bc (!(C4 (Ag z8))) ((Fp 94 [vI 3,vI q1.r.aJ] [] (.v (.agg (cEv z11))) [])∧z13.Nxt q1 [(0,.v (vP 0)),(1,.v z15),(2,.v (vI eJ)),(3,.v (vI dJ))] [.cells [.seq .shp z7.pJ.sQ,zi z7.pJ.rJ,zi z7.pJ.dJ,zi z7.pJ.most,.str z7.s,zi z7.aJ,.own 2,zi z11.kind,zi z11.field,.int .u64 z11.bits,zi z11.len,.str z11.text,zi z11.code,zi z11.aJ],.dK,.lst .ev z7.oJ]) (Bc ((fieldAt z7.pJ.sQ shape (A8 z8)).isSome) ((Fp 128 [.agg (Fg z6),vI (Ag z8)] [] (.v (vB (Dk z6 (Ag z8)))) [])∧Bc (!(Dk z6 (Ag z8))) ((Fp 94 [vI 4,vI q1.r.aJ] [] (.v (.agg (cEv z12))) [])∧z13.Nxt q1 [(0,.v (vP 0)),(1,.v z15),(2,.v (vI eJ)),(3,.v (vI dJ))] [.cells [.seq .shp z7.pJ.sQ,zi z7.pJ.rJ,zi z7.pJ.dJ,zi z7.pJ.most,.str z7.s,zi z7.aJ,.own 2,zi z12.kind,zi z12.field,.int .u64 z12.bits,zi z12.len,.str z12.text,zi z12.code,zi z12.aJ],.dK,.lst .ev z7.oJ]) (Bc (decide (Ag z8=2)) ((Fp 205 [vP 0,.agg (Fg z6),vI eJ,vI dJ] [.cells (Fn 1 z7),.lst .ev z7.oJ] (.tup []) [.cells (Fn 2 (B7 (Kr (Int.toNat ((z7).pJ.dJ-dJ))) z7 z6 (decide ((z6).nJ≠0)) eJ)),.dK,.lst .ev (B7 (Kr (Int.toNat ((z7).pJ.dJ-dJ))) z7 z6 (decide ((z6).nJ≠0)) eJ).oJ])∧z13.Nxt q1 [(0,.v (vP 0)),(1,.v z15),(2,.v (vI eJ)),(3,.v (vI dJ))] [.cells (Fn 2 (B7 (Kr (Int.toNat ((z7).pJ.dJ-dJ))) z7 z6 (decide ((z6).nJ≠0)) eJ)),.dK,.lst .ev (B7 (Kr (Int.toNat ((z7).pJ.dJ-dJ))) z7 z6 (decide ((z6).nJ≠0)) eJ).oJ]) ((Fp 206 [vP 0,.agg (Fg z6),vI (Ag z8),vI eJ] [.cells (Fn 1 z7),.lst .ev z7.oJ] (.tup []) [.cells (Fn 2 (Bx z7 z6 (Ag z8) eJ)),.dK,.lst .ev (Bx z7 z6 (Ag z8) eJ).oJ])∧z13.Nxt q1 [(0,.v (vP 0)),(1,.v z15),(2,.v (vI eJ)),(3,.v (vI dJ))] [.cells (Fn 2 (Bx z7 z6 (Ag z8) eJ)),.dK,.lst .ev (Bx z7 z6 (Ag z8) eJ).oJ]))) (Bc (decide (Ag z8=2)) ((Fp 205 [vP 0,.agg (Fg z6),vI eJ,vI dJ] [.cells (Fn 1 z7),.lst .ev z7.oJ] (.tup []) [.cells (Fn 2 (B7 (Kr (Int.toNat ((z7).pJ.dJ-dJ))) z7 z6 (decide ((z6).nJ≠0)) eJ)),.dK,.lst .ev (B7 (Kr (Int.toNat ((z7).pJ.dJ-dJ))) z7 z6 (decide ((z6).nJ≠0)) eJ).oJ])∧z13.Nxt q1 [(0,.v (vP 0)),(1,.v z15),(2,.v (vI eJ)),(3,.v (vI dJ))] [.cells (Fn 2 (B7 (Kr (Int.toNat ((z7).pJ.dJ-dJ))) z7 z6 (decide ((z6).nJ≠0)) eJ)),.dK,.lst .ev (B7 (Kr (Int.toNat ((z7).pJ.dJ-dJ))) z7 z6 (decide ((z6).nJ≠0)) eJ).oJ]) ((Fp 206 [vP 0,.agg (Fg z6),vI (Ag z8),vI eJ] [.cells (Fn 1 z7),.lst .ev z7.oJ] (.tup []) [.cells (Fn 2 (Bx z7 z6 (Ag z8) eJ)),.dK,.lst .ev (Bx z7 z6 (Ag z8) eJ).oJ])∧z13.Nxt q1 [(0,.v (vP 0)),(1,.v z15),(2,.v (vI eJ)),(3,.v (vI dJ))] [.cells (Fn 2 (Bx z7 z6 (Ag z8) eJ)),.dK,.lst .ev (Bx z7 z6 (Ag z8) eJ).oJ])))))) z9) z9))) Q4 ?_
 refine⟨Bp (j:=(⟨r⟩:Ha)) rfl rfl (by dsimp only[Uy];exact LInv.refl hp2),fun (q1:Ha) hq_q1=>?_⟩
 have hi_q1:LInv (Ej (Kr (Int.toNat (r.pJ.dJ-dJ))) shape eJ) eJ r q1.r:=hq_q1
 refine dsp (fun h1 p1=>?_) fun h1 p1=>?_
 refine dsp (fun h2 p2=>?_) fun h2 p2=>?_
 have hfl:=p2
 have hat:=hi_q1.aJ hfl
 have hrm:=hi_q1.room hfl
 obtain ⟨hv,hv2,hv3⟩:=F4 (r:=q1.r) (e:=eJ) hat.2
 have hvk:=E5 (r:=q1.r) (e:=eJ) hfl
 have hu:=Qo q1.r eJ
 have hvs:=congrArg List.length hv.1.s
 have hvo:=congrArg List.length hv3
 have hvp:=hv.1.pJ
 have hpl:=hvp.trans hrm.2.1
 have hsk:Du (A5 q1.r eJ).pJ.sQ=true:=by rw[hpl];exact hpt.2.1
 have htw:=Amd (Bd q1.r eJ)
 have hkn:=Afa (s:=shape) (n:=A8 (Bd q1.r eJ)) hsk
 have hff:=Ty (s:=shape) (n:=A8 (Bd q1.r eJ)) hsk
 refine⟨(Vz q1.r _ Q2),fun h3=>have q3:=Ao h3;have p3:=of_decide_eq_false q3;?_,fun h3=>have q3:=An h3;have p3:=of_decide_eq_true q3;?_⟩
 have hok:B6 q1.r eJ=false:=by rw[hvk];simpa using q3
 exact zE (J0 (Int.toNat ((r).pJ.dJ-dJ)) shape eJ r) (A5 q1.r eJ) (fun hm1=>⟨rfl,Q5⟩) W77
 have hok:B6 q1.r eJ=true:=by rw[hvk];simpa using q3
 have hk:(A5 q1.r eJ).fail.kind=0:=by rw[hvk] at hok;simpa using hok
 have ha:=hv.1.aJ hk
 have hb:=hv.2 hk
 have h2:=hv2 hok
 have hvl:=Fr (r:=A5 q1.r eJ) (w:=Ag (Bd q1.r eJ)) (e:=eJ) hk
 have hvu:=Ao0 (A5 q1.r eJ) (Ag (Bd q1.r eJ)) eJ
 have hvq:=congrArg List.length (Adt (r:=A5 q1.r eJ) (w:=Ag (Bd q1.r eJ)) (e:=eJ) (by omega)).2
 refine⟨(Aj1 _ Q2),(Uk (A5 q1.r eJ).pJ.sQ _ _ (by rw[hpl];omega) (by rw[hpl];exact D1 hpt.2.1)),fun h4=>have q4:=Ao h4;?_,fun h4=>have q4:=An h4;?_⟩
 exact⟨(Dn _ _),A6 (j:=(⟨(⟨(A5 q1.r eJ).pJ,(A5 q1.r eJ).s,(A5 q1.r eJ).aJ,(A5 q1.r eJ).oJ,(As 2 q1.r.aJ)⟩:Mr)⟩:Ha)) rfl Q8 Q47 Q46⟩
 refine⟨(Abx _),fun h5=>have q5:=Ao h5;?_,fun h5=>have q5:=An h5;?_⟩
 exact⟨(Dn _ _),A6 (j:=(⟨(⟨(A5 q1.r eJ).pJ,(A5 q1.r eJ).s,(A5 q1.r eJ).aJ,(A5 q1.r eJ).oJ,(As 3 q1.r.aJ)⟩:Mr)⟩:Ha)) rfl Q8 Q47 Q46⟩
 refine⟨fun h6=>?_,fun h6=>?_⟩
 refine⟨(Yo ((fieldAt (A5 q1.r eJ).pJ.sQ shape (A8 (Bd q1.r eJ))).getD fld0) _ Q2),fun h7=>have q7:=Ao h7;?_,fun h7=>have q7:=An h7;?_⟩
 exact⟨(Dn _ _),A6 (j:=(⟨(⟨(A5 q1.r eJ).pJ,(A5 q1.r eJ).s,(A5 q1.r eJ).aJ,(A5 q1.r eJ).oJ,(As 4 q1.r.aJ)⟩:Mr)⟩:Ha)) rfl Q8 Q47 Q46⟩
 refine dsp (fun h8 p8=>?_) fun h8 p8=>?_
 exact⟨(Aqb K hM (A5 q1.r eJ) ((fieldAt (A5 q1.r eJ).pJ.sQ shape (A8 (Bd q1.r eJ))).getD fld0) _ _ Q2 Q2 (hk) Q2 Q2 Q2 (by rw[hpl];exact hp7) (by rw[hpl];omega) (by grind) (by grind[C4]) (by rw[hpl];omega)),A6 (j:=(⟨(B7 (Kr (Int.toNat (((A5 q1.r eJ)).pJ.dJ-dJ))) (A5 q1.r eJ) ((fieldAt (A5 q1.r eJ).pJ.sQ shape (A8 (Bd q1.r eJ))).getD fld0) (decide ((((fieldAt (A5 q1.r eJ).pJ.sQ shape (A8 (Bd q1.r eJ))).getD fld0)).nJ≠0)) eJ)⟩:Ha)) rfl rfl Q47 Q46⟩
 exact⟨(Ara (A5 q1.r eJ) ((fieldAt (A5 q1.r eJ).pJ.sQ shape (A8 (Bd q1.r eJ))).getD fld0) _ _ Q2 Q2 (hk) Q2 Q2 Q2 (by grind[C4])),A6 (j:=(⟨(Bx (A5 q1.r eJ) ((fieldAt (A5 q1.r eJ).pJ.sQ shape (A8 (Bd q1.r eJ))).getD fld0) (Ag (Bd q1.r eJ)) eJ)⟩:Ha)) rfl rfl Q47 Q46⟩
 refine dsp (fun h7 p7=>?_) fun h7 p7=>?_
 exact⟨(Aqb K hM (A5 q1.r eJ) ((fieldAt (A5 q1.r eJ).pJ.sQ shape (A8 (Bd q1.r eJ))).getD fld0) _ _ Q2 Q2 (hk) Q2 Q2 Q2 (by rw[hpl];exact hp7) (by rw[hpl];omega) (by grind) (by grind[C4]) (by rw[hpl];omega)),A6 (j:=(⟨(B7 (Kr (Int.toNat (((A5 q1.r eJ)).pJ.dJ-dJ))) (A5 q1.r eJ) ((fieldAt (A5 q1.r eJ).pJ.sQ shape (A8 (Bd q1.r eJ))).getD fld0) (decide ((((fieldAt (A5 q1.r eJ).pJ.sQ shape (A8 (Bd q1.r eJ))).getD fld0)).nJ≠0)) eJ)⟩:Ha)) rfl rfl Q47 Q46⟩
 exact⟨(Ara (A5 q1.r eJ) ((fieldAt (A5 q1.r eJ).pJ.sQ shape (A8 (Bd q1.r eJ))).getD fld0) _ _ Q2 Q2 (hk) Q2 Q2 Q2 (by grind[C4])),A6 (j:=(⟨(Bx (A5 q1.r eJ) ((fieldAt (A5 q1.r eJ).pJ.sQ shape (A8 (Bd q1.r eJ))).getD fld0) (Ag (Bd q1.r eJ)) eJ)⟩:Ha)) rfl rfl Q47 Q46⟩
 exact zE (J0 (Int.toNat ((r).pJ.dJ-dJ)) shape eJ r) q1.r (fun hm1=>⟨rfl,Q5⟩) W77
 exact zE (J0 (Int.toNat ((r).pJ.dJ-dJ)) shape eJ r) q1.r (fun hm1=>⟨rfl,Q5⟩) W77
theorem Aqc: ∀K,Ame K
 |0=>fun r shape eJ dJ hp1 hp2 hp3 hp4 hp5 hp6 hp7 hp8 hp9=>absurd hp9 (Nat.not_lt_zero _)
 |K+1=>fun r shape eJ dJ hp1 hp2 hp3 hp4 hp5 hp6 hp7 hp8 hp9=>Asw K (Aqc K) r shape eJ dJ hp1 hp2 hp3 hp4 hp5 hp6 hp7 hp8 (Nat.le_of_lt_succ hp9)
theorem Atx (r:Mr) (shape:Int) (eJ:Int) (dJ:Int) (hp1:List.length (r).s≤1048576) (hp2:(r).aJ≤((List.length (r).s:Nat):Int)) (hp3:(r).fail.kind=0) (hp4:((List.length (r).oJ:Nat):Int)+4*(((List.length (r).s:Nat):Int)-(r).aJ)≤100000000) (hp5:(0:Int)≤(r).aJ) (hp6: -1000000000≤eJ∧eJ≤9223372036854775807) (hp7:B2 (r).pJ=true) (hp8:(1:Int)≤dJ∧dJ≤(r).pJ.dJ):Fun Tryz.prog 159 [vP 0,vI shape,vI eJ,vI dJ] [.cells (Fn 1 r),.lst .ev r.oJ] (.tup []) [.cells (Fn 2 (J0 (Int.toNat ((r).pJ.dJ-dJ)) shape eJ r)),.dK,.lst .ev (J0 (Int.toNat ((r).pJ.dJ-dJ)) shape eJ r).oJ]:=Aqc _ r shape eJ dJ hp1 hp2 hp3 hp4 hp5 hp6 hp7 hp8 (Nat.lt_succ_self _)
end Go.Proofs.YtphecbmdhbphgaaGreat.Ax
