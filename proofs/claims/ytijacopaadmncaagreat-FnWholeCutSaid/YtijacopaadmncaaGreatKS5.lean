/- Bent descriptions and plans. Opening what the laws are handed. -/
import Derived.Test.YtijacopaadmncaaGreatKS4
import Derived.Test.YtijacopaadmncaaGreatKS1
import Derived.Test.YtijacopaadmncaaGreatKB4
set_option linter.unusedSimpArgs false
set_option linter.unusedVariables false
namespace Go.Proofs.YtijacopaadmncaaGreat.Ax
open Go.RowKit
def SchB (l:List Shp):Prop:=l.length≤7∧∀e∈l,e.fields.length≤6
theorem SchG.b {l:List Shp} (h:SchG l):SchB l:=⟨by have:=h.1;omega,fun e he=>by have:=(h.2 e he).1;omega⟩
theorem SchB.set {l:List Shp} {i:Nat} {x:Shp} (h:SchB l) (hx:x.fields.length≤6):SchB (l.set i x):=by
 refine⟨by rw[List.length_set];exact h.1,fun e he=>?_⟩
 rcases List.mem_or_eq_of_mem_set he with he|rfl
 ·exact h.2 e he
 ·exact hx
theorem SchB.app {l:List Shp} {k:Int} (h:SchB l) (hl:l.length≤6):SchB (l++[⟨k,[]⟩]):=by
 refine⟨by simp;omega,fun e he=>?_⟩
 rcases List.mem_append.1 he with he|he
 ·exact h.2 e he
 ·simp at he;rw[he];simp
structure E8 where
 l:List Shp
 c1:Cur
def Aaw (c:Cur) (o:E8):Prop:=Fun Tryz.prog 119 [vP 0] [.cells (By c)] (.v (.agg [.seq .shp o.l])) [.cells (By o.c1)]
def Vu (c:Cur) (o:E8):Prop:=((SchB o.l)∧(An o.c1))∧Aaw c o
structure Pv where
 c:Cur
 shapes:List Shp
def Pw  :Fam:=⟨Pv,fun q1=>[(0,.v (vP 0)),(2,.v (vP 1)),(3,.v (vP 2))],fun q1=>[.cells (By q1.c),.cells [.nil],.cells [.own 3],.tree q1.shapes],fun q1=>An q1.c∧SchB q1.shapes,fun q1=>8-List.length q1.shapes⟩
theorem An4 (c:Cur) (hp1:An c): ∃o:E8,Vu c o:=by
 have hN:Ba=274877906944:=rfl
 refine Bz Tryz.func119 Q8 Q8 (w:=let z38:=([(2,.v (vP 1)),(3,.v (vP 2))]:List (Nat×S))=[(2,.v (vP 1)),(3,.v (vP 2))];let z39:=Pw;(.intro (Lv c) fun o1=> .seg [.call [0] (.v (.agg [.own 1])) [.cells (By o1.c1),.tree o1.l]] (.intro (Aa o1.c1 ((List.length o1.l:Nat):Int)) fun o2=>let z30:=Int.toNat o2.x;let z31:=Sx (o1.l[Int.toNat o2.x]?);.seg [.call [0] (.v (vI o2.x)) (Kc o2.c1)] (.intro (Aa o2.c1 10) fun o3=> .seg [.call [0] (.v (vI o3.x)) (Kc o3.c1)] (.br (.intro (Hq o3.c1 [0,5,100,(-1)]) fun o4=> .intro z31 fun x1=> .seg [.ord (os 9 [4,5,8]) [0],.ty .int,.call [0,4] (.v (vI o4.x)) [.cells (By o4.c1),.lst .int [0,5,100,(-1)]],.el .shp x1,.at 0,.pub 1 0] (.leaf (⟨List.set o1.l z30 (⟨o4.x,x1.fields⟩:Shp),o4.c1⟩:E8) [0])) (.br (.intro z31 fun x1=> .take 7 2 z30 x1 (.intro (Ke o3.c1) fun o4=> .intro (Aa o4.c1 10) fun o5=> .intro (Aa o5.c1 4) fun o6=>let z2:S:= .v (vI (o6.x-1));let z3:List Blk:=(Kc o6.c1);let z4:S:= .v (vI o6.x);.seg [.tree (fr (.first 9 (.first 11 (.first 13 (.two 8 (.one 10 (.one 12 (.one 14 (.first 15 (.first 16 (.one 17 (.one 18 (.first 19 (.first 20 (.one 21 (.done))))))))))) 10 (.two 8 (.one 12 (.one 14 (.first 15 (.first 16 (.one 17 (.one 18 (.first 19 (.first 20 (.one 21 (.done)))))))))) 12 (.two 8 (.one 14 (.first 15 (.first 16 (.one 17 (.one 18 (.first 19 (.first 20 (.one 21 (.done))))))))) 14 (.first 15 (.first 16 (.two 8 (.one 17 (.one 18 (.first 19 (.first 20 (.one 21 (.done)))))) 17 (.one 8 (.one 18 (.first 19 (.first 20 (.one 21 (.done))))))))))))))) 0 8) 21 [0,4],.call [0] (.v (vI o4.x)) (Kc o4.c1),.call [0] (.v (vI o5.x)) (Kc o5.c1),.call [0] z4 z3,.as 41 z2,.ty .fld,.ty .fld,.el .shp x1,.at 0,.keep [2,3],.sel [0,1,3,2],.call [0] (.v (vI o4.x)) (Kc o4.c1),.call [0] (.v (vI o5.x)) (Kc o5.c1),.call [0] z4 z3,.as 41 z2,.ty .fld,.ty .fld,.el .shp x1,.at 0,.keep [2,3],.sel [0,1,3,2],.call [0] (.v (vI o5.x)) (Kc o5.c1),.call [0] z4 z3,.as 41 z2,.ty .fld,.ty .fld,.el .shp x1,.at 0,.keep [2,3],.sel [0,1,3,2],.call [0] z4 z3,.as 41 z2,.ty .fld,.ty .fld,.el .shp x1,.at 0,.keep [2,3],.sel [0,1,3,2],.ty .fld,.ty .fld,.el .shp x1,.at 0,.keep [2,3],.sel [0,1,3,2],.at 0,.pub 1 0] (.leaf (⟨List.set o1.l z30 (⟨x1.id,x1.fields++[(⟨o4.x,o5.x,false,false,o6.x-1⟩:Fld)]⟩:Shp),o6.c1⟩:E8) [0]))) (.br (.intro z31 fun x1=> .take 9 2 z30 x1 (.br (.intro (Aa o3.c1 5) fun o4=> .intro (Sx (x1.fields[0]?)) fun x2=> .seg [.ord (os 12 [7,11]) [0],.call [0] (.v (vI o4.x)) (Kc o4.c1),.as 65 (.v (vI (o4.x-1))),.el .fld x2] (.give 17 2 x1 (.seg [.at 0,.pub 1 0] (.leaf (⟨List.set o1.l z30 (⟨x1.id,List.set x1.fields 0 (⟨x2.number,x2.kind,x2.rep,x2.packed,o4.x-1⟩:Fld)⟩:Shp),o4.c1⟩:E8) [0])))) (.give 17 2 x1 (.seg [.at 0,.pub 1 0] (.leaf (⟨List.set o1.l z30 (⟨x1.id,x1.fields⟩:Shp),o3.c1⟩:E8) [0]))))) (.br (.intro z31 fun x1=> .take 12 2 z30 x1 (.br (.intro (Sx (x1.fields[0]?)) fun x2=> .seg [.el .fld x2] (.give 17 2 x1 (.seg [.at 0,.pub 1 0] (.leaf (⟨List.set o1.l z30 (⟨x1.id,List.set x1.fields 0 (⟨x2.number,x2.kind,x2.rep,true,x2.msg⟩:Fld)⟩:Shp),o3.c1⟩:E8) [0])))) (.give 17 2 x1 (.seg [.at 0,.pub 1 0] (.leaf (⟨List.set o1.l z30 (⟨x1.id,x1.fields⟩:Shp),o3.c1⟩:E8) [0]))))) (.br (.seg [.at 0,.keep [0,2,3],.sel [0,1,3,2]] (.loop z39 fun q1=> .intro (Aa q1.c 2) fun o4=> .seg [.ord (os 7 [4]) [0],.call [0] (.v (vI o4.x)) (Kc o4.c1),.as 93 (.v (vI (6+o4.x)))] (.br (.seg [.as 100 (.v (vI (91+((List.length q1.shapes:Nat):Int)))),.tyT,.tyT,.at 0,.keep [0,2,3],.sel [0,1,2,5]] (.next)) (.seg [.at 0,.pub 1 0] (.leaf (⟨q1.shapes,o4.c1⟩:E8) [0]))))) (.seg [.at 0,.pub 1 0] (.leaf (⟨o1.l,o3.c1⟩:E8) [0]))))))))),In (Lv c) fun o1=>(let z37:=((List.length o1.l:Nat):Int);(Tq c o1)∧In (Aa o1.c1 z37) fun o2=>(let z32:=o2.x<z37;let z34:=(0:Int)≤o2.x;let z35:=o1.l[Int.toNat o2.x]?;let z36:=Int.toNat o2.x;let z33:=z36=z36;(Ae o1.c1 z37 o2)∧In (Aa o2.c1 10) fun o3=>(let z28:List Blk:=(Kc o3.c1);let z29:=An o3.c1;(Ae o2.c1 10 o3)∧Bc (decide (o3.x=0)) (In (Hq o3.c1 [0,5,100,(-1)]) fun o4=>(El z35 fun x1=>(let z1:=List.set o1.l z36 (⟨o4.x,x1.fields⟩:Shp);(Pm o3.c1 [0,5,100,(-1)] o4)∧z32∧z34∧z32∧z34∧(o1.l[Int.toNat o2.x]? =some x1)∧((SchB z1)∧(An o4.c1))∧Lf (.v (.agg [.seq .shp z1])) (.v (.agg [.seq .shp z1])) (Kc o4.c1) (Kc o4.c1)))) (Bc (decide (o3.x=1)) (El z35 fun x1=>(let z12:=z35.map (fun (x:Shp)=>x.fields.length)=some (List.length x1.fields);let z13:=o1.l[Int.toNat o2.x]? =some x1;z13∧In (Ke o3.c1) fun o4=>(In (Aa o4.c1 10) fun o5=>(let z11:=Ae o4.c1 10 o5;In (Aa o5.c1 4) fun o6=>(let z8:=Ae o5.c1 4 o6;let z9:=(⟨o4.x,o5.x,false,false,o6.x-1⟩:Fld);let z6:=List.length x1.fields+List.length [z9]≤Ba;let z7:=List.set o1.l z36 (⟨x1.id,x1.fields++[z9]⟩:Shp);let z5:List Blk:=[.cells (By o6.c1),.cells [.nil],.cells [.own 3],.tree z7];let z10:=wI (o6.x-1);z32∧z34∧z32∧z34∧z33∧z12∧(Mu o3.c1 o4)∧z11∧z8∧z10∧z6∧z32∧z34∧z32∧z34∧z33∧z13∧(Mu o3.c1 o4)∧z33∧z12∧z11∧z8∧z10∧z6∧z32∧z34∧z32∧z34∧z33∧z13∧z11∧z33∧z12∧z8∧z10∧z6∧z32∧z34∧z32∧z34∧z33∧z13∧z8∧z10∧z33∧z12∧z6∧z32∧z34∧z32∧z34∧z33∧z13∧z33∧z12∧z6∧z32∧z34∧z32∧z34∧z33∧z13∧((z5:List Blk)=z5)∧z38∧((z5:List Blk)=z5)∧z38∧((z5:List Blk)=z5)∧z38∧((z5:List Blk)=z5)∧z38∧((SchB z7)∧(An o6.c1))∧Lf (.v (.agg [.seq .shp z7])) (.v (.agg [.seq .shp z7])) (Kc o6.c1) (Kc o6.c1)))))) (Bc (decide (o3.x=2)) (El z35 fun x1=>(let z16:=z35.map (fun (x:Shp)=>x.fields.length)=some (List.length x1.fields);let z17:=List.set o1.l z36 (⟨x1.id,x1.fields⟩:Shp);let z18:=0<((List.length x1.fields:Nat):Int);let z19:=o1.l[Int.toNat o2.x]? =some x1;z19∧z32∧z34∧z33∧z16∧Bc (decide z18) (In (Aa o3.c1 5) fun o4=>(El (x1.fields[0]?) fun x2=>(let z15:=(⟨x2.number,x2.kind,x2.rep,x2.packed,o4.x-1⟩:Fld);let z14:=List.set o1.l z36 (⟨x1.id,List.set x1.fields 0 z15⟩:Shp);z32∧z34∧z32∧z34∧z33∧z16∧z33∧z16∧(Ae o3.c1 5 o4)∧(wI (o4.x-1))∧z18∧((0:Int)≤0)∧z18∧((0:Int)≤0)∧(x1.fields[0]? =some x2)∧(List.length (List.set x1.fields 0 z15)=List.length x1.fields)∧z19∧((SchB z14)∧(An o4.c1))∧Lf (.v (.agg [.seq .shp z14])) (.v (.agg [.seq .shp z14])) (Kc o4.c1) (Kc o4.c1)))) ((List.length x1.fields=List.length x1.fields)∧z19∧((SchB z17)∧z29)∧Lf (.v (.agg [.seq .shp z17])) (.v (.agg [.seq .shp z17])) z28 z28))) (Bc (decide (o3.x=3)) (El z35 fun x1=>(let z22:=List.set o1.l z36 (⟨x1.id,x1.fields⟩:Shp);let z23:=z35.map (fun (x:Shp)=>x.fields.length)=some (List.length x1.fields);let z24:=o1.l[Int.toNat o2.x]? =some x1;let z25:=0<((List.length x1.fields:Nat):Int);z24∧z32∧z34∧z33∧z23∧Bc (decide z25) (El (x1.fields[0]?) fun x2=>(let z21:=(⟨x2.number,x2.kind,x2.rep,true,x2.msg⟩:Fld);let z20:=List.set o1.l z36 (⟨x1.id,List.set x1.fields 0 z21⟩:Shp);z32∧z34∧z33∧z23∧z25∧((0:Int)≤0)∧(x1.fields[0]? =some x2)∧(List.length (List.set x1.fields 0 z21)=List.length x1.fields)∧z24∧((SchB z20)∧z29)∧Lf (.v (.agg [.seq .shp z20])) (.v (.agg [.seq .shp z20])) z28 z28)) ((List.length x1.fields=List.length x1.fields)∧z24∧((SchB z22)∧z29)∧Lf (.v (.agg [.seq .shp z22])) (.v (.agg [.seq .shp z22])) z28 z28))) (Bc (decide (o3.x=4)) (z39.Has [(0,.v (vP 0)),(2,.v (vP 1)),(3,.v (vP 2))] [.cells (By o3.c1),.cells [.nil],.cells [.own 3],.tree o1.l]∧∀q1,z39.inv q1→(let z26:=((List.length q1.shapes:Nat):Int);let z27:S:= .v (.agg [.seq .shp q1.shapes]);In (Aa q1.c 2) fun o4=>((Ae q1.c 2 o4)∧(wI (6+o4.x))∧Bc (decide (z26<6+o4.x)) ((wI (91+z26))∧(List.length q1.shapes+List.length [(⟨91+z26,([]:List Fld)⟩:Shp)]≤Ba)∧z39.Nxt q1 [(0,.v (vP 0)),(2,.v (vP 1)),(3,.v (vP 2))] [.cells (By o4.c1),.cells [.nil],.cells [.own 3],.tree (q1.shapes++[(⟨91+z26,([]:List Fld)⟩:Shp)])]) (((SchB q1.shapes)∧(An o4.c1))∧Lf z27 z27 (Kc o4.c1) (Kc o4.c1))))) (((SchB o1.l)∧z29)∧Lf (.v (.agg [.seq .shp o1.l])) (.v (.agg [.seq .shp o1.l])) z28 z28)))))))))) Q8 ?_
 refine⟨(Adk c Q0),fun o1 ho_o1=>?_⟩
 obtain ⟨⟨hp_o1_0,hp_o1_1,hp_o1_2,hp_o1_3⟩,hf_o1⟩:=ho_o1
 refine⟨hf_o1,(Ak o1.c1 ((List.length o1.l:Nat):Int) Q0),fun o2 ho_o2=>?_⟩
 obtain ⟨⟨hp_o2_0,hp_o2_1,hp_o2_2,hp_o2_3⟩,hf_o2⟩:=ho_o2
 refine⟨hf_o2,(Ak o2.c1 10 Q0),fun o3 ho_o3=>?_⟩
 obtain ⟨⟨hp_o3_0,hp_o3_1,hp_o3_2,hp_o3_3⟩,hf_o3⟩:=ho_o3
 refine⟨hf_o3,dsp (fun h1 p1=>?_) fun h1 p1=>?_⟩
 refine⟨(Yk o3.c1 [0,5,100,(-1)] Q0 Q9 Q9),fun o4 ho_o4=>?_⟩
 obtain ⟨⟨hp_o4_0,hp_o4_1⟩,hf_o4⟩:=ho_o4
 refine⟨(A8 (l:=o1.l) (i:=Int.toNat o2.x) Q5),fun x1 hx1=>?_⟩
 have hxl:=(hp_o1_0.2 _ (List.mem_of_getElem? hx1)).1
 exact⟨hf_o4,Q5,Q5,Q5,Q5,hx1,⟨Q40,Q0⟩,rfl,rfl⟩
 refine dsp (fun h2 p2=>?_) fun h2 p2=>?_
 refine⟨(A8 (l:=o1.l) (i:=Int.toNat o2.x) Q5),fun x1 hx1=>?_⟩
 have hxl:=(hp_o1_0.2 _ (List.mem_of_getElem? hx1)).1
 refine⟨hx1,(Aau o3.c1 Q0),fun o4 ho_o4=>?_⟩
 obtain ⟨hp_o4,hf_o4⟩:=ho_o4
 refine⟨(Ak o4.c1 10 Q0),fun o5 ho_o5=>?_⟩
 obtain ⟨⟨hp_o5_0,hp_o5_1,hp_o5_2,hp_o5_3⟩,hf_o5⟩:=ho_o5
 refine⟨(Ak o5.c1 4 Q0),fun o6 ho_o6=>?_⟩
 obtain ⟨⟨hp_o6_0,hp_o6_1,hp_o6_2,hp_o6_3⟩,hf_o6⟩:=ho_o6
 exact⟨Q5,Q5,Q5,Q5,rfl,Q49,hf_o4,hf_o5,hf_o6,(Ac Q5 Q5),Q9,Q5,Q5,Q5,Q5,rfl,hx1,hf_o4,rfl,Q49,hf_o5,hf_o6,(Ac Q5 Q5),Q9,Q5,Q5,Q5,Q5,rfl,hx1,hf_o5,rfl,Q49,hf_o6,(Ac Q5 Q5),Q9,Q5,Q5,Q5,Q5,rfl,hx1,hf_o6,(Ac Q5 Q5),rfl,Q49,Q9,Q5,Q5,Q5,Q5,rfl,hx1,rfl,Q49,Q9,Q5,Q5,Q5,Q5,rfl,hx1,rfl,rfl,rfl,rfl,rfl,rfl,rfl,rfl,⟨Q40,Q0⟩,rfl,rfl⟩
 refine dsp (fun h3 p3=>?_) fun h3 p3=>?_
 refine⟨(A8 (l:=o1.l) (i:=Int.toNat o2.x) Q5),fun x1 hx1=>?_⟩
 have hxl:=(hp_o1_0.2 _ (List.mem_of_getElem? hx1)).1
 refine⟨hx1,Q5,Q5,rfl,Q49,dsp (fun h4 p4=>?_) fun h4 p4=>?_⟩
 refine⟨(Ak o3.c1 5 Q0),fun o4 ho_o4=>?_⟩
 obtain ⟨⟨hp_o4_0,hp_o4_1,hp_o4_2,hp_o4_3⟩,hf_o4⟩:=ho_o4
 refine⟨(A8 (l:=x1.fields) (i:=0) Q5),fun x2 hx2=>?_⟩
 refine⟨Q5,Q5,Q5,Q5,rfl,Q49,rfl,Q49,hf_o4,(Ac Q5 Q5),Q5,Q26,Q5,Q26,hx2,?_⟩
 exact⟨Q12,hx1,⟨Q40,Q0⟩,rfl,rfl⟩
 exact⟨Q12,hx1,⟨Q40,Q0⟩,rfl,rfl⟩
 refine dsp (fun h4 p4=>?_) fun h4 p4=>?_
 refine⟨(A8 (l:=o1.l) (i:=Int.toNat o2.x) Q5),fun x1 hx1=>?_⟩
 have hxl:=(hp_o1_0.2 _ (List.mem_of_getElem? hx1)).1
 refine⟨hx1,Q5,Q5,rfl,Q49,dsp (fun h5 p5=>?_) fun h5 p5=>?_⟩
 refine⟨(A8 (l:=x1.fields) (i:=0) Q5),fun x2 hx2=>?_⟩
 refine⟨Q5,Q5,rfl,Q49,Q5,Q26,hx2,?_⟩
 exact⟨Q12,hx1,⟨Q40,Q0⟩,rfl,rfl⟩
 exact⟨Q12,hx1,⟨Q40,Q0⟩,rfl,rfl⟩
 refine dsp (fun h5 p5=>?_) fun h5 p5=>?_
 refine⟨Bv (j:=(⟨o3.c1,o1.l⟩:Pv)) rfl rfl (by dsimp only[Pw];exact⟨by assumption,SchG.b hp_o1_0⟩),fun (q1:Pv) hq_q1=>?_⟩
 have hi_q1:An q1.c∧SchB q1.shapes:=hq_q1
 obtain ⟨v1,v2⟩:=hi_q1
 have hs7:=v2.1
 refine⟨(Ak q1.c 2 Q0),fun o4 ho_o4=>?_⟩
 obtain ⟨⟨hp_o4_0,hp_o4_1,hp_o4_2,hp_o4_3⟩,hf_o4⟩:=ho_o4
 refine⟨hf_o4,(Ac Q5 Q5),dsp (fun h6 p6=>?_) fun h6 p6=>?_⟩
 exact⟨(Ac Q5 Q5),Q9,Ay (j:=(⟨o4.c1,q1.shapes++[(⟨91+((List.length q1.shapes:Nat):Int),([]:List Fld)⟩:Shp)]⟩:Pv)) rfl rfl (by dsimp only[Pw];exact⟨by assumption,SchB.app v2 Q5⟩) (by dsimp only[Pw];simp;omega)⟩
 exact⟨⟨Q40,Q0⟩,rfl,rfl⟩
 exact⟨⟨Q40,Q0⟩,rfl,rfl⟩
structure F2 where
 p:Pln
 c1:Cur
def Px (c:Cur) (o:F2):Prop:=Fun Tryz.prog 68 [vP 0] [.cells (By c)] (.v (.agg (Cd o.p))) [.cells (By o.c1)]
def G6 (c:Cur) (o:F2):Prop:=((Vq o.p)∧(An o.c1))∧Px c o
theorem Yo (c:Cur) (hp1:An c): ∃o:F2,G6 c o:=by
 have hN:Ba=274877906944:=rfl
 refine Bz Tryz.func68 Q8 Q8 (w:=let zi:Int→C:= .int .i64;(.intro (Ff c) fun o1=> .seg [.call [0] (.v (.agg (Cd o1.p))) (Kc o1.c1)] (.intro (Aa o1.c1 10) fun o2=> .seg [.call [0] (.v (vI o2.x)) (Kc o2.c1)] (.br (.intro (Vu o2.c1) fun o3=> .seg [.call [0] (.v (.agg [.seq .shp o3.l])) (Kc o3.c1)] (.leaf (⟨(⟨o3.l,o1.p.root,o1.p.deep,o1.p.most⟩:Pln),o3.c1⟩:F2) [0])) (.br (.seg [.ty .int,.pubS 16] (.intro (B4 o2.c1 [(-1),0,3,9223372036854775807]) fun o3=> .seg [.call [0] (.v (vI o3.x)) (Kc o3.c1)] (.leaf (⟨(⟨o1.p.shapes,o3.x,o1.p.deep,o1.p.most⟩:Pln),o3.c1⟩:F2) [0]))) (.br (.seg [.ty .int,.pubS 22] (.intro (B4 o2.c1 [0,1,8,9,(-1)]) fun o3=> .seg [.call [0] (.v (vI o3.x)) (Kc o3.c1)] (.leaf (⟨(⟨o1.p.shapes,o1.p.root,o3.x,o1.p.most⟩:Pln),o3.c1⟩:F2) [0]))) (.br (.seg [.ty .int,.pubS 28] (.intro (B4 o2.c1 [(-1),0,2000,2001]) fun o3=> .seg [.call [0] (.v (vI o3.x)) (Kc o3.c1)] (.leaf (⟨(⟨o1.p.shapes,o1.p.root,o1.p.deep,o3.x⟩:Pln),o3.c1⟩:F2) [0]))) (.leaf (⟨o1.p,o2.c1⟩:F2) [0])))))),In (Ff c) fun o1=>((Lw c o1)∧In (Aa o1.c1 10) fun o2=>((Ae o1.c1 10 o2)∧Bc (decide (o2.x=0)) (In (Vu o2.c1) fun o3=>(let z1:S:= .v (.agg [.seq .shp o3.l,zi o1.p.root,zi o1.p.deep,zi o1.p.most]);(Aaw o2.c1 o3)∧((Vq (⟨o3.l,o1.p.root,o1.p.deep,o1.p.most⟩:Pln))∧(An o3.c1))∧Lf z1 z1 (Kc o3.c1) (Kc o3.c1))) (Bc (decide (o2.x=1)) (In (B4 o2.c1 [(-1),0,3,9223372036854775807]) fun o3=>(let z2:S:= .v (.agg [.seq .shp o1.p.shapes,zi o3.x,zi o1.p.deep,zi o1.p.most]);(Da o2.c1 [(-1),0,3,9223372036854775807] o3)∧((Vq (⟨o1.p.shapes,o3.x,o1.p.deep,o1.p.most⟩:Pln))∧(An o3.c1))∧Lf z2 z2 (Kc o3.c1) (Kc o3.c1))) (Bc (decide (o2.x=2)) (In (B4 o2.c1 [0,1,8,9,(-1)]) fun o3=>(let z3:S:= .v (.agg [.seq .shp o1.p.shapes,zi o1.p.root,zi o3.x,zi o1.p.most]);(Da o2.c1 [0,1,8,9,(-1)] o3)∧((Vq (⟨o1.p.shapes,o1.p.root,o3.x,o1.p.most⟩:Pln))∧(An o3.c1))∧Lf z3 z3 (Kc o3.c1) (Kc o3.c1))) (Bc (decide (o2.x=3)) (In (B4 o2.c1 [(-1),0,2000,2001]) fun o3=>(let z4:S:= .v (.agg [.seq .shp o1.p.shapes,zi o1.p.root,zi o1.p.deep,zi o3.x]);(Da o2.c1 [(-1),0,2000,2001] o3)∧((Vq (⟨o1.p.shapes,o1.p.root,o1.p.deep,o3.x⟩:Pln))∧(An o3.c1))∧Lf z4 z4 (Kc o3.c1) (Kc o3.c1))) (((Vq o1.p)∧(An o2.c1))∧Lf (.v (.agg (Cd o1.p))) (.v (.agg (Cd o1.p))) (Kc o2.c1) (Kc o2.c1))))))))) Q8 ?_
 refine⟨(Up c Q0),fun o1 ho_o1=>?_⟩
 obtain ⟨⟨hp_o1_0,hp_o1_1⟩,hf_o1⟩:=ho_o1
 refine⟨hf_o1,(Ak o1.c1 10 Q0),fun o2 ho_o2=>?_⟩
 obtain ⟨⟨hp_o2_0,hp_o2_1,hp_o2_2,hp_o2_3⟩,hf_o2⟩:=ho_o2
 refine⟨hf_o2,dsp (fun h1 p1=>?_) fun h1 p1=>?_⟩
 refine⟨(An4 o2.c1 Q0),fun o3 ho_o3=>?_⟩
 obtain ⟨⟨hp_o3_0,hp_o3_1⟩,hf_o3⟩:=ho_o3
 exact⟨hf_o3,⟨Q89,Q0⟩,rfl,rfl⟩
 refine dsp (fun h2 p2=>?_) fun h2 p2=>?_
 refine⟨(Eb o2.c1 [(-1),0,3,9223372036854775807] Q0 Q9 Q9),fun o3 ho_o3=>?_⟩
 obtain ⟨⟨hp_o3_0,hp_o3_1⟩,hf_o3⟩:=ho_o3
 exact⟨hf_o3,⟨Q89,Q0⟩,rfl,rfl⟩
 refine dsp (fun h3 p3=>?_) fun h3 p3=>?_
 refine⟨(Eb o2.c1 [0,1,8,9,(-1)] Q0 Q9 Q9),fun o3 ho_o3=>?_⟩
 obtain ⟨⟨hp_o3_0,hp_o3_1⟩,hf_o3⟩:=ho_o3
 exact⟨hf_o3,⟨Q89,Q0⟩,rfl,rfl⟩
 refine dsp (fun h4 p4=>?_) fun h4 p4=>?_
 refine⟨(Eb o2.c1 [(-1),0,2000,2001] Q0 Q9 Q9),fun o3 ho_o3=>?_⟩
 obtain ⟨⟨hp_o3_0,hp_o3_1⟩,hf_o3⟩:=ho_o3
 exact⟨hf_o3,⟨Q89,Q0⟩,rfl,rfl⟩
 exact⟨⟨Q89,Q0⟩,rfl,rfl⟩
end Go.Proofs.YtijacopaadmncaaGreat.Ax
namespace Go.Proofs.YtijacopaadmncaaGreat.Ax
open Go.ChangeShapes Go.WideShapes Go.ChangeAt Go.RowKit
theorem Yp:Tryz.prog.cellsOf 5=1:=by kernel_rfl
theorem Auh {H:Type} {tok:TypeId×Value→H} {w:World} {sp:Nat→Bool} {held:Bool} (fuel:Nat) (cs:List Value) (x:DataW H×List MemPlace) (hl:cs.length=1) (h:DataW.trod tok Tryz.prog w 0 sp held fuel 5 cs=some x): ∃y:Int,All2 Rep0 (enc .u8 y) cs∧(0≤y∧y≤255):=by
 obtain ⟨i,rfl,_,hw⟩:=DataW.trod_int Tryz.underlying5 h
 exact⟨i,.cons rfl .nil,bounds_u8 hw⟩
end Go.Proofs.YtijacopaadmncaaGreat.Ax
