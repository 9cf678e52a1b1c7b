/- What drawn descriptions compile to. Drawn descriptions. Drawn plans. Drawn numbers. Drawn texts. -/
import Derived.Test.YtijacopaadmncaaGreatKFnStepWhole5
set_option linter.unusedSimpArgs false
set_option linter.unusedVariables false
namespace Go.Proofs.YtijacopaadmncaaGreat.Ax
open Go.RowKit
def Aqq (n:Nat) (f:Fld):Prop:=1≤f.kind∧f.kind≤8∧(f.kind=8→0≤f.msg∧f.msg<(n:Int))
theorem Aj3 {n m:Nat} {e:Shp} (h:e∈List.replicate m (⟨0,[]⟩:Shp)):Ami n e.fields:=by
 rw[List.eq_of_mem_replicate h]
 exact⟨by simp,fun f hf=>by cases hf⟩
theorem Aj4 {n k:Nat} {l:List Shp} {x e:Shp} (h: ∀e∈l,Ami n e.fields) (hx:Ami n x.fields) (he:e∈l.set k x):Ami n e.fields:=by
 rcases List.mem_or_eq_of_mem_set he with he|rfl
 ·exact h e he
 ·exact hx
theorem Ge {l:List Shp} {i:Nat} {x:Shp} (h:l[i]? =some x):l.set i ⟨x.id,x.fields⟩=l:=by
 apply List.ext_getElem?
 intro j
 rw[List.getElem?_set]
 split
 ·rename_i hij
  subst hij
  rw[if_pos (List.getElem?_eq_some_iff.1 h).1,h]
 ·rfl
theorem Ahs {l:List Shp} {i:Nat} {x:Int} (hl:G5 l=List.take i [5,1,99]) (hi:i<3) (hx:([5,1,99,7]:List Int)[i]? =some x):G5 (l++[⟨x,[]⟩])=List.take (i+1) [5,1,99]:=by
 have:G5 (l++[⟨x,[]⟩])=G5 l++[x]:=by simp[G5]
 rw[this,hl]
 have h3:i=0∨i=1∨i=2:=by omega
 rcases h3 with rfl|rfl|rfl<;>simp at hx<;>subst hx<;>rfl
theorem Aht {n:Nat} {l:List Shp} (h1:l.length=n) (h2:1≤n∧n≤3) (h3:G5 l=List.take n [5,1,99]) (h4: ∀m∈l,m.fields=[]):RawK n l:=
 ⟨h1,h2,h3,fun m hm=>by rw[h4 m hm];exact⟨by simp,by simp[Aik],fun f hf=>by cases hf⟩⟩
theorem Any {l:List Shp} {i j:Nat} {x m:Shp} (h: ∀j m,i<j→l[j]? =some m→m.fields=[]) (hj:i<j) (hm:(l.set i x)[j]? =some m):m.fields=[]:=by
 rw[List.getElem?_set_ne (by omega)] at hm
 exact h j m hj hm
structure M3 where
 l:List Shp
def V0 (r:Raw) (o:M3):Prop:=Fun Tryz.prog 174 [.agg [.seq .shp r.msgs]] [] (.tup [.agg [.own 0],.agg [.int .i64 0,.int .i64 0,.int .i64 0]]) [.tree o.l]
def Qz (r:Raw) (o:M3):Prop:=((SchG o.l))∧V0 r o
structure H6 where
 shapes:List Shp
 i:Nat
def Lb (r:Raw):Fam:=⟨H6,fun q1=>[(1,.v (vP 0)),(2,.v (vP 1)),(3,.v (vP 2)),(4,.v (vP 3)),(5,.v (vP 4)),(6,.v (vI ((q1.i:Nat):Int)))],fun q1=>[.cells [.seq .shp r.msgs],.cells [.nil],.cells [.int .i64 0,.int .i64 0,.int .i64 0],.cells [.int .i64 0,.int .i64 0,.int .i64 0],.cells [.own 5],.tree q1.shapes],fun q1=>q1.i≤List.length r.msgs∧List.length q1.shapes=List.length r.msgs∧∀e∈q1.shapes,Ami (List.length r.msgs) e.fields,fun q1=>List.length r.msgs-q1.i⟩
structure H7 where
 x:Shp
 k:Nat
def Fq (r:Raw) (q1:H6) (x1:Shp):Fam:=⟨H7,fun q2=>[(1,.v (vP 0)),(2,.v (vP 1)),(3,.v (vP 2)),(4,.v (vP 3)),(5,.v (vP 4)),(6,.v (vI ((q1.i:Nat):Int))),(7,.v (vP 6)),(8,.v (vI ((q2.k:Nat):Int)))],fun q2=>[.cells [.seq .shp r.msgs],.cells [.nil],.cells [.int .i64 0,.int .i64 0,.int .i64 0],.cells [.int .i64 0,.int .i64 0,.int .i64 0],.cells [.own 5],.tree q1.shapes,.cells [.int .i64 q2.x.id,.own 7],.lst .fld q2.x.fields],fun q2=>q2.k≤List.length x1.fields∧(q2.x).id=x1.id∧List.length (q2.x).fields=q2.k∧∀f∈(q2.x).fields,Aqq (List.length r.msgs) f,fun q2=>List.length x1.fields-q2.k⟩
theorem Ahu (r:Raw) (hp1:RawK (List.length (r).msgs) (r).msgs): ∃o:M3,Qz r o:=by
 have hN:Bk=274877906944:=rfl
 have hpos:=hp1.pos
 refine B5 Tryz.func174 Q4 Q4 (w:=let zi:Int→C:= .int .i64;let z11:=((List.length r.msgs:Nat):Int);let z12:S:= .tup [.agg [.own 0],.agg [zi 0,zi 0,zi 0]];let z13:S:= .v (.agg [zi 0,zi 0,zi 0]);let z14:=Lb r;(.seg [.call [] z13 [],.br false,.tyT,.at 0,.keep [1,2,3,4,5,6],.sel [0,1,2,3,5,4]] (.loop z14 fun q1=> .br (.intro (Sx (r.msgs[q1.i]?)) fun x1=> .seg [.el .shp x1,.at 0,.mk 6 1 .fld,.keep [1,2,3,4,5,6,7,8],.sel [0,1,2,3,4,5,6,7]] (.loop (Fq r q1 x1) fun q2=>let z5:S:= .v (vI (((q2.k:Nat):Int)+1));.seg [.el .shp x1] (.br (.seg [.el .shp x1] (.intro (Sx (x1.fields[q2.k]?)) fun x2=>let z1:=((Vx (r).msgs x2.msg:Nat):Int);.seg [.el .fld x2] (.br (.seg [.call [] (.v (vI z1)) []] (.intro (Vz q2.x.fields (⟨x2.number,x2.kind,x2.rep,x2.packed,z1⟩:Fld)) fun o1=> .seg [.call [] (.v (vO 0)) [.lst .fld o1.o],.as 47 z5,.at 0,.keep [1,2,3,4,5,6,7,8],.sel [0,1,2,3,4,5,6,10]] (.next))) (.intro (Vz q2.x.fields (⟨x2.number,x2.kind,x2.rep,x2.packed,(-1)⟩:Fld)) fun o1=> .seg [.call [] (.v (vO 0)) [.lst .fld o1.o],.as 47 z5,.at 0,.keep [1,2,3,4,5,6,7,8],.sel [0,1,2,3,4,5,6,10]] (.next))))) (.intro (Sx (q1.shapes[Vx (r).msgs q2.x.id]?)) fun x2=> .seg [.ord [(0,true),(1,true),(2,true),(3,true),(4,true),(6,true),(5,false),(7,true),(8,false)] [],.call [] (.v (vI ((Vx (r).msgs q2.x.id:Nat):Int))) [],.el .shp x2,.as 29 (.v (vI (((q1.i:Nat):Int)+1))),.at 0,.keep [1,2,3,4,5,6],.sel [0,1,2,3,4,5]] (.next))))) (.seg [.ord (os 4 [2,3]) [1]] (.leaf (⟨q1.shapes⟩:M3) [5]))),(Fp 234 [.agg [.seq .shp r.msgs]] [] z13 [])∧((!decide (0=0))=false)∧(z11≤9223372036854775807)∧(((32:Nat):Int)*z11≤281474976710656)∧(z11≤z11)∧((0:Int)≤z11)∧z14.Has [(1,.v (vP 0)),(2,.v (vP 1)),(3,.v (vP 2)),(4,.v (vP 3)),(5,.v (vP 4)),(6,.v (vI 0))] [.cells [.seq .shp r.msgs],.cells [.nil],.cells [zi 0,zi 0,zi 0],.cells [zi 0,zi 0,zi 0],.cells [.own 5],.tree (List.replicate (List.length r.msgs) (⟨0,([]:List Fld)⟩:Shp))]∧∀q1,z14.inv q1→(let z10:=((q1.i:Nat):Int);Bc (decide (z10<z11)) (El (r.msgs[q1.i]?) fun x1=>(let z8:=Fq r q1 x1;let z9:=r.msgs[q1.i]? =some x1;z9∧((0:Int)≤z10)∧z8.Has [(1,.v (vP 0)),(2,.v (vP 1)),(3,.v (vP 2)),(4,.v (vP 3)),(5,.v (vP 4)),(6,.v (vI z10)),(7,.v (vP 6)),(8,.v (vI 0))] [.cells [.seq .shp r.msgs],.cells [.nil],.cells [zi 0,zi 0,zi 0],.cells [zi 0,zi 0,zi 0],.cells [.own 5],.tree q1.shapes,.cells [zi x1.id,.own 7],.lst .fld ([]:List Fld)]∧∀q2,z8.inv q2→(let z6:=((q2.k:Nat):Int);let z7:=((Vx (r).msgs q2.x.id:Nat):Int);z9∧((0:Int)≤z10)∧Bc (decide (z6<((List.length x1.fields:Nat):Int))) (z9∧((0:Int)≤z10)∧El (x1.fields[q2.k]?) fun x2=>(let z3:=(⟨x2.number,x2.kind,x2.rep,x2.packed,(-1)⟩:Fld);let z4:=((Vx (r).msgs x2.msg:Nat):Int);let z2:=(⟨x2.number,x2.kind,x2.rep,x2.packed,z4⟩:Fld);(x1.fields[q2.k]? =some x2)∧((0:Int)≤z6)∧Bc (decide (x2.kind=8)) ((Fp 235 [.agg [.seq .shp r.msgs],vI x2.msg] [] (.v (vI z4)) [])∧In (Vz q2.x.fields z2) fun o1=>((Abv q2.x.fields z2 o1)∧(wI (z6+1))∧z8.Nxt q2 [(1,.v (vP 0)),(2,.v (vP 1)),(3,.v (vP 2)),(4,.v (vP 3)),(5,.v (vP 4)),(6,.v (vI z10)),(7,.v (vP 6)),(8,.v (vI (z6+1)))] [.cells [.seq .shp r.msgs],.cells [.nil],.cells [zi 0,zi 0,zi 0],.cells [zi 0,zi 0,zi 0],.cells [.own 5],.tree q1.shapes,.cells [zi q2.x.id,.own 7],.lst .fld o1.o])) (In (Vz q2.x.fields z3) fun o1=>((Abv q2.x.fields z3 o1)∧(wI (z6+1))∧z8.Nxt q2 [(1,.v (vP 0)),(2,.v (vP 1)),(3,.v (vP 2)),(4,.v (vP 3)),(5,.v (vP 4)),(6,.v (vI z10)),(7,.v (vP 6)),(8,.v (vI (z6+1)))] [.cells [.seq .shp r.msgs],.cells [.nil],.cells [zi 0,zi 0,zi 0],.cells [zi 0,zi 0,zi 0],.cells [.own 5],.tree q1.shapes,.cells [zi q2.x.id,.own 7],.lst .fld o1.o])))) (El (q1.shapes[Vx (r).msgs q2.x.id]?) fun x2=>((Fp 235 [.agg [.seq .shp r.msgs],vI q2.x.id] [] (.v (vI z7)) [])∧(z7<((List.length q1.shapes:Nat):Int))∧((0:Int)≤z7)∧(q1.shapes[Vx (r).msgs q2.x.id]? =some x2)∧(wI (z10+1))∧z14.Nxt q1 [(1,.v (vP 0)),(2,.v (vP 1)),(3,.v (vP 2)),(4,.v (vP 3)),(5,.v (vP 4)),(6,.v (vI (z10+1)))] [.cells [.seq .shp r.msgs],.cells [.nil],.cells [zi 0,zi 0,zi 0],.cells [zi 0,zi 0,zi 0],.cells [.own 5],.tree (List.set q1.shapes (Vx (r).msgs q2.x.id) (⟨q2.x.id,q2.x.fields⟩:Shp))]))))) (((SchG q1.shapes))∧Lf z12 z12 [.tree q1.shapes] [.tree q1.shapes])))) Q4 ?_
 refine⟨(Anx r Q2),Q18,Q2,Q2,Q2,Q2,Cn (j:=(⟨List.replicate (List.length r.msgs) (⟨0,([]:List Fld)⟩:Shp),0⟩:H6)) Q9 rfl (by dsimp only[Lb];exact⟨by omega,by simp,fun e he=>Aj3 he⟩),fun (q1:H6) hq_q1=>?_⟩
 have hi_q1:q1.i≤List.length r.msgs∧List.length q1.shapes=List.length r.msgs∧∀e∈q1.shapes,Ami (List.length r.msgs) e.fields:=hq_q1
 obtain ⟨v1,v2,v3⟩:=hi_q1
 refine dsp (fun h1 p1=>?_) fun h1 p1=>?_
 refine⟨(Bp (l:=r.msgs) (i:=q1.i) Q2),fun x1 hx1=>?_⟩
 have hfg:=hp1.flds _ (List.mem_of_getElem? hx1)
 have hfl:=hfg.len
 have hmi:x1.id∈G5 r.msgs:=List.mem_map.2 ⟨_,List.mem_of_getElem? hx1,rfl⟩
 have hrl:=Ahp hmi
 refine⟨hx1,Q2,Cn (j:=(⟨(⟨x1.id,([]:List Fld)⟩:Shp),0⟩:H7)) Q9 Q9 (by dsimp only[Fq];exact⟨by omega,rfl,rfl,fun f hf=>by cases hf⟩),fun (q2:H7) hq_q2=>?_⟩
 have hi_q2:q2.k≤List.length x1.fields∧(q2.x).id=x1.id∧List.length (q2.x).fields=q2.k∧∀f∈(q2.x).fields,Aqq (List.length r.msgs) f:=hq_q2
 obtain ⟨w1,w2,w3,w4⟩:=hi_q2
 refine⟨hx1,Q2,dsp (fun h2 p2=>?_) fun h2 p2=>?_⟩
 refine⟨hx1,Q2,(Bp (l:=x1.fields) (i:=q2.k) Q2),fun x2 hx2=>?_⟩
 have hg:=hfg.all _ (List.mem_of_getElem? hx2)
 have hgk:=hg.kd
 refine⟨hx2,Q2,dsp (fun h3 p3=>?_) fun h3 p3=>?_⟩
 have hir:=Ahp (hg.ref (by omega))
 refine⟨(Amj r _ Q2),(Aph q2.x.fields (⟨x2.number,x2.kind,x2.rep,x2.packed,((Vx (r).msgs x2.msg:Nat):Int)⟩:Fld) Q2),fun o1 ho_o1=>?_⟩
 obtain ⟨⟨hp_o1_0,hp_o1_1⟩,hf_o1⟩:=ho_o1
 exact⟨hf_o1,(Af Q2 Q2),Be (j:=(⟨(⟨q2.x.id,o1.o⟩:Shp),q2.k+1⟩:H7)) Q9 Q9 (by dsimp only[Fq];exact⟨by omega,w2,by omega,fun f hf=>by
          rcases hp_o1_1 f hf with rfl|hf
          ·exact⟨by dsimp only;omega,by dsimp only;omega,fun h8=>by dsimp only at h8 ⊢;omega⟩
          ·exact w4 f hf⟩) (by dsimp only[Fq];omega)⟩
 refine⟨(Aph q2.x.fields (⟨x2.number,x2.kind,x2.rep,x2.packed,(-1)⟩:Fld) Q2),fun o1 ho_o1=>?_⟩
 obtain ⟨⟨hp_o1_0,hp_o1_1⟩,hf_o1⟩:=ho_o1
 exact⟨hf_o1,(Af Q2 Q2),Be (j:=(⟨(⟨q2.x.id,o1.o⟩:Shp),q2.k+1⟩:H7)) Q9 Q9 (by dsimp only[Fq];exact⟨by omega,w2,by omega,fun f hf=>by
          rcases hp_o1_1 f hf with rfl|hf
          ·exact⟨by dsimp only;omega,by dsimp only;omega,fun h8=>by dsimp only at h8 ⊢;omega⟩
          ·exact w4 f hf⟩) (by dsimp only[Fq];omega)⟩
 have hxg:Ami (List.length r.msgs) q2.x.fields:=⟨by omega,w4⟩
 have hrx:Vx r.msgs q2.x.id<List.length r.msgs:=by rw[w2];exact hrl
 refine⟨(Bp (l:=q1.shapes) (i:=Vx (r).msgs q2.x.id) Q2),fun x2 hx2=>?_⟩
 exact⟨(Amj r _ Q2),Q2,Q2,hx2,(Af Q2 Q2),Be (j:=(⟨List.set q1.shapes (Vx (r).msgs q2.x.id) (⟨q2.x.id,q2.x.fields⟩:Shp),q1.i+1⟩:H6)) Q9 rfl (by dsimp only[Lb];exact⟨by omega,by rw[List.length_set];exact v2,fun e he=>Aj4 v3 hxg he⟩) (by dsimp only[Lb];omega)⟩
 have hsg:SchG q1.shapes:=⟨by omega,fun e he=>by rw[v2];exact v3 e he⟩
 exact⟨(hsg),rfl,rfl⟩
theorem Aai {n:Int} (h:1≤n∧n≤18999∨20000≤n∧n≤536870911):Db n=true:=by
 simp only[Db,Ai,Bool.and_eq_true,Bool.not_eq_true',Bool.and_eq_false_iff,decide_eq_true_eq,decide_eq_false_iff_not]
 omega
theorem Aqd {x:Int} (h:x∈([16,2047,2048,18999,20000,536870911]:List Int)):1≤x∧x≤18999∨20000≤x∧x≤536870911:=by
 simp at h
 omega
theorem Aeo {k:Int} (h:Cg k=true):k≤5:=by
 simp only[Cg,Ai,Bool.and_eq_true,decide_eq_true_eq] at h
 omega
theorem Aj5 {l:List Shp} {i:Nat} {x m:Shp} {k:Nat} (hx:x.fields.length≤k) (hm:(l.set i x)[i]? =some m):m.fields.length≤k:=by
 rw[List.getElem?_set] at hm
 simp at hm
 obtain ⟨_,rfl⟩:=hm
 exact hx
structure M4 where
 r:Raw
 c1:Cur
def V2 (c:Cur) (o:M4):Prop:=Fun Tryz.prog 175 [vP 0] [.cells (Cm c)] (.v (.agg [.own 1])) [.cells (Cm o.c1),.tree o.r.msgs]
def Ra (c:Cur) (o:M4):Prop:=((RawK (List.length (o.r).msgs) (o.r).msgs)∧(A0 o.c1))∧V2 c o
structure Lc where
 c:Cur
 msgs:List Shp
 i:Nat
def Fr (o1:C8):Fam:=⟨Lc,fun q1=>[(0,.v (vP 0)),(2,.v (vP 1)),(3,.v (vP 2)),(4,.v (vI (1+o1.x))),(5,.v (vI ((q1.i:Nat):Int)))],fun q1=>[.cells (Cm q1.c),.cells [.nil],.cells [.own 3],.tree q1.msgs],fun q1=>A0 q1.c∧((q1.i:Nat):Int)≤1+o1.x∧List.length q1.msgs=q1.i∧G5 q1.msgs=List.take q1.i [5,1,99]∧∀m∈q1.msgs,m.fields=[],fun q1=>3-q1.i⟩
structure H8 where
 c:Cur
 msgs:List Shp
 i:Nat
def Ft (o1:C8):Fam:=⟨H8,fun q2=>[(0,.v (vP 0)),(2,.v (vP 1)),(3,.v (vP 2)),(4,.v (vI (1+o1.x))),(6,.v (vI ((q2.i:Nat):Int)))],fun q2=>[.cells (Cm q2.c),.cells [.nil],.cells [.own 3],.tree q2.msgs],fun q2=>A0 q2.c∧q2.i≤Int.toNat (1+o1.x)∧RawK (Int.toNat (1+o1.x)) q2.msgs∧∀j m,q2.i≤j→q2.msgs[j]? =some m→m.fields=[],fun q2=>3-q2.i⟩
structure Bi where
 c:Cur
 msgs:List Shp
 k:Nat
def H9 (o1:C8) (q2:H8) (o2:C8):Fam:=⟨Bi,fun q3=>[(0,.v (vP 0)),(2,.v (vP 1)),(3,.v (vP 2)),(4,.v (vI (1+o1.x))),(6,.v (vI ((q2.i:Nat):Int))),(7,.v (vI o2.x)),(8,.v (vI ((q3.k:Nat):Int)))],fun q3=>[.cells (Cm q3.c),.cells [.nil],.cells [.own 3],.tree q3.msgs],fun q3=>A0 q3.c∧q3.k≤5∧RawK (Int.toNat (1+o1.x)) q3.msgs∧(∀j m,q2.i<j→q3.msgs[j]? =some m→m.fields=[])∧∀m,q3.msgs[q2.i]? =some m→List.length m.fields≤q3.k,fun q3=>5-q3.k⟩
theorem Ahv (c:Cur) (hp1:A0 c): ∃o:M4,Ra c o:=by
 have hN:Bk=274877906944:=rfl
 refine B5 Tryz.func175 Q4 Q4 (w:=let z80:=fr (.first 9 (.two 8 (.one 10 (.one 11 (.first 12 (.first 13 (.one 14 (.done)))))) 10 (.one 8 (.one 11 (.first 12 (.first 13 (.one 14 (.done)))))))) 0 8;let z81:=fr (.one 4 (.first 5 (.first 6 (.one 7 (.first 8 (.one 9 (.done))))))) 0 4;let z82:=os 10 [8];(.intro (Aa c 3) fun o1=>let z77:=1+o1.x;.seg [.call [0] (.v (vI o1.x)) (Kc o1.c1),.as 13 (.v (vI z77)),.at 0,.mkT 2 0,.keep [0,2,3,4,5],.sel [0,1,2,3]] (.loop (Fr o1) fun q1=> .br (.intro (Sx ([5,1,99,7][q1.i]?)) fun x1=> .seg [.tree (.first 0 (.first 1 (.first 3 (.one 2 (.first 4 (.one 5 (.first 6 (.one 7 (.one 8 (.first 9 (.one 10 (.done)))))))))))) 10 [3],.ty .int,.el .int x1,.tyT,.tyT,.at 0,.keep [0,2,3,4,5],.sel [0,1,2,6],.as 18 (.v (vI (((q1.i:Nat):Int)+1))),.at 0,.keep [0,2,3,4,5],.sel [0,1,2,3]] (.next)) (.seg [.at 0,.keep [0,2,3,4,6],.sel [0,1,2,3]] (.loop (Ft o1) fun q2=> .br (.intro (Aa q2.c 6) fun o2=> .seg [.call [0] (.v (vI o2.x)) (Kc o2.c1),.at 0,.keep [0,2,3,4,6,7,8],.sel [0,1,2,3]] (.loop (H9 o1 q2 o2) fun q3=>let z63:S:= .v (vI (((q3.k:Nat):Int)+1));let z64:=Sx (q3.msgs[q2.i]?);.br (.intro (Aa q3.c 12) fun o3=>let z61:=1+o3.x;.seg [.call [0] (.v (vI o3.x)) (Kc o3.c1),.as 43 (.v (vI z61))] (.intro (Aa o3.c1 8) fun o4=> .seg [.call [0] (.v (vI o4.x)) (Kc o4.c1),.as 46 (.v (vI (1+o4.x)))] (.intro (Am o4.c1 2) fun o5=> .seg [.call [0] (.v (vB o5.p)) (Kc o5.c1)] (.intro (Am o5.c1 12) fun o6=> .seg [.call [0] (.v (vB o6.p)) (Kc o6.c1)] (.br (.seg [.ty .int,.pubS 53] (.intro (B4 o6.c1 [16,2047,2048,18999,20000,536870911]) fun o7=> .seg [.call [0] (.v (vI o7.x)) (Kc o7.c1)] (.br (.seg [.call [] (.v (vB (Cg (1+o4.x)))) []] (.br (.intro (Am o7.c1 2) fun o8=> .seg [.call [0] (.v (vB o8.p)) (Kc o8.c1)] (.br (.intro (Aa o8.c1 z77) fun o9=> .intro (Sx (q3.msgs[Int.toNat o9.x]?)) fun x1=> .seg [.tree z81 9 [0],.call [0] (.v (vI o9.x)) (Kc o9.c1),.el .shp x1,.at 0,.keep [0,2,3,4,6,7,8,9],.sel [0,1,2,3,4]] (.intro z64 fun x2=> .take 20 3 q2.i x2 (.seg [.ord z82 [],.call [] (.v (vB (Cc x2.fields o7.x))) []] (.br (.seg [.tree z80 14 [5],.ty .fld,.ty .fld,.el .shp x2,.at 0,.keep [0,2,3,4,6,7,8],.sel [0,1,2,3],.ty .fld,.ty .fld,.el .shp x2,.at 0,.keep [0,2,3,4,6,7,8],.sel [0,1,2,3],.as 40 z63,.at 0,.keep [0,2,3,4,6,7,8],.sel [0,1,2,3]] (.next)) (.give 13 3 x2 (.seg [.as 40 z63,.at 0,.keep [0,2,3,4,6,7,8],.sel [0,1,2,3]] (.next))))))) (.intro z64 fun x1=> .take 20 3 q2.i x1 (.seg [.ord z82 [],.call [] (.v (vB (Cc x1.fields o7.x))) []] (.br (.seg [.tree z80 14 [6],.ty .fld,.ty .fld,.el .shp x1,.at 0,.keep [0,2,3,4,6,7,8],.sel [0,1,2,3],.ty .fld,.ty .fld,.el .shp x1,.at 0,.keep [0,2,3,4,6,7,8],.sel [0,1,2,3],.as 40 z63,.at 0,.keep [0,2,3,4,6,7,8],.sel [0,1,2,3]] (.next)) (.give 13 3 x1 (.seg [.as 40 z63,.at 0,.keep [0,2,3,4,6,7,8],.sel [0,1,2,3]] (.next)))))))) (.br (.intro (Aa o7.c1 z77) fun o8=> .intro (Sx (q3.msgs[Int.toNat o8.x]?)) fun x1=> .seg [.tree z81 9 [0],.call [0] (.v (vI o8.x)) (Kc o8.c1),.el .shp x1,.at 0,.keep [0,2,3,4,6,7,8,9],.sel [0,1,2,3,4]] (.intro z64 fun x2=> .take 20 3 q2.i x2 (.seg [.ord z82 [],.call [] (.v (vB (Cc x2.fields o7.x))) []] (.br (.seg [.tree z80 14 [5],.ty .fld,.ty .fld,.el .shp x2,.at 0,.keep [0,2,3,4,6,7,8],.sel [0,1,2,3],.ty .fld,.ty .fld,.el .shp x2,.at 0,.keep [0,2,3,4,6,7,8],.sel [0,1,2,3],.as 40 z63,.at 0,.keep [0,2,3,4,6,7,8],.sel [0,1,2,3]] (.next)) (.give 13 3 x2 (.seg [.as 40 z63,.at 0,.keep [0,2,3,4,6,7,8],.sel [0,1,2,3]] (.next))))))) (.intro z64 fun x1=> .take 20 3 q2.i x1 (.seg [.ord z82 [],.call [] (.v (vB (Cc x1.fields o7.x))) []] (.br (.seg [.tree z80 14 [6],.ty .fld,.ty .fld,.el .shp x1,.at 0,.keep [0,2,3,4,6,7,8],.sel [0,1,2,3],.ty .fld,.ty .fld,.el .shp x1,.at 0,.keep [0,2,3,4,6,7,8],.sel [0,1,2,3],.as 40 z63,.at 0,.keep [0,2,3,4,6,7,8],.sel [0,1,2,3]] (.next)) (.give 13 3 x1 (.seg [.as 40 z63,.at 0,.keep [0,2,3,4,6,7,8],.sel [0,1,2,3]] (.next))))))))) (.br (.intro (Aa o7.c1 z77) fun o8=> .intro (Sx (q3.msgs[Int.toNat o8.x]?)) fun x1=> .seg [.tree z81 9 [0],.call [0] (.v (vI o8.x)) (Kc o8.c1),.el .shp x1,.at 0,.keep [0,2,3,4,6,7,8,9],.sel [0,1,2,3,4]] (.intro z64 fun x2=> .take 20 3 q2.i x2 (.seg [.ord z82 [],.call [] (.v (vB (Cc x2.fields o7.x))) []] (.br (.seg [.tree z80 14 [5],.ty .fld,.ty .fld,.el .shp x2,.at 0,.keep [0,2,3,4,6,7,8],.sel [0,1,2,3],.ty .fld,.ty .fld,.el .shp x2,.at 0,.keep [0,2,3,4,6,7,8],.sel [0,1,2,3],.as 40 z63,.at 0,.keep [0,2,3,4,6,7,8],.sel [0,1,2,3]] (.next)) (.give 13 3 x2 (.seg [.as 40 z63,.at 0,.keep [0,2,3,4,6,7,8],.sel [0,1,2,3]] (.next))))))) (.intro z64 fun x1=> .take 20 3 q2.i x1 (.seg [.ord z82 [],.call [] (.v (vB (Cc x1.fields o7.x))) []] (.br (.seg [.tree z80 14 [6],.ty .fld,.ty .fld,.el .shp x1,.at 0,.keep [0,2,3,4,6,7,8],.sel [0,1,2,3],.ty .fld,.ty .fld,.el .shp x1,.at 0,.keep [0,2,3,4,6,7,8],.sel [0,1,2,3],.as 40 z63,.at 0,.keep [0,2,3,4,6,7,8],.sel [0,1,2,3]] (.next)) (.give 13 3 x1 (.seg [.as 40 z63,.at 0,.keep [0,2,3,4,6,7,8],.sel [0,1,2,3]] (.next)))))))))) (.br (.seg [.call [] (.v (vB (Cg (1+o4.x)))) []] (.br (.intro (Am o6.c1 2) fun o7=> .seg [.call [0] (.v (vB o7.p)) (Kc o7.c1)] (.br (.intro (Aa o7.c1 z77) fun o8=> .intro (Sx (q3.msgs[Int.toNat o8.x]?)) fun x1=> .seg [.tree z81 9 [0],.call [0] (.v (vI o8.x)) (Kc o8.c1),.el .shp x1,.at 0,.keep [0,2,3,4,6,7,8,9],.sel [0,1,2,3,4]] (.intro z64 fun x2=> .take 20 3 q2.i x2 (.seg [.ord z82 [],.call [] (.v (vB (Cc x2.fields z61))) []] (.br (.seg [.tree z80 14 [5],.ty .fld,.ty .fld,.el .shp x2,.at 0,.keep [0,2,3,4,6,7,8],.sel [0,1,2,3],.ty .fld,.ty .fld,.el .shp x2,.at 0,.keep [0,2,3,4,6,7,8],.sel [0,1,2,3],.as 40 z63,.at 0,.keep [0,2,3,4,6,7,8],.sel [0,1,2,3]] (.next)) (.give 13 3 x2 (.seg [.as 40 z63,.at 0,.keep [0,2,3,4,6,7,8],.sel [0,1,2,3]] (.next))))))) (.intro z64 fun x1=> .take 20 3 q2.i x1 (.seg [.ord z82 [],.call [] (.v (vB (Cc x1.fields z61))) []] (.br (.seg [.tree z80 14 [5],.ty .fld,.ty .fld,.el .shp x1,.at 0,.keep [0,2,3,4,6,7,8],.sel [0,1,2,3],.ty .fld,.ty .fld,.el .shp x1,.at 0,.keep [0,2,3,4,6,7,8],.sel [0,1,2,3],.as 40 z63,.at 0,.keep [0,2,3,4,6,7,8],.sel [0,1,2,3]] (.next)) (.give 13 3 x1 (.seg [.as 40 z63,.at 0,.keep [0,2,3,4,6,7,8],.sel [0,1,2,3]] (.next)))))))) (.br (.intro (Aa o6.c1 z77) fun o7=> .intro (Sx (q3.msgs[Int.toNat o7.x]?)) fun x1=> .seg [.tree z81 9 [0],.call [0] (.v (vI o7.x)) (Kc o7.c1),.el .shp x1,.at 0,.keep [0,2,3,4,6,7,8,9],.sel [0,1,2,3,4]] (.intro z64 fun x2=> .take 20 3 q2.i x2 (.seg [.ord z82 [],.call [] (.v (vB (Cc x2.fields z61))) []] (.br (.seg [.tree z80 14 [5],.ty .fld,.ty .fld,.el .shp x2,.at 0,.keep [0,2,3,4,6,7,8],.sel [0,1,2,3],.ty .fld,.ty .fld,.el .shp x2,.at 0,.keep [0,2,3,4,6,7,8],.sel [0,1,2,3],.as 40 z63,.at 0,.keep [0,2,3,4,6,7,8],.sel [0,1,2,3]] (.next)) (.give 13 3 x2 (.seg [.as 40 z63,.at 0,.keep [0,2,3,4,6,7,8],.sel [0,1,2,3]] (.next))))))) (.intro z64 fun x1=> .take 20 3 q2.i x1 (.seg [.ord z82 [],.call [] (.v (vB (Cc x1.fields z61))) []] (.br (.seg [.tree z80 14 [5],.ty .fld,.ty .fld,.el .shp x1,.at 0,.keep [0,2,3,4,6,7,8],.sel [0,1,2,3],.ty .fld,.ty .fld,.el .shp x1,.at 0,.keep [0,2,3,4,6,7,8],.sel [0,1,2,3],.as 40 z63,.at 0,.keep [0,2,3,4,6,7,8],.sel [0,1,2,3]] (.next)) (.give 13 3 x1 (.seg [.as 40 z63,.at 0,.keep [0,2,3,4,6,7,8],.sel [0,1,2,3]] (.next))))))))) (.br (.intro (Aa o6.c1 z77) fun o7=> .intro (Sx (q3.msgs[Int.toNat o7.x]?)) fun x1=> .seg [.tree z81 9 [0],.call [0] (.v (vI o7.x)) (Kc o7.c1),.el .shp x1,.at 0,.keep [0,2,3,4,6,7,8,9],.sel [0,1,2,3,4]] (.intro z64 fun x2=> .take 20 3 q2.i x2 (.seg [.ord z82 [],.call [] (.v (vB (Cc x2.fields z61))) []] (.br (.seg [.tree z80 14 [5],.ty .fld,.ty .fld,.el .shp x2,.at 0,.keep [0,2,3,4,6,7,8],.sel [0,1,2,3],.ty .fld,.ty .fld,.el .shp x2,.at 0,.keep [0,2,3,4,6,7,8],.sel [0,1,2,3],.as 40 z63,.at 0,.keep [0,2,3,4,6,7,8],.sel [0,1,2,3]] (.next)) (.give 13 3 x2 (.seg [.as 40 z63,.at 0,.keep [0,2,3,4,6,7,8],.sel [0,1,2,3]] (.next))))))) (.intro z64 fun x1=> .take 20 3 q2.i x1 (.seg [.ord z82 [],.call [] (.v (vB (Cc x1.fields z61))) []] (.br (.seg [.tree z80 14 [5],.ty .fld,.ty .fld,.el .shp x1,.at 0,.keep [0,2,3,4,6,7,8],.sel [0,1,2,3],.ty .fld,.ty .fld,.el .shp x1,.at 0,.keep [0,2,3,4,6,7,8],.sel [0,1,2,3],.as 40 z63,.at 0,.keep [0,2,3,4,6,7,8],.sel [0,1,2,3]] (.next)) (.give 13 3 x1 (.seg [.as 40 z63,.at 0,.keep [0,2,3,4,6,7,8],.sel [0,1,2,3]] (.next))))))))))))) (.seg [.as 33 (.v (vI (((q2.i:Nat):Int)+1))),.at 0,.keep [0,2,3,4,6],.sel [0,1,2,3]] (.next)))) (.leaf (⟨(⟨q2.msgs⟩:Raw),q2.c⟩:M4) [0,3])))),In (Aa c 3) fun o1=>(let z79:=1+o1.x;let z78:=vI z79;(Aj c 3 o1)∧(wI z79)∧(Fr o1).Has [(0,.v (vP 0)),(2,.v (vP 1)),(3,.v (vP 2)),(4,.v z78),(5,.v (vI 0))] [.cells (Cm o1.c1),.cells [.nil],.cells [.own 3],.tree ([]:List Shp)]∧∀q1,(Fr o1).inv q1→(let z76:=((q1.i:Nat):Int);Bc (decide (z76<1+o1.x)) (El ([5,1,99,7][q1.i]?) fun x1=>((z76<((List.length [5,1,99,7]:Nat):Int))∧((0:Int)≤z76)∧([5,1,99,7][q1.i]? =some x1)∧(List.length q1.msgs+List.length [(⟨x1,([]:List Fld)⟩:Shp)]≤Bk)∧(wI (z76+1))∧(Fr o1).Nxt q1 [(0,.v (vP 0)),(2,.v (vP 1)),(3,.v (vP 2)),(4,.v z78),(5,.v (vI (z76+1)))] [.cells (Cm q1.c),.cells [.nil],.cells [.own 3],.tree (q1.msgs++[(⟨x1,([]:List Fld)⟩:Shp)])])) ((Ft o1).Has [(0,.v (vP 0)),(2,.v (vP 1)),(3,.v (vP 2)),(4,.v z78),(6,.v (vI 0))] [.cells (Cm q1.c),.cells [.nil],.cells [.own 3],.tree q1.msgs]∧∀q2,(Ft o1).inv q2→(let z73:=q2.i=q2.i;let z75:=((q2.i:Nat):Int);let z72:=(0:Int)≤z75;let z74:=vI z75;Bc (decide (z75<1+o1.x)) (In (Aa q2.c 6) fun o2=>(let z71:=H9 o1 q2 o2;(Aj q2.c 6 o2)∧z71.Has [(0,.v (vP 0)),(2,.v (vP 1)),(3,.v (vP 2)),(4,.v z78),(6,.v z74),(7,.v (vI o2.x)),(8,.v (vI 0))] [.cells (Cm o2.c1),.cells [.nil],.cells [.own 3],.tree q2.msgs]∧∀q3,z71.inv q3→(let z68:=q3.msgs[q2.i]?;let z69:=((List.length q3.msgs:Nat):Int);let z65:=z75<z69;let z70:=((q3.k:Nat):Int);let z66:=([(0,.v (vP 0)),(2,.v (vP 1)),(3,.v (vP 2)),(4,.v z78),(6,.v z74),(7,.v (vI o2.x)),(8,.v (vI z70))]:List (Nat×S))=[(0,.v (vP 0)),(2,.v (vP 1)),(3,.v (vP 2)),(4,.v z78),(6,.v z74),(7,.v (vI o2.x)),(8,.v (vI z70))];let z67:=z70+1;Bc (decide (z70<o2.x)) (In (Aa q3.c 12) fun o3=>(let z62:=1+o3.x;(Aj q3.c 12 o3)∧(wI z62)∧In (Aa o3.c1 8) fun o4=>(let z59:=decide (1+o4.x=8);let z60:=Cg (1+o4.x);(Aj o3.c1 8 o4)∧(wI (1+o4.x))∧In (Am o4.c1 2) fun o5=>(let z58:=(⟨1+o3.x,1+o4.x,o5.p,false,0⟩:Fld);(Bg o4.c1 2 o5)∧In (Am o5.c1 12) fun o6=>((Bg o5.c1 12 o6)∧Bc o6.p (In (B4 o6.c1 [16,2047,2048,18999,20000,536870911]) fun o7=>(let z29:=(⟨o7.x,1+o4.x,o5.p,false,0⟩:Fld);(Dk o6.c1 [16,2047,2048,18999,20000,536870911] o7)∧Bc o5.p ((Fp 207 [vI (1+o4.x)] [] (.v (vB z60)) [])∧Bc z60 (In (Am o7.c1 2) fun o8=>(let z10:=(⟨o7.x,1+o4.x,o5.p,o8.p,0⟩:Fld);(Bg o7.c1 2 o8)∧Bc z59 (In (Aa o8.c1 z79) fun o9=>(El (q3.msgs[Int.toNat o9.x]?) fun x1=>(let z5:=(⟨o7.x,1+o4.x,o5.p,o8.p,x1.id⟩:Fld);(Aj o8.c1 z79 o9)∧(o9.x<z69)∧((0:Int)≤o9.x)∧(q3.msgs[Int.toNat o9.x]? =some x1)∧El z68 fun x2=>(let z1:List Blk:=[.cells (Cm o9.c1),.cells [.nil],.cells [.own 3],.tree (List.set q3.msgs q2.i (⟨x2.id,x2.fields++[z5]⟩:Shp))];let z2:=z68.map (fun (x:Shp)=>x.fields.length)=some (List.length x2.fields);let z3:=List.length x2.fields+List.length [z5]≤Bk;let z4:=q3.msgs[q2.i]? =some x2;z4∧z65∧z72∧z65∧z72∧z73∧z2∧z73∧z2∧(Fp 237 [.c (.seq .fld x2.fields),vI o7.x] [] (.v (vB (Cc x2.fields o7.x))) [])∧Bc (!(Cc x2.fields o7.x)) (z65∧z72∧z65∧z72∧z73∧z2∧z3∧z65∧z72∧z65∧z72∧z73∧z4∧z73∧z2∧z3∧z65∧z72∧z65∧z72∧z73∧z4∧((z1:List Blk)=z1)∧z66∧(wI z67)∧z71.Nxt q3 [(0,.v (vP 0)),(2,.v (vP 1)),(3,.v (vP 2)),(4,.v z78),(6,.v z74),(7,.v (vI o2.x)),(8,.v (vI z67))] z1) ((List.length x2.fields=List.length x2.fields)∧z4∧(wI z67)∧z71.Nxt q3 [(0,.v (vP 0)),(2,.v (vP 1)),(3,.v (vP 2)),(4,.v z78),(6,.v z74),(7,.v (vI o2.x)),(8,.v (vI z67))] [.cells (Cm o9.c1),.cells [.nil],.cells [.own 3],.tree (List.set q3.msgs q2.i (⟨x2.id,x2.fields⟩:Shp))]))))) (El z68 fun x1=>(let z6:List Blk:=[.cells (Cm o8.c1),.cells [.nil],.cells [.own 3],.tree (List.set q3.msgs q2.i (⟨x1.id,x1.fields++[z10]⟩:Shp))];let z7:=z68.map (fun (x:Shp)=>x.fields.length)=some (List.length x1.fields);let z8:=List.length x1.fields+List.length [z10]≤Bk;let z9:=q3.msgs[q2.i]? =some x1;z9∧z65∧z72∧z65∧z72∧z73∧z7∧z73∧z7∧(Fp 237 [.c (.seq .fld x1.fields),vI o7.x] [] (.v (vB (Cc x1.fields o7.x))) [])∧Bc (!(Cc x1.fields o7.x)) (z65∧z72∧z65∧z72∧z73∧z7∧z8∧z65∧z72∧z65∧z72∧z73∧z9∧z73∧z7∧z8∧z65∧z72∧z65∧z72∧z73∧z9∧((z6:List Blk)=z6)∧z66∧(wI z67)∧z71.Nxt q3 [(0,.v (vP 0)),(2,.v (vP 1)),(3,.v (vP 2)),(4,.v z78),(6,.v z74),(7,.v (vI o2.x)),(8,.v (vI z67))] z6) ((List.length x1.fields=List.length x1.fields)∧z9∧(wI z67)∧z71.Nxt q3 [(0,.v (vP 0)),(2,.v (vP 1)),(3,.v (vP 2)),(4,.v z78),(6,.v z74),(7,.v (vI o2.x)),(8,.v (vI z67))] [.cells (Cm o8.c1),.cells [.nil],.cells [.own 3],.tree (List.set q3.msgs q2.i (⟨x1.id,x1.fields⟩:Shp))]))))) (Bc z59 (In (Aa o7.c1 z79) fun o8=>(El (q3.msgs[Int.toNat o8.x]?) fun x1=>(let z15:=(⟨o7.x,1+o4.x,o5.p,false,x1.id⟩:Fld);(Aj o7.c1 z79 o8)∧(o8.x<z69)∧((0:Int)≤o8.x)∧(q3.msgs[Int.toNat o8.x]? =some x1)∧El z68 fun x2=>(let z11:List Blk:=[.cells (Cm o8.c1),.cells [.nil],.cells [.own 3],.tree (List.set q3.msgs q2.i (⟨x2.id,x2.fields++[z15]⟩:Shp))];let z12:=z68.map (fun (x:Shp)=>x.fields.length)=some (List.length x2.fields);let z13:=List.length x2.fields+List.length [z15]≤Bk;let z14:=q3.msgs[q2.i]? =some x2;z14∧z65∧z72∧z65∧z72∧z73∧z12∧z73∧z12∧(Fp 237 [.c (.seq .fld x2.fields),vI o7.x] [] (.v (vB (Cc x2.fields o7.x))) [])∧Bc (!(Cc x2.fields o7.x)) (z65∧z72∧z65∧z72∧z73∧z12∧z13∧z65∧z72∧z65∧z72∧z73∧z14∧z73∧z12∧z13∧z65∧z72∧z65∧z72∧z73∧z14∧((z11:List Blk)=z11)∧z66∧(wI z67)∧z71.Nxt q3 [(0,.v (vP 0)),(2,.v (vP 1)),(3,.v (vP 2)),(4,.v z78),(6,.v z74),(7,.v (vI o2.x)),(8,.v (vI z67))] z11) ((List.length x2.fields=List.length x2.fields)∧z14∧(wI z67)∧z71.Nxt q3 [(0,.v (vP 0)),(2,.v (vP 1)),(3,.v (vP 2)),(4,.v z78),(6,.v z74),(7,.v (vI o2.x)),(8,.v (vI z67))] [.cells (Cm o8.c1),.cells [.nil],.cells [.own 3],.tree (List.set q3.msgs q2.i (⟨x2.id,x2.fields⟩:Shp))]))))) (El z68 fun x1=>(let z16:List Blk:=[.cells (Cm o7.c1),.cells [.nil],.cells [.own 3],.tree (List.set q3.msgs q2.i (⟨x1.id,x1.fields++[z29]⟩:Shp))];let z17:=z68.map (fun (x:Shp)=>x.fields.length)=some (List.length x1.fields);let z18:=List.length x1.fields+List.length [z29]≤Bk;let z19:=q3.msgs[q2.i]? =some x1;z19∧z65∧z72∧z65∧z72∧z73∧z17∧z73∧z17∧(Fp 237 [.c (.seq .fld x1.fields),vI o7.x] [] (.v (vB (Cc x1.fields o7.x))) [])∧Bc (!(Cc x1.fields o7.x)) (z65∧z72∧z65∧z72∧z73∧z17∧z18∧z65∧z72∧z65∧z72∧z73∧z19∧z73∧z17∧z18∧z65∧z72∧z65∧z72∧z73∧z19∧((z16:List Blk)=z16)∧z66∧(wI z67)∧z71.Nxt q3 [(0,.v (vP 0)),(2,.v (vP 1)),(3,.v (vP 2)),(4,.v z78),(6,.v z74),(7,.v (vI o2.x)),(8,.v (vI z67))] z16) ((List.length x1.fields=List.length x1.fields)∧z19∧(wI z67)∧z71.Nxt q3 [(0,.v (vP 0)),(2,.v (vP 1)),(3,.v (vP 2)),(4,.v z78),(6,.v z74),(7,.v (vI o2.x)),(8,.v (vI z67))] [.cells (Cm o7.c1),.cells [.nil],.cells [.own 3],.tree (List.set q3.msgs q2.i (⟨x1.id,x1.fields⟩:Shp))]))))) (Bc z59 (In (Aa o7.c1 z79) fun o8=>(El (q3.msgs[Int.toNat o8.x]?) fun x1=>(let z24:=(⟨o7.x,1+o4.x,o5.p,false,x1.id⟩:Fld);(Aj o7.c1 z79 o8)∧(o8.x<z69)∧((0:Int)≤o8.x)∧(q3.msgs[Int.toNat o8.x]? =some x1)∧El z68 fun x2=>(let z20:List Blk:=[.cells (Cm o8.c1),.cells [.nil],.cells [.own 3],.tree (List.set q3.msgs q2.i (⟨x2.id,x2.fields++[z24]⟩:Shp))];let z21:=z68.map (fun (x:Shp)=>x.fields.length)=some (List.length x2.fields);let z22:=List.length x2.fields+List.length [z24]≤Bk;let z23:=q3.msgs[q2.i]? =some x2;z23∧z65∧z72∧z65∧z72∧z73∧z21∧z73∧z21∧(Fp 237 [.c (.seq .fld x2.fields),vI o7.x] [] (.v (vB (Cc x2.fields o7.x))) [])∧Bc (!(Cc x2.fields o7.x)) (z65∧z72∧z65∧z72∧z73∧z21∧z22∧z65∧z72∧z65∧z72∧z73∧z23∧z73∧z21∧z22∧z65∧z72∧z65∧z72∧z73∧z23∧((z20:List Blk)=z20)∧z66∧(wI z67)∧z71.Nxt q3 [(0,.v (vP 0)),(2,.v (vP 1)),(3,.v (vP 2)),(4,.v z78),(6,.v z74),(7,.v (vI o2.x)),(8,.v (vI z67))] z20) ((List.length x2.fields=List.length x2.fields)∧z23∧(wI z67)∧z71.Nxt q3 [(0,.v (vP 0)),(2,.v (vP 1)),(3,.v (vP 2)),(4,.v z78),(6,.v z74),(7,.v (vI o2.x)),(8,.v (vI z67))] [.cells (Cm o8.c1),.cells [.nil],.cells [.own 3],.tree (List.set q3.msgs q2.i (⟨x2.id,x2.fields⟩:Shp))]))))) (El z68 fun x1=>(let z25:List Blk:=[.cells (Cm o7.c1),.cells [.nil],.cells [.own 3],.tree (List.set q3.msgs q2.i (⟨x1.id,x1.fields++[z29]⟩:Shp))];let z26:=z68.map (fun (x:Shp)=>x.fields.length)=some (List.length x1.fields);let z27:=List.length x1.fields+List.length [z29]≤Bk;let z28:=q3.msgs[q2.i]? =some x1;z28∧z65∧z72∧z65∧z72∧z73∧z26∧z73∧z26∧(Fp 237 [.c (.seq .fld x1.fields),vI o7.x] [] (.v (vB (Cc x1.fields o7.x))) [])∧Bc (!(Cc x1.fields o7.x)) (z65∧z72∧z65∧z72∧z73∧z26∧z27∧z65∧z72∧z65∧z72∧z73∧z28∧z73∧z26∧z27∧z65∧z72∧z65∧z72∧z73∧z28∧((z25:List Blk)=z25)∧z66∧(wI z67)∧z71.Nxt q3 [(0,.v (vP 0)),(2,.v (vP 1)),(3,.v (vP 2)),(4,.v z78),(6,.v z74),(7,.v (vI o2.x)),(8,.v (vI z67))] z25) ((List.length x1.fields=List.length x1.fields)∧z28∧(wI z67)∧z71.Nxt q3 [(0,.v (vP 0)),(2,.v (vP 1)),(3,.v (vP 2)),(4,.v z78),(6,.v z74),(7,.v (vI o2.x)),(8,.v (vI z67))] [.cells (Cm o7.c1),.cells [.nil],.cells [.own 3],.tree (List.set q3.msgs q2.i (⟨x1.id,x1.fields⟩:Shp))])))))) (Bc o5.p ((Fp 207 [vI (1+o4.x)] [] (.v (vB z60)) [])∧Bc z60 (In (Am o6.c1 2) fun o7=>(let z39:=(⟨1+o3.x,1+o4.x,o5.p,o7.p,0⟩:Fld);(Bg o6.c1 2 o7)∧Bc z59 (In (Aa o7.c1 z79) fun o8=>(El (q3.msgs[Int.toNat o8.x]?) fun x1=>(let z34:=(⟨1+o3.x,1+o4.x,o5.p,o7.p,x1.id⟩:Fld);(Aj o7.c1 z79 o8)∧(o8.x<z69)∧((0:Int)≤o8.x)∧(q3.msgs[Int.toNat o8.x]? =some x1)∧El z68 fun x2=>(let z30:List Blk:=[.cells (Cm o8.c1),.cells [.nil],.cells [.own 3],.tree (List.set q3.msgs q2.i (⟨x2.id,x2.fields++[z34]⟩:Shp))];let z31:=z68.map (fun (x:Shp)=>x.fields.length)=some (List.length x2.fields);let z32:=List.length x2.fields+List.length [z34]≤Bk;let z33:=q3.msgs[q2.i]? =some x2;z33∧z65∧z72∧z65∧z72∧z73∧z31∧z73∧z31∧(Fp 237 [.c (.seq .fld x2.fields),vI z62] [] (.v (vB (Cc x2.fields z62))) [])∧Bc (!(Cc x2.fields z62)) (z65∧z72∧z65∧z72∧z73∧z31∧z32∧z65∧z72∧z65∧z72∧z73∧z33∧z73∧z31∧z32∧z65∧z72∧z65∧z72∧z73∧z33∧((z30:List Blk)=z30)∧z66∧(wI z67)∧z71.Nxt q3 [(0,.v (vP 0)),(2,.v (vP 1)),(3,.v (vP 2)),(4,.v z78),(6,.v z74),(7,.v (vI o2.x)),(8,.v (vI z67))] z30) ((List.length x2.fields=List.length x2.fields)∧z33∧(wI z67)∧z71.Nxt q3 [(0,.v (vP 0)),(2,.v (vP 1)),(3,.v (vP 2)),(4,.v z78),(6,.v z74),(7,.v (vI o2.x)),(8,.v (vI z67))] [.cells (Cm o8.c1),.cells [.nil],.cells [.own 3],.tree (List.set q3.msgs q2.i (⟨x2.id,x2.fields⟩:Shp))]))))) (El z68 fun x1=>(let z35:List Blk:=[.cells (Cm o7.c1),.cells [.nil],.cells [.own 3],.tree (List.set q3.msgs q2.i (⟨x1.id,x1.fields++[z39]⟩:Shp))];let z36:=z68.map (fun (x:Shp)=>x.fields.length)=some (List.length x1.fields);let z37:=List.length x1.fields+List.length [z39]≤Bk;let z38:=q3.msgs[q2.i]? =some x1;z38∧z65∧z72∧z65∧z72∧z73∧z36∧z73∧z36∧(Fp 237 [.c (.seq .fld x1.fields),vI z62] [] (.v (vB (Cc x1.fields z62))) [])∧Bc (!(Cc x1.fields z62)) (z65∧z72∧z65∧z72∧z73∧z36∧z37∧z65∧z72∧z65∧z72∧z73∧z38∧z73∧z36∧z37∧z65∧z72∧z65∧z72∧z73∧z38∧((z35:List Blk)=z35)∧z66∧(wI z67)∧z71.Nxt q3 [(0,.v (vP 0)),(2,.v (vP 1)),(3,.v (vP 2)),(4,.v z78),(6,.v z74),(7,.v (vI o2.x)),(8,.v (vI z67))] z35) ((List.length x1.fields=List.length x1.fields)∧z38∧(wI z67)∧z71.Nxt q3 [(0,.v (vP 0)),(2,.v (vP 1)),(3,.v (vP 2)),(4,.v z78),(6,.v z74),(7,.v (vI o2.x)),(8,.v (vI z67))] [.cells (Cm o7.c1),.cells [.nil],.cells [.own 3],.tree (List.set q3.msgs q2.i (⟨x1.id,x1.fields⟩:Shp))]))))) (Bc z59 (In (Aa o6.c1 z79) fun o7=>(El (q3.msgs[Int.toNat o7.x]?) fun x1=>(let z44:=(⟨1+o3.x,1+o4.x,o5.p,false,x1.id⟩:Fld);(Aj o6.c1 z79 o7)∧(o7.x<z69)∧((0:Int)≤o7.x)∧(q3.msgs[Int.toNat o7.x]? =some x1)∧El z68 fun x2=>(let z40:List Blk:=[.cells (Cm o7.c1),.cells [.nil],.cells [.own 3],.tree (List.set q3.msgs q2.i (⟨x2.id,x2.fields++[z44]⟩:Shp))];let z41:=z68.map (fun (x:Shp)=>x.fields.length)=some (List.length x2.fields);let z42:=List.length x2.fields+List.length [z44]≤Bk;let z43:=q3.msgs[q2.i]? =some x2;z43∧z65∧z72∧z65∧z72∧z73∧z41∧z73∧z41∧(Fp 237 [.c (.seq .fld x2.fields),vI z62] [] (.v (vB (Cc x2.fields z62))) [])∧Bc (!(Cc x2.fields z62)) (z65∧z72∧z65∧z72∧z73∧z41∧z42∧z65∧z72∧z65∧z72∧z73∧z43∧z73∧z41∧z42∧z65∧z72∧z65∧z72∧z73∧z43∧((z40:List Blk)=z40)∧z66∧(wI z67)∧z71.Nxt q3 [(0,.v (vP 0)),(2,.v (vP 1)),(3,.v (vP 2)),(4,.v z78),(6,.v z74),(7,.v (vI o2.x)),(8,.v (vI z67))] z40) ((List.length x2.fields=List.length x2.fields)∧z43∧(wI z67)∧z71.Nxt q3 [(0,.v (vP 0)),(2,.v (vP 1)),(3,.v (vP 2)),(4,.v z78),(6,.v z74),(7,.v (vI o2.x)),(8,.v (vI z67))] [.cells (Cm o7.c1),.cells [.nil],.cells [.own 3],.tree (List.set q3.msgs q2.i (⟨x2.id,x2.fields⟩:Shp))]))))) (El z68 fun x1=>(let z45:List Blk:=[.cells (Cm o6.c1),.cells [.nil],.cells [.own 3],.tree (List.set q3.msgs q2.i (⟨x1.id,x1.fields++[z58]⟩:Shp))];let z46:=z68.map (fun (x:Shp)=>x.fields.length)=some (List.length x1.fields);let z47:=List.length x1.fields+List.length [z58]≤Bk;let z48:=q3.msgs[q2.i]? =some x1;z48∧z65∧z72∧z65∧z72∧z73∧z46∧z73∧z46∧(Fp 237 [.c (.seq .fld x1.fields),vI z62] [] (.v (vB (Cc x1.fields z62))) [])∧Bc (!(Cc x1.fields z62)) (z65∧z72∧z65∧z72∧z73∧z46∧z47∧z65∧z72∧z65∧z72∧z73∧z48∧z73∧z46∧z47∧z65∧z72∧z65∧z72∧z73∧z48∧((z45:List Blk)=z45)∧z66∧(wI z67)∧z71.Nxt q3 [(0,.v (vP 0)),(2,.v (vP 1)),(3,.v (vP 2)),(4,.v z78),(6,.v z74),(7,.v (vI o2.x)),(8,.v (vI z67))] z45) ((List.length x1.fields=List.length x1.fields)∧z48∧(wI z67)∧z71.Nxt q3 [(0,.v (vP 0)),(2,.v (vP 1)),(3,.v (vP 2)),(4,.v z78),(6,.v z74),(7,.v (vI o2.x)),(8,.v (vI z67))] [.cells (Cm o6.c1),.cells [.nil],.cells [.own 3],.tree (List.set q3.msgs q2.i (⟨x1.id,x1.fields⟩:Shp))]))))) (Bc z59 (In (Aa o6.c1 z79) fun o7=>(El (q3.msgs[Int.toNat o7.x]?) fun x1=>(let z53:=(⟨1+o3.x,1+o4.x,o5.p,false,x1.id⟩:Fld);(Aj o6.c1 z79 o7)∧(o7.x<z69)∧((0:Int)≤o7.x)∧(q3.msgs[Int.toNat o7.x]? =some x1)∧El z68 fun x2=>(let z49:List Blk:=[.cells (Cm o7.c1),.cells [.nil],.cells [.own 3],.tree (List.set q3.msgs q2.i (⟨x2.id,x2.fields++[z53]⟩:Shp))];let z50:=z68.map (fun (x:Shp)=>x.fields.length)=some (List.length x2.fields);let z51:=List.length x2.fields+List.length [z53]≤Bk;let z52:=q3.msgs[q2.i]? =some x2;z52∧z65∧z72∧z65∧z72∧z73∧z50∧z73∧z50∧(Fp 237 [.c (.seq .fld x2.fields),vI z62] [] (.v (vB (Cc x2.fields z62))) [])∧Bc (!(Cc x2.fields z62)) (z65∧z72∧z65∧z72∧z73∧z50∧z51∧z65∧z72∧z65∧z72∧z73∧z52∧z73∧z50∧z51∧z65∧z72∧z65∧z72∧z73∧z52∧((z49:List Blk)=z49)∧z66∧(wI z67)∧z71.Nxt q3 [(0,.v (vP 0)),(2,.v (vP 1)),(3,.v (vP 2)),(4,.v z78),(6,.v z74),(7,.v (vI o2.x)),(8,.v (vI z67))] z49) ((List.length x2.fields=List.length x2.fields)∧z52∧(wI z67)∧z71.Nxt q3 [(0,.v (vP 0)),(2,.v (vP 1)),(3,.v (vP 2)),(4,.v z78),(6,.v z74),(7,.v (vI o2.x)),(8,.v (vI z67))] [.cells (Cm o7.c1),.cells [.nil],.cells [.own 3],.tree (List.set q3.msgs q2.i (⟨x2.id,x2.fields⟩:Shp))]))))) (El z68 fun x1=>(let z54:List Blk:=[.cells (Cm o6.c1),.cells [.nil],.cells [.own 3],.tree (List.set q3.msgs q2.i (⟨x1.id,x1.fields++[z58]⟩:Shp))];let z55:=z68.map (fun (x:Shp)=>x.fields.length)=some (List.length x1.fields);let z56:=List.length x1.fields+List.length [z58]≤Bk;let z57:=q3.msgs[q2.i]? =some x1;z57∧z65∧z72∧z65∧z72∧z73∧z55∧z73∧z55∧(Fp 237 [.c (.seq .fld x1.fields),vI z62] [] (.v (vB (Cc x1.fields z62))) [])∧Bc (!(Cc x1.fields z62)) (z65∧z72∧z65∧z72∧z73∧z55∧z56∧z65∧z72∧z65∧z72∧z73∧z57∧z73∧z55∧z56∧z65∧z72∧z65∧z72∧z73∧z57∧((z54:List Blk)=z54)∧z66∧(wI z67)∧z71.Nxt q3 [(0,.v (vP 0)),(2,.v (vP 1)),(3,.v (vP 2)),(4,.v z78),(6,.v z74),(7,.v (vI o2.x)),(8,.v (vI z67))] z54) ((List.length x1.fields=List.length x1.fields)∧z57∧(wI z67)∧z71.Nxt q3 [(0,.v (vP 0)),(2,.v (vP 1)),(3,.v (vP 2)),(4,.v z78),(6,.v z74),(7,.v (vI o2.x)),(8,.v (vI z67))] [.cells (Cm o6.c1),.cells [.nil],.cells [.own 3],.tree (List.set q3.msgs q2.i (⟨x1.id,x1.fields⟩:Shp))])))))))))) ((wI (z75+1))∧(Ft o1).Nxt q2 [(0,.v (vP 0)),(2,.v (vP 1)),(3,.v (vP 2)),(4,.v z78),(6,.v (vI (z75+1)))] [.cells (Cm q3.c),.cells [.nil],.cells [.own 3],.tree q3.msgs])))) (((RawK (List.length ((⟨q2.msgs⟩:Raw)).msgs) ((⟨q2.msgs⟩:Raw)).msgs)∧(A0 q2.c))∧Lf (.v (.agg [.own 1])) (.v (.agg [.own 1])) [.cells (Cm q2.c),.tree q2.msgs] [.cells (Cm q2.c),.tree q2.msgs]))))))) Q4 ?_
 refine⟨(Av c 3 Q0),fun o1 ho_o1=>?_⟩
 obtain ⟨⟨hp_o1_0,hp_o1_1,hp_o1_2,hp_o1_3⟩,hf_o1⟩:=ho_o1
 refine⟨hf_o1,(Af Q2 Q2),Cn (j:=(⟨o1.c1,([]:List Shp),0⟩:Lc)) Q9 rfl (by dsimp only[Fr];exact⟨by assumption,by omega,rfl,rfl,fun m hm=>by cases hm⟩),fun (q1:Lc) hq_q1=>?_⟩
 have hi_q1:A0 q1.c∧((q1.i:Nat):Int)≤1+o1.x∧List.length q1.msgs=q1.i∧G5 q1.msgs=List.take q1.i [5,1,99]∧∀m∈q1.msgs,m.fields=[]:=hq_q1
 obtain ⟨v1,v2,v3,v4,v5⟩:=hi_q1
 refine dsp (fun h1 p1=>?_) fun h1 p1=>?_
 refine⟨(Bp (l:=[5,1,99,7]) (i:=q1.i) Q5),fun x1 hx1=>?_⟩
 exact⟨Q5,Q2,hx1,Q5,(Af Q2 Q2),Be (j:=(⟨q1.c,q1.msgs++[(⟨x1,([]:List Fld)⟩:Shp)],q1.i+1⟩:Lc)) Q9 rfl (by dsimp only[Fr];exact⟨by assumption,by omega,by simp;omega,Ahs v4 Q2 hx1,fun m hm=>by rcases List.mem_append.1 hm with hm|hm;exact v5 m hm;simp at hm;rw[hm]⟩) (by dsimp only[Fr];omega)⟩
 refine⟨Cn (j:=(⟨q1.c,q1.msgs,0⟩:H8)) Q9 rfl (by dsimp only[Ft];exact⟨by assumption,by omega,Aht Q2 Q2 (by rw[v4];congr 1;omega) v5,fun j m _ hm=>v5 m (List.mem_of_getElem? hm)⟩),fun (q2:H8) hq_q2=>?_⟩
 have hi_q2:A0 q2.c∧q2.i≤Int.toNat (1+o1.x)∧RawK (Int.toNat (1+o1.x)) q2.msgs∧∀j m,q2.i≤j→q2.msgs[j]? =some m→m.fields=[]:=hq_q2
 obtain ⟨u1,u2,u3,u4⟩:=hi_q2
 have upos:=u3.pos
 have ulen:=u3.len
 refine dsp (fun h2 p2=>?_) fun h2 p2=>?_
 refine⟨(Av q2.c 6 Q0),fun o2 ho_o2=>?_⟩
 obtain ⟨⟨hp_o2_0,hp_o2_1,hp_o2_2,hp_o2_3⟩,hf_o2⟩:=ho_o2
 refine⟨hf_o2,Cn (j:=(⟨o2.c1,q2.msgs,0⟩:Bi)) Q9 rfl (by dsimp only[H9];exact⟨by assumption,by omega,u3,fun j m hj hm=>u4 j m Q2 hm,fun m hm=>by rw[u4 _ m (Nat.le_refl _) hm];exact Nat.le_refl _⟩),fun (q3:Bi) hq_q3=>?_⟩
 have hi_q3:A0 q3.c∧q3.k≤5∧RawK (Int.toNat (1+o1.x)) q3.msgs∧(∀j m,q2.i<j→q3.msgs[j]? =some m→m.fields=[])∧∀m,q3.msgs[q2.i]? =some m→List.length m.fields≤q3.k:=hq_q3
 obtain ⟨w1,w2,w3,w4,w5⟩:=hi_q3
 have wlen:=w3.len
 refine dsp (fun h3 p3=>?_) fun h3 p3=>?_
 refine⟨(Av q3.c 12 Q0),fun o3 ho_o3=>?_⟩
 obtain ⟨⟨hp_o3_0,hp_o3_1,hp_o3_2,hp_o3_3⟩,hf_o3⟩:=ho_o3
 refine⟨hf_o3,(Af Q2 Q2),(Av o3.c1 8 Q0),fun o4 ho_o4=>?_⟩
 obtain ⟨⟨hp_o4_0,hp_o4_1,hp_o4_2,hp_o4_3⟩,hf_o4⟩:=ho_o4
 refine⟨hf_o4,(Af Q2 Q2),(Bz o4.c1 2 Q0),fun o5 ho_o5=>?_⟩
 obtain ⟨hp_o5,hf_o5⟩:=ho_o5
 refine⟨hf_o5,(Bz o5.c1 12 Q0),fun o6 ho_o6=>?_⟩
 obtain ⟨hp_o6,hf_o6⟩:=ho_o6
 refine⟨hf_o6,fun h4=>?_,fun h4=>?_⟩
 refine⟨(Fo o6.c1 [16,2047,2048,18999,20000,536870911] Q0 Q5 Q5),fun o7 ho_o7=>?_⟩
 obtain ⟨⟨hp_o7_0,hp_o7_1⟩,hf_o7⟩:=ho_o7
 refine⟨hf_o7,fun h5=>?_,fun h5=>?_⟩
 refine⟨(Ln _),fun h6=>have p6:=Aw h6;?_,fun h6=>have p6:=A7 h6;?_⟩
 refine⟨(Bz o7.c1 2 Q0),fun o8 ho_o8=>?_⟩
 obtain ⟨hp_o8,hf_o8⟩:=ho_o8
 refine⟨hf_o8,dsp (fun h7 p7=>?_) fun h7 p7=>?_⟩
 refine⟨(Av o8.c1 (1+o1.x) Q0),fun o9 ho_o9=>?_⟩
 obtain ⟨⟨hp_o9_0,hp_o9_1,hp_o9_2,hp_o9_3⟩,hf_o9⟩:=ho_o9
 refine⟨(Bp (l:=q3.msgs) (i:=Int.toNat o9.x) Q2),fun x1 hx1=>?_⟩
 have hri:x1.id∈G5 q3.msgs:=List.mem_map.2 ⟨_,List.mem_of_getElem? hx1,rfl⟩
 refine⟨hf_o9,Q2,Q2,hx1,(Bp (l:=q3.msgs) (i:=q2.i) Q2),fun x2 hx2=>?_⟩
 have hxl:=w5 _ hx2
 have hsame:=Ge hx2
 refine⟨hx2,Q2,Q2,Q2,Q2,rfl,Q35,rfl,Q35,(F2 _ _ Q2),fun h8=>have q8:=Aq h8;?_,fun h8=>have q8:=Ap h8;?_⟩
 exact⟨Q2,Q2,Q2,Q2,rfl,Q35,Q5,Q2,Q2,Q2,Q2,rfl,hx2,rfl,Q35,Q5,Q2,Q2,Q2,Q2,rfl,hx2,rfl,rfl,(Af Q2 Q2),Be (j:=(⟨o9.c1,List.set q3.msgs q2.i (⟨x2.id,x2.fields++[(⟨o7.x,1+o4.x,o5.p,o8.p,x1.id⟩:Fld)]⟩:Shp),q3.k+1⟩:Bi)) Q9 rfl Q1 Q20⟩
 exact⟨Q9,hx2,(Af Q2 Q2),Be (j:=(⟨o9.c1,List.set q3.msgs q2.i (⟨x2.id,x2.fields⟩:Shp),q3.k+1⟩:Bi)) Q9 rfl Q1 Q20⟩
 refine⟨(Bp (l:=q3.msgs) (i:=q2.i) Q2),fun x1 hx1=>?_⟩
 have hxl:=w5 _ hx1
 have hsame:=Ge hx1
 refine⟨hx1,Q2,Q2,Q2,Q2,rfl,Q29,rfl,Q29,(F2 _ _ Q2),fun h8=>have q8:=Aq h8;?_,fun h8=>have q8:=Ap h8;?_⟩
 exact⟨Q2,Q2,Q2,Q2,rfl,Q29,Q5,Q2,Q2,Q2,Q2,rfl,hx1,rfl,Q29,Q5,Q2,Q2,Q2,Q2,rfl,hx1,rfl,rfl,(Af Q2 Q2),Be (j:=(⟨o8.c1,List.set q3.msgs q2.i (⟨x1.id,x1.fields++[(⟨o7.x,1+o4.x,o5.p,o8.p,0⟩:Fld)]⟩:Shp),q3.k+1⟩:Bi)) Q9 rfl Q1 Q20⟩
 exact⟨Q9,hx1,(Af Q2 Q2),Be (j:=(⟨o8.c1,List.set q3.msgs q2.i (⟨x1.id,x1.fields⟩:Shp),q3.k+1⟩:Bi)) Q9 rfl Q1 Q20⟩
 refine dsp (fun h7 p7=>?_) fun h7 p7=>?_
 refine⟨(Av o7.c1 (1+o1.x) Q0),fun o8 ho_o8=>?_⟩
 obtain ⟨⟨hp_o8_0,hp_o8_1,hp_o8_2,hp_o8_3⟩,hf_o8⟩:=ho_o8
 refine⟨(Bp (l:=q3.msgs) (i:=Int.toNat o8.x) Q2),fun x1 hx1=>?_⟩
 have hri:x1.id∈G5 q3.msgs:=List.mem_map.2 ⟨_,List.mem_of_getElem? hx1,rfl⟩
 refine⟨hf_o8,Q2,Q2,hx1,(Bp (l:=q3.msgs) (i:=q2.i) Q2),fun x2 hx2=>?_⟩
 have hxl:=w5 _ hx2
 have hsame:=Ge hx2
 refine⟨hx2,Q2,Q2,Q2,Q2,rfl,Q35,rfl,Q35,(F2 _ _ Q2),fun h8=>have q8:=Aq h8;?_,fun h8=>have q8:=Ap h8;?_⟩
 exact⟨Q2,Q2,Q2,Q2,rfl,Q35,Q5,Q2,Q2,Q2,Q2,rfl,hx2,rfl,Q35,Q5,Q2,Q2,Q2,Q2,rfl,hx2,rfl,rfl,(Af Q2 Q2),Be (j:=(⟨o8.c1,List.set q3.msgs q2.i (⟨x2.id,x2.fields++[(⟨o7.x,1+o4.x,o5.p,false,x1.id⟩:Fld)]⟩:Shp),q3.k+1⟩:Bi)) Q9 rfl Q1 Q20⟩
 exact⟨Q9,hx2,(Af Q2 Q2),Be (j:=(⟨o8.c1,List.set q3.msgs q2.i (⟨x2.id,x2.fields⟩:Shp),q3.k+1⟩:Bi)) Q9 rfl Q1 Q20⟩
 refine⟨(Bp (l:=q3.msgs) (i:=q2.i) Q2),fun x1 hx1=>?_⟩
 have hxl:=w5 _ hx1
 have hsame:=Ge hx1
 refine⟨hx1,Q2,Q2,Q2,Q2,rfl,Q29,rfl,Q29,(F2 _ _ Q2),fun h8=>have q8:=Aq h8;?_,fun h8=>have q8:=Ap h8;?_⟩
 exact⟨Q2,Q2,Q2,Q2,rfl,Q29,Q5,Q2,Q2,Q2,Q2,rfl,hx1,rfl,Q29,Q5,Q2,Q2,Q2,Q2,rfl,hx1,rfl,rfl,(Af Q2 Q2),Be (j:=(⟨o7.c1,List.set q3.msgs q2.i (⟨x1.id,x1.fields++[(⟨o7.x,1+o4.x,o5.p,false,0⟩:Fld)]⟩:Shp),q3.k+1⟩:Bi)) Q9 rfl Q1 Q20⟩
 exact⟨Q9,hx1,(Af Q2 Q2),Be (j:=(⟨o7.c1,List.set q3.msgs q2.i (⟨x1.id,x1.fields⟩:Shp),q3.k+1⟩:Bi)) Q9 rfl Q1 Q20⟩
 refine dsp (fun h6 p6=>?_) fun h6 p6=>?_
 refine⟨(Av o7.c1 (1+o1.x) Q0),fun o8 ho_o8=>?_⟩
 obtain ⟨⟨hp_o8_0,hp_o8_1,hp_o8_2,hp_o8_3⟩,hf_o8⟩:=ho_o8
 refine⟨(Bp (l:=q3.msgs) (i:=Int.toNat o8.x) Q2),fun x1 hx1=>?_⟩
 have hri:x1.id∈G5 q3.msgs:=List.mem_map.2 ⟨_,List.mem_of_getElem? hx1,rfl⟩
 refine⟨hf_o8,Q2,Q2,hx1,(Bp (l:=q3.msgs) (i:=q2.i) Q2),fun x2 hx2=>?_⟩
 have hxl:=w5 _ hx2
 have hsame:=Ge hx2
 refine⟨hx2,Q2,Q2,Q2,Q2,rfl,Q35,rfl,Q35,(F2 _ _ Q2),fun h7=>have q7:=Aq h7;?_,fun h7=>have q7:=Ap h7;?_⟩
 exact⟨Q2,Q2,Q2,Q2,rfl,Q35,Q5,Q2,Q2,Q2,Q2,rfl,hx2,rfl,Q35,Q5,Q2,Q2,Q2,Q2,rfl,hx2,rfl,rfl,(Af Q2 Q2),Be (j:=(⟨o8.c1,List.set q3.msgs q2.i (⟨x2.id,x2.fields++[(⟨o7.x,1+o4.x,o5.p,false,x1.id⟩:Fld)]⟩:Shp),q3.k+1⟩:Bi)) Q9 rfl Q1 Q20⟩
 exact⟨Q9,hx2,(Af Q2 Q2),Be (j:=(⟨o8.c1,List.set q3.msgs q2.i (⟨x2.id,x2.fields⟩:Shp),q3.k+1⟩:Bi)) Q9 rfl Q1 Q20⟩
 refine⟨(Bp (l:=q3.msgs) (i:=q2.i) Q2),fun x1 hx1=>?_⟩
 have hxl:=w5 _ hx1
 have hsame:=Ge hx1
 refine⟨hx1,Q2,Q2,Q2,Q2,rfl,Q29,rfl,Q29,(F2 _ _ Q2),fun h7=>have q7:=Aq h7;?_,fun h7=>have q7:=Ap h7;?_⟩
 exact⟨Q2,Q2,Q2,Q2,rfl,Q29,Q5,Q2,Q2,Q2,Q2,rfl,hx1,rfl,Q29,Q5,Q2,Q2,Q2,Q2,rfl,hx1,rfl,rfl,(Af Q2 Q2),Be (j:=(⟨o7.c1,List.set q3.msgs q2.i (⟨x1.id,x1.fields++[(⟨o7.x,1+o4.x,o5.p,false,0⟩:Fld)]⟩:Shp),q3.k+1⟩:Bi)) Q9 rfl Q1 Q20⟩
 exact⟨Q9,hx1,(Af Q2 Q2),Be (j:=(⟨o7.c1,List.set q3.msgs q2.i (⟨x1.id,x1.fields⟩:Shp),q3.k+1⟩:Bi)) Q9 rfl Q1 Q20⟩
 refine⟨fun h5=>?_,fun h5=>?_⟩
 refine⟨(Ln _),fun h6=>have p6:=Aw h6;?_,fun h6=>have p6:=A7 h6;?_⟩
 refine⟨(Bz o6.c1 2 Q0),fun o7 ho_o7=>?_⟩
 obtain ⟨hp_o7,hf_o7⟩:=ho_o7
 refine⟨hf_o7,dsp (fun h7 p7=>?_) fun h7 p7=>?_⟩
 refine⟨(Av o7.c1 (1+o1.x) Q0),fun o8 ho_o8=>?_⟩
 obtain ⟨⟨hp_o8_0,hp_o8_1,hp_o8_2,hp_o8_3⟩,hf_o8⟩:=ho_o8
 refine⟨(Bp (l:=q3.msgs) (i:=Int.toNat o8.x) Q2),fun x1 hx1=>?_⟩
 have hri:x1.id∈G5 q3.msgs:=List.mem_map.2 ⟨_,List.mem_of_getElem? hx1,rfl⟩
 refine⟨hf_o8,Q2,Q2,hx1,(Bp (l:=q3.msgs) (i:=q2.i) Q2),fun x2 hx2=>?_⟩
 have hxl:=w5 _ hx2
 have hsame:=Ge hx2
 refine⟨hx2,Q2,Q2,Q2,Q2,rfl,Q35,rfl,Q35,(F2 _ _ Q2),fun h8=>have q8:=Aq h8;?_,fun h8=>have q8:=Ap h8;?_⟩
 exact⟨Q2,Q2,Q2,Q2,rfl,Q35,Q5,Q2,Q2,Q2,Q2,rfl,hx2,rfl,Q35,Q5,Q2,Q2,Q2,Q2,rfl,hx2,rfl,rfl,(Af Q2 Q2),Be (j:=(⟨o8.c1,List.set q3.msgs q2.i (⟨x2.id,x2.fields++[(⟨1+o3.x,1+o4.x,o5.p,o7.p,x1.id⟩:Fld)]⟩:Shp),q3.k+1⟩:Bi)) Q9 rfl Q1 Q20⟩
 exact⟨Q9,hx2,(Af Q2 Q2),Be (j:=(⟨o8.c1,List.set q3.msgs q2.i (⟨x2.id,x2.fields⟩:Shp),q3.k+1⟩:Bi)) Q9 rfl Q1 Q20⟩
 refine⟨(Bp (l:=q3.msgs) (i:=q2.i) Q2),fun x1 hx1=>?_⟩
 have hxl:=w5 _ hx1
 have hsame:=Ge hx1
 refine⟨hx1,Q2,Q2,Q2,Q2,rfl,Q29,rfl,Q29,(F2 _ _ Q2),fun h8=>have q8:=Aq h8;?_,fun h8=>have q8:=Ap h8;?_⟩
 exact⟨Q2,Q2,Q2,Q2,rfl,Q29,Q5,Q2,Q2,Q2,Q2,rfl,hx1,rfl,Q29,Q5,Q2,Q2,Q2,Q2,rfl,hx1,rfl,rfl,(Af Q2 Q2),Be (j:=(⟨o7.c1,List.set q3.msgs q2.i (⟨x1.id,x1.fields++[(⟨1+o3.x,1+o4.x,o5.p,o7.p,0⟩:Fld)]⟩:Shp),q3.k+1⟩:Bi)) Q9 rfl Q1 Q20⟩
 exact⟨Q9,hx1,(Af Q2 Q2),Be (j:=(⟨o7.c1,List.set q3.msgs q2.i (⟨x1.id,x1.fields⟩:Shp),q3.k+1⟩:Bi)) Q9 rfl Q1 Q20⟩
 refine dsp (fun h7 p7=>?_) fun h7 p7=>?_
 refine⟨(Av o6.c1 (1+o1.x) Q0),fun o7 ho_o7=>?_⟩
 obtain ⟨⟨hp_o7_0,hp_o7_1,hp_o7_2,hp_o7_3⟩,hf_o7⟩:=ho_o7
 refine⟨(Bp (l:=q3.msgs) (i:=Int.toNat o7.x) Q2),fun x1 hx1=>?_⟩
 have hri:x1.id∈G5 q3.msgs:=List.mem_map.2 ⟨_,List.mem_of_getElem? hx1,rfl⟩
 refine⟨hf_o7,Q2,Q2,hx1,(Bp (l:=q3.msgs) (i:=q2.i) Q2),fun x2 hx2=>?_⟩
 have hxl:=w5 _ hx2
 have hsame:=Ge hx2
 refine⟨hx2,Q2,Q2,Q2,Q2,rfl,Q35,rfl,Q35,(F2 _ _ Q2),fun h8=>have q8:=Aq h8;?_,fun h8=>have q8:=Ap h8;?_⟩
 exact⟨Q2,Q2,Q2,Q2,rfl,Q35,Q5,Q2,Q2,Q2,Q2,rfl,hx2,rfl,Q35,Q5,Q2,Q2,Q2,Q2,rfl,hx2,rfl,rfl,(Af Q2 Q2),Be (j:=(⟨o7.c1,List.set q3.msgs q2.i (⟨x2.id,x2.fields++[(⟨1+o3.x,1+o4.x,o5.p,false,x1.id⟩:Fld)]⟩:Shp),q3.k+1⟩:Bi)) Q9 rfl Q1 Q20⟩
 exact⟨Q9,hx2,(Af Q2 Q2),Be (j:=(⟨o7.c1,List.set q3.msgs q2.i (⟨x2.id,x2.fields⟩:Shp),q3.k+1⟩:Bi)) Q9 rfl Q1 Q20⟩
 refine⟨(Bp (l:=q3.msgs) (i:=q2.i) Q2),fun x1 hx1=>?_⟩
 have hxl:=w5 _ hx1
 have hsame:=Ge hx1
 refine⟨hx1,Q2,Q2,Q2,Q2,rfl,Q29,rfl,Q29,(F2 _ _ Q2),fun h8=>have q8:=Aq h8;?_,fun h8=>have q8:=Ap h8;?_⟩
 exact⟨Q2,Q2,Q2,Q2,rfl,Q29,Q5,Q2,Q2,Q2,Q2,rfl,hx1,rfl,Q29,Q5,Q2,Q2,Q2,Q2,rfl,hx1,rfl,rfl,(Af Q2 Q2),Be (j:=(⟨o6.c1,List.set q3.msgs q2.i (⟨x1.id,x1.fields++[(⟨1+o3.x,1+o4.x,o5.p,false,0⟩:Fld)]⟩:Shp),q3.k+1⟩:Bi)) Q9 rfl Q1 Q20⟩
 exact⟨Q9,hx1,(Af Q2 Q2),Be (j:=(⟨o6.c1,List.set q3.msgs q2.i (⟨x1.id,x1.fields⟩:Shp),q3.k+1⟩:Bi)) Q9 rfl Q1 Q20⟩
 refine dsp (fun h6 p6=>?_) fun h6 p6=>?_
 refine⟨(Av o6.c1 (1+o1.x) Q0),fun o7 ho_o7=>?_⟩
 obtain ⟨⟨hp_o7_0,hp_o7_1,hp_o7_2,hp_o7_3⟩,hf_o7⟩:=ho_o7
 refine⟨(Bp (l:=q3.msgs) (i:=Int.toNat o7.x) Q2),fun x1 hx1=>?_⟩
 have hri:x1.id∈G5 q3.msgs:=List.mem_map.2 ⟨_,List.mem_of_getElem? hx1,rfl⟩
 refine⟨hf_o7,Q2,Q2,hx1,(Bp (l:=q3.msgs) (i:=q2.i) Q2),fun x2 hx2=>?_⟩
 have hxl:=w5 _ hx2
 have hsame:=Ge hx2
 refine⟨hx2,Q2,Q2,Q2,Q2,rfl,Q35,rfl,Q35,(F2 _ _ Q2),fun h7=>have q7:=Aq h7;?_,fun h7=>have q7:=Ap h7;?_⟩
 exact⟨Q2,Q2,Q2,Q2,rfl,Q35,Q5,Q2,Q2,Q2,Q2,rfl,hx2,rfl,Q35,Q5,Q2,Q2,Q2,Q2,rfl,hx2,rfl,rfl,(Af Q2 Q2),Be (j:=(⟨o7.c1,List.set q3.msgs q2.i (⟨x2.id,x2.fields++[(⟨1+o3.x,1+o4.x,o5.p,false,x1.id⟩:Fld)]⟩:Shp),q3.k+1⟩:Bi)) Q9 rfl Q1 Q20⟩
 exact⟨Q9,hx2,(Af Q2 Q2),Be (j:=(⟨o7.c1,List.set q3.msgs q2.i (⟨x2.id,x2.fields⟩:Shp),q3.k+1⟩:Bi)) Q9 rfl Q1 Q20⟩
 refine⟨(Bp (l:=q3.msgs) (i:=q2.i) Q2),fun x1 hx1=>?_⟩
 have hxl:=w5 _ hx1
 have hsame:=Ge hx1
 refine⟨hx1,Q2,Q2,Q2,Q2,rfl,Q29,rfl,Q29,(F2 _ _ Q2),fun h7=>have q7:=Aq h7;?_,fun h7=>have q7:=Ap h7;?_⟩
 exact⟨Q2,Q2,Q2,Q2,rfl,Q29,Q5,Q2,Q2,Q2,Q2,rfl,hx1,rfl,Q29,Q5,Q2,Q2,Q2,Q2,rfl,hx1,rfl,rfl,(Af Q2 Q2),Be (j:=(⟨o6.c1,List.set q3.msgs q2.i (⟨x1.id,x1.fields++[(⟨1+o3.x,1+o4.x,o5.p,false,0⟩:Fld)]⟩:Shp),q3.k+1⟩:Bi)) Q9 rfl Q1 Q20⟩
 exact⟨Q9,hx1,(Af Q2 Q2),Be (j:=(⟨o6.c1,List.set q3.msgs q2.i (⟨x1.id,x1.fields⟩:Shp),q3.k+1⟩:Bi)) Q9 rfl Q1 Q20⟩
 exact⟨(Af Q2 Q2),Be (j:=(⟨q3.c,q3.msgs,q2.i+1⟩:H8)) Q9 rfl (by dsimp only[Ft];exact⟨by assumption,by omega,w3,fun j m hj hm=>w4 j m Q2 hm⟩) (by dsimp only[Ft];omega)⟩
 exact⟨⟨((by dsimp only;rw[ulen];exact u3)),Q0⟩,rfl,rfl⟩
structure M5 where
 l:List Shp
 c1:Cur
def Rb (c:Cur) (o:M5):Prop:=Fun Tryz.prog 114 [vP 0] [.cells (Cm c)] (.v (.agg [.own 1])) [.cells (Cm o.c1),.tree o.l]
def Kd (c:Cur) (o:M5):Prop:=((SchG o.l)∧(1≤List.length o.l)∧(List.length o.l≤3)∧(A0 o.c1))∧Rb c o
theorem Aaj (c:Cur) (hp1:A0 c): ∃o:M5,Kd c o:=by
 have hN:Bk=274877906944:=rfl
 refine B5 Tryz.func114 Q4 Q4 (w:=let z1:S:= .v (.agg [.own 1]);(.intro (Ra c) fun o1=> .seg [.call [0] z1 [.cells (Cm o1.c1),.tree o1.r.msgs]] (.intro (Qz o1.r) fun o2=> .seg [.call [] (.tup [.agg [.own 0],.agg [.int .i64 0,.int .i64 0,.int .i64 0]]) [.tree o2.l]] (.leaf (⟨o2.l,o1.c1⟩:M5) [0,3])),In (Ra c) fun o1=>((V2 c o1)∧In (Qz o1.r) fun o2=>((V0 o1.r o2)∧((SchG o2.l)∧(1≤List.length o2.l)∧(List.length o2.l≤3)∧(A0 o1.c1))∧Lf z1 z1 [.cells (Cm o1.c1),.tree o2.l] [.cells (Cm o1.c1),.tree o2.l])))) Q4 ?_
 refine⟨(Ahv c Q0),fun o1 ho_o1=>?_⟩
 obtain ⟨⟨hp_o1_0,hp_o1_1⟩,hf_o1⟩:=ho_o1
 refine⟨hf_o1,(Ahu o1.r Q2),fun o2 ho_o2=>?_⟩
 obtain ⟨hp_o2,hf_o2⟩:=ho_o2
 exact⟨hf_o2,⟨Q2,(hp_o2.1.1),(hp_o2.1.2),Q0⟩,rfl,rfl⟩
structure Jn where
 x:Int
 c1:Cur
def M6 (c:Cur) (l:List Int) (o:Jn):Prop:=Fun Tryz.prog 67 [vP 0,vO 1] [.cells (Cm c),.lst .int l] (.v (vI o.x)) [.cells (Cm o.c1),.lst .int l]
def G6 (c:Cur) (l:List Int) (o:Jn):Prop:=((o.x∈l)∧(A0 o.c1))∧M6 c l o
theorem V3 (c:Cur) (l:List Int) (hp1:A0 c) (hp2:1≤List.length l) (hp3:List.length l≤1000): ∃o:Jn,G6 c l o:=by
 have hN:Bk=274877906944:=rfl
 refine B5 Tryz.func67 Q4 Q4 (w:=let z1:=((List.length l:Nat):Int);(.intro (Aa c z1) fun o1=> .seg [.call [0] (.v (vI o1.x)) (Kc o1.c1)] (.intro (Sx (l[Int.toNat o1.x]?)) fun x1=> .seg [.el .int x1] (.leaf (⟨x1,o1.c1⟩:Jn) [0,1])),In (Aa c z1) fun o1=>((Aj c z1 o1)∧El (l[Int.toNat o1.x]?) fun x1=>((o1.x<z1)∧((0:Int)≤o1.x)∧(l[Int.toNat o1.x]? =some x1)∧((x1∈l)∧(A0 o1.c1))∧Lf (.v (vI x1)) (.v (vI x1)) [.cells (Cm o1.c1),.lst .int l] [.cells (Cm o1.c1),.lst .int l])))) Q4 ?_
 refine⟨(Av c ((List.length l:Nat):Int) Q0),fun o1 ho_o1=>?_⟩
 obtain ⟨⟨hp_o1_0,hp_o1_1,hp_o1_2,hp_o1_3⟩,hf_o1⟩:=ho_o1
 refine⟨hf_o1,(Bp (l:=l) (i:=Int.toNat o1.x) Q2),fun x1 hx1=>?_⟩
 exact⟨Q2,Q2,hx1,⟨(List.mem_of_getElem? hx1),Q0⟩,rfl,rfl⟩
structure M7 where
 p:Pln
 c1:Cur
def Re (c:Cur) (o:M7):Prop:=Fun Tryz.prog 62 [vP 0] [.cells (Cm c)] (.v (.agg (Fh o.p))) [.cells (Cm o.c1)]
def Ke (c:Cur) (o:M7):Prop:=((PlnG o.p)∧(A0 o.c1))∧Re c o
theorem Aak (c:Cur) (hp1:A0 c): ∃o:M7,Ke c o:=by
 have hN:Bk=274877906944:=rfl
 refine B5 Tryz.func62 Q4 Q4 (w:=let z9:=([(2,.v (vP 1))]:List (Nat×S))=[(2,.v (vP 1))];(.intro (Kd c) fun o1=> .seg [.call [0] (.v (.agg [.own 1])) [.cells (Cm o1.c1),.tree o1.l]] (.intro (Aa o1.c1 ((List.length o1.l:Nat):Int)) fun o2=> .intro (Aa o2.c1 4) fun o3=>let z5:S:= .v (vI (1+o3.x));.intro (G6 o3.c1 [60,60,2000,200,5,0]) fun o4=>let z1:List Blk:=[.cells (Cm o4.c1),.lst .int [60,60,2000,200,5,0]];.seg [.tree (fr (.first 6 (.first 9 (.two 5 (.two 7 (.first 8 (.one 10 (.one 11 (.first 12 (.one 13 (.done)))))) 10 (.one 7 (.first 8 (.one 11 (.first 12 (.one 13 (.done))))))) 10 (.one 5 (.one 7 (.first 8 (.one 11 (.first 12 (.one 13 (.done)))))))))) 0 5) 13 [0],.call [0] (.v (vI o2.x)) (Kc o2.c1),.call [0] (.v (vI o3.x)) (Kc o3.c1),.as 14 z5,.ty .int,.call [0,4] (.v (vI o4.x)) z1,.at 0,.keep [2],.sel [0,1,2],.ty .int,.call [0] (.v (vI o3.x)) (Kc o3.c1),.as 14 z5,.call [0,4] (.v (vI o4.x)) z1,.at 0,.keep [2],.sel [0,1,2],.ty .int,.call [0] (.v (vI o2.x)) (Kc o2.c1),.call [0] (.v (vI o3.x)) (Kc o3.c1),.as 14 z5,.call [0,4] (.v (vI o4.x)) z1,.at 0,.keep [2],.sel [0,1,2],.at 0,.pub 1 0] (.leaf (⟨(⟨o1.l,o2.x,1+o3.x,o4.x⟩:Pln),o4.c1⟩:M7) [0])),In (Kd c) fun o1=>(let z8:=((List.length o1.l:Nat):Int);(Rb c o1)∧In (Aa o1.c1 z8) fun o2=>(let z7:=Aj o1.c1 z8 o2;In (Aa o2.c1 4) fun o3=>(let z6:=Aj o2.c1 4 o3;In (G6 o3.c1 [60,60,2000,200,5,0]) fun o4=>(let z2:List Blk:=[.cells (Cm o4.c1),.cells [.own 2,.int .i64 o2.x,.int .i64 (1+o3.x),.int .i64 o4.x],.tree o1.l];let z3:=M6 o3.c1 [60,60,2000,200,5,0] o4;let z4:S:= .v (.agg [.seq .shp o1.l,.int .i64 o2.x,.int .i64 (1+o3.x),.int .i64 o4.x]);z7∧z6∧(wI (1+o3.x))∧z3∧z6∧(wI (1+o3.x))∧z3∧((z2:List Blk)=z2)∧z9∧z7∧z6∧(wI (1+o3.x))∧z3∧((z2:List Blk)=z2)∧z9∧((PlnG (⟨o1.l,o2.x,1+o3.x,o4.x⟩:Pln))∧(A0 o4.c1))∧Lf z4 z4 (Kc o4.c1) (Kc o4.c1))))))) Q4 ?_
 refine⟨(Aaj c Q0),fun o1 ho_o1=>?_⟩
 obtain ⟨⟨hp_o1_0,hp_o1_1,hp_o1_2,hp_o1_3⟩,hf_o1⟩:=ho_o1
 refine⟨hf_o1,(Av o1.c1 ((List.length o1.l:Nat):Int) Q0),fun o2 ho_o2=>?_⟩
 obtain ⟨⟨hp_o2_0,hp_o2_1,hp_o2_2,hp_o2_3⟩,hf_o2⟩:=ho_o2
 refine⟨(Av o2.c1 4 Q0),fun o3 ho_o3=>?_⟩
 obtain ⟨⟨hp_o3_0,hp_o3_1,hp_o3_2,hp_o3_3⟩,hf_o3⟩:=ho_o3
 refine⟨(V3 o3.c1 [60,60,2000,200,5,0] Q0 Q5 Q5),fun o4 ho_o4=>?_⟩
 obtain ⟨⟨hp_o4_0,hp_o4_1⟩,hf_o4⟩:=ho_o4
 exact⟨hf_o2,hf_o3,(Af Q2 Q2),hf_o4,hf_o3,(Af Q2 Q2),hf_o4,rfl,rfl,hf_o2,hf_o3,(Af Q2 Q2),hf_o4,rfl,rfl,⟨(⟨by assumption,by dsimp only;have:=hp_o1_0.1;omega,by dsimp only;omega,by have hpk:=hp_o4_0;simp at hpk;dsimp only;omega⟩),Q0⟩,rfl,rfl⟩
theorem Ahw (x:Int):0≤IntKind.u64.wrap x∧IntKind.u64.wrap x≤18446744073709551615:=by
 rw[IntKind.wrap_u64];omega
theorem Aj6 {l:List Int} (hl:(l.all fun x=>decide (0≤x)&&decide (x≤18446744073709551615))=true) {i:Nat} {x:Int} (h:l[i]? =some x):0≤x∧x≤18446744073709551615:=by
 have:=List.all_eq_true.1 hl x (List.mem_of_getElem? h)
 simpa using this
theorem V4 {u:Int} (h:0≤u∧u≤18446744073709551615):1≤(Dy u).length∧(Dy u).length≤10:=by
 have:=Ach (u:=u) (by omega)
 unfold Kr at this
 omega
theorem Aj7 (u:Int) (hp1:(0:Int)≤u∧u≤18446744073709551615):Fun Tryz.prog 231 [.c (.int .u64 u)] [] (.v (vI (Kr u))) []:=by
 have hN:Bk=274877906944:=rfl
 have hpl:=V4 hp1
 refine Ar Tryz.func231 Q4 Q4 (w:=(.seg [.call [] (.v (vT (Dy u))) []] (.leaf () []),(Fp 107 [.c (.int .u64 u)] [] (.v (vT (Dy u))) [])∧Lf (.v (vI ((List.length (Dy u):Nat):Int))) (.v (vI (Kr u))) [] [])) Q4 ?_
 exact⟨(Ud _ Q2),(congrArg S.v (congrArg V.c (congrArg (C.int .i64) (by rfl)))),rfl⟩
structure L5 where
 t:List UInt8
def Xu (u:Int) (n:Int) (o:L5):Prop:=Fun Tryz.prog 230 [.c (.int .u64 u),vI n] [] (.v (vT o.t)) []
def S8 (u:Int) (n:Int) (o:L5):Prop:=((List.length (o.t:List UInt8)≤10))∧Xu u n o
structure M8 where
 out:List Int
def M9 (n:Int):Fam:=⟨M8,fun q1=>[(1,.v (vI n)),(5,.v (vO 0))],fun q1=>[.lst .u8 q1.out],fun q1=>1≤List.length q1.out∧List.length q1.out≤10,fun q1=>10-List.length q1.out⟩
theorem Aj8 (u:Int) (n:Int) (hp1:(0:Int)≤u∧u≤18446744073709551615): ∃o:L5,S8 u n o:=by
 have hN:Bk=274877906944:=rfl
 have hpl:=V4 hp1
 refine B5 Tryz.func230 Q4 Q4 (w:=let z7:=List.map (fun b=>(UInt8.toNat b:Int)) (Dy u);let z6:=((List.length z7:Nat):Int);let z8:=M9 n;(.seg [.call [] (.v (vT (Dy u))) [],.call [] (.v (vB (Ai n z6 10))) []] (.br (.leaf (⟨[]⟩:L5) []) (.seg [.at 0,.keep [1,5],.sel [0]] (.loop z8 fun q1=>let z3:=((List.length q1.out:Nat):Int)-1;.br (.seg [.as 21 (.v (vI z3)),.as 25 (.v (vI z3))] (.intro (Sx (q1.out[Int.toNat z3]?)) fun x1=> .seg [.el .u8 x1,.el .u8 x1,.ty .u8,.ty .u8,.at 0,.keep [1,5],.sel [2]] (.next))) (.leaf (⟨List.map Bo q1.out⟩:L5) [])))),(Fp 107 [.c (.int .u64 u)] [] (.v (vT (Dy u))) [])∧(List.length (Dy u)≤Bk)∧(Fp 71 [vI n,vI z6,vI 10] [] (.v (vB (Ai n z6 10))) [])∧Bc (!(Ai n z6 10)) (((List.length ([]:List UInt8)≤10))∧Lf (.v (vT [])) (.v (vT [])) [] []) (z8.Has [(1,.v (vI n)),(5,.v (vO 0))] [.lst .u8 z7]∧∀q1,z8.inv q1→(let z4:=((List.length q1.out:Nat):Int);let z5:=List.map Bo q1.out;Bc (decide (z4<n)) ((wI (z4-1))∧(wI (z4-1))∧El (q1.out[Int.toNat (z4-1)]?) fun x1=>(let z1:=List.set q1.out (Int.toNat (z4-1)) (IntKind.u8.wrap (x1+128));let z2:=q1.out[Int.toNat (z4-1)]? =some x1;(z4-1<z4)∧((0:Int)≤z4-1)∧z2∧(z4-1<z4)∧((0:Int)≤z4-1)∧z2∧(List.length z1+List.length [0]≤Bk)∧z8.Nxt q1 [(1,.v (vI n)),(5,.v (vO 0))] [.lst .u8 (z1++[0])])) (((List.length (z5:List UInt8)≤10))∧Lf (.v (vT z5)) (.v (vT z5)) [] []))))) Q4 ?_
 refine⟨(Ud _ Q2),Q2,(By _ _ _),fun h1=>have q1:=Aq h1;have p1:=A7 q1;?_,fun h1=>have q1:=Ap h1;have p1:=Aw q1;?_⟩
 exact⟨Q5,rfl,rfl⟩
 refine⟨Cn (j:=(⟨List.map (fun b=>(UInt8.toNat b:Int)) (Dy u)⟩:M8)) rfl rfl (by dsimp only[M9];exact⟨by simp;omega,by simp;omega⟩),fun (q1:M8) hq_q1=>?_⟩
 have hi_q1:1≤List.length q1.out∧List.length q1.out≤10:=hq_q1
 obtain ⟨v1,v2⟩:=hi_q1
 refine dsp (fun h2 p2=>?_) fun h2 p2=>?_
 refine⟨(Af Q2 Q2),(Af Q2 Q2),(Bp (l:=q1.out) (i:=Int.toNat (((List.length q1.out:Nat):Int)-1)) Q2),fun x1 hx1=>?_⟩
 exact⟨Q2,Q2,hx1,Q2,Q2,hx1,(by simp only[List.length_set,List.length_cons,List.length_nil];omega),Be (j:=(⟨(List.set q1.out (Int.toNat (((List.length q1.out:Nat):Int)-1)) (IntKind.u8.wrap (x1+128)))++[0]⟩:M8)) rfl rfl (by dsimp only[M9];exact⟨by simp,by simp;omega⟩) (by dsimp only[M9];simp;omega)⟩
 exact⟨Q13,rfl,rfl⟩
structure Js where
 x:Int
 c1:Cur
def F3 (c:Cur) (o:Js):Prop:=Fun Tryz.prog 171 [vP 0] [.cells (Cm c)] (.v (.c (.int .u64 o.x))) [.cells (Cm o.c1)]
def Cv (c:Cur) (o:Js):Prop:=(((0:Int)≤o.x∧o.x≤18446744073709551615)∧(A0 o.c1))∧F3 c o
structure Na where
 c:Cur
 u:Int
 i:Nat
def Nb  :Fam:=⟨Na,fun q1=>[(0,.v (vP 0)),(3,.v (.c (.int .u64 q1.u))),(4,.v (vI ((q1.i:Nat):Int)))],fun q1=>[.cells (Cm q1.c)],fun q1=>A0 q1.c∧q1.i≤8∧((0:Int)≤q1.u∧q1.u≤18446744073709551615),fun q1=>8-q1.i⟩
theorem Ld (c:Cur) (hp1:A0 c): ∃o:Js,Cv c o:=by
 have hN:Bk=274877906944:=rfl
 refine B5 Tryz.func171 Q4 Q4 (w:=let z2:=Nb;(.intro (Aa c 4) fun o1=> .seg [.call [0] (.v (vI o1.x)) (Kc o1.c1)] (.br (.seg [.ty .u64] (.intro (Aa o1.c1 12) fun o2=> .seg [.call [0] (.v (vI o2.x)) (Kc o2.c1)] (.intro (Sx ([0,1,127,128,16383,16384,2147483647,4294967295,4294967296,9223372036854775807,9223372036854775808,18446744073709551615][Int.toNat o2.x]?)) fun x1=> .seg [.el .u64 x1] (.leaf (⟨x1,o2.c1⟩:Js) [0])))) (.br (.seg [.at 0,.keep [0,3,4],.sel [0]] (.loop z2 fun q1=> .br (.intro (D3 q1.c) fun o2=> .seg [.call [0] (.v (vI o2.x)) (Kc o2.c1),.as 24 (.v (.c (.int .u64 o2.x))),.as 19 (.v (vI (((q1.i:Nat):Int)+1))),.at 0,.keep [0,3,4],.sel [0]] (.next)) (.leaf (⟨q1.u,q1.c⟩:Js) [0]))) (.intro (Aa o1.c1 300) fun o2=> .seg [.call [0] (.v (vI o2.x)) (Kc o2.c1),.as 29 (.v (.c (.int .u64 o2.x)))] (.leaf (⟨o2.x,o2.c1⟩:Js) [0])))),In (Aa c 4) fun o1=>((Aj c 4 o1)∧Bc (decide (o1.x=0)) (In (Aa o1.c1 12) fun o2=>((Aj o1.c1 12 o2)∧El ([0,1,127,128,16383,16384,2147483647,4294967295,4294967296,9223372036854775807,9223372036854775808,18446744073709551615][Int.toNat o2.x]?) fun x1=>((o2.x<((List.length [0,1,127,128,16383,16384,2147483647,4294967295,4294967296,9223372036854775807,9223372036854775808,18446744073709551615]:Nat):Int))∧((0:Int)≤o2.x)∧([0,1,127,128,16383,16384,2147483647,4294967295,4294967296,9223372036854775807,9223372036854775808,18446744073709551615][Int.toNat o2.x]? =some x1)∧(((0:Int)≤x1∧x1≤18446744073709551615)∧(A0 o2.c1))∧Lf (.v (.c (.int .u64 x1))) (.v (.c (.int .u64 x1))) (Kc o2.c1) (Kc o2.c1)))) (Bc (decide (o1.x=1)) (z2.Has [(0,.v (vP 0)),(3,.v (.c (.int .u64 0))),(4,.v (vI 0))] (Kc o1.c1)∧∀q1,z2.inv q1→(let z1:=((q1.i:Nat):Int);Bc (decide (z1<8)) (In (D3 q1.c) fun o2=>((Gq q1.c o2)∧(wU (o2.x))∧(wI (z1+1))∧z2.Nxt q1 [(0,.v (vP 0)),(3,.v (.c (.int .u64 (IntKind.u64.wrap ((IntKind.u64.wrap (256*q1.u))+o2.x))))),(4,.v (vI (z1+1)))] (Kc o2.c1))) ((((0:Int)≤q1.u∧q1.u≤18446744073709551615)∧(A0 q1.c))∧Lf (.v (.c (.int .u64 q1.u))) (.v (.c (.int .u64 q1.u))) (Kc q1.c) (Kc q1.c)))) (In (Aa o1.c1 300) fun o2=>((Aj o1.c1 300 o2)∧(wU (o2.x))∧(((0:Int)≤o2.x∧o2.x≤18446744073709551615)∧(A0 o2.c1))∧Lf (.v (.c (.int .u64 o2.x))) (.v (.c (.int .u64 o2.x))) (Kc o2.c1) (Kc o2.c1))))))) Q4 ?_
 refine⟨(Av c 4 Q0),fun o1 ho_o1=>?_⟩
 obtain ⟨⟨hp_o1_0,hp_o1_1,hp_o1_2,hp_o1_3⟩,hf_o1⟩:=ho_o1
 refine⟨hf_o1,dsp (fun h1 p1=>?_) fun h1 p1=>?_⟩
 refine⟨(Av o1.c1 12 Q0),fun o2 ho_o2=>?_⟩
 obtain ⟨⟨hp_o2_0,hp_o2_1,hp_o2_2,hp_o2_3⟩,hf_o2⟩:=ho_o2
 refine⟨hf_o2,(Bp (l:=[0,1,127,128,16383,16384,2147483647,4294967295,4294967296,9223372036854775807,9223372036854775808,18446744073709551615]) (i:=Int.toNat o2.x) Q5),fun x1 hx1=>?_⟩
 refine⟨Q5,Q2,?_⟩
 have hwx:=Aj6 (by decide) hx1
 exact⟨hx1,⟨Q2,Q0⟩,rfl,rfl⟩
 refine dsp (fun h2 p2=>?_) fun h2 p2=>?_
 refine⟨Cn (j:=(⟨o1.c1,0,0⟩:Na)) Q9 rfl (by dsimp only[Nb];exact⟨by assumption,by omega,by omega⟩),fun (q1:Na) hq_q1=>?_⟩
 have hi_q1:A0 q1.c∧q1.i≤8∧((0:Int)≤q1.u∧q1.u≤18446744073709551615):=hq_q1
 obtain ⟨v1,v2,v3⟩:=hi_q1
 refine dsp (fun h3 p3=>?_) fun h3 p3=>?_
 refine⟨(Mz q1.c Q0),fun o2 ho_o2=>?_⟩
 obtain ⟨⟨hp_o2_0,hp_o2_1⟩,hf_o2⟩:=ho_o2
 exact⟨hf_o2,(Bu Q2 Q2),(Af Q2 Q2),Be (j:=(⟨o2.c1,IntKind.u64.wrap ((IntKind.u64.wrap (256*q1.u))+o2.x),q1.i+1⟩:Na)) Q9 rfl (by dsimp only[Nb];exact⟨by assumption,by omega,Ahw _⟩) (by dsimp only[Nb];omega)⟩
 exact⟨⟨Q2,Q0⟩,rfl,rfl⟩
 refine⟨(Av o1.c1 300 Q0),fun o2 ho_o2=>?_⟩
 obtain ⟨⟨hp_o2_0,hp_o2_1,hp_o2_2,hp_o2_3⟩,hf_o2⟩:=ho_o2
 exact⟨hf_o2,(Bu Q2 Q2),⟨Q2,Q0⟩,rfl,rfl⟩
structure L6 where
 t:List UInt8
 c1:Cur
def Au (c:Cur) (u:Int) (o:L6):Prop:=Fun Tryz.prog 170 [vP 0,.c (.int .u64 u)] [.cells (Cm c)] (.v (vT o.t)) [.cells (Cm o.c1)]
def Ad (c:Cur) (u:Int) (o:L6):Prop:=((List.length (o.t:List UInt8)≤10)∧(A0 o.c1))∧Au c u o
theorem A9 (c:Cur) (u:Int) (hp1:A0 c) (hp2:(0:Int)≤u∧u≤18446744073709551615): ∃o:L6,Ad c u o:=by
 have hN:Bk=274877906944:=rfl
 have hpl:=V4 hp2
 have hvl:Kr u=(((Dy u).length:Nat):Int):=rfl
 refine B5 Tryz.func170 Q4 Q4 (w:=let z3:S:= .v (vT (Dy u));let z4:=List.length ((Dy u):List UInt8)≤10;(.intro (Am c 4) fun o1=> .seg [.call [0] (.v (vB o1.p)) (Kc o1.c1)] (.br (.seg [.call [] (.v (vI (Kr u))) []] (.intro (Aa o1.c1 3) fun o2=> .seg [.call [0] (.v (vI o2.x)) (Kc o2.c1),.as 13 (.v (vI ((Kr u)+o2.x)))] (.intro (S8 u ((Kr u)+o2.x)) fun o3=> .seg [.call [] (.v (vT o3.t)) []] (.br (.leaf (⟨o3.t,o2.c1⟩:L6) [0]) (.seg [.call [] z3 []] (.leaf (⟨Dy u,o2.c1⟩:L6) [0])))))) (.seg [.call [] z3 []] (.leaf (⟨Dy u,o1.c1⟩:L6) [0]))),In (Am c 4) fun o1=>((Bg c 4 o1)∧Bc o1.p ((Fp 231 [.c (.int .u64 u)] [] (.v (vI (Kr u))) [])∧In (Aa o1.c1 3) fun o2=>(let z1:List Blk:=(Kc o2.c1);let z2:=(Kr u)+o2.x;(Aj o1.c1 3 o2)∧(wI z2)∧In (S8 u z2) fun o3=>((Xu u z2 o3)∧Bc (!decide (o3.t=[])) (((List.length (o3.t:List UInt8)≤10)∧(A0 o2.c1))∧Lf (.v (vT o3.t)) (.v (vT o3.t)) z1 z1) ((Fp 107 [.c (.int .u64 u)] [] z3 [])∧(z4∧(A0 o2.c1))∧Lf z3 z3 z1 z1)))) ((Fp 107 [.c (.int .u64 u)] [] z3 [])∧(z4∧(A0 o1.c1))∧Lf z3 z3 (Kc o1.c1) (Kc o1.c1))))) Q4 ?_
 refine⟨(Bz c 4 Q0),fun o1 ho_o1=>?_⟩
 obtain ⟨hp_o1,hf_o1⟩:=ho_o1
 refine⟨hf_o1,fun h1=>?_,fun h1=>?_⟩
 refine⟨(Aj7 _ Q2),(Av o1.c1 3 Q0),fun o2 ho_o2=>?_⟩
 obtain ⟨⟨hp_o2_0,hp_o2_1,hp_o2_2,hp_o2_3⟩,hf_o2⟩:=ho_o2
 refine⟨hf_o2,(Af Q2 Q2),(Aj8 u ((Kr u)+o2.x) Q2),fun o3 ho_o3=>?_⟩
 obtain ⟨hp_o3,hf_o3⟩:=ho_o3
 refine⟨hf_o3,fun h2=>have q2:=Aq h2;have p2:=of_decide_eq_false q2;?_,fun h2=>have q2:=Ap h2;have p2:=of_decide_eq_true q2;?_⟩
 exact⟨⟨Q2,Q0⟩,rfl,rfl⟩
 exact⟨(Ud _ Q2),⟨Q2,Q0⟩,rfl,rfl⟩
 exact⟨(Ud _ Q2),⟨Q2,Q0⟩,rfl,rfl⟩
structure Ja where
 x:Int
 c1:Cur
def Pf (c:Cur) (o:Ja):Prop:=Fun Tryz.prog 183 [vP 0] [.cells (Cm c)] (.v (vI o.x)) [.cells (Cm o.c1)]
def Pg (c:Cur) (o:Ja):Prop:=((A0 o.c1))∧Pf c o
theorem Aep (c:Cur) (hp1:A0 c): ∃o:Ja,Pg c o:=by
 have hN:Bk=274877906944:=rfl
 refine B5 Tryz.func183 Q4 Q4 (w:=(.intro (Am c 4) fun o1=> .seg [.call [0] (.v (vB o1.p)) (Kc o1.c1)] (.br (.seg [.ty .int,.pubS 6] (.intro (B4 o1.c1 [0,1,(-1),18999,19000,19999,20000,536870911,536870912,9223372036854775807]) fun o2=> .seg [.call [0] (.v (vI o2.x)) (Kc o2.c1)] (.leaf (⟨o2.x,o2.c1⟩:Ja) [0]))) (.intro (Aa o1.c1 20) fun o2=> .seg [.call [0] (.v (vI o2.x)) (Kc o2.c1),.as 10 (.v (vI (1+o2.x)))] (.leaf (⟨1+o2.x,o2.c1⟩:Ja) [0]))),In (Am c 4) fun o1=>((Bg c 4 o1)∧Bc o1.p (In (B4 o1.c1 [0,1,(-1),18999,19000,19999,20000,536870911,536870912,9223372036854775807]) fun o2=>((Dk o1.c1 [0,1,(-1),18999,19000,19999,20000,536870911,536870912,9223372036854775807] o2)∧((A0 o2.c1))∧Lf (.v (vI o2.x)) (.v (vI o2.x)) (Kc o2.c1) (Kc o2.c1))) (In (Aa o1.c1 20) fun o2=>((Aj o1.c1 20 o2)∧(wI (1+o2.x))∧((A0 o2.c1))∧Lf (.v (vI (1+o2.x))) (.v (vI (1+o2.x))) (Kc o2.c1) (Kc o2.c1)))))) Q4 ?_
 refine⟨(Bz c 4 Q0),fun o1 ho_o1=>?_⟩
 obtain ⟨hp_o1,hf_o1⟩:=ho_o1
 refine⟨hf_o1,fun h1=>?_,fun h1=>?_⟩
 refine⟨(Fo o1.c1 [0,1,(-1),18999,19000,19999,20000,536870911,536870912,9223372036854775807] Q0 Q5 Q5),fun o2 ho_o2=>?_⟩
 obtain ⟨⟨hp_o2_0,hp_o2_1⟩,hf_o2⟩:=ho_o2
 exact⟨hf_o2,Q0,rfl,rfl⟩
 refine⟨(Av o1.c1 20 Q0),fun o2 ho_o2=>?_⟩
 obtain ⟨⟨hp_o2_0,hp_o2_1,hp_o2_2,hp_o2_3⟩,hf_o2⟩:=ho_o2
 exact⟨hf_o2,(Af Q2 Q2),Q0,rfl,rfl⟩
theorem Ac9 {t:List UInt8} {l:List (List UInt8)} {n:Nat} (h:t∈l) (hl:(l.all fun x=>decide (x.length≤n))=true):t.length≤n:=by
 have:=List.all_eq_true.1 hl t h
 simpa using this
structure P5 where
 t:List UInt8
 c1:Cur
def Xv (c:Cur) (l:List (List UInt8)) (o:P5):Prop:=Fun Tryz.prog 240 [vP 0,.c (.seq .str l)] [.cells (Cm c)] (.v (vT o.t)) [.cells (Cm o.c1)]
def S9 (c:Cur) (l:List (List UInt8)) (o:P5):Prop:=((o.t∈l)∧(A0 o.c1))∧Xv c l o
theorem Aj9 (c:Cur) (l:List (List UInt8)) (hp1:A0 c) (hp2:1≤List.length l) (hp3:List.length l≤1000): ∃o:P5,S9 c l o:=by
 have hN:Bk=274877906944:=rfl
 refine B5 Tryz.func240 Q4 Q4 (w:=let z1:=((List.length l:Nat):Int);(.intro (Aa c z1) fun o1=> .seg [.call [0] (.v (vI o1.x)) (Kc o1.c1)] (.intro (Sx (l[Int.toNat o1.x]?)) fun x1=> .seg [.el .str x1] (.leaf (⟨x1,o1.c1⟩:P5) [0])),In (Aa c z1) fun o1=>((Aj c z1 o1)∧El (l[Int.toNat o1.x]?) fun x1=>((l[Int.toNat o1.x]? =some x1)∧((0:Int)≤o1.x)∧((x1∈l)∧(A0 o1.c1))∧Lf (.v (vT x1)) (.v (vT x1)) (Kc o1.c1) (Kc o1.c1))))) Q4 ?_
 refine⟨(Av c ((List.length l:Nat):Int) Q0),fun o1 ho_o1=>?_⟩
 obtain ⟨⟨hp_o1_0,hp_o1_1,hp_o1_2,hp_o1_3⟩,hf_o1⟩:=ho_o1
 refine⟨hf_o1,(Bp (l:=l) (i:=Int.toNat o1.x) Q2),fun x1 hx1=>?_⟩
 exact⟨hx1,Q2,⟨(List.mem_of_getElem? hx1),Q0⟩,rfl,rfl⟩
structure Kf where
 t:List UInt8
 c1:Cur
def Rf (c:Cur) (s:List UInt8) (o:Kf):Prop:=Fun Tryz.prog 118 [vP 0,vT s] [.cells (Cm c)] (.v (vT o.t)) [.cells (Cm o.c1)]
def Kg (c:Cur) (s:List UInt8) (o:Kf):Prop:=((List.length (o.t:List UInt8)≤List.length s+2)∧(A0 o.c1))∧Rf c s o
theorem Aam (c:Cur) (s:List UInt8) (hp1:A0 c) (hp2:List.length s≤1000000): ∃o:Kf,Kg c s o:=by
 have hN:Bk=274877906944:=rfl
 have hml:List.length (List.map (fun b=>(UInt8.toNat b:Int)) s)=List.length s:=by simp
 refine B5 Tryz.func118 Q4 Q4 (w:=let z6:=List.map (fun b=>(UInt8.toNat b:Int)) s;let z7:=((List.length z6:Nat):Int);(.br (.intro (Bq c 2) fun o1=> .seg [.call [0] (.v (vO 1)) [.cells (Cm o1.c1),.lst .u8 o1.l]] (.leaf (⟨List.map Bo o1.l,o1.c1⟩:Kf) [0])) (.intro (Aa c z7) fun o1=> .seg [.call [0] (.v (vI o1.x)) (Kc o1.c1)] (.intro (Sx (z6[Int.toNat o1.x]?)) fun x1=> .intro (Aa o1.c1 255) fun o2=> .seg [.ord (os 13 [7,12]) [0],.el .u8 x1,.call [0] (.v (vI o2.x)) (Kc o2.c1),.as 26 (.v (vI (1+o2.x))),.as 27 (.v (.c (.int .u8 (1+o2.x)))),.el .u8 x1] (.leaf (⟨List.map Bo (List.set z6 (Int.toNat o1.x) (IntKind.u8.wrap (((BitVec.ofInt 8 x1 ^^^ BitVec.ofInt 8 (1+o2.x)).toNat:Nat)))),o2.c1⟩:Kf) [0]))),Bc (decide (s=[])) (In (Bq c 2) fun o1=>(let z1:=List.map Bo o1.l;(C2 c 2 o1)∧((List.length (z1:List UInt8)≤List.length s+2)∧(A0 o1.c1))∧Lf (.v (vT z1)) (.v (vT z1)) (Kc o1.c1) (Kc o1.c1))) (In (Aa c z7) fun o1=>(let z4:=o1.x<z7;let z5:=(0:Int)≤o1.x;(List.length s≤Bk)∧(Aj c z7 o1)∧El (z6[Int.toNat o1.x]?) fun x1=>(let z3:=z6[Int.toNat o1.x]? =some x1;In (Aa o1.c1 255) fun o2=>(let z2:=List.map Bo (List.set z6 (Int.toNat o1.x) (IntKind.u8.wrap (((BitVec.ofInt 8 x1 ^^^ BitVec.ofInt 8 (1+o2.x)).toNat:Nat))));z4∧z5∧z4∧z5∧z3∧z3∧(Aj o1.c1 255 o2)∧(wI (1+o2.x))∧((.v (.c (.int .u8 (IntKind.u8.wrap (1+o2.x)))):S)= .v (.c (.int .u8 (1+o2.x))))∧z4∧z5∧z4∧z5∧z3∧((List.length (z2:List UInt8)≤List.length s+2)∧(A0 o2.c1))∧Lf (.v (vT z2)) (.v (vT z2)) (Kc o2.c1) (Kc o2.c1))))))) Q4 ?_
 refine dsp (fun h1 p1=>?_) fun h1 p1=>?_
 refine⟨(Ee c 2 Q0 Q2),fun o1 ho_o1=>?_⟩
 obtain ⟨⟨hp_o1_0,hp_o1_1⟩,hf_o1⟩:=ho_o1
 exact⟨hf_o1,⟨Q13,Q0⟩,rfl,rfl⟩
 have hne:1≤List.length s:=List.length_pos_iff.2 (by simpa using p1)
 refine⟨(Av c ((List.length (List.map (fun b=>(UInt8.toNat b:Int)) s):Nat):Int) Q0),fun o1 ho_o1=>?_⟩
 refine⟨Q2,?_⟩
 obtain ⟨⟨hp_o1_0,hp_o1_1,hp_o1_2,hp_o1_3⟩,hf_o1⟩:=ho_o1
 refine⟨hf_o1,(Bp (l:=List.map (fun b=>(UInt8.toNat b:Int)) s) (i:=Int.toNat o1.x) Q13),fun x1 hx1=>?_⟩
 refine⟨(Av o1.c1 255 Q0),fun o2 ho_o2=>?_⟩
 obtain ⟨⟨hp_o2_0,hp_o2_1,hp_o2_2,hp_o2_3⟩,hf_o2⟩:=ho_o2
 exact⟨Q13,Q2,Q13,Q2,hx1,hx1,hf_o2,(Af Q2 Q2),(P9 Q2 Q2),Q13,Q2,Q13,Q2,hx1,⟨(by simp only[List.length_set,List.length_map];omega),Q0⟩,rfl,rfl⟩
structure Ea where
 t:List UInt8
def Tw (n:Int) (o:Ea):Prop:=Fun Tryz.prog 238 [vI n] [] (.v (vT o.t)) []
def Ph (n:Int) (o:Ea):Prop:=((List.length (o.t:List UInt8)≤4))∧Tw n o
theorem Aeq (n:Int): ∃o:Ea,Ph n o:=by
 have hN:Bk=274877906944:=rfl
 have t64:0≤n→Int.tdiv n 64=n / 64:=fun h=>Int.tdiv_eq_ediv_of_nonneg h
 have t4096:0≤n→Int.tdiv n 4096=n / 4096:=fun h=>Int.tdiv_eq_ediv_of_nonneg h
 have t262144:0≤n→Int.tdiv n 262144=n / 262144:=fun h=>Int.tdiv_eq_ediv_of_nonneg h
 refine B5 Tryz.func238 Q4 Q4 (w:=let z2:=Int.tmod n 64;let z3:=Int.tdiv n 4096;let z4:=Int.tdiv n 64;let z1:=Int.tmod z4 64;let z7:=Int.tdiv n 262144;let z5:=List.map Bo [240+z7,128+(Int.tmod z3 64),128+z1,128+z2];let z8:=(64:Int)≠0;let z9:=List.map Bo [224+z3,128+z1,128+z2];let z10:=128+(Int.tmod z3 64);let z12:=((List.length ([]:List UInt8)≤4))∧Lf (.v (vT [])) (.v (vT [])) [] [];let z13:=128+z2;let z6:=(.v (.c (.int .u8 (IntKind.u8.wrap z13))):S)= .v (.c (.int .u8 z13));let z14:=List.map Bo [192+z4,128+z2];let z15:=128+z1;let z11:=(.v (.c (.int .u8 (IntKind.u8.wrap z15))):S)= .v (.c (.int .u8 z15));let z16:S:= .v (.c (.int .u8 z13));let z17:=Ai n 55296 57343;let z18:=List.map Bo [n];let z19:=Ai n 0 1114111;(.seg [.call [] (.v (vB z19)) []] (.br (.leaf (⟨[]⟩:Ea) []) (.seg [.call [] (.v (vB z17)) []] (.br (.leaf (⟨[]⟩:Ea) []) (.br (.seg [.as 15 (.v (.c (.int .u8 n))),.ty .u8] (.leaf (⟨List.map Bo [n]⟩:Ea) [])) (.br (.seg [.as 22 (.v (vI z4)),.as 23 (.v (vI (192+z4))),.as 24 (.v (.c (.int .u8 (192+z4)))),.as 27 (.v (vI z13)),.as 28 z16,.ty .u8] (.leaf (⟨List.map Bo [192+z4,128+z2]⟩:Ea) [])) (.br (.seg [.as 35 (.v (vI z3)),.as 36 (.v (vI (224+z3))),.as 37 (.v (.c (.int .u8 (224+z3)))),.as 39 (.v (vI z4)),.as 41 (.v (vI z15)),.as 42 (.v (.c (.int .u8 z15))),.as 45 (.v (vI z13)),.as 46 z16,.ty .u8] (.leaf (⟨List.map Bo [224+z3,128+z1,128+z2]⟩:Ea) [])) (.seg [.as 50 (.v (vI z7)),.as 51 (.v (vI (240+z7))),.as 52 (.v (.c (.int .u8 (240+z7)))),.as 54 (.v (vI z3)),.as 56 (.v (vI z10)),.as 57 (.v (.c (.int .u8 z10))),.as 59 (.v (vI z4)),.as 61 (.v (vI z15)),.as 62 (.v (.c (.int .u8 z15))),.as 65 (.v (vI z13)),.as 66 z16,.ty .u8] (.leaf (⟨List.map Bo [240+z7,128+(Int.tmod z3 64),128+z1,128+z2]⟩:Ea) [])))))))),(Fp 71 [vI n,vI 0,vI 1114111] [] (.v (vB z19)) [])∧Bc (!z19) z12 ((Fp 71 [vI n,vI 55296,vI 57343] [] (.v (vB z17)) [])∧Bc z17 z12 (Bc (decide (n<128)) (((.v (.c (.int .u8 (IntKind.u8.wrap (n)))):S)= .v (.c (.int .u8 n)))∧((List.length (z18:List UInt8)≤4))∧Lf (.v (vT z18)) (.v (vT z18)) [] []) (Bc (decide (n<2048)) (z8∧(wI z4)∧(wI (192+z4))∧((.v (.c (.int .u8 (IntKind.u8.wrap (192+z4)))):S)= .v (.c (.int .u8 (192+z4))))∧z8∧(wI z13)∧z6∧((List.length (z14:List UInt8)≤4))∧Lf (.v (vT z14)) (.v (vT z14)) [] []) (Bc (decide (n<65536)) (((4096:Int)≠0)∧(wI z3)∧(wI (224+z3))∧((.v (.c (.int .u8 (IntKind.u8.wrap (224+z3)))):S)= .v (.c (.int .u8 (224+z3))))∧z8∧(wI z4)∧z8∧(wI z15)∧z11∧z8∧(wI z13)∧z6∧((List.length (z9:List UInt8)≤4))∧Lf (.v (vT z9)) (.v (vT z9)) [] []) (((262144:Int)≠0)∧(wI z7)∧(wI (240+z7))∧((.v (.c (.int .u8 (IntKind.u8.wrap (240+z7)))):S)= .v (.c (.int .u8 (240+z7))))∧((4096:Int)≠0)∧(wI z3)∧z8∧(wI z10)∧((.v (.c (.int .u8 (IntKind.u8.wrap z10))):S)= .v (.c (.int .u8 z10)))∧z8∧(wI z4)∧z8∧(wI z15)∧z11∧z8∧(wI z13)∧z6∧((List.length (z5:List UInt8)≤4))∧Lf (.v (vT z5)) (.v (vT z5)) [] []))))))) Q4 ?_
 refine⟨(By _ _ _),fun h1=>have q1:=Aq h1;have p1:=A7 q1;?_,fun h1=>have q1:=Ap h1;have p1:=Aw q1;?_⟩
 exact⟨(by simp),rfl,rfl⟩
 refine⟨(By _ _ _),fun h2=>have p2:=Aw h2;?_,fun h2=>have p2:=A7 h2;?_⟩
 exact⟨(by simp),rfl,rfl⟩
 refine dsp (fun h3 p3=>?_) fun h3 p3=>?_
 exact⟨(P9 Q2 Q2),(by simp),rfl,rfl⟩
 refine dsp (fun h4 p4=>?_) fun h4 p4=>?_
 exact⟨Q18,(Af Q2 Q2),(Af Q2 Q2),(P9 Q2 Q2),Q18,(Af Q38 Q38),(P9 Q38 Q38),(by simp),rfl,rfl⟩
 refine dsp (fun h5 p5=>?_) fun h5 p5=>?_
 exact⟨Q18,(Af Q2 Q2),(Af Q2 Q2),(P9 Q2 Q2),Q18,(Af Q2 Q2),Q18,(Af Q39 Q39),(P9 Q39 Q39),Q18,(Af Q38 Q38),(P9 Q38 Q38),(by simp),rfl,rfl⟩
 exact⟨Q18,(Af Q2 Q2),(Af Q2 Q2),(P9 Q2 Q2),Q18,(Af Q2 Q2),Q18,(Af Q52 Q52),(P9 Q52 Q52),Q18,(Af Q2 Q2),Q18,(Af Q39 Q39),(P9 Q39 Q39),Q18,(Af Q38 Q38),(P9 Q38 Q38),(by simp),rfl,rfl⟩
structure P6 where
 x:Int
 c1:Cur
def Xw (c:Cur) (o:P6):Prop:=Fun Tryz.prog 239 [vP 0] [.cells (Cm c)] (.v (vI o.x)) [.cells (Cm o.c1)]
def Ta (c:Cur) (o:P6):Prop:=((A0 o.c1))∧Xw c o
theorem Aka (c:Cur) (hp1:A0 c): ∃o:P6,Ta c o:=by
 have hN:Bk=274877906944:=rfl
 refine B5 Tryz.func239 Q4 Q4 (w:=(.intro (Aa c 1114112) fun o1=> .seg [.call [0] (.v (vI o1.x)) (Kc o1.c1),.ty .int,.pubS 6] (.intro (B4 o1.c1 [0,65,127,128,2047,2048,4095,55295,57344,65535,65536,1114111,o1.x]) fun o2=> .seg [.call [0] (.v (vI o2.x)) (Kc o2.c1)] (.leaf (⟨o2.x,o2.c1⟩:P6) [0])),In (Aa c 1114112) fun o1=>((Aj c 1114112 o1)∧In (B4 o1.c1 [0,65,127,128,2047,2048,4095,55295,57344,65535,65536,1114111,o1.x]) fun o2=>((Dk o1.c1 [0,65,127,128,2047,2048,4095,55295,57344,65535,65536,1114111,o1.x] o2)∧((A0 o2.c1))∧Lf (.v (vI o2.x)) (.v (vI o2.x)) (Kc o2.c1) (Kc o2.c1))))) Q4 ?_
 refine⟨(Av c 1114112 Q0),fun o1 ho_o1=>?_⟩
 obtain ⟨⟨hp_o1_0,hp_o1_1,hp_o1_2,hp_o1_3⟩,hf_o1⟩:=ho_o1
 refine⟨hf_o1,(Fo o1.c1 [0,65,127,128,2047,2048,4095,55295,57344,65535,65536,1114111,o1.x] Q0 Q5 Q5),fun o2 ho_o2=>?_⟩
 obtain ⟨⟨hp_o2_0,hp_o2_1⟩,hf_o2⟩:=ho_o2
 exact⟨hf_o2,Q0,rfl,rfl⟩
structure P7 where
 t:List UInt8
 c1:Cur
def Tb (c:Cur) (n:Int) (o:P7):Prop:=Fun Tryz.prog 179 [vP 0,vI n] [.cells (Cm c)] (.v (vT o.t)) [.cells (Cm o.c1)]
def L7 (c:Cur) (n:Int) (o:P7):Prop:=((List.length (o.t:List UInt8)≤4*Int.toNat n)∧(A0 o.c1))∧Tb c n o
structure Nc where
 c:Cur
 s:List UInt8
 i:Nat
def Nd (n:Int):Fam:=⟨Nc,fun q1=>[(0,.v (vP 0)),(1,.v (vI n)),(5,.v (vT q1.s)),(6,.v (vI ((q1.i:Nat):Int)))],fun q1=>[.cells (Cm q1.c)],fun q1=>A0 q1.c∧(q1.i=0∨((q1.i:Nat):Int)≤n)∧List.length q1.s≤4*q1.i,fun q1=>Int.toNat n-q1.i⟩
theorem Ada (c:Cur) (n:Int) (hp1:A0 c) (hp2:n≤1000): ∃o:P7,L7 c n o:=by
 have hN:Bk=274877906944:=rfl
 refine B5 Tryz.func179 Q4 Q4 (w:=let z2:=Nd n;(.seg [.at 0,.keep [0,1,5,6],.sel [0]] (.loop z2 fun q1=> .br (.intro (Ta q1.c) fun o1=> .seg [.call [0] (.v (vI o1.x)) (Kc o1.c1)] (.intro (Ph o1.x) fun o2=> .seg [.call [] (.v (vT o2.t)) [],.as 11 (.v (vI (((q1.i:Nat):Int)+1))),.at 0,.keep [0,1,5,6],.sel [0]] (.next))) (.leaf (⟨q1.s,q1.c⟩:P7) [0])),z2.Has [(0,.v (vP 0)),(1,.v (vI n)),(5,.v (vT [])),(6,.v (vI 0))] (Kc c)∧∀q1,z2.inv q1→(let z1:=((q1.i:Nat):Int);Bc (decide (z1<n)) (In (Ta q1.c) fun o1=>((Xw q1.c o1)∧In (Ph o1.x) fun o2=>((Tw o1.x o2)∧(((List.length q1.s+List.length o2.t:Nat):Int)≤Bb)∧(wI (z1+1))∧z2.Nxt q1 [(0,.v (vP 0)),(1,.v (vI n)),(5,.v (vT (q1.s++o2.t))),(6,.v (vI (z1+1)))] (Kc o1.c1)))) (((List.length (q1.s:List UInt8)≤4*Int.toNat n)∧(A0 q1.c))∧Lf (.v (vT q1.s)) (.v (vT q1.s)) (Kc q1.c) (Kc q1.c))))) Q4 ?_
 refine⟨Cn (j:=(⟨c,[],0⟩:Nc)) Q9 rfl (by dsimp only[Nd];exact⟨by assumption,.inl rfl,by simp⟩),fun (q1:Nc) hq_q1=>?_⟩
 have hi_q1:A0 q1.c∧(q1.i=0∨((q1.i:Nat):Int)≤n)∧List.length q1.s≤4*q1.i:=hq_q1
 obtain ⟨v1,v2,v3⟩:=hi_q1
 refine dsp (fun h1 p1=>?_) fun h1 p1=>?_
 refine⟨(Aka q1.c Q0),fun o1 ho_o1=>?_⟩
 obtain ⟨hp_o1,hf_o1⟩:=ho_o1
 refine⟨hf_o1,(Aeq o1.x),fun o2 ho_o2=>?_⟩
 obtain ⟨hp_o2,hf_o2⟩:=ho_o2
 exact⟨hf_o2,(by simp only[Bb];omega),(Af Q2 Q2),Be (j:=(⟨o1.c1,q1.s++o2.t,q1.i+1⟩:Nc)) Q9 rfl (by dsimp only[Nd];exact⟨by assumption,by omega,by simp;omega⟩) (by dsimp only[Nd];omega)⟩
 exact⟨⟨Q2,Q0⟩,rfl,rfl⟩
structure Hs where
 t:List UInt8
 c1:Cur
def Xx (c:Cur) (o:Hs):Prop:=Fun Tryz.prog 180 [vP 0] [.cells (Cm c)] (.v (vT o.t)) [.cells (Cm o.c1)]
def Tc (c:Cur) (o:Hs):Prop:=((List.length (o.t:List UInt8)≤16)∧(A0 o.c1))∧Xx c o
theorem Akb (c:Cur) (hp1:A0 c): ∃o:Hs,Tc c o:=by
 have hN:Bk=274877906944:=rfl
 refine B5 Tryz.func180 Q4 Q4 (w:=(.intro (Aa c 4) fun o1=> .seg [.call [0] (.v (vI o1.x)) (Kc o1.c1)] (.intro (L7 o1.c1 o1.x) fun o2=>let z2:=((List.length o2.t:Nat):Int)+1;.seg [.call [0] (.v (vT o2.t)) (Kc o2.c1)] (.intro (Aa o2.c1 4) fun o3=> .seg [.call [0] (.v (vI o3.x)) (Kc o3.c1)] (.br (.intro (Kg o3.c1 o2.t) fun o4=> .seg [.call [0] (.v (vT o4.t)) (Kc o4.c1)] (.leaf (⟨o4.t,o4.c1⟩:Hs) [0])) (.br (.seg [.as 21 (.v (vI z2))] (.intro (Aa o3.c1 z2) fun o4=> .seg [.call [0] (.v (vI o4.x)) (Kc o4.c1)] (.leaf (⟨List.take (Int.toNat o4.x) o2.t,o4.c1⟩:Hs) [0]))) (.br (.seg [.ty .str,.pubS 28] (.intro (S9 o3.c1 [[128],[192,128],[224,159,191],[237,160,128],[240,143,191,191],[244,144,128,128],[245],[255],[226,130],[193,191]]) fun o4=> .seg [.call [0] (.v (vT o4.t)) (Kc o4.c1)] (.leaf (⟨o2.t++o4.t,o4.c1⟩:Hs) [0]))) (.leaf (⟨o2.t,o3.c1⟩:Hs) [0])))))),In (Aa c 4) fun o1=>((Aj c 4 o1)∧In (L7 o1.c1 o1.x) fun o2=>(let z3:=((List.length o2.t:Nat):Int);(Tb o1.c1 o1.x o2)∧In (Aa o2.c1 4) fun o3=>((Aj o2.c1 4 o3)∧Bc (decide (o3.x=0)) (In (Kg o3.c1 o2.t) fun o4=>((Rf o3.c1 o2.t o4)∧((List.length (o4.t:List UInt8)≤16)∧(A0 o4.c1))∧Lf (.v (vT o4.t)) (.v (vT o4.t)) (Kc o4.c1) (Kc o4.c1))) (Bc (decide (o3.x=1)) ((wI (z3+1))∧In (Aa o3.c1 (z3+1)) fun o4=>(let z1:=List.take (Int.toNat o4.x) o2.t;(Aj o3.c1 (z3+1) o4)∧(o4.x≤z3)∧((0:Int)≤o4.x)∧((List.length (z1:List UInt8)≤16)∧(A0 o4.c1))∧Lf (.v (vT z1)) (.v (vT z1)) (Kc o4.c1) (Kc o4.c1))) (Bc (decide (o3.x=2)) (In (S9 o3.c1 [[128],[192,128],[224,159,191],[237,160,128],[240,143,191,191],[244,144,128,128],[245],[255],[226,130],[193,191]]) fun o4=>((Xv o3.c1 [[128],[192,128],[224,159,191],[237,160,128],[240,143,191,191],[244,144,128,128],[245],[255],[226,130],[193,191]] o4)∧(((List.length o2.t+List.length o4.t:Nat):Int)≤Bb)∧((List.length ((o2.t++o4.t):List UInt8)≤16)∧(A0 o4.c1))∧Lf (.v (vT (o2.t++o4.t))) (.v (vT (o2.t++o4.t))) (Kc o4.c1) (Kc o4.c1))) (((List.length (o2.t:List UInt8)≤16)∧(A0 o3.c1))∧Lf (.v (vT o2.t)) (.v (vT o2.t)) (Kc o3.c1) (Kc o3.c1))))))))) Q4 ?_
 refine⟨(Av c 4 Q0),fun o1 ho_o1=>?_⟩
 obtain ⟨⟨hp_o1_0,hp_o1_1,hp_o1_2,hp_o1_3⟩,hf_o1⟩:=ho_o1
 refine⟨hf_o1,(Ada o1.c1 o1.x Q0 Q2),fun o2 ho_o2=>?_⟩
 obtain ⟨⟨hp_o2_0,hp_o2_1⟩,hf_o2⟩:=ho_o2
 refine⟨hf_o2,(Av o2.c1 4 Q0),fun o3 ho_o3=>?_⟩
 obtain ⟨⟨hp_o3_0,hp_o3_1,hp_o3_2,hp_o3_3⟩,hf_o3⟩:=ho_o3
 refine⟨hf_o3,dsp (fun h1 p1=>?_) fun h1 p1=>?_⟩
 refine⟨(Aam o3.c1 o2.t Q0 Q2),fun o4 ho_o4=>?_⟩
 obtain ⟨⟨hp_o4_0,hp_o4_1⟩,hf_o4⟩:=ho_o4
 exact⟨hf_o4,⟨Q2,Q0⟩,rfl,rfl⟩
 refine dsp (fun h2 p2=>?_) fun h2 p2=>?_
 refine⟨(Af Q2 Q2),(Av o3.c1 (((List.length o2.t:Nat):Int)+1) Q0),fun o4 ho_o4=>?_⟩
 obtain ⟨⟨hp_o4_0,hp_o4_1,hp_o4_2,hp_o4_3⟩,hf_o4⟩:=ho_o4
 exact⟨hf_o4,Q2,Q2,⟨(by simp only[List.length_take];omega),Q0⟩,rfl,rfl⟩
 refine dsp (fun h3 p3=>?_) fun h3 p3=>?_
 refine⟨(Aj9 o3.c1 [[128],[192,128],[224,159,191],[237,160,128],[240,143,191,191],[244,144,128,128],[245],[255],[226,130],[193,191]] Q0 Q5 Q5),fun o4 ho_o4=>?_⟩
 obtain ⟨⟨hp_o4_0,hp_o4_1⟩,hf_o4⟩:=ho_o4
 exact⟨hf_o4,(by have:=Ac9 (n:=4) hp_o4_0 Q18;simp only[Bb];omega),⟨(by have:=Ac9 (n:=4) hp_o4_0 Q18;simp;omega),Q0⟩,rfl,rfl⟩
 exact⟨⟨Q2,Q0⟩,rfl,rfl⟩
end Go.Proofs.YtijacopaadmncaaGreat.Ax
