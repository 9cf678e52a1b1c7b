/- What drawn descriptions compile to. Drawn descriptions. Drawn plans. Drawn numbers. Drawn texts. -/
import Derived.Test.YtcmnedgnppnhoaaGreatKFnStopped6
set_option linter.unusedSimpArgs false
set_option linter.unusedVariables false
namespace Go.Proofs.YtcmnedgnppnhoaaGreat.Ax
open Go.RowKit
def Ak7 (n:Nat) (f:Fld):Prop:=1≤f.kind∧f.kind≤8∧(f.kind=8→0≤f.msg∧f.msg<(n:Int))
theorem Agp {n m:Nat} {e:Shp} (h:e∈List.replicate m (⟨0,[]⟩:Shp)):Aht n e.fields:=by
 rw[List.eq_of_mem_replicate h]
 exact⟨by simp,fun f hf=>by cases hf⟩
theorem Agq {n k:Nat} {l:List Shp} {x e:Shp} (h: ∀e∈l,Aht n e.fields) (hx:Aht n x.fields) (he:e∈l.set k x):Aht n e.fields:=by
 rcases List.mem_or_eq_of_mem_set he with he|rfl
 ·exact h e he
 ·exact hx
theorem Fn {l:List Shp} {i:Nat} {x:Shp} (h:l[i]? =some x):l.set i ⟨x.id,x.fields⟩=l:=by
 apply List.ext_getElem?
 intro j
 rw[List.getElem?_set]
 split
 ·rename_i hij
  subst hij
  rw[if_pos (List.getElem?_eq_some_iff.1 h).1,h]
 ·rfl
theorem Ae2 {l:List Shp} {i:Nat} {x:Int} (hl:Gc l=List.take i [5,1,99]) (hi:i<3) (hx:([5,1,99,7]:List Int)[i]? =some x):Gc (l++[⟨x,[]⟩])=List.take (i+1) [5,1,99]:=by
 have:Gc (l++[⟨x,[]⟩])=Gc l++[x]:=by simp[Gc]
 rw[this,hl]
 have h3:i=0∨i=1∨i=2:=by omega
 rcases h3 with rfl|rfl|rfl<;>simp at hx<;>subst hx<;>rfl
theorem Ae3 {n:Nat} {l:List Shp} (h1:l.length=n) (h2:1≤n∧n≤3) (h3:Gc l=List.take n [5,1,99]) (h4: ∀m∈l,m.fields=[]):RawK n l:=
 ⟨h1,h2,h3,fun m hm=>by rw[h4 m hm];exact⟨by simp,by simp[Afp],fun f hf=>by cases hf⟩⟩
theorem Ais {l:List Shp} {i j:Nat} {x m:Shp} (h: ∀j m,i<j→l[j]? =some m→m.fields=[]) (hj:i<j) (hm:(l.set i x)[j]? =some m):m.fields=[]:=by
 rw[List.getElem?_set_ne (by omega)] at hm
 exact h j m hj hm
structure Mf where
 l:List Shp
def Uw (r:Raw) (o:Mf):Prop:=Fun Tryz.prog 192 [.agg [.seq .shp r.msgs]] [] (.tup [.agg [.own 0],.agg [.int .i64 0,.int .i64 0,.int .i64 0]]) [.tree o.l]
def Qb (r:Raw) (o:Mf):Prop:=((SchG o.l))∧Uw r o
structure G9 where
 shapes:List Shp
 i:Nat
def Ko (r:Raw):Fam:=⟨G9,fun q1=>[(1,.v (vP 0)),(2,.v (vP 1)),(3,.v (vP 2)),(4,.v (vP 3)),(5,.v (vP 4)),(6,.v (vI ((q1.i:Nat):Int)))],fun q1=>[.cells [.seq .shp r.msgs],.cells [.nil],.cells [.int .i64 0,.int .i64 0,.int .i64 0],.cells [.int .i64 0,.int .i64 0,.int .i64 0],.cells [.own 5],.tree q1.shapes],fun q1=>q1.i≤List.length r.msgs∧List.length q1.shapes=List.length r.msgs∧∀e∈q1.shapes,Aht (List.length r.msgs) e.fields,fun q1=>List.length r.msgs-q1.i⟩
structure Ha where
 x:Shp
 k:Nat
def E2 (r:Raw) (q1:G9) (x1:Shp):Fam:=⟨Ha,fun q2=>[(1,.v (vP 0)),(2,.v (vP 1)),(3,.v (vP 2)),(4,.v (vP 3)),(5,.v (vP 4)),(6,.v (vI ((q1.i:Nat):Int))),(7,.v (vP 6)),(8,.v (vI ((q2.k:Nat):Int)))],fun q2=>[.cells [.seq .shp r.msgs],.cells [.nil],.cells [.int .i64 0,.int .i64 0,.int .i64 0],.cells [.int .i64 0,.int .i64 0,.int .i64 0],.cells [.own 5],.tree q1.shapes,.cells [.int .i64 q2.x.id,.own 7],.lst .fld q2.x.fields],fun q2=>q2.k≤List.length x1.fields∧(q2.x).id=x1.id∧List.length (q2.x).fields=q2.k∧∀f∈(q2.x).fields,Ak7 (List.length r.msgs) f,fun q2=>List.length x1.fields-q2.k⟩
theorem Ae4 (r:Raw) (hp1:RawK (List.length (r).msgs) (r).msgs): ∃o:Mf,Qb r o:=by
 have hN:Bg=274877906944:=rfl
 have hpos:=hp1.pos
 refine Bw Tryz.func192 Q4 Q4 (w:=let zi:Int→C:= .int .i64;let z11:=((List.length r.msgs:Nat):Int);let z12:=Ko r;(.seg [.call [] (.v (.agg [zi 0,zi 0,zi 0])) [],.br false,.tyT,.at 0,.keep [1,2,3,4,5,6],.sel [0,1,2,3,5,4]] (.loop z12 fun q1=> .br (.intro (fun (x1:Shp)=>r.msgs[q1.i]? =some x1) fun x1=> .seg [.el .shp x1,.at 0,.mk 6 1 .fld,.keep [1,2,3,4,5,6,7,8],.sel [0,1,2,3,4,5,6,7]] (.loop (E2 r q1 x1) fun q2=> .seg [.el .shp x1] (.br (.seg [.el .shp x1] (.intro (fun (x2:Fld)=>x1.fields[q2.k]? =some x2) fun x2=>let z1:=((Tj (r).msgs x2.msg:Nat):Int);.seg [.el .fld x2] (.br (.seg [.call [] (.v (vI z1)) []] (.intro (Uv q2.x.fields (⟨x2.number,x2.kind,x2.rep,x2.packed,z1⟩:Fld)) fun o1=> .seg [.call [] (.v (vO 0)) [.lst .fld o1.o],.as 47 (.v (vI (((q2.k:Nat):Int)+1))),.at 0,.keep [1,2,3,4,5,6,7,8],.sel [0,1,2,3,4,5,6,10]] (.next))) (.intro (Uv q2.x.fields (⟨x2.number,x2.kind,x2.rep,x2.packed,(-1)⟩:Fld)) fun o1=> .seg [.call [] (.v (vO 0)) [.lst .fld o1.o],.as 47 (.v (vI (((q2.k:Nat):Int)+1))),.at 0,.keep [1,2,3,4,5,6,7,8],.sel [0,1,2,3,4,5,6,10]] (.next))))) (.intro (fun (x2:Shp)=>q1.shapes[Tj (r).msgs q2.x.id]? =some x2) fun x2=> .seg [.ord [(0,true),(1,true),(2,true),(3,true),(4,true),(6,true),(5,false),(7,true),(8,false)] [],.call [] (.v (vI ((Tj (r).msgs q2.x.id:Nat):Int))) [],.el .shp x2,.as 29 (.v (vI (((q1.i:Nat):Int)+1))),.at 0,.keep [1,2,3,4,5,6],.sel [0,1,2,3,4,5]] (.next))))) (.seg [.ord (os 4 [2,3]) [1]] (.leaf (⟨q1.shapes⟩:Mf) [5]))),(Fun Tryz.prog 209 [.agg [.seq .shp r.msgs]] [] (.v (.agg [zi 0,zi 0,zi 0])) [])∧((!decide (0=0))=false)∧(z11≤9223372036854775807)∧(((32:Nat):Int)*z11≤281474976710656)∧(z11≤z11)∧((0:Int)≤z11)∧z12.Has [(1,.v (vP 0)),(2,.v (vP 1)),(3,.v (vP 2)),(4,.v (vP 3)),(5,.v (vP 4)),(6,.v (vI 0))] [.cells [.seq .shp r.msgs],.cells [.nil],.cells [zi 0,zi 0,zi 0],.cells [zi 0,zi 0,zi 0],.cells [.own 5],.tree (List.replicate (List.length r.msgs) (⟨0,([]:List Fld)⟩:Shp))]∧∀q1,z12.inv q1→(let z10:=((q1.i:Nat):Int);((decide (z10<z11))=true→(∃(x1:Shp),r.msgs[q1.i]? =some x1)∧∀(x1:Shp),(r.msgs[q1.i]? =some x1)→(let z7:=E2 r q1 x1;let z8:=r.msgs[q1.i]? =some x1;let z9:=((List.length x1.fields:Nat):Int);z8∧((0:Int)≤z10)∧z7.Has [(1,.v (vP 0)),(2,.v (vP 1)),(3,.v (vP 2)),(4,.v (vP 3)),(5,.v (vP 4)),(6,.v (vI z10)),(7,.v (vP 6)),(8,.v (vI 0))] [.cells [.seq .shp r.msgs],.cells [.nil],.cells [zi 0,zi 0,zi 0],.cells [zi 0,zi 0,zi 0],.cells [.own 5],.tree q1.shapes,.cells [zi x1.id,.own 7],.lst .fld ([]:List Fld)]∧∀q2,z7.inv q2→(let z5:=((q2.k:Nat):Int);let z6:=((Tj (r).msgs q2.x.id:Nat):Int);z8∧((0:Int)≤z10)∧((decide (z5<z9))=true→z8∧((0:Int)≤z10)∧(∃(x2:Fld),x1.fields[q2.k]? =some x2)∧∀(x2:Fld),(x1.fields[q2.k]? =some x2)→(let z3:=(⟨x2.number,x2.kind,x2.rep,x2.packed,(-1)⟩:Fld);let z4:=((Tj (r).msgs x2.msg:Nat):Int);let z2:=(⟨x2.number,x2.kind,x2.rep,x2.packed,z4⟩:Fld);(x1.fields[q2.k]? =some x2)∧((0:Int)≤z5)∧((decide (x2.kind=8))=true→(Fun Tryz.prog 210 [.agg [.seq .shp r.msgs],vI x2.msg] [] (.v (vI z4)) [])∧In (Uv q2.x.fields z2) fun o1=>((Z4 q2.x.fields z2 o1)∧((.v (vI (IntKind.i64.wrap (z5+1))):S)= .v (vI (z5+1)))∧z7.Nxt q2 [(1,.v (vP 0)),(2,.v (vP 1)),(3,.v (vP 2)),(4,.v (vP 3)),(5,.v (vP 4)),(6,.v (vI z10)),(7,.v (vP 6)),(8,.v (vI (z5+1)))] [.cells [.seq .shp r.msgs],.cells [.nil],.cells [zi 0,zi 0,zi 0],.cells [zi 0,zi 0,zi 0],.cells [.own 5],.tree q1.shapes,.cells [zi q2.x.id,.own 7],.lst .fld o1.o]))∧((decide (x2.kind=8))=false→In (Uv q2.x.fields z3) fun o1=>((Z4 q2.x.fields z3 o1)∧((.v (vI (IntKind.i64.wrap (z5+1))):S)= .v (vI (z5+1)))∧z7.Nxt q2 [(1,.v (vP 0)),(2,.v (vP 1)),(3,.v (vP 2)),(4,.v (vP 3)),(5,.v (vP 4)),(6,.v (vI z10)),(7,.v (vP 6)),(8,.v (vI (z5+1)))] [.cells [.seq .shp r.msgs],.cells [.nil],.cells [zi 0,zi 0,zi 0],.cells [zi 0,zi 0,zi 0],.cells [.own 5],.tree q1.shapes,.cells [zi q2.x.id,.own 7],.lst .fld o1.o]))))∧((decide (z5<z9))=false→(∃(x2:Shp),q1.shapes[Tj (r).msgs q2.x.id]? =some x2)∧∀(x2:Shp),(q1.shapes[Tj (r).msgs q2.x.id]? =some x2)→((Fun Tryz.prog 210 [.agg [.seq .shp r.msgs],vI q2.x.id] [] (.v (vI z6)) [])∧(z6<((List.length q1.shapes:Nat):Int))∧((0:Int)≤z6)∧(q1.shapes[Tj (r).msgs q2.x.id]? =some x2)∧((.v (vI (IntKind.i64.wrap (z10+1))):S)= .v (vI (z10+1)))∧z12.Nxt q1 [(1,.v (vP 0)),(2,.v (vP 1)),(3,.v (vP 2)),(4,.v (vP 3)),(5,.v (vP 4)),(6,.v (vI (z10+1)))] [.cells [.seq .shp r.msgs],.cells [.nil],.cells [zi 0,zi 0,zi 0],.cells [zi 0,zi 0,zi 0],.cells [.own 5],.tree (List.set q1.shapes (Tj (r).msgs q2.x.id) (⟨q2.x.id,q2.x.fields⟩:Shp))])))))∧((decide (z10<z11))=false→((SchG q1.shapes))∧(.tup [.agg [.own 0],.agg [zi 0,zi 0,zi 0]]:S)= .tup [.agg [.own 0],.agg [zi 0,zi 0,zi 0]]∧([.tree q1.shapes]:List Blk)=[.tree q1.shapes])))) Q4 ?_
 refine⟨(Air r Q2),Q24,Q2,Q2,Q2,Q2,Bk (j:=(⟨List.replicate (List.length r.msgs) (⟨0,([]:List Fld)⟩:Shp),0⟩:G9)) Q10 rfl (by dsimp only[Ko];exact⟨by omega,by simp,fun e he=>Agp he⟩),fun (q1:G9) hq_q1=>?_⟩
 have hi_q1:q1.i≤List.length r.msgs∧List.length q1.shapes=List.length r.msgs∧∀e∈q1.shapes,Aht (List.length r.msgs) e.fields:=hq_q1
 obtain ⟨v1,v2,v3⟩:=hi_q1
 refine dsp (fun h1 p1=>?_) fun h1 p1=>?_
 refine⟨(Bm (l:=r.msgs) (i:=q1.i) Q2),fun x1 hx1=>?_⟩
 have hfg:=hp1.flds _ (List.mem_of_getElem? hx1)
 have hfl:=hfg.len
 have hmi:x1.id∈Gc r.msgs:=List.mem_map.2 ⟨_,List.mem_of_getElem? hx1,rfl⟩
 have hrl:=Aez hmi
 refine⟨hx1,Q2,Bk (j:=(⟨(⟨x1.id,([]:List Fld)⟩:Shp),0⟩:Ha)) Q10 Q10 (by dsimp only[E2];exact⟨by omega,rfl,rfl,fun f hf=>by cases hf⟩),fun (q2:Ha) hq_q2=>?_⟩
 have hi_q2:q2.k≤List.length x1.fields∧(q2.x).id=x1.id∧List.length (q2.x).fields=q2.k∧∀f∈(q2.x).fields,Ak7 (List.length r.msgs) f:=hq_q2
 obtain ⟨w1,w2,w3,w4⟩:=hi_q2
 refine⟨hx1,Q2,dsp (fun h2 p2=>?_) fun h2 p2=>?_⟩
 refine⟨hx1,Q2,(Bm (l:=x1.fields) (i:=q2.k) Q2),fun x2 hx2=>?_⟩
 have hg:=hfg.all _ (List.mem_of_getElem? hx2)
 have hgk:=hg.kd
 refine⟨hx2,Q2,dsp (fun h3 p3=>?_) fun h3 p3=>?_⟩
 have hir:=Aez (hg.ref (by omega))
 refine⟨(Ahu r _ Q2),(Aj7 q2.x.fields (⟨x2.number,x2.kind,x2.rep,x2.packed,((Tj (r).msgs x2.msg:Nat):Int)⟩:Fld) Q2),fun o1 ho_o1=>?_⟩
 obtain ⟨⟨hp_o1_0,hp_o1_1⟩,hf_o1⟩:=ho_o1
 exact⟨hf_o1,(Ae Q2 Q2),Bd (j:=(⟨(⟨q2.x.id,o1.o⟩:Shp),q2.k+1⟩:Ha)) Q10 Q10 (by dsimp only[E2];exact⟨by omega,w2,by omega,fun f hf=>by
          rcases hp_o1_1 f hf with rfl|hf
          ·exact⟨by dsimp only;omega,by dsimp only;omega,fun h8=>by dsimp only at h8 ⊢;omega⟩
          ·exact w4 f hf⟩) (by dsimp only[E2];omega)⟩
 refine⟨(Aj7 q2.x.fields (⟨x2.number,x2.kind,x2.rep,x2.packed,(-1)⟩:Fld) Q2),fun o1 ho_o1=>?_⟩
 obtain ⟨⟨hp_o1_0,hp_o1_1⟩,hf_o1⟩:=ho_o1
 exact⟨hf_o1,(Ae Q2 Q2),Bd (j:=(⟨(⟨q2.x.id,o1.o⟩:Shp),q2.k+1⟩:Ha)) Q10 Q10 (by dsimp only[E2];exact⟨by omega,w2,by omega,fun f hf=>by
          rcases hp_o1_1 f hf with rfl|hf
          ·exact⟨by dsimp only;omega,by dsimp only;omega,fun h8=>by dsimp only at h8 ⊢;omega⟩
          ·exact w4 f hf⟩) (by dsimp only[E2];omega)⟩
 have hxg:Aht (List.length r.msgs) q2.x.fields:=⟨by omega,w4⟩
 have hrx:Tj r.msgs q2.x.id<List.length r.msgs:=by rw[w2];exact hrl
 refine⟨(Bm (l:=q1.shapes) (i:=Tj (r).msgs q2.x.id) Q2),fun x2 hx2=>?_⟩
 exact⟨(Ahu r _ Q2),Q2,Q2,hx2,(Ae Q2 Q2),Bd (j:=(⟨List.set q1.shapes (Tj (r).msgs q2.x.id) (⟨q2.x.id,q2.x.fields⟩:Shp),q1.i+1⟩:G9)) Q10 rfl (by dsimp only[Ko];exact⟨by omega,by rw[List.length_set];exact v2,fun e he=>Agq v3 hxg he⟩) (by dsimp only[Ko];omega)⟩
 have hsg:SchG q1.shapes:=⟨by omega,fun e he=>by rw[v2];exact v3 e he⟩
 exact⟨(hsg),rfl,rfl⟩
theorem Yq {n:Int} (h:1≤n∧n≤18999∨20000≤n∧n≤536870911):Dc n=true:=by
 simp only[Dc,Am,Bool.and_eq_true,Bool.not_eq_true',Bool.and_eq_false_iff,decide_eq_true_eq,decide_eq_false_iff_not]
 omega
theorem Akw {x:Int} (h:x∈([16,2047,2048,18999,20000,536870911]:List Int)):1≤x∧x≤18999∨20000≤x∧x≤536870911:=by
 simp at h
 omega
theorem Acg {k:Int} (h:C3 k=true):k≤5:=by
 simp only[C3,Am,Bool.and_eq_true,decide_eq_true_eq] at h
 omega
theorem Agr {l:List Shp} {i:Nat} {x m:Shp} {k:Nat} (hx:x.fields.length≤k) (hm:(l.set i x)[i]? =some m):m.fields.length≤k:=by
 rw[List.getElem?_set] at hm
 simp at hm
 obtain ⟨_,rfl⟩:=hm
 exact hx
structure Mg where
 r:Raw
 c1:Cur
def Ux (c:Cur) (o:Mg):Prop:=Fun Tryz.prog 193 [vP 0] [.cells (Ak c)] (.v (.agg [.own 1])) [.cells (Ak o.c1),.tree o.r.msgs]
def Qc (c:Cur) (o:Mg):Prop:=((RawK (List.length (o.r).msgs) (o.r).msgs)∧(Aw o.c1))∧Ux c o
structure Kp where
 c:Cur
 msgs:List Shp
 i:Nat
def E3 (o1:Cp):Fam:=⟨Kp,fun q1=>[(0,.v (vP 0)),(2,.v (vP 1)),(3,.v (vP 2)),(4,.v (vI (1+o1.x))),(5,.v (vI ((q1.i:Nat):Int)))],fun q1=>[.cells (Ak q1.c),.cells [.nil],.cells [.own 3],.tree q1.msgs],fun q1=>Aw q1.c∧((q1.i:Nat):Int)≤1+o1.x∧List.length q1.msgs=q1.i∧Gc q1.msgs=List.take q1.i [5,1,99]∧∀m∈q1.msgs,m.fields=[],fun q1=>3-q1.i⟩
structure Hb where
 c:Cur
 msgs:List Shp
 i:Nat
def E4 (o1:Cp):Fam:=⟨Hb,fun q2=>[(0,.v (vP 0)),(2,.v (vP 1)),(3,.v (vP 2)),(4,.v (vI (1+o1.x))),(6,.v (vI ((q2.i:Nat):Int)))],fun q2=>[.cells (Ak q2.c),.cells [.nil],.cells [.own 3],.tree q2.msgs],fun q2=>Aw q2.c∧q2.i≤Int.toNat (1+o1.x)∧RawK (Int.toNat (1+o1.x)) q2.msgs∧∀j m,q2.i≤j→q2.msgs[j]? =some m→m.fields=[],fun q2=>3-q2.i⟩
structure Bi where
 c:Cur
 msgs:List Shp
 k:Nat
def Hc (o1:Cp) (q2:Hb) (o2:Cp):Fam:=⟨Bi,fun q3=>[(0,.v (vP 0)),(2,.v (vP 1)),(3,.v (vP 2)),(4,.v (vI (1+o1.x))),(6,.v (vI ((q2.i:Nat):Int))),(7,.v (vI o2.x)),(8,.v (vI ((q3.k:Nat):Int)))],fun q3=>[.cells (Ak q3.c),.cells [.nil],.cells [.own 3],.tree q3.msgs],fun q3=>Aw q3.c∧q3.k≤5∧RawK (Int.toNat (1+o1.x)) q3.msgs∧(∀j m,q2.i<j→q3.msgs[j]? =some m→m.fields=[])∧∀m,q3.msgs[q2.i]? =some m→List.length m.fields≤q3.k,fun q3=>5-q3.k⟩
theorem Ae5 (c:Cur) (hp1:Aw c): ∃o:Mg,Qc c o:=by
 have hN:Bg=274877906944:=rfl
 refine Bw Tryz.func193 Q4 Q4 (w:=let z94:=fr (.first 9 (.two 8 (.one 10 (.one 11 (.first 12 (.first 13 (.one 14 (.done)))))) 10 (.one 8 (.one 11 (.first 12 (.first 13 (.one 14 (.done)))))))) 0 8;let z95:=fr (.one 4 (.first 5 (.first 6 (.one 7 (.first 8 (.one 9 (.done))))))) 0 4;let z96:=os 10 [8];(.intro (Aa c 3) fun o1=>let z91:=1+o1.x;.seg [.call [0] (.v (vI o1.x)) [.cells (Ak o1.c1)],.as 13 (.v (vI z91)),.at 0,.mkT 2 0,.keep [0,2,3,4,5],.sel [0,1,2,3]] (.loop (E3 o1) fun q1=> .br (.intro (fun (x1:Int)=>[5,1,99,7][q1.i]? =some x1) fun x1=> .seg [.tree (.first 0 (.first 1 (.first 3 (.one 2 (.first 4 (.one 5 (.first 6 (.one 7 (.one 8 (.first 9 (.one 10 (.done)))))))))))) 10 [3],.ty .int,.el .int x1,.tyT,.tyT,.at 0,.keep [0,2,3,4,5],.sel [0,1,2,6],.as 18 (.v (vI (((q1.i:Nat):Int)+1))),.at 0,.keep [0,2,3,4,5],.sel [0,1,2,3]] (.next)) (.seg [.at 0,.keep [0,2,3,4,6],.sel [0,1,2,3]] (.loop (E4 o1) fun q2=> .br (.intro (Aa q2.c 6) fun o2=> .seg [.call [0] (.v (vI o2.x)) [.cells (Ak o2.c1)],.at 0,.keep [0,2,3,4,6,7,8],.sel [0,1,2,3]] (.loop (Hc o1 q2 o2) fun q3=>let z75:=vI (((q3.k:Nat):Int)+1);.br (.intro (Aa q3.c 12) fun o3=>let z73:=1+o3.x;.seg [.call [0] (.v (vI o3.x)) [.cells (Ak o3.c1)],.as 43 (.v (vI z73))] (.intro (Aa o3.c1 8) fun o4=> .seg [.call [0] (.v (vI o4.x)) [.cells (Ak o4.c1)],.as 46 (.v (vI (1+o4.x)))] (.intro (Aq o4.c1 2) fun o5=> .seg [.call [0] (.v (vB o5.p)) [.cells (Ak o5.c1)]] (.intro (Aq o5.c1 12) fun o6=> .seg [.call [0] (.v (vB o6.p)) [.cells (Ak o6.c1)]] (.br (.seg [.ty .int,.pubS 53] (.intro (Bb o6.c1 [16,2047,2048,18999,20000,536870911]) fun o7=> .seg [.call [0] (.v (vI o7.x)) [.cells (Ak o7.c1)]] (.br (.seg [.call [] (.v (vB (C3 (1+o4.x)))) []] (.br (.intro (Aq o7.c1 2) fun o8=> .seg [.call [0] (.v (vB o8.p)) [.cells (Ak o8.c1)]] (.br (.intro (Aa o8.c1 z91) fun o9=> .intro (fun (x1:Shp)=>q3.msgs[Int.toNat o9.x]? =some x1) fun x1=> .seg [.tree z95 9 [0],.call [0] (.v (vI o9.x)) [.cells (Ak o9.c1)],.el .shp x1,.at 0,.keep [0,2,3,4,6,7,8,9],.sel [0,1,2,3,4]] (.intro (fun (x2:Shp)=>q3.msgs[q2.i]? =some x2) fun x2=> .take 20 3 q2.i x2 (.seg [.ord z96 [],.call [] (.v (vB (Cu x2.fields o7.x))) []] (.br (.seg [.tree z94 14 [5],.ty .fld,.ty .fld,.el .shp x2,.at 0,.keep [0,2,3,4,6,7,8],.sel [0,1,2,3],.ty .fld,.ty .fld,.el .shp x2,.at 0,.keep [0,2,3,4,6,7,8],.sel [0,1,2,3],.as 40 (.v z75),.at 0,.keep [0,2,3,4,6,7,8],.sel [0,1,2,3]] (.next)) (.give 13 3 x2 (.seg [.as 40 (.v z75),.at 0,.keep [0,2,3,4,6,7,8],.sel [0,1,2,3]] (.next))))))) (.intro (fun (x1:Shp)=>q3.msgs[q2.i]? =some x1) fun x1=> .take 20 3 q2.i x1 (.seg [.ord z96 [],.call [] (.v (vB (Cu x1.fields o7.x))) []] (.br (.seg [.tree z94 14 [6],.ty .fld,.ty .fld,.el .shp x1,.at 0,.keep [0,2,3,4,6,7,8],.sel [0,1,2,3],.ty .fld,.ty .fld,.el .shp x1,.at 0,.keep [0,2,3,4,6,7,8],.sel [0,1,2,3],.as 40 (.v z75),.at 0,.keep [0,2,3,4,6,7,8],.sel [0,1,2,3]] (.next)) (.give 13 3 x1 (.seg [.as 40 (.v z75),.at 0,.keep [0,2,3,4,6,7,8],.sel [0,1,2,3]] (.next)))))))) (.br (.intro (Aa o7.c1 z91) fun o8=> .intro (fun (x1:Shp)=>q3.msgs[Int.toNat o8.x]? =some x1) fun x1=> .seg [.tree z95 9 [0],.call [0] (.v (vI o8.x)) [.cells (Ak o8.c1)],.el .shp x1,.at 0,.keep [0,2,3,4,6,7,8,9],.sel [0,1,2,3,4]] (.intro (fun (x2:Shp)=>q3.msgs[q2.i]? =some x2) fun x2=> .take 20 3 q2.i x2 (.seg [.ord z96 [],.call [] (.v (vB (Cu x2.fields o7.x))) []] (.br (.seg [.tree z94 14 [5],.ty .fld,.ty .fld,.el .shp x2,.at 0,.keep [0,2,3,4,6,7,8],.sel [0,1,2,3],.ty .fld,.ty .fld,.el .shp x2,.at 0,.keep [0,2,3,4,6,7,8],.sel [0,1,2,3],.as 40 (.v z75),.at 0,.keep [0,2,3,4,6,7,8],.sel [0,1,2,3]] (.next)) (.give 13 3 x2 (.seg [.as 40 (.v z75),.at 0,.keep [0,2,3,4,6,7,8],.sel [0,1,2,3]] (.next))))))) (.intro (fun (x1:Shp)=>q3.msgs[q2.i]? =some x1) fun x1=> .take 20 3 q2.i x1 (.seg [.ord z96 [],.call [] (.v (vB (Cu x1.fields o7.x))) []] (.br (.seg [.tree z94 14 [6],.ty .fld,.ty .fld,.el .shp x1,.at 0,.keep [0,2,3,4,6,7,8],.sel [0,1,2,3],.ty .fld,.ty .fld,.el .shp x1,.at 0,.keep [0,2,3,4,6,7,8],.sel [0,1,2,3],.as 40 (.v z75),.at 0,.keep [0,2,3,4,6,7,8],.sel [0,1,2,3]] (.next)) (.give 13 3 x1 (.seg [.as 40 (.v z75),.at 0,.keep [0,2,3,4,6,7,8],.sel [0,1,2,3]] (.next))))))))) (.br (.intro (Aa o7.c1 z91) fun o8=> .intro (fun (x1:Shp)=>q3.msgs[Int.toNat o8.x]? =some x1) fun x1=> .seg [.tree z95 9 [0],.call [0] (.v (vI o8.x)) [.cells (Ak o8.c1)],.el .shp x1,.at 0,.keep [0,2,3,4,6,7,8,9],.sel [0,1,2,3,4]] (.intro (fun (x2:Shp)=>q3.msgs[q2.i]? =some x2) fun x2=> .take 20 3 q2.i x2 (.seg [.ord z96 [],.call [] (.v (vB (Cu x2.fields o7.x))) []] (.br (.seg [.tree z94 14 [5],.ty .fld,.ty .fld,.el .shp x2,.at 0,.keep [0,2,3,4,6,7,8],.sel [0,1,2,3],.ty .fld,.ty .fld,.el .shp x2,.at 0,.keep [0,2,3,4,6,7,8],.sel [0,1,2,3],.as 40 (.v z75),.at 0,.keep [0,2,3,4,6,7,8],.sel [0,1,2,3]] (.next)) (.give 13 3 x2 (.seg [.as 40 (.v z75),.at 0,.keep [0,2,3,4,6,7,8],.sel [0,1,2,3]] (.next))))))) (.intro (fun (x1:Shp)=>q3.msgs[q2.i]? =some x1) fun x1=> .take 20 3 q2.i x1 (.seg [.ord z96 [],.call [] (.v (vB (Cu x1.fields o7.x))) []] (.br (.seg [.tree z94 14 [6],.ty .fld,.ty .fld,.el .shp x1,.at 0,.keep [0,2,3,4,6,7,8],.sel [0,1,2,3],.ty .fld,.ty .fld,.el .shp x1,.at 0,.keep [0,2,3,4,6,7,8],.sel [0,1,2,3],.as 40 (.v z75),.at 0,.keep [0,2,3,4,6,7,8],.sel [0,1,2,3]] (.next)) (.give 13 3 x1 (.seg [.as 40 (.v z75),.at 0,.keep [0,2,3,4,6,7,8],.sel [0,1,2,3]] (.next)))))))))) (.br (.seg [.call [] (.v (vB (C3 (1+o4.x)))) []] (.br (.intro (Aq o6.c1 2) fun o7=> .seg [.call [0] (.v (vB o7.p)) [.cells (Ak o7.c1)]] (.br (.intro (Aa o7.c1 z91) fun o8=> .intro (fun (x1:Shp)=>q3.msgs[Int.toNat o8.x]? =some x1) fun x1=> .seg [.tree z95 9 [0],.call [0] (.v (vI o8.x)) [.cells (Ak o8.c1)],.el .shp x1,.at 0,.keep [0,2,3,4,6,7,8,9],.sel [0,1,2,3,4]] (.intro (fun (x2:Shp)=>q3.msgs[q2.i]? =some x2) fun x2=> .take 20 3 q2.i x2 (.seg [.ord z96 [],.call [] (.v (vB (Cu x2.fields z73))) []] (.br (.seg [.tree z94 14 [5],.ty .fld,.ty .fld,.el .shp x2,.at 0,.keep [0,2,3,4,6,7,8],.sel [0,1,2,3],.ty .fld,.ty .fld,.el .shp x2,.at 0,.keep [0,2,3,4,6,7,8],.sel [0,1,2,3],.as 40 (.v z75),.at 0,.keep [0,2,3,4,6,7,8],.sel [0,1,2,3]] (.next)) (.give 13 3 x2 (.seg [.as 40 (.v z75),.at 0,.keep [0,2,3,4,6,7,8],.sel [0,1,2,3]] (.next))))))) (.intro (fun (x1:Shp)=>q3.msgs[q2.i]? =some x1) fun x1=> .take 20 3 q2.i x1 (.seg [.ord z96 [],.call [] (.v (vB (Cu x1.fields z73))) []] (.br (.seg [.tree z94 14 [5],.ty .fld,.ty .fld,.el .shp x1,.at 0,.keep [0,2,3,4,6,7,8],.sel [0,1,2,3],.ty .fld,.ty .fld,.el .shp x1,.at 0,.keep [0,2,3,4,6,7,8],.sel [0,1,2,3],.as 40 (.v z75),.at 0,.keep [0,2,3,4,6,7,8],.sel [0,1,2,3]] (.next)) (.give 13 3 x1 (.seg [.as 40 (.v z75),.at 0,.keep [0,2,3,4,6,7,8],.sel [0,1,2,3]] (.next)))))))) (.br (.intro (Aa o6.c1 z91) fun o7=> .intro (fun (x1:Shp)=>q3.msgs[Int.toNat o7.x]? =some x1) fun x1=> .seg [.tree z95 9 [0],.call [0] (.v (vI o7.x)) [.cells (Ak o7.c1)],.el .shp x1,.at 0,.keep [0,2,3,4,6,7,8,9],.sel [0,1,2,3,4]] (.intro (fun (x2:Shp)=>q3.msgs[q2.i]? =some x2) fun x2=> .take 20 3 q2.i x2 (.seg [.ord z96 [],.call [] (.v (vB (Cu x2.fields z73))) []] (.br (.seg [.tree z94 14 [5],.ty .fld,.ty .fld,.el .shp x2,.at 0,.keep [0,2,3,4,6,7,8],.sel [0,1,2,3],.ty .fld,.ty .fld,.el .shp x2,.at 0,.keep [0,2,3,4,6,7,8],.sel [0,1,2,3],.as 40 (.v z75),.at 0,.keep [0,2,3,4,6,7,8],.sel [0,1,2,3]] (.next)) (.give 13 3 x2 (.seg [.as 40 (.v z75),.at 0,.keep [0,2,3,4,6,7,8],.sel [0,1,2,3]] (.next))))))) (.intro (fun (x1:Shp)=>q3.msgs[q2.i]? =some x1) fun x1=> .take 20 3 q2.i x1 (.seg [.ord z96 [],.call [] (.v (vB (Cu x1.fields z73))) []] (.br (.seg [.tree z94 14 [5],.ty .fld,.ty .fld,.el .shp x1,.at 0,.keep [0,2,3,4,6,7,8],.sel [0,1,2,3],.ty .fld,.ty .fld,.el .shp x1,.at 0,.keep [0,2,3,4,6,7,8],.sel [0,1,2,3],.as 40 (.v z75),.at 0,.keep [0,2,3,4,6,7,8],.sel [0,1,2,3]] (.next)) (.give 13 3 x1 (.seg [.as 40 (.v z75),.at 0,.keep [0,2,3,4,6,7,8],.sel [0,1,2,3]] (.next))))))))) (.br (.intro (Aa o6.c1 z91) fun o7=> .intro (fun (x1:Shp)=>q3.msgs[Int.toNat o7.x]? =some x1) fun x1=> .seg [.tree z95 9 [0],.call [0] (.v (vI o7.x)) [.cells (Ak o7.c1)],.el .shp x1,.at 0,.keep [0,2,3,4,6,7,8,9],.sel [0,1,2,3,4]] (.intro (fun (x2:Shp)=>q3.msgs[q2.i]? =some x2) fun x2=> .take 20 3 q2.i x2 (.seg [.ord z96 [],.call [] (.v (vB (Cu x2.fields z73))) []] (.br (.seg [.tree z94 14 [5],.ty .fld,.ty .fld,.el .shp x2,.at 0,.keep [0,2,3,4,6,7,8],.sel [0,1,2,3],.ty .fld,.ty .fld,.el .shp x2,.at 0,.keep [0,2,3,4,6,7,8],.sel [0,1,2,3],.as 40 (.v z75),.at 0,.keep [0,2,3,4,6,7,8],.sel [0,1,2,3]] (.next)) (.give 13 3 x2 (.seg [.as 40 (.v z75),.at 0,.keep [0,2,3,4,6,7,8],.sel [0,1,2,3]] (.next))))))) (.intro (fun (x1:Shp)=>q3.msgs[q2.i]? =some x1) fun x1=> .take 20 3 q2.i x1 (.seg [.ord z96 [],.call [] (.v (vB (Cu x1.fields z73))) []] (.br (.seg [.tree z94 14 [5],.ty .fld,.ty .fld,.el .shp x1,.at 0,.keep [0,2,3,4,6,7,8],.sel [0,1,2,3],.ty .fld,.ty .fld,.el .shp x1,.at 0,.keep [0,2,3,4,6,7,8],.sel [0,1,2,3],.as 40 (.v z75),.at 0,.keep [0,2,3,4,6,7,8],.sel [0,1,2,3]] (.next)) (.give 13 3 x1 (.seg [.as 40 (.v z75),.at 0,.keep [0,2,3,4,6,7,8],.sel [0,1,2,3]] (.next))))))))))))) (.seg [.as 33 (.v (vI (((q2.i:Nat):Int)+1))),.at 0,.keep [0,2,3,4,6],.sel [0,1,2,3]] (.next)))) (.leaf (⟨(⟨q2.msgs⟩:Raw),q2.c⟩:Mg) [0,3])))),In (Aa c 3) fun o1=>(let z93:=1+o1.x;let z92:=vI z93;(Ai c 3 o1)∧((.v (vI (IntKind.i64.wrap z93)):S)= .v z92)∧(E3 o1).Has [(0,.v (vP 0)),(2,.v (vP 1)),(3,.v (vP 2)),(4,.v z92),(5,.v (vI 0))] [.cells (Ak o1.c1),.cells [.nil],.cells [.own 3],.tree ([]:List Shp)]∧∀q1,(E3 o1).inv q1→(let z90:=((q1.i:Nat):Int);((decide (z90<1+o1.x))=true→(∃(x1:Int),[5,1,99,7][q1.i]? =some x1)∧∀(x1:Int),([5,1,99,7][q1.i]? =some x1)→((z90<((List.length [5,1,99,7]:Nat):Int))∧((0:Int)≤z90)∧([5,1,99,7][q1.i]? =some x1)∧(List.length q1.msgs+List.length [(⟨x1,([]:List Fld)⟩:Shp)]≤Bg)∧((.v (vI (IntKind.i64.wrap (z90+1))):S)= .v (vI (z90+1)))∧(E3 o1).Nxt q1 [(0,.v (vP 0)),(2,.v (vP 1)),(3,.v (vP 2)),(4,.v z92),(5,.v (vI (z90+1)))] [.cells (Ak q1.c),.cells [.nil],.cells [.own 3],.tree (q1.msgs++[(⟨x1,([]:List Fld)⟩:Shp)])]))∧((decide (z90<1+o1.x))=false→(E4 o1).Has [(0,.v (vP 0)),(2,.v (vP 1)),(3,.v (vP 2)),(4,.v z92),(6,.v (vI 0))] [.cells (Ak q1.c),.cells [.nil],.cells [.own 3],.tree q1.msgs]∧∀q2,(E4 o1).inv q2→(let z87:=q2.i=q2.i;let z89:=((q2.i:Nat):Int);let z86:=(0:Int)≤z89;let z88:=vI z89;((decide (z89<1+o1.x))=true→In (Aa q2.c 6) fun o2=>(let z85:=Hc o1 q2 o2;(Ai q2.c 6 o2)∧z85.Has [(0,.v (vP 0)),(2,.v (vP 1)),(3,.v (vP 2)),(4,.v z92),(6,.v z88),(7,.v (vI o2.x)),(8,.v (vI 0))] [.cells (Ak o2.c1),.cells [.nil],.cells [.own 3],.tree q2.msgs]∧∀q3,z85.inv q3→(let z80:=((List.length q3.msgs:Nat):Int);let z76:=z89<z80;let z81:= ∃(x2:Shp),q3.msgs[q2.i]? =some x2;let z82:= ∃(x1:Shp),q3.msgs[q2.i]? =some x1;let z83:=q3.msgs[q2.i]?;let z84:=((q3.k:Nat):Int);let z77:=([(0,.v (vP 0)),(2,.v (vP 1)),(3,.v (vP 2)),(4,.v z92),(6,.v z88),(7,.v (vI o2.x)),(8,.v (vI z84))]:List (Nat×S))=[(0,.v (vP 0)),(2,.v (vP 1)),(3,.v (vP 2)),(4,.v z92),(6,.v z88),(7,.v (vI o2.x)),(8,.v (vI z84))];let z79:=vI (z84+1);let z78:=(.v (vI (IntKind.i64.wrap (z84+1))):S)= .v z79;((decide (z84<o2.x))=true→In (Aa q3.c 12) fun o3=>(let z74:=1+o3.x;(Ai q3.c 12 o3)∧((.v (vI (IntKind.i64.wrap z74)):S)= .v (vI z74))∧In (Aa o3.c1 8) fun o4=>(let z71:=decide (1+o4.x=8);let z72:=C3 (1+o4.x);(Ai o3.c1 8 o4)∧((.v (vI (IntKind.i64.wrap (1+o4.x))):S)= .v (vI (1+o4.x)))∧In (Aq o4.c1 2) fun o5=>(let z70:=(⟨1+o3.x,1+o4.x,o5.p,false,0⟩:Fld);(Bf o4.c1 2 o5)∧In (Aq o5.c1 12) fun o6=>((Bf o5.c1 12 o6)∧(o6.p=true→In (Bb o6.c1 [16,2047,2048,18999,20000,536870911]) fun o7=>(let z35:=(⟨o7.x,1+o4.x,o5.p,false,0⟩:Fld);(B9 o6.c1 [16,2047,2048,18999,20000,536870911] o7)∧(o5.p=true→(Fun Tryz.prog 135 [vI (1+o4.x)] [] (.v (vB z72)) [])∧(z72=true→In (Aq o7.c1 2) fun o8=>(let z12:=(⟨o7.x,1+o4.x,o5.p,o8.p,0⟩:Fld);(Bf o7.c1 2 o8)∧(z71=true→In (Aa o8.c1 z93) fun o9=>((∃(x1:Shp),q3.msgs[Int.toNat o9.x]? =some x1)∧∀(x1:Shp),(q3.msgs[Int.toNat o9.x]? =some x1)→(let z6:=(⟨o7.x,1+o4.x,o5.p,o8.p,x1.id⟩:Fld);(Ai o8.c1 z93 o9)∧(o9.x<z80)∧((0:Int)≤o9.x)∧(q3.msgs[Int.toNat o9.x]? =some x1)∧z81∧∀(x2:Shp),(q3.msgs[q2.i]? =some x2)→(let z1:List Blk:=[.cells (Ak o9.c1),.cells [.nil],.cells [.own 3],.tree (List.set q3.msgs q2.i (⟨x2.id,x2.fields++[z6]⟩:Shp))];let z2:=z83.map (fun (x:Shp)=>x.fields.length)=some (List.length x2.fields);let z3:=List.length x2.fields+List.length [z6]≤Bg;let z4:=q3.msgs[q2.i]? =some x2;let z5:=Cu x2.fields o7.x;z4∧z76∧z86∧z76∧z86∧z87∧z2∧z87∧z2∧(Fun Tryz.prog 212 [.c (.seq .fld x2.fields),vI o7.x] [] (.v (vB z5)) [])∧((!z5)=true→z76∧z86∧z76∧z86∧z87∧z2∧z3∧z76∧z86∧z76∧z86∧z87∧z4∧z87∧z2∧z3∧z76∧z86∧z76∧z86∧z87∧z4∧((z1:List Blk)=z1)∧z77∧z78∧z85.Nxt q3 [(0,.v (vP 0)),(2,.v (vP 1)),(3,.v (vP 2)),(4,.v z92),(6,.v z88),(7,.v (vI o2.x)),(8,.v z79)] z1)∧((!z5)=false→(List.length x2.fields=List.length x2.fields)∧z4∧z78∧z85.Nxt q3 [(0,.v (vP 0)),(2,.v (vP 1)),(3,.v (vP 2)),(4,.v z92),(6,.v z88),(7,.v (vI o2.x)),(8,.v z79)] [.cells (Ak o9.c1),.cells [.nil],.cells [.own 3],.tree (List.set q3.msgs q2.i (⟨x2.id,x2.fields⟩:Shp))])))))∧(z71=false→z82∧∀(x1:Shp),(q3.msgs[q2.i]? =some x1)→(let z7:List Blk:=[.cells (Ak o8.c1),.cells [.nil],.cells [.own 3],.tree (List.set q3.msgs q2.i (⟨x1.id,x1.fields++[z12]⟩:Shp))];let z8:=z83.map (fun (x:Shp)=>x.fields.length)=some (List.length x1.fields);let z9:=List.length x1.fields+List.length [z12]≤Bg;let z10:=q3.msgs[q2.i]? =some x1;let z11:=Cu x1.fields o7.x;z10∧z76∧z86∧z76∧z86∧z87∧z8∧z87∧z8∧(Fun Tryz.prog 212 [.c (.seq .fld x1.fields),vI o7.x] [] (.v (vB z11)) [])∧((!z11)=true→z76∧z86∧z76∧z86∧z87∧z8∧z9∧z76∧z86∧z76∧z86∧z87∧z10∧z87∧z8∧z9∧z76∧z86∧z76∧z86∧z87∧z10∧((z7:List Blk)=z7)∧z77∧z78∧z85.Nxt q3 [(0,.v (vP 0)),(2,.v (vP 1)),(3,.v (vP 2)),(4,.v z92),(6,.v z88),(7,.v (vI o2.x)),(8,.v z79)] z7)∧((!z11)=false→(List.length x1.fields=List.length x1.fields)∧z10∧z78∧z85.Nxt q3 [(0,.v (vP 0)),(2,.v (vP 1)),(3,.v (vP 2)),(4,.v z92),(6,.v z88),(7,.v (vI o2.x)),(8,.v z79)] [.cells (Ak o8.c1),.cells [.nil],.cells [.own 3],.tree (List.set q3.msgs q2.i (⟨x1.id,x1.fields⟩:Shp))])))))∧(z72=false→(z71=true→In (Aa o7.c1 z93) fun o8=>((∃(x1:Shp),q3.msgs[Int.toNat o8.x]? =some x1)∧∀(x1:Shp),(q3.msgs[Int.toNat o8.x]? =some x1)→(let z18:=(⟨o7.x,1+o4.x,o5.p,false,x1.id⟩:Fld);(Ai o7.c1 z93 o8)∧(o8.x<z80)∧((0:Int)≤o8.x)∧(q3.msgs[Int.toNat o8.x]? =some x1)∧z81∧∀(x2:Shp),(q3.msgs[q2.i]? =some x2)→(let z13:List Blk:=[.cells (Ak o8.c1),.cells [.nil],.cells [.own 3],.tree (List.set q3.msgs q2.i (⟨x2.id,x2.fields++[z18]⟩:Shp))];let z14:=z83.map (fun (x:Shp)=>x.fields.length)=some (List.length x2.fields);let z15:=List.length x2.fields+List.length [z18]≤Bg;let z16:=q3.msgs[q2.i]? =some x2;let z17:=Cu x2.fields o7.x;z16∧z76∧z86∧z76∧z86∧z87∧z14∧z87∧z14∧(Fun Tryz.prog 212 [.c (.seq .fld x2.fields),vI o7.x] [] (.v (vB z17)) [])∧((!z17)=true→z76∧z86∧z76∧z86∧z87∧z14∧z15∧z76∧z86∧z76∧z86∧z87∧z16∧z87∧z14∧z15∧z76∧z86∧z76∧z86∧z87∧z16∧((z13:List Blk)=z13)∧z77∧z78∧z85.Nxt q3 [(0,.v (vP 0)),(2,.v (vP 1)),(3,.v (vP 2)),(4,.v z92),(6,.v z88),(7,.v (vI o2.x)),(8,.v z79)] z13)∧((!z17)=false→(List.length x2.fields=List.length x2.fields)∧z16∧z78∧z85.Nxt q3 [(0,.v (vP 0)),(2,.v (vP 1)),(3,.v (vP 2)),(4,.v z92),(6,.v z88),(7,.v (vI o2.x)),(8,.v z79)] [.cells (Ak o8.c1),.cells [.nil],.cells [.own 3],.tree (List.set q3.msgs q2.i (⟨x2.id,x2.fields⟩:Shp))])))))∧(z71=false→z82∧∀(x1:Shp),(q3.msgs[q2.i]? =some x1)→(let z19:List Blk:=[.cells (Ak o7.c1),.cells [.nil],.cells [.own 3],.tree (List.set q3.msgs q2.i (⟨x1.id,x1.fields++[z35]⟩:Shp))];let z20:=z83.map (fun (x:Shp)=>x.fields.length)=some (List.length x1.fields);let z21:=List.length x1.fields+List.length [z35]≤Bg;let z22:=q3.msgs[q2.i]? =some x1;let z23:=Cu x1.fields o7.x;z22∧z76∧z86∧z76∧z86∧z87∧z20∧z87∧z20∧(Fun Tryz.prog 212 [.c (.seq .fld x1.fields),vI o7.x] [] (.v (vB z23)) [])∧((!z23)=true→z76∧z86∧z76∧z86∧z87∧z20∧z21∧z76∧z86∧z76∧z86∧z87∧z22∧z87∧z20∧z21∧z76∧z86∧z76∧z86∧z87∧z22∧((z19:List Blk)=z19)∧z77∧z78∧z85.Nxt q3 [(0,.v (vP 0)),(2,.v (vP 1)),(3,.v (vP 2)),(4,.v z92),(6,.v z88),(7,.v (vI o2.x)),(8,.v z79)] z19)∧((!z23)=false→(List.length x1.fields=List.length x1.fields)∧z22∧z78∧z85.Nxt q3 [(0,.v (vP 0)),(2,.v (vP 1)),(3,.v (vP 2)),(4,.v z92),(6,.v z88),(7,.v (vI o2.x)),(8,.v z79)] [.cells (Ak o7.c1),.cells [.nil],.cells [.own 3],.tree (List.set q3.msgs q2.i (⟨x1.id,x1.fields⟩:Shp))])))))∧(o5.p=false→(z71=true→In (Aa o7.c1 z93) fun o8=>((∃(x1:Shp),q3.msgs[Int.toNat o8.x]? =some x1)∧∀(x1:Shp),(q3.msgs[Int.toNat o8.x]? =some x1)→(let z29:=(⟨o7.x,1+o4.x,o5.p,false,x1.id⟩:Fld);(Ai o7.c1 z93 o8)∧(o8.x<z80)∧((0:Int)≤o8.x)∧(q3.msgs[Int.toNat o8.x]? =some x1)∧z81∧∀(x2:Shp),(q3.msgs[q2.i]? =some x2)→(let z24:List Blk:=[.cells (Ak o8.c1),.cells [.nil],.cells [.own 3],.tree (List.set q3.msgs q2.i (⟨x2.id,x2.fields++[z29]⟩:Shp))];let z25:=z83.map (fun (x:Shp)=>x.fields.length)=some (List.length x2.fields);let z26:=List.length x2.fields+List.length [z29]≤Bg;let z27:=q3.msgs[q2.i]? =some x2;let z28:=Cu x2.fields o7.x;z27∧z76∧z86∧z76∧z86∧z87∧z25∧z87∧z25∧(Fun Tryz.prog 212 [.c (.seq .fld x2.fields),vI o7.x] [] (.v (vB z28)) [])∧((!z28)=true→z76∧z86∧z76∧z86∧z87∧z25∧z26∧z76∧z86∧z76∧z86∧z87∧z27∧z87∧z25∧z26∧z76∧z86∧z76∧z86∧z87∧z27∧((z24:List Blk)=z24)∧z77∧z78∧z85.Nxt q3 [(0,.v (vP 0)),(2,.v (vP 1)),(3,.v (vP 2)),(4,.v z92),(6,.v z88),(7,.v (vI o2.x)),(8,.v z79)] z24)∧((!z28)=false→(List.length x2.fields=List.length x2.fields)∧z27∧z78∧z85.Nxt q3 [(0,.v (vP 0)),(2,.v (vP 1)),(3,.v (vP 2)),(4,.v z92),(6,.v z88),(7,.v (vI o2.x)),(8,.v z79)] [.cells (Ak o8.c1),.cells [.nil],.cells [.own 3],.tree (List.set q3.msgs q2.i (⟨x2.id,x2.fields⟩:Shp))])))))∧(z71=false→z82∧∀(x1:Shp),(q3.msgs[q2.i]? =some x1)→(let z30:List Blk:=[.cells (Ak o7.c1),.cells [.nil],.cells [.own 3],.tree (List.set q3.msgs q2.i (⟨x1.id,x1.fields++[z35]⟩:Shp))];let z31:=z83.map (fun (x:Shp)=>x.fields.length)=some (List.length x1.fields);let z32:=List.length x1.fields+List.length [z35]≤Bg;let z33:=q3.msgs[q2.i]? =some x1;let z34:=Cu x1.fields o7.x;z33∧z76∧z86∧z76∧z86∧z87∧z31∧z87∧z31∧(Fun Tryz.prog 212 [.c (.seq .fld x1.fields),vI o7.x] [] (.v (vB z34)) [])∧((!z34)=true→z76∧z86∧z76∧z86∧z87∧z31∧z32∧z76∧z86∧z76∧z86∧z87∧z33∧z87∧z31∧z32∧z76∧z86∧z76∧z86∧z87∧z33∧((z30:List Blk)=z30)∧z77∧z78∧z85.Nxt q3 [(0,.v (vP 0)),(2,.v (vP 1)),(3,.v (vP 2)),(4,.v z92),(6,.v z88),(7,.v (vI o2.x)),(8,.v z79)] z30)∧((!z34)=false→(List.length x1.fields=List.length x1.fields)∧z33∧z78∧z85.Nxt q3 [(0,.v (vP 0)),(2,.v (vP 1)),(3,.v (vP 2)),(4,.v z92),(6,.v z88),(7,.v (vI o2.x)),(8,.v z79)] [.cells (Ak o7.c1),.cells [.nil],.cells [.own 3],.tree (List.set q3.msgs q2.i (⟨x1.id,x1.fields⟩:Shp))]))))))∧(o6.p=false→(o5.p=true→(Fun Tryz.prog 135 [vI (1+o4.x)] [] (.v (vB z72)) [])∧(z72=true→In (Aq o6.c1 2) fun o7=>(let z47:=(⟨1+o3.x,1+o4.x,o5.p,o7.p,0⟩:Fld);(Bf o6.c1 2 o7)∧(z71=true→In (Aa o7.c1 z93) fun o8=>((∃(x1:Shp),q3.msgs[Int.toNat o8.x]? =some x1)∧∀(x1:Shp),(q3.msgs[Int.toNat o8.x]? =some x1)→(let z41:=(⟨1+o3.x,1+o4.x,o5.p,o7.p,x1.id⟩:Fld);(Ai o7.c1 z93 o8)∧(o8.x<z80)∧((0:Int)≤o8.x)∧(q3.msgs[Int.toNat o8.x]? =some x1)∧z81∧∀(x2:Shp),(q3.msgs[q2.i]? =some x2)→(let z36:List Blk:=[.cells (Ak o8.c1),.cells [.nil],.cells [.own 3],.tree (List.set q3.msgs q2.i (⟨x2.id,x2.fields++[z41]⟩:Shp))];let z37:=z83.map (fun (x:Shp)=>x.fields.length)=some (List.length x2.fields);let z38:=List.length x2.fields+List.length [z41]≤Bg;let z39:=q3.msgs[q2.i]? =some x2;let z40:=Cu x2.fields z74;z39∧z76∧z86∧z76∧z86∧z87∧z37∧z87∧z37∧(Fun Tryz.prog 212 [.c (.seq .fld x2.fields),vI z74] [] (.v (vB z40)) [])∧((!z40)=true→z76∧z86∧z76∧z86∧z87∧z37∧z38∧z76∧z86∧z76∧z86∧z87∧z39∧z87∧z37∧z38∧z76∧z86∧z76∧z86∧z87∧z39∧((z36:List Blk)=z36)∧z77∧z78∧z85.Nxt q3 [(0,.v (vP 0)),(2,.v (vP 1)),(3,.v (vP 2)),(4,.v z92),(6,.v z88),(7,.v (vI o2.x)),(8,.v z79)] z36)∧((!z40)=false→(List.length x2.fields=List.length x2.fields)∧z39∧z78∧z85.Nxt q3 [(0,.v (vP 0)),(2,.v (vP 1)),(3,.v (vP 2)),(4,.v z92),(6,.v z88),(7,.v (vI o2.x)),(8,.v z79)] [.cells (Ak o8.c1),.cells [.nil],.cells [.own 3],.tree (List.set q3.msgs q2.i (⟨x2.id,x2.fields⟩:Shp))])))))∧(z71=false→z82∧∀(x1:Shp),(q3.msgs[q2.i]? =some x1)→(let z42:List Blk:=[.cells (Ak o7.c1),.cells [.nil],.cells [.own 3],.tree (List.set q3.msgs q2.i (⟨x1.id,x1.fields++[z47]⟩:Shp))];let z43:=z83.map (fun (x:Shp)=>x.fields.length)=some (List.length x1.fields);let z44:=List.length x1.fields+List.length [z47]≤Bg;let z45:=q3.msgs[q2.i]? =some x1;let z46:=Cu x1.fields z74;z45∧z76∧z86∧z76∧z86∧z87∧z43∧z87∧z43∧(Fun Tryz.prog 212 [.c (.seq .fld x1.fields),vI z74] [] (.v (vB z46)) [])∧((!z46)=true→z76∧z86∧z76∧z86∧z87∧z43∧z44∧z76∧z86∧z76∧z86∧z87∧z45∧z87∧z43∧z44∧z76∧z86∧z76∧z86∧z87∧z45∧((z42:List Blk)=z42)∧z77∧z78∧z85.Nxt q3 [(0,.v (vP 0)),(2,.v (vP 1)),(3,.v (vP 2)),(4,.v z92),(6,.v z88),(7,.v (vI o2.x)),(8,.v z79)] z42)∧((!z46)=false→(List.length x1.fields=List.length x1.fields)∧z45∧z78∧z85.Nxt q3 [(0,.v (vP 0)),(2,.v (vP 1)),(3,.v (vP 2)),(4,.v z92),(6,.v z88),(7,.v (vI o2.x)),(8,.v z79)] [.cells (Ak o7.c1),.cells [.nil],.cells [.own 3],.tree (List.set q3.msgs q2.i (⟨x1.id,x1.fields⟩:Shp))])))))∧(z72=false→(z71=true→In (Aa o6.c1 z93) fun o7=>((∃(x1:Shp),q3.msgs[Int.toNat o7.x]? =some x1)∧∀(x1:Shp),(q3.msgs[Int.toNat o7.x]? =some x1)→(let z53:=(⟨1+o3.x,1+o4.x,o5.p,false,x1.id⟩:Fld);(Ai o6.c1 z93 o7)∧(o7.x<z80)∧((0:Int)≤o7.x)∧(q3.msgs[Int.toNat o7.x]? =some x1)∧z81∧∀(x2:Shp),(q3.msgs[q2.i]? =some x2)→(let z48:List Blk:=[.cells (Ak o7.c1),.cells [.nil],.cells [.own 3],.tree (List.set q3.msgs q2.i (⟨x2.id,x2.fields++[z53]⟩:Shp))];let z49:=z83.map (fun (x:Shp)=>x.fields.length)=some (List.length x2.fields);let z50:=List.length x2.fields+List.length [z53]≤Bg;let z51:=q3.msgs[q2.i]? =some x2;let z52:=Cu x2.fields z74;z51∧z76∧z86∧z76∧z86∧z87∧z49∧z87∧z49∧(Fun Tryz.prog 212 [.c (.seq .fld x2.fields),vI z74] [] (.v (vB z52)) [])∧((!z52)=true→z76∧z86∧z76∧z86∧z87∧z49∧z50∧z76∧z86∧z76∧z86∧z87∧z51∧z87∧z49∧z50∧z76∧z86∧z76∧z86∧z87∧z51∧((z48:List Blk)=z48)∧z77∧z78∧z85.Nxt q3 [(0,.v (vP 0)),(2,.v (vP 1)),(3,.v (vP 2)),(4,.v z92),(6,.v z88),(7,.v (vI o2.x)),(8,.v z79)] z48)∧((!z52)=false→(List.length x2.fields=List.length x2.fields)∧z51∧z78∧z85.Nxt q3 [(0,.v (vP 0)),(2,.v (vP 1)),(3,.v (vP 2)),(4,.v z92),(6,.v z88),(7,.v (vI o2.x)),(8,.v z79)] [.cells (Ak o7.c1),.cells [.nil],.cells [.own 3],.tree (List.set q3.msgs q2.i (⟨x2.id,x2.fields⟩:Shp))])))))∧(z71=false→z82∧∀(x1:Shp),(q3.msgs[q2.i]? =some x1)→(let z54:List Blk:=[.cells (Ak o6.c1),.cells [.nil],.cells [.own 3],.tree (List.set q3.msgs q2.i (⟨x1.id,x1.fields++[z70]⟩:Shp))];let z55:=z83.map (fun (x:Shp)=>x.fields.length)=some (List.length x1.fields);let z56:=List.length x1.fields+List.length [z70]≤Bg;let z57:=q3.msgs[q2.i]? =some x1;let z58:=Cu x1.fields z74;z57∧z76∧z86∧z76∧z86∧z87∧z55∧z87∧z55∧(Fun Tryz.prog 212 [.c (.seq .fld x1.fields),vI z74] [] (.v (vB z58)) [])∧((!z58)=true→z76∧z86∧z76∧z86∧z87∧z55∧z56∧z76∧z86∧z76∧z86∧z87∧z57∧z87∧z55∧z56∧z76∧z86∧z76∧z86∧z87∧z57∧((z54:List Blk)=z54)∧z77∧z78∧z85.Nxt q3 [(0,.v (vP 0)),(2,.v (vP 1)),(3,.v (vP 2)),(4,.v z92),(6,.v z88),(7,.v (vI o2.x)),(8,.v z79)] z54)∧((!z58)=false→(List.length x1.fields=List.length x1.fields)∧z57∧z78∧z85.Nxt q3 [(0,.v (vP 0)),(2,.v (vP 1)),(3,.v (vP 2)),(4,.v z92),(6,.v z88),(7,.v (vI o2.x)),(8,.v z79)] [.cells (Ak o6.c1),.cells [.nil],.cells [.own 3],.tree (List.set q3.msgs q2.i (⟨x1.id,x1.fields⟩:Shp))])))))∧(o5.p=false→(z71=true→In (Aa o6.c1 z93) fun o7=>((∃(x1:Shp),q3.msgs[Int.toNat o7.x]? =some x1)∧∀(x1:Shp),(q3.msgs[Int.toNat o7.x]? =some x1)→(let z64:=(⟨1+o3.x,1+o4.x,o5.p,false,x1.id⟩:Fld);(Ai o6.c1 z93 o7)∧(o7.x<z80)∧((0:Int)≤o7.x)∧(q3.msgs[Int.toNat o7.x]? =some x1)∧z81∧∀(x2:Shp),(q3.msgs[q2.i]? =some x2)→(let z59:List Blk:=[.cells (Ak o7.c1),.cells [.nil],.cells [.own 3],.tree (List.set q3.msgs q2.i (⟨x2.id,x2.fields++[z64]⟩:Shp))];let z60:=z83.map (fun (x:Shp)=>x.fields.length)=some (List.length x2.fields);let z61:=List.length x2.fields+List.length [z64]≤Bg;let z62:=q3.msgs[q2.i]? =some x2;let z63:=Cu x2.fields z74;z62∧z76∧z86∧z76∧z86∧z87∧z60∧z87∧z60∧(Fun Tryz.prog 212 [.c (.seq .fld x2.fields),vI z74] [] (.v (vB z63)) [])∧((!z63)=true→z76∧z86∧z76∧z86∧z87∧z60∧z61∧z76∧z86∧z76∧z86∧z87∧z62∧z87∧z60∧z61∧z76∧z86∧z76∧z86∧z87∧z62∧((z59:List Blk)=z59)∧z77∧z78∧z85.Nxt q3 [(0,.v (vP 0)),(2,.v (vP 1)),(3,.v (vP 2)),(4,.v z92),(6,.v z88),(7,.v (vI o2.x)),(8,.v z79)] z59)∧((!z63)=false→(List.length x2.fields=List.length x2.fields)∧z62∧z78∧z85.Nxt q3 [(0,.v (vP 0)),(2,.v (vP 1)),(3,.v (vP 2)),(4,.v z92),(6,.v z88),(7,.v (vI o2.x)),(8,.v z79)] [.cells (Ak o7.c1),.cells [.nil],.cells [.own 3],.tree (List.set q3.msgs q2.i (⟨x2.id,x2.fields⟩:Shp))])))))∧(z71=false→z82∧∀(x1:Shp),(q3.msgs[q2.i]? =some x1)→(let z65:List Blk:=[.cells (Ak o6.c1),.cells [.nil],.cells [.own 3],.tree (List.set q3.msgs q2.i (⟨x1.id,x1.fields++[z70]⟩:Shp))];let z66:=z83.map (fun (x:Shp)=>x.fields.length)=some (List.length x1.fields);let z67:=List.length x1.fields+List.length [z70]≤Bg;let z68:=q3.msgs[q2.i]? =some x1;let z69:=Cu x1.fields z74;z68∧z76∧z86∧z76∧z86∧z87∧z66∧z87∧z66∧(Fun Tryz.prog 212 [.c (.seq .fld x1.fields),vI z74] [] (.v (vB z69)) [])∧((!z69)=true→z76∧z86∧z76∧z86∧z87∧z66∧z67∧z76∧z86∧z76∧z86∧z87∧z68∧z87∧z66∧z67∧z76∧z86∧z76∧z86∧z87∧z68∧((z65:List Blk)=z65)∧z77∧z78∧z85.Nxt q3 [(0,.v (vP 0)),(2,.v (vP 1)),(3,.v (vP 2)),(4,.v z92),(6,.v z88),(7,.v (vI o2.x)),(8,.v z79)] z65)∧((!z69)=false→(List.length x1.fields=List.length x1.fields)∧z68∧z78∧z85.Nxt q3 [(0,.v (vP 0)),(2,.v (vP 1)),(3,.v (vP 2)),(4,.v z92),(6,.v z88),(7,.v (vI o2.x)),(8,.v z79)] [.cells (Ak o6.c1),.cells [.nil],.cells [.own 3],.tree (List.set q3.msgs q2.i (⟨x1.id,x1.fields⟩:Shp))]))))))))))∧((decide (z84<o2.x))=false→((.v (vI (IntKind.i64.wrap (z89+1))):S)= .v (vI (z89+1)))∧(E4 o1).Nxt q2 [(0,.v (vP 0)),(2,.v (vP 1)),(3,.v (vP 2)),(4,.v z92),(6,.v (vI (z89+1)))] [.cells (Ak q3.c),.cells [.nil],.cells [.own 3],.tree q3.msgs]))))∧((decide (z89<1+o1.x))=false→((RawK (List.length ((⟨q2.msgs⟩:Raw)).msgs) ((⟨q2.msgs⟩:Raw)).msgs)∧(Aw q2.c))∧(.v (.agg [.own 1]):S)= .v (.agg [.own 1])∧([.cells (Ak q2.c),.tree q2.msgs]:List Blk)=[.cells (Ak q2.c),.tree q2.msgs]))))))) Q4 ?_
 refine⟨(An c 3 Q0),fun o1 ho_o1=>?_⟩
 obtain ⟨⟨hp_o1_0,hp_o1_1,hp_o1_2,hp_o1_3⟩,hf_o1⟩:=ho_o1
 refine⟨hf_o1,(Ae Q2 Q2),Bk (j:=(⟨o1.c1,([]:List Shp),0⟩:Kp)) Q10 rfl (by dsimp only[E3];exact⟨by assumption,by omega,rfl,rfl,fun m hm=>by cases hm⟩),fun (q1:Kp) hq_q1=>?_⟩
 have hi_q1:Aw q1.c∧((q1.i:Nat):Int)≤1+o1.x∧List.length q1.msgs=q1.i∧Gc q1.msgs=List.take q1.i [5,1,99]∧∀m∈q1.msgs,m.fields=[]:=hq_q1
 obtain ⟨v1,v2,v3,v4,v5⟩:=hi_q1
 refine dsp (fun h1 p1=>?_) fun h1 p1=>?_
 refine⟨(Bm (l:=[5,1,99,7]) (i:=q1.i) Q6),fun x1 hx1=>?_⟩
 exact⟨Q6,Q2,hx1,Q6,(Ae Q2 Q2),Bd (j:=(⟨q1.c,q1.msgs++[(⟨x1,([]:List Fld)⟩:Shp)],q1.i+1⟩:Kp)) Q10 rfl (by dsimp only[E3];exact⟨by assumption,by omega,by simp;omega,Ae2 v4 Q2 hx1,fun m hm=>by rcases List.mem_append.1 hm with hm|hm;exact v5 m hm;simp at hm;rw[hm]⟩) (by dsimp only[E3];omega)⟩
 refine⟨Bk (j:=(⟨q1.c,q1.msgs,0⟩:Hb)) Q10 rfl (by dsimp only[E4];exact⟨by assumption,by omega,Ae3 Q2 Q2 (by rw[v4];congr 1;omega) v5,fun j m _ hm=>v5 m (List.mem_of_getElem? hm)⟩),fun (q2:Hb) hq_q2=>?_⟩
 have hi_q2:Aw q2.c∧q2.i≤Int.toNat (1+o1.x)∧RawK (Int.toNat (1+o1.x)) q2.msgs∧∀j m,q2.i≤j→q2.msgs[j]? =some m→m.fields=[]:=hq_q2
 obtain ⟨u1,u2,u3,u4⟩:=hi_q2
 have upos:=u3.pos
 have ulen:=u3.len
 refine dsp (fun h2 p2=>?_) fun h2 p2=>?_
 refine⟨(An q2.c 6 Q0),fun o2 ho_o2=>?_⟩
 obtain ⟨⟨hp_o2_0,hp_o2_1,hp_o2_2,hp_o2_3⟩,hf_o2⟩:=ho_o2
 refine⟨hf_o2,Bk (j:=(⟨o2.c1,q2.msgs,0⟩:Bi)) Q10 rfl (by dsimp only[Hc];exact⟨by assumption,by omega,u3,fun j m hj hm=>u4 j m Q2 hm,fun m hm=>by rw[u4 _ m (Nat.le_refl _) hm];exact Nat.le_refl _⟩),fun (q3:Bi) hq_q3=>?_⟩
 have hi_q3:Aw q3.c∧q3.k≤5∧RawK (Int.toNat (1+o1.x)) q3.msgs∧(∀j m,q2.i<j→q3.msgs[j]? =some m→m.fields=[])∧∀m,q3.msgs[q2.i]? =some m→List.length m.fields≤q3.k:=hq_q3
 obtain ⟨w1,w2,w3,w4,w5⟩:=hi_q3
 have wlen:=w3.len
 refine dsp (fun h3 p3=>?_) fun h3 p3=>?_
 refine⟨(An q3.c 12 Q0),fun o3 ho_o3=>?_⟩
 obtain ⟨⟨hp_o3_0,hp_o3_1,hp_o3_2,hp_o3_3⟩,hf_o3⟩:=ho_o3
 refine⟨hf_o3,(Ae Q2 Q2),(An o3.c1 8 Q0),fun o4 ho_o4=>?_⟩
 obtain ⟨⟨hp_o4_0,hp_o4_1,hp_o4_2,hp_o4_3⟩,hf_o4⟩:=ho_o4
 refine⟨hf_o4,(Ae Q2 Q2),(Bx o4.c1 2 Q0),fun o5 ho_o5=>?_⟩
 obtain ⟨hp_o5,hf_o5⟩:=ho_o5
 refine⟨hf_o5,(Bx o5.c1 12 Q0),fun o6 ho_o6=>?_⟩
 obtain ⟨hp_o6,hf_o6⟩:=ho_o6
 refine⟨hf_o6,fun h4=>?_,fun h4=>?_⟩
 refine⟨(C4 o6.c1 [16,2047,2048,18999,20000,536870911] Q0 Q6 Q6),fun o7 ho_o7=>?_⟩
 obtain ⟨⟨hp_o7_0,hp_o7_1⟩,hf_o7⟩:=ho_o7
 refine⟨hf_o7,fun h5=>?_,fun h5=>?_⟩
 refine⟨(K0 _),fun h6=>have p6:=As h6;?_,fun h6=>have p6:=Az h6;?_⟩
 refine⟨(Bx o7.c1 2 Q0),fun o8 ho_o8=>?_⟩
 obtain ⟨hp_o8,hf_o8⟩:=ho_o8
 refine⟨hf_o8,dsp (fun h7 p7=>?_) fun h7 p7=>?_⟩
 refine⟨(An o8.c1 (1+o1.x) Q0),fun o9 ho_o9=>?_⟩
 obtain ⟨⟨hp_o9_0,hp_o9_1,hp_o9_2,hp_o9_3⟩,hf_o9⟩:=ho_o9
 refine⟨(Bm (l:=q3.msgs) (i:=Int.toNat o9.x) Q2),fun x1 hx1=>?_⟩
 have hri:x1.id∈Gc q3.msgs:=List.mem_map.2 ⟨_,List.mem_of_getElem? hx1,rfl⟩
 refine⟨hf_o9,Q2,Q2,hx1,(Bm (l:=q3.msgs) (i:=q2.i) Q2),fun x2 hx2=>?_⟩
 have hxl:=w5 _ hx2
 have hsame:=Fn hx2
 refine⟨hx2,Q2,Q2,Q2,Q2,rfl,Q42,rfl,Q42,(Fb _ _ Q2),fun h8=>have q8:=Ap h8;?_,fun h8=>have q8:=Ao h8;?_⟩
 exact⟨Q2,Q2,Q2,Q2,rfl,Q42,Q6,Q2,Q2,Q2,Q2,rfl,hx2,rfl,Q42,Q6,Q2,Q2,Q2,Q2,rfl,hx2,rfl,rfl,(Ae Q2 Q2),Bd (j:=(⟨o9.c1,List.set q3.msgs q2.i (⟨x2.id,x2.fields++[(⟨o7.x,1+o4.x,o5.p,o8.p,x1.id⟩:Fld)]⟩:Shp),q3.k+1⟩:Bi)) Q10 rfl Q1 Q30⟩
 exact⟨Q10,hx2,(Ae Q2 Q2),Bd (j:=(⟨o9.c1,List.set q3.msgs q2.i (⟨x2.id,x2.fields⟩:Shp),q3.k+1⟩:Bi)) Q10 rfl Q1 Q30⟩
 refine⟨(Bm (l:=q3.msgs) (i:=q2.i) Q2),fun x1 hx1=>?_⟩
 have hxl:=w5 _ hx1
 have hsame:=Fn hx1
 refine⟨hx1,Q2,Q2,Q2,Q2,rfl,Q43,rfl,Q43,(Fb _ _ Q2),fun h8=>have q8:=Ap h8;?_,fun h8=>have q8:=Ao h8;?_⟩
 exact⟨Q2,Q2,Q2,Q2,rfl,Q43,Q6,Q2,Q2,Q2,Q2,rfl,hx1,rfl,Q43,Q6,Q2,Q2,Q2,Q2,rfl,hx1,rfl,rfl,(Ae Q2 Q2),Bd (j:=(⟨o8.c1,List.set q3.msgs q2.i (⟨x1.id,x1.fields++[(⟨o7.x,1+o4.x,o5.p,o8.p,0⟩:Fld)]⟩:Shp),q3.k+1⟩:Bi)) Q10 rfl Q1 Q30⟩
 exact⟨Q10,hx1,(Ae Q2 Q2),Bd (j:=(⟨o8.c1,List.set q3.msgs q2.i (⟨x1.id,x1.fields⟩:Shp),q3.k+1⟩:Bi)) Q10 rfl Q1 Q30⟩
 refine dsp (fun h7 p7=>?_) fun h7 p7=>?_
 refine⟨(An o7.c1 (1+o1.x) Q0),fun o8 ho_o8=>?_⟩
 obtain ⟨⟨hp_o8_0,hp_o8_1,hp_o8_2,hp_o8_3⟩,hf_o8⟩:=ho_o8
 refine⟨(Bm (l:=q3.msgs) (i:=Int.toNat o8.x) Q2),fun x1 hx1=>?_⟩
 have hri:x1.id∈Gc q3.msgs:=List.mem_map.2 ⟨_,List.mem_of_getElem? hx1,rfl⟩
 refine⟨hf_o8,Q2,Q2,hx1,(Bm (l:=q3.msgs) (i:=q2.i) Q2),fun x2 hx2=>?_⟩
 have hxl:=w5 _ hx2
 have hsame:=Fn hx2
 refine⟨hx2,Q2,Q2,Q2,Q2,rfl,Q42,rfl,Q42,(Fb _ _ Q2),fun h8=>have q8:=Ap h8;?_,fun h8=>have q8:=Ao h8;?_⟩
 exact⟨Q2,Q2,Q2,Q2,rfl,Q42,Q6,Q2,Q2,Q2,Q2,rfl,hx2,rfl,Q42,Q6,Q2,Q2,Q2,Q2,rfl,hx2,rfl,rfl,(Ae Q2 Q2),Bd (j:=(⟨o8.c1,List.set q3.msgs q2.i (⟨x2.id,x2.fields++[(⟨o7.x,1+o4.x,o5.p,false,x1.id⟩:Fld)]⟩:Shp),q3.k+1⟩:Bi)) Q10 rfl Q1 Q30⟩
 exact⟨Q10,hx2,(Ae Q2 Q2),Bd (j:=(⟨o8.c1,List.set q3.msgs q2.i (⟨x2.id,x2.fields⟩:Shp),q3.k+1⟩:Bi)) Q10 rfl Q1 Q30⟩
 refine⟨(Bm (l:=q3.msgs) (i:=q2.i) Q2),fun x1 hx1=>?_⟩
 have hxl:=w5 _ hx1
 have hsame:=Fn hx1
 refine⟨hx1,Q2,Q2,Q2,Q2,rfl,Q43,rfl,Q43,(Fb _ _ Q2),fun h8=>have q8:=Ap h8;?_,fun h8=>have q8:=Ao h8;?_⟩
 exact⟨Q2,Q2,Q2,Q2,rfl,Q43,Q6,Q2,Q2,Q2,Q2,rfl,hx1,rfl,Q43,Q6,Q2,Q2,Q2,Q2,rfl,hx1,rfl,rfl,(Ae Q2 Q2),Bd (j:=(⟨o7.c1,List.set q3.msgs q2.i (⟨x1.id,x1.fields++[(⟨o7.x,1+o4.x,o5.p,false,0⟩:Fld)]⟩:Shp),q3.k+1⟩:Bi)) Q10 rfl Q1 Q30⟩
 exact⟨Q10,hx1,(Ae Q2 Q2),Bd (j:=(⟨o7.c1,List.set q3.msgs q2.i (⟨x1.id,x1.fields⟩:Shp),q3.k+1⟩:Bi)) Q10 rfl Q1 Q30⟩
 refine dsp (fun h6 p6=>?_) fun h6 p6=>?_
 refine⟨(An o7.c1 (1+o1.x) Q0),fun o8 ho_o8=>?_⟩
 obtain ⟨⟨hp_o8_0,hp_o8_1,hp_o8_2,hp_o8_3⟩,hf_o8⟩:=ho_o8
 refine⟨(Bm (l:=q3.msgs) (i:=Int.toNat o8.x) Q2),fun x1 hx1=>?_⟩
 have hri:x1.id∈Gc q3.msgs:=List.mem_map.2 ⟨_,List.mem_of_getElem? hx1,rfl⟩
 refine⟨hf_o8,Q2,Q2,hx1,(Bm (l:=q3.msgs) (i:=q2.i) Q2),fun x2 hx2=>?_⟩
 have hxl:=w5 _ hx2
 have hsame:=Fn hx2
 refine⟨hx2,Q2,Q2,Q2,Q2,rfl,Q42,rfl,Q42,(Fb _ _ Q2),fun h7=>have q7:=Ap h7;?_,fun h7=>have q7:=Ao h7;?_⟩
 exact⟨Q2,Q2,Q2,Q2,rfl,Q42,Q6,Q2,Q2,Q2,Q2,rfl,hx2,rfl,Q42,Q6,Q2,Q2,Q2,Q2,rfl,hx2,rfl,rfl,(Ae Q2 Q2),Bd (j:=(⟨o8.c1,List.set q3.msgs q2.i (⟨x2.id,x2.fields++[(⟨o7.x,1+o4.x,o5.p,false,x1.id⟩:Fld)]⟩:Shp),q3.k+1⟩:Bi)) Q10 rfl Q1 Q30⟩
 exact⟨Q10,hx2,(Ae Q2 Q2),Bd (j:=(⟨o8.c1,List.set q3.msgs q2.i (⟨x2.id,x2.fields⟩:Shp),q3.k+1⟩:Bi)) Q10 rfl Q1 Q30⟩
 refine⟨(Bm (l:=q3.msgs) (i:=q2.i) Q2),fun x1 hx1=>?_⟩
 have hxl:=w5 _ hx1
 have hsame:=Fn hx1
 refine⟨hx1,Q2,Q2,Q2,Q2,rfl,Q43,rfl,Q43,(Fb _ _ Q2),fun h7=>have q7:=Ap h7;?_,fun h7=>have q7:=Ao h7;?_⟩
 exact⟨Q2,Q2,Q2,Q2,rfl,Q43,Q6,Q2,Q2,Q2,Q2,rfl,hx1,rfl,Q43,Q6,Q2,Q2,Q2,Q2,rfl,hx1,rfl,rfl,(Ae Q2 Q2),Bd (j:=(⟨o7.c1,List.set q3.msgs q2.i (⟨x1.id,x1.fields++[(⟨o7.x,1+o4.x,o5.p,false,0⟩:Fld)]⟩:Shp),q3.k+1⟩:Bi)) Q10 rfl Q1 Q30⟩
 exact⟨Q10,hx1,(Ae Q2 Q2),Bd (j:=(⟨o7.c1,List.set q3.msgs q2.i (⟨x1.id,x1.fields⟩:Shp),q3.k+1⟩:Bi)) Q10 rfl Q1 Q30⟩
 refine⟨fun h5=>?_,fun h5=>?_⟩
 refine⟨(K0 _),fun h6=>have p6:=As h6;?_,fun h6=>have p6:=Az h6;?_⟩
 refine⟨(Bx o6.c1 2 Q0),fun o7 ho_o7=>?_⟩
 obtain ⟨hp_o7,hf_o7⟩:=ho_o7
 refine⟨hf_o7,dsp (fun h7 p7=>?_) fun h7 p7=>?_⟩
 refine⟨(An o7.c1 (1+o1.x) Q0),fun o8 ho_o8=>?_⟩
 obtain ⟨⟨hp_o8_0,hp_o8_1,hp_o8_2,hp_o8_3⟩,hf_o8⟩:=ho_o8
 refine⟨(Bm (l:=q3.msgs) (i:=Int.toNat o8.x) Q2),fun x1 hx1=>?_⟩
 have hri:x1.id∈Gc q3.msgs:=List.mem_map.2 ⟨_,List.mem_of_getElem? hx1,rfl⟩
 refine⟨hf_o8,Q2,Q2,hx1,(Bm (l:=q3.msgs) (i:=q2.i) Q2),fun x2 hx2=>?_⟩
 have hxl:=w5 _ hx2
 have hsame:=Fn hx2
 refine⟨hx2,Q2,Q2,Q2,Q2,rfl,Q42,rfl,Q42,(Fb _ _ Q2),fun h8=>have q8:=Ap h8;?_,fun h8=>have q8:=Ao h8;?_⟩
 exact⟨Q2,Q2,Q2,Q2,rfl,Q42,Q6,Q2,Q2,Q2,Q2,rfl,hx2,rfl,Q42,Q6,Q2,Q2,Q2,Q2,rfl,hx2,rfl,rfl,(Ae Q2 Q2),Bd (j:=(⟨o8.c1,List.set q3.msgs q2.i (⟨x2.id,x2.fields++[(⟨1+o3.x,1+o4.x,o5.p,o7.p,x1.id⟩:Fld)]⟩:Shp),q3.k+1⟩:Bi)) Q10 rfl Q1 Q30⟩
 exact⟨Q10,hx2,(Ae Q2 Q2),Bd (j:=(⟨o8.c1,List.set q3.msgs q2.i (⟨x2.id,x2.fields⟩:Shp),q3.k+1⟩:Bi)) Q10 rfl Q1 Q30⟩
 refine⟨(Bm (l:=q3.msgs) (i:=q2.i) Q2),fun x1 hx1=>?_⟩
 have hxl:=w5 _ hx1
 have hsame:=Fn hx1
 refine⟨hx1,Q2,Q2,Q2,Q2,rfl,Q43,rfl,Q43,(Fb _ _ Q2),fun h8=>have q8:=Ap h8;?_,fun h8=>have q8:=Ao h8;?_⟩
 exact⟨Q2,Q2,Q2,Q2,rfl,Q43,Q6,Q2,Q2,Q2,Q2,rfl,hx1,rfl,Q43,Q6,Q2,Q2,Q2,Q2,rfl,hx1,rfl,rfl,(Ae Q2 Q2),Bd (j:=(⟨o7.c1,List.set q3.msgs q2.i (⟨x1.id,x1.fields++[(⟨1+o3.x,1+o4.x,o5.p,o7.p,0⟩:Fld)]⟩:Shp),q3.k+1⟩:Bi)) Q10 rfl Q1 Q30⟩
 exact⟨Q10,hx1,(Ae Q2 Q2),Bd (j:=(⟨o7.c1,List.set q3.msgs q2.i (⟨x1.id,x1.fields⟩:Shp),q3.k+1⟩:Bi)) Q10 rfl Q1 Q30⟩
 refine dsp (fun h7 p7=>?_) fun h7 p7=>?_
 refine⟨(An o6.c1 (1+o1.x) Q0),fun o7 ho_o7=>?_⟩
 obtain ⟨⟨hp_o7_0,hp_o7_1,hp_o7_2,hp_o7_3⟩,hf_o7⟩:=ho_o7
 refine⟨(Bm (l:=q3.msgs) (i:=Int.toNat o7.x) Q2),fun x1 hx1=>?_⟩
 have hri:x1.id∈Gc q3.msgs:=List.mem_map.2 ⟨_,List.mem_of_getElem? hx1,rfl⟩
 refine⟨hf_o7,Q2,Q2,hx1,(Bm (l:=q3.msgs) (i:=q2.i) Q2),fun x2 hx2=>?_⟩
 have hxl:=w5 _ hx2
 have hsame:=Fn hx2
 refine⟨hx2,Q2,Q2,Q2,Q2,rfl,Q42,rfl,Q42,(Fb _ _ Q2),fun h8=>have q8:=Ap h8;?_,fun h8=>have q8:=Ao h8;?_⟩
 exact⟨Q2,Q2,Q2,Q2,rfl,Q42,Q6,Q2,Q2,Q2,Q2,rfl,hx2,rfl,Q42,Q6,Q2,Q2,Q2,Q2,rfl,hx2,rfl,rfl,(Ae Q2 Q2),Bd (j:=(⟨o7.c1,List.set q3.msgs q2.i (⟨x2.id,x2.fields++[(⟨1+o3.x,1+o4.x,o5.p,false,x1.id⟩:Fld)]⟩:Shp),q3.k+1⟩:Bi)) Q10 rfl Q1 Q30⟩
 exact⟨Q10,hx2,(Ae Q2 Q2),Bd (j:=(⟨o7.c1,List.set q3.msgs q2.i (⟨x2.id,x2.fields⟩:Shp),q3.k+1⟩:Bi)) Q10 rfl Q1 Q30⟩
 refine⟨(Bm (l:=q3.msgs) (i:=q2.i) Q2),fun x1 hx1=>?_⟩
 have hxl:=w5 _ hx1
 have hsame:=Fn hx1
 refine⟨hx1,Q2,Q2,Q2,Q2,rfl,Q43,rfl,Q43,(Fb _ _ Q2),fun h8=>have q8:=Ap h8;?_,fun h8=>have q8:=Ao h8;?_⟩
 exact⟨Q2,Q2,Q2,Q2,rfl,Q43,Q6,Q2,Q2,Q2,Q2,rfl,hx1,rfl,Q43,Q6,Q2,Q2,Q2,Q2,rfl,hx1,rfl,rfl,(Ae Q2 Q2),Bd (j:=(⟨o6.c1,List.set q3.msgs q2.i (⟨x1.id,x1.fields++[(⟨1+o3.x,1+o4.x,o5.p,false,0⟩:Fld)]⟩:Shp),q3.k+1⟩:Bi)) Q10 rfl Q1 Q30⟩
 exact⟨Q10,hx1,(Ae Q2 Q2),Bd (j:=(⟨o6.c1,List.set q3.msgs q2.i (⟨x1.id,x1.fields⟩:Shp),q3.k+1⟩:Bi)) Q10 rfl Q1 Q30⟩
 refine dsp (fun h6 p6=>?_) fun h6 p6=>?_
 refine⟨(An o6.c1 (1+o1.x) Q0),fun o7 ho_o7=>?_⟩
 obtain ⟨⟨hp_o7_0,hp_o7_1,hp_o7_2,hp_o7_3⟩,hf_o7⟩:=ho_o7
 refine⟨(Bm (l:=q3.msgs) (i:=Int.toNat o7.x) Q2),fun x1 hx1=>?_⟩
 have hri:x1.id∈Gc q3.msgs:=List.mem_map.2 ⟨_,List.mem_of_getElem? hx1,rfl⟩
 refine⟨hf_o7,Q2,Q2,hx1,(Bm (l:=q3.msgs) (i:=q2.i) Q2),fun x2 hx2=>?_⟩
 have hxl:=w5 _ hx2
 have hsame:=Fn hx2
 refine⟨hx2,Q2,Q2,Q2,Q2,rfl,Q42,rfl,Q42,(Fb _ _ Q2),fun h7=>have q7:=Ap h7;?_,fun h7=>have q7:=Ao h7;?_⟩
 exact⟨Q2,Q2,Q2,Q2,rfl,Q42,Q6,Q2,Q2,Q2,Q2,rfl,hx2,rfl,Q42,Q6,Q2,Q2,Q2,Q2,rfl,hx2,rfl,rfl,(Ae Q2 Q2),Bd (j:=(⟨o7.c1,List.set q3.msgs q2.i (⟨x2.id,x2.fields++[(⟨1+o3.x,1+o4.x,o5.p,false,x1.id⟩:Fld)]⟩:Shp),q3.k+1⟩:Bi)) Q10 rfl Q1 Q30⟩
 exact⟨Q10,hx2,(Ae Q2 Q2),Bd (j:=(⟨o7.c1,List.set q3.msgs q2.i (⟨x2.id,x2.fields⟩:Shp),q3.k+1⟩:Bi)) Q10 rfl Q1 Q30⟩
 refine⟨(Bm (l:=q3.msgs) (i:=q2.i) Q2),fun x1 hx1=>?_⟩
 have hxl:=w5 _ hx1
 have hsame:=Fn hx1
 refine⟨hx1,Q2,Q2,Q2,Q2,rfl,Q43,rfl,Q43,(Fb _ _ Q2),fun h7=>have q7:=Ap h7;?_,fun h7=>have q7:=Ao h7;?_⟩
 exact⟨Q2,Q2,Q2,Q2,rfl,Q43,Q6,Q2,Q2,Q2,Q2,rfl,hx1,rfl,Q43,Q6,Q2,Q2,Q2,Q2,rfl,hx1,rfl,rfl,(Ae Q2 Q2),Bd (j:=(⟨o6.c1,List.set q3.msgs q2.i (⟨x1.id,x1.fields++[(⟨1+o3.x,1+o4.x,o5.p,false,0⟩:Fld)]⟩:Shp),q3.k+1⟩:Bi)) Q10 rfl Q1 Q30⟩
 exact⟨Q10,hx1,(Ae Q2 Q2),Bd (j:=(⟨o6.c1,List.set q3.msgs q2.i (⟨x1.id,x1.fields⟩:Shp),q3.k+1⟩:Bi)) Q10 rfl Q1 Q30⟩
 exact⟨(Ae Q2 Q2),Bd (j:=(⟨q3.c,q3.msgs,q2.i+1⟩:Hb)) Q10 rfl (by dsimp only[E4];exact⟨by assumption,by omega,w3,fun j m hj hm=>w4 j m Q2 hm⟩) (by dsimp only[E4];omega)⟩
 exact⟨⟨((by dsimp only;rw[ulen];exact u3)),Q0⟩,rfl,rfl⟩
structure Mh where
 l:List Shp
 c1:Cur
def Uy (c:Cur) (o:Mh):Prop:=Fun Tryz.prog 156 [vP 0] [.cells (Ak c)] (.v (.agg [.own 1])) [.cells (Ak o.c1),.tree o.l]
def Qd (c:Cur) (o:Mh):Prop:=((SchG o.l)∧(1≤List.length o.l)∧(List.length o.l≤3)∧(Aw o.c1))∧Uy c o
theorem Ae6 (c:Cur) (hp1:Aw c): ∃o:Mh,Qd c o:=by
 have hN:Bg=274877906944:=rfl
 refine Bw Tryz.func156 Q4 Q4 (w:=(.intro (Qc c) fun o1=> .seg [.call [0] (.v (.agg [.own 1])) [.cells (Ak o1.c1),.tree o1.r.msgs]] (.intro (Qb o1.r) fun o2=> .seg [.call [] (.tup [.agg [.own 0],.agg [.int .i64 0,.int .i64 0,.int .i64 0]]) [.tree o2.l]] (.leaf (⟨o2.l,o1.c1⟩:Mh) [0,3])),In (Qc c) fun o1=>((Ux c o1)∧In (Qb o1.r) fun o2=>((Uw o1.r o2)∧((SchG o2.l)∧(1≤List.length o2.l)∧(List.length o2.l≤3)∧(Aw o1.c1))∧(.v (.agg [.own 1]):S)= .v (.agg [.own 1])∧([.cells (Ak o1.c1),.tree o2.l]:List Blk)=[.cells (Ak o1.c1),.tree o2.l])))) Q4 ?_
 refine⟨(Ae5 c Q0),fun o1 ho_o1=>?_⟩
 obtain ⟨⟨hp_o1_0,hp_o1_1⟩,hf_o1⟩:=ho_o1
 refine⟨hf_o1,(Ae4 o1.r Q2),fun o2 ho_o2=>?_⟩
 obtain ⟨hp_o2,hf_o2⟩:=ho_o2
 exact⟨hf_o2,⟨Q2,(hp_o2.1.1),(hp_o2.1.2),Q0⟩,rfl,rfl⟩
structure H7 where
 x:Int
 c1:Cur
def Mi (c:Cur) (l:List Int) (o:H7):Prop:=Fun Tryz.prog 113 [vP 0,vO 1] [.cells (Ak c),.lst .int l] (.v (vI o.x)) [.cells (Ak o.c1),.lst .int l]
def Gd (c:Cur) (l:List Int) (o:H7):Prop:=((o.x∈l)∧(Aw o.c1))∧Mi c l o
theorem Uz (c:Cur) (l:List Int) (hp1:Aw c) (hp2:1≤List.length l) (hp3:List.length l≤1000): ∃o:H7,Gd c l o:=by
 have hN:Bg=274877906944:=rfl
 refine Bw Tryz.func113 Q4 Q4 (w:=let z1:=((List.length l:Nat):Int);(.intro (Aa c z1) fun o1=> .seg [.call [0] (.v (vI o1.x)) [.cells (Ak o1.c1)]] (.intro (fun (x1:Int)=>l[Int.toNat o1.x]? =some x1) fun x1=> .seg [.el .int x1] (.leaf (⟨x1,o1.c1⟩:H7) [0,1])),In (Aa c z1) fun o1=>((Ai c z1 o1)∧(∃(x1:Int),l[Int.toNat o1.x]? =some x1)∧∀(x1:Int),(l[Int.toNat o1.x]? =some x1)→((o1.x<z1)∧((0:Int)≤o1.x)∧(l[Int.toNat o1.x]? =some x1)∧((x1∈l)∧(Aw o1.c1))∧(.v (vI x1):S)= .v (vI x1)∧([.cells (Ak o1.c1),.lst .int l]:List Blk)=[.cells (Ak o1.c1),.lst .int l])))) Q4 ?_
 refine⟨(An c ((List.length l:Nat):Int) Q0),fun o1 ho_o1=>?_⟩
 obtain ⟨⟨hp_o1_0,hp_o1_1,hp_o1_2,hp_o1_3⟩,hf_o1⟩:=ho_o1
 refine⟨hf_o1,(Bm (l:=l) (i:=Int.toNat o1.x) Q2),fun x1 hx1=>?_⟩
 exact⟨Q2,Q2,hx1,⟨(List.mem_of_getElem? hx1),Q0⟩,rfl,rfl⟩
structure Mj where
 p:Pln
 c1:Cur
def U0 (c:Cur) (o:Mj):Prop:=Fun Tryz.prog 101 [vP 0] [.cells (Ak c)] (.v (.agg (M1 o.p))) [.cells (Ak o.c1)]
def Qe (c:Cur) (o:Mj):Prop:=((PlnG o.p)∧(Aw o.c1))∧U0 c o
theorem Ae7 (c:Cur) (hp1:Aw c): ∃o:Mj,Qe c o:=by
 have hN:Bg=274877906944:=rfl
 refine Bw Tryz.func101 Q4 Q4 (w:=let zi:Int→C:= .int .i64;let z8:=([(2,.v (vP 1))]:List (Nat×S))=[(2,.v (vP 1))];(.intro (Qd c) fun o1=> .seg [.call [0] (.v (.agg [.own 1])) [.cells (Ak o1.c1),.tree o1.l]] (.intro (Aa o1.c1 ((List.length o1.l:Nat):Int)) fun o2=> .intro (Aa o2.c1 4) fun o3=> .intro (Gd o3.c1 [60,60,2000,200,5,0]) fun o4=>let z1:List Blk:=[.cells (Ak o4.c1),.lst .int [60,60,2000,200,5,0]];.seg [.tree (fr (.first 6 (.first 9 (.two 5 (.two 7 (.first 8 (.one 10 (.one 11 (.first 12 (.one 13 (.done)))))) 10 (.one 7 (.first 8 (.one 11 (.first 12 (.one 13 (.done))))))) 10 (.one 5 (.one 7 (.first 8 (.one 11 (.first 12 (.one 13 (.done)))))))))) 0 5) 13 [0],.call [0] (.v (vI o2.x)) [.cells (Ak o2.c1)],.call [0] (.v (vI o3.x)) [.cells (Ak o3.c1)],.as 14 (.v (vI (1+o3.x))),.ty .int,.call [0,4] (.v (vI o4.x)) z1,.at 0,.keep [2],.sel [0,1,2],.ty .int,.call [0] (.v (vI o3.x)) [.cells (Ak o3.c1)],.as 14 (.v (vI (1+o3.x))),.call [0,4] (.v (vI o4.x)) z1,.at 0,.keep [2],.sel [0,1,2],.ty .int,.call [0] (.v (vI o2.x)) [.cells (Ak o2.c1)],.call [0] (.v (vI o3.x)) [.cells (Ak o3.c1)],.as 14 (.v (vI (1+o3.x))),.call [0,4] (.v (vI o4.x)) z1,.at 0,.keep [2],.sel [0,1,2],.at 0,.pub 1 0] (.leaf (⟨(⟨o1.l,o2.x,1+o3.x,o4.x⟩:Pln),o4.c1⟩:Mj) [0])),In (Qd c) fun o1=>(let z7:=((List.length o1.l:Nat):Int);(Uy c o1)∧In (Aa o1.c1 z7) fun o2=>(let z6:=Ai o1.c1 z7 o2;In (Aa o2.c1 4) fun o3=>(let z4:=(.v (vI (IntKind.i64.wrap (1+o3.x))):S)= .v (vI (1+o3.x));let z5:=Ai o2.c1 4 o3;In (Gd o3.c1 [60,60,2000,200,5,0]) fun o4=>(let z2:List Blk:=[.cells (Ak o4.c1),.cells [.own 2,zi o2.x,zi (1+o3.x),zi o4.x],.tree o1.l];let z3:=Mi o3.c1 [60,60,2000,200,5,0] o4;z6∧z5∧z4∧z3∧z5∧z4∧z3∧((z2:List Blk)=z2)∧z8∧z6∧z5∧z4∧z3∧((z2:List Blk)=z2)∧z8∧((PlnG (⟨o1.l,o2.x,1+o3.x,o4.x⟩:Pln))∧(Aw o4.c1))∧(.v (.agg [.seq .shp o1.l,zi o2.x,zi (1+o3.x),zi o4.x]):S)= .v (.agg [.seq .shp o1.l,zi o2.x,zi (1+o3.x),zi o4.x])∧([.cells (Ak o4.c1)]:List Blk)=[.cells (Ak o4.c1)])))))) Q4 ?_
 refine⟨(Ae6 c Q0),fun o1 ho_o1=>?_⟩
 obtain ⟨⟨hp_o1_0,hp_o1_1,hp_o1_2,hp_o1_3⟩,hf_o1⟩:=ho_o1
 refine⟨hf_o1,(An o1.c1 ((List.length o1.l:Nat):Int) Q0),fun o2 ho_o2=>?_⟩
 obtain ⟨⟨hp_o2_0,hp_o2_1,hp_o2_2,hp_o2_3⟩,hf_o2⟩:=ho_o2
 refine⟨(An o2.c1 4 Q0),fun o3 ho_o3=>?_⟩
 obtain ⟨⟨hp_o3_0,hp_o3_1,hp_o3_2,hp_o3_3⟩,hf_o3⟩:=ho_o3
 refine⟨(Uz o3.c1 [60,60,2000,200,5,0] Q0 Q6 Q6),fun o4 ho_o4=>?_⟩
 obtain ⟨⟨hp_o4_0,hp_o4_1⟩,hf_o4⟩:=ho_o4
 exact⟨hf_o2,hf_o3,(Ae Q2 Q2),hf_o4,hf_o3,(Ae Q2 Q2),hf_o4,rfl,rfl,hf_o2,hf_o3,(Ae Q2 Q2),hf_o4,rfl,rfl,⟨(⟨by assumption,by dsimp only;have:=hp_o1_0.1;omega,by dsimp only;omega,by have hpk:=hp_o4_0;simp at hpk;dsimp only;omega⟩),Q0⟩,rfl,rfl⟩
theorem Ae8 (x:Int):0≤IntKind.u64.wrap x∧IntKind.u64.wrap x≤18446744073709551615:=by
 rw[IntKind.wrap_u64];omega
theorem Ags {l:List Int} (hl:(l.all fun x=>decide (0≤x)&&decide (x≤18446744073709551615))=true) {i:Nat} {x:Int} (h:l[i]? =some x):0≤x∧x≤18446744073709551615:=by
 have:=List.all_eq_true.1 hl x (List.mem_of_getElem? h)
 simpa using this
theorem U1 {u:Int} (h:0≤u∧u≤18446744073709551615):1≤(Dp u).length∧(Dp u).length≤10:=by
 have:=Aaq (u:=u) (by omega)
 unfold J5 at this
 omega
theorem Agt (u:Int) (hp1:(0:Int)≤u∧u≤18446744073709551615):Fun Tryz.prog 189 [.c (.int .u64 u)] [] (.v (vI (J5 u))) []:=by
 have hN:Bg=274877906944:=rfl
 have hpl:=U1 hp1
 refine Ar Tryz.func189 Q4 Q4 (w:=(.seg [.call [] (.v (vT (Dp u))) []] (.leaf () []),(Fun Tryz.prog 103 [.c (.int .u64 u)] [] (.v (vT (Dp u))) [])∧(.v (vI ((List.length (Dp u):Nat):Int)):S)= .v (vI (J5 u))∧([]:List Blk)=[])) Q4 ?_
 exact⟨(Te _ Q2),(congrArg S.v (congrArg V.c (congrArg (C.int .i64) (by rfl)))),rfl⟩
structure K7 where
 t:List UInt8
def Wb (u:Int) (n:Int) (o:K7):Prop:=Fun Tryz.prog 188 [.c (.int .u64 u),vI n] [] (.v (vT o.t)) []
def R6 (u:Int) (n:Int) (o:K7):Prop:=((List.length (o.t:List UInt8)≤10))∧Wb u n o
structure Mk where
 out:List Int
def Mm (n:Int):Fam:=⟨Mk,fun q1=>[(1,.v (vI n)),(5,.v (vO 0))],fun q1=>[.lst .u8 q1.out],fun q1=>1≤List.length q1.out∧List.length q1.out≤10,fun q1=>10-List.length q1.out⟩
theorem Agu (u:Int) (n:Int) (hp1:(0:Int)≤u∧u≤18446744073709551615): ∃o:K7,R6 u n o:=by
 have hN:Bg=274877906944:=rfl
 have hpl:=U1 hp1
 refine Bw Tryz.func188 Q4 Q4 (w:=let z7:=List.map (fun b=>(UInt8.toNat b:Int)) (Dp u);let z6:=((List.length z7:Nat):Int);let z8:=Am n z6 10;let z9:=Mm n;(.seg [.call [] (.v (vT (Dp u))) [],.call [] (.v (vB z8)) []] (.br (.leaf (⟨[]⟩:K7) []) (.seg [.at 0,.keep [1,5],.sel [0]] (.loop z9 fun q1=>let z3:=((List.length q1.out:Nat):Int)-1;.br (.seg [.as 21 (.v (vI z3)),.as 25 (.v (vI z3))] (.intro (fun (x1:Int)=>q1.out[Int.toNat z3]? =some x1) fun x1=> .seg [.el .u8 x1,.el .u8 x1,.ty .u8,.ty .u8,.at 0,.keep [1,5],.sel [2]] (.next))) (.leaf (⟨List.map Bc q1.out⟩:K7) [])))),(Fun Tryz.prog 103 [.c (.int .u64 u)] [] (.v (vT (Dp u))) [])∧(List.length (Dp u)≤Bg)∧(Fun Tryz.prog 59 [vI n,vI z6,vI 10] [] (.v (vB z8)) [])∧((!z8)=true→((List.length ([]:List UInt8)≤10))∧(.v (vT []):S)= .v (vT [])∧([]:List Blk)=[])∧((!z8)=false→z9.Has [(1,.v (vI n)),(5,.v (vO 0))] [.lst .u8 z7]∧∀q1,z9.inv q1→(let z4:=((List.length q1.out:Nat):Int);let z5:=List.map Bc q1.out;((decide (z4<n))=true→((.v (vI (IntKind.i64.wrap (z4-1))):S)= .v (vI (z4-1)))∧((.v (vI (IntKind.i64.wrap (z4-1))):S)= .v (vI (z4-1)))∧(∃(x1:Int),q1.out[Int.toNat (z4-1)]? =some x1)∧∀(x1:Int),(q1.out[Int.toNat (z4-1)]? =some x1)→(let z1:=List.set q1.out (Int.toNat (z4-1)) (IntKind.u8.wrap (x1+128));let z2:=q1.out[Int.toNat (z4-1)]? =some x1;(z4-1<z4)∧((0:Int)≤z4-1)∧z2∧(z4-1<z4)∧((0:Int)≤z4-1)∧z2∧(List.length z1+List.length [0]≤Bg)∧z9.Nxt q1 [(1,.v (vI n)),(5,.v (vO 0))] [.lst .u8 (z1++[0])]))∧((decide (z4<n))=false→((List.length (z5:List UInt8)≤10))∧(.v (vT z5):S)= .v (vT z5)∧([]:List Blk)=[]))))) Q4 ?_
 refine⟨(Te _ Q2),Q2,(Ba _ _ _),fun h1=>have q1:=Ap h1;have p1:=Az q1;?_,fun h1=>have q1:=Ao h1;have p1:=As q1;?_⟩
 exact⟨Q6,rfl,rfl⟩
 refine⟨Bk (j:=(⟨List.map (fun b=>(UInt8.toNat b:Int)) (Dp u)⟩:Mk)) rfl rfl (by dsimp only[Mm];exact⟨by simp;omega,by simp;omega⟩),fun (q1:Mk) hq_q1=>?_⟩
 have hi_q1:1≤List.length q1.out∧List.length q1.out≤10:=hq_q1
 obtain ⟨v1,v2⟩:=hi_q1
 refine dsp (fun h2 p2=>?_) fun h2 p2=>?_
 refine⟨(Ae Q2 Q2),(Ae Q2 Q2),(Bm (l:=q1.out) (i:=Int.toNat (((List.length q1.out:Nat):Int)-1)) Q2),fun x1 hx1=>?_⟩
 exact⟨Q2,Q2,hx1,Q2,Q2,hx1,Q69,Bd (j:=(⟨(List.set q1.out (Int.toNat (((List.length q1.out:Nat):Int)-1)) (IntKind.u8.wrap (x1+128)))++[0]⟩:Mk)) rfl rfl (by dsimp only[Mm];exact⟨by simp,by simp;omega⟩) (by dsimp only[Mm];simp;omega)⟩
 exact⟨Q17,rfl,rfl⟩
structure Je where
 x:Int
 c1:Cur
def Du (c:Cur) (o:Je):Prop:=Fun Tryz.prog 150 [vP 0] [.cells (Ak c)] (.v (.c (.int .u64 o.x))) [.cells (Ak o.c1)]
def B2 (c:Cur) (o:Je):Prop:=(((0:Int)≤o.x∧o.x≤18446744073709551615)∧(Aw o.c1))∧Du c o
structure Mn where
 c:Cur
 u:Int
 i:Nat
def Mo  :Fam:=⟨Mn,fun q1=>[(0,.v (vP 0)),(3,.v (.c (.int .u64 q1.u))),(4,.v (vI ((q1.i:Nat):Int)))],fun q1=>[.cells (Ak q1.c)],fun q1=>Aw q1.c∧q1.i≤8∧((0:Int)≤q1.u∧q1.u≤18446744073709551615),fun q1=>8-q1.i⟩
theorem Ge (c:Cur) (hp1:Aw c): ∃o:Je,B2 c o:=by
 have hN:Bg=274877906944:=rfl
 refine Bw Tryz.func150 Q4 Q4 (w:=let z2:=Mo;(.intro (Aa c 4) fun o1=> .seg [.call [0] (.v (vI o1.x)) [.cells (Ak o1.c1)]] (.br (.seg [.ty .u64] (.intro (Aa o1.c1 12) fun o2=> .seg [.call [0] (.v (vI o2.x)) [.cells (Ak o2.c1)]] (.intro (fun (x1:Int)=>[0,1,127,128,16383,16384,2147483647,4294967295,4294967296,9223372036854775807,9223372036854775808,18446744073709551615][Int.toNat o2.x]? =some x1) fun x1=> .seg [.el .u64 x1] (.leaf (⟨x1,o2.c1⟩:Je) [0])))) (.br (.seg [.at 0,.keep [0,3,4],.sel [0]] (.loop z2 fun q1=> .br (.intro (Dt q1.c) fun o2=> .seg [.call [0] (.v (vI o2.x)) [.cells (Ak o2.c1)],.as 24 (.v (.c (.int .u64 o2.x))),.as 19 (.v (vI (((q1.i:Nat):Int)+1))),.at 0,.keep [0,3,4],.sel [0]] (.next)) (.leaf (⟨q1.u,q1.c⟩:Je) [0]))) (.intro (Aa o1.c1 300) fun o2=> .seg [.call [0] (.v (vI o2.x)) [.cells (Ak o2.c1)],.as 29 (.v (.c (.int .u64 o2.x)))] (.leaf (⟨o2.x,o2.c1⟩:Je) [0])))),In (Aa c 4) fun o1=>((Ai c 4 o1)∧((decide (o1.x=0))=true→In (Aa o1.c1 12) fun o2=>((Ai o1.c1 12 o2)∧(∃(x1:Int),[0,1,127,128,16383,16384,2147483647,4294967295,4294967296,9223372036854775807,9223372036854775808,18446744073709551615][Int.toNat o2.x]? =some x1)∧∀(x1:Int),([0,1,127,128,16383,16384,2147483647,4294967295,4294967296,9223372036854775807,9223372036854775808,18446744073709551615][Int.toNat o2.x]? =some x1)→((o2.x<((List.length [0,1,127,128,16383,16384,2147483647,4294967295,4294967296,9223372036854775807,9223372036854775808,18446744073709551615]:Nat):Int))∧((0:Int)≤o2.x)∧([0,1,127,128,16383,16384,2147483647,4294967295,4294967296,9223372036854775807,9223372036854775808,18446744073709551615][Int.toNat o2.x]? =some x1)∧(((0:Int)≤x1∧x1≤18446744073709551615)∧(Aw o2.c1))∧(.v (.c (.int .u64 x1)):S)= .v (.c (.int .u64 x1))∧([.cells (Ak o2.c1)]:List Blk)=[.cells (Ak o2.c1)])))∧((decide (o1.x=0))=false→((decide (o1.x=1))=true→z2.Has [(0,.v (vP 0)),(3,.v (.c (.int .u64 0))),(4,.v (vI 0))] [.cells (Ak o1.c1)]∧∀q1,z2.inv q1→(let z1:=((q1.i:Nat):Int);((decide (z1<8))=true→In (Dt q1.c) fun o2=>((Fz q1.c o2)∧((.v (.c (.int .u64 (IntKind.u64.wrap (o2.x)))):S)= .v (.c (.int .u64 o2.x)))∧((.v (vI (IntKind.i64.wrap (z1+1))):S)= .v (vI (z1+1)))∧z2.Nxt q1 [(0,.v (vP 0)),(3,.v (.c (.int .u64 (IntKind.u64.wrap ((IntKind.u64.wrap (256*q1.u))+o2.x))))),(4,.v (vI (z1+1)))] [.cells (Ak o2.c1)]))∧((decide (z1<8))=false→(((0:Int)≤q1.u∧q1.u≤18446744073709551615)∧(Aw q1.c))∧(.v (.c (.int .u64 q1.u)):S)= .v (.c (.int .u64 q1.u))∧([.cells (Ak q1.c)]:List Blk)=[.cells (Ak q1.c)])))∧((decide (o1.x=1))=false→In (Aa o1.c1 300) fun o2=>((Ai o1.c1 300 o2)∧((.v (.c (.int .u64 (IntKind.u64.wrap (o2.x)))):S)= .v (.c (.int .u64 o2.x)))∧(((0:Int)≤o2.x∧o2.x≤18446744073709551615)∧(Aw o2.c1))∧(.v (.c (.int .u64 o2.x)):S)= .v (.c (.int .u64 o2.x))∧([.cells (Ak o2.c1)]:List Blk)=[.cells (Ak o2.c1)])))))) Q4 ?_
 refine⟨(An c 4 Q0),fun o1 ho_o1=>?_⟩
 obtain ⟨⟨hp_o1_0,hp_o1_1,hp_o1_2,hp_o1_3⟩,hf_o1⟩:=ho_o1
 refine⟨hf_o1,dsp (fun h1 p1=>?_) fun h1 p1=>?_⟩
 refine⟨(An o1.c1 12 Q0),fun o2 ho_o2=>?_⟩
 obtain ⟨⟨hp_o2_0,hp_o2_1,hp_o2_2,hp_o2_3⟩,hf_o2⟩:=ho_o2
 refine⟨hf_o2,(Bm (l:=[0,1,127,128,16383,16384,2147483647,4294967295,4294967296,9223372036854775807,9223372036854775808,18446744073709551615]) (i:=Int.toNat o2.x) Q6),fun x1 hx1=>?_⟩
 refine⟨Q6,Q2,?_⟩
 have hwx:=Ags (by decide) hx1
 exact⟨hx1,⟨Q2,Q0⟩,rfl,rfl⟩
 refine dsp (fun h2 p2=>?_) fun h2 p2=>?_
 refine⟨Bk (j:=(⟨o1.c1,0,0⟩:Mn)) Q10 rfl (by dsimp only[Mo];exact⟨by assumption,by omega,by omega⟩),fun (q1:Mn) hq_q1=>?_⟩
 have hi_q1:Aw q1.c∧q1.i≤8∧((0:Int)≤q1.u∧q1.u≤18446744073709551615):=hq_q1
 obtain ⟨v1,v2,v3⟩:=hi_q1
 refine dsp (fun h3 p3=>?_) fun h3 p3=>?_
 refine⟨(Mb q1.c Q0),fun o2 ho_o2=>?_⟩
 obtain ⟨⟨hp_o2_0,hp_o2_1⟩,hf_o2⟩:=ho_o2
 exact⟨hf_o2,(Bv Q2 Q2),(Ae Q2 Q2),Bd (j:=(⟨o2.c1,IntKind.u64.wrap ((IntKind.u64.wrap (256*q1.u))+o2.x),q1.i+1⟩:Mn)) Q10 rfl (by dsimp only[Mo];exact⟨by assumption,by omega,Ae8 _⟩) (by dsimp only[Mo];omega)⟩
 exact⟨⟨Q2,Q0⟩,rfl,rfl⟩
 refine⟨(An o1.c1 300 Q0),fun o2 ho_o2=>?_⟩
 obtain ⟨⟨hp_o2_0,hp_o2_1,hp_o2_2,hp_o2_3⟩,hf_o2⟩:=ho_o2
 exact⟨hf_o2,(Bv Q2 Q2),⟨Q2,Q0⟩,rfl,rfl⟩
structure K8 where
 t:List UInt8
 c1:Cur
def Av (c:Cur) (u:Int) (o:K8):Prop:=Fun Tryz.prog 149 [vP 0,.c (.int .u64 u)] [.cells (Ak c)] (.v (vT o.t)) [.cells (Ak o.c1)]
def Ag (c:Cur) (u:Int) (o:K8):Prop:=((List.length (o.t:List UInt8)≤10)∧(Aw o.c1))∧Av c u o
theorem A6 (c:Cur) (u:Int) (hp1:Aw c) (hp2:(0:Int)≤u∧u≤18446744073709551615): ∃o:K8,Ag c u o:=by
 have hN:Bg=274877906944:=rfl
 have hpl:=U1 hp2
 have hvl:J5 u=(((Dp u).length:Nat):Int):=rfl
 refine Bw Tryz.func149 Q4 Q4 (w:=let z3:=vT (Dp u);let z4:=List.length ((Dp u):List UInt8)≤10;(.intro (Aq c 4) fun o1=> .seg [.call [0] (.v (vB o1.p)) [.cells (Ak o1.c1)]] (.br (.seg [.call [] (.v (vI (J5 u))) []] (.intro (Aa o1.c1 3) fun o2=> .seg [.call [0] (.v (vI o2.x)) [.cells (Ak o2.c1)],.as 13 (.v (vI ((J5 u)+o2.x)))] (.intro (R6 u ((J5 u)+o2.x)) fun o3=> .seg [.call [] (.v (vT o3.t)) []] (.br (.leaf (⟨o3.t,o2.c1⟩:K8) [0]) (.seg [.call [] (.v z3) []] (.leaf (⟨Dp u,o2.c1⟩:K8) [0])))))) (.seg [.call [] (.v z3) []] (.leaf (⟨Dp u,o1.c1⟩:K8) [0]))),In (Aq c 4) fun o1=>((Bf c 4 o1)∧(o1.p=true→(Fun Tryz.prog 189 [.c (.int .u64 u)] [] (.v (vI (J5 u))) [])∧In (Aa o1.c1 3) fun o2=>(let z1:=(J5 u)+o2.x;let z2:List Blk:=[.cells (Ak o2.c1)];(Ai o1.c1 3 o2)∧((.v (vI (IntKind.i64.wrap z1)):S)= .v (vI z1))∧In (R6 u z1) fun o3=>((Wb u z1 o3)∧((!decide (o3.t=[]))=true→((List.length (o3.t:List UInt8)≤10)∧(Aw o2.c1))∧(.v (vT o3.t):S)= .v (vT o3.t)∧(z2:List Blk)=z2)∧((!decide (o3.t=[]))=false→(Fun Tryz.prog 103 [.c (.int .u64 u)] [] (.v z3) [])∧(z4∧(Aw o2.c1))∧(.v z3:S)= .v z3∧(z2:List Blk)=z2))))∧(o1.p=false→(Fun Tryz.prog 103 [.c (.int .u64 u)] [] (.v z3) [])∧(z4∧(Aw o1.c1))∧(.v z3:S)= .v z3∧([.cells (Ak o1.c1)]:List Blk)=[.cells (Ak o1.c1)])))) Q4 ?_
 refine⟨(Bx c 4 Q0),fun o1 ho_o1=>?_⟩
 obtain ⟨hp_o1,hf_o1⟩:=ho_o1
 refine⟨hf_o1,fun h1=>?_,fun h1=>?_⟩
 refine⟨(Agt _ Q2),(An o1.c1 3 Q0),fun o2 ho_o2=>?_⟩
 obtain ⟨⟨hp_o2_0,hp_o2_1,hp_o2_2,hp_o2_3⟩,hf_o2⟩:=ho_o2
 refine⟨hf_o2,(Ae Q2 Q2),(Agu u ((J5 u)+o2.x) Q2),fun o3 ho_o3=>?_⟩
 obtain ⟨hp_o3,hf_o3⟩:=ho_o3
 refine⟨hf_o3,fun h2=>have q2:=Ap h2;have p2:=of_decide_eq_false q2;?_,fun h2=>have q2:=Ao h2;have p2:=of_decide_eq_true q2;?_⟩
 exact⟨⟨Q2,Q0⟩,rfl,rfl⟩
 exact⟨(Te _ Q2),⟨Q2,Q0⟩,rfl,rfl⟩
 exact⟨(Te _ Q2),⟨Q2,Q0⟩,rfl,rfl⟩
structure Hd where
 x:Int
 c1:Cur
def Sw (c:Cur) (o:Hd):Prop:=Fun Tryz.prog 168 [vP 0] [.cells (Ak c)] (.v (vI o.x)) [.cells (Ak o.c1)]
def Nv (c:Cur) (o:Hd):Prop:=((Aw o.c1))∧Sw c o
theorem Ach (c:Cur) (hp1:Aw c): ∃o:Hd,Nv c o:=by
 have hN:Bg=274877906944:=rfl
 refine Bw Tryz.func168 Q4 Q4 (w:=(.intro (Aq c 4) fun o1=> .seg [.call [0] (.v (vB o1.p)) [.cells (Ak o1.c1)]] (.br (.seg [.ty .int,.pubS 6] (.intro (Bb o1.c1 [0,1,(-1),18999,19000,19999,20000,536870911,536870912,9223372036854775807]) fun o2=> .seg [.call [0] (.v (vI o2.x)) [.cells (Ak o2.c1)]] (.leaf (⟨o2.x,o2.c1⟩:Hd) [0]))) (.intro (Aa o1.c1 20) fun o2=> .seg [.call [0] (.v (vI o2.x)) [.cells (Ak o2.c1)],.as 10 (.v (vI (1+o2.x)))] (.leaf (⟨1+o2.x,o2.c1⟩:Hd) [0]))),In (Aq c 4) fun o1=>((Bf c 4 o1)∧(o1.p=true→In (Bb o1.c1 [0,1,(-1),18999,19000,19999,20000,536870911,536870912,9223372036854775807]) fun o2=>((B9 o1.c1 [0,1,(-1),18999,19000,19999,20000,536870911,536870912,9223372036854775807] o2)∧((Aw o2.c1))∧(.v (vI o2.x):S)= .v (vI o2.x)∧([.cells (Ak o2.c1)]:List Blk)=[.cells (Ak o2.c1)]))∧(o1.p=false→In (Aa o1.c1 20) fun o2=>((Ai o1.c1 20 o2)∧((.v (vI (IntKind.i64.wrap (1+o2.x))):S)= .v (vI (1+o2.x)))∧((Aw o2.c1))∧(.v (vI (1+o2.x)):S)= .v (vI (1+o2.x))∧([.cells (Ak o2.c1)]:List Blk)=[.cells (Ak o2.c1)]))))) Q4 ?_
 refine⟨(Bx c 4 Q0),fun o1 ho_o1=>?_⟩
 obtain ⟨hp_o1,hf_o1⟩:=ho_o1
 refine⟨hf_o1,fun h1=>?_,fun h1=>?_⟩
 refine⟨(C4 o1.c1 [0,1,(-1),18999,19000,19999,20000,536870911,536870912,9223372036854775807] Q0 Q6 Q6),fun o2 ho_o2=>?_⟩
 obtain ⟨⟨hp_o2_0,hp_o2_1⟩,hf_o2⟩:=ho_o2
 exact⟨hf_o2,Q0,rfl,rfl⟩
 refine⟨(An o1.c1 20 Q0),fun o2 ho_o2=>?_⟩
 obtain ⟨⟨hp_o2_0,hp_o2_1,hp_o2_2,hp_o2_3⟩,hf_o2⟩:=ho_o2
 exact⟨hf_o2,(Ae Q2 Q2),Q0,rfl,rfl⟩
theorem Pj {t:List UInt8} {l:List (List UInt8)} {n:Nat} (h:t∈l) (hl:(l.all fun x=>decide (x.length≤n))=true):t.length≤n:=by
 have:=List.all_eq_true.1 hl t h
 simpa using this
structure Pk where
 t:List UInt8
 c1:Cur
def Pm (c:Cur) (l:List (List UInt8)) (o:Pk):Prop:=Fun Tryz.prog 170 [vP 0,.c (.seq .str l)] [.cells (Ak c)] (.v (vT o.t)) [.cells (Ak o.c1)]
def Gv (c:Cur) (l:List (List UInt8)) (o:Pk):Prop:=((o.t∈l)∧(Aw o.c1))∧Pm c l o
theorem Xf (c:Cur) (l:List (List UInt8)) (hp1:Aw c) (hp2:1≤List.length l) (hp3:List.length l≤1000): ∃o:Pk,Gv c l o:=by
 have hN:Bg=274877906944:=rfl
 refine Bw Tryz.func170 Q4 Q4 (w:=let z1:=((List.length l:Nat):Int);(.intro (Aa c z1) fun o1=> .seg [.call [0] (.v (vI o1.x)) [.cells (Ak o1.c1)]] (.intro (fun (x1:List UInt8)=>l[Int.toNat o1.x]? =some x1) fun x1=> .seg [.el .str x1] (.leaf (⟨x1,o1.c1⟩:Pk) [0])),In (Aa c z1) fun o1=>((Ai c z1 o1)∧(∃(x1:List UInt8),l[Int.toNat o1.x]? =some x1)∧∀(x1:List UInt8),(l[Int.toNat o1.x]? =some x1)→((l[Int.toNat o1.x]? =some x1)∧((0:Int)≤o1.x)∧((x1∈l)∧(Aw o1.c1))∧(.v (vT x1):S)= .v (vT x1)∧([.cells (Ak o1.c1)]:List Blk)=[.cells (Ak o1.c1)])))) Q4 ?_
 refine⟨(An c ((List.length l:Nat):Int) Q0),fun o1 ho_o1=>?_⟩
 obtain ⟨⟨hp_o1_0,hp_o1_1,hp_o1_2,hp_o1_3⟩,hf_o1⟩:=ho_o1
 refine⟨hf_o1,(Bm (l:=l) (i:=Int.toNat o1.x) Q2),fun x1 hx1=>?_⟩
 exact⟨hx1,Q2,⟨(List.mem_of_getElem? hx1),Q0⟩,rfl,rfl⟩
structure Jv where
 t:List UInt8
 c1:Cur
def Qf (c:Cur) (s:List UInt8) (o:Jv):Prop:=Fun Tryz.prog 190 [vP 0,vT s] [.cells (Ak c)] (.v (vT o.t)) [.cells (Ak o.c1)]
def Jw (c:Cur) (s:List UInt8) (o:Jv):Prop:=((List.length (o.t:List UInt8)≤List.length s+2)∧(Aw o.c1))∧Qf c s o
theorem Yr (c:Cur) (s:List UInt8) (hp1:Aw c) (hp2:List.length s≤1000000): ∃o:Jv,Jw c s o:=by
 have hN:Bg=274877906944:=rfl
 have hml:List.length (List.map (fun b=>(UInt8.toNat b:Int)) s)=List.length s:=by simp
 refine Bw Tryz.func190 Q4 Q4 (w:=let z6:=List.map (fun b=>(UInt8.toNat b:Int)) s;let z7:=((List.length z6:Nat):Int);(.br (.intro (Bh c 2) fun o1=> .seg [.call [0] (.v (vO 1)) [.cells (Ak o1.c1),.lst .u8 o1.l]] (.leaf (⟨List.map Bc o1.l,o1.c1⟩:Jv) [0])) (.intro (Aa c z7) fun o1=> .seg [.call [0] (.v (vI o1.x)) [.cells (Ak o1.c1)]] (.intro (fun (x1:Int)=>z6[Int.toNat o1.x]? =some x1) fun x1=> .intro (Aa o1.c1 255) fun o2=> .seg [.ord (os 13 [7,12]) [0],.el .u8 x1,.call [0] (.v (vI o2.x)) [.cells (Ak o2.c1)],.as 26 (.v (vI (1+o2.x))),.as 27 (.v (.c (.int .u8 (1+o2.x)))),.el .u8 x1] (.leaf (⟨List.map Bc (List.set z6 (Int.toNat o1.x) (IntKind.u8.wrap (((BitVec.ofInt 8 x1 ^^^ BitVec.ofInt 8 (1+o2.x)).toNat:Nat)))),o2.c1⟩:Jv) [0]))),((decide (s=[]))=true→In (Bh c 2) fun o1=>(let z1:=List.map Bc o1.l;(Ch c 2 o1)∧((List.length (z1:List UInt8)≤List.length s+2)∧(Aw o1.c1))∧(.v (vT z1):S)= .v (vT z1)∧([.cells (Ak o1.c1)]:List Blk)=[.cells (Ak o1.c1)]))∧((decide (s=[]))=false→In (Aa c z7) fun o1=>(let z4:=o1.x<z7;let z5:=(0:Int)≤o1.x;(List.length s≤Bg)∧(Ai c z7 o1)∧(∃(x1:Int),z6[Int.toNat o1.x]? =some x1)∧∀(x1:Int),(z6[Int.toNat o1.x]? =some x1)→(let z3:=z6[Int.toNat o1.x]? =some x1;In (Aa o1.c1 255) fun o2=>(let z2:=List.map Bc (List.set z6 (Int.toNat o1.x) (IntKind.u8.wrap (((BitVec.ofInt 8 x1 ^^^ BitVec.ofInt 8 (1+o2.x)).toNat:Nat))));z4∧z5∧z4∧z5∧z3∧z3∧(Ai o1.c1 255 o2)∧((.v (vI (IntKind.i64.wrap (1+o2.x))):S)= .v (vI (1+o2.x)))∧((.v (.c (.int .u8 (IntKind.u8.wrap (1+o2.x)))):S)= .v (.c (.int .u8 (1+o2.x))))∧z4∧z5∧z4∧z5∧z3∧((List.length (z2:List UInt8)≤List.length s+2)∧(Aw o2.c1))∧(.v (vT z2):S)= .v (vT z2)∧([.cells (Ak o2.c1)]:List Blk)=[.cells (Ak o2.c1)])))))) Q4 ?_
 refine dsp (fun h1 p1=>?_) fun h1 p1=>?_
 refine⟨(Dm c 2 Q0 Q2),fun o1 ho_o1=>?_⟩
 obtain ⟨⟨hp_o1_0,hp_o1_1⟩,hf_o1⟩:=ho_o1
 exact⟨hf_o1,⟨Q17,Q0⟩,rfl,rfl⟩
 have hne:1≤List.length s:=List.length_pos_iff.2 (by simpa using p1)
 refine⟨(An c ((List.length (List.map (fun b=>(UInt8.toNat b:Int)) s):Nat):Int) Q0),fun o1 ho_o1=>?_⟩
 refine⟨Q2,?_⟩
 obtain ⟨⟨hp_o1_0,hp_o1_1,hp_o1_2,hp_o1_3⟩,hf_o1⟩:=ho_o1
 refine⟨hf_o1,(Bm (l:=List.map (fun b=>(UInt8.toNat b:Int)) s) (i:=Int.toNat o1.x) Q17),fun x1 hx1=>?_⟩
 refine⟨(An o1.c1 255 Q0),fun o2 ho_o2=>?_⟩
 obtain ⟨⟨hp_o2_0,hp_o2_1,hp_o2_2,hp_o2_3⟩,hf_o2⟩:=ho_o2
 exact⟨Q17,Q2,Q17,Q2,hx1,hx1,hf_o2,(Ae Q2 Q2),(Kx Q2 Q2),Q17,Q2,Q17,Q2,hx1,⟨(by simp only[List.length_set,List.length_map];omega),Q0⟩,rfl,rfl⟩
structure D2 where
 t:List UInt8
def Sx (n:Int) (o:D2):Prop:=Fun Tryz.prog 218 [vI n] [] (.v (vT o.t)) []
def Nw (n:Int) (o:D2):Prop:=((List.length (o.t:List UInt8)≤4))∧Sx n o
theorem Aci (n:Int): ∃o:D2,Nw n o:=by
 have hN:Bg=274877906944:=rfl
 have t64:0≤n→Int.tdiv n 64=n / 64:=fun h=>Int.tdiv_eq_ediv_of_nonneg h
 have t4096:0≤n→Int.tdiv n 4096=n / 4096:=fun h=>Int.tdiv_eq_ediv_of_nonneg h
 have t262144:0≤n→Int.tdiv n 262144=n / 262144:=fun h=>Int.tdiv_eq_ediv_of_nonneg h
 refine Bw Tryz.func218 Q4 Q4 (w:=let z2:=Int.tdiv n 4096;let z3:=Int.tmod n 64;let z4:=Int.tdiv n 64;let z1:=Int.tmod z4 64;let z5:=Int.tdiv n 262144;let z7:=List.map Bc [240+z5,128+(Int.tmod z2 64),128+z1,128+z3];let z9:=128+(Int.tmod z2 64);let z10:=(64:Int)≠0;let z11:=(.v (vI (IntKind.i64.wrap z4)):S)= .v (vI z4);let z12:=List.map Bc [224+z2,128+z1,128+z3];let z14:=List.map Bc [192+z4,128+z3];let z15:=128+z3;let z6:=(.v (.c (.int .u8 (IntKind.u8.wrap z15))):S)= .v (.c (.int .u8 z15));let z8:=(.v (vI (IntKind.i64.wrap z15)):S)= .v (vI z15);let z16:=128+z1;let z13:=(.v (.c (.int .u8 (IntKind.u8.wrap z16))):S)= .v (.c (.int .u8 z16));let z17:=([]:List Blk);let z18:=Am n 55296 57343;let z19:=Am n 0 1114111;let z20:=(.v (vI (IntKind.i64.wrap z16)):S)= .v (vI z16);let z21:=(.v (vI (IntKind.i64.wrap z2)):S)= .v (vI z2);let z22:=List.map Bc [n];let z23:=192+z4;let z24:=224+z2;let z25:=240+z5;let z26:=(List.length ([]:List UInt8)≤4);(.seg [.call [] (.v (vB z19)) []] (.br (.leaf (⟨[]⟩:D2) []) (.seg [.call [] (.v (vB z18)) []] (.br (.leaf (⟨[]⟩:D2) []) (.br (.seg [.as 15 (.v (.c (.int .u8 n))),.ty .u8] (.leaf (⟨List.map Bc [n]⟩:D2) [])) (.br (.seg [.as 22 (.v (vI z4)),.as 23 (.v (vI z23)),.as 24 (.v (.c (.int .u8 z23))),.as 27 (.v (vI z15)),.as 28 (.v (.c (.int .u8 z15))),.ty .u8] (.leaf (⟨List.map Bc [192+z4,128+z3]⟩:D2) [])) (.br (.seg [.as 35 (.v (vI z2)),.as 36 (.v (vI z24)),.as 37 (.v (.c (.int .u8 z24))),.as 39 (.v (vI z4)),.as 41 (.v (vI z16)),.as 42 (.v (.c (.int .u8 z16))),.as 45 (.v (vI z15)),.as 46 (.v (.c (.int .u8 z15))),.ty .u8] (.leaf (⟨List.map Bc [224+z2,128+z1,128+z3]⟩:D2) [])) (.seg [.as 50 (.v (vI z5)),.as 51 (.v (vI z25)),.as 52 (.v (.c (.int .u8 z25))),.as 54 (.v (vI z2)),.as 56 (.v (vI z9)),.as 57 (.v (.c (.int .u8 z9))),.as 59 (.v (vI z4)),.as 61 (.v (vI z16)),.as 62 (.v (.c (.int .u8 z16))),.as 65 (.v (vI z15)),.as 66 (.v (.c (.int .u8 z15))),.ty .u8] (.leaf (⟨List.map Bc [240+z5,128+(Int.tmod z2 64),128+z1,128+z3]⟩:D2) [])))))))),(Fun Tryz.prog 59 [vI n,vI 0,vI 1114111] [] (.v (vB z19)) [])∧((!z19)=true→z26∧(.v (vT []):S)= .v (vT [])∧z17=[])∧((!z19)=false→(Fun Tryz.prog 59 [vI n,vI 55296,vI 57343] [] (.v (vB z18)) [])∧(z18=true→z26∧(.v (vT []):S)= .v (vT [])∧z17=[])∧(z18=false→((decide (n<128))=true→((.v (.c (.int .u8 (IntKind.u8.wrap (n)))):S)= .v (.c (.int .u8 n)))∧((List.length (z22:List UInt8)≤4))∧(.v (vT z22):S)= .v (vT z22)∧z17=[])∧((decide (n<128))=false→((decide (n<2048))=true→z10∧z11∧((.v (vI (IntKind.i64.wrap z23)):S)= .v (vI z23))∧((.v (.c (.int .u8 (IntKind.u8.wrap z23))):S)= .v (.c (.int .u8 z23)))∧z10∧z8∧z6∧((List.length (z14:List UInt8)≤4))∧(.v (vT z14):S)= .v (vT z14)∧z17=[])∧((decide (n<2048))=false→((decide (n<65536))=true→((4096:Int)≠0)∧z21∧((.v (vI (IntKind.i64.wrap z24)):S)= .v (vI z24))∧((.v (.c (.int .u8 (IntKind.u8.wrap z24))):S)= .v (.c (.int .u8 z24)))∧z10∧z11∧z10∧z20∧z13∧z10∧z8∧z6∧((List.length (z12:List UInt8)≤4))∧(.v (vT z12):S)= .v (vT z12)∧z17=[])∧((decide (n<65536))=false→((262144:Int)≠0)∧((.v (vI (IntKind.i64.wrap z5)):S)= .v (vI z5))∧((.v (vI (IntKind.i64.wrap z25)):S)= .v (vI z25))∧((.v (.c (.int .u8 (IntKind.u8.wrap z25))):S)= .v (.c (.int .u8 z25)))∧((4096:Int)≠0)∧z21∧z10∧((.v (vI (IntKind.i64.wrap z9)):S)= .v (vI z9))∧((.v (.c (.int .u8 (IntKind.u8.wrap z9))):S)= .v (.c (.int .u8 z9)))∧z10∧z11∧z10∧z20∧z13∧z10∧z8∧z6∧((List.length (z7:List UInt8)≤4))∧(.v (vT z7):S)= .v (vT z7)∧z17=[]))))))) Q4 ?_
 refine⟨(Ba _ _ _),fun h1=>have q1:=Ap h1;have p1:=Az q1;?_,fun h1=>have q1:=Ao h1;have p1:=As q1;?_⟩
 exact⟨Q75,rfl,rfl⟩
 refine⟨(Ba _ _ _),fun h2=>have p2:=As h2;?_,fun h2=>have p2:=Az h2;?_⟩
 exact⟨Q75,rfl,rfl⟩
 refine dsp (fun h3 p3=>?_) fun h3 p3=>?_
 exact⟨(Kx Q2 Q2),Q75,rfl,rfl⟩
 refine dsp (fun h4 p4=>?_) fun h4 p4=>?_
 exact⟨Q24,(Ae Q2 Q2),(Ae Q2 Q2),(Kx Q2 Q2),Q24,(Ae Q46 Q46),(Kx Q46 Q46),Q75,rfl,rfl⟩
 refine dsp (fun h5 p5=>?_) fun h5 p5=>?_
 exact⟨Q24,(Ae Q2 Q2),(Ae Q2 Q2),(Kx Q2 Q2),Q24,(Ae Q2 Q2),Q24,(Ae Q48 Q48),(Kx Q48 Q48),Q24,(Ae Q46 Q46),(Kx Q46 Q46),Q75,rfl,rfl⟩
 exact⟨Q24,(Ae Q2 Q2),(Ae Q2 Q2),(Kx Q2 Q2),Q24,(Ae Q2 Q2),Q24,(Ae Q71 Q71),(Kx Q71 Q71),Q24,(Ae Q2 Q2),Q24,(Ae Q48 Q48),(Kx Q48 Q48),Q24,(Ae Q46 Q46),(Kx Q46 Q46),Q75,rfl,rfl⟩
structure Pn where
 x:Int
 c1:Cur
def Wc (c:Cur) (o:Pn):Prop:=Fun Tryz.prog 219 [vP 0] [.cells (Ak c)] (.v (vI o.x)) [.cells (Ak o.c1)]
def R7 (c:Cur) (o:Pn):Prop:=((Aw o.c1))∧Wc c o
theorem Agv (c:Cur) (hp1:Aw c): ∃o:Pn,R7 c o:=by
 have hN:Bg=274877906944:=rfl
 refine Bw Tryz.func219 Q4 Q4 (w:=(.intro (Aa c 1114112) fun o1=> .seg [.call [0] (.v (vI o1.x)) [.cells (Ak o1.c1)],.ty .int,.pubS 6] (.intro (Bb o1.c1 [0,65,127,128,2047,2048,4095,55295,57344,65535,65536,1114111,o1.x]) fun o2=> .seg [.call [0] (.v (vI o2.x)) [.cells (Ak o2.c1)]] (.leaf (⟨o2.x,o2.c1⟩:Pn) [0])),In (Aa c 1114112) fun o1=>((Ai c 1114112 o1)∧In (Bb o1.c1 [0,65,127,128,2047,2048,4095,55295,57344,65535,65536,1114111,o1.x]) fun o2=>((B9 o1.c1 [0,65,127,128,2047,2048,4095,55295,57344,65535,65536,1114111,o1.x] o2)∧((Aw o2.c1))∧(.v (vI o2.x):S)= .v (vI o2.x)∧([.cells (Ak o2.c1)]:List Blk)=[.cells (Ak o2.c1)])))) Q4 ?_
 refine⟨(An c 1114112 Q0),fun o1 ho_o1=>?_⟩
 obtain ⟨⟨hp_o1_0,hp_o1_1,hp_o1_2,hp_o1_3⟩,hf_o1⟩:=ho_o1
 refine⟨hf_o1,(C4 o1.c1 [0,65,127,128,2047,2048,4095,55295,57344,65535,65536,1114111,o1.x] Q0 Q6 Q6),fun o2 ho_o2=>?_⟩
 obtain ⟨⟨hp_o2_0,hp_o2_1⟩,hf_o2⟩:=ho_o2
 exact⟨hf_o2,Q0,rfl,rfl⟩
structure Po where
 t:List UInt8
 c1:Cur
def R8 (c:Cur) (n:Int) (o:Po):Prop:=Fun Tryz.prog 203 [vP 0,vI n] [.cells (Ak c)] (.v (vT o.t)) [.cells (Ak o.c1)]
def K9 (c:Cur) (n:Int) (o:Po):Prop:=((List.length (o.t:List UInt8)≤4*Int.toNat n)∧(Aw o.c1))∧R8 c n o
structure Mp where
 c:Cur
 s:List UInt8
 i:Nat
def Mq (n:Int):Fam:=⟨Mp,fun q1=>[(0,.v (vP 0)),(1,.v (vI n)),(5,.v (vT q1.s)),(6,.v (vI ((q1.i:Nat):Int)))],fun q1=>[.cells (Ak q1.c)],fun q1=>Aw q1.c∧(q1.i=0∨((q1.i:Nat):Int)≤n)∧List.length q1.s≤4*q1.i,fun q1=>Int.toNat n-q1.i⟩
theorem Aba (c:Cur) (n:Int) (hp1:Aw c) (hp2:n≤1000): ∃o:Po,K9 c n o:=by
 have hN:Bg=274877906944:=rfl
 refine Bw Tryz.func203 Q4 Q4 (w:=let z2:=Mq n;(.seg [.at 0,.keep [0,1,5,6],.sel [0]] (.loop z2 fun q1=> .br (.intro (R7 q1.c) fun o1=> .seg [.call [0] (.v (vI o1.x)) [.cells (Ak o1.c1)]] (.intro (Nw o1.x) fun o2=> .seg [.call [] (.v (vT o2.t)) [],.as 11 (.v (vI (((q1.i:Nat):Int)+1))),.at 0,.keep [0,1,5,6],.sel [0]] (.next))) (.leaf (⟨q1.s,q1.c⟩:Po) [0])),z2.Has [(0,.v (vP 0)),(1,.v (vI n)),(5,.v (vT [])),(6,.v (vI 0))] [.cells (Ak c)]∧∀q1,z2.inv q1→(let z1:=((q1.i:Nat):Int);((decide (z1<n))=true→In (R7 q1.c) fun o1=>((Wc q1.c o1)∧In (Nw o1.x) fun o2=>((Sx o1.x o2)∧(((List.length q1.s+List.length o2.t:Nat):Int)≤A8)∧((.v (vI (IntKind.i64.wrap (z1+1))):S)= .v (vI (z1+1)))∧z2.Nxt q1 [(0,.v (vP 0)),(1,.v (vI n)),(5,.v (vT (q1.s++o2.t))),(6,.v (vI (z1+1)))] [.cells (Ak o1.c1)])))∧((decide (z1<n))=false→((List.length (q1.s:List UInt8)≤4*Int.toNat n)∧(Aw q1.c))∧(.v (vT q1.s):S)= .v (vT q1.s)∧([.cells (Ak q1.c)]:List Blk)=[.cells (Ak q1.c)])))) Q4 ?_
 refine⟨Bk (j:=(⟨c,[],0⟩:Mp)) Q10 rfl (by dsimp only[Mq];exact⟨by assumption,.inl rfl,by simp⟩),fun (q1:Mp) hq_q1=>?_⟩
 have hi_q1:Aw q1.c∧(q1.i=0∨((q1.i:Nat):Int)≤n)∧List.length q1.s≤4*q1.i:=hq_q1
 obtain ⟨v1,v2,v3⟩:=hi_q1
 refine dsp (fun h1 p1=>?_) fun h1 p1=>?_
 refine⟨(Agv q1.c Q0),fun o1 ho_o1=>?_⟩
 obtain ⟨hp_o1,hf_o1⟩:=ho_o1
 refine⟨hf_o1,(Aci o1.x),fun o2 ho_o2=>?_⟩
 obtain ⟨hp_o2,hf_o2⟩:=ho_o2
 exact⟨hf_o2,(by simp only[A8];omega),(Ae Q2 Q2),Bd (j:=(⟨o1.c1,q1.s++o2.t,q1.i+1⟩:Mp)) Q10 rfl (by dsimp only[Mq];exact⟨by assumption,by omega,by simp;omega⟩) (by dsimp only[Mq];omega)⟩
 exact⟨⟨Q2,Q0⟩,rfl,rfl⟩
structure Gw where
 t:List UInt8
 c1:Cur
def R9 (c:Cur) (o:Gw):Prop:=Fun Tryz.prog 166 [vP 0] [.cells (Ak c)] (.v (vT o.t)) [.cells (Ak o.c1)]
def La (c:Cur) (o:Gw):Prop:=((List.length (o.t:List UInt8)≤16)∧(Aw o.c1))∧R9 c o
theorem Abb (c:Cur) (hp1:Aw c): ∃o:Gw,La c o:=by
 have hN:Bg=274877906944:=rfl
 refine Bw Tryz.func166 Q4 Q4 (w:=(.intro (Aa c 4) fun o1=> .seg [.call [0] (.v (vI o1.x)) [.cells (Ak o1.c1)]] (.intro (K9 o1.c1 o1.x) fun o2=>let z2:=((List.length o2.t:Nat):Int)+1;.seg [.call [0] (.v (vT o2.t)) [.cells (Ak o2.c1)]] (.intro (Aa o2.c1 4) fun o3=> .seg [.call [0] (.v (vI o3.x)) [.cells (Ak o3.c1)]] (.br (.intro (Jw o3.c1 o2.t) fun o4=> .seg [.call [0] (.v (vT o4.t)) [.cells (Ak o4.c1)]] (.leaf (⟨o4.t,o4.c1⟩:Gw) [0])) (.br (.seg [.as 21 (.v (vI z2))] (.intro (Aa o3.c1 z2) fun o4=> .seg [.call [0] (.v (vI o4.x)) [.cells (Ak o4.c1)]] (.leaf (⟨List.take (Int.toNat o4.x) o2.t,o4.c1⟩:Gw) [0]))) (.br (.seg [.ty .str,.pubS 28] (.intro (Gv o3.c1 [[128],[192,128],[224,159,191],[237,160,128],[240,143,191,191],[244,144,128,128],[245],[255],[226,130],[193,191]]) fun o4=> .seg [.call [0] (.v (vT o4.t)) [.cells (Ak o4.c1)]] (.leaf (⟨o2.t++o4.t,o4.c1⟩:Gw) [0]))) (.leaf (⟨o2.t,o3.c1⟩:Gw) [0])))))),In (Aa c 4) fun o1=>((Ai c 4 o1)∧In (K9 o1.c1 o1.x) fun o2=>(let z3:=((List.length o2.t:Nat):Int);(R8 o1.c1 o1.x o2)∧In (Aa o2.c1 4) fun o3=>((Ai o2.c1 4 o3)∧((decide (o3.x=0))=true→In (Jw o3.c1 o2.t) fun o4=>((Qf o3.c1 o2.t o4)∧((List.length (o4.t:List UInt8)≤16)∧(Aw o4.c1))∧(.v (vT o4.t):S)= .v (vT o4.t)∧([.cells (Ak o4.c1)]:List Blk)=[.cells (Ak o4.c1)]))∧((decide (o3.x=0))=false→((decide (o3.x=1))=true→((.v (vI (IntKind.i64.wrap (z3+1))):S)= .v (vI (z3+1)))∧In (Aa o3.c1 (z3+1)) fun o4=>(let z1:=List.take (Int.toNat o4.x) o2.t;(Ai o3.c1 (z3+1) o4)∧(o4.x≤z3)∧((0:Int)≤o4.x)∧((List.length (z1:List UInt8)≤16)∧(Aw o4.c1))∧(.v (vT z1):S)= .v (vT z1)∧([.cells (Ak o4.c1)]:List Blk)=[.cells (Ak o4.c1)]))∧((decide (o3.x=1))=false→((decide (o3.x=2))=true→In (Gv o3.c1 [[128],[192,128],[224,159,191],[237,160,128],[240,143,191,191],[244,144,128,128],[245],[255],[226,130],[193,191]]) fun o4=>((Pm o3.c1 [[128],[192,128],[224,159,191],[237,160,128],[240,143,191,191],[244,144,128,128],[245],[255],[226,130],[193,191]] o4)∧(((List.length o2.t+List.length o4.t:Nat):Int)≤A8)∧((List.length ((o2.t++o4.t):List UInt8)≤16)∧(Aw o4.c1))∧(.v (vT (o2.t++o4.t)):S)= .v (vT (o2.t++o4.t))∧([.cells (Ak o4.c1)]:List Blk)=[.cells (Ak o4.c1)]))∧((decide (o3.x=2))=false→((List.length (o2.t:List UInt8)≤16)∧(Aw o3.c1))∧(.v (vT o2.t):S)= .v (vT o2.t)∧([.cells (Ak o3.c1)]:List Blk)=[.cells (Ak o3.c1)])))))))) Q4 ?_
 refine⟨(An c 4 Q0),fun o1 ho_o1=>?_⟩
 obtain ⟨⟨hp_o1_0,hp_o1_1,hp_o1_2,hp_o1_3⟩,hf_o1⟩:=ho_o1
 refine⟨hf_o1,(Aba o1.c1 o1.x Q0 Q2),fun o2 ho_o2=>?_⟩
 obtain ⟨⟨hp_o2_0,hp_o2_1⟩,hf_o2⟩:=ho_o2
 refine⟨hf_o2,(An o2.c1 4 Q0),fun o3 ho_o3=>?_⟩
 obtain ⟨⟨hp_o3_0,hp_o3_1,hp_o3_2,hp_o3_3⟩,hf_o3⟩:=ho_o3
 refine⟨hf_o3,dsp (fun h1 p1=>?_) fun h1 p1=>?_⟩
 refine⟨(Yr o3.c1 o2.t Q0 Q2),fun o4 ho_o4=>?_⟩
 obtain ⟨⟨hp_o4_0,hp_o4_1⟩,hf_o4⟩:=ho_o4
 exact⟨hf_o4,⟨Q2,Q0⟩,rfl,rfl⟩
 refine dsp (fun h2 p2=>?_) fun h2 p2=>?_
 refine⟨(Ae Q2 Q2),(An o3.c1 (((List.length o2.t:Nat):Int)+1) Q0),fun o4 ho_o4=>?_⟩
 obtain ⟨⟨hp_o4_0,hp_o4_1,hp_o4_2,hp_o4_3⟩,hf_o4⟩:=ho_o4
 exact⟨hf_o4,Q2,Q2,⟨(by simp only[List.length_take];omega),Q0⟩,rfl,rfl⟩
 refine dsp (fun h3 p3=>?_) fun h3 p3=>?_
 refine⟨(Xf o3.c1 [[128],[192,128],[224,159,191],[237,160,128],[240,143,191,191],[244,144,128,128],[245],[255],[226,130],[193,191]] Q0 Q6 Q6),fun o4 ho_o4=>?_⟩
 obtain ⟨⟨hp_o4_0,hp_o4_1⟩,hf_o4⟩:=ho_o4
 exact⟨hf_o4,(by have:=Pj (n:=4) hp_o4_0 Q24;simp only[A8];omega),⟨(by have:=Pj (n:=4) hp_o4_0 Q24;simp;omega),Q0⟩,rfl,rfl⟩
 exact⟨⟨Q2,Q0⟩,rfl,rfl⟩
end Go.Proofs.YtcmnedgnppnhoaaGreat.Ax
