/- Drawn plans. Drawn numbers. Drawn texts. Drawn bytes of messages. Bent descriptions and plans. -/
import Derived.Test.YtijacopaadmncaaGreatKFnFeedCut6
set_option linter.unusedSimpArgs false
set_option linter.unusedVariables false
namespace Go.Proofs.YtijacopaadmncaaGreat.Ax
open Go.RowKit
structure M9 where
 l:List Shp
 c1:Cur
def V9 (c:Cur) (o:M9):Prop:=Fun Tryz.prog 114 [vP 0] [.cells (Bz c)] (.v (.agg [.own 1])) [.cells (Bz o.c1),.tree o.l]
def Rr (c:Cur) (o:M9):Prop:=((SchG o.l)∧(1≤List.length o.l)∧(List.length o.l≤3)∧(Av o.c1))∧V9 c o
theorem Agq (c:Cur) (hp1:Av c): ∃o:M9,Rr c o:=by
 have hN:Bb=274877906944:=rfl
 refine Br Tryz.func114 Q4 Q4 (w:=let z1:S:= .v (.agg [.own 1]);(.intro (Rq c) fun o1=> .seg [.call [0] z1 [.cells (Bz o1.c1),.tree o1.r.msgs]] (.intro (Rp o1.r) fun o2=> .seg [.call [] (.tup [.agg [.own 0],.agg [.int .i64 0,.int .i64 0,.int .i64 0]]) [.tree o2.l]] (.leaf (⟨o2.l,o1.c1⟩:M9) [0,3])),In (Rq c) fun o1=>((V8 c o1)∧In (Rp o1.r) fun o2=>((V7 o1.r o2)∧((SchG o2.l)∧(1≤List.length o2.l)∧(List.length o2.l≤3)∧(Av o1.c1))∧Lf z1 z1 [.cells (Bz o1.c1),.tree o2.l] [.cells (Bz o1.c1),.tree o2.l])))) Q4 ?_
 refine⟨(Agp c Q0),fun o1 ho_o1=>?_⟩
 obtain ⟨⟨hp_o1_0,hp_o1_1⟩,hf_o1⟩:=ho_o1
 refine⟨hf_o1,(Ago o1.r Q2),fun o2 ho_o2=>?_⟩
 obtain ⟨hp_o2,hf_o2⟩:=ho_o2
 exact⟨hf_o2,⟨Q2,(hp_o2.1.1),(hp_o2.1.2),Q0⟩,rfl,rfl⟩
structure Jp where
 x:Int
 c1:Cur
def Na (c:Cur) (l:List Int) (o:Jp):Prop:=Fun Tryz.prog 67 [vP 0,vO 1] [.cells (Bz c),.lst .int l] (.v (vI o.x)) [.cells (Bz o.c1),.lst .int l]
def Gx (c:Cur) (l:List Int) (o:Jp):Prop:=((o.x∈l)∧(Av o.c1))∧Na c l o
theorem Wa (c:Cur) (l:List Int) (hp1:Av c) (hp2:1≤List.length l) (hp3:List.length l≤1000): ∃o:Jp,Gx c l o:=by
 have hN:Bb=274877906944:=rfl
 refine Br Tryz.func67 Q4 Q4 (w:=let z1:=((List.length l:Nat):Int);(.intro (Aa c z1) fun o1=> .seg [.call [0] (.v (vI o1.x)) (Kc o1.c1)] (.intro (Sx (l[Int.toNat o1.x]?)) fun x1=> .seg [.el .int x1] (.leaf (⟨x1,o1.c1⟩:Jp) [0,1])),In (Aa c z1) fun o1=>((Ai c z1 o1)∧El (l[Int.toNat o1.x]?) fun x1=>((o1.x<z1)∧((0:Int)≤o1.x)∧(l[Int.toNat o1.x]? =some x1)∧((x1∈l)∧(Av o1.c1))∧Lf (.v (vI x1)) (.v (vI x1)) [.cells (Bz o1.c1),.lst .int l] [.cells (Bz o1.c1),.lst .int l])))) Q4 ?_
 refine⟨(Am c ((List.length l:Nat):Int) Q0),fun o1 ho_o1=>?_⟩
 obtain ⟨⟨hp_o1_0,hp_o1_1,hp_o1_2,hp_o1_3⟩,hf_o1⟩:=ho_o1
 refine⟨hf_o1,(Bh (l:=l) (i:=Int.toNat o1.x) Q2),fun x1 hx1=>?_⟩
 exact⟨Q2,Q2,hx1,⟨(List.mem_of_getElem? hx1),Q0⟩,rfl,rfl⟩
structure Nb where
 p:Pln
 c1:Cur
def Wb (c:Cur) (o:Nb):Prop:=Fun Tryz.prog 62 [vP 0] [.cells (Bz c)] (.v (.agg (Nw o.p))) [.cells (Bz o.c1)]
def Rs (c:Cur) (o:Nb):Prop:=((PlnG o.p)∧(Av o.c1))∧Wb c o
theorem Agr (c:Cur) (hp1:Av c): ∃o:Nb,Rs c o:=by
 have hN:Bb=274877906944:=rfl
 refine Br Tryz.func62 Q4 Q4 (w:=let z9:=([(2,.v (vP 1))]:List (Nat×S))=[(2,.v (vP 1))];(.intro (Rr c) fun o1=> .seg [.call [0] (.v (.agg [.own 1])) [.cells (Bz o1.c1),.tree o1.l]] (.intro (Aa o1.c1 ((List.length o1.l:Nat):Int)) fun o2=> .intro (Aa o2.c1 4) fun o3=>let z5:S:= .v (vI (1+o3.x));.intro (Gx o3.c1 [60,60,2000,200,5,0]) fun o4=>let z1:List Blk:=[.cells (Bz o4.c1),.lst .int [60,60,2000,200,5,0]];.seg [.tree (fr (.first 6 (.first 9 (.two 5 (.two 7 (.first 8 (.one 10 (.one 11 (.first 12 (.one 13 (.done)))))) 10 (.one 7 (.first 8 (.one 11 (.first 12 (.one 13 (.done))))))) 10 (.one 5 (.one 7 (.first 8 (.one 11 (.first 12 (.one 13 (.done)))))))))) 0 5) 13 [0],.call [0] (.v (vI o2.x)) (Kc o2.c1),.call [0] (.v (vI o3.x)) (Kc o3.c1),.as 14 z5,.ty .int,.call [0,4] (.v (vI o4.x)) z1,.at 0,.keep [2],.sel [0,1,2],.ty .int,.call [0] (.v (vI o3.x)) (Kc o3.c1),.as 14 z5,.call [0,4] (.v (vI o4.x)) z1,.at 0,.keep [2],.sel [0,1,2],.ty .int,.call [0] (.v (vI o2.x)) (Kc o2.c1),.call [0] (.v (vI o3.x)) (Kc o3.c1),.as 14 z5,.call [0,4] (.v (vI o4.x)) z1,.at 0,.keep [2],.sel [0,1,2],.at 0,.pub 1 0] (.leaf (⟨(⟨o1.l,o2.x,1+o3.x,o4.x⟩:Pln),o4.c1⟩:Nb) [0])),In (Rr c) fun o1=>(let z8:=((List.length o1.l:Nat):Int);(V9 c o1)∧In (Aa o1.c1 z8) fun o2=>(let z7:=Ai o1.c1 z8 o2;In (Aa o2.c1 4) fun o3=>(let z6:=Ai o2.c1 4 o3;In (Gx o3.c1 [60,60,2000,200,5,0]) fun o4=>(let z2:List Blk:=[.cells (Bz o4.c1),.cells [.own 2,.int .i64 o2.x,.int .i64 (1+o3.x),.int .i64 o4.x],.tree o1.l];let z3:=Na o3.c1 [60,60,2000,200,5,0] o4;let z4:S:= .v (.agg [.seq .shp o1.l,.int .i64 o2.x,.int .i64 (1+o3.x),.int .i64 o4.x]);z7∧z6∧(wI (1+o3.x))∧z3∧z6∧(wI (1+o3.x))∧z3∧((z2:List Blk)=z2)∧z9∧z7∧z6∧(wI (1+o3.x))∧z3∧((z2:List Blk)=z2)∧z9∧((PlnG (⟨o1.l,o2.x,1+o3.x,o4.x⟩:Pln))∧(Av o4.c1))∧Lf z4 z4 (Kc o4.c1) (Kc o4.c1))))))) Q4 ?_
 refine⟨(Agq c Q0),fun o1 ho_o1=>?_⟩
 obtain ⟨⟨hp_o1_0,hp_o1_1,hp_o1_2,hp_o1_3⟩,hf_o1⟩:=ho_o1
 refine⟨hf_o1,(Am o1.c1 ((List.length o1.l:Nat):Int) Q0),fun o2 ho_o2=>?_⟩
 obtain ⟨⟨hp_o2_0,hp_o2_1,hp_o2_2,hp_o2_3⟩,hf_o2⟩:=ho_o2
 refine⟨(Am o2.c1 4 Q0),fun o3 ho_o3=>?_⟩
 obtain ⟨⟨hp_o3_0,hp_o3_1,hp_o3_2,hp_o3_3⟩,hf_o3⟩:=ho_o3
 refine⟨(Wa o3.c1 [60,60,2000,200,5,0] Q0 Q5 Q5),fun o4 ho_o4=>?_⟩
 obtain ⟨⟨hp_o4_0,hp_o4_1⟩,hf_o4⟩:=ho_o4
 exact⟨hf_o2,hf_o3,(Ac Q2 Q2),hf_o4,hf_o3,(Ac Q2 Q2),hf_o4,rfl,rfl,hf_o2,hf_o3,(Ac Q2 Q2),hf_o4,rfl,rfl,⟨(⟨by assumption,by dsimp only;have:=hp_o1_0.1;omega,by dsimp only;omega,by have hpk:=hp_o4_0;simp at hpk;dsimp only;omega⟩),Q0⟩,rfl,rfl⟩
theorem Ags (x:Int):0≤IntKind.u64.wrap x∧IntKind.u64.wrap x≤18446744073709551615:=by
 rw[IntKind.wrap_u64];omega
theorem Aif {l:List Int} (hl:(l.all fun x=>decide (0≤x)&&decide (x≤18446744073709551615))=true) {i:Nat} {x:Int} (h:l[i]? =some x):0≤x∧x≤18446744073709551615:=by
 have:=List.all_eq_true.1 hl x (List.mem_of_getElem? h)
 simpa using this
theorem Wc {u:Int} (h:0≤u∧u≤18446744073709551615):1≤(Dy u).length∧(Dy u).length≤10:=by
 have:=Ab1 (u:=u) (by omega)
 unfold Kr at this
 omega
theorem Aig (u:Int) (hp1:(0:Int)≤u∧u≤18446744073709551615):Fun Tryz.prog 231 [.c (.int .u64 u)] [] (.v (vI (Kr u))) []:=by
 have hN:Bb=274877906944:=rfl
 have hpl:=Wc hp1
 refine Ap Tryz.func231 Q4 Q4 (w:=(.seg [.call [] (.v (vT (Dy u))) []] (.leaf () []),(Fp 107 [.c (.int .u64 u)] [] (.v (vT (Dy u))) [])∧Lf (.v (vI ((List.length (Dy u):Nat):Int))) (.v (vI (Kr u))) [] [])) Q4 ?_
 exact⟨(Um _ Q2),(congrArg S.v (congrArg V.c (congrArg (C.int .i64) (by rfl)))),rfl⟩
structure L6 where
 t:List UInt8
def Xs (u:Int) (n:Int) (o:L6):Prop:=Fun Tryz.prog 230 [.c (.int .u64 u),vI n] [] (.v (vT o.t)) []
def Tf (u:Int) (n:Int) (o:L6):Prop:=((List.length (o.t:List UInt8)≤10))∧Xs u n o
structure Nc where
 out:List Int
def Nd (n:Int):Fam:=⟨Nc,fun q1=>[(1,.v (vI n)),(5,.v (vO 0))],fun q1=>[.lst .u8 q1.out],fun q1=>1≤List.length q1.out∧List.length q1.out≤10,fun q1=>10-List.length q1.out⟩
theorem Aih (u:Int) (n:Int) (hp1:(0:Int)≤u∧u≤18446744073709551615): ∃o:L6,Tf u n o:=by
 have hN:Bb=274877906944:=rfl
 have hpl:=Wc hp1
 refine Br Tryz.func230 Q4 Q4 (w:=let z7:=List.map (fun b=>(UInt8.toNat b:Int)) (Dy u);let z6:=((List.length z7:Nat):Int);let z8:=Nd n;(.seg [.call [] (.v (vT (Dy u))) [],.call [] (.v (vB (Ak n z6 10))) []] (.br (.leaf (⟨[]⟩:L6) []) (.seg [.at 0,.keep [1,5],.sel [0]] (.loop z8 fun q1=>let z3:=((List.length q1.out:Nat):Int)-1;.br (.seg [.as 21 (.v (vI z3)),.as 25 (.v (vI z3))] (.intro (Sx (q1.out[Int.toNat z3]?)) fun x1=> .seg [.el .u8 x1,.el .u8 x1,.ty .u8,.ty .u8,.at 0,.keep [1,5],.sel [2]] (.next))) (.leaf (⟨List.map A9 q1.out⟩:L6) [])))),(Fp 107 [.c (.int .u64 u)] [] (.v (vT (Dy u))) [])∧(List.length (Dy u)≤Bb)∧(Fp 71 [vI n,vI z6,vI 10] [] (.v (vB (Ak n z6 10))) [])∧Bc (!(Ak n z6 10)) (((List.length ([]:List UInt8)≤10))∧Lf (.v (vT [])) (.v (vT [])) [] []) (z8.Has [(1,.v (vI n)),(5,.v (vO 0))] [.lst .u8 z7]∧∀q1,z8.inv q1→(let z4:=((List.length q1.out:Nat):Int);let z5:=List.map A9 q1.out;Bc (decide (z4<n)) ((wI (z4-1))∧(wI (z4-1))∧El (q1.out[Int.toNat (z4-1)]?) fun x1=>(let z1:=List.set q1.out (Int.toNat (z4-1)) (IntKind.u8.wrap (x1+128));let z2:=q1.out[Int.toNat (z4-1)]? =some x1;(z4-1<z4)∧((0:Int)≤z4-1)∧z2∧(z4-1<z4)∧((0:Int)≤z4-1)∧z2∧(List.length z1+List.length [0]≤Bb)∧z8.Nxt q1 [(1,.v (vI n)),(5,.v (vO 0))] [.lst .u8 (z1++[0])])) (((List.length (z5:List UInt8)≤10))∧Lf (.v (vT z5)) (.v (vT z5)) [] []))))) Q4 ?_
 refine⟨(Um _ Q2),Q2,(Be _ _ _),fun h1=>have q1:=Ao h1;have p1:=Aw q1;?_,fun h1=>have q1:=An h1;have p1:=Ar q1;?_⟩
 exact⟨Q5,rfl,rfl⟩
 refine⟨Bf (j:=(⟨List.map (fun b=>(UInt8.toNat b:Int)) (Dy u)⟩:Nc)) rfl rfl (by dsimp only[Nd];exact⟨by simp;omega,by simp;omega⟩),fun (q1:Nc) hq_q1=>?_⟩
 have hi_q1:1≤List.length q1.out∧List.length q1.out≤10:=hq_q1
 obtain ⟨v1,v2⟩:=hi_q1
 refine dsp (fun h2 p2=>?_) fun h2 p2=>?_
 refine⟨(Ac Q2 Q2),(Ac Q2 Q2),(Bh (l:=q1.out) (i:=Int.toNat (((List.length q1.out:Nat):Int)-1)) Q2),fun x1 hx1=>?_⟩
 exact⟨Q2,Q2,hx1,Q2,Q2,hx1,Q77,A3 (j:=(⟨(List.set q1.out (Int.toNat (((List.length q1.out:Nat):Int)-1)) (IntKind.u8.wrap (x1+128)))++[0]⟩:Nc)) rfl rfl (by dsimp only[Nd];exact⟨by simp,by simp;omega⟩) (by dsimp only[Nd];simp;omega)⟩
 exact⟨Q18,rfl,rfl⟩
structure Jw where
 x:Int
 c1:Cur
def D2 (c:Cur) (o:Jw):Prop:=Fun Tryz.prog 171 [vP 0] [.cells (Bz c)] (.v (.c (.int .u64 o.x))) [.cells (Bz o.c1)]
def B7 (c:Cur) (o:Jw):Prop:=(((0:Int)≤o.x∧o.x≤18446744073709551615)∧(Av o.c1))∧D2 c o
structure Nf where
 c:Cur
 u:Int
 i:Nat
def Ng  :Fam:=⟨Nf,fun q1=>[(0,.v (vP 0)),(3,.v (.c (.int .u64 q1.u))),(4,.v (vI ((q1.i:Nat):Int)))],fun q1=>[.cells (Bz q1.c)],fun q1=>Av q1.c∧q1.i≤8∧((0:Int)≤q1.u∧q1.u≤18446744073709551615),fun q1=>8-q1.i⟩
theorem Gy (c:Cur) (hp1:Av c): ∃o:Jw,B7 c o:=by
 have hN:Bb=274877906944:=rfl
 refine Br Tryz.func171 Q4 Q4 (w:=let z2:=Ng;(.intro (Aa c 4) fun o1=> .seg [.call [0] (.v (vI o1.x)) (Kc o1.c1)] (.br (.seg [.ty .u64] (.intro (Aa o1.c1 12) fun o2=> .seg [.call [0] (.v (vI o2.x)) (Kc o2.c1)] (.intro (Sx ([0,1,127,128,16383,16384,2147483647,4294967295,4294967296,9223372036854775807,9223372036854775808,18446744073709551615][Int.toNat o2.x]?)) fun x1=> .seg [.el .u64 x1] (.leaf (⟨x1,o2.c1⟩:Jw) [0])))) (.br (.seg [.at 0,.keep [0,3,4],.sel [0]] (.loop z2 fun q1=> .br (.intro (D1 q1.c) fun o2=> .seg [.call [0] (.v (vI o2.x)) (Kc o2.c1),.as 24 (.v (.c (.int .u64 o2.x))),.as 19 (.v (vI (((q1.i:Nat):Int)+1))),.at 0,.keep [0,3,4],.sel [0]] (.next)) (.leaf (⟨q1.u,q1.c⟩:Jw) [0]))) (.intro (Aa o1.c1 300) fun o2=> .seg [.call [0] (.v (vI o2.x)) (Kc o2.c1),.as 29 (.v (.c (.int .u64 o2.x)))] (.leaf (⟨o2.x,o2.c1⟩:Jw) [0])))),In (Aa c 4) fun o1=>((Ai c 4 o1)∧Bc (decide (o1.x=0)) (In (Aa o1.c1 12) fun o2=>((Ai o1.c1 12 o2)∧El ([0,1,127,128,16383,16384,2147483647,4294967295,4294967296,9223372036854775807,9223372036854775808,18446744073709551615][Int.toNat o2.x]?) fun x1=>((o2.x<((List.length [0,1,127,128,16383,16384,2147483647,4294967295,4294967296,9223372036854775807,9223372036854775808,18446744073709551615]:Nat):Int))∧((0:Int)≤o2.x)∧([0,1,127,128,16383,16384,2147483647,4294967295,4294967296,9223372036854775807,9223372036854775808,18446744073709551615][Int.toNat o2.x]? =some x1)∧(((0:Int)≤x1∧x1≤18446744073709551615)∧(Av o2.c1))∧Lf (.v (.c (.int .u64 x1))) (.v (.c (.int .u64 x1))) (Kc o2.c1) (Kc o2.c1)))) (Bc (decide (o1.x=1)) (z2.Has [(0,.v (vP 0)),(3,.v (.c (.int .u64 0))),(4,.v (vI 0))] (Kc o1.c1)∧∀q1,z2.inv q1→(let z1:=((q1.i:Nat):Int);Bc (decide (z1<8)) (In (D1 q1.c) fun o2=>((Gc q1.c o2)∧(wU (o2.x))∧(wI (z1+1))∧z2.Nxt q1 [(0,.v (vP 0)),(3,.v (.c (.int .u64 (IntKind.u64.wrap ((IntKind.u64.wrap (256*q1.u))+o2.x))))),(4,.v (vI (z1+1)))] (Kc o2.c1))) ((((0:Int)≤q1.u∧q1.u≤18446744073709551615)∧(Av q1.c))∧Lf (.v (.c (.int .u64 q1.u))) (.v (.c (.int .u64 q1.u))) (Kc q1.c) (Kc q1.c)))) (In (Aa o1.c1 300) fun o2=>((Ai o1.c1 300 o2)∧(wU (o2.x))∧(((0:Int)≤o2.x∧o2.x≤18446744073709551615)∧(Av o2.c1))∧Lf (.v (.c (.int .u64 o2.x))) (.v (.c (.int .u64 o2.x))) (Kc o2.c1) (Kc o2.c1))))))) Q4 ?_
 refine⟨(Am c 4 Q0),fun o1 ho_o1=>?_⟩
 obtain ⟨⟨hp_o1_0,hp_o1_1,hp_o1_2,hp_o1_3⟩,hf_o1⟩:=ho_o1
 refine⟨hf_o1,dsp (fun h1 p1=>?_) fun h1 p1=>?_⟩
 refine⟨(Am o1.c1 12 Q0),fun o2 ho_o2=>?_⟩
 obtain ⟨⟨hp_o2_0,hp_o2_1,hp_o2_2,hp_o2_3⟩,hf_o2⟩:=ho_o2
 refine⟨hf_o2,(Bh (l:=[0,1,127,128,16383,16384,2147483647,4294967295,4294967296,9223372036854775807,9223372036854775808,18446744073709551615]) (i:=Int.toNat o2.x) Q5),fun x1 hx1=>?_⟩
 refine⟨Q5,Q2,?_⟩
 have hwx:=Aif (by decide) hx1
 exact⟨hx1,⟨Q2,Q0⟩,rfl,rfl⟩
 refine dsp (fun h2 p2=>?_) fun h2 p2=>?_
 refine⟨Bf (j:=(⟨o1.c1,0,0⟩:Nf)) Q9 rfl (by dsimp only[Ng];exact⟨by assumption,by omega,by omega⟩),fun (q1:Nf) hq_q1=>?_⟩
 have hi_q1:Av q1.c∧q1.i≤8∧((0:Int)≤q1.u∧q1.u≤18446744073709551615):=hq_q1
 obtain ⟨v1,v2,v3⟩:=hi_q1
 refine dsp (fun h3 p3=>?_) fun h3 p3=>?_
 refine⟨(M3 q1.c Q0),fun o2 ho_o2=>?_⟩
 obtain ⟨⟨hp_o2_0,hp_o2_1⟩,hf_o2⟩:=ho_o2
 exact⟨hf_o2,(Bv Q2 Q2),(Ac Q2 Q2),A3 (j:=(⟨o2.c1,IntKind.u64.wrap ((IntKind.u64.wrap (256*q1.u))+o2.x),q1.i+1⟩:Nf)) Q9 rfl (by dsimp only[Ng];exact⟨by assumption,by omega,Ags _⟩) (by dsimp only[Ng];omega)⟩
 exact⟨⟨Q2,Q0⟩,rfl,rfl⟩
 refine⟨(Am o1.c1 300 Q0),fun o2 ho_o2=>?_⟩
 obtain ⟨⟨hp_o2_0,hp_o2_1,hp_o2_2,hp_o2_3⟩,hf_o2⟩:=ho_o2
 exact⟨hf_o2,(Bv Q2 Q2),⟨Q2,Q0⟩,rfl,rfl⟩
structure L7 where
 t:List UInt8
 c1:Cur
def Au (c:Cur) (u:Int) (o:L7):Prop:=Fun Tryz.prog 170 [vP 0,.c (.int .u64 u)] [.cells (Bz c)] (.v (vT o.t)) [.cells (Bz o.c1)]
def Af (c:Cur) (u:Int) (o:L7):Prop:=((List.length (o.t:List UInt8)≤10)∧(Av o.c1))∧Au c u o
theorem A7 (c:Cur) (u:Int) (hp1:Av c) (hp2:(0:Int)≤u∧u≤18446744073709551615): ∃o:L7,Af c u o:=by
 have hN:Bb=274877906944:=rfl
 have hpl:=Wc hp2
 have hvl:Kr u=(((Dy u).length:Nat):Int):=rfl
 refine Br Tryz.func170 Q4 Q4 (w:=let z3:S:= .v (vT (Dy u));let z4:=List.length ((Dy u):List UInt8)≤10;(.intro (Aq c 4) fun o1=> .seg [.call [0] (.v (vB o1.p)) (Kc o1.c1)] (.br (.seg [.call [] (.v (vI (Kr u))) []] (.intro (Aa o1.c1 3) fun o2=> .seg [.call [0] (.v (vI o2.x)) (Kc o2.c1),.as 13 (.v (vI ((Kr u)+o2.x)))] (.intro (Tf u ((Kr u)+o2.x)) fun o3=> .seg [.call [] (.v (vT o3.t)) []] (.br (.leaf (⟨o3.t,o2.c1⟩:L7) [0]) (.seg [.call [] z3 []] (.leaf (⟨Dy u,o2.c1⟩:L7) [0])))))) (.seg [.call [] z3 []] (.leaf (⟨Dy u,o1.c1⟩:L7) [0]))),In (Aq c 4) fun o1=>((Bg c 4 o1)∧Bc o1.p ((Fp 231 [.c (.int .u64 u)] [] (.v (vI (Kr u))) [])∧In (Aa o1.c1 3) fun o2=>(let z1:List Blk:=(Kc o2.c1);let z2:=(Kr u)+o2.x;(Ai o1.c1 3 o2)∧(wI z2)∧In (Tf u z2) fun o3=>((Xs u z2 o3)∧Bc (!decide (o3.t=[])) (((List.length (o3.t:List UInt8)≤10)∧(Av o2.c1))∧Lf (.v (vT o3.t)) (.v (vT o3.t)) z1 z1) ((Fp 107 [.c (.int .u64 u)] [] z3 [])∧(z4∧(Av o2.c1))∧Lf z3 z3 z1 z1)))) ((Fp 107 [.c (.int .u64 u)] [] z3 [])∧(z4∧(Av o1.c1))∧Lf z3 z3 (Kc o1.c1) (Kc o1.c1))))) Q4 ?_
 refine⟨(By c 4 Q0),fun o1 ho_o1=>?_⟩
 obtain ⟨hp_o1,hf_o1⟩:=ho_o1
 refine⟨hf_o1,fun h1=>?_,fun h1=>?_⟩
 refine⟨(Aig _ Q2),(Am o1.c1 3 Q0),fun o2 ho_o2=>?_⟩
 obtain ⟨⟨hp_o2_0,hp_o2_1,hp_o2_2,hp_o2_3⟩,hf_o2⟩:=ho_o2
 refine⟨hf_o2,(Ac Q2 Q2),(Aih u ((Kr u)+o2.x) Q2),fun o3 ho_o3=>?_⟩
 obtain ⟨hp_o3,hf_o3⟩:=ho_o3
 refine⟨hf_o3,fun h2=>have q2:=Ao h2;have p2:=of_decide_eq_false q2;?_,fun h2=>have q2:=An h2;have p2:=of_decide_eq_true q2;?_⟩
 exact⟨⟨Q2,Q0⟩,rfl,rfl⟩
 exact⟨(Um _ Q2),⟨Q2,Q0⟩,rfl,rfl⟩
 exact⟨(Um _ Q2),⟨Q2,Q0⟩,rfl,rfl⟩
structure Hv where
 x:Int
 c1:Cur
def T4 (c:Cur) (o:Hv):Prop:=Fun Tryz.prog 183 [vP 0] [.cells (Bz c)] (.v (vI o.x)) [.cells (Bz o.c1)]
def Pq (c:Cur) (o:Hv):Prop:=((Av o.c1))∧T4 c o
theorem Adv (c:Cur) (hp1:Av c): ∃o:Hv,Pq c o:=by
 have hN:Bb=274877906944:=rfl
 refine Br Tryz.func183 Q4 Q4 (w:=(.intro (Aq c 4) fun o1=> .seg [.call [0] (.v (vB o1.p)) (Kc o1.c1)] (.br (.seg [.ty .int,.pubS 6] (.intro (A4 o1.c1 [0,1,(-1),18999,19000,19999,20000,536870911,536870912,9223372036854775807]) fun o2=> .seg [.call [0] (.v (vI o2.x)) (Kc o2.c1)] (.leaf (⟨o2.x,o2.c1⟩:Hv) [0]))) (.intro (Aa o1.c1 20) fun o2=> .seg [.call [0] (.v (vI o2.x)) (Kc o2.c1),.as 10 (.v (vI (1+o2.x)))] (.leaf (⟨1+o2.x,o2.c1⟩:Hv) [0]))),In (Aq c 4) fun o1=>((Bg c 4 o1)∧Bc o1.p (In (A4 o1.c1 [0,1,(-1),18999,19000,19999,20000,536870911,536870912,9223372036854775807]) fun o2=>((B5 o1.c1 [0,1,(-1),18999,19000,19999,20000,536870911,536870912,9223372036854775807] o2)∧((Av o2.c1))∧Lf (.v (vI o2.x)) (.v (vI o2.x)) (Kc o2.c1) (Kc o2.c1))) (In (Aa o1.c1 20) fun o2=>((Ai o1.c1 20 o2)∧(wI (1+o2.x))∧((Av o2.c1))∧Lf (.v (vI (1+o2.x))) (.v (vI (1+o2.x))) (Kc o2.c1) (Kc o2.c1)))))) Q4 ?_
 refine⟨(By c 4 Q0),fun o1 ho_o1=>?_⟩
 obtain ⟨hp_o1,hf_o1⟩:=ho_o1
 refine⟨hf_o1,fun h1=>?_,fun h1=>?_⟩
 refine⟨(Cv o1.c1 [0,1,(-1),18999,19000,19999,20000,536870911,536870912,9223372036854775807] Q0 Q5 Q5),fun o2 ho_o2=>?_⟩
 obtain ⟨⟨hp_o2_0,hp_o2_1⟩,hf_o2⟩:=ho_o2
 exact⟨hf_o2,Q0,rfl,rfl⟩
 refine⟨(Am o1.c1 20 Q0),fun o2 ho_o2=>?_⟩
 obtain ⟨⟨hp_o2_0,hp_o2_1,hp_o2_2,hp_o2_3⟩,hf_o2⟩:=ho_o2
 exact⟨hf_o2,(Ac Q2 Q2),Q0,rfl,rfl⟩
theorem Qj {t:List UInt8} {l:List (List UInt8)} {n:Nat} (h:t∈l) (hl:(l.all fun x=>decide (x.length≤n))=true):t.length≤n:=by
 have:=List.all_eq_true.1 hl t h
 simpa using this
structure Qk where
 t:List UInt8
 c1:Cur
def Qm (c:Cur) (l:List (List UInt8)) (o:Qk):Prop:=Fun Tryz.prog 240 [vP 0,.c (.seq .str l)] [.cells (Bz c)] (.v (vT o.t)) [.cells (Bz o.c1)]
def Hg (c:Cur) (l:List (List UInt8)) (o:Qk):Prop:=((o.t∈l)∧(Av o.c1))∧Qm c l o
theorem Yr (c:Cur) (l:List (List UInt8)) (hp1:Av c) (hp2:1≤List.length l) (hp3:List.length l≤1000): ∃o:Qk,Hg c l o:=by
 have hN:Bb=274877906944:=rfl
 refine Br Tryz.func240 Q4 Q4 (w:=let z1:=((List.length l:Nat):Int);(.intro (Aa c z1) fun o1=> .seg [.call [0] (.v (vI o1.x)) (Kc o1.c1)] (.intro (Sx (l[Int.toNat o1.x]?)) fun x1=> .seg [.el .str x1] (.leaf (⟨x1,o1.c1⟩:Qk) [0])),In (Aa c z1) fun o1=>((Ai c z1 o1)∧El (l[Int.toNat o1.x]?) fun x1=>((l[Int.toNat o1.x]? =some x1)∧((0:Int)≤o1.x)∧((x1∈l)∧(Av o1.c1))∧Lf (.v (vT x1)) (.v (vT x1)) (Kc o1.c1) (Kc o1.c1))))) Q4 ?_
 refine⟨(Am c ((List.length l:Nat):Int) Q0),fun o1 ho_o1=>?_⟩
 obtain ⟨⟨hp_o1_0,hp_o1_1,hp_o1_2,hp_o1_3⟩,hf_o1⟩:=ho_o1
 refine⟨hf_o1,(Bh (l:=l) (i:=Int.toNat o1.x) Q2),fun x1 hx1=>?_⟩
 exact⟨hx1,Q2,⟨(List.mem_of_getElem? hx1),Q0⟩,rfl,rfl⟩
structure Kf where
 t:List UInt8
 c1:Cur
def Rt (c:Cur) (s:List UInt8) (o:Kf):Prop:=Fun Tryz.prog 118 [vP 0,vT s] [.cells (Bz c)] (.v (vT o.t)) [.cells (Bz o.c1)]
def Kg (c:Cur) (s:List UInt8) (o:Kf):Prop:=((List.length (o.t:List UInt8)≤List.length s+2)∧(Av o.c1))∧Rt c s o
theorem Z7 (c:Cur) (s:List UInt8) (hp1:Av c) (hp2:List.length s≤1000000): ∃o:Kf,Kg c s o:=by
 have hN:Bb=274877906944:=rfl
 have hml:List.length (List.map (fun b=>(UInt8.toNat b:Int)) s)=List.length s:=by simp
 refine Br Tryz.func118 Q4 Q4 (w:=let z6:=List.map (fun b=>(UInt8.toNat b:Int)) s;let z7:=((List.length z6:Nat):Int);(.br (.intro (Bj c 2) fun o1=> .seg [.call [0] (.v (vO 1)) [.cells (Bz o1.c1),.lst .u8 o1.l]] (.leaf (⟨List.map A9 o1.l,o1.c1⟩:Kf) [0])) (.intro (Aa c z7) fun o1=> .seg [.call [0] (.v (vI o1.x)) (Kc o1.c1)] (.intro (Sx (z6[Int.toNat o1.x]?)) fun x1=> .intro (Aa o1.c1 255) fun o2=> .seg [.ord (os 13 [7,12]) [0],.el .u8 x1,.call [0] (.v (vI o2.x)) (Kc o2.c1),.as 26 (.v (vI (1+o2.x))),.as 27 (.v (.c (.int .u8 (1+o2.x)))),.el .u8 x1] (.leaf (⟨List.map A9 (List.set z6 (Int.toNat o1.x) (IntKind.u8.wrap (((BitVec.ofInt 8 x1 ^^^ BitVec.ofInt 8 (1+o2.x)).toNat:Nat)))),o2.c1⟩:Kf) [0]))),Bc (decide (s=[])) (In (Bj c 2) fun o1=>(let z1:=List.map A9 o1.l;(Cp c 2 o1)∧((List.length (z1:List UInt8)≤List.length s+2)∧(Av o1.c1))∧Lf (.v (vT z1)) (.v (vT z1)) (Kc o1.c1) (Kc o1.c1))) (In (Aa c z7) fun o1=>(let z4:=o1.x<z7;let z5:=(0:Int)≤o1.x;(List.length s≤Bb)∧(Ai c z7 o1)∧El (z6[Int.toNat o1.x]?) fun x1=>(let z3:=z6[Int.toNat o1.x]? =some x1;In (Aa o1.c1 255) fun o2=>(let z2:=List.map A9 (List.set z6 (Int.toNat o1.x) (IntKind.u8.wrap (((BitVec.ofInt 8 x1 ^^^ BitVec.ofInt 8 (1+o2.x)).toNat:Nat))));z4∧z5∧z4∧z5∧z3∧z3∧(Ai o1.c1 255 o2)∧(wI (1+o2.x))∧((.v (.c (.int .u8 (IntKind.u8.wrap (1+o2.x)))):S)= .v (.c (.int .u8 (1+o2.x))))∧z4∧z5∧z4∧z5∧z3∧((List.length (z2:List UInt8)≤List.length s+2)∧(Av o2.c1))∧Lf (.v (vT z2)) (.v (vT z2)) (Kc o2.c1) (Kc o2.c1))))))) Q4 ?_
 refine dsp (fun h1 p1=>?_) fun h1 p1=>?_
 refine⟨(Dv c 2 Q0 Q2),fun o1 ho_o1=>?_⟩
 obtain ⟨⟨hp_o1_0,hp_o1_1⟩,hf_o1⟩:=ho_o1
 exact⟨hf_o1,⟨Q18,Q0⟩,rfl,rfl⟩
 have hne:1≤List.length s:=List.length_pos_iff.2 (by simpa using p1)
 refine⟨(Am c ((List.length (List.map (fun b=>(UInt8.toNat b:Int)) s):Nat):Int) Q0),fun o1 ho_o1=>?_⟩
 refine⟨Q2,?_⟩
 obtain ⟨⟨hp_o1_0,hp_o1_1,hp_o1_2,hp_o1_3⟩,hf_o1⟩:=ho_o1
 refine⟨hf_o1,(Bh (l:=List.map (fun b=>(UInt8.toNat b:Int)) s) (i:=Int.toNat o1.x) Q18),fun x1 hx1=>?_⟩
 refine⟨(Am o1.c1 255 Q0),fun o2 ho_o2=>?_⟩
 obtain ⟨⟨hp_o2_0,hp_o2_1,hp_o2_2,hp_o2_3⟩,hf_o2⟩:=ho_o2
 exact⟨Q18,Q2,Q18,Q2,hx1,hx1,hf_o2,(Ac Q2 Q2),(Lr Q2 Q2),Q18,Q2,Q18,Q2,hx1,⟨(by simp only[List.length_set,List.length_map];omega),Q0⟩,rfl,rfl⟩
structure D8 where
 t:List UInt8
def T5 (n:Int) (o:D8):Prop:=Fun Tryz.prog 238 [vI n] [] (.v (vT o.t)) []
def Pr (n:Int) (o:D8):Prop:=((List.length (o.t:List UInt8)≤4))∧T5 n o
theorem Adw (n:Int): ∃o:D8,Pr n o:=by
 have hN:Bb=274877906944:=rfl
 have t64:0≤n→Int.tdiv n 64=n / 64:=fun h=>Int.tdiv_eq_ediv_of_nonneg h
 have t4096:0≤n→Int.tdiv n 4096=n / 4096:=fun h=>Int.tdiv_eq_ediv_of_nonneg h
 have t262144:0≤n→Int.tdiv n 262144=n / 262144:=fun h=>Int.tdiv_eq_ediv_of_nonneg h
 refine Br Tryz.func238 Q4 Q4 (w:=let z2:=Int.tmod n 64;let z3:=Int.tdiv n 4096;let z4:=Int.tdiv n 64;let z1:=Int.tmod z4 64;let z7:=Int.tdiv n 262144;let z5:=List.map A9 [240+z7,128+(Int.tmod z3 64),128+z1,128+z2];let z8:=(64:Int)≠0;let z9:=List.map A9 [224+z3,128+z1,128+z2];let z10:=128+(Int.tmod z3 64);let z12:=((List.length ([]:List UInt8)≤4))∧Lf (.v (vT [])) (.v (vT [])) [] [];let z13:=128+z2;let z6:=(.v (.c (.int .u8 (IntKind.u8.wrap z13))):S)= .v (.c (.int .u8 z13));let z14:=List.map A9 [192+z4,128+z2];let z15:=128+z1;let z11:=(.v (.c (.int .u8 (IntKind.u8.wrap z15))):S)= .v (.c (.int .u8 z15));let z16:S:= .v (.c (.int .u8 z13));let z17:=Ak n 55296 57343;let z18:=List.map A9 [n];let z19:=Ak n 0 1114111;(.seg [.call [] (.v (vB z19)) []] (.br (.leaf (⟨[]⟩:D8) []) (.seg [.call [] (.v (vB z17)) []] (.br (.leaf (⟨[]⟩:D8) []) (.br (.seg [.as 15 (.v (.c (.int .u8 n))),.ty .u8] (.leaf (⟨List.map A9 [n]⟩:D8) [])) (.br (.seg [.as 22 (.v (vI z4)),.as 23 (.v (vI (192+z4))),.as 24 (.v (.c (.int .u8 (192+z4)))),.as 27 (.v (vI z13)),.as 28 z16,.ty .u8] (.leaf (⟨List.map A9 [192+z4,128+z2]⟩:D8) [])) (.br (.seg [.as 35 (.v (vI z3)),.as 36 (.v (vI (224+z3))),.as 37 (.v (.c (.int .u8 (224+z3)))),.as 39 (.v (vI z4)),.as 41 (.v (vI z15)),.as 42 (.v (.c (.int .u8 z15))),.as 45 (.v (vI z13)),.as 46 z16,.ty .u8] (.leaf (⟨List.map A9 [224+z3,128+z1,128+z2]⟩:D8) [])) (.seg [.as 50 (.v (vI z7)),.as 51 (.v (vI (240+z7))),.as 52 (.v (.c (.int .u8 (240+z7)))),.as 54 (.v (vI z3)),.as 56 (.v (vI z10)),.as 57 (.v (.c (.int .u8 z10))),.as 59 (.v (vI z4)),.as 61 (.v (vI z15)),.as 62 (.v (.c (.int .u8 z15))),.as 65 (.v (vI z13)),.as 66 z16,.ty .u8] (.leaf (⟨List.map A9 [240+z7,128+(Int.tmod z3 64),128+z1,128+z2]⟩:D8) [])))))))),(Fp 71 [vI n,vI 0,vI 1114111] [] (.v (vB z19)) [])∧Bc (!z19) z12 ((Fp 71 [vI n,vI 55296,vI 57343] [] (.v (vB z17)) [])∧Bc z17 z12 (Bc (decide (n<128)) (((.v (.c (.int .u8 (IntKind.u8.wrap (n)))):S)= .v (.c (.int .u8 n)))∧((List.length (z18:List UInt8)≤4))∧Lf (.v (vT z18)) (.v (vT z18)) [] []) (Bc (decide (n<2048)) (z8∧(wI z4)∧(wI (192+z4))∧((.v (.c (.int .u8 (IntKind.u8.wrap (192+z4)))):S)= .v (.c (.int .u8 (192+z4))))∧z8∧(wI z13)∧z6∧((List.length (z14:List UInt8)≤4))∧Lf (.v (vT z14)) (.v (vT z14)) [] []) (Bc (decide (n<65536)) (((4096:Int)≠0)∧(wI z3)∧(wI (224+z3))∧((.v (.c (.int .u8 (IntKind.u8.wrap (224+z3)))):S)= .v (.c (.int .u8 (224+z3))))∧z8∧(wI z4)∧z8∧(wI z15)∧z11∧z8∧(wI z13)∧z6∧((List.length (z9:List UInt8)≤4))∧Lf (.v (vT z9)) (.v (vT z9)) [] []) (((262144:Int)≠0)∧(wI z7)∧(wI (240+z7))∧((.v (.c (.int .u8 (IntKind.u8.wrap (240+z7)))):S)= .v (.c (.int .u8 (240+z7))))∧((4096:Int)≠0)∧(wI z3)∧z8∧(wI z10)∧((.v (.c (.int .u8 (IntKind.u8.wrap z10))):S)= .v (.c (.int .u8 z10)))∧z8∧(wI z4)∧z8∧(wI z15)∧z11∧z8∧(wI z13)∧z6∧((List.length (z5:List UInt8)≤4))∧Lf (.v (vT z5)) (.v (vT z5)) [] []))))))) Q4 ?_
 refine⟨(Be _ _ _),fun h1=>have q1:=Ao h1;have p1:=Aw q1;?_,fun h1=>have q1:=An h1;have p1:=Ar q1;?_⟩
 exact⟨Q84,rfl,rfl⟩
 refine⟨(Be _ _ _),fun h2=>have p2:=Ar h2;?_,fun h2=>have p2:=Aw h2;?_⟩
 exact⟨Q84,rfl,rfl⟩
 refine dsp (fun h3 p3=>?_) fun h3 p3=>?_
 exact⟨(Lr Q2 Q2),Q84,rfl,rfl⟩
 refine dsp (fun h4 p4=>?_) fun h4 p4=>?_
 exact⟨Q28,(Ac Q2 Q2),(Ac Q2 Q2),(Lr Q2 Q2),Q28,(Ac Q53 Q53),(Lr Q53 Q53),Q84,rfl,rfl⟩
 refine dsp (fun h5 p5=>?_) fun h5 p5=>?_
 exact⟨Q28,(Ac Q2 Q2),(Ac Q2 Q2),(Lr Q2 Q2),Q28,(Ac Q2 Q2),Q28,(Ac Q54 Q54),(Lr Q54 Q54),Q28,(Ac Q53 Q53),(Lr Q53 Q53),Q84,rfl,rfl⟩
 exact⟨Q28,(Ac Q2 Q2),(Ac Q2 Q2),(Lr Q2 Q2),Q28,(Ac Q2 Q2),Q28,(Ac Q78 Q78),(Lr Q78 Q78),Q28,(Ac Q2 Q2),Q28,(Ac Q54 Q54),(Lr Q54 Q54),Q28,(Ac Q53 Q53),(Lr Q53 Q53),Q84,rfl,rfl⟩
structure Qn where
 x:Int
 c1:Cur
def Xt (c:Cur) (o:Qn):Prop:=Fun Tryz.prog 239 [vP 0] [.cells (Bz c)] (.v (vI o.x)) [.cells (Bz o.c1)]
def Tg (c:Cur) (o:Qn):Prop:=((Av o.c1))∧Xt c o
theorem Aii (c:Cur) (hp1:Av c): ∃o:Qn,Tg c o:=by
 have hN:Bb=274877906944:=rfl
 refine Br Tryz.func239 Q4 Q4 (w:=(.intro (Aa c 1114112) fun o1=> .seg [.call [0] (.v (vI o1.x)) (Kc o1.c1),.ty .int,.pubS 6] (.intro (A4 o1.c1 [0,65,127,128,2047,2048,4095,55295,57344,65535,65536,1114111,o1.x]) fun o2=> .seg [.call [0] (.v (vI o2.x)) (Kc o2.c1)] (.leaf (⟨o2.x,o2.c1⟩:Qn) [0])),In (Aa c 1114112) fun o1=>((Ai c 1114112 o1)∧In (A4 o1.c1 [0,65,127,128,2047,2048,4095,55295,57344,65535,65536,1114111,o1.x]) fun o2=>((B5 o1.c1 [0,65,127,128,2047,2048,4095,55295,57344,65535,65536,1114111,o1.x] o2)∧((Av o2.c1))∧Lf (.v (vI o2.x)) (.v (vI o2.x)) (Kc o2.c1) (Kc o2.c1))))) Q4 ?_
 refine⟨(Am c 1114112 Q0),fun o1 ho_o1=>?_⟩
 obtain ⟨⟨hp_o1_0,hp_o1_1,hp_o1_2,hp_o1_3⟩,hf_o1⟩:=ho_o1
 refine⟨hf_o1,(Cv o1.c1 [0,65,127,128,2047,2048,4095,55295,57344,65535,65536,1114111,o1.x] Q0 Q5 Q5),fun o2 ho_o2=>?_⟩
 obtain ⟨⟨hp_o2_0,hp_o2_1⟩,hf_o2⟩:=ho_o2
 exact⟨hf_o2,Q0,rfl,rfl⟩
structure Qo where
 t:List UInt8
 c1:Cur
def Th (c:Cur) (n:Int) (o:Qo):Prop:=Fun Tryz.prog 179 [vP 0,vI n] [.cells (Bz c)] (.v (vT o.t)) [.cells (Bz o.c1)]
def L8 (c:Cur) (n:Int) (o:Qo):Prop:=((List.length (o.t:List UInt8)≤4*Int.toNat n)∧(Av o.c1))∧Th c n o
structure Nh where
 c:Cur
 s:List UInt8
 i:Nat
def Ni (n:Int):Fam:=⟨Nh,fun q1=>[(0,.v (vP 0)),(1,.v (vI n)),(5,.v (vT q1.s)),(6,.v (vI ((q1.i:Nat):Int)))],fun q1=>[.cells (Bz q1.c)],fun q1=>Av q1.c∧(q1.i=0∨((q1.i:Nat):Int)≤n)∧List.length q1.s≤4*q1.i,fun q1=>Int.toNat n-q1.i⟩
theorem Ack (c:Cur) (n:Int) (hp1:Av c) (hp2:n≤1000): ∃o:Qo,L8 c n o:=by
 have hN:Bb=274877906944:=rfl
 refine Br Tryz.func179 Q4 Q4 (w:=let z2:=Ni n;(.seg [.at 0,.keep [0,1,5,6],.sel [0]] (.loop z2 fun q1=> .br (.intro (Tg q1.c) fun o1=> .seg [.call [0] (.v (vI o1.x)) (Kc o1.c1)] (.intro (Pr o1.x) fun o2=> .seg [.call [] (.v (vT o2.t)) [],.as 11 (.v (vI (((q1.i:Nat):Int)+1))),.at 0,.keep [0,1,5,6],.sel [0]] (.next))) (.leaf (⟨q1.s,q1.c⟩:Qo) [0])),z2.Has [(0,.v (vP 0)),(1,.v (vI n)),(5,.v (vT [])),(6,.v (vI 0))] (Kc c)∧∀q1,z2.inv q1→(let z1:=((q1.i:Nat):Int);Bc (decide (z1<n)) (In (Tg q1.c) fun o1=>((Xt q1.c o1)∧In (Pr o1.x) fun o2=>((T5 o1.x o2)∧(((List.length q1.s+List.length o2.t:Nat):Int)≤Ba)∧(wI (z1+1))∧z2.Nxt q1 [(0,.v (vP 0)),(1,.v (vI n)),(5,.v (vT (q1.s++o2.t))),(6,.v (vI (z1+1)))] (Kc o1.c1)))) (((List.length (q1.s:List UInt8)≤4*Int.toNat n)∧(Av q1.c))∧Lf (.v (vT q1.s)) (.v (vT q1.s)) (Kc q1.c) (Kc q1.c))))) Q4 ?_
 refine⟨Bf (j:=(⟨c,[],0⟩:Nh)) Q9 rfl (by dsimp only[Ni];exact⟨by assumption,.inl rfl,by simp⟩),fun (q1:Nh) hq_q1=>?_⟩
 have hi_q1:Av q1.c∧(q1.i=0∨((q1.i:Nat):Int)≤n)∧List.length q1.s≤4*q1.i:=hq_q1
 obtain ⟨v1,v2,v3⟩:=hi_q1
 refine dsp (fun h1 p1=>?_) fun h1 p1=>?_
 refine⟨(Aii q1.c Q0),fun o1 ho_o1=>?_⟩
 obtain ⟨hp_o1,hf_o1⟩:=ho_o1
 refine⟨hf_o1,(Adw o1.x),fun o2 ho_o2=>?_⟩
 obtain ⟨hp_o2,hf_o2⟩:=ho_o2
 exact⟨hf_o2,(by simp only[Ba];omega),(Ac Q2 Q2),A3 (j:=(⟨o1.c1,q1.s++o2.t,q1.i+1⟩:Nh)) Q9 rfl (by dsimp only[Ni];exact⟨by assumption,by omega,by simp;omega⟩) (by dsimp only[Ni];omega)⟩
 exact⟨⟨Q2,Q0⟩,rfl,rfl⟩
structure Hh where
 t:List UInt8
 c1:Cur
def Ti (c:Cur) (o:Hh):Prop:=Fun Tryz.prog 180 [vP 0] [.cells (Bz c)] (.v (vT o.t)) [.cells (Bz o.c1)]
def L9 (c:Cur) (o:Hh):Prop:=((List.length (o.t:List UInt8)≤16)∧(Av o.c1))∧Ti c o
theorem Acm (c:Cur) (hp1:Av c): ∃o:Hh,L9 c o:=by
 have hN:Bb=274877906944:=rfl
 refine Br Tryz.func180 Q4 Q4 (w:=(.intro (Aa c 4) fun o1=> .seg [.call [0] (.v (vI o1.x)) (Kc o1.c1)] (.intro (L8 o1.c1 o1.x) fun o2=>let z2:=((List.length o2.t:Nat):Int)+1;.seg [.call [0] (.v (vT o2.t)) (Kc o2.c1)] (.intro (Aa o2.c1 4) fun o3=> .seg [.call [0] (.v (vI o3.x)) (Kc o3.c1)] (.br (.intro (Kg o3.c1 o2.t) fun o4=> .seg [.call [0] (.v (vT o4.t)) (Kc o4.c1)] (.leaf (⟨o4.t,o4.c1⟩:Hh) [0])) (.br (.seg [.as 21 (.v (vI z2))] (.intro (Aa o3.c1 z2) fun o4=> .seg [.call [0] (.v (vI o4.x)) (Kc o4.c1)] (.leaf (⟨List.take (Int.toNat o4.x) o2.t,o4.c1⟩:Hh) [0]))) (.br (.seg [.ty .str,.pubS 28] (.intro (Hg o3.c1 [[128],[192,128],[224,159,191],[237,160,128],[240,143,191,191],[244,144,128,128],[245],[255],[226,130],[193,191]]) fun o4=> .seg [.call [0] (.v (vT o4.t)) (Kc o4.c1)] (.leaf (⟨o2.t++o4.t,o4.c1⟩:Hh) [0]))) (.leaf (⟨o2.t,o3.c1⟩:Hh) [0])))))),In (Aa c 4) fun o1=>((Ai c 4 o1)∧In (L8 o1.c1 o1.x) fun o2=>(let z3:=((List.length o2.t:Nat):Int);(Th o1.c1 o1.x o2)∧In (Aa o2.c1 4) fun o3=>((Ai o2.c1 4 o3)∧Bc (decide (o3.x=0)) (In (Kg o3.c1 o2.t) fun o4=>((Rt o3.c1 o2.t o4)∧((List.length (o4.t:List UInt8)≤16)∧(Av o4.c1))∧Lf (.v (vT o4.t)) (.v (vT o4.t)) (Kc o4.c1) (Kc o4.c1))) (Bc (decide (o3.x=1)) ((wI (z3+1))∧In (Aa o3.c1 (z3+1)) fun o4=>(let z1:=List.take (Int.toNat o4.x) o2.t;(Ai o3.c1 (z3+1) o4)∧(o4.x≤z3)∧((0:Int)≤o4.x)∧((List.length (z1:List UInt8)≤16)∧(Av o4.c1))∧Lf (.v (vT z1)) (.v (vT z1)) (Kc o4.c1) (Kc o4.c1))) (Bc (decide (o3.x=2)) (In (Hg o3.c1 [[128],[192,128],[224,159,191],[237,160,128],[240,143,191,191],[244,144,128,128],[245],[255],[226,130],[193,191]]) fun o4=>((Qm o3.c1 [[128],[192,128],[224,159,191],[237,160,128],[240,143,191,191],[244,144,128,128],[245],[255],[226,130],[193,191]] o4)∧(((List.length o2.t+List.length o4.t:Nat):Int)≤Ba)∧((List.length ((o2.t++o4.t):List UInt8)≤16)∧(Av o4.c1))∧Lf (.v (vT (o2.t++o4.t))) (.v (vT (o2.t++o4.t))) (Kc o4.c1) (Kc o4.c1))) (((List.length (o2.t:List UInt8)≤16)∧(Av o3.c1))∧Lf (.v (vT o2.t)) (.v (vT o2.t)) (Kc o3.c1) (Kc o3.c1))))))))) Q4 ?_
 refine⟨(Am c 4 Q0),fun o1 ho_o1=>?_⟩
 obtain ⟨⟨hp_o1_0,hp_o1_1,hp_o1_2,hp_o1_3⟩,hf_o1⟩:=ho_o1
 refine⟨hf_o1,(Ack o1.c1 o1.x Q0 Q2),fun o2 ho_o2=>?_⟩
 obtain ⟨⟨hp_o2_0,hp_o2_1⟩,hf_o2⟩:=ho_o2
 refine⟨hf_o2,(Am o2.c1 4 Q0),fun o3 ho_o3=>?_⟩
 obtain ⟨⟨hp_o3_0,hp_o3_1,hp_o3_2,hp_o3_3⟩,hf_o3⟩:=ho_o3
 refine⟨hf_o3,dsp (fun h1 p1=>?_) fun h1 p1=>?_⟩
 refine⟨(Z7 o3.c1 o2.t Q0 Q2),fun o4 ho_o4=>?_⟩
 obtain ⟨⟨hp_o4_0,hp_o4_1⟩,hf_o4⟩:=ho_o4
 exact⟨hf_o4,⟨Q2,Q0⟩,rfl,rfl⟩
 refine dsp (fun h2 p2=>?_) fun h2 p2=>?_
 refine⟨(Ac Q2 Q2),(Am o3.c1 (((List.length o2.t:Nat):Int)+1) Q0),fun o4 ho_o4=>?_⟩
 obtain ⟨⟨hp_o4_0,hp_o4_1,hp_o4_2,hp_o4_3⟩,hf_o4⟩:=ho_o4
 exact⟨hf_o4,Q2,Q2,⟨(by simp only[List.length_take];omega),Q0⟩,rfl,rfl⟩
 refine dsp (fun h3 p3=>?_) fun h3 p3=>?_
 refine⟨(Yr o3.c1 [[128],[192,128],[224,159,191],[237,160,128],[240,143,191,191],[244,144,128,128],[245],[255],[226,130],[193,191]] Q0 Q5 Q5),fun o4 ho_o4=>?_⟩
 obtain ⟨⟨hp_o4_0,hp_o4_1⟩,hf_o4⟩:=ho_o4
 exact⟨hf_o4,(by have:=Qj (n:=4) hp_o4_0 Q28;simp only[Ba];omega),⟨(by have:=Qj (n:=4) hp_o4_0 Q28;simp;omega),Q0⟩,rfl,rfl⟩
 exact⟨⟨Q2,Q0⟩,rfl,rfl⟩
def D0:Nat→Nat
 |0=>50
 |d+1=>20+4*D0 d
theorem Uv: ∀d,50≤D0 d
 |0=>Nat.le_refl _
 |d+1=>by have:=Uv d;rw[D0];omega
theorem Adx (d:Int) (h:0<d):D0 (Int.toNat d)=20+4*D0 (Int.toNat (d-1)):=by
 rw[show Int.toNat d=Int.toNat (d-1)+1 by omega];rfl
theorem Ma {d:Int} (h0:0≤d) (h:d≤4):D0 (Int.toNat d)≤14500:=by
 obtain ⟨k,rfl⟩:=Int.eq_ofNat_of_zero_le h0
 have:k=0∨k=1∨k=2∨k=3∨k=4:=by omega
 rcases this with rfl|rfl|rfl|rfl|rfl<;>decide
structure B0 where
 t:List UInt8
 c1:Cur
def Ln (c:Cur) (o:B0):Prop:=Fun Tryz.prog 116 [vP 0] [.cells (Bz c)] (.v (vT o.t)) [.cells (Bz o.c1)]
def Fv (c:Cur) (o:B0):Prop:=((List.length (o.t:List UInt8)≤24)∧(Av o.c1))∧Ln c o
theorem T6 (c:Cur) (hp1:Av c): ∃o:B0,Fv c o:=by
 have hN:Bb=274877906944:=rfl
 refine Br Tryz.func116 Q4 Q4 (w:=let z27:S:= .v (vO 1);let z28:=A4 c [0,1,2,5,0,2];(.seg [.ty .int,.pubS 7] (.intro z28 fun o1=>let z25:=Az o1.x;.seg [.call [0] (.v (vI o1.x)) (Kc o1.c1)] (.intro (Aq o1.c1 10) fun o2=> .seg [.call [0] (.v (vB o2.p)) (Kc o2.c1)] (.br (.seg [.ty .int,.pubS 12] (.intro (A4 o2.c1 [3,4,6,7]) fun o3=>let z12:=Az o3.x;.seg [.call [0] (.v (vI o3.x)) (Kc o3.c1)] (.intro (Aa o3.c1 3) fun o4=> .seg [.call [0] (.v (vI o4.x)) (Kc o4.c1),.as 17 (.v (vI (40+o4.x))),.call [] (.v (.c (.int .u64 (Cx (40+o4.x) o3.x)))) []] (.intro (Af o4.c1 (Cx (40+o4.x) o3.x)) fun o5=> .seg [.call [0] (.v (vT o5.t)) (Kc o5.c1)] (.intro (Aq o5.c1 20) fun o6=> .seg [.call [0] (.v (vB o6.p)) (Kc o6.c1)] (.br (.intro (B7 o6.c1) fun o7=> .seg [.call [0] (.v (.c (.int .u64 o7.x))) (Kc o7.c1)] (.intro (Af o7.c1 o7.x) fun o8=> .seg [.call [0] (.v (vT o8.t)) (Kc o8.c1)] (.br (.intro (B7 o8.c1) fun o9=> .seg [.call [0] (.v (.c (.int .u64 o9.x))) (Kc o9.c1)] (.intro (Af o9.c1 o9.x) fun o10=> .seg [.call [0] (.v (vT o10.t)) (Kc o10.c1)] (.leaf (⟨o8.t++o10.t,o10.c1⟩:B0) [0]))) (.br (.intro (Aa o8.c1 5) fun o9=> .seg [.call [0] (.v (vI o9.x)) (Kc o9.c1)] (.intro (Bj o9.c1 o9.x) fun o10=>let z2:=((List.length (List.map A9 o10.l):Nat):Int);.seg [.call [0] z27 [.cells (Bz o10.c1),.lst .u8 o10.l],.as 47 (.v (.c (.int .u64 z2)))] (.intro (Af o10.c1 z2) fun o11=> .seg [.call [0] (.v (vT o11.t)) (Kc o11.c1)] (.leaf (⟨(o8.t++o11.t)++(List.map A9 o10.l),o11.c1⟩:B0) [0])))) (.seg [.call [] (.v (vI z12)) []] (.intro (Bj o8.c1 z12) fun o9=> .seg [.call [0] z27 [.cells (Bz o9.c1),.lst .u8 o9.l]] (.leaf (⟨o8.t++(List.map A9 o9.l),o9.c1⟩:B0) [0]))))))) (.br (.intro (B7 o6.c1) fun o7=> .seg [.call [0] (.v (.c (.int .u64 o7.x))) (Kc o7.c1)] (.intro (Af o7.c1 o7.x) fun o8=> .seg [.call [0] (.v (vT o8.t)) (Kc o8.c1)] (.leaf (⟨o5.t++o8.t,o8.c1⟩:B0) [0]))) (.br (.intro (Aa o6.c1 5) fun o7=> .seg [.call [0] (.v (vI o7.x)) (Kc o7.c1)] (.intro (Bj o7.c1 o7.x) fun o8=>let z7:=((List.length (List.map A9 o8.l):Nat):Int);.seg [.call [0] z27 [.cells (Bz o8.c1),.lst .u8 o8.l],.as 47 (.v (.c (.int .u64 z7)))] (.intro (Af o8.c1 z7) fun o9=> .seg [.call [0] (.v (vT o9.t)) (Kc o9.c1)] (.leaf (⟨(o5.t++o9.t)++(List.map A9 o8.l),o9.c1⟩:B0) [0])))) (.seg [.call [] (.v (vI z12)) []] (.intro (Bj o6.c1 z12) fun o7=> .seg [.call [0] z27 [.cells (Bz o7.c1),.lst .u8 o7.l]] (.leaf (⟨o5.t++(List.map A9 o7.l),o7.c1⟩:B0) [0]))))))))))) (.intro (Aa o2.c1 3) fun o3=> .seg [.call [0] (.v (vI o3.x)) (Kc o3.c1),.as 17 (.v (vI (40+o3.x))),.call [] (.v (.c (.int .u64 (Cx (40+o3.x) o1.x)))) []] (.intro (Af o3.c1 (Cx (40+o3.x) o1.x)) fun o4=> .seg [.call [0] (.v (vT o4.t)) (Kc o4.c1)] (.intro (Aq o4.c1 20) fun o5=> .seg [.call [0] (.v (vB o5.p)) (Kc o5.c1)] (.br (.intro (B7 o5.c1) fun o6=> .seg [.call [0] (.v (.c (.int .u64 o6.x))) (Kc o6.c1)] (.intro (Af o6.c1 o6.x) fun o7=> .seg [.call [0] (.v (vT o7.t)) (Kc o7.c1)] (.br (.intro (B7 o7.c1) fun o8=> .seg [.call [0] (.v (.c (.int .u64 o8.x))) (Kc o8.c1)] (.intro (Af o8.c1 o8.x) fun o9=> .seg [.call [0] (.v (vT o9.t)) (Kc o9.c1)] (.leaf (⟨o7.t++o9.t,o9.c1⟩:B0) [0]))) (.br (.intro (Aa o7.c1 5) fun o8=> .seg [.call [0] (.v (vI o8.x)) (Kc o8.c1)] (.intro (Bj o8.c1 o8.x) fun o9=>let z15:=((List.length (List.map A9 o9.l):Nat):Int);.seg [.call [0] z27 [.cells (Bz o9.c1),.lst .u8 o9.l],.as 47 (.v (.c (.int .u64 z15)))] (.intro (Af o9.c1 z15) fun o10=> .seg [.call [0] (.v (vT o10.t)) (Kc o10.c1)] (.leaf (⟨(o7.t++o10.t)++(List.map A9 o9.l),o10.c1⟩:B0) [0])))) (.seg [.call [] (.v (vI z25)) []] (.intro (Bj o7.c1 z25) fun o8=> .seg [.call [0] z27 [.cells (Bz o8.c1),.lst .u8 o8.l]] (.leaf (⟨o7.t++(List.map A9 o8.l),o8.c1⟩:B0) [0]))))))) (.br (.intro (B7 o5.c1) fun o6=> .seg [.call [0] (.v (.c (.int .u64 o6.x))) (Kc o6.c1)] (.intro (Af o6.c1 o6.x) fun o7=> .seg [.call [0] (.v (vT o7.t)) (Kc o7.c1)] (.leaf (⟨o4.t++o7.t,o7.c1⟩:B0) [0]))) (.br (.intro (Aa o5.c1 5) fun o6=> .seg [.call [0] (.v (vI o6.x)) (Kc o6.c1)] (.intro (Bj o6.c1 o6.x) fun o7=>let z20:=((List.length (List.map A9 o7.l):Nat):Int);.seg [.call [0] z27 [.cells (Bz o7.c1),.lst .u8 o7.l],.as 47 (.v (.c (.int .u64 z20)))] (.intro (Af o7.c1 z20) fun o8=> .seg [.call [0] (.v (vT o8.t)) (Kc o8.c1)] (.leaf (⟨(o4.t++o8.t)++(List.map A9 o7.l),o8.c1⟩:B0) [0])))) (.seg [.call [] (.v (vI z25)) []] (.intro (Bj o5.c1 z25) fun o6=> .seg [.call [0] z27 [.cells (Bz o6.c1),.lst .u8 o6.l]] (.leaf (⟨o4.t++(List.map A9 o6.l),o6.c1⟩:B0) [0])))))))))))),In z28 fun o1=>(let z26:=Az o1.x;(B5 c [0,1,2,5,0,2] o1)∧In (Aq o1.c1 10) fun o2=>((Bg o1.c1 10 o2)∧Bc o2.p (In (A4 o2.c1 [3,4,6,7]) fun o3=>(let z13:=Az o3.x;(B5 o2.c1 [3,4,6,7] o3)∧In (Aa o3.c1 3) fun o4=>(let z11:=Cx (40+o4.x) o3.x;(Ai o3.c1 3 o4)∧(wI (40+o4.x))∧(Fp 176 [vI (40+o4.x),vI o3.x] [] (.v (.c (.int .u64 z11))) [])∧In (Af o4.c1 z11) fun o5=>((Au o4.c1 z11 o5)∧In (Aq o5.c1 20) fun o6=>((Bg o5.c1 20 o6)∧Bc o6.p (In (B7 o6.c1) fun o7=>((D2 o6.c1 o7)∧In (Af o7.c1 o7.x) fun o8=>((Au o7.c1 o7.x o8)∧Bc (decide (o3.x=0)) (In (B7 o8.c1) fun o9=>((D2 o8.c1 o9)∧In (Af o9.c1 o9.x) fun o10=>((Au o9.c1 o9.x o10)∧(((List.length o8.t+List.length o10.t:Nat):Int)≤Ba)∧((List.length ((o8.t++o10.t):List UInt8)≤24)∧(Av o10.c1))∧Lf (.v (vT (o8.t++o10.t))) (.v (vT (o8.t++o10.t))) (Kc o10.c1) (Kc o10.c1)))) (Bc (decide (o3.x=2)) (In (Aa o8.c1 5) fun o9=>((Ai o8.c1 5 o9)∧In (Bj o9.c1 o9.x) fun o10=>(let z4:=List.map A9 o10.l;let z3:=((List.length z4:Nat):Int);(Cp o9.c1 o9.x o10)∧(wU (z3))∧In (Af o10.c1 z3) fun o11=>(let z1:=(o8.t++o11.t)++z4;(Au o10.c1 z3 o11)∧(((List.length o8.t+List.length o11.t:Nat):Int)≤Ba)∧(((List.length (o8.t++o11.t)+List.length z4:Nat):Int)≤Ba)∧((List.length (z1:List UInt8)≤24)∧(Av o11.c1))∧Lf (.v (vT z1)) (.v (vT z1)) (Kc o11.c1) (Kc o11.c1))))) ((Fp 177 [vI o3.x] [] (.v (vI z13)) [])∧In (Bj o8.c1 z13) fun o9=>(let z5:=o8.t++(List.map A9 o9.l);(Cp o8.c1 z13 o9)∧(((List.length o8.t+List.length (List.map A9 o9.l):Nat):Int)≤Ba)∧((List.length (z5:List UInt8)≤24)∧(Av o9.c1))∧Lf (.v (vT z5)) (.v (vT z5)) (Kc o9.c1) (Kc o9.c1))))))) (Bc (decide (o3.x=0)) (In (B7 o6.c1) fun o7=>((D2 o6.c1 o7)∧In (Af o7.c1 o7.x) fun o8=>((Au o7.c1 o7.x o8)∧(((List.length o5.t+List.length o8.t:Nat):Int)≤Ba)∧((List.length ((o5.t++o8.t):List UInt8)≤24)∧(Av o8.c1))∧Lf (.v (vT (o5.t++o8.t))) (.v (vT (o5.t++o8.t))) (Kc o8.c1) (Kc o8.c1)))) (Bc (decide (o3.x=2)) (In (Aa o6.c1 5) fun o7=>((Ai o6.c1 5 o7)∧In (Bj o7.c1 o7.x) fun o8=>(let z9:=List.map A9 o8.l;let z8:=((List.length z9:Nat):Int);(Cp o7.c1 o7.x o8)∧(wU (z8))∧In (Af o8.c1 z8) fun o9=>(let z6:=(o5.t++o9.t)++z9;(Au o8.c1 z8 o9)∧(((List.length o5.t+List.length o9.t:Nat):Int)≤Ba)∧(((List.length (o5.t++o9.t)+List.length z9:Nat):Int)≤Ba)∧((List.length (z6:List UInt8)≤24)∧(Av o9.c1))∧Lf (.v (vT z6)) (.v (vT z6)) (Kc o9.c1) (Kc o9.c1))))) ((Fp 177 [vI o3.x] [] (.v (vI z13)) [])∧In (Bj o6.c1 z13) fun o7=>(let z10:=o5.t++(List.map A9 o7.l);(Cp o6.c1 z13 o7)∧(((List.length o5.t+List.length (List.map A9 o7.l):Nat):Int)≤Ba)∧((List.length (z10:List UInt8)≤24)∧(Av o7.c1))∧Lf (.v (vT z10)) (.v (vT z10)) (Kc o7.c1) (Kc o7.c1)))))))))) (In (Aa o2.c1 3) fun o3=>(let z24:=Cx (40+o3.x) o1.x;(Ai o2.c1 3 o3)∧(wI (40+o3.x))∧(Fp 176 [vI (40+o3.x),vI o1.x] [] (.v (.c (.int .u64 z24))) [])∧In (Af o3.c1 z24) fun o4=>((Au o3.c1 z24 o4)∧In (Aq o4.c1 20) fun o5=>((Bg o4.c1 20 o5)∧Bc o5.p (In (B7 o5.c1) fun o6=>((D2 o5.c1 o6)∧In (Af o6.c1 o6.x) fun o7=>((Au o6.c1 o6.x o7)∧Bc (decide (o1.x=0)) (In (B7 o7.c1) fun o8=>((D2 o7.c1 o8)∧In (Af o8.c1 o8.x) fun o9=>((Au o8.c1 o8.x o9)∧(((List.length o7.t+List.length o9.t:Nat):Int)≤Ba)∧((List.length ((o7.t++o9.t):List UInt8)≤24)∧(Av o9.c1))∧Lf (.v (vT (o7.t++o9.t))) (.v (vT (o7.t++o9.t))) (Kc o9.c1) (Kc o9.c1)))) (Bc (decide (o1.x=2)) (In (Aa o7.c1 5) fun o8=>((Ai o7.c1 5 o8)∧In (Bj o8.c1 o8.x) fun o9=>(let z17:=List.map A9 o9.l;let z16:=((List.length z17:Nat):Int);(Cp o8.c1 o8.x o9)∧(wU (z16))∧In (Af o9.c1 z16) fun o10=>(let z14:=(o7.t++o10.t)++z17;(Au o9.c1 z16 o10)∧(((List.length o7.t+List.length o10.t:Nat):Int)≤Ba)∧(((List.length (o7.t++o10.t)+List.length z17:Nat):Int)≤Ba)∧((List.length (z14:List UInt8)≤24)∧(Av o10.c1))∧Lf (.v (vT z14)) (.v (vT z14)) (Kc o10.c1) (Kc o10.c1))))) ((Fp 177 [vI o1.x] [] (.v (vI z26)) [])∧In (Bj o7.c1 z26) fun o8=>(let z18:=o7.t++(List.map A9 o8.l);(Cp o7.c1 z26 o8)∧(((List.length o7.t+List.length (List.map A9 o8.l):Nat):Int)≤Ba)∧((List.length (z18:List UInt8)≤24)∧(Av o8.c1))∧Lf (.v (vT z18)) (.v (vT z18)) (Kc o8.c1) (Kc o8.c1))))))) (Bc (decide (o1.x=0)) (In (B7 o5.c1) fun o6=>((D2 o5.c1 o6)∧In (Af o6.c1 o6.x) fun o7=>((Au o6.c1 o6.x o7)∧(((List.length o4.t+List.length o7.t:Nat):Int)≤Ba)∧((List.length ((o4.t++o7.t):List UInt8)≤24)∧(Av o7.c1))∧Lf (.v (vT (o4.t++o7.t))) (.v (vT (o4.t++o7.t))) (Kc o7.c1) (Kc o7.c1)))) (Bc (decide (o1.x=2)) (In (Aa o5.c1 5) fun o6=>((Ai o5.c1 5 o6)∧In (Bj o6.c1 o6.x) fun o7=>(let z22:=List.map A9 o7.l;let z21:=((List.length z22:Nat):Int);(Cp o6.c1 o6.x o7)∧(wU (z21))∧In (Af o7.c1 z21) fun o8=>(let z19:=(o4.t++o8.t)++z22;(Au o7.c1 z21 o8)∧(((List.length o4.t+List.length o8.t:Nat):Int)≤Ba)∧(((List.length (o4.t++o8.t)+List.length z22:Nat):Int)≤Ba)∧((List.length (z19:List UInt8)≤24)∧(Av o8.c1))∧Lf (.v (vT z19)) (.v (vT z19)) (Kc o8.c1) (Kc o8.c1))))) ((Fp 177 [vI o1.x] [] (.v (vI z26)) [])∧In (Bj o5.c1 z26) fun o6=>(let z23:=o4.t++(List.map A9 o6.l);(Cp o5.c1 z26 o6)∧(((List.length o4.t+List.length (List.map A9 o6.l):Nat):Int)≤Ba)∧((List.length (z23:List UInt8)≤24)∧(Av o6.c1))∧Lf (.v (vT z23)) (.v (vT z23)) (Kc o6.c1) (Kc o6.c1))))))))))))) Q4 ?_
 refine⟨(Cv c [0,1,2,5,0,2] Q0 Q5 Q5),fun o1 ho_o1=>?_⟩
 obtain ⟨⟨hp_o1_0,hp_o1_1⟩,hf_o1⟩:=ho_o1
 refine⟨hf_o1,(By o1.c1 10 Q0),fun o2 ho_o2=>?_⟩
 obtain ⟨hp_o2,hf_o2⟩:=ho_o2
 refine⟨hf_o2,fun h1=>?_,fun h1=>?_⟩
 refine⟨(Cv o2.c1 [3,4,6,7] Q0 Q5 Q5),fun o3 ho_o3=>?_⟩
 obtain ⟨⟨hp_o3_0,hp_o3_1⟩,hf_o3⟩:=ho_o3
 refine⟨hf_o3,(Am o3.c1 3 Q0),fun o4 ho_o4=>?_⟩
 obtain ⟨⟨hp_o4_0,hp_o4_1,hp_o4_2,hp_o4_3⟩,hf_o4⟩:=ho_o4
 refine⟨hf_o4,(Ac Q2 Q2),(Cr _ _),(A7 o4.c1 (Cx (40+o4.x) o3.x) Q0 (⟨(Bi _ _).1,Int.le_trans (Bi _ _).2 Q28⟩)),fun o5 ho_o5=>?_⟩
 obtain ⟨⟨hp_o5_0,hp_o5_1⟩,hf_o5⟩:=ho_o5
 refine⟨hf_o5,(By o5.c1 20 Q0),fun o6 ho_o6=>?_⟩
 obtain ⟨hp_o6,hf_o6⟩:=ho_o6
 refine⟨hf_o6,fun h2=>?_,fun h2=>?_⟩
 refine⟨(Gy o6.c1 Q0),fun o7 ho_o7=>?_⟩
 obtain ⟨⟨hp_o7_0,hp_o7_1⟩,hf_o7⟩:=ho_o7
 refine⟨hf_o7,(A7 o7.c1 o7.x Q0 Q2),fun o8 ho_o8=>?_⟩
 obtain ⟨⟨hp_o8_0,hp_o8_1⟩,hf_o8⟩:=ho_o8
 refine⟨hf_o8,dsp (fun h3 p3=>?_) fun h3 p3=>?_⟩
 refine⟨(Gy o8.c1 Q0),fun o9 ho_o9=>?_⟩
 obtain ⟨⟨hp_o9_0,hp_o9_1⟩,hf_o9⟩:=ho_o9
 refine⟨hf_o9,(A7 o9.c1 o9.x Q0 Q2),fun o10 ho_o10=>?_⟩
 obtain ⟨⟨hp_o10_0,hp_o10_1⟩,hf_o10⟩:=ho_o10
 exact⟨hf_o10,Q11,⟨Q16,Q0⟩,rfl,rfl⟩
 refine dsp (fun h4 p4=>?_) fun h4 p4=>?_
 refine⟨(Am o8.c1 5 Q0),fun o9 ho_o9=>?_⟩
 obtain ⟨⟨hp_o9_0,hp_o9_1,hp_o9_2,hp_o9_3⟩,hf_o9⟩:=ho_o9
 refine⟨hf_o9,(Dv o9.c1 o9.x Q0 Q2),fun o10 ho_o10=>?_⟩
 obtain ⟨⟨hp_o10_0,hp_o10_1⟩,hf_o10⟩:=ho_o10
 refine⟨hf_o10,(Bv Q18 Q18),(A7 o10.c1 ((List.length (List.map A9 o10.l):Nat):Int) Q0 Q18),fun o11 ho_o11=>?_⟩
 obtain ⟨⟨hp_o11_0,hp_o11_1⟩,hf_o11⟩:=ho_o11
 exact⟨hf_o11,Q11,Q11,⟨Q16,Q0⟩,rfl,rfl⟩
 refine⟨(Du _),(Dv o8.c1 (Az o3.x) Q0 Q16),fun o9 ho_o9=>?_⟩
 obtain ⟨⟨hp_o9_0,hp_o9_1⟩,hf_o9⟩:=ho_o9
 exact⟨hf_o9,Q11,⟨Q16,Q0⟩,rfl,rfl⟩
 refine dsp (fun h3 p3=>?_) fun h3 p3=>?_
 refine⟨(Gy o6.c1 Q0),fun o7 ho_o7=>?_⟩
 obtain ⟨⟨hp_o7_0,hp_o7_1⟩,hf_o7⟩:=ho_o7
 refine⟨hf_o7,(A7 o7.c1 o7.x Q0 Q2),fun o8 ho_o8=>?_⟩
 obtain ⟨⟨hp_o8_0,hp_o8_1⟩,hf_o8⟩:=ho_o8
 exact⟨hf_o8,Q11,⟨Q16,Q0⟩,rfl,rfl⟩
 refine dsp (fun h4 p4=>?_) fun h4 p4=>?_
 refine⟨(Am o6.c1 5 Q0),fun o7 ho_o7=>?_⟩
 obtain ⟨⟨hp_o7_0,hp_o7_1,hp_o7_2,hp_o7_3⟩,hf_o7⟩:=ho_o7
 refine⟨hf_o7,(Dv o7.c1 o7.x Q0 Q2),fun o8 ho_o8=>?_⟩
 obtain ⟨⟨hp_o8_0,hp_o8_1⟩,hf_o8⟩:=ho_o8
 refine⟨hf_o8,(Bv Q18 Q18),(A7 o8.c1 ((List.length (List.map A9 o8.l):Nat):Int) Q0 Q18),fun o9 ho_o9=>?_⟩
 obtain ⟨⟨hp_o9_0,hp_o9_1⟩,hf_o9⟩:=ho_o9
 exact⟨hf_o9,Q11,Q11,⟨Q16,Q0⟩,rfl,rfl⟩
 refine⟨(Du _),(Dv o6.c1 (Az o3.x) Q0 Q16),fun o7 ho_o7=>?_⟩
 obtain ⟨⟨hp_o7_0,hp_o7_1⟩,hf_o7⟩:=ho_o7
 exact⟨hf_o7,Q11,⟨Q16,Q0⟩,rfl,rfl⟩
 refine⟨(Am o2.c1 3 Q0),fun o3 ho_o3=>?_⟩
 obtain ⟨⟨hp_o3_0,hp_o3_1,hp_o3_2,hp_o3_3⟩,hf_o3⟩:=ho_o3
 refine⟨hf_o3,(Ac Q2 Q2),(Cr _ _),(A7 o3.c1 (Cx (40+o3.x) o1.x) Q0 (⟨(Bi _ _).1,Int.le_trans (Bi _ _).2 Q28⟩)),fun o4 ho_o4=>?_⟩
 obtain ⟨⟨hp_o4_0,hp_o4_1⟩,hf_o4⟩:=ho_o4
 refine⟨hf_o4,(By o4.c1 20 Q0),fun o5 ho_o5=>?_⟩
 obtain ⟨hp_o5,hf_o5⟩:=ho_o5
 refine⟨hf_o5,fun h2=>?_,fun h2=>?_⟩
 refine⟨(Gy o5.c1 Q0),fun o6 ho_o6=>?_⟩
 obtain ⟨⟨hp_o6_0,hp_o6_1⟩,hf_o6⟩:=ho_o6
 refine⟨hf_o6,(A7 o6.c1 o6.x Q0 Q2),fun o7 ho_o7=>?_⟩
 obtain ⟨⟨hp_o7_0,hp_o7_1⟩,hf_o7⟩:=ho_o7
 refine⟨hf_o7,dsp (fun h3 p3=>?_) fun h3 p3=>?_⟩
 refine⟨(Gy o7.c1 Q0),fun o8 ho_o8=>?_⟩
 obtain ⟨⟨hp_o8_0,hp_o8_1⟩,hf_o8⟩:=ho_o8
 refine⟨hf_o8,(A7 o8.c1 o8.x Q0 Q2),fun o9 ho_o9=>?_⟩
 obtain ⟨⟨hp_o9_0,hp_o9_1⟩,hf_o9⟩:=ho_o9
 exact⟨hf_o9,Q11,⟨Q16,Q0⟩,rfl,rfl⟩
 refine dsp (fun h4 p4=>?_) fun h4 p4=>?_
 refine⟨(Am o7.c1 5 Q0),fun o8 ho_o8=>?_⟩
 obtain ⟨⟨hp_o8_0,hp_o8_1,hp_o8_2,hp_o8_3⟩,hf_o8⟩:=ho_o8
 refine⟨hf_o8,(Dv o8.c1 o8.x Q0 Q2),fun o9 ho_o9=>?_⟩
 obtain ⟨⟨hp_o9_0,hp_o9_1⟩,hf_o9⟩:=ho_o9
 refine⟨hf_o9,(Bv Q18 Q18),(A7 o9.c1 ((List.length (List.map A9 o9.l):Nat):Int) Q0 Q18),fun o10 ho_o10=>?_⟩
 obtain ⟨⟨hp_o10_0,hp_o10_1⟩,hf_o10⟩:=ho_o10
 exact⟨hf_o10,Q11,Q11,⟨Q16,Q0⟩,rfl,rfl⟩
 refine⟨(Du _),(Dv o7.c1 (Az o1.x) Q0 Q16),fun o8 ho_o8=>?_⟩
 obtain ⟨⟨hp_o8_0,hp_o8_1⟩,hf_o8⟩:=ho_o8
 exact⟨hf_o8,Q11,⟨Q16,Q0⟩,rfl,rfl⟩
 refine dsp (fun h3 p3=>?_) fun h3 p3=>?_
 refine⟨(Gy o5.c1 Q0),fun o6 ho_o6=>?_⟩
 obtain ⟨⟨hp_o6_0,hp_o6_1⟩,hf_o6⟩:=ho_o6
 refine⟨hf_o6,(A7 o6.c1 o6.x Q0 Q2),fun o7 ho_o7=>?_⟩
 obtain ⟨⟨hp_o7_0,hp_o7_1⟩,hf_o7⟩:=ho_o7
 exact⟨hf_o7,Q11,⟨Q16,Q0⟩,rfl,rfl⟩
 refine dsp (fun h4 p4=>?_) fun h4 p4=>?_
 refine⟨(Am o5.c1 5 Q0),fun o6 ho_o6=>?_⟩
 obtain ⟨⟨hp_o6_0,hp_o6_1,hp_o6_2,hp_o6_3⟩,hf_o6⟩:=ho_o6
 refine⟨hf_o6,(Dv o6.c1 o6.x Q0 Q2),fun o7 ho_o7=>?_⟩
 obtain ⟨⟨hp_o7_0,hp_o7_1⟩,hf_o7⟩:=ho_o7
 refine⟨hf_o7,(Bv Q18 Q18),(A7 o7.c1 ((List.length (List.map A9 o7.l):Nat):Int) Q0 Q18),fun o8 ho_o8=>?_⟩
 obtain ⟨⟨hp_o8_0,hp_o8_1⟩,hf_o8⟩:=ho_o8
 exact⟨hf_o8,Q11,Q11,⟨Q16,Q0⟩,rfl,rfl⟩
 refine⟨(Du _),(Dv o5.c1 (Az o1.x) Q0 Q16),fun o6 ho_o6=>?_⟩
 obtain ⟨⟨hp_o6_0,hp_o6_1⟩,hf_o6⟩:=ho_o6
 exact⟨hf_o6,Q11,⟨Q16,Q0⟩,rfl,rfl⟩
structure Et where
 t:List UInt8
 c1:Cur
def Gz (c:Cur) (kind:Int) (o:Et):Prop:=Fun Tryz.prog 182 [vP 0,vI kind] [.cells (Bz c)] (.v (vT o.t)) [.cells (Bz o.c1)]
def Dk (c:Cur) (kind:Int) (o:Et):Prop:=((List.length (o.t:List UInt8)≤10)∧(Av o.c1))∧Gz c kind o
theorem Nj (c:Cur) (kind:Int) (hp1:Av c): ∃o:Et,Dk c kind o:=by
 have hN:Bb=274877906944:=rfl
 refine Br Tryz.func182 Q4 Q4 (w:=let z4:=B6 kind;let z3:=Az z4;(.intro (B7 c) fun o1=> .seg [.call [0] (.v (.c (.int .u64 o1.x))) (Kc o1.c1)] (.br (.intro (Aa o1.c1 3) fun o2=> .seg [.call [0] (.v (vI o2.x)) (Kc o2.c1),.as 13 (.v (.c (.int .u64 o2.x))),.call [] (.v (vI z4)) [],.call [] (.v (vI z3)) []] (.br (.intro (Bj o2.c1 z3) fun o3=> .seg [.call [0] (.v (vO 1)) [.cells (Bz o3.c1),.lst .u8 o3.l]] (.leaf (⟨List.map A9 o3.l,o3.c1⟩:Et) [0])) (.intro (Af o2.c1 o2.x) fun o3=> .seg [.call [0] (.v (vT o3.t)) (Kc o3.c1)] (.leaf (⟨o3.t,o3.c1⟩:Et) [0])))) (.seg [.call [] (.v (vI z4)) [],.call [] (.v (vI z3)) []] (.br (.intro (Bj o1.c1 z3) fun o2=> .seg [.call [0] (.v (vO 1)) [.cells (Bz o2.c1),.lst .u8 o2.l]] (.leaf (⟨List.map A9 o2.l,o2.c1⟩:Et) [0])) (.intro (Af o1.c1 o1.x) fun o2=> .seg [.call [0] (.v (vT o2.t)) (Kc o2.c1)] (.leaf (⟨o2.t,o2.c1⟩:Et) [0]))))),In (B7 c) fun o1=>((D2 c o1)∧Bc (decide (kind=3)) (In (Aa o1.c1 3) fun o2=>((Ai o1.c1 3 o2)∧(wU (o2.x))∧(Fp 178 [vI kind] [] (.v (vI z4)) [])∧(Fp 177 [vI z4] [] (.v (vI z3)) [])∧Bc (decide (0<Az z4)) (In (Bj o2.c1 z3) fun o3=>(let z1:=List.map A9 o3.l;(Cp o2.c1 z3 o3)∧((List.length (z1:List UInt8)≤10)∧(Av o3.c1))∧Lf (.v (vT z1)) (.v (vT z1)) (Kc o3.c1) (Kc o3.c1))) (In (Af o2.c1 o2.x) fun o3=>((Au o2.c1 o2.x o3)∧((List.length (o3.t:List UInt8)≤10)∧(Av o3.c1))∧Lf (.v (vT o3.t)) (.v (vT o3.t)) (Kc o3.c1) (Kc o3.c1))))) ((Fp 178 [vI kind] [] (.v (vI z4)) [])∧(Fp 177 [vI z4] [] (.v (vI z3)) [])∧Bc (decide (0<Az z4)) (In (Bj o1.c1 z3) fun o2=>(let z2:=List.map A9 o2.l;(Cp o1.c1 z3 o2)∧((List.length (z2:List UInt8)≤10)∧(Av o2.c1))∧Lf (.v (vT z2)) (.v (vT z2)) (Kc o2.c1) (Kc o2.c1))) (In (Af o1.c1 o1.x) fun o2=>((Au o1.c1 o1.x o2)∧((List.length (o2.t:List UInt8)≤10)∧(Av o2.c1))∧Lf (.v (vT o2.t)) (.v (vT o2.t)) (Kc o2.c1) (Kc o2.c1))))))) Q4 ?_
 refine⟨(Gy c Q0),fun o1 ho_o1=>?_⟩
 obtain ⟨⟨hp_o1_0,hp_o1_1⟩,hf_o1⟩:=ho_o1
 refine⟨hf_o1,dsp (fun h1 p1=>?_) fun h1 p1=>?_⟩
 refine⟨(Am o1.c1 3 Q0),fun o2 ho_o2=>?_⟩
 obtain ⟨⟨hp_o2_0,hp_o2_1,hp_o2_2,hp_o2_3⟩,hf_o2⟩:=ho_o2
 refine⟨hf_o2,(Bv Q2 Q2),(P7 _),(Du _),dsp (fun h2 p2=>?_) fun h2 p2=>?_⟩
 refine⟨(Dv o2.c1 (Az (B6 kind)) Q0 Q43),fun o3 ho_o3=>?_⟩
 obtain ⟨⟨hp_o3_0,hp_o3_1⟩,hf_o3⟩:=ho_o3
 exact⟨hf_o3,⟨Q43,Q0⟩,rfl,rfl⟩
 refine⟨(A7 o2.c1 o2.x Q0 Q2),fun o3 ho_o3=>?_⟩
 obtain ⟨⟨hp_o3_0,hp_o3_1⟩,hf_o3⟩:=ho_o3
 exact⟨hf_o3,⟨Q43,Q0⟩,rfl,rfl⟩
 refine⟨(P7 _),(Du _),dsp (fun h2 p2=>?_) fun h2 p2=>?_⟩
 refine⟨(Dv o1.c1 (Az (B6 kind)) Q0 Q43),fun o2 ho_o2=>?_⟩
 obtain ⟨⟨hp_o2_0,hp_o2_1⟩,hf_o2⟩:=ho_o2
 exact⟨hf_o2,⟨Q43,Q0⟩,rfl,rfl⟩
 refine⟨(A7 o1.c1 o1.x Q0 Q2),fun o2 ho_o2=>?_⟩
 obtain ⟨⟨hp_o2_0,hp_o2_1⟩,hf_o2⟩:=ho_o2
 exact⟨hf_o2,⟨Q43,Q0⟩,rfl,rfl⟩
structure Ane where
 t:List UInt8
 c1:Cur
def Ans (c:Cur) (p:Pln) (shape:Int) (deep:Int) (o:Ane):Prop:=Fun Tryz.prog 64 [vP 0,.agg (Nw p),vI shape,vI deep] [.cells (Bz c)] (.v (vT o.t)) [.cells (Bz o.c1)]
def Anf (c:Cur) (p:Pln) (shape:Int) (deep:Int) (o:Ane):Prop:=((List.length (o.t:List UInt8)≤4*D0 (Int.toNat deep))∧(Av o.c1))∧Ans c p shape deep o
def Ang (K:Nat):Prop:= ∀(c:Cur) (p:Pln) (shape:Int) (deep:Int) (hp1:Av c) (hp2:PlnG p) (hp3:(0:Int)≤deep∧deep≤4) (hp4:deep<((K:Nat):Int)) (hp5:(0:Int)≤shape∧shape<((List.length (p).shapes:Nat):Int)),∃o:Ane,Anf c p shape deep o
structure A5 where
 t:List UInt8
 c1:Cur
def T7 (c:Cur) (p:Pln) (f:Fld) (deep:Int) (o:A5):Prop:=Fun Tryz.prog 117 [vP 0,.agg (Nw p),.agg (Fr f),vI deep] [.cells (Bz c)] (.v (vT o.t)) [.cells (Bz o.c1)]
def Ps (c:Cur) (p:Pln) (f:Fld) (deep:Int) (o:A5):Prop:=((List.length (o.t:List UInt8)≤D0 (Int.toNat deep))∧(Av o.c1))∧T7 c p f deep o
structure Eu where
 c:Cur
 body:List UInt8
 i:Nat
def C9 (f:Fld) (o1:Co):Fam:=⟨Eu,fun q1=>[(0,.v (vP 0)),(6,.v (vP 1)),(9,.v (vI 2)),(10,.v (vT q1.body)),(11,.v (vI o1.x)),(12,.v (vI ((q1.i:Nat):Int)))],fun q1=>[.cells (Bz q1.c),.cells (Fr f)],fun q1=>Av q1.c∧q1.i≤3∧List.length q1.body≤10*q1.i,fun q1=>4-q1.i⟩
theorem Ady (K:Nat) (hB:Ang K) (c:Cur) (p:Pln) (f:Fld) (deep:Int) (hp1:Av c) (hp2:PlnG p) (hp3:(0:Int)≤deep∧deep≤4) (hp4:deep≤((K:Nat):Int)) (hp5:1≤(f).kind∧(f).kind≤8) (hp6:(f).kind=8→(0:Int)≤(f).msg∧(f).msg<((List.length (p).shapes:Nat):Int)): ∃o:A5,Ps c p f deep o:=by
 have hN:Bb=274877906944:=rfl
 have hvb:=Uv (Int.toNat deep)
 have hvm:=Ma hp3.1 hp3.2
 refine Br Tryz.func117 Q4 Q4 (w:=let z106:=Int.toNat deep;let z108:=Cx f.number 2;let z109:S:= .v (.c (.int .u64 z108));let z111:=([]:List UInt8);let z104:=((List.length z111:Nat):Int);let z110:=max 0 z104;let z112:List V:=[vI f.number,vI 2];let z113:=B6 f.kind;let z103:=Cx f.number z113;let z105:S:= .v (.c (.int .u64 z103));let z107:List V:=[vI f.number,vI z113];let z114:S:= .v (vI z110);(.seg [.call [] (.v (vI z113)) []] (.br (.br (.seg [.as 39 (.v (vI (deep-1)))] (.intro (Anf c p f.msg (deep-1)) fun o1=>let z13:=((List.length o1.t:Nat):Int);.seg [.call [0] (.v (vT o1.t)) (Kc o1.c1)] (.intro (Aq o1.c1 30) fun o2=> .seg [.call [0] (.v (vB o2.p)) (Kc o2.c1)] (.br (.intro (Aa o2.c1 8) fun o3=>let z6:=Cx f.number o3.x;.seg [.call [0] (.v (vI o3.x)) (Kc o3.c1)] (.intro (Aq o3.c1 20) fun o4=> .seg [.call [0] (.v (vB o4.p)) (Kc o4.c1)] (.br (.intro (Aa o4.c1 5) fun o5=>let z2:=z13+o5.x-2;.seg [.call [0] (.v (vI o5.x)) (Kc o5.c1),.as 97 (.v (vI (z13+o5.x))),.as 98 (.v (vI z2)),.call [] (.v (.c (.int .u64 z6))) []] (.intro (Af o5.c1 z6) fun o6=> .seg [.call [0] (.v (vT o6.t)) (Kc o6.c1),.call [] (.v (vI (max 0 z2))) [],.as 108 (.v (.c (.int .u64 (max 0 z2))))] (.intro (Af o6.c1 (max 0 z2)) fun o7=> .seg [.call [0] (.v (vT o7.t)) (Kc o7.c1)] (.leaf (⟨(o6.t++o7.t)++o1.t,o7.c1⟩:A5) [0])))) (.seg [.call [] (.v (.c (.int .u64 z6))) []] (.intro (Af o4.c1 z6) fun o5=> .seg [.call [0] (.v (vT o5.t)) (Kc o5.c1),.call [] (.v (vI (max 0 z13))) [],.as 108 (.v (.c (.int .u64 (max 0 z13))))] (.intro (Af o5.c1 (max 0 z13)) fun o6=> .seg [.call [0] (.v (vT o6.t)) (Kc o6.c1)] (.leaf (⟨(o5.t++o6.t)++o1.t,o6.c1⟩:A5) [0]))))))) (.intro (Aq o2.c1 20) fun o3=> .seg [.call [0] (.v (vB o3.p)) (Kc o3.c1)] (.br (.intro (Aa o3.c1 5) fun o4=>let z9:=z13+o4.x-2;.seg [.call [0] (.v (vI o4.x)) (Kc o4.c1),.as 97 (.v (vI (z13+o4.x))),.as 98 (.v (vI z9)),.call [] z105 []] (.intro (Af o4.c1 z103) fun o5=> .seg [.call [0] (.v (vT o5.t)) (Kc o5.c1),.call [] (.v (vI (max 0 z9))) [],.as 108 (.v (.c (.int .u64 (max 0 z9))))] (.intro (Af o5.c1 (max 0 z9)) fun o6=> .seg [.call [0] (.v (vT o6.t)) (Kc o6.c1)] (.leaf (⟨(o5.t++o6.t)++o1.t,o6.c1⟩:A5) [0])))) (.seg [.call [] z105 []] (.intro (Af o3.c1 z103) fun o4=> .seg [.call [0] (.v (vT o4.t)) (Kc o4.c1),.call [] (.v (vI (max 0 z13))) [],.as 108 (.v (.c (.int .u64 (max 0 z13))))] (.intro (Af o4.c1 (max 0 z13)) fun o5=> .seg [.call [0] (.v (vT o5.t)) (Kc o5.c1)] (.leaf (⟨(o4.t++o5.t)++o1.t,o5.c1⟩:A5) [0])))))))))) (.intro (Aq c 30) fun o1=> .seg [.call [0] (.v (vB o1.p)) (Kc o1.c1)] (.br (.intro (Aa o1.c1 8) fun o2=>let z20:=Cx f.number o2.x;.seg [.call [0] (.v (vI o2.x)) (Kc o2.c1)] (.intro (Aq o2.c1 20) fun o3=> .seg [.call [0] (.v (vB o3.p)) (Kc o3.c1)] (.br (.intro (Aa o3.c1 5) fun o4=>let z16:=z104+o4.x-2;.seg [.call [0] (.v (vI o4.x)) (Kc o4.c1),.as 97 (.v (vI (z104+o4.x))),.as 98 (.v (vI z16)),.call [] (.v (.c (.int .u64 z20))) []] (.intro (Af o4.c1 z20) fun o5=> .seg [.call [0] (.v (vT o5.t)) (Kc o5.c1),.call [] (.v (vI (max 0 z16))) [],.as 108 (.v (.c (.int .u64 (max 0 z16))))] (.intro (Af o5.c1 (max 0 z16)) fun o6=> .seg [.call [0] (.v (vT o6.t)) (Kc o6.c1)] (.leaf (⟨(o5.t++o6.t)++[],o6.c1⟩:A5) [0])))) (.seg [.call [] (.v (.c (.int .u64 z20))) []] (.intro (Af o3.c1 z20) fun o4=> .seg [.call [0] (.v (vT o4.t)) (Kc o4.c1),.call [] z114 [],.as 108 (.v (.c (.int .u64 z110)))] (.intro (Af o4.c1 z110) fun o5=> .seg [.call [0] (.v (vT o5.t)) (Kc o5.c1)] (.leaf (⟨(o4.t++o5.t)++[],o5.c1⟩:A5) [0]))))))) (.intro (Aq o1.c1 20) fun o2=> .seg [.call [0] (.v (vB o2.p)) (Kc o2.c1)] (.br (.intro (Aa o2.c1 5) fun o3=>let z23:=z104+o3.x-2;.seg [.call [0] (.v (vI o3.x)) (Kc o3.c1),.as 97 (.v (vI (z104+o3.x))),.as 98 (.v (vI z23)),.call [] z105 []] (.intro (Af o3.c1 z103) fun o4=> .seg [.call [0] (.v (vT o4.t)) (Kc o4.c1),.call [] (.v (vI (max 0 z23))) [],.as 108 (.v (.c (.int .u64 (max 0 z23))))] (.intro (Af o4.c1 (max 0 z23)) fun o5=> .seg [.call [0] (.v (vT o5.t)) (Kc o5.c1)] (.leaf (⟨(o4.t++o5.t)++[],o5.c1⟩:A5) [0])))) (.seg [.call [] z105 []] (.intro (Af o2.c1 z103) fun o3=> .seg [.call [0] (.v (vT o3.t)) (Kc o3.c1),.call [] z114 [],.as 108 (.v (.c (.int .u64 z110)))] (.intro (Af o3.c1 z110) fun o4=> .seg [.call [0] (.v (vT o4.t)) (Kc o4.c1)] (.leaf (⟨(o3.t++o4.t)++[],o4.c1⟩:A5) [0]))))))))) (.br (.intro (Aa c 3) fun o1=> .seg [.call [0] (.v (vI o1.x)) (Kc o1.c1)] (.intro (L8 o1.c1 o1.x) fun o2=>let z53:=((List.length o2.t:Nat):Int);.seg [.call [0] (.v (vT o2.t)) (Kc o2.c1)] (.intro (Aq o2.c1 8) fun o3=> .seg [.call [0] (.v (vB o3.p)) (Kc o3.c1)] (.br (.intro (L9 o3.c1) fun o4=>let z39:=((List.length o4.t:Nat):Int);.seg [.call [0] (.v (vT o4.t)) (Kc o4.c1)] (.intro (Aq o4.c1 30) fun o5=> .seg [.call [0] (.v (vB o5.p)) (Kc o5.c1)] (.br (.intro (Aa o5.c1 8) fun o6=>let z32:=Cx f.number o6.x;.seg [.call [0] (.v (vI o6.x)) (Kc o6.c1)] (.intro (Aq o6.c1 20) fun o7=> .seg [.call [0] (.v (vB o7.p)) (Kc o7.c1)] (.br (.intro (Aa o7.c1 5) fun o8=>let z28:=z39+o8.x-2;.seg [.call [0] (.v (vI o8.x)) (Kc o8.c1),.as 97 (.v (vI (z39+o8.x))),.as 98 (.v (vI z28)),.call [] (.v (.c (.int .u64 z32))) []] (.intro (Af o8.c1 z32) fun o9=> .seg [.call [0] (.v (vT o9.t)) (Kc o9.c1),.call [] (.v (vI (max 0 z28))) [],.as 108 (.v (.c (.int .u64 (max 0 z28))))] (.intro (Af o9.c1 (max 0 z28)) fun o10=> .seg [.call [0] (.v (vT o10.t)) (Kc o10.c1)] (.leaf (⟨(o9.t++o10.t)++o4.t,o10.c1⟩:A5) [0])))) (.seg [.call [] (.v (.c (.int .u64 z32))) []] (.intro (Af o7.c1 z32) fun o8=> .seg [.call [0] (.v (vT o8.t)) (Kc o8.c1),.call [] (.v (vI (max 0 z39))) [],.as 108 (.v (.c (.int .u64 (max 0 z39))))] (.intro (Af o8.c1 (max 0 z39)) fun o9=> .seg [.call [0] (.v (vT o9.t)) (Kc o9.c1)] (.leaf (⟨(o8.t++o9.t)++o4.t,o9.c1⟩:A5) [0]))))))) (.intro (Aq o5.c1 20) fun o6=> .seg [.call [0] (.v (vB o6.p)) (Kc o6.c1)] (.br (.intro (Aa o6.c1 5) fun o7=>let z35:=z39+o7.x-2;.seg [.call [0] (.v (vI o7.x)) (Kc o7.c1),.as 97 (.v (vI (z39+o7.x))),.as 98 (.v (vI z35)),.call [] z105 []] (.intro (Af o7.c1 z103) fun o8=> .seg [.call [0] (.v (vT o8.t)) (Kc o8.c1),.call [] (.v (vI (max 0 z35))) [],.as 108 (.v (.c (.int .u64 (max 0 z35))))] (.intro (Af o8.c1 (max 0 z35)) fun o9=> .seg [.call [0] (.v (vT o9.t)) (Kc o9.c1)] (.leaf (⟨(o8.t++o9.t)++o4.t,o9.c1⟩:A5) [0])))) (.seg [.call [] z105 []] (.intro (Af o6.c1 z103) fun o7=> .seg [.call [0] (.v (vT o7.t)) (Kc o7.c1),.call [] (.v (vI (max 0 z39))) [],.as 108 (.v (.c (.int .u64 (max 0 z39))))] (.intro (Af o7.c1 (max 0 z39)) fun o8=> .seg [.call [0] (.v (vT o8.t)) (Kc o8.c1)] (.leaf (⟨(o7.t++o8.t)++o4.t,o8.c1⟩:A5) [0]))))))))) (.intro (Aq o3.c1 30) fun o4=> .seg [.call [0] (.v (vB o4.p)) (Kc o4.c1)] (.br (.intro (Aa o4.c1 8) fun o5=>let z46:=Cx f.number o5.x;.seg [.call [0] (.v (vI o5.x)) (Kc o5.c1)] (.intro (Aq o5.c1 20) fun o6=> .seg [.call [0] (.v (vB o6.p)) (Kc o6.c1)] (.br (.intro (Aa o6.c1 5) fun o7=>let z42:=z53+o7.x-2;.seg [.call [0] (.v (vI o7.x)) (Kc o7.c1),.as 97 (.v (vI (z53+o7.x))),.as 98 (.v (vI z42)),.call [] (.v (.c (.int .u64 z46))) []] (.intro (Af o7.c1 z46) fun o8=> .seg [.call [0] (.v (vT o8.t)) (Kc o8.c1),.call [] (.v (vI (max 0 z42))) [],.as 108 (.v (.c (.int .u64 (max 0 z42))))] (.intro (Af o8.c1 (max 0 z42)) fun o9=> .seg [.call [0] (.v (vT o9.t)) (Kc o9.c1)] (.leaf (⟨(o8.t++o9.t)++o2.t,o9.c1⟩:A5) [0])))) (.seg [.call [] (.v (.c (.int .u64 z46))) []] (.intro (Af o6.c1 z46) fun o7=> .seg [.call [0] (.v (vT o7.t)) (Kc o7.c1),.call [] (.v (vI (max 0 z53))) [],.as 108 (.v (.c (.int .u64 (max 0 z53))))] (.intro (Af o7.c1 (max 0 z53)) fun o8=> .seg [.call [0] (.v (vT o8.t)) (Kc o8.c1)] (.leaf (⟨(o7.t++o8.t)++o2.t,o8.c1⟩:A5) [0]))))))) (.intro (Aq o4.c1 20) fun o5=> .seg [.call [0] (.v (vB o5.p)) (Kc o5.c1)] (.br (.intro (Aa o5.c1 5) fun o6=>let z49:=z53+o6.x-2;.seg [.call [0] (.v (vI o6.x)) (Kc o6.c1),.as 97 (.v (vI (z53+o6.x))),.as 98 (.v (vI z49)),.call [] z105 []] (.intro (Af o6.c1 z103) fun o7=> .seg [.call [0] (.v (vT o7.t)) (Kc o7.c1),.call [] (.v (vI (max 0 z49))) [],.as 108 (.v (.c (.int .u64 (max 0 z49))))] (.intro (Af o7.c1 (max 0 z49)) fun o8=> .seg [.call [0] (.v (vT o8.t)) (Kc o8.c1)] (.leaf (⟨(o7.t++o8.t)++o2.t,o8.c1⟩:A5) [0])))) (.seg [.call [] z105 []] (.intro (Af o5.c1 z103) fun o6=> .seg [.call [0] (.v (vT o6.t)) (Kc o6.c1),.call [] (.v (vI (max 0 z53))) [],.as 108 (.v (.c (.int .u64 (max 0 z53))))] (.intro (Af o6.c1 (max 0 z53)) fun o7=> .seg [.call [0] (.v (vT o7.t)) (Kc o7.c1)] (.leaf (⟨(o6.t++o7.t)++o2.t,o7.c1⟩:A5) [0])))))))))))) (.br (.intro (Aa c 6) fun o1=> .seg [.call [0] (.v (vI o1.x)) (Kc o1.c1)] (.intro (Bj o1.c1 o1.x) fun o2=>let z68:=List.map A9 o2.l;let z67:=((List.length z68:Nat):Int);.seg [.call [0] (.v (vO 1)) [.cells (Bz o2.c1),.lst .u8 o2.l]] (.intro (Aq o2.c1 30) fun o3=> .seg [.call [0] (.v (vB o3.p)) (Kc o3.c1)] (.br (.intro (Aa o3.c1 8) fun o4=>let z60:=Cx f.number o4.x;.seg [.call [0] (.v (vI o4.x)) (Kc o4.c1)] (.intro (Aq o4.c1 20) fun o5=> .seg [.call [0] (.v (vB o5.p)) (Kc o5.c1)] (.br (.intro (Aa o5.c1 5) fun o6=>let z56:=z67+o6.x-2;.seg [.call [0] (.v (vI o6.x)) (Kc o6.c1),.as 97 (.v (vI (z67+o6.x))),.as 98 (.v (vI z56)),.call [] (.v (.c (.int .u64 z60))) []] (.intro (Af o6.c1 z60) fun o7=> .seg [.call [0] (.v (vT o7.t)) (Kc o7.c1),.call [] (.v (vI (max 0 z56))) [],.as 108 (.v (.c (.int .u64 (max 0 z56))))] (.intro (Af o7.c1 (max 0 z56)) fun o8=> .seg [.call [0] (.v (vT o8.t)) (Kc o8.c1)] (.leaf (⟨(o7.t++o8.t)++z68,o8.c1⟩:A5) [0])))) (.seg [.call [] (.v (.c (.int .u64 z60))) []] (.intro (Af o5.c1 z60) fun o6=> .seg [.call [0] (.v (vT o6.t)) (Kc o6.c1),.call [] (.v (vI (max 0 z67))) [],.as 108 (.v (.c (.int .u64 (max 0 z67))))] (.intro (Af o6.c1 (max 0 z67)) fun o7=> .seg [.call [0] (.v (vT o7.t)) (Kc o7.c1)] (.leaf (⟨(o6.t++o7.t)++z68,o7.c1⟩:A5) [0]))))))) (.intro (Aq o3.c1 20) fun o4=> .seg [.call [0] (.v (vB o4.p)) (Kc o4.c1)] (.br (.intro (Aa o4.c1 5) fun o5=>let z63:=z67+o5.x-2;.seg [.call [0] (.v (vI o5.x)) (Kc o5.c1),.as 97 (.v (vI (z67+o5.x))),.as 98 (.v (vI z63)),.call [] z105 []] (.intro (Af o5.c1 z103) fun o6=> .seg [.call [0] (.v (vT o6.t)) (Kc o6.c1),.call [] (.v (vI (max 0 z63))) [],.as 108 (.v (.c (.int .u64 (max 0 z63))))] (.intro (Af o6.c1 (max 0 z63)) fun o7=> .seg [.call [0] (.v (vT o7.t)) (Kc o7.c1)] (.leaf (⟨(o6.t++o7.t)++z68,o7.c1⟩:A5) [0])))) (.seg [.call [] z105 []] (.intro (Af o4.c1 z103) fun o5=> .seg [.call [0] (.v (vT o5.t)) (Kc o5.c1),.call [] (.v (vI (max 0 z67))) [],.as 108 (.v (.c (.int .u64 (max 0 z67))))] (.intro (Af o5.c1 (max 0 z67)) fun o6=> .seg [.call [0] (.v (vT o6.t)) (Kc o6.c1)] (.leaf (⟨(o5.t++o6.t)++z68,o6.c1⟩:A5) [0])))))))))) (.seg [.call [] (.v (vB (Tw f))) []] (.br (.br (.intro (Aa c 4) fun o1=> .seg [.call [0] (.v (vI o1.x)) (Kc o1.c1),.at 0,.keep [0,6,9,10,11,12],.sel [0,2]] (.loop (C9 f o1) fun q1=>let z83:=((List.length q1.body:Nat):Int);.br (.intro (Dk q1.c f.kind) fun o2=> .seg [.call [0] (.v (vT o2.t)) (Kc o2.c1),.as 79 (.v (vI (((q1.i:Nat):Int)+1))),.at 0,.keep [0,6,9,10,11,12],.sel [0,1]] (.next)) (.intro (Aq q1.c 30) fun o2=> .seg [.call [0] (.v (vB o2.p)) (Kc o2.c1)] (.br (.intro (Aa o2.c1 8) fun o3=>let z76:=Cx f.number o3.x;.seg [.call [0] (.v (vI o3.x)) (Kc o3.c1)] (.intro (Aq o3.c1 20) fun o4=> .seg [.call [0] (.v (vB o4.p)) (Kc o4.c1)] (.br (.intro (Aa o4.c1 5) fun o5=>let z72:=z83+o5.x-2;.seg [.call [0] (.v (vI o5.x)) (Kc o5.c1),.as 97 (.v (vI (z83+o5.x))),.as 98 (.v (vI z72)),.call [] (.v (.c (.int .u64 z76))) []] (.intro (Af o5.c1 z76) fun o6=> .seg [.call [0] (.v (vT o6.t)) (Kc o6.c1),.call [] (.v (vI (max 0 z72))) [],.as 108 (.v (.c (.int .u64 (max 0 z72))))] (.intro (Af o6.c1 (max 0 z72)) fun o7=> .seg [.call [0] (.v (vT o7.t)) (Kc o7.c1)] (.leaf (⟨(o6.t++o7.t)++q1.body,o7.c1⟩:A5) [0])))) (.seg [.call [] (.v (.c (.int .u64 z76))) []] (.intro (Af o4.c1 z76) fun o5=> .seg [.call [0] (.v (vT o5.t)) (Kc o5.c1),.call [] (.v (vI (max 0 z83))) [],.as 108 (.v (.c (.int .u64 (max 0 z83))))] (.intro (Af o5.c1 (max 0 z83)) fun o6=> .seg [.call [0] (.v (vT o6.t)) (Kc o6.c1)] (.leaf (⟨(o5.t++o6.t)++q1.body,o6.c1⟩:A5) [0]))))))) (.intro (Aq o2.c1 20) fun o3=> .seg [.call [0] (.v (vB o3.p)) (Kc o3.c1)] (.br (.intro (Aa o3.c1 5) fun o4=>let z79:=z83+o4.x-2;.seg [.call [0] (.v (vI o4.x)) (Kc o4.c1),.as 97 (.v (vI (z83+o4.x))),.as 98 (.v (vI z79)),.call [] z109 []] (.intro (Af o4.c1 z108) fun o5=> .seg [.call [0] (.v (vT o5.t)) (Kc o5.c1),.call [] (.v (vI (max 0 z79))) [],.as 108 (.v (.c (.int .u64 (max 0 z79))))] (.intro (Af o5.c1 (max 0 z79)) fun o6=> .seg [.call [0] (.v (vT o6.t)) (Kc o6.c1)] (.leaf (⟨(o5.t++o6.t)++q1.body,o6.c1⟩:A5) [0])))) (.seg [.call [] z109 []] (.intro (Af o3.c1 z108) fun o4=> .seg [.call [0] (.v (vT o4.t)) (Kc o4.c1),.call [] (.v (vI (max 0 z83))) [],.as 108 (.v (.c (.int .u64 (max 0 z83))))] (.intro (Af o4.c1 (max 0 z83)) fun o5=> .seg [.call [0] (.v (vT o5.t)) (Kc o5.c1)] (.leaf (⟨(o4.t++o5.t)++q1.body,o5.c1⟩:A5) [0])))))))))) (.intro (Aq c 3) fun o1=> .seg [.call [0] (.v (vB o1.p)) (Kc o1.c1)] (.br (.intro (Aa o1.c1 4) fun o2=> .seg [.call [0] (.v (vI o2.x)) (Kc o2.c1),.at 0,.keep [0,6,9,10,11,12],.sel [0,2]] (.loop (C9 f o2) fun q1=>let z99:=((List.length q1.body:Nat):Int);.br (.intro (Dk q1.c f.kind) fun o3=> .seg [.call [0] (.v (vT o3.t)) (Kc o3.c1),.as 79 (.v (vI (((q1.i:Nat):Int)+1))),.at 0,.keep [0,6,9,10,11,12],.sel [0,1]] (.next)) (.intro (Aq q1.c 30) fun o3=> .seg [.call [0] (.v (vB o3.p)) (Kc o3.c1)] (.br (.intro (Aa o3.c1 8) fun o4=>let z92:=Cx f.number o4.x;.seg [.call [0] (.v (vI o4.x)) (Kc o4.c1)] (.intro (Aq o4.c1 20) fun o5=> .seg [.call [0] (.v (vB o5.p)) (Kc o5.c1)] (.br (.intro (Aa o5.c1 5) fun o6=>let z88:=z99+o6.x-2;.seg [.call [0] (.v (vI o6.x)) (Kc o6.c1),.as 97 (.v (vI (z99+o6.x))),.as 98 (.v (vI z88)),.call [] (.v (.c (.int .u64 z92))) []] (.intro (Af o6.c1 z92) fun o7=> .seg [.call [0] (.v (vT o7.t)) (Kc o7.c1),.call [] (.v (vI (max 0 z88))) [],.as 108 (.v (.c (.int .u64 (max 0 z88))))] (.intro (Af o7.c1 (max 0 z88)) fun o8=> .seg [.call [0] (.v (vT o8.t)) (Kc o8.c1)] (.leaf (⟨(o7.t++o8.t)++q1.body,o8.c1⟩:A5) [0])))) (.seg [.call [] (.v (.c (.int .u64 z92))) []] (.intro (Af o5.c1 z92) fun o6=> .seg [.call [0] (.v (vT o6.t)) (Kc o6.c1),.call [] (.v (vI (max 0 z99))) [],.as 108 (.v (.c (.int .u64 (max 0 z99))))] (.intro (Af o6.c1 (max 0 z99)) fun o7=> .seg [.call [0] (.v (vT o7.t)) (Kc o7.c1)] (.leaf (⟨(o6.t++o7.t)++q1.body,o7.c1⟩:A5) [0]))))))) (.intro (Aq o3.c1 20) fun o4=> .seg [.call [0] (.v (vB o4.p)) (Kc o4.c1)] (.br (.intro (Aa o4.c1 5) fun o5=>let z95:=z99+o5.x-2;.seg [.call [0] (.v (vI o5.x)) (Kc o5.c1),.as 97 (.v (vI (z99+o5.x))),.as 98 (.v (vI z95)),.call [] z109 []] (.intro (Af o5.c1 z108) fun o6=> .seg [.call [0] (.v (vT o6.t)) (Kc o6.c1),.call [] (.v (vI (max 0 z95))) [],.as 108 (.v (.c (.int .u64 (max 0 z95))))] (.intro (Af o6.c1 (max 0 z95)) fun o7=> .seg [.call [0] (.v (vT o7.t)) (Kc o7.c1)] (.leaf (⟨(o6.t++o7.t)++q1.body,o7.c1⟩:A5) [0])))) (.seg [.call [] z109 []] (.intro (Af o4.c1 z108) fun o5=> .seg [.call [0] (.v (vT o5.t)) (Kc o5.c1),.call [] (.v (vI (max 0 z99))) [],.as 108 (.v (.c (.int .u64 (max 0 z99))))] (.intro (Af o5.c1 (max 0 z99)) fun o6=> .seg [.call [0] (.v (vT o6.t)) (Kc o6.c1)] (.leaf (⟨(o5.t++o6.t)++q1.body,o6.c1⟩:A5) [0])))))))))) (.intro (Af o1.c1 z103) fun o2=> .intro (Dk o2.c1 f.kind) fun o3=> .seg [.ord [(0,true),(1,true),(2,true),(3,true),(6,true),(7,true),(8,true),(4,false),(5,false),(9,false),(10,true),(11,true)] [0],.call [] z105 [],.call [0] (.v (vT o2.t)) (Kc o2.c1),.call [0] (.v (vT o3.t)) (Kc o3.c1)] (.leaf (⟨o2.t++o3.t,o3.c1⟩:A5) [0]))))) (.intro (Af c z103) fun o1=> .intro (Dk o1.c1 f.kind) fun o2=> .seg [.ord [(0,true),(1,true),(2,true),(3,true),(6,true),(7,true),(8,true),(4,false),(5,false),(9,false),(10,true),(11,true)] [0],.call [] z105 [],.call [0] (.v (vT o1.t)) (Kc o1.c1),.call [0] (.v (vT o2.t)) (Kc o2.c1)] (.leaf (⟨o1.t++o2.t,o2.c1⟩:A5) [0]))))))),(Fp 178 [vI f.kind] [] (.v (vI z113)) [])∧Bc (decide (f.kind=8)) (Bc (decide (0<deep)) ((wI (deep-1))∧In (Anf c p f.msg (deep-1)) fun o1=>(let z14:=((List.length o1.t:Nat):Int);(Ans c p f.msg (deep-1) o1)∧In (Aq o1.c1 30) fun o2=>((Bg o1.c1 30 o2)∧Bc o2.p (In (Aa o2.c1 8) fun o3=>(let z7:=Cx f.number o3.x;(Ai o2.c1 8 o3)∧In (Aq o3.c1 20) fun o4=>((Bg o3.c1 20 o4)∧Bc o4.p (In (Aa o4.c1 5) fun o5=>(let z3:=z14+o5.x-2;let z4:=z14+o5.x;(Ai o4.c1 5 o5)∧(wI z4)∧((.v (vI (IntKind.i64.wrap (z4-2))):S)= .v (vI z3))∧(Fp 176 [vI f.number,vI o3.x] [] (.v (.c (.int .u64 z7))) [])∧In (Af o5.c1 z7) fun o6=>((Au o5.c1 z7 o6)∧(Fp 75 [vI 0,vI z3] [] (.v (vI (max 0 z3))) [])∧(wU (max 0 z3))∧In (Af o6.c1 (max 0 z3)) fun o7=>(let z1:=(o6.t++o7.t)++o1.t;(Au o6.c1 (max 0 z3) o7)∧(((List.length o6.t+List.length o7.t:Nat):Int)≤Ba)∧(((List.length (o6.t++o7.t)+List.length o1.t:Nat):Int)≤Ba)∧((List.length (z1:List UInt8)≤D0 z106)∧(Av o7.c1))∧Lf (.v (vT z1)) (.v (vT z1)) (Kc o7.c1) (Kc o7.c1))))) ((Fp 176 [vI f.number,vI o3.x] [] (.v (.c (.int .u64 z7))) [])∧In (Af o4.c1 z7) fun o5=>((Au o4.c1 z7 o5)∧(Fp 75 [vI 0,vI z14] [] (.v (vI (max 0 z14))) [])∧(wU (max 0 z14))∧In (Af o5.c1 (max 0 z14)) fun o6=>(let z5:=(o5.t++o6.t)++o1.t;(Au o5.c1 (max 0 z14) o6)∧(((List.length o5.t+List.length o6.t:Nat):Int)≤Ba)∧(((List.length (o5.t++o6.t)+List.length o1.t:Nat):Int)≤Ba)∧((List.length (z5:List UInt8)≤D0 z106)∧(Av o6.c1))∧Lf (.v (vT z5)) (.v (vT z5)) (Kc o6.c1) (Kc o6.c1))))))) (In (Aq o2.c1 20) fun o3=>((Bg o2.c1 20 o3)∧Bc o3.p (In (Aa o3.c1 5) fun o4=>(let z10:=z14+o4.x-2;let z11:=z14+o4.x;(Ai o3.c1 5 o4)∧(wI z11)∧((.v (vI (IntKind.i64.wrap (z11-2))):S)= .v (vI z10))∧(Fp 176 z107 [] z105 [])∧In (Af o4.c1 z103) fun o5=>((Au o4.c1 z103 o5)∧(Fp 75 [vI 0,vI z10] [] (.v (vI (max 0 z10))) [])∧(wU (max 0 z10))∧In (Af o5.c1 (max 0 z10)) fun o6=>(let z8:=(o5.t++o6.t)++o1.t;(Au o5.c1 (max 0 z10) o6)∧(((List.length o5.t+List.length o6.t:Nat):Int)≤Ba)∧(((List.length (o5.t++o6.t)+List.length o1.t:Nat):Int)≤Ba)∧((List.length (z8:List UInt8)≤D0 z106)∧(Av o6.c1))∧Lf (.v (vT z8)) (.v (vT z8)) (Kc o6.c1) (Kc o6.c1))))) ((Fp 176 z107 [] z105 [])∧In (Af o3.c1 z103) fun o4=>((Au o3.c1 z103 o4)∧(Fp 75 [vI 0,vI z14] [] (.v (vI (max 0 z14))) [])∧(wU (max 0 z14))∧In (Af o4.c1 (max 0 z14)) fun o5=>(let z12:=(o4.t++o5.t)++o1.t;(Au o4.c1 (max 0 z14) o5)∧(((List.length o4.t+List.length o5.t:Nat):Int)≤Ba)∧(((List.length (o4.t++o5.t)+List.length o1.t:Nat):Int)≤Ba)∧((List.length (z12:List UInt8)≤D0 z106)∧(Av o5.c1))∧Lf (.v (vT z12)) (.v (vT z12)) (Kc o5.c1) (Kc o5.c1))))))))) (In (Aq c 30) fun o1=>((Bg c 30 o1)∧Bc o1.p (In (Aa o1.c1 8) fun o2=>(let z21:=Cx f.number o2.x;(Ai o1.c1 8 o2)∧In (Aq o2.c1 20) fun o3=>((Bg o2.c1 20 o3)∧Bc o3.p (In (Aa o3.c1 5) fun o4=>(let z17:=z104+o4.x-2;let z18:=z104+o4.x;(Ai o3.c1 5 o4)∧(wI z18)∧((.v (vI (IntKind.i64.wrap (z18-2))):S)= .v (vI z17))∧(Fp 176 [vI f.number,vI o2.x] [] (.v (.c (.int .u64 z21))) [])∧In (Af o4.c1 z21) fun o5=>((Au o4.c1 z21 o5)∧(Fp 75 [vI 0,vI z17] [] (.v (vI (max 0 z17))) [])∧(wU (max 0 z17))∧In (Af o5.c1 (max 0 z17)) fun o6=>(let z15:=(o5.t++o6.t)++[];(Au o5.c1 (max 0 z17) o6)∧(((List.length o5.t+List.length o6.t:Nat):Int)≤Ba)∧(((List.length (o5.t++o6.t)+List.length z111:Nat):Int)≤Ba)∧((List.length (z15:List UInt8)≤D0 z106)∧(Av o6.c1))∧Lf (.v (vT z15)) (.v (vT z15)) (Kc o6.c1) (Kc o6.c1))))) ((Fp 176 [vI f.number,vI o2.x] [] (.v (.c (.int .u64 z21))) [])∧In (Af o3.c1 z21) fun o4=>((Au o3.c1 z21 o4)∧(Fp 75 [vI 0,vI z104] [] z114 [])∧(wU z110)∧In (Af o4.c1 z110) fun o5=>(let z19:=(o4.t++o5.t)++[];(Au o4.c1 z110 o5)∧(((List.length o4.t+List.length o5.t:Nat):Int)≤Ba)∧(((List.length (o4.t++o5.t)+List.length z111:Nat):Int)≤Ba)∧((List.length (z19:List UInt8)≤D0 z106)∧(Av o5.c1))∧Lf (.v (vT z19)) (.v (vT z19)) (Kc o5.c1) (Kc o5.c1))))))) (In (Aq o1.c1 20) fun o2=>((Bg o1.c1 20 o2)∧Bc o2.p (In (Aa o2.c1 5) fun o3=>(let z24:=z104+o3.x-2;let z25:=z104+o3.x;(Ai o2.c1 5 o3)∧(wI z25)∧((.v (vI (IntKind.i64.wrap (z25-2))):S)= .v (vI z24))∧(Fp 176 z107 [] z105 [])∧In (Af o3.c1 z103) fun o4=>((Au o3.c1 z103 o4)∧(Fp 75 [vI 0,vI z24] [] (.v (vI (max 0 z24))) [])∧(wU (max 0 z24))∧In (Af o4.c1 (max 0 z24)) fun o5=>(let z22:=(o4.t++o5.t)++[];(Au o4.c1 (max 0 z24) o5)∧(((List.length o4.t+List.length o5.t:Nat):Int)≤Ba)∧(((List.length (o4.t++o5.t)+List.length z111:Nat):Int)≤Ba)∧((List.length (z22:List UInt8)≤D0 z106)∧(Av o5.c1))∧Lf (.v (vT z22)) (.v (vT z22)) (Kc o5.c1) (Kc o5.c1))))) ((Fp 176 z107 [] z105 [])∧In (Af o2.c1 z103) fun o3=>((Au o2.c1 z103 o3)∧(Fp 75 [vI 0,vI z104] [] z114 [])∧(wU z110)∧In (Af o3.c1 z110) fun o4=>(let z26:=(o3.t++o4.t)++[];(Au o3.c1 z110 o4)∧(((List.length o3.t+List.length o4.t:Nat):Int)≤Ba)∧(((List.length (o3.t++o4.t)+List.length z111:Nat):Int)≤Ba)∧((List.length (z26:List UInt8)≤D0 z106)∧(Av o4.c1))∧Lf (.v (vT z26)) (.v (vT z26)) (Kc o4.c1) (Kc o4.c1))))))))) (Bc (decide (f.kind=6)) (In (Aa c 3) fun o1=>((Ai c 3 o1)∧In (L8 o1.c1 o1.x) fun o2=>(let z54:=((List.length o2.t:Nat):Int);(Th o1.c1 o1.x o2)∧In (Aq o2.c1 8) fun o3=>((Bg o2.c1 8 o3)∧Bc o3.p (In (L9 o3.c1) fun o4=>(let z40:=((List.length o4.t:Nat):Int);(Ti o3.c1 o4)∧In (Aq o4.c1 30) fun o5=>((Bg o4.c1 30 o5)∧Bc o5.p (In (Aa o5.c1 8) fun o6=>(let z33:=Cx f.number o6.x;(Ai o5.c1 8 o6)∧In (Aq o6.c1 20) fun o7=>((Bg o6.c1 20 o7)∧Bc o7.p (In (Aa o7.c1 5) fun o8=>(let z29:=z40+o8.x-2;let z30:=z40+o8.x;(Ai o7.c1 5 o8)∧(wI z30)∧((.v (vI (IntKind.i64.wrap (z30-2))):S)= .v (vI z29))∧(Fp 176 [vI f.number,vI o6.x] [] (.v (.c (.int .u64 z33))) [])∧In (Af o8.c1 z33) fun o9=>((Au o8.c1 z33 o9)∧(Fp 75 [vI 0,vI z29] [] (.v (vI (max 0 z29))) [])∧(wU (max 0 z29))∧In (Af o9.c1 (max 0 z29)) fun o10=>(let z27:=(o9.t++o10.t)++o4.t;(Au o9.c1 (max 0 z29) o10)∧(((List.length o9.t+List.length o10.t:Nat):Int)≤Ba)∧(((List.length (o9.t++o10.t)+List.length o4.t:Nat):Int)≤Ba)∧((List.length (z27:List UInt8)≤D0 z106)∧(Av o10.c1))∧Lf (.v (vT z27)) (.v (vT z27)) (Kc o10.c1) (Kc o10.c1))))) ((Fp 176 [vI f.number,vI o6.x] [] (.v (.c (.int .u64 z33))) [])∧In (Af o7.c1 z33) fun o8=>((Au o7.c1 z33 o8)∧(Fp 75 [vI 0,vI z40] [] (.v (vI (max 0 z40))) [])∧(wU (max 0 z40))∧In (Af o8.c1 (max 0 z40)) fun o9=>(let z31:=(o8.t++o9.t)++o4.t;(Au o8.c1 (max 0 z40) o9)∧(((List.length o8.t+List.length o9.t:Nat):Int)≤Ba)∧(((List.length (o8.t++o9.t)+List.length o4.t:Nat):Int)≤Ba)∧((List.length (z31:List UInt8)≤D0 z106)∧(Av o9.c1))∧Lf (.v (vT z31)) (.v (vT z31)) (Kc o9.c1) (Kc o9.c1))))))) (In (Aq o5.c1 20) fun o6=>((Bg o5.c1 20 o6)∧Bc o6.p (In (Aa o6.c1 5) fun o7=>(let z36:=z40+o7.x-2;let z37:=z40+o7.x;(Ai o6.c1 5 o7)∧(wI z37)∧((.v (vI (IntKind.i64.wrap (z37-2))):S)= .v (vI z36))∧(Fp 176 z107 [] z105 [])∧In (Af o7.c1 z103) fun o8=>((Au o7.c1 z103 o8)∧(Fp 75 [vI 0,vI z36] [] (.v (vI (max 0 z36))) [])∧(wU (max 0 z36))∧In (Af o8.c1 (max 0 z36)) fun o9=>(let z34:=(o8.t++o9.t)++o4.t;(Au o8.c1 (max 0 z36) o9)∧(((List.length o8.t+List.length o9.t:Nat):Int)≤Ba)∧(((List.length (o8.t++o9.t)+List.length o4.t:Nat):Int)≤Ba)∧((List.length (z34:List UInt8)≤D0 z106)∧(Av o9.c1))∧Lf (.v (vT z34)) (.v (vT z34)) (Kc o9.c1) (Kc o9.c1))))) ((Fp 176 z107 [] z105 [])∧In (Af o6.c1 z103) fun o7=>((Au o6.c1 z103 o7)∧(Fp 75 [vI 0,vI z40] [] (.v (vI (max 0 z40))) [])∧(wU (max 0 z40))∧In (Af o7.c1 (max 0 z40)) fun o8=>(let z38:=(o7.t++o8.t)++o4.t;(Au o7.c1 (max 0 z40) o8)∧(((List.length o7.t+List.length o8.t:Nat):Int)≤Ba)∧(((List.length (o7.t++o8.t)+List.length o4.t:Nat):Int)≤Ba)∧((List.length (z38:List UInt8)≤D0 z106)∧(Av o8.c1))∧Lf (.v (vT z38)) (.v (vT z38)) (Kc o8.c1) (Kc o8.c1))))))))) (In (Aq o3.c1 30) fun o4=>((Bg o3.c1 30 o4)∧Bc o4.p (In (Aa o4.c1 8) fun o5=>(let z47:=Cx f.number o5.x;(Ai o4.c1 8 o5)∧In (Aq o5.c1 20) fun o6=>((Bg o5.c1 20 o6)∧Bc o6.p (In (Aa o6.c1 5) fun o7=>(let z43:=z54+o7.x-2;let z44:=z54+o7.x;(Ai o6.c1 5 o7)∧(wI z44)∧((.v (vI (IntKind.i64.wrap (z44-2))):S)= .v (vI z43))∧(Fp 176 [vI f.number,vI o5.x] [] (.v (.c (.int .u64 z47))) [])∧In (Af o7.c1 z47) fun o8=>((Au o7.c1 z47 o8)∧(Fp 75 [vI 0,vI z43] [] (.v (vI (max 0 z43))) [])∧(wU (max 0 z43))∧In (Af o8.c1 (max 0 z43)) fun o9=>(let z41:=(o8.t++o9.t)++o2.t;(Au o8.c1 (max 0 z43) o9)∧(((List.length o8.t+List.length o9.t:Nat):Int)≤Ba)∧(((List.length (o8.t++o9.t)+List.length o2.t:Nat):Int)≤Ba)∧((List.length (z41:List UInt8)≤D0 z106)∧(Av o9.c1))∧Lf (.v (vT z41)) (.v (vT z41)) (Kc o9.c1) (Kc o9.c1))))) ((Fp 176 [vI f.number,vI o5.x] [] (.v (.c (.int .u64 z47))) [])∧In (Af o6.c1 z47) fun o7=>((Au o6.c1 z47 o7)∧(Fp 75 [vI 0,vI z54] [] (.v (vI (max 0 z54))) [])∧(wU (max 0 z54))∧In (Af o7.c1 (max 0 z54)) fun o8=>(let z45:=(o7.t++o8.t)++o2.t;(Au o7.c1 (max 0 z54) o8)∧(((List.length o7.t+List.length o8.t:Nat):Int)≤Ba)∧(((List.length (o7.t++o8.t)+List.length o2.t:Nat):Int)≤Ba)∧((List.length (z45:List UInt8)≤D0 z106)∧(Av o8.c1))∧Lf (.v (vT z45)) (.v (vT z45)) (Kc o8.c1) (Kc o8.c1))))))) (In (Aq o4.c1 20) fun o5=>((Bg o4.c1 20 o5)∧Bc o5.p (In (Aa o5.c1 5) fun o6=>(let z50:=z54+o6.x-2;let z51:=z54+o6.x;(Ai o5.c1 5 o6)∧(wI z51)∧((.v (vI (IntKind.i64.wrap (z51-2))):S)= .v (vI z50))∧(Fp 176 z107 [] z105 [])∧In (Af o6.c1 z103) fun o7=>((Au o6.c1 z103 o7)∧(Fp 75 [vI 0,vI z50] [] (.v (vI (max 0 z50))) [])∧(wU (max 0 z50))∧In (Af o7.c1 (max 0 z50)) fun o8=>(let z48:=(o7.t++o8.t)++o2.t;(Au o7.c1 (max 0 z50) o8)∧(((List.length o7.t+List.length o8.t:Nat):Int)≤Ba)∧(((List.length (o7.t++o8.t)+List.length o2.t:Nat):Int)≤Ba)∧((List.length (z48:List UInt8)≤D0 z106)∧(Av o8.c1))∧Lf (.v (vT z48)) (.v (vT z48)) (Kc o8.c1) (Kc o8.c1))))) ((Fp 176 z107 [] z105 [])∧In (Af o5.c1 z103) fun o6=>((Au o5.c1 z103 o6)∧(Fp 75 [vI 0,vI z54] [] (.v (vI (max 0 z54))) [])∧(wU (max 0 z54))∧In (Af o6.c1 (max 0 z54)) fun o7=>(let z52:=(o6.t++o7.t)++o2.t;(Au o6.c1 (max 0 z54) o7)∧(((List.length o6.t+List.length o7.t:Nat):Int)≤Ba)∧(((List.length (o6.t++o7.t)+List.length o2.t:Nat):Int)≤Ba)∧((List.length (z52:List UInt8)≤D0 z106)∧(Av o7.c1))∧Lf (.v (vT z52)) (.v (vT z52)) (Kc o7.c1) (Kc o7.c1)))))))))))) (Bc (decide (f.kind=7)) (In (Aa c 6) fun o1=>((Ai c 6 o1)∧In (Bj o1.c1 o1.x) fun o2=>(let z70:=List.map A9 o2.l;let z69:=((List.length z70:Nat):Int);(Cp o1.c1 o1.x o2)∧In (Aq o2.c1 30) fun o3=>((Bg o2.c1 30 o3)∧Bc o3.p (In (Aa o3.c1 8) fun o4=>(let z61:=Cx f.number o4.x;(Ai o3.c1 8 o4)∧In (Aq o4.c1 20) fun o5=>((Bg o4.c1 20 o5)∧Bc o5.p (In (Aa o5.c1 5) fun o6=>(let z57:=z69+o6.x-2;let z58:=z69+o6.x;(Ai o5.c1 5 o6)∧(wI z58)∧((.v (vI (IntKind.i64.wrap (z58-2))):S)= .v (vI z57))∧(Fp 176 [vI f.number,vI o4.x] [] (.v (.c (.int .u64 z61))) [])∧In (Af o6.c1 z61) fun o7=>((Au o6.c1 z61 o7)∧(Fp 75 [vI 0,vI z57] [] (.v (vI (max 0 z57))) [])∧(wU (max 0 z57))∧In (Af o7.c1 (max 0 z57)) fun o8=>(let z55:=(o7.t++o8.t)++z70;(Au o7.c1 (max 0 z57) o8)∧(((List.length o7.t+List.length o8.t:Nat):Int)≤Ba)∧(((List.length (o7.t++o8.t)+List.length z70:Nat):Int)≤Ba)∧((List.length (z55:List UInt8)≤D0 z106)∧(Av o8.c1))∧Lf (.v (vT z55)) (.v (vT z55)) (Kc o8.c1) (Kc o8.c1))))) ((Fp 176 [vI f.number,vI o4.x] [] (.v (.c (.int .u64 z61))) [])∧In (Af o5.c1 z61) fun o6=>((Au o5.c1 z61 o6)∧(Fp 75 [vI 0,vI z69] [] (.v (vI (max 0 z69))) [])∧(wU (max 0 z69))∧In (Af o6.c1 (max 0 z69)) fun o7=>(let z59:=(o6.t++o7.t)++z70;(Au o6.c1 (max 0 z69) o7)∧(((List.length o6.t+List.length o7.t:Nat):Int)≤Ba)∧(((List.length (o6.t++o7.t)+List.length z70:Nat):Int)≤Ba)∧((List.length (z59:List UInt8)≤D0 z106)∧(Av o7.c1))∧Lf (.v (vT z59)) (.v (vT z59)) (Kc o7.c1) (Kc o7.c1))))))) (In (Aq o3.c1 20) fun o4=>((Bg o3.c1 20 o4)∧Bc o4.p (In (Aa o4.c1 5) fun o5=>(let z64:=z69+o5.x-2;let z65:=z69+o5.x;(Ai o4.c1 5 o5)∧(wI z65)∧((.v (vI (IntKind.i64.wrap (z65-2))):S)= .v (vI z64))∧(Fp 176 z107 [] z105 [])∧In (Af o5.c1 z103) fun o6=>((Au o5.c1 z103 o6)∧(Fp 75 [vI 0,vI z64] [] (.v (vI (max 0 z64))) [])∧(wU (max 0 z64))∧In (Af o6.c1 (max 0 z64)) fun o7=>(let z62:=(o6.t++o7.t)++z70;(Au o6.c1 (max 0 z64) o7)∧(((List.length o6.t+List.length o7.t:Nat):Int)≤Ba)∧(((List.length (o6.t++o7.t)+List.length z70:Nat):Int)≤Ba)∧((List.length (z62:List UInt8)≤D0 z106)∧(Av o7.c1))∧Lf (.v (vT z62)) (.v (vT z62)) (Kc o7.c1) (Kc o7.c1))))) ((Fp 176 z107 [] z105 [])∧In (Af o4.c1 z103) fun o5=>((Au o4.c1 z103 o5)∧(Fp 75 [vI 0,vI z69] [] (.v (vI (max 0 z69))) [])∧(wU (max 0 z69))∧In (Af o5.c1 (max 0 z69)) fun o6=>(let z66:=(o5.t++o6.t)++z70;(Au o5.c1 (max 0 z69) o6)∧(((List.length o5.t+List.length o6.t:Nat):Int)≤Ba)∧(((List.length (o5.t++o6.t)+List.length z70:Nat):Int)≤Ba)∧((List.length (z66:List UInt8)≤D0 z106)∧(Av o6.c1))∧Lf (.v (vT z66)) (.v (vT z66)) (Kc o6.c1) (Kc o6.c1)))))))))) ((Fp 181 [.agg (Fr f)] [] (.v (vB (Tw f))) [])∧Bc (Tw f) (Bc f.packed (In (Aa c 4) fun o1=>(let z86:=C9 f o1;(Ai c 4 o1)∧z86.Has [(0,.v (vP 0)),(6,.v (vP 1)),(9,.v (vI 2)),(10,.v (vT [])),(11,.v (vI o1.x)),(12,.v (vI 0))] [.cells (Bz o1.c1),.cells (Fr f)]∧∀q1,z86.inv q1→(let z84:=((List.length q1.body:Nat):Int);let z85:=((q1.i:Nat):Int);Bc (decide (z85<o1.x)) (In (Dk q1.c f.kind) fun o2=>((Gz q1.c f.kind o2)∧(((List.length q1.body+List.length o2.t:Nat):Int)≤Ba)∧(wI (z85+1))∧z86.Nxt q1 [(0,.v (vP 0)),(6,.v (vP 1)),(9,.v (vI 2)),(10,.v (vT (q1.body++o2.t))),(11,.v (vI o1.x)),(12,.v (vI (z85+1)))] [.cells (Bz o2.c1),.cells (Fr f)])) (In (Aq q1.c 30) fun o2=>((Bg q1.c 30 o2)∧Bc o2.p (In (Aa o2.c1 8) fun o3=>(let z77:=Cx f.number o3.x;(Ai o2.c1 8 o3)∧In (Aq o3.c1 20) fun o4=>((Bg o3.c1 20 o4)∧Bc o4.p (In (Aa o4.c1 5) fun o5=>(let z73:=z84+o5.x-2;let z74:=z84+o5.x;(Ai o4.c1 5 o5)∧(wI z74)∧((.v (vI (IntKind.i64.wrap (z74-2))):S)= .v (vI z73))∧(Fp 176 [vI f.number,vI o3.x] [] (.v (.c (.int .u64 z77))) [])∧In (Af o5.c1 z77) fun o6=>((Au o5.c1 z77 o6)∧(Fp 75 [vI 0,vI z73] [] (.v (vI (max 0 z73))) [])∧(wU (max 0 z73))∧In (Af o6.c1 (max 0 z73)) fun o7=>(let z71:=(o6.t++o7.t)++q1.body;(Au o6.c1 (max 0 z73) o7)∧(((List.length o6.t+List.length o7.t:Nat):Int)≤Ba)∧(((List.length (o6.t++o7.t)+List.length q1.body:Nat):Int)≤Ba)∧((List.length (z71:List UInt8)≤D0 z106)∧(Av o7.c1))∧Lf (.v (vT z71)) (.v (vT z71)) (Kc o7.c1) (Kc o7.c1))))) ((Fp 176 [vI f.number,vI o3.x] [] (.v (.c (.int .u64 z77))) [])∧In (Af o4.c1 z77) fun o5=>((Au o4.c1 z77 o5)∧(Fp 75 [vI 0,vI z84] [] (.v (vI (max 0 z84))) [])∧(wU (max 0 z84))∧In (Af o5.c1 (max 0 z84)) fun o6=>(let z75:=(o5.t++o6.t)++q1.body;(Au o5.c1 (max 0 z84) o6)∧(((List.length o5.t+List.length o6.t:Nat):Int)≤Ba)∧(((List.length (o5.t++o6.t)+List.length q1.body:Nat):Int)≤Ba)∧((List.length (z75:List UInt8)≤D0 z106)∧(Av o6.c1))∧Lf (.v (vT z75)) (.v (vT z75)) (Kc o6.c1) (Kc o6.c1))))))) (In (Aq o2.c1 20) fun o3=>((Bg o2.c1 20 o3)∧Bc o3.p (In (Aa o3.c1 5) fun o4=>(let z80:=z84+o4.x-2;let z81:=z84+o4.x;(Ai o3.c1 5 o4)∧(wI z81)∧((.v (vI (IntKind.i64.wrap (z81-2))):S)= .v (vI z80))∧(Fp 176 z112 [] z109 [])∧In (Af o4.c1 z108) fun o5=>((Au o4.c1 z108 o5)∧(Fp 75 [vI 0,vI z80] [] (.v (vI (max 0 z80))) [])∧(wU (max 0 z80))∧In (Af o5.c1 (max 0 z80)) fun o6=>(let z78:=(o5.t++o6.t)++q1.body;(Au o5.c1 (max 0 z80) o6)∧(((List.length o5.t+List.length o6.t:Nat):Int)≤Ba)∧(((List.length (o5.t++o6.t)+List.length q1.body:Nat):Int)≤Ba)∧((List.length (z78:List UInt8)≤D0 z106)∧(Av o6.c1))∧Lf (.v (vT z78)) (.v (vT z78)) (Kc o6.c1) (Kc o6.c1))))) ((Fp 176 z112 [] z109 [])∧In (Af o3.c1 z108) fun o4=>((Au o3.c1 z108 o4)∧(Fp 75 [vI 0,vI z84] [] (.v (vI (max 0 z84))) [])∧(wU (max 0 z84))∧In (Af o4.c1 (max 0 z84)) fun o5=>(let z82:=(o4.t++o5.t)++q1.body;(Au o4.c1 (max 0 z84) o5)∧(((List.length o4.t+List.length o5.t:Nat):Int)≤Ba)∧(((List.length (o4.t++o5.t)+List.length q1.body:Nat):Int)≤Ba)∧((List.length (z82:List UInt8)≤D0 z106)∧(Av o5.c1))∧Lf (.v (vT z82)) (.v (vT z82)) (Kc o5.c1) (Kc o5.c1))))))))))) (In (Aq c 3) fun o1=>((Bg c 3 o1)∧Bc o1.p (In (Aa o1.c1 4) fun o2=>(let z102:=C9 f o2;(Ai o1.c1 4 o2)∧z102.Has [(0,.v (vP 0)),(6,.v (vP 1)),(9,.v (vI 2)),(10,.v (vT [])),(11,.v (vI o2.x)),(12,.v (vI 0))] [.cells (Bz o2.c1),.cells (Fr f)]∧∀q1,z102.inv q1→(let z100:=((List.length q1.body:Nat):Int);let z101:=((q1.i:Nat):Int);Bc (decide (z101<o2.x)) (In (Dk q1.c f.kind) fun o3=>((Gz q1.c f.kind o3)∧(((List.length q1.body+List.length o3.t:Nat):Int)≤Ba)∧(wI (z101+1))∧z102.Nxt q1 [(0,.v (vP 0)),(6,.v (vP 1)),(9,.v (vI 2)),(10,.v (vT (q1.body++o3.t))),(11,.v (vI o2.x)),(12,.v (vI (z101+1)))] [.cells (Bz o3.c1),.cells (Fr f)])) (In (Aq q1.c 30) fun o3=>((Bg q1.c 30 o3)∧Bc o3.p (In (Aa o3.c1 8) fun o4=>(let z93:=Cx f.number o4.x;(Ai o3.c1 8 o4)∧In (Aq o4.c1 20) fun o5=>((Bg o4.c1 20 o5)∧Bc o5.p (In (Aa o5.c1 5) fun o6=>(let z89:=z100+o6.x-2;let z90:=z100+o6.x;(Ai o5.c1 5 o6)∧(wI z90)∧((.v (vI (IntKind.i64.wrap (z90-2))):S)= .v (vI z89))∧(Fp 176 [vI f.number,vI o4.x] [] (.v (.c (.int .u64 z93))) [])∧In (Af o6.c1 z93) fun o7=>((Au o6.c1 z93 o7)∧(Fp 75 [vI 0,vI z89] [] (.v (vI (max 0 z89))) [])∧(wU (max 0 z89))∧In (Af o7.c1 (max 0 z89)) fun o8=>(let z87:=(o7.t++o8.t)++q1.body;(Au o7.c1 (max 0 z89) o8)∧(((List.length o7.t+List.length o8.t:Nat):Int)≤Ba)∧(((List.length (o7.t++o8.t)+List.length q1.body:Nat):Int)≤Ba)∧((List.length (z87:List UInt8)≤D0 z106)∧(Av o8.c1))∧Lf (.v (vT z87)) (.v (vT z87)) (Kc o8.c1) (Kc o8.c1))))) ((Fp 176 [vI f.number,vI o4.x] [] (.v (.c (.int .u64 z93))) [])∧In (Af o5.c1 z93) fun o6=>((Au o5.c1 z93 o6)∧(Fp 75 [vI 0,vI z100] [] (.v (vI (max 0 z100))) [])∧(wU (max 0 z100))∧In (Af o6.c1 (max 0 z100)) fun o7=>(let z91:=(o6.t++o7.t)++q1.body;(Au o6.c1 (max 0 z100) o7)∧(((List.length o6.t+List.length o7.t:Nat):Int)≤Ba)∧(((List.length (o6.t++o7.t)+List.length q1.body:Nat):Int)≤Ba)∧((List.length (z91:List UInt8)≤D0 z106)∧(Av o7.c1))∧Lf (.v (vT z91)) (.v (vT z91)) (Kc o7.c1) (Kc o7.c1))))))) (In (Aq o3.c1 20) fun o4=>((Bg o3.c1 20 o4)∧Bc o4.p (In (Aa o4.c1 5) fun o5=>(let z96:=z100+o5.x-2;let z97:=z100+o5.x;(Ai o4.c1 5 o5)∧(wI z97)∧((.v (vI (IntKind.i64.wrap (z97-2))):S)= .v (vI z96))∧(Fp 176 z112 [] z109 [])∧In (Af o5.c1 z108) fun o6=>((Au o5.c1 z108 o6)∧(Fp 75 [vI 0,vI z96] [] (.v (vI (max 0 z96))) [])∧(wU (max 0 z96))∧In (Af o6.c1 (max 0 z96)) fun o7=>(let z94:=(o6.t++o7.t)++q1.body;(Au o6.c1 (max 0 z96) o7)∧(((List.length o6.t+List.length o7.t:Nat):Int)≤Ba)∧(((List.length (o6.t++o7.t)+List.length q1.body:Nat):Int)≤Ba)∧((List.length (z94:List UInt8)≤D0 z106)∧(Av o7.c1))∧Lf (.v (vT z94)) (.v (vT z94)) (Kc o7.c1) (Kc o7.c1))))) ((Fp 176 z112 [] z109 [])∧In (Af o4.c1 z108) fun o5=>((Au o4.c1 z108 o5)∧(Fp 75 [vI 0,vI z100] [] (.v (vI (max 0 z100))) [])∧(wU (max 0 z100))∧In (Af o5.c1 (max 0 z100)) fun o6=>(let z98:=(o5.t++o6.t)++q1.body;(Au o5.c1 (max 0 z100) o6)∧(((List.length o5.t+List.length o6.t:Nat):Int)≤Ba)∧(((List.length (o5.t++o6.t)+List.length q1.body:Nat):Int)≤Ba)∧((List.length (z98:List UInt8)≤D0 z106)∧(Av o6.c1))∧Lf (.v (vT z98)) (.v (vT z98)) (Kc o6.c1) (Kc o6.c1))))))))))) (In (Af o1.c1 z103) fun o2=>(In (Dk o2.c1 f.kind) fun o3=>((Fp 176 z107 [] z105 [])∧(Au o1.c1 z103 o2)∧(Gz o2.c1 f.kind o3)∧(((List.length o2.t+List.length o3.t:Nat):Int)≤Ba)∧((List.length ((o2.t++o3.t):List UInt8)≤D0 z106)∧(Av o3.c1))∧Lf (.v (vT (o2.t++o3.t))) (.v (vT (o2.t++o3.t))) (Kc o3.c1) (Kc o3.c1))))))) (In (Af c z103) fun o1=>(In (Dk o1.c1 f.kind) fun o2=>((Fp 176 z107 [] z105 [])∧(Au c z103 o1)∧(Gz o1.c1 f.kind o2)∧(((List.length o1.t+List.length o2.t:Nat):Int)≤Ba)∧((List.length ((o1.t++o2.t):List UInt8)≤D0 z106)∧(Av o2.c1))∧Lf (.v (vT (o1.t++o2.t))) (.v (vT (o1.t++o2.t))) (Kc o2.c1) (Kc o2.c1))))))))) Q4 ?_
 refine⟨(P7 _),dsp (fun h1 p1=>?_) fun h1 p1=>?_⟩
 refine dsp (fun h2 p2=>?_) fun h2 p2=>?_
 have hvn:=Adx deep p2
 have hvk:=Uv (Int.toNat (deep-1))
 refine⟨(Ac Q2 Q2),(hB c p f.msg (deep-1) Q0 Q2 Q2 Q2 Q2),fun o1 ho_o1=>?_⟩
 obtain ⟨⟨hp_o1_0,hp_o1_1⟩,hf_o1⟩:=ho_o1
 refine⟨hf_o1,(By o1.c1 30 Q0),fun o2 ho_o2=>?_⟩
 obtain ⟨hp_o2,hf_o2⟩:=ho_o2
 refine⟨hf_o2,fun h3=>?_,fun h3=>?_⟩
 refine⟨(Am o2.c1 8 Q0),fun o3 ho_o3=>?_⟩
 obtain ⟨⟨hp_o3_0,hp_o3_1,hp_o3_2,hp_o3_3⟩,hf_o3⟩:=ho_o3
 refine⟨hf_o3,(By o3.c1 20 Q0),fun o4 ho_o4=>?_⟩
 obtain ⟨hp_o4,hf_o4⟩:=ho_o4
 refine⟨hf_o4,fun h4=>?_,fun h4=>?_⟩
 refine⟨(Am o4.c1 5 Q0),fun o5 ho_o5=>?_⟩
 obtain ⟨⟨hp_o5_0,hp_o5_1,hp_o5_2,hp_o5_3⟩,hf_o5⟩:=ho_o5
 refine⟨hf_o5,(Ac Q2 Q2),(Ac Q2 Q2),(Cr _ _),(A7 o5.c1 (Cx f.number o3.x) Q0 (⟨(Bi _ _).1,Int.le_trans (Bi _ _).2 Q28⟩)),fun o6 ho_o6=>?_⟩
 obtain ⟨⟨hp_o6_0,hp_o6_1⟩,hf_o6⟩:=ho_o6
 refine⟨hf_o6,(Gk _ _),(Bv Q2 Q2),(A7 o6.c1 (max 0 (((List.length o1.t:Nat):Int)+o5.x-2)) Q0 Q2),fun o7 ho_o7=>?_⟩
 obtain ⟨⟨hp_o7_0,hp_o7_1⟩,hf_o7⟩:=ho_o7
 exact⟨hf_o7,Q3,Q3,⟨Q30,Q0⟩,rfl,rfl⟩
 refine⟨(Cr _ _),(A7 o4.c1 (Cx f.number o3.x) Q0 (⟨(Bi _ _).1,Int.le_trans (Bi _ _).2 Q28⟩)),fun o5 ho_o5=>?_⟩
 obtain ⟨⟨hp_o5_0,hp_o5_1⟩,hf_o5⟩:=ho_o5
 refine⟨hf_o5,(Gk _ _),(Bv Q2 Q2),(A7 o5.c1 (max 0 ((List.length o1.t:Nat):Int)) Q0 Q2),fun o6 ho_o6=>?_⟩
 obtain ⟨⟨hp_o6_0,hp_o6_1⟩,hf_o6⟩:=ho_o6
 exact⟨hf_o6,Q3,Q3,⟨Q30,Q0⟩,rfl,rfl⟩
 refine⟨(By o2.c1 20 Q0),fun o3 ho_o3=>?_⟩
 obtain ⟨hp_o3,hf_o3⟩:=ho_o3
 refine⟨hf_o3,fun h4=>?_,fun h4=>?_⟩
 refine⟨(Am o3.c1 5 Q0),fun o4 ho_o4=>?_⟩
 obtain ⟨⟨hp_o4_0,hp_o4_1,hp_o4_2,hp_o4_3⟩,hf_o4⟩:=ho_o4
 refine⟨hf_o4,(Ac Q2 Q2),(Ac Q2 Q2),(Cr _ _),(A7 o4.c1 (Cx f.number (B6 f.kind)) Q0 (⟨(Bi _ _).1,Int.le_trans (Bi _ _).2 Q28⟩)),fun o5 ho_o5=>?_⟩
 obtain ⟨⟨hp_o5_0,hp_o5_1⟩,hf_o5⟩:=ho_o5
 refine⟨hf_o5,(Gk _ _),(Bv Q2 Q2),(A7 o5.c1 (max 0 (((List.length o1.t:Nat):Int)+o4.x-2)) Q0 Q2),fun o6 ho_o6=>?_⟩
 obtain ⟨⟨hp_o6_0,hp_o6_1⟩,hf_o6⟩:=ho_o6
 exact⟨hf_o6,Q3,Q3,⟨Q30,Q0⟩,rfl,rfl⟩
 refine⟨(Cr _ _),(A7 o3.c1 (Cx f.number (B6 f.kind)) Q0 (⟨(Bi _ _).1,Int.le_trans (Bi _ _).2 Q28⟩)),fun o4 ho_o4=>?_⟩
 obtain ⟨⟨hp_o4_0,hp_o4_1⟩,hf_o4⟩:=ho_o4
 refine⟨hf_o4,(Gk _ _),(Bv Q2 Q2),(A7 o4.c1 (max 0 ((List.length o1.t:Nat):Int)) Q0 Q2),fun o5 ho_o5=>?_⟩
 obtain ⟨⟨hp_o5_0,hp_o5_1⟩,hf_o5⟩:=ho_o5
 exact⟨hf_o5,Q3,Q3,⟨Q30,Q0⟩,rfl,rfl⟩
 refine⟨(By c 30 Q0),fun o1 ho_o1=>?_⟩
 obtain ⟨hp_o1,hf_o1⟩:=ho_o1
 refine⟨hf_o1,fun h3=>?_,fun h3=>?_⟩
 refine⟨(Am o1.c1 8 Q0),fun o2 ho_o2=>?_⟩
 obtain ⟨⟨hp_o2_0,hp_o2_1,hp_o2_2,hp_o2_3⟩,hf_o2⟩:=ho_o2
 refine⟨hf_o2,(By o2.c1 20 Q0),fun o3 ho_o3=>?_⟩
 obtain ⟨hp_o3,hf_o3⟩:=ho_o3
 refine⟨hf_o3,fun h4=>?_,fun h4=>?_⟩
 refine⟨(Am o3.c1 5 Q0),fun o4 ho_o4=>?_⟩
 obtain ⟨⟨hp_o4_0,hp_o4_1,hp_o4_2,hp_o4_3⟩,hf_o4⟩:=ho_o4
 refine⟨hf_o4,(Ac Q5 Q5),(Ac Q5 Q5),(Cr _ _),(A7 o4.c1 (Cx f.number o2.x) Q0 (⟨(Bi _ _).1,Int.le_trans (Bi _ _).2 Q28⟩)),fun o5 ho_o5=>?_⟩
 obtain ⟨⟨hp_o5_0,hp_o5_1⟩,hf_o5⟩:=ho_o5
 refine⟨hf_o5,(Gk _ _),(Bv Q5 Q5),(A7 o5.c1 (max 0 (((List.length ([]:List UInt8):Nat):Int)+o4.x-2)) Q0 Q5),fun o6 ho_o6=>?_⟩
 obtain ⟨⟨hp_o6_0,hp_o6_1⟩,hf_o6⟩:=ho_o6
 exact⟨hf_o6,Q3,Q3,⟨Q47,Q0⟩,rfl,rfl⟩
 refine⟨(Cr _ _),(A7 o3.c1 (Cx f.number o2.x) Q0 (⟨(Bi _ _).1,Int.le_trans (Bi _ _).2 Q28⟩)),fun o4 ho_o4=>?_⟩
 obtain ⟨⟨hp_o4_0,hp_o4_1⟩,hf_o4⟩:=ho_o4
 refine⟨hf_o4,(Gk _ _),(Bv Q5 Q5),(A7 o4.c1 (max 0 ((List.length ([]:List UInt8):Nat):Int)) Q0 Q5),fun o5 ho_o5=>?_⟩
 obtain ⟨⟨hp_o5_0,hp_o5_1⟩,hf_o5⟩:=ho_o5
 exact⟨hf_o5,Q3,Q3,⟨Q47,Q0⟩,rfl,rfl⟩
 refine⟨(By o1.c1 20 Q0),fun o2 ho_o2=>?_⟩
 obtain ⟨hp_o2,hf_o2⟩:=ho_o2
 refine⟨hf_o2,fun h4=>?_,fun h4=>?_⟩
 refine⟨(Am o2.c1 5 Q0),fun o3 ho_o3=>?_⟩
 obtain ⟨⟨hp_o3_0,hp_o3_1,hp_o3_2,hp_o3_3⟩,hf_o3⟩:=ho_o3
 refine⟨hf_o3,(Ac Q5 Q5),(Ac Q5 Q5),(Cr _ _),(A7 o3.c1 (Cx f.number (B6 f.kind)) Q0 (⟨(Bi _ _).1,Int.le_trans (Bi _ _).2 Q28⟩)),fun o4 ho_o4=>?_⟩
 obtain ⟨⟨hp_o4_0,hp_o4_1⟩,hf_o4⟩:=ho_o4
 refine⟨hf_o4,(Gk _ _),(Bv Q5 Q5),(A7 o4.c1 (max 0 (((List.length ([]:List UInt8):Nat):Int)+o3.x-2)) Q0 Q5),fun o5 ho_o5=>?_⟩
 obtain ⟨⟨hp_o5_0,hp_o5_1⟩,hf_o5⟩:=ho_o5
 exact⟨hf_o5,Q3,Q3,⟨Q47,Q0⟩,rfl,rfl⟩
 refine⟨(Cr _ _),(A7 o2.c1 (Cx f.number (B6 f.kind)) Q0 (⟨(Bi _ _).1,Int.le_trans (Bi _ _).2 Q28⟩)),fun o3 ho_o3=>?_⟩
 obtain ⟨⟨hp_o3_0,hp_o3_1⟩,hf_o3⟩:=ho_o3
 refine⟨hf_o3,(Gk _ _),(Bv Q5 Q5),(A7 o3.c1 (max 0 ((List.length ([]:List UInt8):Nat):Int)) Q0 Q5),fun o4 ho_o4=>?_⟩
 obtain ⟨⟨hp_o4_0,hp_o4_1⟩,hf_o4⟩:=ho_o4
 exact⟨hf_o4,Q3,Q3,⟨Q47,Q0⟩,rfl,rfl⟩
 refine dsp (fun h2 p2=>?_) fun h2 p2=>?_
 refine⟨(Am c 3 Q0),fun o1 ho_o1=>?_⟩
 obtain ⟨⟨hp_o1_0,hp_o1_1,hp_o1_2,hp_o1_3⟩,hf_o1⟩:=ho_o1
 refine⟨hf_o1,(Ack o1.c1 o1.x Q0 Q2),fun o2 ho_o2=>?_⟩
 obtain ⟨⟨hp_o2_0,hp_o2_1⟩,hf_o2⟩:=ho_o2
 refine⟨hf_o2,(By o2.c1 8 Q0),fun o3 ho_o3=>?_⟩
 obtain ⟨hp_o3,hf_o3⟩:=ho_o3
 refine⟨hf_o3,fun h3=>?_,fun h3=>?_⟩
 refine⟨(Acm o3.c1 Q0),fun o4 ho_o4=>?_⟩
 obtain ⟨⟨hp_o4_0,hp_o4_1⟩,hf_o4⟩:=ho_o4
 refine⟨hf_o4,(By o4.c1 30 Q0),fun o5 ho_o5=>?_⟩
 obtain ⟨hp_o5,hf_o5⟩:=ho_o5
 refine⟨hf_o5,fun h4=>?_,fun h4=>?_⟩
 refine⟨(Am o5.c1 8 Q0),fun o6 ho_o6=>?_⟩
 obtain ⟨⟨hp_o6_0,hp_o6_1,hp_o6_2,hp_o6_3⟩,hf_o6⟩:=ho_o6
 refine⟨hf_o6,(By o6.c1 20 Q0),fun o7 ho_o7=>?_⟩
 obtain ⟨hp_o7,hf_o7⟩:=ho_o7
 refine⟨hf_o7,fun h5=>?_,fun h5=>?_⟩
 refine⟨(Am o7.c1 5 Q0),fun o8 ho_o8=>?_⟩
 obtain ⟨⟨hp_o8_0,hp_o8_1,hp_o8_2,hp_o8_3⟩,hf_o8⟩:=ho_o8
 refine⟨hf_o8,(Ac Q2 Q2),(Ac Q2 Q2),(Cr _ _),(A7 o8.c1 (Cx f.number o6.x) Q0 (⟨(Bi _ _).1,Int.le_trans (Bi _ _).2 Q28⟩)),fun o9 ho_o9=>?_⟩
 obtain ⟨⟨hp_o9_0,hp_o9_1⟩,hf_o9⟩:=ho_o9
 refine⟨hf_o9,(Gk _ _),(Bv Q2 Q2),(A7 o9.c1 (max 0 (((List.length o4.t:Nat):Int)+o8.x-2)) Q0 Q2),fun o10 ho_o10=>?_⟩
 obtain ⟨⟨hp_o10_0,hp_o10_1⟩,hf_o10⟩:=ho_o10
 exact⟨hf_o10,Q3,Q3,⟨Q30,Q0⟩,rfl,rfl⟩
 refine⟨(Cr _ _),(A7 o7.c1 (Cx f.number o6.x) Q0 (⟨(Bi _ _).1,Int.le_trans (Bi _ _).2 Q28⟩)),fun o8 ho_o8=>?_⟩
 obtain ⟨⟨hp_o8_0,hp_o8_1⟩,hf_o8⟩:=ho_o8
 refine⟨hf_o8,(Gk _ _),(Bv Q2 Q2),(A7 o8.c1 (max 0 ((List.length o4.t:Nat):Int)) Q0 Q2),fun o9 ho_o9=>?_⟩
 obtain ⟨⟨hp_o9_0,hp_o9_1⟩,hf_o9⟩:=ho_o9
 exact⟨hf_o9,Q3,Q3,⟨Q30,Q0⟩,rfl,rfl⟩
 refine⟨(By o5.c1 20 Q0),fun o6 ho_o6=>?_⟩
 obtain ⟨hp_o6,hf_o6⟩:=ho_o6
 refine⟨hf_o6,fun h5=>?_,fun h5=>?_⟩
 refine⟨(Am o6.c1 5 Q0),fun o7 ho_o7=>?_⟩
 obtain ⟨⟨hp_o7_0,hp_o7_1,hp_o7_2,hp_o7_3⟩,hf_o7⟩:=ho_o7
 refine⟨hf_o7,(Ac Q2 Q2),(Ac Q2 Q2),(Cr _ _),(A7 o7.c1 (Cx f.number (B6 f.kind)) Q0 (⟨(Bi _ _).1,Int.le_trans (Bi _ _).2 Q28⟩)),fun o8 ho_o8=>?_⟩
 obtain ⟨⟨hp_o8_0,hp_o8_1⟩,hf_o8⟩:=ho_o8
 refine⟨hf_o8,(Gk _ _),(Bv Q2 Q2),(A7 o8.c1 (max 0 (((List.length o4.t:Nat):Int)+o7.x-2)) Q0 Q2),fun o9 ho_o9=>?_⟩
 obtain ⟨⟨hp_o9_0,hp_o9_1⟩,hf_o9⟩:=ho_o9
 exact⟨hf_o9,Q3,Q3,⟨Q30,Q0⟩,rfl,rfl⟩
 refine⟨(Cr _ _),(A7 o6.c1 (Cx f.number (B6 f.kind)) Q0 (⟨(Bi _ _).1,Int.le_trans (Bi _ _).2 Q28⟩)),fun o7 ho_o7=>?_⟩
 obtain ⟨⟨hp_o7_0,hp_o7_1⟩,hf_o7⟩:=ho_o7
 refine⟨hf_o7,(Gk _ _),(Bv Q2 Q2),(A7 o7.c1 (max 0 ((List.length o4.t:Nat):Int)) Q0 Q2),fun o8 ho_o8=>?_⟩
 obtain ⟨⟨hp_o8_0,hp_o8_1⟩,hf_o8⟩:=ho_o8
 exact⟨hf_o8,Q3,Q3,⟨Q30,Q0⟩,rfl,rfl⟩
 refine⟨(By o3.c1 30 Q0),fun o4 ho_o4=>?_⟩
 obtain ⟨hp_o4,hf_o4⟩:=ho_o4
 refine⟨hf_o4,fun h4=>?_,fun h4=>?_⟩
 refine⟨(Am o4.c1 8 Q0),fun o5 ho_o5=>?_⟩
 obtain ⟨⟨hp_o5_0,hp_o5_1,hp_o5_2,hp_o5_3⟩,hf_o5⟩:=ho_o5
 refine⟨hf_o5,(By o5.c1 20 Q0),fun o6 ho_o6=>?_⟩
 obtain ⟨hp_o6,hf_o6⟩:=ho_o6
 refine⟨hf_o6,fun h5=>?_,fun h5=>?_⟩
 refine⟨(Am o6.c1 5 Q0),fun o7 ho_o7=>?_⟩
 obtain ⟨⟨hp_o7_0,hp_o7_1,hp_o7_2,hp_o7_3⟩,hf_o7⟩:=ho_o7
 refine⟨hf_o7,(Ac Q2 Q2),(Ac Q2 Q2),(Cr _ _),(A7 o7.c1 (Cx f.number o5.x) Q0 (⟨(Bi _ _).1,Int.le_trans (Bi _ _).2 Q28⟩)),fun o8 ho_o8=>?_⟩
 obtain ⟨⟨hp_o8_0,hp_o8_1⟩,hf_o8⟩:=ho_o8
 refine⟨hf_o8,(Gk _ _),(Bv Q2 Q2),(A7 o8.c1 (max 0 (((List.length o2.t:Nat):Int)+o7.x-2)) Q0 Q2),fun o9 ho_o9=>?_⟩
 obtain ⟨⟨hp_o9_0,hp_o9_1⟩,hf_o9⟩:=ho_o9
 exact⟨hf_o9,Q3,Q3,⟨Q30,Q0⟩,rfl,rfl⟩
 refine⟨(Cr _ _),(A7 o6.c1 (Cx f.number o5.x) Q0 (⟨(Bi _ _).1,Int.le_trans (Bi _ _).2 Q28⟩)),fun o7 ho_o7=>?_⟩
 obtain ⟨⟨hp_o7_0,hp_o7_1⟩,hf_o7⟩:=ho_o7
 refine⟨hf_o7,(Gk _ _),(Bv Q2 Q2),(A7 o7.c1 (max 0 ((List.length o2.t:Nat):Int)) Q0 Q2),fun o8 ho_o8=>?_⟩
 obtain ⟨⟨hp_o8_0,hp_o8_1⟩,hf_o8⟩:=ho_o8
 exact⟨hf_o8,Q3,Q3,⟨Q30,Q0⟩,rfl,rfl⟩
 refine⟨(By o4.c1 20 Q0),fun o5 ho_o5=>?_⟩
 obtain ⟨hp_o5,hf_o5⟩:=ho_o5
 refine⟨hf_o5,fun h5=>?_,fun h5=>?_⟩
 refine⟨(Am o5.c1 5 Q0),fun o6 ho_o6=>?_⟩
 obtain ⟨⟨hp_o6_0,hp_o6_1,hp_o6_2,hp_o6_3⟩,hf_o6⟩:=ho_o6
 refine⟨hf_o6,(Ac Q2 Q2),(Ac Q2 Q2),(Cr _ _),(A7 o6.c1 (Cx f.number (B6 f.kind)) Q0 (⟨(Bi _ _).1,Int.le_trans (Bi _ _).2 Q28⟩)),fun o7 ho_o7=>?_⟩
 obtain ⟨⟨hp_o7_0,hp_o7_1⟩,hf_o7⟩:=ho_o7
 refine⟨hf_o7,(Gk _ _),(Bv Q2 Q2),(A7 o7.c1 (max 0 (((List.length o2.t:Nat):Int)+o6.x-2)) Q0 Q2),fun o8 ho_o8=>?_⟩
 obtain ⟨⟨hp_o8_0,hp_o8_1⟩,hf_o8⟩:=ho_o8
 exact⟨hf_o8,Q3,Q3,⟨Q30,Q0⟩,rfl,rfl⟩
 refine⟨(Cr _ _),(A7 o5.c1 (Cx f.number (B6 f.kind)) Q0 (⟨(Bi _ _).1,Int.le_trans (Bi _ _).2 Q28⟩)),fun o6 ho_o6=>?_⟩
 obtain ⟨⟨hp_o6_0,hp_o6_1⟩,hf_o6⟩:=ho_o6
 refine⟨hf_o6,(Gk _ _),(Bv Q2 Q2),(A7 o6.c1 (max 0 ((List.length o2.t:Nat):Int)) Q0 Q2),fun o7 ho_o7=>?_⟩
 obtain ⟨⟨hp_o7_0,hp_o7_1⟩,hf_o7⟩:=ho_o7
 exact⟨hf_o7,Q3,Q3,⟨Q30,Q0⟩,rfl,rfl⟩
 refine dsp (fun h3 p3=>?_) fun h3 p3=>?_
 refine⟨(Am c 6 Q0),fun o1 ho_o1=>?_⟩
 obtain ⟨⟨hp_o1_0,hp_o1_1,hp_o1_2,hp_o1_3⟩,hf_o1⟩:=ho_o1
 refine⟨hf_o1,(Dv o1.c1 o1.x Q0 Q2),fun o2 ho_o2=>?_⟩
 obtain ⟨⟨hp_o2_0,hp_o2_1⟩,hf_o2⟩:=ho_o2
 refine⟨hf_o2,(By o2.c1 30 Q0),fun o3 ho_o3=>?_⟩
 obtain ⟨hp_o3,hf_o3⟩:=ho_o3
 refine⟨hf_o3,fun h4=>?_,fun h4=>?_⟩
 refine⟨(Am o3.c1 8 Q0),fun o4 ho_o4=>?_⟩
 obtain ⟨⟨hp_o4_0,hp_o4_1,hp_o4_2,hp_o4_3⟩,hf_o4⟩:=ho_o4
 refine⟨hf_o4,(By o4.c1 20 Q0),fun o5 ho_o5=>?_⟩
 obtain ⟨hp_o5,hf_o5⟩:=ho_o5
 refine⟨hf_o5,fun h5=>?_,fun h5=>?_⟩
 refine⟨(Am o5.c1 5 Q0),fun o6 ho_o6=>?_⟩
 obtain ⟨⟨hp_o6_0,hp_o6_1,hp_o6_2,hp_o6_3⟩,hf_o6⟩:=ho_o6
 refine⟨hf_o6,(Ac Q18 Q18),(Ac Q18 Q18),(Cr _ _),(A7 o6.c1 (Cx f.number o4.x) Q0 (⟨(Bi _ _).1,Int.le_trans (Bi _ _).2 Q28⟩)),fun o7 ho_o7=>?_⟩
 obtain ⟨⟨hp_o7_0,hp_o7_1⟩,hf_o7⟩:=ho_o7
 refine⟨hf_o7,(Gk _ _),(Bv Q18 Q18),(A7 o7.c1 (max 0 (((List.length (List.map A9 o2.l):Nat):Int)+o6.x-2)) Q0 Q18),fun o8 ho_o8=>?_⟩
 obtain ⟨⟨hp_o8_0,hp_o8_1⟩,hf_o8⟩:=ho_o8
 exact⟨hf_o8,Q3,Q3,⟨Q72,Q0⟩,rfl,rfl⟩
 refine⟨(Cr _ _),(A7 o5.c1 (Cx f.number o4.x) Q0 (⟨(Bi _ _).1,Int.le_trans (Bi _ _).2 Q28⟩)),fun o6 ho_o6=>?_⟩
 obtain ⟨⟨hp_o6_0,hp_o6_1⟩,hf_o6⟩:=ho_o6
 refine⟨hf_o6,(Gk _ _),(Bv Q18 Q18),(A7 o6.c1 (max 0 ((List.length (List.map A9 o2.l):Nat):Int)) Q0 Q18),fun o7 ho_o7=>?_⟩
 obtain ⟨⟨hp_o7_0,hp_o7_1⟩,hf_o7⟩:=ho_o7
 exact⟨hf_o7,Q3,Q3,⟨Q72,Q0⟩,rfl,rfl⟩
 refine⟨(By o3.c1 20 Q0),fun o4 ho_o4=>?_⟩
 obtain ⟨hp_o4,hf_o4⟩:=ho_o4
 refine⟨hf_o4,fun h5=>?_,fun h5=>?_⟩
 refine⟨(Am o4.c1 5 Q0),fun o5 ho_o5=>?_⟩
 obtain ⟨⟨hp_o5_0,hp_o5_1,hp_o5_2,hp_o5_3⟩,hf_o5⟩:=ho_o5
 refine⟨hf_o5,(Ac Q18 Q18),(Ac Q18 Q18),(Cr _ _),(A7 o5.c1 (Cx f.number (B6 f.kind)) Q0 (⟨(Bi _ _).1,Int.le_trans (Bi _ _).2 Q28⟩)),fun o6 ho_o6=>?_⟩
 obtain ⟨⟨hp_o6_0,hp_o6_1⟩,hf_o6⟩:=ho_o6
 refine⟨hf_o6,(Gk _ _),(Bv Q18 Q18),(A7 o6.c1 (max 0 (((List.length (List.map A9 o2.l):Nat):Int)+o5.x-2)) Q0 Q18),fun o7 ho_o7=>?_⟩
 obtain ⟨⟨hp_o7_0,hp_o7_1⟩,hf_o7⟩:=ho_o7
 exact⟨hf_o7,Q3,Q3,⟨Q72,Q0⟩,rfl,rfl⟩
 refine⟨(Cr _ _),(A7 o4.c1 (Cx f.number (B6 f.kind)) Q0 (⟨(Bi _ _).1,Int.le_trans (Bi _ _).2 Q28⟩)),fun o5 ho_o5=>?_⟩
 obtain ⟨⟨hp_o5_0,hp_o5_1⟩,hf_o5⟩:=ho_o5
 refine⟨hf_o5,(Gk _ _),(Bv Q18 Q18),(A7 o5.c1 (max 0 ((List.length (List.map A9 o2.l):Nat):Int)) Q0 Q18),fun o6 ho_o6=>?_⟩
 obtain ⟨⟨hp_o6_0,hp_o6_1⟩,hf_o6⟩:=ho_o6
 exact⟨hf_o6,Q3,Q3,⟨Q72,Q0⟩,rfl,rfl⟩
 refine⟨(Vs f),fun h4=>?_,fun h4=>?_⟩
 refine⟨fun h5=>?_,fun h5=>?_⟩
 refine⟨(Am c 4 Q0),fun o1 ho_o1=>?_⟩
 obtain ⟨⟨hp_o1_0,hp_o1_1,hp_o1_2,hp_o1_3⟩,hf_o1⟩:=ho_o1
 refine⟨hf_o1,Bf (j:=(⟨o1.c1,[],0⟩:Eu)) Q9 rfl (by dsimp only[C9];exact⟨by assumption,by omega,by simp⟩),fun (q1:Eu) hq_q1=>?_⟩
 have hi_q1:Av q1.c∧q1.i≤3∧List.length q1.body≤10*q1.i:=hq_q1
 obtain ⟨v1,v2,v3⟩:=hi_q1
 refine dsp (fun h6 p6=>?_) fun h6 p6=>?_
 refine⟨(Nj q1.c f.kind Q0),fun o2 ho_o2=>?_⟩
 obtain ⟨⟨hp_o2_0,hp_o2_1⟩,hf_o2⟩:=ho_o2
 exact⟨hf_o2,Q3,(Ac Q2 Q2),A3 (j:=(⟨o2.c1,q1.body++o2.t,q1.i+1⟩:Eu)) Q9 rfl (by dsimp only[C9];exact⟨by assumption,by omega,by simp;omega⟩) (by dsimp only[C9];omega)⟩
 refine⟨(By q1.c 30 Q0),fun o2 ho_o2=>?_⟩
 obtain ⟨hp_o2,hf_o2⟩:=ho_o2
 refine⟨hf_o2,fun h7=>?_,fun h7=>?_⟩
 refine⟨(Am o2.c1 8 Q0),fun o3 ho_o3=>?_⟩
 obtain ⟨⟨hp_o3_0,hp_o3_1,hp_o3_2,hp_o3_3⟩,hf_o3⟩:=ho_o3
 refine⟨hf_o3,(By o3.c1 20 Q0),fun o4 ho_o4=>?_⟩
 obtain ⟨hp_o4,hf_o4⟩:=ho_o4
 refine⟨hf_o4,fun h8=>?_,fun h8=>?_⟩
 refine⟨(Am o4.c1 5 Q0),fun o5 ho_o5=>?_⟩
 obtain ⟨⟨hp_o5_0,hp_o5_1,hp_o5_2,hp_o5_3⟩,hf_o5⟩:=ho_o5
 refine⟨hf_o5,(Ac Q2 Q2),(Ac Q2 Q2),(Cr _ _),(A7 o5.c1 (Cx f.number o3.x) Q0 (⟨(Bi _ _).1,Int.le_trans (Bi _ _).2 Q28⟩)),fun o6 ho_o6=>?_⟩
 obtain ⟨⟨hp_o6_0,hp_o6_1⟩,hf_o6⟩:=ho_o6
 refine⟨hf_o6,(Gk _ _),(Bv Q2 Q2),(A7 o6.c1 (max 0 (((List.length q1.body:Nat):Int)+o5.x-2)) Q0 Q2),fun o7 ho_o7=>?_⟩
 obtain ⟨⟨hp_o7_0,hp_o7_1⟩,hf_o7⟩:=ho_o7
 exact⟨hf_o7,Q3,Q3,⟨Q30,Q0⟩,rfl,rfl⟩
 refine⟨(Cr _ _),(A7 o4.c1 (Cx f.number o3.x) Q0 (⟨(Bi _ _).1,Int.le_trans (Bi _ _).2 Q28⟩)),fun o5 ho_o5=>?_⟩
 obtain ⟨⟨hp_o5_0,hp_o5_1⟩,hf_o5⟩:=ho_o5
 refine⟨hf_o5,(Gk _ _),(Bv Q2 Q2),(A7 o5.c1 (max 0 ((List.length q1.body:Nat):Int)) Q0 Q2),fun o6 ho_o6=>?_⟩
 obtain ⟨⟨hp_o6_0,hp_o6_1⟩,hf_o6⟩:=ho_o6
 exact⟨hf_o6,Q3,Q3,⟨Q30,Q0⟩,rfl,rfl⟩
 refine⟨(By o2.c1 20 Q0),fun o3 ho_o3=>?_⟩
 obtain ⟨hp_o3,hf_o3⟩:=ho_o3
 refine⟨hf_o3,fun h8=>?_,fun h8=>?_⟩
 refine⟨(Am o3.c1 5 Q0),fun o4 ho_o4=>?_⟩
 obtain ⟨⟨hp_o4_0,hp_o4_1,hp_o4_2,hp_o4_3⟩,hf_o4⟩:=ho_o4
 refine⟨hf_o4,(Ac Q2 Q2),(Ac Q2 Q2),(Cr _ _),(A7 o4.c1 (Cx f.number 2) Q0 (⟨(Bi _ _).1,Int.le_trans (Bi _ _).2 Q28⟩)),fun o5 ho_o5=>?_⟩
 obtain ⟨⟨hp_o5_0,hp_o5_1⟩,hf_o5⟩:=ho_o5
 refine⟨hf_o5,(Gk _ _),(Bv Q2 Q2),(A7 o5.c1 (max 0 (((List.length q1.body:Nat):Int)+o4.x-2)) Q0 Q2),fun o6 ho_o6=>?_⟩
 obtain ⟨⟨hp_o6_0,hp_o6_1⟩,hf_o6⟩:=ho_o6
 exact⟨hf_o6,Q3,Q3,⟨Q30,Q0⟩,rfl,rfl⟩
 refine⟨(Cr _ _),(A7 o3.c1 (Cx f.number 2) Q0 (⟨(Bi _ _).1,Int.le_trans (Bi _ _).2 Q28⟩)),fun o4 ho_o4=>?_⟩
 obtain ⟨⟨hp_o4_0,hp_o4_1⟩,hf_o4⟩:=ho_o4
 refine⟨hf_o4,(Gk _ _),(Bv Q2 Q2),(A7 o4.c1 (max 0 ((List.length q1.body:Nat):Int)) Q0 Q2),fun o5 ho_o5=>?_⟩
 obtain ⟨⟨hp_o5_0,hp_o5_1⟩,hf_o5⟩:=ho_o5
 exact⟨hf_o5,Q3,Q3,⟨Q30,Q0⟩,rfl,rfl⟩
 refine⟨(By c 3 Q0),fun o1 ho_o1=>?_⟩
 obtain ⟨hp_o1,hf_o1⟩:=ho_o1
 refine⟨hf_o1,fun h6=>?_,fun h6=>?_⟩
 refine⟨(Am o1.c1 4 Q0),fun o2 ho_o2=>?_⟩
 obtain ⟨⟨hp_o2_0,hp_o2_1,hp_o2_2,hp_o2_3⟩,hf_o2⟩:=ho_o2
 refine⟨hf_o2,Bf (j:=(⟨o2.c1,[],0⟩:Eu)) Q9 rfl (by dsimp only[C9];exact⟨by assumption,by omega,by simp⟩),fun (q1:Eu) hq_q1=>?_⟩
 have hi_q1:Av q1.c∧q1.i≤3∧List.length q1.body≤10*q1.i:=hq_q1
 obtain ⟨v1,v2,v3⟩:=hi_q1
 refine dsp (fun h7 p7=>?_) fun h7 p7=>?_
 refine⟨(Nj q1.c f.kind Q0),fun o3 ho_o3=>?_⟩
 obtain ⟨⟨hp_o3_0,hp_o3_1⟩,hf_o3⟩:=ho_o3
 exact⟨hf_o3,Q3,(Ac Q2 Q2),A3 (j:=(⟨o3.c1,q1.body++o3.t,q1.i+1⟩:Eu)) Q9 rfl (by dsimp only[C9];exact⟨by assumption,by omega,by simp;omega⟩) (by dsimp only[C9];omega)⟩
 refine⟨(By q1.c 30 Q0),fun o3 ho_o3=>?_⟩
 obtain ⟨hp_o3,hf_o3⟩:=ho_o3
 refine⟨hf_o3,fun h8=>?_,fun h8=>?_⟩
 refine⟨(Am o3.c1 8 Q0),fun o4 ho_o4=>?_⟩
 obtain ⟨⟨hp_o4_0,hp_o4_1,hp_o4_2,hp_o4_3⟩,hf_o4⟩:=ho_o4
 refine⟨hf_o4,(By o4.c1 20 Q0),fun o5 ho_o5=>?_⟩
 obtain ⟨hp_o5,hf_o5⟩:=ho_o5
 refine⟨hf_o5,fun h9=>?_,fun h9=>?_⟩
 refine⟨(Am o5.c1 5 Q0),fun o6 ho_o6=>?_⟩
 obtain ⟨⟨hp_o6_0,hp_o6_1,hp_o6_2,hp_o6_3⟩,hf_o6⟩:=ho_o6
 refine⟨hf_o6,(Ac Q2 Q2),(Ac Q2 Q2),(Cr _ _),(A7 o6.c1 (Cx f.number o4.x) Q0 (⟨(Bi _ _).1,Int.le_trans (Bi _ _).2 Q28⟩)),fun o7 ho_o7=>?_⟩
 obtain ⟨⟨hp_o7_0,hp_o7_1⟩,hf_o7⟩:=ho_o7
 refine⟨hf_o7,(Gk _ _),(Bv Q2 Q2),(A7 o7.c1 (max 0 (((List.length q1.body:Nat):Int)+o6.x-2)) Q0 Q2),fun o8 ho_o8=>?_⟩
 obtain ⟨⟨hp_o8_0,hp_o8_1⟩,hf_o8⟩:=ho_o8
 exact⟨hf_o8,Q3,Q3,⟨Q30,Q0⟩,rfl,rfl⟩
 refine⟨(Cr _ _),(A7 o5.c1 (Cx f.number o4.x) Q0 (⟨(Bi _ _).1,Int.le_trans (Bi _ _).2 Q28⟩)),fun o6 ho_o6=>?_⟩
 obtain ⟨⟨hp_o6_0,hp_o6_1⟩,hf_o6⟩:=ho_o6
 refine⟨hf_o6,(Gk _ _),(Bv Q2 Q2),(A7 o6.c1 (max 0 ((List.length q1.body:Nat):Int)) Q0 Q2),fun o7 ho_o7=>?_⟩
 obtain ⟨⟨hp_o7_0,hp_o7_1⟩,hf_o7⟩:=ho_o7
 exact⟨hf_o7,Q3,Q3,⟨Q30,Q0⟩,rfl,rfl⟩
 refine⟨(By o3.c1 20 Q0),fun o4 ho_o4=>?_⟩
 obtain ⟨hp_o4,hf_o4⟩:=ho_o4
 refine⟨hf_o4,fun h9=>?_,fun h9=>?_⟩
 refine⟨(Am o4.c1 5 Q0),fun o5 ho_o5=>?_⟩
 obtain ⟨⟨hp_o5_0,hp_o5_1,hp_o5_2,hp_o5_3⟩,hf_o5⟩:=ho_o5
 refine⟨hf_o5,(Ac Q2 Q2),(Ac Q2 Q2),(Cr _ _),(A7 o5.c1 (Cx f.number 2) Q0 (⟨(Bi _ _).1,Int.le_trans (Bi _ _).2 Q28⟩)),fun o6 ho_o6=>?_⟩
 obtain ⟨⟨hp_o6_0,hp_o6_1⟩,hf_o6⟩:=ho_o6
 refine⟨hf_o6,(Gk _ _),(Bv Q2 Q2),(A7 o6.c1 (max 0 (((List.length q1.body:Nat):Int)+o5.x-2)) Q0 Q2),fun o7 ho_o7=>?_⟩
 obtain ⟨⟨hp_o7_0,hp_o7_1⟩,hf_o7⟩:=ho_o7
 exact⟨hf_o7,Q3,Q3,⟨Q30,Q0⟩,rfl,rfl⟩
 refine⟨(Cr _ _),(A7 o4.c1 (Cx f.number 2) Q0 (⟨(Bi _ _).1,Int.le_trans (Bi _ _).2 Q28⟩)),fun o5 ho_o5=>?_⟩
 obtain ⟨⟨hp_o5_0,hp_o5_1⟩,hf_o5⟩:=ho_o5
 refine⟨hf_o5,(Gk _ _),(Bv Q2 Q2),(A7 o5.c1 (max 0 ((List.length q1.body:Nat):Int)) Q0 Q2),fun o6 ho_o6=>?_⟩
 obtain ⟨⟨hp_o6_0,hp_o6_1⟩,hf_o6⟩:=ho_o6
 exact⟨hf_o6,Q3,Q3,⟨Q30,Q0⟩,rfl,rfl⟩
 refine⟨(A7 o1.c1 (Cx f.number (B6 f.kind)) Q0 (⟨(Bi _ _).1,Int.le_trans (Bi _ _).2 Q28⟩)),fun o2 ho_o2=>?_⟩
 obtain ⟨⟨hp_o2_0,hp_o2_1⟩,hf_o2⟩:=ho_o2
 refine⟨(Nj o2.c1 f.kind Q0),fun o3 ho_o3=>?_⟩
 obtain ⟨⟨hp_o3_0,hp_o3_1⟩,hf_o3⟩:=ho_o3
 exact⟨(Cr _ _),hf_o2,hf_o3,Q3,⟨Q30,Q0⟩,rfl,rfl⟩
 refine⟨(A7 c (Cx f.number (B6 f.kind)) Q0 (⟨(Bi _ _).1,Int.le_trans (Bi _ _).2 Q28⟩)),fun o1 ho_o1=>?_⟩
 obtain ⟨⟨hp_o1_0,hp_o1_1⟩,hf_o1⟩:=ho_o1
 refine⟨(Nj o1.c1 f.kind Q0),fun o2 ho_o2=>?_⟩
 obtain ⟨⟨hp_o2_0,hp_o2_1⟩,hf_o2⟩:=ho_o2
 exact⟨(Cr _ _),hf_o1,hf_o2,Q3,⟨Q30,Q0⟩,rfl,rfl⟩
structure Uw where
 t:List UInt8
 c1:Cur
def Aij (c:Cur) (p:Pln) (shape:Int) (deep:Int) (o:Uw):Prop:=Fun Tryz.prog 64 [vP 0,.agg (Nw p),vI shape,vI deep] [.cells (Bz c)] (.v (vT o.t)) [.cells (Bz o.c1)]
def Aik (c:Cur) (p:Pln) (shape:Int) (deep:Int) (o:Uw):Prop:=((List.length (o.t:List UInt8)≤4*D0 (Int.toNat deep))∧(Av o.c1))∧Aij c p shape deep o
structure Mb where
 c:Cur
 s:List UInt8
 i:Nat
def Kh (p:Pln) (deep:Int) (o1:Co) (x1:Shp):Fam:=⟨Mb,fun q1=>[(0,.v (vP 0)),(3,.v (vI deep)),(5,.v (vP 1)),(9,.v (vT q1.s)),(10,.v (vI o1.x)),(11,.v (.c (.seq .fld x1.fields))),(12,.v (vI ((q1.i:Nat):Int)))],fun q1=>[.cells (Bz q1.c),.cells (Nw p)],fun q1=>Av q1.c∧q1.i≤4∧List.length q1.s≤q1.i*D0 (Int.toNat deep),fun q1=>5-q1.i⟩
theorem Amq (K:Nat) (hB:Ang K) (c:Cur) (p:Pln) (shape:Int) (deep:Int) (hp1:Av c) (hp2:PlnG p) (hp3:(0:Int)≤deep∧deep≤4) (hp4:deep≤((K:Nat):Int)) (hp5:(0:Int)≤shape∧shape<((List.length (p).shapes:Nat):Int)): ∃o:Uw,Aik c p shape deep o:=by
 have hN:Bb=274877906944:=rfl
 have hvb:=Uv (Int.toNat deep)
 have hvm:=Ma hp3.1 hp3.2
 refine Br Tryz.func64 Q4 Q4 (w:=(.intro (Aa c 5) fun o1=> .seg [.call [0] (.v (vI o1.x)) (Kc o1.c1)] (.intro (Sx (p.shapes[Int.toNat shape]?)) fun x1=> .seg [.el .shp x1,.at 0,.keep [0,3,5,9,10,11,12],.sel [0,1]] (.loop (Kh p deep o1 x1) fun q1=>let z1:S:= .v (vI (((q1.i:Nat):Int)+1));.br (.br (.intro (Fv q1.c) fun o2=> .seg [.call [0] (.v (vT o2.t)) (Kc o2.c1),.as 26 z1,.at 0,.keep [0,3,5,9,10,11,12],.sel [0,1]] (.next)) (.intro (Aq q1.c 8) fun o2=> .seg [.call [0] (.v (vB o2.p)) (Kc o2.c1)] (.br (.intro (Fv o2.c1) fun o3=> .seg [.call [0] (.v (vT o3.t)) (Kc o3.c1),.as 26 z1,.at 0,.keep [0,3,5,9,10,11,12],.sel [0,1]] (.next)) (.intro (Aa o2.c1 ((List.length x1.fields:Nat):Int)) fun o3=> .intro (Sx (x1.fields[Int.toNat o3.x]?)) fun x2=> .intro (Ps o3.c1 p x2 deep) fun o4=> .seg [.ord [(0,true),(1,true),(2,true),(3,true),(4,true),(5,true),(6,true),(10,true),(7,false),(8,false),(9,false),(11,false),(12,true),(13,true)] [0],.call [0] (.v (vI o3.x)) (Kc o3.c1),.el .fld x2,.call [0] (.v (vT o4.t)) (Kc o4.c1),.as 26 z1,.at 0,.keep [0,3,5,9,10,11,12],.sel [0,1]] (.next))))) (.leaf (⟨q1.s,q1.c⟩:Uw) [0]))),In (Aa c 5) fun o1=>((Ai c 5 o1)∧El (p.shapes[Int.toNat shape]?) fun x1=>(let z3:=Kh p deep o1 x1;let z4:=((List.length x1.fields:Nat):Int);(p.shapes[Int.toNat shape]? =some x1)∧((0:Int)≤shape)∧z3.Has [(0,.v (vP 0)),(3,.v (vI deep)),(5,.v (vP 1)),(9,.v (vT [])),(10,.v (vI o1.x)),(11,.v (.c (.seq .fld x1.fields))),(12,.v (vI 0))] [.cells (Bz o1.c1),.cells (Nw p)]∧∀q1,z3.inv q1→(let z2:=((q1.i:Nat):Int)+1;Bc (decide (((q1.i:Nat):Int)<o1.x)) (Bc (decide (z4=0)) (In (Fv q1.c) fun o2=>((Ln q1.c o2)∧(((List.length q1.s+List.length o2.t:Nat):Int)≤Ba)∧(wI z2)∧z3.Nxt q1 [(0,.v (vP 0)),(3,.v (vI deep)),(5,.v (vP 1)),(9,.v (vT (q1.s++o2.t))),(10,.v (vI o1.x)),(11,.v (.c (.seq .fld x1.fields))),(12,.v (vI z2))] [.cells (Bz o2.c1),.cells (Nw p)])) (In (Aq q1.c 8) fun o2=>((Bg q1.c 8 o2)∧Bc o2.p (In (Fv o2.c1) fun o3=>((Ln o2.c1 o3)∧(((List.length q1.s+List.length o3.t:Nat):Int)≤Ba)∧(wI z2)∧z3.Nxt q1 [(0,.v (vP 0)),(3,.v (vI deep)),(5,.v (vP 1)),(9,.v (vT (q1.s++o3.t))),(10,.v (vI o1.x)),(11,.v (.c (.seq .fld x1.fields))),(12,.v (vI z2))] [.cells (Bz o3.c1),.cells (Nw p)])) (In (Aa o2.c1 z4) fun o3=>(El (x1.fields[Int.toNat o3.x]?) fun x2=>(In (Ps o3.c1 p x2 deep) fun o4=>((Ai o2.c1 z4 o3)∧(x1.fields[Int.toNat o3.x]? =some x2)∧((0:Int)≤o3.x)∧(T7 o3.c1 p x2 deep o4)∧(((List.length q1.s+List.length o4.t:Nat):Int)≤Ba)∧(wI z2)∧z3.Nxt q1 [(0,.v (vP 0)),(3,.v (vI deep)),(5,.v (vP 1)),(9,.v (vT (q1.s++o4.t))),(10,.v (vI o1.x)),(11,.v (.c (.seq .fld x1.fields))),(12,.v (vI z2))] [.cells (Bz o4.c1),.cells (Nw p)]))))))) (((List.length (q1.s:List UInt8)≤4*D0 (Int.toNat deep))∧(Av q1.c))∧Lf (.v (vT q1.s)) (.v (vT q1.s)) (Kc q1.c) (Kc q1.c))))))) Q4 ?_
 refine⟨(Am c 5 Q0),fun o1 ho_o1=>?_⟩
 obtain ⟨⟨hp_o1_0,hp_o1_1,hp_o1_2,hp_o1_3⟩,hf_o1⟩:=ho_o1
 refine⟨hf_o1,(Bh (l:=p.shapes) (i:=Int.toNat shape) Q2),fun x1 hx1=>?_⟩
 have hsg:=(hp2.sch.2 _ (List.mem_of_getElem? hx1)).2
 have hsl:=(hp2.sch.2 _ (List.mem_of_getElem? hx1)).1
 refine⟨hx1,Q2,Bf (j:=(⟨o1.c1,[],0⟩:Mb)) Q9 rfl (by dsimp only[Kh];exact⟨by assumption,by omega,by simp⟩),fun (q1:Mb) hq_q1=>?_⟩
 have hi_q1:Av q1.c∧q1.i≤4∧List.length q1.s≤q1.i*D0 (Int.toNat deep):=hq_q1
 obtain ⟨v1,v2,v3⟩:=hi_q1
 have hsm:=Nat.succ_mul q1.i (D0 (Int.toNat deep))
 have hs4:=Nat.mul_le_mul_right (D0 (Int.toNat deep)) v2
 refine dsp (fun h1 p1=>?_) fun h1 p1=>?_
 refine dsp (fun h2 p2=>?_) fun h2 p2=>?_
 refine⟨(T6 q1.c Q0),fun o2 ho_o2=>?_⟩
 obtain ⟨⟨hp_o2_0,hp_o2_1⟩,hf_o2⟩:=ho_o2
 exact⟨hf_o2,Q3,(Ac Q2 Q2),A3 (j:=(⟨o2.c1,q1.s++o2.t,q1.i+1⟩:Mb)) Q9 rfl Q58 (by dsimp only[Kh];omega)⟩
 refine⟨(By q1.c 8 Q0),fun o2 ho_o2=>?_⟩
 obtain ⟨hp_o2,hf_o2⟩:=ho_o2
 refine⟨hf_o2,fun h3=>?_,fun h3=>?_⟩
 refine⟨(T6 o2.c1 Q0),fun o3 ho_o3=>?_⟩
 obtain ⟨⟨hp_o3_0,hp_o3_1⟩,hf_o3⟩:=ho_o3
 exact⟨hf_o3,Q3,(Ac Q2 Q2),A3 (j:=(⟨o3.c1,q1.s++o3.t,q1.i+1⟩:Mb)) Q9 rfl Q58 (by dsimp only[Kh];omega)⟩
 refine⟨(Am o2.c1 ((List.length x1.fields:Nat):Int) Q0),fun o3 ho_o3=>?_⟩
 obtain ⟨⟨hp_o3_0,hp_o3_1,hp_o3_2,hp_o3_3⟩,hf_o3⟩:=ho_o3
 refine⟨(Bh (l:=x1.fields) (i:=Int.toNat o3.x) Q2),fun x2 hx2=>?_⟩
 have hfg:=hsg _ (List.mem_of_getElem? hx2)
 refine⟨(Ady K hB o3.c1 p x2 deep Q0 Q2 Q2 Q2 Q2 Q2),fun o4 ho_o4=>?_⟩
 obtain ⟨⟨hp_o4_0,hp_o4_1⟩,hf_o4⟩:=ho_o4
 exact⟨hf_o3,hx2,Q2,hf_o4,Q3,(Ac Q2 Q2),A3 (j:=(⟨o4.c1,q1.s++o4.t,q1.i+1⟩:Mb)) Q9 rfl Q58 (by dsimp only[Kh];omega)⟩
 exact⟨⟨Q2,Q0⟩,rfl,rfl⟩
theorem An0: ∀K,Ang K:=by
 intro K
 induction K with
 |zero=>intro c p shape deep hp1 hp2 hp3 hp4 hp5;omega
 |succ K ih=>
  intro c p shape deep hp1 hp2 hp3 hp4 hp5
  obtain ⟨o,h⟩:=Amq K ih c p shape deep hp1 hp2 hp3 (by omega) hp5
  exact⟨⟨o.t,o.c1⟩,h⟩
structure Pt where
 t:List UInt8
 c1:Cur
def T8 (c:Cur) (p:Pln) (shape:Int) (deep:Int) (o:Pt):Prop:=Fun Tryz.prog 64 [vP 0,.agg (Nw p),vI shape,vI deep] [.cells (Bz c)] (.v (vT o.t)) [.cells (Bz o.c1)]
def Pu (c:Cur) (p:Pln) (shape:Int) (deep:Int) (o:Pt):Prop:=((List.length (o.t:List UInt8)≤4*D0 (Int.toNat deep))∧(List.length (o.t:List UInt8)≤58000)∧(Av o.c1))∧T8 c p shape deep o
theorem Adz (c:Cur) (p:Pln) (shape:Int) (deep:Int) (hp1:Av c) (hp2:PlnG p) (hp3:(0:Int)≤deep∧deep≤4) (hp4:(0:Int)≤deep) (hp5:(0:Int)≤shape∧shape<((List.length (p).shapes:Nat):Int)): ∃o:Pt,Pu c p shape deep o:=by
 obtain ⟨o,h⟩:=An0 (Int.toNat deep+1) c p shape deep hp1 hp2 hp3 (by omega) hp5
 exact⟨⟨o.t,o.c1⟩,⟨h.1.1,by have h1:=Ma hp3.1 hp3.2;have h2:=h.1.1;dsimp only;omega,h.1.2⟩,h.2⟩
def SchB (l:List Shp):Prop:=l.length≤7∧∀e∈l,e.fields.length≤6
theorem SchG.b {l:List Shp} (h:SchG l):SchB l:=⟨by have:=h.1;omega,fun e he=>by have:=(h.2 e he).1;omega⟩
theorem SchB.set {l:List Shp} {i:Nat} {x:Shp} (h:SchB l) (hx:x.fields.length≤6):SchB (l.set i x):=by
 refine⟨by rw[List.length_set];exact h.1,fun e he=>?_⟩
 rcases List.mem_or_eq_of_mem_set he with he|rfl
 ·exact h.2 e he
 ·exact hx
structure Aky where
 l:List Shp
 c1:Cur
structure Akk where
 c:Cur
 shapes:List Shp
structure Akm where
 p:Pln
 c1:Cur
end Go.Proofs.YtijacopaadmncaaGreat.Ax
