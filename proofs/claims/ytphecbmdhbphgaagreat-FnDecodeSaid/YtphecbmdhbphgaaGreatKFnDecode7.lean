/- Drawn plans. Drawn numbers. Drawn texts. Drawn bytes of messages. -/
import Derived.Test.YtphecbmdhbphgaaGreatKFnDecode6
set_option linter.unusedSimpArgs false
set_option linter.unusedVariables false
namespace Go.Proofs.YtphecbmdhbphgaaGreat.Ax
open Go.RowKit
structure P7 where
 l:List Shp
 c1:Cur
def Tt (c:Cur) (o:P7):Prop:=Fun Tryz.prog 148 [vP 0] [.cells (Ct c)] (.v (.agg [.own 1])) [.cells (Ct o.c1),.tree o.l]
def Lv (c:Cur) (o:P7):Prop:=((SchG o.l)∧(1≤List.length o.l)∧(List.length o.l≤3)∧(A4 o.c1))∧Tt c o
theorem Ado (c:Cur) (hp1:A4 c): ∃o:P7,Lv c o:=by
 have hN:Bh=274877906944:=rfl
 refine Cj Tryz.func148 Q4 Q4 (w:=let z1:S:= .v (.agg [.own 1]);(.intro (Ts c) fun o1=> .sZ [.call [0] z1 [.cells (Ct o1.c1),.tree o1.r.mQ]] (.intro (Tq o1.r) fun o2=> .sZ [.call [] (.tup [.agg [.own 0],.agg [.int .i64 0,.int .i64 0,.int .i64 0]]) [.tree o2.l]] (.lJ (⟨o2.l,o1.c1⟩:P7) [0,3])),In (Ts c) fun o1=>((Y7 c o1)∧In (Tq o1.r) fun o2=>((Y6 o1.r o2)∧((SchG o2.l)∧(1≤o2.l.length)∧(o2.l.length≤3)∧(A4 o1.c1))∧Lf z1 z1 [.cells (Ct o1.c1),.tree o2.l] [.cells (Ct o1.c1),.tree o2.l])))) Q4 ?_
 refine⟨(Ak6 c Q0),fun o1 ho_o1=>?_⟩
 obtain ⟨⟨hp_o1_0,hp_o1_1⟩,hf_o1⟩:=ho_o1
 refine⟨hf_o1,(Ak5 o1.r Q2),fun o2 ho_o2=>?_⟩
 obtain ⟨hp_o2,hf_o2⟩:=ho_o2
 exact⟨hf_o2,⟨Q2,(hp_o2.1.1),(hp_o2.1.2),Q0⟩,rfl,rfl⟩
structure K4 where
 x:Int
 c1:Cur
def P8 (c:Cur) (l:List Int) (o:K4):Prop:=Fun Tryz.prog 86 [vP 0,vO 1] [.cells (Ct c),.lst .int l] (.v (vI o.x)) [.cells (Ct o.c1),.lst .int l]
def Jf (c:Cur) (l:List Int) (o:K4):Prop:=((o.x∈l)∧(A4 o.c1))∧P8 c l o
theorem Y8 (c:Cur) (l:List Int) (hp1:A4 c) (hp2:1≤l.length) (hp3:l.length≤1000): ∃o:K4,Jf c l o:=by
 have hN:Bh=274877906944:=rfl
 refine Cj Tryz.func86 Q4 Q4 (w:=let z1:=((l.length:Nat):Int);(.intro (Aa c z1) fun o1=> .sZ [.call [0] (.v (vI o1.x)) (Kc o1.c1)] (.intro (Sx (l[Int.toNat o1.x]?)) fun x1=> .sZ [.el .int x1] (.lJ (⟨x1,o1.c1⟩:K4) [0,1])),In (Aa c z1) fun o1=>((Ap c z1 o1)∧El (l[Int.toNat o1.x]?) fun x1=>((o1.x<z1)∧((0:Int)≤o1.x)∧(l[Int.toNat o1.x]? =some x1)∧((x1∈l)∧(A4 o1.c1))∧Lf (.v (vI x1)) (.v (vI x1)) [.cells (Ct o1.c1),.lst .int l] [.cells (Ct o1.c1),.lst .int l])))) Q4 ?_
 refine⟨(Az c ((l.length:Nat):Int) Q0),fun o1 ho_o1=>?_⟩
 obtain ⟨⟨hp_o1_0,hp_o1_1,hp_o1_2,hp_o1_3⟩,hf_o1⟩:=ho_o1
 refine⟨hf_o1,(Bo (l:=l) (i:=Int.toNat o1.x) Q2),fun x1 hx1=>?_⟩
 exact⟨Q2,Q2,hx1,⟨(List.mem_of_getElem? hx1),Q0⟩,rfl,rfl⟩
structure P9 where
 p:Pln
 c1:Cur
def Tu (c:Cur) (o:P9):Prop:=Fun Tryz.prog 79 [vP 0] [.cells (Ct c)] (.v (.agg (G0 o.p))) [.cells (Ct o.c1)]
def Lw (c:Cur) (o:P9):Prop:=((PlnG o.p)∧(A4 o.c1))∧Tu c o
theorem Adp (c:Cur) (hp1:A4 c): ∃o:P9,Lw c o:=by
 have hN:Bh=274877906944:=rfl
 refine Cj Tryz.func79 Q4 Q4 (w:=let z9:=([(2,.v (vP 1))]:List (Nat×S))=[(2,.v (vP 1))];(.intro (Lv c) fun o1=> .sZ [.call [0] (.v (.agg [.own 1])) [.cells (Ct o1.c1),.tree o1.l]] (.intro (Aa o1.c1 ((o1.l.length:Nat):Int)) fun o2=> .intro (Aa o2.c1 4) fun o3=>let z5:S:= .v (vI (1+o3.x));.intro (Jf o3.c1 [60,60,2000,200,5,0]) fun o4=>let z1:List Blk:=[.cells (Ct o4.c1),.lst .int [60,60,2000,200,5,0]];.sZ [.tree (fr (.first 6 (.first 9 (.two 5 (.two 7 (.first 8 (.one 10 (.one 11 (.first 12 (.one 13 (.done)))))) 10 (.one 7 (.first 8 (.one 11 (.first 12 (.one 13 (.done))))))) 10 (.one 5 (.one 7 (.first 8 (.one 11 (.first 12 (.one 13 (.done)))))))))) 0 5) 13 [0],.call [0] (.v (vI o2.x)) (Kc o2.c1),.call [0] (.v (vI o3.x)) (Kc o3.c1),.as 14 z5,.ty .int,.call [0,4] (.v (vI o4.x)) z1,.at 0,.keep [2],.sel [0,1,2],.ty .int,.call [0] (.v (vI o3.x)) (Kc o3.c1),.as 14 z5,.call [0,4] (.v (vI o4.x)) z1,.at 0,.keep [2],.sel [0,1,2],.ty .int,.call [0] (.v (vI o2.x)) (Kc o2.c1),.call [0] (.v (vI o3.x)) (Kc o3.c1),.as 14 z5,.call [0,4] (.v (vI o4.x)) z1,.at 0,.keep [2],.sel [0,1,2],.at 0,.pub 1 0] (.lJ (⟨(⟨o1.l,o2.x,1+o3.x,o4.x⟩:Pln),o4.c1⟩:P9) [0])),In (Lv c) fun o1=>(let z8:=((o1.l.length:Nat):Int);(Tt c o1)∧In (Aa o1.c1 z8) fun o2=>(let z7:=Ap o1.c1 z8 o2;In (Aa o2.c1 4) fun o3=>(let z6:=Ap o2.c1 4 o3;In (Jf o3.c1 [60,60,2000,200,5,0]) fun o4=>(let z2:List Blk:=[.cells (Ct o4.c1),.cells [.own 2,.int .i64 o2.x,.int .i64 (1+o3.x),.int .i64 o4.x],.tree o1.l];let z3:=P8 o3.c1 [60,60,2000,200,5,0] o4;let z4:S:= .v (.agg [.seq .shp o1.l,.int .i64 o2.x,.int .i64 (1+o3.x),.int .i64 o4.x]);z7∧z6∧(wI (1+o3.x))∧z3∧z6∧(wI (1+o3.x))∧z3∧((z2:List Blk)=z2)∧z9∧z7∧z6∧(wI (1+o3.x))∧z3∧((z2:List Blk)=z2)∧z9∧((PlnG (⟨o1.l,o2.x,1+o3.x,o4.x⟩:Pln))∧(A4 o4.c1))∧Lf z4 z4 (Kc o4.c1) (Kc o4.c1))))))) Q4 ?_
 refine⟨(Ado c Q0),fun o1 ho_o1=>?_⟩
 obtain ⟨⟨hp_o1_0,hp_o1_1,hp_o1_2,hp_o1_3⟩,hf_o1⟩:=ho_o1
 refine⟨hf_o1,(Az o1.c1 ((o1.l.length:Nat):Int) Q0),fun o2 ho_o2=>?_⟩
 obtain ⟨⟨hp_o2_0,hp_o2_1,hp_o2_2,hp_o2_3⟩,hf_o2⟩:=ho_o2
 refine⟨(Az o2.c1 4 Q0),fun o3 ho_o3=>?_⟩
 obtain ⟨⟨hp_o3_0,hp_o3_1,hp_o3_2,hp_o3_3⟩,hf_o3⟩:=ho_o3
 refine⟨(Y8 o3.c1 [60,60,2000,200,5,0] Q0 Q6 Q6),fun o4 ho_o4=>?_⟩
 obtain ⟨⟨hp_o4_0,hp_o4_1⟩,hf_o4⟩:=ho_o4
 exact⟨hf_o2,hf_o3,(Ad Q2 Q2),hf_o4,hf_o3,(Ad Q2 Q2),hf_o4,rfl,rfl,hf_o2,hf_o3,(Ad Q2 Q2),hf_o4,rfl,rfl,⟨(⟨by assumption,by dsimp only;have:=hp_o1_0.1;omega,by dsimp only;omega,by have hpk:=hp_o4_0;simp at hpk;dsimp only;omega⟩),Q0⟩,rfl,rfl⟩
theorem Ak7 (x:Int):0≤IntKind.u64.wrap x∧IntKind.u64.wrap x≤18446744073709551615:=by
 rw[IntKind.wrap_u64];omega
theorem Aoo {l:List Int} (hl:(l.all fun x=>decide (0≤x)&&decide (x≤18446744073709551615))=true) {i:Nat} {x:Int} (h:l[i]? =some x):0≤x∧x≤18446744073709551615:=by
 have:=List.all_eq_true.1 hl x (List.mem_of_getElem? h)
 simpa using this
theorem Y9 {u:Int} (h:0≤u∧u≤18446744073709551615):1≤(Eo u).length∧(Eo u).length≤10:=by
 have:=Af0 (u:=u) (by omega)
 unfold Md at this
 omega
theorem Aop (u:Int) (hp1:(0:Int)≤u∧u≤18446744073709551615):Fun Tryz.prog 201 [.c (.int .u64 u)] [] (.v (vI (Md u))) []:=by
 have hN:Bh=274877906944:=rfl
 have hpl:=Y9 hp1
 refine Ar Tryz.func201 Q4 Q4 (w:=(.sZ [.call [] (.v (vT (Eo u))) []] (.lJ () []),(Fp 202 [.c (.int .u64 u)] [] (.v (vT (Eo u))) [])∧Lf (.v (vI ((List.length (Eo u):Nat):Int))) (.v (vI (Md u))) [] [])) Q4 ?_
 exact⟨(Xh _ Q2),(congrArg S.v (congrArg V.c (congrArg (C.int .i64) (by rfl)))),rfl⟩
structure Nu where
 t:List UInt8
def Aa0 (u:Int) (n:Int) (o:Nu):Prop:=Fun Tryz.prog 200 [.c (.int .u64 u),vI n] [] (.v (vT o.t)) []
def Vp (u:Int) (n:Int) (o:Nu):Prop:=((List.length (o.t:List UInt8)≤10))∧Aa0 u n o
structure Qa where
 oJ:List Int
def Qb (n:Int):Fam:=⟨Qa,fun q1=>[(1,.v (vI n)),(5,.v (vO 0))],fun q1=>[.lst .u8 q1.oJ],fun q1=>1≤List.length q1.oJ∧List.length q1.oJ≤10,fun q1=>10-List.length q1.oJ⟩
theorem Aoq (u:Int) (n:Int) (hp1:(0:Int)≤u∧u≤18446744073709551615): ∃o:Nu,Vp u n o:=by
 have hN:Bh=274877906944:=rfl
 have hpl:=Y9 hp1
 refine Cj Tryz.func200 Q4 Q4 (w:=let z7:=List.map (fun b=>(UInt8.toNat b:Int)) (Eo u);let z6:=((z7.length:Nat):Int);let z8:=Qb n;(.sZ [.call [] (.v (vT (Eo u))) [],.call [] (.v (vB (Ak n z6 10))) []] (.br (.lJ (⟨[]⟩:Nu) []) (.sZ [.at 0,.keep [1,5],.sel [0]] (.loop z8 fun q1=>let z3:=((q1.oJ.length:Nat):Int)-1;.br (.sZ [.as 21 (.v (vI z3)),.as 25 (.v (vI z3))] (.intro (Sx (q1.oJ[Int.toNat z3]?)) fun x1=> .sZ [.el .u8 x1,.el .u8 x1,.ty .u8,.ty .u8,.at 0,.keep [1,5],.sel [2]] (.next))) (.lJ (⟨List.map Bj q1.oJ⟩:Nu) [])))),(Fp 202 [.c (.int .u64 u)] [] (.v (vT (Eo u))) [])∧(List.length (Eo u)≤Bh)∧(Fp 44 [vI n,vI z6,vI 10] [] (.v (vB (Ak n z6 10))) [])∧Bc (!(Ak n z6 10)) (((List.length ([]:List UInt8)≤10))∧Lf (.v (vT [])) (.v (vT [])) [] []) (z8.Has [(1,.v (vI n)),(5,.v (vO 0))] [.lst .u8 z7]∧∀q1,z8.inv q1→(let z4:=((q1.oJ.length:Nat):Int);let z5:=List.map Bj q1.oJ;Bc (decide (z4<n)) ((wI (z4-1))∧(wI (z4-1))∧El (q1.oJ[Int.toNat (z4-1)]?) fun x1=>(let z1:=List.set q1.oJ (Int.toNat (z4-1)) (IntKind.u8.wrap (x1+128));let z2:=q1.oJ[Int.toNat (z4-1)]? =some x1;(z4-1<z4)∧((0:Int)≤z4-1)∧z2∧(z4-1<z4)∧((0:Int)≤z4-1)∧z2∧(z1.length+List.length [0]≤Bh)∧z8.Nxt q1 [(1,.v (vI n)),(5,.v (vO 0))] [.lst .u8 (z1++[0])])) (((List.length (z5:List UInt8)≤10))∧Lf (.v (vT z5)) (.v (vT z5)) [] []))))) Q4 ?_
 refine⟨(Xh _ Q2),Q2,(Bb _ _ _),fun h1=>have q1:=Ao h1;have p1:=A0 q1;?_,fun h1=>have q1:=An h1;have p1:=Av q1;?_⟩
 exact⟨Q6,rfl,rfl⟩
 refine⟨Bp (j:=(⟨List.map (fun b=>(UInt8.toNat b:Int)) (Eo u)⟩:Qa)) rfl rfl (by dsimp only[Qb];exact⟨by simp;omega,by simp;omega⟩),fun (q1:Qa) hq_q1=>?_⟩
 have hi_q1:1≤q1.oJ.length∧q1.oJ.length≤10:=hq_q1
 obtain ⟨v1,v2⟩:=hi_q1
 refine dsp (fun h2 p2=>?_) fun h2 p2=>?_
 refine⟨(Ad Q2 Q2),(Ad Q2 Q2),(Bo (l:=q1.oJ) (i:=Int.toNat (((q1.oJ.length:Nat):Int)-1)) Q2),fun x1 hx1=>?_⟩
 exact⟨Q2,Q2,hx1,Q2,Q2,hx1,Q76,A6 (j:=(⟨(List.set q1.oJ (Int.toNat (((q1.oJ.length:Nat):Int)-1)) (IntKind.u8.wrap (x1+128)))++[0]⟩:Qa)) rfl rfl (by dsimp only[Qb];exact⟨by simp,by simp;omega⟩) (by dsimp only[Qb];simp;omega)⟩
 exact⟨Q17,rfl,rfl⟩
structure La where
 x:Int
 c1:Cur
def Gx (c:Cur) (o:La):Prop:=Fun Tryz.prog 151 [vP 0] [.cells (Ct c)] (.v (.c (.int .u64 o.x))) [.cells (Ct o.c1)]
def Dd (c:Cur) (o:La):Prop:=(((0:Int)≤o.x∧o.x≤18446744073709551615)∧(A4 o.c1))∧Gx c o
structure Qc where
 c:Cur
 u:Int
 i:Nat
def Qd  :Fam:=⟨Qc,fun q1=>[(0,.v (vP 0)),(3,.v (.c (.int .u64 q1.u))),(4,.v (vI ((q1.i:Nat):Int)))],fun q1=>[.cells (Ct q1.c)],fun q1=>A4 q1.c∧q1.i≤8∧((0:Int)≤q1.u∧q1.u≤18446744073709551615),fun q1=>8-q1.i⟩
theorem M6 (c:Cur) (hp1:A4 c): ∃o:La,Dd c o:=by
 have hN:Bh=274877906944:=rfl
 refine Cj Tryz.func151 Q4 Q4 (w:=let z2:=Qd;(.intro (Aa c 4) fun o1=> .sZ [.call [0] (.v (vI o1.x)) (Kc o1.c1)] (.br (.sZ [.ty .u64] (.intro (Aa o1.c1 12) fun o2=> .sZ [.call [0] (.v (vI o2.x)) (Kc o2.c1)] (.intro (Sx ([0,1,127,128,16383,16384,2147483647,4294967295,4294967296,9223372036854775807,9223372036854775808,18446744073709551615][Int.toNat o2.x]?)) fun x1=> .sZ [.el .u64 x1] (.lJ (⟨x1,o2.c1⟩:La) [0])))) (.br (.sZ [.at 0,.keep [0,3,4],.sel [0]] (.loop z2 fun q1=> .br (.intro (Ex q1.c) fun o2=> .sZ [.call [0] (.v (vI o2.x)) (Kc o2.c1),.as 24 (.v (.c (.int .u64 o2.x))),.as 19 (.v (vI (((q1.i:Nat):Int)+1))),.at 0,.keep [0,3,4],.sel [0]] (.next)) (.lJ (⟨q1.u,q1.c⟩:La) [0]))) (.intro (Aa o1.c1 300) fun o2=> .sZ [.call [0] (.v (vI o2.x)) (Kc o2.c1),.as 29 (.v (.c (.int .u64 o2.x)))] (.lJ (⟨o2.x,o2.c1⟩:La) [0])))),In (Aa c 4) fun o1=>((Ap c 4 o1)∧Bc (decide (o1.x=0)) (In (Aa o1.c1 12) fun o2=>((Ap o1.c1 12 o2)∧El ([0,1,127,128,16383,16384,2147483647,4294967295,4294967296,9223372036854775807,9223372036854775808,18446744073709551615][Int.toNat o2.x]?) fun x1=>((o2.x<((List.length [0,1,127,128,16383,16384,2147483647,4294967295,4294967296,9223372036854775807,9223372036854775808,18446744073709551615]:Nat):Int))∧((0:Int)≤o2.x)∧([0,1,127,128,16383,16384,2147483647,4294967295,4294967296,9223372036854775807,9223372036854775808,18446744073709551615][Int.toNat o2.x]? =some x1)∧(((0:Int)≤x1∧x1≤18446744073709551615)∧(A4 o2.c1))∧Lf (.v (.c (.int .u64 x1))) (.v (.c (.int .u64 x1))) (Kc o2.c1) (Kc o2.c1)))) (Bc (decide (o1.x=1)) (z2.Has [(0,.v (vP 0)),(3,.v (.c (.int .u64 0))),(4,.v (vI 0))] (Kc o1.c1)∧∀q1,z2.inv q1→(let z1:=((q1.i:Nat):Int);Bc (decide (z1<8)) (In (Ex q1.c) fun o2=>((Hu q1.c o2)∧(wU (o2.x))∧(wI (z1+1))∧z2.Nxt q1 [(0,.v (vP 0)),(3,.v (.c (.int .u64 (IntKind.u64.wrap ((IntKind.u64.wrap (256*q1.u))+o2.x))))),(4,.v (vI (z1+1)))] (Kc o2.c1))) ((((0:Int)≤q1.u∧q1.u≤18446744073709551615)∧(A4 q1.c))∧Lf (.v (.c (.int .u64 q1.u))) (.v (.c (.int .u64 q1.u))) (Kc q1.c) (Kc q1.c)))) (In (Aa o1.c1 300) fun o2=>((Ap o1.c1 300 o2)∧(wU (o2.x))∧(((0:Int)≤o2.x∧o2.x≤18446744073709551615)∧(A4 o2.c1))∧Lf (.v (.c (.int .u64 o2.x))) (.v (.c (.int .u64 o2.x))) (Kc o2.c1) (Kc o2.c1))))))) Q4 ?_
 refine⟨(Az c 4 Q0),fun o1 ho_o1=>?_⟩
 obtain ⟨⟨hp_o1_0,hp_o1_1,hp_o1_2,hp_o1_3⟩,hf_o1⟩:=ho_o1
 refine⟨hf_o1,dsp (fun h1 p1=>?_) fun h1 p1=>?_⟩
 refine⟨(Az o1.c1 12 Q0),fun o2 ho_o2=>?_⟩
 obtain ⟨⟨hp_o2_0,hp_o2_1,hp_o2_2,hp_o2_3⟩,hf_o2⟩:=ho_o2
 refine⟨hf_o2,(Bo (l:=[0,1,127,128,16383,16384,2147483647,4294967295,4294967296,9223372036854775807,9223372036854775808,18446744073709551615]) (i:=Int.toNat o2.x) Q6),fun x1 hx1=>?_⟩
 refine⟨Q6,Q2,?_⟩
 have hwx:=Aoo (by decide) hx1
 exact⟨hx1,⟨Q2,Q0⟩,rfl,rfl⟩
 refine dsp (fun h2 p2=>?_) fun h2 p2=>?_
 refine⟨Bp (j:=(⟨o1.c1,0,0⟩:Qc)) Q8 rfl (by dsimp only[Qd];exact⟨by assumption,by omega,by omega⟩),fun (q1:Qc) hq_q1=>?_⟩
 have hi_q1:A4 q1.c∧q1.i≤8∧((0:Int)≤q1.u∧q1.u≤18446744073709551615):=hq_q1
 obtain ⟨v1,v2,v3⟩:=hi_q1
 refine dsp (fun h3 p3=>?_) fun h3 p3=>?_
 refine⟨(P1 q1.c Q0),fun o2 ho_o2=>?_⟩
 obtain ⟨⟨hp_o2_0,hp_o2_1⟩,hf_o2⟩:=ho_o2
 exact⟨hf_o2,(Bu Q2 Q2),(Ad Q2 Q2),A6 (j:=(⟨o2.c1,IntKind.u64.wrap ((IntKind.u64.wrap (256*q1.u))+o2.x),q1.i+1⟩:Qc)) Q8 rfl (by dsimp only[Qd];exact⟨by assumption,by omega,Ak7 _⟩) (by dsimp only[Qd];omega)⟩
 exact⟨⟨Q2,Q0⟩,rfl,rfl⟩
 refine⟨(Az o1.c1 300 Q0),fun o2 ho_o2=>?_⟩
 obtain ⟨⟨hp_o2_0,hp_o2_1,hp_o2_2,hp_o2_3⟩,hf_o2⟩:=ho_o2
 exact⟨hf_o2,(Bu Q2 Q2),⟨Q2,Q0⟩,rfl,rfl⟩
structure Nv where
 t:List UInt8
 c1:Cur
def Ay (c:Cur) (u:Int) (o:Nv):Prop:=Fun Tryz.prog 150 [vP 0,.c (.int .u64 u)] [.cells (Ct c)] (.v (vT o.t)) [.cells (Ct o.c1)]
def Ah (c:Cur) (u:Int) (o:Nv):Prop:=((List.length (o.t:List UInt8)≤10)∧(A4 o.c1))∧Ay c u o
theorem Bg (c:Cur) (u:Int) (hp1:A4 c) (hp2:(0:Int)≤u∧u≤18446744073709551615): ∃o:Nv,Ah c u o:=by
 have hN:Bh=274877906944:=rfl
 have hpl:=Y9 hp2
 have hvl:Md u=(((Eo u).length:Nat):Int):=rfl
 refine Cj Tryz.func150 Q4 Q4 (w:=let z3:S:= .v (vT (Eo u));let z4:=List.length ((Eo u):List UInt8)≤10;(.intro (Au c 4) fun o1=> .sZ [.call [0] (.v (vB o1.p)) (Kc o1.c1)] (.br (.sZ [.call [] (.v (vI (Md u))) []] (.intro (Aa o1.c1 3) fun o2=> .sZ [.call [0] (.v (vI o2.x)) (Kc o2.c1),.as 13 (.v (vI ((Md u)+o2.x)))] (.intro (Vp u ((Md u)+o2.x)) fun o3=> .sZ [.call [] (.v (vT o3.t)) []] (.br (.lJ (⟨o3.t,o2.c1⟩:Nv) [0]) (.sZ [.call [] z3 []] (.lJ (⟨Eo u,o2.c1⟩:Nv) [0])))))) (.sZ [.call [] z3 []] (.lJ (⟨Eo u,o1.c1⟩:Nv) [0]))),In (Au c 4) fun o1=>((Bq c 4 o1)∧Bc o1.p ((Fp 201 [.c (.int .u64 u)] [] (.v (vI (Md u))) [])∧In (Aa o1.c1 3) fun o2=>(let z1:List Blk:=(Kc o2.c1);let z2:=(Md u)+o2.x;(Ap o1.c1 3 o2)∧(wI z2)∧In (Vp u z2) fun o3=>((Aa0 u z2 o3)∧Bc (!decide (o3.t=[])) (((List.length (o3.t:List UInt8)≤10)∧(A4 o2.c1))∧Lf (.v (vT o3.t)) (.v (vT o3.t)) z1 z1) ((Fp 202 [.c (.int .u64 u)] [] z3 [])∧(z4∧(A4 o2.c1))∧Lf z3 z3 z1 z1)))) ((Fp 202 [.c (.int .u64 u)] [] z3 [])∧(z4∧(A4 o1.c1))∧Lf z3 z3 (Kc o1.c1) (Kc o1.c1))))) Q4 ?_
 refine⟨(Cf c 4 Q0),fun o1 ho_o1=>?_⟩
 obtain ⟨hp_o1,hf_o1⟩:=ho_o1
 refine⟨hf_o1,fun h1=>?_,fun h1=>?_⟩
 refine⟨(Aop _ Q2),(Az o1.c1 3 Q0),fun o2 ho_o2=>?_⟩
 obtain ⟨⟨hp_o2_0,hp_o2_1,hp_o2_2,hp_o2_3⟩,hf_o2⟩:=ho_o2
 refine⟨hf_o2,(Ad Q2 Q2),(Aoq u ((Md u)+o2.x) Q2),fun o3 ho_o3=>?_⟩
 obtain ⟨hp_o3,hf_o3⟩:=ho_o3
 refine⟨hf_o3,fun h2=>have q2:=Ao h2;have p2:=of_decide_eq_false q2;?_,fun h2=>have q2:=An h2;have p2:=of_decide_eq_true q2;?_⟩
 exact⟨⟨Q2,Q0⟩,rfl,rfl⟩
 exact⟨(Xh _ Q2),⟨Q2,Q0⟩,rfl,rfl⟩
 exact⟨(Xh _ Q2),⟨Q2,Q0⟩,rfl,rfl⟩
structure Kh where
 x:Int
 c1:Cur
def Rw (c:Cur) (o:Kh):Prop:=Fun Tryz.prog 176 [vP 0] [.cells (Ct c)] (.v (vI o.x)) [.cells (Ct o.c1)]
def Rx (c:Cur) (o:Kh):Prop:=((A4 o.c1))∧Rw c o
theorem Ahv (c:Cur) (hp1:A4 c): ∃o:Kh,Rx c o:=by
 have hN:Bh=274877906944:=rfl
 refine Cj Tryz.func176 Q4 Q4 (w:=(.intro (Au c 4) fun o1=> .sZ [.call [0] (.v (vB o1.p)) (Kc o1.c1)] (.br (.sZ [.ty .int,.pubS 6] (.intro (B5 o1.c1 [0,1,(-1),18999,19000,19999,20000,536870911,536870912,9223372036854775807]) fun o2=> .sZ [.call [0] (.v (vI o2.x)) (Kc o2.c1)] (.lJ (⟨o2.x,o2.c1⟩:Kh) [0]))) (.intro (Aa o1.c1 20) fun o2=> .sZ [.call [0] (.v (vI o2.x)) (Kc o2.c1),.as 10 (.v (vI (1+o2.x)))] (.lJ (⟨1+o2.x,o2.c1⟩:Kh) [0]))),In (Au c 4) fun o1=>((Bq c 4 o1)∧Bc o1.p (In (B5 o1.c1 [0,1,(-1),18999,19000,19999,20000,536870911,536870912,9223372036854775807]) fun o2=>((Dq o1.c1 [0,1,(-1),18999,19000,19999,20000,536870911,536870912,9223372036854775807] o2)∧((A4 o2.c1))∧Lf (.v (vI o2.x)) (.v (vI o2.x)) (Kc o2.c1) (Kc o2.c1))) (In (Aa o1.c1 20) fun o2=>((Ap o1.c1 20 o2)∧(wI (1+o2.x))∧((A4 o2.c1))∧Lf (.v (vI (1+o2.x))) (.v (vI (1+o2.x))) (Kc o2.c1) (Kc o2.c1)))))) Q4 ?_
 refine⟨(Cf c 4 Q0),fun o1 ho_o1=>?_⟩
 obtain ⟨hp_o1,hf_o1⟩:=ho_o1
 refine⟨hf_o1,fun h1=>?_,fun h1=>?_⟩
 refine⟨(E9 o1.c1 [0,1,(-1),18999,19000,19999,20000,536870911,536870912,9223372036854775807] Q0 Q6 Q6),fun o2 ho_o2=>?_⟩
 obtain ⟨⟨hp_o2_0,hp_o2_1⟩,hf_o2⟩:=ho_o2
 exact⟨hf_o2,Q0,rfl,rfl⟩
 refine⟨(Az o1.c1 20 Q0),fun o2 ho_o2=>?_⟩
 obtain ⟨⟨hp_o2_0,hp_o2_1,hp_o2_2,hp_o2_3⟩,hf_o2⟩:=ho_o2
 exact⟨hf_o2,(Ad Q2 Q2),Q0,rfl,rfl⟩
theorem Agi {t:List UInt8} {l:List (List UInt8)} {n:Nat} (h:t∈l) (hl:(l.all fun x=>decide (x.length≤n))=true):t.length≤n:=by
 have:=List.all_eq_true.1 hl t h
 simpa using this
structure Sq where
 t:List UInt8
 c1:Cur
def Aa1 (c:Cur) (l:List (List UInt8)) (o:Sq):Prop:=Fun Tryz.prog 178 [vP 0,.c (.seq .str l)] [.cells (Ct c)] (.v (vT o.t)) [.cells (Ct o.c1)]
def Vq (c:Cur) (l:List (List UInt8)) (o:Sq):Prop:=((o.t∈l)∧(A4 o.c1))∧Aa1 c l o
theorem Aor (c:Cur) (l:List (List UInt8)) (hp1:A4 c) (hp2:1≤l.length) (hp3:l.length≤1000): ∃o:Sq,Vq c l o:=by
 have hN:Bh=274877906944:=rfl
 refine Cj Tryz.func178 Q4 Q4 (w:=let z1:=((l.length:Nat):Int);(.intro (Aa c z1) fun o1=> .sZ [.call [0] (.v (vI o1.x)) (Kc o1.c1)] (.intro (Sx (l[Int.toNat o1.x]?)) fun x1=> .sZ [.el .str x1] (.lJ (⟨x1,o1.c1⟩:Sq) [0])),In (Aa c z1) fun o1=>((Ap c z1 o1)∧El (l[Int.toNat o1.x]?) fun x1=>((l[Int.toNat o1.x]? =some x1)∧((0:Int)≤o1.x)∧((x1∈l)∧(A4 o1.c1))∧Lf (.v (vT x1)) (.v (vT x1)) (Kc o1.c1) (Kc o1.c1))))) Q4 ?_
 refine⟨(Az c ((l.length:Nat):Int) Q0),fun o1 ho_o1=>?_⟩
 obtain ⟨⟨hp_o1_0,hp_o1_1,hp_o1_2,hp_o1_3⟩,hf_o1⟩:=ho_o1
 refine⟨hf_o1,(Bo (l:=l) (i:=Int.toNat o1.x) Q2),fun x1 hx1=>?_⟩
 exact⟨hx1,Q2,⟨(List.mem_of_getElem? hx1),Q0⟩,rfl,rfl⟩
structure Lx where
 t:List UInt8
 c1:Cur
def Tv (c:Cur) (s:List UInt8) (o:Lx):Prop:=Fun Tryz.prog 203 [vP 0,vT s] [.cells (Ct c)] (.v (vT o.t)) [.cells (Ct o.c1)]
def Ly (c:Cur) (s:List UInt8) (o:Lx):Prop:=((List.length (o.t:List UInt8)≤List.length s+2)∧(A4 o.c1))∧Tv c s o
theorem Adq (c:Cur) (s:List UInt8) (hp1:A4 c) (hp2:s.length≤1000000): ∃o:Lx,Ly c s o:=by
 have hN:Bh=274877906944:=rfl
 have hml:List.length (List.map (fun b=>(UInt8.toNat b:Int)) s)=s.length:=by simp
 refine Cj Tryz.func203 Q4 Q4 (w:=let z6:=List.map (fun b=>(UInt8.toNat b:Int)) s;let z7:=((z6.length:Nat):Int);(.br (.intro (B1 c 2) fun o1=> .sZ [.call [0] (.v (vO 1)) [.cells (Ct o1.c1),.lst .u8 o1.l]] (.lJ (⟨List.map Bj o1.l,o1.c1⟩:Lx) [0])) (.intro (Aa c z7) fun o1=> .sZ [.call [0] (.v (vI o1.x)) (Kc o1.c1)] (.intro (Sx (z6[Int.toNat o1.x]?)) fun x1=> .intro (Aa o1.c1 255) fun o2=> .sZ [.ord (os 13 [7,12]) [0],.el .u8 x1,.call [0] (.v (vI o2.x)) (Kc o2.c1),.as 26 (.v (vI (1+o2.x))),.as 27 (.v (.c (.int .u8 (1+o2.x)))),.el .u8 x1] (.lJ (⟨List.map Bj (List.set z6 (Int.toNat o1.x) (IntKind.u8.wrap (((BitVec.ofInt 8 x1 ^^^ BitVec.ofInt 8 (1+o2.x)).toNat:Nat)))),o2.c1⟩:Lx) [0]))),Bc (decide (s=[])) (In (B1 c 2) fun o1=>(let z1:=List.map Bj o1.l;(Dr c 2 o1)∧((List.length (z1:List UInt8)≤s.length+2)∧(A4 o1.c1))∧Lf (.v (vT z1)) (.v (vT z1)) (Kc o1.c1) (Kc o1.c1))) (In (Aa c z7) fun o1=>(let z4:=o1.x<z7;let z5:=(0:Int)≤o1.x;(s.length≤Bh)∧(Ap c z7 o1)∧El (z6[Int.toNat o1.x]?) fun x1=>(let z3:=z6[Int.toNat o1.x]? =some x1;In (Aa o1.c1 255) fun o2=>(let z2:=List.map Bj (List.set z6 (Int.toNat o1.x) (IntKind.u8.wrap (((BitVec.ofInt 8 x1 ^^^ BitVec.ofInt 8 (1+o2.x)).toNat:Nat))));z4∧z5∧z4∧z5∧z3∧z3∧(Ap o1.c1 255 o2)∧(wI (1+o2.x))∧((.v (.c (.int .u8 (IntKind.u8.wrap (1+o2.x)))):S)= .v (.c (.int .u8 (1+o2.x))))∧z4∧z5∧z4∧z5∧z3∧((List.length (z2:List UInt8)≤s.length+2)∧(A4 o2.c1))∧Lf (.v (vT z2)) (.v (vT z2)) (Kc o2.c1) (Kc o2.c1))))))) Q4 ?_
 refine dsp (fun h1 p1=>?_) fun h1 p1=>?_
 refine⟨(Fi c 2 Q0 Q2),fun o1 ho_o1=>?_⟩
 obtain ⟨⟨hp_o1_0,hp_o1_1⟩,hf_o1⟩:=ho_o1
 exact⟨hf_o1,⟨Q17,Q0⟩,rfl,rfl⟩
 have hne:1≤s.length:=List.length_pos_iff.2 (by simpa using p1)
 refine⟨(Az c ((List.length (List.map (fun b=>(UInt8.toNat b:Int)) s):Nat):Int) Q0),fun o1 ho_o1=>?_⟩
 refine⟨Q2,?_⟩
 obtain ⟨⟨hp_o1_0,hp_o1_1,hp_o1_2,hp_o1_3⟩,hf_o1⟩:=ho_o1
 refine⟨hf_o1,(Bo (l:=List.map (fun b=>(UInt8.toNat b:Int)) s) (i:=Int.toNat o1.x) Q17),fun x1 hx1=>?_⟩
 refine⟨(Az o1.c1 255 Q0),fun o2 ho_o2=>?_⟩
 obtain ⟨⟨hp_o2_0,hp_o2_1,hp_o2_2,hp_o2_3⟩,hf_o2⟩:=ho_o2
 exact⟨Q17,Q2,Q17,Q2,hx1,hx1,hf_o2,(Ad Q2 Q2),(Nd Q2 Q2),Q17,Q2,Q17,Q2,hx1,⟨(by simp only[List.length_set,List.length_map];omega),Q0⟩,rfl,rfl⟩
structure E4 where
 t:List UInt8
def Wp (n:Int) (o:E4):Prop:=Fun Tryz.prog 227 [vI n] [] (.v (vT o.t)) []
def Ry (n:Int) (o:E4):Prop:=((List.length (o.t:List UInt8)≤4))∧Wp n o
theorem Ahw (n:Int): ∃o:E4,Ry n o:=by
 have hN:Bh=274877906944:=rfl
 have t64:0≤n→Int.tdiv n 64=n / 64:=fun h=>Int.tdiv_eq_ediv_of_nonneg h
 have t4096:0≤n→Int.tdiv n 4096=n / 4096:=fun h=>Int.tdiv_eq_ediv_of_nonneg h
 have t262144:0≤n→Int.tdiv n 262144=n / 262144:=fun h=>Int.tdiv_eq_ediv_of_nonneg h
 refine Cj Tryz.func227 Q4 Q4 (w:=let z2:=Int.tmod n 64;let z3:=Int.tdiv n 4096;let z4:=Int.tdiv n 64;let z1:=Int.tmod z4 64;let z7:=Int.tdiv n 262144;let z5:=List.map Bj [240+z7,128+(Int.tmod z3 64),128+z1,128+z2];let z8:=(64:Int)≠0;let z9:=List.map Bj [224+z3,128+z1,128+z2];let z10:=128+(Int.tmod z3 64);let z12:=((List.length ([]:List UInt8)≤4))∧Lf (.v (vT [])) (.v (vT [])) [] [];let z13:=128+z2;let z6:=(.v (.c (.int .u8 (IntKind.u8.wrap z13))):S)= .v (.c (.int .u8 z13));let z14:=List.map Bj [192+z4,128+z2];let z15:=128+z1;let z11:=(.v (.c (.int .u8 (IntKind.u8.wrap z15))):S)= .v (.c (.int .u8 z15));let z16:S:= .v (.c (.int .u8 z13));let z17:=Ak n 55296 57343;let z18:=List.map Bj [n];let z19:=Ak n 0 1114111;(.sZ [.call [] (.v (vB z19)) []] (.br (.lJ (⟨[]⟩:E4) []) (.sZ [.call [] (.v (vB z17)) []] (.br (.lJ (⟨[]⟩:E4) []) (.br (.sZ [.as 15 (.v (.c (.int .u8 n))),.ty .u8] (.lJ (⟨List.map Bj [n]⟩:E4) [])) (.br (.sZ [.as 22 (.v (vI z4)),.as 23 (.v (vI (192+z4))),.as 24 (.v (.c (.int .u8 (192+z4)))),.as 27 (.v (vI z13)),.as 28 z16,.ty .u8] (.lJ (⟨List.map Bj [192+z4,128+z2]⟩:E4) [])) (.br (.sZ [.as 35 (.v (vI z3)),.as 36 (.v (vI (224+z3))),.as 37 (.v (.c (.int .u8 (224+z3)))),.as 39 (.v (vI z4)),.as 41 (.v (vI z15)),.as 42 (.v (.c (.int .u8 z15))),.as 45 (.v (vI z13)),.as 46 z16,.ty .u8] (.lJ (⟨List.map Bj [224+z3,128+z1,128+z2]⟩:E4) [])) (.sZ [.as 50 (.v (vI z7)),.as 51 (.v (vI (240+z7))),.as 52 (.v (.c (.int .u8 (240+z7)))),.as 54 (.v (vI z3)),.as 56 (.v (vI z10)),.as 57 (.v (.c (.int .u8 z10))),.as 59 (.v (vI z4)),.as 61 (.v (vI z15)),.as 62 (.v (.c (.int .u8 z15))),.as 65 (.v (vI z13)),.as 66 z16,.ty .u8] (.lJ (⟨List.map Bj [240+z7,128+(Int.tmod z3 64),128+z1,128+z2]⟩:E4) [])))))))),(Fp 44 [vI n,vI 0,vI 1114111] [] (.v (vB z19)) [])∧Bc (!z19) z12 ((Fp 44 [vI n,vI 55296,vI 57343] [] (.v (vB z17)) [])∧Bc z17 z12 (Bc (decide (n<128)) (((.v (.c (.int .u8 (IntKind.u8.wrap (n)))):S)= .v (.c (.int .u8 n)))∧((List.length (z18:List UInt8)≤4))∧Lf (.v (vT z18)) (.v (vT z18)) [] []) (Bc (decide (n<2048)) (z8∧(wI z4)∧(wI (192+z4))∧((.v (.c (.int .u8 (IntKind.u8.wrap (192+z4)))):S)= .v (.c (.int .u8 (192+z4))))∧z8∧(wI z13)∧z6∧((List.length (z14:List UInt8)≤4))∧Lf (.v (vT z14)) (.v (vT z14)) [] []) (Bc (decide (n<65536)) (((4096:Int)≠0)∧(wI z3)∧(wI (224+z3))∧((.v (.c (.int .u8 (IntKind.u8.wrap (224+z3)))):S)= .v (.c (.int .u8 (224+z3))))∧z8∧(wI z4)∧z8∧(wI z15)∧z11∧z8∧(wI z13)∧z6∧((List.length (z9:List UInt8)≤4))∧Lf (.v (vT z9)) (.v (vT z9)) [] []) (((262144:Int)≠0)∧(wI z7)∧(wI (240+z7))∧((.v (.c (.int .u8 (IntKind.u8.wrap (240+z7)))):S)= .v (.c (.int .u8 (240+z7))))∧((4096:Int)≠0)∧(wI z3)∧z8∧(wI z10)∧((.v (.c (.int .u8 (IntKind.u8.wrap z10))):S)= .v (.c (.int .u8 z10)))∧z8∧(wI z4)∧z8∧(wI z15)∧z11∧z8∧(wI z13)∧z6∧((List.length (z5:List UInt8)≤4))∧Lf (.v (vT z5)) (.v (vT z5)) [] []))))))) Q4 ?_
 refine⟨(Bb _ _ _),fun h1=>have q1:=Ao h1;have p1:=A0 q1;?_,fun h1=>have q1:=An h1;have p1:=Av q1;?_⟩
 exact⟨(by simp),rfl,rfl⟩
 refine⟨(Bb _ _ _),fun h2=>have p2:=Av h2;?_,fun h2=>have p2:=A0 h2;?_⟩
 exact⟨(by simp),rfl,rfl⟩
 refine dsp (fun h3 p3=>?_) fun h3 p3=>?_
 exact⟨(Nd Q2 Q2),(by simp),rfl,rfl⟩
 refine dsp (fun h4 p4=>?_) fun h4 p4=>?_
 exact⟨Q27,(Ad Q2 Q2),(Ad Q2 Q2),(Nd Q2 Q2),Q27,(Ad Q55 Q55),(Nd Q55 Q55),(by simp),rfl,rfl⟩
 refine dsp (fun h5 p5=>?_) fun h5 p5=>?_
 exact⟨Q27,(Ad Q2 Q2),(Ad Q2 Q2),(Nd Q2 Q2),Q27,(Ad Q2 Q2),Q27,(Ad Q56 Q56),(Nd Q56 Q56),Q27,(Ad Q55 Q55),(Nd Q55 Q55),(by simp),rfl,rfl⟩
 exact⟨Q27,(Ad Q2 Q2),(Ad Q2 Q2),(Nd Q2 Q2),Q27,(Ad Q2 Q2),Q27,(Ad Q78 Q78),(Nd Q78 Q78),Q27,(Ad Q2 Q2),Q27,(Ad Q56 Q56),(Nd Q56 Q56),Q27,(Ad Q55 Q55),(Nd Q55 Q55),(by simp),rfl,rfl⟩
structure Sr where
 x:Int
 c1:Cur
def Aa2 (c:Cur) (o:Sr):Prop:=Fun Tryz.prog 228 [vP 0] [.cells (Ct c)] (.v (vI o.x)) [.cells (Ct o.c1)]
def Vr (c:Cur) (o:Sr):Prop:=((A4 o.c1))∧Aa2 c o
theorem Aos (c:Cur) (hp1:A4 c): ∃o:Sr,Vr c o:=by
 have hN:Bh=274877906944:=rfl
 refine Cj Tryz.func228 Q4 Q4 (w:=(.intro (Aa c 1114112) fun o1=> .sZ [.call [0] (.v (vI o1.x)) (Kc o1.c1),.ty .int,.pubS 6] (.intro (B5 o1.c1 [0,65,127,128,2047,2048,4095,55295,57344,65535,65536,1114111,o1.x]) fun o2=> .sZ [.call [0] (.v (vI o2.x)) (Kc o2.c1)] (.lJ (⟨o2.x,o2.c1⟩:Sr) [0])),In (Aa c 1114112) fun o1=>((Ap c 1114112 o1)∧In (B5 o1.c1 [0,65,127,128,2047,2048,4095,55295,57344,65535,65536,1114111,o1.x]) fun o2=>((Dq o1.c1 [0,65,127,128,2047,2048,4095,55295,57344,65535,65536,1114111,o1.x] o2)∧((A4 o2.c1))∧Lf (.v (vI o2.x)) (.v (vI o2.x)) (Kc o2.c1) (Kc o2.c1))))) Q4 ?_
 refine⟨(Az c 1114112 Q0),fun o1 ho_o1=>?_⟩
 obtain ⟨⟨hp_o1_0,hp_o1_1,hp_o1_2,hp_o1_3⟩,hf_o1⟩:=ho_o1
 refine⟨hf_o1,(E9 o1.c1 [0,65,127,128,2047,2048,4095,55295,57344,65535,65536,1114111,o1.x] Q0 Q6 Q6),fun o2 ho_o2=>?_⟩
 obtain ⟨⟨hp_o2_0,hp_o2_1⟩,hf_o2⟩:=ho_o2
 exact⟨hf_o2,Q0,rfl,rfl⟩
structure Ss where
 t:List UInt8
 c1:Cur
def Vs (c:Cur) (n:Int) (o:Ss):Prop:=Fun Tryz.prog 213 [vP 0,vI n] [.cells (Ct c)] (.v (vT o.t)) [.cells (Ct o.c1)]
def Nw (c:Cur) (n:Int) (o:Ss):Prop:=((List.length (o.t:List UInt8)≤4*Int.toNat n)∧(A4 o.c1))∧Vs c n o
structure Qe where
 c:Cur
 s:List UInt8
 i:Nat
def Qf (n:Int):Fam:=⟨Qe,fun q1=>[(0,.v (vP 0)),(1,.v (vI n)),(5,.v (vT q1.s)),(6,.v (vI ((q1.i:Nat):Int)))],fun q1=>[.cells (Ct q1.c)],fun q1=>A4 q1.c∧(q1.i=0∨((q1.i:Nat):Int)≤n)∧List.length q1.s≤4*q1.i,fun q1=>Int.toNat n-q1.i⟩
theorem Agj (c:Cur) (n:Int) (hp1:A4 c) (hp2:n≤1000): ∃o:Ss,Nw c n o:=by
 have hN:Bh=274877906944:=rfl
 refine Cj Tryz.func213 Q4 Q4 (w:=let z2:=Qf n;(.sZ [.at 0,.keep [0,1,5,6],.sel [0]] (.loop z2 fun q1=> .br (.intro (Vr q1.c) fun o1=> .sZ [.call [0] (.v (vI o1.x)) (Kc o1.c1)] (.intro (Ry o1.x) fun o2=> .sZ [.call [] (.v (vT o2.t)) [],.as 11 (.v (vI (((q1.i:Nat):Int)+1))),.at 0,.keep [0,1,5,6],.sel [0]] (.next))) (.lJ (⟨q1.s,q1.c⟩:Ss) [0])),z2.Has [(0,.v (vP 0)),(1,.v (vI n)),(5,.v (vT [])),(6,.v (vI 0))] (Kc c)∧∀q1,z2.inv q1→(let z1:=((q1.i:Nat):Int);Bc (decide (z1<n)) (In (Vr q1.c) fun o1=>((Aa2 q1.c o1)∧In (Ry o1.x) fun o2=>((Wp o1.x o2)∧(((q1.s.length+o2.t.length:Nat):Int)≤Bi)∧(wI (z1+1))∧z2.Nxt q1 [(0,.v (vP 0)),(1,.v (vI n)),(5,.v (vT (q1.s++o2.t))),(6,.v (vI (z1+1)))] (Kc o1.c1)))) (((List.length (q1.s:List UInt8)≤4*Int.toNat n)∧(A4 q1.c))∧Lf (.v (vT q1.s)) (.v (vT q1.s)) (Kc q1.c) (Kc q1.c))))) Q4 ?_
 refine⟨Bp (j:=(⟨c,[],0⟩:Qe)) Q8 rfl (by dsimp only[Qf];exact⟨by assumption,.inl rfl,by simp⟩),fun (q1:Qe) hq_q1=>?_⟩
 have hi_q1:A4 q1.c∧(q1.i=0∨((q1.i:Nat):Int)≤n)∧q1.s.length≤4*q1.i:=hq_q1
 obtain ⟨v1,v2,v3⟩:=hi_q1
 refine dsp (fun h1 p1=>?_) fun h1 p1=>?_
 refine⟨(Aos q1.c Q0),fun o1 ho_o1=>?_⟩
 obtain ⟨hp_o1,hf_o1⟩:=ho_o1
 refine⟨hf_o1,(Ahw o1.x),fun o2 ho_o2=>?_⟩
 obtain ⟨hp_o2,hf_o2⟩:=ho_o2
 exact⟨hf_o2,(by simp only[Bi];omega),(Ad Q2 Q2),A6 (j:=(⟨o1.c1,q1.s++o2.t,q1.i+1⟩:Qe)) Q8 rfl (by dsimp only[Qf];exact⟨by assumption,by omega,by simp;omega⟩) (by dsimp only[Qf];omega)⟩
 exact⟨⟨Q2,Q0⟩,rfl,rfl⟩
structure Jy where
 t:List UInt8
 c1:Cur
def Aa3 (c:Cur) (o:Jy):Prop:=Fun Tryz.prog 174 [vP 0] [.cells (Ct c)] (.v (vT o.t)) [.cells (Ct o.c1)]
def Vt (c:Cur) (o:Jy):Prop:=((List.length (o.t:List UInt8)≤16)∧(A4 o.c1))∧Aa3 c o
theorem Aot (c:Cur) (hp1:A4 c): ∃o:Jy,Vt c o:=by
 have hN:Bh=274877906944:=rfl
 refine Cj Tryz.func174 Q4 Q4 (w:=(.intro (Aa c 4) fun o1=> .sZ [.call [0] (.v (vI o1.x)) (Kc o1.c1)] (.intro (Nw o1.c1 o1.x) fun o2=>let z2:=((o2.t.length:Nat):Int)+1;.sZ [.call [0] (.v (vT o2.t)) (Kc o2.c1)] (.intro (Aa o2.c1 4) fun o3=> .sZ [.call [0] (.v (vI o3.x)) (Kc o3.c1)] (.br (.intro (Ly o3.c1 o2.t) fun o4=> .sZ [.call [0] (.v (vT o4.t)) (Kc o4.c1)] (.lJ (⟨o4.t,o4.c1⟩:Jy) [0])) (.br (.sZ [.as 21 (.v (vI z2))] (.intro (Aa o3.c1 z2) fun o4=> .sZ [.call [0] (.v (vI o4.x)) (Kc o4.c1)] (.lJ (⟨List.take (Int.toNat o4.x) o2.t,o4.c1⟩:Jy) [0]))) (.br (.sZ [.ty .str,.pubS 28] (.intro (Vq o3.c1 [[128],[192,128],[224,159,191],[237,160,128],[240,143,191,191],[244,144,128,128],[245],[255],[226,130],[193,191]]) fun o4=> .sZ [.call [0] (.v (vT o4.t)) (Kc o4.c1)] (.lJ (⟨o2.t++o4.t,o4.c1⟩:Jy) [0]))) (.lJ (⟨o2.t,o3.c1⟩:Jy) [0])))))),In (Aa c 4) fun o1=>((Ap c 4 o1)∧In (Nw o1.c1 o1.x) fun o2=>(let z3:=((o2.t.length:Nat):Int);(Vs o1.c1 o1.x o2)∧In (Aa o2.c1 4) fun o3=>((Ap o2.c1 4 o3)∧Bc (decide (o3.x=0)) (In (Ly o3.c1 o2.t) fun o4=>((Tv o3.c1 o2.t o4)∧((List.length (o4.t:List UInt8)≤16)∧(A4 o4.c1))∧Lf (.v (vT o4.t)) (.v (vT o4.t)) (Kc o4.c1) (Kc o4.c1))) (Bc (decide (o3.x=1)) ((wI (z3+1))∧In (Aa o3.c1 (z3+1)) fun o4=>(let z1:=List.take (Int.toNat o4.x) o2.t;(Ap o3.c1 (z3+1) o4)∧(o4.x≤z3)∧((0:Int)≤o4.x)∧((List.length (z1:List UInt8)≤16)∧(A4 o4.c1))∧Lf (.v (vT z1)) (.v (vT z1)) (Kc o4.c1) (Kc o4.c1))) (Bc (decide (o3.x=2)) (In (Vq o3.c1 [[128],[192,128],[224,159,191],[237,160,128],[240,143,191,191],[244,144,128,128],[245],[255],[226,130],[193,191]]) fun o4=>((Aa1 o3.c1 [[128],[192,128],[224,159,191],[237,160,128],[240,143,191,191],[244,144,128,128],[245],[255],[226,130],[193,191]] o4)∧(((o2.t.length+o4.t.length:Nat):Int)≤Bi)∧((List.length ((o2.t++o4.t):List UInt8)≤16)∧(A4 o4.c1))∧Lf (.v (vT (o2.t++o4.t))) (.v (vT (o2.t++o4.t))) (Kc o4.c1) (Kc o4.c1))) (((List.length (o2.t:List UInt8)≤16)∧(A4 o3.c1))∧Lf (.v (vT o2.t)) (.v (vT o2.t)) (Kc o3.c1) (Kc o3.c1))))))))) Q4 ?_
 refine⟨(Az c 4 Q0),fun o1 ho_o1=>?_⟩
 obtain ⟨⟨hp_o1_0,hp_o1_1,hp_o1_2,hp_o1_3⟩,hf_o1⟩:=ho_o1
 refine⟨hf_o1,(Agj o1.c1 o1.x Q0 Q2),fun o2 ho_o2=>?_⟩
 obtain ⟨⟨hp_o2_0,hp_o2_1⟩,hf_o2⟩:=ho_o2
 refine⟨hf_o2,(Az o2.c1 4 Q0),fun o3 ho_o3=>?_⟩
 obtain ⟨⟨hp_o3_0,hp_o3_1,hp_o3_2,hp_o3_3⟩,hf_o3⟩:=ho_o3
 refine⟨hf_o3,dsp (fun h1 p1=>?_) fun h1 p1=>?_⟩
 refine⟨(Adq o3.c1 o2.t Q0 Q2),fun o4 ho_o4=>?_⟩
 obtain ⟨⟨hp_o4_0,hp_o4_1⟩,hf_o4⟩:=ho_o4
 exact⟨hf_o4,⟨Q2,Q0⟩,rfl,rfl⟩
 refine dsp (fun h2 p2=>?_) fun h2 p2=>?_
 refine⟨(Ad Q2 Q2),(Az o3.c1 (((o2.t.length:Nat):Int)+1) Q0),fun o4 ho_o4=>?_⟩
 obtain ⟨⟨hp_o4_0,hp_o4_1,hp_o4_2,hp_o4_3⟩,hf_o4⟩:=ho_o4
 exact⟨hf_o4,Q2,Q2,⟨(by simp only[List.length_take];omega),Q0⟩,rfl,rfl⟩
 refine dsp (fun h3 p3=>?_) fun h3 p3=>?_
 refine⟨(Aor o3.c1 [[128],[192,128],[224,159,191],[237,160,128],[240,143,191,191],[244,144,128,128],[245],[255],[226,130],[193,191]] Q0 Q6 Q6),fun o4 ho_o4=>?_⟩
 obtain ⟨⟨hp_o4_0,hp_o4_1⟩,hf_o4⟩:=ho_o4
 exact⟨hf_o4,(by have:=Agi (n:=4) hp_o4_0 Q27;simp only[Bi];omega),⟨(by have:=Agi (n:=4) hp_o4_0 Q27;simp;omega),Q0⟩,rfl,rfl⟩
 exact⟨⟨Q2,Q0⟩,rfl,rfl⟩
def Et:Nat→Nat
 |0=>50
 |d+1=>20+4*Et d
theorem Xr: ∀d,50≤Et d
 |0=>Nat.le_refl _
 |d+1=>by have:=Xr d;rw[Et];omega
theorem Ahx (d:Int) (h:0<d):Et (Int.toNat d)=20+4*Et (Int.toNat (d-1)):=by
 rw[show Int.toNat d=Int.toNat (d-1)+1 by omega];rfl
theorem Nx {d:Int} (h0:0≤d) (h:d≤4):Et (Int.toNat d)≤14500:=by
 obtain ⟨k,rfl⟩:=Int.eq_ofNat_of_zero_le h0
 have:k=0∨k=1∨k=2∨k=3∨k=4:=by omega
 rcases this with rfl|rfl|rfl|rfl|rfl<;>decide
structure Ch where
 t:List UInt8
 c1:Cur
def M9 (c:Cur) (o:Ch):Prop:=Fun Tryz.prog 198 [vP 0] [.cells (Ct c)] (.v (vT o.t)) [.cells (Ct o.c1)]
def G9 (c:Cur) (o:Ch):Prop:=((List.length (o.t:List UInt8)≤24)∧(A4 o.c1))∧M9 c o
theorem Wq (c:Cur) (hp1:A4 c): ∃o:Ch,G9 c o:=by
 have hN:Bh=274877906944:=rfl
 refine Cj Tryz.func198 Q4 Q4 (w:=let z27:S:= .v (vO 1);let z28:=B5 c [0,1,2,5,0,2];(.sZ [.ty .int,.pubS 7] (.intro z28 fun o1=>let z25:=Aq o1.x;.sZ [.call [0] (.v (vI o1.x)) (Kc o1.c1)] (.intro (Au o1.c1 10) fun o2=> .sZ [.call [0] (.v (vB o2.p)) (Kc o2.c1)] (.br (.sZ [.ty .int,.pubS 12] (.intro (B5 o2.c1 [3,4,6,7]) fun o3=>let z12:=Aq o3.x;.sZ [.call [0] (.v (vI o3.x)) (Kc o3.c1)] (.intro (Aa o3.c1 3) fun o4=> .sZ [.call [0] (.v (vI o4.x)) (Kc o4.c1),.as 17 (.v (vI (40+o4.x))),.call [] (.v (.c (.int .u64 (Db (40+o4.x) o3.x)))) []] (.intro (Ah o4.c1 (Db (40+o4.x) o3.x)) fun o5=> .sZ [.call [0] (.v (vT o5.t)) (Kc o5.c1)] (.intro (Au o5.c1 20) fun o6=> .sZ [.call [0] (.v (vB o6.p)) (Kc o6.c1)] (.br (.intro (Dd o6.c1) fun o7=> .sZ [.call [0] (.v (.c (.int .u64 o7.x))) (Kc o7.c1)] (.intro (Ah o7.c1 o7.x) fun o8=> .sZ [.call [0] (.v (vT o8.t)) (Kc o8.c1)] (.br (.intro (Dd o8.c1) fun o9=> .sZ [.call [0] (.v (.c (.int .u64 o9.x))) (Kc o9.c1)] (.intro (Ah o9.c1 o9.x) fun o10=> .sZ [.call [0] (.v (vT o10.t)) (Kc o10.c1)] (.lJ (⟨o8.t++o10.t,o10.c1⟩:Ch) [0]))) (.br (.intro (Aa o8.c1 5) fun o9=> .sZ [.call [0] (.v (vI o9.x)) (Kc o9.c1)] (.intro (B1 o9.c1 o9.x) fun o10=>let z2:=((List.length (List.map Bj o10.l):Nat):Int);.sZ [.call [0] z27 [.cells (Ct o10.c1),.lst .u8 o10.l],.as 47 (.v (.c (.int .u64 z2)))] (.intro (Ah o10.c1 z2) fun o11=> .sZ [.call [0] (.v (vT o11.t)) (Kc o11.c1)] (.lJ (⟨(o8.t++o11.t)++(List.map Bj o10.l),o11.c1⟩:Ch) [0])))) (.sZ [.call [] (.v (vI z12)) []] (.intro (B1 o8.c1 z12) fun o9=> .sZ [.call [0] z27 [.cells (Ct o9.c1),.lst .u8 o9.l]] (.lJ (⟨o8.t++(List.map Bj o9.l),o9.c1⟩:Ch) [0]))))))) (.br (.intro (Dd o6.c1) fun o7=> .sZ [.call [0] (.v (.c (.int .u64 o7.x))) (Kc o7.c1)] (.intro (Ah o7.c1 o7.x) fun o8=> .sZ [.call [0] (.v (vT o8.t)) (Kc o8.c1)] (.lJ (⟨o5.t++o8.t,o8.c1⟩:Ch) [0]))) (.br (.intro (Aa o6.c1 5) fun o7=> .sZ [.call [0] (.v (vI o7.x)) (Kc o7.c1)] (.intro (B1 o7.c1 o7.x) fun o8=>let z7:=((List.length (List.map Bj o8.l):Nat):Int);.sZ [.call [0] z27 [.cells (Ct o8.c1),.lst .u8 o8.l],.as 47 (.v (.c (.int .u64 z7)))] (.intro (Ah o8.c1 z7) fun o9=> .sZ [.call [0] (.v (vT o9.t)) (Kc o9.c1)] (.lJ (⟨(o5.t++o9.t)++(List.map Bj o8.l),o9.c1⟩:Ch) [0])))) (.sZ [.call [] (.v (vI z12)) []] (.intro (B1 o6.c1 z12) fun o7=> .sZ [.call [0] z27 [.cells (Ct o7.c1),.lst .u8 o7.l]] (.lJ (⟨o5.t++(List.map Bj o7.l),o7.c1⟩:Ch) [0]))))))))))) (.intro (Aa o2.c1 3) fun o3=> .sZ [.call [0] (.v (vI o3.x)) (Kc o3.c1),.as 17 (.v (vI (40+o3.x))),.call [] (.v (.c (.int .u64 (Db (40+o3.x) o1.x)))) []] (.intro (Ah o3.c1 (Db (40+o3.x) o1.x)) fun o4=> .sZ [.call [0] (.v (vT o4.t)) (Kc o4.c1)] (.intro (Au o4.c1 20) fun o5=> .sZ [.call [0] (.v (vB o5.p)) (Kc o5.c1)] (.br (.intro (Dd o5.c1) fun o6=> .sZ [.call [0] (.v (.c (.int .u64 o6.x))) (Kc o6.c1)] (.intro (Ah o6.c1 o6.x) fun o7=> .sZ [.call [0] (.v (vT o7.t)) (Kc o7.c1)] (.br (.intro (Dd o7.c1) fun o8=> .sZ [.call [0] (.v (.c (.int .u64 o8.x))) (Kc o8.c1)] (.intro (Ah o8.c1 o8.x) fun o9=> .sZ [.call [0] (.v (vT o9.t)) (Kc o9.c1)] (.lJ (⟨o7.t++o9.t,o9.c1⟩:Ch) [0]))) (.br (.intro (Aa o7.c1 5) fun o8=> .sZ [.call [0] (.v (vI o8.x)) (Kc o8.c1)] (.intro (B1 o8.c1 o8.x) fun o9=>let z15:=((List.length (List.map Bj o9.l):Nat):Int);.sZ [.call [0] z27 [.cells (Ct o9.c1),.lst .u8 o9.l],.as 47 (.v (.c (.int .u64 z15)))] (.intro (Ah o9.c1 z15) fun o10=> .sZ [.call [0] (.v (vT o10.t)) (Kc o10.c1)] (.lJ (⟨(o7.t++o10.t)++(List.map Bj o9.l),o10.c1⟩:Ch) [0])))) (.sZ [.call [] (.v (vI z25)) []] (.intro (B1 o7.c1 z25) fun o8=> .sZ [.call [0] z27 [.cells (Ct o8.c1),.lst .u8 o8.l]] (.lJ (⟨o7.t++(List.map Bj o8.l),o8.c1⟩:Ch) [0]))))))) (.br (.intro (Dd o5.c1) fun o6=> .sZ [.call [0] (.v (.c (.int .u64 o6.x))) (Kc o6.c1)] (.intro (Ah o6.c1 o6.x) fun o7=> .sZ [.call [0] (.v (vT o7.t)) (Kc o7.c1)] (.lJ (⟨o4.t++o7.t,o7.c1⟩:Ch) [0]))) (.br (.intro (Aa o5.c1 5) fun o6=> .sZ [.call [0] (.v (vI o6.x)) (Kc o6.c1)] (.intro (B1 o6.c1 o6.x) fun o7=>let z20:=((List.length (List.map Bj o7.l):Nat):Int);.sZ [.call [0] z27 [.cells (Ct o7.c1),.lst .u8 o7.l],.as 47 (.v (.c (.int .u64 z20)))] (.intro (Ah o7.c1 z20) fun o8=> .sZ [.call [0] (.v (vT o8.t)) (Kc o8.c1)] (.lJ (⟨(o4.t++o8.t)++(List.map Bj o7.l),o8.c1⟩:Ch) [0])))) (.sZ [.call [] (.v (vI z25)) []] (.intro (B1 o5.c1 z25) fun o6=> .sZ [.call [0] z27 [.cells (Ct o6.c1),.lst .u8 o6.l]] (.lJ (⟨o4.t++(List.map Bj o6.l),o6.c1⟩:Ch) [0])))))))))))),In z28 fun o1=>(let z26:=Aq o1.x;(Dq c [0,1,2,5,0,2] o1)∧In (Au o1.c1 10) fun o2=>((Bq o1.c1 10 o2)∧Bc o2.p (In (B5 o2.c1 [3,4,6,7]) fun o3=>(let z13:=Aq o3.x;(Dq o2.c1 [3,4,6,7] o3)∧In (Aa o3.c1 3) fun o4=>(let z11:=Db (40+o4.x) o3.x;(Ap o3.c1 3 o4)∧(wI (40+o4.x))∧(Fp 222 [vI (40+o4.x),vI o3.x] [] (.v (.c (.int .u64 z11))) [])∧In (Ah o4.c1 z11) fun o5=>((Ay o4.c1 z11 o5)∧In (Au o5.c1 20) fun o6=>((Bq o5.c1 20 o6)∧Bc o6.p (In (Dd o6.c1) fun o7=>((Gx o6.c1 o7)∧In (Ah o7.c1 o7.x) fun o8=>((Ay o7.c1 o7.x o8)∧Bc (decide (o3.x=0)) (In (Dd o8.c1) fun o9=>((Gx o8.c1 o9)∧In (Ah o9.c1 o9.x) fun o10=>((Ay o9.c1 o9.x o10)∧(((o8.t.length+o10.t.length:Nat):Int)≤Bi)∧((List.length ((o8.t++o10.t):List UInt8)≤24)∧(A4 o10.c1))∧Lf (.v (vT (o8.t++o10.t))) (.v (vT (o8.t++o10.t))) (Kc o10.c1) (Kc o10.c1)))) (Bc (decide (o3.x=2)) (In (Aa o8.c1 5) fun o9=>((Ap o8.c1 5 o9)∧In (B1 o9.c1 o9.x) fun o10=>(let z4:=List.map Bj o10.l;let z3:=((z4.length:Nat):Int);(Dr o9.c1 o9.x o10)∧(wU (z3))∧In (Ah o10.c1 z3) fun o11=>(let z1:=(o8.t++o11.t)++z4;(Ay o10.c1 z3 o11)∧(((o8.t.length+o11.t.length:Nat):Int)≤Bi)∧(((List.length (o8.t++o11.t)+z4.length:Nat):Int)≤Bi)∧((List.length (z1:List UInt8)≤24)∧(A4 o11.c1))∧Lf (.v (vT z1)) (.v (vT z1)) (Kc o11.c1) (Kc o11.c1))))) ((Fp 127 [vI o3.x] [] (.v (vI z13)) [])∧In (B1 o8.c1 z13) fun o9=>(let z5:=o8.t++(List.map Bj o9.l);(Dr o8.c1 z13 o9)∧(((o8.t.length+List.length (List.map Bj o9.l):Nat):Int)≤Bi)∧((List.length (z5:List UInt8)≤24)∧(A4 o9.c1))∧Lf (.v (vT z5)) (.v (vT z5)) (Kc o9.c1) (Kc o9.c1))))))) (Bc (decide (o3.x=0)) (In (Dd o6.c1) fun o7=>((Gx o6.c1 o7)∧In (Ah o7.c1 o7.x) fun o8=>((Ay o7.c1 o7.x o8)∧(((o5.t.length+o8.t.length:Nat):Int)≤Bi)∧((List.length ((o5.t++o8.t):List UInt8)≤24)∧(A4 o8.c1))∧Lf (.v (vT (o5.t++o8.t))) (.v (vT (o5.t++o8.t))) (Kc o8.c1) (Kc o8.c1)))) (Bc (decide (o3.x=2)) (In (Aa o6.c1 5) fun o7=>((Ap o6.c1 5 o7)∧In (B1 o7.c1 o7.x) fun o8=>(let z9:=List.map Bj o8.l;let z8:=((z9.length:Nat):Int);(Dr o7.c1 o7.x o8)∧(wU (z8))∧In (Ah o8.c1 z8) fun o9=>(let z6:=(o5.t++o9.t)++z9;(Ay o8.c1 z8 o9)∧(((o5.t.length+o9.t.length:Nat):Int)≤Bi)∧(((List.length (o5.t++o9.t)+z9.length:Nat):Int)≤Bi)∧((List.length (z6:List UInt8)≤24)∧(A4 o9.c1))∧Lf (.v (vT z6)) (.v (vT z6)) (Kc o9.c1) (Kc o9.c1))))) ((Fp 127 [vI o3.x] [] (.v (vI z13)) [])∧In (B1 o6.c1 z13) fun o7=>(let z10:=o5.t++(List.map Bj o7.l);(Dr o6.c1 z13 o7)∧(((o5.t.length+List.length (List.map Bj o7.l):Nat):Int)≤Bi)∧((List.length (z10:List UInt8)≤24)∧(A4 o7.c1))∧Lf (.v (vT z10)) (.v (vT z10)) (Kc o7.c1) (Kc o7.c1)))))))))) (In (Aa o2.c1 3) fun o3=>(let z24:=Db (40+o3.x) o1.x;(Ap o2.c1 3 o3)∧(wI (40+o3.x))∧(Fp 222 [vI (40+o3.x),vI o1.x] [] (.v (.c (.int .u64 z24))) [])∧In (Ah o3.c1 z24) fun o4=>((Ay o3.c1 z24 o4)∧In (Au o4.c1 20) fun o5=>((Bq o4.c1 20 o5)∧Bc o5.p (In (Dd o5.c1) fun o6=>((Gx o5.c1 o6)∧In (Ah o6.c1 o6.x) fun o7=>((Ay o6.c1 o6.x o7)∧Bc (decide (o1.x=0)) (In (Dd o7.c1) fun o8=>((Gx o7.c1 o8)∧In (Ah o8.c1 o8.x) fun o9=>((Ay o8.c1 o8.x o9)∧(((o7.t.length+o9.t.length:Nat):Int)≤Bi)∧((List.length ((o7.t++o9.t):List UInt8)≤24)∧(A4 o9.c1))∧Lf (.v (vT (o7.t++o9.t))) (.v (vT (o7.t++o9.t))) (Kc o9.c1) (Kc o9.c1)))) (Bc (decide (o1.x=2)) (In (Aa o7.c1 5) fun o8=>((Ap o7.c1 5 o8)∧In (B1 o8.c1 o8.x) fun o9=>(let z17:=List.map Bj o9.l;let z16:=((z17.length:Nat):Int);(Dr o8.c1 o8.x o9)∧(wU (z16))∧In (Ah o9.c1 z16) fun o10=>(let z14:=(o7.t++o10.t)++z17;(Ay o9.c1 z16 o10)∧(((o7.t.length+o10.t.length:Nat):Int)≤Bi)∧(((List.length (o7.t++o10.t)+z17.length:Nat):Int)≤Bi)∧((List.length (z14:List UInt8)≤24)∧(A4 o10.c1))∧Lf (.v (vT z14)) (.v (vT z14)) (Kc o10.c1) (Kc o10.c1))))) ((Fp 127 [vI o1.x] [] (.v (vI z26)) [])∧In (B1 o7.c1 z26) fun o8=>(let z18:=o7.t++(List.map Bj o8.l);(Dr o7.c1 z26 o8)∧(((o7.t.length+List.length (List.map Bj o8.l):Nat):Int)≤Bi)∧((List.length (z18:List UInt8)≤24)∧(A4 o8.c1))∧Lf (.v (vT z18)) (.v (vT z18)) (Kc o8.c1) (Kc o8.c1))))))) (Bc (decide (o1.x=0)) (In (Dd o5.c1) fun o6=>((Gx o5.c1 o6)∧In (Ah o6.c1 o6.x) fun o7=>((Ay o6.c1 o6.x o7)∧(((o4.t.length+o7.t.length:Nat):Int)≤Bi)∧((List.length ((o4.t++o7.t):List UInt8)≤24)∧(A4 o7.c1))∧Lf (.v (vT (o4.t++o7.t))) (.v (vT (o4.t++o7.t))) (Kc o7.c1) (Kc o7.c1)))) (Bc (decide (o1.x=2)) (In (Aa o5.c1 5) fun o6=>((Ap o5.c1 5 o6)∧In (B1 o6.c1 o6.x) fun o7=>(let z22:=List.map Bj o7.l;let z21:=((z22.length:Nat):Int);(Dr o6.c1 o6.x o7)∧(wU (z21))∧In (Ah o7.c1 z21) fun o8=>(let z19:=(o4.t++o8.t)++z22;(Ay o7.c1 z21 o8)∧(((o4.t.length+o8.t.length:Nat):Int)≤Bi)∧(((List.length (o4.t++o8.t)+z22.length:Nat):Int)≤Bi)∧((List.length (z19:List UInt8)≤24)∧(A4 o8.c1))∧Lf (.v (vT z19)) (.v (vT z19)) (Kc o8.c1) (Kc o8.c1))))) ((Fp 127 [vI o1.x] [] (.v (vI z26)) [])∧In (B1 o5.c1 z26) fun o6=>(let z23:=o4.t++(List.map Bj o6.l);(Dr o5.c1 z26 o6)∧(((o4.t.length+List.length (List.map Bj o6.l):Nat):Int)≤Bi)∧((List.length (z23:List UInt8)≤24)∧(A4 o6.c1))∧Lf (.v (vT z23)) (.v (vT z23)) (Kc o6.c1) (Kc o6.c1))))))))))))) Q4 ?_
 refine⟨(E9 c [0,1,2,5,0,2] Q0 Q6 Q6),fun o1 ho_o1=>?_⟩
 obtain ⟨⟨hp_o1_0,hp_o1_1⟩,hf_o1⟩:=ho_o1
 refine⟨hf_o1,(Cf o1.c1 10 Q0),fun o2 ho_o2=>?_⟩
 obtain ⟨hp_o2,hf_o2⟩:=ho_o2
 refine⟨hf_o2,fun h1=>?_,fun h1=>?_⟩
 refine⟨(E9 o2.c1 [3,4,6,7] Q0 Q6 Q6),fun o3 ho_o3=>?_⟩
 obtain ⟨⟨hp_o3_0,hp_o3_1⟩,hf_o3⟩:=ho_o3
 refine⟨hf_o3,(Az o3.c1 3 Q0),fun o4 ho_o4=>?_⟩
 obtain ⟨⟨hp_o4_0,hp_o4_1,hp_o4_2,hp_o4_3⟩,hf_o4⟩:=ho_o4
 refine⟨hf_o4,(Ad Q2 Q2),(C5 _ _),(Bg o4.c1 (Db (40+o4.x) o3.x) Q0 (⟨(Br _ _).1,Int.le_trans (Br _ _).2 Q27⟩)),fun o5 ho_o5=>?_⟩
 obtain ⟨⟨hp_o5_0,hp_o5_1⟩,hf_o5⟩:=ho_o5
 refine⟨hf_o5,(Cf o5.c1 20 Q0),fun o6 ho_o6=>?_⟩
 obtain ⟨hp_o6,hf_o6⟩:=ho_o6
 refine⟨hf_o6,fun h2=>?_,fun h2=>?_⟩
 refine⟨(M6 o6.c1 Q0),fun o7 ho_o7=>?_⟩
 obtain ⟨⟨hp_o7_0,hp_o7_1⟩,hf_o7⟩:=ho_o7
 refine⟨hf_o7,(Bg o7.c1 o7.x Q0 Q2),fun o8 ho_o8=>?_⟩
 obtain ⟨⟨hp_o8_0,hp_o8_1⟩,hf_o8⟩:=ho_o8
 refine⟨hf_o8,dsp (fun h3 p3=>?_) fun h3 p3=>?_⟩
 refine⟨(M6 o8.c1 Q0),fun o9 ho_o9=>?_⟩
 obtain ⟨⟨hp_o9_0,hp_o9_1⟩,hf_o9⟩:=ho_o9
 refine⟨hf_o9,(Bg o9.c1 o9.x Q0 Q2),fun o10 ho_o10=>?_⟩
 obtain ⟨⟨hp_o10_0,hp_o10_1⟩,hf_o10⟩:=ho_o10
 exact⟨hf_o10,Q10,⟨Q15,Q0⟩,rfl,rfl⟩
 refine dsp (fun h4 p4=>?_) fun h4 p4=>?_
 refine⟨(Az o8.c1 5 Q0),fun o9 ho_o9=>?_⟩
 obtain ⟨⟨hp_o9_0,hp_o9_1,hp_o9_2,hp_o9_3⟩,hf_o9⟩:=ho_o9
 refine⟨hf_o9,(Fi o9.c1 o9.x Q0 Q2),fun o10 ho_o10=>?_⟩
 obtain ⟨⟨hp_o10_0,hp_o10_1⟩,hf_o10⟩:=ho_o10
 refine⟨hf_o10,(Bu Q17 Q17),(Bg o10.c1 ((List.length (List.map Bj o10.l):Nat):Int) Q0 Q17),fun o11 ho_o11=>?_⟩
 obtain ⟨⟨hp_o11_0,hp_o11_1⟩,hf_o11⟩:=ho_o11
 exact⟨hf_o11,Q10,Q10,⟨Q15,Q0⟩,rfl,rfl⟩
 refine⟨(D9 _),(Fi o8.c1 (Aq o3.x) Q0 Q15),fun o9 ho_o9=>?_⟩
 obtain ⟨⟨hp_o9_0,hp_o9_1⟩,hf_o9⟩:=ho_o9
 exact⟨hf_o9,Q10,⟨Q15,Q0⟩,rfl,rfl⟩
 refine dsp (fun h3 p3=>?_) fun h3 p3=>?_
 refine⟨(M6 o6.c1 Q0),fun o7 ho_o7=>?_⟩
 obtain ⟨⟨hp_o7_0,hp_o7_1⟩,hf_o7⟩:=ho_o7
 refine⟨hf_o7,(Bg o7.c1 o7.x Q0 Q2),fun o8 ho_o8=>?_⟩
 obtain ⟨⟨hp_o8_0,hp_o8_1⟩,hf_o8⟩:=ho_o8
 exact⟨hf_o8,Q10,⟨Q15,Q0⟩,rfl,rfl⟩
 refine dsp (fun h4 p4=>?_) fun h4 p4=>?_
 refine⟨(Az o6.c1 5 Q0),fun o7 ho_o7=>?_⟩
 obtain ⟨⟨hp_o7_0,hp_o7_1,hp_o7_2,hp_o7_3⟩,hf_o7⟩:=ho_o7
 refine⟨hf_o7,(Fi o7.c1 o7.x Q0 Q2),fun o8 ho_o8=>?_⟩
 obtain ⟨⟨hp_o8_0,hp_o8_1⟩,hf_o8⟩:=ho_o8
 refine⟨hf_o8,(Bu Q17 Q17),(Bg o8.c1 ((List.length (List.map Bj o8.l):Nat):Int) Q0 Q17),fun o9 ho_o9=>?_⟩
 obtain ⟨⟨hp_o9_0,hp_o9_1⟩,hf_o9⟩:=ho_o9
 exact⟨hf_o9,Q10,Q10,⟨Q15,Q0⟩,rfl,rfl⟩
 refine⟨(D9 _),(Fi o6.c1 (Aq o3.x) Q0 Q15),fun o7 ho_o7=>?_⟩
 obtain ⟨⟨hp_o7_0,hp_o7_1⟩,hf_o7⟩:=ho_o7
 exact⟨hf_o7,Q10,⟨Q15,Q0⟩,rfl,rfl⟩
 refine⟨(Az o2.c1 3 Q0),fun o3 ho_o3=>?_⟩
 obtain ⟨⟨hp_o3_0,hp_o3_1,hp_o3_2,hp_o3_3⟩,hf_o3⟩:=ho_o3
 refine⟨hf_o3,(Ad Q2 Q2),(C5 _ _),(Bg o3.c1 (Db (40+o3.x) o1.x) Q0 (⟨(Br _ _).1,Int.le_trans (Br _ _).2 Q27⟩)),fun o4 ho_o4=>?_⟩
 obtain ⟨⟨hp_o4_0,hp_o4_1⟩,hf_o4⟩:=ho_o4
 refine⟨hf_o4,(Cf o4.c1 20 Q0),fun o5 ho_o5=>?_⟩
 obtain ⟨hp_o5,hf_o5⟩:=ho_o5
 refine⟨hf_o5,fun h2=>?_,fun h2=>?_⟩
 refine⟨(M6 o5.c1 Q0),fun o6 ho_o6=>?_⟩
 obtain ⟨⟨hp_o6_0,hp_o6_1⟩,hf_o6⟩:=ho_o6
 refine⟨hf_o6,(Bg o6.c1 o6.x Q0 Q2),fun o7 ho_o7=>?_⟩
 obtain ⟨⟨hp_o7_0,hp_o7_1⟩,hf_o7⟩:=ho_o7
 refine⟨hf_o7,dsp (fun h3 p3=>?_) fun h3 p3=>?_⟩
 refine⟨(M6 o7.c1 Q0),fun o8 ho_o8=>?_⟩
 obtain ⟨⟨hp_o8_0,hp_o8_1⟩,hf_o8⟩:=ho_o8
 refine⟨hf_o8,(Bg o8.c1 o8.x Q0 Q2),fun o9 ho_o9=>?_⟩
 obtain ⟨⟨hp_o9_0,hp_o9_1⟩,hf_o9⟩:=ho_o9
 exact⟨hf_o9,Q10,⟨Q15,Q0⟩,rfl,rfl⟩
 refine dsp (fun h4 p4=>?_) fun h4 p4=>?_
 refine⟨(Az o7.c1 5 Q0),fun o8 ho_o8=>?_⟩
 obtain ⟨⟨hp_o8_0,hp_o8_1,hp_o8_2,hp_o8_3⟩,hf_o8⟩:=ho_o8
 refine⟨hf_o8,(Fi o8.c1 o8.x Q0 Q2),fun o9 ho_o9=>?_⟩
 obtain ⟨⟨hp_o9_0,hp_o9_1⟩,hf_o9⟩:=ho_o9
 refine⟨hf_o9,(Bu Q17 Q17),(Bg o9.c1 ((List.length (List.map Bj o9.l):Nat):Int) Q0 Q17),fun o10 ho_o10=>?_⟩
 obtain ⟨⟨hp_o10_0,hp_o10_1⟩,hf_o10⟩:=ho_o10
 exact⟨hf_o10,Q10,Q10,⟨Q15,Q0⟩,rfl,rfl⟩
 refine⟨(D9 _),(Fi o7.c1 (Aq o1.x) Q0 Q15),fun o8 ho_o8=>?_⟩
 obtain ⟨⟨hp_o8_0,hp_o8_1⟩,hf_o8⟩:=ho_o8
 exact⟨hf_o8,Q10,⟨Q15,Q0⟩,rfl,rfl⟩
 refine dsp (fun h3 p3=>?_) fun h3 p3=>?_
 refine⟨(M6 o5.c1 Q0),fun o6 ho_o6=>?_⟩
 obtain ⟨⟨hp_o6_0,hp_o6_1⟩,hf_o6⟩:=ho_o6
 refine⟨hf_o6,(Bg o6.c1 o6.x Q0 Q2),fun o7 ho_o7=>?_⟩
 obtain ⟨⟨hp_o7_0,hp_o7_1⟩,hf_o7⟩:=ho_o7
 exact⟨hf_o7,Q10,⟨Q15,Q0⟩,rfl,rfl⟩
 refine dsp (fun h4 p4=>?_) fun h4 p4=>?_
 refine⟨(Az o5.c1 5 Q0),fun o6 ho_o6=>?_⟩
 obtain ⟨⟨hp_o6_0,hp_o6_1,hp_o6_2,hp_o6_3⟩,hf_o6⟩:=ho_o6
 refine⟨hf_o6,(Fi o6.c1 o6.x Q0 Q2),fun o7 ho_o7=>?_⟩
 obtain ⟨⟨hp_o7_0,hp_o7_1⟩,hf_o7⟩:=ho_o7
 refine⟨hf_o7,(Bu Q17 Q17),(Bg o7.c1 ((List.length (List.map Bj o7.l):Nat):Int) Q0 Q17),fun o8 ho_o8=>?_⟩
 obtain ⟨⟨hp_o8_0,hp_o8_1⟩,hf_o8⟩:=ho_o8
 exact⟨hf_o8,Q10,Q10,⟨Q15,Q0⟩,rfl,rfl⟩
 refine⟨(D9 _),(Fi o5.c1 (Aq o1.x) Q0 Q15),fun o6 ho_o6=>?_⟩
 obtain ⟨⟨hp_o6_0,hp_o6_1⟩,hf_o6⟩:=ho_o6
 exact⟨hf_o6,Q10,⟨Q15,Q0⟩,rfl,rfl⟩
structure Fx where
 t:List UInt8
 c1:Cur
def Jg (c:Cur) (kind:Int) (o:Fx):Prop:=Fun Tryz.prog 223 [vP 0,vI kind] [.cells (Ct c)] (.v (vT o.t)) [.cells (Ct o.c1)]
def Ec (c:Cur) (kind:Int) (o:Fx):Prop:=((List.length (o.t:List UInt8)≤10)∧(A4 o.c1))∧Jg c kind o
theorem Qg (c:Cur) (kind:Int) (hp1:A4 c): ∃o:Fx,Ec c kind o:=by
 have hN:Bh=274877906944:=rfl
 refine Cj Tryz.func223 Q4 Q4 (w:=let z4:=Be kind;let z3:=Aq z4;(.intro (Dd c) fun o1=> .sZ [.call [0] (.v (.c (.int .u64 o1.x))) (Kc o1.c1)] (.br (.intro (Aa o1.c1 3) fun o2=> .sZ [.call [0] (.v (vI o2.x)) (Kc o2.c1),.as 13 (.v (.c (.int .u64 o2.x))),.call [] (.v (vI z4)) [],.call [] (.v (vI z3)) []] (.br (.intro (B1 o2.c1 z3) fun o3=> .sZ [.call [0] (.v (vO 1)) [.cells (Ct o3.c1),.lst .u8 o3.l]] (.lJ (⟨List.map Bj o3.l,o3.c1⟩:Fx) [0])) (.intro (Ah o2.c1 o2.x) fun o3=> .sZ [.call [0] (.v (vT o3.t)) (Kc o3.c1)] (.lJ (⟨o3.t,o3.c1⟩:Fx) [0])))) (.sZ [.call [] (.v (vI z4)) [],.call [] (.v (vI z3)) []] (.br (.intro (B1 o1.c1 z3) fun o2=> .sZ [.call [0] (.v (vO 1)) [.cells (Ct o2.c1),.lst .u8 o2.l]] (.lJ (⟨List.map Bj o2.l,o2.c1⟩:Fx) [0])) (.intro (Ah o1.c1 o1.x) fun o2=> .sZ [.call [0] (.v (vT o2.t)) (Kc o2.c1)] (.lJ (⟨o2.t,o2.c1⟩:Fx) [0]))))),In (Dd c) fun o1=>((Gx c o1)∧Bc (decide (kind=3)) (In (Aa o1.c1 3) fun o2=>((Ap o1.c1 3 o2)∧(wU (o2.x))∧(Fp 131 [vI kind] [] (.v (vI z4)) [])∧(Fp 127 [vI z4] [] (.v (vI z3)) [])∧Bc (decide (0<Aq z4)) (In (B1 o2.c1 z3) fun o3=>(let z1:=List.map Bj o3.l;(Dr o2.c1 z3 o3)∧((List.length (z1:List UInt8)≤10)∧(A4 o3.c1))∧Lf (.v (vT z1)) (.v (vT z1)) (Kc o3.c1) (Kc o3.c1))) (In (Ah o2.c1 o2.x) fun o3=>((Ay o2.c1 o2.x o3)∧((List.length (o3.t:List UInt8)≤10)∧(A4 o3.c1))∧Lf (.v (vT o3.t)) (.v (vT o3.t)) (Kc o3.c1) (Kc o3.c1))))) ((Fp 131 [vI kind] [] (.v (vI z4)) [])∧(Fp 127 [vI z4] [] (.v (vI z3)) [])∧Bc (decide (0<Aq z4)) (In (B1 o1.c1 z3) fun o2=>(let z2:=List.map Bj o2.l;(Dr o1.c1 z3 o2)∧((List.length (z2:List UInt8)≤10)∧(A4 o2.c1))∧Lf (.v (vT z2)) (.v (vT z2)) (Kc o2.c1) (Kc o2.c1))) (In (Ah o1.c1 o1.x) fun o2=>((Ay o1.c1 o1.x o2)∧((List.length (o2.t:List UInt8)≤10)∧(A4 o2.c1))∧Lf (.v (vT o2.t)) (.v (vT o2.t)) (Kc o2.c1) (Kc o2.c1))))))) Q4 ?_
 refine⟨(M6 c Q0),fun o1 ho_o1=>?_⟩
 obtain ⟨⟨hp_o1_0,hp_o1_1⟩,hf_o1⟩:=ho_o1
 refine⟨hf_o1,dsp (fun h1 p1=>?_) fun h1 p1=>?_⟩
 refine⟨(Az o1.c1 3 Q0),fun o2 ho_o2=>?_⟩
 obtain ⟨⟨hp_o2_0,hp_o2_1,hp_o2_2,hp_o2_3⟩,hf_o2⟩:=ho_o2
 refine⟨hf_o2,(Bu Q2 Q2),(Pp _),(D9 _),dsp (fun h2 p2=>?_) fun h2 p2=>?_⟩
 refine⟨(Fi o2.c1 (Aq (Be kind)) Q0 Q44),fun o3 ho_o3=>?_⟩
 obtain ⟨⟨hp_o3_0,hp_o3_1⟩,hf_o3⟩:=ho_o3
 exact⟨hf_o3,⟨Q44,Q0⟩,rfl,rfl⟩
 refine⟨(Bg o2.c1 o2.x Q0 Q2),fun o3 ho_o3=>?_⟩
 obtain ⟨⟨hp_o3_0,hp_o3_1⟩,hf_o3⟩:=ho_o3
 exact⟨hf_o3,⟨Q44,Q0⟩,rfl,rfl⟩
 refine⟨(Pp _),(D9 _),dsp (fun h2 p2=>?_) fun h2 p2=>?_⟩
 refine⟨(Fi o1.c1 (Aq (Be kind)) Q0 Q44),fun o2 ho_o2=>?_⟩
 obtain ⟨⟨hp_o2_0,hp_o2_1⟩,hf_o2⟩:=ho_o2
 exact⟨hf_o2,⟨Q44,Q0⟩,rfl,rfl⟩
 refine⟨(Bg o1.c1 o1.x Q0 Q2),fun o2 ho_o2=>?_⟩
 obtain ⟨⟨hp_o2_0,hp_o2_1⟩,hf_o2⟩:=ho_o2
 exact⟨hf_o2,⟨Q44,Q0⟩,rfl,rfl⟩
structure Att where
 t:List UInt8
 c1:Cur
def At7 (c:Cur) (p:Pln) (shape:Int) (dJ:Int) (o:Att):Prop:=Fun Tryz.prog 149 [vP 0,.agg (G0 p),vI shape,vI dJ] [.cells (Ct c)] (.v (vT o.t)) [.cells (Ct o.c1)]
def Atu (c:Cur) (p:Pln) (shape:Int) (dJ:Int) (o:Att):Prop:=((List.length (o.t:List UInt8)≤4*Et (Int.toNat dJ))∧(A4 o.c1))∧At7 c p shape dJ o
def Atv (K:Nat):Prop:= ∀(c:Cur) (p:Pln) (shape:Int) (dJ:Int) (hp1:A4 c) (hp2:PlnG p) (hp3:(0:Int)≤dJ∧dJ≤4) (hp4:dJ<((K:Nat):Int)) (hp5:(0:Int)≤shape∧shape<((List.length (p).sQ:Nat):Int)),∃o:Att,Atu c p shape dJ o
structure Bf where
 t:List UInt8
 c1:Cur
def Wr (c:Cur) (p:Pln) (f:Fld) (dJ:Int) (o:Bf):Prop:=Fun Tryz.prog 199 [vP 0,.agg (G0 p),.agg (Fg f),vI dJ] [.cells (Ct c)] (.v (vT o.t)) [.cells (Ct o.c1)]
def Rz (c:Cur) (p:Pln) (f:Fld) (dJ:Int) (o:Bf):Prop:=((List.length (o.t:List UInt8)≤Et (Int.toNat dJ))∧(A4 o.c1))∧Wr c p f dJ o
structure Fy where
 c:Cur
 body:List UInt8
 i:Nat
def D0 (f:Fld) (o1:Dp):Fam:=⟨Fy,fun q1=>[(0,.v (vP 0)),(6,.v (vP 1)),(9,.v (vI 2)),(10,.v (vT q1.body)),(11,.v (vI o1.x)),(12,.v (vI ((q1.i:Nat):Int)))],fun q1=>[.cells (Ct q1.c),.cells (Fg f)],fun q1=>A4 q1.c∧q1.i≤3∧List.length q1.body≤10*q1.i,fun q1=>4-q1.i⟩
theorem Ahy (K:Nat) (hB:Atv K) (c:Cur) (p:Pln) (f:Fld) (dJ:Int) (hp1:A4 c) (hp2:PlnG p) (hp3:(0:Int)≤dJ∧dJ≤4) (hp4:dJ≤((K:Nat):Int)) (hp5:1≤(f).kind∧(f).kind≤8) (hp6:(f).kind=8→(0:Int)≤(f).mK∧(f).mK<((List.length (p).sQ:Nat):Int)): ∃o:Bf,Rz c p f dJ o:=by
 have hN:Bh=274877906944:=rfl
 have hvb:=Xr (Int.toNat dJ)
 have hvm:=Nx hp3.1 hp3.2
 refine Cj Tryz.func199 Q4 Q4 (w:=let z106:=Int.toNat dJ;let z108:=Db f.nJ 2;let z109:S:= .v (.c (.int .u64 z108));let z111:=([]:List UInt8);let z104:=((z111.length:Nat):Int);let z110:=max 0 z104;let z112:List V:=[vI f.nJ,vI 2];let z113:=Be f.kind;let z103:=Db f.nJ z113;let z105:S:= .v (.c (.int .u64 z103));let z107:List V:=[vI f.nJ,vI z113];let z114:S:= .v (vI z110);(.sZ [.call [] (.v (vI z113)) []] (.br (.br (.sZ [.as 39 (.v (vI (dJ-1)))] (.intro (Atu c p f.mK (dJ-1)) fun o1=>let z13:=((o1.t.length:Nat):Int);.sZ [.call [0] (.v (vT o1.t)) (Kc o1.c1)] (.intro (Au o1.c1 30) fun o2=> .sZ [.call [0] (.v (vB o2.p)) (Kc o2.c1)] (.br (.intro (Aa o2.c1 8) fun o3=>let z6:=Db f.nJ o3.x;.sZ [.call [0] (.v (vI o3.x)) (Kc o3.c1)] (.intro (Au o3.c1 20) fun o4=> .sZ [.call [0] (.v (vB o4.p)) (Kc o4.c1)] (.br (.intro (Aa o4.c1 5) fun o5=>let z2:=z13+o5.x-2;.sZ [.call [0] (.v (vI o5.x)) (Kc o5.c1),.as 97 (.v (vI (z13+o5.x))),.as 98 (.v (vI z2)),.call [] (.v (.c (.int .u64 z6))) []] (.intro (Ah o5.c1 z6) fun o6=> .sZ [.call [0] (.v (vT o6.t)) (Kc o6.c1),.call [] (.v (vI (max 0 z2))) [],.as 108 (.v (.c (.int .u64 (max 0 z2))))] (.intro (Ah o6.c1 (max 0 z2)) fun o7=> .sZ [.call [0] (.v (vT o7.t)) (Kc o7.c1)] (.lJ (⟨(o6.t++o7.t)++o1.t,o7.c1⟩:Bf) [0])))) (.sZ [.call [] (.v (.c (.int .u64 z6))) []] (.intro (Ah o4.c1 z6) fun o5=> .sZ [.call [0] (.v (vT o5.t)) (Kc o5.c1),.call [] (.v (vI (max 0 z13))) [],.as 108 (.v (.c (.int .u64 (max 0 z13))))] (.intro (Ah o5.c1 (max 0 z13)) fun o6=> .sZ [.call [0] (.v (vT o6.t)) (Kc o6.c1)] (.lJ (⟨(o5.t++o6.t)++o1.t,o6.c1⟩:Bf) [0]))))))) (.intro (Au o2.c1 20) fun o3=> .sZ [.call [0] (.v (vB o3.p)) (Kc o3.c1)] (.br (.intro (Aa o3.c1 5) fun o4=>let z9:=z13+o4.x-2;.sZ [.call [0] (.v (vI o4.x)) (Kc o4.c1),.as 97 (.v (vI (z13+o4.x))),.as 98 (.v (vI z9)),.call [] z105 []] (.intro (Ah o4.c1 z103) fun o5=> .sZ [.call [0] (.v (vT o5.t)) (Kc o5.c1),.call [] (.v (vI (max 0 z9))) [],.as 108 (.v (.c (.int .u64 (max 0 z9))))] (.intro (Ah o5.c1 (max 0 z9)) fun o6=> .sZ [.call [0] (.v (vT o6.t)) (Kc o6.c1)] (.lJ (⟨(o5.t++o6.t)++o1.t,o6.c1⟩:Bf) [0])))) (.sZ [.call [] z105 []] (.intro (Ah o3.c1 z103) fun o4=> .sZ [.call [0] (.v (vT o4.t)) (Kc o4.c1),.call [] (.v (vI (max 0 z13))) [],.as 108 (.v (.c (.int .u64 (max 0 z13))))] (.intro (Ah o4.c1 (max 0 z13)) fun o5=> .sZ [.call [0] (.v (vT o5.t)) (Kc o5.c1)] (.lJ (⟨(o4.t++o5.t)++o1.t,o5.c1⟩:Bf) [0])))))))))) (.intro (Au c 30) fun o1=> .sZ [.call [0] (.v (vB o1.p)) (Kc o1.c1)] (.br (.intro (Aa o1.c1 8) fun o2=>let z20:=Db f.nJ o2.x;.sZ [.call [0] (.v (vI o2.x)) (Kc o2.c1)] (.intro (Au o2.c1 20) fun o3=> .sZ [.call [0] (.v (vB o3.p)) (Kc o3.c1)] (.br (.intro (Aa o3.c1 5) fun o4=>let z16:=z104+o4.x-2;.sZ [.call [0] (.v (vI o4.x)) (Kc o4.c1),.as 97 (.v (vI (z104+o4.x))),.as 98 (.v (vI z16)),.call [] (.v (.c (.int .u64 z20))) []] (.intro (Ah o4.c1 z20) fun o5=> .sZ [.call [0] (.v (vT o5.t)) (Kc o5.c1),.call [] (.v (vI (max 0 z16))) [],.as 108 (.v (.c (.int .u64 (max 0 z16))))] (.intro (Ah o5.c1 (max 0 z16)) fun o6=> .sZ [.call [0] (.v (vT o6.t)) (Kc o6.c1)] (.lJ (⟨(o5.t++o6.t)++[],o6.c1⟩:Bf) [0])))) (.sZ [.call [] (.v (.c (.int .u64 z20))) []] (.intro (Ah o3.c1 z20) fun o4=> .sZ [.call [0] (.v (vT o4.t)) (Kc o4.c1),.call [] z114 [],.as 108 (.v (.c (.int .u64 z110)))] (.intro (Ah o4.c1 z110) fun o5=> .sZ [.call [0] (.v (vT o5.t)) (Kc o5.c1)] (.lJ (⟨(o4.t++o5.t)++[],o5.c1⟩:Bf) [0]))))))) (.intro (Au o1.c1 20) fun o2=> .sZ [.call [0] (.v (vB o2.p)) (Kc o2.c1)] (.br (.intro (Aa o2.c1 5) fun o3=>let z23:=z104+o3.x-2;.sZ [.call [0] (.v (vI o3.x)) (Kc o3.c1),.as 97 (.v (vI (z104+o3.x))),.as 98 (.v (vI z23)),.call [] z105 []] (.intro (Ah o3.c1 z103) fun o4=> .sZ [.call [0] (.v (vT o4.t)) (Kc o4.c1),.call [] (.v (vI (max 0 z23))) [],.as 108 (.v (.c (.int .u64 (max 0 z23))))] (.intro (Ah o4.c1 (max 0 z23)) fun o5=> .sZ [.call [0] (.v (vT o5.t)) (Kc o5.c1)] (.lJ (⟨(o4.t++o5.t)++[],o5.c1⟩:Bf) [0])))) (.sZ [.call [] z105 []] (.intro (Ah o2.c1 z103) fun o3=> .sZ [.call [0] (.v (vT o3.t)) (Kc o3.c1),.call [] z114 [],.as 108 (.v (.c (.int .u64 z110)))] (.intro (Ah o3.c1 z110) fun o4=> .sZ [.call [0] (.v (vT o4.t)) (Kc o4.c1)] (.lJ (⟨(o3.t++o4.t)++[],o4.c1⟩:Bf) [0]))))))))) (.br (.intro (Aa c 3) fun o1=> .sZ [.call [0] (.v (vI o1.x)) (Kc o1.c1)] (.intro (Nw o1.c1 o1.x) fun o2=>let z53:=((o2.t.length:Nat):Int);.sZ [.call [0] (.v (vT o2.t)) (Kc o2.c1)] (.intro (Au o2.c1 8) fun o3=> .sZ [.call [0] (.v (vB o3.p)) (Kc o3.c1)] (.br (.intro (Vt o3.c1) fun o4=>let z39:=((o4.t.length:Nat):Int);.sZ [.call [0] (.v (vT o4.t)) (Kc o4.c1)] (.intro (Au o4.c1 30) fun o5=> .sZ [.call [0] (.v (vB o5.p)) (Kc o5.c1)] (.br (.intro (Aa o5.c1 8) fun o6=>let z32:=Db f.nJ o6.x;.sZ [.call [0] (.v (vI o6.x)) (Kc o6.c1)] (.intro (Au o6.c1 20) fun o7=> .sZ [.call [0] (.v (vB o7.p)) (Kc o7.c1)] (.br (.intro (Aa o7.c1 5) fun o8=>let z28:=z39+o8.x-2;.sZ [.call [0] (.v (vI o8.x)) (Kc o8.c1),.as 97 (.v (vI (z39+o8.x))),.as 98 (.v (vI z28)),.call [] (.v (.c (.int .u64 z32))) []] (.intro (Ah o8.c1 z32) fun o9=> .sZ [.call [0] (.v (vT o9.t)) (Kc o9.c1),.call [] (.v (vI (max 0 z28))) [],.as 108 (.v (.c (.int .u64 (max 0 z28))))] (.intro (Ah o9.c1 (max 0 z28)) fun o10=> .sZ [.call [0] (.v (vT o10.t)) (Kc o10.c1)] (.lJ (⟨(o9.t++o10.t)++o4.t,o10.c1⟩:Bf) [0])))) (.sZ [.call [] (.v (.c (.int .u64 z32))) []] (.intro (Ah o7.c1 z32) fun o8=> .sZ [.call [0] (.v (vT o8.t)) (Kc o8.c1),.call [] (.v (vI (max 0 z39))) [],.as 108 (.v (.c (.int .u64 (max 0 z39))))] (.intro (Ah o8.c1 (max 0 z39)) fun o9=> .sZ [.call [0] (.v (vT o9.t)) (Kc o9.c1)] (.lJ (⟨(o8.t++o9.t)++o4.t,o9.c1⟩:Bf) [0]))))))) (.intro (Au o5.c1 20) fun o6=> .sZ [.call [0] (.v (vB o6.p)) (Kc o6.c1)] (.br (.intro (Aa o6.c1 5) fun o7=>let z35:=z39+o7.x-2;.sZ [.call [0] (.v (vI o7.x)) (Kc o7.c1),.as 97 (.v (vI (z39+o7.x))),.as 98 (.v (vI z35)),.call [] z105 []] (.intro (Ah o7.c1 z103) fun o8=> .sZ [.call [0] (.v (vT o8.t)) (Kc o8.c1),.call [] (.v (vI (max 0 z35))) [],.as 108 (.v (.c (.int .u64 (max 0 z35))))] (.intro (Ah o8.c1 (max 0 z35)) fun o9=> .sZ [.call [0] (.v (vT o9.t)) (Kc o9.c1)] (.lJ (⟨(o8.t++o9.t)++o4.t,o9.c1⟩:Bf) [0])))) (.sZ [.call [] z105 []] (.intro (Ah o6.c1 z103) fun o7=> .sZ [.call [0] (.v (vT o7.t)) (Kc o7.c1),.call [] (.v (vI (max 0 z39))) [],.as 108 (.v (.c (.int .u64 (max 0 z39))))] (.intro (Ah o7.c1 (max 0 z39)) fun o8=> .sZ [.call [0] (.v (vT o8.t)) (Kc o8.c1)] (.lJ (⟨(o7.t++o8.t)++o4.t,o8.c1⟩:Bf) [0]))))))))) (.intro (Au o3.c1 30) fun o4=> .sZ [.call [0] (.v (vB o4.p)) (Kc o4.c1)] (.br (.intro (Aa o4.c1 8) fun o5=>let z46:=Db f.nJ o5.x;.sZ [.call [0] (.v (vI o5.x)) (Kc o5.c1)] (.intro (Au o5.c1 20) fun o6=> .sZ [.call [0] (.v (vB o6.p)) (Kc o6.c1)] (.br (.intro (Aa o6.c1 5) fun o7=>let z42:=z53+o7.x-2;.sZ [.call [0] (.v (vI o7.x)) (Kc o7.c1),.as 97 (.v (vI (z53+o7.x))),.as 98 (.v (vI z42)),.call [] (.v (.c (.int .u64 z46))) []] (.intro (Ah o7.c1 z46) fun o8=> .sZ [.call [0] (.v (vT o8.t)) (Kc o8.c1),.call [] (.v (vI (max 0 z42))) [],.as 108 (.v (.c (.int .u64 (max 0 z42))))] (.intro (Ah o8.c1 (max 0 z42)) fun o9=> .sZ [.call [0] (.v (vT o9.t)) (Kc o9.c1)] (.lJ (⟨(o8.t++o9.t)++o2.t,o9.c1⟩:Bf) [0])))) (.sZ [.call [] (.v (.c (.int .u64 z46))) []] (.intro (Ah o6.c1 z46) fun o7=> .sZ [.call [0] (.v (vT o7.t)) (Kc o7.c1),.call [] (.v (vI (max 0 z53))) [],.as 108 (.v (.c (.int .u64 (max 0 z53))))] (.intro (Ah o7.c1 (max 0 z53)) fun o8=> .sZ [.call [0] (.v (vT o8.t)) (Kc o8.c1)] (.lJ (⟨(o7.t++o8.t)++o2.t,o8.c1⟩:Bf) [0]))))))) (.intro (Au o4.c1 20) fun o5=> .sZ [.call [0] (.v (vB o5.p)) (Kc o5.c1)] (.br (.intro (Aa o5.c1 5) fun o6=>let z49:=z53+o6.x-2;.sZ [.call [0] (.v (vI o6.x)) (Kc o6.c1),.as 97 (.v (vI (z53+o6.x))),.as 98 (.v (vI z49)),.call [] z105 []] (.intro (Ah o6.c1 z103) fun o7=> .sZ [.call [0] (.v (vT o7.t)) (Kc o7.c1),.call [] (.v (vI (max 0 z49))) [],.as 108 (.v (.c (.int .u64 (max 0 z49))))] (.intro (Ah o7.c1 (max 0 z49)) fun o8=> .sZ [.call [0] (.v (vT o8.t)) (Kc o8.c1)] (.lJ (⟨(o7.t++o8.t)++o2.t,o8.c1⟩:Bf) [0])))) (.sZ [.call [] z105 []] (.intro (Ah o5.c1 z103) fun o6=> .sZ [.call [0] (.v (vT o6.t)) (Kc o6.c1),.call [] (.v (vI (max 0 z53))) [],.as 108 (.v (.c (.int .u64 (max 0 z53))))] (.intro (Ah o6.c1 (max 0 z53)) fun o7=> .sZ [.call [0] (.v (vT o7.t)) (Kc o7.c1)] (.lJ (⟨(o6.t++o7.t)++o2.t,o7.c1⟩:Bf) [0])))))))))))) (.br (.intro (Aa c 6) fun o1=> .sZ [.call [0] (.v (vI o1.x)) (Kc o1.c1)] (.intro (B1 o1.c1 o1.x) fun o2=>let z68:=List.map Bj o2.l;let z67:=((z68.length:Nat):Int);.sZ [.call [0] (.v (vO 1)) [.cells (Ct o2.c1),.lst .u8 o2.l]] (.intro (Au o2.c1 30) fun o3=> .sZ [.call [0] (.v (vB o3.p)) (Kc o3.c1)] (.br (.intro (Aa o3.c1 8) fun o4=>let z60:=Db f.nJ o4.x;.sZ [.call [0] (.v (vI o4.x)) (Kc o4.c1)] (.intro (Au o4.c1 20) fun o5=> .sZ [.call [0] (.v (vB o5.p)) (Kc o5.c1)] (.br (.intro (Aa o5.c1 5) fun o6=>let z56:=z67+o6.x-2;.sZ [.call [0] (.v (vI o6.x)) (Kc o6.c1),.as 97 (.v (vI (z67+o6.x))),.as 98 (.v (vI z56)),.call [] (.v (.c (.int .u64 z60))) []] (.intro (Ah o6.c1 z60) fun o7=> .sZ [.call [0] (.v (vT o7.t)) (Kc o7.c1),.call [] (.v (vI (max 0 z56))) [],.as 108 (.v (.c (.int .u64 (max 0 z56))))] (.intro (Ah o7.c1 (max 0 z56)) fun o8=> .sZ [.call [0] (.v (vT o8.t)) (Kc o8.c1)] (.lJ (⟨(o7.t++o8.t)++z68,o8.c1⟩:Bf) [0])))) (.sZ [.call [] (.v (.c (.int .u64 z60))) []] (.intro (Ah o5.c1 z60) fun o6=> .sZ [.call [0] (.v (vT o6.t)) (Kc o6.c1),.call [] (.v (vI (max 0 z67))) [],.as 108 (.v (.c (.int .u64 (max 0 z67))))] (.intro (Ah o6.c1 (max 0 z67)) fun o7=> .sZ [.call [0] (.v (vT o7.t)) (Kc o7.c1)] (.lJ (⟨(o6.t++o7.t)++z68,o7.c1⟩:Bf) [0]))))))) (.intro (Au o3.c1 20) fun o4=> .sZ [.call [0] (.v (vB o4.p)) (Kc o4.c1)] (.br (.intro (Aa o4.c1 5) fun o5=>let z63:=z67+o5.x-2;.sZ [.call [0] (.v (vI o5.x)) (Kc o5.c1),.as 97 (.v (vI (z67+o5.x))),.as 98 (.v (vI z63)),.call [] z105 []] (.intro (Ah o5.c1 z103) fun o6=> .sZ [.call [0] (.v (vT o6.t)) (Kc o6.c1),.call [] (.v (vI (max 0 z63))) [],.as 108 (.v (.c (.int .u64 (max 0 z63))))] (.intro (Ah o6.c1 (max 0 z63)) fun o7=> .sZ [.call [0] (.v (vT o7.t)) (Kc o7.c1)] (.lJ (⟨(o6.t++o7.t)++z68,o7.c1⟩:Bf) [0])))) (.sZ [.call [] z105 []] (.intro (Ah o4.c1 z103) fun o5=> .sZ [.call [0] (.v (vT o5.t)) (Kc o5.c1),.call [] (.v (vI (max 0 z67))) [],.as 108 (.v (.c (.int .u64 (max 0 z67))))] (.intro (Ah o5.c1 (max 0 z67)) fun o6=> .sZ [.call [0] (.v (vT o6.t)) (Kc o6.c1)] (.lJ (⟨(o5.t++o6.t)++z68,o6.c1⟩:Bf) [0])))))))))) (.sZ [.call [] (.v (vB (U3 f))) []] (.br (.br (.intro (Aa c 4) fun o1=> .sZ [.call [0] (.v (vI o1.x)) (Kc o1.c1),.at 0,.keep [0,6,9,10,11,12],.sel [0,2]] (.loop (D0 f o1) fun q1=>let z83:=((q1.body.length:Nat):Int);.br (.intro (Ec q1.c f.kind) fun o2=> .sZ [.call [0] (.v (vT o2.t)) (Kc o2.c1),.as 79 (.v (vI (((q1.i:Nat):Int)+1))),.at 0,.keep [0,6,9,10,11,12],.sel [0,1]] (.next)) (.intro (Au q1.c 30) fun o2=> .sZ [.call [0] (.v (vB o2.p)) (Kc o2.c1)] (.br (.intro (Aa o2.c1 8) fun o3=>let z76:=Db f.nJ o3.x;.sZ [.call [0] (.v (vI o3.x)) (Kc o3.c1)] (.intro (Au o3.c1 20) fun o4=> .sZ [.call [0] (.v (vB o4.p)) (Kc o4.c1)] (.br (.intro (Aa o4.c1 5) fun o5=>let z72:=z83+o5.x-2;.sZ [.call [0] (.v (vI o5.x)) (Kc o5.c1),.as 97 (.v (vI (z83+o5.x))),.as 98 (.v (vI z72)),.call [] (.v (.c (.int .u64 z76))) []] (.intro (Ah o5.c1 z76) fun o6=> .sZ [.call [0] (.v (vT o6.t)) (Kc o6.c1),.call [] (.v (vI (max 0 z72))) [],.as 108 (.v (.c (.int .u64 (max 0 z72))))] (.intro (Ah o6.c1 (max 0 z72)) fun o7=> .sZ [.call [0] (.v (vT o7.t)) (Kc o7.c1)] (.lJ (⟨(o6.t++o7.t)++q1.body,o7.c1⟩:Bf) [0])))) (.sZ [.call [] (.v (.c (.int .u64 z76))) []] (.intro (Ah o4.c1 z76) fun o5=> .sZ [.call [0] (.v (vT o5.t)) (Kc o5.c1),.call [] (.v (vI (max 0 z83))) [],.as 108 (.v (.c (.int .u64 (max 0 z83))))] (.intro (Ah o5.c1 (max 0 z83)) fun o6=> .sZ [.call [0] (.v (vT o6.t)) (Kc o6.c1)] (.lJ (⟨(o5.t++o6.t)++q1.body,o6.c1⟩:Bf) [0]))))))) (.intro (Au o2.c1 20) fun o3=> .sZ [.call [0] (.v (vB o3.p)) (Kc o3.c1)] (.br (.intro (Aa o3.c1 5) fun o4=>let z79:=z83+o4.x-2;.sZ [.call [0] (.v (vI o4.x)) (Kc o4.c1),.as 97 (.v (vI (z83+o4.x))),.as 98 (.v (vI z79)),.call [] z109 []] (.intro (Ah o4.c1 z108) fun o5=> .sZ [.call [0] (.v (vT o5.t)) (Kc o5.c1),.call [] (.v (vI (max 0 z79))) [],.as 108 (.v (.c (.int .u64 (max 0 z79))))] (.intro (Ah o5.c1 (max 0 z79)) fun o6=> .sZ [.call [0] (.v (vT o6.t)) (Kc o6.c1)] (.lJ (⟨(o5.t++o6.t)++q1.body,o6.c1⟩:Bf) [0])))) (.sZ [.call [] z109 []] (.intro (Ah o3.c1 z108) fun o4=> .sZ [.call [0] (.v (vT o4.t)) (Kc o4.c1),.call [] (.v (vI (max 0 z83))) [],.as 108 (.v (.c (.int .u64 (max 0 z83))))] (.intro (Ah o4.c1 (max 0 z83)) fun o5=> .sZ [.call [0] (.v (vT o5.t)) (Kc o5.c1)] (.lJ (⟨(o4.t++o5.t)++q1.body,o5.c1⟩:Bf) [0])))))))))) (.intro (Au c 3) fun o1=> .sZ [.call [0] (.v (vB o1.p)) (Kc o1.c1)] (.br (.intro (Aa o1.c1 4) fun o2=> .sZ [.call [0] (.v (vI o2.x)) (Kc o2.c1),.at 0,.keep [0,6,9,10,11,12],.sel [0,2]] (.loop (D0 f o2) fun q1=>let z99:=((q1.body.length:Nat):Int);.br (.intro (Ec q1.c f.kind) fun o3=> .sZ [.call [0] (.v (vT o3.t)) (Kc o3.c1),.as 79 (.v (vI (((q1.i:Nat):Int)+1))),.at 0,.keep [0,6,9,10,11,12],.sel [0,1]] (.next)) (.intro (Au q1.c 30) fun o3=> .sZ [.call [0] (.v (vB o3.p)) (Kc o3.c1)] (.br (.intro (Aa o3.c1 8) fun o4=>let z92:=Db f.nJ o4.x;.sZ [.call [0] (.v (vI o4.x)) (Kc o4.c1)] (.intro (Au o4.c1 20) fun o5=> .sZ [.call [0] (.v (vB o5.p)) (Kc o5.c1)] (.br (.intro (Aa o5.c1 5) fun o6=>let z88:=z99+o6.x-2;.sZ [.call [0] (.v (vI o6.x)) (Kc o6.c1),.as 97 (.v (vI (z99+o6.x))),.as 98 (.v (vI z88)),.call [] (.v (.c (.int .u64 z92))) []] (.intro (Ah o6.c1 z92) fun o7=> .sZ [.call [0] (.v (vT o7.t)) (Kc o7.c1),.call [] (.v (vI (max 0 z88))) [],.as 108 (.v (.c (.int .u64 (max 0 z88))))] (.intro (Ah o7.c1 (max 0 z88)) fun o8=> .sZ [.call [0] (.v (vT o8.t)) (Kc o8.c1)] (.lJ (⟨(o7.t++o8.t)++q1.body,o8.c1⟩:Bf) [0])))) (.sZ [.call [] (.v (.c (.int .u64 z92))) []] (.intro (Ah o5.c1 z92) fun o6=> .sZ [.call [0] (.v (vT o6.t)) (Kc o6.c1),.call [] (.v (vI (max 0 z99))) [],.as 108 (.v (.c (.int .u64 (max 0 z99))))] (.intro (Ah o6.c1 (max 0 z99)) fun o7=> .sZ [.call [0] (.v (vT o7.t)) (Kc o7.c1)] (.lJ (⟨(o6.t++o7.t)++q1.body,o7.c1⟩:Bf) [0]))))))) (.intro (Au o3.c1 20) fun o4=> .sZ [.call [0] (.v (vB o4.p)) (Kc o4.c1)] (.br (.intro (Aa o4.c1 5) fun o5=>let z95:=z99+o5.x-2;.sZ [.call [0] (.v (vI o5.x)) (Kc o5.c1),.as 97 (.v (vI (z99+o5.x))),.as 98 (.v (vI z95)),.call [] z109 []] (.intro (Ah o5.c1 z108) fun o6=> .sZ [.call [0] (.v (vT o6.t)) (Kc o6.c1),.call [] (.v (vI (max 0 z95))) [],.as 108 (.v (.c (.int .u64 (max 0 z95))))] (.intro (Ah o6.c1 (max 0 z95)) fun o7=> .sZ [.call [0] (.v (vT o7.t)) (Kc o7.c1)] (.lJ (⟨(o6.t++o7.t)++q1.body,o7.c1⟩:Bf) [0])))) (.sZ [.call [] z109 []] (.intro (Ah o4.c1 z108) fun o5=> .sZ [.call [0] (.v (vT o5.t)) (Kc o5.c1),.call [] (.v (vI (max 0 z99))) [],.as 108 (.v (.c (.int .u64 (max 0 z99))))] (.intro (Ah o5.c1 (max 0 z99)) fun o6=> .sZ [.call [0] (.v (vT o6.t)) (Kc o6.c1)] (.lJ (⟨(o5.t++o6.t)++q1.body,o6.c1⟩:Bf) [0])))))))))) (.intro (Ah o1.c1 z103) fun o2=> .intro (Ec o2.c1 f.kind) fun o3=> .sZ [.ord [(0,true),(1,true),(2,true),(3,true),(6,true),(7,true),(8,true),(4,false),(5,false),(9,false),(10,true),(11,true)] [0],.call [] z105 [],.call [0] (.v (vT o2.t)) (Kc o2.c1),.call [0] (.v (vT o3.t)) (Kc o3.c1)] (.lJ (⟨o2.t++o3.t,o3.c1⟩:Bf) [0]))))) (.intro (Ah c z103) fun o1=> .intro (Ec o1.c1 f.kind) fun o2=> .sZ [.ord [(0,true),(1,true),(2,true),(3,true),(6,true),(7,true),(8,true),(4,false),(5,false),(9,false),(10,true),(11,true)] [0],.call [] z105 [],.call [0] (.v (vT o1.t)) (Kc o1.c1),.call [0] (.v (vT o2.t)) (Kc o2.c1)] (.lJ (⟨o1.t++o2.t,o2.c1⟩:Bf) [0]))))))),(Fp 131 [vI f.kind] [] (.v (vI z113)) [])∧Bc (decide (f.kind=8)) (Bc (decide (0<dJ)) ((wI (dJ-1))∧In (Atu c p f.mK (dJ-1)) fun o1=>(let z14:=((o1.t.length:Nat):Int);(At7 c p f.mK (dJ-1) o1)∧In (Au o1.c1 30) fun o2=>((Bq o1.c1 30 o2)∧Bc o2.p (In (Aa o2.c1 8) fun o3=>(let z7:=Db f.nJ o3.x;(Ap o2.c1 8 o3)∧In (Au o3.c1 20) fun o4=>((Bq o3.c1 20 o4)∧Bc o4.p (In (Aa o4.c1 5) fun o5=>(let z3:=z14+o5.x-2;let z4:=z14+o5.x;(Ap o4.c1 5 o5)∧(wI z4)∧((.v (vI (IntKind.i64.wrap (z4-2))):S)= .v (vI z3))∧(Fp 222 [vI f.nJ,vI o3.x] [] (.v (.c (.int .u64 z7))) [])∧In (Ah o5.c1 z7) fun o6=>((Ay o5.c1 z7 o6)∧(Fp 84 [vI 0,vI z3] [] (.v (vI (max 0 z3))) [])∧(wU (max 0 z3))∧In (Ah o6.c1 (max 0 z3)) fun o7=>(let z1:=(o6.t++o7.t)++o1.t;(Ay o6.c1 (max 0 z3) o7)∧(((o6.t.length+o7.t.length:Nat):Int)≤Bi)∧(((List.length (o6.t++o7.t)+o1.t.length:Nat):Int)≤Bi)∧((List.length (z1:List UInt8)≤Et z106)∧(A4 o7.c1))∧Lf (.v (vT z1)) (.v (vT z1)) (Kc o7.c1) (Kc o7.c1))))) ((Fp 222 [vI f.nJ,vI o3.x] [] (.v (.c (.int .u64 z7))) [])∧In (Ah o4.c1 z7) fun o5=>((Ay o4.c1 z7 o5)∧(Fp 84 [vI 0,vI z14] [] (.v (vI (max 0 z14))) [])∧(wU (max 0 z14))∧In (Ah o5.c1 (max 0 z14)) fun o6=>(let z5:=(o5.t++o6.t)++o1.t;(Ay o5.c1 (max 0 z14) o6)∧(((o5.t.length+o6.t.length:Nat):Int)≤Bi)∧(((List.length (o5.t++o6.t)+o1.t.length:Nat):Int)≤Bi)∧((List.length (z5:List UInt8)≤Et z106)∧(A4 o6.c1))∧Lf (.v (vT z5)) (.v (vT z5)) (Kc o6.c1) (Kc o6.c1))))))) (In (Au o2.c1 20) fun o3=>((Bq o2.c1 20 o3)∧Bc o3.p (In (Aa o3.c1 5) fun o4=>(let z10:=z14+o4.x-2;let z11:=z14+o4.x;(Ap o3.c1 5 o4)∧(wI z11)∧((.v (vI (IntKind.i64.wrap (z11-2))):S)= .v (vI z10))∧(Fp 222 z107 [] z105 [])∧In (Ah o4.c1 z103) fun o5=>((Ay o4.c1 z103 o5)∧(Fp 84 [vI 0,vI z10] [] (.v (vI (max 0 z10))) [])∧(wU (max 0 z10))∧In (Ah o5.c1 (max 0 z10)) fun o6=>(let z8:=(o5.t++o6.t)++o1.t;(Ay o5.c1 (max 0 z10) o6)∧(((o5.t.length+o6.t.length:Nat):Int)≤Bi)∧(((List.length (o5.t++o6.t)+o1.t.length:Nat):Int)≤Bi)∧((List.length (z8:List UInt8)≤Et z106)∧(A4 o6.c1))∧Lf (.v (vT z8)) (.v (vT z8)) (Kc o6.c1) (Kc o6.c1))))) ((Fp 222 z107 [] z105 [])∧In (Ah o3.c1 z103) fun o4=>((Ay o3.c1 z103 o4)∧(Fp 84 [vI 0,vI z14] [] (.v (vI (max 0 z14))) [])∧(wU (max 0 z14))∧In (Ah o4.c1 (max 0 z14)) fun o5=>(let z12:=(o4.t++o5.t)++o1.t;(Ay o4.c1 (max 0 z14) o5)∧(((o4.t.length+o5.t.length:Nat):Int)≤Bi)∧(((List.length (o4.t++o5.t)+o1.t.length:Nat):Int)≤Bi)∧((List.length (z12:List UInt8)≤Et z106)∧(A4 o5.c1))∧Lf (.v (vT z12)) (.v (vT z12)) (Kc o5.c1) (Kc o5.c1))))))))) (In (Au c 30) fun o1=>((Bq c 30 o1)∧Bc o1.p (In (Aa o1.c1 8) fun o2=>(let z21:=Db f.nJ o2.x;(Ap o1.c1 8 o2)∧In (Au o2.c1 20) fun o3=>((Bq o2.c1 20 o3)∧Bc o3.p (In (Aa o3.c1 5) fun o4=>(let z17:=z104+o4.x-2;let z18:=z104+o4.x;(Ap o3.c1 5 o4)∧(wI z18)∧((.v (vI (IntKind.i64.wrap (z18-2))):S)= .v (vI z17))∧(Fp 222 [vI f.nJ,vI o2.x] [] (.v (.c (.int .u64 z21))) [])∧In (Ah o4.c1 z21) fun o5=>((Ay o4.c1 z21 o5)∧(Fp 84 [vI 0,vI z17] [] (.v (vI (max 0 z17))) [])∧(wU (max 0 z17))∧In (Ah o5.c1 (max 0 z17)) fun o6=>(let z15:=(o5.t++o6.t)++[];(Ay o5.c1 (max 0 z17) o6)∧(((o5.t.length+o6.t.length:Nat):Int)≤Bi)∧(((List.length (o5.t++o6.t)+z111.length:Nat):Int)≤Bi)∧((List.length (z15:List UInt8)≤Et z106)∧(A4 o6.c1))∧Lf (.v (vT z15)) (.v (vT z15)) (Kc o6.c1) (Kc o6.c1))))) ((Fp 222 [vI f.nJ,vI o2.x] [] (.v (.c (.int .u64 z21))) [])∧In (Ah o3.c1 z21) fun o4=>((Ay o3.c1 z21 o4)∧(Fp 84 [vI 0,vI z104] [] z114 [])∧(wU z110)∧In (Ah o4.c1 z110) fun o5=>(let z19:=(o4.t++o5.t)++[];(Ay o4.c1 z110 o5)∧(((o4.t.length+o5.t.length:Nat):Int)≤Bi)∧(((List.length (o4.t++o5.t)+z111.length:Nat):Int)≤Bi)∧((List.length (z19:List UInt8)≤Et z106)∧(A4 o5.c1))∧Lf (.v (vT z19)) (.v (vT z19)) (Kc o5.c1) (Kc o5.c1))))))) (In (Au o1.c1 20) fun o2=>((Bq o1.c1 20 o2)∧Bc o2.p (In (Aa o2.c1 5) fun o3=>(let z24:=z104+o3.x-2;let z25:=z104+o3.x;(Ap o2.c1 5 o3)∧(wI z25)∧((.v (vI (IntKind.i64.wrap (z25-2))):S)= .v (vI z24))∧(Fp 222 z107 [] z105 [])∧In (Ah o3.c1 z103) fun o4=>((Ay o3.c1 z103 o4)∧(Fp 84 [vI 0,vI z24] [] (.v (vI (max 0 z24))) [])∧(wU (max 0 z24))∧In (Ah o4.c1 (max 0 z24)) fun o5=>(let z22:=(o4.t++o5.t)++[];(Ay o4.c1 (max 0 z24) o5)∧(((o4.t.length+o5.t.length:Nat):Int)≤Bi)∧(((List.length (o4.t++o5.t)+z111.length:Nat):Int)≤Bi)∧((List.length (z22:List UInt8)≤Et z106)∧(A4 o5.c1))∧Lf (.v (vT z22)) (.v (vT z22)) (Kc o5.c1) (Kc o5.c1))))) ((Fp 222 z107 [] z105 [])∧In (Ah o2.c1 z103) fun o3=>((Ay o2.c1 z103 o3)∧(Fp 84 [vI 0,vI z104] [] z114 [])∧(wU z110)∧In (Ah o3.c1 z110) fun o4=>(let z26:=(o3.t++o4.t)++[];(Ay o3.c1 z110 o4)∧(((o3.t.length+o4.t.length:Nat):Int)≤Bi)∧(((List.length (o3.t++o4.t)+z111.length:Nat):Int)≤Bi)∧((List.length (z26:List UInt8)≤Et z106)∧(A4 o4.c1))∧Lf (.v (vT z26)) (.v (vT z26)) (Kc o4.c1) (Kc o4.c1))))))))) (Bc (decide (f.kind=6)) (In (Aa c 3) fun o1=>((Ap c 3 o1)∧In (Nw o1.c1 o1.x) fun o2=>(let z54:=((o2.t.length:Nat):Int);(Vs o1.c1 o1.x o2)∧In (Au o2.c1 8) fun o3=>((Bq o2.c1 8 o3)∧Bc o3.p (In (Vt o3.c1) fun o4=>(let z40:=((o4.t.length:Nat):Int);(Aa3 o3.c1 o4)∧In (Au o4.c1 30) fun o5=>((Bq o4.c1 30 o5)∧Bc o5.p (In (Aa o5.c1 8) fun o6=>(let z33:=Db f.nJ o6.x;(Ap o5.c1 8 o6)∧In (Au o6.c1 20) fun o7=>((Bq o6.c1 20 o7)∧Bc o7.p (In (Aa o7.c1 5) fun o8=>(let z29:=z40+o8.x-2;let z30:=z40+o8.x;(Ap o7.c1 5 o8)∧(wI z30)∧((.v (vI (IntKind.i64.wrap (z30-2))):S)= .v (vI z29))∧(Fp 222 [vI f.nJ,vI o6.x] [] (.v (.c (.int .u64 z33))) [])∧In (Ah o8.c1 z33) fun o9=>((Ay o8.c1 z33 o9)∧(Fp 84 [vI 0,vI z29] [] (.v (vI (max 0 z29))) [])∧(wU (max 0 z29))∧In (Ah o9.c1 (max 0 z29)) fun o10=>(let z27:=(o9.t++o10.t)++o4.t;(Ay o9.c1 (max 0 z29) o10)∧(((o9.t.length+o10.t.length:Nat):Int)≤Bi)∧(((List.length (o9.t++o10.t)+o4.t.length:Nat):Int)≤Bi)∧((List.length (z27:List UInt8)≤Et z106)∧(A4 o10.c1))∧Lf (.v (vT z27)) (.v (vT z27)) (Kc o10.c1) (Kc o10.c1))))) ((Fp 222 [vI f.nJ,vI o6.x] [] (.v (.c (.int .u64 z33))) [])∧In (Ah o7.c1 z33) fun o8=>((Ay o7.c1 z33 o8)∧(Fp 84 [vI 0,vI z40] [] (.v (vI (max 0 z40))) [])∧(wU (max 0 z40))∧In (Ah o8.c1 (max 0 z40)) fun o9=>(let z31:=(o8.t++o9.t)++o4.t;(Ay o8.c1 (max 0 z40) o9)∧(((o8.t.length+o9.t.length:Nat):Int)≤Bi)∧(((List.length (o8.t++o9.t)+o4.t.length:Nat):Int)≤Bi)∧((List.length (z31:List UInt8)≤Et z106)∧(A4 o9.c1))∧Lf (.v (vT z31)) (.v (vT z31)) (Kc o9.c1) (Kc o9.c1))))))) (In (Au o5.c1 20) fun o6=>((Bq o5.c1 20 o6)∧Bc o6.p (In (Aa o6.c1 5) fun o7=>(let z36:=z40+o7.x-2;let z37:=z40+o7.x;(Ap o6.c1 5 o7)∧(wI z37)∧((.v (vI (IntKind.i64.wrap (z37-2))):S)= .v (vI z36))∧(Fp 222 z107 [] z105 [])∧In (Ah o7.c1 z103) fun o8=>((Ay o7.c1 z103 o8)∧(Fp 84 [vI 0,vI z36] [] (.v (vI (max 0 z36))) [])∧(wU (max 0 z36))∧In (Ah o8.c1 (max 0 z36)) fun o9=>(let z34:=(o8.t++o9.t)++o4.t;(Ay o8.c1 (max 0 z36) o9)∧(((o8.t.length+o9.t.length:Nat):Int)≤Bi)∧(((List.length (o8.t++o9.t)+o4.t.length:Nat):Int)≤Bi)∧((List.length (z34:List UInt8)≤Et z106)∧(A4 o9.c1))∧Lf (.v (vT z34)) (.v (vT z34)) (Kc o9.c1) (Kc o9.c1))))) ((Fp 222 z107 [] z105 [])∧In (Ah o6.c1 z103) fun o7=>((Ay o6.c1 z103 o7)∧(Fp 84 [vI 0,vI z40] [] (.v (vI (max 0 z40))) [])∧(wU (max 0 z40))∧In (Ah o7.c1 (max 0 z40)) fun o8=>(let z38:=(o7.t++o8.t)++o4.t;(Ay o7.c1 (max 0 z40) o8)∧(((o7.t.length+o8.t.length:Nat):Int)≤Bi)∧(((List.length (o7.t++o8.t)+o4.t.length:Nat):Int)≤Bi)∧((List.length (z38:List UInt8)≤Et z106)∧(A4 o8.c1))∧Lf (.v (vT z38)) (.v (vT z38)) (Kc o8.c1) (Kc o8.c1))))))))) (In (Au o3.c1 30) fun o4=>((Bq o3.c1 30 o4)∧Bc o4.p (In (Aa o4.c1 8) fun o5=>(let z47:=Db f.nJ o5.x;(Ap o4.c1 8 o5)∧In (Au o5.c1 20) fun o6=>((Bq o5.c1 20 o6)∧Bc o6.p (In (Aa o6.c1 5) fun o7=>(let z43:=z54+o7.x-2;let z44:=z54+o7.x;(Ap o6.c1 5 o7)∧(wI z44)∧((.v (vI (IntKind.i64.wrap (z44-2))):S)= .v (vI z43))∧(Fp 222 [vI f.nJ,vI o5.x] [] (.v (.c (.int .u64 z47))) [])∧In (Ah o7.c1 z47) fun o8=>((Ay o7.c1 z47 o8)∧(Fp 84 [vI 0,vI z43] [] (.v (vI (max 0 z43))) [])∧(wU (max 0 z43))∧In (Ah o8.c1 (max 0 z43)) fun o9=>(let z41:=(o8.t++o9.t)++o2.t;(Ay o8.c1 (max 0 z43) o9)∧(((o8.t.length+o9.t.length:Nat):Int)≤Bi)∧(((List.length (o8.t++o9.t)+o2.t.length:Nat):Int)≤Bi)∧((List.length (z41:List UInt8)≤Et z106)∧(A4 o9.c1))∧Lf (.v (vT z41)) (.v (vT z41)) (Kc o9.c1) (Kc o9.c1))))) ((Fp 222 [vI f.nJ,vI o5.x] [] (.v (.c (.int .u64 z47))) [])∧In (Ah o6.c1 z47) fun o7=>((Ay o6.c1 z47 o7)∧(Fp 84 [vI 0,vI z54] [] (.v (vI (max 0 z54))) [])∧(wU (max 0 z54))∧In (Ah o7.c1 (max 0 z54)) fun o8=>(let z45:=(o7.t++o8.t)++o2.t;(Ay o7.c1 (max 0 z54) o8)∧(((o7.t.length+o8.t.length:Nat):Int)≤Bi)∧(((List.length (o7.t++o8.t)+o2.t.length:Nat):Int)≤Bi)∧((List.length (z45:List UInt8)≤Et z106)∧(A4 o8.c1))∧Lf (.v (vT z45)) (.v (vT z45)) (Kc o8.c1) (Kc o8.c1))))))) (In (Au o4.c1 20) fun o5=>((Bq o4.c1 20 o5)∧Bc o5.p (In (Aa o5.c1 5) fun o6=>(let z50:=z54+o6.x-2;let z51:=z54+o6.x;(Ap o5.c1 5 o6)∧(wI z51)∧((.v (vI (IntKind.i64.wrap (z51-2))):S)= .v (vI z50))∧(Fp 222 z107 [] z105 [])∧In (Ah o6.c1 z103) fun o7=>((Ay o6.c1 z103 o7)∧(Fp 84 [vI 0,vI z50] [] (.v (vI (max 0 z50))) [])∧(wU (max 0 z50))∧In (Ah o7.c1 (max 0 z50)) fun o8=>(let z48:=(o7.t++o8.t)++o2.t;(Ay o7.c1 (max 0 z50) o8)∧(((o7.t.length+o8.t.length:Nat):Int)≤Bi)∧(((List.length (o7.t++o8.t)+o2.t.length:Nat):Int)≤Bi)∧((List.length (z48:List UInt8)≤Et z106)∧(A4 o8.c1))∧Lf (.v (vT z48)) (.v (vT z48)) (Kc o8.c1) (Kc o8.c1))))) ((Fp 222 z107 [] z105 [])∧In (Ah o5.c1 z103) fun o6=>((Ay o5.c1 z103 o6)∧(Fp 84 [vI 0,vI z54] [] (.v (vI (max 0 z54))) [])∧(wU (max 0 z54))∧In (Ah o6.c1 (max 0 z54)) fun o7=>(let z52:=(o6.t++o7.t)++o2.t;(Ay o6.c1 (max 0 z54) o7)∧(((o6.t.length+o7.t.length:Nat):Int)≤Bi)∧(((List.length (o6.t++o7.t)+o2.t.length:Nat):Int)≤Bi)∧((List.length (z52:List UInt8)≤Et z106)∧(A4 o7.c1))∧Lf (.v (vT z52)) (.v (vT z52)) (Kc o7.c1) (Kc o7.c1)))))))))))) (Bc (decide (f.kind=7)) (In (Aa c 6) fun o1=>((Ap c 6 o1)∧In (B1 o1.c1 o1.x) fun o2=>(let z70:=List.map Bj o2.l;let z69:=((z70.length:Nat):Int);(Dr o1.c1 o1.x o2)∧In (Au o2.c1 30) fun o3=>((Bq o2.c1 30 o3)∧Bc o3.p (In (Aa o3.c1 8) fun o4=>(let z61:=Db f.nJ o4.x;(Ap o3.c1 8 o4)∧In (Au o4.c1 20) fun o5=>((Bq o4.c1 20 o5)∧Bc o5.p (In (Aa o5.c1 5) fun o6=>(let z57:=z69+o6.x-2;let z58:=z69+o6.x;(Ap o5.c1 5 o6)∧(wI z58)∧((.v (vI (IntKind.i64.wrap (z58-2))):S)= .v (vI z57))∧(Fp 222 [vI f.nJ,vI o4.x] [] (.v (.c (.int .u64 z61))) [])∧In (Ah o6.c1 z61) fun o7=>((Ay o6.c1 z61 o7)∧(Fp 84 [vI 0,vI z57] [] (.v (vI (max 0 z57))) [])∧(wU (max 0 z57))∧In (Ah o7.c1 (max 0 z57)) fun o8=>(let z55:=(o7.t++o8.t)++z70;(Ay o7.c1 (max 0 z57) o8)∧(((o7.t.length+o8.t.length:Nat):Int)≤Bi)∧(((List.length (o7.t++o8.t)+z70.length:Nat):Int)≤Bi)∧((List.length (z55:List UInt8)≤Et z106)∧(A4 o8.c1))∧Lf (.v (vT z55)) (.v (vT z55)) (Kc o8.c1) (Kc o8.c1))))) ((Fp 222 [vI f.nJ,vI o4.x] [] (.v (.c (.int .u64 z61))) [])∧In (Ah o5.c1 z61) fun o6=>((Ay o5.c1 z61 o6)∧(Fp 84 [vI 0,vI z69] [] (.v (vI (max 0 z69))) [])∧(wU (max 0 z69))∧In (Ah o6.c1 (max 0 z69)) fun o7=>(let z59:=(o6.t++o7.t)++z70;(Ay o6.c1 (max 0 z69) o7)∧(((o6.t.length+o7.t.length:Nat):Int)≤Bi)∧(((List.length (o6.t++o7.t)+z70.length:Nat):Int)≤Bi)∧((List.length (z59:List UInt8)≤Et z106)∧(A4 o7.c1))∧Lf (.v (vT z59)) (.v (vT z59)) (Kc o7.c1) (Kc o7.c1))))))) (In (Au o3.c1 20) fun o4=>((Bq o3.c1 20 o4)∧Bc o4.p (In (Aa o4.c1 5) fun o5=>(let z64:=z69+o5.x-2;let z65:=z69+o5.x;(Ap o4.c1 5 o5)∧(wI z65)∧((.v (vI (IntKind.i64.wrap (z65-2))):S)= .v (vI z64))∧(Fp 222 z107 [] z105 [])∧In (Ah o5.c1 z103) fun o6=>((Ay o5.c1 z103 o6)∧(Fp 84 [vI 0,vI z64] [] (.v (vI (max 0 z64))) [])∧(wU (max 0 z64))∧In (Ah o6.c1 (max 0 z64)) fun o7=>(let z62:=(o6.t++o7.t)++z70;(Ay o6.c1 (max 0 z64) o7)∧(((o6.t.length+o7.t.length:Nat):Int)≤Bi)∧(((List.length (o6.t++o7.t)+z70.length:Nat):Int)≤Bi)∧((List.length (z62:List UInt8)≤Et z106)∧(A4 o7.c1))∧Lf (.v (vT z62)) (.v (vT z62)) (Kc o7.c1) (Kc o7.c1))))) ((Fp 222 z107 [] z105 [])∧In (Ah o4.c1 z103) fun o5=>((Ay o4.c1 z103 o5)∧(Fp 84 [vI 0,vI z69] [] (.v (vI (max 0 z69))) [])∧(wU (max 0 z69))∧In (Ah o5.c1 (max 0 z69)) fun o6=>(let z66:=(o5.t++o6.t)++z70;(Ay o5.c1 (max 0 z69) o6)∧(((o5.t.length+o6.t.length:Nat):Int)≤Bi)∧(((List.length (o5.t++o6.t)+z70.length:Nat):Int)≤Bi)∧((List.length (z66:List UInt8)≤Et z106)∧(A4 o6.c1))∧Lf (.v (vT z66)) (.v (vT z66)) (Kc o6.c1) (Kc o6.c1)))))))))) ((Fp 129 [.agg (Fg f)] [] (.v (vB (U3 f))) [])∧Bc (U3 f) (Bc f.packed (In (Aa c 4) fun o1=>(let z86:=D0 f o1;(Ap c 4 o1)∧z86.Has [(0,.v (vP 0)),(6,.v (vP 1)),(9,.v (vI 2)),(10,.v (vT [])),(11,.v (vI o1.x)),(12,.v (vI 0))] [.cells (Ct o1.c1),.cells (Fg f)]∧∀q1,z86.inv q1→(let z84:=((q1.body.length:Nat):Int);let z85:=((q1.i:Nat):Int);Bc (decide (z85<o1.x)) (In (Ec q1.c f.kind) fun o2=>((Jg q1.c f.kind o2)∧(((q1.body.length+o2.t.length:Nat):Int)≤Bi)∧(wI (z85+1))∧z86.Nxt q1 [(0,.v (vP 0)),(6,.v (vP 1)),(9,.v (vI 2)),(10,.v (vT (q1.body++o2.t))),(11,.v (vI o1.x)),(12,.v (vI (z85+1)))] [.cells (Ct o2.c1),.cells (Fg f)])) (In (Au q1.c 30) fun o2=>((Bq q1.c 30 o2)∧Bc o2.p (In (Aa o2.c1 8) fun o3=>(let z77:=Db f.nJ o3.x;(Ap o2.c1 8 o3)∧In (Au o3.c1 20) fun o4=>((Bq o3.c1 20 o4)∧Bc o4.p (In (Aa o4.c1 5) fun o5=>(let z73:=z84+o5.x-2;let z74:=z84+o5.x;(Ap o4.c1 5 o5)∧(wI z74)∧((.v (vI (IntKind.i64.wrap (z74-2))):S)= .v (vI z73))∧(Fp 222 [vI f.nJ,vI o3.x] [] (.v (.c (.int .u64 z77))) [])∧In (Ah o5.c1 z77) fun o6=>((Ay o5.c1 z77 o6)∧(Fp 84 [vI 0,vI z73] [] (.v (vI (max 0 z73))) [])∧(wU (max 0 z73))∧In (Ah o6.c1 (max 0 z73)) fun o7=>(let z71:=(o6.t++o7.t)++q1.body;(Ay o6.c1 (max 0 z73) o7)∧(((o6.t.length+o7.t.length:Nat):Int)≤Bi)∧(((List.length (o6.t++o7.t)+q1.body.length:Nat):Int)≤Bi)∧((List.length (z71:List UInt8)≤Et z106)∧(A4 o7.c1))∧Lf (.v (vT z71)) (.v (vT z71)) (Kc o7.c1) (Kc o7.c1))))) ((Fp 222 [vI f.nJ,vI o3.x] [] (.v (.c (.int .u64 z77))) [])∧In (Ah o4.c1 z77) fun o5=>((Ay o4.c1 z77 o5)∧(Fp 84 [vI 0,vI z84] [] (.v (vI (max 0 z84))) [])∧(wU (max 0 z84))∧In (Ah o5.c1 (max 0 z84)) fun o6=>(let z75:=(o5.t++o6.t)++q1.body;(Ay o5.c1 (max 0 z84) o6)∧(((o5.t.length+o6.t.length:Nat):Int)≤Bi)∧(((List.length (o5.t++o6.t)+q1.body.length:Nat):Int)≤Bi)∧((List.length (z75:List UInt8)≤Et z106)∧(A4 o6.c1))∧Lf (.v (vT z75)) (.v (vT z75)) (Kc o6.c1) (Kc o6.c1))))))) (In (Au o2.c1 20) fun o3=>((Bq o2.c1 20 o3)∧Bc o3.p (In (Aa o3.c1 5) fun o4=>(let z80:=z84+o4.x-2;let z81:=z84+o4.x;(Ap o3.c1 5 o4)∧(wI z81)∧((.v (vI (IntKind.i64.wrap (z81-2))):S)= .v (vI z80))∧(Fp 222 z112 [] z109 [])∧In (Ah o4.c1 z108) fun o5=>((Ay o4.c1 z108 o5)∧(Fp 84 [vI 0,vI z80] [] (.v (vI (max 0 z80))) [])∧(wU (max 0 z80))∧In (Ah o5.c1 (max 0 z80)) fun o6=>(let z78:=(o5.t++o6.t)++q1.body;(Ay o5.c1 (max 0 z80) o6)∧(((o5.t.length+o6.t.length:Nat):Int)≤Bi)∧(((List.length (o5.t++o6.t)+q1.body.length:Nat):Int)≤Bi)∧((List.length (z78:List UInt8)≤Et z106)∧(A4 o6.c1))∧Lf (.v (vT z78)) (.v (vT z78)) (Kc o6.c1) (Kc o6.c1))))) ((Fp 222 z112 [] z109 [])∧In (Ah o3.c1 z108) fun o4=>((Ay o3.c1 z108 o4)∧(Fp 84 [vI 0,vI z84] [] (.v (vI (max 0 z84))) [])∧(wU (max 0 z84))∧In (Ah o4.c1 (max 0 z84)) fun o5=>(let z82:=(o4.t++o5.t)++q1.body;(Ay o4.c1 (max 0 z84) o5)∧(((o4.t.length+o5.t.length:Nat):Int)≤Bi)∧(((List.length (o4.t++o5.t)+q1.body.length:Nat):Int)≤Bi)∧((List.length (z82:List UInt8)≤Et z106)∧(A4 o5.c1))∧Lf (.v (vT z82)) (.v (vT z82)) (Kc o5.c1) (Kc o5.c1))))))))))) (In (Au c 3) fun o1=>((Bq c 3 o1)∧Bc o1.p (In (Aa o1.c1 4) fun o2=>(let z102:=D0 f o2;(Ap o1.c1 4 o2)∧z102.Has [(0,.v (vP 0)),(6,.v (vP 1)),(9,.v (vI 2)),(10,.v (vT [])),(11,.v (vI o2.x)),(12,.v (vI 0))] [.cells (Ct o2.c1),.cells (Fg f)]∧∀q1,z102.inv q1→(let z100:=((q1.body.length:Nat):Int);let z101:=((q1.i:Nat):Int);Bc (decide (z101<o2.x)) (In (Ec q1.c f.kind) fun o3=>((Jg q1.c f.kind o3)∧(((q1.body.length+o3.t.length:Nat):Int)≤Bi)∧(wI (z101+1))∧z102.Nxt q1 [(0,.v (vP 0)),(6,.v (vP 1)),(9,.v (vI 2)),(10,.v (vT (q1.body++o3.t))),(11,.v (vI o2.x)),(12,.v (vI (z101+1)))] [.cells (Ct o3.c1),.cells (Fg f)])) (In (Au q1.c 30) fun o3=>((Bq q1.c 30 o3)∧Bc o3.p (In (Aa o3.c1 8) fun o4=>(let z93:=Db f.nJ o4.x;(Ap o3.c1 8 o4)∧In (Au o4.c1 20) fun o5=>((Bq o4.c1 20 o5)∧Bc o5.p (In (Aa o5.c1 5) fun o6=>(let z89:=z100+o6.x-2;let z90:=z100+o6.x;(Ap o5.c1 5 o6)∧(wI z90)∧((.v (vI (IntKind.i64.wrap (z90-2))):S)= .v (vI z89))∧(Fp 222 [vI f.nJ,vI o4.x] [] (.v (.c (.int .u64 z93))) [])∧In (Ah o6.c1 z93) fun o7=>((Ay o6.c1 z93 o7)∧(Fp 84 [vI 0,vI z89] [] (.v (vI (max 0 z89))) [])∧(wU (max 0 z89))∧In (Ah o7.c1 (max 0 z89)) fun o8=>(let z87:=(o7.t++o8.t)++q1.body;(Ay o7.c1 (max 0 z89) o8)∧(((o7.t.length+o8.t.length:Nat):Int)≤Bi)∧(((List.length (o7.t++o8.t)+q1.body.length:Nat):Int)≤Bi)∧((List.length (z87:List UInt8)≤Et z106)∧(A4 o8.c1))∧Lf (.v (vT z87)) (.v (vT z87)) (Kc o8.c1) (Kc o8.c1))))) ((Fp 222 [vI f.nJ,vI o4.x] [] (.v (.c (.int .u64 z93))) [])∧In (Ah o5.c1 z93) fun o6=>((Ay o5.c1 z93 o6)∧(Fp 84 [vI 0,vI z100] [] (.v (vI (max 0 z100))) [])∧(wU (max 0 z100))∧In (Ah o6.c1 (max 0 z100)) fun o7=>(let z91:=(o6.t++o7.t)++q1.body;(Ay o6.c1 (max 0 z100) o7)∧(((o6.t.length+o7.t.length:Nat):Int)≤Bi)∧(((List.length (o6.t++o7.t)+q1.body.length:Nat):Int)≤Bi)∧((List.length (z91:List UInt8)≤Et z106)∧(A4 o7.c1))∧Lf (.v (vT z91)) (.v (vT z91)) (Kc o7.c1) (Kc o7.c1))))))) (In (Au o3.c1 20) fun o4=>((Bq o3.c1 20 o4)∧Bc o4.p (In (Aa o4.c1 5) fun o5=>(let z96:=z100+o5.x-2;let z97:=z100+o5.x;(Ap o4.c1 5 o5)∧(wI z97)∧((.v (vI (IntKind.i64.wrap (z97-2))):S)= .v (vI z96))∧(Fp 222 z112 [] z109 [])∧In (Ah o5.c1 z108) fun o6=>((Ay o5.c1 z108 o6)∧(Fp 84 [vI 0,vI z96] [] (.v (vI (max 0 z96))) [])∧(wU (max 0 z96))∧In (Ah o6.c1 (max 0 z96)) fun o7=>(let z94:=(o6.t++o7.t)++q1.body;(Ay o6.c1 (max 0 z96) o7)∧(((o6.t.length+o7.t.length:Nat):Int)≤Bi)∧(((List.length (o6.t++o7.t)+q1.body.length:Nat):Int)≤Bi)∧((List.length (z94:List UInt8)≤Et z106)∧(A4 o7.c1))∧Lf (.v (vT z94)) (.v (vT z94)) (Kc o7.c1) (Kc o7.c1))))) ((Fp 222 z112 [] z109 [])∧In (Ah o4.c1 z108) fun o5=>((Ay o4.c1 z108 o5)∧(Fp 84 [vI 0,vI z100] [] (.v (vI (max 0 z100))) [])∧(wU (max 0 z100))∧In (Ah o5.c1 (max 0 z100)) fun o6=>(let z98:=(o5.t++o6.t)++q1.body;(Ay o5.c1 (max 0 z100) o6)∧(((o5.t.length+o6.t.length:Nat):Int)≤Bi)∧(((List.length (o5.t++o6.t)+q1.body.length:Nat):Int)≤Bi)∧((List.length (z98:List UInt8)≤Et z106)∧(A4 o6.c1))∧Lf (.v (vT z98)) (.v (vT z98)) (Kc o6.c1) (Kc o6.c1))))))))))) (In (Ah o1.c1 z103) fun o2=>(In (Ec o2.c1 f.kind) fun o3=>((Fp 222 z107 [] z105 [])∧(Ay o1.c1 z103 o2)∧(Jg o2.c1 f.kind o3)∧(((o2.t.length+o3.t.length:Nat):Int)≤Bi)∧((List.length ((o2.t++o3.t):List UInt8)≤Et z106)∧(A4 o3.c1))∧Lf (.v (vT (o2.t++o3.t))) (.v (vT (o2.t++o3.t))) (Kc o3.c1) (Kc o3.c1))))))) (In (Ah c z103) fun o1=>(In (Ec o1.c1 f.kind) fun o2=>((Fp 222 z107 [] z105 [])∧(Ay c z103 o1)∧(Jg o1.c1 f.kind o2)∧(((o1.t.length+o2.t.length:Nat):Int)≤Bi)∧((List.length ((o1.t++o2.t):List UInt8)≤Et z106)∧(A4 o2.c1))∧Lf (.v (vT (o1.t++o2.t))) (.v (vT (o1.t++o2.t))) (Kc o2.c1) (Kc o2.c1))))))))) Q4 ?_
 refine⟨(Pp _),dsp (fun h1 p1=>?_) fun h1 p1=>?_⟩
 refine dsp (fun h2 p2=>?_) fun h2 p2=>?_
 have hvn:=Ahx dJ p2
 have hvk:=Xr (Int.toNat (dJ-1))
 refine⟨(Ad Q2 Q2),(hB c p f.mK (dJ-1) Q0 Q2 Q2 Q2 Q2),fun o1 ho_o1=>?_⟩
 obtain ⟨⟨hp_o1_0,hp_o1_1⟩,hf_o1⟩:=ho_o1
 refine⟨hf_o1,(Cf o1.c1 30 Q0),fun o2 ho_o2=>?_⟩
 obtain ⟨hp_o2,hf_o2⟩:=ho_o2
 refine⟨hf_o2,fun h3=>?_,fun h3=>?_⟩
 refine⟨(Az o2.c1 8 Q0),fun o3 ho_o3=>?_⟩
 obtain ⟨⟨hp_o3_0,hp_o3_1,hp_o3_2,hp_o3_3⟩,hf_o3⟩:=ho_o3
 refine⟨hf_o3,(Cf o3.c1 20 Q0),fun o4 ho_o4=>?_⟩
 obtain ⟨hp_o4,hf_o4⟩:=ho_o4
 refine⟨hf_o4,fun h4=>?_,fun h4=>?_⟩
 refine⟨(Az o4.c1 5 Q0),fun o5 ho_o5=>?_⟩
 obtain ⟨⟨hp_o5_0,hp_o5_1,hp_o5_2,hp_o5_3⟩,hf_o5⟩:=ho_o5
 refine⟨hf_o5,(Ad Q2 Q2),(Ad Q2 Q2),(C5 _ _),(Bg o5.c1 (Db f.nJ o3.x) Q0 (⟨(Br _ _).1,Int.le_trans (Br _ _).2 Q27⟩)),fun o6 ho_o6=>?_⟩
 obtain ⟨⟨hp_o6_0,hp_o6_1⟩,hf_o6⟩:=ho_o6
 refine⟨hf_o6,(H8 _ _),(Bu Q2 Q2),(Bg o6.c1 (max 0 (((o1.t.length:Nat):Int)+o5.x-2)) Q0 Q2),fun o7 ho_o7=>?_⟩
 obtain ⟨⟨hp_o7_0,hp_o7_1⟩,hf_o7⟩:=ho_o7
 exact⟨hf_o7,Q3,Q3,⟨Q26,Q0⟩,rfl,rfl⟩
 refine⟨(C5 _ _),(Bg o4.c1 (Db f.nJ o3.x) Q0 (⟨(Br _ _).1,Int.le_trans (Br _ _).2 Q27⟩)),fun o5 ho_o5=>?_⟩
 obtain ⟨⟨hp_o5_0,hp_o5_1⟩,hf_o5⟩:=ho_o5
 refine⟨hf_o5,(H8 _ _),(Bu Q2 Q2),(Bg o5.c1 (max 0 ((o1.t.length:Nat):Int)) Q0 Q2),fun o6 ho_o6=>?_⟩
 obtain ⟨⟨hp_o6_0,hp_o6_1⟩,hf_o6⟩:=ho_o6
 exact⟨hf_o6,Q3,Q3,⟨Q26,Q0⟩,rfl,rfl⟩
 refine⟨(Cf o2.c1 20 Q0),fun o3 ho_o3=>?_⟩
 obtain ⟨hp_o3,hf_o3⟩:=ho_o3
 refine⟨hf_o3,fun h4=>?_,fun h4=>?_⟩
 refine⟨(Az o3.c1 5 Q0),fun o4 ho_o4=>?_⟩
 obtain ⟨⟨hp_o4_0,hp_o4_1,hp_o4_2,hp_o4_3⟩,hf_o4⟩:=ho_o4
 refine⟨hf_o4,(Ad Q2 Q2),(Ad Q2 Q2),(C5 _ _),(Bg o4.c1 (Db f.nJ (Be f.kind)) Q0 (⟨(Br _ _).1,Int.le_trans (Br _ _).2 Q27⟩)),fun o5 ho_o5=>?_⟩
 obtain ⟨⟨hp_o5_0,hp_o5_1⟩,hf_o5⟩:=ho_o5
 refine⟨hf_o5,(H8 _ _),(Bu Q2 Q2),(Bg o5.c1 (max 0 (((o1.t.length:Nat):Int)+o4.x-2)) Q0 Q2),fun o6 ho_o6=>?_⟩
 obtain ⟨⟨hp_o6_0,hp_o6_1⟩,hf_o6⟩:=ho_o6
 exact⟨hf_o6,Q3,Q3,⟨Q26,Q0⟩,rfl,rfl⟩
 refine⟨(C5 _ _),(Bg o3.c1 (Db f.nJ (Be f.kind)) Q0 (⟨(Br _ _).1,Int.le_trans (Br _ _).2 Q27⟩)),fun o4 ho_o4=>?_⟩
 obtain ⟨⟨hp_o4_0,hp_o4_1⟩,hf_o4⟩:=ho_o4
 refine⟨hf_o4,(H8 _ _),(Bu Q2 Q2),(Bg o4.c1 (max 0 ((o1.t.length:Nat):Int)) Q0 Q2),fun o5 ho_o5=>?_⟩
 obtain ⟨⟨hp_o5_0,hp_o5_1⟩,hf_o5⟩:=ho_o5
 exact⟨hf_o5,Q3,Q3,⟨Q26,Q0⟩,rfl,rfl⟩
 refine⟨(Cf c 30 Q0),fun o1 ho_o1=>?_⟩
 obtain ⟨hp_o1,hf_o1⟩:=ho_o1
 refine⟨hf_o1,fun h3=>?_,fun h3=>?_⟩
 refine⟨(Az o1.c1 8 Q0),fun o2 ho_o2=>?_⟩
 obtain ⟨⟨hp_o2_0,hp_o2_1,hp_o2_2,hp_o2_3⟩,hf_o2⟩:=ho_o2
 refine⟨hf_o2,(Cf o2.c1 20 Q0),fun o3 ho_o3=>?_⟩
 obtain ⟨hp_o3,hf_o3⟩:=ho_o3
 refine⟨hf_o3,fun h4=>?_,fun h4=>?_⟩
 refine⟨(Az o3.c1 5 Q0),fun o4 ho_o4=>?_⟩
 obtain ⟨⟨hp_o4_0,hp_o4_1,hp_o4_2,hp_o4_3⟩,hf_o4⟩:=ho_o4
 refine⟨hf_o4,(Ad Q6 Q6),(Ad Q6 Q6),(C5 _ _),(Bg o4.c1 (Db f.nJ o2.x) Q0 (⟨(Br _ _).1,Int.le_trans (Br _ _).2 Q27⟩)),fun o5 ho_o5=>?_⟩
 obtain ⟨⟨hp_o5_0,hp_o5_1⟩,hf_o5⟩:=ho_o5
 refine⟨hf_o5,(H8 _ _),(Bu Q6 Q6),(Bg o5.c1 (max 0 (((List.length ([]:List UInt8):Nat):Int)+o4.x-2)) Q0 Q6),fun o6 ho_o6=>?_⟩
 obtain ⟨⟨hp_o6_0,hp_o6_1⟩,hf_o6⟩:=ho_o6
 exact⟨hf_o6,Q3,Q3,⟨Q38,Q0⟩,rfl,rfl⟩
 refine⟨(C5 _ _),(Bg o3.c1 (Db f.nJ o2.x) Q0 (⟨(Br _ _).1,Int.le_trans (Br _ _).2 Q27⟩)),fun o4 ho_o4=>?_⟩
 obtain ⟨⟨hp_o4_0,hp_o4_1⟩,hf_o4⟩:=ho_o4
 refine⟨hf_o4,(H8 _ _),(Bu Q6 Q6),(Bg o4.c1 (max 0 ((List.length ([]:List UInt8):Nat):Int)) Q0 Q6),fun o5 ho_o5=>?_⟩
 obtain ⟨⟨hp_o5_0,hp_o5_1⟩,hf_o5⟩:=ho_o5
 exact⟨hf_o5,Q3,Q3,⟨Q38,Q0⟩,rfl,rfl⟩
 refine⟨(Cf o1.c1 20 Q0),fun o2 ho_o2=>?_⟩
 obtain ⟨hp_o2,hf_o2⟩:=ho_o2
 refine⟨hf_o2,fun h4=>?_,fun h4=>?_⟩
 refine⟨(Az o2.c1 5 Q0),fun o3 ho_o3=>?_⟩
 obtain ⟨⟨hp_o3_0,hp_o3_1,hp_o3_2,hp_o3_3⟩,hf_o3⟩:=ho_o3
 refine⟨hf_o3,(Ad Q6 Q6),(Ad Q6 Q6),(C5 _ _),(Bg o3.c1 (Db f.nJ (Be f.kind)) Q0 (⟨(Br _ _).1,Int.le_trans (Br _ _).2 Q27⟩)),fun o4 ho_o4=>?_⟩
 obtain ⟨⟨hp_o4_0,hp_o4_1⟩,hf_o4⟩:=ho_o4
 refine⟨hf_o4,(H8 _ _),(Bu Q6 Q6),(Bg o4.c1 (max 0 (((List.length ([]:List UInt8):Nat):Int)+o3.x-2)) Q0 Q6),fun o5 ho_o5=>?_⟩
 obtain ⟨⟨hp_o5_0,hp_o5_1⟩,hf_o5⟩:=ho_o5
 exact⟨hf_o5,Q3,Q3,⟨Q38,Q0⟩,rfl,rfl⟩
 refine⟨(C5 _ _),(Bg o2.c1 (Db f.nJ (Be f.kind)) Q0 (⟨(Br _ _).1,Int.le_trans (Br _ _).2 Q27⟩)),fun o3 ho_o3=>?_⟩
 obtain ⟨⟨hp_o3_0,hp_o3_1⟩,hf_o3⟩:=ho_o3
 refine⟨hf_o3,(H8 _ _),(Bu Q6 Q6),(Bg o3.c1 (max 0 ((List.length ([]:List UInt8):Nat):Int)) Q0 Q6),fun o4 ho_o4=>?_⟩
 obtain ⟨⟨hp_o4_0,hp_o4_1⟩,hf_o4⟩:=ho_o4
 exact⟨hf_o4,Q3,Q3,⟨Q38,Q0⟩,rfl,rfl⟩
 refine dsp (fun h2 p2=>?_) fun h2 p2=>?_
 refine⟨(Az c 3 Q0),fun o1 ho_o1=>?_⟩
 obtain ⟨⟨hp_o1_0,hp_o1_1,hp_o1_2,hp_o1_3⟩,hf_o1⟩:=ho_o1
 refine⟨hf_o1,(Agj o1.c1 o1.x Q0 Q2),fun o2 ho_o2=>?_⟩
 obtain ⟨⟨hp_o2_0,hp_o2_1⟩,hf_o2⟩:=ho_o2
 refine⟨hf_o2,(Cf o2.c1 8 Q0),fun o3 ho_o3=>?_⟩
 obtain ⟨hp_o3,hf_o3⟩:=ho_o3
 refine⟨hf_o3,fun h3=>?_,fun h3=>?_⟩
 refine⟨(Aot o3.c1 Q0),fun o4 ho_o4=>?_⟩
 obtain ⟨⟨hp_o4_0,hp_o4_1⟩,hf_o4⟩:=ho_o4
 refine⟨hf_o4,(Cf o4.c1 30 Q0),fun o5 ho_o5=>?_⟩
 obtain ⟨hp_o5,hf_o5⟩:=ho_o5
 refine⟨hf_o5,fun h4=>?_,fun h4=>?_⟩
 refine⟨(Az o5.c1 8 Q0),fun o6 ho_o6=>?_⟩
 obtain ⟨⟨hp_o6_0,hp_o6_1,hp_o6_2,hp_o6_3⟩,hf_o6⟩:=ho_o6
 refine⟨hf_o6,(Cf o6.c1 20 Q0),fun o7 ho_o7=>?_⟩
 obtain ⟨hp_o7,hf_o7⟩:=ho_o7
 refine⟨hf_o7,fun h5=>?_,fun h5=>?_⟩
 refine⟨(Az o7.c1 5 Q0),fun o8 ho_o8=>?_⟩
 obtain ⟨⟨hp_o8_0,hp_o8_1,hp_o8_2,hp_o8_3⟩,hf_o8⟩:=ho_o8
 refine⟨hf_o8,(Ad Q2 Q2),(Ad Q2 Q2),(C5 _ _),(Bg o8.c1 (Db f.nJ o6.x) Q0 (⟨(Br _ _).1,Int.le_trans (Br _ _).2 Q27⟩)),fun o9 ho_o9=>?_⟩
 obtain ⟨⟨hp_o9_0,hp_o9_1⟩,hf_o9⟩:=ho_o9
 refine⟨hf_o9,(H8 _ _),(Bu Q2 Q2),(Bg o9.c1 (max 0 (((o4.t.length:Nat):Int)+o8.x-2)) Q0 Q2),fun o10 ho_o10=>?_⟩
 obtain ⟨⟨hp_o10_0,hp_o10_1⟩,hf_o10⟩:=ho_o10
 exact⟨hf_o10,Q3,Q3,⟨Q26,Q0⟩,rfl,rfl⟩
 refine⟨(C5 _ _),(Bg o7.c1 (Db f.nJ o6.x) Q0 (⟨(Br _ _).1,Int.le_trans (Br _ _).2 Q27⟩)),fun o8 ho_o8=>?_⟩
 obtain ⟨⟨hp_o8_0,hp_o8_1⟩,hf_o8⟩:=ho_o8
 refine⟨hf_o8,(H8 _ _),(Bu Q2 Q2),(Bg o8.c1 (max 0 ((o4.t.length:Nat):Int)) Q0 Q2),fun o9 ho_o9=>?_⟩
 obtain ⟨⟨hp_o9_0,hp_o9_1⟩,hf_o9⟩:=ho_o9
 exact⟨hf_o9,Q3,Q3,⟨Q26,Q0⟩,rfl,rfl⟩
 refine⟨(Cf o5.c1 20 Q0),fun o6 ho_o6=>?_⟩
 obtain ⟨hp_o6,hf_o6⟩:=ho_o6
 refine⟨hf_o6,fun h5=>?_,fun h5=>?_⟩
 refine⟨(Az o6.c1 5 Q0),fun o7 ho_o7=>?_⟩
 obtain ⟨⟨hp_o7_0,hp_o7_1,hp_o7_2,hp_o7_3⟩,hf_o7⟩:=ho_o7
 refine⟨hf_o7,(Ad Q2 Q2),(Ad Q2 Q2),(C5 _ _),(Bg o7.c1 (Db f.nJ (Be f.kind)) Q0 (⟨(Br _ _).1,Int.le_trans (Br _ _).2 Q27⟩)),fun o8 ho_o8=>?_⟩
 obtain ⟨⟨hp_o8_0,hp_o8_1⟩,hf_o8⟩:=ho_o8
 refine⟨hf_o8,(H8 _ _),(Bu Q2 Q2),(Bg o8.c1 (max 0 (((o4.t.length:Nat):Int)+o7.x-2)) Q0 Q2),fun o9 ho_o9=>?_⟩
 obtain ⟨⟨hp_o9_0,hp_o9_1⟩,hf_o9⟩:=ho_o9
 exact⟨hf_o9,Q3,Q3,⟨Q26,Q0⟩,rfl,rfl⟩
 refine⟨(C5 _ _),(Bg o6.c1 (Db f.nJ (Be f.kind)) Q0 (⟨(Br _ _).1,Int.le_trans (Br _ _).2 Q27⟩)),fun o7 ho_o7=>?_⟩
 obtain ⟨⟨hp_o7_0,hp_o7_1⟩,hf_o7⟩:=ho_o7
 refine⟨hf_o7,(H8 _ _),(Bu Q2 Q2),(Bg o7.c1 (max 0 ((o4.t.length:Nat):Int)) Q0 Q2),fun o8 ho_o8=>?_⟩
 obtain ⟨⟨hp_o8_0,hp_o8_1⟩,hf_o8⟩:=ho_o8
 exact⟨hf_o8,Q3,Q3,⟨Q26,Q0⟩,rfl,rfl⟩
 refine⟨(Cf o3.c1 30 Q0),fun o4 ho_o4=>?_⟩
 obtain ⟨hp_o4,hf_o4⟩:=ho_o4
 refine⟨hf_o4,fun h4=>?_,fun h4=>?_⟩
 refine⟨(Az o4.c1 8 Q0),fun o5 ho_o5=>?_⟩
 obtain ⟨⟨hp_o5_0,hp_o5_1,hp_o5_2,hp_o5_3⟩,hf_o5⟩:=ho_o5
 refine⟨hf_o5,(Cf o5.c1 20 Q0),fun o6 ho_o6=>?_⟩
 obtain ⟨hp_o6,hf_o6⟩:=ho_o6
 refine⟨hf_o6,fun h5=>?_,fun h5=>?_⟩
 refine⟨(Az o6.c1 5 Q0),fun o7 ho_o7=>?_⟩
 obtain ⟨⟨hp_o7_0,hp_o7_1,hp_o7_2,hp_o7_3⟩,hf_o7⟩:=ho_o7
 refine⟨hf_o7,(Ad Q2 Q2),(Ad Q2 Q2),(C5 _ _),(Bg o7.c1 (Db f.nJ o5.x) Q0 (⟨(Br _ _).1,Int.le_trans (Br _ _).2 Q27⟩)),fun o8 ho_o8=>?_⟩
 obtain ⟨⟨hp_o8_0,hp_o8_1⟩,hf_o8⟩:=ho_o8
 refine⟨hf_o8,(H8 _ _),(Bu Q2 Q2),(Bg o8.c1 (max 0 (((o2.t.length:Nat):Int)+o7.x-2)) Q0 Q2),fun o9 ho_o9=>?_⟩
 obtain ⟨⟨hp_o9_0,hp_o9_1⟩,hf_o9⟩:=ho_o9
 exact⟨hf_o9,Q3,Q3,⟨Q26,Q0⟩,rfl,rfl⟩
 refine⟨(C5 _ _),(Bg o6.c1 (Db f.nJ o5.x) Q0 (⟨(Br _ _).1,Int.le_trans (Br _ _).2 Q27⟩)),fun o7 ho_o7=>?_⟩
 obtain ⟨⟨hp_o7_0,hp_o7_1⟩,hf_o7⟩:=ho_o7
 refine⟨hf_o7,(H8 _ _),(Bu Q2 Q2),(Bg o7.c1 (max 0 ((o2.t.length:Nat):Int)) Q0 Q2),fun o8 ho_o8=>?_⟩
 obtain ⟨⟨hp_o8_0,hp_o8_1⟩,hf_o8⟩:=ho_o8
 exact⟨hf_o8,Q3,Q3,⟨Q26,Q0⟩,rfl,rfl⟩
 refine⟨(Cf o4.c1 20 Q0),fun o5 ho_o5=>?_⟩
 obtain ⟨hp_o5,hf_o5⟩:=ho_o5
 refine⟨hf_o5,fun h5=>?_,fun h5=>?_⟩
 refine⟨(Az o5.c1 5 Q0),fun o6 ho_o6=>?_⟩
 obtain ⟨⟨hp_o6_0,hp_o6_1,hp_o6_2,hp_o6_3⟩,hf_o6⟩:=ho_o6
 refine⟨hf_o6,(Ad Q2 Q2),(Ad Q2 Q2),(C5 _ _),(Bg o6.c1 (Db f.nJ (Be f.kind)) Q0 (⟨(Br _ _).1,Int.le_trans (Br _ _).2 Q27⟩)),fun o7 ho_o7=>?_⟩
 obtain ⟨⟨hp_o7_0,hp_o7_1⟩,hf_o7⟩:=ho_o7
 refine⟨hf_o7,(H8 _ _),(Bu Q2 Q2),(Bg o7.c1 (max 0 (((o2.t.length:Nat):Int)+o6.x-2)) Q0 Q2),fun o8 ho_o8=>?_⟩
 obtain ⟨⟨hp_o8_0,hp_o8_1⟩,hf_o8⟩:=ho_o8
 exact⟨hf_o8,Q3,Q3,⟨Q26,Q0⟩,rfl,rfl⟩
 refine⟨(C5 _ _),(Bg o5.c1 (Db f.nJ (Be f.kind)) Q0 (⟨(Br _ _).1,Int.le_trans (Br _ _).2 Q27⟩)),fun o6 ho_o6=>?_⟩
 obtain ⟨⟨hp_o6_0,hp_o6_1⟩,hf_o6⟩:=ho_o6
 refine⟨hf_o6,(H8 _ _),(Bu Q2 Q2),(Bg o6.c1 (max 0 ((o2.t.length:Nat):Int)) Q0 Q2),fun o7 ho_o7=>?_⟩
 obtain ⟨⟨hp_o7_0,hp_o7_1⟩,hf_o7⟩:=ho_o7
 exact⟨hf_o7,Q3,Q3,⟨Q26,Q0⟩,rfl,rfl⟩
 refine dsp (fun h3 p3=>?_) fun h3 p3=>?_
 refine⟨(Az c 6 Q0),fun o1 ho_o1=>?_⟩
 obtain ⟨⟨hp_o1_0,hp_o1_1,hp_o1_2,hp_o1_3⟩,hf_o1⟩:=ho_o1
 refine⟨hf_o1,(Fi o1.c1 o1.x Q0 Q2),fun o2 ho_o2=>?_⟩
 obtain ⟨⟨hp_o2_0,hp_o2_1⟩,hf_o2⟩:=ho_o2
 refine⟨hf_o2,(Cf o2.c1 30 Q0),fun o3 ho_o3=>?_⟩
 obtain ⟨hp_o3,hf_o3⟩:=ho_o3
 refine⟨hf_o3,fun h4=>?_,fun h4=>?_⟩
 refine⟨(Az o3.c1 8 Q0),fun o4 ho_o4=>?_⟩
 obtain ⟨⟨hp_o4_0,hp_o4_1,hp_o4_2,hp_o4_3⟩,hf_o4⟩:=ho_o4
 refine⟨hf_o4,(Cf o4.c1 20 Q0),fun o5 ho_o5=>?_⟩
 obtain ⟨hp_o5,hf_o5⟩:=ho_o5
 refine⟨hf_o5,fun h5=>?_,fun h5=>?_⟩
 refine⟨(Az o5.c1 5 Q0),fun o6 ho_o6=>?_⟩
 obtain ⟨⟨hp_o6_0,hp_o6_1,hp_o6_2,hp_o6_3⟩,hf_o6⟩:=ho_o6
 refine⟨hf_o6,(Ad Q17 Q17),(Ad Q17 Q17),(C5 _ _),(Bg o6.c1 (Db f.nJ o4.x) Q0 (⟨(Br _ _).1,Int.le_trans (Br _ _).2 Q27⟩)),fun o7 ho_o7=>?_⟩
 obtain ⟨⟨hp_o7_0,hp_o7_1⟩,hf_o7⟩:=ho_o7
 refine⟨hf_o7,(H8 _ _),(Bu Q17 Q17),(Bg o7.c1 (max 0 (((List.length (List.map Bj o2.l):Nat):Int)+o6.x-2)) Q0 Q17),fun o8 ho_o8=>?_⟩
 obtain ⟨⟨hp_o8_0,hp_o8_1⟩,hf_o8⟩:=ho_o8
 exact⟨hf_o8,Q3,Q3,⟨Q73,Q0⟩,rfl,rfl⟩
 refine⟨(C5 _ _),(Bg o5.c1 (Db f.nJ o4.x) Q0 (⟨(Br _ _).1,Int.le_trans (Br _ _).2 Q27⟩)),fun o6 ho_o6=>?_⟩
 obtain ⟨⟨hp_o6_0,hp_o6_1⟩,hf_o6⟩:=ho_o6
 refine⟨hf_o6,(H8 _ _),(Bu Q17 Q17),(Bg o6.c1 (max 0 ((List.length (List.map Bj o2.l):Nat):Int)) Q0 Q17),fun o7 ho_o7=>?_⟩
 obtain ⟨⟨hp_o7_0,hp_o7_1⟩,hf_o7⟩:=ho_o7
 exact⟨hf_o7,Q3,Q3,⟨Q73,Q0⟩,rfl,rfl⟩
 refine⟨(Cf o3.c1 20 Q0),fun o4 ho_o4=>?_⟩
 obtain ⟨hp_o4,hf_o4⟩:=ho_o4
 refine⟨hf_o4,fun h5=>?_,fun h5=>?_⟩
 refine⟨(Az o4.c1 5 Q0),fun o5 ho_o5=>?_⟩
 obtain ⟨⟨hp_o5_0,hp_o5_1,hp_o5_2,hp_o5_3⟩,hf_o5⟩:=ho_o5
 refine⟨hf_o5,(Ad Q17 Q17),(Ad Q17 Q17),(C5 _ _),(Bg o5.c1 (Db f.nJ (Be f.kind)) Q0 (⟨(Br _ _).1,Int.le_trans (Br _ _).2 Q27⟩)),fun o6 ho_o6=>?_⟩
 obtain ⟨⟨hp_o6_0,hp_o6_1⟩,hf_o6⟩:=ho_o6
 refine⟨hf_o6,(H8 _ _),(Bu Q17 Q17),(Bg o6.c1 (max 0 (((List.length (List.map Bj o2.l):Nat):Int)+o5.x-2)) Q0 Q17),fun o7 ho_o7=>?_⟩
 obtain ⟨⟨hp_o7_0,hp_o7_1⟩,hf_o7⟩:=ho_o7
 exact⟨hf_o7,Q3,Q3,⟨Q73,Q0⟩,rfl,rfl⟩
 refine⟨(C5 _ _),(Bg o4.c1 (Db f.nJ (Be f.kind)) Q0 (⟨(Br _ _).1,Int.le_trans (Br _ _).2 Q27⟩)),fun o5 ho_o5=>?_⟩
 obtain ⟨⟨hp_o5_0,hp_o5_1⟩,hf_o5⟩:=ho_o5
 refine⟨hf_o5,(H8 _ _),(Bu Q17 Q17),(Bg o5.c1 (max 0 ((List.length (List.map Bj o2.l):Nat):Int)) Q0 Q17),fun o6 ho_o6=>?_⟩
 obtain ⟨⟨hp_o6_0,hp_o6_1⟩,hf_o6⟩:=ho_o6
 exact⟨hf_o6,Q3,Q3,⟨Q73,Q0⟩,rfl,rfl⟩
 refine⟨(Yn f),fun h4=>?_,fun h4=>?_⟩
 refine⟨fun h5=>?_,fun h5=>?_⟩
 refine⟨(Az c 4 Q0),fun o1 ho_o1=>?_⟩
 obtain ⟨⟨hp_o1_0,hp_o1_1,hp_o1_2,hp_o1_3⟩,hf_o1⟩:=ho_o1
 refine⟨hf_o1,Bp (j:=(⟨o1.c1,[],0⟩:Fy)) Q8 rfl (by dsimp only[D0];exact⟨by assumption,by omega,by simp⟩),fun (q1:Fy) hq_q1=>?_⟩
 have hi_q1:A4 q1.c∧q1.i≤3∧q1.body.length≤10*q1.i:=hq_q1
 obtain ⟨v1,v2,v3⟩:=hi_q1
 refine dsp (fun h6 p6=>?_) fun h6 p6=>?_
 refine⟨(Qg q1.c f.kind Q0),fun o2 ho_o2=>?_⟩
 obtain ⟨⟨hp_o2_0,hp_o2_1⟩,hf_o2⟩:=ho_o2
 exact⟨hf_o2,Q3,(Ad Q2 Q2),A6 (j:=(⟨o2.c1,q1.body++o2.t,q1.i+1⟩:Fy)) Q8 rfl (by dsimp only[D0];exact⟨by assumption,by omega,by simp;omega⟩) (by dsimp only[D0];omega)⟩
 refine⟨(Cf q1.c 30 Q0),fun o2 ho_o2=>?_⟩
 obtain ⟨hp_o2,hf_o2⟩:=ho_o2
 refine⟨hf_o2,fun h7=>?_,fun h7=>?_⟩
 refine⟨(Az o2.c1 8 Q0),fun o3 ho_o3=>?_⟩
 obtain ⟨⟨hp_o3_0,hp_o3_1,hp_o3_2,hp_o3_3⟩,hf_o3⟩:=ho_o3
 refine⟨hf_o3,(Cf o3.c1 20 Q0),fun o4 ho_o4=>?_⟩
 obtain ⟨hp_o4,hf_o4⟩:=ho_o4
 refine⟨hf_o4,fun h8=>?_,fun h8=>?_⟩
 refine⟨(Az o4.c1 5 Q0),fun o5 ho_o5=>?_⟩
 obtain ⟨⟨hp_o5_0,hp_o5_1,hp_o5_2,hp_o5_3⟩,hf_o5⟩:=ho_o5
 refine⟨hf_o5,(Ad Q2 Q2),(Ad Q2 Q2),(C5 _ _),(Bg o5.c1 (Db f.nJ o3.x) Q0 (⟨(Br _ _).1,Int.le_trans (Br _ _).2 Q27⟩)),fun o6 ho_o6=>?_⟩
 obtain ⟨⟨hp_o6_0,hp_o6_1⟩,hf_o6⟩:=ho_o6
 refine⟨hf_o6,(H8 _ _),(Bu Q2 Q2),(Bg o6.c1 (max 0 (((q1.body.length:Nat):Int)+o5.x-2)) Q0 Q2),fun o7 ho_o7=>?_⟩
 obtain ⟨⟨hp_o7_0,hp_o7_1⟩,hf_o7⟩:=ho_o7
 exact⟨hf_o7,Q3,Q3,⟨Q26,Q0⟩,rfl,rfl⟩
 refine⟨(C5 _ _),(Bg o4.c1 (Db f.nJ o3.x) Q0 (⟨(Br _ _).1,Int.le_trans (Br _ _).2 Q27⟩)),fun o5 ho_o5=>?_⟩
 obtain ⟨⟨hp_o5_0,hp_o5_1⟩,hf_o5⟩:=ho_o5
 refine⟨hf_o5,(H8 _ _),(Bu Q2 Q2),(Bg o5.c1 (max 0 ((q1.body.length:Nat):Int)) Q0 Q2),fun o6 ho_o6=>?_⟩
 obtain ⟨⟨hp_o6_0,hp_o6_1⟩,hf_o6⟩:=ho_o6
 exact⟨hf_o6,Q3,Q3,⟨Q26,Q0⟩,rfl,rfl⟩
 refine⟨(Cf o2.c1 20 Q0),fun o3 ho_o3=>?_⟩
 obtain ⟨hp_o3,hf_o3⟩:=ho_o3
 refine⟨hf_o3,fun h8=>?_,fun h8=>?_⟩
 refine⟨(Az o3.c1 5 Q0),fun o4 ho_o4=>?_⟩
 obtain ⟨⟨hp_o4_0,hp_o4_1,hp_o4_2,hp_o4_3⟩,hf_o4⟩:=ho_o4
 refine⟨hf_o4,(Ad Q2 Q2),(Ad Q2 Q2),(C5 _ _),(Bg o4.c1 (Db f.nJ 2) Q0 (⟨(Br _ _).1,Int.le_trans (Br _ _).2 Q27⟩)),fun o5 ho_o5=>?_⟩
 obtain ⟨⟨hp_o5_0,hp_o5_1⟩,hf_o5⟩:=ho_o5
 refine⟨hf_o5,(H8 _ _),(Bu Q2 Q2),(Bg o5.c1 (max 0 (((q1.body.length:Nat):Int)+o4.x-2)) Q0 Q2),fun o6 ho_o6=>?_⟩
 obtain ⟨⟨hp_o6_0,hp_o6_1⟩,hf_o6⟩:=ho_o6
 exact⟨hf_o6,Q3,Q3,⟨Q26,Q0⟩,rfl,rfl⟩
 refine⟨(C5 _ _),(Bg o3.c1 (Db f.nJ 2) Q0 (⟨(Br _ _).1,Int.le_trans (Br _ _).2 Q27⟩)),fun o4 ho_o4=>?_⟩
 obtain ⟨⟨hp_o4_0,hp_o4_1⟩,hf_o4⟩:=ho_o4
 refine⟨hf_o4,(H8 _ _),(Bu Q2 Q2),(Bg o4.c1 (max 0 ((q1.body.length:Nat):Int)) Q0 Q2),fun o5 ho_o5=>?_⟩
 obtain ⟨⟨hp_o5_0,hp_o5_1⟩,hf_o5⟩:=ho_o5
 exact⟨hf_o5,Q3,Q3,⟨Q26,Q0⟩,rfl,rfl⟩
 refine⟨(Cf c 3 Q0),fun o1 ho_o1=>?_⟩
 obtain ⟨hp_o1,hf_o1⟩:=ho_o1
 refine⟨hf_o1,fun h6=>?_,fun h6=>?_⟩
 refine⟨(Az o1.c1 4 Q0),fun o2 ho_o2=>?_⟩
 obtain ⟨⟨hp_o2_0,hp_o2_1,hp_o2_2,hp_o2_3⟩,hf_o2⟩:=ho_o2
 refine⟨hf_o2,Bp (j:=(⟨o2.c1,[],0⟩:Fy)) Q8 rfl (by dsimp only[D0];exact⟨by assumption,by omega,by simp⟩),fun (q1:Fy) hq_q1=>?_⟩
 have hi_q1:A4 q1.c∧q1.i≤3∧q1.body.length≤10*q1.i:=hq_q1
 obtain ⟨v1,v2,v3⟩:=hi_q1
 refine dsp (fun h7 p7=>?_) fun h7 p7=>?_
 refine⟨(Qg q1.c f.kind Q0),fun o3 ho_o3=>?_⟩
 obtain ⟨⟨hp_o3_0,hp_o3_1⟩,hf_o3⟩:=ho_o3
 exact⟨hf_o3,Q3,(Ad Q2 Q2),A6 (j:=(⟨o3.c1,q1.body++o3.t,q1.i+1⟩:Fy)) Q8 rfl (by dsimp only[D0];exact⟨by assumption,by omega,by simp;omega⟩) (by dsimp only[D0];omega)⟩
 refine⟨(Cf q1.c 30 Q0),fun o3 ho_o3=>?_⟩
 obtain ⟨hp_o3,hf_o3⟩:=ho_o3
 refine⟨hf_o3,fun h8=>?_,fun h8=>?_⟩
 refine⟨(Az o3.c1 8 Q0),fun o4 ho_o4=>?_⟩
 obtain ⟨⟨hp_o4_0,hp_o4_1,hp_o4_2,hp_o4_3⟩,hf_o4⟩:=ho_o4
 refine⟨hf_o4,(Cf o4.c1 20 Q0),fun o5 ho_o5=>?_⟩
 obtain ⟨hp_o5,hf_o5⟩:=ho_o5
 refine⟨hf_o5,fun h9=>?_,fun h9=>?_⟩
 refine⟨(Az o5.c1 5 Q0),fun o6 ho_o6=>?_⟩
 obtain ⟨⟨hp_o6_0,hp_o6_1,hp_o6_2,hp_o6_3⟩,hf_o6⟩:=ho_o6
 refine⟨hf_o6,(Ad Q2 Q2),(Ad Q2 Q2),(C5 _ _),(Bg o6.c1 (Db f.nJ o4.x) Q0 (⟨(Br _ _).1,Int.le_trans (Br _ _).2 Q27⟩)),fun o7 ho_o7=>?_⟩
 obtain ⟨⟨hp_o7_0,hp_o7_1⟩,hf_o7⟩:=ho_o7
 refine⟨hf_o7,(H8 _ _),(Bu Q2 Q2),(Bg o7.c1 (max 0 (((q1.body.length:Nat):Int)+o6.x-2)) Q0 Q2),fun o8 ho_o8=>?_⟩
 obtain ⟨⟨hp_o8_0,hp_o8_1⟩,hf_o8⟩:=ho_o8
 exact⟨hf_o8,Q3,Q3,⟨Q26,Q0⟩,rfl,rfl⟩
 refine⟨(C5 _ _),(Bg o5.c1 (Db f.nJ o4.x) Q0 (⟨(Br _ _).1,Int.le_trans (Br _ _).2 Q27⟩)),fun o6 ho_o6=>?_⟩
 obtain ⟨⟨hp_o6_0,hp_o6_1⟩,hf_o6⟩:=ho_o6
 refine⟨hf_o6,(H8 _ _),(Bu Q2 Q2),(Bg o6.c1 (max 0 ((q1.body.length:Nat):Int)) Q0 Q2),fun o7 ho_o7=>?_⟩
 obtain ⟨⟨hp_o7_0,hp_o7_1⟩,hf_o7⟩:=ho_o7
 exact⟨hf_o7,Q3,Q3,⟨Q26,Q0⟩,rfl,rfl⟩
 refine⟨(Cf o3.c1 20 Q0),fun o4 ho_o4=>?_⟩
 obtain ⟨hp_o4,hf_o4⟩:=ho_o4
 refine⟨hf_o4,fun h9=>?_,fun h9=>?_⟩
 refine⟨(Az o4.c1 5 Q0),fun o5 ho_o5=>?_⟩
 obtain ⟨⟨hp_o5_0,hp_o5_1,hp_o5_2,hp_o5_3⟩,hf_o5⟩:=ho_o5
 refine⟨hf_o5,(Ad Q2 Q2),(Ad Q2 Q2),(C5 _ _),(Bg o5.c1 (Db f.nJ 2) Q0 (⟨(Br _ _).1,Int.le_trans (Br _ _).2 Q27⟩)),fun o6 ho_o6=>?_⟩
 obtain ⟨⟨hp_o6_0,hp_o6_1⟩,hf_o6⟩:=ho_o6
 refine⟨hf_o6,(H8 _ _),(Bu Q2 Q2),(Bg o6.c1 (max 0 (((q1.body.length:Nat):Int)+o5.x-2)) Q0 Q2),fun o7 ho_o7=>?_⟩
 obtain ⟨⟨hp_o7_0,hp_o7_1⟩,hf_o7⟩:=ho_o7
 exact⟨hf_o7,Q3,Q3,⟨Q26,Q0⟩,rfl,rfl⟩
 refine⟨(C5 _ _),(Bg o4.c1 (Db f.nJ 2) Q0 (⟨(Br _ _).1,Int.le_trans (Br _ _).2 Q27⟩)),fun o5 ho_o5=>?_⟩
 obtain ⟨⟨hp_o5_0,hp_o5_1⟩,hf_o5⟩:=ho_o5
 refine⟨hf_o5,(H8 _ _),(Bu Q2 Q2),(Bg o5.c1 (max 0 ((q1.body.length:Nat):Int)) Q0 Q2),fun o6 ho_o6=>?_⟩
 obtain ⟨⟨hp_o6_0,hp_o6_1⟩,hf_o6⟩:=ho_o6
 exact⟨hf_o6,Q3,Q3,⟨Q26,Q0⟩,rfl,rfl⟩
 refine⟨(Bg o1.c1 (Db f.nJ (Be f.kind)) Q0 (⟨(Br _ _).1,Int.le_trans (Br _ _).2 Q27⟩)),fun o2 ho_o2=>?_⟩
 obtain ⟨⟨hp_o2_0,hp_o2_1⟩,hf_o2⟩:=ho_o2
 refine⟨(Qg o2.c1 f.kind Q0),fun o3 ho_o3=>?_⟩
 obtain ⟨⟨hp_o3_0,hp_o3_1⟩,hf_o3⟩:=ho_o3
 exact⟨(C5 _ _),hf_o2,hf_o3,Q3,⟨Q26,Q0⟩,rfl,rfl⟩
 refine⟨(Bg c (Db f.nJ (Be f.kind)) Q0 (⟨(Br _ _).1,Int.le_trans (Br _ _).2 Q27⟩)),fun o1 ho_o1=>?_⟩
 obtain ⟨⟨hp_o1_0,hp_o1_1⟩,hf_o1⟩:=ho_o1
 refine⟨(Qg o1.c1 f.kind Q0),fun o2 ho_o2=>?_⟩
 obtain ⟨⟨hp_o2_0,hp_o2_1⟩,hf_o2⟩:=ho_o2
 exact⟨(C5 _ _),hf_o1,hf_o2,Q3,⟨Q26,Q0⟩,rfl,rfl⟩
structure Xs where
 t:List UInt8
 c1:Cur
def Aou (c:Cur) (p:Pln) (shape:Int) (dJ:Int) (o:Xs):Prop:=Fun Tryz.prog 149 [vP 0,.agg (G0 p),vI shape,vI dJ] [.cells (Ct c)] (.v (vT o.t)) [.cells (Ct o.c1)]
def Aov (c:Cur) (p:Pln) (shape:Int) (dJ:Int) (o:Xs):Prop:=((List.length (o.t:List UInt8)≤4*Et (Int.toNat dJ))∧(A4 o.c1))∧Aou c p shape dJ o
structure Ny where
 c:Cur
 s:List UInt8
 i:Nat
def Lz (p:Pln) (dJ:Int) (o1:Dp) (x1:Shp):Fam:=⟨Ny,fun q1=>[(0,.v (vP 0)),(3,.v (vI dJ)),(5,.v (vP 1)),(9,.v (vT q1.s)),(10,.v (vI o1.x)),(11,.v (.c (.seq .fld x1.fJ))),(12,.v (vI ((q1.i:Nat):Int)))],fun q1=>[.cells (Ct q1.c),.cells (G0 p)],fun q1=>A4 q1.c∧q1.i≤4∧List.length q1.s≤q1.i*Et (Int.toNat dJ),fun q1=>5-q1.i⟩
theorem Ast (K:Nat) (hB:Atv K) (c:Cur) (p:Pln) (shape:Int) (dJ:Int) (hp1:A4 c) (hp2:PlnG p) (hp3:(0:Int)≤dJ∧dJ≤4) (hp4:dJ≤((K:Nat):Int)) (hp5:(0:Int)≤shape∧shape<((List.length (p).sQ:Nat):Int)): ∃o:Xs,Aov c p shape dJ o:=by
 have hN:Bh=274877906944:=rfl
 have hvb:=Xr (Int.toNat dJ)
 have hvm:=Nx hp3.1 hp3.2
 refine Cj Tryz.func149 Q4 Q4 (w:=(.intro (Aa c 5) fun o1=> .sZ [.call [0] (.v (vI o1.x)) (Kc o1.c1)] (.intro (Sx (p.sQ[Int.toNat shape]?)) fun x1=> .sZ [.el .shp x1,.at 0,.keep [0,3,5,9,10,11,12],.sel [0,1]] (.loop (Lz p dJ o1 x1) fun q1=>let z1:S:= .v (vI (((q1.i:Nat):Int)+1));.br (.br (.intro (G9 q1.c) fun o2=> .sZ [.call [0] (.v (vT o2.t)) (Kc o2.c1),.as 26 z1,.at 0,.keep [0,3,5,9,10,11,12],.sel [0,1]] (.next)) (.intro (Au q1.c 8) fun o2=> .sZ [.call [0] (.v (vB o2.p)) (Kc o2.c1)] (.br (.intro (G9 o2.c1) fun o3=> .sZ [.call [0] (.v (vT o3.t)) (Kc o3.c1),.as 26 z1,.at 0,.keep [0,3,5,9,10,11,12],.sel [0,1]] (.next)) (.intro (Aa o2.c1 ((x1.fJ.length:Nat):Int)) fun o3=> .intro (Sx (x1.fJ[Int.toNat o3.x]?)) fun x2=> .intro (Rz o3.c1 p x2 dJ) fun o4=> .sZ [.ord [(0,true),(1,true),(2,true),(3,true),(4,true),(5,true),(6,true),(10,true),(7,false),(8,false),(9,false),(11,false),(12,true),(13,true)] [0],.call [0] (.v (vI o3.x)) (Kc o3.c1),.el .fld x2,.call [0] (.v (vT o4.t)) (Kc o4.c1),.as 26 z1,.at 0,.keep [0,3,5,9,10,11,12],.sel [0,1]] (.next))))) (.lJ (⟨q1.s,q1.c⟩:Xs) [0]))),In (Aa c 5) fun o1=>((Ap c 5 o1)∧El (p.sQ[Int.toNat shape]?) fun x1=>(let z3:=Lz p dJ o1 x1;let z4:=((x1.fJ.length:Nat):Int);(p.sQ[Int.toNat shape]? =some x1)∧((0:Int)≤shape)∧z3.Has [(0,.v (vP 0)),(3,.v (vI dJ)),(5,.v (vP 1)),(9,.v (vT [])),(10,.v (vI o1.x)),(11,.v (.c (.seq .fld x1.fJ))),(12,.v (vI 0))] [.cells (Ct o1.c1),.cells (G0 p)]∧∀q1,z3.inv q1→(let z2:=((q1.i:Nat):Int)+1;Bc (decide (((q1.i:Nat):Int)<o1.x)) (Bc (decide (z4=0)) (In (G9 q1.c) fun o2=>((M9 q1.c o2)∧(((q1.s.length+o2.t.length:Nat):Int)≤Bi)∧(wI z2)∧z3.Nxt q1 [(0,.v (vP 0)),(3,.v (vI dJ)),(5,.v (vP 1)),(9,.v (vT (q1.s++o2.t))),(10,.v (vI o1.x)),(11,.v (.c (.seq .fld x1.fJ))),(12,.v (vI z2))] [.cells (Ct o2.c1),.cells (G0 p)])) (In (Au q1.c 8) fun o2=>((Bq q1.c 8 o2)∧Bc o2.p (In (G9 o2.c1) fun o3=>((M9 o2.c1 o3)∧(((q1.s.length+o3.t.length:Nat):Int)≤Bi)∧(wI z2)∧z3.Nxt q1 [(0,.v (vP 0)),(3,.v (vI dJ)),(5,.v (vP 1)),(9,.v (vT (q1.s++o3.t))),(10,.v (vI o1.x)),(11,.v (.c (.seq .fld x1.fJ))),(12,.v (vI z2))] [.cells (Ct o3.c1),.cells (G0 p)])) (In (Aa o2.c1 z4) fun o3=>(El (x1.fJ[Int.toNat o3.x]?) fun x2=>(In (Rz o3.c1 p x2 dJ) fun o4=>((Ap o2.c1 z4 o3)∧(x1.fJ[Int.toNat o3.x]? =some x2)∧((0:Int)≤o3.x)∧(Wr o3.c1 p x2 dJ o4)∧(((q1.s.length+o4.t.length:Nat):Int)≤Bi)∧(wI z2)∧z3.Nxt q1 [(0,.v (vP 0)),(3,.v (vI dJ)),(5,.v (vP 1)),(9,.v (vT (q1.s++o4.t))),(10,.v (vI o1.x)),(11,.v (.c (.seq .fld x1.fJ))),(12,.v (vI z2))] [.cells (Ct o4.c1),.cells (G0 p)]))))))) (((List.length (q1.s:List UInt8)≤4*Et (Int.toNat dJ))∧(A4 q1.c))∧Lf (.v (vT q1.s)) (.v (vT q1.s)) (Kc q1.c) (Kc q1.c))))))) Q4 ?_
 refine⟨(Az c 5 Q0),fun o1 ho_o1=>?_⟩
 obtain ⟨⟨hp_o1_0,hp_o1_1,hp_o1_2,hp_o1_3⟩,hf_o1⟩:=ho_o1
 refine⟨hf_o1,(Bo (l:=p.sQ) (i:=Int.toNat shape) Q2),fun x1 hx1=>?_⟩
 have hsg:=(hp2.sch.2 _ (List.mem_of_getElem? hx1)).2
 have hsl:=(hp2.sch.2 _ (List.mem_of_getElem? hx1)).1
 refine⟨hx1,Q2,Bp (j:=(⟨o1.c1,[],0⟩:Ny)) Q8 rfl (by dsimp only[Lz];exact⟨by assumption,by omega,by simp⟩),fun (q1:Ny) hq_q1=>?_⟩
 have hi_q1:A4 q1.c∧q1.i≤4∧q1.s.length≤q1.i*Et (Int.toNat dJ):=hq_q1
 obtain ⟨v1,v2,v3⟩:=hi_q1
 have hsm:=Nat.succ_mul q1.i (Et (Int.toNat dJ))
 have hs4:=Nat.mul_le_mul_right (Et (Int.toNat dJ)) v2
 refine dsp (fun h1 p1=>?_) fun h1 p1=>?_
 refine dsp (fun h2 p2=>?_) fun h2 p2=>?_
 refine⟨(Wq q1.c Q0),fun o2 ho_o2=>?_⟩
 obtain ⟨⟨hp_o2_0,hp_o2_1⟩,hf_o2⟩:=ho_o2
 exact⟨hf_o2,Q3,(Ad Q2 Q2),A6 (j:=(⟨o2.c1,q1.s++o2.t,q1.i+1⟩:Ny)) Q8 rfl Q60 (by dsimp only[Lz];omega)⟩
 refine⟨(Cf q1.c 8 Q0),fun o2 ho_o2=>?_⟩
 obtain ⟨hp_o2,hf_o2⟩:=ho_o2
 refine⟨hf_o2,fun h3=>?_,fun h3=>?_⟩
 refine⟨(Wq o2.c1 Q0),fun o3 ho_o3=>?_⟩
 obtain ⟨⟨hp_o3_0,hp_o3_1⟩,hf_o3⟩:=ho_o3
 exact⟨hf_o3,Q3,(Ad Q2 Q2),A6 (j:=(⟨o3.c1,q1.s++o3.t,q1.i+1⟩:Ny)) Q8 rfl Q60 (by dsimp only[Lz];omega)⟩
 refine⟨(Az o2.c1 ((x1.fJ.length:Nat):Int) Q0),fun o3 ho_o3=>?_⟩
 obtain ⟨⟨hp_o3_0,hp_o3_1,hp_o3_2,hp_o3_3⟩,hf_o3⟩:=ho_o3
 refine⟨(Bo (l:=x1.fJ) (i:=Int.toNat o3.x) Q2),fun x2 hx2=>?_⟩
 have hfg:=hsg _ (List.mem_of_getElem? hx2)
 refine⟨(Ahy K hB o3.c1 p x2 dJ Q0 Q2 Q2 Q2 Q2 Q2),fun o4 ho_o4=>?_⟩
 obtain ⟨⟨hp_o4_0,hp_o4_1⟩,hf_o4⟩:=ho_o4
 exact⟨hf_o3,hx2,Q2,hf_o4,Q3,(Ad Q2 Q2),A6 (j:=(⟨o4.c1,q1.s++o4.t,q1.i+1⟩:Ny)) Q8 rfl Q60 (by dsimp only[Lz];omega)⟩
 exact⟨⟨Q2,Q0⟩,rfl,rfl⟩
theorem Auf: ∀K,Atv K:=by
 intro K
 induction K with
 |zero=>intro c p shape dJ hp1 hp2 hp3 hp4 hp5;omega
 |succ K ih=>
  intro c p shape dJ hp1 hp2 hp3 hp4 hp5
  obtain ⟨o,h⟩:=Ast K ih c p shape dJ hp1 hp2 hp3 (by omega) hp5
  exact⟨⟨o.t,o.c1⟩,h⟩
structure R3 where
 t:List UInt8
 c1:Cur
def Ws (c:Cur) (p:Pln) (shape:Int) (dJ:Int) (o:R3):Prop:=Fun Tryz.prog 149 [vP 0,.agg (G0 p),vI shape,vI dJ] [.cells (Ct c)] (.v (vT o.t)) [.cells (Ct o.c1)]
def R4 (c:Cur) (p:Pln) (shape:Int) (dJ:Int) (o:R3):Prop:=((List.length (o.t:List UInt8)≤4*Et (Int.toNat dJ))∧(List.length (o.t:List UInt8)≤58000)∧(A4 o.c1))∧Ws c p shape dJ o
theorem Ahz (c:Cur) (p:Pln) (shape:Int) (dJ:Int) (hp1:A4 c) (hp2:PlnG p) (hp3:(0:Int)≤dJ∧dJ≤4) (hp4:(0:Int)≤dJ) (hp5:(0:Int)≤shape∧shape<((List.length (p).sQ:Nat):Int)): ∃o:R3,R4 c p shape dJ o:=by
 obtain ⟨o,h⟩:=Auf (Int.toNat dJ+1) c p shape dJ hp1 hp2 hp3 (by omega) hp5
 exact⟨⟨o.t,o.c1⟩,⟨h.1.1,by have h1:=Nx hp3.1 hp3.2;have h2:=h.1.1;dsimp only;omega,h.1.2⟩,h.2⟩
end Go.Proofs.YtphecbmdhbphgaaGreat.Ax
