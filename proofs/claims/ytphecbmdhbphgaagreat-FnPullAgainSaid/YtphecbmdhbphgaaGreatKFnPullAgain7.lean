/- Draws of numbers, bytes, scripts. Drawn descriptions: checks. What drawn descriptions compile to. Drawn descriptions. Drawn plans. Drawn numbers. -/
import Derived.Test.YtphecbmdhbphgaaGreatKFnPullAgain2
import Derived.Test.YtphecbmdhbphgaaGreatKFnPullAgain1
set_option linter.unusedSimpArgs false
set_option linter.unusedVariables false
namespace Go.Proofs.YtphecbmdhbphgaaGreat.Ax
open Go.RowKit
structure Cur where
 b:List Int
 i:Int
 h:Int
def Au (c:Cur):Prop:=0≤c.i∧c.b.length≤1048576
def B2 (x:Cur):List C:=[.seq .u8 x.b,.int .i64 x.i,.int .i64 x.h]
abbrev Kc (c:Cur):List Blk:=[.cells (B2 c)]
structure Mx where
 x:Int
 c1:Cur
def G2 (c:Cur) (o:Mx):Prop:=Fun Tryz.prog 154 [vP 0] [.cells (B2 c)] (.v (vI o.x)) [.cells (B2 o.c1)]
def Eh (c:Cur) (o:Mx):Prop:=(((0:Int)≤o.x∧o.x≤255)∧(Au o.c1))∧G2 c o
theorem N4 (c:Cur) (hp1:Au c): ∃o:Mx,Eh c o:=by
 have hN:A8=274877906944:=rfl
 have hcb:=hp1.1
 have hcl:=hp1.2
 refine B4 Tryz.func154 Q4 Q4 (w:=let z5:=(IntKind.i64.wrap (c.h*6364136223846793005))+1442695040888963407;let z3:=IntKind.i64.wrap z5;let z8:=(.v (vI (Int.fdiv z3 (2 ^ 33))):S)= .v (vI (z3 / 8589934592));let z10:List Blk:=[.cells [.seq .u8 c.b,.int .i64 (c.i+1),.int .i64 z3]];let z11:List Blk:=[.cells [.seq .u8 c.b,.int .i64 c.i,.int .i64 z3]];let z12:=z3 / 35184372088832;let z4:=IntKind.i64.wrap (((BitVec.ofInt 64 (z3 / 8589934592) ^^^ BitVec.ofInt 64 z12).toNat:Nat));let z7:=(.v (vI (Int.fdiv z3 (2 ^ 45))):S)= .v (vI z12);let z9:=z4 % 256;let z6:=(.v (vI (IntKind.i64.wrap (((BitVec.ofInt 64 z4&&&BitVec.ofInt 64 255).toNat:Nat)))):S)= .v (vI z9);(.seg [.ord (os 13 []) [],.as 17 (.v (vI (z3 / 8589934592))),.as 22 (.v (vI z12)),.as 24 (.v (vI z9)),.ord (os 10 []) []] (.br (.intro (Sx (c.b[Int.toNat c.i]?)) fun x1=>let z1:=IntKind.i64.wrap (z9+(IntKind.i64.wrap (x1)));.seg [.ord (os 15 []) [],.el .u8 x1,.as 48 (.v (vI (z1 % 256))),.as 54 (.v (vI (c.i+1)))] (.leaf (⟨z1 % 256,(⟨c.b,c.i+1,IntKind.i64.wrap z5⟩:Cur)⟩:Mx) [0])) (.leaf (⟨z4 % 256,(⟨c.b,c.i,IntKind.i64.wrap z5⟩:Cur)⟩:Mx) [0])),((0:Int)≤33)∧((0:Int)≤33)∧z8∧z8∧((0:Int)≤45)∧((0:Int)≤45)∧z7∧z7∧z6∧z6∧Bc (decide (c.i<((List.length c.b:Nat):Int))) (El (c.b[Int.toNat c.i]?) fun x1=>(let z2:=IntKind.i64.wrap (z9+(IntKind.i64.wrap (x1)));(c.b[Int.toNat c.i]? =some x1)∧((0:Int)≤c.i)∧(c.b[Int.toNat c.i]? =some x1)∧((0:Int)≤c.i)∧((.v (vI (IntKind.i64.wrap (((BitVec.ofInt 64 z2&&&BitVec.ofInt 64 255).toNat:Nat)))):S)= .v (vI (z2 % 256)))∧((.v (vI (IntKind.i64.wrap (((BitVec.ofInt 64 z2&&&BitVec.ofInt 64 255).toNat:Nat)))):S)= .v (vI (z2 % 256)))∧(wI (c.i+1))∧(((0:Int)≤(z2 % 256)∧(z2 % 256)≤255)∧(Au (⟨c.b,c.i+1,IntKind.i64.wrap z5⟩:Cur)))∧Lf (.v (vI (z2 % 256))) (.v (vI (z2 % 256))) z10 z10)) ((((0:Int)≤z9∧z9≤255)∧(Au (⟨c.b,c.i,IntKind.i64.wrap z5⟩:Cur)))∧Lf (.v (vI z9)) (.v (vI z9)) z11 z11))) Q4 ?_
 refine⟨Q30,Q30,(Yb (k:=33) Q30 Q30),(Yb (k:=33) Q30 Q30),Q30,Q30,(Yb (k:=45) Q30 Q30),(Yb (k:=45) Q30 Q30),(Gq (k:=8) Q30 Q30),(Gq (k:=8) Q30 Q30),dsp (fun h1 p1=>?_) fun h1 p1=>?_⟩
 refine⟨(Bm (l:=c.b) (i:=Int.toNat c.i) Q2),fun x1 hx1=>?_⟩
 exact⟨hx1,Q2,hx1,Q2,(Gq (k:=8) Q30 Q30),(Gq (k:=8) Q30 Q30),(Ad Q2 Q2),⟨Q2,Q0⟩,rfl,rfl⟩
 exact⟨⟨Q2,Q0⟩,rfl,rfl⟩
structure Cm where
 x:Int
 c1:Cur
def Ai (c:Cur) (n:Int) (o:Cm):Prop:=Fun Tryz.prog 85 [vP 0,vI n] [.cells (B2 c)] (.v (vI o.x)) [.cells (B2 o.c1)]
def Aa (c:Cur) (n:Int) (o:Cm):Prop:=(((0:Int)≤o.x)∧((1:Int)≤n→o.x<n)∧(n≤(0:Int)→o.x=(0:Int))∧(Au o.c1))∧Ai c n o
theorem Ao (c:Cur) (n:Int) (hp1:Au c): ∃o:Cm,Aa c n o:=by
 have hN:A8=274877906944:=rfl
 refine B4 Tryz.func85 Q4 Q4 (w:=let z8:=Eh c;(.br (.leaf (⟨0,c⟩:Cm) [0]) (.br (.intro z8 fun o1=> .seg [.call [0] (.v (vI o1.x)) (Kc o1.c1)] (.leaf (⟨Int.tmod o1.x n,o1.c1⟩:Cm) [0])) (.intro z8 fun o1=> .seg [.call [0] (.v (vI o1.x)) (Kc o1.c1)] (.intro (Eh o1.c1) fun o2=>let z6:=(o1.x*16777216)+(o2.x*65536);.seg [.call [0] (.v (vI o2.x)) (Kc o2.c1)] (.intro (Eh o2.c1) fun o3=>let z4:=z6+(o3.x*256);.seg [.call [0] (.v (vI o3.x)) (Kc o3.c1)] (.intro (Eh o3.c1) fun o4=>let z2:=z4+o4.x;.seg [.call [0] (.v (vI o4.x)) (Kc o4.c1),.as 26 (.v (vI (o1.x*16777216))),.as 28 (.v (vI (o2.x*65536))),.as 29 (.v (vI z6)),.as 31 (.v (vI (o3.x*256))),.as 32 (.v (vI z4)),.as 34 (.v (vI z2))] (.leaf (⟨Int.tmod z2 n,o4.c1⟩:Cm) [0])))))),Bc (decide (n≤0)) ((((0:Int)≤0)∧((1:Int)≤n→0<n)∧(n≤(0:Int)→0=(0:Int))∧(Au c))∧Lf (.v (vI 0)) (.v (vI 0)) (Kc c) (Kc c)) (Bc (decide (n≤256)) (In z8 fun o1=>(let z1:=Int.tmod o1.x n;(G2 c o1)∧(n≠0)∧(((0:Int)≤z1)∧((1:Int)≤n→z1<n)∧(n≤(0:Int)→z1=(0:Int))∧(Au o1.c1))∧Lf (.v (vI z1)) (.v (vI z1)) (Kc o1.c1) (Kc o1.c1))) (In z8 fun o1=>((G2 c o1)∧In (Eh o1.c1) fun o2=>(let z7:=(o1.x*16777216)+(o2.x*65536);(G2 o1.c1 o2)∧In (Eh o2.c1) fun o3=>(let z5:=z7+(o3.x*256);(G2 o2.c1 o3)∧In (Eh o3.c1) fun o4=>(let z3:=z5+o4.x;(G2 o3.c1 o4)∧(wI (o1.x*16777216))∧(wI (o2.x*65536))∧(wI z7)∧(wI (o3.x*256))∧(wI z5)∧(wI z3)∧(n≠0)∧(((0:Int)≤(Int.tmod z3 n))∧((1:Int)≤n→(Int.tmod z3 n)<n)∧(n≤(0:Int)→(Int.tmod z3 n)=(0:Int))∧(Au o4.c1))∧Lf (.v (vI (Int.tmod z3 n))) (.v (vI (Int.tmod z3 n))) (Kc o4.c1) (Kc o4.c1))))))))) Q4 ?_
 refine dsp (fun h1 p1=>?_) fun h1 p1=>?_
 exact⟨⟨Q2,Q2,Q2,Q0⟩,rfl,rfl⟩
 refine dsp (fun h2 p2=>?_) fun h2 p2=>?_
 refine⟨(N4 c Q0),fun o1 ho_o1=>?_⟩
 obtain ⟨⟨hp_o1_0,hp_o1_1⟩,hf_o1⟩:=ho_o1
 exact⟨hf_o1,Q2,⟨(by have:=Wf o1.x n;omega),(by have:=Wf o1.x n;omega),(by have:=Wf o1.x n;omega),Q0⟩,rfl,rfl⟩
 refine⟨(N4 c Q0),fun o1 ho_o1=>?_⟩
 obtain ⟨⟨hp_o1_0,hp_o1_1⟩,hf_o1⟩:=ho_o1
 refine⟨hf_o1,(N4 o1.c1 Q0),fun o2 ho_o2=>?_⟩
 obtain ⟨⟨hp_o2_0,hp_o2_1⟩,hf_o2⟩:=ho_o2
 refine⟨hf_o2,(N4 o2.c1 Q0),fun o3 ho_o3=>?_⟩
 obtain ⟨⟨hp_o3_0,hp_o3_1⟩,hf_o3⟩:=ho_o3
 refine⟨hf_o3,(N4 o3.c1 Q0),fun o4 ho_o4=>?_⟩
 obtain ⟨⟨hp_o4_0,hp_o4_1⟩,hf_o4⟩:=ho_o4
 exact⟨hf_o4,(Ad Q2 Q2),(Ad Q2 Q2),(Ad Q2 Q2),(Ad Q2 Q2),(Ad Q2 Q2),(Ad Q2 Q2),Q2,⟨Q74,Q74,Q74,Q0⟩,rfl,rfl⟩
structure Rc where
 p:Bool
 c1:Cur
def Ba (c:Cur) (n:Int) (o:Rc):Prop:=Fun Tryz.prog 81 [vP 0,vI n] [.cells (B2 c)] (.v (vB o.p)) [.cells (B2 o.c1)]
def Ap (c:Cur) (n:Int) (o:Rc):Prop:=((Au o.c1))∧Ba c n o
theorem B1 (c:Cur) (n:Int) (hp1:Au c): ∃o:Rc,Ap c n o:=by
 have hN:A8=274877906944:=rfl
 refine B4 Tryz.func81 Q4 Q4 (w:=(.intro (Aa c n) fun o1=> .seg [.call [0] (.v (vI o1.x)) (Kc o1.c1)] (.leaf (⟨decide (o1.x=0),o1.c1⟩:Rc) [0]),In (Aa c n) fun o1=>((Ai c n o1)∧((Au o1.c1))∧Lf (.v (vB (decide (o1.x=0)))) (.v (vB (decide (o1.x=0)))) (Kc o1.c1) (Kc o1.c1)))) Q4 ?_
 refine⟨(Ao c n Q0),fun o1 ho_o1=>?_⟩
 obtain ⟨⟨hp_o1_0,hp_o1_1,hp_o1_2,hp_o1_3⟩,hf_o1⟩:=ho_o1
 exact⟨hf_o1,Q0,rfl,rfl⟩
structure Kf where
 x:Int
 c1:Cur
def B5 (c:Cur) (l:List Int) (o:Kf):Prop:=Fun Tryz.prog 86 [vP 0,.c (.seq .int l)] [.cells (B2 c)] (.v (vI o.x)) [.cells (B2 o.c1)]
def A1 (c:Cur) (l:List Int) (o:Kf):Prop:=((o.x∈l)∧(Au o.c1))∧B5 c l o
theorem Cn (c:Cur) (l:List Int) (hp1:Au c) (hp2:1≤List.length l) (hp3:List.length l≤1000): ∃o:Kf,A1 c l o:=by
 have hN:A8=274877906944:=rfl
 refine B4 Tryz.func86 Q4 Q4 (w:=let z1:=((List.length l:Nat):Int);(.intro (Aa c z1) fun o1=> .seg [.call [0] (.v (vI o1.x)) (Kc o1.c1)] (.intro (Sx (l[Int.toNat o1.x]?)) fun x1=> .seg [.el .int x1] (.leaf (⟨x1,o1.c1⟩:Kf) [0])),In (Aa c z1) fun o1=>((Ai c z1 o1)∧El (l[Int.toNat o1.x]?) fun x1=>((l[Int.toNat o1.x]? =some x1)∧((0:Int)≤o1.x)∧((x1∈l)∧(Au o1.c1))∧Lf (.v (vI x1)) (.v (vI x1)) (Kc o1.c1) (Kc o1.c1))))) Q4 ?_
 refine⟨(Ao c ((List.length l:Nat):Int) Q0),fun o1 ho_o1=>?_⟩
 obtain ⟨⟨hp_o1_0,hp_o1_1,hp_o1_2,hp_o1_3⟩,hf_o1⟩:=ho_o1
 refine⟨hf_o1,(Bm (l:=l) (i:=Int.toNat o1.x) Q2),fun x1 hx1=>?_⟩
 exact⟨hx1,Q2,⟨(List.mem_of_getElem? hx1),Q0⟩,rfl,rfl⟩
structure H6 where
 x:Int
 c1:Cur
def Ea (c:Cur) (o:H6):Prop:=Fun Tryz.prog 177 [vP 0] [.cells (B2 c)] (.v (vI o.x)) [.cells (B2 o.c1)]
def Ca (c:Cur) (o:H6):Prop:=((Au o.c1))∧Ea c o
theorem Gf (c:Cur) (hp1:Au c): ∃o:H6,Ca c o:=by
 have hN:A8=274877906944:=rfl
 refine B4 Tryz.func177 Q4 Q4 (w:=let z1:= -9223372036854775808;(.intro (Aa c 3) fun o1=> .seg [.call [0] (.v (vI o1.x)) (Kc o1.c1)] (.br (.seg [.ty .int,.pubS 8] (.intro (A1 o1.c1 [0,1,(-1),9,10,127,128,999999999,1000000000,9223372036854775807,z1]) fun o2=> .seg [.call [0] (.v (vI o2.x)) (Kc o2.c1)] (.leaf (⟨o2.x,o2.c1⟩:H6) [0]))) (.br (.intro (Aa o1.c1 1000000) fun o2=> .seg [.call [0] (.v (vI o2.x)) (Kc o2.c1),.as 14 (.v (vI (o2.x-500000)))] (.leaf (⟨o2.x-500000,o2.c1⟩:H6) [0])) (.intro (Aa o1.c1 20) fun o2=> .seg [.call [0] (.v (vI o2.x)) (Kc o2.c1)] (.leaf (⟨o2.x,o2.c1⟩:H6) [0])))),In (Aa c 3) fun o1=>((Ai c 3 o1)∧Bc (decide (o1.x=0)) (In (A1 o1.c1 [0,1,(-1),9,10,127,128,999999999,1000000000,9223372036854775807,z1]) fun o2=>((B5 o1.c1 [0,1,(-1),9,10,127,128,999999999,1000000000,9223372036854775807,z1] o2)∧((Au o2.c1))∧Lf (.v (vI o2.x)) (.v (vI o2.x)) (Kc o2.c1) (Kc o2.c1))) (Bc (decide (o1.x=1)) (In (Aa o1.c1 1000000) fun o2=>((Ai o1.c1 1000000 o2)∧(wI (o2.x-500000))∧((Au o2.c1))∧Lf (.v (vI (o2.x-500000))) (.v (vI (o2.x-500000))) (Kc o2.c1) (Kc o2.c1))) (In (Aa o1.c1 20) fun o2=>((Ai o1.c1 20 o2)∧((Au o2.c1))∧Lf (.v (vI o2.x)) (.v (vI o2.x)) (Kc o2.c1) (Kc o2.c1))))))) Q4 ?_
 refine⟨(Ao c 3 Q0),fun o1 ho_o1=>?_⟩
 obtain ⟨⟨hp_o1_0,hp_o1_1,hp_o1_2,hp_o1_3⟩,hf_o1⟩:=ho_o1
 refine⟨hf_o1,dsp (fun h1 p1=>?_) fun h1 p1=>?_⟩
 refine⟨(Cn o1.c1 [0,1,(-1),9,10,127,128,999999999,1000000000,9223372036854775807,(-9223372036854775808)] Q0 Q5 Q5),fun o2 ho_o2=>?_⟩
 obtain ⟨⟨hp_o2_0,hp_o2_1⟩,hf_o2⟩:=ho_o2
 exact⟨hf_o2,Q0,rfl,rfl⟩
 refine dsp (fun h2 p2=>?_) fun h2 p2=>?_
 refine⟨(Ao o1.c1 1000000 Q0),fun o2 ho_o2=>?_⟩
 obtain ⟨⟨hp_o2_0,hp_o2_1,hp_o2_2,hp_o2_3⟩,hf_o2⟩:=ho_o2
 exact⟨hf_o2,(Ad Q2 Q2),Q0,rfl,rfl⟩
 refine⟨(Ao o1.c1 20 Q0),fun o2 ho_o2=>?_⟩
 obtain ⟨⟨hp_o2_0,hp_o2_1,hp_o2_2,hp_o2_3⟩,hf_o2⟩:=ho_o2
 exact⟨hf_o2,Q0,rfl,rfl⟩
structure Qf where
 c1:Cur
def Abg (b:List Int) (o:Qf):Prop:=Fun Tryz.prog 53 [.c (.seq .u8 b)] [] (.v (vP 0)) [.cells (B2 o.c1)]
def Xc (b:List Int) (o:Qf):Prop:=((Au o.c1))∧Abg b o
structure Re where
 h:Int
 i:Nat
def Rf (b:List Int):Fam:=⟨Re,fun q1=>[(0,.v (.c (.seq .u8 b))),(3,.v (vI q1.h)),(4,.v (vI ((q1.i:Nat):Int)))],fun _=>[],fun q1=>q1.i≤List.length b∧(0:Int)≤q1.h∧q1.h≤1073741823,fun q1=>List.length b-q1.i⟩
theorem Am4 (b:List Int) (hp1:List.length b≤1048576): ∃o:Qf,Xc b o:=by
 have hN:A8=274877906944:=rfl
 refine B4 Tryz.func53 Q4 Q4 (w:=let z5:=((List.length b:Nat):Int);let z6:=Rf b;(.seg [.as 7 (.v (vI (28433+z5))),.at 0,.keep [0,3,4],.sel []] (.loop z6 fun q1=> .br (.br (.seg [.as 19 (.v (vI (q1.h*131)))] (.intro (Sx (b[q1.i]?)) fun x1=> .seg [.el .u8 x1,.as 27 (.v (vI ((IntKind.i64.wrap ((IntKind.i64.wrap ((q1.h*131)+(IntKind.i64.wrap (x1))))+7)) % 1073741824))),.as 17 (.v (vI (((q1.i:Nat):Int)+1))),.at 0,.keep [0,3,4],.sel []] (.next))) (.leaf (⟨(⟨b,0,q1.h⟩:Cur)⟩:Qf) [0])) (.leaf (⟨(⟨b,0,q1.h⟩:Cur)⟩:Qf) [0])),(wI (28433+z5))∧z6.Has [(0,.v (.c (.seq .u8 b))),(3,.v (vI (28433+z5))),(4,.v (vI 0))] []∧∀q1,z6.inv q1→(let z3:=((q1.i:Nat):Int);let z4:List Blk:=[.cells [.seq .u8 b,.int .i64 0,.int .i64 q1.h]];let z2:=((Au (⟨b,0,q1.h⟩:Cur)))∧Lf (.v (vP 0)) (.v (vP 0)) z4 z4;Bc (decide (z3<z5)) (Bc (decide (z3<4000)) ((wI (q1.h*131))∧El (b[q1.i]?) fun x1=>(let z1:=IntKind.i64.wrap ((IntKind.i64.wrap ((q1.h*131)+(IntKind.i64.wrap (x1))))+7);(b[q1.i]? =some x1)∧((0:Int)≤z3)∧((.v (vI (IntKind.i64.wrap (((BitVec.ofInt 64 z1&&&BitVec.ofInt 64 1073741823).toNat:Nat)))):S)= .v (vI (z1 % 1073741824)))∧(wI (z3+1))∧z6.Nxt q1 [(0,.v (.c (.seq .u8 b))),(3,.v (vI (z1 % 1073741824))),(4,.v (vI (z3+1)))] [])) z2) z2))) Q4 ?_
 refine⟨(Ad Q2 Q2),Bj (j:=(⟨28433+((List.length b:Nat):Int),0⟩:Re)) Q9 rfl (by dsimp only[Rf];exact⟨by omega,by omega,by omega⟩),fun (q1:Re) hq_q1=>?_⟩
 have hi_q1:q1.i≤List.length b∧(0:Int)≤q1.h∧q1.h≤1073741823:=hq_q1
 obtain ⟨v1,v2,v3⟩:=hi_q1
 refine dsp (fun h1 p1=>?_) fun h1 p1=>?_
 refine dsp (fun h2 p2=>?_) fun h2 p2=>?_
 refine⟨(Ad Q2 Q2),(Bm (l:=b) (i:=q1.i) Q2),fun x1 hx1=>?_⟩
 exact⟨hx1,Q2,(Gq (k:=30) Q30 Q30),(Ad Q2 Q2),A5 (j:=(⟨(IntKind.i64.wrap ((IntKind.i64.wrap ((q1.h*131)+(IntKind.i64.wrap (x1))))+7)) % 1073741824,q1.i+1⟩:Re)) Q9 rfl (by dsimp only[Rf];exact⟨by omega,by omega,by omega⟩) (by dsimp only[Rf];omega)⟩
 exact⟨(⟨by dsimp only;omega,hp1⟩),rfl,rfl⟩
 exact⟨(⟨by dsimp only;omega,hp1⟩),rfl,rfl⟩
structure N5 where
 l:List Int
 c1:Cur
def C3 (c:Cur) (n:Int) (o:N5):Prop:=Fun Tryz.prog 193 [vP 0,vI n] [.cells (B2 c)] (.v (vO 1)) [.cells (B2 o.c1),.lst .u8 o.l]
def Bq (c:Cur) (n:Int) (o:N5):Prop:=((List.length o.l≤Int.toNat n)∧(Au o.c1))∧C3 c n o
structure L7 where
 c:Cur
 b:List Int
 i:Nat
def L8 (n:Int):Fam:=⟨L7,fun q1=>[(0,.v (vP 0)),(1,.v (vI n)),(5,.v (vO 1)),(6,.v (vI ((q1.i:Nat):Int)))],fun q1=>[.cells (B2 q1.c),.lst .u8 q1.b],fun q1=>Au q1.c∧List.length q1.b=q1.i∧(q1.i=0∨((q1.i:Nat):Int)≤n),fun q1=>Int.toNat n-q1.i⟩
theorem Es (c:Cur) (n:Int) (hp1:Au c) (hp2:n≤100000): ∃o:N5,Bq c n o:=by
 have hN:A8=274877906944:=rfl
 refine B4 Tryz.func193 Q4 Q4 (w:=let z2:=L8 n;(.seg [.ty .u8,.at 0,.keep [0,1,5,6],.sel [0,1]] (.loop z2 fun q1=> .br (.intro (Eh q1.c) fun o1=> .seg [.call [0] (.v (vI o1.x)) (Kc o1.c1),.as 16 (.v (.c (.int .u8 o1.x))),.ty .u8,.ty .u8,.as 12 (.v (vI (((q1.i:Nat):Int)+1))),.at 0,.keep [0,1,5,6],.sel [0,3]] (.next)) (.leaf (⟨q1.b,q1.c⟩:N5) [0,1])),z2.Has [(0,.v (vP 0)),(1,.v (vI n)),(5,.v (vO 1)),(6,.v (vI 0))] [.cells (B2 c),.lst .u8 ([]:List Int)]∧∀q1,z2.inv q1→(let z1:=((q1.i:Nat):Int);Bc (decide (z1<n)) (In (Eh q1.c) fun o1=>((G2 q1.c o1)∧((.v (.c (.int .u8 (IntKind.u8.wrap (o1.x)))):S)= .v (.c (.int .u8 o1.x)))∧(List.length q1.b+List.length [o1.x]≤A8)∧(wI (z1+1))∧z2.Nxt q1 [(0,.v (vP 0)),(1,.v (vI n)),(5,.v (vO 1)),(6,.v (vI (z1+1)))] [.cells (B2 o1.c1),.lst .u8 (q1.b++[o1.x])])) (((List.length q1.b≤Int.toNat n)∧(Au q1.c))∧Lf (.v (vO 1)) (.v (vO 1)) [.cells (B2 q1.c),.lst .u8 q1.b] [.cells (B2 q1.c),.lst .u8 q1.b])))) Q4 ?_
 refine⟨Bj (j:=(⟨c,([]:List Int),0⟩:L7)) Q9 rfl (by dsimp only[L8];exact⟨hp1,rfl,.inl rfl⟩),fun (q1:L7) hq_q1=>?_⟩
 have hi_q1:Au q1.c∧List.length q1.b=q1.i∧(q1.i=0∨((q1.i:Nat):Int)≤n):=hq_q1
 obtain ⟨v1,v2,v3⟩:=hi_q1
 refine dsp (fun h1 p1=>?_) fun h1 p1=>?_
 refine⟨(N4 q1.c Q0),fun o1 ho_o1=>?_⟩
 obtain ⟨⟨hp_o1_0,hp_o1_1⟩,hf_o1⟩:=ho_o1
 exact⟨hf_o1,(Mn Q2 Q2),Q5,(Ad Q2 Q2),A5 (j:=(⟨o1.c1,q1.b++[o1.x],q1.i+1⟩:L7)) Q9 rfl (by dsimp only[L8];exact⟨by assumption,by simp;omega,by omega⟩) (by dsimp only[L8];omega)⟩
 exact⟨⟨Q2,Q0⟩,rfl,rfl⟩
structure Kg where
 l:List Rd
 c1:Cur
def N6 (c:Cur) (o:Kg):Prop:=Fun Tryz.prog 141 [vP 0] [.cells (B2 c)] (.v (vO 1)) [.cells (B2 o.c1),.lst .rd o.l]
def Hi (c:Cur) (o:Kg):Prop:=((List.length o.l≤8)∧(Au o.c1))∧N6 c o
structure C0 where
 c:Cur
 out:List Rd
 i:Nat
def Gg (o1:Cm):Fam:=⟨C0,fun q1=>[(0,.v (vP 0)),(3,.v (vO 1)),(4,.v (vI o1.x)),(5,.v (vI ((q1.i:Nat):Int)))],fun q1=>[.cells (B2 q1.c),.lst .rd q1.out],fun q1=>Au q1.c∧List.length q1.out=q1.i∧q1.i≤8,fun q1=>8-q1.i⟩
theorem Xd (c:Cur) (hp1:Au c): ∃o:Kg,Hi c o:=by
 have hN:A8=274877906944:=rfl
 refine B4 Tryz.func141 Q4 Q4 (w:=(.seg [.ty .rd] (.intro (Aa c 8) fun o1=> .seg [.call [0] (.v (vI o1.x)) (Kc o1.c1),.at 0,.keep [0,3,4,5],.sel [0,1]] (.loop (Gg o1) fun q1=>let z1:S:= .v (vI (((q1.i:Nat):Int)+1));.br (.seg [.ty .int,.pubS 16] (.intro (A1 q1.c [0,1,1,2,3,5,9,16,30,(-1)]) fun o2=> .seg [.call [0] (.v (vI o2.x)) (Kc o2.c1)] (.intro (Ap o2.c1 6) fun o3=> .seg [.call [0] (.v (vB o3.p)) (Kc o3.c1)] (.br (.intro (Ap o3.c1 24) fun o4=> .seg [.call [0] (.v (vB o4.p)) (Kc o4.c1)] (.br (.intro (Aa o4.c1 3) fun o5=> .seg [.call [0] (.v (vI o5.x)) (Kc o5.c1),.as 26 (.v (vI (20+o5.x)))] (.intro (Ap o5.c1 30) fun o6=> .seg [.call [0] (.v (vB o6.p)) (Kc o6.c1)] (.br (.intro (Ca o6.c1) fun o7=> .seg [.call [0] (.v (vI o7.x)) (Kc o7.c1)] (.intro (Ca o7.c1) fun o8=> .seg [.call [0] (.v (vI o8.x)) (Kc o8.c1),.ty .rd,.ty .rd,.as 14 z1,.at 0,.keep [0,3,4,5],.sel [0,5]] (.next))) (.seg [.ty .rd,.ty .rd,.as 14 z1,.at 0,.keep [0,3,4,5],.sel [0,5]] (.next))))) (.intro (Ap o4.c1 30) fun o5=> .seg [.call [0] (.v (vB o5.p)) (Kc o5.c1)] (.br (.intro (Ca o5.c1) fun o6=> .seg [.call [0] (.v (vI o6.x)) (Kc o6.c1)] (.intro (Ca o6.c1) fun o7=> .seg [.call [0] (.v (vI o7.x)) (Kc o7.c1),.ty .rd,.ty .rd,.as 14 z1,.at 0,.keep [0,3,4,5],.sel [0,5]] (.next))) (.seg [.ty .rd,.ty .rd,.as 14 z1,.at 0,.keep [0,3,4,5],.sel [0,5]] (.next)))))) (.intro (Ap o3.c1 24) fun o4=> .seg [.call [0] (.v (vB o4.p)) (Kc o4.c1)] (.br (.intro (Aa o4.c1 3) fun o5=> .seg [.call [0] (.v (vI o5.x)) (Kc o5.c1),.as 26 (.v (vI (20+o5.x)))] (.intro (Ap o5.c1 30) fun o6=> .seg [.call [0] (.v (vB o6.p)) (Kc o6.c1)] (.br (.intro (Ca o6.c1) fun o7=> .seg [.call [0] (.v (vI o7.x)) (Kc o7.c1)] (.intro (Ca o7.c1) fun o8=> .seg [.call [0] (.v (vI o8.x)) (Kc o8.c1),.ty .rd,.ty .rd,.as 14 z1,.at 0,.keep [0,3,4,5],.sel [0,5]] (.next))) (.seg [.ty .rd,.ty .rd,.as 14 z1,.at 0,.keep [0,3,4,5],.sel [0,5]] (.next))))) (.intro (Ap o4.c1 30) fun o5=> .seg [.call [0] (.v (vB o5.p)) (Kc o5.c1)] (.br (.intro (Ca o5.c1) fun o6=> .seg [.call [0] (.v (vI o6.x)) (Kc o6.c1)] (.intro (Ca o6.c1) fun o7=> .seg [.call [0] (.v (vI o7.x)) (Kc o7.c1),.ty .rd,.ty .rd,.as 14 z1,.at 0,.keep [0,3,4,5],.sel [0,5]] (.next))) (.seg [.ty .rd,.ty .rd,.as 14 z1,.at 0,.keep [0,3,4,5],.sel [0,5]] (.next)))))))))) (.leaf (⟨q1.out,q1.c⟩:Kg) [0,1]))),In (Aa c 8) fun o1=>(let z3:=Gg o1;(Ai c 8 o1)∧z3.Has [(0,.v (vP 0)),(3,.v (vO 1)),(4,.v (vI o1.x)),(5,.v (vI 0))] [.cells (B2 o1.c1),.lst .rd ([]:List Rd)]∧∀q1,z3.inv q1→(let z2:=((q1.i:Nat):Int)+1;Bc (decide (((q1.i:Nat):Int)<o1.x)) (In (A1 q1.c [0,1,1,2,3,5,9,16,30,(-1)]) fun o2=>((B5 q1.c [0,1,1,2,3,5,9,16,30,(-1)] o2)∧In (Ap o2.c1 6) fun o3=>((Ba o2.c1 6 o3)∧Bc o3.p (In (Ap o3.c1 24) fun o4=>((Ba o3.c1 24 o4)∧Bc o4.p (In (Aa o4.c1 3) fun o5=>((Ai o4.c1 3 o5)∧(wI (20+o5.x))∧In (Ap o5.c1 30) fun o6=>((Ba o5.c1 30 o6)∧Bc o6.p (In (Ca o6.c1) fun o7=>((Ea o6.c1 o7)∧In (Ca o7.c1) fun o8=>((Ea o7.c1 o8)∧(List.length q1.out+List.length [(⟨o7.x,o8.x⟩:Rd)]≤A8)∧(wI z2)∧z3.Nxt q1 [(0,.v (vP 0)),(3,.v (vO 1)),(4,.v (vI o1.x)),(5,.v (vI z2))] [.cells (B2 o8.c1),.lst .rd (q1.out++[(⟨o7.x,o8.x⟩:Rd)])]))) ((List.length q1.out+List.length [(⟨o2.x,20+o5.x⟩:Rd)]≤A8)∧(wI z2)∧z3.Nxt q1 [(0,.v (vP 0)),(3,.v (vO 1)),(4,.v (vI o1.x)),(5,.v (vI z2))] [.cells (B2 o6.c1),.lst .rd (q1.out++[(⟨o2.x,20+o5.x⟩:Rd)])])))) (In (Ap o4.c1 30) fun o5=>((Ba o4.c1 30 o5)∧Bc o5.p (In (Ca o5.c1) fun o6=>((Ea o5.c1 o6)∧In (Ca o6.c1) fun o7=>((Ea o6.c1 o7)∧(List.length q1.out+List.length [(⟨o6.x,o7.x⟩:Rd)]≤A8)∧(wI z2)∧z3.Nxt q1 [(0,.v (vP 0)),(3,.v (vO 1)),(4,.v (vI o1.x)),(5,.v (vI z2))] [.cells (B2 o7.c1),.lst .rd (q1.out++[(⟨o6.x,o7.x⟩:Rd)])]))) ((List.length q1.out+List.length [(⟨o2.x,1⟩:Rd)]≤A8)∧(wI z2)∧z3.Nxt q1 [(0,.v (vP 0)),(3,.v (vO 1)),(4,.v (vI o1.x)),(5,.v (vI z2))] [.cells (B2 o5.c1),.lst .rd (q1.out++[(⟨o2.x,1⟩:Rd)])]))))) (In (Ap o3.c1 24) fun o4=>((Ba o3.c1 24 o4)∧Bc o4.p (In (Aa o4.c1 3) fun o5=>((Ai o4.c1 3 o5)∧(wI (20+o5.x))∧In (Ap o5.c1 30) fun o6=>((Ba o5.c1 30 o6)∧Bc o6.p (In (Ca o6.c1) fun o7=>((Ea o6.c1 o7)∧In (Ca o7.c1) fun o8=>((Ea o7.c1 o8)∧(List.length q1.out+List.length [(⟨o7.x,o8.x⟩:Rd)]≤A8)∧(wI z2)∧z3.Nxt q1 [(0,.v (vP 0)),(3,.v (vO 1)),(4,.v (vI o1.x)),(5,.v (vI z2))] [.cells (B2 o8.c1),.lst .rd (q1.out++[(⟨o7.x,o8.x⟩:Rd)])]))) ((List.length q1.out+List.length [(⟨o2.x,20+o5.x⟩:Rd)]≤A8)∧(wI z2)∧z3.Nxt q1 [(0,.v (vP 0)),(3,.v (vO 1)),(4,.v (vI o1.x)),(5,.v (vI z2))] [.cells (B2 o6.c1),.lst .rd (q1.out++[(⟨o2.x,20+o5.x⟩:Rd)])])))) (In (Ap o4.c1 30) fun o5=>((Ba o4.c1 30 o5)∧Bc o5.p (In (Ca o5.c1) fun o6=>((Ea o5.c1 o6)∧In (Ca o6.c1) fun o7=>((Ea o6.c1 o7)∧(List.length q1.out+List.length [(⟨o6.x,o7.x⟩:Rd)]≤A8)∧(wI z2)∧z3.Nxt q1 [(0,.v (vP 0)),(3,.v (vO 1)),(4,.v (vI o1.x)),(5,.v (vI z2))] [.cells (B2 o7.c1),.lst .rd (q1.out++[(⟨o6.x,o7.x⟩:Rd)])]))) ((List.length q1.out+List.length [(⟨o2.x,0⟩:Rd)]≤A8)∧(wI z2)∧z3.Nxt q1 [(0,.v (vP 0)),(3,.v (vO 1)),(4,.v (vI o1.x)),(5,.v (vI z2))] [.cells (B2 o5.c1),.lst .rd (q1.out++[(⟨o2.x,0⟩:Rd)])])))))))) (((List.length q1.out≤8)∧(Au q1.c))∧Lf (.v (vO 1)) (.v (vO 1)) [.cells (B2 q1.c),.lst .rd q1.out] [.cells (B2 q1.c),.lst .rd q1.out]))))) Q4 ?_
 refine⟨(Ao c 8 Q0),fun o1 ho_o1=>?_⟩
 obtain ⟨⟨hp_o1_0,hp_o1_1,hp_o1_2,hp_o1_3⟩,hf_o1⟩:=ho_o1
 refine⟨hf_o1,Bj (j:=(⟨o1.c1,([]:List Rd),0⟩:C0)) Q9 rfl (by dsimp only[Gg];exact⟨by assumption,rfl,by omega⟩),fun (q1:C0) hq_q1=>?_⟩
 have hi_q1:Au q1.c∧List.length q1.out=q1.i∧q1.i≤8:=hq_q1
 obtain ⟨v1,v2,v3⟩:=hi_q1
 refine dsp (fun h1 p1=>?_) fun h1 p1=>?_
 refine⟨(Cn q1.c [0,1,1,2,3,5,9,16,30,(-1)] Q0 Q5 Q5),fun o2 ho_o2=>?_⟩
 obtain ⟨⟨hp_o2_0,hp_o2_1⟩,hf_o2⟩:=ho_o2
 refine⟨hf_o2,(B1 o2.c1 6 Q0),fun o3 ho_o3=>?_⟩
 obtain ⟨hp_o3,hf_o3⟩:=ho_o3
 refine⟨hf_o3,fun h2=>?_,fun h2=>?_⟩
 refine⟨(B1 o3.c1 24 Q0),fun o4 ho_o4=>?_⟩
 obtain ⟨hp_o4,hf_o4⟩:=ho_o4
 refine⟨hf_o4,fun h3=>?_,fun h3=>?_⟩
 refine⟨(Ao o4.c1 3 Q0),fun o5 ho_o5=>?_⟩
 obtain ⟨⟨hp_o5_0,hp_o5_1,hp_o5_2,hp_o5_3⟩,hf_o5⟩:=ho_o5
 refine⟨hf_o5,(Ad Q2 Q2),(B1 o5.c1 30 Q0),fun o6 ho_o6=>?_⟩
 obtain ⟨hp_o6,hf_o6⟩:=ho_o6
 refine⟨hf_o6,fun h4=>?_,fun h4=>?_⟩
 refine⟨(Gf o6.c1 Q0),fun o7 ho_o7=>?_⟩
 obtain ⟨hp_o7,hf_o7⟩:=ho_o7
 refine⟨hf_o7,(Gf o7.c1 Q0),fun o8 ho_o8=>?_⟩
 obtain ⟨hp_o8,hf_o8⟩:=ho_o8
 exact⟨hf_o8,Q5,(Ad Q2 Q2),A5 (j:=(⟨o8.c1,q1.out++[(⟨o7.x,o8.x⟩:Rd)],q1.i+1⟩:C0)) Q9 rfl Q41 Q68⟩
 exact⟨Q5,(Ad Q2 Q2),A5 (j:=(⟨o6.c1,q1.out++[(⟨o2.x,20+o5.x⟩:Rd)],q1.i+1⟩:C0)) Q9 rfl Q41 Q68⟩
 refine⟨(B1 o4.c1 30 Q0),fun o5 ho_o5=>?_⟩
 obtain ⟨hp_o5,hf_o5⟩:=ho_o5
 refine⟨hf_o5,fun h4=>?_,fun h4=>?_⟩
 refine⟨(Gf o5.c1 Q0),fun o6 ho_o6=>?_⟩
 obtain ⟨hp_o6,hf_o6⟩:=ho_o6
 refine⟨hf_o6,(Gf o6.c1 Q0),fun o7 ho_o7=>?_⟩
 obtain ⟨hp_o7,hf_o7⟩:=ho_o7
 exact⟨hf_o7,Q5,(Ad Q2 Q2),A5 (j:=(⟨o7.c1,q1.out++[(⟨o6.x,o7.x⟩:Rd)],q1.i+1⟩:C0)) Q9 rfl Q41 Q68⟩
 exact⟨Q5,(Ad Q2 Q2),A5 (j:=(⟨o5.c1,q1.out++[(⟨o2.x,1⟩:Rd)],q1.i+1⟩:C0)) Q9 rfl Q41 Q68⟩
 refine⟨(B1 o3.c1 24 Q0),fun o4 ho_o4=>?_⟩
 obtain ⟨hp_o4,hf_o4⟩:=ho_o4
 refine⟨hf_o4,fun h3=>?_,fun h3=>?_⟩
 refine⟨(Ao o4.c1 3 Q0),fun o5 ho_o5=>?_⟩
 obtain ⟨⟨hp_o5_0,hp_o5_1,hp_o5_2,hp_o5_3⟩,hf_o5⟩:=ho_o5
 refine⟨hf_o5,(Ad Q2 Q2),(B1 o5.c1 30 Q0),fun o6 ho_o6=>?_⟩
 obtain ⟨hp_o6,hf_o6⟩:=ho_o6
 refine⟨hf_o6,fun h4=>?_,fun h4=>?_⟩
 refine⟨(Gf o6.c1 Q0),fun o7 ho_o7=>?_⟩
 obtain ⟨hp_o7,hf_o7⟩:=ho_o7
 refine⟨hf_o7,(Gf o7.c1 Q0),fun o8 ho_o8=>?_⟩
 obtain ⟨hp_o8,hf_o8⟩:=ho_o8
 exact⟨hf_o8,Q5,(Ad Q2 Q2),A5 (j:=(⟨o8.c1,q1.out++[(⟨o7.x,o8.x⟩:Rd)],q1.i+1⟩:C0)) Q9 rfl Q41 Q68⟩
 exact⟨Q5,(Ad Q2 Q2),A5 (j:=(⟨o6.c1,q1.out++[(⟨o2.x,20+o5.x⟩:Rd)],q1.i+1⟩:C0)) Q9 rfl Q41 Q68⟩
 refine⟨(B1 o4.c1 30 Q0),fun o5 ho_o5=>?_⟩
 obtain ⟨hp_o5,hf_o5⟩:=ho_o5
 refine⟨hf_o5,fun h4=>?_,fun h4=>?_⟩
 refine⟨(Gf o5.c1 Q0),fun o6 ho_o6=>?_⟩
 obtain ⟨hp_o6,hf_o6⟩:=ho_o6
 refine⟨hf_o6,(Gf o6.c1 Q0),fun o7 ho_o7=>?_⟩
 obtain ⟨hp_o7,hf_o7⟩:=ho_o7
 exact⟨hf_o7,Q5,(Ad Q2 Q2),A5 (j:=(⟨o7.c1,q1.out++[(⟨o6.x,o7.x⟩:Rd)],q1.i+1⟩:C0)) Q9 rfl Q41 Q68⟩
 exact⟨Q5,(Ad Q2 Q2),A5 (j:=(⟨o5.c1,q1.out++[(⟨o2.x,0⟩:Rd)],q1.i+1⟩:C0)) Q9 rfl Q41 Q68⟩
 exact⟨⟨Q2,Q0⟩,rfl,rfl⟩
structure Raw where
 msgs:List Shp
structure Vio where
 code:Int
 msg:Int
 field:Int
structure Api (ids:List Int) (f:Fld):Prop where
 num:Dq f.number=true
 kd:1≤f.kind∧f.kind≤8
 pk:f.packed=true→f.rep=true∧f.kind≤5
 ref:f.kind=8→f.msg∈ids
 no:f.kind≠8→f.msg=0
 n44:f.number≠44
def Air (fs:List Fld):List Int:=fs.map fun f=>f.number
def G7 (l:List Shp):List Int:=l.map fun m=>m.id
def Qg (l:List Shp) (id:Int):Bool:=l.any fun m=>decide (m.id=id)
def Ck (l:List Fld) (n:Int):Bool:=l.any fun f=>decide (f.number=n)
structure FldsG (ids:List Int) (fs:List Fld):Prop where
 len:fs.length≤5
 num:(Air fs).Nodup
 all: ∀f∈fs,Api ids f
structure RawK (n:Nat) (l:List Shp):Prop where
 len:l.length=n
 pos:1≤n∧n≤3
 ids:G7 l=[5,1,99].take n
 flds: ∀m∈l,FldsG (G7 l) m.fields
theorem Ad6 {l:List Fld} {n:Int} :Ck l n=false↔∀f∈l,f.number≠n:=by
 simp[Ck]
theorem Acq {l:List Shp} {x:Int} :Qg l x=true↔x∈G7 l:=by
 simp[Qg,G7]
theorem Y1 {l:List Int} (h:l.Nodup) {i:Nat} {x:Int} (hx:l[i]? =some x):x ∉ l.take i:=by
 intro hm
 obtain ⟨j,hj,he⟩:=List.mem_take_iff_getElem.1 hm
 have hi:=(List.getElem?_eq_some_iff.1 hx)
 obtain ⟨hi1,hi2⟩:=hi
 exact List.pairwise_iff_getElem.1 h j i Q2 hi1 Q2 (by rw[hi2,he])
theorem RawK.nodup {n:Nat} {l:List Shp} (h:RawK n l):(G7 l).Nodup:=by
 rw[h.ids]
 have h2:=h.pos
 have:n=1∨n=2∨n=3:=by omega
 rcases this with rfl|rfl|rfl<;>decide
theorem RawK.noId {n:Nat} {l:List Shp} (h:RawK n l) {i:Nat} {m:Shp} (hm:l[i]? =some m):Qg (l.take i) m.id=false:=by
 cases hc:Qg (l.take i) m.id with
 |false=>rfl
 |true=>
  have:=Acq.1 hc
  unfold G7 at this
  rw[List.map_take] at this
  exact absurd this (Y1 (l:=G7 l) h.nodup (by unfold G7;rw[List.getElem?_map,hm];rfl))
theorem FldsG.noNum {ids:List Int} {fs:List Fld} (h:FldsG ids fs) {i:Nat} {f:Fld} (hf:fs[i]? =some f):Ck (fs.take i) f.number=false:=by
 rw[Ad6]
 intro g hg he
 have:f.number∈(Air fs).take i:=by
  unfold Air
  rw[←List.map_take]
  exact List.mem_map.2 ⟨g,hg,he⟩
 exact absurd this (Y1 (l:=Air fs) h.num (by unfold Air;rw[List.getElem?_map,hf];rfl))
theorem RawK.id_ok {n:Nat} {l:List Shp} (h:RawK n l) {m:Shp} (hm:m∈l):1≤m.id∧m.id≤99:=by
 have hx:m.id∈G7 l:=List.mem_map.2 ⟨m,hm,rfl⟩
 rw[h.ids] at hx
 have:=List.mem_of_mem_take hx
 simp at this
 omega
theorem Ah6 {l:List Shp} {i:Nat} {m:Shp} {fs:List Fld} (h:l[i]? =some m):G7 (l.set i ⟨m.id,fs⟩)=G7 l:=by
 unfold G7
 apply List.ext_getElem?
 intro j
 rw[List.getElem?_map,List.getElem?_map,List.getElem?_set]
 split
 ·rename_i hij
  subst hij
  have hl:=(List.getElem?_eq_some_iff.1 h).1
  rw[if_pos hl,h]
  rfl
 ·rfl
theorem Ajy (fs:List Fld) (f:Fld):Air (fs++[f])=Air fs++[f.number]:=by simp[Air]
theorem RawK.add {n:Nat} {l:List Shp} (h:RawK n l) {i:Nat} {m:Shp} {f:Fld} (hm:l[i]? =some m) (hf:Api (G7 l) f) (hn:Ck m.fields f.number=false) (hk:m.fields.length≤4):RawK n (l.set i ⟨m.id,m.fields++[f]⟩):=by
 have hM:=h.flds m (List.mem_of_getElem? hm)
 refine⟨by rw[List.length_set];exact h.len,h.pos,by rw[Ah6 hm];exact h.ids,fun x hx=>?_⟩
 rw[Ah6 hm]
 rcases List.mem_or_eq_of_mem_set hx with hx|rfl
 ·exact h.flds x hx
 ·refine⟨by rw[List.length_append];simp;omega,?_,fun g hg=>?_⟩
  ·show (Air (m.fields++[f])).Nodup
   rw[Ajy,List.nodup_append]
   refine⟨hM.num,by simp,fun a ha b hb=>?_⟩
   simp at hb
   subst hb
   intro e
   subst e
   obtain ⟨g,hg,he⟩:=List.mem_map.1 ha
   exact Ad6.1 hn g hg he
  ·rcases List.mem_append.1 hg with hg|hg
   ·exact hM.all g hg
   ·simp at hg;subst hg;exact hf
def Xe (l:List Shp) (id:Int):Nat:=(l.filter fun m=>decide (m.id<id)).length
theorem Abh {l:List Shp} {i:Nat} {m:Shp} {id:Int} (h:l[i]? =some m):Xe (l.take (i+1)) id=Xe (l.take i) id+(if m.id<id then 1 else 0):=by
 have ht:l.take (i+1)=l.take i++[m]:=by rw[List.take_add_one,h];rfl
 unfold Xe
 rw[ht,List.filter_append,List.length_append]
 split<;>simp[*]
theorem Am5 (l:List Shp) (id:Int):Xe l id≤l.length:=List.length_filter_le _ _
theorem Ah7 {l:List Shp} {id:Int} (h:id∈G7 l):Xe l id<l.length:=by
 obtain ⟨m,hm,rfl⟩:=List.mem_map.1 h
 unfold Xe
 rcases Nat.lt_or_ge (l.filter fun x=>decide (x.id<m.id)).length l.length with h|h
 ·exact h
 ·have:=List.length_filter_eq_length_iff.1 (Nat.le_antisymm (List.length_filter_le _ _) h) m hm
  simp at this
theorem RawK.no55 {n:Nat} {l:List Shp} (h:RawK n l) {x:Int} (hx:x∈G7 l):x≠55:=by
 rw[h.ids] at hx
 have hm:=List.mem_of_mem_take hx
 simp at hm
 omega
def Ak2 (n:Nat) (e:Shp):Prop:=(e.fields.length≤5∧e.id≠55)∧∀f∈e.fields,1≤f.kind∧f.kind≤8∧(f.kind=8→0≤f.msg∧f.msg<(n:Int))∧f.number≠44
def SchG (l:List Shp):Prop:=(1≤l.length∧l.length≤3)∧∀e∈l,Ak2 l.length e
structure PlnG (p:Pln):Prop where
 sch:SchG p.shapes
 root:0≤p.root∧p.root<(p.shapes.length:Int)
 deep:1≤p.deep∧p.deep≤4
 most:0≤p.most∧p.most≤2000
def Aps (p:Pln):Prop:=p.shapes.length≤7∧∀e∈p.shapes,e.fields.length≤6
theorem PlnG.b {p:Pln} (h:PlnG p):Aps p:=⟨by have:=h.sch.1;omega,fun e he=>by have:=(h.sch.2 e he).1;omega⟩
theorem Abi {α:Type} {l:List α} {i:Nat} {x:α} (h:l[i]? =some x):l.take (i+1)=l.take i++[x]:=by rw[List.take_add_one,h];rfl
theorem Afc {l:List Shp} {i:Nat} {m:Shp} {id:Int} (h:l[i]? =some m):Qg (l.take (i+1)) id=(Qg (l.take i) id||decide (m.id=id)):=by
 rw[Abi h];simp[Qg]
theorem Acr {l:List Fld} {i:Nat} {f:Fld} {n:Int} (h:l[i]? =some f):Ck (l.take (i+1)) n=(Ck (l.take i) n||decide (f.number=n)):=by
 rw[Abi h];simp[Ck]
theorem Afd {l:List Shp} {i:Nat} {m:Shp} {id:Int} {k:Nat} (h:l[i]? =some m) (hi:i<k) (he:m.id=id):Qg (l.take k) id=true:=by
 rw[Qg,List.any_eq_true]
 exact⟨m,List.mem_of_getElem? (by rw[List.getElem?_take,if_pos hi];exact h),by simpa using he⟩
theorem Acs {l:List Fld} {i:Nat} {f:Fld} {n:Int} (h:l[i]? =some f) (he:f.number=n):Ck l n=true:=by
 rw[Ck,List.any_eq_true]
 exact⟨f,List.mem_of_getElem? h,by simpa using he⟩
structure Rg where
 i:Nat
def Rh (r:Raw) (id:Int) (n:Int):Fam:=⟨Rg,fun q1=>[(1,.v (vI id)),(2,.v (vI n)),(3,.v (vP 0)),(7,.v (vI ((q1.i:Nat):Int)))],fun _=>[.cells [.seq .shp r.msgs]],fun q1=>((q1.i:Nat):Int)≤n∧Qg (List.take q1.i r.msgs) id=false,fun q1=>Int.toNat n-q1.i⟩
theorem Acu (r:Raw) (id:Int) (n:Int) (hp1:(0:Int)≤n∧n≤((List.length (r).msgs:Nat):Int)) (hp2:List.length (r).msgs≤1000):Fun Tryz.prog 232 [.agg [.seq .shp r.msgs],vI id,vI n] [] (.v (vB (Qg (List.take (Int.toNat n) (r).msgs) id))) []:=by
 have hN:A8=274877906944:=rfl
 refine Aq Tryz.func232 Q4 Q4 (w:=let z2:S:= .v (vB (Qg (List.take (Int.toNat n) (r).msgs) id));let z3:=Rh r id n;(.seg [.at 0,.keep [1,2,3,7],.sel [0]] (.loop z3 fun q1=> .br (.intro (Sx (r.msgs[q1.i]?)) fun x1=> .seg [.el .shp x1] (.br (.leaf () []) (.seg [.as 12 (.v (vI (((q1.i:Nat):Int)+1))),.at 0,.keep [1,2,3,7],.sel [0]] (.next)))) (.leaf () [])),z3.Has [(1,.v (vI id)),(2,.v (vI n)),(3,.v (vP 0)),(7,.v (vI 0))] [.cells [.seq .shp r.msgs]]∧∀q1,z3.inv q1→(let z1:=((q1.i:Nat):Int);Bc (decide (z1<n)) (El (r.msgs[q1.i]?) fun x1=>((r.msgs[q1.i]? =some x1)∧((0:Int)≤z1)∧Bc (decide (x1.id=id)) (Lf (.v (vB true)) z2 [] []) ((wI (z1+1))∧z3.Nxt q1 [(1,.v (vI id)),(2,.v (vI n)),(3,.v (vP 0)),(7,.v (vI (z1+1)))] [.cells [.seq .shp r.msgs]]))) (Lf (.v (vB false)) z2 [] [])))) Q4 ?_
 refine⟨Bj (j:=(⟨0⟩:Rg)) Q9 rfl (by dsimp only[Rh];exact⟨by omega,rfl⟩),fun (q1:Rg) hq_q1=>?_⟩
 have hi_q1:((q1.i:Nat):Int)≤n∧Qg (List.take q1.i r.msgs) id=false:=hq_q1
 obtain ⟨v1,v2⟩:=hi_q1
 refine dsp (fun h1 p1=>?_) fun h1 p1=>?_
 refine⟨(Bm (l:=r.msgs) (i:=q1.i) Q2),fun x1 hx1=>?_⟩
 refine⟨hx1,Q2,dsp (fun h2 p2=>?_) fun h2 p2=>?_⟩
 refine⟨(sB ?_),rfl⟩
 rotate_left
 exact⟨(Ad Q2 Q2),A5 (j:=(⟨q1.i+1⟩:Rg)) Q9 rfl (by dsimp only[Rh];exact⟨by omega,by rw[Afc hx1,v2];simpa using by assumption⟩) (by dsimp only[Rh];omega)⟩
 have hin:Int.toNat n=q1.i:=by omega
 refine⟨(sB ?_),rfl⟩
 rotate_left
 all_goals first|((rw[hin,v2];done))|((rw[Afd hx1 (by omega) (by assumption)];done))|(grind)
structure N7 where
 i:Nat
def N8 (l:List Fld) (n:Int):Fam:=⟨N7,fun q1=>[(0,.v (.c (.seq .fld l))),(1,.v (vI n)),(5,.v (vI ((q1.i:Nat):Int)))],fun _=>[],fun q1=>q1.i≤List.length l∧Ck (List.take q1.i l) n=false,fun q1=>List.length l-q1.i⟩
theorem F7 (l:List Fld) (n:Int) (hp1:List.length l≤1000):Fun Tryz.prog 221 [.c (.seq .fld l),vI n] [] (.v (vB (Ck l n))) []:=by
 have hN:A8=274877906944:=rfl
 refine Aq Tryz.func221 Q4 Q4 (w:=let z2:=N8 l n;(.seg [.at 0,.keep [0,1,5],.sel []] (.loop z2 fun q1=> .br (.intro (Sx (l[q1.i]?)) fun x1=> .seg [.el .fld x1] (.br (.leaf () []) (.seg [.as 11 (.v (vI (((q1.i:Nat):Int)+1))),.at 0,.keep [0,1,5],.sel []] (.next)))) (.leaf () [])),z2.Has [(0,.v (.c (.seq .fld l))),(1,.v (vI n)),(5,.v (vI 0))] []∧∀q1,z2.inv q1→(let z1:=((q1.i:Nat):Int);Bc (decide (z1<((List.length l:Nat):Int))) (El (l[q1.i]?) fun x1=>((l[q1.i]? =some x1)∧((0:Int)≤z1)∧Bc (decide (x1.number=n)) (Lf (.v (vB true)) (.v (vB (Ck l n))) [] []) ((wI (z1+1))∧z2.Nxt q1 [(0,.v (.c (.seq .fld l))),(1,.v (vI n)),(5,.v (vI (z1+1)))] []))) (Lf (.v (vB false)) (.v (vB (Ck l n))) [] [])))) Q4 ?_
 refine⟨Bj (j:=(⟨0⟩:N7)) Q9 rfl (by dsimp only[N8];exact⟨by omega,rfl⟩),fun (q1:N7) hq_q1=>?_⟩
 have hi_q1:q1.i≤List.length l∧Ck (List.take q1.i l) n=false:=hq_q1
 obtain ⟨v1,v2⟩:=hi_q1
 refine dsp (fun h1 p1=>?_) fun h1 p1=>?_
 refine⟨(Bm (l:=l) (i:=q1.i) Q2),fun x1 hx1=>?_⟩
 refine⟨hx1,Q2,dsp (fun h2 p2=>?_) fun h2 p2=>?_⟩
 refine⟨(sB ?_),rfl⟩
 rotate_left
 exact⟨(Ad Q2 Q2),A5 (j:=(⟨q1.i+1⟩:N7)) Q9 rfl (by dsimp only[N8];exact⟨by omega,by rw[Acr hx1,v2];simpa using by assumption⟩) (by dsimp only[N8];omega)⟩
 have hin:List.take q1.i l=l:=List.take_of_length_le (by omega)
 rw[hin] at v2
 refine⟨(sB ?_),rfl⟩
 rotate_left
 all_goals first|((rw[v2];done))|((rw[Acs hx1 (by assumption)];done))|(grind)
theorem Ah8 (r:Raw) (msg:Int) (hp1:RawK (List.length (r).msgs) (r).msgs) (hp2:(0:Int)≤msg∧msg<((List.length (r).msgs:Nat):Int)):Fun Tryz.prog 229 [.agg [.seq .shp r.msgs],vI msg] [] (.v (vI 0)) []:=by
 have hN:A8=274877906944:=rfl
 have hpos:=hp1.pos
 refine Aq Tryz.func229 Q4 Q4 (w:=let z2:=((List.length r.msgs:Nat):Int)-1;let z3:=List.take (Int.toNat msg) (r).msgs;let z4:S:= .v (vI 0);(.seg [.as 10 (.v (vI z2)),.call [] (.v (vB (Ak msg 0 z2))) []] (.br (.leaf () []) (.intro (Sx (r.msgs[Int.toNat msg]?)) fun x1=> .seg [.el .shp x1,.call [] (.v (vB (Ak x1.id 1 99))) []] (.br (.leaf () []) (.seg [.call [] (.v (vB (Qg z3 x1.id))) [],.br false,.br false] (.leaf () []))))),(wI z2)∧(Fp 44 [vI msg,vI 0,vI z2] [] (.v (vB (Ak msg 0 z2))) [])∧Bc (!(Ak msg 0 z2)) (Lf z4 z4 [] []) (El (r.msgs[Int.toNat msg]?) fun x1=>(let z1:=Qg z3 x1.id;(r.msgs[Int.toNat msg]? =some x1)∧((0:Int)≤msg)∧(Fp 44 [vI x1.id,vI 1,vI 99] [] (.v (vB (Ak x1.id 1 99))) [])∧Bc (!(Ak x1.id 1 99)) (Lf (.v (vI 2)) z4 [] []) ((Fp 232 [.agg [.seq .shp r.msgs],vI x1.id,vI msg] [] (.v (vB z1)) [])∧(z1=false)∧((decide (8<((List.length x1.fields:Nat):Int)))=false)∧Lf z4 z4 [] []))))) Q4 ?_
 refine⟨(Ad Q2 Q2),(Bf _ _ _),fun h1=>have q1:=An h1;have p1:=Ay q1;?_,fun h1=>have q1:=Am h1;have p1:=As q1;?_⟩
 exact⟨rfl,rfl⟩
 refine⟨(Bm (l:=r.msgs) (i:=Int.toNat msg) Q2),fun x1 hx1=>?_⟩
 have hid:=hp1.id_ok (List.mem_of_getElem? hx1)
 have hfl:=(hp1.flds _ (List.mem_of_getElem? hx1)).len
 have hno:=hp1.noId hx1
 refine⟨hx1,Q2,(Bf _ _ _),fun h2=>have q2:=An h2;have p2:=Ay q2;?_,fun h2=>have q2:=Am h2;have p2:=As q2;?_⟩
 refine⟨(sI ?_),rfl⟩
 rotate_left
 exact⟨(Acu r _ _ Q2 Q2),hno,(decide_eq_false Q2),rfl,rfl⟩
 all_goals first|(rfl)|((exfalso;omega))|((exfalso;simp_all;done))|(grind)
theorem Acv (r:Raw) (msg:Int) (field:Int) (hp1:RawK (List.length (r).msgs) (r).msgs) (hp2:(0:Int)≤msg∧msg<((List.length (r).msgs:Nat):Int)) (hp3: ∀m,(r).msgs[Int.toNat msg]? =some m→(0:Int)≤field∧field<((List.length m.fields:Nat):Int)):Fun Tryz.prog 230 [.agg [.seq .shp r.msgs],vI msg,vI field] [] (.v (vI 0)) []:=by
 have hN:A8=274877906944:=rfl
 have hpos:=hp1.pos
 refine Aq Tryz.func230 Q4 Q4 (w:=let z9:=((List.length r.msgs:Nat):Int);let z10:S:= .v (vI 0);let z11:=Lf (.v (vI 9)) z10 [] [];let z12:=Lf z10 z10 [] [];let z13:=Ak msg 0 (z9-1);let z14:=List.take (Int.toNat z9) (r).msgs;let z15:=(0:Int)≤field;(.seg [.as 13 (.v (vI (z9-1))),.call [] (.v (vB z13)) []] (.br (.leaf () []) (.intro (Sx (r.msgs[Int.toNat msg]?)) fun x1=>let z5:=((List.length x1.fields:Nat):Int)-1;.seg [.el .shp x1,.as 25 (.v (vI z5)),.call [] (.v (vB (Ak field 0 z5))) []] (.br (.leaf () []) (.seg [.el .shp x1] (.intro (Sx (x1.fields[Int.toNat field]?)) fun x2=>let z1:S:= .v (vB (Qg z14 x2.msg));.seg [.el .fld x2,.call [] (.v (vB (Dq x2.number))) []] (.br (.leaf () []) (.seg [.ord (os 7 [5]) [],.call [] (.v (vB (Ck (List.take (Int.toNat field) x1.fields) x2.number))) [],.br false,.call [] (.v (vB (Ey x2.kind))) []] (.br (.leaf () []) (.br (.br (.leaf () []) (.seg [.call [] (.v (vB (Db x2.kind))) []] (.br (.leaf () []) (.br (.seg [.call [] z1 []] (.br (.leaf () []) (.br (.br (.leaf () []) (.leaf () [])) (.leaf () [])))) (.br (.br (.leaf () []) (.leaf () [])) (.leaf () [])))))) (.br (.seg [.call [] z1 []] (.br (.leaf () []) (.br (.br (.leaf () []) (.leaf () [])) (.leaf () [])))) (.br (.br (.leaf () []) (.leaf () [])) (.leaf () [])))))))))))),(wI (z9-1))∧(Fp 44 [vI msg,vI 0,vI (z9-1)] [] (.v (vB z13)) [])∧Bc (!z13) z12 (El (r.msgs[Int.toNat msg]?) fun x1=>(let z6:=((List.length x1.fields:Nat):Int);let z7:=List.take (Int.toNat field) x1.fields;let z8:=r.msgs[Int.toNat msg]? =some x1;z8∧((0:Int)≤msg)∧(wI (z6-1))∧(Fp 44 [vI field,vI 0,vI (z6-1)] [] (.v (vB (Ak field 0 (z6-1)))) [])∧Bc (!(Ak field 0 (z6-1))) z12 (z8∧((0:Int)≤msg)∧El (x1.fields[Int.toNat field]?) fun x2=>(let z2:=Bc (!decide (x2.kind=8)) (Bc (!decide (x2.msg=0)) z11 z12) z12;let z3:=Qg z14 x2.msg;let z4:=Ck z7 x2.number;(x1.fields[Int.toNat field]? =some x2)∧z15∧(Fp 156 [vI x2.number] [] (.v (vB (Dq x2.number))) [])∧Bc (!(Dq x2.number)) (Lf (.v (vI 5)) z10 [] []) ((field≤z6)∧z15∧(field≤z6)∧z15∧(Fp 221 [.c (.seq .fld z7),vI x2.number] [] (.v (vB z4)) [])∧(z4=false)∧(Fp 157 [vI x2.kind] [] (.v (vB (Ey x2.kind))) [])∧Bc (!(Ey x2.kind)) (Lf (.v (vI 7)) z10 [] []) (Bc x2.packed (Bc (!x2.rep) (Lf (.v (vI 8)) z10 [] []) ((Fp 158 [vI x2.kind] [] (.v (vB (Db x2.kind))) [])∧Bc (!(Db x2.kind)) (Lf (.v (vI 8)) z10 [] []) (Bc (decide (x2.kind=8)) ((Fp 232 [.agg [.seq .shp r.msgs],vI x2.msg,vI z9] [] (.v (vB z3)) [])∧Bc (!z3) z11 z2) z2))) (Bc (decide (x2.kind=8)) ((Fp 232 [.agg [.seq .shp r.msgs],vI x2.msg,vI z9] [] (.v (vB z3)) [])∧Bc (!z3) z11 z2) z2))))))))) Q4 ?_
 refine⟨(Ad Q2 Q2),(Bf _ _ _),fun h1=>have q1:=An h1;have p1:=Ay q1;?_,fun h1=>have q1:=Am h1;have p1:=As q1;?_⟩
 exact⟨rfl,rfl⟩
 refine⟨(Bm (l:=r.msgs) (i:=Int.toNat msg) Q2),fun x1 hx1=>?_⟩
 have hfb:=hp3 _ hx1
 have hfg:=hp1.flds _ (List.mem_of_getElem? hx1)
 have hfl:=hfg.len
 refine⟨hx1,Q2,(Ad Q2 Q2),(Bf _ _ _),fun h2=>have q2:=An h2;have p2:=Ay q2;?_,fun h2=>have q2:=Am h2;have p2:=As q2;?_⟩
 exact⟨rfl,rfl⟩
 refine⟨hx1,Q2,(Bm (l:=x1.fields) (i:=Int.toNat field) Q2),fun x2 hx2=>?_⟩
 have hg:=hfg.all _ (List.mem_of_getElem? hx2)
 have hnn:=hfg.noNum hx2
 have hgk:=hg.kd
 have hgm:=hg.num
 have hgo:Ey x2.kind=true:=by simp only[Ey,Ak,Bool.and_eq_true,decide_eq_true_eq];omega
 have hgp:=hg.pk
 have hgn:=hg.no
 refine⟨hx2,Q2,(Yj _),fun h3=>have q3:=An h3;?_,fun h3=>have q3:=Am h3;?_⟩
 refine⟨(sI ?_),rfl⟩
 rotate_left
 refine⟨Q2,Q2,Q2,Q2,(F7 _ _ (by simp only[List.length_take];omega)),hnn,(Vj _),fun h4=>have q4:=An h4;have p4:=Ay q4;?_,fun h4=>have q4:=Am h4;have p4:=As q4;?_⟩
 refine⟨(sI ?_),rfl⟩
 rotate_left
 refine⟨fun h5=>?_,fun h5=>?_⟩
 refine⟨fun h6=>have q6:=An h6;?_,fun h6=>have q6:=Am h6;?_⟩
 refine⟨(sI ?_),rfl⟩
 rotate_left
 refine⟨(Mr _),fun h7=>have q7:=An h7;have p7:=Ay q7;?_,fun h7=>have q7:=Am h7;have p7:=As q7;?_⟩
 refine⟨(sI ?_),rfl⟩
 rotate_left
 refine dsp (fun h8 p8=>?_) fun h8 p8=>?_
 have hir:=(Acq (l:=r.msgs)).2 (hg.ref (by omega))
 refine⟨(Acu r _ _ Q2 Q2),fun h9=>have q9:=An h9;?_,fun h9=>have q9:=Am h9;?_⟩
 refine⟨(sI ?_),rfl⟩
 rotate_left
 refine⟨fun h10=>have q10:=An h10;have p10:=of_decide_eq_false q10;?_,fun h10=>have q10:=Am h10;have p10:=of_decide_eq_true q10;?_⟩
 refine⟨fun h11=>have q11:=An h11;have p11:=of_decide_eq_false q11;?_,fun h11=>have q11:=Am h11;have p11:=of_decide_eq_true q11;?_⟩
 refine⟨(sI ?_),rfl⟩
 rotate_left
 exact⟨rfl,rfl⟩
 exact⟨rfl,rfl⟩
 refine⟨fun h9=>have q9:=An h9;have p9:=of_decide_eq_false q9;?_,fun h9=>have q9:=Am h9;have p9:=of_decide_eq_true q9;?_⟩
 refine⟨fun h10=>have q10:=An h10;have p10:=of_decide_eq_false q10;?_,fun h10=>have q10:=Am h10;have p10:=of_decide_eq_true q10;?_⟩
 refine⟨(sI ?_),rfl⟩
 rotate_left
 exact⟨rfl,rfl⟩
 exact⟨rfl,rfl⟩
 refine dsp (fun h6 p6=>?_) fun h6 p6=>?_
 have hir:=(Acq (l:=r.msgs)).2 (hg.ref (by omega))
 refine⟨(Acu r _ _ Q2 Q2),fun h7=>have q7:=An h7;?_,fun h7=>have q7:=Am h7;?_⟩
 refine⟨(sI ?_),rfl⟩
 rotate_left
 refine⟨fun h8=>have q8:=An h8;have p8:=of_decide_eq_false q8;?_,fun h8=>have q8:=Am h8;have p8:=of_decide_eq_true q8;?_⟩
 refine⟨fun h9=>have q9:=An h9;have p9:=of_decide_eq_false q9;?_,fun h9=>have q9:=Am h9;have p9:=of_decide_eq_true q9;?_⟩
 refine⟨(sI ?_),rfl⟩
 rotate_left
 exact⟨rfl,rfl⟩
 exact⟨rfl,rfl⟩
 refine⟨fun h7=>have q7:=An h7;have p7:=of_decide_eq_false q7;?_,fun h7=>have q7:=Am h7;have p7:=of_decide_eq_true q7;?_⟩
 refine⟨fun h8=>have q8:=An h8;have p8:=of_decide_eq_false q8;?_,fun h8=>have q8:=Am h8;have p8:=of_decide_eq_true q8;?_⟩
 refine⟨(sI ?_),rfl⟩
 rotate_left
 exact⟨rfl,rfl⟩
 exact⟨rfl,rfl⟩
 all_goals first|(rfl)|((exfalso;simp_all[Db,Ak];omega))|((exfalso;simp_all[Db,Ak];done))|((exfalso;omega))|(grind)
structure My where
 i:Nat
def Ri (r:Raw):Fam:=⟨My,fun q1=>[(1,.v (vP 0)),(2,.v (vP 1)),(3,.v (vI ((q1.i:Nat):Int)))],fun _=>[.cells [.seq .shp r.msgs],.cells [.int .i64 0,.int .i64 0,.int .i64 0]],fun q1=>q1.i≤List.length r.msgs,fun q1=>List.length r.msgs-q1.i⟩
structure Rj where
 k:Nat
def H7 (r:Raw) (q1:My):Fam:=⟨Rj,fun q2=>[(1,.v (vP 0)),(2,.v (vP 1)),(3,.v (vI ((q1.i:Nat):Int))),(5,.v (vI ((q2.k:Nat):Int)))],fun _=>[.cells [.seq .shp r.msgs],.cells [.int .i64 0,.int .i64 0,.int .i64 0]],fun q2=>q2.k≤5,fun q2=>5-q2.k⟩
theorem Am6 (r:Raw) (hp1:RawK (List.length (r).msgs) (r).msgs):Fun Tryz.prog 218 [.agg [.seq .shp r.msgs]] [] (.v (.agg [.int .i64 0,.int .i64 0,.int .i64 0])) []:=by
 have hN:A8=274877906944:=rfl
 have hpos:=hp1.pos
 refine Aq Tryz.func218 Q4 Q4 (w:=let zi:Int→C:= .int .i64;let z3:List Blk:=[.cells [.seq .shp r.msgs],.cells [zi 0,zi 0,zi 0]];let z4:S:= .v (.agg [zi 0,zi 0,zi 0]);let z5:=Ri r;let z6:=((List.length r.msgs:Nat):Int);(.br (.leaf () []) (.seg [.at 0,.keep [1,2,3],.sel [0,1]] (.loop z5 fun q1=> .br (.seg [.call [] (.v (vI 0)) [],.br false,.at 0,.keep [1,2,3,5],.sel [0,1]] (.loop (H7 r q1) fun q2=> .intro (Sx (r.msgs[q1.i]?)) fun x1=> .seg [.el .shp x1] (.br (.seg [.call [] (.v (vI 0)) [],.br false,.as 36 (.v (vI (((q2.k:Nat):Int)+1))),.at 0,.keep [1,2,3,5],.sel [0,1]] (.next)) (.seg [.as 17 (.v (vI (((q1.i:Nat):Int)+1))),.at 0,.keep [1,2,3],.sel [0,1]] (.next))))) (.leaf () []))),Bc (decide (6<z6)) (Lf (.v (.agg [zi 1,zi 6,zi (-1)])) z4 [] []) (z5.Has [(1,.v (vP 0)),(2,.v (vP 1)),(3,.v (vI 0))] z3∧∀q1,z5.inv q1→(let z2:=((q1.i:Nat):Int);Bc (decide (z2<z6)) ((Fp 229 [.agg [.seq .shp r.msgs],vI z2] [] (.v (vI 0)) [])∧((!decide (0=0))=false)∧(H7 r q1).Has [(1,.v (vP 0)),(2,.v (vP 1)),(3,.v (vI z2)),(5,.v (vI 0))] z3∧∀q2,(H7 r q1).inv q2→(let z1:=((q2.k:Nat):Int);El (r.msgs[q1.i]?) fun x1=>((r.msgs[q1.i]? =some x1)∧((0:Int)≤z2)∧Bc (decide (z1<((List.length x1.fields:Nat):Int))) ((Fp 230 [.agg [.seq .shp r.msgs],vI z2,vI z1] [] (.v (vI 0)) [])∧((!decide (0=0))=false)∧(wI (z1+1))∧(H7 r q1).Nxt q2 [(1,.v (vP 0)),(2,.v (vP 1)),(3,.v (vI z2)),(5,.v (vI (z1+1)))] z3) ((wI (z2+1))∧z5.Nxt q1 [(1,.v (vP 0)),(2,.v (vP 1)),(3,.v (vI (z2+1)))] z3)))) (Lf z4 z4 [] []))))) Q4 ?_
 refine dsp (fun h1 p1=>?_) fun h1 p1=>?_
 refine⟨(congrArg S.v (congrArg V.agg (Ab (congrArg (C.int .i64) ?_) (Ab (congrArg (C.int .i64) ?_) (Ab (congrArg (C.int .i64) ?_) rfl))))),rfl⟩
 rotate_left 3
 refine⟨Bj (j:=(⟨0⟩:My)) Q9 rfl (by dsimp only[Ri];omega),fun (q1:My) hq_q1=>?_⟩
 have hi_q1:q1.i≤List.length r.msgs:=hq_q1
 have v1:=hi_q1
 refine dsp (fun h2 p2=>?_) fun h2 p2=>?_
 refine⟨(Ah8 r _ Q2 Q2),Q30,Bj (j:=(⟨0⟩:Rj)) Q9 rfl (by dsimp only[H7];omega),fun (q2:Rj) hq_q2=>?_⟩
 have hi_q2:q2.k≤5:=hq_q2
 have w1:=hi_q2
 refine⟨(Bm (l:=r.msgs) (i:=q1.i) Q2),fun x1 hx1=>?_⟩
 have hfl:=(hp1.flds _ (List.mem_of_getElem? hx1)).len
 refine⟨hx1,Q2,dsp (fun h3 p3=>?_) fun h3 p3=>?_⟩
 exact⟨(Acv r _ _ Q2 Q2 (fun m hm=>by (try simp only[Int.toNat_natCast] at hm);rw[hx1] at hm;cases hm;omega)),Q30,(Ad Q2 Q2),A5 (j:=(⟨q2.k+1⟩:Rj)) Q9 rfl (by dsimp only[H7];omega) (by dsimp only[H7];omega)⟩
 exact⟨(Ad Q2 Q2),A5 (j:=(⟨q1.i+1⟩:My)) Q9 rfl (by dsimp only[Ri];omega) (by dsimp only[Ri];omega)⟩
 exact⟨rfl,rfl⟩
 all_goals first|(rfl)|((exfalso;simp_all[Db,Ak];omega))|((exfalso;simp_all[Db,Ak];done))|((exfalso;omega))|(grind)
structure Qh where
 n:Int
 i:Nat
def Mz (r:Raw) (id:Int):Fam:=⟨Qh,fun q1=>[(1,.v (vI id)),(2,.v (vP 0)),(5,.v (vI q1.n)),(6,.v (vI ((q1.i:Nat):Int)))],fun _=>[.cells [.seq .shp r.msgs]],fun q1=>q1.i≤List.length r.msgs∧q1.n=((Xe (List.take q1.i r.msgs) id:Nat):Int),fun q1=>List.length r.msgs-q1.i⟩
theorem Ak3 (r:Raw) (id:Int) (hp1:List.length (r).msgs≤1000):Fun Tryz.prog 219 [.agg [.seq .shp r.msgs],vI id] [] (.v (vI ((Xe (r).msgs id:Nat):Int))) []:=by
 have hN:A8=274877906944:=rfl
 refine Aq Tryz.func219 Q4 Q4 (w:=let z3:=Mz r id;let z4:List Blk:=[.cells [.seq .shp r.msgs]];(.seg [.at 0,.keep [1,2,5,6],.sel [0]] (.loop z3 fun q1=>let z1:S:= .v (vI (((q1.i:Nat):Int)+1));.br (.intro (Sx (r.msgs[q1.i]?)) fun x1=> .seg [.el .shp x1] (.br (.seg [.as 23 (.v (vI (q1.n+1))),.as 13 z1,.at 0,.keep [1,2,5,6],.sel [0]] (.next)) (.seg [.as 13 z1,.at 0,.keep [1,2,5,6],.sel [0]] (.next)))) (.leaf () [])),z3.Has [(1,.v (vI id)),(2,.v (vP 0)),(5,.v (vI 0)),(6,.v (vI 0))] z4∧∀q1,z3.inv q1→(let z2:=((q1.i:Nat):Int);Bc (decide (z2<((List.length r.msgs:Nat):Int))) (El (r.msgs[q1.i]?) fun x1=>((r.msgs[q1.i]? =some x1)∧((0:Int)≤z2)∧Bc (decide (x1.id<id)) ((wI (q1.n+1))∧(wI (z2+1))∧z3.Nxt q1 [(1,.v (vI id)),(2,.v (vP 0)),(5,.v (vI (q1.n+1))),(6,.v (vI (z2+1)))] z4) ((wI (z2+1))∧z3.Nxt q1 [(1,.v (vI id)),(2,.v (vP 0)),(5,.v (vI q1.n)),(6,.v (vI (z2+1)))] z4))) (Lf (.v (vI q1.n)) (.v (vI ((Xe (r).msgs id:Nat):Int))) [] [])))) Q4 ?_
 refine⟨Bj (j:=(⟨0,0⟩:Qh)) Q9 rfl (by dsimp only[Mz];exact⟨by omega,by simp[Xe]⟩),fun (q1:Qh) hq_q1=>?_⟩
 have hi_q1:q1.i≤List.length r.msgs∧q1.n=((Xe (List.take q1.i r.msgs) id:Nat):Int):=hq_q1
 obtain ⟨v1,v2⟩:=hi_q1
 refine dsp (fun h1 p1=>?_) fun h1 p1=>?_
 refine⟨(Bm (l:=r.msgs) (i:=q1.i) Q2),fun x1 hx1=>?_⟩
 have hrk:=Am5 (List.take q1.i r.msgs) id
 have hrl:(List.take q1.i r.msgs).length≤q1.i:=by rw[List.length_take];omega
 refine⟨hx1,Q2,dsp (fun h2 p2=>?_) fun h2 p2=>?_⟩
 exact⟨(Ad Q2 Q2),(Ad Q2 Q2),A5 (j:=(⟨q1.n+1,q1.i+1⟩:Qh)) Q9 rfl (by dsimp only[Mz];exact⟨by omega,by rw[Abh hx1];split<;>omega⟩) (by dsimp only[Mz];omega)⟩
 exact⟨(Ad Q2 Q2),A5 (j:=(⟨q1.n,q1.i+1⟩:Qh)) Q9 rfl (by dsimp only[Mz];exact⟨by omega,by rw[Abh hx1];split<;>omega⟩) (by dsimp only[Mz];omega)⟩
 have hin:List.take q1.i r.msgs=r.msgs:=List.take_of_length_le (by omega)
 rw[hin] at v2
 refine⟨(sI ?_),rfl⟩
 rotate_left
 all_goals first|((rw[v2];done))|((exact v2))|(omega)
theorem Ah9 {l:List Fld} {f g:Fld} {k:Nat} (h:g∈(([]++List.take k l)++[f])++List.drop k l):g=f∨g∈l:=by
 simp only[List.nil_append,List.mem_append,List.mem_singleton] at h
 rcases h with (h|h)|h
 ·exact .inr (List.mem_of_mem_take h)
 ·exact .inl h
 ·exact .inr (List.mem_of_mem_drop h)
structure Xf where
 o:List Fld
def Acw (l:List Fld) (f:Fld) (o:Xf):Prop:=Fun Tryz.prog 220 [.c (.seq .fld l),.agg (Gb f)] [] (.v (vO 0)) [.lst .fld o.o]
def Xg (l:List Fld) (f:Fld) (o:Xf):Prop:=((List.length o.o=List.length l+1)∧(∀g∈o.o,g=f∨g∈l))∧Acw l f o
structure Vv where
 k:Nat
def Vw (l:List Fld) (f:Fld):Fam:=⟨Vv,fun q1=>[(0,.v (.c (.seq .fld l))),(3,.v (vP 0)),(5,.v (vI ((q1.k:Nat):Int)))],fun _=>[.cells (Gb f)],fun q1=>q1.k≤List.length l,fun q1=>List.length l-q1.k⟩
theorem Aon (l:List Fld) (f:Fld) (hp1:List.length l≤1000): ∃o:Xf,Xg l f o:=by
 have hN:A8=274877906944:=rfl
 refine B4 Tryz.func220 Q4 Q4 (w:=let z7:=((List.length l:Nat):Int);let z8:=Vw l f;(.seg [.at 0,.keep [0,3,5],.sel [0]] (.loop z8 fun q1=>let z1:=(([]:List Fld)++(List.take q1.k l))++[f];.case (decide (((q1.k:Nat):Int)<z7)) (.intro (Sx (l[q1.k]?)) fun x1=> .seg [.ord (os 14 []) [],.br true,.el .fld x1] (.br (.seg [.as 22 (.v (vI (((q1.k:Nat):Int)+1))),.at 0,.keep [0,3,5],.sel [0]] (.next)) (.seg [.ty .fld,.ty .fld,.ord [(0,true),(1,true),(4,true),(5,true),(6,true),(2,false),(3,false),(7,false),(8,true)] [2],.ty .fld,.ty .fld,.ty .fld] (.leaf (⟨z1++(List.drop q1.k l)⟩:Xf) [5])))) (.seg [.ord (os 14 []) [],.br false,.ty .fld,.ty .fld,.ord [(0,true),(1,true),(4,true),(5,true),(6,true),(2,false),(3,false),(7,false),(8,true)] [2],.ty .fld,.ty .fld,.ty .fld] (.leaf (⟨z1++(List.drop q1.k l)⟩:Xf) [5]))),z8.Has [(0,.v (.c (.seq .fld l))),(3,.v (vP 0)),(5,.v (vI 0))] [.cells (Gb f)]∧∀q1,z8.inv q1→(let z3:=((q1.k:Nat):Int);let z4:=([]:List Fld)++(List.take q1.k l);let z2:=(z4++[f])++(List.drop q1.k l);let z5:=List.length ([]:List Fld)+List.length (List.take q1.k l)≤A8;let z6:=List.length (z4++[f])+List.length (List.drop q1.k l)≤A8;Bc (decide (z3<z7)) (El (l[q1.k]?) fun x1=>(((decide (z3<z7))=true)∧(l[q1.k]? =some x1)∧((0:Int)≤z3)∧(l[q1.k]? =some x1)∧((0:Int)≤z3)∧Bc (decide (x1.number<f.number)) ((wI (z3+1))∧z8.Nxt q1 [(0,.v (.c (.seq .fld l))),(3,.v (vP 0)),(5,.v (vI (z3+1)))] [.cells (Gb f)]) ((z3≤z7)∧((0:Int)≤z3)∧z5∧(z3≤z7)∧((0:Int)≤z3)∧(z3≤z7)∧((0:Int)≤z3)∧(List.length z4+List.length [f]≤A8)∧z6∧((List.length z2=List.length l+1)∧(∀g∈z2,g=f∨g∈l))∧Lf (.v (vO 0)) (.v (vO 0)) [.lst .fld z2] [.lst .fld z2]))) (((decide (z3<z7))=false)∧(z3≤z7)∧((0:Int)≤z3)∧z5∧(z3≤z7)∧((0:Int)≤z3)∧(z3≤z7)∧((0:Int)≤z3)∧(List.length z4+List.length [f]≤A8)∧z6∧((List.length z2=List.length l+1)∧(∀g∈z2,g=f∨g∈l))∧Lf (.v (vO 0)) (.v (vO 0)) [.lst .fld z2] [.lst .fld z2])))) Q4 ?_
 refine⟨Bj (j:=(⟨0⟩:Vv)) Q9 rfl (by dsimp only[Vw];omega),fun (q1:Vv) hq_q1=>?_⟩
 have hi_q1:q1.k≤List.length l:=hq_q1
 have v1:=hi_q1
 refine dsp (fun h1 p1=>?_) fun h1 p1=>?_
 refine⟨(Bm (l:=l) (i:=q1.k) Q2),fun x1 hx1=>?_⟩
 refine⟨h1,hx1,Q2,hx1,Q2,dsp (fun h2 p2=>?_) fun h2 p2=>?_⟩
 exact⟨(Ad Q2 Q2),A5 (j:=(⟨q1.k+1⟩:Vv)) Q9 rfl (by dsimp only[Vw];omega) (by dsimp only[Vw];omega)⟩
 exact⟨Q2,Q2,(by simp only[List.length_take,List.length_cons,List.length_nil];omega),Q2,Q2,Q2,Q2,(by simp;omega),(by simp;omega),⟨(by simp;omega),(fun g hg=>Ah9 hg)⟩,rfl,rfl⟩
 exact⟨h1,Q2,Q2,(by simp only[List.length_take,List.length_cons,List.length_nil];omega),Q2,Q2,Q2,Q2,(by simp;omega),(by simp;omega),⟨(by simp;omega),(fun g hg=>Ah9 hg)⟩,rfl,rfl⟩
def Apj (n:Nat) (f:Fld):Prop:=1≤f.kind∧f.kind≤8∧(f.kind=8→0≤f.msg∧f.msg<(n:Int))∧f.number≠44
theorem Ajz {n m:Nat} {e:Shp} (h:e∈List.replicate m (⟨0,[]⟩:Shp)):Ak2 n e:=by
 rw[List.eq_of_mem_replicate h]
 exact⟨⟨by simp,by decide⟩,fun f hf=>by cases hf⟩
theorem Aj0 {n k:Nat} {l:List Shp} {x e:Shp} (h: ∀e∈l,Ak2 n e) (hx:Ak2 n x) (he:e∈l.set k x):Ak2 n e:=by
 rcases List.mem_or_eq_of_mem_set he with he|rfl
 ·exact h e he
 ·exact hx
theorem Gm {l:List Shp} {i:Nat} {x:Shp} (h:l[i]? =some x):l.set i ⟨x.id,x.fields⟩=l:=by
 apply List.ext_getElem?
 intro j
 rw[List.getElem?_set]
 split
 ·rename_i hij
  subst hij
  rw[if_pos (List.getElem?_eq_some_iff.1 h).1,h]
 ·rfl
theorem Aia {l:List Shp} {i:Nat} {x:Int} (hl:G7 l=List.take i [5,1,99]) (hi:i<3) (hx:([5,1,99,7]:List Int)[i]? =some x):G7 (l++[⟨x,[]⟩])=List.take (i+1) [5,1,99]:=by
 have:G7 (l++[⟨x,[]⟩])=G7 l++[x]:=by simp[G7]
 rw[this,hl]
 have h3:i=0∨i=1∨i=2:=by omega
 rcases h3 with rfl|rfl|rfl<;>simp at hx<;>subst hx<;>rfl
theorem Aib {n:Nat} {l:List Shp} (h1:l.length=n) (h2:1≤n∧n≤3) (h3:G7 l=List.take n [5,1,99]) (h4: ∀m∈l,m.fields=[]):RawK n l:=
 ⟨h1,h2,h3,fun m hm=>by rw[h4 m hm];exact⟨by simp,by simp[Air],fun f hf=>by cases hf⟩⟩
theorem Am7 {l:List Shp} {i j:Nat} {x m:Shp} (h: ∀j m,i<j→l[j]? =some m→m.fields=[]) (hj:i<j) (hm:(l.set i x)[j]? =some m):m.fields=[]:=by
 rw[List.getElem?_set_ne (by omega)] at hm
 exact h j m hj hm
structure N9 where
 l:List Shp
def Xh (r:Raw) (o:N9):Prop:=Fun Tryz.prog 196 [.agg [.seq .shp r.msgs]] [] (.tup [.agg [.own 0],.agg [.int .i64 0,.int .i64 0,.int .i64 0]]) [.tree o.l]
def Si (r:Raw) (o:N9):Prop:=((SchG o.l))∧Xh r o
structure Jo where
 shapes:List Shp
 i:Nat
def L9 (r:Raw):Fam:=⟨Jo,fun q1=>[(1,.v (vP 0)),(2,.v (vP 1)),(3,.v (vP 2)),(4,.v (vP 3)),(5,.v (vP 4)),(6,.v (vI ((q1.i:Nat):Int)))],fun q1=>[.cells [.seq .shp r.msgs],.cells [.nil],.cells [.int .i64 0,.int .i64 0,.int .i64 0],.cells [.int .i64 0,.int .i64 0,.int .i64 0],.cells [.own 5],.tree q1.shapes],fun q1=>q1.i≤List.length r.msgs∧List.length q1.shapes=List.length r.msgs∧∀e∈q1.shapes,Ak2 (List.length r.msgs) e,fun q1=>List.length r.msgs-q1.i⟩
structure Jp where
 x:Shp
 k:Nat
def Fx (r:Raw) (q1:Jo) (x1:Shp):Fam:=⟨Jp,fun q2=>[(1,.v (vP 0)),(2,.v (vP 1)),(3,.v (vP 2)),(4,.v (vP 3)),(5,.v (vP 4)),(6,.v (vI ((q1.i:Nat):Int))),(7,.v (vP 6)),(8,.v (vI ((q2.k:Nat):Int)))],fun q2=>[.cells [.seq .shp r.msgs],.cells [.nil],.cells [.int .i64 0,.int .i64 0,.int .i64 0],.cells [.int .i64 0,.int .i64 0,.int .i64 0],.cells [.own 5],.tree q1.shapes,.cells [.int .i64 q2.x.id,.own 7],.lst .fld q2.x.fields],fun q2=>q2.k≤List.length x1.fields∧(q2.x).id=x1.id∧List.length (q2.x).fields=q2.k∧∀f∈(q2.x).fields,Apj (List.length r.msgs) f,fun q2=>List.length x1.fields-q2.k⟩
theorem Aic (r:Raw) (hp1:RawK (List.length (r).msgs) (r).msgs): ∃o:N9,Si r o:=by
 have hN:A8=274877906944:=rfl
 have hpos:=hp1.pos
 refine B4 Tryz.func196 Q4 Q4 (w:=let zi:Int→C:= .int .i64;let z11:=((List.length r.msgs:Nat):Int);let z12:S:= .tup [.agg [.own 0],.agg [zi 0,zi 0,zi 0]];let z13:S:= .v (.agg [zi 0,zi 0,zi 0]);let z14:=L9 r;(.seg [.call [] z13 [],.br false,.tyT,.at 0,.keep [1,2,3,4,5,6],.sel [0,1,2,3,5,4]] (.loop z14 fun q1=> .br (.intro (Sx (r.msgs[q1.i]?)) fun x1=> .seg [.el .shp x1,.at 0,.mk 6 1 .fld,.keep [1,2,3,4,5,6,7,8],.sel [0,1,2,3,4,5,6,7]] (.loop (Fx r q1 x1) fun q2=>let z5:S:= .v (vI (((q2.k:Nat):Int)+1));.seg [.el .shp x1] (.br (.seg [.el .shp x1] (.intro (Sx (x1.fields[q2.k]?)) fun x2=>let z1:=((Xe (r).msgs x2.msg:Nat):Int);.seg [.el .fld x2] (.br (.seg [.call [] (.v (vI z1)) []] (.intro (Xg q2.x.fields (⟨x2.number,x2.kind,x2.rep,x2.packed,z1⟩:Fld)) fun o1=> .seg [.call [] (.v (vO 0)) [.lst .fld o1.o],.as 47 z5,.at 0,.keep [1,2,3,4,5,6,7,8],.sel [0,1,2,3,4,5,6,10]] (.next))) (.intro (Xg q2.x.fields (⟨x2.number,x2.kind,x2.rep,x2.packed,(-1)⟩:Fld)) fun o1=> .seg [.call [] (.v (vO 0)) [.lst .fld o1.o],.as 47 z5,.at 0,.keep [1,2,3,4,5,6,7,8],.sel [0,1,2,3,4,5,6,10]] (.next))))) (.intro (Sx (q1.shapes[Xe (r).msgs q2.x.id]?)) fun x2=> .seg [.ord [(0,true),(1,true),(2,true),(3,true),(4,true),(6,true),(5,false),(7,true),(8,false)] [],.call [] (.v (vI ((Xe (r).msgs q2.x.id:Nat):Int))) [],.el .shp x2,.as 29 (.v (vI (((q1.i:Nat):Int)+1))),.at 0,.keep [1,2,3,4,5,6],.sel [0,1,2,3,4,5]] (.next))))) (.seg [.ord (os 4 [2,3]) [1]] (.leaf (⟨q1.shapes⟩:N9) [5]))),(Fp 218 [.agg [.seq .shp r.msgs]] [] z13 [])∧((!decide (0=0))=false)∧(z11≤9223372036854775807)∧(((32:Nat):Int)*z11≤281474976710656)∧(z11≤z11)∧((0:Int)≤z11)∧z14.Has [(1,.v (vP 0)),(2,.v (vP 1)),(3,.v (vP 2)),(4,.v (vP 3)),(5,.v (vP 4)),(6,.v (vI 0))] [.cells [.seq .shp r.msgs],.cells [.nil],.cells [zi 0,zi 0,zi 0],.cells [zi 0,zi 0,zi 0],.cells [.own 5],.tree (List.replicate (List.length r.msgs) (⟨0,([]:List Fld)⟩:Shp))]∧∀q1,z14.inv q1→(let z10:=((q1.i:Nat):Int);Bc (decide (z10<z11)) (El (r.msgs[q1.i]?) fun x1=>(let z8:=Fx r q1 x1;let z9:=r.msgs[q1.i]? =some x1;z9∧((0:Int)≤z10)∧z8.Has [(1,.v (vP 0)),(2,.v (vP 1)),(3,.v (vP 2)),(4,.v (vP 3)),(5,.v (vP 4)),(6,.v (vI z10)),(7,.v (vP 6)),(8,.v (vI 0))] [.cells [.seq .shp r.msgs],.cells [.nil],.cells [zi 0,zi 0,zi 0],.cells [zi 0,zi 0,zi 0],.cells [.own 5],.tree q1.shapes,.cells [zi x1.id,.own 7],.lst .fld ([]:List Fld)]∧∀q2,z8.inv q2→(let z6:=((q2.k:Nat):Int);let z7:=((Xe (r).msgs q2.x.id:Nat):Int);z9∧((0:Int)≤z10)∧Bc (decide (z6<((List.length x1.fields:Nat):Int))) (z9∧((0:Int)≤z10)∧El (x1.fields[q2.k]?) fun x2=>(let z3:=(⟨x2.number,x2.kind,x2.rep,x2.packed,(-1)⟩:Fld);let z4:=((Xe (r).msgs x2.msg:Nat):Int);let z2:=(⟨x2.number,x2.kind,x2.rep,x2.packed,z4⟩:Fld);(x1.fields[q2.k]? =some x2)∧((0:Int)≤z6)∧Bc (decide (x2.kind=8)) ((Fp 219 [.agg [.seq .shp r.msgs],vI x2.msg] [] (.v (vI z4)) [])∧In (Xg q2.x.fields z2) fun o1=>((Acw q2.x.fields z2 o1)∧(wI (z6+1))∧z8.Nxt q2 [(1,.v (vP 0)),(2,.v (vP 1)),(3,.v (vP 2)),(4,.v (vP 3)),(5,.v (vP 4)),(6,.v (vI z10)),(7,.v (vP 6)),(8,.v (vI (z6+1)))] [.cells [.seq .shp r.msgs],.cells [.nil],.cells [zi 0,zi 0,zi 0],.cells [zi 0,zi 0,zi 0],.cells [.own 5],.tree q1.shapes,.cells [zi q2.x.id,.own 7],.lst .fld o1.o])) (In (Xg q2.x.fields z3) fun o1=>((Acw q2.x.fields z3 o1)∧(wI (z6+1))∧z8.Nxt q2 [(1,.v (vP 0)),(2,.v (vP 1)),(3,.v (vP 2)),(4,.v (vP 3)),(5,.v (vP 4)),(6,.v (vI z10)),(7,.v (vP 6)),(8,.v (vI (z6+1)))] [.cells [.seq .shp r.msgs],.cells [.nil],.cells [zi 0,zi 0,zi 0],.cells [zi 0,zi 0,zi 0],.cells [.own 5],.tree q1.shapes,.cells [zi q2.x.id,.own 7],.lst .fld o1.o])))) (El (q1.shapes[Xe (r).msgs q2.x.id]?) fun x2=>((Fp 219 [.agg [.seq .shp r.msgs],vI q2.x.id] [] (.v (vI z7)) [])∧(z7<((List.length q1.shapes:Nat):Int))∧((0:Int)≤z7)∧(q1.shapes[Xe (r).msgs q2.x.id]? =some x2)∧(wI (z10+1))∧z14.Nxt q1 [(1,.v (vP 0)),(2,.v (vP 1)),(3,.v (vP 2)),(4,.v (vP 3)),(5,.v (vP 4)),(6,.v (vI (z10+1)))] [.cells [.seq .shp r.msgs],.cells [.nil],.cells [zi 0,zi 0,zi 0],.cells [zi 0,zi 0,zi 0],.cells [.own 5],.tree (List.set q1.shapes (Xe (r).msgs q2.x.id) (⟨q2.x.id,q2.x.fields⟩:Shp))]))))) (((SchG q1.shapes))∧Lf z12 z12 [.tree q1.shapes] [.tree q1.shapes])))) Q4 ?_
 refine⟨(Am6 r Q2),Q30,Q2,Q2,Q2,Q2,Bj (j:=(⟨List.replicate (List.length r.msgs) (⟨0,([]:List Fld)⟩:Shp),0⟩:Jo)) Q9 rfl (by dsimp only[L9];exact⟨by omega,by simp,fun e he=>Ajz he⟩),fun (q1:Jo) hq_q1=>?_⟩
 have hi_q1:q1.i≤List.length r.msgs∧List.length q1.shapes=List.length r.msgs∧∀e∈q1.shapes,Ak2 (List.length r.msgs) e:=hq_q1
 obtain ⟨v1,v2,v3⟩:=hi_q1
 refine dsp (fun h1 p1=>?_) fun h1 p1=>?_
 refine⟨(Bm (l:=r.msgs) (i:=q1.i) Q2),fun x1 hx1=>?_⟩
 have hfg:=hp1.flds _ (List.mem_of_getElem? hx1)
 have hfl:=hfg.len
 have hmi:x1.id∈G7 r.msgs:=List.mem_map.2 ⟨_,List.mem_of_getElem? hx1,rfl⟩
 have hrl:=Ah7 hmi
 have h55:=hp1.no55 hmi
 refine⟨hx1,Q2,Bj (j:=(⟨(⟨x1.id,([]:List Fld)⟩:Shp),0⟩:Jp)) Q9 Q9 (by dsimp only[Fx];exact⟨by omega,rfl,rfl,fun f hf=>by cases hf⟩),fun (q2:Jp) hq_q2=>?_⟩
 have hi_q2:q2.k≤List.length x1.fields∧(q2.x).id=x1.id∧List.length (q2.x).fields=q2.k∧∀f∈(q2.x).fields,Apj (List.length r.msgs) f:=hq_q2
 obtain ⟨w1,w2,w3,w4⟩:=hi_q2
 refine⟨hx1,Q2,dsp (fun h2 p2=>?_) fun h2 p2=>?_⟩
 refine⟨hx1,Q2,(Bm (l:=x1.fields) (i:=q2.k) Q2),fun x2 hx2=>?_⟩
 have hg:=hfg.all _ (List.mem_of_getElem? hx2)
 have hgk:=hg.kd
 refine⟨hx2,Q2,dsp (fun h3 p3=>?_) fun h3 p3=>?_⟩
 have hir:=Ah7 (hg.ref (by omega))
 refine⟨(Ak3 r _ Q2),(Aon q2.x.fields (⟨x2.number,x2.kind,x2.rep,x2.packed,((Xe (r).msgs x2.msg:Nat):Int)⟩:Fld) Q2),fun o1 ho_o1=>?_⟩
 obtain ⟨⟨hp_o1_0,hp_o1_1⟩,hf_o1⟩:=ho_o1
 exact⟨hf_o1,(Ad Q2 Q2),A5 (j:=(⟨(⟨q2.x.id,o1.o⟩:Shp),q2.k+1⟩:Jp)) Q9 Q9 (by dsimp only[Fx];exact⟨by omega,w2,by omega,fun f hf=>by
          rcases hp_o1_1 f hf with rfl|hf
          ·exact⟨by dsimp only;omega,by dsimp only;omega,fun h8=>by dsimp only at h8 ⊢;omega,by dsimp only;exact hg.n44⟩
          ·exact w4 f hf⟩) (by dsimp only[Fx];omega)⟩
 refine⟨(Aon q2.x.fields (⟨x2.number,x2.kind,x2.rep,x2.packed,(-1)⟩:Fld) Q2),fun o1 ho_o1=>?_⟩
 obtain ⟨⟨hp_o1_0,hp_o1_1⟩,hf_o1⟩:=ho_o1
 exact⟨hf_o1,(Ad Q2 Q2),A5 (j:=(⟨(⟨q2.x.id,o1.o⟩:Shp),q2.k+1⟩:Jp)) Q9 Q9 (by dsimp only[Fx];exact⟨by omega,w2,by omega,fun f hf=>by
          rcases hp_o1_1 f hf with rfl|hf
          ·exact⟨by dsimp only;omega,by dsimp only;omega,fun h8=>by dsimp only at h8 ⊢;omega,by dsimp only;exact hg.n44⟩
          ·exact w4 f hf⟩) (by dsimp only[Fx];omega)⟩
 have hxg:Ak2 (List.length r.msgs) q2.x:=⟨⟨by omega,by rw[w2];exact h55⟩,w4⟩
 have hrx:Xe r.msgs q2.x.id<List.length r.msgs:=by rw[w2];exact hrl
 refine⟨(Bm (l:=q1.shapes) (i:=Xe (r).msgs q2.x.id) Q2),fun x2 hx2=>?_⟩
 exact⟨(Ak3 r _ Q2),Q2,Q2,hx2,(Ad Q2 Q2),A5 (j:=(⟨List.set q1.shapes (Xe (r).msgs q2.x.id) (⟨q2.x.id,q2.x.fields⟩:Shp),q1.i+1⟩:Jo)) Q9 rfl (by dsimp only[L9];exact⟨by omega,by rw[List.length_set];exact v2,fun e he=>Aj0 v3 hxg he⟩) (by dsimp only[L9];omega)⟩
 have hsg:SchG q1.shapes:=⟨by omega,fun e he=>by rw[v2];exact v3 e he⟩
 exact⟨(hsg),rfl,rfl⟩
theorem Abj {n:Int} (h:1≤n∧n≤18999∨20000≤n∧n≤536870911):Dq n=true:=by
 simp only[Dq,Ak,Bool.and_eq_true,Bool.not_eq_true',Bool.and_eq_false_iff,decide_eq_true_eq,decide_eq_false_iff_not]
 omega
theorem Ao9 {x:Int} (h:x∈([16,2047,2048,18999,20000,536870911]:List Int)):1≤x∧x≤18999∨20000≤x∧x≤536870911:=by
 simp at h
 omega
theorem Afe {k:Int} (h:Db k=true):k≤5:=by
 simp only[Db,Ak,Bool.and_eq_true,decide_eq_true_eq] at h
 omega
theorem Aj1 {l:List Shp} {i:Nat} {x m:Shp} {k:Nat} (hx:x.fields.length≤k) (hm:(l.set i x)[i]? =some m):m.fields.length≤k:=by
 rw[List.getElem?_set] at hm
 simp at hm
 obtain ⟨_,rfl⟩:=hm
 exact hx
theorem Aoo {x:Int} (h:x∈([16,2047,2048,18999,20000,536870911]:List Int)):x≠44:=by
 simp at h
 omega
structure Pa where
 r:Raw
 c1:Cur
def Xi (c:Cur) (o:Pa):Prop:=Fun Tryz.prog 197 [vP 0] [.cells (B2 c)] (.v (.agg [.own 1])) [.cells (B2 o.c1),.tree o.r.msgs]
def Sj (c:Cur) (o:Pa):Prop:=((RawK (List.length (o.r).msgs) (o.r).msgs)∧(Au o.c1))∧Xi c o
structure Ma where
 c:Cur
 msgs:List Shp
 i:Nat
def Fy (o1:Cm):Fam:=⟨Ma,fun q1=>[(0,.v (vP 0)),(2,.v (vP 1)),(3,.v (vP 2)),(4,.v (vI (1+o1.x))),(5,.v (vI ((q1.i:Nat):Int)))],fun q1=>[.cells (B2 q1.c),.cells [.nil],.cells [.own 3],.tree q1.msgs],fun q1=>Au q1.c∧((q1.i:Nat):Int)≤1+o1.x∧List.length q1.msgs=q1.i∧G7 q1.msgs=List.take q1.i [5,1,99]∧∀m∈q1.msgs,m.fields=[],fun q1=>3-q1.i⟩
structure Jq where
 c:Cur
 msgs:List Shp
 i:Nat
def Fz (o1:Cm):Fam:=⟨Jq,fun q2=>[(0,.v (vP 0)),(2,.v (vP 1)),(3,.v (vP 2)),(4,.v (vI (1+o1.x))),(6,.v (vI ((q2.i:Nat):Int)))],fun q2=>[.cells (B2 q2.c),.cells [.nil],.cells [.own 3],.tree q2.msgs],fun q2=>Au q2.c∧q2.i≤Int.toNat (1+o1.x)∧RawK (Int.toNat (1+o1.x)) q2.msgs∧∀j m,q2.i≤j→q2.msgs[j]? =some m→m.fields=[],fun q2=>3-q2.i⟩
structure Bp where
 c:Cur
 msgs:List Shp
 k:Nat
def Jr (o1:Cm) (q2:Jq) (o2:Cm):Fam:=⟨Bp,fun q3=>[(0,.v (vP 0)),(2,.v (vP 1)),(3,.v (vP 2)),(4,.v (vI (1+o1.x))),(6,.v (vI ((q2.i:Nat):Int))),(7,.v (vI o2.x)),(8,.v (vI ((q3.k:Nat):Int)))],fun q3=>[.cells (B2 q3.c),.cells [.nil],.cells [.own 3],.tree q3.msgs],fun q3=>Au q3.c∧q3.k≤5∧RawK (Int.toNat (1+o1.x)) q3.msgs∧(∀j m,q2.i<j→q3.msgs[j]? =some m→m.fields=[])∧∀m,q3.msgs[q2.i]? =some m→List.length m.fields≤q3.k,fun q3=>5-q3.k⟩
theorem Aid (c:Cur) (hp1:Au c): ∃o:Pa,Sj c o:=by
 have hN:A8=274877906944:=rfl
 refine B4 Tryz.func197 Q4 Q4 (w:=let z80:=fr (.first 9 (.two 8 (.one 10 (.one 11 (.first 12 (.first 13 (.one 14 (.done)))))) 10 (.one 8 (.one 11 (.first 12 (.first 13 (.one 14 (.done)))))))) 0 8;let z81:=fr (.one 4 (.first 5 (.first 6 (.one 7 (.first 8 (.one 9 (.done))))))) 0 4;let z82:=os 10 [8];(.intro (Aa c 3) fun o1=>let z77:=1+o1.x;.seg [.call [0] (.v (vI o1.x)) (Kc o1.c1),.as 13 (.v (vI z77)),.at 0,.mkT 2 0,.keep [0,2,3,4,5],.sel [0,1,2,3]] (.loop (Fy o1) fun q1=> .br (.intro (Sx ([5,1,99,7][q1.i]?)) fun x1=> .seg [.tree (.first 0 (.first 1 (.first 3 (.one 2 (.first 4 (.one 5 (.first 6 (.one 7 (.one 8 (.first 9 (.one 10 (.done)))))))))))) 10 [3],.ty .int,.el .int x1,.tyT,.tyT,.at 0,.keep [0,2,3,4,5],.sel [0,1,2,6],.as 18 (.v (vI (((q1.i:Nat):Int)+1))),.at 0,.keep [0,2,3,4,5],.sel [0,1,2,3]] (.next)) (.seg [.at 0,.keep [0,2,3,4,6],.sel [0,1,2,3]] (.loop (Fz o1) fun q2=> .br (.intro (Aa q2.c 6) fun o2=> .seg [.call [0] (.v (vI o2.x)) (Kc o2.c1),.at 0,.keep [0,2,3,4,6,7,8],.sel [0,1,2,3]] (.loop (Jr o1 q2 o2) fun q3=>let z63:S:= .v (vI (((q3.k:Nat):Int)+1));let z64:=Sx (q3.msgs[q2.i]?);.br (.intro (Aa q3.c 12) fun o3=>let z61:=1+o3.x;.seg [.call [0] (.v (vI o3.x)) (Kc o3.c1),.as 43 (.v (vI z61))] (.intro (Aa o3.c1 8) fun o4=> .seg [.call [0] (.v (vI o4.x)) (Kc o4.c1),.as 46 (.v (vI (1+o4.x)))] (.intro (Ap o4.c1 2) fun o5=> .seg [.call [0] (.v (vB o5.p)) (Kc o5.c1)] (.intro (Ap o5.c1 12) fun o6=> .seg [.call [0] (.v (vB o6.p)) (Kc o6.c1)] (.br (.seg [.ty .int,.pubS 53] (.intro (A1 o6.c1 [16,2047,2048,18999,20000,536870911]) fun o7=> .seg [.call [0] (.v (vI o7.x)) (Kc o7.c1)] (.br (.seg [.call [] (.v (vB (Db (1+o4.x)))) []] (.br (.intro (Ap o7.c1 2) fun o8=> .seg [.call [0] (.v (vB o8.p)) (Kc o8.c1)] (.br (.intro (Aa o8.c1 z77) fun o9=> .intro (Sx (q3.msgs[Int.toNat o9.x]?)) fun x1=> .seg [.tree z81 9 [0],.call [0] (.v (vI o9.x)) (Kc o9.c1),.el .shp x1,.at 0,.keep [0,2,3,4,6,7,8,9],.sel [0,1,2,3,4]] (.intro z64 fun x2=> .take 20 3 q2.i x2 (.seg [.ord z82 [],.call [] (.v (vB (Ck x2.fields o7.x))) []] (.br (.seg [.tree z80 14 [5],.ty .fld,.ty .fld,.el .shp x2,.at 0,.keep [0,2,3,4,6,7,8],.sel [0,1,2,3],.ty .fld,.ty .fld,.el .shp x2,.at 0,.keep [0,2,3,4,6,7,8],.sel [0,1,2,3],.as 40 z63,.at 0,.keep [0,2,3,4,6,7,8],.sel [0,1,2,3]] (.next)) (.give 13 3 x2 (.seg [.as 40 z63,.at 0,.keep [0,2,3,4,6,7,8],.sel [0,1,2,3]] (.next))))))) (.intro z64 fun x1=> .take 20 3 q2.i x1 (.seg [.ord z82 [],.call [] (.v (vB (Ck x1.fields o7.x))) []] (.br (.seg [.tree z80 14 [6],.ty .fld,.ty .fld,.el .shp x1,.at 0,.keep [0,2,3,4,6,7,8],.sel [0,1,2,3],.ty .fld,.ty .fld,.el .shp x1,.at 0,.keep [0,2,3,4,6,7,8],.sel [0,1,2,3],.as 40 z63,.at 0,.keep [0,2,3,4,6,7,8],.sel [0,1,2,3]] (.next)) (.give 13 3 x1 (.seg [.as 40 z63,.at 0,.keep [0,2,3,4,6,7,8],.sel [0,1,2,3]] (.next)))))))) (.br (.intro (Aa o7.c1 z77) fun o8=> .intro (Sx (q3.msgs[Int.toNat o8.x]?)) fun x1=> .seg [.tree z81 9 [0],.call [0] (.v (vI o8.x)) (Kc o8.c1),.el .shp x1,.at 0,.keep [0,2,3,4,6,7,8,9],.sel [0,1,2,3,4]] (.intro z64 fun x2=> .take 20 3 q2.i x2 (.seg [.ord z82 [],.call [] (.v (vB (Ck x2.fields o7.x))) []] (.br (.seg [.tree z80 14 [5],.ty .fld,.ty .fld,.el .shp x2,.at 0,.keep [0,2,3,4,6,7,8],.sel [0,1,2,3],.ty .fld,.ty .fld,.el .shp x2,.at 0,.keep [0,2,3,4,6,7,8],.sel [0,1,2,3],.as 40 z63,.at 0,.keep [0,2,3,4,6,7,8],.sel [0,1,2,3]] (.next)) (.give 13 3 x2 (.seg [.as 40 z63,.at 0,.keep [0,2,3,4,6,7,8],.sel [0,1,2,3]] (.next))))))) (.intro z64 fun x1=> .take 20 3 q2.i x1 (.seg [.ord z82 [],.call [] (.v (vB (Ck x1.fields o7.x))) []] (.br (.seg [.tree z80 14 [6],.ty .fld,.ty .fld,.el .shp x1,.at 0,.keep [0,2,3,4,6,7,8],.sel [0,1,2,3],.ty .fld,.ty .fld,.el .shp x1,.at 0,.keep [0,2,3,4,6,7,8],.sel [0,1,2,3],.as 40 z63,.at 0,.keep [0,2,3,4,6,7,8],.sel [0,1,2,3]] (.next)) (.give 13 3 x1 (.seg [.as 40 z63,.at 0,.keep [0,2,3,4,6,7,8],.sel [0,1,2,3]] (.next))))))))) (.br (.intro (Aa o7.c1 z77) fun o8=> .intro (Sx (q3.msgs[Int.toNat o8.x]?)) fun x1=> .seg [.tree z81 9 [0],.call [0] (.v (vI o8.x)) (Kc o8.c1),.el .shp x1,.at 0,.keep [0,2,3,4,6,7,8,9],.sel [0,1,2,3,4]] (.intro z64 fun x2=> .take 20 3 q2.i x2 (.seg [.ord z82 [],.call [] (.v (vB (Ck x2.fields o7.x))) []] (.br (.seg [.tree z80 14 [5],.ty .fld,.ty .fld,.el .shp x2,.at 0,.keep [0,2,3,4,6,7,8],.sel [0,1,2,3],.ty .fld,.ty .fld,.el .shp x2,.at 0,.keep [0,2,3,4,6,7,8],.sel [0,1,2,3],.as 40 z63,.at 0,.keep [0,2,3,4,6,7,8],.sel [0,1,2,3]] (.next)) (.give 13 3 x2 (.seg [.as 40 z63,.at 0,.keep [0,2,3,4,6,7,8],.sel [0,1,2,3]] (.next))))))) (.intro z64 fun x1=> .take 20 3 q2.i x1 (.seg [.ord z82 [],.call [] (.v (vB (Ck x1.fields o7.x))) []] (.br (.seg [.tree z80 14 [6],.ty .fld,.ty .fld,.el .shp x1,.at 0,.keep [0,2,3,4,6,7,8],.sel [0,1,2,3],.ty .fld,.ty .fld,.el .shp x1,.at 0,.keep [0,2,3,4,6,7,8],.sel [0,1,2,3],.as 40 z63,.at 0,.keep [0,2,3,4,6,7,8],.sel [0,1,2,3]] (.next)) (.give 13 3 x1 (.seg [.as 40 z63,.at 0,.keep [0,2,3,4,6,7,8],.sel [0,1,2,3]] (.next)))))))))) (.br (.seg [.call [] (.v (vB (Db (1+o4.x)))) []] (.br (.intro (Ap o6.c1 2) fun o7=> .seg [.call [0] (.v (vB o7.p)) (Kc o7.c1)] (.br (.intro (Aa o7.c1 z77) fun o8=> .intro (Sx (q3.msgs[Int.toNat o8.x]?)) fun x1=> .seg [.tree z81 9 [0],.call [0] (.v (vI o8.x)) (Kc o8.c1),.el .shp x1,.at 0,.keep [0,2,3,4,6,7,8,9],.sel [0,1,2,3,4]] (.intro z64 fun x2=> .take 20 3 q2.i x2 (.seg [.ord z82 [],.call [] (.v (vB (Ck x2.fields z61))) []] (.br (.seg [.tree z80 14 [5],.ty .fld,.ty .fld,.el .shp x2,.at 0,.keep [0,2,3,4,6,7,8],.sel [0,1,2,3],.ty .fld,.ty .fld,.el .shp x2,.at 0,.keep [0,2,3,4,6,7,8],.sel [0,1,2,3],.as 40 z63,.at 0,.keep [0,2,3,4,6,7,8],.sel [0,1,2,3]] (.next)) (.give 13 3 x2 (.seg [.as 40 z63,.at 0,.keep [0,2,3,4,6,7,8],.sel [0,1,2,3]] (.next))))))) (.intro z64 fun x1=> .take 20 3 q2.i x1 (.seg [.ord z82 [],.call [] (.v (vB (Ck x1.fields z61))) []] (.br (.seg [.tree z80 14 [5],.ty .fld,.ty .fld,.el .shp x1,.at 0,.keep [0,2,3,4,6,7,8],.sel [0,1,2,3],.ty .fld,.ty .fld,.el .shp x1,.at 0,.keep [0,2,3,4,6,7,8],.sel [0,1,2,3],.as 40 z63,.at 0,.keep [0,2,3,4,6,7,8],.sel [0,1,2,3]] (.next)) (.give 13 3 x1 (.seg [.as 40 z63,.at 0,.keep [0,2,3,4,6,7,8],.sel [0,1,2,3]] (.next)))))))) (.br (.intro (Aa o6.c1 z77) fun o7=> .intro (Sx (q3.msgs[Int.toNat o7.x]?)) fun x1=> .seg [.tree z81 9 [0],.call [0] (.v (vI o7.x)) (Kc o7.c1),.el .shp x1,.at 0,.keep [0,2,3,4,6,7,8,9],.sel [0,1,2,3,4]] (.intro z64 fun x2=> .take 20 3 q2.i x2 (.seg [.ord z82 [],.call [] (.v (vB (Ck x2.fields z61))) []] (.br (.seg [.tree z80 14 [5],.ty .fld,.ty .fld,.el .shp x2,.at 0,.keep [0,2,3,4,6,7,8],.sel [0,1,2,3],.ty .fld,.ty .fld,.el .shp x2,.at 0,.keep [0,2,3,4,6,7,8],.sel [0,1,2,3],.as 40 z63,.at 0,.keep [0,2,3,4,6,7,8],.sel [0,1,2,3]] (.next)) (.give 13 3 x2 (.seg [.as 40 z63,.at 0,.keep [0,2,3,4,6,7,8],.sel [0,1,2,3]] (.next))))))) (.intro z64 fun x1=> .take 20 3 q2.i x1 (.seg [.ord z82 [],.call [] (.v (vB (Ck x1.fields z61))) []] (.br (.seg [.tree z80 14 [5],.ty .fld,.ty .fld,.el .shp x1,.at 0,.keep [0,2,3,4,6,7,8],.sel [0,1,2,3],.ty .fld,.ty .fld,.el .shp x1,.at 0,.keep [0,2,3,4,6,7,8],.sel [0,1,2,3],.as 40 z63,.at 0,.keep [0,2,3,4,6,7,8],.sel [0,1,2,3]] (.next)) (.give 13 3 x1 (.seg [.as 40 z63,.at 0,.keep [0,2,3,4,6,7,8],.sel [0,1,2,3]] (.next))))))))) (.br (.intro (Aa o6.c1 z77) fun o7=> .intro (Sx (q3.msgs[Int.toNat o7.x]?)) fun x1=> .seg [.tree z81 9 [0],.call [0] (.v (vI o7.x)) (Kc o7.c1),.el .shp x1,.at 0,.keep [0,2,3,4,6,7,8,9],.sel [0,1,2,3,4]] (.intro z64 fun x2=> .take 20 3 q2.i x2 (.seg [.ord z82 [],.call [] (.v (vB (Ck x2.fields z61))) []] (.br (.seg [.tree z80 14 [5],.ty .fld,.ty .fld,.el .shp x2,.at 0,.keep [0,2,3,4,6,7,8],.sel [0,1,2,3],.ty .fld,.ty .fld,.el .shp x2,.at 0,.keep [0,2,3,4,6,7,8],.sel [0,1,2,3],.as 40 z63,.at 0,.keep [0,2,3,4,6,7,8],.sel [0,1,2,3]] (.next)) (.give 13 3 x2 (.seg [.as 40 z63,.at 0,.keep [0,2,3,4,6,7,8],.sel [0,1,2,3]] (.next))))))) (.intro z64 fun x1=> .take 20 3 q2.i x1 (.seg [.ord z82 [],.call [] (.v (vB (Ck x1.fields z61))) []] (.br (.seg [.tree z80 14 [5],.ty .fld,.ty .fld,.el .shp x1,.at 0,.keep [0,2,3,4,6,7,8],.sel [0,1,2,3],.ty .fld,.ty .fld,.el .shp x1,.at 0,.keep [0,2,3,4,6,7,8],.sel [0,1,2,3],.as 40 z63,.at 0,.keep [0,2,3,4,6,7,8],.sel [0,1,2,3]] (.next)) (.give 13 3 x1 (.seg [.as 40 z63,.at 0,.keep [0,2,3,4,6,7,8],.sel [0,1,2,3]] (.next))))))))))))) (.seg [.as 33 (.v (vI (((q2.i:Nat):Int)+1))),.at 0,.keep [0,2,3,4,6],.sel [0,1,2,3]] (.next)))) (.leaf (⟨(⟨q2.msgs⟩:Raw),q2.c⟩:Pa) [0,3])))),In (Aa c 3) fun o1=>(let z79:=1+o1.x;let z78:=vI z79;(Ai c 3 o1)∧(wI z79)∧(Fy o1).Has [(0,.v (vP 0)),(2,.v (vP 1)),(3,.v (vP 2)),(4,.v z78),(5,.v (vI 0))] [.cells (B2 o1.c1),.cells [.nil],.cells [.own 3],.tree ([]:List Shp)]∧∀q1,(Fy o1).inv q1→(let z76:=((q1.i:Nat):Int);Bc (decide (z76<1+o1.x)) (El ([5,1,99,7][q1.i]?) fun x1=>((z76<((List.length [5,1,99,7]:Nat):Int))∧((0:Int)≤z76)∧([5,1,99,7][q1.i]? =some x1)∧(List.length q1.msgs+List.length [(⟨x1,([]:List Fld)⟩:Shp)]≤A8)∧(wI (z76+1))∧(Fy o1).Nxt q1 [(0,.v (vP 0)),(2,.v (vP 1)),(3,.v (vP 2)),(4,.v z78),(5,.v (vI (z76+1)))] [.cells (B2 q1.c),.cells [.nil],.cells [.own 3],.tree (q1.msgs++[(⟨x1,([]:List Fld)⟩:Shp)])])) ((Fz o1).Has [(0,.v (vP 0)),(2,.v (vP 1)),(3,.v (vP 2)),(4,.v z78),(6,.v (vI 0))] [.cells (B2 q1.c),.cells [.nil],.cells [.own 3],.tree q1.msgs]∧∀q2,(Fz o1).inv q2→(let z73:=q2.i=q2.i;let z75:=((q2.i:Nat):Int);let z72:=(0:Int)≤z75;let z74:=vI z75;Bc (decide (z75<1+o1.x)) (In (Aa q2.c 6) fun o2=>(let z71:=Jr o1 q2 o2;(Ai q2.c 6 o2)∧z71.Has [(0,.v (vP 0)),(2,.v (vP 1)),(3,.v (vP 2)),(4,.v z78),(6,.v z74),(7,.v (vI o2.x)),(8,.v (vI 0))] [.cells (B2 o2.c1),.cells [.nil],.cells [.own 3],.tree q2.msgs]∧∀q3,z71.inv q3→(let z68:=q3.msgs[q2.i]?;let z69:=((List.length q3.msgs:Nat):Int);let z65:=z75<z69;let z70:=((q3.k:Nat):Int);let z66:=([(0,.v (vP 0)),(2,.v (vP 1)),(3,.v (vP 2)),(4,.v z78),(6,.v z74),(7,.v (vI o2.x)),(8,.v (vI z70))]:List (Nat×S))=[(0,.v (vP 0)),(2,.v (vP 1)),(3,.v (vP 2)),(4,.v z78),(6,.v z74),(7,.v (vI o2.x)),(8,.v (vI z70))];let z67:=z70+1;Bc (decide (z70<o2.x)) (In (Aa q3.c 12) fun o3=>(let z62:=1+o3.x;(Ai q3.c 12 o3)∧(wI z62)∧In (Aa o3.c1 8) fun o4=>(let z59:=decide (1+o4.x=8);let z60:=Db (1+o4.x);(Ai o3.c1 8 o4)∧(wI (1+o4.x))∧In (Ap o4.c1 2) fun o5=>(let z58:=(⟨1+o3.x,1+o4.x,o5.p,false,0⟩:Fld);(Ba o4.c1 2 o5)∧In (Ap o5.c1 12) fun o6=>((Ba o5.c1 12 o6)∧Bc o6.p (In (A1 o6.c1 [16,2047,2048,18999,20000,536870911]) fun o7=>(let z29:=(⟨o7.x,1+o4.x,o5.p,false,0⟩:Fld);(B5 o6.c1 [16,2047,2048,18999,20000,536870911] o7)∧Bc o5.p ((Fp 158 [vI (1+o4.x)] [] (.v (vB z60)) [])∧Bc z60 (In (Ap o7.c1 2) fun o8=>(let z10:=(⟨o7.x,1+o4.x,o5.p,o8.p,0⟩:Fld);(Ba o7.c1 2 o8)∧Bc z59 (In (Aa o8.c1 z79) fun o9=>(El (q3.msgs[Int.toNat o9.x]?) fun x1=>(let z5:=(⟨o7.x,1+o4.x,o5.p,o8.p,x1.id⟩:Fld);(Ai o8.c1 z79 o9)∧(o9.x<z69)∧((0:Int)≤o9.x)∧(q3.msgs[Int.toNat o9.x]? =some x1)∧El z68 fun x2=>(let z1:List Blk:=[.cells (B2 o9.c1),.cells [.nil],.cells [.own 3],.tree (List.set q3.msgs q2.i (⟨x2.id,x2.fields++[z5]⟩:Shp))];let z2:=z68.map (fun (x:Shp)=>x.fields.length)=some (List.length x2.fields);let z3:=List.length x2.fields+List.length [z5]≤A8;let z4:=q3.msgs[q2.i]? =some x2;z4∧z65∧z72∧z65∧z72∧z73∧z2∧z73∧z2∧(Fp 221 [.c (.seq .fld x2.fields),vI o7.x] [] (.v (vB (Ck x2.fields o7.x))) [])∧Bc (!(Ck x2.fields o7.x)) (z65∧z72∧z65∧z72∧z73∧z2∧z3∧z65∧z72∧z65∧z72∧z73∧z4∧z73∧z2∧z3∧z65∧z72∧z65∧z72∧z73∧z4∧((z1:List Blk)=z1)∧z66∧(wI z67)∧z71.Nxt q3 [(0,.v (vP 0)),(2,.v (vP 1)),(3,.v (vP 2)),(4,.v z78),(6,.v z74),(7,.v (vI o2.x)),(8,.v (vI z67))] z1) ((List.length x2.fields=List.length x2.fields)∧z4∧(wI z67)∧z71.Nxt q3 [(0,.v (vP 0)),(2,.v (vP 1)),(3,.v (vP 2)),(4,.v z78),(6,.v z74),(7,.v (vI o2.x)),(8,.v (vI z67))] [.cells (B2 o9.c1),.cells [.nil],.cells [.own 3],.tree (List.set q3.msgs q2.i (⟨x2.id,x2.fields⟩:Shp))]))))) (El z68 fun x1=>(let z6:List Blk:=[.cells (B2 o8.c1),.cells [.nil],.cells [.own 3],.tree (List.set q3.msgs q2.i (⟨x1.id,x1.fields++[z10]⟩:Shp))];let z7:=z68.map (fun (x:Shp)=>x.fields.length)=some (List.length x1.fields);let z8:=List.length x1.fields+List.length [z10]≤A8;let z9:=q3.msgs[q2.i]? =some x1;z9∧z65∧z72∧z65∧z72∧z73∧z7∧z73∧z7∧(Fp 221 [.c (.seq .fld x1.fields),vI o7.x] [] (.v (vB (Ck x1.fields o7.x))) [])∧Bc (!(Ck x1.fields o7.x)) (z65∧z72∧z65∧z72∧z73∧z7∧z8∧z65∧z72∧z65∧z72∧z73∧z9∧z73∧z7∧z8∧z65∧z72∧z65∧z72∧z73∧z9∧((z6:List Blk)=z6)∧z66∧(wI z67)∧z71.Nxt q3 [(0,.v (vP 0)),(2,.v (vP 1)),(3,.v (vP 2)),(4,.v z78),(6,.v z74),(7,.v (vI o2.x)),(8,.v (vI z67))] z6) ((List.length x1.fields=List.length x1.fields)∧z9∧(wI z67)∧z71.Nxt q3 [(0,.v (vP 0)),(2,.v (vP 1)),(3,.v (vP 2)),(4,.v z78),(6,.v z74),(7,.v (vI o2.x)),(8,.v (vI z67))] [.cells (B2 o8.c1),.cells [.nil],.cells [.own 3],.tree (List.set q3.msgs q2.i (⟨x1.id,x1.fields⟩:Shp))]))))) (Bc z59 (In (Aa o7.c1 z79) fun o8=>(El (q3.msgs[Int.toNat o8.x]?) fun x1=>(let z15:=(⟨o7.x,1+o4.x,o5.p,false,x1.id⟩:Fld);(Ai o7.c1 z79 o8)∧(o8.x<z69)∧((0:Int)≤o8.x)∧(q3.msgs[Int.toNat o8.x]? =some x1)∧El z68 fun x2=>(let z11:List Blk:=[.cells (B2 o8.c1),.cells [.nil],.cells [.own 3],.tree (List.set q3.msgs q2.i (⟨x2.id,x2.fields++[z15]⟩:Shp))];let z12:=z68.map (fun (x:Shp)=>x.fields.length)=some (List.length x2.fields);let z13:=List.length x2.fields+List.length [z15]≤A8;let z14:=q3.msgs[q2.i]? =some x2;z14∧z65∧z72∧z65∧z72∧z73∧z12∧z73∧z12∧(Fp 221 [.c (.seq .fld x2.fields),vI o7.x] [] (.v (vB (Ck x2.fields o7.x))) [])∧Bc (!(Ck x2.fields o7.x)) (z65∧z72∧z65∧z72∧z73∧z12∧z13∧z65∧z72∧z65∧z72∧z73∧z14∧z73∧z12∧z13∧z65∧z72∧z65∧z72∧z73∧z14∧((z11:List Blk)=z11)∧z66∧(wI z67)∧z71.Nxt q3 [(0,.v (vP 0)),(2,.v (vP 1)),(3,.v (vP 2)),(4,.v z78),(6,.v z74),(7,.v (vI o2.x)),(8,.v (vI z67))] z11) ((List.length x2.fields=List.length x2.fields)∧z14∧(wI z67)∧z71.Nxt q3 [(0,.v (vP 0)),(2,.v (vP 1)),(3,.v (vP 2)),(4,.v z78),(6,.v z74),(7,.v (vI o2.x)),(8,.v (vI z67))] [.cells (B2 o8.c1),.cells [.nil],.cells [.own 3],.tree (List.set q3.msgs q2.i (⟨x2.id,x2.fields⟩:Shp))]))))) (El z68 fun x1=>(let z16:List Blk:=[.cells (B2 o7.c1),.cells [.nil],.cells [.own 3],.tree (List.set q3.msgs q2.i (⟨x1.id,x1.fields++[z29]⟩:Shp))];let z17:=z68.map (fun (x:Shp)=>x.fields.length)=some (List.length x1.fields);let z18:=List.length x1.fields+List.length [z29]≤A8;let z19:=q3.msgs[q2.i]? =some x1;z19∧z65∧z72∧z65∧z72∧z73∧z17∧z73∧z17∧(Fp 221 [.c (.seq .fld x1.fields),vI o7.x] [] (.v (vB (Ck x1.fields o7.x))) [])∧Bc (!(Ck x1.fields o7.x)) (z65∧z72∧z65∧z72∧z73∧z17∧z18∧z65∧z72∧z65∧z72∧z73∧z19∧z73∧z17∧z18∧z65∧z72∧z65∧z72∧z73∧z19∧((z16:List Blk)=z16)∧z66∧(wI z67)∧z71.Nxt q3 [(0,.v (vP 0)),(2,.v (vP 1)),(3,.v (vP 2)),(4,.v z78),(6,.v z74),(7,.v (vI o2.x)),(8,.v (vI z67))] z16) ((List.length x1.fields=List.length x1.fields)∧z19∧(wI z67)∧z71.Nxt q3 [(0,.v (vP 0)),(2,.v (vP 1)),(3,.v (vP 2)),(4,.v z78),(6,.v z74),(7,.v (vI o2.x)),(8,.v (vI z67))] [.cells (B2 o7.c1),.cells [.nil],.cells [.own 3],.tree (List.set q3.msgs q2.i (⟨x1.id,x1.fields⟩:Shp))]))))) (Bc z59 (In (Aa o7.c1 z79) fun o8=>(El (q3.msgs[Int.toNat o8.x]?) fun x1=>(let z24:=(⟨o7.x,1+o4.x,o5.p,false,x1.id⟩:Fld);(Ai o7.c1 z79 o8)∧(o8.x<z69)∧((0:Int)≤o8.x)∧(q3.msgs[Int.toNat o8.x]? =some x1)∧El z68 fun x2=>(let z20:List Blk:=[.cells (B2 o8.c1),.cells [.nil],.cells [.own 3],.tree (List.set q3.msgs q2.i (⟨x2.id,x2.fields++[z24]⟩:Shp))];let z21:=z68.map (fun (x:Shp)=>x.fields.length)=some (List.length x2.fields);let z22:=List.length x2.fields+List.length [z24]≤A8;let z23:=q3.msgs[q2.i]? =some x2;z23∧z65∧z72∧z65∧z72∧z73∧z21∧z73∧z21∧(Fp 221 [.c (.seq .fld x2.fields),vI o7.x] [] (.v (vB (Ck x2.fields o7.x))) [])∧Bc (!(Ck x2.fields o7.x)) (z65∧z72∧z65∧z72∧z73∧z21∧z22∧z65∧z72∧z65∧z72∧z73∧z23∧z73∧z21∧z22∧z65∧z72∧z65∧z72∧z73∧z23∧((z20:List Blk)=z20)∧z66∧(wI z67)∧z71.Nxt q3 [(0,.v (vP 0)),(2,.v (vP 1)),(3,.v (vP 2)),(4,.v z78),(6,.v z74),(7,.v (vI o2.x)),(8,.v (vI z67))] z20) ((List.length x2.fields=List.length x2.fields)∧z23∧(wI z67)∧z71.Nxt q3 [(0,.v (vP 0)),(2,.v (vP 1)),(3,.v (vP 2)),(4,.v z78),(6,.v z74),(7,.v (vI o2.x)),(8,.v (vI z67))] [.cells (B2 o8.c1),.cells [.nil],.cells [.own 3],.tree (List.set q3.msgs q2.i (⟨x2.id,x2.fields⟩:Shp))]))))) (El z68 fun x1=>(let z25:List Blk:=[.cells (B2 o7.c1),.cells [.nil],.cells [.own 3],.tree (List.set q3.msgs q2.i (⟨x1.id,x1.fields++[z29]⟩:Shp))];let z26:=z68.map (fun (x:Shp)=>x.fields.length)=some (List.length x1.fields);let z27:=List.length x1.fields+List.length [z29]≤A8;let z28:=q3.msgs[q2.i]? =some x1;z28∧z65∧z72∧z65∧z72∧z73∧z26∧z73∧z26∧(Fp 221 [.c (.seq .fld x1.fields),vI o7.x] [] (.v (vB (Ck x1.fields o7.x))) [])∧Bc (!(Ck x1.fields o7.x)) (z65∧z72∧z65∧z72∧z73∧z26∧z27∧z65∧z72∧z65∧z72∧z73∧z28∧z73∧z26∧z27∧z65∧z72∧z65∧z72∧z73∧z28∧((z25:List Blk)=z25)∧z66∧(wI z67)∧z71.Nxt q3 [(0,.v (vP 0)),(2,.v (vP 1)),(3,.v (vP 2)),(4,.v z78),(6,.v z74),(7,.v (vI o2.x)),(8,.v (vI z67))] z25) ((List.length x1.fields=List.length x1.fields)∧z28∧(wI z67)∧z71.Nxt q3 [(0,.v (vP 0)),(2,.v (vP 1)),(3,.v (vP 2)),(4,.v z78),(6,.v z74),(7,.v (vI o2.x)),(8,.v (vI z67))] [.cells (B2 o7.c1),.cells [.nil],.cells [.own 3],.tree (List.set q3.msgs q2.i (⟨x1.id,x1.fields⟩:Shp))])))))) (Bc o5.p ((Fp 158 [vI (1+o4.x)] [] (.v (vB z60)) [])∧Bc z60 (In (Ap o6.c1 2) fun o7=>(let z39:=(⟨1+o3.x,1+o4.x,o5.p,o7.p,0⟩:Fld);(Ba o6.c1 2 o7)∧Bc z59 (In (Aa o7.c1 z79) fun o8=>(El (q3.msgs[Int.toNat o8.x]?) fun x1=>(let z34:=(⟨1+o3.x,1+o4.x,o5.p,o7.p,x1.id⟩:Fld);(Ai o7.c1 z79 o8)∧(o8.x<z69)∧((0:Int)≤o8.x)∧(q3.msgs[Int.toNat o8.x]? =some x1)∧El z68 fun x2=>(let z30:List Blk:=[.cells (B2 o8.c1),.cells [.nil],.cells [.own 3],.tree (List.set q3.msgs q2.i (⟨x2.id,x2.fields++[z34]⟩:Shp))];let z31:=z68.map (fun (x:Shp)=>x.fields.length)=some (List.length x2.fields);let z32:=List.length x2.fields+List.length [z34]≤A8;let z33:=q3.msgs[q2.i]? =some x2;z33∧z65∧z72∧z65∧z72∧z73∧z31∧z73∧z31∧(Fp 221 [.c (.seq .fld x2.fields),vI z62] [] (.v (vB (Ck x2.fields z62))) [])∧Bc (!(Ck x2.fields z62)) (z65∧z72∧z65∧z72∧z73∧z31∧z32∧z65∧z72∧z65∧z72∧z73∧z33∧z73∧z31∧z32∧z65∧z72∧z65∧z72∧z73∧z33∧((z30:List Blk)=z30)∧z66∧(wI z67)∧z71.Nxt q3 [(0,.v (vP 0)),(2,.v (vP 1)),(3,.v (vP 2)),(4,.v z78),(6,.v z74),(7,.v (vI o2.x)),(8,.v (vI z67))] z30) ((List.length x2.fields=List.length x2.fields)∧z33∧(wI z67)∧z71.Nxt q3 [(0,.v (vP 0)),(2,.v (vP 1)),(3,.v (vP 2)),(4,.v z78),(6,.v z74),(7,.v (vI o2.x)),(8,.v (vI z67))] [.cells (B2 o8.c1),.cells [.nil],.cells [.own 3],.tree (List.set q3.msgs q2.i (⟨x2.id,x2.fields⟩:Shp))]))))) (El z68 fun x1=>(let z35:List Blk:=[.cells (B2 o7.c1),.cells [.nil],.cells [.own 3],.tree (List.set q3.msgs q2.i (⟨x1.id,x1.fields++[z39]⟩:Shp))];let z36:=z68.map (fun (x:Shp)=>x.fields.length)=some (List.length x1.fields);let z37:=List.length x1.fields+List.length [z39]≤A8;let z38:=q3.msgs[q2.i]? =some x1;z38∧z65∧z72∧z65∧z72∧z73∧z36∧z73∧z36∧(Fp 221 [.c (.seq .fld x1.fields),vI z62] [] (.v (vB (Ck x1.fields z62))) [])∧Bc (!(Ck x1.fields z62)) (z65∧z72∧z65∧z72∧z73∧z36∧z37∧z65∧z72∧z65∧z72∧z73∧z38∧z73∧z36∧z37∧z65∧z72∧z65∧z72∧z73∧z38∧((z35:List Blk)=z35)∧z66∧(wI z67)∧z71.Nxt q3 [(0,.v (vP 0)),(2,.v (vP 1)),(3,.v (vP 2)),(4,.v z78),(6,.v z74),(7,.v (vI o2.x)),(8,.v (vI z67))] z35) ((List.length x1.fields=List.length x1.fields)∧z38∧(wI z67)∧z71.Nxt q3 [(0,.v (vP 0)),(2,.v (vP 1)),(3,.v (vP 2)),(4,.v z78),(6,.v z74),(7,.v (vI o2.x)),(8,.v (vI z67))] [.cells (B2 o7.c1),.cells [.nil],.cells [.own 3],.tree (List.set q3.msgs q2.i (⟨x1.id,x1.fields⟩:Shp))]))))) (Bc z59 (In (Aa o6.c1 z79) fun o7=>(El (q3.msgs[Int.toNat o7.x]?) fun x1=>(let z44:=(⟨1+o3.x,1+o4.x,o5.p,false,x1.id⟩:Fld);(Ai o6.c1 z79 o7)∧(o7.x<z69)∧((0:Int)≤o7.x)∧(q3.msgs[Int.toNat o7.x]? =some x1)∧El z68 fun x2=>(let z40:List Blk:=[.cells (B2 o7.c1),.cells [.nil],.cells [.own 3],.tree (List.set q3.msgs q2.i (⟨x2.id,x2.fields++[z44]⟩:Shp))];let z41:=z68.map (fun (x:Shp)=>x.fields.length)=some (List.length x2.fields);let z42:=List.length x2.fields+List.length [z44]≤A8;let z43:=q3.msgs[q2.i]? =some x2;z43∧z65∧z72∧z65∧z72∧z73∧z41∧z73∧z41∧(Fp 221 [.c (.seq .fld x2.fields),vI z62] [] (.v (vB (Ck x2.fields z62))) [])∧Bc (!(Ck x2.fields z62)) (z65∧z72∧z65∧z72∧z73∧z41∧z42∧z65∧z72∧z65∧z72∧z73∧z43∧z73∧z41∧z42∧z65∧z72∧z65∧z72∧z73∧z43∧((z40:List Blk)=z40)∧z66∧(wI z67)∧z71.Nxt q3 [(0,.v (vP 0)),(2,.v (vP 1)),(3,.v (vP 2)),(4,.v z78),(6,.v z74),(7,.v (vI o2.x)),(8,.v (vI z67))] z40) ((List.length x2.fields=List.length x2.fields)∧z43∧(wI z67)∧z71.Nxt q3 [(0,.v (vP 0)),(2,.v (vP 1)),(3,.v (vP 2)),(4,.v z78),(6,.v z74),(7,.v (vI o2.x)),(8,.v (vI z67))] [.cells (B2 o7.c1),.cells [.nil],.cells [.own 3],.tree (List.set q3.msgs q2.i (⟨x2.id,x2.fields⟩:Shp))]))))) (El z68 fun x1=>(let z45:List Blk:=[.cells (B2 o6.c1),.cells [.nil],.cells [.own 3],.tree (List.set q3.msgs q2.i (⟨x1.id,x1.fields++[z58]⟩:Shp))];let z46:=z68.map (fun (x:Shp)=>x.fields.length)=some (List.length x1.fields);let z47:=List.length x1.fields+List.length [z58]≤A8;let z48:=q3.msgs[q2.i]? =some x1;z48∧z65∧z72∧z65∧z72∧z73∧z46∧z73∧z46∧(Fp 221 [.c (.seq .fld x1.fields),vI z62] [] (.v (vB (Ck x1.fields z62))) [])∧Bc (!(Ck x1.fields z62)) (z65∧z72∧z65∧z72∧z73∧z46∧z47∧z65∧z72∧z65∧z72∧z73∧z48∧z73∧z46∧z47∧z65∧z72∧z65∧z72∧z73∧z48∧((z45:List Blk)=z45)∧z66∧(wI z67)∧z71.Nxt q3 [(0,.v (vP 0)),(2,.v (vP 1)),(3,.v (vP 2)),(4,.v z78),(6,.v z74),(7,.v (vI o2.x)),(8,.v (vI z67))] z45) ((List.length x1.fields=List.length x1.fields)∧z48∧(wI z67)∧z71.Nxt q3 [(0,.v (vP 0)),(2,.v (vP 1)),(3,.v (vP 2)),(4,.v z78),(6,.v z74),(7,.v (vI o2.x)),(8,.v (vI z67))] [.cells (B2 o6.c1),.cells [.nil],.cells [.own 3],.tree (List.set q3.msgs q2.i (⟨x1.id,x1.fields⟩:Shp))]))))) (Bc z59 (In (Aa o6.c1 z79) fun o7=>(El (q3.msgs[Int.toNat o7.x]?) fun x1=>(let z53:=(⟨1+o3.x,1+o4.x,o5.p,false,x1.id⟩:Fld);(Ai o6.c1 z79 o7)∧(o7.x<z69)∧((0:Int)≤o7.x)∧(q3.msgs[Int.toNat o7.x]? =some x1)∧El z68 fun x2=>(let z49:List Blk:=[.cells (B2 o7.c1),.cells [.nil],.cells [.own 3],.tree (List.set q3.msgs q2.i (⟨x2.id,x2.fields++[z53]⟩:Shp))];let z50:=z68.map (fun (x:Shp)=>x.fields.length)=some (List.length x2.fields);let z51:=List.length x2.fields+List.length [z53]≤A8;let z52:=q3.msgs[q2.i]? =some x2;z52∧z65∧z72∧z65∧z72∧z73∧z50∧z73∧z50∧(Fp 221 [.c (.seq .fld x2.fields),vI z62] [] (.v (vB (Ck x2.fields z62))) [])∧Bc (!(Ck x2.fields z62)) (z65∧z72∧z65∧z72∧z73∧z50∧z51∧z65∧z72∧z65∧z72∧z73∧z52∧z73∧z50∧z51∧z65∧z72∧z65∧z72∧z73∧z52∧((z49:List Blk)=z49)∧z66∧(wI z67)∧z71.Nxt q3 [(0,.v (vP 0)),(2,.v (vP 1)),(3,.v (vP 2)),(4,.v z78),(6,.v z74),(7,.v (vI o2.x)),(8,.v (vI z67))] z49) ((List.length x2.fields=List.length x2.fields)∧z52∧(wI z67)∧z71.Nxt q3 [(0,.v (vP 0)),(2,.v (vP 1)),(3,.v (vP 2)),(4,.v z78),(6,.v z74),(7,.v (vI o2.x)),(8,.v (vI z67))] [.cells (B2 o7.c1),.cells [.nil],.cells [.own 3],.tree (List.set q3.msgs q2.i (⟨x2.id,x2.fields⟩:Shp))]))))) (El z68 fun x1=>(let z54:List Blk:=[.cells (B2 o6.c1),.cells [.nil],.cells [.own 3],.tree (List.set q3.msgs q2.i (⟨x1.id,x1.fields++[z58]⟩:Shp))];let z55:=z68.map (fun (x:Shp)=>x.fields.length)=some (List.length x1.fields);let z56:=List.length x1.fields+List.length [z58]≤A8;let z57:=q3.msgs[q2.i]? =some x1;z57∧z65∧z72∧z65∧z72∧z73∧z55∧z73∧z55∧(Fp 221 [.c (.seq .fld x1.fields),vI z62] [] (.v (vB (Ck x1.fields z62))) [])∧Bc (!(Ck x1.fields z62)) (z65∧z72∧z65∧z72∧z73∧z55∧z56∧z65∧z72∧z65∧z72∧z73∧z57∧z73∧z55∧z56∧z65∧z72∧z65∧z72∧z73∧z57∧((z54:List Blk)=z54)∧z66∧(wI z67)∧z71.Nxt q3 [(0,.v (vP 0)),(2,.v (vP 1)),(3,.v (vP 2)),(4,.v z78),(6,.v z74),(7,.v (vI o2.x)),(8,.v (vI z67))] z54) ((List.length x1.fields=List.length x1.fields)∧z57∧(wI z67)∧z71.Nxt q3 [(0,.v (vP 0)),(2,.v (vP 1)),(3,.v (vP 2)),(4,.v z78),(6,.v z74),(7,.v (vI o2.x)),(8,.v (vI z67))] [.cells (B2 o6.c1),.cells [.nil],.cells [.own 3],.tree (List.set q3.msgs q2.i (⟨x1.id,x1.fields⟩:Shp))])))))))))) ((wI (z75+1))∧(Fz o1).Nxt q2 [(0,.v (vP 0)),(2,.v (vP 1)),(3,.v (vP 2)),(4,.v z78),(6,.v (vI (z75+1)))] [.cells (B2 q3.c),.cells [.nil],.cells [.own 3],.tree q3.msgs])))) (((RawK (List.length ((⟨q2.msgs⟩:Raw)).msgs) ((⟨q2.msgs⟩:Raw)).msgs)∧(Au q2.c))∧Lf (.v (.agg [.own 1])) (.v (.agg [.own 1])) [.cells (B2 q2.c),.tree q2.msgs] [.cells (B2 q2.c),.tree q2.msgs]))))))) Q4 ?_
 refine⟨(Ao c 3 Q0),fun o1 ho_o1=>?_⟩
 obtain ⟨⟨hp_o1_0,hp_o1_1,hp_o1_2,hp_o1_3⟩,hf_o1⟩:=ho_o1
 refine⟨hf_o1,(Ad Q2 Q2),Bj (j:=(⟨o1.c1,([]:List Shp),0⟩:Ma)) Q9 rfl (by dsimp only[Fy];exact⟨by assumption,by omega,rfl,rfl,fun m hm=>by cases hm⟩),fun (q1:Ma) hq_q1=>?_⟩
 have hi_q1:Au q1.c∧((q1.i:Nat):Int)≤1+o1.x∧List.length q1.msgs=q1.i∧G7 q1.msgs=List.take q1.i [5,1,99]∧∀m∈q1.msgs,m.fields=[]:=hq_q1
 obtain ⟨v1,v2,v3,v4,v5⟩:=hi_q1
 refine dsp (fun h1 p1=>?_) fun h1 p1=>?_
 refine⟨(Bm (l:=[5,1,99,7]) (i:=q1.i) Q5),fun x1 hx1=>?_⟩
 exact⟨Q5,Q2,hx1,Q5,(Ad Q2 Q2),A5 (j:=(⟨q1.c,q1.msgs++[(⟨x1,([]:List Fld)⟩:Shp)],q1.i+1⟩:Ma)) Q9 rfl (by dsimp only[Fy];exact⟨by assumption,by omega,by simp;omega,Aia v4 Q2 hx1,fun m hm=>by rcases List.mem_append.1 hm with hm|hm;exact v5 m hm;simp at hm;rw[hm]⟩) (by dsimp only[Fy];omega)⟩
 refine⟨Bj (j:=(⟨q1.c,q1.msgs,0⟩:Jq)) Q9 rfl (by dsimp only[Fz];exact⟨by assumption,by omega,Aib Q2 Q2 (by rw[v4];congr 1;omega) v5,fun j m _ hm=>v5 m (List.mem_of_getElem? hm)⟩),fun (q2:Jq) hq_q2=>?_⟩
 have hi_q2:Au q2.c∧q2.i≤Int.toNat (1+o1.x)∧RawK (Int.toNat (1+o1.x)) q2.msgs∧∀j m,q2.i≤j→q2.msgs[j]? =some m→m.fields=[]:=hq_q2
 obtain ⟨u1,u2,u3,u4⟩:=hi_q2
 have upos:=u3.pos
 have ulen:=u3.len
 refine dsp (fun h2 p2=>?_) fun h2 p2=>?_
 refine⟨(Ao q2.c 6 Q0),fun o2 ho_o2=>?_⟩
 obtain ⟨⟨hp_o2_0,hp_o2_1,hp_o2_2,hp_o2_3⟩,hf_o2⟩:=ho_o2
 refine⟨hf_o2,Bj (j:=(⟨o2.c1,q2.msgs,0⟩:Bp)) Q9 rfl (by dsimp only[Jr];exact⟨by assumption,by omega,u3,fun j m hj hm=>u4 j m Q2 hm,fun m hm=>by rw[u4 _ m (Nat.le_refl _) hm];exact Nat.le_refl _⟩),fun (q3:Bp) hq_q3=>?_⟩
 have hi_q3:Au q3.c∧q3.k≤5∧RawK (Int.toNat (1+o1.x)) q3.msgs∧(∀j m,q2.i<j→q3.msgs[j]? =some m→m.fields=[])∧∀m,q3.msgs[q2.i]? =some m→List.length m.fields≤q3.k:=hq_q3
 obtain ⟨w1,w2,w3,w4,w5⟩:=hi_q3
 have wlen:=w3.len
 refine dsp (fun h3 p3=>?_) fun h3 p3=>?_
 refine⟨(Ao q3.c 12 Q0),fun o3 ho_o3=>?_⟩
 obtain ⟨⟨hp_o3_0,hp_o3_1,hp_o3_2,hp_o3_3⟩,hf_o3⟩:=ho_o3
 refine⟨hf_o3,(Ad Q2 Q2),(Ao o3.c1 8 Q0),fun o4 ho_o4=>?_⟩
 obtain ⟨⟨hp_o4_0,hp_o4_1,hp_o4_2,hp_o4_3⟩,hf_o4⟩:=ho_o4
 refine⟨hf_o4,(Ad Q2 Q2),(B1 o4.c1 2 Q0),fun o5 ho_o5=>?_⟩
 obtain ⟨hp_o5,hf_o5⟩:=ho_o5
 refine⟨hf_o5,(B1 o5.c1 12 Q0),fun o6 ho_o6=>?_⟩
 obtain ⟨hp_o6,hf_o6⟩:=ho_o6
 refine⟨hf_o6,fun h4=>?_,fun h4=>?_⟩
 refine⟨(Cn o6.c1 [16,2047,2048,18999,20000,536870911] Q0 Q5 Q5),fun o7 ho_o7=>?_⟩
 obtain ⟨⟨hp_o7_0,hp_o7_1⟩,hf_o7⟩:=ho_o7
 refine⟨hf_o7,fun h5=>?_,fun h5=>?_⟩
 refine⟨(Mr _),fun h6=>have p6:=As h6;?_,fun h6=>have p6:=Ay h6;?_⟩
 refine⟨(B1 o7.c1 2 Q0),fun o8 ho_o8=>?_⟩
 obtain ⟨hp_o8,hf_o8⟩:=ho_o8
 refine⟨hf_o8,dsp (fun h7 p7=>?_) fun h7 p7=>?_⟩
 refine⟨(Ao o8.c1 (1+o1.x) Q0),fun o9 ho_o9=>?_⟩
 obtain ⟨⟨hp_o9_0,hp_o9_1,hp_o9_2,hp_o9_3⟩,hf_o9⟩:=ho_o9
 refine⟨(Bm (l:=q3.msgs) (i:=Int.toNat o9.x) Q2),fun x1 hx1=>?_⟩
 have hri:x1.id∈G7 q3.msgs:=List.mem_map.2 ⟨_,List.mem_of_getElem? hx1,rfl⟩
 refine⟨hf_o9,Q2,Q2,hx1,(Bm (l:=q3.msgs) (i:=q2.i) Q2),fun x2 hx2=>?_⟩
 have hxl:=w5 _ hx2
 have hsame:=Gm hx2
 refine⟨hx2,Q2,Q2,Q2,Q2,rfl,Q52,rfl,Q52,(F7 _ _ Q2),fun h8=>have q8:=An h8;?_,fun h8=>have q8:=Am h8;?_⟩
 exact⟨Q2,Q2,Q2,Q2,rfl,Q52,Q5,Q2,Q2,Q2,Q2,rfl,hx2,rfl,Q52,Q5,Q2,Q2,Q2,Q2,rfl,hx2,rfl,rfl,(Ad Q2 Q2),A5 (j:=(⟨o9.c1,List.set q3.msgs q2.i (⟨x2.id,x2.fields++[(⟨o7.x,1+o4.x,o5.p,o8.p,x1.id⟩:Fld)]⟩:Shp),q3.k+1⟩:Bp)) Q9 rfl Q1 Q36⟩
 exact⟨Q9,hx2,(Ad Q2 Q2),A5 (j:=(⟨o9.c1,List.set q3.msgs q2.i (⟨x2.id,x2.fields⟩:Shp),q3.k+1⟩:Bp)) Q9 rfl Q1 Q36⟩
 refine⟨(Bm (l:=q3.msgs) (i:=q2.i) Q2),fun x1 hx1=>?_⟩
 have hxl:=w5 _ hx1
 have hsame:=Gm hx1
 refine⟨hx1,Q2,Q2,Q2,Q2,rfl,Q53,rfl,Q53,(F7 _ _ Q2),fun h8=>have q8:=An h8;?_,fun h8=>have q8:=Am h8;?_⟩
 exact⟨Q2,Q2,Q2,Q2,rfl,Q53,Q5,Q2,Q2,Q2,Q2,rfl,hx1,rfl,Q53,Q5,Q2,Q2,Q2,Q2,rfl,hx1,rfl,rfl,(Ad Q2 Q2),A5 (j:=(⟨o8.c1,List.set q3.msgs q2.i (⟨x1.id,x1.fields++[(⟨o7.x,1+o4.x,o5.p,o8.p,0⟩:Fld)]⟩:Shp),q3.k+1⟩:Bp)) Q9 rfl Q1 Q36⟩
 exact⟨Q9,hx1,(Ad Q2 Q2),A5 (j:=(⟨o8.c1,List.set q3.msgs q2.i (⟨x1.id,x1.fields⟩:Shp),q3.k+1⟩:Bp)) Q9 rfl Q1 Q36⟩
 refine dsp (fun h7 p7=>?_) fun h7 p7=>?_
 refine⟨(Ao o7.c1 (1+o1.x) Q0),fun o8 ho_o8=>?_⟩
 obtain ⟨⟨hp_o8_0,hp_o8_1,hp_o8_2,hp_o8_3⟩,hf_o8⟩:=ho_o8
 refine⟨(Bm (l:=q3.msgs) (i:=Int.toNat o8.x) Q2),fun x1 hx1=>?_⟩
 have hri:x1.id∈G7 q3.msgs:=List.mem_map.2 ⟨_,List.mem_of_getElem? hx1,rfl⟩
 refine⟨hf_o8,Q2,Q2,hx1,(Bm (l:=q3.msgs) (i:=q2.i) Q2),fun x2 hx2=>?_⟩
 have hxl:=w5 _ hx2
 have hsame:=Gm hx2
 refine⟨hx2,Q2,Q2,Q2,Q2,rfl,Q52,rfl,Q52,(F7 _ _ Q2),fun h8=>have q8:=An h8;?_,fun h8=>have q8:=Am h8;?_⟩
 exact⟨Q2,Q2,Q2,Q2,rfl,Q52,Q5,Q2,Q2,Q2,Q2,rfl,hx2,rfl,Q52,Q5,Q2,Q2,Q2,Q2,rfl,hx2,rfl,rfl,(Ad Q2 Q2),A5 (j:=(⟨o8.c1,List.set q3.msgs q2.i (⟨x2.id,x2.fields++[(⟨o7.x,1+o4.x,o5.p,false,x1.id⟩:Fld)]⟩:Shp),q3.k+1⟩:Bp)) Q9 rfl Q1 Q36⟩
 exact⟨Q9,hx2,(Ad Q2 Q2),A5 (j:=(⟨o8.c1,List.set q3.msgs q2.i (⟨x2.id,x2.fields⟩:Shp),q3.k+1⟩:Bp)) Q9 rfl Q1 Q36⟩
 refine⟨(Bm (l:=q3.msgs) (i:=q2.i) Q2),fun x1 hx1=>?_⟩
 have hxl:=w5 _ hx1
 have hsame:=Gm hx1
 refine⟨hx1,Q2,Q2,Q2,Q2,rfl,Q53,rfl,Q53,(F7 _ _ Q2),fun h8=>have q8:=An h8;?_,fun h8=>have q8:=Am h8;?_⟩
 exact⟨Q2,Q2,Q2,Q2,rfl,Q53,Q5,Q2,Q2,Q2,Q2,rfl,hx1,rfl,Q53,Q5,Q2,Q2,Q2,Q2,rfl,hx1,rfl,rfl,(Ad Q2 Q2),A5 (j:=(⟨o7.c1,List.set q3.msgs q2.i (⟨x1.id,x1.fields++[(⟨o7.x,1+o4.x,o5.p,false,0⟩:Fld)]⟩:Shp),q3.k+1⟩:Bp)) Q9 rfl Q1 Q36⟩
 exact⟨Q9,hx1,(Ad Q2 Q2),A5 (j:=(⟨o7.c1,List.set q3.msgs q2.i (⟨x1.id,x1.fields⟩:Shp),q3.k+1⟩:Bp)) Q9 rfl Q1 Q36⟩
 refine dsp (fun h6 p6=>?_) fun h6 p6=>?_
 refine⟨(Ao o7.c1 (1+o1.x) Q0),fun o8 ho_o8=>?_⟩
 obtain ⟨⟨hp_o8_0,hp_o8_1,hp_o8_2,hp_o8_3⟩,hf_o8⟩:=ho_o8
 refine⟨(Bm (l:=q3.msgs) (i:=Int.toNat o8.x) Q2),fun x1 hx1=>?_⟩
 have hri:x1.id∈G7 q3.msgs:=List.mem_map.2 ⟨_,List.mem_of_getElem? hx1,rfl⟩
 refine⟨hf_o8,Q2,Q2,hx1,(Bm (l:=q3.msgs) (i:=q2.i) Q2),fun x2 hx2=>?_⟩
 have hxl:=w5 _ hx2
 have hsame:=Gm hx2
 refine⟨hx2,Q2,Q2,Q2,Q2,rfl,Q52,rfl,Q52,(F7 _ _ Q2),fun h7=>have q7:=An h7;?_,fun h7=>have q7:=Am h7;?_⟩
 exact⟨Q2,Q2,Q2,Q2,rfl,Q52,Q5,Q2,Q2,Q2,Q2,rfl,hx2,rfl,Q52,Q5,Q2,Q2,Q2,Q2,rfl,hx2,rfl,rfl,(Ad Q2 Q2),A5 (j:=(⟨o8.c1,List.set q3.msgs q2.i (⟨x2.id,x2.fields++[(⟨o7.x,1+o4.x,o5.p,false,x1.id⟩:Fld)]⟩:Shp),q3.k+1⟩:Bp)) Q9 rfl Q1 Q36⟩
 exact⟨Q9,hx2,(Ad Q2 Q2),A5 (j:=(⟨o8.c1,List.set q3.msgs q2.i (⟨x2.id,x2.fields⟩:Shp),q3.k+1⟩:Bp)) Q9 rfl Q1 Q36⟩
 refine⟨(Bm (l:=q3.msgs) (i:=q2.i) Q2),fun x1 hx1=>?_⟩
 have hxl:=w5 _ hx1
 have hsame:=Gm hx1
 refine⟨hx1,Q2,Q2,Q2,Q2,rfl,Q53,rfl,Q53,(F7 _ _ Q2),fun h7=>have q7:=An h7;?_,fun h7=>have q7:=Am h7;?_⟩
 exact⟨Q2,Q2,Q2,Q2,rfl,Q53,Q5,Q2,Q2,Q2,Q2,rfl,hx1,rfl,Q53,Q5,Q2,Q2,Q2,Q2,rfl,hx1,rfl,rfl,(Ad Q2 Q2),A5 (j:=(⟨o7.c1,List.set q3.msgs q2.i (⟨x1.id,x1.fields++[(⟨o7.x,1+o4.x,o5.p,false,0⟩:Fld)]⟩:Shp),q3.k+1⟩:Bp)) Q9 rfl Q1 Q36⟩
 exact⟨Q9,hx1,(Ad Q2 Q2),A5 (j:=(⟨o7.c1,List.set q3.msgs q2.i (⟨x1.id,x1.fields⟩:Shp),q3.k+1⟩:Bp)) Q9 rfl Q1 Q36⟩
 refine⟨fun h5=>?_,fun h5=>?_⟩
 refine⟨(Mr _),fun h6=>have p6:=As h6;?_,fun h6=>have p6:=Ay h6;?_⟩
 refine⟨(B1 o6.c1 2 Q0),fun o7 ho_o7=>?_⟩
 obtain ⟨hp_o7,hf_o7⟩:=ho_o7
 refine⟨hf_o7,dsp (fun h7 p7=>?_) fun h7 p7=>?_⟩
 refine⟨(Ao o7.c1 (1+o1.x) Q0),fun o8 ho_o8=>?_⟩
 obtain ⟨⟨hp_o8_0,hp_o8_1,hp_o8_2,hp_o8_3⟩,hf_o8⟩:=ho_o8
 refine⟨(Bm (l:=q3.msgs) (i:=Int.toNat o8.x) Q2),fun x1 hx1=>?_⟩
 have hri:x1.id∈G7 q3.msgs:=List.mem_map.2 ⟨_,List.mem_of_getElem? hx1,rfl⟩
 refine⟨hf_o8,Q2,Q2,hx1,(Bm (l:=q3.msgs) (i:=q2.i) Q2),fun x2 hx2=>?_⟩
 have hxl:=w5 _ hx2
 have hsame:=Gm hx2
 refine⟨hx2,Q2,Q2,Q2,Q2,rfl,Q52,rfl,Q52,(F7 _ _ Q2),fun h8=>have q8:=An h8;?_,fun h8=>have q8:=Am h8;?_⟩
 exact⟨Q2,Q2,Q2,Q2,rfl,Q52,Q5,Q2,Q2,Q2,Q2,rfl,hx2,rfl,Q52,Q5,Q2,Q2,Q2,Q2,rfl,hx2,rfl,rfl,(Ad Q2 Q2),A5 (j:=(⟨o8.c1,List.set q3.msgs q2.i (⟨x2.id,x2.fields++[(⟨1+o3.x,1+o4.x,o5.p,o7.p,x1.id⟩:Fld)]⟩:Shp),q3.k+1⟩:Bp)) Q9 rfl Q1 Q36⟩
 exact⟨Q9,hx2,(Ad Q2 Q2),A5 (j:=(⟨o8.c1,List.set q3.msgs q2.i (⟨x2.id,x2.fields⟩:Shp),q3.k+1⟩:Bp)) Q9 rfl Q1 Q36⟩
 refine⟨(Bm (l:=q3.msgs) (i:=q2.i) Q2),fun x1 hx1=>?_⟩
 have hxl:=w5 _ hx1
 have hsame:=Gm hx1
 refine⟨hx1,Q2,Q2,Q2,Q2,rfl,Q53,rfl,Q53,(F7 _ _ Q2),fun h8=>have q8:=An h8;?_,fun h8=>have q8:=Am h8;?_⟩
 exact⟨Q2,Q2,Q2,Q2,rfl,Q53,Q5,Q2,Q2,Q2,Q2,rfl,hx1,rfl,Q53,Q5,Q2,Q2,Q2,Q2,rfl,hx1,rfl,rfl,(Ad Q2 Q2),A5 (j:=(⟨o7.c1,List.set q3.msgs q2.i (⟨x1.id,x1.fields++[(⟨1+o3.x,1+o4.x,o5.p,o7.p,0⟩:Fld)]⟩:Shp),q3.k+1⟩:Bp)) Q9 rfl Q1 Q36⟩
 exact⟨Q9,hx1,(Ad Q2 Q2),A5 (j:=(⟨o7.c1,List.set q3.msgs q2.i (⟨x1.id,x1.fields⟩:Shp),q3.k+1⟩:Bp)) Q9 rfl Q1 Q36⟩
 refine dsp (fun h7 p7=>?_) fun h7 p7=>?_
 refine⟨(Ao o6.c1 (1+o1.x) Q0),fun o7 ho_o7=>?_⟩
 obtain ⟨⟨hp_o7_0,hp_o7_1,hp_o7_2,hp_o7_3⟩,hf_o7⟩:=ho_o7
 refine⟨(Bm (l:=q3.msgs) (i:=Int.toNat o7.x) Q2),fun x1 hx1=>?_⟩
 have hri:x1.id∈G7 q3.msgs:=List.mem_map.2 ⟨_,List.mem_of_getElem? hx1,rfl⟩
 refine⟨hf_o7,Q2,Q2,hx1,(Bm (l:=q3.msgs) (i:=q2.i) Q2),fun x2 hx2=>?_⟩
 have hxl:=w5 _ hx2
 have hsame:=Gm hx2
 refine⟨hx2,Q2,Q2,Q2,Q2,rfl,Q52,rfl,Q52,(F7 _ _ Q2),fun h8=>have q8:=An h8;?_,fun h8=>have q8:=Am h8;?_⟩
 exact⟨Q2,Q2,Q2,Q2,rfl,Q52,Q5,Q2,Q2,Q2,Q2,rfl,hx2,rfl,Q52,Q5,Q2,Q2,Q2,Q2,rfl,hx2,rfl,rfl,(Ad Q2 Q2),A5 (j:=(⟨o7.c1,List.set q3.msgs q2.i (⟨x2.id,x2.fields++[(⟨1+o3.x,1+o4.x,o5.p,false,x1.id⟩:Fld)]⟩:Shp),q3.k+1⟩:Bp)) Q9 rfl Q1 Q36⟩
 exact⟨Q9,hx2,(Ad Q2 Q2),A5 (j:=(⟨o7.c1,List.set q3.msgs q2.i (⟨x2.id,x2.fields⟩:Shp),q3.k+1⟩:Bp)) Q9 rfl Q1 Q36⟩
 refine⟨(Bm (l:=q3.msgs) (i:=q2.i) Q2),fun x1 hx1=>?_⟩
 have hxl:=w5 _ hx1
 have hsame:=Gm hx1
 refine⟨hx1,Q2,Q2,Q2,Q2,rfl,Q53,rfl,Q53,(F7 _ _ Q2),fun h8=>have q8:=An h8;?_,fun h8=>have q8:=Am h8;?_⟩
 exact⟨Q2,Q2,Q2,Q2,rfl,Q53,Q5,Q2,Q2,Q2,Q2,rfl,hx1,rfl,Q53,Q5,Q2,Q2,Q2,Q2,rfl,hx1,rfl,rfl,(Ad Q2 Q2),A5 (j:=(⟨o6.c1,List.set q3.msgs q2.i (⟨x1.id,x1.fields++[(⟨1+o3.x,1+o4.x,o5.p,false,0⟩:Fld)]⟩:Shp),q3.k+1⟩:Bp)) Q9 rfl Q1 Q36⟩
 exact⟨Q9,hx1,(Ad Q2 Q2),A5 (j:=(⟨o6.c1,List.set q3.msgs q2.i (⟨x1.id,x1.fields⟩:Shp),q3.k+1⟩:Bp)) Q9 rfl Q1 Q36⟩
 refine dsp (fun h6 p6=>?_) fun h6 p6=>?_
 refine⟨(Ao o6.c1 (1+o1.x) Q0),fun o7 ho_o7=>?_⟩
 obtain ⟨⟨hp_o7_0,hp_o7_1,hp_o7_2,hp_o7_3⟩,hf_o7⟩:=ho_o7
 refine⟨(Bm (l:=q3.msgs) (i:=Int.toNat o7.x) Q2),fun x1 hx1=>?_⟩
 have hri:x1.id∈G7 q3.msgs:=List.mem_map.2 ⟨_,List.mem_of_getElem? hx1,rfl⟩
 refine⟨hf_o7,Q2,Q2,hx1,(Bm (l:=q3.msgs) (i:=q2.i) Q2),fun x2 hx2=>?_⟩
 have hxl:=w5 _ hx2
 have hsame:=Gm hx2
 refine⟨hx2,Q2,Q2,Q2,Q2,rfl,Q52,rfl,Q52,(F7 _ _ Q2),fun h7=>have q7:=An h7;?_,fun h7=>have q7:=Am h7;?_⟩
 exact⟨Q2,Q2,Q2,Q2,rfl,Q52,Q5,Q2,Q2,Q2,Q2,rfl,hx2,rfl,Q52,Q5,Q2,Q2,Q2,Q2,rfl,hx2,rfl,rfl,(Ad Q2 Q2),A5 (j:=(⟨o7.c1,List.set q3.msgs q2.i (⟨x2.id,x2.fields++[(⟨1+o3.x,1+o4.x,o5.p,false,x1.id⟩:Fld)]⟩:Shp),q3.k+1⟩:Bp)) Q9 rfl Q1 Q36⟩
 exact⟨Q9,hx2,(Ad Q2 Q2),A5 (j:=(⟨o7.c1,List.set q3.msgs q2.i (⟨x2.id,x2.fields⟩:Shp),q3.k+1⟩:Bp)) Q9 rfl Q1 Q36⟩
 refine⟨(Bm (l:=q3.msgs) (i:=q2.i) Q2),fun x1 hx1=>?_⟩
 have hxl:=w5 _ hx1
 have hsame:=Gm hx1
 refine⟨hx1,Q2,Q2,Q2,Q2,rfl,Q53,rfl,Q53,(F7 _ _ Q2),fun h7=>have q7:=An h7;?_,fun h7=>have q7:=Am h7;?_⟩
 exact⟨Q2,Q2,Q2,Q2,rfl,Q53,Q5,Q2,Q2,Q2,Q2,rfl,hx1,rfl,Q53,Q5,Q2,Q2,Q2,Q2,rfl,hx1,rfl,rfl,(Ad Q2 Q2),A5 (j:=(⟨o6.c1,List.set q3.msgs q2.i (⟨x1.id,x1.fields++[(⟨1+o3.x,1+o4.x,o5.p,false,0⟩:Fld)]⟩:Shp),q3.k+1⟩:Bp)) Q9 rfl Q1 Q36⟩
 exact⟨Q9,hx1,(Ad Q2 Q2),A5 (j:=(⟨o6.c1,List.set q3.msgs q2.i (⟨x1.id,x1.fields⟩:Shp),q3.k+1⟩:Bp)) Q9 rfl Q1 Q36⟩
 exact⟨(Ad Q2 Q2),A5 (j:=(⟨q3.c,q3.msgs,q2.i+1⟩:Jq)) Q9 rfl (by dsimp only[Fz];exact⟨by assumption,by omega,w3,fun j m hj hm=>w4 j m Q2 hm⟩) (by dsimp only[Fz];omega)⟩
 exact⟨⟨((by dsimp only;rw[ulen];exact u3)),Q0⟩,rfl,rfl⟩
structure Pb where
 l:List Shp
 c1:Cur
def Xj (c:Cur) (o:Pb):Prop:=Fun Tryz.prog 148 [vP 0] [.cells (B2 c)] (.v (.agg [.own 1])) [.cells (B2 o.c1),.tree o.l]
def Sk (c:Cur) (o:Pb):Prop:=((SchG o.l)∧(1≤List.length o.l)∧(List.length o.l≤3)∧(Au o.c1))∧Xj c o
theorem Aie (c:Cur) (hp1:Au c): ∃o:Pb,Sk c o:=by
 have hN:A8=274877906944:=rfl
 refine B4 Tryz.func148 Q4 Q4 (w:=let z1:S:= .v (.agg [.own 1]);(.intro (Sj c) fun o1=> .seg [.call [0] z1 [.cells (B2 o1.c1),.tree o1.r.msgs]] (.intro (Si o1.r) fun o2=> .seg [.call [] (.tup [.agg [.own 0],.agg [.int .i64 0,.int .i64 0,.int .i64 0]]) [.tree o2.l]] (.leaf (⟨o2.l,o1.c1⟩:Pb) [0,3])),In (Sj c) fun o1=>((Xi c o1)∧In (Si o1.r) fun o2=>((Xh o1.r o2)∧((SchG o2.l)∧(1≤List.length o2.l)∧(List.length o2.l≤3)∧(Au o1.c1))∧Lf z1 z1 [.cells (B2 o1.c1),.tree o2.l] [.cells (B2 o1.c1),.tree o2.l])))) Q4 ?_
 refine⟨(Aid c Q0),fun o1 ho_o1=>?_⟩
 obtain ⟨⟨hp_o1_0,hp_o1_1⟩,hf_o1⟩:=ho_o1
 refine⟨hf_o1,(Aic o1.r Q2),fun o2 ho_o2=>?_⟩
 obtain ⟨hp_o2,hf_o2⟩:=ho_o2
 exact⟨hf_o2,⟨Q2,(hp_o2.1.1),(hp_o2.1.2),Q0⟩,rfl,rfl⟩
structure Kh where
 x:Int
 c1:Cur
def Pc (c:Cur) (l:List Int) (o:Kh):Prop:=Fun Tryz.prog 86 [vP 0,vO 1] [.cells (B2 c),.lst .int l] (.v (vI o.x)) [.cells (B2 o.c1),.lst .int l]
def Hj (c:Cur) (l:List Int) (o:Kh):Prop:=((o.x∈l)∧(Au o.c1))∧Pc c l o
theorem Xk (c:Cur) (l:List Int) (hp1:Au c) (hp2:1≤List.length l) (hp3:List.length l≤1000): ∃o:Kh,Hj c l o:=by
 have hN:A8=274877906944:=rfl
 refine B4 Tryz.func86 Q4 Q4 (w:=let z1:=((List.length l:Nat):Int);(.intro (Aa c z1) fun o1=> .seg [.call [0] (.v (vI o1.x)) (Kc o1.c1)] (.intro (Sx (l[Int.toNat o1.x]?)) fun x1=> .seg [.el .int x1] (.leaf (⟨x1,o1.c1⟩:Kh) [0,1])),In (Aa c z1) fun o1=>((Ai c z1 o1)∧El (l[Int.toNat o1.x]?) fun x1=>((o1.x<z1)∧((0:Int)≤o1.x)∧(l[Int.toNat o1.x]? =some x1)∧((x1∈l)∧(Au o1.c1))∧Lf (.v (vI x1)) (.v (vI x1)) [.cells (B2 o1.c1),.lst .int l] [.cells (B2 o1.c1),.lst .int l])))) Q4 ?_
 refine⟨(Ao c ((List.length l:Nat):Int) Q0),fun o1 ho_o1=>?_⟩
 obtain ⟨⟨hp_o1_0,hp_o1_1,hp_o1_2,hp_o1_3⟩,hf_o1⟩:=ho_o1
 refine⟨hf_o1,(Bm (l:=l) (i:=Int.toNat o1.x) Q2),fun x1 hx1=>?_⟩
 exact⟨Q2,Q2,hx1,⟨(List.mem_of_getElem? hx1),Q0⟩,rfl,rfl⟩
structure Pd where
 p:Pln
 c1:Cur
def Sn (c:Cur) (o:Pd):Prop:=Fun Tryz.prog 79 [vP 0] [.cells (B2 c)] (.v (.agg (Mg o.p))) [.cells (B2 o.c1)]
def La (c:Cur) (o:Pd):Prop:=((PlnG o.p)∧(Au o.c1))∧Sn c o
theorem Abk (c:Cur) (hp1:Au c): ∃o:Pd,La c o:=by
 have hN:A8=274877906944:=rfl
 refine B4 Tryz.func79 Q4 Q4 (w:=let z9:=([(2,.v (vP 1))]:List (Nat×S))=[(2,.v (vP 1))];(.intro (Sk c) fun o1=> .seg [.call [0] (.v (.agg [.own 1])) [.cells (B2 o1.c1),.tree o1.l]] (.intro (Aa o1.c1 ((List.length o1.l:Nat):Int)) fun o2=> .intro (Aa o2.c1 4) fun o3=>let z5:S:= .v (vI (1+o3.x));.intro (Hj o3.c1 [60,60,2000,200,5,0]) fun o4=>let z1:List Blk:=[.cells (B2 o4.c1),.lst .int [60,60,2000,200,5,0]];.seg [.tree (fr (.first 6 (.first 9 (.two 5 (.two 7 (.first 8 (.one 10 (.one 11 (.first 12 (.one 13 (.done)))))) 10 (.one 7 (.first 8 (.one 11 (.first 12 (.one 13 (.done))))))) 10 (.one 5 (.one 7 (.first 8 (.one 11 (.first 12 (.one 13 (.done)))))))))) 0 5) 13 [0],.call [0] (.v (vI o2.x)) (Kc o2.c1),.call [0] (.v (vI o3.x)) (Kc o3.c1),.as 14 z5,.ty .int,.call [0,4] (.v (vI o4.x)) z1,.at 0,.keep [2],.sel [0,1,2],.ty .int,.call [0] (.v (vI o3.x)) (Kc o3.c1),.as 14 z5,.call [0,4] (.v (vI o4.x)) z1,.at 0,.keep [2],.sel [0,1,2],.ty .int,.call [0] (.v (vI o2.x)) (Kc o2.c1),.call [0] (.v (vI o3.x)) (Kc o3.c1),.as 14 z5,.call [0,4] (.v (vI o4.x)) z1,.at 0,.keep [2],.sel [0,1,2],.at 0,.pub 1 0] (.leaf (⟨(⟨o1.l,o2.x,1+o3.x,o4.x⟩:Pln),o4.c1⟩:Pd) [0])),In (Sk c) fun o1=>(let z8:=((List.length o1.l:Nat):Int);(Xj c o1)∧In (Aa o1.c1 z8) fun o2=>(let z7:=Ai o1.c1 z8 o2;In (Aa o2.c1 4) fun o3=>(let z6:=Ai o2.c1 4 o3;In (Hj o3.c1 [60,60,2000,200,5,0]) fun o4=>(let z2:List Blk:=[.cells (B2 o4.c1),.cells [.own 2,.int .i64 o2.x,.int .i64 (1+o3.x),.int .i64 o4.x],.tree o1.l];let z3:=Pc o3.c1 [60,60,2000,200,5,0] o4;let z4:S:= .v (.agg [.seq .shp o1.l,.int .i64 o2.x,.int .i64 (1+o3.x),.int .i64 o4.x]);z7∧z6∧(wI (1+o3.x))∧z3∧z6∧(wI (1+o3.x))∧z3∧((z2:List Blk)=z2)∧z9∧z7∧z6∧(wI (1+o3.x))∧z3∧((z2:List Blk)=z2)∧z9∧((PlnG (⟨o1.l,o2.x,1+o3.x,o4.x⟩:Pln))∧(Au o4.c1))∧Lf z4 z4 (Kc o4.c1) (Kc o4.c1))))))) Q4 ?_
 refine⟨(Aie c Q0),fun o1 ho_o1=>?_⟩
 obtain ⟨⟨hp_o1_0,hp_o1_1,hp_o1_2,hp_o1_3⟩,hf_o1⟩:=ho_o1
 refine⟨hf_o1,(Ao o1.c1 ((List.length o1.l:Nat):Int) Q0),fun o2 ho_o2=>?_⟩
 obtain ⟨⟨hp_o2_0,hp_o2_1,hp_o2_2,hp_o2_3⟩,hf_o2⟩:=ho_o2
 refine⟨(Ao o2.c1 4 Q0),fun o3 ho_o3=>?_⟩
 obtain ⟨⟨hp_o3_0,hp_o3_1,hp_o3_2,hp_o3_3⟩,hf_o3⟩:=ho_o3
 refine⟨(Xk o3.c1 [60,60,2000,200,5,0] Q0 Q5 Q5),fun o4 ho_o4=>?_⟩
 obtain ⟨⟨hp_o4_0,hp_o4_1⟩,hf_o4⟩:=ho_o4
 exact⟨hf_o2,hf_o3,(Ad Q2 Q2),hf_o4,hf_o3,(Ad Q2 Q2),hf_o4,rfl,rfl,hf_o2,hf_o3,(Ad Q2 Q2),hf_o4,rfl,rfl,⟨(⟨by assumption,by dsimp only;have:=hp_o1_0.1;omega,by dsimp only;omega,by have hpk:=hp_o4_0;simp at hpk;dsimp only;omega⟩),Q0⟩,rfl,rfl⟩
theorem Aif (x:Int):0≤IntKind.u64.wrap x∧IntKind.u64.wrap x≤18446744073709551615:=by
 rw[IntKind.wrap_u64];omega
theorem Aj2 {l:List Int} (hl:(l.all fun x=>decide (0≤x)&&decide (x≤18446744073709551615))=true) {i:Nat} {x:Int} (h:l[i]? =some x):0≤x∧x≤18446744073709551615:=by
 have:=List.all_eq_true.1 hl x (List.mem_of_getElem? h)
 simpa using this
theorem Xm {u:Int} (h:0≤u∧u≤18446744073709551615):1≤(Ec u).length∧(Ec u).length≤10:=by
 have:=Adi (u:=u) (by omega)
 unfold Lk at this
 omega
theorem Aj3 (u:Int) (hp1:(0:Int)≤u∧u≤18446744073709551615):Fun Tryz.prog 201 [.c (.int .u64 u)] [] (.v (vI (Lk u))) []:=by
 have hN:A8=274877906944:=rfl
 have hpl:=Xm hp1
 refine Aq Tryz.func201 Q4 Q4 (w:=(.seg [.call [] (.v (vT (Ec u))) []] (.leaf () []),(Fp 202 [.c (.int .u64 u)] [] (.v (vT (Ec u))) [])∧Lf (.v (vI ((List.length (Ec u):Nat):Int))) (.v (vI (Lk u))) [] [])) Q4 ?_
 exact⟨(Vo _ Q2),(congrArg S.v (congrArg V.c (congrArg (C.int .i64) (by rfl)))),rfl⟩
structure M0 where
 t:List UInt8
def Y2 (u:Int) (n:Int) (o:M0):Prop:=Fun Tryz.prog 200 [.c (.int .u64 u),vI n] [] (.v (vT o.t)) []
def Ue (u:Int) (n:Int) (o:M0):Prop:=((List.length (o.t:List UInt8)≤10))∧Y2 u n o
structure Pe where
 out:List Int
def Pf (n:Int):Fam:=⟨Pe,fun q1=>[(1,.v (vI n)),(5,.v (vO 0))],fun q1=>[.lst .u8 q1.out],fun q1=>1≤List.length q1.out∧List.length q1.out≤10,fun q1=>10-List.length q1.out⟩
theorem Aj4 (u:Int) (n:Int) (hp1:(0:Int)≤u∧u≤18446744073709551615): ∃o:M0,Ue u n o:=by
 have hN:A8=274877906944:=rfl
 have hpl:=Xm hp1
 refine B4 Tryz.func200 Q4 Q4 (w:=let z7:=List.map (fun b=>(UInt8.toNat b:Int)) (Ec u);let z6:=((List.length z7:Nat):Int);let z8:=Pf n;(.seg [.call [] (.v (vT (Ec u))) [],.call [] (.v (vB (Ak n z6 10))) []] (.br (.leaf (⟨[]⟩:M0) []) (.seg [.at 0,.keep [1,5],.sel [0]] (.loop z8 fun q1=>let z3:=((List.length q1.out:Nat):Int)-1;.br (.seg [.as 21 (.v (vI z3)),.as 25 (.v (vI z3))] (.intro (Sx (q1.out[Int.toNat z3]?)) fun x1=> .seg [.el .u8 x1,.el .u8 x1,.ty .u8,.ty .u8,.at 0,.keep [1,5],.sel [2]] (.next))) (.leaf (⟨List.map Bh q1.out⟩:M0) [])))),(Fp 202 [.c (.int .u64 u)] [] (.v (vT (Ec u))) [])∧(List.length (Ec u)≤A8)∧(Fp 44 [vI n,vI z6,vI 10] [] (.v (vB (Ak n z6 10))) [])∧Bc (!(Ak n z6 10)) (((List.length ([]:List UInt8)≤10))∧Lf (.v (vT [])) (.v (vT [])) [] []) (z8.Has [(1,.v (vI n)),(5,.v (vO 0))] [.lst .u8 z7]∧∀q1,z8.inv q1→(let z4:=((List.length q1.out:Nat):Int);let z5:=List.map Bh q1.out;Bc (decide (z4<n)) ((wI (z4-1))∧(wI (z4-1))∧El (q1.out[Int.toNat (z4-1)]?) fun x1=>(let z1:=List.set q1.out (Int.toNat (z4-1)) (IntKind.u8.wrap (x1+128));let z2:=q1.out[Int.toNat (z4-1)]? =some x1;(z4-1<z4)∧((0:Int)≤z4-1)∧z2∧(z4-1<z4)∧((0:Int)≤z4-1)∧z2∧(List.length z1+List.length [0]≤A8)∧z8.Nxt q1 [(1,.v (vI n)),(5,.v (vO 0))] [.lst .u8 (z1++[0])])) (((List.length (z5:List UInt8)≤10))∧Lf (.v (vT z5)) (.v (vT z5)) [] []))))) Q4 ?_
 refine⟨(Vo _ Q2),Q2,(Bf _ _ _),fun h1=>have q1:=An h1;have p1:=Ay q1;?_,fun h1=>have q1:=Am h1;have p1:=As q1;?_⟩
 exact⟨Q5,rfl,rfl⟩
 refine⟨Bj (j:=(⟨List.map (fun b=>(UInt8.toNat b:Int)) (Ec u)⟩:Pe)) rfl rfl (by dsimp only[Pf];exact⟨by simp;omega,by simp;omega⟩),fun (q1:Pe) hq_q1=>?_⟩
 have hi_q1:1≤List.length q1.out∧List.length q1.out≤10:=hq_q1
 obtain ⟨v1,v2⟩:=hi_q1
 refine dsp (fun h2 p2=>?_) fun h2 p2=>?_
 refine⟨(Ad Q2 Q2),(Ad Q2 Q2),(Bm (l:=q1.out) (i:=Int.toNat (((List.length q1.out:Nat):Int)-1)) Q2),fun x1 hx1=>?_⟩
 exact⟨Q2,Q2,hx1,Q2,Q2,hx1,Q79,A5 (j:=(⟨(List.set q1.out (Int.toNat (((List.length q1.out:Nat):Int)-1)) (IntKind.u8.wrap (x1+128)))++[0]⟩:Pe)) rfl rfl (by dsimp only[Pf];exact⟨by simp,by simp;omega⟩) (by dsimp only[Pf];simp;omega)⟩
 exact⟨Q21,rfl,rfl⟩
structure Ks where
 x:Int
 c1:Cur
def Ei (c:Cur) (o:Ks):Prop:=Fun Tryz.prog 151 [vP 0] [.cells (B2 c)] (.v (.c (.int .u64 o.x))) [.cells (B2 o.c1)]
def Ce (c:Cur) (o:Ks):Prop:=(((0:Int)≤o.x∧o.x≤18446744073709551615)∧(Au o.c1))∧Ei c o
structure Pg where
 c:Cur
 u:Int
 i:Nat
def Ph  :Fam:=⟨Pg,fun q1=>[(0,.v (vP 0)),(3,.v (.c (.int .u64 q1.u))),(4,.v (vI ((q1.i:Nat):Int)))],fun q1=>[.cells (B2 q1.c)],fun q1=>Au q1.c∧q1.i≤8∧((0:Int)≤q1.u∧q1.u≤18446744073709551615),fun q1=>8-q1.i⟩
theorem Hk (c:Cur) (hp1:Au c): ∃o:Ks,Ce c o:=by
 have hN:A8=274877906944:=rfl
 refine B4 Tryz.func151 Q4 Q4 (w:=let z2:=Ph;(.intro (Aa c 4) fun o1=> .seg [.call [0] (.v (vI o1.x)) (Kc o1.c1)] (.br (.seg [.ty .u64] (.intro (Aa o1.c1 12) fun o2=> .seg [.call [0] (.v (vI o2.x)) (Kc o2.c1)] (.intro (Sx ([0,1,127,128,16383,16384,2147483647,4294967295,4294967296,9223372036854775807,9223372036854775808,18446744073709551615][Int.toNat o2.x]?)) fun x1=> .seg [.el .u64 x1] (.leaf (⟨x1,o2.c1⟩:Ks) [0])))) (.br (.seg [.at 0,.keep [0,3,4],.sel [0]] (.loop z2 fun q1=> .br (.intro (Eh q1.c) fun o2=> .seg [.call [0] (.v (vI o2.x)) (Kc o2.c1),.as 24 (.v (.c (.int .u64 o2.x))),.as 19 (.v (vI (((q1.i:Nat):Int)+1))),.at 0,.keep [0,3,4],.sel [0]] (.next)) (.leaf (⟨q1.u,q1.c⟩:Ks) [0]))) (.intro (Aa o1.c1 300) fun o2=> .seg [.call [0] (.v (vI o2.x)) (Kc o2.c1),.as 29 (.v (.c (.int .u64 o2.x)))] (.leaf (⟨o2.x,o2.c1⟩:Ks) [0])))),In (Aa c 4) fun o1=>((Ai c 4 o1)∧Bc (decide (o1.x=0)) (In (Aa o1.c1 12) fun o2=>((Ai o1.c1 12 o2)∧El ([0,1,127,128,16383,16384,2147483647,4294967295,4294967296,9223372036854775807,9223372036854775808,18446744073709551615][Int.toNat o2.x]?) fun x1=>((o2.x<((List.length [0,1,127,128,16383,16384,2147483647,4294967295,4294967296,9223372036854775807,9223372036854775808,18446744073709551615]:Nat):Int))∧((0:Int)≤o2.x)∧([0,1,127,128,16383,16384,2147483647,4294967295,4294967296,9223372036854775807,9223372036854775808,18446744073709551615][Int.toNat o2.x]? =some x1)∧(((0:Int)≤x1∧x1≤18446744073709551615)∧(Au o2.c1))∧Lf (.v (.c (.int .u64 x1))) (.v (.c (.int .u64 x1))) (Kc o2.c1) (Kc o2.c1)))) (Bc (decide (o1.x=1)) (z2.Has [(0,.v (vP 0)),(3,.v (.c (.int .u64 0))),(4,.v (vI 0))] (Kc o1.c1)∧∀q1,z2.inv q1→(let z1:=((q1.i:Nat):Int);Bc (decide (z1<8)) (In (Eh q1.c) fun o2=>((G2 q1.c o2)∧(wU (o2.x))∧(wI (z1+1))∧z2.Nxt q1 [(0,.v (vP 0)),(3,.v (.c (.int .u64 (IntKind.u64.wrap ((IntKind.u64.wrap (256*q1.u))+o2.x))))),(4,.v (vI (z1+1)))] (Kc o2.c1))) ((((0:Int)≤q1.u∧q1.u≤18446744073709551615)∧(Au q1.c))∧Lf (.v (.c (.int .u64 q1.u))) (.v (.c (.int .u64 q1.u))) (Kc q1.c) (Kc q1.c)))) (In (Aa o1.c1 300) fun o2=>((Ai o1.c1 300 o2)∧(wU (o2.x))∧(((0:Int)≤o2.x∧o2.x≤18446744073709551615)∧(Au o2.c1))∧Lf (.v (.c (.int .u64 o2.x))) (.v (.c (.int .u64 o2.x))) (Kc o2.c1) (Kc o2.c1))))))) Q4 ?_
 refine⟨(Ao c 4 Q0),fun o1 ho_o1=>?_⟩
 obtain ⟨⟨hp_o1_0,hp_o1_1,hp_o1_2,hp_o1_3⟩,hf_o1⟩:=ho_o1
 refine⟨hf_o1,dsp (fun h1 p1=>?_) fun h1 p1=>?_⟩
 refine⟨(Ao o1.c1 12 Q0),fun o2 ho_o2=>?_⟩
 obtain ⟨⟨hp_o2_0,hp_o2_1,hp_o2_2,hp_o2_3⟩,hf_o2⟩:=ho_o2
 refine⟨hf_o2,(Bm (l:=[0,1,127,128,16383,16384,2147483647,4294967295,4294967296,9223372036854775807,9223372036854775808,18446744073709551615]) (i:=Int.toNat o2.x) Q5),fun x1 hx1=>?_⟩
 refine⟨Q5,Q2,?_⟩
 have hwx:=Aj2 (by decide) hx1
 exact⟨hx1,⟨Q2,Q0⟩,rfl,rfl⟩
 refine dsp (fun h2 p2=>?_) fun h2 p2=>?_
 refine⟨Bj (j:=(⟨o1.c1,0,0⟩:Pg)) Q9 rfl (by dsimp only[Ph];exact⟨by assumption,by omega,by omega⟩),fun (q1:Pg) hq_q1=>?_⟩
 have hi_q1:Au q1.c∧q1.i≤8∧((0:Int)≤q1.u∧q1.u≤18446744073709551615):=hq_q1
 obtain ⟨v1,v2,v3⟩:=hi_q1
 refine dsp (fun h3 p3=>?_) fun h3 p3=>?_
 refine⟨(N4 q1.c Q0),fun o2 ho_o2=>?_⟩
 obtain ⟨⟨hp_o2_0,hp_o2_1⟩,hf_o2⟩:=ho_o2
 exact⟨hf_o2,(B3 Q2 Q2),(Ad Q2 Q2),A5 (j:=(⟨o2.c1,IntKind.u64.wrap ((IntKind.u64.wrap (256*q1.u))+o2.x),q1.i+1⟩:Pg)) Q9 rfl (by dsimp only[Ph];exact⟨by assumption,by omega,Aif _⟩) (by dsimp only[Ph];omega)⟩
 exact⟨⟨Q2,Q0⟩,rfl,rfl⟩
 refine⟨(Ao o1.c1 300 Q0),fun o2 ho_o2=>?_⟩
 obtain ⟨⟨hp_o2_0,hp_o2_1,hp_o2_2,hp_o2_3⟩,hf_o2⟩:=ho_o2
 exact⟨hf_o2,(B3 Q2 Q2),⟨Q2,Q0⟩,rfl,rfl⟩
structure M1 where
 t:List UInt8
 c1:Cur
def Aw (c:Cur) (u:Int) (o:M1):Prop:=Fun Tryz.prog 150 [vP 0,.c (.int .u64 u)] [.cells (B2 c)] (.v (vT o.t)) [.cells (B2 o.c1)]
def Ag (c:Cur) (u:Int) (o:M1):Prop:=((List.length (o.t:List UInt8)≤10)∧(Au o.c1))∧Aw c u o
theorem Be (c:Cur) (u:Int) (hp1:Au c) (hp2:(0:Int)≤u∧u≤18446744073709551615): ∃o:M1,Ag c u o:=by
 have hN:A8=274877906944:=rfl
 have hpl:=Xm hp2
 have hvl:Lk u=(((Ec u).length:Nat):Int):=rfl
 refine B4 Tryz.func150 Q4 Q4 (w:=let z3:S:= .v (vT (Ec u));let z4:=List.length ((Ec u):List UInt8)≤10;(.intro (Ap c 4) fun o1=> .seg [.call [0] (.v (vB o1.p)) (Kc o1.c1)] (.br (.seg [.call [] (.v (vI (Lk u))) []] (.intro (Aa o1.c1 3) fun o2=> .seg [.call [0] (.v (vI o2.x)) (Kc o2.c1),.as 13 (.v (vI ((Lk u)+o2.x)))] (.intro (Ue u ((Lk u)+o2.x)) fun o3=> .seg [.call [] (.v (vT o3.t)) []] (.br (.leaf (⟨o3.t,o2.c1⟩:M1) [0]) (.seg [.call [] z3 []] (.leaf (⟨Ec u,o2.c1⟩:M1) [0])))))) (.seg [.call [] z3 []] (.leaf (⟨Ec u,o1.c1⟩:M1) [0]))),In (Ap c 4) fun o1=>((Ba c 4 o1)∧Bc o1.p ((Fp 201 [.c (.int .u64 u)] [] (.v (vI (Lk u))) [])∧In (Aa o1.c1 3) fun o2=>(let z1:List Blk:=(Kc o2.c1);let z2:=(Lk u)+o2.x;(Ai o1.c1 3 o2)∧(wI z2)∧In (Ue u z2) fun o3=>((Y2 u z2 o3)∧Bc (!decide (o3.t=[])) (((List.length (o3.t:List UInt8)≤10)∧(Au o2.c1))∧Lf (.v (vT o3.t)) (.v (vT o3.t)) z1 z1) ((Fp 202 [.c (.int .u64 u)] [] z3 [])∧(z4∧(Au o2.c1))∧Lf z3 z3 z1 z1)))) ((Fp 202 [.c (.int .u64 u)] [] z3 [])∧(z4∧(Au o1.c1))∧Lf z3 z3 (Kc o1.c1) (Kc o1.c1))))) Q4 ?_
 refine⟨(B1 c 4 Q0),fun o1 ho_o1=>?_⟩
 obtain ⟨hp_o1,hf_o1⟩:=ho_o1
 refine⟨hf_o1,fun h1=>?_,fun h1=>?_⟩
 refine⟨(Aj3 _ Q2),(Ao o1.c1 3 Q0),fun o2 ho_o2=>?_⟩
 obtain ⟨⟨hp_o2_0,hp_o2_1,hp_o2_2,hp_o2_3⟩,hf_o2⟩:=ho_o2
 refine⟨hf_o2,(Ad Q2 Q2),(Aj4 u ((Lk u)+o2.x) Q2),fun o3 ho_o3=>?_⟩
 obtain ⟨hp_o3,hf_o3⟩:=ho_o3
 refine⟨hf_o3,fun h2=>have q2:=An h2;have p2:=of_decide_eq_false q2;?_,fun h2=>have q2:=Am h2;have p2:=of_decide_eq_true q2;?_⟩
 exact⟨⟨Q2,Q0⟩,rfl,rfl⟩
 exact⟨(Vo _ Q2),⟨Q2,Q0⟩,rfl,rfl⟩
 exact⟨(Vo _ Q2),⟨Q2,Q0⟩,rfl,rfl⟩
structure Js where
 x:Int
 c1:Cur
def U1 (c:Cur) (o:Js):Prop:=Fun Tryz.prog 176 [vP 0] [.cells (B2 c)] (.v (vI o.x)) [.cells (B2 o.c1)]
def Qi (c:Cur) (o:Js):Prop:=((Au o.c1))∧U1 c o
theorem Aff (c:Cur) (hp1:Au c): ∃o:Js,Qi c o:=by
 have hN:A8=274877906944:=rfl
 refine B4 Tryz.func176 Q4 Q4 (w:=(.intro (Ap c 4) fun o1=> .seg [.call [0] (.v (vB o1.p)) (Kc o1.c1)] (.br (.seg [.ty .int,.pubS 6] (.intro (A1 o1.c1 [0,1,(-1),18999,19000,19999,20000,536870911,536870912,9223372036854775807]) fun o2=> .seg [.call [0] (.v (vI o2.x)) (Kc o2.c1)] (.leaf (⟨o2.x,o2.c1⟩:Js) [0]))) (.intro (Aa o1.c1 20) fun o2=> .seg [.call [0] (.v (vI o2.x)) (Kc o2.c1),.as 10 (.v (vI (1+o2.x)))] (.leaf (⟨1+o2.x,o2.c1⟩:Js) [0]))),In (Ap c 4) fun o1=>((Ba c 4 o1)∧Bc o1.p (In (A1 o1.c1 [0,1,(-1),18999,19000,19999,20000,536870911,536870912,9223372036854775807]) fun o2=>((B5 o1.c1 [0,1,(-1),18999,19000,19999,20000,536870911,536870912,9223372036854775807] o2)∧((Au o2.c1))∧Lf (.v (vI o2.x)) (.v (vI o2.x)) (Kc o2.c1) (Kc o2.c1))) (In (Aa o1.c1 20) fun o2=>((Ai o1.c1 20 o2)∧(wI (1+o2.x))∧((Au o2.c1))∧Lf (.v (vI (1+o2.x))) (.v (vI (1+o2.x))) (Kc o2.c1) (Kc o2.c1)))))) Q4 ?_
 refine⟨(B1 c 4 Q0),fun o1 ho_o1=>?_⟩
 obtain ⟨hp_o1,hf_o1⟩:=ho_o1
 refine⟨hf_o1,fun h1=>?_,fun h1=>?_⟩
 refine⟨(Cn o1.c1 [0,1,(-1),18999,19000,19999,20000,536870911,536870912,9223372036854775807] Q0 Q5 Q5),fun o2 ho_o2=>?_⟩
 obtain ⟨⟨hp_o2_0,hp_o2_1⟩,hf_o2⟩:=ho_o2
 exact⟨hf_o2,Q0,rfl,rfl⟩
 refine⟨(Ao o1.c1 20 Q0),fun o2 ho_o2=>?_⟩
 obtain ⟨⟨hp_o2_0,hp_o2_1,hp_o2_2,hp_o2_3⟩,hf_o2⟩:=ho_o2
 exact⟨hf_o2,(Ad Q2 Q2),Q0,rfl,rfl⟩
end Go.Proofs.YtphecbmdhbphgaaGreat.Ax
