/- Drawn texts. Drawn bytes of messages. Bent descriptions and plans. Drawn inputs. -/
import Derived.Test.YtphecbmdhbphgaaGreatKFnPullAgain7
set_option linter.unusedSimpArgs false
set_option linter.unusedVariables false
namespace Go.Proofs.YtphecbmdhbphgaaGreat.Ax
open Go.RowKit
theorem Rk {t:List UInt8} {l:List (List UInt8)} {n:Nat} (h:t∈l) (hl:(l.all fun x=>decide (x.length≤n))=true):t.length≤n:=by
 have:=List.all_eq_true.1 hl t h
 simpa using this
structure Rm where
 t:List UInt8
 c1:Cur
def Rn (c:Cur) (l:List (List UInt8)) (o:Rm):Prop:=Fun Tryz.prog 178 [vP 0,.c (.seq .str l)] [.cells (B2 c)] (.v (vT o.t)) [.cells (B2 o.c1)]
def H8 (c:Cur) (l:List (List UInt8)) (o:Rm):Prop:=((o.t∈l)∧(Au o.c1))∧Rn c l o
theorem Aac (c:Cur) (l:List (List UInt8)) (hp1:Au c) (hp2:1≤List.length l) (hp3:List.length l≤1000): ∃o:Rm,H8 c l o:=by
 have hN:A8=274877906944:=rfl
 refine B4 Tryz.func178 Q4 Q4 (w:=let z1:=((List.length l:Nat):Int);(.intro (Aa c z1) fun o1=> .seg [.call [0] (.v (vI o1.x)) (Kc o1.c1)] (.intro (Sx (l[Int.toNat o1.x]?)) fun x1=> .seg [.el .str x1] (.leaf (⟨x1,o1.c1⟩:Rm) [0])),In (Aa c z1) fun o1=>((Ai c z1 o1)∧El (l[Int.toNat o1.x]?) fun x1=>((l[Int.toNat o1.x]? =some x1)∧((0:Int)≤o1.x)∧((x1∈l)∧(Au o1.c1))∧Lf (.v (vT x1)) (.v (vT x1)) (Kc o1.c1) (Kc o1.c1))))) Q4 ?_
 refine⟨(Ao c ((List.length l:Nat):Int) Q0),fun o1 ho_o1=>?_⟩
 obtain ⟨⟨hp_o1_0,hp_o1_1,hp_o1_2,hp_o1_3⟩,hf_o1⟩:=ho_o1
 refine⟨hf_o1,(Bm (l:=l) (i:=Int.toNat o1.x) Q2),fun x1 hx1=>?_⟩
 exact⟨hx1,Q2,⟨(List.mem_of_getElem? hx1),Q0⟩,rfl,rfl⟩
structure Lb where
 t:List UInt8
 c1:Cur
def So (c:Cur) (s:List UInt8) (o:Lb):Prop:=Fun Tryz.prog 203 [vP 0,vT s] [.cells (B2 c)] (.v (vT o.t)) [.cells (B2 o.c1)]
def Lc (c:Cur) (s:List UInt8) (o:Lb):Prop:=((List.length (o.t:List UInt8)≤List.length s+2)∧(Au o.c1))∧So c s o
theorem Abm (c:Cur) (s:List UInt8) (hp1:Au c) (hp2:List.length s≤1000000): ∃o:Lb,Lc c s o:=by
 have hN:A8=274877906944:=rfl
 have hml:List.length (List.map (fun b=>(UInt8.toNat b:Int)) s)=List.length s:=by simp
 refine B4 Tryz.func203 Q4 Q4 (w:=let z6:=List.map (fun b=>(UInt8.toNat b:Int)) s;let z7:=((List.length z6:Nat):Int);(.br (.intro (Bq c 2) fun o1=> .seg [.call [0] (.v (vO 1)) [.cells (B2 o1.c1),.lst .u8 o1.l]] (.leaf (⟨List.map Bh o1.l,o1.c1⟩:Lb) [0])) (.intro (Aa c z7) fun o1=> .seg [.call [0] (.v (vI o1.x)) (Kc o1.c1)] (.intro (Sx (z6[Int.toNat o1.x]?)) fun x1=> .intro (Aa o1.c1 255) fun o2=> .seg [.ord (os 13 [7,12]) [0],.el .u8 x1,.call [0] (.v (vI o2.x)) (Kc o2.c1),.as 26 (.v (vI (1+o2.x))),.as 27 (.v (.c (.int .u8 (1+o2.x)))),.el .u8 x1] (.leaf (⟨List.map Bh (List.set z6 (Int.toNat o1.x) (IntKind.u8.wrap (((BitVec.ofInt 8 x1 ^^^ BitVec.ofInt 8 (1+o2.x)).toNat:Nat)))),o2.c1⟩:Lb) [0]))),Bc (decide (s=[])) (In (Bq c 2) fun o1=>(let z1:=List.map Bh o1.l;(C3 c 2 o1)∧((List.length (z1:List UInt8)≤List.length s+2)∧(Au o1.c1))∧Lf (.v (vT z1)) (.v (vT z1)) (Kc o1.c1) (Kc o1.c1))) (In (Aa c z7) fun o1=>(let z4:=o1.x<z7;let z5:=(0:Int)≤o1.x;(List.length s≤A8)∧(Ai c z7 o1)∧El (z6[Int.toNat o1.x]?) fun x1=>(let z3:=z6[Int.toNat o1.x]? =some x1;In (Aa o1.c1 255) fun o2=>(let z2:=List.map Bh (List.set z6 (Int.toNat o1.x) (IntKind.u8.wrap (((BitVec.ofInt 8 x1 ^^^ BitVec.ofInt 8 (1+o2.x)).toNat:Nat))));z4∧z5∧z4∧z5∧z3∧z3∧(Ai o1.c1 255 o2)∧(wI (1+o2.x))∧((.v (.c (.int .u8 (IntKind.u8.wrap (1+o2.x)))):S)= .v (.c (.int .u8 (1+o2.x))))∧z4∧z5∧z4∧z5∧z3∧((List.length (z2:List UInt8)≤List.length s+2)∧(Au o2.c1))∧Lf (.v (vT z2)) (.v (vT z2)) (Kc o2.c1) (Kc o2.c1))))))) Q4 ?_
 refine dsp (fun h1 p1=>?_) fun h1 p1=>?_
 refine⟨(Es c 2 Q0 Q2),fun o1 ho_o1=>?_⟩
 obtain ⟨⟨hp_o1_0,hp_o1_1⟩,hf_o1⟩:=ho_o1
 exact⟨hf_o1,⟨Q21,Q0⟩,rfl,rfl⟩
 have hne:1≤List.length s:=List.length_pos_iff.2 (by simpa using p1)
 refine⟨(Ao c ((List.length (List.map (fun b=>(UInt8.toNat b:Int)) s):Nat):Int) Q0),fun o1 ho_o1=>?_⟩
 refine⟨Q2,?_⟩
 obtain ⟨⟨hp_o1_0,hp_o1_1,hp_o1_2,hp_o1_3⟩,hf_o1⟩:=ho_o1
 refine⟨hf_o1,(Bm (l:=List.map (fun b=>(UInt8.toNat b:Int)) s) (i:=Int.toNat o1.x) Q21),fun x1 hx1=>?_⟩
 refine⟨(Ao o1.c1 255 Q0),fun o2 ho_o2=>?_⟩
 obtain ⟨⟨hp_o2_0,hp_o2_1,hp_o2_2,hp_o2_3⟩,hf_o2⟩:=ho_o2
 exact⟨Q21,Q2,Q21,Q2,hx1,hx1,hf_o2,(Ad Q2 Q2),(Mn Q2 Q2),Q21,Q2,Q21,Q2,hx1,⟨(by simp only[List.length_set,List.length_map];omega),Q0⟩,rfl,rfl⟩
structure Et where
 t:List UInt8
def U2 (n:Int) (o:Et):Prop:=Fun Tryz.prog 227 [vI n] [] (.v (vT o.t)) []
def Qj (n:Int) (o:Et):Prop:=((List.length (o.t:List UInt8)≤4))∧U2 n o
theorem Afg (n:Int): ∃o:Et,Qj n o:=by
 have hN:A8=274877906944:=rfl
 have t64:0≤n→Int.tdiv n 64=n / 64:=fun h=>Int.tdiv_eq_ediv_of_nonneg h
 have t4096:0≤n→Int.tdiv n 4096=n / 4096:=fun h=>Int.tdiv_eq_ediv_of_nonneg h
 have t262144:0≤n→Int.tdiv n 262144=n / 262144:=fun h=>Int.tdiv_eq_ediv_of_nonneg h
 refine B4 Tryz.func227 Q4 Q4 (w:=let z2:=Int.tmod n 64;let z3:=Int.tdiv n 4096;let z4:=Int.tdiv n 64;let z1:=Int.tmod z4 64;let z7:=Int.tdiv n 262144;let z5:=List.map Bh [240+z7,128+(Int.tmod z3 64),128+z1,128+z2];let z8:=(64:Int)≠0;let z9:=List.map Bh [224+z3,128+z1,128+z2];let z10:=128+(Int.tmod z3 64);let z12:=((List.length ([]:List UInt8)≤4))∧Lf (.v (vT [])) (.v (vT [])) [] [];let z13:=128+z2;let z6:=(.v (.c (.int .u8 (IntKind.u8.wrap z13))):S)= .v (.c (.int .u8 z13));let z14:=List.map Bh [192+z4,128+z2];let z15:=128+z1;let z11:=(.v (.c (.int .u8 (IntKind.u8.wrap z15))):S)= .v (.c (.int .u8 z15));let z16:S:= .v (.c (.int .u8 z13));let z17:=Ak n 55296 57343;let z18:=List.map Bh [n];let z19:=Ak n 0 1114111;(.seg [.call [] (.v (vB z19)) []] (.br (.leaf (⟨[]⟩:Et) []) (.seg [.call [] (.v (vB z17)) []] (.br (.leaf (⟨[]⟩:Et) []) (.br (.seg [.as 15 (.v (.c (.int .u8 n))),.ty .u8] (.leaf (⟨List.map Bh [n]⟩:Et) [])) (.br (.seg [.as 22 (.v (vI z4)),.as 23 (.v (vI (192+z4))),.as 24 (.v (.c (.int .u8 (192+z4)))),.as 27 (.v (vI z13)),.as 28 z16,.ty .u8] (.leaf (⟨List.map Bh [192+z4,128+z2]⟩:Et) [])) (.br (.seg [.as 35 (.v (vI z3)),.as 36 (.v (vI (224+z3))),.as 37 (.v (.c (.int .u8 (224+z3)))),.as 39 (.v (vI z4)),.as 41 (.v (vI z15)),.as 42 (.v (.c (.int .u8 z15))),.as 45 (.v (vI z13)),.as 46 z16,.ty .u8] (.leaf (⟨List.map Bh [224+z3,128+z1,128+z2]⟩:Et) [])) (.seg [.as 50 (.v (vI z7)),.as 51 (.v (vI (240+z7))),.as 52 (.v (.c (.int .u8 (240+z7)))),.as 54 (.v (vI z3)),.as 56 (.v (vI z10)),.as 57 (.v (.c (.int .u8 z10))),.as 59 (.v (vI z4)),.as 61 (.v (vI z15)),.as 62 (.v (.c (.int .u8 z15))),.as 65 (.v (vI z13)),.as 66 z16,.ty .u8] (.leaf (⟨List.map Bh [240+z7,128+(Int.tmod z3 64),128+z1,128+z2]⟩:Et) [])))))))),(Fp 44 [vI n,vI 0,vI 1114111] [] (.v (vB z19)) [])∧Bc (!z19) z12 ((Fp 44 [vI n,vI 55296,vI 57343] [] (.v (vB z17)) [])∧Bc z17 z12 (Bc (decide (n<128)) (((.v (.c (.int .u8 (IntKind.u8.wrap (n)))):S)= .v (.c (.int .u8 n)))∧((List.length (z18:List UInt8)≤4))∧Lf (.v (vT z18)) (.v (vT z18)) [] []) (Bc (decide (n<2048)) (z8∧(wI z4)∧(wI (192+z4))∧((.v (.c (.int .u8 (IntKind.u8.wrap (192+z4)))):S)= .v (.c (.int .u8 (192+z4))))∧z8∧(wI z13)∧z6∧((List.length (z14:List UInt8)≤4))∧Lf (.v (vT z14)) (.v (vT z14)) [] []) (Bc (decide (n<65536)) (((4096:Int)≠0)∧(wI z3)∧(wI (224+z3))∧((.v (.c (.int .u8 (IntKind.u8.wrap (224+z3)))):S)= .v (.c (.int .u8 (224+z3))))∧z8∧(wI z4)∧z8∧(wI z15)∧z11∧z8∧(wI z13)∧z6∧((List.length (z9:List UInt8)≤4))∧Lf (.v (vT z9)) (.v (vT z9)) [] []) (((262144:Int)≠0)∧(wI z7)∧(wI (240+z7))∧((.v (.c (.int .u8 (IntKind.u8.wrap (240+z7)))):S)= .v (.c (.int .u8 (240+z7))))∧((4096:Int)≠0)∧(wI z3)∧z8∧(wI z10)∧((.v (.c (.int .u8 (IntKind.u8.wrap z10))):S)= .v (.c (.int .u8 z10)))∧z8∧(wI z4)∧z8∧(wI z15)∧z11∧z8∧(wI z13)∧z6∧((List.length (z5:List UInt8)≤4))∧Lf (.v (vT z5)) (.v (vT z5)) [] []))))))) Q4 ?_
 refine⟨(Bf _ _ _),fun h1=>have q1:=An h1;have p1:=Ay q1;?_,fun h1=>have q1:=Am h1;have p1:=As q1;?_⟩
 exact⟨Q80,rfl,rfl⟩
 refine⟨(Bf _ _ _),fun h2=>have p2:=As h2;?_,fun h2=>have p2:=Ay h2;?_⟩
 exact⟨Q80,rfl,rfl⟩
 refine dsp (fun h3 p3=>?_) fun h3 p3=>?_
 exact⟨(Mn Q2 Q2),Q80,rfl,rfl⟩
 refine dsp (fun h4 p4=>?_) fun h4 p4=>?_
 exact⟨Q30,(Ad Q2 Q2),(Ad Q2 Q2),(Mn Q2 Q2),Q30,(Ad Q59 Q59),(Mn Q59 Q59),Q80,rfl,rfl⟩
 refine dsp (fun h5 p5=>?_) fun h5 p5=>?_
 exact⟨Q30,(Ad Q2 Q2),(Ad Q2 Q2),(Mn Q2 Q2),Q30,(Ad Q2 Q2),Q30,(Ad Q60 Q60),(Mn Q60 Q60),Q30,(Ad Q59 Q59),(Mn Q59 Q59),Q80,rfl,rfl⟩
 exact⟨Q30,(Ad Q2 Q2),(Ad Q2 Q2),(Mn Q2 Q2),Q30,(Ad Q2 Q2),Q30,(Ad Q81 Q81),(Mn Q81 Q81),Q30,(Ad Q2 Q2),Q30,(Ad Q60 Q60),(Mn Q60 Q60),Q30,(Ad Q59 Q59),(Mn Q59 Q59),Q80,rfl,rfl⟩
structure Ro where
 x:Int
 c1:Cur
def Y3 (c:Cur) (o:Ro):Prop:=Fun Tryz.prog 228 [vP 0] [.cells (B2 c)] (.v (vI o.x)) [.cells (B2 o.c1)]
def Uf (c:Cur) (o:Ro):Prop:=((Au o.c1))∧Y3 c o
theorem Aj5 (c:Cur) (hp1:Au c): ∃o:Ro,Uf c o:=by
 have hN:A8=274877906944:=rfl
 refine B4 Tryz.func228 Q4 Q4 (w:=(.intro (Aa c 1114112) fun o1=> .seg [.call [0] (.v (vI o1.x)) (Kc o1.c1),.ty .int,.pubS 6] (.intro (A1 o1.c1 [0,65,127,128,2047,2048,4095,55295,57344,65535,65536,1114111,o1.x]) fun o2=> .seg [.call [0] (.v (vI o2.x)) (Kc o2.c1)] (.leaf (⟨o2.x,o2.c1⟩:Ro) [0])),In (Aa c 1114112) fun o1=>((Ai c 1114112 o1)∧In (A1 o1.c1 [0,65,127,128,2047,2048,4095,55295,57344,65535,65536,1114111,o1.x]) fun o2=>((B5 o1.c1 [0,65,127,128,2047,2048,4095,55295,57344,65535,65536,1114111,o1.x] o2)∧((Au o2.c1))∧Lf (.v (vI o2.x)) (.v (vI o2.x)) (Kc o2.c1) (Kc o2.c1))))) Q4 ?_
 refine⟨(Ao c 1114112 Q0),fun o1 ho_o1=>?_⟩
 obtain ⟨⟨hp_o1_0,hp_o1_1,hp_o1_2,hp_o1_3⟩,hf_o1⟩:=ho_o1
 refine⟨hf_o1,(Cn o1.c1 [0,65,127,128,2047,2048,4095,55295,57344,65535,65536,1114111,o1.x] Q0 Q5 Q5),fun o2 ho_o2=>?_⟩
 obtain ⟨⟨hp_o2_0,hp_o2_1⟩,hf_o2⟩:=ho_o2
 exact⟨hf_o2,Q0,rfl,rfl⟩
structure Rp where
 t:List UInt8
 c1:Cur
def Ug (c:Cur) (n:Int) (o:Rp):Prop:=Fun Tryz.prog 213 [vP 0,vI n] [.cells (B2 c)] (.v (vT o.t)) [.cells (B2 o.c1)]
def M2 (c:Cur) (n:Int) (o:Rp):Prop:=((List.length (o.t:List UInt8)≤4*Int.toNat n)∧(Au o.c1))∧Ug c n o
structure Pi where
 c:Cur
 s:List UInt8
 i:Nat
def Pj (n:Int):Fam:=⟨Pi,fun q1=>[(0,.v (vP 0)),(1,.v (vI n)),(5,.v (vT q1.s)),(6,.v (vI ((q1.i:Nat):Int)))],fun q1=>[.cells (B2 q1.c)],fun q1=>Au q1.c∧(q1.i=0∨((q1.i:Nat):Int)≤n)∧List.length q1.s≤4*q1.i,fun q1=>Int.toNat n-q1.i⟩
theorem Ad7 (c:Cur) (n:Int) (hp1:Au c) (hp2:n≤1000): ∃o:Rp,M2 c n o:=by
 have hN:A8=274877906944:=rfl
 refine B4 Tryz.func213 Q4 Q4 (w:=let z2:=Pj n;(.seg [.at 0,.keep [0,1,5,6],.sel [0]] (.loop z2 fun q1=> .br (.intro (Uf q1.c) fun o1=> .seg [.call [0] (.v (vI o1.x)) (Kc o1.c1)] (.intro (Qj o1.x) fun o2=> .seg [.call [] (.v (vT o2.t)) [],.as 11 (.v (vI (((q1.i:Nat):Int)+1))),.at 0,.keep [0,1,5,6],.sel [0]] (.next))) (.leaf (⟨q1.s,q1.c⟩:Rp) [0])),z2.Has [(0,.v (vP 0)),(1,.v (vI n)),(5,.v (vT [])),(6,.v (vI 0))] (Kc c)∧∀q1,z2.inv q1→(let z1:=((q1.i:Nat):Int);Bc (decide (z1<n)) (In (Uf q1.c) fun o1=>((Y3 q1.c o1)∧In (Qj o1.x) fun o2=>((U2 o1.x o2)∧(((List.length q1.s+List.length o2.t:Nat):Int)≤Bg)∧(wI (z1+1))∧z2.Nxt q1 [(0,.v (vP 0)),(1,.v (vI n)),(5,.v (vT (q1.s++o2.t))),(6,.v (vI (z1+1)))] (Kc o1.c1)))) (((List.length (q1.s:List UInt8)≤4*Int.toNat n)∧(Au q1.c))∧Lf (.v (vT q1.s)) (.v (vT q1.s)) (Kc q1.c) (Kc q1.c))))) Q4 ?_
 refine⟨Bj (j:=(⟨c,[],0⟩:Pi)) Q9 rfl (by dsimp only[Pj];exact⟨by assumption,.inl rfl,by simp⟩),fun (q1:Pi) hq_q1=>?_⟩
 have hi_q1:Au q1.c∧(q1.i=0∨((q1.i:Nat):Int)≤n)∧List.length q1.s≤4*q1.i:=hq_q1
 obtain ⟨v1,v2,v3⟩:=hi_q1
 refine dsp (fun h1 p1=>?_) fun h1 p1=>?_
 refine⟨(Aj5 q1.c Q0),fun o1 ho_o1=>?_⟩
 obtain ⟨hp_o1,hf_o1⟩:=ho_o1
 refine⟨hf_o1,(Afg o1.x),fun o2 ho_o2=>?_⟩
 obtain ⟨hp_o2,hf_o2⟩:=ho_o2
 exact⟨hf_o2,(by simp only[Bg];omega),(Ad Q2 Q2),A5 (j:=(⟨o1.c1,q1.s++o2.t,q1.i+1⟩:Pi)) Q9 rfl (by dsimp only[Pj];exact⟨by assumption,by omega,by simp;omega⟩) (by dsimp only[Pj];omega)⟩
 exact⟨⟨Q2,Q0⟩,rfl,rfl⟩
structure H9 where
 t:List UInt8
 c1:Cur
def Uh (c:Cur) (o:H9):Prop:=Fun Tryz.prog 174 [vP 0] [.cells (B2 c)] (.v (vT o.t)) [.cells (B2 o.c1)]
def M3 (c:Cur) (o:H9):Prop:=((List.length (o.t:List UInt8)≤16)∧(Au o.c1))∧Uh c o
theorem Ad8 (c:Cur) (hp1:Au c): ∃o:H9,M3 c o:=by
 have hN:A8=274877906944:=rfl
 refine B4 Tryz.func174 Q4 Q4 (w:=(.intro (Aa c 4) fun o1=> .seg [.call [0] (.v (vI o1.x)) (Kc o1.c1)] (.intro (M2 o1.c1 o1.x) fun o2=>let z2:=((List.length o2.t:Nat):Int)+1;.seg [.call [0] (.v (vT o2.t)) (Kc o2.c1)] (.intro (Aa o2.c1 4) fun o3=> .seg [.call [0] (.v (vI o3.x)) (Kc o3.c1)] (.br (.intro (Lc o3.c1 o2.t) fun o4=> .seg [.call [0] (.v (vT o4.t)) (Kc o4.c1)] (.leaf (⟨o4.t,o4.c1⟩:H9) [0])) (.br (.seg [.as 21 (.v (vI z2))] (.intro (Aa o3.c1 z2) fun o4=> .seg [.call [0] (.v (vI o4.x)) (Kc o4.c1)] (.leaf (⟨List.take (Int.toNat o4.x) o2.t,o4.c1⟩:H9) [0]))) (.br (.seg [.ty .str,.pubS 28] (.intro (H8 o3.c1 [[128],[192,128],[224,159,191],[237,160,128],[240,143,191,191],[244,144,128,128],[245],[255],[226,130],[193,191]]) fun o4=> .seg [.call [0] (.v (vT o4.t)) (Kc o4.c1)] (.leaf (⟨o2.t++o4.t,o4.c1⟩:H9) [0]))) (.leaf (⟨o2.t,o3.c1⟩:H9) [0])))))),In (Aa c 4) fun o1=>((Ai c 4 o1)∧In (M2 o1.c1 o1.x) fun o2=>(let z3:=((List.length o2.t:Nat):Int);(Ug o1.c1 o1.x o2)∧In (Aa o2.c1 4) fun o3=>((Ai o2.c1 4 o3)∧Bc (decide (o3.x=0)) (In (Lc o3.c1 o2.t) fun o4=>((So o3.c1 o2.t o4)∧((List.length (o4.t:List UInt8)≤16)∧(Au o4.c1))∧Lf (.v (vT o4.t)) (.v (vT o4.t)) (Kc o4.c1) (Kc o4.c1))) (Bc (decide (o3.x=1)) ((wI (z3+1))∧In (Aa o3.c1 (z3+1)) fun o4=>(let z1:=List.take (Int.toNat o4.x) o2.t;(Ai o3.c1 (z3+1) o4)∧(o4.x≤z3)∧((0:Int)≤o4.x)∧((List.length (z1:List UInt8)≤16)∧(Au o4.c1))∧Lf (.v (vT z1)) (.v (vT z1)) (Kc o4.c1) (Kc o4.c1))) (Bc (decide (o3.x=2)) (In (H8 o3.c1 [[128],[192,128],[224,159,191],[237,160,128],[240,143,191,191],[244,144,128,128],[245],[255],[226,130],[193,191]]) fun o4=>((Rn o3.c1 [[128],[192,128],[224,159,191],[237,160,128],[240,143,191,191],[244,144,128,128],[245],[255],[226,130],[193,191]] o4)∧(((List.length o2.t+List.length o4.t:Nat):Int)≤Bg)∧((List.length ((o2.t++o4.t):List UInt8)≤16)∧(Au o4.c1))∧Lf (.v (vT (o2.t++o4.t))) (.v (vT (o2.t++o4.t))) (Kc o4.c1) (Kc o4.c1))) (((List.length (o2.t:List UInt8)≤16)∧(Au o3.c1))∧Lf (.v (vT o2.t)) (.v (vT o2.t)) (Kc o3.c1) (Kc o3.c1))))))))) Q4 ?_
 refine⟨(Ao c 4 Q0),fun o1 ho_o1=>?_⟩
 obtain ⟨⟨hp_o1_0,hp_o1_1,hp_o1_2,hp_o1_3⟩,hf_o1⟩:=ho_o1
 refine⟨hf_o1,(Ad7 o1.c1 o1.x Q0 Q2),fun o2 ho_o2=>?_⟩
 obtain ⟨⟨hp_o2_0,hp_o2_1⟩,hf_o2⟩:=ho_o2
 refine⟨hf_o2,(Ao o2.c1 4 Q0),fun o3 ho_o3=>?_⟩
 obtain ⟨⟨hp_o3_0,hp_o3_1,hp_o3_2,hp_o3_3⟩,hf_o3⟩:=ho_o3
 refine⟨hf_o3,dsp (fun h1 p1=>?_) fun h1 p1=>?_⟩
 refine⟨(Abm o3.c1 o2.t Q0 Q2),fun o4 ho_o4=>?_⟩
 obtain ⟨⟨hp_o4_0,hp_o4_1⟩,hf_o4⟩:=ho_o4
 exact⟨hf_o4,⟨Q2,Q0⟩,rfl,rfl⟩
 refine dsp (fun h2 p2=>?_) fun h2 p2=>?_
 refine⟨(Ad Q2 Q2),(Ao o3.c1 (((List.length o2.t:Nat):Int)+1) Q0),fun o4 ho_o4=>?_⟩
 obtain ⟨⟨hp_o4_0,hp_o4_1,hp_o4_2,hp_o4_3⟩,hf_o4⟩:=ho_o4
 exact⟨hf_o4,Q2,Q2,⟨(by simp only[List.length_take];omega),Q0⟩,rfl,rfl⟩
 refine dsp (fun h3 p3=>?_) fun h3 p3=>?_
 refine⟨(Aac o3.c1 [[128],[192,128],[224,159,191],[237,160,128],[240,143,191,191],[244,144,128,128],[245],[255],[226,130],[193,191]] Q0 Q5 Q5),fun o4 ho_o4=>?_⟩
 obtain ⟨⟨hp_o4_0,hp_o4_1⟩,hf_o4⟩:=ho_o4
 exact⟨hf_o4,(by have:=Rk (n:=4) hp_o4_0 Q30;simp only[Bg];omega),⟨(by have:=Rk (n:=4) hp_o4_0 Q30;simp;omega),Q0⟩,rfl,rfl⟩
 exact⟨⟨Q2,Q0⟩,rfl,rfl⟩
def Ef:Nat→Nat
 |0=>50
 |d+1=>20+4*Ef d
theorem Vx: ∀d,50≤Ef d
 |0=>Nat.le_refl _
 |d+1=>by have:=Vx d;rw[Ef];omega
theorem Afh (d:Int) (h:0<d):Ef (Int.toNat d)=20+4*Ef (Int.toNat (d-1)):=by
 rw[show Int.toNat d=Int.toNat (d-1)+1 by omega];rfl
theorem M4 {d:Int} (h0:0≤d) (h:d≤4):Ef (Int.toNat d)≤14500:=by
 obtain ⟨k,rfl⟩:=Int.eq_ofNat_of_zero_le h0
 have:k=0∨k=1∨k=2∨k=3∨k=4:=by omega
 rcases this with rfl|rfl|rfl|rfl|rfl<;>decide
structure Cb where
 t:List UInt8
 c1:Cur
def Mj (c:Cur) (o:Cb):Prop:=Fun Tryz.prog 198 [vP 0] [.cells (B2 c)] (.v (vT o.t)) [.cells (B2 o.c1)]
def Gh (c:Cur) (o:Cb):Prop:=((List.length (o.t:List UInt8)≤24)∧(Au o.c1))∧Mj c o
theorem U3 (c:Cur) (hp1:Au c): ∃o:Cb,Gh c o:=by
 have hN:A8=274877906944:=rfl
 refine B4 Tryz.func198 Q4 Q4 (w:=let z27:S:= .v (vO 1);let z28:=A1 c [0,1,2,5,0,2];(.seg [.ty .int,.pubS 7] (.intro z28 fun o1=>let z25:=A4 o1.x;.seg [.call [0] (.v (vI o1.x)) (Kc o1.c1)] (.intro (Ap o1.c1 10) fun o2=> .seg [.call [0] (.v (vB o2.p)) (Kc o2.c1)] (.br (.seg [.ty .int,.pubS 12] (.intro (A1 o2.c1 [3,4,6,7]) fun o3=>let z12:=A4 o3.x;.seg [.call [0] (.v (vI o3.x)) (Kc o3.c1)] (.intro (Aa o3.c1 3) fun o4=> .seg [.call [0] (.v (vI o4.x)) (Kc o4.c1),.as 17 (.v (vI (40+o4.x))),.call [] (.v (.c (.int .u64 (C5 (40+o4.x) o3.x)))) []] (.intro (Ag o4.c1 (C5 (40+o4.x) o3.x)) fun o5=> .seg [.call [0] (.v (vT o5.t)) (Kc o5.c1)] (.intro (Ap o5.c1 20) fun o6=> .seg [.call [0] (.v (vB o6.p)) (Kc o6.c1)] (.br (.intro (Ce o6.c1) fun o7=> .seg [.call [0] (.v (.c (.int .u64 o7.x))) (Kc o7.c1)] (.intro (Ag o7.c1 o7.x) fun o8=> .seg [.call [0] (.v (vT o8.t)) (Kc o8.c1)] (.br (.intro (Ce o8.c1) fun o9=> .seg [.call [0] (.v (.c (.int .u64 o9.x))) (Kc o9.c1)] (.intro (Ag o9.c1 o9.x) fun o10=> .seg [.call [0] (.v (vT o10.t)) (Kc o10.c1)] (.leaf (⟨o8.t++o10.t,o10.c1⟩:Cb) [0]))) (.br (.intro (Aa o8.c1 5) fun o9=> .seg [.call [0] (.v (vI o9.x)) (Kc o9.c1)] (.intro (Bq o9.c1 o9.x) fun o10=>let z2:=((List.length (List.map Bh o10.l):Nat):Int);.seg [.call [0] z27 [.cells (B2 o10.c1),.lst .u8 o10.l],.as 47 (.v (.c (.int .u64 z2)))] (.intro (Ag o10.c1 z2) fun o11=> .seg [.call [0] (.v (vT o11.t)) (Kc o11.c1)] (.leaf (⟨(o8.t++o11.t)++(List.map Bh o10.l),o11.c1⟩:Cb) [0])))) (.seg [.call [] (.v (vI z12)) []] (.intro (Bq o8.c1 z12) fun o9=> .seg [.call [0] z27 [.cells (B2 o9.c1),.lst .u8 o9.l]] (.leaf (⟨o8.t++(List.map Bh o9.l),o9.c1⟩:Cb) [0]))))))) (.br (.intro (Ce o6.c1) fun o7=> .seg [.call [0] (.v (.c (.int .u64 o7.x))) (Kc o7.c1)] (.intro (Ag o7.c1 o7.x) fun o8=> .seg [.call [0] (.v (vT o8.t)) (Kc o8.c1)] (.leaf (⟨o5.t++o8.t,o8.c1⟩:Cb) [0]))) (.br (.intro (Aa o6.c1 5) fun o7=> .seg [.call [0] (.v (vI o7.x)) (Kc o7.c1)] (.intro (Bq o7.c1 o7.x) fun o8=>let z7:=((List.length (List.map Bh o8.l):Nat):Int);.seg [.call [0] z27 [.cells (B2 o8.c1),.lst .u8 o8.l],.as 47 (.v (.c (.int .u64 z7)))] (.intro (Ag o8.c1 z7) fun o9=> .seg [.call [0] (.v (vT o9.t)) (Kc o9.c1)] (.leaf (⟨(o5.t++o9.t)++(List.map Bh o8.l),o9.c1⟩:Cb) [0])))) (.seg [.call [] (.v (vI z12)) []] (.intro (Bq o6.c1 z12) fun o7=> .seg [.call [0] z27 [.cells (B2 o7.c1),.lst .u8 o7.l]] (.leaf (⟨o5.t++(List.map Bh o7.l),o7.c1⟩:Cb) [0]))))))))))) (.intro (Aa o2.c1 3) fun o3=> .seg [.call [0] (.v (vI o3.x)) (Kc o3.c1),.as 17 (.v (vI (40+o3.x))),.call [] (.v (.c (.int .u64 (C5 (40+o3.x) o1.x)))) []] (.intro (Ag o3.c1 (C5 (40+o3.x) o1.x)) fun o4=> .seg [.call [0] (.v (vT o4.t)) (Kc o4.c1)] (.intro (Ap o4.c1 20) fun o5=> .seg [.call [0] (.v (vB o5.p)) (Kc o5.c1)] (.br (.intro (Ce o5.c1) fun o6=> .seg [.call [0] (.v (.c (.int .u64 o6.x))) (Kc o6.c1)] (.intro (Ag o6.c1 o6.x) fun o7=> .seg [.call [0] (.v (vT o7.t)) (Kc o7.c1)] (.br (.intro (Ce o7.c1) fun o8=> .seg [.call [0] (.v (.c (.int .u64 o8.x))) (Kc o8.c1)] (.intro (Ag o8.c1 o8.x) fun o9=> .seg [.call [0] (.v (vT o9.t)) (Kc o9.c1)] (.leaf (⟨o7.t++o9.t,o9.c1⟩:Cb) [0]))) (.br (.intro (Aa o7.c1 5) fun o8=> .seg [.call [0] (.v (vI o8.x)) (Kc o8.c1)] (.intro (Bq o8.c1 o8.x) fun o9=>let z15:=((List.length (List.map Bh o9.l):Nat):Int);.seg [.call [0] z27 [.cells (B2 o9.c1),.lst .u8 o9.l],.as 47 (.v (.c (.int .u64 z15)))] (.intro (Ag o9.c1 z15) fun o10=> .seg [.call [0] (.v (vT o10.t)) (Kc o10.c1)] (.leaf (⟨(o7.t++o10.t)++(List.map Bh o9.l),o10.c1⟩:Cb) [0])))) (.seg [.call [] (.v (vI z25)) []] (.intro (Bq o7.c1 z25) fun o8=> .seg [.call [0] z27 [.cells (B2 o8.c1),.lst .u8 o8.l]] (.leaf (⟨o7.t++(List.map Bh o8.l),o8.c1⟩:Cb) [0]))))))) (.br (.intro (Ce o5.c1) fun o6=> .seg [.call [0] (.v (.c (.int .u64 o6.x))) (Kc o6.c1)] (.intro (Ag o6.c1 o6.x) fun o7=> .seg [.call [0] (.v (vT o7.t)) (Kc o7.c1)] (.leaf (⟨o4.t++o7.t,o7.c1⟩:Cb) [0]))) (.br (.intro (Aa o5.c1 5) fun o6=> .seg [.call [0] (.v (vI o6.x)) (Kc o6.c1)] (.intro (Bq o6.c1 o6.x) fun o7=>let z20:=((List.length (List.map Bh o7.l):Nat):Int);.seg [.call [0] z27 [.cells (B2 o7.c1),.lst .u8 o7.l],.as 47 (.v (.c (.int .u64 z20)))] (.intro (Ag o7.c1 z20) fun o8=> .seg [.call [0] (.v (vT o8.t)) (Kc o8.c1)] (.leaf (⟨(o4.t++o8.t)++(List.map Bh o7.l),o8.c1⟩:Cb) [0])))) (.seg [.call [] (.v (vI z25)) []] (.intro (Bq o5.c1 z25) fun o6=> .seg [.call [0] z27 [.cells (B2 o6.c1),.lst .u8 o6.l]] (.leaf (⟨o4.t++(List.map Bh o6.l),o6.c1⟩:Cb) [0])))))))))))),In z28 fun o1=>(let z26:=A4 o1.x;(B5 c [0,1,2,5,0,2] o1)∧In (Ap o1.c1 10) fun o2=>((Ba o1.c1 10 o2)∧Bc o2.p (In (A1 o2.c1 [3,4,6,7]) fun o3=>(let z13:=A4 o3.x;(B5 o2.c1 [3,4,6,7] o3)∧In (Aa o3.c1 3) fun o4=>(let z11:=C5 (40+o4.x) o3.x;(Ai o3.c1 3 o4)∧(wI (40+o4.x))∧(Fp 222 [vI (40+o4.x),vI o3.x] [] (.v (.c (.int .u64 z11))) [])∧In (Ag o4.c1 z11) fun o5=>((Aw o4.c1 z11 o5)∧In (Ap o5.c1 20) fun o6=>((Ba o5.c1 20 o6)∧Bc o6.p (In (Ce o6.c1) fun o7=>((Ei o6.c1 o7)∧In (Ag o7.c1 o7.x) fun o8=>((Aw o7.c1 o7.x o8)∧Bc (decide (o3.x=0)) (In (Ce o8.c1) fun o9=>((Ei o8.c1 o9)∧In (Ag o9.c1 o9.x) fun o10=>((Aw o9.c1 o9.x o10)∧(((List.length o8.t+List.length o10.t:Nat):Int)≤Bg)∧((List.length ((o8.t++o10.t):List UInt8)≤24)∧(Au o10.c1))∧Lf (.v (vT (o8.t++o10.t))) (.v (vT (o8.t++o10.t))) (Kc o10.c1) (Kc o10.c1)))) (Bc (decide (o3.x=2)) (In (Aa o8.c1 5) fun o9=>((Ai o8.c1 5 o9)∧In (Bq o9.c1 o9.x) fun o10=>(let z4:=List.map Bh o10.l;let z3:=((List.length z4:Nat):Int);(C3 o9.c1 o9.x o10)∧(wU (z3))∧In (Ag o10.c1 z3) fun o11=>(let z1:=(o8.t++o11.t)++z4;(Aw o10.c1 z3 o11)∧(((List.length o8.t+List.length o11.t:Nat):Int)≤Bg)∧(((List.length (o8.t++o11.t)+List.length z4:Nat):Int)≤Bg)∧((List.length (z1:List UInt8)≤24)∧(Au o11.c1))∧Lf (.v (vT z1)) (.v (vT z1)) (Kc o11.c1) (Kc o11.c1))))) ((Fp 127 [vI o3.x] [] (.v (vI z13)) [])∧In (Bq o8.c1 z13) fun o9=>(let z5:=o8.t++(List.map Bh o9.l);(C3 o8.c1 z13 o9)∧(((List.length o8.t+List.length (List.map Bh o9.l):Nat):Int)≤Bg)∧((List.length (z5:List UInt8)≤24)∧(Au o9.c1))∧Lf (.v (vT z5)) (.v (vT z5)) (Kc o9.c1) (Kc o9.c1))))))) (Bc (decide (o3.x=0)) (In (Ce o6.c1) fun o7=>((Ei o6.c1 o7)∧In (Ag o7.c1 o7.x) fun o8=>((Aw o7.c1 o7.x o8)∧(((List.length o5.t+List.length o8.t:Nat):Int)≤Bg)∧((List.length ((o5.t++o8.t):List UInt8)≤24)∧(Au o8.c1))∧Lf (.v (vT (o5.t++o8.t))) (.v (vT (o5.t++o8.t))) (Kc o8.c1) (Kc o8.c1)))) (Bc (decide (o3.x=2)) (In (Aa o6.c1 5) fun o7=>((Ai o6.c1 5 o7)∧In (Bq o7.c1 o7.x) fun o8=>(let z9:=List.map Bh o8.l;let z8:=((List.length z9:Nat):Int);(C3 o7.c1 o7.x o8)∧(wU (z8))∧In (Ag o8.c1 z8) fun o9=>(let z6:=(o5.t++o9.t)++z9;(Aw o8.c1 z8 o9)∧(((List.length o5.t+List.length o9.t:Nat):Int)≤Bg)∧(((List.length (o5.t++o9.t)+List.length z9:Nat):Int)≤Bg)∧((List.length (z6:List UInt8)≤24)∧(Au o9.c1))∧Lf (.v (vT z6)) (.v (vT z6)) (Kc o9.c1) (Kc o9.c1))))) ((Fp 127 [vI o3.x] [] (.v (vI z13)) [])∧In (Bq o6.c1 z13) fun o7=>(let z10:=o5.t++(List.map Bh o7.l);(C3 o6.c1 z13 o7)∧(((List.length o5.t+List.length (List.map Bh o7.l):Nat):Int)≤Bg)∧((List.length (z10:List UInt8)≤24)∧(Au o7.c1))∧Lf (.v (vT z10)) (.v (vT z10)) (Kc o7.c1) (Kc o7.c1)))))))))) (In (Aa o2.c1 3) fun o3=>(let z24:=C5 (40+o3.x) o1.x;(Ai o2.c1 3 o3)∧(wI (40+o3.x))∧(Fp 222 [vI (40+o3.x),vI o1.x] [] (.v (.c (.int .u64 z24))) [])∧In (Ag o3.c1 z24) fun o4=>((Aw o3.c1 z24 o4)∧In (Ap o4.c1 20) fun o5=>((Ba o4.c1 20 o5)∧Bc o5.p (In (Ce o5.c1) fun o6=>((Ei o5.c1 o6)∧In (Ag o6.c1 o6.x) fun o7=>((Aw o6.c1 o6.x o7)∧Bc (decide (o1.x=0)) (In (Ce o7.c1) fun o8=>((Ei o7.c1 o8)∧In (Ag o8.c1 o8.x) fun o9=>((Aw o8.c1 o8.x o9)∧(((List.length o7.t+List.length o9.t:Nat):Int)≤Bg)∧((List.length ((o7.t++o9.t):List UInt8)≤24)∧(Au o9.c1))∧Lf (.v (vT (o7.t++o9.t))) (.v (vT (o7.t++o9.t))) (Kc o9.c1) (Kc o9.c1)))) (Bc (decide (o1.x=2)) (In (Aa o7.c1 5) fun o8=>((Ai o7.c1 5 o8)∧In (Bq o8.c1 o8.x) fun o9=>(let z17:=List.map Bh o9.l;let z16:=((List.length z17:Nat):Int);(C3 o8.c1 o8.x o9)∧(wU (z16))∧In (Ag o9.c1 z16) fun o10=>(let z14:=(o7.t++o10.t)++z17;(Aw o9.c1 z16 o10)∧(((List.length o7.t+List.length o10.t:Nat):Int)≤Bg)∧(((List.length (o7.t++o10.t)+List.length z17:Nat):Int)≤Bg)∧((List.length (z14:List UInt8)≤24)∧(Au o10.c1))∧Lf (.v (vT z14)) (.v (vT z14)) (Kc o10.c1) (Kc o10.c1))))) ((Fp 127 [vI o1.x] [] (.v (vI z26)) [])∧In (Bq o7.c1 z26) fun o8=>(let z18:=o7.t++(List.map Bh o8.l);(C3 o7.c1 z26 o8)∧(((List.length o7.t+List.length (List.map Bh o8.l):Nat):Int)≤Bg)∧((List.length (z18:List UInt8)≤24)∧(Au o8.c1))∧Lf (.v (vT z18)) (.v (vT z18)) (Kc o8.c1) (Kc o8.c1))))))) (Bc (decide (o1.x=0)) (In (Ce o5.c1) fun o6=>((Ei o5.c1 o6)∧In (Ag o6.c1 o6.x) fun o7=>((Aw o6.c1 o6.x o7)∧(((List.length o4.t+List.length o7.t:Nat):Int)≤Bg)∧((List.length ((o4.t++o7.t):List UInt8)≤24)∧(Au o7.c1))∧Lf (.v (vT (o4.t++o7.t))) (.v (vT (o4.t++o7.t))) (Kc o7.c1) (Kc o7.c1)))) (Bc (decide (o1.x=2)) (In (Aa o5.c1 5) fun o6=>((Ai o5.c1 5 o6)∧In (Bq o6.c1 o6.x) fun o7=>(let z22:=List.map Bh o7.l;let z21:=((List.length z22:Nat):Int);(C3 o6.c1 o6.x o7)∧(wU (z21))∧In (Ag o7.c1 z21) fun o8=>(let z19:=(o4.t++o8.t)++z22;(Aw o7.c1 z21 o8)∧(((List.length o4.t+List.length o8.t:Nat):Int)≤Bg)∧(((List.length (o4.t++o8.t)+List.length z22:Nat):Int)≤Bg)∧((List.length (z19:List UInt8)≤24)∧(Au o8.c1))∧Lf (.v (vT z19)) (.v (vT z19)) (Kc o8.c1) (Kc o8.c1))))) ((Fp 127 [vI o1.x] [] (.v (vI z26)) [])∧In (Bq o5.c1 z26) fun o6=>(let z23:=o4.t++(List.map Bh o6.l);(C3 o5.c1 z26 o6)∧(((List.length o4.t+List.length (List.map Bh o6.l):Nat):Int)≤Bg)∧((List.length (z23:List UInt8)≤24)∧(Au o6.c1))∧Lf (.v (vT z23)) (.v (vT z23)) (Kc o6.c1) (Kc o6.c1))))))))))))) Q4 ?_
 refine⟨(Cn c [0,1,2,5,0,2] Q0 Q5 Q5),fun o1 ho_o1=>?_⟩
 obtain ⟨⟨hp_o1_0,hp_o1_1⟩,hf_o1⟩:=ho_o1
 refine⟨hf_o1,(B1 o1.c1 10 Q0),fun o2 ho_o2=>?_⟩
 obtain ⟨hp_o2,hf_o2⟩:=ho_o2
 refine⟨hf_o2,fun h1=>?_,fun h1=>?_⟩
 refine⟨(Cn o2.c1 [3,4,6,7] Q0 Q5 Q5),fun o3 ho_o3=>?_⟩
 obtain ⟨⟨hp_o3_0,hp_o3_1⟩,hf_o3⟩:=ho_o3
 refine⟨hf_o3,(Ao o3.c1 3 Q0),fun o4 ho_o4=>?_⟩
 obtain ⟨⟨hp_o4_0,hp_o4_1,hp_o4_2,hp_o4_3⟩,hf_o4⟩:=ho_o4
 refine⟨hf_o4,(Ad Q2 Q2),(Cx _ _),(Be o4.c1 (C5 (40+o4.x) o3.x) Q0 (⟨(Bn _ _).1,Int.le_trans (Bn _ _).2 Q30⟩)),fun o5 ho_o5=>?_⟩
 obtain ⟨⟨hp_o5_0,hp_o5_1⟩,hf_o5⟩:=ho_o5
 refine⟨hf_o5,(B1 o5.c1 20 Q0),fun o6 ho_o6=>?_⟩
 obtain ⟨hp_o6,hf_o6⟩:=ho_o6
 refine⟨hf_o6,fun h2=>?_,fun h2=>?_⟩
 refine⟨(Hk o6.c1 Q0),fun o7 ho_o7=>?_⟩
 obtain ⟨⟨hp_o7_0,hp_o7_1⟩,hf_o7⟩:=ho_o7
 refine⟨hf_o7,(Be o7.c1 o7.x Q0 Q2),fun o8 ho_o8=>?_⟩
 obtain ⟨⟨hp_o8_0,hp_o8_1⟩,hf_o8⟩:=ho_o8
 refine⟨hf_o8,dsp (fun h3 p3=>?_) fun h3 p3=>?_⟩
 refine⟨(Hk o8.c1 Q0),fun o9 ho_o9=>?_⟩
 obtain ⟨⟨hp_o9_0,hp_o9_1⟩,hf_o9⟩:=ho_o9
 refine⟨hf_o9,(Be o9.c1 o9.x Q0 Q2),fun o10 ho_o10=>?_⟩
 obtain ⟨⟨hp_o10_0,hp_o10_1⟩,hf_o10⟩:=ho_o10
 exact⟨hf_o10,Q13,⟨Q17,Q0⟩,rfl,rfl⟩
 refine dsp (fun h4 p4=>?_) fun h4 p4=>?_
 refine⟨(Ao o8.c1 5 Q0),fun o9 ho_o9=>?_⟩
 obtain ⟨⟨hp_o9_0,hp_o9_1,hp_o9_2,hp_o9_3⟩,hf_o9⟩:=ho_o9
 refine⟨hf_o9,(Es o9.c1 o9.x Q0 Q2),fun o10 ho_o10=>?_⟩
 obtain ⟨⟨hp_o10_0,hp_o10_1⟩,hf_o10⟩:=ho_o10
 refine⟨hf_o10,(B3 Q21 Q21),(Be o10.c1 ((List.length (List.map Bh o10.l):Nat):Int) Q0 Q21),fun o11 ho_o11=>?_⟩
 obtain ⟨⟨hp_o11_0,hp_o11_1⟩,hf_o11⟩:=ho_o11
 exact⟨hf_o11,Q13,Q13,⟨Q17,Q0⟩,rfl,rfl⟩
 refine⟨(D8 _),(Es o8.c1 (A4 o3.x) Q0 Q17),fun o9 ho_o9=>?_⟩
 obtain ⟨⟨hp_o9_0,hp_o9_1⟩,hf_o9⟩:=ho_o9
 exact⟨hf_o9,Q13,⟨Q17,Q0⟩,rfl,rfl⟩
 refine dsp (fun h3 p3=>?_) fun h3 p3=>?_
 refine⟨(Hk o6.c1 Q0),fun o7 ho_o7=>?_⟩
 obtain ⟨⟨hp_o7_0,hp_o7_1⟩,hf_o7⟩:=ho_o7
 refine⟨hf_o7,(Be o7.c1 o7.x Q0 Q2),fun o8 ho_o8=>?_⟩
 obtain ⟨⟨hp_o8_0,hp_o8_1⟩,hf_o8⟩:=ho_o8
 exact⟨hf_o8,Q13,⟨Q17,Q0⟩,rfl,rfl⟩
 refine dsp (fun h4 p4=>?_) fun h4 p4=>?_
 refine⟨(Ao o6.c1 5 Q0),fun o7 ho_o7=>?_⟩
 obtain ⟨⟨hp_o7_0,hp_o7_1,hp_o7_2,hp_o7_3⟩,hf_o7⟩:=ho_o7
 refine⟨hf_o7,(Es o7.c1 o7.x Q0 Q2),fun o8 ho_o8=>?_⟩
 obtain ⟨⟨hp_o8_0,hp_o8_1⟩,hf_o8⟩:=ho_o8
 refine⟨hf_o8,(B3 Q21 Q21),(Be o8.c1 ((List.length (List.map Bh o8.l):Nat):Int) Q0 Q21),fun o9 ho_o9=>?_⟩
 obtain ⟨⟨hp_o9_0,hp_o9_1⟩,hf_o9⟩:=ho_o9
 exact⟨hf_o9,Q13,Q13,⟨Q17,Q0⟩,rfl,rfl⟩
 refine⟨(D8 _),(Es o6.c1 (A4 o3.x) Q0 Q17),fun o7 ho_o7=>?_⟩
 obtain ⟨⟨hp_o7_0,hp_o7_1⟩,hf_o7⟩:=ho_o7
 exact⟨hf_o7,Q13,⟨Q17,Q0⟩,rfl,rfl⟩
 refine⟨(Ao o2.c1 3 Q0),fun o3 ho_o3=>?_⟩
 obtain ⟨⟨hp_o3_0,hp_o3_1,hp_o3_2,hp_o3_3⟩,hf_o3⟩:=ho_o3
 refine⟨hf_o3,(Ad Q2 Q2),(Cx _ _),(Be o3.c1 (C5 (40+o3.x) o1.x) Q0 (⟨(Bn _ _).1,Int.le_trans (Bn _ _).2 Q30⟩)),fun o4 ho_o4=>?_⟩
 obtain ⟨⟨hp_o4_0,hp_o4_1⟩,hf_o4⟩:=ho_o4
 refine⟨hf_o4,(B1 o4.c1 20 Q0),fun o5 ho_o5=>?_⟩
 obtain ⟨hp_o5,hf_o5⟩:=ho_o5
 refine⟨hf_o5,fun h2=>?_,fun h2=>?_⟩
 refine⟨(Hk o5.c1 Q0),fun o6 ho_o6=>?_⟩
 obtain ⟨⟨hp_o6_0,hp_o6_1⟩,hf_o6⟩:=ho_o6
 refine⟨hf_o6,(Be o6.c1 o6.x Q0 Q2),fun o7 ho_o7=>?_⟩
 obtain ⟨⟨hp_o7_0,hp_o7_1⟩,hf_o7⟩:=ho_o7
 refine⟨hf_o7,dsp (fun h3 p3=>?_) fun h3 p3=>?_⟩
 refine⟨(Hk o7.c1 Q0),fun o8 ho_o8=>?_⟩
 obtain ⟨⟨hp_o8_0,hp_o8_1⟩,hf_o8⟩:=ho_o8
 refine⟨hf_o8,(Be o8.c1 o8.x Q0 Q2),fun o9 ho_o9=>?_⟩
 obtain ⟨⟨hp_o9_0,hp_o9_1⟩,hf_o9⟩:=ho_o9
 exact⟨hf_o9,Q13,⟨Q17,Q0⟩,rfl,rfl⟩
 refine dsp (fun h4 p4=>?_) fun h4 p4=>?_
 refine⟨(Ao o7.c1 5 Q0),fun o8 ho_o8=>?_⟩
 obtain ⟨⟨hp_o8_0,hp_o8_1,hp_o8_2,hp_o8_3⟩,hf_o8⟩:=ho_o8
 refine⟨hf_o8,(Es o8.c1 o8.x Q0 Q2),fun o9 ho_o9=>?_⟩
 obtain ⟨⟨hp_o9_0,hp_o9_1⟩,hf_o9⟩:=ho_o9
 refine⟨hf_o9,(B3 Q21 Q21),(Be o9.c1 ((List.length (List.map Bh o9.l):Nat):Int) Q0 Q21),fun o10 ho_o10=>?_⟩
 obtain ⟨⟨hp_o10_0,hp_o10_1⟩,hf_o10⟩:=ho_o10
 exact⟨hf_o10,Q13,Q13,⟨Q17,Q0⟩,rfl,rfl⟩
 refine⟨(D8 _),(Es o7.c1 (A4 o1.x) Q0 Q17),fun o8 ho_o8=>?_⟩
 obtain ⟨⟨hp_o8_0,hp_o8_1⟩,hf_o8⟩:=ho_o8
 exact⟨hf_o8,Q13,⟨Q17,Q0⟩,rfl,rfl⟩
 refine dsp (fun h3 p3=>?_) fun h3 p3=>?_
 refine⟨(Hk o5.c1 Q0),fun o6 ho_o6=>?_⟩
 obtain ⟨⟨hp_o6_0,hp_o6_1⟩,hf_o6⟩:=ho_o6
 refine⟨hf_o6,(Be o6.c1 o6.x Q0 Q2),fun o7 ho_o7=>?_⟩
 obtain ⟨⟨hp_o7_0,hp_o7_1⟩,hf_o7⟩:=ho_o7
 exact⟨hf_o7,Q13,⟨Q17,Q0⟩,rfl,rfl⟩
 refine dsp (fun h4 p4=>?_) fun h4 p4=>?_
 refine⟨(Ao o5.c1 5 Q0),fun o6 ho_o6=>?_⟩
 obtain ⟨⟨hp_o6_0,hp_o6_1,hp_o6_2,hp_o6_3⟩,hf_o6⟩:=ho_o6
 refine⟨hf_o6,(Es o6.c1 o6.x Q0 Q2),fun o7 ho_o7=>?_⟩
 obtain ⟨⟨hp_o7_0,hp_o7_1⟩,hf_o7⟩:=ho_o7
 refine⟨hf_o7,(B3 Q21 Q21),(Be o7.c1 ((List.length (List.map Bh o7.l):Nat):Int) Q0 Q21),fun o8 ho_o8=>?_⟩
 obtain ⟨⟨hp_o8_0,hp_o8_1⟩,hf_o8⟩:=ho_o8
 exact⟨hf_o8,Q13,Q13,⟨Q17,Q0⟩,rfl,rfl⟩
 refine⟨(D8 _),(Es o5.c1 (A4 o1.x) Q0 Q17),fun o6 ho_o6=>?_⟩
 obtain ⟨⟨hp_o6_0,hp_o6_1⟩,hf_o6⟩:=ho_o6
 exact⟨hf_o6,Q13,⟨Q17,Q0⟩,rfl,rfl⟩
structure E7 where
 t:List UInt8
 c1:Cur
def Hm (c:Cur) (kind:Int) (o:E7):Prop:=Fun Tryz.prog 223 [vP 0,vI kind] [.cells (B2 c)] (.v (vT o.t)) [.cells (B2 o.c1)]
def Dy (c:Cur) (kind:Int) (o:E7):Prop:=((List.length (o.t:List UInt8)≤10)∧(Au o.c1))∧Hm c kind o
theorem Pk (c:Cur) (kind:Int) (hp1:Au c): ∃o:E7,Dy c kind o:=by
 have hN:A8=274877906944:=rfl
 refine B4 Tryz.func223 Q4 Q4 (w:=let z4:=Cd kind;let z3:=A4 z4;(.intro (Ce c) fun o1=> .seg [.call [0] (.v (.c (.int .u64 o1.x))) (Kc o1.c1)] (.br (.intro (Aa o1.c1 3) fun o2=> .seg [.call [0] (.v (vI o2.x)) (Kc o2.c1),.as 13 (.v (.c (.int .u64 o2.x))),.call [] (.v (vI z4)) [],.call [] (.v (vI z3)) []] (.br (.intro (Bq o2.c1 z3) fun o3=> .seg [.call [0] (.v (vO 1)) [.cells (B2 o3.c1),.lst .u8 o3.l]] (.leaf (⟨List.map Bh o3.l,o3.c1⟩:E7) [0])) (.intro (Ag o2.c1 o2.x) fun o3=> .seg [.call [0] (.v (vT o3.t)) (Kc o3.c1)] (.leaf (⟨o3.t,o3.c1⟩:E7) [0])))) (.seg [.call [] (.v (vI z4)) [],.call [] (.v (vI z3)) []] (.br (.intro (Bq o1.c1 z3) fun o2=> .seg [.call [0] (.v (vO 1)) [.cells (B2 o2.c1),.lst .u8 o2.l]] (.leaf (⟨List.map Bh o2.l,o2.c1⟩:E7) [0])) (.intro (Ag o1.c1 o1.x) fun o2=> .seg [.call [0] (.v (vT o2.t)) (Kc o2.c1)] (.leaf (⟨o2.t,o2.c1⟩:E7) [0]))))),In (Ce c) fun o1=>((Ei c o1)∧Bc (decide (kind=3)) (In (Aa o1.c1 3) fun o2=>((Ai o1.c1 3 o2)∧(wU (o2.x))∧(Fp 131 [vI kind] [] (.v (vI z4)) [])∧(Fp 127 [vI z4] [] (.v (vI z3)) [])∧Bc (decide (0<A4 z4)) (In (Bq o2.c1 z3) fun o3=>(let z1:=List.map Bh o3.l;(C3 o2.c1 z3 o3)∧((List.length (z1:List UInt8)≤10)∧(Au o3.c1))∧Lf (.v (vT z1)) (.v (vT z1)) (Kc o3.c1) (Kc o3.c1))) (In (Ag o2.c1 o2.x) fun o3=>((Aw o2.c1 o2.x o3)∧((List.length (o3.t:List UInt8)≤10)∧(Au o3.c1))∧Lf (.v (vT o3.t)) (.v (vT o3.t)) (Kc o3.c1) (Kc o3.c1))))) ((Fp 131 [vI kind] [] (.v (vI z4)) [])∧(Fp 127 [vI z4] [] (.v (vI z3)) [])∧Bc (decide (0<A4 z4)) (In (Bq o1.c1 z3) fun o2=>(let z2:=List.map Bh o2.l;(C3 o1.c1 z3 o2)∧((List.length (z2:List UInt8)≤10)∧(Au o2.c1))∧Lf (.v (vT z2)) (.v (vT z2)) (Kc o2.c1) (Kc o2.c1))) (In (Ag o1.c1 o1.x) fun o2=>((Aw o1.c1 o1.x o2)∧((List.length (o2.t:List UInt8)≤10)∧(Au o2.c1))∧Lf (.v (vT o2.t)) (.v (vT o2.t)) (Kc o2.c1) (Kc o2.c1))))))) Q4 ?_
 refine⟨(Hk c Q0),fun o1 ho_o1=>?_⟩
 obtain ⟨⟨hp_o1_0,hp_o1_1⟩,hf_o1⟩:=ho_o1
 refine⟨hf_o1,dsp (fun h1 p1=>?_) fun h1 p1=>?_⟩
 refine⟨(Ao o1.c1 3 Q0),fun o2 ho_o2=>?_⟩
 obtain ⟨⟨hp_o2_0,hp_o2_1,hp_o2_2,hp_o2_3⟩,hf_o2⟩:=ho_o2
 refine⟨hf_o2,(B3 Q2 Q2),(Qy _),(D8 _),dsp (fun h2 p2=>?_) fun h2 p2=>?_⟩
 refine⟨(Es o2.c1 (A4 (Cd kind)) Q0 Q44),fun o3 ho_o3=>?_⟩
 obtain ⟨⟨hp_o3_0,hp_o3_1⟩,hf_o3⟩:=ho_o3
 exact⟨hf_o3,⟨Q44,Q0⟩,rfl,rfl⟩
 refine⟨(Be o2.c1 o2.x Q0 Q2),fun o3 ho_o3=>?_⟩
 obtain ⟨⟨hp_o3_0,hp_o3_1⟩,hf_o3⟩:=ho_o3
 exact⟨hf_o3,⟨Q44,Q0⟩,rfl,rfl⟩
 refine⟨(Qy _),(D8 _),dsp (fun h2 p2=>?_) fun h2 p2=>?_⟩
 refine⟨(Es o1.c1 (A4 (Cd kind)) Q0 Q44),fun o2 ho_o2=>?_⟩
 obtain ⟨⟨hp_o2_0,hp_o2_1⟩,hf_o2⟩:=ho_o2
 exact⟨hf_o2,⟨Q44,Q0⟩,rfl,rfl⟩
 refine⟨(Be o1.c1 o1.x Q0 Q2),fun o2 ho_o2=>?_⟩
 obtain ⟨⟨hp_o2_0,hp_o2_1⟩,hf_o2⟩:=ho_o2
 exact⟨hf_o2,⟨Q44,Q0⟩,rfl,rfl⟩
structure Apa where
 t:List UInt8
 c1:Cur
def Apk (c:Cur) (p:Pln) (shape:Int) (deep:Int) (o:Apa):Prop:=Fun Tryz.prog 149 [vP 0,.agg (Mg p),vI shape,vI deep] [.cells (B2 c)] (.v (vT o.t)) [.cells (B2 o.c1)]
def Apb (c:Cur) (p:Pln) (shape:Int) (deep:Int) (o:Apa):Prop:=((List.length (o.t:List UInt8)≤4*Ef (Int.toNat deep))∧(Au o.c1))∧Apk c p shape deep o
def Apc (K:Nat):Prop:= ∀(c:Cur) (p:Pln) (shape:Int) (deep:Int) (hp1:Au c) (hp2:PlnG p) (hp3:(0:Int)≤deep∧deep≤4) (hp4:deep<((K:Nat):Int)) (hp5:(0:Int)≤shape∧shape<((List.length (p).shapes:Nat):Int)),∃o:Apa,Apb c p shape deep o
structure Bb where
 t:List UInt8
 c1:Cur
def U4 (c:Cur) (p:Pln) (f:Fld) (deep:Int) (o:Bb):Prop:=Fun Tryz.prog 199 [vP 0,.agg (Mg p),.agg (Gb f),vI deep] [.cells (B2 c)] (.v (vT o.t)) [.cells (B2 o.c1)]
def Qk (c:Cur) (p:Pln) (f:Fld) (deep:Int) (o:Bb):Prop:=((List.length (o.t:List UInt8)≤Ef (Int.toNat deep))∧(Au o.c1))∧U4 c p f deep o
structure E8 where
 c:Cur
 body:List UInt8
 i:Nat
def Di (f:Fld) (o1:Cm):Fam:=⟨E8,fun q1=>[(0,.v (vP 0)),(6,.v (vP 1)),(9,.v (vI 2)),(10,.v (vT q1.body)),(11,.v (vI o1.x)),(12,.v (vI ((q1.i:Nat):Int)))],fun q1=>[.cells (B2 q1.c),.cells (Gb f)],fun q1=>Au q1.c∧q1.i≤3∧List.length q1.body≤10*q1.i,fun q1=>4-q1.i⟩
theorem Afi (K:Nat) (hB:Apc K) (c:Cur) (p:Pln) (f:Fld) (deep:Int) (hp1:Au c) (hp2:PlnG p) (hp3:(0:Int)≤deep∧deep≤4) (hp4:deep≤((K:Nat):Int)) (hp5:1≤(f).kind∧(f).kind≤8) (hp6:(f).kind=8→(0:Int)≤(f).msg∧(f).msg<((List.length (p).shapes:Nat):Int)): ∃o:Bb,Qk c p f deep o:=by
 have hN:A8=274877906944:=rfl
 have hvb:=Vx (Int.toNat deep)
 have hvm:=M4 hp3.1 hp3.2
 refine B4 Tryz.func199 Q4 Q4 (w:=let z106:=Int.toNat deep;let z108:=C5 f.number 2;let z109:S:= .v (.c (.int .u64 z108));let z111:=([]:List UInt8);let z104:=((List.length z111:Nat):Int);let z110:=max 0 z104;let z112:List V:=[vI f.number,vI 2];let z113:=Cd f.kind;let z103:=C5 f.number z113;let z105:S:= .v (.c (.int .u64 z103));let z107:List V:=[vI f.number,vI z113];let z114:S:= .v (vI z110);(.seg [.call [] (.v (vI z113)) []] (.br (.br (.seg [.as 39 (.v (vI (deep-1)))] (.intro (Apb c p f.msg (deep-1)) fun o1=>let z13:=((List.length o1.t:Nat):Int);.seg [.call [0] (.v (vT o1.t)) (Kc o1.c1)] (.intro (Ap o1.c1 30) fun o2=> .seg [.call [0] (.v (vB o2.p)) (Kc o2.c1)] (.br (.intro (Aa o2.c1 8) fun o3=>let z6:=C5 f.number o3.x;.seg [.call [0] (.v (vI o3.x)) (Kc o3.c1)] (.intro (Ap o3.c1 20) fun o4=> .seg [.call [0] (.v (vB o4.p)) (Kc o4.c1)] (.br (.intro (Aa o4.c1 5) fun o5=>let z2:=z13+o5.x-2;.seg [.call [0] (.v (vI o5.x)) (Kc o5.c1),.as 97 (.v (vI (z13+o5.x))),.as 98 (.v (vI z2)),.call [] (.v (.c (.int .u64 z6))) []] (.intro (Ag o5.c1 z6) fun o6=> .seg [.call [0] (.v (vT o6.t)) (Kc o6.c1),.call [] (.v (vI (max 0 z2))) [],.as 108 (.v (.c (.int .u64 (max 0 z2))))] (.intro (Ag o6.c1 (max 0 z2)) fun o7=> .seg [.call [0] (.v (vT o7.t)) (Kc o7.c1)] (.leaf (⟨(o6.t++o7.t)++o1.t,o7.c1⟩:Bb) [0])))) (.seg [.call [] (.v (.c (.int .u64 z6))) []] (.intro (Ag o4.c1 z6) fun o5=> .seg [.call [0] (.v (vT o5.t)) (Kc o5.c1),.call [] (.v (vI (max 0 z13))) [],.as 108 (.v (.c (.int .u64 (max 0 z13))))] (.intro (Ag o5.c1 (max 0 z13)) fun o6=> .seg [.call [0] (.v (vT o6.t)) (Kc o6.c1)] (.leaf (⟨(o5.t++o6.t)++o1.t,o6.c1⟩:Bb) [0]))))))) (.intro (Ap o2.c1 20) fun o3=> .seg [.call [0] (.v (vB o3.p)) (Kc o3.c1)] (.br (.intro (Aa o3.c1 5) fun o4=>let z9:=z13+o4.x-2;.seg [.call [0] (.v (vI o4.x)) (Kc o4.c1),.as 97 (.v (vI (z13+o4.x))),.as 98 (.v (vI z9)),.call [] z105 []] (.intro (Ag o4.c1 z103) fun o5=> .seg [.call [0] (.v (vT o5.t)) (Kc o5.c1),.call [] (.v (vI (max 0 z9))) [],.as 108 (.v (.c (.int .u64 (max 0 z9))))] (.intro (Ag o5.c1 (max 0 z9)) fun o6=> .seg [.call [0] (.v (vT o6.t)) (Kc o6.c1)] (.leaf (⟨(o5.t++o6.t)++o1.t,o6.c1⟩:Bb) [0])))) (.seg [.call [] z105 []] (.intro (Ag o3.c1 z103) fun o4=> .seg [.call [0] (.v (vT o4.t)) (Kc o4.c1),.call [] (.v (vI (max 0 z13))) [],.as 108 (.v (.c (.int .u64 (max 0 z13))))] (.intro (Ag o4.c1 (max 0 z13)) fun o5=> .seg [.call [0] (.v (vT o5.t)) (Kc o5.c1)] (.leaf (⟨(o4.t++o5.t)++o1.t,o5.c1⟩:Bb) [0])))))))))) (.intro (Ap c 30) fun o1=> .seg [.call [0] (.v (vB o1.p)) (Kc o1.c1)] (.br (.intro (Aa o1.c1 8) fun o2=>let z20:=C5 f.number o2.x;.seg [.call [0] (.v (vI o2.x)) (Kc o2.c1)] (.intro (Ap o2.c1 20) fun o3=> .seg [.call [0] (.v (vB o3.p)) (Kc o3.c1)] (.br (.intro (Aa o3.c1 5) fun o4=>let z16:=z104+o4.x-2;.seg [.call [0] (.v (vI o4.x)) (Kc o4.c1),.as 97 (.v (vI (z104+o4.x))),.as 98 (.v (vI z16)),.call [] (.v (.c (.int .u64 z20))) []] (.intro (Ag o4.c1 z20) fun o5=> .seg [.call [0] (.v (vT o5.t)) (Kc o5.c1),.call [] (.v (vI (max 0 z16))) [],.as 108 (.v (.c (.int .u64 (max 0 z16))))] (.intro (Ag o5.c1 (max 0 z16)) fun o6=> .seg [.call [0] (.v (vT o6.t)) (Kc o6.c1)] (.leaf (⟨(o5.t++o6.t)++[],o6.c1⟩:Bb) [0])))) (.seg [.call [] (.v (.c (.int .u64 z20))) []] (.intro (Ag o3.c1 z20) fun o4=> .seg [.call [0] (.v (vT o4.t)) (Kc o4.c1),.call [] z114 [],.as 108 (.v (.c (.int .u64 z110)))] (.intro (Ag o4.c1 z110) fun o5=> .seg [.call [0] (.v (vT o5.t)) (Kc o5.c1)] (.leaf (⟨(o4.t++o5.t)++[],o5.c1⟩:Bb) [0]))))))) (.intro (Ap o1.c1 20) fun o2=> .seg [.call [0] (.v (vB o2.p)) (Kc o2.c1)] (.br (.intro (Aa o2.c1 5) fun o3=>let z23:=z104+o3.x-2;.seg [.call [0] (.v (vI o3.x)) (Kc o3.c1),.as 97 (.v (vI (z104+o3.x))),.as 98 (.v (vI z23)),.call [] z105 []] (.intro (Ag o3.c1 z103) fun o4=> .seg [.call [0] (.v (vT o4.t)) (Kc o4.c1),.call [] (.v (vI (max 0 z23))) [],.as 108 (.v (.c (.int .u64 (max 0 z23))))] (.intro (Ag o4.c1 (max 0 z23)) fun o5=> .seg [.call [0] (.v (vT o5.t)) (Kc o5.c1)] (.leaf (⟨(o4.t++o5.t)++[],o5.c1⟩:Bb) [0])))) (.seg [.call [] z105 []] (.intro (Ag o2.c1 z103) fun o3=> .seg [.call [0] (.v (vT o3.t)) (Kc o3.c1),.call [] z114 [],.as 108 (.v (.c (.int .u64 z110)))] (.intro (Ag o3.c1 z110) fun o4=> .seg [.call [0] (.v (vT o4.t)) (Kc o4.c1)] (.leaf (⟨(o3.t++o4.t)++[],o4.c1⟩:Bb) [0]))))))))) (.br (.intro (Aa c 3) fun o1=> .seg [.call [0] (.v (vI o1.x)) (Kc o1.c1)] (.intro (M2 o1.c1 o1.x) fun o2=>let z53:=((List.length o2.t:Nat):Int);.seg [.call [0] (.v (vT o2.t)) (Kc o2.c1)] (.intro (Ap o2.c1 8) fun o3=> .seg [.call [0] (.v (vB o3.p)) (Kc o3.c1)] (.br (.intro (M3 o3.c1) fun o4=>let z39:=((List.length o4.t:Nat):Int);.seg [.call [0] (.v (vT o4.t)) (Kc o4.c1)] (.intro (Ap o4.c1 30) fun o5=> .seg [.call [0] (.v (vB o5.p)) (Kc o5.c1)] (.br (.intro (Aa o5.c1 8) fun o6=>let z32:=C5 f.number o6.x;.seg [.call [0] (.v (vI o6.x)) (Kc o6.c1)] (.intro (Ap o6.c1 20) fun o7=> .seg [.call [0] (.v (vB o7.p)) (Kc o7.c1)] (.br (.intro (Aa o7.c1 5) fun o8=>let z28:=z39+o8.x-2;.seg [.call [0] (.v (vI o8.x)) (Kc o8.c1),.as 97 (.v (vI (z39+o8.x))),.as 98 (.v (vI z28)),.call [] (.v (.c (.int .u64 z32))) []] (.intro (Ag o8.c1 z32) fun o9=> .seg [.call [0] (.v (vT o9.t)) (Kc o9.c1),.call [] (.v (vI (max 0 z28))) [],.as 108 (.v (.c (.int .u64 (max 0 z28))))] (.intro (Ag o9.c1 (max 0 z28)) fun o10=> .seg [.call [0] (.v (vT o10.t)) (Kc o10.c1)] (.leaf (⟨(o9.t++o10.t)++o4.t,o10.c1⟩:Bb) [0])))) (.seg [.call [] (.v (.c (.int .u64 z32))) []] (.intro (Ag o7.c1 z32) fun o8=> .seg [.call [0] (.v (vT o8.t)) (Kc o8.c1),.call [] (.v (vI (max 0 z39))) [],.as 108 (.v (.c (.int .u64 (max 0 z39))))] (.intro (Ag o8.c1 (max 0 z39)) fun o9=> .seg [.call [0] (.v (vT o9.t)) (Kc o9.c1)] (.leaf (⟨(o8.t++o9.t)++o4.t,o9.c1⟩:Bb) [0]))))))) (.intro (Ap o5.c1 20) fun o6=> .seg [.call [0] (.v (vB o6.p)) (Kc o6.c1)] (.br (.intro (Aa o6.c1 5) fun o7=>let z35:=z39+o7.x-2;.seg [.call [0] (.v (vI o7.x)) (Kc o7.c1),.as 97 (.v (vI (z39+o7.x))),.as 98 (.v (vI z35)),.call [] z105 []] (.intro (Ag o7.c1 z103) fun o8=> .seg [.call [0] (.v (vT o8.t)) (Kc o8.c1),.call [] (.v (vI (max 0 z35))) [],.as 108 (.v (.c (.int .u64 (max 0 z35))))] (.intro (Ag o8.c1 (max 0 z35)) fun o9=> .seg [.call [0] (.v (vT o9.t)) (Kc o9.c1)] (.leaf (⟨(o8.t++o9.t)++o4.t,o9.c1⟩:Bb) [0])))) (.seg [.call [] z105 []] (.intro (Ag o6.c1 z103) fun o7=> .seg [.call [0] (.v (vT o7.t)) (Kc o7.c1),.call [] (.v (vI (max 0 z39))) [],.as 108 (.v (.c (.int .u64 (max 0 z39))))] (.intro (Ag o7.c1 (max 0 z39)) fun o8=> .seg [.call [0] (.v (vT o8.t)) (Kc o8.c1)] (.leaf (⟨(o7.t++o8.t)++o4.t,o8.c1⟩:Bb) [0]))))))))) (.intro (Ap o3.c1 30) fun o4=> .seg [.call [0] (.v (vB o4.p)) (Kc o4.c1)] (.br (.intro (Aa o4.c1 8) fun o5=>let z46:=C5 f.number o5.x;.seg [.call [0] (.v (vI o5.x)) (Kc o5.c1)] (.intro (Ap o5.c1 20) fun o6=> .seg [.call [0] (.v (vB o6.p)) (Kc o6.c1)] (.br (.intro (Aa o6.c1 5) fun o7=>let z42:=z53+o7.x-2;.seg [.call [0] (.v (vI o7.x)) (Kc o7.c1),.as 97 (.v (vI (z53+o7.x))),.as 98 (.v (vI z42)),.call [] (.v (.c (.int .u64 z46))) []] (.intro (Ag o7.c1 z46) fun o8=> .seg [.call [0] (.v (vT o8.t)) (Kc o8.c1),.call [] (.v (vI (max 0 z42))) [],.as 108 (.v (.c (.int .u64 (max 0 z42))))] (.intro (Ag o8.c1 (max 0 z42)) fun o9=> .seg [.call [0] (.v (vT o9.t)) (Kc o9.c1)] (.leaf (⟨(o8.t++o9.t)++o2.t,o9.c1⟩:Bb) [0])))) (.seg [.call [] (.v (.c (.int .u64 z46))) []] (.intro (Ag o6.c1 z46) fun o7=> .seg [.call [0] (.v (vT o7.t)) (Kc o7.c1),.call [] (.v (vI (max 0 z53))) [],.as 108 (.v (.c (.int .u64 (max 0 z53))))] (.intro (Ag o7.c1 (max 0 z53)) fun o8=> .seg [.call [0] (.v (vT o8.t)) (Kc o8.c1)] (.leaf (⟨(o7.t++o8.t)++o2.t,o8.c1⟩:Bb) [0]))))))) (.intro (Ap o4.c1 20) fun o5=> .seg [.call [0] (.v (vB o5.p)) (Kc o5.c1)] (.br (.intro (Aa o5.c1 5) fun o6=>let z49:=z53+o6.x-2;.seg [.call [0] (.v (vI o6.x)) (Kc o6.c1),.as 97 (.v (vI (z53+o6.x))),.as 98 (.v (vI z49)),.call [] z105 []] (.intro (Ag o6.c1 z103) fun o7=> .seg [.call [0] (.v (vT o7.t)) (Kc o7.c1),.call [] (.v (vI (max 0 z49))) [],.as 108 (.v (.c (.int .u64 (max 0 z49))))] (.intro (Ag o7.c1 (max 0 z49)) fun o8=> .seg [.call [0] (.v (vT o8.t)) (Kc o8.c1)] (.leaf (⟨(o7.t++o8.t)++o2.t,o8.c1⟩:Bb) [0])))) (.seg [.call [] z105 []] (.intro (Ag o5.c1 z103) fun o6=> .seg [.call [0] (.v (vT o6.t)) (Kc o6.c1),.call [] (.v (vI (max 0 z53))) [],.as 108 (.v (.c (.int .u64 (max 0 z53))))] (.intro (Ag o6.c1 (max 0 z53)) fun o7=> .seg [.call [0] (.v (vT o7.t)) (Kc o7.c1)] (.leaf (⟨(o6.t++o7.t)++o2.t,o7.c1⟩:Bb) [0])))))))))))) (.br (.intro (Aa c 6) fun o1=> .seg [.call [0] (.v (vI o1.x)) (Kc o1.c1)] (.intro (Bq o1.c1 o1.x) fun o2=>let z68:=List.map Bh o2.l;let z67:=((List.length z68:Nat):Int);.seg [.call [0] (.v (vO 1)) [.cells (B2 o2.c1),.lst .u8 o2.l]] (.intro (Ap o2.c1 30) fun o3=> .seg [.call [0] (.v (vB o3.p)) (Kc o3.c1)] (.br (.intro (Aa o3.c1 8) fun o4=>let z60:=C5 f.number o4.x;.seg [.call [0] (.v (vI o4.x)) (Kc o4.c1)] (.intro (Ap o4.c1 20) fun o5=> .seg [.call [0] (.v (vB o5.p)) (Kc o5.c1)] (.br (.intro (Aa o5.c1 5) fun o6=>let z56:=z67+o6.x-2;.seg [.call [0] (.v (vI o6.x)) (Kc o6.c1),.as 97 (.v (vI (z67+o6.x))),.as 98 (.v (vI z56)),.call [] (.v (.c (.int .u64 z60))) []] (.intro (Ag o6.c1 z60) fun o7=> .seg [.call [0] (.v (vT o7.t)) (Kc o7.c1),.call [] (.v (vI (max 0 z56))) [],.as 108 (.v (.c (.int .u64 (max 0 z56))))] (.intro (Ag o7.c1 (max 0 z56)) fun o8=> .seg [.call [0] (.v (vT o8.t)) (Kc o8.c1)] (.leaf (⟨(o7.t++o8.t)++z68,o8.c1⟩:Bb) [0])))) (.seg [.call [] (.v (.c (.int .u64 z60))) []] (.intro (Ag o5.c1 z60) fun o6=> .seg [.call [0] (.v (vT o6.t)) (Kc o6.c1),.call [] (.v (vI (max 0 z67))) [],.as 108 (.v (.c (.int .u64 (max 0 z67))))] (.intro (Ag o6.c1 (max 0 z67)) fun o7=> .seg [.call [0] (.v (vT o7.t)) (Kc o7.c1)] (.leaf (⟨(o6.t++o7.t)++z68,o7.c1⟩:Bb) [0]))))))) (.intro (Ap o3.c1 20) fun o4=> .seg [.call [0] (.v (vB o4.p)) (Kc o4.c1)] (.br (.intro (Aa o4.c1 5) fun o5=>let z63:=z67+o5.x-2;.seg [.call [0] (.v (vI o5.x)) (Kc o5.c1),.as 97 (.v (vI (z67+o5.x))),.as 98 (.v (vI z63)),.call [] z105 []] (.intro (Ag o5.c1 z103) fun o6=> .seg [.call [0] (.v (vT o6.t)) (Kc o6.c1),.call [] (.v (vI (max 0 z63))) [],.as 108 (.v (.c (.int .u64 (max 0 z63))))] (.intro (Ag o6.c1 (max 0 z63)) fun o7=> .seg [.call [0] (.v (vT o7.t)) (Kc o7.c1)] (.leaf (⟨(o6.t++o7.t)++z68,o7.c1⟩:Bb) [0])))) (.seg [.call [] z105 []] (.intro (Ag o4.c1 z103) fun o5=> .seg [.call [0] (.v (vT o5.t)) (Kc o5.c1),.call [] (.v (vI (max 0 z67))) [],.as 108 (.v (.c (.int .u64 (max 0 z67))))] (.intro (Ag o5.c1 (max 0 z67)) fun o6=> .seg [.call [0] (.v (vT o6.t)) (Kc o6.c1)] (.leaf (⟨(o5.t++o6.t)++z68,o6.c1⟩:Bb) [0])))))))))) (.seg [.call [] (.v (vB (Uu f))) []] (.br (.br (.intro (Aa c 4) fun o1=> .seg [.call [0] (.v (vI o1.x)) (Kc o1.c1),.at 0,.keep [0,6,9,10,11,12],.sel [0,2]] (.loop (Di f o1) fun q1=>let z83:=((List.length q1.body:Nat):Int);.br (.intro (Dy q1.c f.kind) fun o2=> .seg [.call [0] (.v (vT o2.t)) (Kc o2.c1),.as 79 (.v (vI (((q1.i:Nat):Int)+1))),.at 0,.keep [0,6,9,10,11,12],.sel [0,1]] (.next)) (.intro (Ap q1.c 30) fun o2=> .seg [.call [0] (.v (vB o2.p)) (Kc o2.c1)] (.br (.intro (Aa o2.c1 8) fun o3=>let z76:=C5 f.number o3.x;.seg [.call [0] (.v (vI o3.x)) (Kc o3.c1)] (.intro (Ap o3.c1 20) fun o4=> .seg [.call [0] (.v (vB o4.p)) (Kc o4.c1)] (.br (.intro (Aa o4.c1 5) fun o5=>let z72:=z83+o5.x-2;.seg [.call [0] (.v (vI o5.x)) (Kc o5.c1),.as 97 (.v (vI (z83+o5.x))),.as 98 (.v (vI z72)),.call [] (.v (.c (.int .u64 z76))) []] (.intro (Ag o5.c1 z76) fun o6=> .seg [.call [0] (.v (vT o6.t)) (Kc o6.c1),.call [] (.v (vI (max 0 z72))) [],.as 108 (.v (.c (.int .u64 (max 0 z72))))] (.intro (Ag o6.c1 (max 0 z72)) fun o7=> .seg [.call [0] (.v (vT o7.t)) (Kc o7.c1)] (.leaf (⟨(o6.t++o7.t)++q1.body,o7.c1⟩:Bb) [0])))) (.seg [.call [] (.v (.c (.int .u64 z76))) []] (.intro (Ag o4.c1 z76) fun o5=> .seg [.call [0] (.v (vT o5.t)) (Kc o5.c1),.call [] (.v (vI (max 0 z83))) [],.as 108 (.v (.c (.int .u64 (max 0 z83))))] (.intro (Ag o5.c1 (max 0 z83)) fun o6=> .seg [.call [0] (.v (vT o6.t)) (Kc o6.c1)] (.leaf (⟨(o5.t++o6.t)++q1.body,o6.c1⟩:Bb) [0]))))))) (.intro (Ap o2.c1 20) fun o3=> .seg [.call [0] (.v (vB o3.p)) (Kc o3.c1)] (.br (.intro (Aa o3.c1 5) fun o4=>let z79:=z83+o4.x-2;.seg [.call [0] (.v (vI o4.x)) (Kc o4.c1),.as 97 (.v (vI (z83+o4.x))),.as 98 (.v (vI z79)),.call [] z109 []] (.intro (Ag o4.c1 z108) fun o5=> .seg [.call [0] (.v (vT o5.t)) (Kc o5.c1),.call [] (.v (vI (max 0 z79))) [],.as 108 (.v (.c (.int .u64 (max 0 z79))))] (.intro (Ag o5.c1 (max 0 z79)) fun o6=> .seg [.call [0] (.v (vT o6.t)) (Kc o6.c1)] (.leaf (⟨(o5.t++o6.t)++q1.body,o6.c1⟩:Bb) [0])))) (.seg [.call [] z109 []] (.intro (Ag o3.c1 z108) fun o4=> .seg [.call [0] (.v (vT o4.t)) (Kc o4.c1),.call [] (.v (vI (max 0 z83))) [],.as 108 (.v (.c (.int .u64 (max 0 z83))))] (.intro (Ag o4.c1 (max 0 z83)) fun o5=> .seg [.call [0] (.v (vT o5.t)) (Kc o5.c1)] (.leaf (⟨(o4.t++o5.t)++q1.body,o5.c1⟩:Bb) [0])))))))))) (.intro (Ap c 3) fun o1=> .seg [.call [0] (.v (vB o1.p)) (Kc o1.c1)] (.br (.intro (Aa o1.c1 4) fun o2=> .seg [.call [0] (.v (vI o2.x)) (Kc o2.c1),.at 0,.keep [0,6,9,10,11,12],.sel [0,2]] (.loop (Di f o2) fun q1=>let z99:=((List.length q1.body:Nat):Int);.br (.intro (Dy q1.c f.kind) fun o3=> .seg [.call [0] (.v (vT o3.t)) (Kc o3.c1),.as 79 (.v (vI (((q1.i:Nat):Int)+1))),.at 0,.keep [0,6,9,10,11,12],.sel [0,1]] (.next)) (.intro (Ap q1.c 30) fun o3=> .seg [.call [0] (.v (vB o3.p)) (Kc o3.c1)] (.br (.intro (Aa o3.c1 8) fun o4=>let z92:=C5 f.number o4.x;.seg [.call [0] (.v (vI o4.x)) (Kc o4.c1)] (.intro (Ap o4.c1 20) fun o5=> .seg [.call [0] (.v (vB o5.p)) (Kc o5.c1)] (.br (.intro (Aa o5.c1 5) fun o6=>let z88:=z99+o6.x-2;.seg [.call [0] (.v (vI o6.x)) (Kc o6.c1),.as 97 (.v (vI (z99+o6.x))),.as 98 (.v (vI z88)),.call [] (.v (.c (.int .u64 z92))) []] (.intro (Ag o6.c1 z92) fun o7=> .seg [.call [0] (.v (vT o7.t)) (Kc o7.c1),.call [] (.v (vI (max 0 z88))) [],.as 108 (.v (.c (.int .u64 (max 0 z88))))] (.intro (Ag o7.c1 (max 0 z88)) fun o8=> .seg [.call [0] (.v (vT o8.t)) (Kc o8.c1)] (.leaf (⟨(o7.t++o8.t)++q1.body,o8.c1⟩:Bb) [0])))) (.seg [.call [] (.v (.c (.int .u64 z92))) []] (.intro (Ag o5.c1 z92) fun o6=> .seg [.call [0] (.v (vT o6.t)) (Kc o6.c1),.call [] (.v (vI (max 0 z99))) [],.as 108 (.v (.c (.int .u64 (max 0 z99))))] (.intro (Ag o6.c1 (max 0 z99)) fun o7=> .seg [.call [0] (.v (vT o7.t)) (Kc o7.c1)] (.leaf (⟨(o6.t++o7.t)++q1.body,o7.c1⟩:Bb) [0]))))))) (.intro (Ap o3.c1 20) fun o4=> .seg [.call [0] (.v (vB o4.p)) (Kc o4.c1)] (.br (.intro (Aa o4.c1 5) fun o5=>let z95:=z99+o5.x-2;.seg [.call [0] (.v (vI o5.x)) (Kc o5.c1),.as 97 (.v (vI (z99+o5.x))),.as 98 (.v (vI z95)),.call [] z109 []] (.intro (Ag o5.c1 z108) fun o6=> .seg [.call [0] (.v (vT o6.t)) (Kc o6.c1),.call [] (.v (vI (max 0 z95))) [],.as 108 (.v (.c (.int .u64 (max 0 z95))))] (.intro (Ag o6.c1 (max 0 z95)) fun o7=> .seg [.call [0] (.v (vT o7.t)) (Kc o7.c1)] (.leaf (⟨(o6.t++o7.t)++q1.body,o7.c1⟩:Bb) [0])))) (.seg [.call [] z109 []] (.intro (Ag o4.c1 z108) fun o5=> .seg [.call [0] (.v (vT o5.t)) (Kc o5.c1),.call [] (.v (vI (max 0 z99))) [],.as 108 (.v (.c (.int .u64 (max 0 z99))))] (.intro (Ag o5.c1 (max 0 z99)) fun o6=> .seg [.call [0] (.v (vT o6.t)) (Kc o6.c1)] (.leaf (⟨(o5.t++o6.t)++q1.body,o6.c1⟩:Bb) [0])))))))))) (.intro (Ag o1.c1 z103) fun o2=> .intro (Dy o2.c1 f.kind) fun o3=> .seg [.ord [(0,true),(1,true),(2,true),(3,true),(6,true),(7,true),(8,true),(4,false),(5,false),(9,false),(10,true),(11,true)] [0],.call [] z105 [],.call [0] (.v (vT o2.t)) (Kc o2.c1),.call [0] (.v (vT o3.t)) (Kc o3.c1)] (.leaf (⟨o2.t++o3.t,o3.c1⟩:Bb) [0]))))) (.intro (Ag c z103) fun o1=> .intro (Dy o1.c1 f.kind) fun o2=> .seg [.ord [(0,true),(1,true),(2,true),(3,true),(6,true),(7,true),(8,true),(4,false),(5,false),(9,false),(10,true),(11,true)] [0],.call [] z105 [],.call [0] (.v (vT o1.t)) (Kc o1.c1),.call [0] (.v (vT o2.t)) (Kc o2.c1)] (.leaf (⟨o1.t++o2.t,o2.c1⟩:Bb) [0]))))))),(Fp 131 [vI f.kind] [] (.v (vI z113)) [])∧Bc (decide (f.kind=8)) (Bc (decide (0<deep)) ((wI (deep-1))∧In (Apb c p f.msg (deep-1)) fun o1=>(let z14:=((List.length o1.t:Nat):Int);(Apk c p f.msg (deep-1) o1)∧In (Ap o1.c1 30) fun o2=>((Ba o1.c1 30 o2)∧Bc o2.p (In (Aa o2.c1 8) fun o3=>(let z7:=C5 f.number o3.x;(Ai o2.c1 8 o3)∧In (Ap o3.c1 20) fun o4=>((Ba o3.c1 20 o4)∧Bc o4.p (In (Aa o4.c1 5) fun o5=>(let z3:=z14+o5.x-2;let z4:=z14+o5.x;(Ai o4.c1 5 o5)∧(wI z4)∧((.v (vI (IntKind.i64.wrap (z4-2))):S)= .v (vI z3))∧(Fp 222 [vI f.number,vI o3.x] [] (.v (.c (.int .u64 z7))) [])∧In (Ag o5.c1 z7) fun o6=>((Aw o5.c1 z7 o6)∧(Fp 84 [vI 0,vI z3] [] (.v (vI (max 0 z3))) [])∧(wU (max 0 z3))∧In (Ag o6.c1 (max 0 z3)) fun o7=>(let z1:=(o6.t++o7.t)++o1.t;(Aw o6.c1 (max 0 z3) o7)∧(((List.length o6.t+List.length o7.t:Nat):Int)≤Bg)∧(((List.length (o6.t++o7.t)+List.length o1.t:Nat):Int)≤Bg)∧((List.length (z1:List UInt8)≤Ef z106)∧(Au o7.c1))∧Lf (.v (vT z1)) (.v (vT z1)) (Kc o7.c1) (Kc o7.c1))))) ((Fp 222 [vI f.number,vI o3.x] [] (.v (.c (.int .u64 z7))) [])∧In (Ag o4.c1 z7) fun o5=>((Aw o4.c1 z7 o5)∧(Fp 84 [vI 0,vI z14] [] (.v (vI (max 0 z14))) [])∧(wU (max 0 z14))∧In (Ag o5.c1 (max 0 z14)) fun o6=>(let z5:=(o5.t++o6.t)++o1.t;(Aw o5.c1 (max 0 z14) o6)∧(((List.length o5.t+List.length o6.t:Nat):Int)≤Bg)∧(((List.length (o5.t++o6.t)+List.length o1.t:Nat):Int)≤Bg)∧((List.length (z5:List UInt8)≤Ef z106)∧(Au o6.c1))∧Lf (.v (vT z5)) (.v (vT z5)) (Kc o6.c1) (Kc o6.c1))))))) (In (Ap o2.c1 20) fun o3=>((Ba o2.c1 20 o3)∧Bc o3.p (In (Aa o3.c1 5) fun o4=>(let z10:=z14+o4.x-2;let z11:=z14+o4.x;(Ai o3.c1 5 o4)∧(wI z11)∧((.v (vI (IntKind.i64.wrap (z11-2))):S)= .v (vI z10))∧(Fp 222 z107 [] z105 [])∧In (Ag o4.c1 z103) fun o5=>((Aw o4.c1 z103 o5)∧(Fp 84 [vI 0,vI z10] [] (.v (vI (max 0 z10))) [])∧(wU (max 0 z10))∧In (Ag o5.c1 (max 0 z10)) fun o6=>(let z8:=(o5.t++o6.t)++o1.t;(Aw o5.c1 (max 0 z10) o6)∧(((List.length o5.t+List.length o6.t:Nat):Int)≤Bg)∧(((List.length (o5.t++o6.t)+List.length o1.t:Nat):Int)≤Bg)∧((List.length (z8:List UInt8)≤Ef z106)∧(Au o6.c1))∧Lf (.v (vT z8)) (.v (vT z8)) (Kc o6.c1) (Kc o6.c1))))) ((Fp 222 z107 [] z105 [])∧In (Ag o3.c1 z103) fun o4=>((Aw o3.c1 z103 o4)∧(Fp 84 [vI 0,vI z14] [] (.v (vI (max 0 z14))) [])∧(wU (max 0 z14))∧In (Ag o4.c1 (max 0 z14)) fun o5=>(let z12:=(o4.t++o5.t)++o1.t;(Aw o4.c1 (max 0 z14) o5)∧(((List.length o4.t+List.length o5.t:Nat):Int)≤Bg)∧(((List.length (o4.t++o5.t)+List.length o1.t:Nat):Int)≤Bg)∧((List.length (z12:List UInt8)≤Ef z106)∧(Au o5.c1))∧Lf (.v (vT z12)) (.v (vT z12)) (Kc o5.c1) (Kc o5.c1))))))))) (In (Ap c 30) fun o1=>((Ba c 30 o1)∧Bc o1.p (In (Aa o1.c1 8) fun o2=>(let z21:=C5 f.number o2.x;(Ai o1.c1 8 o2)∧In (Ap o2.c1 20) fun o3=>((Ba o2.c1 20 o3)∧Bc o3.p (In (Aa o3.c1 5) fun o4=>(let z17:=z104+o4.x-2;let z18:=z104+o4.x;(Ai o3.c1 5 o4)∧(wI z18)∧((.v (vI (IntKind.i64.wrap (z18-2))):S)= .v (vI z17))∧(Fp 222 [vI f.number,vI o2.x] [] (.v (.c (.int .u64 z21))) [])∧In (Ag o4.c1 z21) fun o5=>((Aw o4.c1 z21 o5)∧(Fp 84 [vI 0,vI z17] [] (.v (vI (max 0 z17))) [])∧(wU (max 0 z17))∧In (Ag o5.c1 (max 0 z17)) fun o6=>(let z15:=(o5.t++o6.t)++[];(Aw o5.c1 (max 0 z17) o6)∧(((List.length o5.t+List.length o6.t:Nat):Int)≤Bg)∧(((List.length (o5.t++o6.t)+List.length z111:Nat):Int)≤Bg)∧((List.length (z15:List UInt8)≤Ef z106)∧(Au o6.c1))∧Lf (.v (vT z15)) (.v (vT z15)) (Kc o6.c1) (Kc o6.c1))))) ((Fp 222 [vI f.number,vI o2.x] [] (.v (.c (.int .u64 z21))) [])∧In (Ag o3.c1 z21) fun o4=>((Aw o3.c1 z21 o4)∧(Fp 84 [vI 0,vI z104] [] z114 [])∧(wU z110)∧In (Ag o4.c1 z110) fun o5=>(let z19:=(o4.t++o5.t)++[];(Aw o4.c1 z110 o5)∧(((List.length o4.t+List.length o5.t:Nat):Int)≤Bg)∧(((List.length (o4.t++o5.t)+List.length z111:Nat):Int)≤Bg)∧((List.length (z19:List UInt8)≤Ef z106)∧(Au o5.c1))∧Lf (.v (vT z19)) (.v (vT z19)) (Kc o5.c1) (Kc o5.c1))))))) (In (Ap o1.c1 20) fun o2=>((Ba o1.c1 20 o2)∧Bc o2.p (In (Aa o2.c1 5) fun o3=>(let z24:=z104+o3.x-2;let z25:=z104+o3.x;(Ai o2.c1 5 o3)∧(wI z25)∧((.v (vI (IntKind.i64.wrap (z25-2))):S)= .v (vI z24))∧(Fp 222 z107 [] z105 [])∧In (Ag o3.c1 z103) fun o4=>((Aw o3.c1 z103 o4)∧(Fp 84 [vI 0,vI z24] [] (.v (vI (max 0 z24))) [])∧(wU (max 0 z24))∧In (Ag o4.c1 (max 0 z24)) fun o5=>(let z22:=(o4.t++o5.t)++[];(Aw o4.c1 (max 0 z24) o5)∧(((List.length o4.t+List.length o5.t:Nat):Int)≤Bg)∧(((List.length (o4.t++o5.t)+List.length z111:Nat):Int)≤Bg)∧((List.length (z22:List UInt8)≤Ef z106)∧(Au o5.c1))∧Lf (.v (vT z22)) (.v (vT z22)) (Kc o5.c1) (Kc o5.c1))))) ((Fp 222 z107 [] z105 [])∧In (Ag o2.c1 z103) fun o3=>((Aw o2.c1 z103 o3)∧(Fp 84 [vI 0,vI z104] [] z114 [])∧(wU z110)∧In (Ag o3.c1 z110) fun o4=>(let z26:=(o3.t++o4.t)++[];(Aw o3.c1 z110 o4)∧(((List.length o3.t+List.length o4.t:Nat):Int)≤Bg)∧(((List.length (o3.t++o4.t)+List.length z111:Nat):Int)≤Bg)∧((List.length (z26:List UInt8)≤Ef z106)∧(Au o4.c1))∧Lf (.v (vT z26)) (.v (vT z26)) (Kc o4.c1) (Kc o4.c1))))))))) (Bc (decide (f.kind=6)) (In (Aa c 3) fun o1=>((Ai c 3 o1)∧In (M2 o1.c1 o1.x) fun o2=>(let z54:=((List.length o2.t:Nat):Int);(Ug o1.c1 o1.x o2)∧In (Ap o2.c1 8) fun o3=>((Ba o2.c1 8 o3)∧Bc o3.p (In (M3 o3.c1) fun o4=>(let z40:=((List.length o4.t:Nat):Int);(Uh o3.c1 o4)∧In (Ap o4.c1 30) fun o5=>((Ba o4.c1 30 o5)∧Bc o5.p (In (Aa o5.c1 8) fun o6=>(let z33:=C5 f.number o6.x;(Ai o5.c1 8 o6)∧In (Ap o6.c1 20) fun o7=>((Ba o6.c1 20 o7)∧Bc o7.p (In (Aa o7.c1 5) fun o8=>(let z29:=z40+o8.x-2;let z30:=z40+o8.x;(Ai o7.c1 5 o8)∧(wI z30)∧((.v (vI (IntKind.i64.wrap (z30-2))):S)= .v (vI z29))∧(Fp 222 [vI f.number,vI o6.x] [] (.v (.c (.int .u64 z33))) [])∧In (Ag o8.c1 z33) fun o9=>((Aw o8.c1 z33 o9)∧(Fp 84 [vI 0,vI z29] [] (.v (vI (max 0 z29))) [])∧(wU (max 0 z29))∧In (Ag o9.c1 (max 0 z29)) fun o10=>(let z27:=(o9.t++o10.t)++o4.t;(Aw o9.c1 (max 0 z29) o10)∧(((List.length o9.t+List.length o10.t:Nat):Int)≤Bg)∧(((List.length (o9.t++o10.t)+List.length o4.t:Nat):Int)≤Bg)∧((List.length (z27:List UInt8)≤Ef z106)∧(Au o10.c1))∧Lf (.v (vT z27)) (.v (vT z27)) (Kc o10.c1) (Kc o10.c1))))) ((Fp 222 [vI f.number,vI o6.x] [] (.v (.c (.int .u64 z33))) [])∧In (Ag o7.c1 z33) fun o8=>((Aw o7.c1 z33 o8)∧(Fp 84 [vI 0,vI z40] [] (.v (vI (max 0 z40))) [])∧(wU (max 0 z40))∧In (Ag o8.c1 (max 0 z40)) fun o9=>(let z31:=(o8.t++o9.t)++o4.t;(Aw o8.c1 (max 0 z40) o9)∧(((List.length o8.t+List.length o9.t:Nat):Int)≤Bg)∧(((List.length (o8.t++o9.t)+List.length o4.t:Nat):Int)≤Bg)∧((List.length (z31:List UInt8)≤Ef z106)∧(Au o9.c1))∧Lf (.v (vT z31)) (.v (vT z31)) (Kc o9.c1) (Kc o9.c1))))))) (In (Ap o5.c1 20) fun o6=>((Ba o5.c1 20 o6)∧Bc o6.p (In (Aa o6.c1 5) fun o7=>(let z36:=z40+o7.x-2;let z37:=z40+o7.x;(Ai o6.c1 5 o7)∧(wI z37)∧((.v (vI (IntKind.i64.wrap (z37-2))):S)= .v (vI z36))∧(Fp 222 z107 [] z105 [])∧In (Ag o7.c1 z103) fun o8=>((Aw o7.c1 z103 o8)∧(Fp 84 [vI 0,vI z36] [] (.v (vI (max 0 z36))) [])∧(wU (max 0 z36))∧In (Ag o8.c1 (max 0 z36)) fun o9=>(let z34:=(o8.t++o9.t)++o4.t;(Aw o8.c1 (max 0 z36) o9)∧(((List.length o8.t+List.length o9.t:Nat):Int)≤Bg)∧(((List.length (o8.t++o9.t)+List.length o4.t:Nat):Int)≤Bg)∧((List.length (z34:List UInt8)≤Ef z106)∧(Au o9.c1))∧Lf (.v (vT z34)) (.v (vT z34)) (Kc o9.c1) (Kc o9.c1))))) ((Fp 222 z107 [] z105 [])∧In (Ag o6.c1 z103) fun o7=>((Aw o6.c1 z103 o7)∧(Fp 84 [vI 0,vI z40] [] (.v (vI (max 0 z40))) [])∧(wU (max 0 z40))∧In (Ag o7.c1 (max 0 z40)) fun o8=>(let z38:=(o7.t++o8.t)++o4.t;(Aw o7.c1 (max 0 z40) o8)∧(((List.length o7.t+List.length o8.t:Nat):Int)≤Bg)∧(((List.length (o7.t++o8.t)+List.length o4.t:Nat):Int)≤Bg)∧((List.length (z38:List UInt8)≤Ef z106)∧(Au o8.c1))∧Lf (.v (vT z38)) (.v (vT z38)) (Kc o8.c1) (Kc o8.c1))))))))) (In (Ap o3.c1 30) fun o4=>((Ba o3.c1 30 o4)∧Bc o4.p (In (Aa o4.c1 8) fun o5=>(let z47:=C5 f.number o5.x;(Ai o4.c1 8 o5)∧In (Ap o5.c1 20) fun o6=>((Ba o5.c1 20 o6)∧Bc o6.p (In (Aa o6.c1 5) fun o7=>(let z43:=z54+o7.x-2;let z44:=z54+o7.x;(Ai o6.c1 5 o7)∧(wI z44)∧((.v (vI (IntKind.i64.wrap (z44-2))):S)= .v (vI z43))∧(Fp 222 [vI f.number,vI o5.x] [] (.v (.c (.int .u64 z47))) [])∧In (Ag o7.c1 z47) fun o8=>((Aw o7.c1 z47 o8)∧(Fp 84 [vI 0,vI z43] [] (.v (vI (max 0 z43))) [])∧(wU (max 0 z43))∧In (Ag o8.c1 (max 0 z43)) fun o9=>(let z41:=(o8.t++o9.t)++o2.t;(Aw o8.c1 (max 0 z43) o9)∧(((List.length o8.t+List.length o9.t:Nat):Int)≤Bg)∧(((List.length (o8.t++o9.t)+List.length o2.t:Nat):Int)≤Bg)∧((List.length (z41:List UInt8)≤Ef z106)∧(Au o9.c1))∧Lf (.v (vT z41)) (.v (vT z41)) (Kc o9.c1) (Kc o9.c1))))) ((Fp 222 [vI f.number,vI o5.x] [] (.v (.c (.int .u64 z47))) [])∧In (Ag o6.c1 z47) fun o7=>((Aw o6.c1 z47 o7)∧(Fp 84 [vI 0,vI z54] [] (.v (vI (max 0 z54))) [])∧(wU (max 0 z54))∧In (Ag o7.c1 (max 0 z54)) fun o8=>(let z45:=(o7.t++o8.t)++o2.t;(Aw o7.c1 (max 0 z54) o8)∧(((List.length o7.t+List.length o8.t:Nat):Int)≤Bg)∧(((List.length (o7.t++o8.t)+List.length o2.t:Nat):Int)≤Bg)∧((List.length (z45:List UInt8)≤Ef z106)∧(Au o8.c1))∧Lf (.v (vT z45)) (.v (vT z45)) (Kc o8.c1) (Kc o8.c1))))))) (In (Ap o4.c1 20) fun o5=>((Ba o4.c1 20 o5)∧Bc o5.p (In (Aa o5.c1 5) fun o6=>(let z50:=z54+o6.x-2;let z51:=z54+o6.x;(Ai o5.c1 5 o6)∧(wI z51)∧((.v (vI (IntKind.i64.wrap (z51-2))):S)= .v (vI z50))∧(Fp 222 z107 [] z105 [])∧In (Ag o6.c1 z103) fun o7=>((Aw o6.c1 z103 o7)∧(Fp 84 [vI 0,vI z50] [] (.v (vI (max 0 z50))) [])∧(wU (max 0 z50))∧In (Ag o7.c1 (max 0 z50)) fun o8=>(let z48:=(o7.t++o8.t)++o2.t;(Aw o7.c1 (max 0 z50) o8)∧(((List.length o7.t+List.length o8.t:Nat):Int)≤Bg)∧(((List.length (o7.t++o8.t)+List.length o2.t:Nat):Int)≤Bg)∧((List.length (z48:List UInt8)≤Ef z106)∧(Au o8.c1))∧Lf (.v (vT z48)) (.v (vT z48)) (Kc o8.c1) (Kc o8.c1))))) ((Fp 222 z107 [] z105 [])∧In (Ag o5.c1 z103) fun o6=>((Aw o5.c1 z103 o6)∧(Fp 84 [vI 0,vI z54] [] (.v (vI (max 0 z54))) [])∧(wU (max 0 z54))∧In (Ag o6.c1 (max 0 z54)) fun o7=>(let z52:=(o6.t++o7.t)++o2.t;(Aw o6.c1 (max 0 z54) o7)∧(((List.length o6.t+List.length o7.t:Nat):Int)≤Bg)∧(((List.length (o6.t++o7.t)+List.length o2.t:Nat):Int)≤Bg)∧((List.length (z52:List UInt8)≤Ef z106)∧(Au o7.c1))∧Lf (.v (vT z52)) (.v (vT z52)) (Kc o7.c1) (Kc o7.c1)))))))))))) (Bc (decide (f.kind=7)) (In (Aa c 6) fun o1=>((Ai c 6 o1)∧In (Bq o1.c1 o1.x) fun o2=>(let z70:=List.map Bh o2.l;let z69:=((List.length z70:Nat):Int);(C3 o1.c1 o1.x o2)∧In (Ap o2.c1 30) fun o3=>((Ba o2.c1 30 o3)∧Bc o3.p (In (Aa o3.c1 8) fun o4=>(let z61:=C5 f.number o4.x;(Ai o3.c1 8 o4)∧In (Ap o4.c1 20) fun o5=>((Ba o4.c1 20 o5)∧Bc o5.p (In (Aa o5.c1 5) fun o6=>(let z57:=z69+o6.x-2;let z58:=z69+o6.x;(Ai o5.c1 5 o6)∧(wI z58)∧((.v (vI (IntKind.i64.wrap (z58-2))):S)= .v (vI z57))∧(Fp 222 [vI f.number,vI o4.x] [] (.v (.c (.int .u64 z61))) [])∧In (Ag o6.c1 z61) fun o7=>((Aw o6.c1 z61 o7)∧(Fp 84 [vI 0,vI z57] [] (.v (vI (max 0 z57))) [])∧(wU (max 0 z57))∧In (Ag o7.c1 (max 0 z57)) fun o8=>(let z55:=(o7.t++o8.t)++z70;(Aw o7.c1 (max 0 z57) o8)∧(((List.length o7.t+List.length o8.t:Nat):Int)≤Bg)∧(((List.length (o7.t++o8.t)+List.length z70:Nat):Int)≤Bg)∧((List.length (z55:List UInt8)≤Ef z106)∧(Au o8.c1))∧Lf (.v (vT z55)) (.v (vT z55)) (Kc o8.c1) (Kc o8.c1))))) ((Fp 222 [vI f.number,vI o4.x] [] (.v (.c (.int .u64 z61))) [])∧In (Ag o5.c1 z61) fun o6=>((Aw o5.c1 z61 o6)∧(Fp 84 [vI 0,vI z69] [] (.v (vI (max 0 z69))) [])∧(wU (max 0 z69))∧In (Ag o6.c1 (max 0 z69)) fun o7=>(let z59:=(o6.t++o7.t)++z70;(Aw o6.c1 (max 0 z69) o7)∧(((List.length o6.t+List.length o7.t:Nat):Int)≤Bg)∧(((List.length (o6.t++o7.t)+List.length z70:Nat):Int)≤Bg)∧((List.length (z59:List UInt8)≤Ef z106)∧(Au o7.c1))∧Lf (.v (vT z59)) (.v (vT z59)) (Kc o7.c1) (Kc o7.c1))))))) (In (Ap o3.c1 20) fun o4=>((Ba o3.c1 20 o4)∧Bc o4.p (In (Aa o4.c1 5) fun o5=>(let z64:=z69+o5.x-2;let z65:=z69+o5.x;(Ai o4.c1 5 o5)∧(wI z65)∧((.v (vI (IntKind.i64.wrap (z65-2))):S)= .v (vI z64))∧(Fp 222 z107 [] z105 [])∧In (Ag o5.c1 z103) fun o6=>((Aw o5.c1 z103 o6)∧(Fp 84 [vI 0,vI z64] [] (.v (vI (max 0 z64))) [])∧(wU (max 0 z64))∧In (Ag o6.c1 (max 0 z64)) fun o7=>(let z62:=(o6.t++o7.t)++z70;(Aw o6.c1 (max 0 z64) o7)∧(((List.length o6.t+List.length o7.t:Nat):Int)≤Bg)∧(((List.length (o6.t++o7.t)+List.length z70:Nat):Int)≤Bg)∧((List.length (z62:List UInt8)≤Ef z106)∧(Au o7.c1))∧Lf (.v (vT z62)) (.v (vT z62)) (Kc o7.c1) (Kc o7.c1))))) ((Fp 222 z107 [] z105 [])∧In (Ag o4.c1 z103) fun o5=>((Aw o4.c1 z103 o5)∧(Fp 84 [vI 0,vI z69] [] (.v (vI (max 0 z69))) [])∧(wU (max 0 z69))∧In (Ag o5.c1 (max 0 z69)) fun o6=>(let z66:=(o5.t++o6.t)++z70;(Aw o5.c1 (max 0 z69) o6)∧(((List.length o5.t+List.length o6.t:Nat):Int)≤Bg)∧(((List.length (o5.t++o6.t)+List.length z70:Nat):Int)≤Bg)∧((List.length (z66:List UInt8)≤Ef z106)∧(Au o6.c1))∧Lf (.v (vT z66)) (.v (vT z66)) (Kc o6.c1) (Kc o6.c1)))))))))) ((Fp 129 [.agg (Gb f)] [] (.v (vB (Uu f))) [])∧Bc (Uu f) (Bc f.packed (In (Aa c 4) fun o1=>(let z86:=Di f o1;(Ai c 4 o1)∧z86.Has [(0,.v (vP 0)),(6,.v (vP 1)),(9,.v (vI 2)),(10,.v (vT [])),(11,.v (vI o1.x)),(12,.v (vI 0))] [.cells (B2 o1.c1),.cells (Gb f)]∧∀q1,z86.inv q1→(let z84:=((List.length q1.body:Nat):Int);let z85:=((q1.i:Nat):Int);Bc (decide (z85<o1.x)) (In (Dy q1.c f.kind) fun o2=>((Hm q1.c f.kind o2)∧(((List.length q1.body+List.length o2.t:Nat):Int)≤Bg)∧(wI (z85+1))∧z86.Nxt q1 [(0,.v (vP 0)),(6,.v (vP 1)),(9,.v (vI 2)),(10,.v (vT (q1.body++o2.t))),(11,.v (vI o1.x)),(12,.v (vI (z85+1)))] [.cells (B2 o2.c1),.cells (Gb f)])) (In (Ap q1.c 30) fun o2=>((Ba q1.c 30 o2)∧Bc o2.p (In (Aa o2.c1 8) fun o3=>(let z77:=C5 f.number o3.x;(Ai o2.c1 8 o3)∧In (Ap o3.c1 20) fun o4=>((Ba o3.c1 20 o4)∧Bc o4.p (In (Aa o4.c1 5) fun o5=>(let z73:=z84+o5.x-2;let z74:=z84+o5.x;(Ai o4.c1 5 o5)∧(wI z74)∧((.v (vI (IntKind.i64.wrap (z74-2))):S)= .v (vI z73))∧(Fp 222 [vI f.number,vI o3.x] [] (.v (.c (.int .u64 z77))) [])∧In (Ag o5.c1 z77) fun o6=>((Aw o5.c1 z77 o6)∧(Fp 84 [vI 0,vI z73] [] (.v (vI (max 0 z73))) [])∧(wU (max 0 z73))∧In (Ag o6.c1 (max 0 z73)) fun o7=>(let z71:=(o6.t++o7.t)++q1.body;(Aw o6.c1 (max 0 z73) o7)∧(((List.length o6.t+List.length o7.t:Nat):Int)≤Bg)∧(((List.length (o6.t++o7.t)+List.length q1.body:Nat):Int)≤Bg)∧((List.length (z71:List UInt8)≤Ef z106)∧(Au o7.c1))∧Lf (.v (vT z71)) (.v (vT z71)) (Kc o7.c1) (Kc o7.c1))))) ((Fp 222 [vI f.number,vI o3.x] [] (.v (.c (.int .u64 z77))) [])∧In (Ag o4.c1 z77) fun o5=>((Aw o4.c1 z77 o5)∧(Fp 84 [vI 0,vI z84] [] (.v (vI (max 0 z84))) [])∧(wU (max 0 z84))∧In (Ag o5.c1 (max 0 z84)) fun o6=>(let z75:=(o5.t++o6.t)++q1.body;(Aw o5.c1 (max 0 z84) o6)∧(((List.length o5.t+List.length o6.t:Nat):Int)≤Bg)∧(((List.length (o5.t++o6.t)+List.length q1.body:Nat):Int)≤Bg)∧((List.length (z75:List UInt8)≤Ef z106)∧(Au o6.c1))∧Lf (.v (vT z75)) (.v (vT z75)) (Kc o6.c1) (Kc o6.c1))))))) (In (Ap o2.c1 20) fun o3=>((Ba o2.c1 20 o3)∧Bc o3.p (In (Aa o3.c1 5) fun o4=>(let z80:=z84+o4.x-2;let z81:=z84+o4.x;(Ai o3.c1 5 o4)∧(wI z81)∧((.v (vI (IntKind.i64.wrap (z81-2))):S)= .v (vI z80))∧(Fp 222 z112 [] z109 [])∧In (Ag o4.c1 z108) fun o5=>((Aw o4.c1 z108 o5)∧(Fp 84 [vI 0,vI z80] [] (.v (vI (max 0 z80))) [])∧(wU (max 0 z80))∧In (Ag o5.c1 (max 0 z80)) fun o6=>(let z78:=(o5.t++o6.t)++q1.body;(Aw o5.c1 (max 0 z80) o6)∧(((List.length o5.t+List.length o6.t:Nat):Int)≤Bg)∧(((List.length (o5.t++o6.t)+List.length q1.body:Nat):Int)≤Bg)∧((List.length (z78:List UInt8)≤Ef z106)∧(Au o6.c1))∧Lf (.v (vT z78)) (.v (vT z78)) (Kc o6.c1) (Kc o6.c1))))) ((Fp 222 z112 [] z109 [])∧In (Ag o3.c1 z108) fun o4=>((Aw o3.c1 z108 o4)∧(Fp 84 [vI 0,vI z84] [] (.v (vI (max 0 z84))) [])∧(wU (max 0 z84))∧In (Ag o4.c1 (max 0 z84)) fun o5=>(let z82:=(o4.t++o5.t)++q1.body;(Aw o4.c1 (max 0 z84) o5)∧(((List.length o4.t+List.length o5.t:Nat):Int)≤Bg)∧(((List.length (o4.t++o5.t)+List.length q1.body:Nat):Int)≤Bg)∧((List.length (z82:List UInt8)≤Ef z106)∧(Au o5.c1))∧Lf (.v (vT z82)) (.v (vT z82)) (Kc o5.c1) (Kc o5.c1))))))))))) (In (Ap c 3) fun o1=>((Ba c 3 o1)∧Bc o1.p (In (Aa o1.c1 4) fun o2=>(let z102:=Di f o2;(Ai o1.c1 4 o2)∧z102.Has [(0,.v (vP 0)),(6,.v (vP 1)),(9,.v (vI 2)),(10,.v (vT [])),(11,.v (vI o2.x)),(12,.v (vI 0))] [.cells (B2 o2.c1),.cells (Gb f)]∧∀q1,z102.inv q1→(let z100:=((List.length q1.body:Nat):Int);let z101:=((q1.i:Nat):Int);Bc (decide (z101<o2.x)) (In (Dy q1.c f.kind) fun o3=>((Hm q1.c f.kind o3)∧(((List.length q1.body+List.length o3.t:Nat):Int)≤Bg)∧(wI (z101+1))∧z102.Nxt q1 [(0,.v (vP 0)),(6,.v (vP 1)),(9,.v (vI 2)),(10,.v (vT (q1.body++o3.t))),(11,.v (vI o2.x)),(12,.v (vI (z101+1)))] [.cells (B2 o3.c1),.cells (Gb f)])) (In (Ap q1.c 30) fun o3=>((Ba q1.c 30 o3)∧Bc o3.p (In (Aa o3.c1 8) fun o4=>(let z93:=C5 f.number o4.x;(Ai o3.c1 8 o4)∧In (Ap o4.c1 20) fun o5=>((Ba o4.c1 20 o5)∧Bc o5.p (In (Aa o5.c1 5) fun o6=>(let z89:=z100+o6.x-2;let z90:=z100+o6.x;(Ai o5.c1 5 o6)∧(wI z90)∧((.v (vI (IntKind.i64.wrap (z90-2))):S)= .v (vI z89))∧(Fp 222 [vI f.number,vI o4.x] [] (.v (.c (.int .u64 z93))) [])∧In (Ag o6.c1 z93) fun o7=>((Aw o6.c1 z93 o7)∧(Fp 84 [vI 0,vI z89] [] (.v (vI (max 0 z89))) [])∧(wU (max 0 z89))∧In (Ag o7.c1 (max 0 z89)) fun o8=>(let z87:=(o7.t++o8.t)++q1.body;(Aw o7.c1 (max 0 z89) o8)∧(((List.length o7.t+List.length o8.t:Nat):Int)≤Bg)∧(((List.length (o7.t++o8.t)+List.length q1.body:Nat):Int)≤Bg)∧((List.length (z87:List UInt8)≤Ef z106)∧(Au o8.c1))∧Lf (.v (vT z87)) (.v (vT z87)) (Kc o8.c1) (Kc o8.c1))))) ((Fp 222 [vI f.number,vI o4.x] [] (.v (.c (.int .u64 z93))) [])∧In (Ag o5.c1 z93) fun o6=>((Aw o5.c1 z93 o6)∧(Fp 84 [vI 0,vI z100] [] (.v (vI (max 0 z100))) [])∧(wU (max 0 z100))∧In (Ag o6.c1 (max 0 z100)) fun o7=>(let z91:=(o6.t++o7.t)++q1.body;(Aw o6.c1 (max 0 z100) o7)∧(((List.length o6.t+List.length o7.t:Nat):Int)≤Bg)∧(((List.length (o6.t++o7.t)+List.length q1.body:Nat):Int)≤Bg)∧((List.length (z91:List UInt8)≤Ef z106)∧(Au o7.c1))∧Lf (.v (vT z91)) (.v (vT z91)) (Kc o7.c1) (Kc o7.c1))))))) (In (Ap o3.c1 20) fun o4=>((Ba o3.c1 20 o4)∧Bc o4.p (In (Aa o4.c1 5) fun o5=>(let z96:=z100+o5.x-2;let z97:=z100+o5.x;(Ai o4.c1 5 o5)∧(wI z97)∧((.v (vI (IntKind.i64.wrap (z97-2))):S)= .v (vI z96))∧(Fp 222 z112 [] z109 [])∧In (Ag o5.c1 z108) fun o6=>((Aw o5.c1 z108 o6)∧(Fp 84 [vI 0,vI z96] [] (.v (vI (max 0 z96))) [])∧(wU (max 0 z96))∧In (Ag o6.c1 (max 0 z96)) fun o7=>(let z94:=(o6.t++o7.t)++q1.body;(Aw o6.c1 (max 0 z96) o7)∧(((List.length o6.t+List.length o7.t:Nat):Int)≤Bg)∧(((List.length (o6.t++o7.t)+List.length q1.body:Nat):Int)≤Bg)∧((List.length (z94:List UInt8)≤Ef z106)∧(Au o7.c1))∧Lf (.v (vT z94)) (.v (vT z94)) (Kc o7.c1) (Kc o7.c1))))) ((Fp 222 z112 [] z109 [])∧In (Ag o4.c1 z108) fun o5=>((Aw o4.c1 z108 o5)∧(Fp 84 [vI 0,vI z100] [] (.v (vI (max 0 z100))) [])∧(wU (max 0 z100))∧In (Ag o5.c1 (max 0 z100)) fun o6=>(let z98:=(o5.t++o6.t)++q1.body;(Aw o5.c1 (max 0 z100) o6)∧(((List.length o5.t+List.length o6.t:Nat):Int)≤Bg)∧(((List.length (o5.t++o6.t)+List.length q1.body:Nat):Int)≤Bg)∧((List.length (z98:List UInt8)≤Ef z106)∧(Au o6.c1))∧Lf (.v (vT z98)) (.v (vT z98)) (Kc o6.c1) (Kc o6.c1))))))))))) (In (Ag o1.c1 z103) fun o2=>(In (Dy o2.c1 f.kind) fun o3=>((Fp 222 z107 [] z105 [])∧(Aw o1.c1 z103 o2)∧(Hm o2.c1 f.kind o3)∧(((List.length o2.t+List.length o3.t:Nat):Int)≤Bg)∧((List.length ((o2.t++o3.t):List UInt8)≤Ef z106)∧(Au o3.c1))∧Lf (.v (vT (o2.t++o3.t))) (.v (vT (o2.t++o3.t))) (Kc o3.c1) (Kc o3.c1))))))) (In (Ag c z103) fun o1=>(In (Dy o1.c1 f.kind) fun o2=>((Fp 222 z107 [] z105 [])∧(Aw c z103 o1)∧(Hm o1.c1 f.kind o2)∧(((List.length o1.t+List.length o2.t:Nat):Int)≤Bg)∧((List.length ((o1.t++o2.t):List UInt8)≤Ef z106)∧(Au o2.c1))∧Lf (.v (vT (o1.t++o2.t))) (.v (vT (o1.t++o2.t))) (Kc o2.c1) (Kc o2.c1))))))))) Q4 ?_
 refine⟨(Qy _),dsp (fun h1 p1=>?_) fun h1 p1=>?_⟩
 refine dsp (fun h2 p2=>?_) fun h2 p2=>?_
 have hvn:=Afh deep p2
 have hvk:=Vx (Int.toNat (deep-1))
 refine⟨(Ad Q2 Q2),(hB c p f.msg (deep-1) Q0 Q2 Q2 Q2 Q2),fun o1 ho_o1=>?_⟩
 obtain ⟨⟨hp_o1_0,hp_o1_1⟩,hf_o1⟩:=ho_o1
 refine⟨hf_o1,(B1 o1.c1 30 Q0),fun o2 ho_o2=>?_⟩
 obtain ⟨hp_o2,hf_o2⟩:=ho_o2
 refine⟨hf_o2,fun h3=>?_,fun h3=>?_⟩
 refine⟨(Ao o2.c1 8 Q0),fun o3 ho_o3=>?_⟩
 obtain ⟨⟨hp_o3_0,hp_o3_1,hp_o3_2,hp_o3_3⟩,hf_o3⟩:=ho_o3
 refine⟨hf_o3,(B1 o3.c1 20 Q0),fun o4 ho_o4=>?_⟩
 obtain ⟨hp_o4,hf_o4⟩:=ho_o4
 refine⟨hf_o4,fun h4=>?_,fun h4=>?_⟩
 refine⟨(Ao o4.c1 5 Q0),fun o5 ho_o5=>?_⟩
 obtain ⟨⟨hp_o5_0,hp_o5_1,hp_o5_2,hp_o5_3⟩,hf_o5⟩:=ho_o5
 refine⟨hf_o5,(Ad Q2 Q2),(Ad Q2 Q2),(Cx _ _),(Be o5.c1 (C5 f.number o3.x) Q0 (⟨(Bn _ _).1,Int.le_trans (Bn _ _).2 Q30⟩)),fun o6 ho_o6=>?_⟩
 obtain ⟨⟨hp_o6_0,hp_o6_1⟩,hf_o6⟩:=ho_o6
 refine⟨hf_o6,(G4 _ _),(B3 Q2 Q2),(Be o6.c1 (max 0 (((List.length o1.t:Nat):Int)+o5.x-2)) Q0 Q2),fun o7 ho_o7=>?_⟩
 obtain ⟨⟨hp_o7_0,hp_o7_1⟩,hf_o7⟩:=ho_o7
 exact⟨hf_o7,Q3,Q3,⟨Q29,Q0⟩,rfl,rfl⟩
 refine⟨(Cx _ _),(Be o4.c1 (C5 f.number o3.x) Q0 (⟨(Bn _ _).1,Int.le_trans (Bn _ _).2 Q30⟩)),fun o5 ho_o5=>?_⟩
 obtain ⟨⟨hp_o5_0,hp_o5_1⟩,hf_o5⟩:=ho_o5
 refine⟨hf_o5,(G4 _ _),(B3 Q2 Q2),(Be o5.c1 (max 0 ((List.length o1.t:Nat):Int)) Q0 Q2),fun o6 ho_o6=>?_⟩
 obtain ⟨⟨hp_o6_0,hp_o6_1⟩,hf_o6⟩:=ho_o6
 exact⟨hf_o6,Q3,Q3,⟨Q29,Q0⟩,rfl,rfl⟩
 refine⟨(B1 o2.c1 20 Q0),fun o3 ho_o3=>?_⟩
 obtain ⟨hp_o3,hf_o3⟩:=ho_o3
 refine⟨hf_o3,fun h4=>?_,fun h4=>?_⟩
 refine⟨(Ao o3.c1 5 Q0),fun o4 ho_o4=>?_⟩
 obtain ⟨⟨hp_o4_0,hp_o4_1,hp_o4_2,hp_o4_3⟩,hf_o4⟩:=ho_o4
 refine⟨hf_o4,(Ad Q2 Q2),(Ad Q2 Q2),(Cx _ _),(Be o4.c1 (C5 f.number (Cd f.kind)) Q0 (⟨(Bn _ _).1,Int.le_trans (Bn _ _).2 Q30⟩)),fun o5 ho_o5=>?_⟩
 obtain ⟨⟨hp_o5_0,hp_o5_1⟩,hf_o5⟩:=ho_o5
 refine⟨hf_o5,(G4 _ _),(B3 Q2 Q2),(Be o5.c1 (max 0 (((List.length o1.t:Nat):Int)+o4.x-2)) Q0 Q2),fun o6 ho_o6=>?_⟩
 obtain ⟨⟨hp_o6_0,hp_o6_1⟩,hf_o6⟩:=ho_o6
 exact⟨hf_o6,Q3,Q3,⟨Q29,Q0⟩,rfl,rfl⟩
 refine⟨(Cx _ _),(Be o3.c1 (C5 f.number (Cd f.kind)) Q0 (⟨(Bn _ _).1,Int.le_trans (Bn _ _).2 Q30⟩)),fun o4 ho_o4=>?_⟩
 obtain ⟨⟨hp_o4_0,hp_o4_1⟩,hf_o4⟩:=ho_o4
 refine⟨hf_o4,(G4 _ _),(B3 Q2 Q2),(Be o4.c1 (max 0 ((List.length o1.t:Nat):Int)) Q0 Q2),fun o5 ho_o5=>?_⟩
 obtain ⟨⟨hp_o5_0,hp_o5_1⟩,hf_o5⟩:=ho_o5
 exact⟨hf_o5,Q3,Q3,⟨Q29,Q0⟩,rfl,rfl⟩
 refine⟨(B1 c 30 Q0),fun o1 ho_o1=>?_⟩
 obtain ⟨hp_o1,hf_o1⟩:=ho_o1
 refine⟨hf_o1,fun h3=>?_,fun h3=>?_⟩
 refine⟨(Ao o1.c1 8 Q0),fun o2 ho_o2=>?_⟩
 obtain ⟨⟨hp_o2_0,hp_o2_1,hp_o2_2,hp_o2_3⟩,hf_o2⟩:=ho_o2
 refine⟨hf_o2,(B1 o2.c1 20 Q0),fun o3 ho_o3=>?_⟩
 obtain ⟨hp_o3,hf_o3⟩:=ho_o3
 refine⟨hf_o3,fun h4=>?_,fun h4=>?_⟩
 refine⟨(Ao o3.c1 5 Q0),fun o4 ho_o4=>?_⟩
 obtain ⟨⟨hp_o4_0,hp_o4_1,hp_o4_2,hp_o4_3⟩,hf_o4⟩:=ho_o4
 refine⟨hf_o4,(Ad Q5 Q5),(Ad Q5 Q5),(Cx _ _),(Be o4.c1 (C5 f.number o2.x) Q0 (⟨(Bn _ _).1,Int.le_trans (Bn _ _).2 Q30⟩)),fun o5 ho_o5=>?_⟩
 obtain ⟨⟨hp_o5_0,hp_o5_1⟩,hf_o5⟩:=ho_o5
 refine⟨hf_o5,(G4 _ _),(B3 Q5 Q5),(Be o5.c1 (max 0 (((List.length ([]:List UInt8):Nat):Int)+o4.x-2)) Q0 Q5),fun o6 ho_o6=>?_⟩
 obtain ⟨⟨hp_o6_0,hp_o6_1⟩,hf_o6⟩:=ho_o6
 exact⟨hf_o6,Q3,Q3,⟨Q47,Q0⟩,rfl,rfl⟩
 refine⟨(Cx _ _),(Be o3.c1 (C5 f.number o2.x) Q0 (⟨(Bn _ _).1,Int.le_trans (Bn _ _).2 Q30⟩)),fun o4 ho_o4=>?_⟩
 obtain ⟨⟨hp_o4_0,hp_o4_1⟩,hf_o4⟩:=ho_o4
 refine⟨hf_o4,(G4 _ _),(B3 Q5 Q5),(Be o4.c1 (max 0 ((List.length ([]:List UInt8):Nat):Int)) Q0 Q5),fun o5 ho_o5=>?_⟩
 obtain ⟨⟨hp_o5_0,hp_o5_1⟩,hf_o5⟩:=ho_o5
 exact⟨hf_o5,Q3,Q3,⟨Q47,Q0⟩,rfl,rfl⟩
 refine⟨(B1 o1.c1 20 Q0),fun o2 ho_o2=>?_⟩
 obtain ⟨hp_o2,hf_o2⟩:=ho_o2
 refine⟨hf_o2,fun h4=>?_,fun h4=>?_⟩
 refine⟨(Ao o2.c1 5 Q0),fun o3 ho_o3=>?_⟩
 obtain ⟨⟨hp_o3_0,hp_o3_1,hp_o3_2,hp_o3_3⟩,hf_o3⟩:=ho_o3
 refine⟨hf_o3,(Ad Q5 Q5),(Ad Q5 Q5),(Cx _ _),(Be o3.c1 (C5 f.number (Cd f.kind)) Q0 (⟨(Bn _ _).1,Int.le_trans (Bn _ _).2 Q30⟩)),fun o4 ho_o4=>?_⟩
 obtain ⟨⟨hp_o4_0,hp_o4_1⟩,hf_o4⟩:=ho_o4
 refine⟨hf_o4,(G4 _ _),(B3 Q5 Q5),(Be o4.c1 (max 0 (((List.length ([]:List UInt8):Nat):Int)+o3.x-2)) Q0 Q5),fun o5 ho_o5=>?_⟩
 obtain ⟨⟨hp_o5_0,hp_o5_1⟩,hf_o5⟩:=ho_o5
 exact⟨hf_o5,Q3,Q3,⟨Q47,Q0⟩,rfl,rfl⟩
 refine⟨(Cx _ _),(Be o2.c1 (C5 f.number (Cd f.kind)) Q0 (⟨(Bn _ _).1,Int.le_trans (Bn _ _).2 Q30⟩)),fun o3 ho_o3=>?_⟩
 obtain ⟨⟨hp_o3_0,hp_o3_1⟩,hf_o3⟩:=ho_o3
 refine⟨hf_o3,(G4 _ _),(B3 Q5 Q5),(Be o3.c1 (max 0 ((List.length ([]:List UInt8):Nat):Int)) Q0 Q5),fun o4 ho_o4=>?_⟩
 obtain ⟨⟨hp_o4_0,hp_o4_1⟩,hf_o4⟩:=ho_o4
 exact⟨hf_o4,Q3,Q3,⟨Q47,Q0⟩,rfl,rfl⟩
 refine dsp (fun h2 p2=>?_) fun h2 p2=>?_
 refine⟨(Ao c 3 Q0),fun o1 ho_o1=>?_⟩
 obtain ⟨⟨hp_o1_0,hp_o1_1,hp_o1_2,hp_o1_3⟩,hf_o1⟩:=ho_o1
 refine⟨hf_o1,(Ad7 o1.c1 o1.x Q0 Q2),fun o2 ho_o2=>?_⟩
 obtain ⟨⟨hp_o2_0,hp_o2_1⟩,hf_o2⟩:=ho_o2
 refine⟨hf_o2,(B1 o2.c1 8 Q0),fun o3 ho_o3=>?_⟩
 obtain ⟨hp_o3,hf_o3⟩:=ho_o3
 refine⟨hf_o3,fun h3=>?_,fun h3=>?_⟩
 refine⟨(Ad8 o3.c1 Q0),fun o4 ho_o4=>?_⟩
 obtain ⟨⟨hp_o4_0,hp_o4_1⟩,hf_o4⟩:=ho_o4
 refine⟨hf_o4,(B1 o4.c1 30 Q0),fun o5 ho_o5=>?_⟩
 obtain ⟨hp_o5,hf_o5⟩:=ho_o5
 refine⟨hf_o5,fun h4=>?_,fun h4=>?_⟩
 refine⟨(Ao o5.c1 8 Q0),fun o6 ho_o6=>?_⟩
 obtain ⟨⟨hp_o6_0,hp_o6_1,hp_o6_2,hp_o6_3⟩,hf_o6⟩:=ho_o6
 refine⟨hf_o6,(B1 o6.c1 20 Q0),fun o7 ho_o7=>?_⟩
 obtain ⟨hp_o7,hf_o7⟩:=ho_o7
 refine⟨hf_o7,fun h5=>?_,fun h5=>?_⟩
 refine⟨(Ao o7.c1 5 Q0),fun o8 ho_o8=>?_⟩
 obtain ⟨⟨hp_o8_0,hp_o8_1,hp_o8_2,hp_o8_3⟩,hf_o8⟩:=ho_o8
 refine⟨hf_o8,(Ad Q2 Q2),(Ad Q2 Q2),(Cx _ _),(Be o8.c1 (C5 f.number o6.x) Q0 (⟨(Bn _ _).1,Int.le_trans (Bn _ _).2 Q30⟩)),fun o9 ho_o9=>?_⟩
 obtain ⟨⟨hp_o9_0,hp_o9_1⟩,hf_o9⟩:=ho_o9
 refine⟨hf_o9,(G4 _ _),(B3 Q2 Q2),(Be o9.c1 (max 0 (((List.length o4.t:Nat):Int)+o8.x-2)) Q0 Q2),fun o10 ho_o10=>?_⟩
 obtain ⟨⟨hp_o10_0,hp_o10_1⟩,hf_o10⟩:=ho_o10
 exact⟨hf_o10,Q3,Q3,⟨Q29,Q0⟩,rfl,rfl⟩
 refine⟨(Cx _ _),(Be o7.c1 (C5 f.number o6.x) Q0 (⟨(Bn _ _).1,Int.le_trans (Bn _ _).2 Q30⟩)),fun o8 ho_o8=>?_⟩
 obtain ⟨⟨hp_o8_0,hp_o8_1⟩,hf_o8⟩:=ho_o8
 refine⟨hf_o8,(G4 _ _),(B3 Q2 Q2),(Be o8.c1 (max 0 ((List.length o4.t:Nat):Int)) Q0 Q2),fun o9 ho_o9=>?_⟩
 obtain ⟨⟨hp_o9_0,hp_o9_1⟩,hf_o9⟩:=ho_o9
 exact⟨hf_o9,Q3,Q3,⟨Q29,Q0⟩,rfl,rfl⟩
 refine⟨(B1 o5.c1 20 Q0),fun o6 ho_o6=>?_⟩
 obtain ⟨hp_o6,hf_o6⟩:=ho_o6
 refine⟨hf_o6,fun h5=>?_,fun h5=>?_⟩
 refine⟨(Ao o6.c1 5 Q0),fun o7 ho_o7=>?_⟩
 obtain ⟨⟨hp_o7_0,hp_o7_1,hp_o7_2,hp_o7_3⟩,hf_o7⟩:=ho_o7
 refine⟨hf_o7,(Ad Q2 Q2),(Ad Q2 Q2),(Cx _ _),(Be o7.c1 (C5 f.number (Cd f.kind)) Q0 (⟨(Bn _ _).1,Int.le_trans (Bn _ _).2 Q30⟩)),fun o8 ho_o8=>?_⟩
 obtain ⟨⟨hp_o8_0,hp_o8_1⟩,hf_o8⟩:=ho_o8
 refine⟨hf_o8,(G4 _ _),(B3 Q2 Q2),(Be o8.c1 (max 0 (((List.length o4.t:Nat):Int)+o7.x-2)) Q0 Q2),fun o9 ho_o9=>?_⟩
 obtain ⟨⟨hp_o9_0,hp_o9_1⟩,hf_o9⟩:=ho_o9
 exact⟨hf_o9,Q3,Q3,⟨Q29,Q0⟩,rfl,rfl⟩
 refine⟨(Cx _ _),(Be o6.c1 (C5 f.number (Cd f.kind)) Q0 (⟨(Bn _ _).1,Int.le_trans (Bn _ _).2 Q30⟩)),fun o7 ho_o7=>?_⟩
 obtain ⟨⟨hp_o7_0,hp_o7_1⟩,hf_o7⟩:=ho_o7
 refine⟨hf_o7,(G4 _ _),(B3 Q2 Q2),(Be o7.c1 (max 0 ((List.length o4.t:Nat):Int)) Q0 Q2),fun o8 ho_o8=>?_⟩
 obtain ⟨⟨hp_o8_0,hp_o8_1⟩,hf_o8⟩:=ho_o8
 exact⟨hf_o8,Q3,Q3,⟨Q29,Q0⟩,rfl,rfl⟩
 refine⟨(B1 o3.c1 30 Q0),fun o4 ho_o4=>?_⟩
 obtain ⟨hp_o4,hf_o4⟩:=ho_o4
 refine⟨hf_o4,fun h4=>?_,fun h4=>?_⟩
 refine⟨(Ao o4.c1 8 Q0),fun o5 ho_o5=>?_⟩
 obtain ⟨⟨hp_o5_0,hp_o5_1,hp_o5_2,hp_o5_3⟩,hf_o5⟩:=ho_o5
 refine⟨hf_o5,(B1 o5.c1 20 Q0),fun o6 ho_o6=>?_⟩
 obtain ⟨hp_o6,hf_o6⟩:=ho_o6
 refine⟨hf_o6,fun h5=>?_,fun h5=>?_⟩
 refine⟨(Ao o6.c1 5 Q0),fun o7 ho_o7=>?_⟩
 obtain ⟨⟨hp_o7_0,hp_o7_1,hp_o7_2,hp_o7_3⟩,hf_o7⟩:=ho_o7
 refine⟨hf_o7,(Ad Q2 Q2),(Ad Q2 Q2),(Cx _ _),(Be o7.c1 (C5 f.number o5.x) Q0 (⟨(Bn _ _).1,Int.le_trans (Bn _ _).2 Q30⟩)),fun o8 ho_o8=>?_⟩
 obtain ⟨⟨hp_o8_0,hp_o8_1⟩,hf_o8⟩:=ho_o8
 refine⟨hf_o8,(G4 _ _),(B3 Q2 Q2),(Be o8.c1 (max 0 (((List.length o2.t:Nat):Int)+o7.x-2)) Q0 Q2),fun o9 ho_o9=>?_⟩
 obtain ⟨⟨hp_o9_0,hp_o9_1⟩,hf_o9⟩:=ho_o9
 exact⟨hf_o9,Q3,Q3,⟨Q29,Q0⟩,rfl,rfl⟩
 refine⟨(Cx _ _),(Be o6.c1 (C5 f.number o5.x) Q0 (⟨(Bn _ _).1,Int.le_trans (Bn _ _).2 Q30⟩)),fun o7 ho_o7=>?_⟩
 obtain ⟨⟨hp_o7_0,hp_o7_1⟩,hf_o7⟩:=ho_o7
 refine⟨hf_o7,(G4 _ _),(B3 Q2 Q2),(Be o7.c1 (max 0 ((List.length o2.t:Nat):Int)) Q0 Q2),fun o8 ho_o8=>?_⟩
 obtain ⟨⟨hp_o8_0,hp_o8_1⟩,hf_o8⟩:=ho_o8
 exact⟨hf_o8,Q3,Q3,⟨Q29,Q0⟩,rfl,rfl⟩
 refine⟨(B1 o4.c1 20 Q0),fun o5 ho_o5=>?_⟩
 obtain ⟨hp_o5,hf_o5⟩:=ho_o5
 refine⟨hf_o5,fun h5=>?_,fun h5=>?_⟩
 refine⟨(Ao o5.c1 5 Q0),fun o6 ho_o6=>?_⟩
 obtain ⟨⟨hp_o6_0,hp_o6_1,hp_o6_2,hp_o6_3⟩,hf_o6⟩:=ho_o6
 refine⟨hf_o6,(Ad Q2 Q2),(Ad Q2 Q2),(Cx _ _),(Be o6.c1 (C5 f.number (Cd f.kind)) Q0 (⟨(Bn _ _).1,Int.le_trans (Bn _ _).2 Q30⟩)),fun o7 ho_o7=>?_⟩
 obtain ⟨⟨hp_o7_0,hp_o7_1⟩,hf_o7⟩:=ho_o7
 refine⟨hf_o7,(G4 _ _),(B3 Q2 Q2),(Be o7.c1 (max 0 (((List.length o2.t:Nat):Int)+o6.x-2)) Q0 Q2),fun o8 ho_o8=>?_⟩
 obtain ⟨⟨hp_o8_0,hp_o8_1⟩,hf_o8⟩:=ho_o8
 exact⟨hf_o8,Q3,Q3,⟨Q29,Q0⟩,rfl,rfl⟩
 refine⟨(Cx _ _),(Be o5.c1 (C5 f.number (Cd f.kind)) Q0 (⟨(Bn _ _).1,Int.le_trans (Bn _ _).2 Q30⟩)),fun o6 ho_o6=>?_⟩
 obtain ⟨⟨hp_o6_0,hp_o6_1⟩,hf_o6⟩:=ho_o6
 refine⟨hf_o6,(G4 _ _),(B3 Q2 Q2),(Be o6.c1 (max 0 ((List.length o2.t:Nat):Int)) Q0 Q2),fun o7 ho_o7=>?_⟩
 obtain ⟨⟨hp_o7_0,hp_o7_1⟩,hf_o7⟩:=ho_o7
 exact⟨hf_o7,Q3,Q3,⟨Q29,Q0⟩,rfl,rfl⟩
 refine dsp (fun h3 p3=>?_) fun h3 p3=>?_
 refine⟨(Ao c 6 Q0),fun o1 ho_o1=>?_⟩
 obtain ⟨⟨hp_o1_0,hp_o1_1,hp_o1_2,hp_o1_3⟩,hf_o1⟩:=ho_o1
 refine⟨hf_o1,(Es o1.c1 o1.x Q0 Q2),fun o2 ho_o2=>?_⟩
 obtain ⟨⟨hp_o2_0,hp_o2_1⟩,hf_o2⟩:=ho_o2
 refine⟨hf_o2,(B1 o2.c1 30 Q0),fun o3 ho_o3=>?_⟩
 obtain ⟨hp_o3,hf_o3⟩:=ho_o3
 refine⟨hf_o3,fun h4=>?_,fun h4=>?_⟩
 refine⟨(Ao o3.c1 8 Q0),fun o4 ho_o4=>?_⟩
 obtain ⟨⟨hp_o4_0,hp_o4_1,hp_o4_2,hp_o4_3⟩,hf_o4⟩:=ho_o4
 refine⟨hf_o4,(B1 o4.c1 20 Q0),fun o5 ho_o5=>?_⟩
 obtain ⟨hp_o5,hf_o5⟩:=ho_o5
 refine⟨hf_o5,fun h5=>?_,fun h5=>?_⟩
 refine⟨(Ao o5.c1 5 Q0),fun o6 ho_o6=>?_⟩
 obtain ⟨⟨hp_o6_0,hp_o6_1,hp_o6_2,hp_o6_3⟩,hf_o6⟩:=ho_o6
 refine⟨hf_o6,(Ad Q21 Q21),(Ad Q21 Q21),(Cx _ _),(Be o6.c1 (C5 f.number o4.x) Q0 (⟨(Bn _ _).1,Int.le_trans (Bn _ _).2 Q30⟩)),fun o7 ho_o7=>?_⟩
 obtain ⟨⟨hp_o7_0,hp_o7_1⟩,hf_o7⟩:=ho_o7
 refine⟨hf_o7,(G4 _ _),(B3 Q21 Q21),(Be o7.c1 (max 0 (((List.length (List.map Bh o2.l):Nat):Int)+o6.x-2)) Q0 Q21),fun o8 ho_o8=>?_⟩
 obtain ⟨⟨hp_o8_0,hp_o8_1⟩,hf_o8⟩:=ho_o8
 exact⟨hf_o8,Q3,Q3,⟨Q75,Q0⟩,rfl,rfl⟩
 refine⟨(Cx _ _),(Be o5.c1 (C5 f.number o4.x) Q0 (⟨(Bn _ _).1,Int.le_trans (Bn _ _).2 Q30⟩)),fun o6 ho_o6=>?_⟩
 obtain ⟨⟨hp_o6_0,hp_o6_1⟩,hf_o6⟩:=ho_o6
 refine⟨hf_o6,(G4 _ _),(B3 Q21 Q21),(Be o6.c1 (max 0 ((List.length (List.map Bh o2.l):Nat):Int)) Q0 Q21),fun o7 ho_o7=>?_⟩
 obtain ⟨⟨hp_o7_0,hp_o7_1⟩,hf_o7⟩:=ho_o7
 exact⟨hf_o7,Q3,Q3,⟨Q75,Q0⟩,rfl,rfl⟩
 refine⟨(B1 o3.c1 20 Q0),fun o4 ho_o4=>?_⟩
 obtain ⟨hp_o4,hf_o4⟩:=ho_o4
 refine⟨hf_o4,fun h5=>?_,fun h5=>?_⟩
 refine⟨(Ao o4.c1 5 Q0),fun o5 ho_o5=>?_⟩
 obtain ⟨⟨hp_o5_0,hp_o5_1,hp_o5_2,hp_o5_3⟩,hf_o5⟩:=ho_o5
 refine⟨hf_o5,(Ad Q21 Q21),(Ad Q21 Q21),(Cx _ _),(Be o5.c1 (C5 f.number (Cd f.kind)) Q0 (⟨(Bn _ _).1,Int.le_trans (Bn _ _).2 Q30⟩)),fun o6 ho_o6=>?_⟩
 obtain ⟨⟨hp_o6_0,hp_o6_1⟩,hf_o6⟩:=ho_o6
 refine⟨hf_o6,(G4 _ _),(B3 Q21 Q21),(Be o6.c1 (max 0 (((List.length (List.map Bh o2.l):Nat):Int)+o5.x-2)) Q0 Q21),fun o7 ho_o7=>?_⟩
 obtain ⟨⟨hp_o7_0,hp_o7_1⟩,hf_o7⟩:=ho_o7
 exact⟨hf_o7,Q3,Q3,⟨Q75,Q0⟩,rfl,rfl⟩
 refine⟨(Cx _ _),(Be o4.c1 (C5 f.number (Cd f.kind)) Q0 (⟨(Bn _ _).1,Int.le_trans (Bn _ _).2 Q30⟩)),fun o5 ho_o5=>?_⟩
 obtain ⟨⟨hp_o5_0,hp_o5_1⟩,hf_o5⟩:=ho_o5
 refine⟨hf_o5,(G4 _ _),(B3 Q21 Q21),(Be o5.c1 (max 0 ((List.length (List.map Bh o2.l):Nat):Int)) Q0 Q21),fun o6 ho_o6=>?_⟩
 obtain ⟨⟨hp_o6_0,hp_o6_1⟩,hf_o6⟩:=ho_o6
 exact⟨hf_o6,Q3,Q3,⟨Q75,Q0⟩,rfl,rfl⟩
 refine⟨(Wu f),fun h4=>?_,fun h4=>?_⟩
 refine⟨fun h5=>?_,fun h5=>?_⟩
 refine⟨(Ao c 4 Q0),fun o1 ho_o1=>?_⟩
 obtain ⟨⟨hp_o1_0,hp_o1_1,hp_o1_2,hp_o1_3⟩,hf_o1⟩:=ho_o1
 refine⟨hf_o1,Bj (j:=(⟨o1.c1,[],0⟩:E8)) Q9 rfl (by dsimp only[Di];exact⟨by assumption,by omega,by simp⟩),fun (q1:E8) hq_q1=>?_⟩
 have hi_q1:Au q1.c∧q1.i≤3∧List.length q1.body≤10*q1.i:=hq_q1
 obtain ⟨v1,v2,v3⟩:=hi_q1
 refine dsp (fun h6 p6=>?_) fun h6 p6=>?_
 refine⟨(Pk q1.c f.kind Q0),fun o2 ho_o2=>?_⟩
 obtain ⟨⟨hp_o2_0,hp_o2_1⟩,hf_o2⟩:=ho_o2
 exact⟨hf_o2,Q3,(Ad Q2 Q2),A5 (j:=(⟨o2.c1,q1.body++o2.t,q1.i+1⟩:E8)) Q9 rfl (by dsimp only[Di];exact⟨by assumption,by omega,by simp;omega⟩) (by dsimp only[Di];omega)⟩
 refine⟨(B1 q1.c 30 Q0),fun o2 ho_o2=>?_⟩
 obtain ⟨hp_o2,hf_o2⟩:=ho_o2
 refine⟨hf_o2,fun h7=>?_,fun h7=>?_⟩
 refine⟨(Ao o2.c1 8 Q0),fun o3 ho_o3=>?_⟩
 obtain ⟨⟨hp_o3_0,hp_o3_1,hp_o3_2,hp_o3_3⟩,hf_o3⟩:=ho_o3
 refine⟨hf_o3,(B1 o3.c1 20 Q0),fun o4 ho_o4=>?_⟩
 obtain ⟨hp_o4,hf_o4⟩:=ho_o4
 refine⟨hf_o4,fun h8=>?_,fun h8=>?_⟩
 refine⟨(Ao o4.c1 5 Q0),fun o5 ho_o5=>?_⟩
 obtain ⟨⟨hp_o5_0,hp_o5_1,hp_o5_2,hp_o5_3⟩,hf_o5⟩:=ho_o5
 refine⟨hf_o5,(Ad Q2 Q2),(Ad Q2 Q2),(Cx _ _),(Be o5.c1 (C5 f.number o3.x) Q0 (⟨(Bn _ _).1,Int.le_trans (Bn _ _).2 Q30⟩)),fun o6 ho_o6=>?_⟩
 obtain ⟨⟨hp_o6_0,hp_o6_1⟩,hf_o6⟩:=ho_o6
 refine⟨hf_o6,(G4 _ _),(B3 Q2 Q2),(Be o6.c1 (max 0 (((List.length q1.body:Nat):Int)+o5.x-2)) Q0 Q2),fun o7 ho_o7=>?_⟩
 obtain ⟨⟨hp_o7_0,hp_o7_1⟩,hf_o7⟩:=ho_o7
 exact⟨hf_o7,Q3,Q3,⟨Q29,Q0⟩,rfl,rfl⟩
 refine⟨(Cx _ _),(Be o4.c1 (C5 f.number o3.x) Q0 (⟨(Bn _ _).1,Int.le_trans (Bn _ _).2 Q30⟩)),fun o5 ho_o5=>?_⟩
 obtain ⟨⟨hp_o5_0,hp_o5_1⟩,hf_o5⟩:=ho_o5
 refine⟨hf_o5,(G4 _ _),(B3 Q2 Q2),(Be o5.c1 (max 0 ((List.length q1.body:Nat):Int)) Q0 Q2),fun o6 ho_o6=>?_⟩
 obtain ⟨⟨hp_o6_0,hp_o6_1⟩,hf_o6⟩:=ho_o6
 exact⟨hf_o6,Q3,Q3,⟨Q29,Q0⟩,rfl,rfl⟩
 refine⟨(B1 o2.c1 20 Q0),fun o3 ho_o3=>?_⟩
 obtain ⟨hp_o3,hf_o3⟩:=ho_o3
 refine⟨hf_o3,fun h8=>?_,fun h8=>?_⟩
 refine⟨(Ao o3.c1 5 Q0),fun o4 ho_o4=>?_⟩
 obtain ⟨⟨hp_o4_0,hp_o4_1,hp_o4_2,hp_o4_3⟩,hf_o4⟩:=ho_o4
 refine⟨hf_o4,(Ad Q2 Q2),(Ad Q2 Q2),(Cx _ _),(Be o4.c1 (C5 f.number 2) Q0 (⟨(Bn _ _).1,Int.le_trans (Bn _ _).2 Q30⟩)),fun o5 ho_o5=>?_⟩
 obtain ⟨⟨hp_o5_0,hp_o5_1⟩,hf_o5⟩:=ho_o5
 refine⟨hf_o5,(G4 _ _),(B3 Q2 Q2),(Be o5.c1 (max 0 (((List.length q1.body:Nat):Int)+o4.x-2)) Q0 Q2),fun o6 ho_o6=>?_⟩
 obtain ⟨⟨hp_o6_0,hp_o6_1⟩,hf_o6⟩:=ho_o6
 exact⟨hf_o6,Q3,Q3,⟨Q29,Q0⟩,rfl,rfl⟩
 refine⟨(Cx _ _),(Be o3.c1 (C5 f.number 2) Q0 (⟨(Bn _ _).1,Int.le_trans (Bn _ _).2 Q30⟩)),fun o4 ho_o4=>?_⟩
 obtain ⟨⟨hp_o4_0,hp_o4_1⟩,hf_o4⟩:=ho_o4
 refine⟨hf_o4,(G4 _ _),(B3 Q2 Q2),(Be o4.c1 (max 0 ((List.length q1.body:Nat):Int)) Q0 Q2),fun o5 ho_o5=>?_⟩
 obtain ⟨⟨hp_o5_0,hp_o5_1⟩,hf_o5⟩:=ho_o5
 exact⟨hf_o5,Q3,Q3,⟨Q29,Q0⟩,rfl,rfl⟩
 refine⟨(B1 c 3 Q0),fun o1 ho_o1=>?_⟩
 obtain ⟨hp_o1,hf_o1⟩:=ho_o1
 refine⟨hf_o1,fun h6=>?_,fun h6=>?_⟩
 refine⟨(Ao o1.c1 4 Q0),fun o2 ho_o2=>?_⟩
 obtain ⟨⟨hp_o2_0,hp_o2_1,hp_o2_2,hp_o2_3⟩,hf_o2⟩:=ho_o2
 refine⟨hf_o2,Bj (j:=(⟨o2.c1,[],0⟩:E8)) Q9 rfl (by dsimp only[Di];exact⟨by assumption,by omega,by simp⟩),fun (q1:E8) hq_q1=>?_⟩
 have hi_q1:Au q1.c∧q1.i≤3∧List.length q1.body≤10*q1.i:=hq_q1
 obtain ⟨v1,v2,v3⟩:=hi_q1
 refine dsp (fun h7 p7=>?_) fun h7 p7=>?_
 refine⟨(Pk q1.c f.kind Q0),fun o3 ho_o3=>?_⟩
 obtain ⟨⟨hp_o3_0,hp_o3_1⟩,hf_o3⟩:=ho_o3
 exact⟨hf_o3,Q3,(Ad Q2 Q2),A5 (j:=(⟨o3.c1,q1.body++o3.t,q1.i+1⟩:E8)) Q9 rfl (by dsimp only[Di];exact⟨by assumption,by omega,by simp;omega⟩) (by dsimp only[Di];omega)⟩
 refine⟨(B1 q1.c 30 Q0),fun o3 ho_o3=>?_⟩
 obtain ⟨hp_o3,hf_o3⟩:=ho_o3
 refine⟨hf_o3,fun h8=>?_,fun h8=>?_⟩
 refine⟨(Ao o3.c1 8 Q0),fun o4 ho_o4=>?_⟩
 obtain ⟨⟨hp_o4_0,hp_o4_1,hp_o4_2,hp_o4_3⟩,hf_o4⟩:=ho_o4
 refine⟨hf_o4,(B1 o4.c1 20 Q0),fun o5 ho_o5=>?_⟩
 obtain ⟨hp_o5,hf_o5⟩:=ho_o5
 refine⟨hf_o5,fun h9=>?_,fun h9=>?_⟩
 refine⟨(Ao o5.c1 5 Q0),fun o6 ho_o6=>?_⟩
 obtain ⟨⟨hp_o6_0,hp_o6_1,hp_o6_2,hp_o6_3⟩,hf_o6⟩:=ho_o6
 refine⟨hf_o6,(Ad Q2 Q2),(Ad Q2 Q2),(Cx _ _),(Be o6.c1 (C5 f.number o4.x) Q0 (⟨(Bn _ _).1,Int.le_trans (Bn _ _).2 Q30⟩)),fun o7 ho_o7=>?_⟩
 obtain ⟨⟨hp_o7_0,hp_o7_1⟩,hf_o7⟩:=ho_o7
 refine⟨hf_o7,(G4 _ _),(B3 Q2 Q2),(Be o7.c1 (max 0 (((List.length q1.body:Nat):Int)+o6.x-2)) Q0 Q2),fun o8 ho_o8=>?_⟩
 obtain ⟨⟨hp_o8_0,hp_o8_1⟩,hf_o8⟩:=ho_o8
 exact⟨hf_o8,Q3,Q3,⟨Q29,Q0⟩,rfl,rfl⟩
 refine⟨(Cx _ _),(Be o5.c1 (C5 f.number o4.x) Q0 (⟨(Bn _ _).1,Int.le_trans (Bn _ _).2 Q30⟩)),fun o6 ho_o6=>?_⟩
 obtain ⟨⟨hp_o6_0,hp_o6_1⟩,hf_o6⟩:=ho_o6
 refine⟨hf_o6,(G4 _ _),(B3 Q2 Q2),(Be o6.c1 (max 0 ((List.length q1.body:Nat):Int)) Q0 Q2),fun o7 ho_o7=>?_⟩
 obtain ⟨⟨hp_o7_0,hp_o7_1⟩,hf_o7⟩:=ho_o7
 exact⟨hf_o7,Q3,Q3,⟨Q29,Q0⟩,rfl,rfl⟩
 refine⟨(B1 o3.c1 20 Q0),fun o4 ho_o4=>?_⟩
 obtain ⟨hp_o4,hf_o4⟩:=ho_o4
 refine⟨hf_o4,fun h9=>?_,fun h9=>?_⟩
 refine⟨(Ao o4.c1 5 Q0),fun o5 ho_o5=>?_⟩
 obtain ⟨⟨hp_o5_0,hp_o5_1,hp_o5_2,hp_o5_3⟩,hf_o5⟩:=ho_o5
 refine⟨hf_o5,(Ad Q2 Q2),(Ad Q2 Q2),(Cx _ _),(Be o5.c1 (C5 f.number 2) Q0 (⟨(Bn _ _).1,Int.le_trans (Bn _ _).2 Q30⟩)),fun o6 ho_o6=>?_⟩
 obtain ⟨⟨hp_o6_0,hp_o6_1⟩,hf_o6⟩:=ho_o6
 refine⟨hf_o6,(G4 _ _),(B3 Q2 Q2),(Be o6.c1 (max 0 (((List.length q1.body:Nat):Int)+o5.x-2)) Q0 Q2),fun o7 ho_o7=>?_⟩
 obtain ⟨⟨hp_o7_0,hp_o7_1⟩,hf_o7⟩:=ho_o7
 exact⟨hf_o7,Q3,Q3,⟨Q29,Q0⟩,rfl,rfl⟩
 refine⟨(Cx _ _),(Be o4.c1 (C5 f.number 2) Q0 (⟨(Bn _ _).1,Int.le_trans (Bn _ _).2 Q30⟩)),fun o5 ho_o5=>?_⟩
 obtain ⟨⟨hp_o5_0,hp_o5_1⟩,hf_o5⟩:=ho_o5
 refine⟨hf_o5,(G4 _ _),(B3 Q2 Q2),(Be o5.c1 (max 0 ((List.length q1.body:Nat):Int)) Q0 Q2),fun o6 ho_o6=>?_⟩
 obtain ⟨⟨hp_o6_0,hp_o6_1⟩,hf_o6⟩:=ho_o6
 exact⟨hf_o6,Q3,Q3,⟨Q29,Q0⟩,rfl,rfl⟩
 refine⟨(Be o1.c1 (C5 f.number (Cd f.kind)) Q0 (⟨(Bn _ _).1,Int.le_trans (Bn _ _).2 Q30⟩)),fun o2 ho_o2=>?_⟩
 obtain ⟨⟨hp_o2_0,hp_o2_1⟩,hf_o2⟩:=ho_o2
 refine⟨(Pk o2.c1 f.kind Q0),fun o3 ho_o3=>?_⟩
 obtain ⟨⟨hp_o3_0,hp_o3_1⟩,hf_o3⟩:=ho_o3
 exact⟨(Cx _ _),hf_o2,hf_o3,Q3,⟨Q29,Q0⟩,rfl,rfl⟩
 refine⟨(Be c (C5 f.number (Cd f.kind)) Q0 (⟨(Bn _ _).1,Int.le_trans (Bn _ _).2 Q30⟩)),fun o1 ho_o1=>?_⟩
 obtain ⟨⟨hp_o1_0,hp_o1_1⟩,hf_o1⟩:=ho_o1
 refine⟨(Pk o1.c1 f.kind Q0),fun o2 ho_o2=>?_⟩
 obtain ⟨⟨hp_o2_0,hp_o2_1⟩,hf_o2⟩:=ho_o2
 exact⟨(Cx _ _),hf_o1,hf_o2,Q3,⟨Q29,Q0⟩,rfl,rfl⟩
structure Vy where
 t:List UInt8
 c1:Cur
def Aj6 (c:Cur) (p:Pln) (shape:Int) (deep:Int) (o:Vy):Prop:=Fun Tryz.prog 149 [vP 0,.agg (Mg p),vI shape,vI deep] [.cells (B2 c)] (.v (vT o.t)) [.cells (B2 o.c1)]
def Aj7 (c:Cur) (p:Pln) (shape:Int) (deep:Int) (o:Vy):Prop:=((List.length (o.t:List UInt8)≤4*Ef (Int.toNat deep))∧(Au o.c1))∧Aj6 c p shape deep o
structure M5 where
 c:Cur
 s:List UInt8
 i:Nat
def Ld (p:Pln) (deep:Int) (o1:Cm) (x1:Shp):Fam:=⟨M5,fun q1=>[(0,.v (vP 0)),(3,.v (vI deep)),(5,.v (vP 1)),(9,.v (vT q1.s)),(10,.v (vI o1.x)),(11,.v (.c (.seq .fld x1.fields))),(12,.v (vI ((q1.i:Nat):Int)))],fun q1=>[.cells (B2 q1.c),.cells (Mg p)],fun q1=>Au q1.c∧q1.i≤4∧List.length q1.s≤q1.i*Ef (Int.toNat deep),fun q1=>5-q1.i⟩
theorem Aop (K:Nat) (hB:Apc K) (c:Cur) (p:Pln) (shape:Int) (deep:Int) (hp1:Au c) (hp2:PlnG p) (hp3:(0:Int)≤deep∧deep≤4) (hp4:deep≤((K:Nat):Int)) (hp5:(0:Int)≤shape∧shape<((List.length (p).shapes:Nat):Int)): ∃o:Vy,Aj7 c p shape deep o:=by
 have hN:A8=274877906944:=rfl
 have hvb:=Vx (Int.toNat deep)
 have hvm:=M4 hp3.1 hp3.2
 refine B4 Tryz.func149 Q4 Q4 (w:=(.intro (Aa c 5) fun o1=> .seg [.call [0] (.v (vI o1.x)) (Kc o1.c1)] (.intro (Sx (p.shapes[Int.toNat shape]?)) fun x1=> .seg [.el .shp x1,.at 0,.keep [0,3,5,9,10,11,12],.sel [0,1]] (.loop (Ld p deep o1 x1) fun q1=>let z1:S:= .v (vI (((q1.i:Nat):Int)+1));.br (.br (.intro (Gh q1.c) fun o2=> .seg [.call [0] (.v (vT o2.t)) (Kc o2.c1),.as 26 z1,.at 0,.keep [0,3,5,9,10,11,12],.sel [0,1]] (.next)) (.intro (Ap q1.c 8) fun o2=> .seg [.call [0] (.v (vB o2.p)) (Kc o2.c1)] (.br (.intro (Gh o2.c1) fun o3=> .seg [.call [0] (.v (vT o3.t)) (Kc o3.c1),.as 26 z1,.at 0,.keep [0,3,5,9,10,11,12],.sel [0,1]] (.next)) (.intro (Aa o2.c1 ((List.length x1.fields:Nat):Int)) fun o3=> .intro (Sx (x1.fields[Int.toNat o3.x]?)) fun x2=> .intro (Qk o3.c1 p x2 deep) fun o4=> .seg [.ord [(0,true),(1,true),(2,true),(3,true),(4,true),(5,true),(6,true),(10,true),(7,false),(8,false),(9,false),(11,false),(12,true),(13,true)] [0],.call [0] (.v (vI o3.x)) (Kc o3.c1),.el .fld x2,.call [0] (.v (vT o4.t)) (Kc o4.c1),.as 26 z1,.at 0,.keep [0,3,5,9,10,11,12],.sel [0,1]] (.next))))) (.leaf (⟨q1.s,q1.c⟩:Vy) [0]))),In (Aa c 5) fun o1=>((Ai c 5 o1)∧El (p.shapes[Int.toNat shape]?) fun x1=>(let z3:=Ld p deep o1 x1;let z4:=((List.length x1.fields:Nat):Int);(p.shapes[Int.toNat shape]? =some x1)∧((0:Int)≤shape)∧z3.Has [(0,.v (vP 0)),(3,.v (vI deep)),(5,.v (vP 1)),(9,.v (vT [])),(10,.v (vI o1.x)),(11,.v (.c (.seq .fld x1.fields))),(12,.v (vI 0))] [.cells (B2 o1.c1),.cells (Mg p)]∧∀q1,z3.inv q1→(let z2:=((q1.i:Nat):Int)+1;Bc (decide (((q1.i:Nat):Int)<o1.x)) (Bc (decide (z4=0)) (In (Gh q1.c) fun o2=>((Mj q1.c o2)∧(((List.length q1.s+List.length o2.t:Nat):Int)≤Bg)∧(wI z2)∧z3.Nxt q1 [(0,.v (vP 0)),(3,.v (vI deep)),(5,.v (vP 1)),(9,.v (vT (q1.s++o2.t))),(10,.v (vI o1.x)),(11,.v (.c (.seq .fld x1.fields))),(12,.v (vI z2))] [.cells (B2 o2.c1),.cells (Mg p)])) (In (Ap q1.c 8) fun o2=>((Ba q1.c 8 o2)∧Bc o2.p (In (Gh o2.c1) fun o3=>((Mj o2.c1 o3)∧(((List.length q1.s+List.length o3.t:Nat):Int)≤Bg)∧(wI z2)∧z3.Nxt q1 [(0,.v (vP 0)),(3,.v (vI deep)),(5,.v (vP 1)),(9,.v (vT (q1.s++o3.t))),(10,.v (vI o1.x)),(11,.v (.c (.seq .fld x1.fields))),(12,.v (vI z2))] [.cells (B2 o3.c1),.cells (Mg p)])) (In (Aa o2.c1 z4) fun o3=>(El (x1.fields[Int.toNat o3.x]?) fun x2=>(In (Qk o3.c1 p x2 deep) fun o4=>((Ai o2.c1 z4 o3)∧(x1.fields[Int.toNat o3.x]? =some x2)∧((0:Int)≤o3.x)∧(U4 o3.c1 p x2 deep o4)∧(((List.length q1.s+List.length o4.t:Nat):Int)≤Bg)∧(wI z2)∧z3.Nxt q1 [(0,.v (vP 0)),(3,.v (vI deep)),(5,.v (vP 1)),(9,.v (vT (q1.s++o4.t))),(10,.v (vI o1.x)),(11,.v (.c (.seq .fld x1.fields))),(12,.v (vI z2))] [.cells (B2 o4.c1),.cells (Mg p)]))))))) (((List.length (q1.s:List UInt8)≤4*Ef (Int.toNat deep))∧(Au q1.c))∧Lf (.v (vT q1.s)) (.v (vT q1.s)) (Kc q1.c) (Kc q1.c))))))) Q4 ?_
 refine⟨(Ao c 5 Q0),fun o1 ho_o1=>?_⟩
 obtain ⟨⟨hp_o1_0,hp_o1_1,hp_o1_2,hp_o1_3⟩,hf_o1⟩:=ho_o1
 refine⟨hf_o1,(Bm (l:=p.shapes) (i:=Int.toNat shape) Q2),fun x1 hx1=>?_⟩
 have hsg:=(hp2.sch.2 _ (List.mem_of_getElem? hx1)).2
 have hsl:=(hp2.sch.2 _ (List.mem_of_getElem? hx1)).1
 refine⟨hx1,Q2,Bj (j:=(⟨o1.c1,[],0⟩:M5)) Q9 rfl (by dsimp only[Ld];exact⟨by assumption,by omega,by simp⟩),fun (q1:M5) hq_q1=>?_⟩
 have hi_q1:Au q1.c∧q1.i≤4∧List.length q1.s≤q1.i*Ef (Int.toNat deep):=hq_q1
 obtain ⟨v1,v2,v3⟩:=hi_q1
 have hsm:=Nat.succ_mul q1.i (Ef (Int.toNat deep))
 have hs4:=Nat.mul_le_mul_right (Ef (Int.toNat deep)) v2
 refine dsp (fun h1 p1=>?_) fun h1 p1=>?_
 refine dsp (fun h2 p2=>?_) fun h2 p2=>?_
 refine⟨(U3 q1.c Q0),fun o2 ho_o2=>?_⟩
 obtain ⟨⟨hp_o2_0,hp_o2_1⟩,hf_o2⟩:=ho_o2
 exact⟨hf_o2,Q3,(Ad Q2 Q2),A5 (j:=(⟨o2.c1,q1.s++o2.t,q1.i+1⟩:M5)) Q9 rfl Q65 (by dsimp only[Ld];omega)⟩
 refine⟨(B1 q1.c 8 Q0),fun o2 ho_o2=>?_⟩
 obtain ⟨hp_o2,hf_o2⟩:=ho_o2
 refine⟨hf_o2,fun h3=>?_,fun h3=>?_⟩
 refine⟨(U3 o2.c1 Q0),fun o3 ho_o3=>?_⟩
 obtain ⟨⟨hp_o3_0,hp_o3_1⟩,hf_o3⟩:=ho_o3
 exact⟨hf_o3,Q3,(Ad Q2 Q2),A5 (j:=(⟨o3.c1,q1.s++o3.t,q1.i+1⟩:M5)) Q9 rfl Q65 (by dsimp only[Ld];omega)⟩
 refine⟨(Ao o2.c1 ((List.length x1.fields:Nat):Int) Q0),fun o3 ho_o3=>?_⟩
 obtain ⟨⟨hp_o3_0,hp_o3_1,hp_o3_2,hp_o3_3⟩,hf_o3⟩:=ho_o3
 refine⟨(Bm (l:=x1.fields) (i:=Int.toNat o3.x) Q2),fun x2 hx2=>?_⟩
 have hfg:=hsg _ (List.mem_of_getElem? hx2)
 refine⟨(Afi K hB o3.c1 p x2 deep Q0 Q2 Q2 Q2 Q2 Q2),fun o4 ho_o4=>?_⟩
 obtain ⟨⟨hp_o4_0,hp_o4_1⟩,hf_o4⟩:=ho_o4
 exact⟨hf_o3,hx2,Q2,hf_o4,Q3,(Ad Q2 Q2),A5 (j:=(⟨o4.c1,q1.s++o4.t,q1.i+1⟩:M5)) Q9 rfl Q65 (by dsimp only[Ld];omega)⟩
 exact⟨⟨Q2,Q0⟩,rfl,rfl⟩
theorem Apt: ∀K,Apc K:=by
 intro K
 induction K with
 |zero=>intro c p shape deep hp1 hp2 hp3 hp4 hp5;omega
 |succ K ih=>
  intro c p shape deep hp1 hp2 hp3 hp4 hp5
  obtain ⟨o,h⟩:=Aop K ih c p shape deep hp1 hp2 hp3 (by omega) hp5
  exact⟨⟨o.t,o.c1⟩,h⟩
structure Qm where
 t:List UInt8
 c1:Cur
def U5 (c:Cur) (p:Pln) (shape:Int) (deep:Int) (o:Qm):Prop:=Fun Tryz.prog 149 [vP 0,.agg (Mg p),vI shape,vI deep] [.cells (B2 c)] (.v (vT o.t)) [.cells (B2 o.c1)]
def Qn (c:Cur) (p:Pln) (shape:Int) (deep:Int) (o:Qm):Prop:=((List.length (o.t:List UInt8)≤4*Ef (Int.toNat deep))∧(List.length (o.t:List UInt8)≤58000)∧(Au o.c1))∧U5 c p shape deep o
theorem Afj (c:Cur) (p:Pln) (shape:Int) (deep:Int) (hp1:Au c) (hp2:PlnG p) (hp3:(0:Int)≤deep∧deep≤4) (hp4:(0:Int)≤deep) (hp5:(0:Int)≤shape∧shape<((List.length (p).shapes:Nat):Int)): ∃o:Qm,Qn c p shape deep o:=by
 obtain ⟨o,h⟩:=Apt (Int.toNat deep+1) c p shape deep hp1 hp2 hp3 (by omega) hp5
 exact⟨⟨o.t,o.c1⟩,⟨h.1.1,by have h1:=M4 hp3.1 hp3.2;have h2:=h.1.1;dsimp only;omega,h.1.2⟩,h.2⟩
def SchB (l:List Shp):Prop:=l.length≤7∧∀e∈l,e.fields.length≤6
theorem SchG.b {l:List Shp} (h:SchG l):SchB l:=⟨by have:=h.1;omega,fun e he=>by have:=(h.2 e he).1;omega⟩
theorem SchB.set {l:List Shp} {i:Nat} {x:Shp} (h:SchB l) (hx:x.fields.length≤6):SchB (l.set i x):=by
 refine⟨by rw[List.length_set];exact h.1,fun e he=>?_⟩
 rcases List.mem_or_eq_of_mem_set he with he|rfl
 ·exact h.2 e he
 ·exact hx
structure Anp where
 l:List Shp
 c1:Cur
structure Am8 where
 c:Cur
 shapes:List Shp
structure Am9 where
 p:Pln
 c1:Cur
structure E9 where
 t:List UInt8
 c1:Cur
def Pm (c:Cur) (s:List UInt8) (o:E9):Prop:=Fun Tryz.prog 152 [vP 0,vT s] [.cells (B2 c)] (.v (vT o.t)) [.cells (B2 o.c1)]
def Hn (c:Cur) (s:List UInt8) (o:E9):Prop:=((List.length (o.t:List UInt8)≤List.length s+2)∧(Au o.c1))∧Pm c s o
theorem Xn (c:Cur) (s:List UInt8) (hp1:Au c) (hp2:List.length s≤1000000): ∃o:E9,Hn c s o:=by
 have hN:A8=274877906944:=rfl
 refine B4 Tryz.func152 Q4 Q4 (w:=let z9:=((List.length s:Nat):Int);(.intro (Aa c 8) fun o1=>let z7:=Aa o1.c1 (z9+1);.seg [.call [0] (.v (vI o1.x)) (Kc o1.c1)] (.br (.intro (Lc o1.c1 s) fun o2=> .seg [.call [0] (.v (vT o2.t)) (Kc o2.c1)] (.leaf (⟨o2.t,o2.c1⟩:E9) [0])) (.br (.seg [.as 19 (.v (vI (z9+1)))] (.intro z7 fun o2=> .seg [.call [0] (.v (vI o2.x)) (Kc o2.c1)] (.leaf (⟨List.take (Int.toNat o2.x) s,o2.c1⟩:E9) [0]))) (.br (.seg [.as 27 (.v (vI (z9+1)))] (.intro z7 fun o2=> .seg [.call [0] (.v (vI o2.x)) (Kc o2.c1)] (.intro (Bq o2.c1 1) fun o3=> .seg [.ord [(0,true),(1,true),(2,true),(3,true),(7,true),(8,true),(9,true),(4,false),(5,false),(6,true),(10,true),(11,true)] [0],.call [0] (.v (vO 1)) [.cells (B2 o3.c1),.lst .u8 o3.l]] (.leaf (⟨((List.take (Int.toNat o2.x) s)++(List.map Bh o3.l))++(List.drop (Int.toNat o2.x) s),o3.c1⟩:E9) [0])))) (.leaf (⟨s,o1.c1⟩:E9) [0])))),In (Aa c 8) fun o1=>(let z8:=Aa o1.c1 (z9+1);(Ai c 8 o1)∧Bc (decide (o1.x=0)) (In (Lc o1.c1 s) fun o2=>((So o1.c1 s o2)∧((List.length (o2.t:List UInt8)≤List.length s+2)∧(Au o2.c1))∧Lf (.v (vT o2.t)) (.v (vT o2.t)) (Kc o2.c1) (Kc o2.c1))) (Bc (decide (o1.x=1)) ((wI (z9+1))∧In z8 fun o2=>(let z1:=List.take (Int.toNat o2.x) s;(Ai o1.c1 (z9+1) o2)∧(o2.x≤z9)∧((0:Int)≤o2.x)∧((List.length (z1:List UInt8)≤List.length s+2)∧(Au o2.c1))∧Lf (.v (vT z1)) (.v (vT z1)) (Kc o2.c1) (Kc o2.c1))) (Bc (decide (o1.x=2)) ((wI (z9+1))∧In z8 fun o2=>(let z4:=o2.x≤z9;let z5:=(0:Int)≤o2.x;let z6:=Int.toNat o2.x;(Ai o1.c1 (z9+1) o2)∧In (Bq o2.c1 1) fun o3=>(let z3:=(List.take z6 s)++(List.map Bh o3.l);let z2:=z3++(List.drop z6 s);z4∧z5∧z4∧z5∧z4∧z5∧z4∧z5∧(C3 o2.c1 1 o3)∧(((List.length (List.take z6 s)+List.length (List.map Bh o3.l):Nat):Int)≤Bg)∧(((List.length z3+List.length (List.drop z6 s):Nat):Int)≤Bg)∧((List.length (z2:List UInt8)≤List.length s+2)∧(Au o3.c1))∧Lf (.v (vT z2)) (.v (vT z2)) (Kc o3.c1) (Kc o3.c1)))) (((List.length (s:List UInt8)≤List.length s+2)∧(Au o1.c1))∧Lf (.v (vT s)) (.v (vT s)) (Kc o1.c1) (Kc o1.c1))))))) Q4 ?_
 refine⟨(Ao c 8 Q0),fun o1 ho_o1=>?_⟩
 obtain ⟨⟨hp_o1_0,hp_o1_1,hp_o1_2,hp_o1_3⟩,hf_o1⟩:=ho_o1
 refine⟨hf_o1,dsp (fun h1 p1=>?_) fun h1 p1=>?_⟩
 refine⟨(Abm o1.c1 s Q0 Q2),fun o2 ho_o2=>?_⟩
 obtain ⟨⟨hp_o2_0,hp_o2_1⟩,hf_o2⟩:=ho_o2
 exact⟨hf_o2,⟨Q2,Q0⟩,rfl,rfl⟩
 refine dsp (fun h2 p2=>?_) fun h2 p2=>?_
 refine⟨(Ad Q2 Q2),(Ao o1.c1 (((List.length s:Nat):Int)+1) Q0),fun o2 ho_o2=>?_⟩
 obtain ⟨⟨hp_o2_0,hp_o2_1,hp_o2_2,hp_o2_3⟩,hf_o2⟩:=ho_o2
 exact⟨hf_o2,Q2,Q2,⟨(by simp only[List.length_take];omega),Q0⟩,rfl,rfl⟩
 refine dsp (fun h3 p3=>?_) fun h3 p3=>?_
 refine⟨(Ad Q2 Q2),(Ao o1.c1 (((List.length s:Nat):Int)+1) Q0),fun o2 ho_o2=>?_⟩
 obtain ⟨⟨hp_o2_0,hp_o2_1,hp_o2_2,hp_o2_3⟩,hf_o2⟩:=ho_o2
 refine⟨hf_o2,(Es o2.c1 1 Q0 Q2),fun o3 ho_o3=>?_⟩
 obtain ⟨⟨hp_o3_0,hp_o3_1⟩,hf_o3⟩:=ho_o3
 exact⟨Q2,Q2,Q2,Q2,Q2,Q2,Q2,Q2,hf_o3,Q3,Q3,⟨(by simp only[List.length_append,List.length_take,List.length_drop,List.length_map];omega),Q0⟩,rfl,rfl⟩
 exact⟨⟨Q2,Q0⟩,rfl,rfl⟩
structure G3 where
 t:List UInt8
 c1:Cur
def Mb (c:Cur) (p:Pln) (o:G3):Prop:=Fun Tryz.prog 80 [vP 0,.agg (Mg p)] [.cells (B2 c)] (.v (vT o.t)) [.cells (B2 o.c1)]
def Jt (c:Cur) (p:Pln) (o:G3):Prop:=((List.length (o.t:List UInt8)≤200000)∧(Au o.c1))∧Mb c p o
structure Ki where
 c:Cur
 s:List UInt8
 i:Nat
def Ho (p:Pln) (o1:Cm):Fam:=⟨Ki,fun q1=>[(0,.v (vP 0)),(3,.v (vP 1)),(5,.v (vT q1.s)),(6,.v (vI o1.x)),(7,.v (vI ((q1.i:Nat):Int)))],fun q1=>[.cells (B2 q1.c),.cells (Mg p)],fun q1=>Au q1.c∧q1.i≤3∧List.length q1.s≤58010*q1.i,fun q1=>4-q1.i⟩
theorem Y4 (c:Cur) (p:Pln) (hp1:Au c) (hp2:PlnG p): ∃o:G3,Jt c p o:=by
 have hN:A8=274877906944:=rfl
 have hpd:=hp2.deep
 have hpr:=hp2.root
 refine B4 Tryz.func80 Q4 Q4 (w:=(.intro (Aa c 4) fun o1=> .seg [.call [0] (.v (vI o1.x)) (Kc o1.c1),.at 0,.keep [0,3,5,6,7],.sel [0,1]] (.loop (Ho p o1) fun q1=> .br (.intro (Aa q1.c 2) fun o2=> .intro (Qn o2.c1 p p.root (p.deep-o2.x)) fun o3=>let z1:=((List.length o3.t:Nat):Int);.seg [.ord (os 11 [7,9]) [0],.call [0] (.v (vI o2.x)) (Kc o2.c1),.as 24 (.v (vI (p.deep-o2.x))),.call [0] (.v (vT o3.t)) (Kc o3.c1),.as 30 (.v (.c (.int .u64 z1)))] (.intro (Ag o3.c1 z1) fun o4=> .seg [.call [0] (.v (vT o4.t)) (Kc o4.c1),.as 15 (.v (vI (((q1.i:Nat):Int)+1))),.at 0,.keep [0,3,5,6,7],.sel [0,1]] (.next))) (.intro (Ap q1.c 20) fun o2=> .seg [.call [0] (.v (vB o2.p)) (Kc o2.c1)] (.br (.intro (Ce o2.c1) fun o3=> .seg [.call [0] (.v (.c (.int .u64 o3.x))) (Kc o3.c1)] (.intro (Ag o3.c1 o3.x) fun o4=> .seg [.call [0] (.v (vT o4.t)) (Kc o4.c1)] (.intro (Hn o4.c1 (q1.s++o4.t)) fun o5=> .seg [.call [0] (.v (vT o5.t)) (Kc o5.c1)] (.leaf (⟨o5.t,o5.c1⟩:G3) [0])))) (.intro (Hn o2.c1 q1.s) fun o3=> .seg [.call [0] (.v (vT o3.t)) (Kc o3.c1)] (.leaf (⟨o3.t,o3.c1⟩:G3) [0]))))),In (Aa c 4) fun o1=>(let z4:=Ho p o1;(Ai c 4 o1)∧z4.Has [(0,.v (vP 0)),(3,.v (vP 1)),(5,.v (vT [])),(6,.v (vI o1.x)),(7,.v (vI 0))] [.cells (B2 o1.c1),.cells (Mg p)]∧∀q1,z4.inv q1→(let z3:=((q1.i:Nat):Int);Bc (decide (z3<o1.x)) (In (Aa q1.c 2) fun o2=>(In (Qn o2.c1 p p.root (p.deep-o2.x)) fun o3=>(let z2:=((List.length o3.t:Nat):Int);(Ai q1.c 2 o2)∧(wI (p.deep-o2.x))∧(U5 o2.c1 p p.root (p.deep-o2.x) o3)∧(wU (z2))∧In (Ag o3.c1 z2) fun o4=>((Aw o3.c1 z2 o4)∧(((List.length q1.s+List.length o4.t:Nat):Int)≤Bg)∧(((List.length (q1.s++o4.t)+List.length o3.t:Nat):Int)≤Bg)∧(wI (z3+1))∧z4.Nxt q1 [(0,.v (vP 0)),(3,.v (vP 1)),(5,.v (vT ((q1.s++o4.t)++o3.t))),(6,.v (vI o1.x)),(7,.v (vI (z3+1)))] [.cells (B2 o4.c1),.cells (Mg p)])))) (In (Ap q1.c 20) fun o2=>((Ba q1.c 20 o2)∧Bc o2.p (In (Ce o2.c1) fun o3=>((Ei o2.c1 o3)∧In (Ag o3.c1 o3.x) fun o4=>((Aw o3.c1 o3.x o4)∧In (Hn o4.c1 (q1.s++o4.t)) fun o5=>((((List.length q1.s+List.length o4.t:Nat):Int)≤Bg)∧(Pm o4.c1 (q1.s++o4.t) o5)∧((List.length (o5.t:List UInt8)≤200000)∧(Au o5.c1))∧Lf (.v (vT o5.t)) (.v (vT o5.t)) (Kc o5.c1) (Kc o5.c1))))) (In (Hn o2.c1 q1.s) fun o3=>((Pm o2.c1 q1.s o3)∧((List.length (o3.t:List UInt8)≤200000)∧(Au o3.c1))∧Lf (.v (vT o3.t)) (.v (vT o3.t)) (Kc o3.c1) (Kc o3.c1))))))))) Q4 ?_
 refine⟨(Ao c 4 Q0),fun o1 ho_o1=>?_⟩
 obtain ⟨⟨hp_o1_0,hp_o1_1,hp_o1_2,hp_o1_3⟩,hf_o1⟩:=ho_o1
 refine⟨hf_o1,Bj (j:=(⟨o1.c1,[],0⟩:Ki)) Q9 rfl (by dsimp only[Ho];exact⟨by assumption,by omega,by simp⟩),fun (q1:Ki) hq_q1=>?_⟩
 have hi_q1:Au q1.c∧q1.i≤3∧List.length q1.s≤58010*q1.i:=hq_q1
 obtain ⟨v1,v2,v3⟩:=hi_q1
 refine dsp (fun h1 p1=>?_) fun h1 p1=>?_
 refine⟨(Ao q1.c 2 Q0),fun o2 ho_o2=>?_⟩
 obtain ⟨⟨hp_o2_0,hp_o2_1,hp_o2_2,hp_o2_3⟩,hf_o2⟩:=ho_o2
 refine⟨(Afj o2.c1 p p.root (p.deep-o2.x) Q0 Q2 Q2 Q2 Q2),fun o3 ho_o3=>?_⟩
 obtain ⟨⟨hp_o3_0,hp_o3_1,hp_o3_2⟩,hf_o3⟩:=ho_o3
 refine⟨hf_o2,(Ad Q2 Q2),hf_o3,(B3 Q2 Q2),(Be o3.c1 ((List.length o3.t:Nat):Int) Q0 Q2),fun o4 ho_o4=>?_⟩
 obtain ⟨⟨hp_o4_0,hp_o4_1⟩,hf_o4⟩:=ho_o4
 exact⟨hf_o4,Q72,Q72,(Ad Q2 Q2),A5 (j:=(⟨o4.c1,(q1.s++o4.t)++o3.t,q1.i+1⟩:Ki)) Q9 rfl (by dsimp only[Ho];exact⟨by assumption,by omega,by have hmv:=M4 (d:=p.deep-o2.x) Q2 Q2;simp only[List.length_append];omega⟩) (by dsimp only[Ho];omega)⟩
 refine⟨(B1 q1.c 20 Q0),fun o2 ho_o2=>?_⟩
 obtain ⟨hp_o2,hf_o2⟩:=ho_o2
 refine⟨hf_o2,fun h2=>?_,fun h2=>?_⟩
 refine⟨(Hk o2.c1 Q0),fun o3 ho_o3=>?_⟩
 obtain ⟨⟨hp_o3_0,hp_o3_1⟩,hf_o3⟩:=ho_o3
 refine⟨hf_o3,(Be o3.c1 o3.x Q0 Q2),fun o4 ho_o4=>?_⟩
 obtain ⟨⟨hp_o4_0,hp_o4_1⟩,hf_o4⟩:=ho_o4
 refine⟨hf_o4,(Xn o4.c1 (q1.s++o4.t) Q0 Q29),fun o5 ho_o5=>?_⟩
 refine⟨Q72,?_⟩
 obtain ⟨⟨hp_o5_0,hp_o5_1⟩,hf_o5⟩:=ho_o5
 exact⟨hf_o5,⟨(by (try simp only[List.length_append] at *);omega),Q0⟩,rfl,rfl⟩
 refine⟨(Xn o2.c1 q1.s Q0 Q2),fun o3 ho_o3=>?_⟩
 obtain ⟨⟨hp_o3_0,hp_o3_1⟩,hf_o3⟩:=ho_o3
 exact⟨hf_o3,⟨(by (try simp only[List.length_append] at *);omega),Q0⟩,rfl,rfl⟩
structure Ana where
 c1:Cur
 p:Pln
 t:List UInt8
end Go.Proofs.YtphecbmdhbphgaaGreat.Ax
