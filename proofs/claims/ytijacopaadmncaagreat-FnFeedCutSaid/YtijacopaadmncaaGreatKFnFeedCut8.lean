/- Drawn inputs. Drawn scans, states, events. Models: modes. Drawn decoders. Drawn decoders and inputs. What is too long to draw from. Drawn chunks. strings.Join's contract, from the shelf's words into this walk's. strings.Join in this program (written by the kit's tool lay-plain). Chunks joined. Models: how much text a Aek brings. Models: chunks tell what the whole tells. The law FnFeedCut. Opening what the laws are handed. -/
import Derived.Test.YtijacopaadmncaaGreatKFnFeedCut7
import Derived.Test.YtijacopaadmncaaGreatKFnFeedCut1
import Derived.Test.YtijacopaadmncaaGreatKFnFeedCut5
import Derived.Test.YtijacopaadmncaaGreatKFnFeedCut4
import Derived.Lib.Join
import Derived.Shelf.Strings.OnBuilder
import Derived.Test.YtijacopaadmncaaGreatProg
import Derived.Test.YtijacopaadmncaaGreatKFnFeedCut2
import Derived.Test.YtijacopaadmncaaGreatKFnFeedCut6
import Derived.Test.YtijacopaadmncaaGreatKB4
set_option linter.unusedSimpArgs false
set_option linter.unusedVariables false
namespace Go.Proofs.YtijacopaadmncaaGreat.Ax
open Go.RowKit
structure Ew where
 t:List UInt8
 c1:Cur
def Nk (c:Cur) (s:List UInt8) (o:Ew):Prop:=Fun Tryz.prog 66 [vP 0,vT s] [.cells (Bz c)] (.v (vT o.t)) [.cells (Bz o.c1)]
def G0 (c:Cur) (s:List UInt8) (o:Ew):Prop:=((List.length (o.t:List UInt8)≤List.length s+2)∧(Av o.c1))∧Nk c s o
theorem Wd (c:Cur) (s:List UInt8) (hp1:Av c) (hp2:List.length s≤1000000): ∃o:Ew,G0 c s o:=by
 have hN:Bb=274877906944:=rfl
 refine Br Tryz.func66 Q4 Q4 (w:=let z9:=((List.length s:Nat):Int);(.intro (Aa c 8) fun o1=>let z7:=Aa o1.c1 (z9+1);.seg [.call [0] (.v (vI o1.x)) (Kc o1.c1)] (.br (.intro (Kg o1.c1 s) fun o2=> .seg [.call [0] (.v (vT o2.t)) (Kc o2.c1)] (.leaf (⟨o2.t,o2.c1⟩:Ew) [0])) (.br (.seg [.as 19 (.v (vI (z9+1)))] (.intro z7 fun o2=> .seg [.call [0] (.v (vI o2.x)) (Kc o2.c1)] (.leaf (⟨List.take (Int.toNat o2.x) s,o2.c1⟩:Ew) [0]))) (.br (.seg [.as 27 (.v (vI (z9+1)))] (.intro z7 fun o2=> .seg [.call [0] (.v (vI o2.x)) (Kc o2.c1)] (.intro (Bj o2.c1 1) fun o3=> .seg [.ord [(0,true),(1,true),(2,true),(3,true),(7,true),(8,true),(9,true),(4,false),(5,false),(6,true),(10,true),(11,true)] [0],.call [0] (.v (vO 1)) [.cells (Bz o3.c1),.lst .u8 o3.l]] (.leaf (⟨((List.take (Int.toNat o2.x) s)++(List.map A9 o3.l))++(List.drop (Int.toNat o2.x) s),o3.c1⟩:Ew) [0])))) (.leaf (⟨s,o1.c1⟩:Ew) [0])))),In (Aa c 8) fun o1=>(let z8:=Aa o1.c1 (z9+1);(Ai c 8 o1)∧Bc (decide (o1.x=0)) (In (Kg o1.c1 s) fun o2=>((Rt o1.c1 s o2)∧((List.length (o2.t:List UInt8)≤List.length s+2)∧(Av o2.c1))∧Lf (.v (vT o2.t)) (.v (vT o2.t)) (Kc o2.c1) (Kc o2.c1))) (Bc (decide (o1.x=1)) ((wI (z9+1))∧In z8 fun o2=>(let z1:=List.take (Int.toNat o2.x) s;(Ai o1.c1 (z9+1) o2)∧(o2.x≤z9)∧((0:Int)≤o2.x)∧((List.length (z1:List UInt8)≤List.length s+2)∧(Av o2.c1))∧Lf (.v (vT z1)) (.v (vT z1)) (Kc o2.c1) (Kc o2.c1))) (Bc (decide (o1.x=2)) ((wI (z9+1))∧In z8 fun o2=>(let z4:=o2.x≤z9;let z5:=(0:Int)≤o2.x;let z6:=Int.toNat o2.x;(Ai o1.c1 (z9+1) o2)∧In (Bj o2.c1 1) fun o3=>(let z3:=(List.take z6 s)++(List.map A9 o3.l);let z2:=z3++(List.drop z6 s);z4∧z5∧z4∧z5∧z4∧z5∧z4∧z5∧(Cp o2.c1 1 o3)∧(((List.length (List.take z6 s)+List.length (List.map A9 o3.l):Nat):Int)≤Ba)∧(((List.length z3+List.length (List.drop z6 s):Nat):Int)≤Ba)∧((List.length (z2:List UInt8)≤List.length s+2)∧(Av o3.c1))∧Lf (.v (vT z2)) (.v (vT z2)) (Kc o3.c1) (Kc o3.c1)))) (((List.length (s:List UInt8)≤List.length s+2)∧(Av o1.c1))∧Lf (.v (vT s)) (.v (vT s)) (Kc o1.c1) (Kc o1.c1))))))) Q4 ?_
 refine⟨(Am c 8 Q0),fun o1 ho_o1=>?_⟩
 obtain ⟨⟨hp_o1_0,hp_o1_1,hp_o1_2,hp_o1_3⟩,hf_o1⟩:=ho_o1
 refine⟨hf_o1,dsp (fun h1 p1=>?_) fun h1 p1=>?_⟩
 refine⟨(Z7 o1.c1 s Q0 Q2),fun o2 ho_o2=>?_⟩
 obtain ⟨⟨hp_o2_0,hp_o2_1⟩,hf_o2⟩:=ho_o2
 exact⟨hf_o2,⟨Q2,Q0⟩,rfl,rfl⟩
 refine dsp (fun h2 p2=>?_) fun h2 p2=>?_
 refine⟨(Ac Q2 Q2),(Am o1.c1 (((List.length s:Nat):Int)+1) Q0),fun o2 ho_o2=>?_⟩
 obtain ⟨⟨hp_o2_0,hp_o2_1,hp_o2_2,hp_o2_3⟩,hf_o2⟩:=ho_o2
 exact⟨hf_o2,Q2,Q2,⟨(by simp only[List.length_take];omega),Q0⟩,rfl,rfl⟩
 refine dsp (fun h3 p3=>?_) fun h3 p3=>?_
 refine⟨(Ac Q2 Q2),(Am o1.c1 (((List.length s:Nat):Int)+1) Q0),fun o2 ho_o2=>?_⟩
 obtain ⟨⟨hp_o2_0,hp_o2_1,hp_o2_2,hp_o2_3⟩,hf_o2⟩:=ho_o2
 refine⟨hf_o2,(Dv o2.c1 1 Q0 Q2),fun o3 ho_o3=>?_⟩
 obtain ⟨⟨hp_o3_0,hp_o3_1⟩,hf_o3⟩:=ho_o3
 exact⟨Q2,Q2,Q2,Q2,Q2,Q2,Q2,Q2,hf_o3,Q3,Q3,⟨(by simp only[List.length_append,List.length_take,List.length_drop,List.length_map];omega),Q0⟩,rfl,rfl⟩
 exact⟨⟨Q2,Q0⟩,rfl,rfl⟩
structure Gd where
 t:List UInt8
 c1:Cur
def Pv (c:Cur) (p:Pln) (o:Gd):Prop:=Fun Tryz.prog 108 [vP 0,.agg (Nw p)] [.cells (Bz c)] (.v (vT o.t)) [.cells (Bz o.c1)]
def Hw (c:Cur) (p:Pln) (o:Gd):Prop:=((List.length (o.t:List UInt8)≤200000)∧(Av o.c1))∧Pv c p o
structure Jq where
 c:Cur
 s:List UInt8
 i:Nat
def G1 (p:Pln) (o1:Co):Fam:=⟨Jq,fun q1=>[(0,.v (vP 0)),(3,.v (vP 1)),(5,.v (vT q1.s)),(6,.v (vI o1.x)),(7,.v (vI ((q1.i:Nat):Int)))],fun q1=>[.cells (Bz q1.c),.cells (Nw p)],fun q1=>Av q1.c∧q1.i≤3∧List.length q1.s≤58010*q1.i,fun q1=>4-q1.i⟩
theorem Xu (c:Cur) (p:Pln) (hp1:Av c) (hp2:PlnG p): ∃o:Gd,Hw c p o:=by
 have hN:Bb=274877906944:=rfl
 have hpd:=hp2.deep
 have hpr:=hp2.root
 refine Br Tryz.func108 Q4 Q4 (w:=(.intro (Aa c 4) fun o1=> .seg [.call [0] (.v (vI o1.x)) (Kc o1.c1),.at 0,.keep [0,3,5,6,7],.sel [0,1]] (.loop (G1 p o1) fun q1=> .br (.intro (Aa q1.c 2) fun o2=> .intro (Pu o2.c1 p p.root (p.deep-o2.x)) fun o3=>let z1:=((List.length o3.t:Nat):Int);.seg [.ord (os 11 [7,9]) [0],.call [0] (.v (vI o2.x)) (Kc o2.c1),.as 24 (.v (vI (p.deep-o2.x))),.call [0] (.v (vT o3.t)) (Kc o3.c1),.as 30 (.v (.c (.int .u64 z1)))] (.intro (Af o3.c1 z1) fun o4=> .seg [.call [0] (.v (vT o4.t)) (Kc o4.c1),.as 15 (.v (vI (((q1.i:Nat):Int)+1))),.at 0,.keep [0,3,5,6,7],.sel [0,1]] (.next))) (.intro (Aq q1.c 20) fun o2=> .seg [.call [0] (.v (vB o2.p)) (Kc o2.c1)] (.br (.intro (B7 o2.c1) fun o3=> .seg [.call [0] (.v (.c (.int .u64 o3.x))) (Kc o3.c1)] (.intro (Af o3.c1 o3.x) fun o4=> .seg [.call [0] (.v (vT o4.t)) (Kc o4.c1)] (.intro (G0 o4.c1 (q1.s++o4.t)) fun o5=> .seg [.call [0] (.v (vT o5.t)) (Kc o5.c1)] (.leaf (⟨o5.t,o5.c1⟩:Gd) [0])))) (.intro (G0 o2.c1 q1.s) fun o3=> .seg [.call [0] (.v (vT o3.t)) (Kc o3.c1)] (.leaf (⟨o3.t,o3.c1⟩:Gd) [0]))))),In (Aa c 4) fun o1=>(let z4:=G1 p o1;(Ai c 4 o1)∧z4.Has [(0,.v (vP 0)),(3,.v (vP 1)),(5,.v (vT [])),(6,.v (vI o1.x)),(7,.v (vI 0))] [.cells (Bz o1.c1),.cells (Nw p)]∧∀q1,z4.inv q1→(let z3:=((q1.i:Nat):Int);Bc (decide (z3<o1.x)) (In (Aa q1.c 2) fun o2=>(In (Pu o2.c1 p p.root (p.deep-o2.x)) fun o3=>(let z2:=((List.length o3.t:Nat):Int);(Ai q1.c 2 o2)∧(wI (p.deep-o2.x))∧(T8 o2.c1 p p.root (p.deep-o2.x) o3)∧(wU (z2))∧In (Af o3.c1 z2) fun o4=>((Au o3.c1 z2 o4)∧(((List.length q1.s+List.length o4.t:Nat):Int)≤Ba)∧(((List.length (q1.s++o4.t)+List.length o3.t:Nat):Int)≤Ba)∧(wI (z3+1))∧z4.Nxt q1 [(0,.v (vP 0)),(3,.v (vP 1)),(5,.v (vT ((q1.s++o4.t)++o3.t))),(6,.v (vI o1.x)),(7,.v (vI (z3+1)))] [.cells (Bz o4.c1),.cells (Nw p)])))) (In (Aq q1.c 20) fun o2=>((Bg q1.c 20 o2)∧Bc o2.p (In (B7 o2.c1) fun o3=>((D2 o2.c1 o3)∧In (Af o3.c1 o3.x) fun o4=>((Au o3.c1 o3.x o4)∧In (G0 o4.c1 (q1.s++o4.t)) fun o5=>((((List.length q1.s+List.length o4.t:Nat):Int)≤Ba)∧(Nk o4.c1 (q1.s++o4.t) o5)∧((List.length (o5.t:List UInt8)≤200000)∧(Av o5.c1))∧Lf (.v (vT o5.t)) (.v (vT o5.t)) (Kc o5.c1) (Kc o5.c1))))) (In (G0 o2.c1 q1.s) fun o3=>((Nk o2.c1 q1.s o3)∧((List.length (o3.t:List UInt8)≤200000)∧(Av o3.c1))∧Lf (.v (vT o3.t)) (.v (vT o3.t)) (Kc o3.c1) (Kc o3.c1))))))))) Q4 ?_
 refine⟨(Am c 4 Q0),fun o1 ho_o1=>?_⟩
 obtain ⟨⟨hp_o1_0,hp_o1_1,hp_o1_2,hp_o1_3⟩,hf_o1⟩:=ho_o1
 refine⟨hf_o1,Bf (j:=(⟨o1.c1,[],0⟩:Jq)) Q9 rfl (by dsimp only[G1];exact⟨by assumption,by omega,by simp⟩),fun (q1:Jq) hq_q1=>?_⟩
 have hi_q1:Av q1.c∧q1.i≤3∧List.length q1.s≤58010*q1.i:=hq_q1
 obtain ⟨v1,v2,v3⟩:=hi_q1
 refine dsp (fun h1 p1=>?_) fun h1 p1=>?_
 refine⟨(Am q1.c 2 Q0),fun o2 ho_o2=>?_⟩
 obtain ⟨⟨hp_o2_0,hp_o2_1,hp_o2_2,hp_o2_3⟩,hf_o2⟩:=ho_o2
 refine⟨(Adz o2.c1 p p.root (p.deep-o2.x) Q0 Q2 Q2 Q2 Q2),fun o3 ho_o3=>?_⟩
 obtain ⟨⟨hp_o3_0,hp_o3_1,hp_o3_2⟩,hf_o3⟩:=ho_o3
 refine⟨hf_o2,(Ac Q2 Q2),hf_o3,(Bv Q2 Q2),(A7 o3.c1 ((List.length o3.t:Nat):Int) Q0 Q2),fun o4 ho_o4=>?_⟩
 obtain ⟨⟨hp_o4_0,hp_o4_1⟩,hf_o4⟩:=ho_o4
 exact⟨hf_o4,Q67,Q67,(Ac Q2 Q2),A3 (j:=(⟨o4.c1,(q1.s++o4.t)++o3.t,q1.i+1⟩:Jq)) Q9 rfl (by dsimp only[G1];exact⟨by assumption,by omega,by have hmv:=Ma (d:=p.deep-o2.x) Q2 Q2;simp only[List.length_append];omega⟩) (by dsimp only[G1];omega)⟩
 refine⟨(By q1.c 20 Q0),fun o2 ho_o2=>?_⟩
 obtain ⟨hp_o2,hf_o2⟩:=ho_o2
 refine⟨hf_o2,fun h2=>?_,fun h2=>?_⟩
 refine⟨(Gy o2.c1 Q0),fun o3 ho_o3=>?_⟩
 obtain ⟨⟨hp_o3_0,hp_o3_1⟩,hf_o3⟩:=ho_o3
 refine⟨hf_o3,(A7 o3.c1 o3.x Q0 Q2),fun o4 ho_o4=>?_⟩
 obtain ⟨⟨hp_o4_0,hp_o4_1⟩,hf_o4⟩:=ho_o4
 refine⟨hf_o4,(Wd o4.c1 (q1.s++o4.t) Q0 Q30),fun o5 ho_o5=>?_⟩
 refine⟨Q67,?_⟩
 obtain ⟨⟨hp_o5_0,hp_o5_1⟩,hf_o5⟩:=ho_o5
 exact⟨hf_o5,⟨(by (try simp only[List.length_append] at *);omega),Q0⟩,rfl,rfl⟩
 refine⟨(Wd o2.c1 q1.s Q0 Q2),fun o3 ho_o3=>?_⟩
 obtain ⟨⟨hp_o3_0,hp_o3_1⟩,hf_o3⟩:=ho_o3
 exact⟨hf_o3,⟨(by (try simp only[List.length_append] at *);omega),Q0⟩,rfl,rfl⟩
structure Akn where
 c1:Cur
 p:Pln
 t:List UInt8
theorem Ajg {e:Ev} (h:e.text.length≤1000) (hb:0≤e.bits∧e.bits≤18446744073709551615):EvB e:=⟨Nat.le_trans h (by decide),hb⟩
theorem EvB.like {e x:Ev} (h:EvB e) (ht:x.text=e.text) (hb:x.bits=e.bits):EvB x:=by unfold EvB;rw[ht,hb];exact h
structure Db where
 e:Ev
 c1:Cur
def T9 (c:Cur) (o:Db):Prop:=Fun Tryz.prog 246 [vP 0] [.cells (Bz c)] (.v (.agg (cEv o.e))) [.cells (Bz o.c1)]
def Pw (c:Cur) (o:Db):Prop:=((EvB o.e)∧(List.length (o.e).text≤4)∧(Av o.c1))∧T9 c o
theorem Ad0 (c:Cur) (hp1:Av c): ∃o:Db,Pw c o:=by
 have hN:Bb=274877906944:=rfl
 refine Br Tryz.func246 Q4 Q4 (w:=let zi:Int→C:= .int .i64;let z20:List C:=[.str [],zi 0,zi 0];(.intro (Aa c 10) fun o1=>let z15:=Aa o1.c1 12;.seg [.call [0] (.v (vI o1.x)) (Kc o1.c1),.as 7 (.v (vI (1+o1.x)))] (.br (.intro (Aa o1.c1 40) fun o2=> .seg [.call [0] (.v (vI o2.x)) (Kc o2.c1)] (.leaf (⟨(⟨1+o1.x,0,0,o2.x,[],0,0⟩:Ev),o2.c1⟩:Db) [0])) (.br (.intro z15 fun o2=> .seg [.call [0] (.v (vI o2.x)) (Kc o2.c1),.as 20 (.v (vI (1+o2.x)))] (.intro (B7 o2.c1) fun o3=> .seg [.call [0] (.v (.c (.int .u64 o3.x))) (Kc o3.c1)] (.leaf (⟨(⟨1+o1.x,1+o2.x,o3.x,0,[],0,0⟩:Ev),o3.c1⟩:Db) [0]))) (.br (.intro z15 fun o2=> .seg [.br true,.call [0] (.v (vI o2.x)) (Kc o2.c1),.as 30 (.v (vI (1+o2.x)))] (.intro (Aa o2.c1 12) fun o3=> .seg [.call [0] (.v (vI o3.x)) (Kc o3.c1)] (.leaf (⟨(⟨1+o1.x,1+o2.x,0,o3.x,[],0,0⟩:Ev),o3.c1⟩:Db) [0]))) (.br (.intro z15 fun o2=> .seg [.call [0] (.v (vI o2.x)) (Kc o2.c1),.as 30 (.v (vI (1+o2.x)))] (.intro (Aa o2.c1 12) fun o3=> .seg [.call [0] (.v (vI o3.x)) (Kc o3.c1)] (.leaf (⟨(⟨1+o1.x,1+o2.x,0,o3.x,[],0,0⟩:Ev),o3.c1⟩:Db) [0]))) (.br (.seg [.ty .str,.pubS 38] (.intro (Hg o1.c1 [[97],[98,99],[195,169],[255]]) fun o2=> .seg [.call [0] (.v (vT o2.t)) (Kc o2.c1)] (.leaf (⟨(⟨1+o1.x,0,0,0,o2.t,0,0⟩:Ev),o2.c1⟩:Db) [0]))) (.br (.intro (Aa o1.c1 99) fun o2=> .seg [.call [0] (.v (vI o2.x)) (Kc o2.c1)] (.leaf (⟨(⟨1+o1.x,0,0,0,[],0,o2.x⟩:Ev),o2.c1⟩:Db) [0])) (.br (.intro (Aa o1.c1 99) fun o2=> .seg [.call [0] (.v (vI o2.x)) (Kc o2.c1)] (.intro (Aa o2.c1 10) fun o3=> .seg [.call [0] (.v (vI o3.x)) (Kc o3.c1),.as 53 (.v (vI (1+o3.x)))] (.leaf (⟨(⟨1+o1.x,0,0,0,[],1+o3.x,o2.x⟩:Ev),o3.c1⟩:Db) [0]))) (.leaf (⟨(⟨1+o1.x,0,0,0,[],0,0⟩:Ev),o1.c1⟩:Db) [0])))))))),In (Aa c 10) fun o1=>(let z17:=1+o1.x;let z16:S:= .v (.agg (zi z17::zi 0:: .int .u64 0::zi 0::z20));let z18:=Aa o1.c1 12;let z19:=(⟨1+o1.x,0,0,0,[],0,0⟩:Ev);(Ai c 10 o1)∧(wI z17)∧Bc (decide (1+o1.x=1)) (In (Aa o1.c1 40) fun o2=>(let z1:S:= .v (.agg (zi z17::zi 0:: .int .u64 0::zi o2.x::z20));let z2:=(⟨1+o1.x,0,0,o2.x,[],0,0⟩:Ev);(Ai o1.c1 40 o2)∧((EvB z2)∧(List.length (z2).text≤4)∧(Av o2.c1))∧Lf z1 z1 (Kc o2.c1) (Kc o2.c1))) (Bc (decide (1+o1.x=2)) (In z18 fun o2=>((Ai o1.c1 12 o2)∧(wI (1+o2.x))∧In (B7 o2.c1) fun o3=>(let z3:S:= .v (.agg (zi z17::zi (1+o2.x):: .int .u64 o3.x::zi 0::z20));let z4:=(⟨1+o1.x,1+o2.x,o3.x,0,[],0,0⟩:Ev);(D2 o2.c1 o3)∧((EvB z4)∧(List.length (z4).text≤4)∧(Av o3.c1))∧Lf z3 z3 (Kc o3.c1) (Kc o3.c1)))) (Bc (decide (1+o1.x=3)) (In z18 fun o2=>(((decide (1+o1.x=3))=true)∧(Ai o1.c1 12 o2)∧(wI (1+o2.x))∧In (Aa o2.c1 12) fun o3=>(let z5:S:= .v (.agg (zi z17::zi (1+o2.x):: .int .u64 0::zi o3.x::z20));let z6:=(⟨1+o1.x,1+o2.x,0,o3.x,[],0,0⟩:Ev);(Ai o2.c1 12 o3)∧((EvB z6)∧(List.length (z6).text≤4)∧(Av o3.c1))∧Lf z5 z5 (Kc o3.c1) (Kc o3.c1)))) (Bc (decide (1+o1.x=6)) (In z18 fun o2=>((Ai o1.c1 12 o2)∧(wI (1+o2.x))∧In (Aa o2.c1 12) fun o3=>(let z7:S:= .v (.agg (zi z17::zi (1+o2.x):: .int .u64 0::zi o3.x::z20));let z8:=(⟨1+o1.x,1+o2.x,0,o3.x,[],0,0⟩:Ev);(Ai o2.c1 12 o3)∧((EvB z8)∧(List.length (z8).text≤4)∧(Av o3.c1))∧Lf z7 z7 (Kc o3.c1) (Kc o3.c1)))) (Bc (decide (1+o1.x=4)) (In (Hg o1.c1 [[97],[98,99],[195,169],[255]]) fun o2=>(let z9:S:= .v (.agg [zi z17,zi 0,.int .u64 0,zi 0,.str o2.t,zi 0,zi 0]);let z10:=(⟨1+o1.x,0,0,0,o2.t,0,0⟩:Ev);(Qm o1.c1 [[97],[98,99],[195,169],[255]] o2)∧((EvB z10)∧(List.length (z10).text≤4)∧(Av o2.c1))∧Lf z9 z9 (Kc o2.c1) (Kc o2.c1))) (Bc (decide (1+o1.x=9)) (In (Aa o1.c1 99) fun o2=>(let z11:S:= .v (.agg [zi z17,zi 0,.int .u64 0,zi 0,.str [],zi 0,zi o2.x]);let z12:=(⟨1+o1.x,0,0,0,[],0,o2.x⟩:Ev);(Ai o1.c1 99 o2)∧((EvB z12)∧(List.length (z12).text≤4)∧(Av o2.c1))∧Lf z11 z11 (Kc o2.c1) (Kc o2.c1))) (Bc (decide (1+o1.x=10)) (In (Aa o1.c1 99) fun o2=>((Ai o1.c1 99 o2)∧In (Aa o2.c1 10) fun o3=>(let z13:S:= .v (.agg [zi z17,zi 0,.int .u64 0,zi 0,.str [],zi (1+o3.x),zi o2.x]);let z14:=(⟨1+o1.x,0,0,0,[],1+o3.x,o2.x⟩:Ev);(Ai o2.c1 10 o3)∧(wI (1+o3.x))∧((EvB z14)∧(List.length (z14).text≤4)∧(Av o3.c1))∧Lf z13 z13 (Kc o3.c1) (Kc o3.c1)))) (((EvB z19)∧(List.length (z19).text≤4)∧(Av o1.c1))∧Lf z16 z16 (Kc o1.c1) (Kc o1.c1))))))))))) Q4 ?_
 refine⟨(Am c 10 Q0),fun o1 ho_o1=>?_⟩
 obtain ⟨⟨hp_o1_0,hp_o1_1,hp_o1_2,hp_o1_3⟩,hf_o1⟩:=ho_o1
 refine⟨hf_o1,(Ac Q2 Q2),dsp (fun h1 p1=>?_) fun h1 p1=>?_⟩
 refine⟨(Am o1.c1 40 Q0),fun o2 ho_o2=>?_⟩
 obtain ⟨⟨hp_o2_0,hp_o2_1,hp_o2_2,hp_o2_3⟩,hf_o2⟩:=ho_o2
 exact⟨hf_o2,⟨Q22,Q33,Q0⟩,rfl,rfl⟩
 refine dsp (fun h2 p2=>?_) fun h2 p2=>?_
 refine⟨(Am o1.c1 12 Q0),fun o2 ho_o2=>?_⟩
 obtain ⟨⟨hp_o2_0,hp_o2_1,hp_o2_2,hp_o2_3⟩,hf_o2⟩:=ho_o2
 refine⟨hf_o2,(Ac Q2 Q2),(Gy o2.c1 Q0),fun o3 ho_o3=>?_⟩
 obtain ⟨⟨hp_o3_0,hp_o3_1⟩,hf_o3⟩:=ho_o3
 exact⟨hf_o3,⟨Q22,Q33,Q0⟩,rfl,rfl⟩
 refine dsp (fun h3 p3=>?_) fun h3 p3=>?_
 refine⟨(Am o1.c1 12 Q0),fun o2 ho_o2=>?_⟩
 refine⟨h3,?_⟩
 obtain ⟨⟨hp_o2_0,hp_o2_1,hp_o2_2,hp_o2_3⟩,hf_o2⟩:=ho_o2
 refine⟨hf_o2,(Ac Q2 Q2),(Am o2.c1 12 Q0),fun o3 ho_o3=>?_⟩
 obtain ⟨⟨hp_o3_0,hp_o3_1,hp_o3_2,hp_o3_3⟩,hf_o3⟩:=ho_o3
 exact⟨hf_o3,⟨Q22,Q33,Q0⟩,rfl,rfl⟩
 refine dsp (fun h4 p4=>?_) fun h4 p4=>?_
 refine⟨(Am o1.c1 12 Q0),fun o2 ho_o2=>?_⟩
 obtain ⟨⟨hp_o2_0,hp_o2_1,hp_o2_2,hp_o2_3⟩,hf_o2⟩:=ho_o2
 refine⟨hf_o2,(Ac Q2 Q2),(Am o2.c1 12 Q0),fun o3 ho_o3=>?_⟩
 obtain ⟨⟨hp_o3_0,hp_o3_1,hp_o3_2,hp_o3_3⟩,hf_o3⟩:=ho_o3
 exact⟨hf_o3,⟨Q22,Q33,Q0⟩,rfl,rfl⟩
 refine dsp (fun h5 p5=>?_) fun h5 p5=>?_
 refine⟨(Yr o1.c1 [[97],[98,99],[195,169],[255]] Q0 Q5 Q5),fun o2 ho_o2=>?_⟩
 obtain ⟨⟨hp_o2_0,hp_o2_1⟩,hf_o2⟩:=ho_o2
 exact⟨hf_o2,⟨Q22,Q33,Q0⟩,rfl,rfl⟩
 refine dsp (fun h6 p6=>?_) fun h6 p6=>?_
 refine⟨(Am o1.c1 99 Q0),fun o2 ho_o2=>?_⟩
 obtain ⟨⟨hp_o2_0,hp_o2_1,hp_o2_2,hp_o2_3⟩,hf_o2⟩:=ho_o2
 exact⟨hf_o2,⟨Q22,Q33,Q0⟩,rfl,rfl⟩
 refine dsp (fun h7 p7=>?_) fun h7 p7=>?_
 refine⟨(Am o1.c1 99 Q0),fun o2 ho_o2=>?_⟩
 obtain ⟨⟨hp_o2_0,hp_o2_1,hp_o2_2,hp_o2_3⟩,hf_o2⟩:=ho_o2
 refine⟨hf_o2,(Am o2.c1 10 Q0),fun o3 ho_o3=>?_⟩
 obtain ⟨⟨hp_o3_0,hp_o3_1,hp_o3_2,hp_o3_3⟩,hf_o3⟩:=ho_o3
 exact⟨hf_o3,(Ac Q2 Q2),⟨Q22,Q33,Q0⟩,rfl,rfl⟩
 exact⟨⟨Q22,Q33,Q0⟩,rfl,rfl⟩
structure Dw where
 e:Ev
 c1:Cur
def We (c:Cur) (o:Dw):Prop:=Fun Tryz.prog 201 [vP 0] [.cells (Bz c)] (.v (.agg (cEv o.e))) [.cells (Bz o.c1)]
def Ru (c:Cur) (o:Dw):Prop:=((EvB o.e)∧(List.length (o.e).text≤4)∧(Av o.c1))∧We c o
theorem Agt (c:Cur) (hp1:Av c): ∃o:Dw,Ru c o:=by
 have hN:Bb=274877906944:=rfl
 refine Br Tryz.func201 Q4 Q4 (w:=let zi:Int→C:= .int .i64;(.intro (Pw c) fun o1=> .seg [.call [0] (.v (.agg (cEv o1.e))) (Kc o1.c1)] (.intro (Aa o1.c1 14) fun o2=> .seg [.call [0] (.v (vI o2.x)) (Kc o2.c1)] (.br (.intro (Aa o2.c1 13) fun o3=> .seg [.call [0] (.v (vI o3.x)) (Kc o3.c1),.as 12 (.v (vI (o3.x-1)))] (.leaf (⟨(⟨o3.x-1,o1.e.field,o1.e.bits,o1.e.len,o1.e.text,o1.e.code,o1.e.at_⟩:Ev),o3.c1⟩:Dw) [0])) (.br (.intro (Pq o2.c1) fun o3=> .seg [.call [0] (.v (vI o3.x)) (Kc o3.c1)] (.leaf (⟨(⟨o1.e.kind,o3.x,o1.e.bits,o1.e.len,o1.e.text,o1.e.code,o1.e.at_⟩:Ev),o3.c1⟩:Dw) [0])) (.br (.intro (Ke o2.c1) fun o3=> .seg [.call [0] (.v (vI o3.x)) (Kc o3.c1)] (.leaf (⟨(⟨o1.e.kind,o1.e.field,o1.e.bits,o3.x,o1.e.text,o1.e.code,o1.e.at_⟩:Ev),o3.c1⟩:Dw) [0])) (.br (.seg [.ty .str,.pubS 27] (.intro (Hg o2.c1 [[],[120]]) fun o3=> .seg [.call [0] (.v (vT o3.t)) (Kc o3.c1)] (.leaf (⟨(⟨o1.e.kind,o1.e.field,o1.e.bits,o1.e.len,o3.t,o1.e.code,o1.e.at_⟩:Ev),o3.c1⟩:Dw) [0]))) (.br (.seg [.ty .int,.pubS 33] (.intro (A4 o2.c1 [0,(-1),11,20]) fun o3=> .seg [.call [0] (.v (vI o3.x)) (Kc o3.c1)] (.leaf (⟨(⟨o1.e.kind,o1.e.field,o1.e.bits,o1.e.len,o1.e.text,o3.x,o1.e.at_⟩:Ev),o3.c1⟩:Dw) [0]))) (.br (.intro (Ke o2.c1) fun o3=> .seg [.call [0] (.v (vI o3.x)) (Kc o3.c1)] (.leaf (⟨(⟨o1.e.kind,o1.e.field,o1.e.bits,o1.e.len,o1.e.text,o1.e.code,o3.x⟩:Ev),o3.c1⟩:Dw) [0])) (.br (.intro (B7 o2.c1) fun o3=> .seg [.call [0] (.v (.c (.int .u64 o3.x))) (Kc o3.c1)] (.leaf (⟨(⟨o1.e.kind,o1.e.field,o3.x,o1.e.len,o1.e.text,o1.e.code,o1.e.at_⟩:Ev),o3.c1⟩:Dw) [0])) (.leaf (⟨o1.e,o2.c1⟩:Dw) [0]))))))))),In (Pw c) fun o1=>((T9 c o1)∧In (Aa o1.c1 14) fun o2=>((Ai o1.c1 14 o2)∧Bc (decide (o2.x=0)) (In (Aa o2.c1 13) fun o3=>(let z1:S:= .v (.agg [zi (o3.x-1),zi o1.e.field,.int .u64 o1.e.bits,zi o1.e.len,.str o1.e.text,zi o1.e.code,zi o1.e.at_]);let z2:=(⟨o3.x-1,o1.e.field,o1.e.bits,o1.e.len,o1.e.text,o1.e.code,o1.e.at_⟩:Ev);(Ai o2.c1 13 o3)∧(wI (o3.x-1))∧((EvB z2)∧(List.length (z2).text≤4)∧(Av o3.c1))∧Lf z1 z1 (Kc o3.c1) (Kc o3.c1))) (Bc (decide (o2.x=1)) (In (Pq o2.c1) fun o3=>(let z3:S:= .v (.agg [zi o1.e.kind,zi o3.x,.int .u64 o1.e.bits,zi o1.e.len,.str o1.e.text,zi o1.e.code,zi o1.e.at_]);let z4:=(⟨o1.e.kind,o3.x,o1.e.bits,o1.e.len,o1.e.text,o1.e.code,o1.e.at_⟩:Ev);(T4 o2.c1 o3)∧((EvB z4)∧(List.length (z4).text≤4)∧(Av o3.c1))∧Lf z3 z3 (Kc o3.c1) (Kc o3.c1))) (Bc (decide (o2.x=2)) (In (Ke o2.c1) fun o3=>(let z5:S:= .v (.agg [zi o1.e.kind,zi o1.e.field,.int .u64 o1.e.bits,zi o3.x,.str o1.e.text,zi o1.e.code,zi o1.e.at_]);let z6:=(⟨o1.e.kind,o1.e.field,o1.e.bits,o3.x,o1.e.text,o1.e.code,o1.e.at_⟩:Ev);(Ro o2.c1 o3)∧((EvB z6)∧(List.length (z6).text≤4)∧(Av o3.c1))∧Lf z5 z5 (Kc o3.c1) (Kc o3.c1))) (Bc (decide (o2.x=3)) (In (Hg o2.c1 [[],[120]]) fun o3=>(let z7:S:= .v (.agg [zi o1.e.kind,zi o1.e.field,.int .u64 o1.e.bits,zi o1.e.len,.str o3.t,zi o1.e.code,zi o1.e.at_]);let z8:=(⟨o1.e.kind,o1.e.field,o1.e.bits,o1.e.len,o3.t,o1.e.code,o1.e.at_⟩:Ev);(Qm o2.c1 [[],[120]] o3)∧((EvB z8)∧(List.length (z8).text≤4)∧(Av o3.c1))∧Lf z7 z7 (Kc o3.c1) (Kc o3.c1))) (Bc (decide (o2.x=4)) (In (A4 o2.c1 [0,(-1),11,20]) fun o3=>(let z9:S:= .v (.agg [zi o1.e.kind,zi o1.e.field,.int .u64 o1.e.bits,zi o1.e.len,.str o1.e.text,zi o3.x,zi o1.e.at_]);let z10:=(⟨o1.e.kind,o1.e.field,o1.e.bits,o1.e.len,o1.e.text,o3.x,o1.e.at_⟩:Ev);(B5 o2.c1 [0,(-1),11,20] o3)∧((EvB z10)∧(List.length (z10).text≤4)∧(Av o3.c1))∧Lf z9 z9 (Kc o3.c1) (Kc o3.c1))) (Bc (decide (o2.x=5)) (In (Ke o2.c1) fun o3=>(let z11:S:= .v (.agg [zi o1.e.kind,zi o1.e.field,.int .u64 o1.e.bits,zi o1.e.len,.str o1.e.text,zi o1.e.code,zi o3.x]);let z12:=(⟨o1.e.kind,o1.e.field,o1.e.bits,o1.e.len,o1.e.text,o1.e.code,o3.x⟩:Ev);(Ro o2.c1 o3)∧((EvB z12)∧(List.length (z12).text≤4)∧(Av o3.c1))∧Lf z11 z11 (Kc o3.c1) (Kc o3.c1))) (Bc (decide (o2.x=6)) (In (B7 o2.c1) fun o3=>(let z13:S:= .v (.agg [zi o1.e.kind,zi o1.e.field,.int .u64 o3.x,zi o1.e.len,.str o1.e.text,zi o1.e.code,zi o1.e.at_]);let z14:=(⟨o1.e.kind,o1.e.field,o3.x,o1.e.len,o1.e.text,o1.e.code,o1.e.at_⟩:Ev);(D2 o2.c1 o3)∧((EvB z14)∧(List.length (z14).text≤4)∧(Av o3.c1))∧Lf z13 z13 (Kc o3.c1) (Kc o3.c1))) (((EvB o1.e)∧(List.length (o1.e).text≤4)∧(Av o2.c1))∧Lf (.v (.agg (cEv o1.e))) (.v (.agg (cEv o1.e))) (Kc o2.c1) (Kc o2.c1)))))))))))) Q4 ?_
 refine⟨(Ad0 c Q0),fun o1 ho_o1=>?_⟩
 obtain ⟨⟨hp_o1_0,hp_o1_1,hp_o1_2⟩,hf_o1⟩:=ho_o1
 refine⟨hf_o1,(Am o1.c1 14 Q0),fun o2 ho_o2=>?_⟩
 obtain ⟨⟨hp_o2_0,hp_o2_1,hp_o2_2,hp_o2_3⟩,hf_o2⟩:=ho_o2
 refine⟨hf_o2,dsp (fun h1 p1=>?_) fun h1 p1=>?_⟩
 refine⟨(Am o2.c1 13 Q0),fun o3 ho_o3=>?_⟩
 obtain ⟨⟨hp_o3_0,hp_o3_1,hp_o3_2,hp_o3_3⟩,hf_o3⟩:=ho_o3
 exact⟨hf_o3,(Ac Q2 Q2),⟨Q19,Q36,Q0⟩,rfl,rfl⟩
 refine dsp (fun h2 p2=>?_) fun h2 p2=>?_
 refine⟨(Adv o2.c1 Q0),fun o3 ho_o3=>?_⟩
 obtain ⟨hp_o3,hf_o3⟩:=ho_o3
 exact⟨hf_o3,⟨Q19,Q36,Q0⟩,rfl,rfl⟩
 refine dsp (fun h3 p3=>?_) fun h3 p3=>?_
 refine⟨(Z3 o2.c1 Q0),fun o3 ho_o3=>?_⟩
 obtain ⟨hp_o3,hf_o3⟩:=ho_o3
 exact⟨hf_o3,⟨Q19,Q36,Q0⟩,rfl,rfl⟩
 refine dsp (fun h4 p4=>?_) fun h4 p4=>?_
 refine⟨(Yr o2.c1 [[],[120]] Q0 Q5 Q5),fun o3 ho_o3=>?_⟩
 obtain ⟨⟨hp_o3_0,hp_o3_1⟩,hf_o3⟩:=ho_o3
 exact⟨hf_o3,⟨Q19,Q36,Q0⟩,rfl,rfl⟩
 refine dsp (fun h5 p5=>?_) fun h5 p5=>?_
 refine⟨(Cv o2.c1 [0,(-1),11,20] Q0 Q5 Q5),fun o3 ho_o3=>?_⟩
 obtain ⟨⟨hp_o3_0,hp_o3_1⟩,hf_o3⟩:=ho_o3
 exact⟨hf_o3,⟨Q19,Q36,Q0⟩,rfl,rfl⟩
 refine dsp (fun h6 p6=>?_) fun h6 p6=>?_
 refine⟨(Z3 o2.c1 Q0),fun o3 ho_o3=>?_⟩
 obtain ⟨hp_o3,hf_o3⟩:=ho_o3
 exact⟨hf_o3,⟨Q19,Q36,Q0⟩,rfl,rfl⟩
 refine dsp (fun h7 p7=>?_) fun h7 p7=>?_
 refine⟨(Gy o2.c1 Q0),fun o3 ho_o3=>?_⟩
 obtain ⟨⟨hp_o3_0,hp_o3_1⟩,hf_o3⟩:=ho_o3
 exact⟨hf_o3,⟨Q19,Q36,Q0⟩,rfl,rfl⟩
 exact⟨⟨Q19,Q36,Q0⟩,rfl,rfl⟩
structure Jx where
 s:Scn
 c1:Cur
def Xv (c:Cur) (o:Jx):Prop:=Fun Tryz.prog 199 [vP 0] [.cells (Bz c)] (.v (.agg (Km o.s))) [.cells (Bz o.c1)]
def Tj (c:Cur) (o:Jx):Prop:=(((0:Int)≤(o.s).bits∧(o.s).bits≤18446744073709551615)∧(Av o.c1))∧Xv c o
structure Nm where
 c:Cur
 s:Scn
 i:Nat
def F5 (o1:Co):Fam:=⟨Nm,fun q1=>[(0,.v (vP 0)),(2,.v (vP 1)),(3,.v (vP 2)),(4,.v (vI o1.x)),(5,.v (vI ((q1.i:Nat):Int)))],fun q1=>[.cells (Bz q1.c),.cells [.int .u64 0,.int .i64 0],.cells (Km q1.s)],fun q1=>Av q1.c∧q1.i≤9∧((0:Int)≤(q1.s).bits∧(q1.s).bits≤18446744073709551615),fun q1=>10-q1.i⟩
theorem Aim (c:Cur) (hp1:Av c): ∃o:Jx,Tj c o:=by
 have hN:Bb=274877906944:=rfl
 refine Br Tryz.func199 Q4 Q4 (w:=let z5:= -9223372036854775808;(.intro (Aa c 10) fun o1=> .seg [.call [0] (.v (vI o1.x)) (Kc o1.c1),.at 0,.keep [0,2,3,4,5],.sel [0,1,2]] (.loop (F5 o1) fun q1=> .br (.intro (Aa q1.c 128) fun o2=> .seg [.ord (os 9 [2,4,8]) [0],.call [0] (.v (vI o2.x)) (Kc o2.c1),.as 18 (.v (vI (128+o2.x))),.call [] (.tup [.agg (Km (Ag q1.s (128+o2.x)).1),vI (Ag q1.s (128+o2.x)).2]) [],.as 13 (.v (vI (((q1.i:Nat):Int)+1))),.at 0,.keep [0,2,3,4,5],.sel [0,1,2]] (.next)) (.intro (Aa q1.c 10) fun o2=> .seg [.call [0] (.v (vI o2.x)) (Kc o2.c1)] (.br (.seg [.ty .int,.pubS 27] (.intro (A4 o2.c1 [(-1),0,9,10,11,9223372036854775807,z5]) fun o3=> .seg [.call [0] (.v (vI o3.x)) (Kc o3.c1)] (.leaf (⟨(⟨q1.s.bits,o3.x⟩:Scn),o3.c1⟩:Jx) [0]))) (.br (.intro (B7 o2.c1) fun o3=> .seg [.call [0] (.v (.c (.int .u64 o3.x))) (Kc o3.c1)] (.leaf (⟨(⟨o3.x,q1.s.have_⟩:Scn),o3.c1⟩:Jx) [0])) (.leaf (⟨q1.s,o2.c1⟩:Jx) [0]))))),In (Aa c 10) fun o1=>((Ai c 10 o1)∧(F5 o1).Has [(0,.v (vP 0)),(2,.v (vP 1)),(3,.v (vP 2)),(4,.v (vI o1.x)),(5,.v (vI 0))] [.cells (Bz o1.c1),.cells [.int .u64 0,.int .i64 0],.cells [.int .u64 0,.int .i64 0]]∧∀q1,(F5 o1).inv q1→(let z4:=((q1.i:Nat):Int);Bc (decide (z4<o1.x)) (In (Aa q1.c 128) fun o2=>(let z1:=Ag q1.s (128+o2.x);(Ai q1.c 128 o2)∧(wI (128+o2.x))∧(Fp 244 [.agg (Km q1.s),vI (128+o2.x)] [] (.tup [.agg (Km z1.1),vI z1.2]) [])∧(wI (z4+1))∧(F5 o1).Nxt q1 [(0,.v (vP 0)),(2,.v (vP 1)),(3,.v (vP 2)),(4,.v (vI o1.x)),(5,.v (vI (z4+1)))] [.cells (Bz o2.c1),.cells [.int .u64 0,.int .i64 0],.cells (Km z1.1)])) (In (Aa q1.c 10) fun o2=>((Ai q1.c 10 o2)∧Bc (decide (o2.x=0)) (In (A4 o2.c1 [(-1),0,9,10,11,9223372036854775807,z5]) fun o3=>(let z2:S:= .v (.agg [.int .u64 q1.s.bits,.int .i64 o3.x]);(B5 o2.c1 [(-1),0,9,10,11,9223372036854775807,z5] o3)∧(((0:Int)≤((⟨q1.s.bits,o3.x⟩:Scn)).bits∧((⟨q1.s.bits,o3.x⟩:Scn)).bits≤18446744073709551615)∧(Av o3.c1))∧Lf z2 z2 (Kc o3.c1) (Kc o3.c1))) (Bc (decide (o2.x=1)) (In (B7 o2.c1) fun o3=>(let z3:S:= .v (.agg [.int .u64 o3.x,.int .i64 q1.s.have_]);(D2 o2.c1 o3)∧(((0:Int)≤((⟨o3.x,q1.s.have_⟩:Scn)).bits∧((⟨o3.x,q1.s.have_⟩:Scn)).bits≤18446744073709551615)∧(Av o3.c1))∧Lf z3 z3 (Kc o3.c1) (Kc o3.c1))) ((((0:Int)≤(q1.s).bits∧(q1.s).bits≤18446744073709551615)∧(Av o2.c1))∧Lf (.v (.agg (Km q1.s))) (.v (.agg (Km q1.s))) (Kc o2.c1) (Kc o2.c1))))))))) Q4 ?_
 refine⟨(Am c 10 Q0),fun o1 ho_o1=>?_⟩
 obtain ⟨⟨hp_o1_0,hp_o1_1,hp_o1_2,hp_o1_3⟩,hf_o1⟩:=ho_o1
 refine⟨hf_o1,Bf (j:=(⟨o1.c1,(⟨0,0⟩:Scn),0⟩:Nm)) Q9 Q9 (by dsimp only[F5];exact⟨by assumption,by omega,by decide⟩),fun (q1:Nm) hq_q1=>?_⟩
 have hi_q1:Av q1.c∧q1.i≤9∧((0:Int)≤(q1.s).bits∧(q1.s).bits≤18446744073709551615):=hq_q1
 obtain ⟨v1,v2,v3⟩:=hi_q1
 refine dsp (fun h1 p1=>?_) fun h1 p1=>?_
 refine⟨(Am q1.c 128 Q0),fun o2 ho_o2=>?_⟩
 obtain ⟨⟨hp_o2_0,hp_o2_1,hp_o2_2,hp_o2_3⟩,hf_o2⟩:=ho_o2
 exact⟨hf_o2,(Ac Q2 Q2),(Jv q1.s _ Q2),(Ac Q2 Q2),A3 (j:=(⟨o2.c1,(Ag q1.s (128+o2.x)).1,q1.i+1⟩:Nm)) Q9 rfl (by dsimp only[F5];exact⟨by assumption,by omega,P6 v3.1 v3.2⟩) (by dsimp only[F5];omega)⟩
 refine⟨(Am q1.c 10 Q0),fun o2 ho_o2=>?_⟩
 obtain ⟨⟨hp_o2_0,hp_o2_1,hp_o2_2,hp_o2_3⟩,hf_o2⟩:=ho_o2
 refine⟨hf_o2,dsp (fun h2 p2=>?_) fun h2 p2=>?_⟩
 refine⟨(Cv o2.c1 [(-1),0,9,10,11,9223372036854775807,(-9223372036854775808)] Q0 Q5 Q5),fun o3 ho_o3=>?_⟩
 obtain ⟨⟨hp_o3_0,hp_o3_1⟩,hf_o3⟩:=ho_o3
 exact⟨hf_o3,⟨Q2,Q0⟩,rfl,rfl⟩
 refine dsp (fun h3 p3=>?_) fun h3 p3=>?_
 refine⟨(Gy o2.c1 Q0),fun o3 ho_o3=>?_⟩
 obtain ⟨⟨hp_o3_0,hp_o3_1⟩,hf_o3⟩:=ho_o3
 exact⟨hf_o3,⟨Q2,Q0⟩,rfl,rfl⟩
 exact⟨⟨Q2,Q0⟩,rfl,rfl⟩
theorem Ad1 (s:List UInt8) (hp1:List.length s≤Bb):Fun Tryz.prog 245 [vT s] [] (.v (.agg (J8 (S5 utf0 s)))) []:=by
 have hN:Bb=274877906944:=rfl
 refine Ap Tryz.func245 Q4 Q4 (w:=let z2:=J8 (S5 (⟨0,0,0⟩:Utf) s);let z1:S:= .tup [.agg z2,vI (Zn (⟨0,0,0⟩:Utf) s)];(.seg [.call [] z1 []] (.leaf () []),(Fp 228 [.agg [.int .i64 0,.int .i64 0,.int .i64 0],vT s] [] z1 [])∧Lf (.v (.agg z2)) (.v (.agg (J8 (S5 utf0 s)))) [] [])) Q4 ?_
 refine⟨(Afr (⟨0,0,0⟩:Utf) _ Q2),?_⟩
 have hm1:S5 utf0 s=(S5 (⟨0,0,0⟩:Utf) s):=by rfl
 exact⟨Q6,rfl⟩
structure F6 where
 u:Utf
 c1:Cur
def Wf (c:Cur) (o:F6):Prop:=Fun Tryz.prog 200 [vP 0] [.cells (Bz c)] (.v (.agg (J8 o.u))) [.cells (Bz o.c1)]
def Rv (c:Cur) (o:F6):Prop:=((Av o.c1))∧Wf c o
theorem Agu (c:Cur) (hp1:Av c): ∃o:F6,Rv c o:=by
 have hN:Bb=274877906944:=rfl
 refine Br Tryz.func200 Q4 Q4 (w:=let zi:Int→C:= .int .i64;(.intro (L9 c) fun o1=>let z4:=S5 utf0 o1.t;.seg [.call [0] (.v (vT o1.t)) (Kc o1.c1),.call [] (.v (.agg (J8 z4))) []] (.intro (Aa o1.c1 12) fun o2=> .seg [.call [0] (.v (vI o2.x)) (Kc o2.c1)] (.br (.intro (Aa o2.c1 6) fun o3=> .seg [.call [0] (.v (vI o3.x)) (Kc o3.c1),.as 13 (.v (vI (o3.x-1)))] (.leaf (⟨(⟨o3.x-1,z4.low,z4.high⟩:Utf),o3.c1⟩:F6) [0])) (.br (.seg [.ty .int,.pubS 18] (.intro (A4 o2.c1 [0,128,144,160,(-1)]) fun o3=> .seg [.call [0] (.v (vI o3.x)) (Kc o3.c1)] (.leaf (⟨(⟨z4.want,o3.x,z4.high⟩:Utf),o3.c1⟩:F6) [0]))) (.br (.seg [.ty .int,.pubS 24] (.intro (A4 o2.c1 [0,143,159,191,255]) fun o3=> .seg [.call [0] (.v (vI o3.x)) (Kc o3.c1)] (.leaf (⟨(⟨z4.want,z4.low,o3.x⟩:Utf),o3.c1⟩:F6) [0]))) (.leaf (⟨z4,o2.c1⟩:F6) [0]))))),In (L9 c) fun o1=>(let z5:=S5 utf0 o1.t;(Ti c o1)∧(Fp 245 [vT o1.t] [] (.v (.agg (J8 z5))) [])∧In (Aa o1.c1 12) fun o2=>((Ai o1.c1 12 o2)∧Bc (decide (o2.x=0)) (In (Aa o2.c1 6) fun o3=>(let z1:S:= .v (.agg [zi (o3.x-1),zi z5.low,zi z5.high]);(Ai o2.c1 6 o3)∧(wI (o3.x-1))∧((Av o3.c1))∧Lf z1 z1 (Kc o3.c1) (Kc o3.c1))) (Bc (decide (o2.x=1)) (In (A4 o2.c1 [0,128,144,160,(-1)]) fun o3=>(let z2:S:= .v (.agg [zi z5.want,zi o3.x,zi z5.high]);(B5 o2.c1 [0,128,144,160,(-1)] o3)∧((Av o3.c1))∧Lf z2 z2 (Kc o3.c1) (Kc o3.c1))) (Bc (decide (o2.x=2)) (In (A4 o2.c1 [0,143,159,191,255]) fun o3=>(let z3:S:= .v (.agg [zi z5.want,zi z5.low,zi o3.x]);(B5 o2.c1 [0,143,159,191,255] o3)∧((Av o3.c1))∧Lf z3 z3 (Kc o3.c1) (Kc o3.c1))) (((Av o2.c1))∧Lf (.v (.agg (J8 z5))) (.v (.agg (J8 z5))) (Kc o2.c1) (Kc o2.c1)))))))) Q4 ?_
 refine⟨(Acm c Q0),fun o1 ho_o1=>?_⟩
 obtain ⟨⟨hp_o1_0,hp_o1_1⟩,hf_o1⟩:=ho_o1
 refine⟨hf_o1,(Ad1 _ Q2),(Am o1.c1 12 Q0),fun o2 ho_o2=>?_⟩
 obtain ⟨⟨hp_o2_0,hp_o2_1,hp_o2_2,hp_o2_3⟩,hf_o2⟩:=ho_o2
 refine⟨hf_o2,dsp (fun h1 p1=>?_) fun h1 p1=>?_⟩
 refine⟨(Am o2.c1 6 Q0),fun o3 ho_o3=>?_⟩
 obtain ⟨⟨hp_o3_0,hp_o3_1,hp_o3_2,hp_o3_3⟩,hf_o3⟩:=ho_o3
 exact⟨hf_o3,(Ac Q2 Q2),Q0,rfl,rfl⟩
 refine dsp (fun h2 p2=>?_) fun h2 p2=>?_
 refine⟨(Cv o2.c1 [0,128,144,160,(-1)] Q0 Q5 Q5),fun o3 ho_o3=>?_⟩
 obtain ⟨⟨hp_o3_0,hp_o3_1⟩,hf_o3⟩:=ho_o3
 exact⟨hf_o3,Q0,rfl,rfl⟩
 refine dsp (fun h3 p3=>?_) fun h3 p3=>?_
 refine⟨(Cv o2.c1 [0,143,159,191,255] Q0 Q5 Q5),fun o3 ho_o3=>?_⟩
 obtain ⟨⟨hp_o3_0,hp_o3_1⟩,hf_o3⟩:=ho_o3
 exact⟨hf_o3,Q0,rfl,rfl⟩
 exact⟨Q0,rfl,rfl⟩
structure Bxi where
 v:List Int
theorem Ys {p:Pln} :(Fm p).plan.shapes.length≤6∧(∀e∈(Fm p).plan.shapes,e.fields.length≤1048576)∧(Fm p).stack.length≤8∧(0≤(Fm p).scan.bits∧(Fm p).scan.bits≤18446744073709551615):=by
 unfold Fm
 split
 ·rename_i h
  have ht:=Cc h
  exact⟨ht.1,Eh ht.2.1,by simp,by simp⟩
 ·exact⟨by simp,fun e he=>(by cases he),by simp,by simp⟩
structure Bxn where
 v:Int
structure DecB (d:Dcd):Prop where
 pln:d.plan.shapes=[]∨PlnG ⟨d.plan.shapes,d.plan.root,1,d.plan.most⟩
 deep:d.plan.deep≤4
 stack:d.stack.length≤300000
 bits:0≤d.scan.bits∧d.scan.bits≤18446744073709551615
theorem DecB.shs {d:Dcd} (h:DecB d):d.plan.shapes.length≤3:=by
 rcases h.pln with h|h
 ·rw[h];simp
 ·exact h.sch.1.2
theorem DecB.flds {d:Dcd} (h:DecB d): ∀e∈d.plan.shapes,e.fields.length≤5:=fun e he=>by
 rcases h.pln with h|h
 ·rw[h] at he;cases he
 ·exact(h.sch.2 e he).1
theorem DecB.good {d:Dcd} (h:DecB d) (hp:C8 d.plan=true):PlnG d.plan:=by
 have ht:=Cc hp
 rcases h.pln with h2|h2
 ·rw[h2] at ht;simp at ht;omega
 ·exact⟨h2.sch,h2.root,by have:=h.deep;omega,h2.most⟩
theorem DecB.like {d x:Dcd} (h:DecB d) (h1:x.plan=d.plan) (h2:x.stack.length≤300000) (h3:0≤x.scan.bits∧x.scan.bits≤18446744073709551615):DecB x:=
 ⟨by rw[h1];exact h.pln,by rw[h1];exact h.deep,h2,h3⟩
theorem Yt {p:Pln} (h:PlnG p):DecB (Fm p):=by
 have hd:=h.deep
 unfold Fm;split
 ·exact⟨.inr ⟨h.sch,h.root,by show (1:Int)≤1∧(1:Int)≤4;decide,h.most⟩,hd.2,by simp,by show (0:Int)≤0∧(0:Int)≤18446744073709551615;decide⟩
 ·exact⟨.inl rfl,by show (0:Int)≤4;decide,by simp,by show (0:Int)≤0∧(0:Int)≤18446744073709551615;decide⟩
theorem Agv {d:Dcd} (h:DecB d) (s:List UInt8):DecB (Ce ⟨d,[]⟩ s).d:=by
 have hl:=Sp s ⟨d,[]⟩
 have hs:=h.stack
 exact h.like hl.1 (by have:=hl.2.1;dsimp only at this;omega) (hl.2.2.2 h.bits)
theorem Aba {d:Dcd} {b:Int} (h:DecB d):DecB (B8 d b).d:=by
 have hl:=Pj (d:=d) (b:=b)
 have hs:=h.stack
 exact h.like hl.1 Q2 (hl.2.2.2 h.bits)
structure Hx where
 d:Dcd
 c1:Cur
def Ua (c:Cur) (o:Hx):Prop:=Fun Tryz.prog 198 [vP 0] [.cells (Bz c)] (.v (.agg (Ad 1 2 o.d))) [.cells (Bz o.c1),.tree o.d.plan.shapes,.lst .lev o.d.stack]
def Px (c:Cur) (o:Hx):Prop:=((DecB o.d)∧(List.length (o.d).stack≤8)∧(Av o.c1))∧Ua c o
structure G2 where
 c:Cur
 d:Dcd
 i:Nat
def Fj (o2:Gd) (o3:Co):Fam:=⟨G2,fun q1=>[(0,.v (vP 0)),(2,.v (vP 1)),(4,.v (vP 2)),(6,.v (vT o2.t)),(7,.v (vI o3.x)),(8,.v (vI ((q1.i:Nat):Int)))],fun q1=>[.cells (Bz q1.c),.cells [.nil,.int .i64 0,.int .i64 0,.int .i64 0,.int .i64 0,.nil,.int .u64 0,.int .i64 0,.int .i64 0,.int .i64 0,.int .i64 0,.int .i64 0,.bool false,.bool false,.int .i64 0,.int .i64 0,.int .i64 0,.int .i64 0,.int .i64 0,.int .i64 0,.int .i64 0,.int .i64 0,.int .u64 0,.int .i64 0,.str [],.int .i64 0,.int .i64 0],.cells (Ad 3 4 q1.d),.tree q1.d.plan.shapes,.lst .lev q1.d.stack],fun q1=>Av q1.c∧DecB q1.d∧q1.i≤List.length o2.t∧List.length (q1.d).stack≤8,fun q1=>List.length o2.t+1-q1.i⟩
theorem Ad2 (c:Cur) (hp1:Av c): ∃o:Hx,Px c o:=by
 have hN:Bb=274877906944:=rfl
 refine Br Tryz.func198 Q4 Q4 (w:=let zi:Int→C:= .int .i64;let z13:List C:=[.nil,zi 0,zi 0,zi 0,zi 0,.nil,.int .u64 0,zi 0,zi 0,zi 0,zi 0,zi 0,.bool false,.bool false,zi 0,zi 0,zi 0,zi 0,zi 0,zi 0,zi 0,zi 0,.int .u64 0,zi 0,.str [],zi 0,zi 0];(.intro (Rs c) fun o1=> .seg [.call [0] (.v (.agg (Nw o1.p))) (Kc o1.c1),.call [] (.tup [.agg (Ad 0 1 (Fm o1.p)),vB (C8 o1.p)]) (L2 (Fm o1.p))] (.intro (Hw o1.c1 o1.p) fun o2=>let z10:=((List.length o2.t:Nat):Int)+1;.seg [.call [0] (.v (vT o2.t)) (Kc o2.c1),.as 24 (.v (vI z10))] (.intro (Aa o2.c1 z10) fun o3=> .seg [.call [0] (.v (vI o3.x)) (Kc o3.c1),.at 0,.keep [0,2,4,6,7,8],.sel [0,1,5,3,4]] (.loop (Fj o2 o3) fun q1=>let z5:S:= .v (vI (((q1.i:Nat):Int)+1));.br (.intro (Sx (o2.t[q1.i]?)) fun x1=>let z2:=B8 q1.d ((UInt8.toNat x1:Nat):Int);.seg [.tree (fr (.two 5 (fr (.one 9 (.one 10 (.first 11 (.done)))) 6 3) 9 (.one 5 (fr (.one 10 (.first 11 (.done))) 6 3))) 0 5) 12 [],.ch x1,.as 36 (.v (vI ((UInt8.toNat x1:Nat):Int))),.call [] (.tup [.agg (Ad 0 1 z2.d),vO 2]) (Ls z2.d z2.out),.at 0,.keep [0,2,4,6,7,8,9],.sel [0,1,2,3,4,8,5,6],.call [] (.tup [.agg (Ad 0 1 z2.d),vO 2]) (Ls z2.d z2.out),.at 0,.keep [0,2,4,6,7,8,9],.sel [0,1,2,3,4,5,6,7]] (.br (.intro (Aq q1.c 4) fun o4=> .seg [.call [0] (.v (vB o4.p)) (Kc o4.c1)] (.br (.leaf (⟨q1.d,o4.c1⟩:Hx) [0,3,4]) (.seg [.as 30 z5,.at 0,.keep [0,2,4,6,7,8],.sel [0,1,2,6,7]] (.next)))) (.seg [.as 30 z5,.at 0,.keep [0,2,4,6,7,8],.sel [0,1,2,6,7]] (.next)))) (.leaf (⟨q1.d,q1.c⟩:Hx) [0,3,4])))),In (Rs c) fun o1=>(let z12:=Fm o1.p;(Wb c o1)∧(Fp 46 [.agg (Nw o1.p)] [] (.tup [.agg (Ad 0 1 z12),vB (C8 o1.p)]) (L2 z12))∧In (Hw o1.c1 o1.p) fun o2=>(let z11:=((List.length o2.t:Nat):Int)+1;(Pv o1.c1 o1.p o2)∧(wI z11)∧In (Aa o2.c1 z11) fun o3=>(let z9:=Fj o2 o3;(Ai o2.c1 z11 o3)∧z9.Has [(0,.v (vP 0)),(2,.v (vP 1)),(4,.v (vP 2)),(6,.v (vT o2.t)),(7,.v (vI o3.x)),(8,.v (vI 0))] [.cells (Bz o3.c1),.cells z13,.cells (Ad 3 4 z12),.tree z12.plan.shapes,.lst .lev z12.stack]∧∀q1,z9.inv q1→(let z6:=((q1.i:Nat):Int);let z7:S:= .v (.agg (Ad 1 2 q1.d));let z8:List Blk:=[.cells (Bz q1.c),.tree q1.d.plan.shapes,.lst .lev q1.d.stack];Bc (decide (z6<o3.x)) (El (o2.t[q1.i]?) fun x1=>(let z4:=((UInt8.toNat x1:Nat):Int);let z3:=B8 q1.d z4;(o2.t[q1.i]? =some x1)∧((0:Int)≤z6)∧(o2.t[q1.i]? =some x1)∧((0:Int)≤z6)∧(wI (z4))∧(wI (z4))∧(Fp 203 [.agg (Bu q1.d),vI z4] [] (.tup [.agg (Ad 0 1 z3.d),vO 2]) (Ls z3.d z3.out))∧(Fp 203 [.agg (Bu q1.d),vI z4] [] (.tup [.agg (Ad 0 1 z3.d),vO 2]) (Ls z3.d z3.out))∧(([.cells (Bz q1.c),.cells z13,.cells (Ad 3 4 q1.d),.tree q1.d.plan.shapes,.lst .lev q1.d.stack,.cells (Ad 6 7 z3.d),.tree z3.d.plan.shapes,.lst .lev z3.d.stack]:List Blk)=[.cells (Bz q1.c),.cells z13,.cells (Ad 3 4 q1.d),.tree q1.d.plan.shapes,.lst .lev q1.d.stack,.cells (Ad 6 7 z3.d),.tree z3.d.plan.shapes,.lst .lev z3.d.stack])∧(([(0,.v (vP 0)),(2,.v (vP 1)),(4,.v (vP 2)),(6,.v (vT o2.t)),(7,.v (vI o3.x)),(8,.v (vI z6)),(9,.v (vP 5))]:List (Nat×S))=[(0,.v (vP 0)),(2,.v (vP 1)),(4,.v (vP 2)),(6,.v (vT o2.t)),(7,.v (vI o3.x)),(8,.v (vI z6)),(9,.v (vP 5))])∧Bc (decide (z3.d.mode=9)) (In (Aq q1.c 4) fun o4=>(let z1:List Blk:=[.cells (Bz o4.c1),.tree q1.d.plan.shapes,.lst .lev q1.d.stack];(Bg q1.c 4 o4)∧Bc (!o4.p) (((DecB q1.d)∧(List.length (q1.d).stack≤8)∧(Av o4.c1))∧Lf z7 z7 z1 z1) ((wI (z6+1))∧z9.Nxt q1 [(0,.v (vP 0)),(2,.v (vP 1)),(4,.v (vP 2)),(6,.v (vT o2.t)),(7,.v (vI o3.x)),(8,.v (vI (z6+1)))] [.cells (Bz o4.c1),.cells z13,.cells (Ad 3 4 z3.d),.tree z3.d.plan.shapes,.lst .lev z3.d.stack]))) ((wI (z6+1))∧z9.Nxt q1 [(0,.v (vP 0)),(2,.v (vP 1)),(4,.v (vP 2)),(6,.v (vT o2.t)),(7,.v (vI o3.x)),(8,.v (vI (z6+1)))] [.cells (Bz q1.c),.cells z13,.cells (Ad 3 4 z3.d),.tree z3.d.plan.shapes,.lst .lev z3.d.stack]))) (((DecB q1.d)∧(List.length (q1.d).stack≤8)∧(Av q1.c))∧Lf z7 z7 z8 z8))))))) Q4 ?_
 refine⟨(Agr c Q0),fun o1 ho_o1=>?_⟩
 obtain ⟨⟨hp_o1_0,hp_o1_1⟩,hf_o1⟩:=ho_o1
 refine⟨hf_o1,(Ah0 o1.p (by have:=hp_o1_0.sch.1;omega)),(Xu o1.c1 o1.p Q0 Q2),fun o2 ho_o2=>?_⟩
 obtain ⟨⟨hp_o2_0,hp_o2_1⟩,hf_o2⟩:=ho_o2
 refine⟨hf_o2,(Ac Q2 Q2),(Am o2.c1 (((List.length o2.t:Nat):Int)+1) Q0),fun o3 ho_o3=>?_⟩
 obtain ⟨⟨hp_o3_0,hp_o3_1,hp_o3_2,hp_o3_3⟩,hf_o3⟩:=ho_o3
 refine⟨hf_o3,Bf (j:=(⟨o3.c1,(Fm o1.p),0⟩:G2)) Q9 rfl (by dsimp only[Fj];exact⟨by assumption,Yt Q81,by omega,Ys.2.2.1⟩),fun (q1:G2) hq_q1=>?_⟩
 have hi_q1:Av q1.c∧DecB q1.d∧q1.i≤List.length o2.t∧List.length (q1.d).stack≤8:=hq_q1
 obtain ⟨v1,v2,v3,v4⟩:=hi_q1
 refine dsp (fun h1 p1=>?_) fun h1 p1=>?_
 refine⟨(Bh (l:=o2.t) (i:=q1.i) Q2),fun x1 hx1=>?_⟩
 have hb_x1:=UInt8.toNat_lt x1
 refine⟨hx1,Q2,hx1,Q2,(Ac Q2 Q2),(Ac Q2 Q2),(Yn q1.d _ (by have:=v2.shs;omega) (fun e he=>by have:=v2.flds e he;omega) (by have:=v2.stack;omega) (v2.bits)),(Yn q1.d _ (by have:=v2.shs;omega) (fun e he=>by have:=v2.flds e he;omega) (by have:=v2.stack;omega) (v2.bits)),rfl,rfl,dsp (fun h2 p2=>?_) fun h2 p2=>?_⟩
 refine⟨(By q1.c 4 Q0),fun o4 ho_o4=>?_⟩
 obtain ⟨hp_o4,hf_o4⟩:=ho_o4
 refine⟨hf_o4,fun h3=>have q3:=Ao h3;?_,fun h3=>have q3:=An h3;?_⟩
 exact⟨⟨(by first|assumption|exact Yt Q81|exact Aba Q81),(by first|exact v4|exact Ys.2.2.1|omega),Q0⟩,rfl,rfl⟩
 exact⟨(Ac Q2 Q2),A3 (j:=(⟨o4.c1,(B8 q1.d ((UInt8.toNat x1:Nat):Int)).d,q1.i+1⟩:G2)) Q9 rfl Q74 (by dsimp only[Fj];omega)⟩
 exact⟨(Ac Q2 Q2),A3 (j:=(⟨q1.c,(B8 q1.d ((UInt8.toNat x1:Nat):Int)).d,q1.i+1⟩:G2)) Q9 rfl Q74 (by dsimp only[Fj];omega)⟩
 exact⟨⟨(by first|assumption|exact Yt Q81|exact Aba Q81),(by first|exact v4|exact Ys.2.2.1|omega),Q0⟩,rfl,rfl⟩
structure Cw where
 d:Dcd
 c1:Cur
def Wg (c:Cur) (o:Cw):Prop:=Fun Tryz.prog 137 [vP 0] [.cells (Bz c)] (.v (.agg (Ad 1 2 o.d))) [.cells (Bz o.c1),.tree o.d.plan.shapes,.lst .lev o.d.stack]
def Rw (c:Cur) (o:Cw):Prop:=((DecB o.d)∧(Av o.c1))∧Wg c o
theorem Agw (c:Cur) (hp1:Av c): ∃o:Cw,Rw c o:=by
 have hN:Bb=274877906944:=rfl
 refine Br Tryz.func137 Q4 Q4 (w:=let zi:Int→C:= .int .i64;(.intro (Px c) fun o1=> .seg [.call [0] (.v (.agg (Ad 1 2 o1.d))) [.cells (Bz o1.c1),.tree o1.d.plan.shapes,.lst .lev o1.d.stack]] (.intro (Aa o1.c1 22) fun o2=> .seg [.call [0] (.v (vI o2.x)) (Kc o2.c1)] (.br (.intro (Aa o2.c1 12) fun o3=> .seg [.call [0] (.v (vI o3.x)) (Kc o3.c1),.as 12 (.v (vI (o3.x-1)))] (.leaf (⟨(⟨o1.d.plan,o3.x-1,o1.d.stack,o1.d.scan,o1.d.start,o1.d.at_,o1.d.field,o1.d.wire,o1.d.want,o1.d.utf,o1.d.end_⟩:Dcd),o3.c1⟩:Cw) [0,2,3])) (.br (.seg [.ty .int,.pubS 17] (.intro (A4 o2.c1 [0,1,5,2000,(-1)]) fun o3=> .seg [.call [0] (.v (vI o3.x)) (Kc o3.c1)] (.leaf (⟨(⟨o1.d.plan,o1.d.mode,o1.d.stack,o1.d.scan,o1.d.start,o1.d.at_,o1.d.field,o1.d.wire,o3.x,o1.d.utf,o1.d.end_⟩:Dcd),o3.c1⟩:Cw) [0,2,3]))) (.br (.intro (Aa o2.c1 4) fun o3=> .intro (Gx o3.c1 [0,1,7,2000,2001,(-1)]) fun o4=>let z5:List Blk:=[.cells (Bz o4.c1),.lst .int [0,1,7,2000,2001,(-1)]];.seg [.tree (fr (.first 5 (.two 3 (.first 4 (.one 6 (.one 7 (.first 8 (.one 9 (.one 10 (.first 11 (.one 12 (.done))))))))) 6 (.one 3 (.first 4 (.one 7 (.first 8 (.one 9 (.one 10 (.first 11 (.one 12 (.done))))))))))) 0 3) 12 [0,3],.call [0] (.v (vI o3.x)) (Kc o3.c1),.as 26 (.v (vI (o3.x-1))),.ty .int,.call [0,5] (.v (vI o4.x)) z5,.ty .lev,.ty .lev,.at 0,.keep [2,3],.sel [0,1,4,2,7],.ty .int,.call [0] (.v (vI o3.x)) (Kc o3.c1),.as 26 (.v (vI (o3.x-1))),.call [0,5] (.v (vI o4.x)) z5,.ty .lev,.ty .lev,.at 0,.keep [2,3],.sel [0,1,4,2,7]] (.leaf (⟨(⟨o1.d.plan,o1.d.mode,o1.d.stack++[(⟨o3.x-1,o4.x⟩:Lev)],o1.d.scan,o1.d.start,o1.d.at_,o1.d.field,o1.d.wire,o1.d.want,o1.d.utf,o1.d.end_⟩:Dcd),o4.c1⟩:Cw) [0,3,4])) (.br (.intro (Tj o2.c1) fun o3=> .seg [.call [0] (.v (.agg (Km o3.s))) (Kc o3.c1)] (.leaf (⟨(⟨o1.d.plan,o1.d.mode,o1.d.stack,o3.s,o1.d.start,o1.d.at_,o1.d.field,o1.d.wire,o1.d.want,o1.d.utf,o1.d.end_⟩:Dcd),o3.c1⟩:Cw) [0,2,3])) (.br (.intro (Aa o2.c1 9) fun o3=> .seg [.call [0] (.v (vI o3.x)) (Kc o3.c1),.as 43 (.v (vI (o3.x-1)))] (.leaf (⟨(⟨o1.d.plan,o1.d.mode,o1.d.stack,o1.d.scan,o1.d.start,o1.d.at_,o1.d.field,o3.x-1,o1.d.want,o1.d.utf,o1.d.end_⟩:Dcd),o3.c1⟩:Cw) [0,2,3])) (.br (.intro (Aa o2.c1 5) fun o3=> .seg [.call [0] (.v (vI o3.x)) (Kc o3.c1),.as 49 (.v (vI (1+o3.x)))] (.intro (Aa o3.c1 8) fun o4=> .seg [.call [0] (.v (vI o4.x)) (Kc o4.c1),.as 52 (.v (vI (1+o4.x)))] (.leaf (⟨(⟨o1.d.plan,o1.d.mode,o1.d.stack,o1.d.scan,o1.d.start,o1.d.at_,(⟨1+o3.x,1+o4.x,false,false,(-1)⟩:Fld),o1.d.wire,o1.d.want,o1.d.utf,o1.d.end_⟩:Dcd),o4.c1⟩:Cw) [0,2,3]))) (.br (.intro (Rv o2.c1) fun o3=> .seg [.call [0] (.v (.agg (J8 o3.u))) (Kc o3.c1)] (.leaf (⟨(⟨o1.d.plan,o1.d.mode,o1.d.stack,o1.d.scan,o1.d.start,o1.d.at_,o1.d.field,o1.d.wire,o1.d.want,o3.u,o1.d.end_⟩:Dcd),o3.c1⟩:Cw) [0,2,3])) (.br (.intro (Ru o2.c1) fun o3=> .seg [.call [0] (.v (.agg (cEv o3.e))) (Kc o3.c1)] (.leaf (⟨(⟨o1.d.plan,o1.d.mode,o1.d.stack,o1.d.scan,o1.d.start,o1.d.at_,o1.d.field,o1.d.wire,o1.d.want,o1.d.utf,o3.e⟩:Dcd),o3.c1⟩:Cw) [0,2,3])) (.br (.seg [.ty .int,.pubS 68] (.intro (A4 o2.c1 [0,1000000000,1000000001,(-1),9223372036854775807]) fun o3=> .seg [.call [0] (.v (vI o3.x)) (Kc o3.c1)] (.leaf (⟨(⟨o1.d.plan,o1.d.mode,o1.d.stack,o1.d.scan,o1.d.start,o3.x,o1.d.field,o1.d.wire,o1.d.want,o1.d.utf,o1.d.end_⟩:Dcd),o3.c1⟩:Cw) [0,2,3]))) (.br (.seg [.ty .int,.pubS 79] (.intro (A4 o2.c1 [0,o1.d.at_,IntKind.i64.wrap (o1.d.at_+1),(-1)]) fun o3=> .seg [.call [0] (.v (vI o3.x)) (Kc o3.c1)] (.leaf (⟨(⟨o1.d.plan,o1.d.mode,o1.d.stack,o1.d.scan,o3.x,o1.d.at_,o1.d.field,o1.d.wire,o1.d.want,o1.d.utf,o1.d.end_⟩:Dcd),o3.c1⟩:Cw) [0,2,3]))) (.br (.intro (Aa o2.c1 4) fun o3=> .seg [.call [0] (.v (vI o3.x)) (Kc o3.c1)] (.leaf (⟨(⟨(⟨o1.d.plan.shapes,o1.d.plan.root,o3.x,o1.d.plan.most⟩:Pln),o1.d.mode,o1.d.stack,o1.d.scan,o1.d.start,o1.d.at_,o1.d.field,o1.d.wire,o1.d.want,o1.d.utf,o1.d.end_⟩:Dcd),o3.c1⟩:Cw) [0,2,3])) (.leaf (⟨o1.d,o2.c1⟩:Cw) [0,2,3]))))))))))))),In (Px c) fun o1=>(let z27:S:= .v (.agg (Ad 1 2 o1.d));(Ua c o1)∧In (Aa o1.c1 22) fun o2=>(let z26:List Blk:=[.cells (Bz o2.c1),.tree o1.d.plan.shapes,.lst .lev o1.d.stack];(Ai o1.c1 22 o2)∧Bc (decide (o2.x=0)) (In (Aa o2.c1 12) fun o3=>(let z1:S:= .v (.agg [.own 1,zi o1.d.plan.root,zi o1.d.plan.deep,zi o1.d.plan.most,zi (o3.x-1),.own 2,.int .u64 o1.d.scan.bits,zi o1.d.scan.have_,zi o1.d.start,zi o1.d.at_,zi o1.d.field.number,zi o1.d.field.kind,.bool o1.d.field.rep,.bool o1.d.field.packed,zi o1.d.field.msg,zi o1.d.wire,zi o1.d.want,zi o1.d.utf.want,zi o1.d.utf.low,zi o1.d.utf.high,zi o1.d.end_.kind,zi o1.d.end_.field,.int .u64 o1.d.end_.bits,zi o1.d.end_.len,.str o1.d.end_.text,zi o1.d.end_.code,zi o1.d.end_.at_]);let z2:List Blk:=[.cells (Bz o3.c1),.tree o1.d.plan.shapes,.lst .lev o1.d.stack];(Ai o2.c1 12 o3)∧(wI (o3.x-1))∧((DecB (⟨o1.d.plan,o3.x-1,o1.d.stack,o1.d.scan,o1.d.start,o1.d.at_,o1.d.field,o1.d.wire,o1.d.want,o1.d.utf,o1.d.end_⟩:Dcd))∧(Av o3.c1))∧Lf z1 z1 z2 z2)) (Bc (decide (o2.x=1)) (In (A4 o2.c1 [0,1,5,2000,(-1)]) fun o3=>(let z3:S:= .v (.agg [.own 1,zi o1.d.plan.root,zi o1.d.plan.deep,zi o1.d.plan.most,zi o1.d.mode,.own 2,.int .u64 o1.d.scan.bits,zi o1.d.scan.have_,zi o1.d.start,zi o1.d.at_,zi o1.d.field.number,zi o1.d.field.kind,.bool o1.d.field.rep,.bool o1.d.field.packed,zi o1.d.field.msg,zi o1.d.wire,zi o3.x,zi o1.d.utf.want,zi o1.d.utf.low,zi o1.d.utf.high,zi o1.d.end_.kind,zi o1.d.end_.field,.int .u64 o1.d.end_.bits,zi o1.d.end_.len,.str o1.d.end_.text,zi o1.d.end_.code,zi o1.d.end_.at_]);let z4:List Blk:=[.cells (Bz o3.c1),.tree o1.d.plan.shapes,.lst .lev o1.d.stack];(B5 o2.c1 [0,1,5,2000,(-1)] o3)∧((DecB (⟨o1.d.plan,o1.d.mode,o1.d.stack,o1.d.scan,o1.d.start,o1.d.at_,o1.d.field,o1.d.wire,o3.x,o1.d.utf,o1.d.end_⟩:Dcd))∧(Av o3.c1))∧Lf z3 z3 z4 z4)) (Bc (decide (o2.x=2)) (In (Aa o2.c1 4) fun o3=>(In (Gx o3.c1 [0,1,7,2000,2001,(-1)]) fun o4=>(let z7:=(⟨o3.x-1,o4.x⟩:Lev);let z6:List Blk:=[.cells (Bz o4.c1),.cells [.nil,zi 0,zi 0,zi 0,zi 0,.nil,.int .u64 0,zi 0,zi 0,zi 0,zi 0,zi 0,.bool false,.bool false,zi 0,zi 0,zi 0,zi 0,zi 0,zi 0,zi 0,zi 0,.int .u64 0,zi 0,.str [],zi 0,zi 0],.cells (Ad 3 4 o1.d),.tree o1.d.plan.shapes,.lst .lev (o1.d.stack++[z7])];let z8:List Blk:=[.cells (Bz o4.c1),.tree o1.d.plan.shapes,.lst .lev (o1.d.stack++[z7])];let z9:=Na o3.c1 [0,1,7,2000,2001,(-1)] o4;(Ai o2.c1 4 o3)∧(wI (o3.x-1))∧z9∧(List.length o1.d.stack+List.length [z7]≤Bb)∧(Ai o2.c1 4 o3)∧(wI (o3.x-1))∧z9∧(List.length o1.d.stack+List.length [z7]≤Bb)∧((z6:List Blk)=z6)∧(([(2,.v (vP 1)),(3,.v (vP 2))]:List (Nat×S))=[(2,.v (vP 1)),(3,.v (vP 2))])∧((DecB (⟨o1.d.plan,o1.d.mode,o1.d.stack++[z7],o1.d.scan,o1.d.start,o1.d.at_,o1.d.field,o1.d.wire,o1.d.want,o1.d.utf,o1.d.end_⟩:Dcd))∧(Av o4.c1))∧Lf z27 z27 z8 z8))) (Bc (decide (o2.x=3)) (In (Tj o2.c1) fun o3=>(let z10:S:= .v (.agg [.own 1,zi o1.d.plan.root,zi o1.d.plan.deep,zi o1.d.plan.most,zi o1.d.mode,.own 2,.int .u64 o3.s.bits,zi o3.s.have_,zi o1.d.start,zi o1.d.at_,zi o1.d.field.number,zi o1.d.field.kind,.bool o1.d.field.rep,.bool o1.d.field.packed,zi o1.d.field.msg,zi o1.d.wire,zi o1.d.want,zi o1.d.utf.want,zi o1.d.utf.low,zi o1.d.utf.high,zi o1.d.end_.kind,zi o1.d.end_.field,.int .u64 o1.d.end_.bits,zi o1.d.end_.len,.str o1.d.end_.text,zi o1.d.end_.code,zi o1.d.end_.at_]);let z11:List Blk:=[.cells (Bz o3.c1),.tree o1.d.plan.shapes,.lst .lev o1.d.stack];(Xv o2.c1 o3)∧((DecB (⟨o1.d.plan,o1.d.mode,o1.d.stack,o3.s,o1.d.start,o1.d.at_,o1.d.field,o1.d.wire,o1.d.want,o1.d.utf,o1.d.end_⟩:Dcd))∧(Av o3.c1))∧Lf z10 z10 z11 z11)) (Bc (decide (o2.x=4)) (In (Aa o2.c1 9) fun o3=>(let z12:S:= .v (.agg [.own 1,zi o1.d.plan.root,zi o1.d.plan.deep,zi o1.d.plan.most,zi o1.d.mode,.own 2,.int .u64 o1.d.scan.bits,zi o1.d.scan.have_,zi o1.d.start,zi o1.d.at_,zi o1.d.field.number,zi o1.d.field.kind,.bool o1.d.field.rep,.bool o1.d.field.packed,zi o1.d.field.msg,zi (o3.x-1),zi o1.d.want,zi o1.d.utf.want,zi o1.d.utf.low,zi o1.d.utf.high,zi o1.d.end_.kind,zi o1.d.end_.field,.int .u64 o1.d.end_.bits,zi o1.d.end_.len,.str o1.d.end_.text,zi o1.d.end_.code,zi o1.d.end_.at_]);let z13:List Blk:=[.cells (Bz o3.c1),.tree o1.d.plan.shapes,.lst .lev o1.d.stack];(Ai o2.c1 9 o3)∧(wI (o3.x-1))∧((DecB (⟨o1.d.plan,o1.d.mode,o1.d.stack,o1.d.scan,o1.d.start,o1.d.at_,o1.d.field,o3.x-1,o1.d.want,o1.d.utf,o1.d.end_⟩:Dcd))∧(Av o3.c1))∧Lf z12 z12 z13 z13)) (Bc (decide (o2.x=5)) (In (Aa o2.c1 5) fun o3=>((Ai o2.c1 5 o3)∧(wI (1+o3.x))∧In (Aa o3.c1 8) fun o4=>(let z14:S:= .v (.agg [.own 1,zi o1.d.plan.root,zi o1.d.plan.deep,zi o1.d.plan.most,zi o1.d.mode,.own 2,.int .u64 o1.d.scan.bits,zi o1.d.scan.have_,zi o1.d.start,zi o1.d.at_,zi (1+o3.x),zi (1+o4.x),.bool false,.bool false,zi (-1),zi o1.d.wire,zi o1.d.want,zi o1.d.utf.want,zi o1.d.utf.low,zi o1.d.utf.high,zi o1.d.end_.kind,zi o1.d.end_.field,.int .u64 o1.d.end_.bits,zi o1.d.end_.len,.str o1.d.end_.text,zi o1.d.end_.code,zi o1.d.end_.at_]);let z15:List Blk:=[.cells (Bz o4.c1),.tree o1.d.plan.shapes,.lst .lev o1.d.stack];(Ai o3.c1 8 o4)∧(wI (1+o4.x))∧((DecB (⟨o1.d.plan,o1.d.mode,o1.d.stack,o1.d.scan,o1.d.start,o1.d.at_,(⟨1+o3.x,1+o4.x,false,false,(-1)⟩:Fld),o1.d.wire,o1.d.want,o1.d.utf,o1.d.end_⟩:Dcd))∧(Av o4.c1))∧Lf z14 z14 z15 z15))) (Bc (decide (o2.x=6)) (In (Rv o2.c1) fun o3=>(let z16:S:= .v (.agg [.own 1,zi o1.d.plan.root,zi o1.d.plan.deep,zi o1.d.plan.most,zi o1.d.mode,.own 2,.int .u64 o1.d.scan.bits,zi o1.d.scan.have_,zi o1.d.start,zi o1.d.at_,zi o1.d.field.number,zi o1.d.field.kind,.bool o1.d.field.rep,.bool o1.d.field.packed,zi o1.d.field.msg,zi o1.d.wire,zi o1.d.want,zi o3.u.want,zi o3.u.low,zi o3.u.high,zi o1.d.end_.kind,zi o1.d.end_.field,.int .u64 o1.d.end_.bits,zi o1.d.end_.len,.str o1.d.end_.text,zi o1.d.end_.code,zi o1.d.end_.at_]);let z17:List Blk:=[.cells (Bz o3.c1),.tree o1.d.plan.shapes,.lst .lev o1.d.stack];(Wf o2.c1 o3)∧((DecB (⟨o1.d.plan,o1.d.mode,o1.d.stack,o1.d.scan,o1.d.start,o1.d.at_,o1.d.field,o1.d.wire,o1.d.want,o3.u,o1.d.end_⟩:Dcd))∧(Av o3.c1))∧Lf z16 z16 z17 z17)) (Bc (decide (o2.x=7)) (In (Ru o2.c1) fun o3=>(let z18:S:= .v (.agg [.own 1,zi o1.d.plan.root,zi o1.d.plan.deep,zi o1.d.plan.most,zi o1.d.mode,.own 2,.int .u64 o1.d.scan.bits,zi o1.d.scan.have_,zi o1.d.start,zi o1.d.at_,zi o1.d.field.number,zi o1.d.field.kind,.bool o1.d.field.rep,.bool o1.d.field.packed,zi o1.d.field.msg,zi o1.d.wire,zi o1.d.want,zi o1.d.utf.want,zi o1.d.utf.low,zi o1.d.utf.high,zi o3.e.kind,zi o3.e.field,.int .u64 o3.e.bits,zi o3.e.len,.str o3.e.text,zi o3.e.code,zi o3.e.at_]);let z19:List Blk:=[.cells (Bz o3.c1),.tree o1.d.plan.shapes,.lst .lev o1.d.stack];(We o2.c1 o3)∧((DecB (⟨o1.d.plan,o1.d.mode,o1.d.stack,o1.d.scan,o1.d.start,o1.d.at_,o1.d.field,o1.d.wire,o1.d.want,o1.d.utf,o3.e⟩:Dcd))∧(Av o3.c1))∧Lf z18 z18 z19 z19)) (Bc (decide (o2.x=8)) (In (A4 o2.c1 [0,1000000000,1000000001,(-1),9223372036854775807]) fun o3=>(let z20:S:= .v (.agg [.own 1,zi o1.d.plan.root,zi o1.d.plan.deep,zi o1.d.plan.most,zi o1.d.mode,.own 2,.int .u64 o1.d.scan.bits,zi o1.d.scan.have_,zi o1.d.start,zi o3.x,zi o1.d.field.number,zi o1.d.field.kind,.bool o1.d.field.rep,.bool o1.d.field.packed,zi o1.d.field.msg,zi o1.d.wire,zi o1.d.want,zi o1.d.utf.want,zi o1.d.utf.low,zi o1.d.utf.high,zi o1.d.end_.kind,zi o1.d.end_.field,.int .u64 o1.d.end_.bits,zi o1.d.end_.len,.str o1.d.end_.text,zi o1.d.end_.code,zi o1.d.end_.at_]);let z21:List Blk:=[.cells (Bz o3.c1),.tree o1.d.plan.shapes,.lst .lev o1.d.stack];(B5 o2.c1 [0,1000000000,1000000001,(-1),9223372036854775807] o3)∧((DecB (⟨o1.d.plan,o1.d.mode,o1.d.stack,o1.d.scan,o1.d.start,o3.x,o1.d.field,o1.d.wire,o1.d.want,o1.d.utf,o1.d.end_⟩:Dcd))∧(Av o3.c1))∧Lf z20 z20 z21 z21)) (Bc (decide (o2.x=9)) (In (A4 o2.c1 [0,o1.d.at_,IntKind.i64.wrap (o1.d.at_+1),(-1)]) fun o3=>(let z22:S:= .v (.agg [.own 1,zi o1.d.plan.root,zi o1.d.plan.deep,zi o1.d.plan.most,zi o1.d.mode,.own 2,.int .u64 o1.d.scan.bits,zi o1.d.scan.have_,zi o3.x,zi o1.d.at_,zi o1.d.field.number,zi o1.d.field.kind,.bool o1.d.field.rep,.bool o1.d.field.packed,zi o1.d.field.msg,zi o1.d.wire,zi o1.d.want,zi o1.d.utf.want,zi o1.d.utf.low,zi o1.d.utf.high,zi o1.d.end_.kind,zi o1.d.end_.field,.int .u64 o1.d.end_.bits,zi o1.d.end_.len,.str o1.d.end_.text,zi o1.d.end_.code,zi o1.d.end_.at_]);let z23:List Blk:=[.cells (Bz o3.c1),.tree o1.d.plan.shapes,.lst .lev o1.d.stack];(B5 o2.c1 [0,o1.d.at_,IntKind.i64.wrap (o1.d.at_+1),(-1)] o3)∧((DecB (⟨o1.d.plan,o1.d.mode,o1.d.stack,o1.d.scan,o3.x,o1.d.at_,o1.d.field,o1.d.wire,o1.d.want,o1.d.utf,o1.d.end_⟩:Dcd))∧(Av o3.c1))∧Lf z22 z22 z23 z23)) (Bc (decide (o2.x=10)) (In (Aa o2.c1 4) fun o3=>(let z24:S:= .v (.agg [.own 1,zi o1.d.plan.root,zi o3.x,zi o1.d.plan.most,zi o1.d.mode,.own 2,.int .u64 o1.d.scan.bits,zi o1.d.scan.have_,zi o1.d.start,zi o1.d.at_,zi o1.d.field.number,zi o1.d.field.kind,.bool o1.d.field.rep,.bool o1.d.field.packed,zi o1.d.field.msg,zi o1.d.wire,zi o1.d.want,zi o1.d.utf.want,zi o1.d.utf.low,zi o1.d.utf.high,zi o1.d.end_.kind,zi o1.d.end_.field,.int .u64 o1.d.end_.bits,zi o1.d.end_.len,.str o1.d.end_.text,zi o1.d.end_.code,zi o1.d.end_.at_]);let z25:List Blk:=[.cells (Bz o3.c1),.tree o1.d.plan.shapes,.lst .lev o1.d.stack];(Ai o2.c1 4 o3)∧((DecB (⟨(⟨o1.d.plan.shapes,o1.d.plan.root,o3.x,o1.d.plan.most⟩:Pln),o1.d.mode,o1.d.stack,o1.d.scan,o1.d.start,o1.d.at_,o1.d.field,o1.d.wire,o1.d.want,o1.d.utf,o1.d.end_⟩:Dcd))∧(Av o3.c1))∧Lf z24 z24 z25 z25)) (((DecB o1.d)∧(Av o2.c1))∧Lf z27 z27 z26 z26))))))))))))))) Q4 ?_
 refine⟨(Ad2 c Q0),fun o1 ho_o1=>?_⟩
 obtain ⟨⟨hp_o1_0,hp_o1_1,hp_o1_2⟩,hf_o1⟩:=ho_o1
 refine⟨hf_o1,(Am o1.c1 22 Q0),fun o2 ho_o2=>?_⟩
 obtain ⟨⟨hp_o2_0,hp_o2_1,hp_o2_2,hp_o2_3⟩,hf_o2⟩:=ho_o2
 refine⟨hf_o2,dsp (fun h1 p1=>?_) fun h1 p1=>?_⟩
 refine⟨(Am o2.c1 12 Q0),fun o3 ho_o3=>?_⟩
 obtain ⟨⟨hp_o3_0,hp_o3_1,hp_o3_2,hp_o3_3⟩,hf_o3⟩:=ho_o3
 exact⟨hf_o3,(Ac Q2 Q2),⟨Q8,Q0⟩,rfl,rfl⟩
 refine dsp (fun h2 p2=>?_) fun h2 p2=>?_
 refine⟨(Cv o2.c1 [0,1,5,2000,(-1)] Q0 Q5 Q5),fun o3 ho_o3=>?_⟩
 obtain ⟨⟨hp_o3_0,hp_o3_1⟩,hf_o3⟩:=ho_o3
 exact⟨hf_o3,⟨Q8,Q0⟩,rfl,rfl⟩
 refine dsp (fun h3 p3=>?_) fun h3 p3=>?_
 refine⟨(Am o2.c1 4 Q0),fun o3 ho_o3=>?_⟩
 obtain ⟨⟨hp_o3_0,hp_o3_1,hp_o3_2,hp_o3_3⟩,hf_o3⟩:=ho_o3
 refine⟨(Wa o3.c1 [0,1,7,2000,2001,(-1)] Q0 Q5 Q5),fun o4 ho_o4=>?_⟩
 obtain ⟨⟨hp_o4_0,hp_o4_1⟩,hf_o4⟩:=ho_o4
 exact⟨hf_o3,(Ac Q2 Q2),hf_o4,(by have:=hp_o1_0.stack;simp only[List.length_cons,List.length_nil];omega),hf_o3,(Ac Q2 Q2),hf_o4,(by have:=hp_o1_0.stack;simp only[List.length_cons,List.length_nil];omega),rfl,rfl,⟨Q8,Q0⟩,rfl,rfl⟩
 refine dsp (fun h4 p4=>?_) fun h4 p4=>?_
 refine⟨(Aim o2.c1 Q0),fun o3 ho_o3=>?_⟩
 obtain ⟨⟨hp_o3_0,hp_o3_1⟩,hf_o3⟩:=ho_o3
 exact⟨hf_o3,⟨Q8,Q0⟩,rfl,rfl⟩
 refine dsp (fun h5 p5=>?_) fun h5 p5=>?_
 refine⟨(Am o2.c1 9 Q0),fun o3 ho_o3=>?_⟩
 obtain ⟨⟨hp_o3_0,hp_o3_1,hp_o3_2,hp_o3_3⟩,hf_o3⟩:=ho_o3
 exact⟨hf_o3,(Ac Q2 Q2),⟨Q8,Q0⟩,rfl,rfl⟩
 refine dsp (fun h6 p6=>?_) fun h6 p6=>?_
 refine⟨(Am o2.c1 5 Q0),fun o3 ho_o3=>?_⟩
 obtain ⟨⟨hp_o3_0,hp_o3_1,hp_o3_2,hp_o3_3⟩,hf_o3⟩:=ho_o3
 refine⟨hf_o3,(Ac Q2 Q2),(Am o3.c1 8 Q0),fun o4 ho_o4=>?_⟩
 obtain ⟨⟨hp_o4_0,hp_o4_1,hp_o4_2,hp_o4_3⟩,hf_o4⟩:=ho_o4
 exact⟨hf_o4,(Ac Q2 Q2),⟨Q8,Q0⟩,rfl,rfl⟩
 refine dsp (fun h7 p7=>?_) fun h7 p7=>?_
 refine⟨(Agu o2.c1 Q0),fun o3 ho_o3=>?_⟩
 obtain ⟨hp_o3,hf_o3⟩:=ho_o3
 exact⟨hf_o3,⟨Q8,Q0⟩,rfl,rfl⟩
 refine dsp (fun h8 p8=>?_) fun h8 p8=>?_
 refine⟨(Agt o2.c1 Q0),fun o3 ho_o3=>?_⟩
 obtain ⟨⟨hp_o3_0,hp_o3_1,hp_o3_2⟩,hf_o3⟩:=ho_o3
 exact⟨hf_o3,⟨Q8,Q0⟩,rfl,rfl⟩
 refine dsp (fun h9 p9=>?_) fun h9 p9=>?_
 refine⟨(Cv o2.c1 [0,1000000000,1000000001,(-1),9223372036854775807] Q0 Q5 Q5),fun o3 ho_o3=>?_⟩
 obtain ⟨⟨hp_o3_0,hp_o3_1⟩,hf_o3⟩:=ho_o3
 exact⟨hf_o3,⟨Q8,Q0⟩,rfl,rfl⟩
 refine dsp (fun h10 p10=>?_) fun h10 p10=>?_
 refine⟨(Cv o2.c1 [0,o1.d.at_,IntKind.i64.wrap (o1.d.at_+1),(-1)] Q0 Q5 Q5),fun o3 ho_o3=>?_⟩
 obtain ⟨⟨hp_o3_0,hp_o3_1⟩,hf_o3⟩:=ho_o3
 exact⟨hf_o3,⟨Q8,Q0⟩,rfl,rfl⟩
 refine dsp (fun h11 p11=>?_) fun h11 p11=>?_
 refine⟨(Am o2.c1 4 Q0),fun o3 ho_o3=>?_⟩
 obtain ⟨⟨hp_o3_0,hp_o3_1,hp_o3_2,hp_o3_3⟩,hf_o3⟩:=ho_o3
 exact⟨hf_o3,⟨Q8,Q0⟩,rfl,rfl⟩
 exact⟨⟨Q8,Q0⟩,rfl,rfl⟩
structure Ei where
 d:Dcd
 t:List UInt8
def Py (code:List Int) (o:Ei):Prop:=Fun Tryz.prog 78 [.c (.seq .u8 code)] [] (.tup [.agg (Bu o.d),vT o.t]) []
def Ki (code:List Int) (o:Ei):Prop:=((DecB o.d)∧(List.length (o.t:List UInt8)≤200000))∧Py code o
theorem Yu (code:List Int) (hp1:List.length code≤1048576): ∃o:Ei,Ki code o:=by
 have hN:Bb=274877906944:=rfl
 refine Br Tryz.func78 Q4 Q4 (w:=let z6:=fr (.one 3 (.one 4 (.two 5 (.one 6 (.first 7 (.done))) 6 (.one 5 (.first 7 (.done)))))) 0 3;(.intro (Pn code) fun o1=> .seg [.call [] (.v (vP 0)) (Kc o1.c1)] (.intro (Rw o1.c1) fun o2=> .seg [.call [1] (.v (.agg (Ad 1 2 o2.d))) [.cells (Bz o2.c1),.tree o2.d.plan.shapes,.lst .lev o2.d.stack]] (.br (.seg [.call [] (.v (vB (C8 o2.d.plan))) []] (.br (.intro (Hw o2.c1 o2.d.plan) fun o3=> .seg [.at 5,.pub 4 0,.tree (fr (.one 4 (.one 5 (.first 6 (.done)))) 0 4) 5 [1],.call [1] (.v (vT o3.t)) (Kc o3.c1),.at 0,.pub 0 5] (.leaf (⟨o2.d,o3.t⟩:Ei) [])) (.intro (Aa o2.c1 12) fun o3=> .intro (Bj o3.c1 o3.x) fun o4=> .seg [.tree z6 8 [0,1],.call [1] (.v (vI o3.x)) (Kc o3.c1),.call [1] (.v (vO 1)) [.cells (Bz o4.c1),.lst .u8 o4.l],.at 0,.keep [2,3],.sel [0,2,3],.at 0,.keep [2,3],.sel [0,2,3],.at 0,.pub 0 0,.pub 0 5] (.leaf (⟨o2.d,List.map A9 o4.l⟩:Ei) [])))) (.intro (Aa o2.c1 12) fun o3=> .intro (Bj o3.c1 o3.x) fun o4=> .seg [.tree z6 8 [0,1],.call [1] (.v (vI o3.x)) (Kc o3.c1),.call [1] (.v (vO 1)) [.cells (Bz o4.c1),.lst .u8 o4.l],.at 0,.keep [2,3],.sel [0,2,3],.at 0,.keep [2,3],.sel [0,2,3],.at 0,.pub 0 0,.pub 0 5] (.leaf (⟨o2.d,List.map A9 o4.l⟩:Ei) [])))),In (Pn code) fun o1=>((V3 code o1)∧In (Rw o1.c1) fun o2=>(let z4:List Blk:=[.cells (Ad 1 2 o2.d),.tree o2.d.plan.shapes,.lst .lev o2.d.stack];let z5:=Bu o2.d;(Wg o1.c1 o2)∧Bc (decide (o2.d.mode=1)) ((Fp 42 [.agg (Nw o2.d.plan)] [] (.v (vB (C8 o2.d.plan))) [])∧Bc (C8 o2.d.plan) (In (Hw o2.c1 o2.d.plan) fun o3=>(let z1:S:= .tup [.agg z5,vT o3.t];(Pv o2.c1 o2.d.plan o3)∧((DecB o2.d)∧(List.length (o3.t:List UInt8)≤200000))∧Lf z1 z1 [] [])) (In (Aa o2.c1 12) fun o3=>(In (Bj o3.c1 o3.x) fun o4=>(let z2:=List.map A9 o4.l;(Ai o2.c1 12 o3)∧(Cp o3.c1 o3.x o4)∧((z4:List Blk)=z4)∧(([(2,.v (vP 0)),(3,.v (vT z2))]:List (Nat×S))=[(2,.v (vP 0)),(3,.v (vT z2))])∧((DecB o2.d)∧(List.length (z2:List UInt8)≤200000))∧Lf (.tup [.agg z5,vT z2]) (.tup [.agg z5,vT z2]) [] [])))) (In (Aa o2.c1 12) fun o3=>(In (Bj o3.c1 o3.x) fun o4=>(let z3:=List.map A9 o4.l;(Ai o2.c1 12 o3)∧(Cp o3.c1 o3.x o4)∧((z4:List Blk)=z4)∧(([(2,.v (vP 0)),(3,.v (vT z3))]:List (Nat×S))=[(2,.v (vP 0)),(3,.v (vT z3))])∧((DecB o2.d)∧(List.length (z3:List UInt8)≤200000))∧Lf (.tup [.agg z5,vT z3]) (.tup [.agg z5,vT z3]) [] []))))))) Q4 ?_
 refine⟨(Agg code Q76),fun o1 ho_o1=>?_⟩
 obtain ⟨hp_o1,hf_o1⟩:=ho_o1
 refine⟨hf_o1,(Agw o1.c1 Q0),fun o2 ho_o2=>?_⟩
 obtain ⟨⟨hp_o2_0,hp_o2_1⟩,hf_o2⟩:=ho_o2
 refine⟨hf_o2,dsp (fun h1 p1=>?_) fun h1 p1=>?_⟩
 refine⟨(Un o2.d.plan),fun h2=>have p2:=Cc h2;?_,fun h2=>?_⟩
 refine⟨(Xu o2.c1 o2.d.plan Q0 (DecB.good Q81 Q81)),fun o3 ho_o3=>?_⟩
 obtain ⟨⟨hp_o3_0,hp_o3_1⟩,hf_o3⟩:=ho_o3
 exact⟨hf_o3,⟨Q81,Q76⟩,rfl,rfl⟩
 refine⟨(Am o2.c1 12 Q0),fun o3 ho_o3=>?_⟩
 obtain ⟨⟨hp_o3_0,hp_o3_1,hp_o3_2,hp_o3_3⟩,hf_o3⟩:=ho_o3
 refine⟨(Dv o3.c1 o3.x Q0 Q2),fun o4 ho_o4=>?_⟩
 obtain ⟨⟨hp_o4_0,hp_o4_1⟩,hf_o4⟩:=ho_o4
 exact⟨hf_o3,hf_o4,rfl,rfl,⟨Q81,Q76⟩,rfl,rfl⟩
 refine⟨(Am o2.c1 12 Q0),fun o3 ho_o3=>?_⟩
 obtain ⟨⟨hp_o3_0,hp_o3_1,hp_o3_2,hp_o3_3⟩,hf_o3⟩:=ho_o3
 refine⟨(Dv o3.c1 o3.x Q0 Q2),fun o4 ho_o4=>?_⟩
 obtain ⟨⟨hp_o4_0,hp_o4_1⟩,hf_o4⟩:=ho_o4
 exact⟨hf_o3,hf_o4,rfl,rfl,⟨Q81,Q76⟩,rfl,rfl⟩
theorem Amr (l:List Int) (hp1:((List.length l:Nat):Int)≤9223372036854775807):Fun Tryz.prog 10 [.c (.seq .u8 l)] [] (.v (vB (decide (1048576<((List.length l:Nat):Int))))) []:=by
 have hN:Bb=274877906944:=rfl
 refine Ap Tryz.func10 Q4 Q4 (w:=let z1:S:= .v (vB (decide (1048576<((List.length l:Nat):Int))));(.leaf () [],Lf z1 z1 [] [])) Q4 ?_
 exact⟨rfl,rfl⟩
structure Wh where
 x:Int
def Agx (l:List Int) (i:Int) (o:Wh):Prop:=Fun Tryz.prog 16 [.c (.seq .u8 l),vI i] [] (.v (vI o.x)) []
def Abb (l:List Int) (i:Int) (o:Wh):Prop:=(((0:Int)≤o.x∧o.x≤255))∧Agx l i o
theorem Anh (l:List Int) (i:Int) (hp1:(0:Int)≤i∧i≤1048576) (hp2:List.length l≤1048576) (hp3: ∀e∈l,(0:Int)≤e∧e≤255): ∃o:Wh,Abb l i o:=by
 have hN:Bb=274877906944:=rfl
 refine Br Tryz.func16 Q4 Q4 (w:=let z1:=(i*7)+((List.length l:Nat):Int);let z2:=Int.tmod z1 256;(.br (.intro (Sx (l[Int.toNat i]?)) fun x1=> .seg [.el .u8 x1,.as 13 (.v (vI x1))] (.leaf (⟨x1⟩:Wh) [])) (.seg [.as 15 (.v (vI (i*7))),.as 18 (.v (vI z1))] (.leaf (⟨Int.tmod z1 256⟩:Wh) [])),Bc (decide (i<((List.length l:Nat):Int))) (El (l[Int.toNat i]?) fun x1=>((l[Int.toNat i]? =some x1)∧((0:Int)≤i)∧(wI (x1))∧(((0:Int)≤x1∧x1≤255))∧Lf (.v (vI x1)) (.v (vI x1)) [] [])) ((wI (i*7))∧(wI z1)∧((256:Int)≠0)∧(((0:Int)≤z2∧z2≤255))∧Lf (.v (vI z2)) (.v (vI z2)) [] []))) Q4 ?_
 refine dsp (fun h1 p1=>?_) fun h1 p1=>?_
 refine⟨(Bh (l:=l) (i:=Int.toNat i) Q2),fun x1 hx1=>?_⟩
 have hub:=hp3 _ (List.mem_of_getElem? hx1)
 exact⟨hx1,Q71,(Ac Q2 Q2),Q71,rfl,rfl⟩
 exact⟨(Ac Q2 Q2),(Ac Q2 Q2),Q28,Q71,rfl,rfl⟩
structure Ux where
 o:List Int
def Acn (code:List Int) (n:Int) (o:Ux):Prop:=Fun Tryz.prog 39 [.c (.seq .u8 code),vI n] [] (.v (vO 0)) [.lst .int o.o]
def Yv (code:List Int) (n:Int) (o:Ux):Prop:=((List.length (o.o:List Int)≤100))∧Acn code n o
structure Sq where
 out:List Int
 i:Nat
def Sr (code:List Int) (n:Int):Fam:=⟨Sq,fun q1=>[(0,.v (.c (.seq .u8 code))),(1,.v (vI n)),(5,.v (vO 0)),(6,.v (vI ((q1.i:Nat):Int)))],fun q1=>[.lst .int q1.out],fun q1=>List.length q1.out=q1.i∧q1.i≤100,fun q1=>100-q1.i⟩
theorem Ams (code:List Int) (n:Int) (hp1:n≤100) (hp2:List.length code≤1048576) (hp3: ∀e∈code,(0:Int)≤e∧e≤255): ∃o:Ux,Yv code n o:=by
 have hN:Bb=274877906944:=rfl
 refine Br Tryz.func39 Q4 Q4 (w:=let z3:=Sr code n;(.seg [.ty .int,.at 0,.keep [0,1,5,6],.sel [0]] (.loop z3 fun q1=>let z1:=((q1.i:Nat):Int);.br (.seg [.as 16 (.v (vI (3*z1))),.as 17 (.v (vI (3*z1+1)))] (.intro (Abb code (3*z1+1)) fun o1=> .seg [.call [] (.v (vI o1.x)) [],.as 20 (.v (vI (Int.tmod o1.x 7-1))),.ty .int,.ty .int,.as 12 (.v (vI (z1+1))),.at 0,.keep [0,1,5,6],.sel [2]] (.next))) (.leaf (⟨q1.out⟩:Ux) [0])),z3.Has [(0,.v (.c (.seq .u8 code))),(1,.v (vI n)),(5,.v (vO 0)),(6,.v (vI 0))] [.lst .int ([]:List Int)]∧∀q1,z3.inv q1→(let z2:=((q1.i:Nat):Int);Bc (decide (z2<n)) ((wI (3*z2))∧((.v (vI (IntKind.i64.wrap ((3*z2)+1))):S)= .v (vI (3*z2+1)))∧In (Abb code (3*z2+1)) fun o1=>((Agx code (3*z2+1) o1)∧((7:Int)≠0)∧((.v (vI (IntKind.i64.wrap ((Int.tmod o1.x 7)-1))):S)= .v (vI (Int.tmod o1.x 7-1)))∧(List.length q1.out+List.length [Int.tmod o1.x 7-1]≤Bb)∧(wI (z2+1))∧z3.Nxt q1 [(0,.v (.c (.seq .u8 code))),(1,.v (vI n)),(5,.v (vO 0)),(6,.v (vI (z2+1)))] [.lst .int (q1.out++[Int.tmod o1.x 7-1])])) (((List.length (q1.out:List Int)≤100))∧Lf (.v (vO 0)) (.v (vO 0)) [.lst .int q1.out] [.lst .int q1.out])))) Q4 ?_
 refine⟨Bf (j:=(⟨([]:List Int),0⟩:Sq)) Q9 rfl (by dsimp only[Sr];exact⟨rfl,by omega⟩),fun (q1:Sq) hq_q1=>?_⟩
 have hi_q1:List.length q1.out=q1.i∧q1.i≤100:=hq_q1
 obtain ⟨v1,v2⟩:=hi_q1
 refine dsp (fun h1 p1=>?_) fun h1 p1=>?_
 refine⟨(Ac Q2 Q2),(Ac Q2 Q2),(Anh code (3*((q1.i:Nat):Int)+1) Q2 Q2 (hp3)),fun o1 ho_o1=>?_⟩
 obtain ⟨hp_o1,hf_o1⟩:=ho_o1
 exact⟨hf_o1,Q28,(Ac (by have:=Pd o1.x 7;omega) (by have:=Pd o1.x 7;omega)),(by have:=Pd o1.x 7;simp only[List.length_cons,List.length_nil];omega),(Ac Q2 Q2),A3 (j:=(⟨q1.out++[Int.tmod o1.x 7-1],q1.i+1⟩:Sq)) Q9 rfl (by dsimp only[Sr];exact⟨by simp;omega,by omega⟩) (by dsimp only[Sr];omega)⟩
 exact⟨Q2,rfl,rfl⟩
structure Hy where
 l:List Int
 c1:Cur
def Ub (c:Cur) (o:Hy):Prop:=Fun Tryz.prog 80 [vP 0] [.cells (Bz c)] (.v (vO 1)) [.cells (Bz o.c1),.lst .int o.l]
def Pz (c:Cur) (o:Hy):Prop:=((List.length (o.l:List Int)≤20)∧(Av o.c1))∧Ub c o
structure Jr where
 c:Cur
 out:List Int
 i:Nat
def G3 (o1:Co):Fam:=⟨Jr,fun q1=>[(0,.v (vP 0)),(3,.v (vO 1)),(4,.v (vI o1.x)),(5,.v (vI ((q1.i:Nat):Int)))],fun q1=>[.cells (Bz q1.c),.lst .int q1.out],fun q1=>Av q1.c∧List.length q1.out=q1.i∧q1.i≤9,fun q1=>10-q1.i⟩
theorem Ad3 (c:Cur) (hp1:Av c): ∃o:Hy,Pz c o:=by
 have hN:Bb=274877906944:=rfl
 refine Br Tryz.func80 Q4 Q4 (w:=let z4:= -9223372036854775808;(.seg [.ty .int] (.intro (Aa c 9) fun o1=> .seg [.call [0] (.v (vI o1.x)) (Kc o1.c1),.at 0,.keep [0,3,4,5],.sel [0,1]] (.loop (G3 o1) fun q1=> .br (.seg [.ty .int,.pubS 16] (.intro (A4 q1.c [0,1,1,2,3,5,9,30,(-1)]) fun o2=> .seg [.call [0] (.v (vI o2.x)) (Kc o2.c1),.ty .int,.ty .int,.as 13 (.v (vI (((q1.i:Nat):Int)+1))),.at 0,.keep [0,3,4,5],.sel [0,4]] (.next))) (.intro (Aq q1.c 12) fun o2=> .seg [.call [0] (.v (vB o2.p)) (Kc o2.c1)] (.br (.seg [.ty .int,.pubS 24] (.intro (A4 o2.c1 [9223372036854775807,z4]) fun o3=> .seg [.call [0] (.v (vI o3.x)) (Kc o3.c1),.ty .int,.ty .int] (.leaf (⟨q1.out++[o3.x],o3.c1⟩:Hy) [0,4]))) (.leaf (⟨q1.out,o2.c1⟩:Hy) [0,1]))))),In (Aa c 9) fun o1=>(let z3:=G3 o1;(Ai c 9 o1)∧z3.Has [(0,.v (vP 0)),(3,.v (vO 1)),(4,.v (vI o1.x)),(5,.v (vI 0))] [.cells (Bz o1.c1),.lst .int ([]:List Int)]∧∀q1,z3.inv q1→(let z2:=((q1.i:Nat):Int);Bc (decide (z2<o1.x)) (In (A4 q1.c [0,1,1,2,3,5,9,30,(-1)]) fun o2=>((B5 q1.c [0,1,1,2,3,5,9,30,(-1)] o2)∧(List.length q1.out+List.length [o2.x]≤Bb)∧(wI (z2+1))∧z3.Nxt q1 [(0,.v (vP 0)),(3,.v (vO 1)),(4,.v (vI o1.x)),(5,.v (vI (z2+1)))] [.cells (Bz o2.c1),.lst .int (q1.out++[o2.x])])) (In (Aq q1.c 12) fun o2=>((Bg q1.c 12 o2)∧Bc o2.p (In (A4 o2.c1 [9223372036854775807,z4]) fun o3=>(let z1:List Blk:=[.cells (Bz o3.c1),.lst .int (q1.out++[o3.x])];(B5 o2.c1 [9223372036854775807,z4] o3)∧(List.length q1.out+List.length [o3.x]≤Bb)∧((List.length ((q1.out++[o3.x]):List Int)≤20)∧(Av o3.c1))∧Lf (.v (vO 1)) (.v (vO 1)) z1 z1)) (((List.length (q1.out:List Int)≤20)∧(Av o2.c1))∧Lf (.v (vO 1)) (.v (vO 1)) [.cells (Bz o2.c1),.lst .int q1.out] [.cells (Bz o2.c1),.lst .int q1.out]))))))) Q4 ?_
 refine⟨(Am c 9 Q0),fun o1 ho_o1=>?_⟩
 obtain ⟨⟨hp_o1_0,hp_o1_1,hp_o1_2,hp_o1_3⟩,hf_o1⟩:=ho_o1
 refine⟨hf_o1,Bf (j:=(⟨o1.c1,([]:List Int),0⟩:Jr)) Q9 rfl (by dsimp only[G3];exact⟨by assumption,rfl,by omega⟩),fun (q1:Jr) hq_q1=>?_⟩
 have hi_q1:Av q1.c∧List.length q1.out=q1.i∧q1.i≤9:=hq_q1
 obtain ⟨v1,v2,v3⟩:=hi_q1
 refine dsp (fun h1 p1=>?_) fun h1 p1=>?_
 refine⟨(Cv q1.c [0,1,1,2,3,5,9,30,(-1)] Q0 Q5 Q5),fun o2 ho_o2=>?_⟩
 obtain ⟨⟨hp_o2_0,hp_o2_1⟩,hf_o2⟩:=ho_o2
 exact⟨hf_o2,Q5,(Ac Q2 Q2),A3 (j:=(⟨o2.c1,q1.out++[o2.x],q1.i+1⟩:Jr)) Q9 rfl (by dsimp only[G3];exact⟨by assumption,by simp;omega,by omega⟩) (by dsimp only[G3];omega)⟩
 refine⟨(By q1.c 12 Q0),fun o2 ho_o2=>?_⟩
 obtain ⟨hp_o2,hf_o2⟩:=ho_o2
 refine⟨hf_o2,fun h2=>?_,fun h2=>?_⟩
 refine⟨(Cv o2.c1 [9223372036854775807,(-9223372036854775808)] Q0 Q5 Q5),fun o3 ho_o3=>?_⟩
 obtain ⟨⟨hp_o3_0,hp_o3_1⟩,hf_o3⟩:=ho_o3
 exact⟨hf_o3,Q5,⟨Q47,Q0⟩,rfl,rfl⟩
 exact⟨⟨Q2,Q0⟩,rfl,rfl⟩
theorem Ad4 (l:List Int) (hp1:List.length l≤1048576):Fun Tryz.prog 81 [.c (.seq .u8 l)] [] (.v (.c (.seq .u8 (List.drop 1 l)))) []:=by
 have hN:Bb=274877906944:=rfl
 refine Ap Tryz.func81 Q4 Q4 (w:=let z1:S:= .v (.c (.seq .u8 (List.drop 1 l)));(.br (.leaf () []) (.leaf () []),Bc (decide (((List.length l:Nat):Int)=0)) (Lf (.v (.c (.seq .u8 l))) z1 [] []) ((1≤((List.length l:Nat):Int))∧((0:Int)≤1)∧Lf z1 z1 [] []))) Q4 ?_
 refine dsp (fun h1 p1=>?_) fun h1 p1=>?_
 refine⟨(congrArg S.v (congrArg V.c (congrArg (C.seq .u8) ?_))),rfl⟩
 rotate_left
 exact⟨Q2,Q28,rfl,rfl⟩
 all_goals first|(rfl)|((rw[List.eq_nil_of_length_eq_zero (l:=l) (by omega)];rfl))|((rw[List.take_of_length_le (by omega)];done))|(simp)
structure Wi where
 o:List (List UInt8)
def Agy (s:List UInt8) (l:List Int) (o:Wi):Prop:=Fun Tryz.prog 79 [vT s,.c (.seq .int l)] [] (.v (vO 0)) [.lst .str o.o]
def Abc (s:List UInt8) (l:List Int) (o:Wi):Prop:=((List.flatten (o.o:List (List UInt8))=s)∧(List.length (o.o:List (List UInt8))≤List.length l+1))∧Agy s l o
structure Uy where
 s:List UInt8
 out:List (List UInt8)
 i:Nat
def Uz (s:List UInt8) (l:List Int):Fam:=⟨Uy,fun q1=>[(0,.v (vT q1.s)),(1,.v (.c (.seq .int l))),(5,.v (vO 0)),(6,.v (vI ((q1.i:Nat):Int)))],fun q1=>[.lst .str q1.out],fun q1=>q1.i≤List.length l∧List.flatten q1.out++q1.s=s∧List.length q1.out≤q1.i,fun q1=>List.length l-q1.i⟩
theorem Ani (s:List UInt8) (l:List Int) (hp1:List.length s≤1048576) (hp2:List.length l≤1048576): ∃o:Wi,Abc s l o:=by
 have hN:Bb=274877906944:=rfl
 refine Br Tryz.func79 Q4 Q4 (w:=let z7:=List UInt8;let z8:=Uz s l;(.seg [.ty .str,.at 0,.keep [0,1,5,6],.sel [0]] (.loop z8 fun q1=> .br (.intro (Sx (l[q1.i]?)) fun x1=> .seg [.el .int x1,.call [] (.v (vI (max 0 x1))) [],.call [] (.v (vI (min ((List.length q1.s:Nat):Int) (max 0 x1)))) [],.ty .str,.ty .str,.as 14 (.v (vI (((q1.i:Nat):Int)+1))),.at 0,.keep [0,1,5,6],.sel [2]] (.next)) (.br (.seg [.ty .str,.ty .str] (.leaf (⟨q1.out++[q1.s]⟩:Wi) [2])) (.leaf (⟨q1.out⟩:Wi) [0]))),z8.Has [(0,.v (vT s)),(1,.v (.c (.seq .int l))),(5,.v (vO 0)),(6,.v (vI 0))] [.lst .str ([]:List z7)]∧∀q1,z8.inv q1→(let z4:=((List.length q1.s:Nat):Int);let z5:=((q1.i:Nat):Int);let z6:=q1.out++[q1.s];Bc (decide (z5<((List.length l:Nat):Int))) (El (l[q1.i]?) fun x1=>(let z1:=min z4 (max 0 x1);let z2:=min z4 (max 0 x1)≤z4;let z3:=(0:Int)≤min z4 (max 0 x1);(l[q1.i]? =some x1)∧((0:Int)≤z5)∧(Fp 75 [vI 0,vI x1] [] (.v (vI (max 0 x1))) [])∧(Fp 74 [vI z4,vI (max 0 x1)] [] (.v (vI z1)) [])∧z2∧z3∧(List.length q1.out+List.length [List.take (Int.toNat z1) q1.s]≤Bb)∧z2∧z3∧(wI (z5+1))∧z8.Nxt q1 [(0,.v (vT (List.drop (Int.toNat z1) q1.s))),(1,.v (.c (.seq .int l))),(5,.v (vO 0)),(6,.v (vI (z5+1)))] [.lst .str (q1.out++[List.take (Int.toNat z1) q1.s])])) (Bc (!decide (q1.s=[])) ((List.length q1.out+List.length [q1.s]≤Bb)∧((List.flatten (z6:List z7)=s)∧(List.length (z6:List z7)≤List.length l+1))∧Lf (.v (vO 0)) (.v (vO 0)) [.lst .str z6] [.lst .str z6]) (((List.flatten (q1.out:List z7)=s)∧(List.length (q1.out:List z7)≤List.length l+1))∧Lf (.v (vO 0)) (.v (vO 0)) [.lst .str q1.out] [.lst .str q1.out]))))) Q4 ?_
 refine⟨Bf (j:=(⟨s,([]:List (List UInt8)),0⟩:Uy)) Q9 rfl (by dsimp only[Uz];exact⟨by omega,by simp,by simp⟩),fun (q1:Uy) hq_q1=>?_⟩
 have hi_q1:q1.i≤List.length l∧List.flatten q1.out++q1.s=s∧List.length q1.out≤q1.i:=hq_q1
 obtain ⟨v1,v2,v3⟩:=hi_q1
 have hsl:=congrArg List.length v2
 rw[List.length_append] at hsl
 refine dsp (fun h1 p1=>?_) fun h1 p1=>?_
 refine⟨(Bh (l:=l) (i:=q1.i) Q2),fun x1 hx1=>?_⟩
 exact⟨hx1,Q2,(Gk _ _),(Anb _ _),Q2,Q2,Q37,Q2,Q2,(Ac Q2 Q2),A3 (j:=(⟨List.drop (Int.toNat (min ((List.length q1.s:Nat):Int) (max 0 x1))) q1.s,q1.out++[List.take (Int.toNat (min ((List.length q1.s:Nat):Int) (max 0 x1))) q1.s],q1.i+1⟩:Uy)) Q9 rfl (by dsimp only[Uz];exact⟨by omega,by rw[List.flatten_append];simp[v2],by simp;omega⟩) (by dsimp only[Uz];omega)⟩
 refine⟨fun h2=>have q2:=Ao h2;have p2:=of_decide_eq_false q2;?_,fun h2=>have q2:=An h2;have p2:=of_decide_eq_true q2;?_⟩
 exact⟨Q37,⟨Q64,Q37⟩,rfl,rfl⟩
 exact⟨⟨Q64,Q37⟩,rfl,rfl⟩
theorem Agz (l:List (List UInt8)) (hp1:List.length l≤Bb):Fun Tryz.prog 88 [.c (.seq .str l)] [] (.v (.c (.seq .str l))) []:=by
 have hN:Bb=274877906944:=rfl
 refine Ap Tryz.func88 Q4 Q4 (w:=let z1:=((List.length l:Nat):Int);(.leaf () [],(z1=z1)∧(z1=z1)∧Lf (.v (.c (.seq .str l))) (.v (.c (.seq .str l))) [] [])) Q4 ?_
 exact⟨Q2,Q2,rfl,rfl⟩
structure Wj where
 o:List (List UInt8)
def Ag0 (s:List UInt8) (l:List Int) (o:Wj):Prop:=Fun Tryz.prog 37 [vT s,.c (.seq .int l)] [] (.v (.c (.seq .str o.o))) []
def Abd (s:List UInt8) (l:List Int) (o:Wj):Prop:=((List.flatten (o.o:List (List UInt8))=s)∧(List.length (o.o:List (List UInt8))≤List.length l+1))∧Ag0 s l o
structure U0 where
 s:List UInt8
 out:List (List UInt8)
 v:Nat
def U1 (s:List UInt8) (l:List Int):Fam:=⟨U0,fun q1=>[(0,.v (vT q1.s)),(5,.v (vO 0)),(9,.v (.c (.seq .int l))),(10,.v (vI ((List.length l:Nat):Int))),(11,.v (vI ((q1.v:Nat):Int)))],fun q1=>[.lst .str q1.out],fun q1=>q1.v≤List.length l∧List.flatten q1.out++q1.s=s∧List.length q1.out≤q1.v,fun q1=>List.length l-q1.v⟩
theorem Anj (s:List UInt8) (l:List Int) (hp1:List.length s≤1048576) (hp2:List.length l≤1048576): ∃o:Wj,Abd s l o:=by
 have hN:Bb=274877906944:=rfl
 refine Br Tryz.func37 Q4 Q4 (w:=let z7:=((List.length l:Nat):Int);let z8:=List UInt8;let z9:=U1 s l;(.seg [.ty .str,.at 0,.keep [0,5,9,10,11],.sel [0]] (.loop z9 fun q1=> .br (.intro (Sx (l[q1.v]?)) fun x1=> .seg [.el .int x1,.tree (fr (fr (.one 4 (.one 5 (.first 9 (.first 10 (.done))))) 6 3) 0 4) 5 [],.ty .str,.ty .str,.as 29 (.v (vI (((q1.v:Nat):Int)+1))),.at 0,.keep [0,5,9,10,11],.sel [2]] (.next)) (.br (.seg [.ty .str,.ty .str,.at 11,.pubS 5,.call [] (.v (.c (.seq .str (q1.out++[q1.s])))) []] (.leaf (⟨(q1.out++[q1.s])⟩:Wj) [])) (.seg [.at 11,.pubS 5,.call [] (.v (.c (.seq .str q1.out))) []] (.leaf (⟨q1.out⟩:Wj) [])))),z9.Has [(0,.v (vT s)),(5,.v (vO 0)),(9,.v (.c (.seq .int l))),(10,.v (vI z7)),(11,.v (vI 0))] [.lst .str ([]:List z8)]∧∀q1,z9.inv q1→(let z3:=((List.length q1.s:Nat):Int);let z4:=q1.out++[q1.s];let z5:=((q1.v:Nat):Int);let z6:S:= .v (.c (.seq .str q1.out));Bc (decide (z5<z7)) (El (l[q1.v]?) fun x1=>(let z2:=if z3<x1 then z3 else x1;let z1:=if 0>z2 then 0 else z2;(l[q1.v]? =some x1)∧((0:Int)≤z5)∧(z1≤z3)∧((0:Int)≤z1)∧(z1≤z3)∧((0:Int)≤z1)∧(z1≤z3)∧((0:Int)≤z1)∧(z1≤z3)∧((0:Int)≤z1)∧(List.length q1.out+List.length [List.take (Int.toNat z1) q1.s]≤Bb)∧(wI (z5+1))∧z9.Nxt q1 [(0,.v (vT (List.drop (Int.toNat z1) q1.s))),(5,.v (vO 0)),(9,.v (.c (.seq .int l))),(10,.v (vI z7)),(11,.v (vI (z5+1)))] [.lst .str (q1.out++[List.take (Int.toNat z1) q1.s])])) (Bc (!decide (q1.s=[])) ((List.length q1.out+List.length [q1.s]≤Bb)∧(Fp 88 [.c (.seq .str z4)] [] (.v (.c (.seq .str z4))) [])∧((List.flatten (z4:List z8)=s)∧(List.length (z4:List z8)≤List.length l+1))∧Lf (.v (.c (.seq .str z4))) (.v (.c (.seq .str z4))) [] []) ((Fp 88 [.c (.seq .str q1.out)] [] z6 [])∧((List.flatten (q1.out:List z8)=s)∧(List.length (q1.out:List z8)≤List.length l+1))∧Lf z6 z6 [] []))))) Q4 ?_
 refine⟨Bf (j:=(⟨s,([]:List (List UInt8)),0⟩:U0)) Q9 rfl (by dsimp only[U1];exact⟨by omega,by simp,by simp⟩),fun (q1:U0) hq_q1=>?_⟩
 have hi_q1:q1.v≤List.length l∧List.flatten q1.out++q1.s=s∧List.length q1.out≤q1.v:=hq_q1
 obtain ⟨v1,v2,v3⟩:=hi_q1
 have hsl:=congrArg List.length v2
 rw[List.length_append] at hsl
 refine dsp (fun h1 p1=>?_) fun h1 p1=>?_
 refine⟨(Bh (l:=l) (i:=q1.v) Q2),fun x1 hx1=>?_⟩
 exact⟨hx1,Q2,Q2,Q2,Q2,Q2,Q2,Q2,Q2,Q2,Q37,(Ac Q2 Q2),A3 (j:=(⟨List.drop (Int.toNat (if 0>(if ((List.length q1.s:Nat):Int)<x1 then ((List.length q1.s:Nat):Int) else x1) then 0 else (if ((List.length q1.s:Nat):Int)<x1 then ((List.length q1.s:Nat):Int) else x1))) q1.s,q1.out++[List.take (Int.toNat (if 0>(if ((List.length q1.s:Nat):Int)<x1 then ((List.length q1.s:Nat):Int) else x1) then 0 else (if ((List.length q1.s:Nat):Int)<x1 then ((List.length q1.s:Nat):Int) else x1))) q1.s],q1.v+1⟩:U0)) Q9 rfl (by dsimp only[U1];exact⟨by omega,by rw[List.flatten_append];simp[v2],by simp;omega⟩) (by dsimp only[U1];omega)⟩
 refine⟨fun h2=>have q2:=Ao h2;have p2:=of_decide_eq_false q2;?_,fun h2=>have q2:=An h2;have p2:=of_decide_eq_true q2;?_⟩
 exact⟨Q37,(Agz _ Q37),⟨Q64,Q37⟩,rfl,rfl⟩
 exact⟨(Agz _ Q37),⟨Q64,Q37⟩,rfl,rfl⟩
structure G4 where
 d:Dcd
 l:List (List UInt8)
def P1 (code:List Int) (o:G4):Prop:=Fun Tryz.prog 31 [.c (.seq .u8 code)] [] (.tup [.agg (Bu o.d),vO 0]) [.lst .str o.l]
def Kj (code:List Int) (o:G4):Prop:=((DecB o.d)∧(List.length (List.flatten (o.l:List (List UInt8)))≤200000)∧(List.length (o.l:List (List UInt8))≤100))∧P1 code o
theorem Yw (code:List Int) (hp1:List.length code≤1048576): ∃o:G4,Kj code o:=by
 have hN:Bb=274877906944:=rfl
 refine Br Tryz.func31 Q4 Q4 (w:=let z1:=List.drop 1 code;(.intro (Ki code) fun o1=> .seg [.call [] (.tup [.agg (Bu o1.d),vT o1.t]) []] (.intro (Pn z1) fun o2=> .intro (Pz o2.c1) fun o3=> .intro (Abc o1.t o3.l) fun o4=> .seg [.tree (fr (.one 3 (.one 4 (.one 5 (.one 6 (.one 7 (.first 8 (.done))))))) 0 3) 7 [],.call [] (.v (.c (.seq .u8 z1))) [],.call [] (.v (vP 0)) (Kc o2.c1),.call [2] (.v (vO 1)) [.cells (Bz o3.c1),.lst .int o3.l],.call [] (.v (vO 0)) [.lst .str o4.o]] (.leaf (⟨o1.d,o4.o⟩:G4) [4])),In (Ki code) fun o1=>((Py code o1)∧In (Pn z1) fun o2=>(In (Pz o2.c1) fun o3=>(In (Abc o1.t o3.l) fun o4=>((Fp 81 [.c (.seq .u8 code)] [] (.v (.c (.seq .u8 z1))) [])∧(V3 z1 o2)∧(Ub o2.c1 o3)∧(Agy o1.t o3.l o4)∧((DecB o1.d)∧(List.length (List.flatten (o4.o:List (List UInt8)))≤200000)∧(List.length (o4.o:List (List UInt8))≤100))∧Lf (.tup [.agg (Bu o1.d),vO 0]) (.tup [.agg (Bu o1.d),vO 0]) [.lst .str o4.o] [.lst .str o4.o])))))) Q4 ?_
 refine⟨(Yu code Q66),fun o1 ho_o1=>?_⟩
 obtain ⟨⟨hp_o1_0,hp_o1_1⟩,hf_o1⟩:=ho_o1
 refine⟨hf_o1,(Agg (List.drop 1 code) Q66),fun o2 ho_o2=>?_⟩
 obtain ⟨hp_o2,hf_o2⟩:=ho_o2
 refine⟨(Ad3 o2.c1 Q0),fun o3 ho_o3=>?_⟩
 obtain ⟨⟨hp_o3_0,hp_o3_1⟩,hf_o3⟩:=ho_o3
 refine⟨(Ani o1.t o3.l Q66 Q66),fun o4 ho_o4=>?_⟩
 obtain ⟨⟨hp_o4_0,hp_o4_1⟩,hf_o4⟩:=ho_o4
 exact⟨(Ad4 _ Q66),hf_o2,hf_o3,hf_o4,⟨Q81,(by rw[hp_o4_0];omega),Q66⟩,rfl,rfl⟩
theorem Z8: ∀l:List (List UInt8),Lib.join l []=l.flatten
 |[]=>rfl
 |x::r=>by rw[Lib.join_cons,List.flatten_cons];unfold Lib.joinTail;simp
theorem Ad5 {π:Nat→Pl} {R:Nat→Prop} {w w':World} (h:Below w.heap.size w w'):Goes [] π R w [] π R w':=
 ⟨h.os,h.tape,h.output,h.size,fun b hb _=>h.block b hb,fun b hb=> .inl hb,fun j hj=>absurd hj (Nat.not_lt_zero _),fun j x hx=>by simp at hx,fun b hb=>hb,fun b hb=> .inl hb⟩
theorem Ako {π:Nat→Pl} {R:Nat→Prop} {w w':World} (h:HOK [] π R w) (hs:w.heap.size≤w'.heap.size):HOK [] π R w':=
 ⟨fun j x hx=>by simp at hx,fun i j x y b hx=>by simp at hx,fun j x b hx=>by simp at hx,fun b hb=>⟨Nat.lt_of_lt_of_le (h.R b hb).1 hs,(h.R b hb).2⟩⟩
theorem Yx {P:Program} {f:FuncId}
  (hj: ∀(bk o c:Nat) (xs:List ByteArray) (sep:ByteArray) (w:World),(∀(j:Nat) x,xs[j]? =some x→w.cell? ⟨bk,o+j,none⟩=some (.string x))→bk<w.heap.size→xs.length≤140737488355328→xs.length≤c→(Lib.join (xs.map (·.data.toList)) sep.data.toList).length≤140737488355328→
   Calls P f #[.slice (some ⟨bk,o,none⟩) xs.length c,.string sep] w fun e w'=>e= .returned (.string ⟨(Lib.join (xs.map (·.data.toList)) sep.data.toList).toArray⟩)∧Below w.heap.size w w')
  (hn: ∀(a:Option Addr) (c:Nat) (sep:ByteArray) (w:World),Calls P f #[.slice a 0 c,.string sep] w fun e w'=>e= .returned (.string ⟨#[]⟩)∧w'=w)
  {l:List (List UInt8)} {sep:List UInt8} (h1:l.length≤140737488355328) (h2:(Lib.join l sep).length≤140737488355328):Contract P f [.c (.seq .str l),vT sep] [] (.v (vT (Lib.join l sep))) []:=by
 intro π R w vs ok hv
 cases hv with
 |cons hv1 hv=>
  cases hv with
  |cons hv2 hv=>
   cases hv
   obtain ⟨a,cap,rfl,hc,hm,hl⟩:=hv1
   have hv2:_=Value.string ⟨sep.toArray⟩:=hv2
   subst hv2
   by_cases hz:l=[]
   ·subst hz
    refine(hn a cap ⟨sep.toArray⟩ w).mono fun e w' hh=>?_
    obtain ⟨rfl,rfl⟩:=hh
    exact⟨_,π,R,rfl,ok,Goes.refl _ _ _ _,rfl⟩
   ·obtain ⟨b,off,rfl,hR,hx⟩:=hl hz
    have hb:=ok.R b hR
    have hcell: ∀(j:Nat) x,(l.map fun s=>(⟨s.toArray⟩:ByteArray))[j]? =some x→w.cell? ⟨b,off+j,none⟩=some (.string x):=by
     intro j x hjx
     rw[List.getElem?_map] at hjx
     cases hlj:l[j]? with
     |none=>rw[hlj] at hjx;cases hjx
     |some s=>
      rw[hlj] at hjx
      simp at hjx
      subst hjx
      obtain ⟨u,hu1,hu2⟩:=hx j s hlj 0 (.str s) rfl
      have hu2:u=Value.string ⟨s.toArray⟩:=hu2
      subst hu2
      have:off+j*(T.str).k+0=off+j:=by show off+j*1+0=off+j;omega
      rw[←this];exact hu1
    have hmap:(l.map fun s=>(⟨s.toArray⟩:ByteArray)).map (·.data.toList)=l:=by
     rw[List.map_map]
     conv=>rhs;rw[←List.map_id l]
     apply List.map_congr_left
     intro s _;simp
    have hlen:(l.map fun s=>(⟨s.toArray⟩:ByteArray)).length=l.length:=by simp
    have:=hj b off cap (l.map fun s=>⟨s.toArray⟩) ⟨sep.toArray⟩ w hcell hb.1 (by rw[hlen];exact h1) (by rw[hlen];exact hc) (by rw[hmap];exact h2)
    rw[hlen,hmap] at this
    refine this.mono fun e w' hh=>?_
    obtain ⟨rfl,hw⟩:=hh
    refine⟨_,π,R,rfl,Ako ok hw.size,Ad5 hw,?_⟩
    rfl
end Go.Proofs.YtijacopaadmncaaGreat.Ax
namespace Go.Proofs
open Go.Shelf
def Tryz.lays156_ren:Go.Shelf.Ren:=⟨fun|156=>87|165=>141|166=>142|169=>143|240=>204|241=>205|276=>257|277=>258|n=>n,fun|31=>59|9=>9|3=>3|4=>4|0=>0|20=>20|72=>168|76=>172|70=>166|37=>22|75=>171|127=>220|164=>253|5=>5|80=>174|n=>n,fun|n=>n⟩
theorem Tryz.lays156:Go.Proofs.Lays.n156 Tryz.prog Tryz.lays156_ren:= {
 mixed:=by kernel_rfl
 f156:=Tryz.func87.trans (congrArg some (by kernel_rfl))
 f165:=Tryz.func141.trans (congrArg some (by kernel_rfl))
 f166:=Tryz.func142.trans (congrArg some (by kernel_rfl))
 f169:=Tryz.func143.trans (congrArg some (by kernel_rfl))
 f240:=Tryz.func204.trans (congrArg some (by kernel_rfl))
 f241:=Tryz.func205.trans (congrArg some (by kernel_rfl))
 f276:=Tryz.func257.trans (congrArg some (by kernel_rfl))
 f277:=Tryz.func258.trans (congrArg some (by kernel_rfl))
 t0:=Tryz.underlying0
 a0:=Tryz.isAgg0
 z0:=Tryz.sizeOf0
 v0:=Tryz.zeroValue0
 t3:=Tryz.underlying3
 a3:=Tryz.isAgg3
 z3:=Tryz.sizeOf3
 v3:=Tryz.zeroValue3
 t4:=Tryz.underlying4
 a4:=Tryz.isAgg4
 z4:=Tryz.sizeOf4
 v4:=Tryz.zeroValue4
 t9:=Tryz.underlying9
 a9:=Tryz.isAgg9
 z9:=Tryz.sizeOf9
 v9:=Tryz.zeroValue9
 t20:=Tryz.underlying20
 a20:=Tryz.isAgg20
 z20:=Tryz.sizeOf20
 v20:=Tryz.zeroValue20
 t31:=Tryz.underlying59
 a31:=Tryz.isAgg59
 z31:=Tryz.sizeOf59
 v31:=Tryz.zeroValue59
 t37:=Tryz.underlying22
 a37:=Tryz.isAgg22
 z37:=Tryz.sizeOf22
 v37:=Tryz.zeroValue22
 t70:=Tryz.underlying166
 a70:=Tryz.isAgg166
 z70:=Tryz.sizeOf166
 v70:=Tryz.zeroValue166
 t72:=Tryz.underlying168
 a72:=Tryz.isAgg168
 z72:=Tryz.sizeOf168
 v72:=Tryz.zeroValue168
 t75:=Tryz.underlying171
 a75:=Tryz.isAgg171
 z75:=Tryz.sizeOf171
 v75:=Tryz.zeroValue171
 t76:=Tryz.underlying172
 a76:=Tryz.isAgg172
 z76:=Tryz.sizeOf172
 v76:=Tryz.zeroValue172
 t127:=Tryz.underlying220
 a127:=Tryz.isAgg220
 z127:=Tryz.sizeOf220
 v127:=Tryz.zeroValue220
 t164:=Tryz.underlying253
 a164:=Tryz.isAgg253
 z164:=Tryz.sizeOf253
 v164:=Tryz.zeroValue253 }
theorem Tryz.Builder_Extra_156:Builder.Extra Tryz.prog Tryz.lays156_ren:= {
 sizeBuilder:=by kernel_rfl
 liesBuilder:=by kernel_rfl
 t5:=Tryz.underlying5
 a5:=Tryz.isAgg5
 z5:=Tryz.sizeOf5
 v5:=Tryz.zeroValue5
 infoByte:=by kernel_rfl
 cellsByte:=by kernel_rfl
 sizeByte:=by kernel_rfl
 neB5:=by decide }
open Go.RowKit in
theorem Tryz.strings_Join_none (a:Option Addr) (c:Nat) (sep:ByteArray) (w:World):
  Calls Tryz.prog 87 #[.slice a 0 c,.string sep] w fun e w'=>e= .returned (.string ⟨#[]⟩)∧w'=w:=Any.strings_Join_none Tryz.lays156 Tryz.Builder_Extra_156 a c sep w
open Go.RowKit in
theorem Tryz.strings_Join (bk o c:Nat) (xs:List ByteArray) (sep:ByteArray) (w:World) (hcells: ∀(j:Nat) x,xs[j]? =some x→w.cell? ⟨bk,o+j,none⟩=some (.string x)) (hbk:bk<w.heap.size) (hN:xs.length≤140737488355328) (hcap:xs.length≤c) (hlen:(Lib.join (xs.map (·.data.toList)) sep.data.toList).length≤140737488355328):
  Calls Tryz.prog 87 #[.slice (some ⟨bk,o,none⟩) xs.length c,.string sep] w fun e w'=>e= .returned (.string ⟨(Lib.join (xs.map (·.data.toList)) sep.data.toList).toArray⟩)∧Below w.heap.size w w':=Any.strings_Join Tryz.lays156 Tryz.Builder_Extra_156 bk o c xs sep w hcells hbk hN hcap hlen
end Go.Proofs
namespace Go.Proofs.YtijacopaadmncaaGreat.Ax
open Go.RowKit
theorem Amt (l:List (List UInt8)) (sep:List UInt8) (hp1:List.length l≤140737488355328) (hp2:List.length (Lib.join l sep)≤140737488355328):Fun Tryz.prog 87 [.c (.seq .str l),vT sep] [] (.v (vT (Lib.join l sep))) []:=⟨J6 Tryz.func87 (by kernel_rfl) (by kernel_rfl),Yx Tryz.strings_Join Tryz.strings_Join_none hp1 hp2⟩
theorem Aco (l:List (List UInt8)) (hp1:List.length l≤140737488355328) (hp2:List.length (List.flatten l)≤140737488355328):Fun Tryz.prog 36 [.c (.seq .str l)] [] (.v (vT (List.flatten l))) []:=by
 have hN:Bb=274877906944:=rfl
 refine Ap Tryz.func36 Q4 Q4 (w:=let z1:S:= .v (vT (Lib.join l []));(.seg [.call [] z1 []] (.leaf () []),(Fp 87 [.c (.seq .str l),vT []] [] z1 [])∧Lf z1 (.v (vT (List.flatten l))) [] [])) Q4 ?_
 exact⟨(Amt _ _ Q2 (by rw[Z8];omega)),(congrArg S.v (congrArg V.c (congrArg C.str (by rw[Z8])))),rfl⟩
structure Nn where
 out:List Int
 i:Nat
def No (l:List (List UInt8)):Fam:=⟨Nn,fun q1=>[(0,.v (.c (.seq .str l))),(3,.v (vO 0)),(4,.v (vI ((q1.i:Nat):Int)))],fun q1=>[.lst .u8 q1.out],fun q1=>q1.i≤List.length l∧List.map A9 q1.out++List.flatten (List.drop q1.i l)=List.flatten l,fun q1=>List.length l-q1.i⟩
theorem Ain (l:List (List UInt8)) (hp1:List.length l≤1000000) (hp2:List.length (List.flatten l)≤1000000):Fun Tryz.prog 38 [.c (.seq .str l)] [] (.v (vT (List.flatten l))) []:=by
 have hN:Bb=274877906944:=rfl
 refine Ap Tryz.func38 Q4 Q4 (w:=let z3:=No l;(.seg [.ty .u8,.at 0,.keep [0,3,4],.sel [0]] (.loop z3 fun q1=> .br (.intro (Sx (l[q1.i]?)) fun x1=> .seg [.el .str x1,.ty .u8,.as 11 (.v (vI (((q1.i:Nat):Int)+1))),.at 0,.keep [0,3,4],.sel [1]] (.next)) (.leaf () [])),z3.Has [(0,.v (.c (.seq .str l))),(3,.v (vO 0)),(4,.v (vI 0))] [.lst .u8 ([]:List Int)]∧∀q1,z3.inv q1→(let z2:=((q1.i:Nat):Int);Bc (decide (z2<((List.length l:Nat):Int))) (El (l[q1.i]?) fun x1=>(let z1:=List.map (fun b=>(UInt8.toNat b:Int)) x1;(l[q1.i]? =some x1)∧((0:Int)≤z2)∧(List.length q1.out+List.length z1≤Bb)∧(wI (z2+1))∧z3.Nxt q1 [(0,.v (.c (.seq .str l))),(3,.v (vO 0)),(4,.v (vI (z2+1)))] [.lst .u8 (q1.out++z1)])) (Lf (.v (vT (List.map A9 q1.out))) (.v (vT (List.flatten l))) [] [])))) Q4 ?_
 refine⟨Bf (j:=(⟨([]:List Int),0⟩:Nn)) Q9 rfl (by dsimp only[No];exact⟨by omega,rfl⟩),fun (q1:Nn) hq_q1=>?_⟩
 have hi_q1:q1.i≤List.length l∧List.map A9 q1.out++List.flatten (List.drop q1.i l)=List.flatten l:=hq_q1
 obtain ⟨v1,v2⟩:=hi_q1
 have hol:=congrArg List.length v2
 rw[List.length_append,List.length_map] at hol
 refine dsp (fun h1 p1=>?_) fun h1 p1=>?_
 refine⟨(Bh (l:=l) (i:=q1.i) Q2),fun x1 hx1=>?_⟩
 rw[C2 hx1,List.flatten_cons] at v2 hol
 rw[List.length_append] at hol
 exact⟨hx1,Q2,Q18,(Ac Q2 Q2),A3 (j:=(⟨q1.out++(List.map (fun b=>(UInt8.toNat b:Int)) x1),q1.i+1⟩:Nn)) Q9 rfl (by dsimp only[No];exact⟨by omega,by rw[List.map_append,Ey,List.append_assoc];exact v2⟩) (by dsimp only[No];omega)⟩
 rw[List.drop_eq_nil_of_le (by omega),List.flatten_nil,List.append_nil] at v2
 refine⟨(congrArg S.v (congrArg V.c (congrArg C.str ?_))),rfl⟩
 rotate_left
 all_goals first|(exact v2)|((rw[v2];done))
theorem Kk (o:List Ev) (e:Ev):tx (o++[e])=tx o+e.text.length:=by rw[L0];simp[tx]
theorem H6 (m:Mac) (c a:Int):tx (A0 m c a).out=tx m.out:=Kk m.out (A2 c a)
theorem Aio {m q:Mac} (h:Ay m=some q):tx q.out=tx m.out:=by
 unfold Ay at h
 split at h
 ·split at h
  ·cases h;exact H6 _ _ _
  ·cases h;exact Kk m.out T3
 ·split at h
  ·cases h;rfl
  ·split at h
   ·split at h
    ·cases h;exact Kk m.out Ja
    ·cases h;exact Kk m.out Ahs
   ·cases h
theorem Ad6: ∀(k:Nat) (m:Mac),wM m≤k→tx (Ae m).out=tx m.out:=by
 intro k
 induction k with
 |zero=>
  intro m hk
  cases hc:Ay m with
  |none=>rw[Bw hc]
  |some q=>have:=(B2 hc).1;omega
 |succ k ih=>
  intro m hk
  cases hc:Ay m with
  |none=>rw[Bw hc]
  |some q=>rw[Cf hc,ih q (by have:=(B2 hc).1;omega),Aio hc]
theorem Fw (m:Mac):tx (Ae m).out=tx m.out:=Ad6 _ m (Nat.le_refl _)
theorem Aip (m:Mac) (u:Int):tx (Cu m u).out=tx m.out:=by
 unfold Cu;split
 ·exact H6 _ _ _
 ·rw[Fw];exact Kk m.out (Ac7 u)
theorem Amu (m:Mac) (u:Int):tx (Ea m u).out=tx m.out:=by
 unfold Ea;split
 ·exact H6 _ _ _
 split
 ·exact H6 _ _ _
 split
 ·exact H6 _ _ _
 split
 ·exact Kk m.out (A2 9 m.d.at_)
 ·rfl
theorem Akp (m:Mac) (u:Int):tx (Cn m u).out=tx m.out:=by
 unfold Cn;split
 ·exact H6 _ _ _
 split
 ·exact Fw _
 split
 ·split
  ·exact H6 _ _ _
  ·rw[Fw];exact Kk m.out (Zq m.d.field.number u)
 split
 ·rw[Fw];exact Kk m.out (Zr m.d.field.number u)
 split
 ·exact H6 _ _ _
 ·exact Fw _
theorem Yy (m:Mac) (u:Int):tx (Bm m u).out=tx m.out:=by
 unfold Bm;dsimp only;split
 ·rfl
 ·exact Kk m.out (Gi m.d.field u)
theorem Amv (m:Mac) (b a:Int):tx (Bp m b a).out=tx m.out:=by
 unfold Bp;split
 ·exact H6 ⟨Gj m.d a,m.out⟩ 1 a
 split
 ·unfold Vo;split
  ·exact H6 ⟨Fq (Gj m.d a) (Ag m.d.scan b).1,m.out⟩ 9 m.d.at_
  ·rfl
 split
 ·exact Aip ⟨Fq (Gj m.d a) scn0,m.out⟩ _
 split
 ·exact Amu ⟨Fq (Gj m.d a) scn0,m.out⟩ _
 split
 ·exact Akp ⟨Fq (Gj m.d a) scn0,m.out⟩ _
 ·rw[Fw];exact Yy ⟨Fq (Gj m.d a) scn0,m.out⟩ _
theorem Amw (m:Mac) (b:Int):tx (Dp m b).out=tx m.out:=by
 unfold Dp;split
 ·rfl
 split
 ·rw[H6];exact Yy ⟨Fq m.d scn0,m.out⟩ _
 ·rw[Fw];exact Yy ⟨Fq m.d scn0,m.out⟩ _
theorem Akq (m:Mac) (b:Int):tx (Eg m b).out≤tx m.out+1:=by
 have hp:tx (m.out++[Yd b])=tx m.out+1:=Kk m.out (Yd b)
 unfold Eg;split
 ·split
  ·rw[H6];omega
  ·rw[Fw];exact Nat.le_of_eq hp
 ·rw[Fw];exact Nat.le_of_eq hp
theorem Aiq (d:Dcd) (b:Int):tx (B8 d b).out≤1:=by
 unfold B8;split
 ·unfold Eb;split
  ·exact Akq ⟨Di d,[]⟩ b
  split
  ·rw[Fw];exact Nat.zero_le _
  split
  ·rw[Amw];exact Nat.zero_le _
  ·rw[Amv];exact Nat.zero_le _
 ·exact Nat.zero_le _
theorem Acp: ∀(s:List UInt8) (m:Mac),tx (Ce m s).out≤tx m.out+s.length
 |[],m=>Nat.le_refl _
 |b::r,m=>by
  rw[Fh]
  have h1:=Acp r (Pi m (b.toNat:Int))
  have h2:tx (Pi m (b.toNat:Int)).out=tx m.out+tx (B8 m.d (b.toNat:Int)).out:=L0 _ _
  have h3:=Aiq m.d (b.toNat:Int)
  rw[List.length_cons];omega
theorem Ag1 (o:List Ev) (e:Ev):tx (E2 o e)=tx o+e.text.length:=by
 unfold E2;split
 ·rename_i h;rw[h.2];simp
 split
 ·rename_i h
  have hx:o[o.length-1]? =some (Nx o):=by
   unfold Nx
   rw[List.getD_eq_getElem?_getD,List.getElem?_eq_getElem (by omega)];rfl
  exact Af9 e.text hx
 ·exact Kk o e
theorem Z9: ∀(l o:List Ev),tx (Ef o l)=tx o+tx l
 |[],o=>by rw[Td];simp[tx]
 |e::r,o=>by rw[Er,Z9 r,Ag1,tx];omega
theorem Air (d:Dcd) (s:List UInt8):tx (Cj d s).out≤s.length:=by
 have h:=Acp s ⟨d,[]⟩
 show tx (B9 (Ce ⟨d,[]⟩ s).out)≤_
 unfold B9
 rw[Z9]
 simpa [tx] using h
def noE (p:List Ev):Prop:= ∀e∈p,e.kind=4→e.text≠[]
theorem Akr:noE []:=fun _ h=>(List.not_mem_nil h).elim
theorem Wm {x:List Ev} (h:0<x.length): ∃q a,x=q++[a]:=by
 have hn:x≠[]:=fun e=>by rw[e] at h;exact absurd h (by simp)
 exact⟨x.dropLast,x.getLast hn,(List.dropLast_concat_getLast hn).symm⟩
theorem Jy {q:List Ev} {a e:Ev} (h4:a.kind=4) (he:e.kind=4) (ht:e.text≠[]):E2 (q++[a]) e=q++[Ny a (a.text++e.text)]:=Vy (f:=a) (t:=a.text) he ht h4
theorem Ad7 {o:List Ev} {e:Ev} (h:noE o):noE (E2 o e):=by
 by_cases h1:e.kind=4
 ·by_cases h2:e.text=[]
  ·rw[F3 h1 h2];exact h
  ·by_cases h3:0<o.length∧(Nx o).kind=4
   ·obtain ⟨q,a,hx⟩:=Wm h3.1
    have h4:=h3.2
    rw[hx,P9] at h4
    rw[hx] at h ⊢
    rw[Jy h4 h1 h2]
    intro x hxm hk
    rcases List.mem_append.1 hxm with hxm|hxm
    ·exact h x (List.mem_append_left _ hxm) hk
    ·rw[List.mem_singleton.1 hxm]
     exact fun e0=>h2 (List.append_eq_nil_iff.1 e0).2
   ·rw[Hc h2 h3]
    intro x hxm hk
    rcases List.mem_append.1 hxm with hxm|hxm
    ·exact h x hxm hk
    ·rw[List.mem_singleton.1 hxm];exact h2
 ·rw[K9 h1]
  intro x hxm hk
  rcases List.mem_append.1 hxm with hxm|hxm
  ·exact h x hxm hk
  ·rw[List.mem_singleton.1 hxm] at hk;exact(h1 hk).elim
theorem Mc (o a b:List Ev):Ef o (a++b)=Ef (Ef o a) b:=List.foldl_append ..
theorem Qp (o a:List Ev) (e:Ev):Ef o (a++[e])=E2 (Ef o a) e:=by rw[Mc];rfl
theorem Yz {o p:List Ev} {e:Ev} (h:noE p):Ef o (E2 p e)=E2 (Ef o p) e:=by
 by_cases h1:e.kind=4
 ·by_cases h2:e.text=[]
  ·rw[F3 h1 h2,F3 h1 h2]
  ·by_cases h3:0<p.length∧(Nx p).kind=4
   ·obtain ⟨q,a,hx⟩:=Wm h3.1
    have h4:=h3.2
    rw[hx,P9] at h4
    have ha:a.text≠[]:=h a (by rw[hx];simp) h4
    have hw:(Ny a (a.text++e.text)).text≠[]:=fun e0=>ha (List.append_eq_nil_iff.1 e0).1
    rw[hx,Jy h4 h1 h2,Qp,Qp]
    by_cases h5:0<(Ef o q).length∧(Nx (Ef o q)).kind=4
    ·obtain ⟨q2,a2,hx2⟩:=Wm h5.1
     have h6:=h5.2
     rw[hx2,P9] at h6
     rw[hx2,Jy (e:=Ny a (a.text++e.text)) h6 h4 hw,Jy h6 h4 ha,Jy (a:=Ny a2 (a2.text++a.text)) h6 h1 h2]
     show q2++[Ny a2 (a2.text++(a.text++e.text))]=q2++[Ny a2 (a2.text++a.text++e.text)]
     rw[List.append_assoc]
    ·rw[Hc hw h5,Hc ha h5,Jy h4 h1 h2]
   ·rw[Hc h2 h3,Qp]
 ·rw[K9 h1,Qp]
theorem Ss: ∀(b o p:List Ev),noE p→Ef o (Ef p b)=Ef (Ef o p) b
 |[],_,_,_=>rfl
 |e::r,o,p,h=>by
  rw[Er,Er,Ss r o (E2 p e) (Ad7 h),Yz h]
theorem Y0 (o b:List Ev):Ef o (B9 b)=Ef o b:=Ss b o [] Akr
theorem Ad8 (a b:List Ev):B9 (a++B9 b)=B9 (a++b):=by
 unfold B9;rw[Mc,Mc];exact Y0 _ b
theorem Abe {a a':List Ev} (h:B9 a=B9 a') (b:List Ev):B9 (a++b)=B9 (a'++b):=by
 unfold B9 at h ⊢;rw[Mc,Mc,h]
theorem Wn: ∀(s:List UInt8) (d:Dcd) (o:List Ev),Ce ⟨d,o⟩ s=⟨(Ce ⟨d,[]⟩ s).d,o++(Ce ⟨d,[]⟩ s).out⟩
 |[],d,o=>by rw[So,So,List.append_nil]
 |b::r,d,o=>by
  rw[Fh,Fh]
  have e1:Pi ⟨d,o⟩ (b.toNat:Int)=⟨(B8 d (b.toNat:Int)).d,o++(B8 d (b.toNat:Int)).out⟩:=rfl
  have e2:Pi ⟨d,[]⟩ (b.toNat:Int)=⟨(B8 d (b.toNat:Int)).d,(B8 d (b.toNat:Int)).out⟩:=rfl
  rw[e1,e2,Wn r _ (o++_),Wn r _ (B8 d (b.toNat:Int)).out,List.append_assoc]
theorem Ag2 (m:Mac) (a b:List UInt8):Ce m (a++b)=Ce (Ce m a) b:=List.foldl_append ..
theorem Xw: ∀(cs:List (List UInt8)) (d:Dcd) (o1 o2:List Ev),B9 o1=B9 o2→(Bx ⟨d,o1⟩ cs).d=(Ce ⟨d,o2⟩ cs.flatten).d∧B9 (Bx ⟨d,o1⟩ cs).out=B9 (Ce ⟨d,o2⟩ cs.flatten).out
 |[],d,o1,o2,h=>⟨rfl,h⟩
 |c::r,d,o1,o2,h=>by
  rw[Gb,List.flatten_cons,Ag2,Wn c d o2]
  refine Xw r _ _ _ ?_
  show B9 (o1++B9 (Ce ⟨d,[]⟩ c).out)=_
  rw[Ad8];exact Abe h _
theorem Lm {d:Dcd} {cs:List (List UInt8)} {s:List UInt8} (h:cs.flatten=s):(Bx ⟨d,[]⟩ cs).d=(Cj d s).d∧B9 (Bx ⟨d,[]⟩ cs).out=(Cj d s).out:=by
 have:=Xw cs d [] [] rfl
 rw[h] at this
 exact this
theorem St: ∀cs:List (List UInt8),Te cs=cs.flatten.length
 |[]=>rfl
 |c::r=>by rw[Te,List.flatten_cons,List.length_append,St r]
theorem Su: ∀(cs:List (List UInt8)) (m:Mac),tx (Bx m cs).out≤tx m.out+Te cs
 |[],m=>by rw[Rn];omega
 |c::r,m=>by
  have h1:=Su r ⟨(Cj m.d c).d,m.out++(Cj m.d c).out⟩
  have h2:=Air m.d c
  rw[L0] at h1
  rw[Gb,Te];omega
theorem Np: ∀(cs:List (List UInt8)) {m:Mac},DecB m.d→DecB (Bx m cs).d
 |[],_,h=>h
 |c::r,m,h=>by rw[Gb];exact Np r (Agv h c)
theorem Abf {d:Dcd} (h:DecB d) (s:List UInt8):DecB (Cj d s).d:=Agv h s
theorem Abg (code:List Int) (hp1:((List.length code:Nat):Int)≤9223372036854775807) (hp2: ∀e∈code,(0:Int)≤e∧e≤255):Fun Tryz.prog 7 [.c (.seq .u8 code)] [] (.v (vB true)) []:=by
 have hN:Bb=274877906944:=rfl
 refine Ap Tryz.func7 Q4 Q4 (w:=let z12:=decide (1048576<((List.length code:Nat):Int));let z13:S:= .v (vB true);let z14:=fr (.one 8 (.first 9 (.done))) 4 3;let z15:S:= .v (vO 0);(.seg [.call [] (.v (vB z12)) []] (.br (.leaf () []) (.intro (Kj code) fun o1=>let z4:=Bx ⟨o1.d,[]⟩ o1.l;let z5:=List.flatten o1.l;let z3:=Cj o1.d z5;.seg [.call [] (.tup [.agg (Bu o1.d),vO 0]) [.lst .str o1.l],.at 5,.pubS 4,.call [] (.tup [.agg (Ad 0 1 z4.d),vO 2]) (Ls z4.d z4.out),.call [] (.tup [.agg (Ad 0 1 z4.d),vO 2]) (Ls z4.d z4.out),.call [] z13 [],.br false,.call [] (.v (vB (decide (z4.out=z4.out)))) [],.br false,.tree (.first 0 (.first 1 (.two 2 (.two 3 (fr (.one 7 (.one 8 (.first 9 (.done)))) 4 3) 7 (.one 3 z14)) 7 (.one 2 (.one 3 z14))))) 10 [],.call [] (.v (vT z5)) [],.call [] (.tup [.agg (Ad 0 1 z3.d),vO 2]) (Ls z3.d z3.out),.at 0,.keep [0,3,4,5,6,9,10],.sel [1,5,2,3,4,13,10,11,12],.call [] (.tup [.agg (Ad 0 1 z3.d),vO 2]) (Ls z3.d z3.out),.at 0,.keep [0,3,4,5,6,9,10],.sel [1,5,2,3,4,10,11,12,13],.call [] (.v (vT z5)) [],.call [] (.tup [.agg (Ad 0 1 z3.d),vO 2]) (Ls z3.d z3.out),.at 0,.keep [0,3,4,5,6,9,10],.sel [1,5,2,3,4,10,11,12,13],.call [] (.v (vT z5)) []] (.intro (Yv code 5) fun o2=> .seg [.call [] z15 [.lst .int o2.o],.pubS 53] (.intro (Abd z5 o2.o) fun o3=>let z1:=Bx ⟨o1.d,[]⟩ o3.o;.seg [.call [] (.v (.c (.seq .str o3.o))) [],.call [] (.tup [.agg (Ad 0 1 z1.d),vO 2]) (Ls z1.d z1.out),.call [] z13 [],.br true,.call [] z13 [],.br true,.call [] z15 [.lst .ev (B9 z4.out)],.pubS 72,.call [] (.v (vB (decide (z3.out=(B9 z4.out))))) []] (.br (.seg [.call [] z15 [.lst .ev (B9 z1.out)],.pubS 77,.call [] (.v (vB (decide ((B9 z1.out)=z3.out)))) []] (.leaf () [])) (.leaf () [])))))),(Fp 10 [.c (.seq .u8 code)] [] (.v (vB z12)) [])∧Bc z12 (Lf z13 z13 [] []) (In (Kj code) fun o1=>(let z8:=Bx ⟨o1.d,[]⟩ o1.l;let z9:=([(0,.v (.c (.seq .u8 code))),(3,.v (vP 0)),(4,.v (.c (.seq .str o1.l))),(5,.v (vP 1)),(6,.v (vO 4)),(9,.v (vP 5)),(10,.v (vO 8))]:List (Nat×S))=[(0,.v (.c (.seq .u8 code))),(3,.v (vP 0)),(4,.v (.c (.seq .str o1.l))),(5,.v (vP 1)),(6,.v (vO 4)),(9,.v (vP 5)),(10,.v (vO 8))];let z10:=List.flatten o1.l;let z7:=Cj o1.d z10;let z11:=Bu o1.d;let z6:List Blk:=[.cells z11,.cells (Ad 2 3 z8.d),.tree z8.d.plan.shapes,.lst .lev z8.d.stack,.lst .ev z8.out,.cells (Ad 6 7 z7.d),.tree z7.d.plan.shapes,.lst .lev z7.d.stack,.lst .ev z7.out];(P1 code o1)∧(Fp 32 [.agg z11,.c (.seq .str o1.l)] [] (.tup [.agg (Ad 0 1 z8.d),vO 2]) (Ls z8.d z8.out))∧(Fp 33 [.agg z11,.c (.seq .str o1.l)] [] (.tup [.agg (Ad 0 1 z8.d),vO 2]) (Ls z8.d z8.out))∧(Fp 34 [.agg (Bu z8.d),.agg (Bu z8.d)] [] z13 [])∧((!true)=false)∧(Fp 22 [.c (.seq .ev z8.out),.c (.seq .ev z8.out)] [] (.v (vB (decide (z8.out=z8.out)))) [])∧((!(decide (z8.out=z8.out)))=false)∧(Fp 36 [.c (.seq .str o1.l)] [] (.v (vT z10)) [])∧(Fp 35 [.agg z11,vT z10] [] (.tup [.agg (Ad 0 1 z7.d),vO 2]) (Ls z7.d z7.out))∧(Fp 35 [.agg z11,vT z10] [] (.tup [.agg (Ad 0 1 z7.d),vO 2]) (Ls z7.d z7.out))∧((z6:List Blk)=z6)∧z9∧(Fp 36 [.c (.seq .str o1.l)] [] (.v (vT z10)) [])∧(Fp 35 [.agg z11,vT z10] [] (.tup [.agg (Ad 0 1 z7.d),vO 2]) (Ls z7.d z7.out))∧((z6:List Blk)=z6)∧z9∧(Fp 38 [.c (.seq .str o1.l)] [] (.v (vT z10)) [])∧In (Yv code 5) fun o2=>((Acn code 5 o2)∧In (Abd z10 o2.o) fun o3=>(let z2:=Bx ⟨o1.d,[]⟩ o3.o;(Ag0 z10 o2.o o3)∧(Fp 32 [.agg z11,.c (.seq .str o3.o)] [] (.tup [.agg (Ad 0 1 z2.d),vO 2]) (Ls z2.d z2.out))∧(Fp 34 [.agg (Bu z7.d),.agg (Bu z8.d)] [] z13 [])∧(true=true)∧(Fp 34 [.agg (Bu z2.d),.agg (Bu z8.d)] [] z13 [])∧(true=true)∧(Fp 40 [.c (.seq .ev z8.out)] [] z15 [.lst .ev (B9 z8.out)])∧(Fp 22 [.c (.seq .ev z7.out),.c (.seq .ev (B9 z8.out))] [] (.v (vB (decide (z7.out=(B9 z8.out))))) [])∧Bc (decide (z7.out=(B9 z8.out))) ((Fp 40 [.c (.seq .ev z2.out)] [] z15 [.lst .ev (B9 z2.out)])∧(Fp 22 [.c (.seq .ev (B9 z2.out)),.c (.seq .ev z7.out)] [] (.v (vB (decide ((B9 z2.out)=z7.out)))) [])∧Lf (.v (vB (decide ((B9 z2.out)=z7.out)))) z13 [] []) (Lf (.v (vB false)) z13 [] []))))))) Q4 ?_
 refine⟨(Amr _ Q2),dsp (fun h1 p1=>?_) fun h1 p1=>?_⟩
 exact⟨rfl,rfl⟩
 refine⟨(Yw code Q2),fun o1 ho_o1=>?_⟩
 obtain ⟨⟨hp_o1_0,hp_o1_1,hp_o1_2⟩,hf_o1⟩:=ho_o1
 refine⟨hf_o1,(Z2 o1.d _ Q75 (fun e he=>by have:=(hp_o1_0).flds e he;omega) Q73 ((hp_o1_0).bits) Q2 Q14),(Age o1.d _ Q75 (fun e he=>by have:=(hp_o1_0).flds e he;omega) Q73 ((hp_o1_0).bits) Q2 Q14),(V0 (Bx ⟨o1.d,[]⟩ o1.l).d (Bx ⟨o1.d,[]⟩ o1.l).d (rfl) (by have:=(Np o1.l (m:=⟨o1.d,[]⟩) hp_o1_0).shs;omega) (fun e he=>by have:=(Np o1.l (m:=⟨o1.d,[]⟩) hp_o1_0).flds e he;omega) (by have:=(Np o1.l (m:=⟨o1.d,[]⟩) hp_o1_0).stack;omega)),Q28,(V2 _ _ Q14 Q14),Q84,(Aco _ Q2 Q2),(Aci o1.d _ Q75 (fun e he=>by have:=(hp_o1_0).flds e he;omega) Q73 ((hp_o1_0).bits) Q2),(Aci o1.d _ Q75 (fun e he=>by have:=(hp_o1_0).flds e he;omega) Q73 ((hp_o1_0).bits) Q2),rfl,rfl,(Aco _ Q2 Q2),(Aci o1.d _ Q75 (fun e he=>by have:=(hp_o1_0).flds e he;omega) Q73 ((hp_o1_0).bits) Q2),rfl,rfl,(Ain _ Q2 Q2),(Ams code 5 Q2 Q2 (hp2)),fun o2 ho_o2=>?_⟩
 obtain ⟨hp_o2,hf_o2⟩:=ho_o2
 refine⟨hf_o2,(Anj (List.flatten o1.l) o2.o Q2 Q2),fun o3 ho_o3=>?_⟩
 obtain ⟨⟨hp_o3_0,hp_o3_1⟩,hf_o3⟩:=ho_o3
 refine⟨hf_o3,(Z2 o1.d _ Q75 (fun e he=>by have:=(hp_o1_0).flds e he;omega) Q73 ((hp_o1_0).bits) Q2 Q17),(V0 (Cj o1.d (List.flatten o1.l)).d (Bx ⟨o1.d,[]⟩ o1.l).d ((Lm rfl).1.symm) (by have:=(Abf hp_o1_0 (List.flatten o1.l)).shs;omega) (fun e he=>by have:=(Abf hp_o1_0 (List.flatten o1.l)).flds e he;omega) (by have:=(Abf hp_o1_0 (List.flatten o1.l)).stack;omega)),Q28,(V0 (Bx ⟨o1.d,[]⟩ o3.o).d (Bx ⟨o1.d,[]⟩ o1.l).d ((Lm hp_o3_0).1.trans (Lm rfl).1.symm) (by have:=(Np o3.o (m:=⟨o1.d,[]⟩) hp_o1_0).shs;omega) (fun e he=>by have:=(Np o3.o (m:=⟨o1.d,[]⟩) hp_o1_0).flds e he;omega) (by have:=(Np o3.o (m:=⟨o1.d,[]⟩) hp_o1_0).stack;omega)),Q28,(Yp _ Q14 Q14),(V2 _ _ Q14 Q14),dsp (fun h2 p2=>?_) fun h2 p2=>?_⟩
 refine⟨(Yp _ Q17 Q17),(V2 _ _ Q17 Q14),(sB ?_),rfl⟩
 rotate_left
 refine⟨(sB ?_),rfl⟩
 rotate_left
 all_goals first|(rfl)|((simp[(Lm (d:=o1.d) (cs:=o1.l) rfl).2];done))|((simp[(Lm (d:=o1.d) (cs:=o1.l) rfl).2,(Lm (d:=o1.d) (cs:=o3.o) hp_o3_0).2];done))|((exfalso;exact absurd (Lm (d:=o1.d) (cs:=o1.l) rfl).2.symm (by assumption)))|((exfalso;exact absurd (Lm (d:=o1.d) (cs:=o3.o) hp_o3_0).2 (by assumption)))|(grind)
end Go.Proofs.YtijacopaadmncaaGreat.Ax
namespace Go.Proofs.YtijacopaadmncaaGreat.Ax
open Go.ChangeShapes Go.WideShapes Go.ChangeAt Go.RowKit
theorem Ag3:Tryz.prog.cellsOf 5=1:=by kernel_rfl
theorem An1 {H:Type} {tok:TypeId×Value→H} {w:World} {sp:Nat→Bool} {held:Bool} (fuel:Nat) (cs:List Value) (x:DataW H×List MemPlace) (hl:cs.length=1) (h:DataW.trod tok Tryz.prog w 0 sp held fuel 5 cs=some x): ∃y:Int,All2 Rep0 (enc .u8 y) cs∧(0≤y∧y≤255):=by
 obtain ⟨i,rfl,_,hw⟩:=DataW.trod_int Tryz.underlying5 h
 exact⟨i,.cons rfl .nil,bounds_u8 hw⟩
end Go.Proofs.YtijacopaadmncaaGreat.Ax
