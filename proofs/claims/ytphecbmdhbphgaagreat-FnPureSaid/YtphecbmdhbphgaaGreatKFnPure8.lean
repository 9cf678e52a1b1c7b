/- Drawn scans, states, events. A byte keeps a decoder right. Whole inputs. Models: modes. Drawn decoders. What is too long to draw from. The law FnPure. Opening what the laws are handed. -/
import Derived.Test.YtphecbmdhbphgaaGreatKFnPure6
import Derived.Test.YtphecbmdhbphgaaGreatKFnPure1
import Derived.Test.YtphecbmdhbphgaaGreatKFnPure5
import Derived.Test.YtphecbmdhbphgaaGreatKFnPure7
import Derived.Test.YtphecbmdhbphgaaGreatKB4
set_option linter.unusedSimpArgs false
set_option linter.unusedVariables false
namespace Go.Proofs.YtphecbmdhbphgaaGreat.Ax
open Go.RowKit
theorem Ae5 {e:Ev} (h:e.text.length≤1000) (hb:0≤e.bits∧e.bits≤18446744073709551615):EvB e:=⟨Nat.le_trans h (by decide),hb⟩
theorem EvB.like {e x:Ev} (h:EvB e) (ht:x.text=e.text) (hb:x.bits=e.bits):EvB x:=by unfold EvB;rw[ht,hb];exact h
structure C6 where
 e:Ev
 c1:Cur
def Sb (c:Cur) (o:C6):Prop:=Fun Tryz.prog 175 [vP 0] [.cells (B0 c)] (.v (.agg (cEv o.e))) [.cells (B0 o.c1)]
def Nn (c:Cur) (o:C6):Prop:=((EvB o.e)∧(List.length (o.e).text≤4)∧(Av o.c1))∧Sb c o
theorem Aam (c:Cur) (hp1:Av c): ∃o:C6,Nn c o:=by
 have hN:Bj=274877906944:=rfl
 refine Bv Tryz.func175 Q4 Q4 (w:=let zi:Int→C:= .int .i64;let z20:List C:=[.str [],zi 0,zi 0];(.intro (Aa c 10) fun o1=>let z15:=Aa o1.c1 12;.seg [.call [0] (.v (vI o1.x)) (Kc o1.c1),.as 7 (.v (vI (1+o1.x)))] (.br (.intro (Aa o1.c1 40) fun o2=> .seg [.call [0] (.v (vI o2.x)) (Kc o2.c1)] (.leaf (⟨(⟨1+o1.x,0,0,o2.x,[],0,0⟩:Ev),o2.c1⟩:C6) [0])) (.br (.intro z15 fun o2=> .seg [.call [0] (.v (vI o2.x)) (Kc o2.c1),.as 20 (.v (vI (1+o2.x)))] (.intro (B4 o2.c1) fun o3=> .seg [.call [0] (.v (.c (.int .u64 o3.x))) (Kc o3.c1)] (.leaf (⟨(⟨1+o1.x,1+o2.x,o3.x,0,[],0,0⟩:Ev),o3.c1⟩:C6) [0]))) (.br (.intro z15 fun o2=> .seg [.br true,.call [0] (.v (vI o2.x)) (Kc o2.c1),.as 30 (.v (vI (1+o2.x)))] (.intro (Aa o2.c1 12) fun o3=> .seg [.call [0] (.v (vI o3.x)) (Kc o3.c1)] (.leaf (⟨(⟨1+o1.x,1+o2.x,0,o3.x,[],0,0⟩:Ev),o3.c1⟩:C6) [0]))) (.br (.intro z15 fun o2=> .seg [.call [0] (.v (vI o2.x)) (Kc o2.c1),.as 30 (.v (vI (1+o2.x)))] (.intro (Aa o2.c1 12) fun o3=> .seg [.call [0] (.v (vI o3.x)) (Kc o3.c1)] (.leaf (⟨(⟨1+o1.x,1+o2.x,0,o3.x,[],0,0⟩:Ev),o3.c1⟩:C6) [0]))) (.br (.seg [.ty .str,.pubS 38] (.intro (Gu o1.c1 [[97],[98,99],[195,169],[255]]) fun o2=> .seg [.call [0] (.v (vT o2.t)) (Kc o2.c1)] (.leaf (⟨(⟨1+o1.x,0,0,0,o2.t,0,0⟩:Ev),o2.c1⟩:C6) [0]))) (.br (.intro (Aa o1.c1 99) fun o2=> .seg [.call [0] (.v (vI o2.x)) (Kc o2.c1)] (.leaf (⟨(⟨1+o1.x,0,0,0,[],0,o2.x⟩:Ev),o2.c1⟩:C6) [0])) (.br (.intro (Aa o1.c1 99) fun o2=> .seg [.call [0] (.v (vI o2.x)) (Kc o2.c1)] (.intro (Aa o2.c1 10) fun o3=> .seg [.call [0] (.v (vI o3.x)) (Kc o3.c1),.as 53 (.v (vI (1+o3.x)))] (.leaf (⟨(⟨1+o1.x,0,0,0,[],1+o3.x,o2.x⟩:Ev),o3.c1⟩:C6) [0]))) (.leaf (⟨(⟨1+o1.x,0,0,0,[],0,0⟩:Ev),o1.c1⟩:C6) [0])))))))),In (Aa c 10) fun o1=>(let z17:=1+o1.x;let z16:S:= .v (.agg (zi z17::zi 0:: .int .u64 0::zi 0::z20));let z18:=Aa o1.c1 12;let z19:=(⟨1+o1.x,0,0,0,[],0,0⟩:Ev);(Ai c 10 o1)∧(wI z17)∧Bc (decide (1+o1.x=1)) (In (Aa o1.c1 40) fun o2=>(let z1:S:= .v (.agg (zi z17::zi 0:: .int .u64 0::zi o2.x::z20));let z2:=(⟨1+o1.x,0,0,o2.x,[],0,0⟩:Ev);(Ai o1.c1 40 o2)∧((EvB z2)∧(List.length (z2).text≤4)∧(Av o2.c1))∧Lf z1 z1 (Kc o2.c1) (Kc o2.c1))) (Bc (decide (1+o1.x=2)) (In z18 fun o2=>((Ai o1.c1 12 o2)∧(wI (1+o2.x))∧In (B4 o2.c1) fun o3=>(let z3:S:= .v (.agg (zi z17::zi (1+o2.x):: .int .u64 o3.x::zi 0::z20));let z4:=(⟨1+o1.x,1+o2.x,o3.x,0,[],0,0⟩:Ev);(Du o2.c1 o3)∧((EvB z4)∧(List.length (z4).text≤4)∧(Av o3.c1))∧Lf z3 z3 (Kc o3.c1) (Kc o3.c1)))) (Bc (decide (1+o1.x=3)) (In z18 fun o2=>(((decide (1+o1.x=3))=true)∧(Ai o1.c1 12 o2)∧(wI (1+o2.x))∧In (Aa o2.c1 12) fun o3=>(let z5:S:= .v (.agg (zi z17::zi (1+o2.x):: .int .u64 0::zi o3.x::z20));let z6:=(⟨1+o1.x,1+o2.x,0,o3.x,[],0,0⟩:Ev);(Ai o2.c1 12 o3)∧((EvB z6)∧(List.length (z6).text≤4)∧(Av o3.c1))∧Lf z5 z5 (Kc o3.c1) (Kc o3.c1)))) (Bc (decide (1+o1.x=6)) (In z18 fun o2=>((Ai o1.c1 12 o2)∧(wI (1+o2.x))∧In (Aa o2.c1 12) fun o3=>(let z7:S:= .v (.agg (zi z17::zi (1+o2.x):: .int .u64 0::zi o3.x::z20));let z8:=(⟨1+o1.x,1+o2.x,0,o3.x,[],0,0⟩:Ev);(Ai o2.c1 12 o3)∧((EvB z8)∧(List.length (z8).text≤4)∧(Av o3.c1))∧Lf z7 z7 (Kc o3.c1) (Kc o3.c1)))) (Bc (decide (1+o1.x=4)) (In (Gu o1.c1 [[97],[98,99],[195,169],[255]]) fun o2=>(let z9:S:= .v (.agg [zi z17,zi 0,.int .u64 0,zi 0,.str o2.t,zi 0,zi 0]);let z10:=(⟨1+o1.x,0,0,0,o2.t,0,0⟩:Ev);(N5 o1.c1 [[97],[98,99],[195,169],[255]] o2)∧((EvB z10)∧(List.length (z10).text≤4)∧(Av o2.c1))∧Lf z9 z9 (Kc o2.c1) (Kc o2.c1))) (Bc (decide (1+o1.x=9)) (In (Aa o1.c1 99) fun o2=>(let z11:S:= .v (.agg [zi z17,zi 0,.int .u64 0,zi 0,.str [],zi 0,zi o2.x]);let z12:=(⟨1+o1.x,0,0,0,[],0,o2.x⟩:Ev);(Ai o1.c1 99 o2)∧((EvB z12)∧(List.length (z12).text≤4)∧(Av o2.c1))∧Lf z11 z11 (Kc o2.c1) (Kc o2.c1))) (Bc (decide (1+o1.x=10)) (In (Aa o1.c1 99) fun o2=>((Ai o1.c1 99 o2)∧In (Aa o2.c1 10) fun o3=>(let z13:S:= .v (.agg [zi z17,zi 0,.int .u64 0,zi 0,.str [],zi (1+o3.x),zi o2.x]);let z14:=(⟨1+o1.x,0,0,0,[],1+o3.x,o2.x⟩:Ev);(Ai o2.c1 10 o3)∧(wI (1+o3.x))∧((EvB z14)∧(List.length (z14).text≤4)∧(Av o3.c1))∧Lf z13 z13 (Kc o3.c1) (Kc o3.c1)))) (((EvB z19)∧(List.length (z19).text≤4)∧(Av o1.c1))∧Lf z16 z16 (Kc o1.c1) (Kc o1.c1))))))))))) Q4 ?_
 refine⟨(Am c 10 Q0),fun o1 ho_o1=>?_⟩
 obtain ⟨⟨hp_o1_0,hp_o1_1,hp_o1_2,hp_o1_3⟩,hf_o1⟩:=ho_o1
 refine⟨hf_o1,(Ac Q2 Q2),dsp (fun h1 p1=>?_) fun h1 p1=>?_⟩
 refine⟨(Am o1.c1 40 Q0),fun o2 ho_o2=>?_⟩
 obtain ⟨⟨hp_o2_0,hp_o2_1,hp_o2_2,hp_o2_3⟩,hf_o2⟩:=ho_o2
 exact⟨hf_o2,⟨Q18,Q28,Q0⟩,rfl,rfl⟩
 refine dsp (fun h2 p2=>?_) fun h2 p2=>?_
 refine⟨(Am o1.c1 12 Q0),fun o2 ho_o2=>?_⟩
 obtain ⟨⟨hp_o2_0,hp_o2_1,hp_o2_2,hp_o2_3⟩,hf_o2⟩:=ho_o2
 refine⟨hf_o2,(Ac Q2 Q2),(Gb o2.c1 Q0),fun o3 ho_o3=>?_⟩
 obtain ⟨⟨hp_o3_0,hp_o3_1⟩,hf_o3⟩:=ho_o3
 exact⟨hf_o3,⟨Q18,Q28,Q0⟩,rfl,rfl⟩
 refine dsp (fun h3 p3=>?_) fun h3 p3=>?_
 refine⟨(Am o1.c1 12 Q0),fun o2 ho_o2=>?_⟩
 refine⟨h3,?_⟩
 obtain ⟨⟨hp_o2_0,hp_o2_1,hp_o2_2,hp_o2_3⟩,hf_o2⟩:=ho_o2
 refine⟨hf_o2,(Ac Q2 Q2),(Am o2.c1 12 Q0),fun o3 ho_o3=>?_⟩
 obtain ⟨⟨hp_o3_0,hp_o3_1,hp_o3_2,hp_o3_3⟩,hf_o3⟩:=ho_o3
 exact⟨hf_o3,⟨Q18,Q28,Q0⟩,rfl,rfl⟩
 refine dsp (fun h4 p4=>?_) fun h4 p4=>?_
 refine⟨(Am o1.c1 12 Q0),fun o2 ho_o2=>?_⟩
 obtain ⟨⟨hp_o2_0,hp_o2_1,hp_o2_2,hp_o2_3⟩,hf_o2⟩:=ho_o2
 refine⟨hf_o2,(Ac Q2 Q2),(Am o2.c1 12 Q0),fun o3 ho_o3=>?_⟩
 obtain ⟨⟨hp_o3_0,hp_o3_1,hp_o3_2,hp_o3_3⟩,hf_o3⟩:=ho_o3
 exact⟨hf_o3,⟨Q18,Q28,Q0⟩,rfl,rfl⟩
 refine dsp (fun h5 p5=>?_) fun h5 p5=>?_
 refine⟨(Wa o1.c1 [[97],[98,99],[195,169],[255]] Q0 Q5 Q5),fun o2 ho_o2=>?_⟩
 obtain ⟨⟨hp_o2_0,hp_o2_1⟩,hf_o2⟩:=ho_o2
 exact⟨hf_o2,⟨Q18,Q28,Q0⟩,rfl,rfl⟩
 refine dsp (fun h6 p6=>?_) fun h6 p6=>?_
 refine⟨(Am o1.c1 99 Q0),fun o2 ho_o2=>?_⟩
 obtain ⟨⟨hp_o2_0,hp_o2_1,hp_o2_2,hp_o2_3⟩,hf_o2⟩:=ho_o2
 exact⟨hf_o2,⟨Q18,Q28,Q0⟩,rfl,rfl⟩
 refine dsp (fun h7 p7=>?_) fun h7 p7=>?_
 refine⟨(Am o1.c1 99 Q0),fun o2 ho_o2=>?_⟩
 obtain ⟨⟨hp_o2_0,hp_o2_1,hp_o2_2,hp_o2_3⟩,hf_o2⟩:=ho_o2
 refine⟨hf_o2,(Am o2.c1 10 Q0),fun o3 ho_o3=>?_⟩
 obtain ⟨⟨hp_o3_0,hp_o3_1,hp_o3_2,hp_o3_3⟩,hf_o3⟩:=ho_o3
 exact⟨hf_o3,(Ac Q2 Q2),⟨Q18,Q28,Q0⟩,rfl,rfl⟩
 exact⟨⟨Q18,Q28,Q0⟩,rfl,rfl⟩
structure Dn where
 e:Ev
 c1:Cur
def Ua (c:Cur) (o:Dn):Prop:=Fun Tryz.prog 115 [vP 0] [.cells (B0 c)] (.v (.agg (cEv o.e))) [.cells (B0 o.c1)]
def Pz (c:Cur) (o:Dn):Prop:=((EvB o.e)∧(List.length (o.e).text≤4)∧(Av o.c1))∧Ua c o
theorem Acx (c:Cur) (hp1:Av c): ∃o:Dn,Pz c o:=by
 have hN:Bj=274877906944:=rfl
 refine Bv Tryz.func115 Q4 Q4 (w:=let zi:Int→C:= .int .i64;(.intro (Nn c) fun o1=> .seg [.call [0] (.v (.agg (cEv o1.e))) (Kc o1.c1)] (.intro (Aa o1.c1 14) fun o2=> .seg [.call [0] (.v (vI o2.x)) (Kc o2.c1)] (.br (.intro (Aa o2.c1 13) fun o3=> .seg [.call [0] (.v (vI o3.x)) (Kc o3.c1),.as 12 (.v (vI (o3.x-1)))] (.leaf (⟨(⟨o3.x-1,o1.e.field,o1.e.bits,o1.e.len,o1.e.text,o1.e.code,o1.e.at_⟩:Ev),o3.c1⟩:Dn) [0])) (.br (.intro (Ng o2.c1) fun o3=> .seg [.call [0] (.v (vI o3.x)) (Kc o3.c1)] (.leaf (⟨(⟨o1.e.kind,o3.x,o1.e.bits,o1.e.len,o1.e.text,o1.e.code,o1.e.at_⟩:Ev),o3.c1⟩:Dn) [0])) (.br (.intro (Jk o2.c1) fun o3=> .seg [.call [0] (.v (vI o3.x)) (Kc o3.c1)] (.leaf (⟨(⟨o1.e.kind,o1.e.field,o1.e.bits,o3.x,o1.e.text,o1.e.code,o1.e.at_⟩:Ev),o3.c1⟩:Dn) [0])) (.br (.seg [.ty .str,.pubS 27] (.intro (Gu o2.c1 [[],[120]]) fun o3=> .seg [.call [0] (.v (vT o3.t)) (Kc o3.c1)] (.leaf (⟨(⟨o1.e.kind,o1.e.field,o1.e.bits,o1.e.len,o3.t,o1.e.code,o1.e.at_⟩:Ev),o3.c1⟩:Dn) [0]))) (.br (.seg [.ty .int,.pubS 33] (.intro (A3 o2.c1 [0,(-1),11,20]) fun o3=> .seg [.call [0] (.v (vI o3.x)) (Kc o3.c1)] (.leaf (⟨(⟨o1.e.kind,o1.e.field,o1.e.bits,o1.e.len,o1.e.text,o3.x,o1.e.at_⟩:Ev),o3.c1⟩:Dn) [0]))) (.br (.intro (Jk o2.c1) fun o3=> .seg [.call [0] (.v (vI o3.x)) (Kc o3.c1)] (.leaf (⟨(⟨o1.e.kind,o1.e.field,o1.e.bits,o1.e.len,o1.e.text,o1.e.code,o3.x⟩:Ev),o3.c1⟩:Dn) [0])) (.br (.intro (B4 o2.c1) fun o3=> .seg [.call [0] (.v (.c (.int .u64 o3.x))) (Kc o3.c1)] (.leaf (⟨(⟨o1.e.kind,o1.e.field,o3.x,o1.e.len,o1.e.text,o1.e.code,o1.e.at_⟩:Ev),o3.c1⟩:Dn) [0])) (.leaf (⟨o1.e,o2.c1⟩:Dn) [0]))))))))),In (Nn c) fun o1=>((Sb c o1)∧In (Aa o1.c1 14) fun o2=>((Ai o1.c1 14 o2)∧Bc (decide (o2.x=0)) (In (Aa o2.c1 13) fun o3=>(let z1:S:= .v (.agg [zi (o3.x-1),zi o1.e.field,.int .u64 o1.e.bits,zi o1.e.len,.str o1.e.text,zi o1.e.code,zi o1.e.at_]);let z2:=(⟨o3.x-1,o1.e.field,o1.e.bits,o1.e.len,o1.e.text,o1.e.code,o1.e.at_⟩:Ev);(Ai o2.c1 13 o3)∧(wI (o3.x-1))∧((EvB z2)∧(List.length (z2).text≤4)∧(Av o3.c1))∧Lf z1 z1 (Kc o3.c1) (Kc o3.c1))) (Bc (decide (o2.x=1)) (In (Ng o2.c1) fun o3=>(let z3:S:= .v (.agg [zi o1.e.kind,zi o3.x,.int .u64 o1.e.bits,zi o1.e.len,.str o1.e.text,zi o1.e.code,zi o1.e.at_]);let z4:=(⟨o1.e.kind,o3.x,o1.e.bits,o1.e.len,o1.e.text,o1.e.code,o1.e.at_⟩:Ev);(R5 o2.c1 o3)∧((EvB z4)∧(List.length (z4).text≤4)∧(Av o3.c1))∧Lf z3 z3 (Kc o3.c1) (Kc o3.c1))) (Bc (decide (o2.x=2)) (In (Jk o2.c1) fun o3=>(let z5:S:= .v (.agg [zi o1.e.kind,zi o1.e.field,.int .u64 o1.e.bits,zi o3.x,.str o1.e.text,zi o1.e.code,zi o1.e.at_]);let z6:=(⟨o1.e.kind,o1.e.field,o1.e.bits,o3.x,o1.e.text,o1.e.code,o1.e.at_⟩:Ev);(Ps o2.c1 o3)∧((EvB z6)∧(List.length (z6).text≤4)∧(Av o3.c1))∧Lf z5 z5 (Kc o3.c1) (Kc o3.c1))) (Bc (decide (o2.x=3)) (In (Gu o2.c1 [[],[120]]) fun o3=>(let z7:S:= .v (.agg [zi o1.e.kind,zi o1.e.field,.int .u64 o1.e.bits,zi o1.e.len,.str o3.t,zi o1.e.code,zi o1.e.at_]);let z8:=(⟨o1.e.kind,o1.e.field,o1.e.bits,o1.e.len,o3.t,o1.e.code,o1.e.at_⟩:Ev);(N5 o2.c1 [[],[120]] o3)∧((EvB z8)∧(List.length (z8).text≤4)∧(Av o3.c1))∧Lf z7 z7 (Kc o3.c1) (Kc o3.c1))) (Bc (decide (o2.x=4)) (In (A3 o2.c1 [0,(-1),11,20]) fun o3=>(let z9:S:= .v (.agg [zi o1.e.kind,zi o1.e.field,.int .u64 o1.e.bits,zi o1.e.len,.str o1.e.text,zi o3.x,zi o1.e.at_]);let z10:=(⟨o1.e.kind,o1.e.field,o1.e.bits,o1.e.len,o1.e.text,o3.x,o1.e.at_⟩:Ev);(B2 o2.c1 [0,(-1),11,20] o3)∧((EvB z10)∧(List.length (z10).text≤4)∧(Av o3.c1))∧Lf z9 z9 (Kc o3.c1) (Kc o3.c1))) (Bc (decide (o2.x=5)) (In (Jk o2.c1) fun o3=>(let z11:S:= .v (.agg [zi o1.e.kind,zi o1.e.field,.int .u64 o1.e.bits,zi o1.e.len,.str o1.e.text,zi o1.e.code,zi o3.x]);let z12:=(⟨o1.e.kind,o1.e.field,o1.e.bits,o1.e.len,o1.e.text,o1.e.code,o3.x⟩:Ev);(Ps o2.c1 o3)∧((EvB z12)∧(List.length (z12).text≤4)∧(Av o3.c1))∧Lf z11 z11 (Kc o3.c1) (Kc o3.c1))) (Bc (decide (o2.x=6)) (In (B4 o2.c1) fun o3=>(let z13:S:= .v (.agg [zi o1.e.kind,zi o1.e.field,.int .u64 o3.x,zi o1.e.len,.str o1.e.text,zi o1.e.code,zi o1.e.at_]);let z14:=(⟨o1.e.kind,o1.e.field,o3.x,o1.e.len,o1.e.text,o1.e.code,o1.e.at_⟩:Ev);(Du o2.c1 o3)∧((EvB z14)∧(List.length (z14).text≤4)∧(Av o3.c1))∧Lf z13 z13 (Kc o3.c1) (Kc o3.c1))) (((EvB o1.e)∧(List.length (o1.e).text≤4)∧(Av o2.c1))∧Lf (.v (.agg (cEv o1.e))) (.v (.agg (cEv o1.e))) (Kc o2.c1) (Kc o2.c1)))))))))))) Q4 ?_
 refine⟨(Aam c Q0),fun o1 ho_o1=>?_⟩
 obtain ⟨⟨hp_o1_0,hp_o1_1,hp_o1_2⟩,hf_o1⟩:=ho_o1
 refine⟨hf_o1,(Am o1.c1 14 Q0),fun o2 ho_o2=>?_⟩
 obtain ⟨⟨hp_o2_0,hp_o2_1,hp_o2_2,hp_o2_3⟩,hf_o2⟩:=ho_o2
 refine⟨hf_o2,dsp (fun h1 p1=>?_) fun h1 p1=>?_⟩
 refine⟨(Am o2.c1 13 Q0),fun o3 ho_o3=>?_⟩
 obtain ⟨⟨hp_o3_0,hp_o3_1,hp_o3_2,hp_o3_3⟩,hf_o3⟩:=ho_o3
 exact⟨hf_o3,(Ac Q2 Q2),⟨Q15,Q31,Q0⟩,rfl,rfl⟩
 refine dsp (fun h2 p2=>?_) fun h2 p2=>?_
 refine⟨(Aaf o2.c1 Q0),fun o3 ho_o3=>?_⟩
 obtain ⟨hp_o3,hf_o3⟩:=ho_o3
 exact⟨hf_o3,⟨Q15,Q31,Q0⟩,rfl,rfl⟩
 refine dsp (fun h3 p3=>?_) fun h3 p3=>?_
 refine⟨(Xe o2.c1 Q0),fun o3 ho_o3=>?_⟩
 obtain ⟨hp_o3,hf_o3⟩:=ho_o3
 exact⟨hf_o3,⟨Q15,Q31,Q0⟩,rfl,rfl⟩
 refine dsp (fun h4 p4=>?_) fun h4 p4=>?_
 refine⟨(Wa o2.c1 [[],[120]] Q0 Q5 Q5),fun o3 ho_o3=>?_⟩
 obtain ⟨⟨hp_o3_0,hp_o3_1⟩,hf_o3⟩:=ho_o3
 exact⟨hf_o3,⟨Q15,Q31,Q0⟩,rfl,rfl⟩
 refine dsp (fun h5 p5=>?_) fun h5 p5=>?_
 refine⟨(Co o2.c1 [0,(-1),11,20] Q0 Q5 Q5),fun o3 ho_o3=>?_⟩
 obtain ⟨⟨hp_o3_0,hp_o3_1⟩,hf_o3⟩:=ho_o3
 exact⟨hf_o3,⟨Q15,Q31,Q0⟩,rfl,rfl⟩
 refine dsp (fun h6 p6=>?_) fun h6 p6=>?_
 refine⟨(Xe o2.c1 Q0),fun o3 ho_o3=>?_⟩
 obtain ⟨hp_o3,hf_o3⟩:=ho_o3
 exact⟨hf_o3,⟨Q15,Q31,Q0⟩,rfl,rfl⟩
 refine dsp (fun h7 p7=>?_) fun h7 p7=>?_
 refine⟨(Gb o2.c1 Q0),fun o3 ho_o3=>?_⟩
 obtain ⟨⟨hp_o3_0,hp_o3_1⟩,hf_o3⟩:=ho_o3
 exact⟨hf_o3,⟨Q15,Q31,Q0⟩,rfl,rfl⟩
 exact⟨⟨Q15,Q31,Q0⟩,rfl,rfl⟩
structure H7 where
 s:Scn
 c1:Cur
def Vg (c:Cur) (o:H7):Prop:=Fun Tryz.prog 113 [vP 0] [.cells (B0 c)] (.v (.agg (Jt o.s))) [.cells (B0 o.c1)]
def Rk (c:Cur) (o:H7):Prop:=(((0:Int)≤(o.s).bits∧(o.s).bits≤18446744073709551615)∧(Av o.c1))∧Vg c o
structure Mg where
 c:Cur
 s:Scn
 i:Nat
def Fi (o1:Cn):Fam:=⟨Mg,fun q1=>[(0,.v (vP 0)),(2,.v (vP 1)),(3,.v (vP 2)),(4,.v (vI o1.x)),(5,.v (vI ((q1.i:Nat):Int)))],fun q1=>[.cells (B0 q1.c),.cells [.int .u64 0,.int .i64 0],.cells (Jt q1.s)],fun q1=>Av q1.c∧q1.i≤9∧((0:Int)≤(q1.s).bits∧(q1.s).bits≤18446744073709551615),fun q1=>10-q1.i⟩
theorem Aec (c:Cur) (hp1:Av c): ∃o:H7,Rk c o:=by
 have hN:Bj=274877906944:=rfl
 refine Bv Tryz.func113 Q4 Q4 (w:=let z5:= -9223372036854775808;(.intro (Aa c 10) fun o1=> .seg [.call [0] (.v (vI o1.x)) (Kc o1.c1),.at 0,.keep [0,2,3,4,5],.sel [0,1,2]] (.loop (Fi o1) fun q1=> .br (.intro (Aa q1.c 128) fun o2=> .seg [.ord (os 9 [2,4,8]) [0],.call [0] (.v (vI o2.x)) (Kc o2.c1),.as 18 (.v (vI (128+o2.x))),.call [] (.tup [.agg (Jt (Af q1.s (128+o2.x)).1),vI (Af q1.s (128+o2.x)).2]) [],.as 13 (.v (vI (((q1.i:Nat):Int)+1))),.at 0,.keep [0,2,3,4,5],.sel [0,1,2]] (.next)) (.intro (Aa q1.c 10) fun o2=> .seg [.call [0] (.v (vI o2.x)) (Kc o2.c1)] (.br (.seg [.ty .int,.pubS 27] (.intro (A3 o2.c1 [(-1),0,9,10,11,9223372036854775807,z5]) fun o3=> .seg [.call [0] (.v (vI o3.x)) (Kc o3.c1)] (.leaf (⟨(⟨q1.s.bits,o3.x⟩:Scn),o3.c1⟩:H7) [0]))) (.br (.intro (B4 o2.c1) fun o3=> .seg [.call [0] (.v (.c (.int .u64 o3.x))) (Kc o3.c1)] (.leaf (⟨(⟨o3.x,q1.s.have_⟩:Scn),o3.c1⟩:H7) [0])) (.leaf (⟨q1.s,o2.c1⟩:H7) [0]))))),In (Aa c 10) fun o1=>((Ai c 10 o1)∧(Fi o1).Has [(0,.v (vP 0)),(2,.v (vP 1)),(3,.v (vP 2)),(4,.v (vI o1.x)),(5,.v (vI 0))] [.cells (B0 o1.c1),.cells [.int .u64 0,.int .i64 0],.cells [.int .u64 0,.int .i64 0]]∧∀q1,(Fi o1).inv q1→(let z4:=((q1.i:Nat):Int);Bc (decide (z4<o1.x)) (In (Aa q1.c 128) fun o2=>(let z1:=Af q1.s (128+o2.x);(Ai q1.c 128 o2)∧(wI (128+o2.x))∧(Fp 136 [.agg (Jt q1.s),vI (128+o2.x)] [] (.tup [.agg (Jt z1.1),vI z1.2]) [])∧(wI (z4+1))∧(Fi o1).Nxt q1 [(0,.v (vP 0)),(2,.v (vP 1)),(3,.v (vP 2)),(4,.v (vI o1.x)),(5,.v (vI (z4+1)))] [.cells (B0 o2.c1),.cells [.int .u64 0,.int .i64 0],.cells (Jt z1.1)])) (In (Aa q1.c 10) fun o2=>((Ai q1.c 10 o2)∧Bc (decide (o2.x=0)) (In (A3 o2.c1 [(-1),0,9,10,11,9223372036854775807,z5]) fun o3=>(let z2:S:= .v (.agg [.int .u64 q1.s.bits,.int .i64 o3.x]);(B2 o2.c1 [(-1),0,9,10,11,9223372036854775807,z5] o3)∧(((0:Int)≤((⟨q1.s.bits,o3.x⟩:Scn)).bits∧((⟨q1.s.bits,o3.x⟩:Scn)).bits≤18446744073709551615)∧(Av o3.c1))∧Lf z2 z2 (Kc o3.c1) (Kc o3.c1))) (Bc (decide (o2.x=1)) (In (B4 o2.c1) fun o3=>(let z3:S:= .v (.agg [.int .u64 o3.x,.int .i64 q1.s.have_]);(Du o2.c1 o3)∧(((0:Int)≤((⟨o3.x,q1.s.have_⟩:Scn)).bits∧((⟨o3.x,q1.s.have_⟩:Scn)).bits≤18446744073709551615)∧(Av o3.c1))∧Lf z3 z3 (Kc o3.c1) (Kc o3.c1))) ((((0:Int)≤(q1.s).bits∧(q1.s).bits≤18446744073709551615)∧(Av o2.c1))∧Lf (.v (.agg (Jt q1.s))) (.v (.agg (Jt q1.s))) (Kc o2.c1) (Kc o2.c1))))))))) Q4 ?_
 refine⟨(Am c 10 Q0),fun o1 ho_o1=>?_⟩
 obtain ⟨⟨hp_o1_0,hp_o1_1,hp_o1_2,hp_o1_3⟩,hf_o1⟩:=ho_o1
 refine⟨hf_o1,Bh (j:=(⟨o1.c1,(⟨0,0⟩:Scn),0⟩:Mg)) Q9 Q9 (by dsimp only[Fi];exact⟨by assumption,by omega,by decide⟩),fun (q1:Mg) hq_q1=>?_⟩
 have hi_q1:Av q1.c∧q1.i≤9∧((0:Int)≤(q1.s).bits∧(q1.s).bits≤18446744073709551615):=hq_q1
 obtain ⟨v1,v2,v3⟩:=hi_q1
 refine dsp (fun h1 p1=>?_) fun h1 p1=>?_
 refine⟨(Am q1.c 128 Q0),fun o2 ho_o2=>?_⟩
 obtain ⟨⟨hp_o2_0,hp_o2_1,hp_o2_2,hp_o2_3⟩,hf_o2⟩:=ho_o2
 exact⟨hf_o2,(Ac Q2 Q2),(H5 q1.s _ Q2),(Ac Q2 Q2),Bb (j:=(⟨o2.c1,(Af q1.s (128+o2.x)).1,q1.i+1⟩:Mg)) Q9 rfl (by dsimp only[Fi];exact⟨by assumption,by omega,Nt v3.1 v3.2⟩) (by dsimp only[Fi];omega)⟩
 refine⟨(Am q1.c 10 Q0),fun o2 ho_o2=>?_⟩
 obtain ⟨⟨hp_o2_0,hp_o2_1,hp_o2_2,hp_o2_3⟩,hf_o2⟩:=ho_o2
 refine⟨hf_o2,dsp (fun h2 p2=>?_) fun h2 p2=>?_⟩
 refine⟨(Co o2.c1 [(-1),0,9,10,11,9223372036854775807,(-9223372036854775808)] Q0 Q5 Q5),fun o3 ho_o3=>?_⟩
 obtain ⟨⟨hp_o3_0,hp_o3_1⟩,hf_o3⟩:=ho_o3
 exact⟨hf_o3,⟨Q2,Q0⟩,rfl,rfl⟩
 refine dsp (fun h3 p3=>?_) fun h3 p3=>?_
 refine⟨(Gb o2.c1 Q0),fun o3 ho_o3=>?_⟩
 obtain ⟨⟨hp_o3_0,hp_o3_1⟩,hf_o3⟩:=ho_o3
 exact⟨hf_o3,⟨Q2,Q0⟩,rfl,rfl⟩
 exact⟨⟨Q2,Q0⟩,rfl,rfl⟩
structure K4 where
 x:Int
 c1:Cur
def Vh (c:Cur) (o:K4):Prop:=Fun Tryz.prog 55 [vP 0] [.cells (B0 c)] (.v (vI o.x)) [.cells (B0 o.c1)]
def Rm (c:Cur) (o:K4):Prop:=((Av o.c1))∧Vh c o
theorem Aed (c:Cur) (hp1:Av c): ∃o:K4,Rm c o:=by
 have hN:Bj=274877906944:=rfl
 refine Bv Tryz.func55 Q4 Q4 (w:=let z1:= -9223372036854775808;(.intro (Ap c 12) fun o1=> .seg [.call [0] (.v (vB o1.p)) (Kc o1.c1)] (.br (.seg [.ty .int,.pubS 6] (.intro (A3 o1.c1 [(-1),256,9223372036854775807,z1]) fun o2=> .seg [.call [0] (.v (vI o2.x)) (Kc o2.c1)] (.leaf (⟨o2.x,o2.c1⟩:K4) [0]))) (.intro (Aa o1.c1 256) fun o2=> .seg [.call [0] (.v (vI o2.x)) (Kc o2.c1),.ty .int,.pubS 11] (.intro (A3 o2.c1 [0,1,2,127,128,129,255,o2.x]) fun o3=> .seg [.call [0] (.v (vI o3.x)) (Kc o3.c1)] (.leaf (⟨o3.x,o3.c1⟩:K4) [0])))),In (Ap c 12) fun o1=>((Bd c 12 o1)∧Bc o1.p (In (A3 o1.c1 [(-1),256,9223372036854775807,z1]) fun o2=>((B2 o1.c1 [(-1),256,9223372036854775807,z1] o2)∧((Av o2.c1))∧Lf (.v (vI o2.x)) (.v (vI o2.x)) (Kc o2.c1) (Kc o2.c1))) (In (Aa o1.c1 256) fun o2=>((Ai o1.c1 256 o2)∧In (A3 o2.c1 [0,1,2,127,128,129,255,o2.x]) fun o3=>((B2 o2.c1 [0,1,2,127,128,129,255,o2.x] o3)∧((Av o3.c1))∧Lf (.v (vI o3.x)) (.v (vI o3.x)) (Kc o3.c1) (Kc o3.c1))))))) Q4 ?_
 refine⟨(Bw c 12 Q0),fun o1 ho_o1=>?_⟩
 obtain ⟨hp_o1,hf_o1⟩:=ho_o1
 refine⟨hf_o1,fun h1=>?_,fun h1=>?_⟩
 refine⟨(Co o1.c1 [(-1),256,9223372036854775807,(-9223372036854775808)] Q0 Q5 Q5),fun o2 ho_o2=>?_⟩
 obtain ⟨⟨hp_o2_0,hp_o2_1⟩,hf_o2⟩:=ho_o2
 exact⟨hf_o2,Q0,rfl,rfl⟩
 refine⟨(Am o1.c1 256 Q0),fun o2 ho_o2=>?_⟩
 obtain ⟨⟨hp_o2_0,hp_o2_1,hp_o2_2,hp_o2_3⟩,hf_o2⟩:=ho_o2
 refine⟨hf_o2,(Co o2.c1 [0,1,2,127,128,129,255,o2.x] Q0 Q5 Q5),fun o3 ho_o3=>?_⟩
 obtain ⟨⟨hp_o3_0,hp_o3_1⟩,hf_o3⟩:=ho_o3
 exact⟨hf_o3,Q0,rfl,rfl⟩
theorem Aan (s:List UInt8) (hp1:List.length s≤Bj):Fun Tryz.prog 173 [vT s] [] (.v (.agg (Jg (Qz utf0 s)))) []:=by
 have hN:Bj=274877906944:=rfl
 refine Ar Tryz.func173 Q4 Q4 (w:=let z2:=Jg (Qz (⟨0,0,0⟩:Utf) s);let z1:S:= .tup [.agg z2,vI (W1 (⟨0,0,0⟩:Utf) s)];(.seg [.call [] z1 []] (.leaf () []),(Fp 212 [.agg [.int .i64 0,.int .i64 0,.int .i64 0],vT s] [] z1 [])∧Lf (.v (.agg z2)) (.v (.agg (Jg (Qz utf0 s)))) [] [])) Q4 ?_
 refine⟨(Ab6 (⟨0,0,0⟩:Utf) _ Q2),?_⟩
 have hm1:Qz utf0 s=(Qz (⟨0,0,0⟩:Utf) s):=by rfl
 exact⟨Q6,rfl⟩
structure Fj where
 u:Utf
 c1:Cur
def Ub (c:Cur) (o:Fj):Prop:=Fun Tryz.prog 114 [vP 0] [.cells (B0 c)] (.v (.agg (Jg o.u))) [.cells (B0 o.c1)]
def P1 (c:Cur) (o:Fj):Prop:=((Av o.c1))∧Ub c o
theorem Acy (c:Cur) (hp1:Av c): ∃o:Fj,P1 c o:=by
 have hN:Bj=274877906944:=rfl
 refine Bv Tryz.func114 Q4 Q4 (w:=let zi:Int→C:= .int .i64;(.intro (K0 c) fun o1=>let z4:=Qz utf0 o1.t;.seg [.call [0] (.v (vT o1.t)) (Kc o1.c1),.call [] (.v (.agg (Jg z4))) []] (.intro (Aa o1.c1 12) fun o2=> .seg [.call [0] (.v (vI o2.x)) (Kc o2.c1)] (.br (.intro (Aa o2.c1 6) fun o3=> .seg [.call [0] (.v (vI o3.x)) (Kc o3.c1),.as 13 (.v (vI (o3.x-1)))] (.leaf (⟨(⟨o3.x-1,z4.low,z4.high⟩:Utf),o3.c1⟩:Fj) [0])) (.br (.seg [.ty .int,.pubS 18] (.intro (A3 o2.c1 [0,128,144,160,(-1)]) fun o3=> .seg [.call [0] (.v (vI o3.x)) (Kc o3.c1)] (.leaf (⟨(⟨z4.want,o3.x,z4.high⟩:Utf),o3.c1⟩:Fj) [0]))) (.br (.seg [.ty .int,.pubS 24] (.intro (A3 o2.c1 [0,143,159,191,255]) fun o3=> .seg [.call [0] (.v (vI o3.x)) (Kc o3.c1)] (.leaf (⟨(⟨z4.want,z4.low,o3.x⟩:Utf),o3.c1⟩:Fj) [0]))) (.leaf (⟨z4,o2.c1⟩:Fj) [0]))))),In (K0 c) fun o1=>(let z5:=Qz utf0 o1.t;(Rj c o1)∧(Fp 173 [vT o1.t] [] (.v (.agg (Jg z5))) [])∧In (Aa o1.c1 12) fun o2=>((Ai o1.c1 12 o2)∧Bc (decide (o2.x=0)) (In (Aa o2.c1 6) fun o3=>(let z1:S:= .v (.agg [zi (o3.x-1),zi z5.low,zi z5.high]);(Ai o2.c1 6 o3)∧(wI (o3.x-1))∧((Av o3.c1))∧Lf z1 z1 (Kc o3.c1) (Kc o3.c1))) (Bc (decide (o2.x=1)) (In (A3 o2.c1 [0,128,144,160,(-1)]) fun o3=>(let z2:S:= .v (.agg [zi z5.want,zi o3.x,zi z5.high]);(B2 o2.c1 [0,128,144,160,(-1)] o3)∧((Av o3.c1))∧Lf z2 z2 (Kc o3.c1) (Kc o3.c1))) (Bc (decide (o2.x=2)) (In (A3 o2.c1 [0,143,159,191,255]) fun o3=>(let z3:S:= .v (.agg [zi z5.want,zi z5.low,zi o3.x]);(B2 o2.c1 [0,143,159,191,255] o3)∧((Av o3.c1))∧Lf z3 z3 (Kc o3.c1) (Kc o3.c1))) (((Av o2.c1))∧Lf (.v (.agg (Jg z5))) (.v (.agg (Jg z5))) (Kc o2.c1) (Kc o2.c1)))))))) Q4 ?_
 refine⟨(Zh c Q0),fun o1 ho_o1=>?_⟩
 obtain ⟨⟨hp_o1_0,hp_o1_1⟩,hf_o1⟩:=ho_o1
 refine⟨hf_o1,(Aan _ Q2),(Am o1.c1 12 Q0),fun o2 ho_o2=>?_⟩
 obtain ⟨⟨hp_o2_0,hp_o2_1,hp_o2_2,hp_o2_3⟩,hf_o2⟩:=ho_o2
 refine⟨hf_o2,dsp (fun h1 p1=>?_) fun h1 p1=>?_⟩
 refine⟨(Am o2.c1 6 Q0),fun o3 ho_o3=>?_⟩
 obtain ⟨⟨hp_o3_0,hp_o3_1,hp_o3_2,hp_o3_3⟩,hf_o3⟩:=ho_o3
 exact⟨hf_o3,(Ac Q2 Q2),Q0,rfl,rfl⟩
 refine dsp (fun h2 p2=>?_) fun h2 p2=>?_
 refine⟨(Co o2.c1 [0,128,144,160,(-1)] Q0 Q5 Q5),fun o3 ho_o3=>?_⟩
 obtain ⟨⟨hp_o3_0,hp_o3_1⟩,hf_o3⟩:=ho_o3
 exact⟨hf_o3,Q0,rfl,rfl⟩
 refine dsp (fun h3 p3=>?_) fun h3 p3=>?_
 refine⟨(Co o2.c1 [0,143,159,191,255] Q0 Q5 Q5),fun o3 ho_o3=>?_⟩
 obtain ⟨⟨hp_o3_0,hp_o3_1⟩,hf_o3⟩:=ho_o3
 exact⟨hf_o3,Q0,rfl,rfl⟩
 exact⟨Q0,rfl,rfl⟩
theorem Com.start {d:Dcd} (h:Com d) {a:Int} (ha:0≤a∧a≤d.at_):Com (Kq d a):=by
 refine⟨B1 h.lv rfl rfl,h.at_,?_,h.ut,h.wi,h.fl,h.en⟩
 show 0≤(if d.scan.have_=0∧(d.mode=1∨d.mode=2∨d.mode=4) then a else d.start)∧(if d.scan.have_=0∧(d.mode=1∨d.mode=2∨d.mode=4) then a else d.start)≤d.at_
 split
 ·exact ha
 ·exact h.st
theorem Com.scan {d:Dcd} (h:Com d) (s:Scn):Com (G3 d s):=⟨B1 h.lv rfl rfl,h.at_,h.st,h.ut,h.wi,h.fl,h.en⟩
theorem Acz {s:Scn} {b:Int} (h0:0≤s.bits) (h:(Af s b).2=0):Db (Af s b).1=true:=by
 unfold Af at h ⊢
 split at h
 ·simp at h
 ·rename_i hc
  rw[if_neg hc]
  simp only[not_or] at hc
  have hs:Db s=true:=by simpa using hc.1
  have hb:=Aq (show Ak b 0 255=true by simpa using hc.2.1)
  have hk:=Sk hs h0
  have hb2: ¬b<128:=fun hx=>by rw[if_pos hx] at h;simp at h
  have h9:s.have_≠9:=fun e=>hc.2.2 ⟨e,by omega⟩
  obtain ⟨u,hv⟩:=s
  simp only at h0 hk h9 ⊢
  obtain ⟨k,rfl⟩:=Int.eq_ofNat_of_zero_le hk.1
  have hk9:k<9:=by omega
  have hu:=hk.2.2
  rw[Int.toNat_natCast] at hu ⊢
  have hp:(0:Int)<2 ^ (7*(k+1)):=Int.pow_pos (by decide)
  have hp2:(2:Int) ^ (7*(k+1))=2 ^ (7*k)*128:=by rw[show 7*(k+1)=7*k+7 by omega,Int.pow_add];rfl
  have hp0:(0:Int)<2 ^ (7*k):=Int.pow_pos (by decide)
  have hm:b % 128*2 ^ (7*k)≤127*2 ^ (7*k):=Int.mul_le_mul_of_nonneg_right (by omega) (by omega)
  have hm0:0≤b % 128*2 ^ (7*k):=Int.mul_nonneg (by omega) (by omega)
  simp only[Db,Ak,Bool.and_eq_true,decide_eq_true_eq]
  refine⟨⟨by omega,by omega⟩,?_⟩
  rw[show min (Int.toNat (7*((k:Int)+1))) 64=7*(k+1) by omega,Int.fdiv_eq_ediv_of_nonneg _ (Int.le_of_lt hp)]
  exact Int.ediv_eq_zero_of_lt Q2 Q2
theorem Ag4 {d:Dcd} {o:List Ev} {b a:Int} (h:Com d) (hb:0≤d.scan.bits∧d.scan.bits≤18446744073709551615) (ha:0≤a∧a≤d.at_) (h1:d.mode=1→d.stack=[]) (hn:d.mode≠1→0<d.stack.length) (hk:He d=true)
  (hm:((d.mode=1∨d.mode=2∨d.mode=3∨d.mode=4)∧d.want=0)∨(d.mode=8∧Ay (B3 d.field.kind)=0∧0≤d.want∧d.want≤Dj d)):D2 (Br ⟨d,o⟩ b a).d=true:=by
 have hcs:=h.start ha
 have hbt:=F2 h.lv
 have hbb:=Nt (b:=b) hb.1 hb.2
 unfold Br
 simp only
 split
 ·exact hcs.fail (by decide) ha.1
 ·split
  ·rename_i hc
   have hsn:=Acz hb.1 hc
   unfold W5
   simp only
   split
   ·exact(hcs.scan _).fail (by decide) h.at_.1
   ·rename_i hx
    simp only[not_or,not_and] at hx
    have hcc:=hcs.scan (Af d.scan b).1
    refine Hy hcc.lv (show 1≤d.mode∧d.mode≤9 by omega) hcc.at_ hcc.st hcc.ut hcc.wi hcc.fl ?_ ?_ ?_ hk ?_
    ·show (if d.mode=9 then _ else _)=true
     rw[if_neg (by omega)];exact decide_eq_true h.en
    ·show (if d.mode=1 then decide (d.stack=[]) else if d.mode=9 then true else decide (1≤Dj d))=true
     split
     ·rename_i hm1;exact decide_eq_true (h1 hm1)
     ·rename_i hm1
      rw[if_neg (by omega)];exact decide_eq_true (by have:=hx.1 hm1;omega)
    ·show (if d.mode=6∨d.mode=7∨d.mode=8 then Ak d.want 1 (Dj d) else decide (d.want=0))=true
     split
     ·have:=hx.2 (by omega)
      simp only[Ak,Bool.and_eq_true,decide_eq_true_eq];omega
     ·exact decide_eq_true (by omega)
    ·have hw:Bp (G3 (Kq d a) (Af d.scan b).1)=0:=by
      show (if d.mode=5 then Ay d.wire else if d.mode=8 then Ay (B3 d.field.kind) else 0)=0
      rw[if_neg (by omega)]
      split<;>omega
     unfold Ju
     rw[hw,if_neg (by decide)]
     show (if d.mode=6∨d.mode=7∨d.mode=9 then decide ((Af d.scan b).1=scn0) else Db (Af d.scan b).1)=true
     rw[if_neg (by omega)]
     exact hsn
  ·split
   ·rename_i hm1
    exact Aea (hcs.scan _) (show d.want=0 by omega) hbb.1
   ·split
    ·rename_i hm1
     exact Ag3 (hcs.scan _) (show d.want=0 by omega)
    ·split
     ·rename_i hm1
      refine Af6 (hcs.scan _) (show d.want=0 by omega) hbb.1 ?_
      unfold He at hk
      rw[if_neg (by omega),if_neg (by omega),if_neg (by omega),if_pos hm1] at hk
      simp only[Bool.and_eq_true,decide_eq_true_eq,Aex,Bool.or_eq_true] at hk
      rw[hk.1] at hk
      exact hk.2
     ·rename_i hc1 hc2 hc3 hc4 hc5
      have hcc:=hcs.scan scn0
      refine E9 ⟨⟨B1 hcc.lv rfl rfl,hcc.at_,hcc.st,hcc.ut,hcc.wi,hcc.fl,hcc.en⟩,rfl,hn hc3,?_⟩
      rcases hm with hm|hm
      ·exact .inl ⟨by show (if d.mode=8 then (8:Int) else 2)=2;rw[if_neg (by omega)],hm.2⟩
      ·refine .inr (.inr (.inr ⟨by show (if d.mode=8 then (8:Int) else 2)=8;rw[if_pos hm.1],?_,hm.2.2.1,hm.2.2.2,?_⟩))
       ·unfold He at hk
        rw[if_neg (by omega),if_pos hm.1] at hk
        exact hk
       ·right;show Ay (B3 d.field.kind)≤d.want;omega
theorem Aee {s:Scn} {b w:Int} (h:0≤s.have_∧s.have_+1<w) (hw:w≤8) (hf:Int.fdiv s.bits (2 ^ min (Int.toNat (8*s.have_)) 64)=0) (hb:0≤b∧b≤255):(Bq s b).have_=s.have_+1∧Int.fdiv (Bq s b).bits (2 ^ min (Int.toNat (8*(s.have_+1))) 64)=0:=by
 obtain ⟨u,hv⟩:=s
 simp only at h hf
 unfold Bq
 rw[if_pos ⟨by simp only[Ak,Bool.and_eq_true,decide_eq_true_eq];omega,by simp only[Ak,Bool.and_eq_true,decide_eq_true_eq];omega⟩]
 refine⟨rfl,?_⟩
 simp only
 obtain ⟨k,rfl⟩:=Int.eq_ofNat_of_zero_le h.1
 have hk:k<7:=by omega
 rw[show min (Int.toNat (8*(k:Int))) 64=8*k by omega] at hf ⊢
 rw[show min (Int.toNat (8*((k:Int)+1))) 64=8*(k+1) by omega]
 have hp0:(0:Int)<2 ^ (8*k):=Int.pow_pos (by decide)
 have hp:(0:Int)<2 ^ (8*(k+1)):=Int.pow_pos (by decide)
 have hp2:(2:Int) ^ (8*(k+1))=2 ^ (8*k)*256:=by rw[show 8*(k+1)=8*k+8 by omega,Int.pow_add];rfl
 have hp3:(2:Int) ^ (8*(k+1))≤2 ^ 56:=by
  rcases (show k=0∨k=1∨k=2∨k=3∨k=4∨k=5∨k=6 by omega) with rfl|rfl|rfl|rfl|rfl|rfl|rfl<;>decide
 have hp56:(2:Int) ^ 56=72057594037927936:=rfl
 rw[Int.fdiv_eq_ediv_of_nonneg _ (Int.le_of_lt hp0)] at hf
 have hd:=Int.mul_ediv_add_emod u (2 ^ (8*k))
 rw[hf,Int.mul_zero,Int.zero_add] at hd
 have hu0:=Int.emod_nonneg u (show (2:Int) ^ (8*k)≠0 by omega)
 have hu1:=Int.emod_lt_of_pos u hp0
 have hm:b*2 ^ (8*k)≤255*2 ^ (8*k):=Int.mul_le_mul_of_nonneg_right (by omega) (by omega)
 have hm0:0≤b*2 ^ (8*k):=Int.mul_nonneg (by omega) (by omega)
 rw[Int.fdiv_eq_ediv_of_nonneg _ (Int.le_of_lt hp),IntKind.wrap_u64,IntKind.wrap_u64]
 have e1:b*2 ^ (8*k) % 18446744073709551616=b*2 ^ (8*k):=Int.emod_eq_of_lt hm0 (by omega)
 rw[e1,Int.emod_eq_of_lt (by omega) (by omega)]
 exact Int.ediv_eq_zero_of_lt Q2 Q2
theorem Ag5 {d:Dcd} {o:List Ev} {b:Int} (h:Com d) (hn:0<d.stack.length) (hk:He d=true) (hb:0≤b∧b≤255) (h0:0≤d.scan.have_∧d.scan.have_≤Bp d-1) (hf:Int.fdiv d.scan.bits (2 ^ min (Int.toNat (8*d.scan.have_)) 64)=0) (hr:Bp d-d.scan.have_-1≤Na d)
  (hm:(d.mode=5∧d.want=0)∨(d.mode=8∧0≤d.want∧d.want≤Dj d)):D2 (Dq ⟨d,o⟩ b).d=true:=by
 have hbt:=F2 h.lv
 have hwb:0≤Bp d∧Bp d≤8:=by
  have h1:=Dx d.wire
  have h2:=Dx (B3 d.field.kind)
  unfold Bp
  split
  ·omega
  ·split<;>omega
 have hro:Na d=if d.mode=8 then d.want else Dj d:=rfl
 unfold Dq
 simp only
 split
 ·rename_i hx
  have h1:d.scan.have_+1<Bp d:=by
   unfold Bq at hx
   rw[if_pos ⟨by simp only[Ak,Bool.and_eq_true,decide_eq_true_eq];omega,by simp only[Ak,Bool.and_eq_true,decide_eq_true_eq];omega⟩] at hx
   exact hx
  have hfn:=Aee ⟨h0.1,h1⟩ hwb.2 hf hb
  have hcc:=h.scan (Bq d.scan b)
  refine Hy hcc.lv (show 1≤d.mode∧d.mode≤9 by omega) hcc.at_ hcc.st hcc.ut hcc.wi hcc.fl ?_ ?_ ?_ hk ?_
  ·show (if d.mode=9 then _ else _)=true
   rw[if_neg (by omega)];exact decide_eq_true h.en
  ·show (if d.mode=1 then decide (d.stack=[]) else if d.mode=9 then true else decide (1≤Dj d))=true
   rw[if_neg (by omega),if_neg (by omega)]
   refine decide_eq_true ?_
   split at hro<;>omega
  ·show (if d.mode=6∨d.mode=7∨d.mode=8 then Ak d.want 1 (Dj d) else decide (d.want=0))=true
   split
   ·rw[if_pos (by omega)] at hro
    simp only[Ak,Bool.and_eq_true,decide_eq_true_eq];omega
   ·exact decide_eq_true (by omega)
  ·have hw:Bp (G3 d (Bq d.scan b))=Bp d:=rfl
   have hrr:Na (G3 d (Bq d.scan b))=Na d:=rfl
   have hss:(G3 d (Bq d.scan b)).scan=Bq d.scan b:=rfl
   unfold Ju
   rw[hw,if_pos (by omega),hrr,hss,hfn.1]
   simp only[Ak,Bool.and_eq_true,decide_eq_true_eq]
   exact⟨⟨⟨by omega,by omega⟩,hfn.2⟩,by omega⟩
 ·have hcc:=h.scan scn0
  have hcv:Com (Bs ⟨G3 d scn0,o⟩ (Bq d.scan b).bits).d:=⟨B1 hcc.lv rfl rfl,hcc.at_,hcc.st,hcc.ut,hcc.wi,hcc.fl,hcc.en⟩
  split
  ·exact hcv.fail (by decide) h.at_.1
  ·rename_i hx
   refine E9 ⟨hcv,rfl,hn,?_⟩
   rcases hm with hm|hm
   ·exact .inl ⟨by show (if d.mode=8 then (8:Int) else 2)=2;rw[if_neg (by omega)],hm.2⟩
   ·have hw:Bp d=Ay (B3 d.field.kind):=by unfold Bp;rw[if_neg (by omega),if_pos hm.1]
    refine .inr (.inr (.inr ⟨by show (if d.mode=8 then (8:Int) else 2)=8;rw[if_pos hm.1],?_,hm.2.1,hm.2.2,?_⟩))
    ·unfold He at hk
     rw[if_neg (by omega),if_pos hm.1] at hk
     exact hk
    ·show d.want=0∨Ay (B3 d.field.kind)≤d.want
     omega
theorem Af7 {d:Dcd} {o:List Ev} {b:Int} (h:Com d) (h1:1≤d.at_) (hm:d.mode=6) (hk:Fh d.field.kind=true) (hw:0≤d.want∧d.want≤Dj d) (hn:0<d.stack.length) (hs:d.scan=scn0):D2 (Em ⟨d,o⟩ b).d=true:=by
 unfold Em
 simp only
 split
 ·split
  ·exact h.fail (by decide) (by omega)
  ·rename_i u hu
   exact E9 ⟨⟨B1 h.lv rfl rfl,h.at_,h.st,Zz hu,h.wi,h.fl,h.en⟩,hs,hn,.inr (.inl ⟨hm,hk,hw.1,hw.2⟩)⟩
 ·exact E9 ⟨h,hs,hn,.inr (.inl ⟨hm,hk,hw.1,hw.2⟩)⟩
theorem Ae6 {u:Int} {k:Nat} (hk:k≤64) (h:Int.fdiv u (2 ^ k)=0):0≤u∧u≤18446744073709551615:=by
 have hp0:(0:Int)<2 ^ k:=Int.pow_pos (by decide)
 rw[Int.fdiv_eq_ediv_of_nonneg _ (Int.le_of_lt hp0)] at h
 have hd:=Int.mul_ediv_add_emod u (2 ^ k)
 rw[h,Int.mul_zero,Int.zero_add] at hd
 have hu0:=Int.emod_nonneg u (show (2:Int) ^ k≠0 by omega)
 have hu1:=Int.emod_lt_of_pos u hp0
 have hp:(2:Nat) ^ k≤2 ^ 64:=Nat.pow_le_pow_right (by decide) hk
 have hc:((2 ^ k:Nat):Int)=(2:Int) ^ k:=by simp
 have h64:(2:Nat) ^ 64=18446744073709551616:=rfl
 omega
theorem Vi {d:Dcd} (h:D2 d=true):0≤d.scan.bits∧d.scan.bits≤18446744073709551615:=by
 have hs:=(Ra h).2.2.2.2.2.2.2.2.2.2.2
 unfold Ju at hs
 split at hs
 ·simp only[Bool.and_eq_true,decide_eq_true_eq] at hs
  exact Ae6 (Nat.min_le_right _ _) hs.1.2
 ·split at hs
  ·have e:d.scan=scn0:=of_decide_eq_true hs
   rw[e];decide
  ·simp only[Db,Bool.and_eq_true,decide_eq_true_eq] at hs
   exact Ae6 (Nat.min_le_right _ _) hs.2
theorem Ac0 {d:Dcd} (h:d.stack.length≠0):Dj (Di d)=Dj d-1:=by
 show (List.getD (Di d).stack ((Di d).stack.length-1) Ahn).left=_
 rw[Ji]
 unfold Di
 simp only
 rw[if_neg h,List.getD_eq_getElem?_getD,List.getElem?_set_self (by omega)]
 rfl
theorem Af8 {d:Dcd} {o:List Ev} {b:Int} (hok:D2 d=true) (h9:d.mode≠9) (hat:d.at_<1000000000) (hb:0≤b∧b≤255):D2 (Ew ⟨d,o⟩ b).d=true:=by
 obtain ⟨lv,hm,hat0,hst,hut,hwi,hfl,hen,hsk,hwd,hkd,hsc⟩:=Ra hok
 have hbits:=Vi hok
 have hs:=V2 hok h9
 have hms:=(V0 hok hbits).step hs.1 hs.2.1 hs.2.2.1
 have hw:=Yc hwd
 have hc:Com (Di d):=⟨hms.lv,(show 0≤d.at_+1∧d.at_+1≤1000000000 by omega),(show 0≤d.start∧d.start≤d.at_+1 by omega),hut,hwi,hfl,hs.2.2.2.2⟩
 have hk:He (Di d)=true:=hkd
 have htp:d.mode≠1→1≤Dj d:=fun h1=>by unfold J0 at hsk;rw[if_neg h1,if_neg h9] at hsk;exact of_decide_eq_true hsk
 have hn:d.mode≠1→0<d.stack.length:=fun h1=>by
  have:=htp h1
  by_cases h0:d.stack.length=0
  ·rw[Vz (List.eq_nil_of_length_eq_zero h0)] at this;omega
  ·omega
 have hns:d.mode≠1→0<(Di d).stack.length:=fun h1=>by rw[Ji];exact hn h1
 have ht:d.mode≠1→Dj (Di d)=Dj d-1:=fun h1=>Ac0 (by have:=hn h1;omega)
 have hwa:(Di d).want=if d.mode=6∨d.mode=7∨d.mode=8 then d.want-1 else d.want:=rfl
 have hwb:=Dx (B3 d.field.kind)
 unfold Ew
 simp only
 split
 ·rename_i h6
  have hw1:=hw.1 (by omega)
  rw[if_pos (by omega)] at hwa
  have ht:=ht (by omega)
  refine Af7 hc (show 1≤d.at_+1 by omega) h6 ?_ Q2 (hns Q2) ?_
  ·unfold He at hkd;rw[if_pos h6] at hkd;exact hkd
  ·unfold Ju Bp at hsc
   rw[if_neg (show¬d.mode=5 by omega),if_neg (show¬d.mode=8 by omega),if_neg (by decide),if_pos (by omega)] at hsc
   exact of_decide_eq_true hsc
 ·split
  ·rename_i h6 h7
   have hw1:=hw.1 (by omega)
   rw[if_pos (by omega)] at hwa
   have ht:=ht (by omega)
   refine E9 ⟨hc,?_,hns Q2,.inr (.inr (.inl ⟨h7,by show 0≤(Di d).want;omega,by show (Di d).want≤Dj (Di d);omega⟩))⟩
   unfold Ju Bp at hsc
   rw[if_neg (show¬d.mode=5 by omega),if_neg (show¬d.mode=8 by omega),if_neg (by decide),if_pos (by omega)] at hsc
   exact of_decide_eq_true hsc
  ·rename_i h6 h7
   split
   ·rename_i h0
    unfold Ju at hsc
    rw[if_pos h0] at hsc
    simp only[Bool.and_eq_true,decide_eq_true_eq] at hsc
    have hh:=Aq hsc.1.1
    have hwe:Bp (Di d)=Bp d:=rfl
    have hmm:d.mode=5∨d.mode=8:=by unfold Bp at h0;split at h0<;>(try split at h0)<;>omega
    have ht:=ht (by omega)
    have hr1:Na d=if d.mode=8 then d.want else Dj d:=rfl
    have hr2:Na (Di d)=if d.mode=8 then (Di d).want else Dj (Di d):=rfl
    refine Ag5 hc (hns Q2) hk hb (by rw[hwe];exact hh) hsc.1.2 ?_ ?_
    ·rw[hwe]
     show Bp d-d.scan.have_-1≤Na (Di d)
     rcases hmm with h5|h8
     ·rw[if_neg (by omega)] at hr1 hr2;omega
     ·rw[if_pos h8] at hr1 hr2;rw[if_pos (by omega)] at hwa;omega
    ·rcases hmm with h5|h8
     ·rw[if_neg (by omega)] at hwa
      exact .inl ⟨h5,by rw[hwa];exact hw.2 Q2⟩
     ·rw[if_pos (by omega)] at hwa
      have hw1:=hw.1 (by omega)
      exact .inr ⟨h8,by omega,by omega⟩
   ·rename_i h0
    have h5:d.mode≠5:=fun h5=>by
     unfold He at hkd
     rw[if_neg (by omega),if_neg (by omega),if_neg (by omega),if_neg (by omega),if_pos h5] at hkd
     simp only[Bool.and_eq_true,decide_eq_true_eq] at hkd
     unfold Bp at h0
     rw[if_pos h5] at h0
     omega
    refine Ag4 hc hbits (show 0≤d.at_∧d.at_≤d.at_+1 by omega) (fun h1=>?_) hns hk ?_
    ·unfold J0 at hsk
     rw[if_pos (show d.mode=1 from h1)] at hsk
     have e:d.stack=[]:=of_decide_eq_true hsk
     exact List.eq_nil_of_length_eq_zero (by rw[Ji,e];rfl)
    ·by_cases h8:d.mode=8
     ·rw[if_pos (by omega)] at hwa
      have hw1:=hw.1 (by omega)
      have ht:=ht (by omega)
      refine .inr ⟨h8,?_,by omega,by omega⟩
      unfold Bp at h0
      rw[if_neg (by omega),if_pos h8] at h0
      show Ay (B3 d.field.kind)=0
      omega
     ·rw[if_neg (by omega)] at hwa
      exact .inl ⟨(show d.mode=1∨d.mode=2∨d.mode=3∨d.mode=4 by omega),by rw[hwa];exact hw.2 Q2⟩
theorem Aef {d:Dcd} {b:Int} (h:D2 d=false∨Gi d=false):B5 d b=⟨d,[]⟩:=by
 unfold B5
 rw[if_neg]
 rintro ⟨h1,h2,-⟩
 rcases h with h|h
 ·rw[h] at h1;cases h1
 ·rw[h] at h2;cases h2
theorem Aeg {d:Dcd} (h:Gi d=true):d.mode≠9∧d.at_<1000000000:=by
 simpa only[Gi,Bool.and_eq_true,Bool.not_eq_true',decide_eq_false_iff_not,decide_eq_true_eq] using h
theorem Aeh {d:Dcd} {b:Int} (hok:D2 d=true):D2 (B5 d b).d=true:=by
 unfold B5
 split
 ·rename_i h
  have ht:=Aeg h.2.1
  exact Af8 hok ht.1 ht.2 (Aq h.2.2)
 ·exact hok
theorem Qr {d:Dcd} {b:Int} :(B5 d b).d.plan=d.plan∧((B5 d b).d.stack.length:Int)≤max (d.stack.length:Int) 8∧(B5 d b).out.length≤14∧((0≤d.scan.bits∧d.scan.bits≤18446744073709551615)→0≤(B5 d b).d.scan.bits∧(B5 d b).d.scan.bits≤18446744073709551615):=by
 cases hok:D2 d with
 |false=>rw[Aef (.inl hok)];exact⟨rfl,by simp only;omega,by simp,fun h=>h⟩
 |true=>
  have h1:=Aeh (b:=b) hok
  have h2:=Bz (Ra hok).1
  have h3:=Bz (Ra h1).1
  exact⟨Z0.1,by omega,by have:=Abz (d:=d) (b:=b);omega,fun _=>Vi h1⟩
structure Bxi where
 v:List Int
theorem Wb {p:Pln} :(E3 p).plan.shapes.length≤6∧(∀e∈(E3 p).plan.shapes,e.fields.length≤1048576)∧(E3 p).stack.length≤8∧(0≤(E3 p).scan.bits∧(E3 p).scan.bits≤18446744073709551615):=by
 unfold E3
 split
 ·rename_i h
  have ht:=B9 h
  exact⟨ht.1,D6 ht.2.1,by simp,by simp⟩
 ·exact⟨by simp,fun e he=>(by cases he),by simp,by simp⟩
structure Bxn where
 v:Int
structure DecB (d:Dcd):Prop where
 pln:d.plan.shapes=[]∨PlnG ⟨d.plan.shapes,d.plan.root,1,d.plan.most⟩
 deep:d.plan.deep≤4
 stack:d.stack.length≤300000
 bits:0≤d.scan.bits∧d.scan.bits≤18446744073709551615
theorem DecB.shs {d:Dcd} (h:DecB d):d.plan.shapes.length≤3:=by
 rcases h.pln with h|h
 ·rw[h];simp
 ·exact h.sch.1.2
theorem DecB.flds {d:Dcd} (h:DecB d): ∀e∈d.plan.shapes,e.fields.length≤5:=fun e he=>by
 rcases h.pln with h|h
 ·rw[h] at he;cases he
 ·have:=(h.sch.2 e he).1;omega
theorem DecB.good {d:Dcd} (h:DecB d) (hp:Da d.plan=true):PlnG d.plan:=by
 have ht:=B9 hp
 rcases h.pln with h2|h2
 ·rw[h2] at ht;simp at ht;omega
 ·exact⟨h2.sch,h2.root,by have:=h.deep;omega,h2.most⟩
theorem DecB.like {d x:Dcd} (h:DecB d) (h1:x.plan=d.plan) (h2:x.stack.length≤300000) (h3:0≤x.scan.bits∧x.scan.bits≤18446744073709551615):DecB x:=
 ⟨by rw[h1];exact h.pln,by rw[h1];exact h.deep,h2,h3⟩
theorem Wc {p:Pln} (h:PlnG p):DecB (E3 p):=by
 have hd:=h.deep
 unfold E3;split
 ·exact⟨.inr ⟨h.sch,h.root,by show (1:Int)≤1∧(1:Int)≤4;decide,h.most⟩,hd.2,by simp,by show (0:Int)≤0∧(0:Int)≤18446744073709551615;decide⟩
 ·exact⟨.inl rfl,by show (0:Int)≤4;decide,by simp,by show (0:Int)≤0∧(0:Int)≤18446744073709551615;decide⟩
theorem Uc {d:Dcd} {b:Int} (h:DecB d):DecB (B5 d b).d:=by
 have hl:=Qr (d:=d) (b:=b)
 have hs:=h.stack
 exact h.like hl.1 Q2 (hl.2.2.2 h.bits)
structure Hb where
 d:Dcd
 c1:Cur
def Sc (c:Cur) (o:Hb):Prop:=Fun Tryz.prog 112 [vP 0] [.cells (B0 c)] (.v (.agg (Ah 1 2 o.d))) [.cells (B0 o.c1),.tree o.d.plan.shapes,.lst .lev o.d.stack]
def No (c:Cur) (o:Hb):Prop:=((DecB o.d)∧(List.length (o.d).stack≤8)∧(Av o.c1))∧Sc c o
structure Gf where
 c:Cur
 d:Dcd
 i:Nat
def E1 (o2:Fw) (o3:Cn):Fam:=⟨Gf,fun q1=>[(0,.v (vP 0)),(2,.v (vP 1)),(4,.v (vP 2)),(6,.v (vT o2.t)),(7,.v (vI o3.x)),(8,.v (vI ((q1.i:Nat):Int)))],fun q1=>[.cells (B0 q1.c),.cells [.nil,.int .i64 0,.int .i64 0,.int .i64 0,.int .i64 0,.nil,.int .u64 0,.int .i64 0,.int .i64 0,.int .i64 0,.int .i64 0,.int .i64 0,.bool false,.bool false,.int .i64 0,.int .i64 0,.int .i64 0,.int .i64 0,.int .i64 0,.int .i64 0,.int .i64 0,.int .i64 0,.int .u64 0,.int .i64 0,.str [],.int .i64 0,.int .i64 0],.cells (Ah 3 4 q1.d),.tree q1.d.plan.shapes,.lst .lev q1.d.stack],fun q1=>Av q1.c∧DecB q1.d∧q1.i≤List.length o2.t∧List.length (q1.d).stack≤8,fun q1=>List.length o2.t+1-q1.i⟩
theorem Aao (c:Cur) (hp1:Av c): ∃o:Hb,No c o:=by
 have hN:Bj=274877906944:=rfl
 refine Bv Tryz.func112 Q4 Q4 (w:=let zi:Int→C:= .int .i64;let z13:List C:=[.nil,zi 0,zi 0,zi 0,zi 0,.nil,.int .u64 0,zi 0,zi 0,zi 0,zi 0,zi 0,.bool false,.bool false,zi 0,zi 0,zi 0,zi 0,zi 0,zi 0,zi 0,zi 0,.int .u64 0,zi 0,.str [],zi 0,zi 0];(.intro (Pw c) fun o1=> .seg [.call [0] (.v (.agg (Mt o1.p))) (Kc o1.c1),.call [] (.tup [.agg (Ah 0 1 (E3 o1.p)),vB (Da o1.p)]) (L2 (E3 o1.p))] (.intro (Nm o1.c1 o1.p) fun o2=>let z10:=((List.length o2.t:Nat):Int)+1;.seg [.call [0] (.v (vT o2.t)) (Kc o2.c1),.as 24 (.v (vI z10))] (.intro (Aa o2.c1 z10) fun o3=> .seg [.call [0] (.v (vI o3.x)) (Kc o3.c1),.at 0,.keep [0,2,4,6,7,8],.sel [0,1,5,3,4]] (.loop (E1 o2 o3) fun q1=>let z5:S:= .v (vI (((q1.i:Nat):Int)+1));.br (.intro (Sx (o2.t[q1.i]?)) fun x1=>let z2:=B5 q1.d ((UInt8.toNat x1:Nat):Int);.seg [.tree (fr (.two 5 (fr (.one 9 (.one 10 (.first 11 (.done)))) 6 3) 9 (.one 5 (fr (.one 10 (.first 11 (.done))) 6 3))) 0 5) 12 [],.ch x1,.as 36 (.v (vI ((UInt8.toNat x1:Nat):Int))),.call [] (.tup [.agg (Ah 0 1 z2.d),vO 2]) (Ls z2.d z2.out),.at 0,.keep [0,2,4,6,7,8,9],.sel [0,1,2,3,4,8,5,6],.call [] (.tup [.agg (Ah 0 1 z2.d),vO 2]) (Ls z2.d z2.out),.at 0,.keep [0,2,4,6,7,8,9],.sel [0,1,2,3,4,5,6,7]] (.br (.intro (Ap q1.c 4) fun o4=> .seg [.call [0] (.v (vB o4.p)) (Kc o4.c1)] (.br (.leaf (⟨q1.d,o4.c1⟩:Hb) [0,3,4]) (.seg [.as 30 z5,.at 0,.keep [0,2,4,6,7,8],.sel [0,1,2,6,7]] (.next)))) (.seg [.as 30 z5,.at 0,.keep [0,2,4,6,7,8],.sel [0,1,2,6,7]] (.next)))) (.leaf (⟨q1.d,q1.c⟩:Hb) [0,3,4])))),In (Pw c) fun o1=>(let z12:=E3 o1.p;(T7 c o1)∧(Fp 40 [.agg (Mt o1.p)] [] (.tup [.agg (Ah 0 1 z12),vB (Da o1.p)]) (L2 z12))∧In (Nm o1.c1 o1.p) fun o2=>(let z11:=((List.length o2.t:Nat):Int)+1;(Sa o1.c1 o1.p o2)∧(wI z11)∧In (Aa o2.c1 z11) fun o3=>(let z9:=E1 o2 o3;(Ai o2.c1 z11 o3)∧z9.Has [(0,.v (vP 0)),(2,.v (vP 1)),(4,.v (vP 2)),(6,.v (vT o2.t)),(7,.v (vI o3.x)),(8,.v (vI 0))] [.cells (B0 o3.c1),.cells z13,.cells (Ah 3 4 z12),.tree z12.plan.shapes,.lst .lev z12.stack]∧∀q1,z9.inv q1→(let z6:=((q1.i:Nat):Int);let z7:S:= .v (.agg (Ah 1 2 q1.d));let z8:List Blk:=[.cells (B0 q1.c),.tree q1.d.plan.shapes,.lst .lev q1.d.stack];Bc (decide (z6<o3.x)) (El (o2.t[q1.i]?) fun x1=>(let z4:=((UInt8.toNat x1:Nat):Int);let z3:=B5 q1.d z4;(o2.t[q1.i]? =some x1)∧((0:Int)≤z6)∧(o2.t[q1.i]? =some x1)∧((0:Int)≤z6)∧(wI (z4))∧(wI (z4))∧(Fp 24 [.agg (Bu q1.d),vI z4] [] (.tup [.agg (Ah 0 1 z3.d),vO 2]) (Ls z3.d z3.out))∧(Fp 24 [.agg (Bu q1.d),vI z4] [] (.tup [.agg (Ah 0 1 z3.d),vO 2]) (Ls z3.d z3.out))∧(([.cells (B0 q1.c),.cells z13,.cells (Ah 3 4 q1.d),.tree q1.d.plan.shapes,.lst .lev q1.d.stack,.cells (Ah 6 7 z3.d),.tree z3.d.plan.shapes,.lst .lev z3.d.stack]:List Blk)=[.cells (B0 q1.c),.cells z13,.cells (Ah 3 4 q1.d),.tree q1.d.plan.shapes,.lst .lev q1.d.stack,.cells (Ah 6 7 z3.d),.tree z3.d.plan.shapes,.lst .lev z3.d.stack])∧(([(0,.v (vP 0)),(2,.v (vP 1)),(4,.v (vP 2)),(6,.v (vT o2.t)),(7,.v (vI o3.x)),(8,.v (vI z6)),(9,.v (vP 5))]:List (Nat×S))=[(0,.v (vP 0)),(2,.v (vP 1)),(4,.v (vP 2)),(6,.v (vT o2.t)),(7,.v (vI o3.x)),(8,.v (vI z6)),(9,.v (vP 5))])∧Bc (decide (z3.d.mode=9)) (In (Ap q1.c 4) fun o4=>(let z1:List Blk:=[.cells (B0 o4.c1),.tree q1.d.plan.shapes,.lst .lev q1.d.stack];(Bd q1.c 4 o4)∧Bc (!o4.p) (((DecB q1.d)∧(List.length (q1.d).stack≤8)∧(Av o4.c1))∧Lf z7 z7 z1 z1) ((wI (z6+1))∧z9.Nxt q1 [(0,.v (vP 0)),(2,.v (vP 1)),(4,.v (vP 2)),(6,.v (vT o2.t)),(7,.v (vI o3.x)),(8,.v (vI (z6+1)))] [.cells (B0 o4.c1),.cells z13,.cells (Ah 3 4 z3.d),.tree z3.d.plan.shapes,.lst .lev z3.d.stack]))) ((wI (z6+1))∧z9.Nxt q1 [(0,.v (vP 0)),(2,.v (vP 1)),(4,.v (vP 2)),(6,.v (vT o2.t)),(7,.v (vI o3.x)),(8,.v (vI (z6+1)))] [.cells (B0 q1.c),.cells z13,.cells (Ah 3 4 z3.d),.tree z3.d.plan.shapes,.lst .lev z3.d.stack]))) (((DecB q1.d)∧(List.length (q1.d).stack≤8)∧(Av q1.c))∧Lf z7 z7 z8 z8))))))) Q4 ?_
 refine⟨(Acu c Q0),fun o1 ho_o1=>?_⟩
 obtain ⟨⟨hp_o1_0,hp_o1_1⟩,hf_o1⟩:=ho_o1
 refine⟨hf_o1,(Adx o1.p (by have:=hp_o1_0.sch.1;omega)),(Aak o1.c1 o1.p Q0 Q2),fun o2 ho_o2=>?_⟩
 obtain ⟨⟨hp_o2_0,hp_o2_1⟩,hf_o2⟩:=ho_o2
 refine⟨hf_o2,(Ac Q2 Q2),(Am o2.c1 (((List.length o2.t:Nat):Int)+1) Q0),fun o3 ho_o3=>?_⟩
 obtain ⟨⟨hp_o3_0,hp_o3_1,hp_o3_2,hp_o3_3⟩,hf_o3⟩:=ho_o3
 refine⟨hf_o3,Bh (j:=(⟨o3.c1,(E3 o1.p),0⟩:Gf)) Q9 rfl (by dsimp only[E1];exact⟨by assumption,Wc (by assumption),by omega,Wb.2.2.1⟩),fun (q1:Gf) hq_q1=>?_⟩
 have hi_q1:Av q1.c∧DecB q1.d∧q1.i≤List.length o2.t∧List.length (q1.d).stack≤8:=hq_q1
 obtain ⟨v1,v2,v3,v4⟩:=hi_q1
 refine dsp (fun h1 p1=>?_) fun h1 p1=>?_
 refine⟨(Bg (l:=o2.t) (i:=q1.i) Q2),fun x1 hx1=>?_⟩
 have hb_x1:=UInt8.toNat_lt x1
 refine⟨hx1,Q2,hx1,Q2,(Ac Q2 Q2),(Ac Q2 Q2),(Yf q1.d _ (by have:=v2.shs;omega) (fun e he=>by have:=v2.flds e he;omega) (by have:=v2.stack;omega) (v2.bits)),(Yf q1.d _ (by have:=v2.shs;omega) (fun e he=>by have:=v2.flds e he;omega) (by have:=v2.stack;omega) (v2.bits)),rfl,rfl,dsp (fun h2 p2=>?_) fun h2 p2=>?_⟩
 refine⟨(Bw q1.c 4 Q0),fun o4 ho_o4=>?_⟩
 obtain ⟨hp_o4,hf_o4⟩:=ho_o4
 refine⟨hf_o4,fun h3=>have q3:=Ao h3;?_,fun h3=>have q3:=An h3;?_⟩
 exact⟨⟨(by first|assumption|exact Wc (by assumption)|exact Uc (by assumption)),(by first|exact v4|exact Wb.2.2.1|omega),Q0⟩,rfl,rfl⟩
 exact⟨(Ac Q2 Q2),Bb (j:=(⟨o4.c1,(B5 q1.d ((UInt8.toNat x1:Nat):Int)).d,q1.i+1⟩:Gf)) Q9 rfl Q63 (by dsimp only[E1];omega)⟩
 exact⟨(Ac Q2 Q2),Bb (j:=(⟨q1.c,(B5 q1.d ((UInt8.toNat x1:Nat):Int)).d,q1.i+1⟩:Gf)) Q9 rfl Q63 (by dsimp only[E1];omega)⟩
 exact⟨⟨(by first|assumption|exact Wc (by assumption)|exact Uc (by assumption)),(by first|exact v4|exact Wb.2.2.1|omega),Q0⟩,rfl,rfl⟩
structure Cp where
 d:Dcd
 c1:Cur
def Ud (c:Cur) (o:Cp):Prop:=Fun Tryz.prog 54 [vP 0] [.cells (B0 c)] (.v (.agg (Ah 1 2 o.d))) [.cells (B0 o.c1),.tree o.d.plan.shapes,.lst .lev o.d.stack]
def P2 (c:Cur) (o:Cp):Prop:=((DecB o.d)∧(Av o.c1))∧Ud c o
theorem Ac1 (c:Cur) (hp1:Av c): ∃o:Cp,P2 c o:=by
 have hN:Bj=274877906944:=rfl
 refine Bv Tryz.func54 Q4 Q4 (w:=let zi:Int→C:= .int .i64;(.intro (No c) fun o1=> .seg [.call [0] (.v (.agg (Ah 1 2 o1.d))) [.cells (B0 o1.c1),.tree o1.d.plan.shapes,.lst .lev o1.d.stack]] (.intro (Aa o1.c1 22) fun o2=> .seg [.call [0] (.v (vI o2.x)) (Kc o2.c1)] (.br (.intro (Aa o2.c1 12) fun o3=> .seg [.call [0] (.v (vI o3.x)) (Kc o3.c1),.as 12 (.v (vI (o3.x-1)))] (.leaf (⟨(⟨o1.d.plan,o3.x-1,o1.d.stack,o1.d.scan,o1.d.start,o1.d.at_,o1.d.field,o1.d.wire,o1.d.want,o1.d.utf,o1.d.end_⟩:Dcd),o3.c1⟩:Cp) [0,2,3])) (.br (.seg [.ty .int,.pubS 17] (.intro (A3 o2.c1 [0,1,5,2000,(-1)]) fun o3=> .seg [.call [0] (.v (vI o3.x)) (Kc o3.c1)] (.leaf (⟨(⟨o1.d.plan,o1.d.mode,o1.d.stack,o1.d.scan,o1.d.start,o1.d.at_,o1.d.field,o1.d.wire,o3.x,o1.d.utf,o1.d.end_⟩:Dcd),o3.c1⟩:Cp) [0,2,3]))) (.br (.intro (Aa o2.c1 4) fun o3=> .intro (Ga o3.c1 [0,1,7,2000,2001,(-1)]) fun o4=>let z5:List Blk:=[.cells (B0 o4.c1),.lst .int [0,1,7,2000,2001,(-1)]];.seg [.tree (fr (.first 5 (.two 3 (.first 4 (.one 6 (.one 7 (.first 8 (.one 9 (.one 10 (.first 11 (.one 12 (.done))))))))) 6 (.one 3 (.first 4 (.one 7 (.first 8 (.one 9 (.one 10 (.first 11 (.one 12 (.done))))))))))) 0 3) 12 [0,3],.call [0] (.v (vI o3.x)) (Kc o3.c1),.as 26 (.v (vI (o3.x-1))),.ty .int,.call [0,5] (.v (vI o4.x)) z5,.ty .lev,.ty .lev,.at 0,.keep [2,3],.sel [0,1,4,2,7],.ty .int,.call [0] (.v (vI o3.x)) (Kc o3.c1),.as 26 (.v (vI (o3.x-1))),.call [0,5] (.v (vI o4.x)) z5,.ty .lev,.ty .lev,.at 0,.keep [2,3],.sel [0,1,4,2,7]] (.leaf (⟨(⟨o1.d.plan,o1.d.mode,o1.d.stack++[(⟨o3.x-1,o4.x⟩:Lev)],o1.d.scan,o1.d.start,o1.d.at_,o1.d.field,o1.d.wire,o1.d.want,o1.d.utf,o1.d.end_⟩:Dcd),o4.c1⟩:Cp) [0,3,4])) (.br (.intro (Rk o2.c1) fun o3=> .seg [.call [0] (.v (.agg (Jt o3.s))) (Kc o3.c1)] (.leaf (⟨(⟨o1.d.plan,o1.d.mode,o1.d.stack,o3.s,o1.d.start,o1.d.at_,o1.d.field,o1.d.wire,o1.d.want,o1.d.utf,o1.d.end_⟩:Dcd),o3.c1⟩:Cp) [0,2,3])) (.br (.intro (Aa o2.c1 9) fun o3=> .seg [.call [0] (.v (vI o3.x)) (Kc o3.c1),.as 43 (.v (vI (o3.x-1)))] (.leaf (⟨(⟨o1.d.plan,o1.d.mode,o1.d.stack,o1.d.scan,o1.d.start,o1.d.at_,o1.d.field,o3.x-1,o1.d.want,o1.d.utf,o1.d.end_⟩:Dcd),o3.c1⟩:Cp) [0,2,3])) (.br (.intro (Aa o2.c1 5) fun o3=> .seg [.call [0] (.v (vI o3.x)) (Kc o3.c1),.as 49 (.v (vI (1+o3.x)))] (.intro (Aa o3.c1 8) fun o4=> .seg [.call [0] (.v (vI o4.x)) (Kc o4.c1),.as 52 (.v (vI (1+o4.x)))] (.leaf (⟨(⟨o1.d.plan,o1.d.mode,o1.d.stack,o1.d.scan,o1.d.start,o1.d.at_,(⟨1+o3.x,1+o4.x,false,false,(-1)⟩:Fld),o1.d.wire,o1.d.want,o1.d.utf,o1.d.end_⟩:Dcd),o4.c1⟩:Cp) [0,2,3]))) (.br (.intro (P1 o2.c1) fun o3=> .seg [.call [0] (.v (.agg (Jg o3.u))) (Kc o3.c1)] (.leaf (⟨(⟨o1.d.plan,o1.d.mode,o1.d.stack,o1.d.scan,o1.d.start,o1.d.at_,o1.d.field,o1.d.wire,o1.d.want,o3.u,o1.d.end_⟩:Dcd),o3.c1⟩:Cp) [0,2,3])) (.br (.intro (Pz o2.c1) fun o3=> .seg [.call [0] (.v (.agg (cEv o3.e))) (Kc o3.c1)] (.leaf (⟨(⟨o1.d.plan,o1.d.mode,o1.d.stack,o1.d.scan,o1.d.start,o1.d.at_,o1.d.field,o1.d.wire,o1.d.want,o1.d.utf,o3.e⟩:Dcd),o3.c1⟩:Cp) [0,2,3])) (.br (.seg [.ty .int,.pubS 68] (.intro (A3 o2.c1 [0,1000000000,1000000001,(-1),9223372036854775807]) fun o3=> .seg [.call [0] (.v (vI o3.x)) (Kc o3.c1)] (.leaf (⟨(⟨o1.d.plan,o1.d.mode,o1.d.stack,o1.d.scan,o1.d.start,o3.x,o1.d.field,o1.d.wire,o1.d.want,o1.d.utf,o1.d.end_⟩:Dcd),o3.c1⟩:Cp) [0,2,3]))) (.br (.seg [.ty .int,.pubS 79] (.intro (A3 o2.c1 [0,o1.d.at_,IntKind.i64.wrap (o1.d.at_+1),(-1)]) fun o3=> .seg [.call [0] (.v (vI o3.x)) (Kc o3.c1)] (.leaf (⟨(⟨o1.d.plan,o1.d.mode,o1.d.stack,o1.d.scan,o3.x,o1.d.at_,o1.d.field,o1.d.wire,o1.d.want,o1.d.utf,o1.d.end_⟩:Dcd),o3.c1⟩:Cp) [0,2,3]))) (.br (.intro (Aa o2.c1 4) fun o3=> .seg [.call [0] (.v (vI o3.x)) (Kc o3.c1)] (.leaf (⟨(⟨(⟨o1.d.plan.shapes,o1.d.plan.root,o3.x,o1.d.plan.most⟩:Pln),o1.d.mode,o1.d.stack,o1.d.scan,o1.d.start,o1.d.at_,o1.d.field,o1.d.wire,o1.d.want,o1.d.utf,o1.d.end_⟩:Dcd),o3.c1⟩:Cp) [0,2,3])) (.leaf (⟨o1.d,o2.c1⟩:Cp) [0,2,3]))))))))))))),In (No c) fun o1=>(let z27:S:= .v (.agg (Ah 1 2 o1.d));(Sc c o1)∧In (Aa o1.c1 22) fun o2=>(let z26:List Blk:=[.cells (B0 o2.c1),.tree o1.d.plan.shapes,.lst .lev o1.d.stack];(Ai o1.c1 22 o2)∧Bc (decide (o2.x=0)) (In (Aa o2.c1 12) fun o3=>(let z1:S:= .v (.agg [.own 1,zi o1.d.plan.root,zi o1.d.plan.deep,zi o1.d.plan.most,zi (o3.x-1),.own 2,.int .u64 o1.d.scan.bits,zi o1.d.scan.have_,zi o1.d.start,zi o1.d.at_,zi o1.d.field.number,zi o1.d.field.kind,.bool o1.d.field.rep,.bool o1.d.field.packed,zi o1.d.field.msg,zi o1.d.wire,zi o1.d.want,zi o1.d.utf.want,zi o1.d.utf.low,zi o1.d.utf.high,zi o1.d.end_.kind,zi o1.d.end_.field,.int .u64 o1.d.end_.bits,zi o1.d.end_.len,.str o1.d.end_.text,zi o1.d.end_.code,zi o1.d.end_.at_]);let z2:List Blk:=[.cells (B0 o3.c1),.tree o1.d.plan.shapes,.lst .lev o1.d.stack];(Ai o2.c1 12 o3)∧(wI (o3.x-1))∧((DecB (⟨o1.d.plan,o3.x-1,o1.d.stack,o1.d.scan,o1.d.start,o1.d.at_,o1.d.field,o1.d.wire,o1.d.want,o1.d.utf,o1.d.end_⟩:Dcd))∧(Av o3.c1))∧Lf z1 z1 z2 z2)) (Bc (decide (o2.x=1)) (In (A3 o2.c1 [0,1,5,2000,(-1)]) fun o3=>(let z3:S:= .v (.agg [.own 1,zi o1.d.plan.root,zi o1.d.plan.deep,zi o1.d.plan.most,zi o1.d.mode,.own 2,.int .u64 o1.d.scan.bits,zi o1.d.scan.have_,zi o1.d.start,zi o1.d.at_,zi o1.d.field.number,zi o1.d.field.kind,.bool o1.d.field.rep,.bool o1.d.field.packed,zi o1.d.field.msg,zi o1.d.wire,zi o3.x,zi o1.d.utf.want,zi o1.d.utf.low,zi o1.d.utf.high,zi o1.d.end_.kind,zi o1.d.end_.field,.int .u64 o1.d.end_.bits,zi o1.d.end_.len,.str o1.d.end_.text,zi o1.d.end_.code,zi o1.d.end_.at_]);let z4:List Blk:=[.cells (B0 o3.c1),.tree o1.d.plan.shapes,.lst .lev o1.d.stack];(B2 o2.c1 [0,1,5,2000,(-1)] o3)∧((DecB (⟨o1.d.plan,o1.d.mode,o1.d.stack,o1.d.scan,o1.d.start,o1.d.at_,o1.d.field,o1.d.wire,o3.x,o1.d.utf,o1.d.end_⟩:Dcd))∧(Av o3.c1))∧Lf z3 z3 z4 z4)) (Bc (decide (o2.x=2)) (In (Aa o2.c1 4) fun o3=>(In (Ga o3.c1 [0,1,7,2000,2001,(-1)]) fun o4=>(let z7:=(⟨o3.x-1,o4.x⟩:Lev);let z6:List Blk:=[.cells (B0 o4.c1),.cells [.nil,zi 0,zi 0,zi 0,zi 0,.nil,.int .u64 0,zi 0,zi 0,zi 0,zi 0,zi 0,.bool false,.bool false,zi 0,zi 0,zi 0,zi 0,zi 0,zi 0,zi 0,zi 0,.int .u64 0,zi 0,.str [],zi 0,zi 0],.cells (Ah 3 4 o1.d),.tree o1.d.plan.shapes,.lst .lev (o1.d.stack++[z7])];let z8:List Blk:=[.cells (B0 o4.c1),.tree o1.d.plan.shapes,.lst .lev (o1.d.stack++[z7])];let z9:=L6 o3.c1 [0,1,7,2000,2001,(-1)] o4;(Ai o2.c1 4 o3)∧(wI (o3.x-1))∧z9∧(List.length o1.d.stack+List.length [z7]≤Bj)∧(Ai o2.c1 4 o3)∧(wI (o3.x-1))∧z9∧(List.length o1.d.stack+List.length [z7]≤Bj)∧((z6:List Blk)=z6)∧(([(2,.v (vP 1)),(3,.v (vP 2))]:List (Nat×S))=[(2,.v (vP 1)),(3,.v (vP 2))])∧((DecB (⟨o1.d.plan,o1.d.mode,o1.d.stack++[z7],o1.d.scan,o1.d.start,o1.d.at_,o1.d.field,o1.d.wire,o1.d.want,o1.d.utf,o1.d.end_⟩:Dcd))∧(Av o4.c1))∧Lf z27 z27 z8 z8))) (Bc (decide (o2.x=3)) (In (Rk o2.c1) fun o3=>(let z10:S:= .v (.agg [.own 1,zi o1.d.plan.root,zi o1.d.plan.deep,zi o1.d.plan.most,zi o1.d.mode,.own 2,.int .u64 o3.s.bits,zi o3.s.have_,zi o1.d.start,zi o1.d.at_,zi o1.d.field.number,zi o1.d.field.kind,.bool o1.d.field.rep,.bool o1.d.field.packed,zi o1.d.field.msg,zi o1.d.wire,zi o1.d.want,zi o1.d.utf.want,zi o1.d.utf.low,zi o1.d.utf.high,zi o1.d.end_.kind,zi o1.d.end_.field,.int .u64 o1.d.end_.bits,zi o1.d.end_.len,.str o1.d.end_.text,zi o1.d.end_.code,zi o1.d.end_.at_]);let z11:List Blk:=[.cells (B0 o3.c1),.tree o1.d.plan.shapes,.lst .lev o1.d.stack];(Vg o2.c1 o3)∧((DecB (⟨o1.d.plan,o1.d.mode,o1.d.stack,o3.s,o1.d.start,o1.d.at_,o1.d.field,o1.d.wire,o1.d.want,o1.d.utf,o1.d.end_⟩:Dcd))∧(Av o3.c1))∧Lf z10 z10 z11 z11)) (Bc (decide (o2.x=4)) (In (Aa o2.c1 9) fun o3=>(let z12:S:= .v (.agg [.own 1,zi o1.d.plan.root,zi o1.d.plan.deep,zi o1.d.plan.most,zi o1.d.mode,.own 2,.int .u64 o1.d.scan.bits,zi o1.d.scan.have_,zi o1.d.start,zi o1.d.at_,zi o1.d.field.number,zi o1.d.field.kind,.bool o1.d.field.rep,.bool o1.d.field.packed,zi o1.d.field.msg,zi (o3.x-1),zi o1.d.want,zi o1.d.utf.want,zi o1.d.utf.low,zi o1.d.utf.high,zi o1.d.end_.kind,zi o1.d.end_.field,.int .u64 o1.d.end_.bits,zi o1.d.end_.len,.str o1.d.end_.text,zi o1.d.end_.code,zi o1.d.end_.at_]);let z13:List Blk:=[.cells (B0 o3.c1),.tree o1.d.plan.shapes,.lst .lev o1.d.stack];(Ai o2.c1 9 o3)∧(wI (o3.x-1))∧((DecB (⟨o1.d.plan,o1.d.mode,o1.d.stack,o1.d.scan,o1.d.start,o1.d.at_,o1.d.field,o3.x-1,o1.d.want,o1.d.utf,o1.d.end_⟩:Dcd))∧(Av o3.c1))∧Lf z12 z12 z13 z13)) (Bc (decide (o2.x=5)) (In (Aa o2.c1 5) fun o3=>((Ai o2.c1 5 o3)∧(wI (1+o3.x))∧In (Aa o3.c1 8) fun o4=>(let z14:S:= .v (.agg [.own 1,zi o1.d.plan.root,zi o1.d.plan.deep,zi o1.d.plan.most,zi o1.d.mode,.own 2,.int .u64 o1.d.scan.bits,zi o1.d.scan.have_,zi o1.d.start,zi o1.d.at_,zi (1+o3.x),zi (1+o4.x),.bool false,.bool false,zi (-1),zi o1.d.wire,zi o1.d.want,zi o1.d.utf.want,zi o1.d.utf.low,zi o1.d.utf.high,zi o1.d.end_.kind,zi o1.d.end_.field,.int .u64 o1.d.end_.bits,zi o1.d.end_.len,.str o1.d.end_.text,zi o1.d.end_.code,zi o1.d.end_.at_]);let z15:List Blk:=[.cells (B0 o4.c1),.tree o1.d.plan.shapes,.lst .lev o1.d.stack];(Ai o3.c1 8 o4)∧(wI (1+o4.x))∧((DecB (⟨o1.d.plan,o1.d.mode,o1.d.stack,o1.d.scan,o1.d.start,o1.d.at_,(⟨1+o3.x,1+o4.x,false,false,(-1)⟩:Fld),o1.d.wire,o1.d.want,o1.d.utf,o1.d.end_⟩:Dcd))∧(Av o4.c1))∧Lf z14 z14 z15 z15))) (Bc (decide (o2.x=6)) (In (P1 o2.c1) fun o3=>(let z16:S:= .v (.agg [.own 1,zi o1.d.plan.root,zi o1.d.plan.deep,zi o1.d.plan.most,zi o1.d.mode,.own 2,.int .u64 o1.d.scan.bits,zi o1.d.scan.have_,zi o1.d.start,zi o1.d.at_,zi o1.d.field.number,zi o1.d.field.kind,.bool o1.d.field.rep,.bool o1.d.field.packed,zi o1.d.field.msg,zi o1.d.wire,zi o1.d.want,zi o3.u.want,zi o3.u.low,zi o3.u.high,zi o1.d.end_.kind,zi o1.d.end_.field,.int .u64 o1.d.end_.bits,zi o1.d.end_.len,.str o1.d.end_.text,zi o1.d.end_.code,zi o1.d.end_.at_]);let z17:List Blk:=[.cells (B0 o3.c1),.tree o1.d.plan.shapes,.lst .lev o1.d.stack];(Ub o2.c1 o3)∧((DecB (⟨o1.d.plan,o1.d.mode,o1.d.stack,o1.d.scan,o1.d.start,o1.d.at_,o1.d.field,o1.d.wire,o1.d.want,o3.u,o1.d.end_⟩:Dcd))∧(Av o3.c1))∧Lf z16 z16 z17 z17)) (Bc (decide (o2.x=7)) (In (Pz o2.c1) fun o3=>(let z18:S:= .v (.agg [.own 1,zi o1.d.plan.root,zi o1.d.plan.deep,zi o1.d.plan.most,zi o1.d.mode,.own 2,.int .u64 o1.d.scan.bits,zi o1.d.scan.have_,zi o1.d.start,zi o1.d.at_,zi o1.d.field.number,zi o1.d.field.kind,.bool o1.d.field.rep,.bool o1.d.field.packed,zi o1.d.field.msg,zi o1.d.wire,zi o1.d.want,zi o1.d.utf.want,zi o1.d.utf.low,zi o1.d.utf.high,zi o3.e.kind,zi o3.e.field,.int .u64 o3.e.bits,zi o3.e.len,.str o3.e.text,zi o3.e.code,zi o3.e.at_]);let z19:List Blk:=[.cells (B0 o3.c1),.tree o1.d.plan.shapes,.lst .lev o1.d.stack];(Ua o2.c1 o3)∧((DecB (⟨o1.d.plan,o1.d.mode,o1.d.stack,o1.d.scan,o1.d.start,o1.d.at_,o1.d.field,o1.d.wire,o1.d.want,o1.d.utf,o3.e⟩:Dcd))∧(Av o3.c1))∧Lf z18 z18 z19 z19)) (Bc (decide (o2.x=8)) (In (A3 o2.c1 [0,1000000000,1000000001,(-1),9223372036854775807]) fun o3=>(let z20:S:= .v (.agg [.own 1,zi o1.d.plan.root,zi o1.d.plan.deep,zi o1.d.plan.most,zi o1.d.mode,.own 2,.int .u64 o1.d.scan.bits,zi o1.d.scan.have_,zi o1.d.start,zi o3.x,zi o1.d.field.number,zi o1.d.field.kind,.bool o1.d.field.rep,.bool o1.d.field.packed,zi o1.d.field.msg,zi o1.d.wire,zi o1.d.want,zi o1.d.utf.want,zi o1.d.utf.low,zi o1.d.utf.high,zi o1.d.end_.kind,zi o1.d.end_.field,.int .u64 o1.d.end_.bits,zi o1.d.end_.len,.str o1.d.end_.text,zi o1.d.end_.code,zi o1.d.end_.at_]);let z21:List Blk:=[.cells (B0 o3.c1),.tree o1.d.plan.shapes,.lst .lev o1.d.stack];(B2 o2.c1 [0,1000000000,1000000001,(-1),9223372036854775807] o3)∧((DecB (⟨o1.d.plan,o1.d.mode,o1.d.stack,o1.d.scan,o1.d.start,o3.x,o1.d.field,o1.d.wire,o1.d.want,o1.d.utf,o1.d.end_⟩:Dcd))∧(Av o3.c1))∧Lf z20 z20 z21 z21)) (Bc (decide (o2.x=9)) (In (A3 o2.c1 [0,o1.d.at_,IntKind.i64.wrap (o1.d.at_+1),(-1)]) fun o3=>(let z22:S:= .v (.agg [.own 1,zi o1.d.plan.root,zi o1.d.plan.deep,zi o1.d.plan.most,zi o1.d.mode,.own 2,.int .u64 o1.d.scan.bits,zi o1.d.scan.have_,zi o3.x,zi o1.d.at_,zi o1.d.field.number,zi o1.d.field.kind,.bool o1.d.field.rep,.bool o1.d.field.packed,zi o1.d.field.msg,zi o1.d.wire,zi o1.d.want,zi o1.d.utf.want,zi o1.d.utf.low,zi o1.d.utf.high,zi o1.d.end_.kind,zi o1.d.end_.field,.int .u64 o1.d.end_.bits,zi o1.d.end_.len,.str o1.d.end_.text,zi o1.d.end_.code,zi o1.d.end_.at_]);let z23:List Blk:=[.cells (B0 o3.c1),.tree o1.d.plan.shapes,.lst .lev o1.d.stack];(B2 o2.c1 [0,o1.d.at_,IntKind.i64.wrap (o1.d.at_+1),(-1)] o3)∧((DecB (⟨o1.d.plan,o1.d.mode,o1.d.stack,o1.d.scan,o3.x,o1.d.at_,o1.d.field,o1.d.wire,o1.d.want,o1.d.utf,o1.d.end_⟩:Dcd))∧(Av o3.c1))∧Lf z22 z22 z23 z23)) (Bc (decide (o2.x=10)) (In (Aa o2.c1 4) fun o3=>(let z24:S:= .v (.agg [.own 1,zi o1.d.plan.root,zi o3.x,zi o1.d.plan.most,zi o1.d.mode,.own 2,.int .u64 o1.d.scan.bits,zi o1.d.scan.have_,zi o1.d.start,zi o1.d.at_,zi o1.d.field.number,zi o1.d.field.kind,.bool o1.d.field.rep,.bool o1.d.field.packed,zi o1.d.field.msg,zi o1.d.wire,zi o1.d.want,zi o1.d.utf.want,zi o1.d.utf.low,zi o1.d.utf.high,zi o1.d.end_.kind,zi o1.d.end_.field,.int .u64 o1.d.end_.bits,zi o1.d.end_.len,.str o1.d.end_.text,zi o1.d.end_.code,zi o1.d.end_.at_]);let z25:List Blk:=[.cells (B0 o3.c1),.tree o1.d.plan.shapes,.lst .lev o1.d.stack];(Ai o2.c1 4 o3)∧((DecB (⟨(⟨o1.d.plan.shapes,o1.d.plan.root,o3.x,o1.d.plan.most⟩:Pln),o1.d.mode,o1.d.stack,o1.d.scan,o1.d.start,o1.d.at_,o1.d.field,o1.d.wire,o1.d.want,o1.d.utf,o1.d.end_⟩:Dcd))∧(Av o3.c1))∧Lf z24 z24 z25 z25)) (((DecB o1.d)∧(Av o2.c1))∧Lf z27 z27 z26 z26))))))))))))))) Q4 ?_
 refine⟨(Aao c Q0),fun o1 ho_o1=>?_⟩
 obtain ⟨⟨hp_o1_0,hp_o1_1,hp_o1_2⟩,hf_o1⟩:=ho_o1
 refine⟨hf_o1,(Am o1.c1 22 Q0),fun o2 ho_o2=>?_⟩
 obtain ⟨⟨hp_o2_0,hp_o2_1,hp_o2_2,hp_o2_3⟩,hf_o2⟩:=ho_o2
 refine⟨hf_o2,dsp (fun h1 p1=>?_) fun h1 p1=>?_⟩
 refine⟨(Am o2.c1 12 Q0),fun o3 ho_o3=>?_⟩
 obtain ⟨⟨hp_o3_0,hp_o3_1,hp_o3_2,hp_o3_3⟩,hf_o3⟩:=ho_o3
 exact⟨hf_o3,(Ac Q2 Q2),⟨Q8,Q0⟩,rfl,rfl⟩
 refine dsp (fun h2 p2=>?_) fun h2 p2=>?_
 refine⟨(Co o2.c1 [0,1,5,2000,(-1)] Q0 Q5 Q5),fun o3 ho_o3=>?_⟩
 obtain ⟨⟨hp_o3_0,hp_o3_1⟩,hf_o3⟩:=ho_o3
 exact⟨hf_o3,⟨Q8,Q0⟩,rfl,rfl⟩
 refine dsp (fun h3 p3=>?_) fun h3 p3=>?_
 refine⟨(Am o2.c1 4 Q0),fun o3 ho_o3=>?_⟩
 obtain ⟨⟨hp_o3_0,hp_o3_1,hp_o3_2,hp_o3_3⟩,hf_o3⟩:=ho_o3
 refine⟨(T6 o3.c1 [0,1,7,2000,2001,(-1)] Q0 Q5 Q5),fun o4 ho_o4=>?_⟩
 obtain ⟨⟨hp_o4_0,hp_o4_1⟩,hf_o4⟩:=ho_o4
 exact⟨hf_o3,(Ac Q2 Q2),hf_o4,(by have:=hp_o1_0.stack;simp only[List.length_cons,List.length_nil];omega),hf_o3,(Ac Q2 Q2),hf_o4,(by have:=hp_o1_0.stack;simp only[List.length_cons,List.length_nil];omega),rfl,rfl,⟨Q8,Q0⟩,rfl,rfl⟩
 refine dsp (fun h4 p4=>?_) fun h4 p4=>?_
 refine⟨(Aec o2.c1 Q0),fun o3 ho_o3=>?_⟩
 obtain ⟨⟨hp_o3_0,hp_o3_1⟩,hf_o3⟩:=ho_o3
 exact⟨hf_o3,⟨Q8,Q0⟩,rfl,rfl⟩
 refine dsp (fun h5 p5=>?_) fun h5 p5=>?_
 refine⟨(Am o2.c1 9 Q0),fun o3 ho_o3=>?_⟩
 obtain ⟨⟨hp_o3_0,hp_o3_1,hp_o3_2,hp_o3_3⟩,hf_o3⟩:=ho_o3
 exact⟨hf_o3,(Ac Q2 Q2),⟨Q8,Q0⟩,rfl,rfl⟩
 refine dsp (fun h6 p6=>?_) fun h6 p6=>?_
 refine⟨(Am o2.c1 5 Q0),fun o3 ho_o3=>?_⟩
 obtain ⟨⟨hp_o3_0,hp_o3_1,hp_o3_2,hp_o3_3⟩,hf_o3⟩:=ho_o3
 refine⟨hf_o3,(Ac Q2 Q2),(Am o3.c1 8 Q0),fun o4 ho_o4=>?_⟩
 obtain ⟨⟨hp_o4_0,hp_o4_1,hp_o4_2,hp_o4_3⟩,hf_o4⟩:=ho_o4
 exact⟨hf_o4,(Ac Q2 Q2),⟨Q8,Q0⟩,rfl,rfl⟩
 refine dsp (fun h7 p7=>?_) fun h7 p7=>?_
 refine⟨(Acy o2.c1 Q0),fun o3 ho_o3=>?_⟩
 obtain ⟨hp_o3,hf_o3⟩:=ho_o3
 exact⟨hf_o3,⟨Q8,Q0⟩,rfl,rfl⟩
 refine dsp (fun h8 p8=>?_) fun h8 p8=>?_
 refine⟨(Acx o2.c1 Q0),fun o3 ho_o3=>?_⟩
 obtain ⟨⟨hp_o3_0,hp_o3_1,hp_o3_2⟩,hf_o3⟩:=ho_o3
 exact⟨hf_o3,⟨Q8,Q0⟩,rfl,rfl⟩
 refine dsp (fun h9 p9=>?_) fun h9 p9=>?_
 refine⟨(Co o2.c1 [0,1000000000,1000000001,(-1),9223372036854775807] Q0 Q5 Q5),fun o3 ho_o3=>?_⟩
 obtain ⟨⟨hp_o3_0,hp_o3_1⟩,hf_o3⟩:=ho_o3
 exact⟨hf_o3,⟨Q8,Q0⟩,rfl,rfl⟩
 refine dsp (fun h10 p10=>?_) fun h10 p10=>?_
 refine⟨(Co o2.c1 [0,o1.d.at_,IntKind.i64.wrap (o1.d.at_+1),(-1)] Q0 Q5 Q5),fun o3 ho_o3=>?_⟩
 obtain ⟨⟨hp_o3_0,hp_o3_1⟩,hf_o3⟩:=ho_o3
 exact⟨hf_o3,⟨Q8,Q0⟩,rfl,rfl⟩
 refine dsp (fun h11 p11=>?_) fun h11 p11=>?_
 refine⟨(Am o2.c1 4 Q0),fun o3 ho_o3=>?_⟩
 obtain ⟨⟨hp_o3_0,hp_o3_1,hp_o3_2,hp_o3_3⟩,hf_o3⟩:=ho_o3
 exact⟨hf_o3,⟨Q8,Q0⟩,rfl,rfl⟩
 exact⟨⟨Q8,Q0⟩,rfl,rfl⟩
structure Cd where
 d:Dcd
 b:Int
def Mp (code:List Int) (o:Cd):Prop:=Fun Tryz.prog 22 [.c (.seq .u8 code)] [] (.tup [.agg (Ah 0 1 o.d),vI o.b]) [.tree o.d.plan.shapes,.lst .lev o.d.stack]
def Hg (code:List Int) (o:Cd):Prop:=((DecB o.d))∧Mp code o
theorem Um (code:List Int) (hp1:List.length code≤1048576): ∃o:Cd,Hg code o:=by
 have hN:Bj=274877906944:=rfl
 refine Bv Tryz.func22 Q4 Q4 (w:=(.intro (Tx code) fun o1=> .seg [.call [] (.v (vP 0)) (Kc o1.c1)] (.intro (P2 o1.c1) fun o2=> .seg [.call [1] (.v (.agg (Ah 1 2 o2.d))) [.cells (B0 o2.c1),.tree o2.d.plan.shapes,.lst .lev o2.d.stack]] (.intro (Rm o2.c1) fun o3=> .seg [.call [1] (.v (vI o3.x)) (Kc o3.c1)] (.leaf (⟨o2.d,o3.x⟩:Cd) [2,3]))),In (Tx code) fun o1=>((Xf code o1)∧In (P2 o1.c1) fun o2=>((Ud o1.c1 o2)∧In (Rm o2.c1) fun o3=>(let z1:S:= .tup [.agg (Ah 0 1 o2.d),vI o3.x];(Vh o2.c1 o3)∧((DecB o2.d))∧Lf z1 z1 (L2 o2.d) (L2 o2.d)))))) Q4 ?_
 refine⟨(Afy code Q2),fun o1 ho_o1=>?_⟩
 obtain ⟨hp_o1,hf_o1⟩:=ho_o1
 refine⟨hf_o1,(Ac1 o1.c1 Q0),fun o2 ho_o2=>?_⟩
 obtain ⟨⟨hp_o2_0,hp_o2_1⟩,hf_o2⟩:=ho_o2
 refine⟨hf_o2,(Aed o2.c1 Q0),fun o3 ho_o3=>?_⟩
 obtain ⟨hp_o3,hf_o3⟩:=ho_o3
 exact⟨hf_o3,Q8,rfl,rfl⟩
theorem Ag6 (l:List Int) (hp1:((List.length l:Nat):Int)≤9223372036854775807):Fun Tryz.prog 8 [.c (.seq .u8 l)] [] (.v (vB (decide (1048576<((List.length l:Nat):Int))))) []:=by
 have hN:Bj=274877906944:=rfl
 refine Ar Tryz.func8 Q4 Q4 (w:=let z1:S:= .v (vB (decide (1048576<((List.length l:Nat):Int))));(.leaf () [],Lf z1 z1 [] [])) Q4 ?_
 exact⟨rfl,rfl⟩
theorem DecB.i55 {d:Dcd} (h:DecB d): ∀e∈d.plan.shapes,e.id≠55:=fun e he=>by
 rcases h.pln with h|h
 ·rw[h] at he;cases he
 ·exact(h.sch.2 e he).1.2
theorem DecB.n44 {d:Dcd} (h:DecB d): ∀e∈d.plan.shapes,∀f∈e.fields,f.number≠44:=fun e he f hf=>by
 rcases h.pln with h|h
 ·rw[h] at he;cases he
 ·exact((h.sch.2 e he).2 f hf).2.2.2
theorem DecB.schB {d:Dcd} (h:DecB d):SchB d.plan.shapes:=⟨by have:=h.shs;omega,fun e he=>by have:=h.flds e he;omega⟩
def fL (l:List Shp) (i:Nat):Nat:=(l.getD i Ahm).fields.length
theorem Wd {l:List Shp} {i:Nat} {x:Shp} (h:l[i]? =some x):fL l i=x.fields.length:=by unfold fL;rw[Th h]
theorem Ag7 {l:List Shp} {i:Nat} {x y:Shp} (h:l[i]? =some x) (hy:y.fields.length=x.fields.length):fL (l.set i y) i=fL l i:=by
 have hi:=(List.getElem?_eq_some_iff.1 h).1
 rw[Wd h,Wd (x:=y) (by rw[List.getElem?_set];simp[hi]),hy]
theorem SchB.set' {l:List Shp} {i:Nat} {x y:Shp} (h:SchB l) (hx:l[i]? =some x) (hy:y.fields.length=x.fields.length):SchB (l.set i y):=SchB.set h (by have:=h.2 x (List.mem_of_getElem? hx);omega)
structure Mh where
 x:Dcd
 i:Nat
def Fk (o1:Cd):Fam:=⟨Mh,fun q1=>[(3,.v (vP 0)),(5,.v (vP 1)),(6,.v (vO 2)),(7,.v (vP 3)),(11,.v (vI ((q1.i:Nat):Int)))],fun q1=>[.cells (Bu o1.d),.cells (Bu o1.d),.lst .lev (([]:List Lev)++o1.d.stack),.cells (Ah 4 5 q1.x),.tree q1.x.plan.shapes,.lst .lev q1.x.stack],fun q1=>q1.i≤List.length (q1.x).stack∧List.length (q1.x).stack≤400000∧SchB (q1.x).plan.shapes,fun q1=>List.length (q1.x).stack-q1.i⟩
structure Jp where
 x:Dcd
 i:Nat
def Fm (o1:Cd):Fam:=⟨Jp,fun q2=>[(3,.v (vP 0)),(5,.v (vP 1)),(6,.v (vO 2)),(7,.v (vP 3)),(12,.v (vI ((q2.i:Nat):Int)))],fun q2=>[.cells (Bu o1.d),.cells (Bu o1.d),.lst .lev (([]:List Lev)++o1.d.stack),.cells (Ah 4 5 q2.x),.tree q2.x.plan.shapes,.lst .lev q2.x.stack],fun q2=>q2.i≤List.length (q2.x).plan.shapes∧SchB (q2.x).plan.shapes,fun q2=>List.length (q2.x).plan.shapes-q2.i⟩
structure Mi where
 x:Dcd
 k:Nat
def Jq (o1:Cd) (q2:Jp):Fam:=⟨Mi,fun q3=>[(3,.v (vP 0)),(5,.v (vP 1)),(6,.v (vO 2)),(7,.v (vP 3)),(12,.v (vI ((q2.i:Nat):Int))),(13,.v (vI ((q3.k:Nat):Int)))],fun q3=>[.cells (Bu o1.d),.cells (Bu o1.d),.lst .lev (([]:List Lev)++o1.d.stack),.cells (Ah 4 5 q3.x),.tree q3.x.plan.shapes,.lst .lev q3.x.stack],fun q3=>List.length (q3.x).plan.shapes=List.length q2.x.plan.shapes∧SchB (q3.x).plan.shapes∧q3.k≤6,fun q3=>fL (q3.x).plan.shapes q2.i-q3.k⟩
structure Mj where
 i:Nat
def Fn (o1:Cd):Fam:=⟨Mj,fun q3=>[(3,.v (vP 0)),(5,.v (vP 1)),(6,.v (vO 2)),(14,.v (vI ((q3.i:Nat):Int)))],fun _=>[.cells (Bu o1.d),.cells (Bu o1.d),.lst .lev (([]:List Lev)++o1.d.stack)],fun q3=>q3.i≤List.length o1.d.stack,fun q3=>List.length o1.d.stack-q3.i⟩
structure Jr where
 i:Nat
def Fo (o1:Cd):Fam:=⟨Jr,fun q4=>[(3,.v (vP 0)),(5,.v (vP 1)),(15,.v (vI ((q4.i:Nat):Int)))],fun _=>[.cells (Bu o1.d),.cells (Bu o1.d)],fun q4=>q4.i≤List.length o1.d.plan.shapes,fun q4=>List.length o1.d.plan.shapes-q4.i⟩
structure Mk where
 k:Nat
def Js (o1:Cd) (q4:Jr):Fam:=⟨Mk,fun q5=>[(3,.v (vP 0)),(5,.v (vP 1)),(15,.v (vI ((q4.i:Nat):Int))),(16,.v (vI ((q5.k:Nat):Int)))],fun _=>[.cells (Bu o1.d),.cells (Bu o1.d)],fun q5=>q5.k≤6,fun q5=>6-q5.k⟩
theorem Aei (code:List Int) (hp1:((List.length code:Nat):Int)≤9223372036854775807):Fun Tryz.prog 5 [.c (.seq .u8 code)] [] (.v (vB true)) []:=by
 have hN:Bj=274877906944:=rfl
 refine Ar Tryz.func5 Q4 Q4 (w:=let z22:=decide (1048576<((List.length code:Nat):Int));let z23:S:= .v (vB true);let z24:=Lf (.v (vB false)) z23 [] [];(.seg [.call [] (.v (vB z22)) []] (.br (.leaf () []) (.intro (Hg code) fun o1=>let z18:=B5 o1.d o1.b;.seg [.call [] (.tup [.agg (Ah 0 1 o1.d),vI o1.b]) (L2 o1.d),.at 5,.pub 2 0,.pub 2 5,.ty .lev,.ty .lev,.call [] (.tup [.agg (Ah 0 1 z18.d),vO 2]) (Ls z18.d z18.out),.call [] (.tup [.agg (Ah 0 1 z18.d),vO 2]) (Ls z18.d z18.out),.call [] (.v (vB (decide (z18.out=z18.out)))) [],.br false,.at 0,.keep [3,5,6,7,11],.sel [2,3,5,9,6,7]] (.loop (Fk o1) fun q1=> .br (.intro (Sx (q1.x.stack[q1.i]?)) fun x1=> .seg [.el .lev x1,.as 51 (.v (vI (((q1.i:Nat):Int)+1))),.at 0,.keep [3,5,6,7,11],.sel [0,1,2,3,4,5]] (.next)) (.seg [.at 0,.keep [3,5,6,7,12],.sel [0,1,2,3,4,5]] (.loop (Fm o1) fun q2=> .br (.intro (Sx (q2.x.plan.shapes[q2.i]?)) fun x1=> .seg [.el .shp x1,.at 0,.keep [3,5,6,7,12,13],.sel [0,1,2,3,4,5]] (.loop (Jq o1 q2) fun q3=> .intro (Sx (q3.x.plan.shapes[q2.i]?)) fun x2=> .seg [.focus,.el .shp x2] (.br (.take 21 4 q2.i (⟨x2.id,x2.fields⟩:Shp) (.intro (Sx (x2.fields[q3.k]?)) fun x3=> .seg [.el .fld x3] (.give 20 4 (⟨x2.id,x2.fields⟩:Shp) (.seg [.as 85 (.v (vI (((q3.k:Nat):Int)+1))),.at 0,.keep [3,5,6,7,12,13],.sel [0,1,2,3,4,5]] (.next))))) (.seg [.as 65 (.v (vI (((q2.i:Nat):Int)+1))),.at 0,.keep [3,5,6,7,12],.sel [0,1,2,3,4,5]] (.next))))) (.seg [.at 0,.keep [3,5,6,14],.sel [0,1,2]] (.loop (Fn o1) fun q3=> .br (.intro (Sx (o1.d.stack[q3.i]?)) fun x1=> .intro (Sx ((([]:List Lev)++o1.d.stack)[q3.i]?)) fun x2=> .seg [.ord (os 10 []) [],.el .lev x1,.el .lev x2] (.br (.leaf () []) (.seg [.as 102 (.v (vI (((q3.i:Nat):Int)+1))),.at 0,.keep [3,5,6,14],.sel [0,1,2]] (.next)))) (.seg [.at 0,.keep [3,5,15],.sel [0,1]] (.loop (Fo o1) fun q4=> .br (.intro (Sx (o1.d.plan.shapes[q4.i]?)) fun x1=> .seg [.el .shp x1] (.br (.leaf () []) (.seg [.at 0,.keep [3,5,15,16],.sel [0,1]] (.loop (Js o1 q4) fun q5=> .seg [.el .shp x1] (.br (.seg [.el .shp x1] (.intro (Sx (x1.fields[q5.k]?)) fun x2=> .seg [.el .fld x2] (.br (.leaf () []) (.seg [.as 143 (.v (vI (((q5.k:Nat):Int)+1))),.at 0,.keep [3,5,15,16],.sel [0,1]] (.next))))) (.seg [.as 121 (.v (vI (((q4.i:Nat):Int)+1))),.at 0,.keep [3,5,15],.sel [0,1]] (.next))))))) (.seg [.call [] z23 []] (.leaf () []))))))))))),(Fp 8 [.c (.seq .u8 code)] [] (.v (vB z22)) [])∧Bc z22 (Lf z23 z23 [] []) (In (Hg code) fun o1=>(let z19:=([]:List Lev)++o1.d.stack;let z20:=B5 o1.d o1.b;let z21:=Bu o1.d;(Mp code o1)∧(List.length ([]:List Lev)+List.length o1.d.stack≤Bj)∧(Fp 23 [.agg z21,vI o1.b] [] (.tup [.agg (Ah 0 1 z20.d),vO 2]) (Ls z20.d z20.out))∧(Fp 24 [.agg z21,vI o1.b] [] (.tup [.agg (Ah 0 1 z20.d),vO 2]) (Ls z20.d z20.out))∧(Fp 14 [.c (.seq .ev z20.out),.c (.seq .ev z20.out)] [] (.v (vB (decide (z20.out=z20.out)))) [])∧((!(decide (z20.out=z20.out)))=false)∧(Fk o1).Has [(3,.v (vP 0)),(5,.v (vP 1)),(6,.v (vO 2)),(7,.v (vP 3)),(11,.v (vI 0))] [.cells z21,.cells z21,.lst .lev z19,.cells (Ah 4 5 z20.d),.tree z20.d.plan.shapes,.lst .lev z20.d.stack]∧∀q1,(Fk o1).inv q1→(let z16:=((q1.i:Nat):Int);let z17:=z16<((List.length q1.x.stack:Nat):Int);Bc (decide z17) (El (q1.x.stack[q1.i]?) fun x1=>(z17∧((0:Int)≤z16)∧(q1.x.stack[q1.i]? =some x1)∧(wI (z16+1))∧(Fk o1).Nxt q1 [(3,.v (vP 0)),(5,.v (vP 1)),(6,.v (vO 2)),(7,.v (vP 3)),(11,.v (vI (z16+1)))] [.cells z21,.cells z21,.lst .lev z19,.cells (Ah 4 5 q1.x),.tree q1.x.plan.shapes,.lst .lev (List.set q1.x.stack q1.i (⟨x1.msg,77⟩:Lev))])) ((Fm o1).Has [(3,.v (vP 0)),(5,.v (vP 1)),(6,.v (vO 2)),(7,.v (vP 3)),(12,.v (vI 0))] [.cells z21,.cells z21,.lst .lev z19,.cells (Ah 4 5 q1.x),.tree q1.x.plan.shapes,.lst .lev q1.x.stack]∧∀q2,(Fm o1).inv q2→(let z13:=((q2.i:Nat):Int);let z14:=z13<((List.length q2.x.plan.shapes:Nat):Int);let z15:=Jq o1 q2;Bc (decide z14) (El (q2.x.plan.shapes[q2.i]?) fun x1=>(z14∧((0:Int)≤z13)∧(q2.x.plan.shapes[q2.i]? =some x1)∧z15.Has [(3,.v (vP 0)),(5,.v (vP 1)),(6,.v (vO 2)),(7,.v (vP 3)),(12,.v (vI z13)),(13,.v (vI 0))] [.cells z21,.cells z21,.lst .lev z19,.cells (Ah 4 5 q2.x),.tree (List.set q2.x.plan.shapes q2.i (⟨55,x1.fields⟩:Shp)),.lst .lev q2.x.stack]∧∀q3,z15.inv q3→(let z5:=((q3.k:Nat):Int);El (q3.x.plan.shapes[q2.i]?) fun x2=>(let z3:=z5<((List.length x2.fields:Nat):Int);let z4:=(⟨x2.id,x2.fields⟩:Shp);let z2:=List.set q3.x.plan.shapes q2.i z4;(z13<((List.length q3.x.plan.shapes:Nat):Int))∧((0:Int)≤z13)∧(q3.x.plan.shapes[q2.i]? =some x2)∧Bc (decide z3) ((z2[q2.i]? =some z4)∧El (x2.fields[q3.k]?) fun x3=>(let z1:=(⟨44,x3.kind,x3.rep,x3.packed,x3.msg⟩:Fld);(z13<((List.length z2:Nat):Int))∧((0:Int)≤z13)∧(q2.i=q2.i)∧((z2[q2.i]?).map (fun (x:Shp)=>x.fields.length)=some (List.length x2.fields))∧z3∧((0:Int)≤z5)∧(x2.fields[q3.k]? =some x3)∧(List.length (List.set x2.fields q3.k z1)=List.length x2.fields)∧(z2[q2.i]? =some z4)∧(wI (z5+1))∧z15.Nxt q3 [(3,.v (vP 0)),(5,.v (vP 1)),(6,.v (vO 2)),(7,.v (vP 3)),(12,.v (vI z13)),(13,.v (vI (z5+1)))] [.cells z21,.cells z21,.lst .lev z19,.cells (Ah 4 5 q3.x),.tree (List.set z2 q2.i (⟨x2.id,List.set x2.fields q3.k z1⟩:Shp)),.lst .lev q3.x.stack])) ((wI (z13+1))∧(Fm o1).Nxt q2 [(3,.v (vP 0)),(5,.v (vP 1)),(6,.v (vO 2)),(7,.v (vP 3)),(12,.v (vI (z13+1)))] [.cells z21,.cells z21,.lst .lev z19,.cells (Ah 4 5 q3.x),.tree z2,.lst .lev q3.x.stack]))))) ((Fn o1).Has [(3,.v (vP 0)),(5,.v (vP 1)),(6,.v (vO 2)),(14,.v (vI 0))] [.cells z21,.cells z21,.lst .lev z19]∧∀q3,(Fn o1).inv q3→(let z12:=((q3.i:Nat):Int);let z11:=z12<((List.length z19:Nat):Int);Bc (decide z11) (El (o1.d.stack[q3.i]?) fun x1=>(El (z19[q3.i]?) fun x2=>(let z6:=z19[q3.i]? =some x2;(o1.d.stack[q3.i]? =some x1)∧((0:Int)≤z12)∧(o1.d.stack[q3.i]? =some x1)∧((0:Int)≤z12)∧z11∧((0:Int)≤z12)∧z11∧((0:Int)≤z12)∧z6∧z6∧Bc (!(decide (x1.msg=x2.msg)&&decide (x1.left=x2.left))) z24 ((wI (z12+1))∧(Fn o1).Nxt q3 [(3,.v (vP 0)),(5,.v (vP 1)),(6,.v (vO 2)),(14,.v (vI (z12+1)))] [.cells z21,.cells z21,.lst .lev z19])))) ((Fo o1).Has [(3,.v (vP 0)),(5,.v (vP 1)),(15,.v (vI 0))] [.cells z21,.cells z21]∧∀q4,(Fo o1).inv q4→(let z9:=((q4.i:Nat):Int);let z10:=Js o1 q4;Bc (decide (z9<((List.length o1.d.plan.shapes:Nat):Int))) (El (o1.d.plan.shapes[q4.i]?) fun x1=>(let z8:=o1.d.plan.shapes[q4.i]? =some x1;z8∧((0:Int)≤z9)∧Bc (decide (x1.id=55)) z24 (z10.Has [(3,.v (vP 0)),(5,.v (vP 1)),(15,.v (vI z9)),(16,.v (vI 0))] [.cells z21,.cells z21]∧∀q5,z10.inv q5→(let z7:=((q5.k:Nat):Int);z8∧((0:Int)≤z9)∧Bc (decide (z7<((List.length x1.fields:Nat):Int))) (z8∧((0:Int)≤z9)∧El (x1.fields[q5.k]?) fun x2=>((x1.fields[q5.k]? =some x2)∧((0:Int)≤z7)∧Bc (decide (x2.number=44)) z24 ((wI (z7+1))∧z10.Nxt q5 [(3,.v (vP 0)),(5,.v (vP 1)),(15,.v (vI z9)),(16,.v (vI (z7+1)))] [.cells z21,.cells z21]))) ((wI (z9+1))∧(Fo o1).Nxt q4 [(3,.v (vP 0)),(5,.v (vP 1)),(15,.v (vI (z9+1)))] [.cells z21,.cells z21]))))) ((Fp 25 [.agg z21,.agg z21] [] z23 [])∧Lf z23 z23 [] [])))))))))))) Q4 ?_
 refine⟨(Ag6 _ Q2),dsp (fun h1 p1=>?_) fun h1 p1=>?_⟩
 exact⟨rfl,rfl⟩
 refine⟨(Um code Q2),fun o1 ho_o1=>?_⟩
 obtain ⟨hp_o1,hf_o1⟩:=ho_o1
 refine⟨hf_o1,Q54,(Afx o1.d _ (by have:=(hp_o1).shs;omega) (fun e he=>by have:=(hp_o1).flds e he;omega) (by have:=(hp_o1).stack;omega) ((hp_o1).bits)),(Yf o1.d _ (by have:=(hp_o1).shs;omega) (fun e he=>by have:=(hp_o1).flds e he;omega) (by have:=(hp_o1).stack;omega) ((hp_o1).bits)),(Aci _ _ (by have:=(Qr (d:=o1.d) (b:=o1.b)).2.2.1;omega) (by have:=(Qr (d:=o1.d) (b:=o1.b)).2.2.1;omega)),Q68,Bh (j:=(⟨(B5 o1.d o1.b).d,0⟩:Mh)) Q9 rfl (by dsimp only[Fk];exact⟨by omega,by have:=(Uc (b:=o1.b) hp_o1).stack;omega,(Uc (b:=o1.b) hp_o1).schB⟩),fun (q1:Mh) hq_q1=>?_⟩
 have hi_q1:q1.i≤List.length (q1.x).stack∧List.length (q1.x).stack≤400000∧SchB (q1.x).plan.shapes:=hq_q1
 obtain ⟨v1,v2,v3⟩:=hi_q1
 refine dsp (fun h2 p2=>?_) fun h2 p2=>?_
 refine⟨(Bg (l:=q1.x.stack) (i:=q1.i) Q2),fun x1 hx1=>?_⟩
 exact⟨Q2,Q2,hx1,(Ac Q2 Q2),Bb (j:=(⟨(⟨q1.x.plan,q1.x.mode,List.set q1.x.stack q1.i (⟨x1.msg,77⟩:Lev),q1.x.scan,q1.x.start,q1.x.at_,q1.x.field,q1.x.wire,q1.x.want,q1.x.utf,q1.x.end_⟩:Dcd),q1.i+1⟩:Mh)) Q9 Q9 (by dsimp only[Fk];exact⟨by (try simp only[List.length_set]);omega,by (try simp only[List.length_set]);omega,v3⟩) (by dsimp only[Fk];(try simp only[List.length_set]);omega)⟩
 refine⟨Bh (j:=(⟨q1.x,0⟩:Jp)) Q9 rfl (by dsimp only[Fm];exact⟨by omega,v3⟩),fun (q2:Jp) hq_q2=>?_⟩
 have hi_q2:q2.i≤List.length (q2.x).plan.shapes∧SchB (q2.x).plan.shapes:=hq_q2
 obtain ⟨u1,u2⟩:=hi_q2
 have us:=u2.1
 refine dsp (fun h3 p3=>?_) fun h3 p3=>?_
 refine⟨(Bg (l:=q2.x.plan.shapes) (i:=q2.i) Q2),fun x1 hx1=>?_⟩
 refine⟨Q2,Q2,?_⟩
 have hxs:=hx1
 have hfs:=Wd hx1
 have hfb:=u2.2 _ (List.mem_of_getElem? hx1)
 refine⟨hx1,Bh (j:=(⟨(⟨(⟨List.set q2.x.plan.shapes q2.i (⟨55,x1.fields⟩:Shp),q2.x.plan.root,q2.x.plan.deep,q2.x.plan.most⟩:Pln),q2.x.mode,q2.x.stack,q2.x.scan,q2.x.start,q2.x.at_,q2.x.field,q2.x.wire,q2.x.want,q2.x.utf,q2.x.end_⟩:Dcd),0⟩:Mi)) Q9 Q9 (by dsimp only[Jq];exact⟨by (try simp only[List.length_set]),SchB.set' u2 hx1 rfl,by omega⟩),fun (q3:Mi) hq_q3=>?_⟩
 have hi_q3:List.length (q3.x).plan.shapes=List.length q2.x.plan.shapes∧SchB (q3.x).plan.shapes∧q3.k≤6:=hq_q3
 obtain ⟨w1,w2,w3⟩:=hi_q3
 have ws:=w2.1
 refine⟨(Bg (l:=q3.x.plan.shapes) (i:=q2.i) Q2),fun x2 hx2=>?_⟩
 refine⟨Q2,Q2,?_⟩
 have hxs:=hx2
 have hfs:=Wd hx2
 have hfb:=w2.2 _ (List.mem_of_getElem? hx2)
 refine⟨hx2,dsp (fun h4 p4=>?_) fun h4 p4=>?_⟩
 refine⟨(Te Q2),(Bg (l:=x2.fields) (i:=q3.k) Q2),fun x3 hx3=>?_⟩
 refine⟨(by simp only[List.length_set];omega),Q2,rfl,(by rw[Te (by omega)];rfl),Q2,Q2,hx3,?_⟩
 exact⟨Q9,(Te Q2),(Ac Q2 Q2),Bb (j:=(⟨(⟨(⟨List.set (List.set q3.x.plan.shapes q2.i (⟨x2.id,x2.fields⟩:Shp)) q2.i (⟨x2.id,List.set x2.fields q3.k (⟨44,x3.kind,x3.rep,x3.packed,x3.msg⟩:Fld)⟩:Shp),q3.x.plan.root,q3.x.plan.deep,q3.x.plan.most⟩:Pln),q3.x.mode,q3.x.stack,q3.x.scan,q3.x.start,q3.x.at_,q3.x.field,q3.x.wire,q3.x.want,q3.x.utf,q3.x.end_⟩:Dcd),q3.k+1⟩:Mi)) Q9 Q9 (by dsimp only[Jq];exact⟨by (try simp only[List.length_set]);omega,SchB.set (SchB.set w2 (by dsimp only;omega)) (by simp;omega),by omega⟩) (by dsimp only[Jq];(try rw[List.set_set]);rw[Ag7 hxs (by simp)];omega)⟩
 exact⟨(Ac Q2 Q2),Bb (j:=(⟨(⟨(⟨List.set q3.x.plan.shapes q2.i (⟨x2.id,x2.fields⟩:Shp),q3.x.plan.root,q3.x.plan.deep,q3.x.plan.most⟩:Pln),q3.x.mode,q3.x.stack,q3.x.scan,q3.x.start,q3.x.at_,q3.x.field,q3.x.wire,q3.x.want,q3.x.utf,q3.x.end_⟩:Dcd),q2.i+1⟩:Jp)) Q9 Q9 (by dsimp only[Fm];exact⟨by (try simp only[List.length_set]);omega,by first|exact w2|exact SchB.set w2 (by dsimp only;omega)⟩) (by dsimp only[Fm];(try simp only[List.length_set]);omega)⟩
 refine⟨Bh (j:=(⟨0⟩:Mj)) Q9 rfl (by dsimp only[Fn];omega),fun (q3:Mj) hq_q3=>?_⟩
 have hi_q3:q3.i≤List.length o1.d.stack:=hq_q3
 have hls:List.length (([]:List Lev)++o1.d.stack)=List.length o1.d.stack:=by simp
 have hds:=hp_o1.stack
 refine dsp (fun h4 p4=>?_) fun h4 p4=>?_
 refine⟨(Bg (l:=o1.d.stack) (i:=q3.i) (by have:=(hp_o1).stack;omega)),fun x1 hx1=>?_⟩
 refine⟨(Bg (l:=([]:List Lev)++o1.d.stack) (i:=q3.i) Q54),fun x2 hx2=>?_⟩
 have hee:x1=x2:=by have h9:=hx2;rw[List.nil_append] at h9;exact Option.some.inj (hx1.symm.trans h9)
 refine⟨hx1,Q2,hx1,Q2,Q54,Q2,Q54,Q2,hx2,hx2,fun h5=>have q5:=Ao h5;have p5:=(Cc dT dF).1 q5;?_,fun h5=>have q5:=An h5;have p5:=(Cb dT dT).1 q5;?_⟩
 refine⟨(sB ?_),rfl⟩
 rotate_left
 exact⟨(Ac Q2 Q2),Bb (j:=(⟨q3.i+1⟩:Mj)) Q9 rfl (by dsimp only[Fn];omega) (by dsimp only[Fn];omega)⟩
 refine⟨Bh (j:=(⟨0⟩:Jr)) Q9 rfl (by dsimp only[Fo];omega),fun (q4:Jr) hq_q4=>?_⟩
 have hi_q4:q4.i≤List.length o1.d.plan.shapes:=hq_q4
 have hsh:=hp_o1.shs
 refine dsp (fun h5 p5=>?_) fun h5 p5=>?_
 refine⟨(Bg (l:=o1.d.plan.shapes) (i:=q4.i) (by have:=(hp_o1).shs;omega)),fun x1 hx1=>?_⟩
 have h55:=hp_o1.i55 x1 (List.mem_of_getElem? hx1)
 have hfl:=hp_o1.flds x1 (List.mem_of_getElem? hx1)
 have h44a:=hp_o1.n44 x1 (List.mem_of_getElem? hx1)
 refine⟨hx1,Q2,dsp (fun h6 p6=>?_) fun h6 p6=>?_⟩
 refine⟨(sB ?_),rfl⟩
 rotate_left
 refine⟨Bh (j:=(⟨0⟩:Mk)) Q9 rfl (by dsimp only[Js];omega),fun (q5:Mk) hq_q5=>?_⟩
 have hi_q5:q5.k≤6:=hq_q5
 refine⟨hx1,Q2,dsp (fun h7 p7=>?_) fun h7 p7=>?_⟩
 refine⟨hx1,Q2,(Bg (l:=x1.fields) (i:=q5.k) Q2),fun x2 hx2=>?_⟩
 have h44:=h44a x2 (List.mem_of_getElem? hx2)
 refine⟨hx2,Q2,dsp (fun h8 p8=>?_) fun h8 p8=>?_⟩
 refine⟨(sB ?_),rfl⟩
 rotate_left
 exact⟨(Ac Q2 Q2),Bb (j:=(⟨q5.k+1⟩:Mk)) Q9 rfl (by dsimp only[Js];omega) (by dsimp only[Js];omega)⟩
 exact⟨(Ac Q2 Q2),Bb (j:=(⟨q4.i+1⟩:Jr)) Q9 rfl (by dsimp only[Fo];omega) (by dsimp only[Fo];omega)⟩
 exact⟨(Acg o1.d o1.d (rfl) (by have:=(hp_o1).shs;omega) (fun e he=>by have:=(hp_o1).flds e he;omega) (by have:=(hp_o1).stack;omega)),rfl,rfl⟩
 all_goals first|(rfl)|((simp;done))|((exfalso;exact h55 (by assumption)))|((exfalso;exact h44 (by assumption)))|((exfalso;simp_all;done))|((simp_all;done))|(grind)
end Go.Proofs.YtphecbmdhbphgaaGreat.Ax
namespace Go.Proofs.YtphecbmdhbphgaaGreat.Ax
open Go.ChangeShapes Go.WideShapes Go.ChangeAt Go.RowKit
theorem Ac2:Tryz.prog.cellsOf 5=1:=by kernel_rfl
theorem Ah3 {H:Type} {tok:TypeId×Value→H} {w:World} {sp:Nat→Bool} {held:Bool} (fuel:Nat) (cs:List Value) (x:DataW H×List MemPlace) (hl:cs.length=1) (h:DataW.trod tok Tryz.prog w 0 sp held fuel 5 cs=some x): ∃y:Int,All2 Rep0 (enc .u8 y) cs∧(0≤y∧y≤255):=by
 obtain ⟨i,rfl,_,hw⟩:=DataW.trod_int Tryz.underlying5 h
 exact⟨i,.cons rfl .nil,bounds_u8 hw⟩
end Go.Proofs.YtphecbmdhbphgaaGreat.Ax
