/- Drawn scans, states, events. Drawn decoders. What a read tells. Bent readers. Models: how An2 events a byte tells. Models: how An2 pulls a stream takes. Drawn streams. Decoders that are the same. What is too long to draw from. The law FnPullAgain. Opening what the laws are handed. -/
import Derived.Test.YtphecbmdhbphgaaGreatKFnPullAgain8
import Derived.Test.YtphecbmdhbphgaaGreatKFnPullAgain2
import Derived.Test.YtphecbmdhbphgaaGreatKFnPullAgain5
import Derived.Test.YtphecbmdhbphgaaGreatKFnPullAgain1
import Derived.Test.YtphecbmdhbphgaaGreatKFnPullAgain6
import Derived.Test.YtphecbmdhbphgaaGreatKFnPullAgain7
import Derived.Test.YtphecbmdhbphgaaGreatKB4
set_option linter.unusedSimpArgs false
set_option linter.unusedVariables false
namespace Go.Proofs.YtphecbmdhbphgaaGreat.Ax
open Go.RowKit
theorem Ak4 {e:Ev} (h:e.text.length≤1000) (hb:0≤e.bits∧e.bits≤18446744073709551615):EvB e:=⟨Nat.le_trans h (by decide),hb⟩
theorem EvB.like {e x:Ev} (h:EvB e) (ht:x.text=e.text) (hb:x.bits=e.bits):EvB x:=by unfold EvB;rw[ht,hb];exact h
structure Do where
 e:Ev
 c1:Cur
def U6 (c:Cur) (o:Do):Prop:=Fun Tryz.prog 175 [vP 0] [.cells (B2 c)] (.v (.agg (cEv o.e))) [.cells (B2 o.c1)]
def Qo (c:Cur) (o:Do):Prop:=((EvB o.e)∧(List.length (o.e).text≤4)∧(Au o.c1))∧U6 c o
theorem Afk (c:Cur) (hp1:Au c): ∃o:Do,Qo c o:=by
 have hN:A8=274877906944:=rfl
 refine B4 Tryz.func175 Q4 Q4 (w:=let zi:Int→C:= .int .i64;let z20:List C:=[.str [],zi 0,zi 0];(.intro (Aa c 10) fun o1=>let z15:=Aa o1.c1 12;.seg [.call [0] (.v (vI o1.x)) (Kc o1.c1),.as 7 (.v (vI (1+o1.x)))] (.br (.intro (Aa o1.c1 40) fun o2=> .seg [.call [0] (.v (vI o2.x)) (Kc o2.c1)] (.leaf (⟨(⟨1+o1.x,0,0,o2.x,[],0,0⟩:Ev),o2.c1⟩:Do) [0])) (.br (.intro z15 fun o2=> .seg [.call [0] (.v (vI o2.x)) (Kc o2.c1),.as 20 (.v (vI (1+o2.x)))] (.intro (Ce o2.c1) fun o3=> .seg [.call [0] (.v (.c (.int .u64 o3.x))) (Kc o3.c1)] (.leaf (⟨(⟨1+o1.x,1+o2.x,o3.x,0,[],0,0⟩:Ev),o3.c1⟩:Do) [0]))) (.br (.intro z15 fun o2=> .seg [.br true,.call [0] (.v (vI o2.x)) (Kc o2.c1),.as 30 (.v (vI (1+o2.x)))] (.intro (Aa o2.c1 12) fun o3=> .seg [.call [0] (.v (vI o3.x)) (Kc o3.c1)] (.leaf (⟨(⟨1+o1.x,1+o2.x,0,o3.x,[],0,0⟩:Ev),o3.c1⟩:Do) [0]))) (.br (.intro z15 fun o2=> .seg [.call [0] (.v (vI o2.x)) (Kc o2.c1),.as 30 (.v (vI (1+o2.x)))] (.intro (Aa o2.c1 12) fun o3=> .seg [.call [0] (.v (vI o3.x)) (Kc o3.c1)] (.leaf (⟨(⟨1+o1.x,1+o2.x,0,o3.x,[],0,0⟩:Ev),o3.c1⟩:Do) [0]))) (.br (.seg [.ty .str,.pubS 38] (.intro (H8 o1.c1 [[97],[98,99],[195,169],[255]]) fun o2=> .seg [.call [0] (.v (vT o2.t)) (Kc o2.c1)] (.leaf (⟨(⟨1+o1.x,0,0,0,o2.t,0,0⟩:Ev),o2.c1⟩:Do) [0]))) (.br (.intro (Aa o1.c1 99) fun o2=> .seg [.call [0] (.v (vI o2.x)) (Kc o2.c1)] (.leaf (⟨(⟨1+o1.x,0,0,0,[],0,o2.x⟩:Ev),o2.c1⟩:Do) [0])) (.br (.intro (Aa o1.c1 99) fun o2=> .seg [.call [0] (.v (vI o2.x)) (Kc o2.c1)] (.intro (Aa o2.c1 10) fun o3=> .seg [.call [0] (.v (vI o3.x)) (Kc o3.c1),.as 53 (.v (vI (1+o3.x)))] (.leaf (⟨(⟨1+o1.x,0,0,0,[],1+o3.x,o2.x⟩:Ev),o3.c1⟩:Do) [0]))) (.leaf (⟨(⟨1+o1.x,0,0,0,[],0,0⟩:Ev),o1.c1⟩:Do) [0])))))))),In (Aa c 10) fun o1=>(let z17:=1+o1.x;let z16:S:= .v (.agg (zi z17::zi 0:: .int .u64 0::zi 0::z20));let z18:=Aa o1.c1 12;let z19:=(⟨1+o1.x,0,0,0,[],0,0⟩:Ev);(Ai c 10 o1)∧(wI z17)∧Bc (decide (1+o1.x=1)) (In (Aa o1.c1 40) fun o2=>(let z1:S:= .v (.agg (zi z17::zi 0:: .int .u64 0::zi o2.x::z20));let z2:=(⟨1+o1.x,0,0,o2.x,[],0,0⟩:Ev);(Ai o1.c1 40 o2)∧((EvB z2)∧(List.length (z2).text≤4)∧(Au o2.c1))∧Lf z1 z1 (Kc o2.c1) (Kc o2.c1))) (Bc (decide (1+o1.x=2)) (In z18 fun o2=>((Ai o1.c1 12 o2)∧(wI (1+o2.x))∧In (Ce o2.c1) fun o3=>(let z3:S:= .v (.agg (zi z17::zi (1+o2.x):: .int .u64 o3.x::zi 0::z20));let z4:=(⟨1+o1.x,1+o2.x,o3.x,0,[],0,0⟩:Ev);(Ei o2.c1 o3)∧((EvB z4)∧(List.length (z4).text≤4)∧(Au o3.c1))∧Lf z3 z3 (Kc o3.c1) (Kc o3.c1)))) (Bc (decide (1+o1.x=3)) (In z18 fun o2=>(((decide (1+o1.x=3))=true)∧(Ai o1.c1 12 o2)∧(wI (1+o2.x))∧In (Aa o2.c1 12) fun o3=>(let z5:S:= .v (.agg (zi z17::zi (1+o2.x):: .int .u64 0::zi o3.x::z20));let z6:=(⟨1+o1.x,1+o2.x,0,o3.x,[],0,0⟩:Ev);(Ai o2.c1 12 o3)∧((EvB z6)∧(List.length (z6).text≤4)∧(Au o3.c1))∧Lf z5 z5 (Kc o3.c1) (Kc o3.c1)))) (Bc (decide (1+o1.x=6)) (In z18 fun o2=>((Ai o1.c1 12 o2)∧(wI (1+o2.x))∧In (Aa o2.c1 12) fun o3=>(let z7:S:= .v (.agg (zi z17::zi (1+o2.x):: .int .u64 0::zi o3.x::z20));let z8:=(⟨1+o1.x,1+o2.x,0,o3.x,[],0,0⟩:Ev);(Ai o2.c1 12 o3)∧((EvB z8)∧(List.length (z8).text≤4)∧(Au o3.c1))∧Lf z7 z7 (Kc o3.c1) (Kc o3.c1)))) (Bc (decide (1+o1.x=4)) (In (H8 o1.c1 [[97],[98,99],[195,169],[255]]) fun o2=>(let z9:S:= .v (.agg [zi z17,zi 0,.int .u64 0,zi 0,.str o2.t,zi 0,zi 0]);let z10:=(⟨1+o1.x,0,0,0,o2.t,0,0⟩:Ev);(Rn o1.c1 [[97],[98,99],[195,169],[255]] o2)∧((EvB z10)∧(List.length (z10).text≤4)∧(Au o2.c1))∧Lf z9 z9 (Kc o2.c1) (Kc o2.c1))) (Bc (decide (1+o1.x=9)) (In (Aa o1.c1 99) fun o2=>(let z11:S:= .v (.agg [zi z17,zi 0,.int .u64 0,zi 0,.str [],zi 0,zi o2.x]);let z12:=(⟨1+o1.x,0,0,0,[],0,o2.x⟩:Ev);(Ai o1.c1 99 o2)∧((EvB z12)∧(List.length (z12).text≤4)∧(Au o2.c1))∧Lf z11 z11 (Kc o2.c1) (Kc o2.c1))) (Bc (decide (1+o1.x=10)) (In (Aa o1.c1 99) fun o2=>((Ai o1.c1 99 o2)∧In (Aa o2.c1 10) fun o3=>(let z13:S:= .v (.agg [zi z17,zi 0,.int .u64 0,zi 0,.str [],zi (1+o3.x),zi o2.x]);let z14:=(⟨1+o1.x,0,0,0,[],1+o3.x,o2.x⟩:Ev);(Ai o2.c1 10 o3)∧(wI (1+o3.x))∧((EvB z14)∧(List.length (z14).text≤4)∧(Au o3.c1))∧Lf z13 z13 (Kc o3.c1) (Kc o3.c1)))) (((EvB z19)∧(List.length (z19).text≤4)∧(Au o1.c1))∧Lf z16 z16 (Kc o1.c1) (Kc o1.c1))))))))))) Q4 ?_
 refine⟨(Ao c 10 Q0),fun o1 ho_o1=>?_⟩
 obtain ⟨⟨hp_o1_0,hp_o1_1,hp_o1_2,hp_o1_3⟩,hf_o1⟩:=ho_o1
 refine⟨hf_o1,(Ad Q2 Q2),dsp (fun h1 p1=>?_) fun h1 p1=>?_⟩
 refine⟨(Ao o1.c1 40 Q0),fun o2 ho_o2=>?_⟩
 obtain ⟨⟨hp_o2_0,hp_o2_1,hp_o2_2,hp_o2_3⟩,hf_o2⟩:=ho_o2
 exact⟨hf_o2,⟨Q23,Q34,Q0⟩,rfl,rfl⟩
 refine dsp (fun h2 p2=>?_) fun h2 p2=>?_
 refine⟨(Ao o1.c1 12 Q0),fun o2 ho_o2=>?_⟩
 obtain ⟨⟨hp_o2_0,hp_o2_1,hp_o2_2,hp_o2_3⟩,hf_o2⟩:=ho_o2
 refine⟨hf_o2,(Ad Q2 Q2),(Hk o2.c1 Q0),fun o3 ho_o3=>?_⟩
 obtain ⟨⟨hp_o3_0,hp_o3_1⟩,hf_o3⟩:=ho_o3
 exact⟨hf_o3,⟨Q23,Q34,Q0⟩,rfl,rfl⟩
 refine dsp (fun h3 p3=>?_) fun h3 p3=>?_
 refine⟨(Ao o1.c1 12 Q0),fun o2 ho_o2=>?_⟩
 refine⟨h3,?_⟩
 obtain ⟨⟨hp_o2_0,hp_o2_1,hp_o2_2,hp_o2_3⟩,hf_o2⟩:=ho_o2
 refine⟨hf_o2,(Ad Q2 Q2),(Ao o2.c1 12 Q0),fun o3 ho_o3=>?_⟩
 obtain ⟨⟨hp_o3_0,hp_o3_1,hp_o3_2,hp_o3_3⟩,hf_o3⟩:=ho_o3
 exact⟨hf_o3,⟨Q23,Q34,Q0⟩,rfl,rfl⟩
 refine dsp (fun h4 p4=>?_) fun h4 p4=>?_
 refine⟨(Ao o1.c1 12 Q0),fun o2 ho_o2=>?_⟩
 obtain ⟨⟨hp_o2_0,hp_o2_1,hp_o2_2,hp_o2_3⟩,hf_o2⟩:=ho_o2
 refine⟨hf_o2,(Ad Q2 Q2),(Ao o2.c1 12 Q0),fun o3 ho_o3=>?_⟩
 obtain ⟨⟨hp_o3_0,hp_o3_1,hp_o3_2,hp_o3_3⟩,hf_o3⟩:=ho_o3
 exact⟨hf_o3,⟨Q23,Q34,Q0⟩,rfl,rfl⟩
 refine dsp (fun h5 p5=>?_) fun h5 p5=>?_
 refine⟨(Aac o1.c1 [[97],[98,99],[195,169],[255]] Q0 Q5 Q5),fun o2 ho_o2=>?_⟩
 obtain ⟨⟨hp_o2_0,hp_o2_1⟩,hf_o2⟩:=ho_o2
 exact⟨hf_o2,⟨Q23,Q34,Q0⟩,rfl,rfl⟩
 refine dsp (fun h6 p6=>?_) fun h6 p6=>?_
 refine⟨(Ao o1.c1 99 Q0),fun o2 ho_o2=>?_⟩
 obtain ⟨⟨hp_o2_0,hp_o2_1,hp_o2_2,hp_o2_3⟩,hf_o2⟩:=ho_o2
 exact⟨hf_o2,⟨Q23,Q34,Q0⟩,rfl,rfl⟩
 refine dsp (fun h7 p7=>?_) fun h7 p7=>?_
 refine⟨(Ao o1.c1 99 Q0),fun o2 ho_o2=>?_⟩
 obtain ⟨⟨hp_o2_0,hp_o2_1,hp_o2_2,hp_o2_3⟩,hf_o2⟩:=ho_o2
 refine⟨hf_o2,(Ao o2.c1 10 Q0),fun o3 ho_o3=>?_⟩
 obtain ⟨⟨hp_o3_0,hp_o3_1,hp_o3_2,hp_o3_3⟩,hf_o3⟩:=ho_o3
 exact⟨hf_o3,(Ad Q2 Q2),⟨Q23,Q34,Q0⟩,rfl,rfl⟩
 exact⟨⟨Q23,Q34,Q0⟩,rfl,rfl⟩
structure Eb where
 e:Ev
 c1:Cur
def Sp (c:Cur) (o:Eb):Prop:=Fun Tryz.prog 115 [vP 0] [.cells (B2 c)] (.v (.agg (cEv o.e))) [.cells (B2 o.c1)]
def Le (c:Cur) (o:Eb):Prop:=((EvB o.e)∧(List.length (o.e).text≤4)∧(Au o.c1))∧Sp c o
theorem Abn (c:Cur) (hp1:Au c): ∃o:Eb,Le c o:=by
 have hN:A8=274877906944:=rfl
 refine B4 Tryz.func115 Q4 Q4 (w:=let zi:Int→C:= .int .i64;(.intro (Qo c) fun o1=> .seg [.call [0] (.v (.agg (cEv o1.e))) (Kc o1.c1)] (.intro (Aa o1.c1 14) fun o2=> .seg [.call [0] (.v (vI o2.x)) (Kc o2.c1)] (.br (.intro (Aa o2.c1 13) fun o3=> .seg [.call [0] (.v (vI o3.x)) (Kc o3.c1),.as 12 (.v (vI (o3.x-1)))] (.leaf (⟨(⟨o3.x-1,o1.e.field,o1.e.bits,o1.e.len,o1.e.text,o1.e.code,o1.e.at_⟩:Ev),o3.c1⟩:Eb) [0])) (.br (.intro (Qi o2.c1) fun o3=> .seg [.call [0] (.v (vI o3.x)) (Kc o3.c1)] (.leaf (⟨(⟨o1.e.kind,o3.x,o1.e.bits,o1.e.len,o1.e.text,o1.e.code,o1.e.at_⟩:Ev),o3.c1⟩:Eb) [0])) (.br (.intro (Ca o2.c1) fun o3=> .seg [.call [0] (.v (vI o3.x)) (Kc o3.c1)] (.leaf (⟨(⟨o1.e.kind,o1.e.field,o1.e.bits,o3.x,o1.e.text,o1.e.code,o1.e.at_⟩:Ev),o3.c1⟩:Eb) [0])) (.br (.seg [.ty .str,.pubS 27] (.intro (H8 o2.c1 [[],[120]]) fun o3=> .seg [.call [0] (.v (vT o3.t)) (Kc o3.c1)] (.leaf (⟨(⟨o1.e.kind,o1.e.field,o1.e.bits,o1.e.len,o3.t,o1.e.code,o1.e.at_⟩:Ev),o3.c1⟩:Eb) [0]))) (.br (.seg [.ty .int,.pubS 33] (.intro (A1 o2.c1 [0,(-1),11,20]) fun o3=> .seg [.call [0] (.v (vI o3.x)) (Kc o3.c1)] (.leaf (⟨(⟨o1.e.kind,o1.e.field,o1.e.bits,o1.e.len,o1.e.text,o3.x,o1.e.at_⟩:Ev),o3.c1⟩:Eb) [0]))) (.br (.intro (Ca o2.c1) fun o3=> .seg [.call [0] (.v (vI o3.x)) (Kc o3.c1)] (.leaf (⟨(⟨o1.e.kind,o1.e.field,o1.e.bits,o1.e.len,o1.e.text,o1.e.code,o3.x⟩:Ev),o3.c1⟩:Eb) [0])) (.br (.intro (Ce o2.c1) fun o3=> .seg [.call [0] (.v (.c (.int .u64 o3.x))) (Kc o3.c1)] (.leaf (⟨(⟨o1.e.kind,o1.e.field,o3.x,o1.e.len,o1.e.text,o1.e.code,o1.e.at_⟩:Ev),o3.c1⟩:Eb) [0])) (.leaf (⟨o1.e,o2.c1⟩:Eb) [0]))))))))),In (Qo c) fun o1=>((U6 c o1)∧In (Aa o1.c1 14) fun o2=>((Ai o1.c1 14 o2)∧Bc (decide (o2.x=0)) (In (Aa o2.c1 13) fun o3=>(let z1:S:= .v (.agg [zi (o3.x-1),zi o1.e.field,.int .u64 o1.e.bits,zi o1.e.len,.str o1.e.text,zi o1.e.code,zi o1.e.at_]);let z2:=(⟨o3.x-1,o1.e.field,o1.e.bits,o1.e.len,o1.e.text,o1.e.code,o1.e.at_⟩:Ev);(Ai o2.c1 13 o3)∧(wI (o3.x-1))∧((EvB z2)∧(List.length (z2).text≤4)∧(Au o3.c1))∧Lf z1 z1 (Kc o3.c1) (Kc o3.c1))) (Bc (decide (o2.x=1)) (In (Qi o2.c1) fun o3=>(let z3:S:= .v (.agg [zi o1.e.kind,zi o3.x,.int .u64 o1.e.bits,zi o1.e.len,.str o1.e.text,zi o1.e.code,zi o1.e.at_]);let z4:=(⟨o1.e.kind,o3.x,o1.e.bits,o1.e.len,o1.e.text,o1.e.code,o1.e.at_⟩:Ev);(U1 o2.c1 o3)∧((EvB z4)∧(List.length (z4).text≤4)∧(Au o3.c1))∧Lf z3 z3 (Kc o3.c1) (Kc o3.c1))) (Bc (decide (o2.x=2)) (In (Ca o2.c1) fun o3=>(let z5:S:= .v (.agg [zi o1.e.kind,zi o1.e.field,.int .u64 o1.e.bits,zi o3.x,.str o1.e.text,zi o1.e.code,zi o1.e.at_]);let z6:=(⟨o1.e.kind,o1.e.field,o1.e.bits,o3.x,o1.e.text,o1.e.code,o1.e.at_⟩:Ev);(Ea o2.c1 o3)∧((EvB z6)∧(List.length (z6).text≤4)∧(Au o3.c1))∧Lf z5 z5 (Kc o3.c1) (Kc o3.c1))) (Bc (decide (o2.x=3)) (In (H8 o2.c1 [[],[120]]) fun o3=>(let z7:S:= .v (.agg [zi o1.e.kind,zi o1.e.field,.int .u64 o1.e.bits,zi o1.e.len,.str o3.t,zi o1.e.code,zi o1.e.at_]);let z8:=(⟨o1.e.kind,o1.e.field,o1.e.bits,o1.e.len,o3.t,o1.e.code,o1.e.at_⟩:Ev);(Rn o2.c1 [[],[120]] o3)∧((EvB z8)∧(List.length (z8).text≤4)∧(Au o3.c1))∧Lf z7 z7 (Kc o3.c1) (Kc o3.c1))) (Bc (decide (o2.x=4)) (In (A1 o2.c1 [0,(-1),11,20]) fun o3=>(let z9:S:= .v (.agg [zi o1.e.kind,zi o1.e.field,.int .u64 o1.e.bits,zi o1.e.len,.str o1.e.text,zi o3.x,zi o1.e.at_]);let z10:=(⟨o1.e.kind,o1.e.field,o1.e.bits,o1.e.len,o1.e.text,o3.x,o1.e.at_⟩:Ev);(B5 o2.c1 [0,(-1),11,20] o3)∧((EvB z10)∧(List.length (z10).text≤4)∧(Au o3.c1))∧Lf z9 z9 (Kc o3.c1) (Kc o3.c1))) (Bc (decide (o2.x=5)) (In (Ca o2.c1) fun o3=>(let z11:S:= .v (.agg [zi o1.e.kind,zi o1.e.field,.int .u64 o1.e.bits,zi o1.e.len,.str o1.e.text,zi o1.e.code,zi o3.x]);let z12:=(⟨o1.e.kind,o1.e.field,o1.e.bits,o1.e.len,o1.e.text,o1.e.code,o3.x⟩:Ev);(Ea o2.c1 o3)∧((EvB z12)∧(List.length (z12).text≤4)∧(Au o3.c1))∧Lf z11 z11 (Kc o3.c1) (Kc o3.c1))) (Bc (decide (o2.x=6)) (In (Ce o2.c1) fun o3=>(let z13:S:= .v (.agg [zi o1.e.kind,zi o1.e.field,.int .u64 o3.x,zi o1.e.len,.str o1.e.text,zi o1.e.code,zi o1.e.at_]);let z14:=(⟨o1.e.kind,o1.e.field,o3.x,o1.e.len,o1.e.text,o1.e.code,o1.e.at_⟩:Ev);(Ei o2.c1 o3)∧((EvB z14)∧(List.length (z14).text≤4)∧(Au o3.c1))∧Lf z13 z13 (Kc o3.c1) (Kc o3.c1))) (((EvB o1.e)∧(List.length (o1.e).text≤4)∧(Au o2.c1))∧Lf (.v (.agg (cEv o1.e))) (.v (.agg (cEv o1.e))) (Kc o2.c1) (Kc o2.c1)))))))))))) Q4 ?_
 refine⟨(Afk c Q0),fun o1 ho_o1=>?_⟩
 obtain ⟨⟨hp_o1_0,hp_o1_1,hp_o1_2⟩,hf_o1⟩:=ho_o1
 refine⟨hf_o1,(Ao o1.c1 14 Q0),fun o2 ho_o2=>?_⟩
 obtain ⟨⟨hp_o2_0,hp_o2_1,hp_o2_2,hp_o2_3⟩,hf_o2⟩:=ho_o2
 refine⟨hf_o2,dsp (fun h1 p1=>?_) fun h1 p1=>?_⟩
 refine⟨(Ao o2.c1 13 Q0),fun o3 ho_o3=>?_⟩
 obtain ⟨⟨hp_o3_0,hp_o3_1,hp_o3_2,hp_o3_3⟩,hf_o3⟩:=ho_o3
 exact⟨hf_o3,(Ad Q2 Q2),⟨Q20,Q37,Q0⟩,rfl,rfl⟩
 refine dsp (fun h2 p2=>?_) fun h2 p2=>?_
 refine⟨(Aff o2.c1 Q0),fun o3 ho_o3=>?_⟩
 obtain ⟨hp_o3,hf_o3⟩:=ho_o3
 exact⟨hf_o3,⟨Q20,Q37,Q0⟩,rfl,rfl⟩
 refine dsp (fun h3 p3=>?_) fun h3 p3=>?_
 refine⟨(Gf o2.c1 Q0),fun o3 ho_o3=>?_⟩
 obtain ⟨hp_o3,hf_o3⟩:=ho_o3
 exact⟨hf_o3,⟨Q20,Q37,Q0⟩,rfl,rfl⟩
 refine dsp (fun h4 p4=>?_) fun h4 p4=>?_
 refine⟨(Aac o2.c1 [[],[120]] Q0 Q5 Q5),fun o3 ho_o3=>?_⟩
 obtain ⟨⟨hp_o3_0,hp_o3_1⟩,hf_o3⟩:=ho_o3
 exact⟨hf_o3,⟨Q20,Q37,Q0⟩,rfl,rfl⟩
 refine dsp (fun h5 p5=>?_) fun h5 p5=>?_
 refine⟨(Cn o2.c1 [0,(-1),11,20] Q0 Q5 Q5),fun o3 ho_o3=>?_⟩
 obtain ⟨⟨hp_o3_0,hp_o3_1⟩,hf_o3⟩:=ho_o3
 exact⟨hf_o3,⟨Q20,Q37,Q0⟩,rfl,rfl⟩
 refine dsp (fun h6 p6=>?_) fun h6 p6=>?_
 refine⟨(Gf o2.c1 Q0),fun o3 ho_o3=>?_⟩
 obtain ⟨hp_o3,hf_o3⟩:=ho_o3
 exact⟨hf_o3,⟨Q20,Q37,Q0⟩,rfl,rfl⟩
 refine dsp (fun h7 p7=>?_) fun h7 p7=>?_
 refine⟨(Hk o2.c1 Q0),fun o3 ho_o3=>?_⟩
 obtain ⟨⟨hp_o3_0,hp_o3_1⟩,hf_o3⟩:=ho_o3
 exact⟨hf_o3,⟨Q20,Q37,Q0⟩,rfl,rfl⟩
 exact⟨⟨Q20,Q37,Q0⟩,rfl,rfl⟩
structure Kt where
 s:Scn
 c1:Cur
def Y5 (c:Cur) (o:Kt):Prop:=Fun Tryz.prog 113 [vP 0] [.cells (B2 c)] (.v (.agg (Lg o.s))) [.cells (B2 o.c1)]
def Ui (c:Cur) (o:Kt):Prop:=(((0:Int)≤(o.s).bits∧(o.s).bits≤18446744073709551615)∧(Au o.c1))∧Y5 c o
structure Pn where
 c:Cur
 s:Scn
 i:Nat
def Gv (o1:Cm):Fam:=⟨Pn,fun q1=>[(0,.v (vP 0)),(2,.v (vP 1)),(3,.v (vP 2)),(4,.v (vI o1.x)),(5,.v (vI ((q1.i:Nat):Int)))],fun q1=>[.cells (B2 q1.c),.cells [.int .u64 0,.int .i64 0],.cells (Lg q1.s)],fun q1=>Au q1.c∧q1.i≤9∧((0:Int)≤(q1.s).bits∧(q1.s).bits≤18446744073709551615),fun q1=>10-q1.i⟩
theorem Aj8 (c:Cur) (hp1:Au c): ∃o:Kt,Ui c o:=by
 have hN:A8=274877906944:=rfl
 refine B4 Tryz.func113 Q4 Q4 (w:=let z5:= -9223372036854775808;(.intro (Aa c 10) fun o1=> .seg [.call [0] (.v (vI o1.x)) (Kc o1.c1),.at 0,.keep [0,2,3,4,5],.sel [0,1,2]] (.loop (Gv o1) fun q1=> .br (.intro (Aa q1.c 128) fun o2=> .seg [.ord (os 9 [2,4,8]) [0],.call [0] (.v (vI o2.x)) (Kc o2.c1),.as 18 (.v (vI (128+o2.x))),.call [] (.tup [.agg (Lg (Ah q1.s (128+o2.x)).1),vI (Ah q1.s (128+o2.x)).2]) [],.as 13 (.v (vI (((q1.i:Nat):Int)+1))),.at 0,.keep [0,2,3,4,5],.sel [0,1,2]] (.next)) (.intro (Aa q1.c 10) fun o2=> .seg [.call [0] (.v (vI o2.x)) (Kc o2.c1)] (.br (.seg [.ty .int,.pubS 27] (.intro (A1 o2.c1 [(-1),0,9,10,11,9223372036854775807,z5]) fun o3=> .seg [.call [0] (.v (vI o3.x)) (Kc o3.c1)] (.leaf (⟨(⟨q1.s.bits,o3.x⟩:Scn),o3.c1⟩:Kt) [0]))) (.br (.intro (Ce o2.c1) fun o3=> .seg [.call [0] (.v (.c (.int .u64 o3.x))) (Kc o3.c1)] (.leaf (⟨(⟨o3.x,q1.s.have_⟩:Scn),o3.c1⟩:Kt) [0])) (.leaf (⟨q1.s,o2.c1⟩:Kt) [0]))))),In (Aa c 10) fun o1=>((Ai c 10 o1)∧(Gv o1).Has [(0,.v (vP 0)),(2,.v (vP 1)),(3,.v (vP 2)),(4,.v (vI o1.x)),(5,.v (vI 0))] [.cells (B2 o1.c1),.cells [.int .u64 0,.int .i64 0],.cells [.int .u64 0,.int .i64 0]]∧∀q1,(Gv o1).inv q1→(let z4:=((q1.i:Nat):Int);Bc (decide (z4<o1.x)) (In (Aa q1.c 128) fun o2=>(let z1:=Ah q1.s (128+o2.x);(Ai q1.c 128 o2)∧(wI (128+o2.x))∧(Fp 136 [.agg (Lg q1.s),vI (128+o2.x)] [] (.tup [.agg (Lg z1.1),vI z1.2]) [])∧(wI (z4+1))∧(Gv o1).Nxt q1 [(0,.v (vP 0)),(2,.v (vP 1)),(3,.v (vP 2)),(4,.v (vI o1.x)),(5,.v (vI (z4+1)))] [.cells (B2 o2.c1),.cells [.int .u64 0,.int .i64 0],.cells (Lg z1.1)])) (In (Aa q1.c 10) fun o2=>((Ai q1.c 10 o2)∧Bc (decide (o2.x=0)) (In (A1 o2.c1 [(-1),0,9,10,11,9223372036854775807,z5]) fun o3=>(let z2:S:= .v (.agg [.int .u64 q1.s.bits,.int .i64 o3.x]);(B5 o2.c1 [(-1),0,9,10,11,9223372036854775807,z5] o3)∧(((0:Int)≤((⟨q1.s.bits,o3.x⟩:Scn)).bits∧((⟨q1.s.bits,o3.x⟩:Scn)).bits≤18446744073709551615)∧(Au o3.c1))∧Lf z2 z2 (Kc o3.c1) (Kc o3.c1))) (Bc (decide (o2.x=1)) (In (Ce o2.c1) fun o3=>(let z3:S:= .v (.agg [.int .u64 o3.x,.int .i64 q1.s.have_]);(Ei o2.c1 o3)∧(((0:Int)≤((⟨o3.x,q1.s.have_⟩:Scn)).bits∧((⟨o3.x,q1.s.have_⟩:Scn)).bits≤18446744073709551615)∧(Au o3.c1))∧Lf z3 z3 (Kc o3.c1) (Kc o3.c1))) ((((0:Int)≤(q1.s).bits∧(q1.s).bits≤18446744073709551615)∧(Au o2.c1))∧Lf (.v (.agg (Lg q1.s))) (.v (.agg (Lg q1.s))) (Kc o2.c1) (Kc o2.c1))))))))) Q4 ?_
 refine⟨(Ao c 10 Q0),fun o1 ho_o1=>?_⟩
 obtain ⟨⟨hp_o1_0,hp_o1_1,hp_o1_2,hp_o1_3⟩,hf_o1⟩:=ho_o1
 refine⟨hf_o1,Bj (j:=(⟨o1.c1,(⟨0,0⟩:Scn),0⟩:Pn)) Q9 Q9 (by dsimp only[Gv];exact⟨by assumption,by omega,by decide⟩),fun (q1:Pn) hq_q1=>?_⟩
 have hi_q1:Au q1.c∧q1.i≤9∧((0:Int)≤(q1.s).bits∧(q1.s).bits≤18446744073709551615):=hq_q1
 obtain ⟨v1,v2,v3⟩:=hi_q1
 refine dsp (fun h1 p1=>?_) fun h1 p1=>?_
 refine⟨(Ao q1.c 128 Q0),fun o2 ho_o2=>?_⟩
 obtain ⟨⟨hp_o2_0,hp_o2_1,hp_o2_2,hp_o2_3⟩,hf_o2⟩:=ho_o2
 exact⟨hf_o2,(Ad Q2 Q2),(Kr q1.s _ Q2),(Ad Q2 Q2),A5 (j:=(⟨o2.c1,(Ah q1.s (128+o2.x)).1,q1.i+1⟩:Pn)) Q9 rfl (by dsimp only[Gv];exact⟨by assumption,by omega,Qx v3.1 v3.2⟩) (by dsimp only[Gv];omega)⟩
 refine⟨(Ao q1.c 10 Q0),fun o2 ho_o2=>?_⟩
 obtain ⟨⟨hp_o2_0,hp_o2_1,hp_o2_2,hp_o2_3⟩,hf_o2⟩:=ho_o2
 refine⟨hf_o2,dsp (fun h2 p2=>?_) fun h2 p2=>?_⟩
 refine⟨(Cn o2.c1 [(-1),0,9,10,11,9223372036854775807,(-9223372036854775808)] Q0 Q5 Q5),fun o3 ho_o3=>?_⟩
 obtain ⟨⟨hp_o3_0,hp_o3_1⟩,hf_o3⟩:=ho_o3
 exact⟨hf_o3,⟨Q2,Q0⟩,rfl,rfl⟩
 refine dsp (fun h3 p3=>?_) fun h3 p3=>?_
 refine⟨(Hk o2.c1 Q0),fun o3 ho_o3=>?_⟩
 obtain ⟨⟨hp_o3_0,hp_o3_1⟩,hf_o3⟩:=ho_o3
 exact⟨hf_o3,⟨Q2,Q0⟩,rfl,rfl⟩
 exact⟨⟨Q2,Q0⟩,rfl,rfl⟩
structure Anq where
 x:Int
 c1:Cur
theorem Afm (s:List UInt8) (hp1:List.length s≤A8):Fun Tryz.prog 173 [vT s] [] (.v (.agg (K3 (T4 utf0 s)))) []:=by
 have hN:A8=274877906944:=rfl
 refine Aq Tryz.func173 Q4 Q4 (w:=let z2:=K3 (T4 (⟨0,0,0⟩:Utf) s);let z1:S:= .tup [.agg z2,vI (Aa0 (⟨0,0,0⟩:Utf) s)];(.seg [.call [] z1 []] (.leaf () []),(Fp 212 [.agg [.int .i64 0,.int .i64 0,.int .i64 0],vT s] [] z1 [])∧Lf (.v (.agg z2)) (.v (.agg (K3 (T4 utf0 s)))) [] [])) Q4 ?_
 refine⟨(Ahn (⟨0,0,0⟩:Utf) _ Q2),?_⟩
 have hm1:T4 utf0 s=(T4 (⟨0,0,0⟩:Utf) s):=by rfl
 exact⟨Q6,rfl⟩
structure Gw where
 u:Utf
 c1:Cur
def Xo (c:Cur) (o:Gw):Prop:=Fun Tryz.prog 114 [vP 0] [.cells (B2 c)] (.v (.agg (K3 o.u))) [.cells (B2 o.c1)]
def Sq (c:Cur) (o:Gw):Prop:=((Au o.c1))∧Xo c o
theorem Aig (c:Cur) (hp1:Au c): ∃o:Gw,Sq c o:=by
 have hN:A8=274877906944:=rfl
 refine B4 Tryz.func114 Q4 Q4 (w:=let zi:Int→C:= .int .i64;(.intro (M3 c) fun o1=>let z4:=T4 utf0 o1.t;.seg [.call [0] (.v (vT o1.t)) (Kc o1.c1),.call [] (.v (.agg (K3 z4))) []] (.intro (Aa o1.c1 12) fun o2=> .seg [.call [0] (.v (vI o2.x)) (Kc o2.c1)] (.br (.intro (Aa o2.c1 6) fun o3=> .seg [.call [0] (.v (vI o3.x)) (Kc o3.c1),.as 13 (.v (vI (o3.x-1)))] (.leaf (⟨(⟨o3.x-1,z4.low,z4.high⟩:Utf),o3.c1⟩:Gw) [0])) (.br (.seg [.ty .int,.pubS 18] (.intro (A1 o2.c1 [0,128,144,160,(-1)]) fun o3=> .seg [.call [0] (.v (vI o3.x)) (Kc o3.c1)] (.leaf (⟨(⟨z4.want,o3.x,z4.high⟩:Utf),o3.c1⟩:Gw) [0]))) (.br (.seg [.ty .int,.pubS 24] (.intro (A1 o2.c1 [0,143,159,191,255]) fun o3=> .seg [.call [0] (.v (vI o3.x)) (Kc o3.c1)] (.leaf (⟨(⟨z4.want,z4.low,o3.x⟩:Utf),o3.c1⟩:Gw) [0]))) (.leaf (⟨z4,o2.c1⟩:Gw) [0]))))),In (M3 c) fun o1=>(let z5:=T4 utf0 o1.t;(Uh c o1)∧(Fp 173 [vT o1.t] [] (.v (.agg (K3 z5))) [])∧In (Aa o1.c1 12) fun o2=>((Ai o1.c1 12 o2)∧Bc (decide (o2.x=0)) (In (Aa o2.c1 6) fun o3=>(let z1:S:= .v (.agg [zi (o3.x-1),zi z5.low,zi z5.high]);(Ai o2.c1 6 o3)∧(wI (o3.x-1))∧((Au o3.c1))∧Lf z1 z1 (Kc o3.c1) (Kc o3.c1))) (Bc (decide (o2.x=1)) (In (A1 o2.c1 [0,128,144,160,(-1)]) fun o3=>(let z2:S:= .v (.agg [zi z5.want,zi o3.x,zi z5.high]);(B5 o2.c1 [0,128,144,160,(-1)] o3)∧((Au o3.c1))∧Lf z2 z2 (Kc o3.c1) (Kc o3.c1))) (Bc (decide (o2.x=2)) (In (A1 o2.c1 [0,143,159,191,255]) fun o3=>(let z3:S:= .v (.agg [zi z5.want,zi z5.low,zi o3.x]);(B5 o2.c1 [0,143,159,191,255] o3)∧((Au o3.c1))∧Lf z3 z3 (Kc o3.c1) (Kc o3.c1))) (((Au o2.c1))∧Lf (.v (.agg (K3 z5))) (.v (.agg (K3 z5))) (Kc o2.c1) (Kc o2.c1)))))))) Q4 ?_
 refine⟨(Ad8 c Q0),fun o1 ho_o1=>?_⟩
 obtain ⟨⟨hp_o1_0,hp_o1_1⟩,hf_o1⟩:=ho_o1
 refine⟨hf_o1,(Afm _ Q2),(Ao o1.c1 12 Q0),fun o2 ho_o2=>?_⟩
 obtain ⟨⟨hp_o2_0,hp_o2_1,hp_o2_2,hp_o2_3⟩,hf_o2⟩:=ho_o2
 refine⟨hf_o2,dsp (fun h1 p1=>?_) fun h1 p1=>?_⟩
 refine⟨(Ao o2.c1 6 Q0),fun o3 ho_o3=>?_⟩
 obtain ⟨⟨hp_o3_0,hp_o3_1,hp_o3_2,hp_o3_3⟩,hf_o3⟩:=ho_o3
 exact⟨hf_o3,(Ad Q2 Q2),Q0,rfl,rfl⟩
 refine dsp (fun h2 p2=>?_) fun h2 p2=>?_
 refine⟨(Cn o2.c1 [0,128,144,160,(-1)] Q0 Q5 Q5),fun o3 ho_o3=>?_⟩
 obtain ⟨⟨hp_o3_0,hp_o3_1⟩,hf_o3⟩:=ho_o3
 exact⟨hf_o3,Q0,rfl,rfl⟩
 refine dsp (fun h3 p3=>?_) fun h3 p3=>?_
 refine⟨(Cn o2.c1 [0,143,159,191,255] Q0 Q5 Q5),fun o3 ho_o3=>?_⟩
 obtain ⟨⟨hp_o3_0,hp_o3_1⟩,hf_o3⟩:=ho_o3
 exact⟨hf_o3,Q0,rfl,rfl⟩
 exact⟨Q0,rfl,rfl⟩
structure DecB (d:Dcd):Prop where
 pln:d.plan.shapes=[]∨PlnG ⟨d.plan.shapes,d.plan.root,1,d.plan.most⟩
 deep:d.plan.deep≤4
 stack:d.stack.length≤300000
 bits:0≤d.scan.bits∧d.scan.bits≤18446744073709551615
theorem DecB.shs {d:Dcd} (h:DecB d):d.plan.shapes.length≤3:=by
 rcases h.pln with h|h
 ·rw[h];simp
 ·exact h.sch.1.2
theorem DecB.flds {d:Dcd} (h:DecB d): ∀e∈d.plan.shapes,e.fields.length≤5:=fun e he=>by
 rcases h.pln with h|h
 ·rw[h] at he;cases he
 ·have:=(h.sch.2 e he).1;omega
theorem DecB.good {d:Dcd} (h:DecB d) (hp:Dh d.plan=true):PlnG d.plan:=by
 have ht:=Cj hp
 rcases h.pln with h2|h2
 ·rw[h2] at ht;simp at ht;omega
 ·exact⟨h2.sch,h2.root,by have:=h.deep;omega,h2.most⟩
theorem DecB.like {d x:Dcd} (h:DecB d) (h1:x.plan=d.plan) (h2:x.stack.length≤300000) (h3:0≤x.scan.bits∧x.scan.bits≤18446744073709551615):DecB x:=
 ⟨by rw[h1];exact h.pln,by rw[h1];exact h.deep,h2,h3⟩
theorem Vz {p:Pln} (h:PlnG p):DecB (Fc p):=by
 have hd:=h.deep
 unfold Fc;split
 ·exact⟨.inr ⟨h.sch,h.root,by show (1:Int)≤1∧(1:Int)≤4;decide,h.most⟩,hd.2,by simp,by show (0:Int)≤0∧(0:Int)≤18446744073709551615;decide⟩
 ·exact⟨.inl rfl,by show (0:Int)≤4;decide,by simp,by show (0:Int)≤0∧(0:Int)≤18446744073709551615;decide⟩
theorem Acx {d:Dcd} {b:Int} (h:DecB d):DecB (Cp d b).d:=by
 have hl:=Qd (d:=d) (b:=b)
 have hs:=h.stack
 exact h.like hl.1 Q2 (hl.2.2.2 h.bits)
structure Ju where
 d:Dcd
 c1:Cur
def U7 (c:Cur) (o:Ju):Prop:=Fun Tryz.prog 112 [vP 0] [.cells (B2 c)] (.v (.agg (Ae 1 2 o.d))) [.cells (B2 o.c1),.tree o.d.plan.shapes,.lst .lev o.d.stack]
def Qp (c:Cur) (o:Ju):Prop:=((DecB o.d)∧(List.length (o.d).stack≤8)∧(Au o.c1))∧U7 c o
structure Hp where
 c:Cur
 d:Dcd
 i:Nat
def F8 (o2:G3) (o3:Cm):Fam:=⟨Hp,fun q1=>[(0,.v (vP 0)),(2,.v (vP 1)),(4,.v (vP 2)),(6,.v (vT o2.t)),(7,.v (vI o3.x)),(8,.v (vI ((q1.i:Nat):Int)))],fun q1=>[.cells (B2 q1.c),.cells [.nil,.int .i64 0,.int .i64 0,.int .i64 0,.int .i64 0,.nil,.int .u64 0,.int .i64 0,.int .i64 0,.int .i64 0,.int .i64 0,.int .i64 0,.bool false,.bool false,.int .i64 0,.int .i64 0,.int .i64 0,.int .i64 0,.int .i64 0,.int .i64 0,.int .i64 0,.int .i64 0,.int .u64 0,.int .i64 0,.str [],.int .i64 0,.int .i64 0],.cells (Ae 3 4 q1.d),.tree q1.d.plan.shapes,.lst .lev q1.d.stack],fun q1=>Au q1.c∧DecB q1.d∧q1.i≤List.length o2.t∧List.length (q1.d).stack≤8,fun q1=>List.length o2.t+1-q1.i⟩
theorem Afn (c:Cur) (hp1:Au c): ∃o:Ju,Qp c o:=by
 have hN:A8=274877906944:=rfl
 refine B4 Tryz.func112 Q4 Q4 (w:=let zi:Int→C:= .int .i64;let z13:List C:=[.nil,zi 0,zi 0,zi 0,zi 0,.nil,.int .u64 0,zi 0,zi 0,zi 0,zi 0,zi 0,.bool false,.bool false,zi 0,zi 0,zi 0,zi 0,zi 0,zi 0,zi 0,zi 0,.int .u64 0,zi 0,.str [],zi 0,zi 0];(.intro (La c) fun o1=> .seg [.call [0] (.v (.agg (Mg o1.p))) (Kc o1.c1),.call [] (.tup [.agg (Ae 0 1 (Fc o1.p)),vB (Dh o1.p)]) (L2 (Fc o1.p))] (.intro (Jt o1.c1 o1.p) fun o2=>let z10:=((List.length o2.t:Nat):Int)+1;.seg [.call [0] (.v (vT o2.t)) (Kc o2.c1),.as 24 (.v (vI z10))] (.intro (Aa o2.c1 z10) fun o3=> .seg [.call [0] (.v (vI o3.x)) (Kc o3.c1),.at 0,.keep [0,2,4,6,7,8],.sel [0,1,5,3,4]] (.loop (F8 o2 o3) fun q1=>let z5:S:= .v (vI (((q1.i:Nat):Int)+1));.br (.intro (Sx (o2.t[q1.i]?)) fun x1=>let z2:=Cp q1.d ((UInt8.toNat x1:Nat):Int);.seg [.tree (fr (.two 5 (fr (.one 9 (.one 10 (.first 11 (.done)))) 6 3) 9 (.one 5 (fr (.one 10 (.first 11 (.done))) 6 3))) 0 5) 12 [],.ch x1,.as 36 (.v (vI ((UInt8.toNat x1:Nat):Int))),.call [] (.tup [.agg (Ae 0 1 z2.d),vO 2]) (Ls z2.d z2.out),.at 0,.keep [0,2,4,6,7,8,9],.sel [0,1,2,3,4,8,5,6],.call [] (.tup [.agg (Ae 0 1 z2.d),vO 2]) (Ls z2.d z2.out),.at 0,.keep [0,2,4,6,7,8,9],.sel [0,1,2,3,4,5,6,7]] (.br (.intro (Ap q1.c 4) fun o4=> .seg [.call [0] (.v (vB o4.p)) (Kc o4.c1)] (.br (.leaf (⟨q1.d,o4.c1⟩:Ju) [0,3,4]) (.seg [.as 30 z5,.at 0,.keep [0,2,4,6,7,8],.sel [0,1,2,6,7]] (.next)))) (.seg [.as 30 z5,.at 0,.keep [0,2,4,6,7,8],.sel [0,1,2,6,7]] (.next)))) (.leaf (⟨q1.d,q1.c⟩:Ju) [0,3,4])))),In (La c) fun o1=>(let z12:=Fc o1.p;(Sn c o1)∧(Fp 40 [.agg (Mg o1.p)] [] (.tup [.agg (Ae 0 1 z12),vB (Dh o1.p)]) (L2 z12))∧In (Jt o1.c1 o1.p) fun o2=>(let z11:=((List.length o2.t:Nat):Int)+1;(Mb o1.c1 o1.p o2)∧(wI z11)∧In (Aa o2.c1 z11) fun o3=>(let z9:=F8 o2 o3;(Ai o2.c1 z11 o3)∧z9.Has [(0,.v (vP 0)),(2,.v (vP 1)),(4,.v (vP 2)),(6,.v (vT o2.t)),(7,.v (vI o3.x)),(8,.v (vI 0))] [.cells (B2 o3.c1),.cells z13,.cells (Ae 3 4 z12),.tree z12.plan.shapes,.lst .lev z12.stack]∧∀q1,z9.inv q1→(let z6:=((q1.i:Nat):Int);let z7:S:= .v (.agg (Ae 1 2 q1.d));let z8:List Blk:=[.cells (B2 q1.c),.tree q1.d.plan.shapes,.lst .lev q1.d.stack];Bc (decide (z6<o3.x)) (El (o2.t[q1.i]?) fun x1=>(let z4:=((UInt8.toNat x1:Nat):Int);let z3:=Cp q1.d z4;(o2.t[q1.i]? =some x1)∧((0:Int)≤z6)∧(o2.t[q1.i]? =some x1)∧((0:Int)≤z6)∧(wI (z4))∧(wI (z4))∧(Fp 24 [.agg (Bs q1.d),vI z4] [] (.tup [.agg (Ae 0 1 z3.d),vO 2]) (Ls z3.d z3.out))∧(Fp 24 [.agg (Bs q1.d),vI z4] [] (.tup [.agg (Ae 0 1 z3.d),vO 2]) (Ls z3.d z3.out))∧(([.cells (B2 q1.c),.cells z13,.cells (Ae 3 4 q1.d),.tree q1.d.plan.shapes,.lst .lev q1.d.stack,.cells (Ae 6 7 z3.d),.tree z3.d.plan.shapes,.lst .lev z3.d.stack]:List Blk)=[.cells (B2 q1.c),.cells z13,.cells (Ae 3 4 q1.d),.tree q1.d.plan.shapes,.lst .lev q1.d.stack,.cells (Ae 6 7 z3.d),.tree z3.d.plan.shapes,.lst .lev z3.d.stack])∧(([(0,.v (vP 0)),(2,.v (vP 1)),(4,.v (vP 2)),(6,.v (vT o2.t)),(7,.v (vI o3.x)),(8,.v (vI z6)),(9,.v (vP 5))]:List (Nat×S))=[(0,.v (vP 0)),(2,.v (vP 1)),(4,.v (vP 2)),(6,.v (vT o2.t)),(7,.v (vI o3.x)),(8,.v (vI z6)),(9,.v (vP 5))])∧Bc (decide (z3.d.mode=9)) (In (Ap q1.c 4) fun o4=>(let z1:List Blk:=[.cells (B2 o4.c1),.tree q1.d.plan.shapes,.lst .lev q1.d.stack];(Ba q1.c 4 o4)∧Bc (!o4.p) (((DecB q1.d)∧(List.length (q1.d).stack≤8)∧(Au o4.c1))∧Lf z7 z7 z1 z1) ((wI (z6+1))∧z9.Nxt q1 [(0,.v (vP 0)),(2,.v (vP 1)),(4,.v (vP 2)),(6,.v (vT o2.t)),(7,.v (vI o3.x)),(8,.v (vI (z6+1)))] [.cells (B2 o4.c1),.cells z13,.cells (Ae 3 4 z3.d),.tree z3.d.plan.shapes,.lst .lev z3.d.stack]))) ((wI (z6+1))∧z9.Nxt q1 [(0,.v (vP 0)),(2,.v (vP 1)),(4,.v (vP 2)),(6,.v (vT o2.t)),(7,.v (vI o3.x)),(8,.v (vI (z6+1)))] [.cells (B2 q1.c),.cells z13,.cells (Ae 3 4 z3.d),.tree z3.d.plan.shapes,.lst .lev z3.d.stack]))) (((DecB q1.d)∧(List.length (q1.d).stack≤8)∧(Au q1.c))∧Lf z7 z7 z8 z8))))))) Q4 ?_
 refine⟨(Abk c Q0),fun o1 ho_o1=>?_⟩
 obtain ⟨⟨hp_o1_0,hp_o1_1⟩,hf_o1⟩:=ho_o1
 refine⟨hf_o1,(Adz o1.p Q85),(Y4 o1.c1 o1.p Q0 Q2),fun o2 ho_o2=>?_⟩
 obtain ⟨⟨hp_o2_0,hp_o2_1⟩,hf_o2⟩:=ho_o2
 refine⟨hf_o2,(Ad Q2 Q2),(Ao o2.c1 (((List.length o2.t:Nat):Int)+1) Q0),fun o3 ho_o3=>?_⟩
 obtain ⟨⟨hp_o3_0,hp_o3_1,hp_o3_2,hp_o3_3⟩,hf_o3⟩:=ho_o3
 refine⟨hf_o3,Bj (j:=(⟨o3.c1,(Fc o1.p),0⟩:Hp)) Q9 rfl (by dsimp only[F8];exact⟨by assumption,Vz (by assumption),by omega,Z6.2.2.1⟩),fun (q1:Hp) hq_q1=>?_⟩
 have hi_q1:Au q1.c∧DecB q1.d∧q1.i≤List.length o2.t∧List.length (q1.d).stack≤8:=hq_q1
 obtain ⟨v1,v2,v3,v4⟩:=hi_q1
 refine dsp (fun h1 p1=>?_) fun h1 p1=>?_
 refine⟨(Bm (l:=o2.t) (i:=q1.i) Q2),fun x1 hx1=>?_⟩
 have hb_x1:=UInt8.toNat_lt x1
 refine⟨hx1,Q2,hx1,Q2,(Ad Q2 Q2),(Ad Q2 Q2),(Z4 q1.d _ (by have:=v2.shs;omega) (fun e he=>by have:=v2.flds e he;omega) (by have:=v2.stack;omega) (v2.bits)),(Z4 q1.d _ (by have:=v2.shs;omega) (fun e he=>by have:=v2.flds e he;omega) (by have:=v2.stack;omega) (v2.bits)),rfl,rfl,dsp (fun h2 p2=>?_) fun h2 p2=>?_⟩
 refine⟨(B1 q1.c 4 Q0),fun o4 ho_o4=>?_⟩
 obtain ⟨hp_o4,hf_o4⟩:=ho_o4
 refine⟨hf_o4,fun h3=>have q3:=An h3;?_,fun h3=>have q3:=Am h3;?_⟩
 exact⟨⟨(by first|assumption|exact Vz (by assumption)|exact Acx (by assumption)),(by first|exact v4|exact Z6.2.2.1|omega),Q0⟩,rfl,rfl⟩
 exact⟨(Ad Q2 Q2),A5 (j:=(⟨o4.c1,(Cp q1.d ((UInt8.toNat x1:Nat):Int)).d,q1.i+1⟩:Hp)) Q9 rfl Q77 (by dsimp only[F8];omega)⟩
 exact⟨(Ad Q2 Q2),A5 (j:=(⟨q1.c,(Cp q1.d ((UInt8.toNat x1:Nat):Int)).d,q1.i+1⟩:Hp)) Q9 rfl Q77 (by dsimp only[F8];omega)⟩
 exact⟨⟨(by first|assumption|exact Vz (by assumption)|exact Acx (by assumption)),(by first|exact v4|exact Z6.2.2.1|omega),Q0⟩,rfl,rfl⟩
structure C4 where
 d:Dcd
 c1:Cur
def Xp (c:Cur) (o:C4):Prop:=Fun Tryz.prog 54 [vP 0] [.cells (B2 c)] (.v (.agg (Ae 1 2 o.d))) [.cells (B2 o.c1),.tree o.d.plan.shapes,.lst .lev o.d.stack]
def Sr (c:Cur) (o:C4):Prop:=((DecB o.d)∧(Au o.c1))∧Xp c o
theorem Aih (c:Cur) (hp1:Au c): ∃o:C4,Sr c o:=by
 have hN:A8=274877906944:=rfl
 refine B4 Tryz.func54 Q4 Q4 (w:=let zi:Int→C:= .int .i64;(.intro (Qp c) fun o1=> .seg [.call [0] (.v (.agg (Ae 1 2 o1.d))) [.cells (B2 o1.c1),.tree o1.d.plan.shapes,.lst .lev o1.d.stack]] (.intro (Aa o1.c1 22) fun o2=> .seg [.call [0] (.v (vI o2.x)) (Kc o2.c1)] (.br (.intro (Aa o2.c1 12) fun o3=> .seg [.call [0] (.v (vI o3.x)) (Kc o3.c1),.as 12 (.v (vI (o3.x-1)))] (.leaf (⟨(⟨o1.d.plan,o3.x-1,o1.d.stack,o1.d.scan,o1.d.start,o1.d.at_,o1.d.field,o1.d.wire,o1.d.want,o1.d.utf,o1.d.end_⟩:Dcd),o3.c1⟩:C4) [0,2,3])) (.br (.seg [.ty .int,.pubS 17] (.intro (A1 o2.c1 [0,1,5,2000,(-1)]) fun o3=> .seg [.call [0] (.v (vI o3.x)) (Kc o3.c1)] (.leaf (⟨(⟨o1.d.plan,o1.d.mode,o1.d.stack,o1.d.scan,o1.d.start,o1.d.at_,o1.d.field,o1.d.wire,o3.x,o1.d.utf,o1.d.end_⟩:Dcd),o3.c1⟩:C4) [0,2,3]))) (.br (.intro (Aa o2.c1 4) fun o3=> .intro (Hj o3.c1 [0,1,7,2000,2001,(-1)]) fun o4=>let z5:List Blk:=[.cells (B2 o4.c1),.lst .int [0,1,7,2000,2001,(-1)]];.seg [.tree (fr (.first 5 (.two 3 (.first 4 (.one 6 (.one 7 (.first 8 (.one 9 (.one 10 (.first 11 (.one 12 (.done))))))))) 6 (.one 3 (.first 4 (.one 7 (.first 8 (.one 9 (.one 10 (.first 11 (.one 12 (.done))))))))))) 0 3) 12 [0,3],.call [0] (.v (vI o3.x)) (Kc o3.c1),.as 26 (.v (vI (o3.x-1))),.ty .int,.call [0,5] (.v (vI o4.x)) z5,.ty .lev,.ty .lev,.at 0,.keep [2,3],.sel [0,1,4,2,7],.ty .int,.call [0] (.v (vI o3.x)) (Kc o3.c1),.as 26 (.v (vI (o3.x-1))),.call [0,5] (.v (vI o4.x)) z5,.ty .lev,.ty .lev,.at 0,.keep [2,3],.sel [0,1,4,2,7]] (.leaf (⟨(⟨o1.d.plan,o1.d.mode,o1.d.stack++[(⟨o3.x-1,o4.x⟩:Lev)],o1.d.scan,o1.d.start,o1.d.at_,o1.d.field,o1.d.wire,o1.d.want,o1.d.utf,o1.d.end_⟩:Dcd),o4.c1⟩:C4) [0,3,4])) (.br (.intro (Ui o2.c1) fun o3=> .seg [.call [0] (.v (.agg (Lg o3.s))) (Kc o3.c1)] (.leaf (⟨(⟨o1.d.plan,o1.d.mode,o1.d.stack,o3.s,o1.d.start,o1.d.at_,o1.d.field,o1.d.wire,o1.d.want,o1.d.utf,o1.d.end_⟩:Dcd),o3.c1⟩:C4) [0,2,3])) (.br (.intro (Aa o2.c1 9) fun o3=> .seg [.call [0] (.v (vI o3.x)) (Kc o3.c1),.as 43 (.v (vI (o3.x-1)))] (.leaf (⟨(⟨o1.d.plan,o1.d.mode,o1.d.stack,o1.d.scan,o1.d.start,o1.d.at_,o1.d.field,o3.x-1,o1.d.want,o1.d.utf,o1.d.end_⟩:Dcd),o3.c1⟩:C4) [0,2,3])) (.br (.intro (Aa o2.c1 5) fun o3=> .seg [.call [0] (.v (vI o3.x)) (Kc o3.c1),.as 49 (.v (vI (1+o3.x)))] (.intro (Aa o3.c1 8) fun o4=> .seg [.call [0] (.v (vI o4.x)) (Kc o4.c1),.as 52 (.v (vI (1+o4.x)))] (.leaf (⟨(⟨o1.d.plan,o1.d.mode,o1.d.stack,o1.d.scan,o1.d.start,o1.d.at_,(⟨1+o3.x,1+o4.x,false,false,(-1)⟩:Fld),o1.d.wire,o1.d.want,o1.d.utf,o1.d.end_⟩:Dcd),o4.c1⟩:C4) [0,2,3]))) (.br (.intro (Sq o2.c1) fun o3=> .seg [.call [0] (.v (.agg (K3 o3.u))) (Kc o3.c1)] (.leaf (⟨(⟨o1.d.plan,o1.d.mode,o1.d.stack,o1.d.scan,o1.d.start,o1.d.at_,o1.d.field,o1.d.wire,o1.d.want,o3.u,o1.d.end_⟩:Dcd),o3.c1⟩:C4) [0,2,3])) (.br (.intro (Le o2.c1) fun o3=> .seg [.call [0] (.v (.agg (cEv o3.e))) (Kc o3.c1)] (.leaf (⟨(⟨o1.d.plan,o1.d.mode,o1.d.stack,o1.d.scan,o1.d.start,o1.d.at_,o1.d.field,o1.d.wire,o1.d.want,o1.d.utf,o3.e⟩:Dcd),o3.c1⟩:C4) [0,2,3])) (.br (.seg [.ty .int,.pubS 68] (.intro (A1 o2.c1 [0,1000000000,1000000001,(-1),9223372036854775807]) fun o3=> .seg [.call [0] (.v (vI o3.x)) (Kc o3.c1)] (.leaf (⟨(⟨o1.d.plan,o1.d.mode,o1.d.stack,o1.d.scan,o1.d.start,o3.x,o1.d.field,o1.d.wire,o1.d.want,o1.d.utf,o1.d.end_⟩:Dcd),o3.c1⟩:C4) [0,2,3]))) (.br (.seg [.ty .int,.pubS 79] (.intro (A1 o2.c1 [0,o1.d.at_,IntKind.i64.wrap (o1.d.at_+1),(-1)]) fun o3=> .seg [.call [0] (.v (vI o3.x)) (Kc o3.c1)] (.leaf (⟨(⟨o1.d.plan,o1.d.mode,o1.d.stack,o1.d.scan,o3.x,o1.d.at_,o1.d.field,o1.d.wire,o1.d.want,o1.d.utf,o1.d.end_⟩:Dcd),o3.c1⟩:C4) [0,2,3]))) (.br (.intro (Aa o2.c1 4) fun o3=> .seg [.call [0] (.v (vI o3.x)) (Kc o3.c1)] (.leaf (⟨(⟨(⟨o1.d.plan.shapes,o1.d.plan.root,o3.x,o1.d.plan.most⟩:Pln),o1.d.mode,o1.d.stack,o1.d.scan,o1.d.start,o1.d.at_,o1.d.field,o1.d.wire,o1.d.want,o1.d.utf,o1.d.end_⟩:Dcd),o3.c1⟩:C4) [0,2,3])) (.leaf (⟨o1.d,o2.c1⟩:C4) [0,2,3]))))))))))))),In (Qp c) fun o1=>(let z27:S:= .v (.agg (Ae 1 2 o1.d));(U7 c o1)∧In (Aa o1.c1 22) fun o2=>(let z26:List Blk:=[.cells (B2 o2.c1),.tree o1.d.plan.shapes,.lst .lev o1.d.stack];(Ai o1.c1 22 o2)∧Bc (decide (o2.x=0)) (In (Aa o2.c1 12) fun o3=>(let z1:S:= .v (.agg [.own 1,zi o1.d.plan.root,zi o1.d.plan.deep,zi o1.d.plan.most,zi (o3.x-1),.own 2,.int .u64 o1.d.scan.bits,zi o1.d.scan.have_,zi o1.d.start,zi o1.d.at_,zi o1.d.field.number,zi o1.d.field.kind,.bool o1.d.field.rep,.bool o1.d.field.packed,zi o1.d.field.msg,zi o1.d.wire,zi o1.d.want,zi o1.d.utf.want,zi o1.d.utf.low,zi o1.d.utf.high,zi o1.d.end_.kind,zi o1.d.end_.field,.int .u64 o1.d.end_.bits,zi o1.d.end_.len,.str o1.d.end_.text,zi o1.d.end_.code,zi o1.d.end_.at_]);let z2:List Blk:=[.cells (B2 o3.c1),.tree o1.d.plan.shapes,.lst .lev o1.d.stack];(Ai o2.c1 12 o3)∧(wI (o3.x-1))∧((DecB (⟨o1.d.plan,o3.x-1,o1.d.stack,o1.d.scan,o1.d.start,o1.d.at_,o1.d.field,o1.d.wire,o1.d.want,o1.d.utf,o1.d.end_⟩:Dcd))∧(Au o3.c1))∧Lf z1 z1 z2 z2)) (Bc (decide (o2.x=1)) (In (A1 o2.c1 [0,1,5,2000,(-1)]) fun o3=>(let z3:S:= .v (.agg [.own 1,zi o1.d.plan.root,zi o1.d.plan.deep,zi o1.d.plan.most,zi o1.d.mode,.own 2,.int .u64 o1.d.scan.bits,zi o1.d.scan.have_,zi o1.d.start,zi o1.d.at_,zi o1.d.field.number,zi o1.d.field.kind,.bool o1.d.field.rep,.bool o1.d.field.packed,zi o1.d.field.msg,zi o1.d.wire,zi o3.x,zi o1.d.utf.want,zi o1.d.utf.low,zi o1.d.utf.high,zi o1.d.end_.kind,zi o1.d.end_.field,.int .u64 o1.d.end_.bits,zi o1.d.end_.len,.str o1.d.end_.text,zi o1.d.end_.code,zi o1.d.end_.at_]);let z4:List Blk:=[.cells (B2 o3.c1),.tree o1.d.plan.shapes,.lst .lev o1.d.stack];(B5 o2.c1 [0,1,5,2000,(-1)] o3)∧((DecB (⟨o1.d.plan,o1.d.mode,o1.d.stack,o1.d.scan,o1.d.start,o1.d.at_,o1.d.field,o1.d.wire,o3.x,o1.d.utf,o1.d.end_⟩:Dcd))∧(Au o3.c1))∧Lf z3 z3 z4 z4)) (Bc (decide (o2.x=2)) (In (Aa o2.c1 4) fun o3=>(In (Hj o3.c1 [0,1,7,2000,2001,(-1)]) fun o4=>(let z7:=(⟨o3.x-1,o4.x⟩:Lev);let z6:List Blk:=[.cells (B2 o4.c1),.cells [.nil,zi 0,zi 0,zi 0,zi 0,.nil,.int .u64 0,zi 0,zi 0,zi 0,zi 0,zi 0,.bool false,.bool false,zi 0,zi 0,zi 0,zi 0,zi 0,zi 0,zi 0,zi 0,.int .u64 0,zi 0,.str [],zi 0,zi 0],.cells (Ae 3 4 o1.d),.tree o1.d.plan.shapes,.lst .lev (o1.d.stack++[z7])];let z8:List Blk:=[.cells (B2 o4.c1),.tree o1.d.plan.shapes,.lst .lev (o1.d.stack++[z7])];let z9:=Pc o3.c1 [0,1,7,2000,2001,(-1)] o4;(Ai o2.c1 4 o3)∧(wI (o3.x-1))∧z9∧(List.length o1.d.stack+List.length [z7]≤A8)∧(Ai o2.c1 4 o3)∧(wI (o3.x-1))∧z9∧(List.length o1.d.stack+List.length [z7]≤A8)∧((z6:List Blk)=z6)∧(([(2,.v (vP 1)),(3,.v (vP 2))]:List (Nat×S))=[(2,.v (vP 1)),(3,.v (vP 2))])∧((DecB (⟨o1.d.plan,o1.d.mode,o1.d.stack++[z7],o1.d.scan,o1.d.start,o1.d.at_,o1.d.field,o1.d.wire,o1.d.want,o1.d.utf,o1.d.end_⟩:Dcd))∧(Au o4.c1))∧Lf z27 z27 z8 z8))) (Bc (decide (o2.x=3)) (In (Ui o2.c1) fun o3=>(let z10:S:= .v (.agg [.own 1,zi o1.d.plan.root,zi o1.d.plan.deep,zi o1.d.plan.most,zi o1.d.mode,.own 2,.int .u64 o3.s.bits,zi o3.s.have_,zi o1.d.start,zi o1.d.at_,zi o1.d.field.number,zi o1.d.field.kind,.bool o1.d.field.rep,.bool o1.d.field.packed,zi o1.d.field.msg,zi o1.d.wire,zi o1.d.want,zi o1.d.utf.want,zi o1.d.utf.low,zi o1.d.utf.high,zi o1.d.end_.kind,zi o1.d.end_.field,.int .u64 o1.d.end_.bits,zi o1.d.end_.len,.str o1.d.end_.text,zi o1.d.end_.code,zi o1.d.end_.at_]);let z11:List Blk:=[.cells (B2 o3.c1),.tree o1.d.plan.shapes,.lst .lev o1.d.stack];(Y5 o2.c1 o3)∧((DecB (⟨o1.d.plan,o1.d.mode,o1.d.stack,o3.s,o1.d.start,o1.d.at_,o1.d.field,o1.d.wire,o1.d.want,o1.d.utf,o1.d.end_⟩:Dcd))∧(Au o3.c1))∧Lf z10 z10 z11 z11)) (Bc (decide (o2.x=4)) (In (Aa o2.c1 9) fun o3=>(let z12:S:= .v (.agg [.own 1,zi o1.d.plan.root,zi o1.d.plan.deep,zi o1.d.plan.most,zi o1.d.mode,.own 2,.int .u64 o1.d.scan.bits,zi o1.d.scan.have_,zi o1.d.start,zi o1.d.at_,zi o1.d.field.number,zi o1.d.field.kind,.bool o1.d.field.rep,.bool o1.d.field.packed,zi o1.d.field.msg,zi (o3.x-1),zi o1.d.want,zi o1.d.utf.want,zi o1.d.utf.low,zi o1.d.utf.high,zi o1.d.end_.kind,zi o1.d.end_.field,.int .u64 o1.d.end_.bits,zi o1.d.end_.len,.str o1.d.end_.text,zi o1.d.end_.code,zi o1.d.end_.at_]);let z13:List Blk:=[.cells (B2 o3.c1),.tree o1.d.plan.shapes,.lst .lev o1.d.stack];(Ai o2.c1 9 o3)∧(wI (o3.x-1))∧((DecB (⟨o1.d.plan,o1.d.mode,o1.d.stack,o1.d.scan,o1.d.start,o1.d.at_,o1.d.field,o3.x-1,o1.d.want,o1.d.utf,o1.d.end_⟩:Dcd))∧(Au o3.c1))∧Lf z12 z12 z13 z13)) (Bc (decide (o2.x=5)) (In (Aa o2.c1 5) fun o3=>((Ai o2.c1 5 o3)∧(wI (1+o3.x))∧In (Aa o3.c1 8) fun o4=>(let z14:S:= .v (.agg [.own 1,zi o1.d.plan.root,zi o1.d.plan.deep,zi o1.d.plan.most,zi o1.d.mode,.own 2,.int .u64 o1.d.scan.bits,zi o1.d.scan.have_,zi o1.d.start,zi o1.d.at_,zi (1+o3.x),zi (1+o4.x),.bool false,.bool false,zi (-1),zi o1.d.wire,zi o1.d.want,zi o1.d.utf.want,zi o1.d.utf.low,zi o1.d.utf.high,zi o1.d.end_.kind,zi o1.d.end_.field,.int .u64 o1.d.end_.bits,zi o1.d.end_.len,.str o1.d.end_.text,zi o1.d.end_.code,zi o1.d.end_.at_]);let z15:List Blk:=[.cells (B2 o4.c1),.tree o1.d.plan.shapes,.lst .lev o1.d.stack];(Ai o3.c1 8 o4)∧(wI (1+o4.x))∧((DecB (⟨o1.d.plan,o1.d.mode,o1.d.stack,o1.d.scan,o1.d.start,o1.d.at_,(⟨1+o3.x,1+o4.x,false,false,(-1)⟩:Fld),o1.d.wire,o1.d.want,o1.d.utf,o1.d.end_⟩:Dcd))∧(Au o4.c1))∧Lf z14 z14 z15 z15))) (Bc (decide (o2.x=6)) (In (Sq o2.c1) fun o3=>(let z16:S:= .v (.agg [.own 1,zi o1.d.plan.root,zi o1.d.plan.deep,zi o1.d.plan.most,zi o1.d.mode,.own 2,.int .u64 o1.d.scan.bits,zi o1.d.scan.have_,zi o1.d.start,zi o1.d.at_,zi o1.d.field.number,zi o1.d.field.kind,.bool o1.d.field.rep,.bool o1.d.field.packed,zi o1.d.field.msg,zi o1.d.wire,zi o1.d.want,zi o3.u.want,zi o3.u.low,zi o3.u.high,zi o1.d.end_.kind,zi o1.d.end_.field,.int .u64 o1.d.end_.bits,zi o1.d.end_.len,.str o1.d.end_.text,zi o1.d.end_.code,zi o1.d.end_.at_]);let z17:List Blk:=[.cells (B2 o3.c1),.tree o1.d.plan.shapes,.lst .lev o1.d.stack];(Xo o2.c1 o3)∧((DecB (⟨o1.d.plan,o1.d.mode,o1.d.stack,o1.d.scan,o1.d.start,o1.d.at_,o1.d.field,o1.d.wire,o1.d.want,o3.u,o1.d.end_⟩:Dcd))∧(Au o3.c1))∧Lf z16 z16 z17 z17)) (Bc (decide (o2.x=7)) (In (Le o2.c1) fun o3=>(let z18:S:= .v (.agg [.own 1,zi o1.d.plan.root,zi o1.d.plan.deep,zi o1.d.plan.most,zi o1.d.mode,.own 2,.int .u64 o1.d.scan.bits,zi o1.d.scan.have_,zi o1.d.start,zi o1.d.at_,zi o1.d.field.number,zi o1.d.field.kind,.bool o1.d.field.rep,.bool o1.d.field.packed,zi o1.d.field.msg,zi o1.d.wire,zi o1.d.want,zi o1.d.utf.want,zi o1.d.utf.low,zi o1.d.utf.high,zi o3.e.kind,zi o3.e.field,.int .u64 o3.e.bits,zi o3.e.len,.str o3.e.text,zi o3.e.code,zi o3.e.at_]);let z19:List Blk:=[.cells (B2 o3.c1),.tree o1.d.plan.shapes,.lst .lev o1.d.stack];(Sp o2.c1 o3)∧((DecB (⟨o1.d.plan,o1.d.mode,o1.d.stack,o1.d.scan,o1.d.start,o1.d.at_,o1.d.field,o1.d.wire,o1.d.want,o1.d.utf,o3.e⟩:Dcd))∧(Au o3.c1))∧Lf z18 z18 z19 z19)) (Bc (decide (o2.x=8)) (In (A1 o2.c1 [0,1000000000,1000000001,(-1),9223372036854775807]) fun o3=>(let z20:S:= .v (.agg [.own 1,zi o1.d.plan.root,zi o1.d.plan.deep,zi o1.d.plan.most,zi o1.d.mode,.own 2,.int .u64 o1.d.scan.bits,zi o1.d.scan.have_,zi o1.d.start,zi o3.x,zi o1.d.field.number,zi o1.d.field.kind,.bool o1.d.field.rep,.bool o1.d.field.packed,zi o1.d.field.msg,zi o1.d.wire,zi o1.d.want,zi o1.d.utf.want,zi o1.d.utf.low,zi o1.d.utf.high,zi o1.d.end_.kind,zi o1.d.end_.field,.int .u64 o1.d.end_.bits,zi o1.d.end_.len,.str o1.d.end_.text,zi o1.d.end_.code,zi o1.d.end_.at_]);let z21:List Blk:=[.cells (B2 o3.c1),.tree o1.d.plan.shapes,.lst .lev o1.d.stack];(B5 o2.c1 [0,1000000000,1000000001,(-1),9223372036854775807] o3)∧((DecB (⟨o1.d.plan,o1.d.mode,o1.d.stack,o1.d.scan,o1.d.start,o3.x,o1.d.field,o1.d.wire,o1.d.want,o1.d.utf,o1.d.end_⟩:Dcd))∧(Au o3.c1))∧Lf z20 z20 z21 z21)) (Bc (decide (o2.x=9)) (In (A1 o2.c1 [0,o1.d.at_,IntKind.i64.wrap (o1.d.at_+1),(-1)]) fun o3=>(let z22:S:= .v (.agg [.own 1,zi o1.d.plan.root,zi o1.d.plan.deep,zi o1.d.plan.most,zi o1.d.mode,.own 2,.int .u64 o1.d.scan.bits,zi o1.d.scan.have_,zi o3.x,zi o1.d.at_,zi o1.d.field.number,zi o1.d.field.kind,.bool o1.d.field.rep,.bool o1.d.field.packed,zi o1.d.field.msg,zi o1.d.wire,zi o1.d.want,zi o1.d.utf.want,zi o1.d.utf.low,zi o1.d.utf.high,zi o1.d.end_.kind,zi o1.d.end_.field,.int .u64 o1.d.end_.bits,zi o1.d.end_.len,.str o1.d.end_.text,zi o1.d.end_.code,zi o1.d.end_.at_]);let z23:List Blk:=[.cells (B2 o3.c1),.tree o1.d.plan.shapes,.lst .lev o1.d.stack];(B5 o2.c1 [0,o1.d.at_,IntKind.i64.wrap (o1.d.at_+1),(-1)] o3)∧((DecB (⟨o1.d.plan,o1.d.mode,o1.d.stack,o1.d.scan,o3.x,o1.d.at_,o1.d.field,o1.d.wire,o1.d.want,o1.d.utf,o1.d.end_⟩:Dcd))∧(Au o3.c1))∧Lf z22 z22 z23 z23)) (Bc (decide (o2.x=10)) (In (Aa o2.c1 4) fun o3=>(let z24:S:= .v (.agg [.own 1,zi o1.d.plan.root,zi o3.x,zi o1.d.plan.most,zi o1.d.mode,.own 2,.int .u64 o1.d.scan.bits,zi o1.d.scan.have_,zi o1.d.start,zi o1.d.at_,zi o1.d.field.number,zi o1.d.field.kind,.bool o1.d.field.rep,.bool o1.d.field.packed,zi o1.d.field.msg,zi o1.d.wire,zi o1.d.want,zi o1.d.utf.want,zi o1.d.utf.low,zi o1.d.utf.high,zi o1.d.end_.kind,zi o1.d.end_.field,.int .u64 o1.d.end_.bits,zi o1.d.end_.len,.str o1.d.end_.text,zi o1.d.end_.code,zi o1.d.end_.at_]);let z25:List Blk:=[.cells (B2 o3.c1),.tree o1.d.plan.shapes,.lst .lev o1.d.stack];(Ai o2.c1 4 o3)∧((DecB (⟨(⟨o1.d.plan.shapes,o1.d.plan.root,o3.x,o1.d.plan.most⟩:Pln),o1.d.mode,o1.d.stack,o1.d.scan,o1.d.start,o1.d.at_,o1.d.field,o1.d.wire,o1.d.want,o1.d.utf,o1.d.end_⟩:Dcd))∧(Au o3.c1))∧Lf z24 z24 z25 z25)) (((DecB o1.d)∧(Au o2.c1))∧Lf z27 z27 z26 z26))))))))))))))) Q4 ?_
 refine⟨(Afn c Q0),fun o1 ho_o1=>?_⟩
 obtain ⟨⟨hp_o1_0,hp_o1_1,hp_o1_2⟩,hf_o1⟩:=ho_o1
 refine⟨hf_o1,(Ao o1.c1 22 Q0),fun o2 ho_o2=>?_⟩
 obtain ⟨⟨hp_o2_0,hp_o2_1,hp_o2_2,hp_o2_3⟩,hf_o2⟩:=ho_o2
 refine⟨hf_o2,dsp (fun h1 p1=>?_) fun h1 p1=>?_⟩
 refine⟨(Ao o2.c1 12 Q0),fun o3 ho_o3=>?_⟩
 obtain ⟨⟨hp_o3_0,hp_o3_1,hp_o3_2,hp_o3_3⟩,hf_o3⟩:=ho_o3
 exact⟨hf_o3,(Ad Q2 Q2),⟨Q8,Q0⟩,rfl,rfl⟩
 refine dsp (fun h2 p2=>?_) fun h2 p2=>?_
 refine⟨(Cn o2.c1 [0,1,5,2000,(-1)] Q0 Q5 Q5),fun o3 ho_o3=>?_⟩
 obtain ⟨⟨hp_o3_0,hp_o3_1⟩,hf_o3⟩:=ho_o3
 exact⟨hf_o3,⟨Q8,Q0⟩,rfl,rfl⟩
 refine dsp (fun h3 p3=>?_) fun h3 p3=>?_
 refine⟨(Ao o2.c1 4 Q0),fun o3 ho_o3=>?_⟩
 obtain ⟨⟨hp_o3_0,hp_o3_1,hp_o3_2,hp_o3_3⟩,hf_o3⟩:=ho_o3
 refine⟨(Xk o3.c1 [0,1,7,2000,2001,(-1)] Q0 Q5 Q5),fun o4 ho_o4=>?_⟩
 obtain ⟨⟨hp_o4_0,hp_o4_1⟩,hf_o4⟩:=ho_o4
 exact⟨hf_o3,(Ad Q2 Q2),hf_o4,(by have:=hp_o1_0.stack;simp only[List.length_cons,List.length_nil];omega),hf_o3,(Ad Q2 Q2),hf_o4,(by have:=hp_o1_0.stack;simp only[List.length_cons,List.length_nil];omega),rfl,rfl,⟨Q8,Q0⟩,rfl,rfl⟩
 refine dsp (fun h4 p4=>?_) fun h4 p4=>?_
 refine⟨(Aj8 o2.c1 Q0),fun o3 ho_o3=>?_⟩
 obtain ⟨⟨hp_o3_0,hp_o3_1⟩,hf_o3⟩:=ho_o3
 exact⟨hf_o3,⟨Q8,Q0⟩,rfl,rfl⟩
 refine dsp (fun h5 p5=>?_) fun h5 p5=>?_
 refine⟨(Ao o2.c1 9 Q0),fun o3 ho_o3=>?_⟩
 obtain ⟨⟨hp_o3_0,hp_o3_1,hp_o3_2,hp_o3_3⟩,hf_o3⟩:=ho_o3
 exact⟨hf_o3,(Ad Q2 Q2),⟨Q8,Q0⟩,rfl,rfl⟩
 refine dsp (fun h6 p6=>?_) fun h6 p6=>?_
 refine⟨(Ao o2.c1 5 Q0),fun o3 ho_o3=>?_⟩
 obtain ⟨⟨hp_o3_0,hp_o3_1,hp_o3_2,hp_o3_3⟩,hf_o3⟩:=ho_o3
 refine⟨hf_o3,(Ad Q2 Q2),(Ao o3.c1 8 Q0),fun o4 ho_o4=>?_⟩
 obtain ⟨⟨hp_o4_0,hp_o4_1,hp_o4_2,hp_o4_3⟩,hf_o4⟩:=ho_o4
 exact⟨hf_o4,(Ad Q2 Q2),⟨Q8,Q0⟩,rfl,rfl⟩
 refine dsp (fun h7 p7=>?_) fun h7 p7=>?_
 refine⟨(Aig o2.c1 Q0),fun o3 ho_o3=>?_⟩
 obtain ⟨hp_o3,hf_o3⟩:=ho_o3
 exact⟨hf_o3,⟨Q8,Q0⟩,rfl,rfl⟩
 refine dsp (fun h8 p8=>?_) fun h8 p8=>?_
 refine⟨(Abn o2.c1 Q0),fun o3 ho_o3=>?_⟩
 obtain ⟨⟨hp_o3_0,hp_o3_1,hp_o3_2⟩,hf_o3⟩:=ho_o3
 exact⟨hf_o3,⟨Q8,Q0⟩,rfl,rfl⟩
 refine dsp (fun h9 p9=>?_) fun h9 p9=>?_
 refine⟨(Cn o2.c1 [0,1000000000,1000000001,(-1),9223372036854775807] Q0 Q5 Q5),fun o3 ho_o3=>?_⟩
 obtain ⟨⟨hp_o3_0,hp_o3_1⟩,hf_o3⟩:=ho_o3
 exact⟨hf_o3,⟨Q8,Q0⟩,rfl,rfl⟩
 refine dsp (fun h10 p10=>?_) fun h10 p10=>?_
 refine⟨(Cn o2.c1 [0,o1.d.at_,IntKind.i64.wrap (o1.d.at_+1),(-1)] Q0 Q5 Q5),fun o3 ho_o3=>?_⟩
 obtain ⟨⟨hp_o3_0,hp_o3_1⟩,hf_o3⟩:=ho_o3
 exact⟨hf_o3,⟨Q8,Q0⟩,rfl,rfl⟩
 refine dsp (fun h11 p11=>?_) fun h11 p11=>?_
 refine⟨(Ao o2.c1 4 Q0),fun o3 ho_o3=>?_⟩
 obtain ⟨⟨hp_o3_0,hp_o3_1,hp_o3_2,hp_o3_3⟩,hf_o3⟩:=ho_o3
 exact⟨hf_o3,⟨Q8,Q0⟩,rfl,rfl⟩
 exact⟨⟨Q8,Q0⟩,rfl,rfl⟩
structure Afx where
 d:Dcd
 b:Int
theorem R4 (r:Rdr) (room:Int):(A7 r room).script=r.script∧(A7 r room).data=r.data:=by
 unfold A7
 split
 ·exact⟨rfl,rfl⟩
 ·exact⟨rfl,rfl⟩
structure F0 where
 r:Rdr
 c1:Cur
def Xq (c:Cur) (o:F0):Prop:=Fun Tryz.prog 142 [vP 0] [.cells (B2 c)] (.v (.agg (Fd 1 o.r))) [.cells (B2 o.c1),.lst .rd o.r.script]
def Ss (c:Cur) (o:F0):Prop:=((List.length (o.r).script≤201)∧(List.length (o.r).data≤23)∧(Au o.c1))∧Xq c o
structure Mc where
 c:Cur
 r:Rdr
 i:Nat
def F1 (o4:Cm):Fam:=⟨Mc,fun q1=>[(0,.v (vP 0)),(2,.v (vP 1)),(3,.v (vP 2)),(4,.v (vI o4.x)),(5,.v (vI ((q1.i:Nat):Int)))],fun q1=>[.cells (B2 q1.c),.cells [.str [],.int .i64 0,.nil,.int .i64 0,.int .i64 0],.cells (Fd 3 q1.r),.lst .rd q1.r.script],fun q1=>Au q1.c∧(List.length (q1.r).script≤8∧List.length (q1.r).data≤23)∧q1.i≤8,fun q1=>8-q1.i⟩
structure Md where
 c:Cur
 r:Rdr
def Me  :Fam:=⟨Md,fun q2=>[(0,.v (vP 0)),(2,.v (vP 1)),(3,.v (vP 2))],fun q2=>[.cells (B2 q2.c),.cells [.str [],.int .i64 0,.nil,.int .i64 0,.int .i64 0],.cells (Fd 3 q2.r),.lst .rd q2.r.script],fun q2=>Au q2.c∧(List.length (q2.r).script≤201∧List.length (q2.r).data≤23),fun q2=>202-List.length (q2.r).script⟩
theorem Aii (c:Cur) (hp1:Au c): ∃o:F0,Ss c o:=by
 have hN:A8=274877906944:=rfl
 refine B4 Tryz.func142 Q4 Q4 (w:=let zi:Int→C:= .int .i64;let z22:List C:=[.str [],zi 0,.nil,zi 0,zi 0];let z23:=([(0,.v (vP 0)),(2,.v (vP 1)),(3,.v (vP 2))]:List (Nat×S))=[(0,.v (vP 0)),(2,.v (vP 1)),(3,.v (vP 2))];let z24:S:= .v (vO 1);let z25:=Me;(.intro (Aa c 24) fun o1=> .intro (Bq o1.c1 o1.x) fun o2=>let z20:List Blk:=[.cells (B2 o2.c1),.lst .u8 o2.l];.intro (Hi o2.c1) fun o3=>let z17:List Blk:=[.cells (B2 o3.c1),.lst .rd o3.l];.seg [.tree (.first 0 (.first 1 (.first 5 (.two 2 (.two 3 (.three 4 (.two 6 (.first 7 (.one 8 (.one 9 (.done)))) 8 (.one 6 (.first 7 (.one 9 (.done))))) 6 (.two 4 (.first 7 (.one 8 (.one 9 (.done)))) 8 (.one 4 (.first 7 (.one 9 (.done))))) 8 (.two 4 (.one 6 (.first 7 (.one 9 (.done)))) 6 (.one 4 (.first 7 (.one 9 (.done)))))) 8 (.one 3 (.two 4 (.one 6 (.first 7 (.one 9 (.done)))) 6 (.one 4 (.first 7 (.one 9 (.done))))))) 8 (.one 2 (.one 3 (.two 4 (.one 6 (.first 7 (.one 9 (.done)))) 6 (.one 4 (.first 7 (.one 9 (.done))))))))))) 9 [0],.call [0] (.v (vI o1.x)) (Kc o1.c1),.call [0] z24 z20,.call [0] z24 z17,.at 0,.keep [0,2,3],.sel [0,1,4,3],.call [0] z24 z17,.at 0,.keep [0,2,3],.sel [0,1,3,4],.call [0] z24 z17,.at 0,.keep [0,2,3],.sel [0,1,4,3],.at 0,.keep [0,2,3],.sel [0,1,4,3],.call [0] z24 z17,.at 0,.keep [0,2,3],.sel [0,1,3,4],.call [0] z24 z17,.at 0,.keep [0,2,3],.sel [0,1,3,4],.call [0] z24 z20,.call [0] z24 z17,.at 0,.keep [0,2,3],.sel [0,1,2,4],.call [0] z24 z17,.at 0,.keep [0,2,3],.sel [0,1,2,4],.call [0] (.v (vI o1.x)) (Kc o1.c1),.call [0] z24 z20,.call [0] z24 z17,.at 0,.keep [0,2,3],.sel [0,1,2,4],.call [0] z24 z17,.at 0,.keep [0,2,3],.sel [0,1,2,4]] (.intro (Aa o3.c1 4) fun o4=> .seg [.call [0] (.v (vI o4.x)) (Kc o4.c1),.at 0,.keep [0,2,3,4,5],.sel [0,1,2,3]] (.loop (F1 o4) fun q1=>let z10:=((List.length q1.r.script:Nat):Int);let z11:=((List.length q1.r.data:Nat):Int);.br (.intro (Aa q1.c 6) fun o5=> .seg [.ord (os 10 [2,4,9]) [0],.call [0] (.v (vI o5.x)) (Kc o5.c1),.as 25 (.v (vI (1+o5.x))),.call [] (.tup [.agg (Fd 0 (A7 q1.r (1+o5.x))),vT (A2 q1.r (1+o5.x)),vI (B0 q1.r (1+o5.x))]) [.lst .rd (A7 q1.r (1+o5.x)).script],.as 20 (.v (vI (((q1.i:Nat):Int)+1))),.at 0,.keep [0,2,3,4,5],.sel [0,1,2,4]] (.next)) (.intro (Aa q1.c 14) fun o5=> .seg [.call [0] (.v (vI o5.x)) (Kc o5.c1)] (.br (.seg [.as 41 (.v (vI (z11+1))),.ty .int,.pubS 42] (.intro (A1 o5.c1 [(-1),0,z11,z11+1,9223372036854775807]) fun o6=> .seg [.call [0] (.v (vI o6.x)) (Kc o6.c1)] (.leaf (⟨(⟨q1.r.data,o6.x,q1.r.script,q1.r.next,q1.r.code⟩:Rdr),o6.c1⟩:F0) [0,3]))) (.br (.seg [.as 54 (.v (vI (z10+1))),.ty .int,.pubS 55] (.intro (A1 o5.c1 [(-1),0,z10,z10+1]) fun o6=> .seg [.call [0] (.v (vI o6.x)) (Kc o6.c1)] (.leaf (⟨(⟨q1.r.data,q1.r.at_,q1.r.script,o6.x,q1.r.code⟩:Rdr),o6.c1⟩:F0) [0,3]))) (.br (.seg [.ty .int,.pubS 61] (.intro (A1 o5.c1 [(-1),0,1,2,19,20]) fun o6=> .seg [.call [0] (.v (vI o6.x)) (Kc o6.c1)] (.leaf (⟨(⟨q1.r.data,q1.r.at_,q1.r.script,q1.r.next,o6.x⟩:Rdr),o6.c1⟩:F0) [0,3]))) (.br (.seg [.at 0,.keep [0,2,3],.sel [0,1,2,3]] (.loop z25 fun q2=> .intro (Aa q2.c 2) fun o6=> .seg [.ord (os 7 [4]) [0],.call [0] (.v (vI o6.x)) (Kc o6.c1),.as 71 (.v (vI (200+o6.x)))] (.br (.seg [.ty .rd,.ty .rd,.at 0,.keep [0,2,3],.sel [0,1,2,5]] (.next)) (.leaf (⟨q2.r,o6.c1⟩:F0) [0,3])))) (.leaf (⟨q1.r,o5.c1⟩:F0) [0,3])))))))),In (Aa c 24) fun o1=>(In (Bq o1.c1 o1.x) fun o2=>(let z21:=C3 o1.c1 o1.x o2;In (Hi o2.c1) fun o3=>(let z18:List Blk:=[.cells (B2 o3.c1),.cells z22,.cells [.str (List.map Bh o2.l),zi 0,.own 3,zi 0,zi 0],.lst .rd o3.l];let z19:=N6 o2.c1 o3;(Ai c 24 o1)∧z21∧z19∧z19∧((z18:List Blk)=z18)∧z23∧z19∧((z18:List Blk)=z18)∧z23∧((z18:List Blk)=z18)∧z23∧z19∧z19∧((z18:List Blk)=z18)∧z23∧((z18:List Blk)=z18)∧z23∧z21∧z19∧z19∧((z18:List Blk)=z18)∧z23∧((z18:List Blk)=z18)∧z23∧(Ai c 24 o1)∧z21∧z19∧z19∧((z18:List Blk)=z18)∧z23∧((z18:List Blk)=z18)∧z23∧In (Aa o3.c1 4) fun o4=>((Ai o3.c1 4 o4)∧(F1 o4).Has [(0,.v (vP 0)),(2,.v (vP 1)),(3,.v (vP 2)),(4,.v (vI o4.x)),(5,.v (vI 0))] [.cells (B2 o4.c1),.cells z22,.cells [.str (List.map Bh o2.l),zi 0,.own 3,zi 0,zi 0],.lst .rd o3.l]∧∀q1,(F1 o4).inv q1→(let z12:=((List.length q1.r.script:Nat):Int);let z13:=((List.length q1.r.data:Nat):Int);let z14:=List.length q1.r.script≤201;let z15:=List.length q1.r.data≤23;let z16:=((q1.i:Nat):Int);Bc (decide (z16<o4.x)) (In (Aa q1.c 6) fun o5=>(let z1:=A7 q1.r (1+o5.x);(Ai q1.c 6 o5)∧(wI (1+o5.x))∧(Fp 146 [.agg (Zt q1.r),vI (1+o5.x)] [] (.tup [.agg (Fd 0 z1),vT (A2 q1.r (1+o5.x)),vI (B0 q1.r (1+o5.x))]) [.lst .rd z1.script])∧(wI (z16+1))∧(F1 o4).Nxt q1 [(0,.v (vP 0)),(2,.v (vP 1)),(3,.v (vP 2)),(4,.v (vI o4.x)),(5,.v (vI (z16+1)))] [.cells (B2 o5.c1),.cells z22,.cells (Fd 3 z1),.lst .rd z1.script])) (In (Aa q1.c 14) fun o5=>(let z9:List Blk:=[.cells (B2 o5.c1),.lst .rd q1.r.script];(Ai q1.c 14 o5)∧Bc (decide (o5.x=0)) ((wI (z13+1))∧In (A1 o5.c1 [(-1),0,z13,z13+1,9223372036854775807]) fun o6=>(let z2:S:= .v (.agg [.str q1.r.data,zi o6.x,.own 1,zi q1.r.next,zi q1.r.code]);let z3:List Blk:=[.cells (B2 o6.c1),.lst .rd q1.r.script];(B5 o5.c1 [(-1),0,z13,z13+1,9223372036854775807] o6)∧(z14∧z15∧(Au o6.c1))∧Lf z2 z2 z3 z3)) (Bc (decide (o5.x=1)) ((wI (z12+1))∧In (A1 o5.c1 [(-1),0,z12,z12+1]) fun o6=>(let z4:S:= .v (.agg [.str q1.r.data,zi q1.r.at_,.own 1,zi o6.x,zi q1.r.code]);let z5:List Blk:=[.cells (B2 o6.c1),.lst .rd q1.r.script];(B5 o5.c1 [(-1),0,z12,z12+1] o6)∧(z14∧z15∧(Au o6.c1))∧Lf z4 z4 z5 z5)) (Bc (decide (o5.x=2)) (In (A1 o5.c1 [(-1),0,1,2,19,20]) fun o6=>(let z6:S:= .v (.agg [.str q1.r.data,zi q1.r.at_,.own 1,zi q1.r.next,zi o6.x]);let z7:List Blk:=[.cells (B2 o6.c1),.lst .rd q1.r.script];(B5 o5.c1 [(-1),0,1,2,19,20] o6)∧(z14∧z15∧(Au o6.c1))∧Lf z6 z6 z7 z7)) (Bc (decide (o5.x=3)) (z25.Has [(0,.v (vP 0)),(2,.v (vP 1)),(3,.v (vP 2))] [.cells (B2 o5.c1),.cells z22,.cells (Fd 3 q1.r),.lst .rd q1.r.script]∧∀q2,z25.inv q2→(In (Aa q2.c 2) fun o6=>(let z8:List Blk:=[.cells (B2 o6.c1),.lst .rd q2.r.script];(Ai q2.c 2 o6)∧(wI (200+o6.x))∧Bc (decide (((List.length q2.r.script:Nat):Int)<200+o6.x)) ((List.length q2.r.script+List.length [(⟨0,0⟩:Rd)]≤A8)∧z25.Nxt q2 [(0,.v (vP 0)),(2,.v (vP 1)),(3,.v (vP 2))] [.cells (B2 o6.c1),.cells z22,.cells (Fd 3 q2.r),.lst .rd (q2.r.script++[(⟨0,0⟩:Rd)])]) (((List.length (q2.r).script≤201)∧(List.length (q2.r).data≤23)∧(Au o6.c1))∧Lf (.v (.agg (Fd 1 q2.r))) (.v (.agg (Fd 1 q2.r))) z8 z8)))) (((List.length (q1.r).script≤201)∧(List.length (q1.r).data≤23)∧(Au o5.c1))∧Lf (.v (.agg (Fd 1 q1.r))) (.v (.agg (Fd 1 q1.r))) z9 z9))))))))))))) Q4 ?_
 refine⟨(Ao c 24 Q0),fun o1 ho_o1=>?_⟩
 obtain ⟨⟨hp_o1_0,hp_o1_1,hp_o1_2,hp_o1_3⟩,hf_o1⟩:=ho_o1
 refine⟨(Es o1.c1 o1.x Q0 Q2),fun o2 ho_o2=>?_⟩
 obtain ⟨⟨hp_o2_0,hp_o2_1⟩,hf_o2⟩:=ho_o2
 refine⟨(Xd o2.c1 Q0),fun o3 ho_o3=>?_⟩
 obtain ⟨⟨hp_o3_0,hp_o3_1⟩,hf_o3⟩:=ho_o3
 refine⟨hf_o1,hf_o2,hf_o3,hf_o3,rfl,rfl,hf_o3,rfl,rfl,rfl,rfl,hf_o3,hf_o3,rfl,rfl,rfl,rfl,hf_o2,hf_o3,hf_o3,rfl,rfl,rfl,rfl,hf_o1,hf_o2,hf_o3,hf_o3,rfl,rfl,rfl,rfl,(Ao o3.c1 4 Q0),fun o4 ho_o4=>?_⟩
 obtain ⟨⟨hp_o4_0,hp_o4_1,hp_o4_2,hp_o4_3⟩,hf_o4⟩:=ho_o4
 refine⟨hf_o4,Bj (j:=(⟨o4.c1,(⟨List.map Bh o2.l,0,o3.l,0,0⟩:Rdr),0⟩:Mc)) Q9 Q9 (by dsimp only[F1];exact⟨by assumption,by (try dsimp only);(try simp only[List.length_map]);omega,by omega⟩),fun (q1:Mc) hq_q1=>?_⟩
 have hi_q1:Au q1.c∧(List.length (q1.r).script≤8∧List.length (q1.r).data≤23)∧q1.i≤8:=hq_q1
 obtain ⟨v1,v2,v3⟩:=hi_q1
 refine dsp (fun h1 p1=>?_) fun h1 p1=>?_
 refine⟨(Ao q1.c 6 Q0),fun o5 ho_o5=>?_⟩
 obtain ⟨⟨hp_o5_0,hp_o5_1,hp_o5_2,hp_o5_3⟩,hf_o5⟩:=ho_o5
 exact⟨hf_o5,(Ad Q2 Q2),(Ym q1.r _ Q2 Q2),(Ad Q2 Q2),A5 (j:=(⟨o5.c1,(A7 q1.r (1+o5.x)),q1.i+1⟩:Mc)) Q9 rfl (by dsimp only[F1];exact⟨by assumption,by rw[(R4 _ _).1,(R4 _ _).2];exact v2,by omega⟩) (by dsimp only[F1];omega)⟩
 refine⟨(Ao q1.c 14 Q0),fun o5 ho_o5=>?_⟩
 obtain ⟨⟨hp_o5_0,hp_o5_1,hp_o5_2,hp_o5_3⟩,hf_o5⟩:=ho_o5
 refine⟨hf_o5,dsp (fun h2 p2=>?_) fun h2 p2=>?_⟩
 refine⟨(Ad Q2 Q2),(Cn o5.c1 [(-1),0,((List.length q1.r.data:Nat):Int),((List.length q1.r.data:Nat):Int)+1,9223372036854775807] Q0 Q5 Q5),fun o6 ho_o6=>?_⟩
 obtain ⟨⟨hp_o6_0,hp_o6_1⟩,hf_o6⟩:=ho_o6
 exact⟨hf_o6,⟨Q2,Q2,Q0⟩,rfl,rfl⟩
 refine dsp (fun h3 p3=>?_) fun h3 p3=>?_
 refine⟨(Ad Q2 Q2),(Cn o5.c1 [(-1),0,((List.length q1.r.script:Nat):Int),((List.length q1.r.script:Nat):Int)+1] Q0 Q5 Q5),fun o6 ho_o6=>?_⟩
 obtain ⟨⟨hp_o6_0,hp_o6_1⟩,hf_o6⟩:=ho_o6
 exact⟨hf_o6,⟨Q2,Q2,Q0⟩,rfl,rfl⟩
 refine dsp (fun h4 p4=>?_) fun h4 p4=>?_
 refine⟨(Cn o5.c1 [(-1),0,1,2,19,20] Q0 Q5 Q5),fun o6 ho_o6=>?_⟩
 obtain ⟨⟨hp_o6_0,hp_o6_1⟩,hf_o6⟩:=ho_o6
 exact⟨hf_o6,⟨Q2,Q2,Q0⟩,rfl,rfl⟩
 refine dsp (fun h5 p5=>?_) fun h5 p5=>?_
 refine⟨Bj (j:=(⟨o5.c1,q1.r⟩:Md)) rfl rfl (by dsimp only[Me];exact⟨by assumption,by (try dsimp only);(try simp only[List.length_map]);omega⟩),fun (q2:Md) hq_q2=>?_⟩
 have hi_q2:Au q2.c∧(List.length (q2.r).script≤201∧List.length (q2.r).data≤23):=hq_q2
 obtain ⟨w1,w2⟩:=hi_q2
 refine⟨(Ao q2.c 2 Q0),fun o6 ho_o6=>?_⟩
 obtain ⟨⟨hp_o6_0,hp_o6_1,hp_o6_2,hp_o6_3⟩,hf_o6⟩:=ho_o6
 refine⟨hf_o6,(Ad Q2 Q2),dsp (fun h6 p6=>?_) fun h6 p6=>?_⟩
 exact⟨Q5,A5 (j:=(⟨o6.c1,(⟨q2.r.data,q2.r.at_,q2.r.script++[(⟨0,0⟩:Rd)],q2.r.next,q2.r.code⟩:Rdr)⟩:Md)) rfl Q9 (by dsimp only[Me];exact⟨by assumption,by simp;omega⟩) (by dsimp only[Me];simp;omega)⟩
 exact⟨⟨Q2,Q2,Q0⟩,rfl,rfl⟩
 exact⟨⟨Q2,Q2,Q0⟩,rfl,rfl⟩
/-! ### How An2 events a byte tells -/
def tl8 (m:Mac):Nat:=m.out.length+m.d.stack.length
theorem Ja (m:Mac) (c a:Int):tl8 (Az m c a)=tl8 m+1:=by unfold tl8 Az A9;simp<;>omega
theorem Aj9 {m q:Mac} (h:A0 m=some q):tl8 q≤tl8 m+(if m.d.mode=6 then 1 else 0)∧q.d.mode≠6:=by
 unfold A0 at h
 split at h
 ·rename_i h1
  rw[if_pos h1.1]
  split at h
  ·cases h;exact⟨Nat.le_of_eq (Ja m 5 m.d.at_),show (9:Int)≠6 by decide⟩
  ·cases h;exact⟨by unfold tl8;simp<;>omega,show (2:Int)≠6 by decide⟩
 ·split at h
  ·rename_i h1 h2
   cases h
   rw[if_neg (by omega)]
   exact⟨Nat.le_refl _,show (2:Int)≠6 by decide⟩
  ·split at h
   ·rename_i h1 h2 h3
    have:=h3.2.2.1
    split at h
    ·cases h
     exact⟨by unfold tl8;simp<;>omega,show (1:Int)≠6 by decide⟩
    ·cases h
     exact⟨by unfold tl8;simp<;>omega,show m.d.mode≠6 by omega⟩
   ·cases h
theorem Jv (m:Mac):tl8 (Af m)≤tl8 m+(if m.d.mode=6 then 1 else 0):=by
 suffices ∀(k:Nat) (m:Mac),wM m≤k→tl8 (Af m)≤tl8 m+(if m.d.mode=6 then 1 else 0) from this _ m (Nat.le_refl _)
 intro k
 induction k with
 |zero=>
  intro m hk
  cases h:A0 m with
  |none=>rw[B6 h];omega
  |some q=>have:=(Cc h).1;omega
 |succ k ih=>
  intro m hk
  cases h:A0 m with
  |none=>rw[B6 h];omega
  |some q=>
   have h1:=Cc h
   have h2:=Aj9 h
   have h3:=ih q (by omega)
   rw[if_neg h2.2] at h3
   rw[Cq h];omega
theorem Aka {m:Mac} {u:Int} (h1:m.d.stack.length=0):tl8 (C1 m u)≤tl8 m+2:=by
 unfold C1
 split
 ·rw[Ja];omega
 ·refine Nat.le_trans (Jv _) ?_
  rw[if_neg (show¬(2:Int)=6 by decide)]
  unfold tl8;simp<;>omega
theorem Aoq (m:Mac) (u:Int):tl8 (Ew m u)≤tl8 m+1:=by
 unfold Ew
 split
 ·exact Nat.le_of_eq (Ja _ _ _)
 split
 ·exact Nat.le_of_eq (Ja _ _ _)
 split
 ·exact Nat.le_of_eq (Ja _ _ _)
 split
 ·exact Nat.le_of_eq (Ja _ _ _)
 ·exact Nat.le_succ _
theorem Anb (m:Mac) (u:Int):tl8 (Ct m u)≤tl8 m+2:=by
 unfold Ct
 split
 ·rw[Ja];omega
 split
 ·refine Nat.le_trans (Jv _) ?_
  rw[if_neg (show¬(7:Int)=6 by decide)]
  exact Nat.le_add_right _ 2
 split
 ·split
  ·rw[Ja];omega
  ·refine Nat.le_trans (Jv _) ?_
   rw[if_neg (show¬(2:Int)=6 by decide)]
   unfold tl8;simp<;>omega
 split
 ·refine Nat.le_trans (Jv _) ?_
  rw[if_pos (show (6:Int)=6 from rfl)]
  unfold tl8;simp<;>omega
 split
 ·rw[Ja];omega
 ·refine Nat.le_trans (Jv _) ?_
  rw[if_neg (show¬(8:Int)=6 by decide)]
  exact Nat.le_add_right _ 2
theorem Ad9 (m:Mac) (u:Int):tl8 (Br m u)≤tl8 m+1∧(Br m u).d.mode≠6:=by
 have:=Fg m u
 refine⟨by unfold tl8;show (Br m u).out.length+m.d.stack.length≤_;omega,?_⟩
 show (if m.d.mode=8 then (8:Int) else 2)≠6
 split<;>decide
theorem Aij (m:Mac) (u:Int):tl8 (Af (Br m u))≤tl8 m+1:=by
 have h:=Ad9 m u
 have h2:=Jv (Br m u)
 rw[if_neg h.2] at h2
 omega
theorem Aor {m:Mac} {b a:Int} (h1:m.d.mode=1→m.d.stack.length=0):tl8 (Bx m b a)≤tl8 m+2:=by
 unfold Bx
 split
 ·rw[Ja];exact Nat.le_succ _
 split
 ·unfold Wq
  split
  ·rw[Ja];exact Nat.le_succ _
  ·exact Nat.le_add_right _ 2
 split
 ·rename_i hm;exact Aka (h1 hm)
 split
 ·exact Nat.le_trans (Aoq _ _) (Nat.le_succ _)
 split
 ·exact Anb _ _
 ·exact Nat.le_trans (Aij _ _) (Nat.le_succ _)
theorem Aos (m:Mac) (b:Int):tl8 (D2 m b)≤tl8 m+2:=by
 unfold D2
 split
 ·exact Nat.le_add_right _ 2
 split
 ·rw[Ja]
  have:=(Ad9 ⟨Ht m.d scn0,m.out⟩ (Bz m.d.scan b).bits).1
  have e:tl8 ⟨Ht m.d scn0,m.out⟩=tl8 m:=rfl
  omega
 ·exact Nat.le_trans (Aij _ _) (Nat.le_succ _)
theorem Anc (m:Mac) (b:Int):tl8 (Ez m b)≤tl8 m+2:=by
 have hs: ∀d:Dcd,d.stack.length=m.d.stack.length→tl8 (Af ⟨d,m.out++[Zo b]⟩)≤tl8 m+2:=by
  intro d hd
  refine Nat.le_trans (Jv _) ?_
  have:tl8 ⟨d,m.out++[Zo b]⟩=tl8 m+1:=by unfold tl8;simp<;>omega
  rw[this];split<;>omega
 unfold Ez
 split
 ·split
  ·rw[Ja];omega
  ·exact hs _ rfl
 ·exact hs _ rfl
theorem Ane {m:Mac} {b:Int} (h1:m.d.mode=1→m.d.stack.length=0):tl8 (Ep m b)≤tl8 m+2:=by
 have hd:tl8 ⟨Df m.d,m.out⟩=tl8 m:=by unfold tl8;show m.out.length+(Df m.d).stack.length=_;rw[Hb]
 have h2:(Df m.d).mode=1→(Df m.d).stack.length=0:=fun h=>by rw[Hb];exact h1 h
 unfold Ep
 split
 ·have:=Anc ⟨Df m.d,m.out⟩ b;omega
 split
 ·rename_i h7
  have:=Jv ⟨Df m.d,m.out⟩
  rw[if_neg (show¬(Df m.d).mode=6 by show¬m.d.mode=6;omega)] at this
  omega
 split
 ·have:=Aos ⟨Df m.d,m.out⟩ b;omega
 ·have:=Aor (m:=⟨Df m.d,m.out⟩) (b:=b) (a:=m.d.at_) h2;omega
theorem Anf (m:Mac) (b:Int):tl8 (Rr m b)≤tl8 m+2:=by
 unfold Rr Cp
 split
 ·rename_i h
  have hs:=(Mi h.1).2.2.2.2.2.2.2.2.1
  have:=Ane (m:=⟨m.d,[]⟩) (b:=b) (fun h1=>by
   have h1:m.d.mode=1:=h1
   unfold J2 at hs
   rw[if_pos h1] at hs
   have:=of_decide_eq_true hs
   show m.d.stack.length=0
   rw[this];rfl)
  unfold tl8 at this ⊢
  simp only[List.length_nil,List.length_append] at this ⊢
  omega
 ·unfold tl8;simp
theorem Aik: ∀(s:List UInt8) (m:Mac),tl8 (Cv m s)≤tl8 m+2*s.length
 |[],m=>Nat.le_refl _
 |b::r,m=>by
  have h1:=Anf m (b.toNat:Int)
  have h2:=Aik r (Rr m (b.toNat:Int))
  rw[G0,List.length_cons];omega
theorem Ang (d:Dcd) (s:List UInt8):(Bk d s).out.length+(Bk d s).d.stack.length≤d.stack.length+2*s.length:=by
 have h:=Aik s ⟨d,[]⟩
 have hm:=Yq (Cv ⟨d,[]⟩ s).out
 unfold tl8 at h
 simp only[List.length_nil] at h
 show (Ft (Cv ⟨d,[]⟩ s).out).length+(Cv ⟨d,[]⟩ s).d.stack.length≤_
 omega
/-! ### How An2 pulls a stream takes -/
theorem Afo {r:Rdr} (h:Bo r=true):(((A2 r 16).length:Nat):Int)=(A7 r 16).at_-r.at_∧(A2 r 16).length≤16:=by
 have ht:=Eg h
 have hc:=Td (Dm r 16).n 16 ((r.data.length:Int)-r.at_)
 have hn:rsN r 16=Dv (Dm r 16).n 16 ((r.data.length:Int)-r.at_):=rfl
 have hc16:rsN r 16≤16:=by rw[hn];unfold Dv;omega
 unfold A2 A7
 split
 ·simp
 ·rw[List.length_drop,List.length_take]
  dsimp only
  omega
def pot (s:Strm):Nat:=s.queue.length+(if s.dec.mode=9 then 0 else s.dec.stack.length+2*((s.reader.data.length:Int)-s.reader.at_).toNat+1)
theorem Akb {s:Strm} (hr:Bo s.reader=true) (hd:Bv s.dec=true) (hq:s.queue=[]) (h9:s.dec.mode≠9):pot (Cw s)≤pot s∧(Cw s).queue.length≤60:=by
 have hl:=Afo hr
 have ht:=Eg hr
 have hr2:=Eg (Fu hr)
 have hk:=To s.reader 16
 have hc:=Ang s.dec (A2 s.reader 16)
 have he:=Ad2 (Bk s.dec (A2 s.reader 16)).d (B0 s.reader 16)
 have hst:=Nz hr hd
 rw[hk.1] at hr2
 have hqq:(Cw s).queue.length=(Bk s.dec (A2 s.reader 16)).out.length+(W1 (Bk s.dec (A2 s.reader 16)).d (B0 s.reader 16)).out.length:=by
  show (s.queue++_++_).length=_
  rw[hq,List.nil_append,List.length_append]
 refine⟨?_,by omega⟩
 unfold pot
 rw[hqq,hq,if_neg h9]
 rw[show (Cw s).reader=A7 s.reader 16 from rfl,hk.1,show (Cw s).dec=(W1 (Bk s.dec (A2 s.reader 16)).d (B0 s.reader 16)).d from rfl]
 split
 ·simp only[List.length_nil];omega
 ·rename_i hn
  have hes:(W1 (Bk s.dec (A2 s.reader 16)).d (B0 s.reader 16)).out.length=0∧(W1 (Bk s.dec (A2 s.reader 16)).d (B0 s.reader 16)).d.stack.length=(Bk s.dec (A2 s.reader 16)).d.stack.length:=by
   have hok:Bv (Bk s.dec (A2 s.reader 16)).d=true:=Vn _ hd
   generalize (Bk s.dec (A2 s.reader 16)).d=d at *
   unfold W1 at hn ⊢
   split
   ·exact⟨rfl,rfl⟩
   ·rename_i h9'
    rw[if_neg h9'] at hn
    split
    ·rename_i hc1
     rw[if_pos hc1] at hn
     exact absurd ((Acm hok).2 h9') hn
    ·rename_i hc1
     rw[if_neg hc1] at hn
     split
     ·rename_i hc2
      rw[if_pos hc2] at hn
      unfold Jx at hn
      rw[if_pos ⟨hok,h9',by omega⟩] at hn
      exact absurd rfl hn
     ·exact⟨rfl,rfl⟩
  simp only[List.length_nil]
  omega
theorem Abo: ∀(k:Nat) {s:Strm},Bo s.reader=true→Bv s.dec=true→pot (Jk k s)≤pot s∧(Jk k s).queue.length≤max s.queue.length 60
 |0,s,_,_=>⟨Nat.le_refl _,by rw[Jk];omega⟩
 |k+1,s,h1,h2=>by
  rw[Jk]
  split
  ·rename_i h
   have hf:=Akb h1 h2 h.1 h.2
   have hg:=Abo k (s:=Cw s) (Fu h1) (K9 h2)
   omega
  ·omega
theorem Afp {s:Strm} (hs:Dn s=true) (hq:s.queue=[]) (h9:s.dec.mode=9):Rs s=s∧Ad3 s=s.dec.end_:=by
 have hd:G6 s=s:=H4 (fun h=>h.2 h9)
 unfold Rs Ad3
 rw[hd,hq]
 refine⟨?_,rfl⟩
 cases s;simp at hq;subst hq;rfl
theorem Anh {s:Strm} (hs:Dn s=true) (hr:s.reads≤1000000):Dn (Rs s)=true:=by
 obtain ⟨h1,h2,h3⟩:=Tn hs
 have hp:=Z7 h1 h2
 exact Ah2 hp.rd hp.dc (hp.re h3 Q2).1
theorem Afq {s:Strm} (hs:Dn s=true):(Rs s).queue.length≤max s.queue.length 60:=by
 obtain ⟨h1,h2,h3⟩:=Tn hs
 have h:=(Abo (rmu s.reader+1) h1 h2).2
 show ((G6 s).queue.drop 1).length≤_
 rw[List.length_drop]
 have h:(G6 s).queue.length≤_:=h
 omega
structure StrK (n:Nat) (s:Strm):Prop where
 dec:DecB s.dec
 da:s.reader.data.length≤200000
 sc:s.reader.script.length≤201
 qu:s.queue.length≤100
 re:s.reads≤4201*(n:Int)
theorem StrK.shs {n:Nat} {s:Strm} (h:StrK n s):s.dec.plan.shapes.length≤3:=h.dec.shs
theorem StrK.flds {n:Nat} {s:Strm} (h:StrK n s): ∀e∈s.dec.plan.shapes,e.fields.length≤5:=h.dec.flds
theorem StrK.mono {n m:Nat} {s:Strm} (h:StrK n s) (hm:n≤m):StrK m s:=⟨h.dec,h.da,h.sc,h.qu,by have:=h.re;omega⟩
theorem Qq {n:Nat} {s:Strm} (h:StrK n s) (hn:n≤100):StrK (n+1) (Dp s)∧(Dp s).queue.length≤max s.queue.length 60:=by
 by_cases hs:Dn s=true
 ·obtain ⟨h1,h2,h3⟩:=Tn hs
  have hk:=Z7 h1 h2
  have hl:=Nz hk.rd hk.dc
  have hq:=Afq hs
  have hr:=h.re
  have hre:=(hk.re h3 (by omega)).2
  have hqu:=h.qu
  have e:Dp s=Rs s:=by unfold Dp;rw[if_pos hs]
  rw[e]
  exact⟨⟨h.dec.like hk.pl Q2 hl.2.2.2.1,by rw[hk.da];exact h.da,by rw[hk.sc];exact h.sc,by omega,by omega⟩,hq⟩
 ·have e:Dp s=s:=by unfold Dp;rw[if_neg hs]
  rw[e];exact⟨h.mono (by omega),by omega⟩
theorem Abp {p:Pln} {data:List UInt8} {script:List Rd} (h:PlnG p) (h1:data.length≤200000) (h2:script.length≤201):StrK 0 (Fo p data script)∧(Fo p data script).queue=[]:=by
 unfold Fo
 split
 ·refine⟨⟨Vz h,?_,?_,by simp,by simp⟩,rfl⟩
  ·show (Lo data script).data.length≤_
   unfold Lo;split
   ·exact h1
   ·simp
  ·show (Lo data script).script.length≤_
   unfold Lo;split
   ·exact h2
   ·simp
 ·exact⟨⟨⟨.inl rfl,by show (0:Int)≤4;decide,by simp[Ao3],by show (0:Int)≤0∧(0:Int)≤18446744073709551615;decide⟩,by simp[An5],by simp[An5],by simp,by simp⟩,rfl⟩
structure F2 where
 s:Strm
 c1:Cur
def Xr (c:Cur) (o:F2):Prop:=Fun Tryz.prog 69 [vP 0] [.cells (B2 c)] (.v (.agg (Ar 1 2 3 4 o.s))) [.cells (B2 o.c1),.lst .rd o.s.reader.script,.tree o.s.dec.plan.shapes,.lst .lev o.s.dec.stack,.lst .ev o.s.queue]
def St (c:Cur) (o:F2):Prop:=((StrK 6 o.s)∧(Au o.c1))∧Xr c o
structure Mf where
 c:Cur
 s:Strm
 i:Nat
def F3 (o4:Cm):Fam:=⟨Mf,fun q1=>[(0,.v (vP 0)),(2,.v (vP 1)),(4,.v (vP 2)),(6,.v (vI o4.x)),(7,.v (vI ((q1.i:Nat):Int)))],fun q1=>[.cells (B2 q1.c),.cells [.str [],.int .i64 0,.nil,.int .i64 0,.int .i64 0,.nil,.int .i64 0,.int .i64 0,.int .i64 0,.int .i64 0,.nil,.int .u64 0,.int .i64 0,.int .i64 0,.int .i64 0,.int .i64 0,.int .i64 0,.bool false,.bool false,.int .i64 0,.int .i64 0,.int .i64 0,.int .i64 0,.int .i64 0,.int .i64 0,.int .i64 0,.int .i64 0,.int .u64 0,.int .i64 0,.str [],.int .i64 0,.int .i64 0,.nil,.int .i64 0],.cells (Ar 3 4 5 6 q1.s),.lst .rd q1.s.reader.script,.tree q1.s.dec.plan.shapes,.lst .lev q1.s.dec.stack,.lst .ev q1.s.queue],fun q1=>Au q1.c∧StrK q1.i q1.s∧List.length (q1.s).queue≤60∧q1.i≤6,fun q1=>7-q1.i⟩
theorem Aim (c:Cur) (hp1:Au c): ∃o:F2,St c o:=by
 have hN:A8=274877906944:=rfl
 refine B4 Tryz.func69 Q4 Q4 (w:=let zi:Int→C:= .int .i64;let z21:List C:=[.str [],zi 0,.nil,zi 0,zi 0,.nil,zi 0,zi 0,zi 0,zi 0,.nil,.int .u64 0,zi 0,zi 0,zi 0,zi 0,zi 0,.bool false,.bool false,zi 0,zi 0,zi 0,zi 0,zi 0,zi 0,zi 0,zi 0,.int .u64 0,zi 0,.str [],zi 0,zi 0,.nil,zi 0];let z22:=([(0,.v (vP 0)),(2,.v (vP 1)),(4,.v (vP 2))]:List (Nat×S))=[(0,.v (vP 0)),(2,.v (vP 1)),(4,.v (vP 2))];let z23:=fr (.one 11 (.first 12 (.done))) 7 3;(.intro (La c) fun o1=> .seg [.call [0] (.v (.agg (Mg o1.p))) (Kc o1.c1)] (.intro (Jt o1.c1 o1.p) fun o2=> .intro (Hi o2.c1) fun o3=>let z15:=Fo o1.p o2.t o3.l;let z13:List Blk:=[.lst .rd z15.reader.script,.tree z15.dec.plan.shapes,.lst .lev z15.dec.stack,.lst .ev z15.queue];let z14:S:= .tup [.agg (Ar 0 1 2 3 z15),vB (K6 o1.p o2.t o3.l)];let z16:List Blk:=[.cells (B2 o3.c1),.lst .rd o3.l];.seg [.tree (fr (.first 4 (.two 3 (.two 5 (.two 6 (fr (.one 10 (.one 11 (.first 12 (.done)))) 7 3) 10 (.one 6 z23)) 10 (.one 5 (.one 6 z23))) 10 (.one 3 (.one 5 (.one 6 z23))))) 0 3) 13 [0],.call [0] (.v (vT o2.t)) (Kc o2.c1),.call [0] (.v (vO 1)) z16,.call [] z14 z13,.at 0,.keep [0,2,4],.sel [0,1,8,4,5,6,7],.call [] z14 z13,.at 0,.keep [0,2,4],.sel [0,1,4,5,6,7,8],.call [0] (.v (vO 1)) z16,.call [] z14 z13,.at 0,.keep [0,2,4],.sel [0,1,3,5,6,7,8],.call [0] (.v (vT o2.t)) (Kc o2.c1),.call [0] (.v (vO 1)) z16,.call [] z14 z13,.at 0,.keep [0,2,4],.sel [0,1,3,5,6,7,8]] (.intro (Aa o3.c1 6) fun o4=> .seg [.call [0] (.v (vI o4.x)) (Kc o4.c1),.at 0,.keep [0,2,4,6,7],.sel [0,1,2,3,4,5,6]] (.loop (F3 o4) fun q1=>let z9:=Dp q1.s;.br (.seg [.call [] (.tup [.agg (Ar 0 1 2 3 z9),.agg (cEv (J0 q1.s))]) [.lst .rd z9.reader.script,.tree z9.dec.plan.shapes,.lst .lev z9.dec.stack,.lst .ev z9.queue],.as 26 (.v (vI (((q1.i:Nat):Int)+1))),.at 0,.keep [0,2,4,6,7],.sel [0,1,2,7,8,9,10]] (.next)) (.intro (Aa q1.c 12) fun o5=> .seg [.call [0] (.v (vI o5.x)) (Kc o5.c1)] (.br (.intro (Ss o5.c1) fun o6=> .seg [.call [0] (.v (.agg (Fd 1 o6.r))) [.cells (B2 o6.c1),.lst .rd o6.r.script]] (.leaf (⟨(⟨o6.r,q1.s.dec,q1.s.queue,q1.s.reads⟩:Strm),o6.c1⟩:F2) [0,7,4,5,6])) (.br (.intro (Sr o5.c1) fun o6=> .seg [.call [0] (.v (.agg (Ae 1 2 o6.d))) [.cells (B2 o6.c1),.tree o6.d.plan.shapes,.lst .lev o6.d.stack]] (.leaf (⟨(⟨q1.s.reader,o6.d,q1.s.queue,q1.s.reads⟩:Strm),o6.c1⟩:F2) [0,3,7,8,6])) (.br (.intro (Le o5.c1) fun o6=> .seg [.ord (os 8 [3,4,5,7]) [0,6],.call [0] (.v (.agg (cEv o6.e))) (Kc o6.c1),.ty .ev,.ty .ev] (.leaf (⟨(⟨q1.s.reader,q1.s.dec,q1.s.queue++[o6.e],q1.s.reads⟩:Strm),o6.c1⟩:F2) [0,3,4,5,8])) (.br (.seg [.ty .int,.pubS 56] (.intro (A1 o5.c1 [(-1),0,5]) fun o6=> .seg [.call [0] (.v (vI o6.x)) (Kc o6.c1)] (.leaf (⟨(⟨q1.s.reader,q1.s.dec,q1.s.queue,o6.x⟩:Strm),o6.c1⟩:F2) [0,3,4,5,6]))) (.leaf (⟨q1.s,o5.c1⟩:F2) [0,3,4,5,6]))))))))),In (La c) fun o1=>((Sn c o1)∧In (Jt o1.c1 o1.p) fun o2=>(In (Hi o2.c1) fun o3=>(let z18:=Fo o1.p o2.t o3.l;let z17:List Blk:=[.cells (B2 o3.c1),.cells z21,.cells (Ar 3 4 5 6 z18),.lst .rd z18.reader.script,.tree z18.dec.plan.shapes,.lst .lev z18.dec.stack,.lst .ev z18.queue];let z19:S:= .tup [.agg (Ar 0 1 2 3 z18),vB (K6 o1.p o2.t o3.l)];let z20:=N6 o2.c1 o3;(Mb o1.c1 o1.p o2)∧z20∧(Fp 140 [.agg (Mg o1.p),vT o2.t,.c (.seq .rd o3.l)] [] z19 [.lst .rd z18.reader.script,.tree z18.dec.plan.shapes,.lst .lev z18.dec.stack,.lst .ev z18.queue])∧(Fp 140 [.agg (Mg o1.p),vT o2.t,.c (.seq .rd o3.l)] [] z19 [.lst .rd z18.reader.script,.tree z18.dec.plan.shapes,.lst .lev z18.dec.stack,.lst .ev z18.queue])∧((z17:List Blk)=z17)∧z22∧z20∧(Fp 140 [.agg (Mg o1.p),vT o2.t,.c (.seq .rd o3.l)] [] z19 [.lst .rd z18.reader.script,.tree z18.dec.plan.shapes,.lst .lev z18.dec.stack,.lst .ev z18.queue])∧((z17:List Blk)=z17)∧z22∧(Mb o1.c1 o1.p o2)∧z20∧(Fp 140 [.agg (Mg o1.p),vT o2.t,.c (.seq .rd o3.l)] [] z19 [.lst .rd z18.reader.script,.tree z18.dec.plan.shapes,.lst .lev z18.dec.stack,.lst .ev z18.queue])∧((z17:List Blk)=z17)∧z22∧In (Aa o3.c1 6) fun o4=>((Ai o3.c1 6 o4)∧(F3 o4).Has [(0,.v (vP 0)),(2,.v (vP 1)),(4,.v (vP 2)),(6,.v (vI o4.x)),(7,.v (vI 0))] [.cells (B2 o4.c1),.cells z21,.cells (Ar 3 4 5 6 z18),.lst .rd z18.reader.script,.tree z18.dec.plan.shapes,.lst .lev z18.dec.stack,.lst .ev z18.queue]∧∀q1,(F3 o4).inv q1→(let z10:S:= .v (.agg (Ar 1 2 3 4 q1.s));let z11:=Dp q1.s;let z12:=((q1.i:Nat):Int);Bc (decide (z12<o4.x)) ((Fp 28 [.agg (Sf q1.s)] [] (.tup [.agg (Ar 0 1 2 3 z11),.agg (cEv (J0 q1.s))]) [.lst .rd z11.reader.script,.tree z11.dec.plan.shapes,.lst .lev z11.dec.stack,.lst .ev z11.queue])∧(wI (z12+1))∧(F3 o4).Nxt q1 [(0,.v (vP 0)),(2,.v (vP 1)),(4,.v (vP 2)),(6,.v (vI o4.x)),(7,.v (vI (z12+1)))] [.cells (B2 q1.c),.cells z21,.cells (Ar 3 4 5 6 z11),.lst .rd z11.reader.script,.tree z11.dec.plan.shapes,.lst .lev z11.dec.stack,.lst .ev z11.queue]) (In (Aa q1.c 12) fun o5=>(let z8:List Blk:=[.cells (B2 o5.c1),.lst .rd q1.s.reader.script,.tree q1.s.dec.plan.shapes,.lst .lev q1.s.dec.stack,.lst .ev q1.s.queue];(Ai q1.c 12 o5)∧Bc (decide (o5.x=0)) (In (Ss o5.c1) fun o6=>(let z1:S:= .v (.agg [.str o6.r.data,zi o6.r.at_,.own 1,zi o6.r.next,zi o6.r.code,.own 2,zi q1.s.dec.plan.root,zi q1.s.dec.plan.deep,zi q1.s.dec.plan.most,zi q1.s.dec.mode,.own 3,.int .u64 q1.s.dec.scan.bits,zi q1.s.dec.scan.have_,zi q1.s.dec.start,zi q1.s.dec.at_,zi q1.s.dec.field.number,zi q1.s.dec.field.kind,.bool q1.s.dec.field.rep,.bool q1.s.dec.field.packed,zi q1.s.dec.field.msg,zi q1.s.dec.wire,zi q1.s.dec.want,zi q1.s.dec.utf.want,zi q1.s.dec.utf.low,zi q1.s.dec.utf.high,zi q1.s.dec.end_.kind,zi q1.s.dec.end_.field,.int .u64 q1.s.dec.end_.bits,zi q1.s.dec.end_.len,.str q1.s.dec.end_.text,zi q1.s.dec.end_.code,zi q1.s.dec.end_.at_,.own 4,zi q1.s.reads]);let z2:List Blk:=[.cells (B2 o6.c1),.lst .rd o6.r.script,.tree q1.s.dec.plan.shapes,.lst .lev q1.s.dec.stack,.lst .ev q1.s.queue];(Xq o5.c1 o6)∧((StrK 6 (⟨o6.r,q1.s.dec,q1.s.queue,q1.s.reads⟩:Strm))∧(Au o6.c1))∧Lf z1 z1 z2 z2)) (Bc (decide (o5.x=1)) (In (Sr o5.c1) fun o6=>(let z3:S:= .v (.agg [.str q1.s.reader.data,zi q1.s.reader.at_,.own 1,zi q1.s.reader.next,zi q1.s.reader.code,.own 2,zi o6.d.plan.root,zi o6.d.plan.deep,zi o6.d.plan.most,zi o6.d.mode,.own 3,.int .u64 o6.d.scan.bits,zi o6.d.scan.have_,zi o6.d.start,zi o6.d.at_,zi o6.d.field.number,zi o6.d.field.kind,.bool o6.d.field.rep,.bool o6.d.field.packed,zi o6.d.field.msg,zi o6.d.wire,zi o6.d.want,zi o6.d.utf.want,zi o6.d.utf.low,zi o6.d.utf.high,zi o6.d.end_.kind,zi o6.d.end_.field,.int .u64 o6.d.end_.bits,zi o6.d.end_.len,.str o6.d.end_.text,zi o6.d.end_.code,zi o6.d.end_.at_,.own 4,zi q1.s.reads]);let z4:List Blk:=[.cells (B2 o6.c1),.lst .rd q1.s.reader.script,.tree o6.d.plan.shapes,.lst .lev o6.d.stack,.lst .ev q1.s.queue];(Xp o5.c1 o6)∧((StrK 6 (⟨q1.s.reader,o6.d,q1.s.queue,q1.s.reads⟩:Strm))∧(Au o6.c1))∧Lf z3 z3 z4 z4)) (Bc (decide (o5.x=2)) (In (Le o5.c1) fun o6=>(let z5:List Blk:=[.cells (B2 o6.c1),.lst .rd q1.s.reader.script,.tree q1.s.dec.plan.shapes,.lst .lev q1.s.dec.stack,.lst .ev (q1.s.queue++[o6.e])];(Sp o5.c1 o6)∧(List.length q1.s.queue+List.length [o6.e]≤A8)∧((StrK 6 (⟨q1.s.reader,q1.s.dec,q1.s.queue++[o6.e],q1.s.reads⟩:Strm))∧(Au o6.c1))∧Lf z10 z10 z5 z5)) (Bc (decide (o5.x=3)) (In (A1 o5.c1 [(-1),0,5]) fun o6=>(let z6:S:= .v (.agg [.str q1.s.reader.data,zi q1.s.reader.at_,.own 1,zi q1.s.reader.next,zi q1.s.reader.code,.own 2,zi q1.s.dec.plan.root,zi q1.s.dec.plan.deep,zi q1.s.dec.plan.most,zi q1.s.dec.mode,.own 3,.int .u64 q1.s.dec.scan.bits,zi q1.s.dec.scan.have_,zi q1.s.dec.start,zi q1.s.dec.at_,zi q1.s.dec.field.number,zi q1.s.dec.field.kind,.bool q1.s.dec.field.rep,.bool q1.s.dec.field.packed,zi q1.s.dec.field.msg,zi q1.s.dec.wire,zi q1.s.dec.want,zi q1.s.dec.utf.want,zi q1.s.dec.utf.low,zi q1.s.dec.utf.high,zi q1.s.dec.end_.kind,zi q1.s.dec.end_.field,.int .u64 q1.s.dec.end_.bits,zi q1.s.dec.end_.len,.str q1.s.dec.end_.text,zi q1.s.dec.end_.code,zi q1.s.dec.end_.at_,.own 4,zi o6.x]);let z7:List Blk:=[.cells (B2 o6.c1),.lst .rd q1.s.reader.script,.tree q1.s.dec.plan.shapes,.lst .lev q1.s.dec.stack,.lst .ev q1.s.queue];(B5 o5.c1 [(-1),0,5] o6)∧((StrK 6 (⟨q1.s.reader,q1.s.dec,q1.s.queue,o6.x⟩:Strm))∧(Au o6.c1))∧Lf z6 z6 z7 z7)) (((StrK 6 q1.s)∧(Au o5.c1))∧Lf z10 z10 z8 z8))))))))))))) Q4 ?_
 refine⟨(Abk c Q0),fun o1 ho_o1=>?_⟩
 obtain ⟨⟨hp_o1_0,hp_o1_1⟩,hf_o1⟩:=ho_o1
 refine⟨hf_o1,(Y4 o1.c1 o1.p Q0 (by assumption)),fun o2 ho_o2=>?_⟩
 obtain ⟨⟨hp_o2_0,hp_o2_1⟩,hf_o2⟩:=ho_o2
 refine⟨(Xd o2.c1 Q0),fun o3 ho_o3=>?_⟩
 obtain ⟨⟨hp_o3_0,hp_o3_1⟩,hf_o3⟩:=ho_o3
 refine⟨hf_o2,hf_o3,(Tm o1.p _ _ Q61 Q61 Q85),(Tm o1.p _ _ Q61 Q61 Q85),rfl,rfl,hf_o3,(Tm o1.p _ _ Q61 Q61 Q85),rfl,rfl,hf_o2,hf_o3,(Tm o1.p _ _ Q61 Q61 Q85),rfl,rfl,(Ao o3.c1 6 Q0),fun o4 ho_o4=>?_⟩
 obtain ⟨⟨hp_o4_0,hp_o4_1,hp_o4_2,hp_o4_3⟩,hf_o4⟩:=ho_o4
 refine⟨hf_o4,Bj (j:=(⟨o4.c1,(Fo o1.p o2.t o3.l),0⟩:Mf)) Q9 rfl (by dsimp only[F3];exact⟨by assumption,(Abp hp_o1_0 Q2 Q2).1,by rw[(Abp (data:=o2.t) (script:=o3.l) hp_o1_0 (by omega) (by omega)).2];simp,by omega⟩),fun (q1:Mf) hq_q1=>?_⟩
 have hi_q1:Au q1.c∧StrK q1.i q1.s∧List.length (q1.s).queue≤60∧q1.i≤6:=hq_q1
 obtain ⟨v1,v2,v3,v4⟩:=hi_q1
 refine dsp (fun h1 p1=>?_) fun h1 p1=>?_
 exact⟨(Ak0 q1.s (by have:=(v2).shs;omega) (fun e he=>by have:=(v2).flds e he;omega) (by have:=(v2).dec.stack;omega) (by have:=(v2).sc;omega) (by have:=(v2).qu;(try simp only[List.length_append,List.length_cons,List.length_nil]);omega) (by have:=(v2).da;omega)),(Ad Q2 Q2),A5 (j:=(⟨q1.c,(Dp q1.s),q1.i+1⟩:Mf)) Q9 rfl (by dsimp only[F3];exact⟨by assumption,(Qq v2 Q2).1,by have:=(Qq v2 Q2).2;omega,by omega⟩) (by dsimp only[F3];omega)⟩
 refine⟨(Ao q1.c 12 Q0),fun o5 ho_o5=>?_⟩
 obtain ⟨⟨hp_o5_0,hp_o5_1,hp_o5_2,hp_o5_3⟩,hf_o5⟩:=ho_o5
 refine⟨hf_o5,dsp (fun h2 p2=>?_) fun h2 p2=>?_⟩
 refine⟨(Aii o5.c1 Q0),fun o6 ho_o6=>?_⟩
 obtain ⟨⟨hp_o6_0,hp_o6_1,hp_o6_2⟩,hf_o6⟩:=ho_o6
 exact⟨hf_o6,⟨Q12,Q0⟩,rfl,rfl⟩
 refine dsp (fun h3 p3=>?_) fun h3 p3=>?_
 refine⟨(Aih o5.c1 Q0),fun o6 ho_o6=>?_⟩
 obtain ⟨⟨hp_o6_0,hp_o6_1⟩,hf_o6⟩:=ho_o6
 exact⟨hf_o6,⟨Q12,Q0⟩,rfl,rfl⟩
 refine dsp (fun h4 p4=>?_) fun h4 p4=>?_
 refine⟨(Abn o5.c1 Q0),fun o6 ho_o6=>?_⟩
 obtain ⟨⟨hp_o6_0,hp_o6_1,hp_o6_2⟩,hf_o6⟩:=ho_o6
 exact⟨hf_o6,(by have:=(v2).qu;(try simp only[List.length_append,List.length_cons,List.length_nil]);omega),⟨Q12,Q0⟩,rfl,rfl⟩
 refine dsp (fun h5 p5=>?_) fun h5 p5=>?_
 refine⟨(Cn o5.c1 [(-1),0,5] Q0 (by first|omega|(simp only[List.length_cons,List.length_nil];omega)) (by first|omega|(simp only[List.length_cons,List.length_nil];omega))),fun o6 ho_o6=>?_⟩
 obtain ⟨⟨hp_o6_0,hp_o6_1⟩,hf_o6⟩:=ho_o6
 exact⟨hf_o6,⟨Q12,Q0⟩,rfl,rfl⟩
 exact⟨⟨Q12,Q0⟩,rfl,rfl⟩
structure Jw where
 s:Strm
def U8 (code:List Int) (o:Jw):Prop:=Fun Tryz.prog 26 [.c (.seq .u8 code)] [] (.v (.agg (Ar 0 1 2 3 o.s))) [.lst .rd o.s.reader.script,.tree o.s.dec.plan.shapes,.lst .lev o.s.dec.stack,.lst .ev o.s.queue]
def Qr (code:List Int) (o:Jw):Prop:=((StrK 6 o.s))∧U8 code o
theorem Afr (code:List Int) (hp1:List.length code≤1048576): ∃o:Jw,Qr code o:=by
 have hN:A8=274877906944:=rfl
 refine B4 Tryz.func26 Q4 Q4 (w:=(.intro (Xc code) fun o1=> .seg [.call [] (.v (vP 0)) (Kc o1.c1)] (.intro (St o1.c1) fun o2=> .seg [.call [1] (.v (.agg (Ar 1 2 3 4 o2.s))) [.cells (B2 o2.c1),.lst .rd o2.s.reader.script,.tree o2.s.dec.plan.shapes,.lst .lev o2.s.dec.stack,.lst .ev o2.s.queue]] (.leaf (⟨o2.s⟩:Jw) [2,3,4,5])),In (Xc code) fun o1=>((Abg code o1)∧In (St o1.c1) fun o2=>(let z1:List Blk:=[.lst .rd o2.s.reader.script,.tree o2.s.dec.plan.shapes,.lst .lev o2.s.dec.stack,.lst .ev o2.s.queue];let z2:S:= .v (.agg (Ar 0 1 2 3 o2.s));(Xr o1.c1 o2)∧((StrK 6 o2.s))∧Lf z2 z2 z1 z1)))) Q4 ?_
 refine⟨(Am4 code Q2),fun o1 ho_o1=>?_⟩
 obtain ⟨hp_o1,hf_o1⟩:=ho_o1
 refine⟨hf_o1,(Aim o1.c1 Q0),fun o2 ho_o2=>?_⟩
 obtain ⟨⟨hp_o2_0,hp_o2_1⟩,hf_o2⟩:=ho_o2
 exact⟨hf_o2,(by assumption),rfl,rfl⟩
structure Ain where
 s:Strm
structure Hq where
 i:Nat
def Kj (l:List Shp):Fam:=⟨Hq,fun q1=>[(2,.v (vP 0)),(3,.v (vP 1)),(5,.v (vI ((q1.i:Nat):Int)))],fun _=>[.cells [.seq .shp l],.cells [.seq .shp l]],fun q1=>q1.i≤List.length l,fun q1=>List.length l-q1.i⟩
structure Kk where
 k:Nat
def Hr (l:List Shp) (q1:Hq) (x1:Shp):Fam:=⟨Kk,fun q2=>[(2,.v (vP 0)),(3,.v (vP 1)),(5,.v (vI ((q1.i:Nat):Int))),(6,.v (vP 2)),(7,.v (vP 3)),(8,.v (vI ((q2.k:Nat):Int)))],fun _=>[.cells [.seq .shp l],.cells [.seq .shp l],.cells (Akp x1),.cells (Akp x1)],fun q2=>q2.k≤List.length x1.fields,fun q2=>List.length x1.fields-q2.k⟩
theorem Afs (l:List Shp) (hp1:List.length l≤A8) (hp2: ∀e∈l,List.length e.fields≤A8):Fun Tryz.prog 68 [.agg [.seq .shp l],.agg [.seq .shp l]] [] (.v (vB true)) []:=by
 have hN:A8=274877906944:=rfl
 refine Aq Tryz.func68 Q4 Q4 (w:=let z7:=((List.length l:Nat):Int);let z8:=Kj l;let z9:List Blk:=[.cells [.seq .shp l],.cells [.seq .shp l]];(.seg [.br false,.at 0,.keep [2,3,5],.sel [0,1]] (.loop z8 fun q1=> .br (.intro (Sx (l[q1.i]?)) fun x1=> .seg [.el .shp x1,.el .shp x1,.br false,.br false,.at 0,.keep [2,3,5,6,7,8],.sel [0,1,2,3]] (.loop (Hr l q1 x1) fun q2=> .br (.intro (Sx (x1.fields[q2.k]?)) fun x2=> .seg [.ord (os 11 []) [],.el .fld x2,.el .fld x2] (.br (.leaf () []) (.seg [.as 53 (.v (vI (((q2.k:Nat):Int)+1))),.at 0,.keep [2,3,5,6,7,8],.sel [0,1,2,3]] (.next)))) (.seg [.as 22 (.v (vI (((q1.i:Nat):Int)+1))),.at 0,.keep [2,3,5],.sel [0,1]] (.next)))) (.leaf () [])),((!decide (z7=z7))=false)∧z8.Has [(2,.v (vP 0)),(3,.v (vP 1)),(5,.v (vI 0))] z9∧∀q1,z8.inv q1→(let z6:=((q1.i:Nat):Int);Bc (decide (z6<z7)) (El (l[q1.i]?) fun x1=>(let z3:List Blk:=[.cells [.seq .shp l],.cells [.seq .shp l],.cells (Akp x1),.cells (Akp x1)];let z4:=((List.length x1.fields:Nat):Int);let z5:=Hr l q1 x1;(l[q1.i]? =some x1)∧((0:Int)≤z6)∧(l[q1.i]? =some x1)∧((0:Int)≤z6)∧((!decide (x1.id=x1.id))=false)∧((!decide (z4=z4))=false)∧z5.Has [(2,.v (vP 0)),(3,.v (vP 1)),(5,.v (vI z6)),(6,.v (vP 2)),(7,.v (vP 3)),(8,.v (vI 0))] z3∧∀q2,z5.inv q2→(let z2:=((q2.k:Nat):Int);Bc (decide (z2<z4)) (El (x1.fields[q2.k]?) fun x2=>(let z1:=x1.fields[q2.k]? =some x2;z1∧((0:Int)≤z2)∧z1∧((0:Int)≤z2)∧z1∧((0:Int)≤z2)∧z1∧((0:Int)≤z2)∧Bc (!(decide (x2.number=x2.number)&&(decide (x2.kind=x2.kind)&&(decide (x2.rep=x2.rep)&&(decide (x2.packed=x2.packed)&&decide (x2.msg=x2.msg)))))) (Lf (.v (vB false)) (.v (vB true)) [] []) ((wI (z2+1))∧z5.Nxt q2 [(2,.v (vP 0)),(3,.v (vP 1)),(5,.v (vI z6)),(6,.v (vP 2)),(7,.v (vP 3)),(8,.v (vI (z2+1)))] z3))) ((wI (z6+1))∧z8.Nxt q1 [(2,.v (vP 0)),(3,.v (vP 1)),(5,.v (vI (z6+1)))] z9)))) (Lf (.v (vB true)) (.v (vB true)) [] [])))) Q4 ?_
 refine⟨Q80,Bj (j:=(⟨0⟩:Hq)) Q9 rfl (by dsimp only[Kj];omega),fun (q1:Hq) hq_q1=>?_⟩
 have hi_q1:q1.i≤List.length l:=hq_q1
 refine dsp (fun h1 p1=>?_) fun h1 p1=>?_
 refine⟨(Bm (l:=l) (i:=q1.i) Q2),fun x1 hx1=>?_⟩
 have hfx:=hp2 x1 (List.mem_of_getElem? hx1)
 refine⟨hx1,Q2,hx1,Q2,Q80,Q80,Bj (j:=(⟨0⟩:Kk)) Q9 rfl (by dsimp only[Hr];omega),fun (q2:Kk) hq_q2=>?_⟩
 have hi_q2:q2.k≤List.length x1.fields:=hq_q2
 refine dsp (fun h2 p2=>?_) fun h2 p2=>?_
 refine⟨(Bm (l:=x1.fields) (i:=q2.k) Q2),fun x2 hx2=>?_⟩
 refine⟨hx2,Q2,hx2,Q2,hx2,Q2,hx2,Q2,fun h3=>have q3:=An h3;have p3:=(Ci dT (Ci dT (Ci dT (Ci dT dF)))).1 q3;?_,fun h3=>have q3:=Am h3;have p3:=(Ch dT (Ch dT (Ch dT (Ch dT dT)))).1 q3;?_⟩
 refine⟨(sB ?_),rfl⟩
 rotate_left
 exact⟨(Ad Q2 Q2),A5 (j:=(⟨q2.k+1⟩:Kk)) Q9 rfl (by dsimp only[Hr];omega) (by dsimp only[Hr];omega)⟩
 exact⟨(Ad Q2 Q2),A5 (j:=(⟨q1.i+1⟩:Hq)) Q9 rfl (by dsimp only[Kj];omega) (by dsimp only[Kj];omega)⟩
 exact⟨rfl,rfl⟩
 all_goals first|(rfl)|((simp;done))|((exfalso;simp_all;done))
structure Km where
 i:Nat
def Kn (d:Dcd):Fam:=⟨Km,fun q1=>[(2,.v (vP 0)),(3,.v (vP 1)),(5,.v (vI ((q1.i:Nat):Int)))],fun _=>[.cells (Bs d),.cells (Bs d)],fun q1=>q1.i≤List.length d.stack,fun q1=>List.length d.stack-q1.i⟩
theorem Afu (d:Dcd) (hp1:List.length (d).plan.shapes≤A8) (hp2: ∀e∈(d).plan.shapes,List.length e.fields≤A8) (hp3:List.length (d).stack≤A8):Fun Tryz.prog 25 [.agg (Bs d),.agg (Bs d)] [] (.v (vB true)) []:=by
 have hN:A8=274877906944:=rfl
 refine Aq Tryz.func25 Q4 Q4 (w:=let z4:=((List.length d.stack:Nat):Int);let z5:=Kn d;let z6:S:= .v (vB true);let z3:=Lf (.v (vB false)) z6 [] [];(.seg [.call [] z6 [],.br false,.br false,.br false,.br false,.br false,.at 0,.keep [2,3,5],.sel [0,1]] (.loop z5 fun q1=> .br (.intro (Sx (d.stack[q1.i]?)) fun x1=> .seg [.ord (os 11 []) [],.el .lev x1,.el .lev x1] (.br (.leaf () []) (.seg [.as 56 (.v (vI (((q1.i:Nat):Int)+1))),.at 0,.keep [2,3,5],.sel [0,1]] (.next)))) (.seg [.br true] (.br (.seg [.br true,.br true] (.br (.seg [.br true,.br true] (.br (.leaf () []) (.leaf () []))) (.leaf () []))) (.leaf () [])))),(Fp 68 [.agg [.seq .shp d.plan.shapes],.agg [.seq .shp d.plan.shapes]] [] z6 [])∧((!true)=false)∧((!decide (d.plan.root=d.plan.root))=false)∧((!decide (d.plan.deep=d.plan.deep))=false)∧((!decide (d.plan.most=d.plan.most))=false)∧((!decide (z4=z4))=false)∧z5.Has [(2,.v (vP 0)),(3,.v (vP 1)),(5,.v (vI 0))] [.cells (Bs d),.cells (Bs d)]∧∀q1,z5.inv q1→(let z2:=((q1.i:Nat):Int);Bc (decide (z2<z4)) (El (d.stack[q1.i]?) fun x1=>(let z1:=d.stack[q1.i]? =some x1;z1∧((0:Int)≤z2)∧z1∧((0:Int)≤z2)∧z1∧((0:Int)≤z2)∧z1∧((0:Int)≤z2)∧Bc (!(decide (x1.msg=x1.msg)&&decide (x1.left=x1.left))) z3 ((wI (z2+1))∧z5.Nxt q1 [(2,.v (vP 0)),(3,.v (vP 1)),(5,.v (vI (z2+1)))] [.cells (Bs d),.cells (Bs d)]))) (((decide (d.mode=d.mode))=true)∧Bc (decide (d.scan.bits=d.scan.bits)&&decide (d.scan.have_=d.scan.have_)) (((decide (d.start=d.start))=true)∧((decide (d.at_=d.at_))=true)∧Bc (decide (d.field.number=d.field.number)&&(decide (d.field.kind=d.field.kind)&&(decide (d.field.rep=d.field.rep)&&(decide (d.field.packed=d.field.packed)&&decide (d.field.msg=d.field.msg))))) (((decide (d.wire=d.wire))=true)∧((decide (d.want=d.want))=true)∧Bc (decide (d.utf.want=d.utf.want)&&(decide (d.utf.low=d.utf.low)&&decide (d.utf.high=d.utf.high))) (Lf (.v (vB (decide (d.end_.kind=d.end_.kind)&&(decide (d.end_.field=d.end_.field)&&(decide (d.end_.bits=d.end_.bits)&&(decide (d.end_.len=d.end_.len)&&(decide (d.end_.text=d.end_.text)&&(decide (d.end_.code=d.end_.code)&&decide (d.end_.at_=d.end_.at_))))))))) z6 [] []) z3) z3) z3)))) Q4 ?_
 refine⟨(Afs d.plan.shapes Q2 (hp2)),Q30,Q80,Q80,Q80,Q80,Bj (j:=(⟨0⟩:Km)) Q9 rfl (by dsimp only[Kn];omega),fun (q1:Km) hq_q1=>?_⟩
 have hi_q1:q1.i≤List.length d.stack:=hq_q1
 refine dsp (fun h1 p1=>?_) fun h1 p1=>?_
 refine⟨(Bm (l:=d.stack) (i:=q1.i) Q2),fun x1 hx1=>?_⟩
 refine⟨hx1,Q2,hx1,Q2,hx1,Q2,hx1,Q2,fun h2=>have q2:=An h2;have p2:=(Ci dT dF).1 q2;?_,fun h2=>have q2:=Am h2;have p2:=(Ch dT dT).1 q2;?_⟩
 refine⟨(sB ?_),rfl⟩
 rotate_left
 exact⟨(Ad Q2 Q2),A5 (j:=(⟨q1.i+1⟩:Km)) Q9 rfl (by dsimp only[Kn];omega) (by dsimp only[Kn];omega)⟩
 refine⟨Q80,fun h2=>have p2:=(Ch dT dT).1 h2;?_,fun h2=>have p2:=(Ci dT dF).1 h2;?_⟩
 refine⟨Q80,Q80,fun h3=>have p3:=(Ch dT (Ch dT (Ch dT (Ch dT dT)))).1 h3;?_,fun h3=>have p3:=(Ci dT (Ci dT (Ci dT (Ci dT dF)))).1 h3;?_⟩
 refine⟨Q80,Q80,fun h4=>have p4:=(Ch dT (Ch dT dT)).1 h4;?_,fun h4=>have p4:=(Ci dT (Ci dT dF)).1 h4;?_⟩
 refine⟨(sB ?_),rfl⟩
 rotate_left
 refine⟨(sB ?_),rfl⟩
 rotate_left
 refine⟨(sB ?_),rfl⟩
 rotate_left
 refine⟨(sB ?_),rfl⟩
 rotate_left
 all_goals first|(rfl)|((simp;done))|((exfalso;simp_all;done))
theorem Aio (a:Dcd) (b:Dcd) (hp1:a=b) (hp2:List.length (a).plan.shapes≤A8) (hp3: ∀e∈(a).plan.shapes,List.length e.fields≤A8) (hp4:List.length (a).stack≤A8):Fun Tryz.prog 25 [.agg (Bs a),.agg (Bs b)] [] (.v (vB true)) []:=by subst hp1;exact Afu a hp2 hp3 hp4
structure Ak5 where
 i:Nat
theorem Aot (l:List Int) (hp1:((List.length l:Nat):Int)≤9223372036854775807):Fun Tryz.prog 8 [.c (.seq .u8 l)] [] (.v (vB (decide (1048576<((List.length l:Nat):Int))))) []:=by
 have hN:A8=274877906944:=rfl
 refine Aq Tryz.func8 Q4 Q4 (w:=let z1:S:= .v (vB (decide (1048576<((List.length l:Nat):Int))));(.leaf () [],Lf z1 z1 [] [])) Q4 ?_
 exact⟨rfl,rfl⟩
structure Gn where
 x:Strm
 i:Nat
def Fe (o1:Jw):Fam:=⟨Gn,fun q1=>[(4,.v (vP 0)),(5,.v (vP 5)),(8,.v (vI ((q1.i:Nat):Int)))],fun q1=>[.cells (Ar 1 2 3 4 q1.x),.lst .rd q1.x.reader.script,.tree q1.x.dec.plan.shapes,.lst .lev q1.x.dec.stack,.lst .ev q1.x.queue,.cells (cEv (J0 o1.s))],fun q1=>q1.x=Dp o1.s∧q1.i≤3,fun q1=>4-q1.i⟩
theorem Aad (code:List Int) (hp1:((List.length code:Nat):Int)≤9223372036854775807):Fun Tryz.prog 6 [.c (.seq .u8 code)] [] (.v (vB true)) []:=by
 have hN:A8=274877906944:=rfl
 refine Aq Tryz.func6 Q4 Q4 (w:=let z16:S:= .v (vB true);let z15:=Lf (.v (vB false)) z16 [] [];let z17:=decide (1048576<((List.length code:Nat):Int));(.seg [.call [] (.v (vB z17)) []] (.br (.leaf () []) (.intro (Qr code) fun o1=>let z10:=Dp o1.s;let z8:List Blk:=[.lst .rd z10.reader.script,.tree z10.dec.plan.shapes,.lst .lev z10.dec.stack,.lst .ev z10.queue];let z9:S:= .tup [.agg (Ar 0 1 2 3 z10),.agg (cEv (J0 o1.s))];.seg [.call [] (.v (.agg (Ar 0 1 2 3 o1.s))) [.lst .rd o1.s.reader.script,.tree o1.s.dec.plan.shapes,.lst .lev o1.s.dec.stack,.lst .ev o1.s.queue],.call [] z9 z8,.call [] z9 z8] (.br (.leaf () []) (.seg [.br false,.call [] z16 [],.br false,.call [] (.v (vB (Dn o1.s))) []] (.br (.br (.seg [.call [] (.v (vB (Dn o1.s))) []] (.leaf () [])) (.leaf () [])) (.seg [.at 0,.keep [4,5,8],.sel [9,5,6,7,8,10]] (.loop (Fe o1) fun q1=>let z1:S:= .v (vB (Dn q1.x));let z2:=Dp q1.x;.br (.seg [.call [] (.v (vB (Dg (J0 o1.s)))) []] (.br (.br (.br (.br (.seg [.call [] (.tup [.agg (Ar 0 1 2 3 z2),.agg (cEv (J0 q1.x))]) [.lst .rd z2.reader.script,.tree z2.dec.plan.shapes,.lst .lev z2.dec.stack,.lst .ev z2.queue]] (.br (.leaf () []) (.br (.leaf () []) (.br (.leaf () []) (.br (.leaf () []) (.seg [.as 80 (.v (vI (((q1.i:Nat):Int)+1))),.at 0,.keep [4,5,8],.sel [0,6,7,8,9,5]] (.next))))))) (.seg [.call [] z1 []] (.leaf () []))) (.seg [.call [] z1 []] (.leaf () []))) (.seg [.call [] z1 []] (.leaf () []))) (.seg [.call [] z1 []] (.leaf () [])))) (.seg [.call [] z1 []] (.leaf () []))))))))),(Fp 8 [.c (.seq .u8 code)] [] (.v (vB z17)) [])∧Bc z17 (Lf z16 z16 [] []) (In (Qr code) fun o1=>(let z11:=J0 o1.s;let z12:=Dp o1.s;let z13:=Fe o1;let z14:=Dn o1.s;(U8 code o1)∧(Fp 27 [.agg (Sf o1.s)] [] (.tup [.agg (Ar 0 1 2 3 z12),.agg (cEv z11)]) [.lst .rd z12.reader.script,.tree z12.dec.plan.shapes,.lst .lev z12.dec.stack,.lst .ev z12.queue])∧(Fp 28 [.agg (Sf o1.s)] [] (.tup [.agg (Ar 0 1 2 3 z12),.agg (cEv z11)]) [.lst .rd z12.reader.script,.tree z12.dec.plan.shapes,.lst .lev z12.dec.stack,.lst .ev z12.queue])∧Bc (!(decide (z11.kind=z11.kind)&&(decide (z11.field=z11.field)&&(decide (z11.bits=z11.bits)&&(decide (z11.len=z11.len)&&(decide (z11.text=z11.text)&&(decide (z11.code=z11.code)&&decide (z11.at_=z11.at_)))))))) z15 (((!decide (z12.reads=z12.reads))=false)∧(Fp 25 [.agg (Bs z12.dec),.agg (Bs z12.dec)] [] z16 [])∧((!true)=false)∧(Fp 29 [.agg (Sf o1.s)] [] (.v (vB z14)) [])∧Bc (!z14) (Bc (decide (z11.kind=0)&&(decide (z11.field=0)&&(decide (z11.bits=0)&&(decide (z11.len=0)&&(decide (z11.text=[])&&(decide (z11.code=0)&&decide (z11.at_=0))))))) ((Fp 30 [.agg (Sf o1.s)] [] (.v (vB z14)) [])∧Lf (.v (vB (!z14))) z16 [] []) z15) (z13.Has [(4,.v (vP 0)),(5,.v (vP 5)),(8,.v (vI 0))] [.cells (Ar 1 2 3 4 z12),.lst .rd z12.reader.script,.tree z12.dec.plan.shapes,.lst .lev z12.dec.stack,.lst .ev z12.queue,.cells (cEv z11)]∧∀q1,z13.inv q1→(let z3:S:= .v (vB (Dn q1.x));let z4:=Dp q1.x;let z5:=J0 q1.x;let z6:=Sf q1.x;let z7:=((q1.i:Nat):Int);Bc (decide (z7<3)) ((Fp 31 [.agg (cEv z11)] [] (.v (vB (Dg z11))) [])∧Bc (Dg z11) (Bc (decide (((List.length q1.x.queue:Nat):Int)=0)) (Bc (decide (q1.x.dec.mode=9)) (Bc (decide (z11.kind=q1.x.dec.end_.kind)&&(decide (z11.field=q1.x.dec.end_.field)&&(decide (z11.bits=q1.x.dec.end_.bits)&&(decide (z11.len=q1.x.dec.end_.len)&&(decide (z11.text=q1.x.dec.end_.text)&&(decide (z11.code=q1.x.dec.end_.code)&&decide (z11.at_=q1.x.dec.end_.at_))))))) ((Fp 27 [.agg z6] [] (.tup [.agg (Ar 0 1 2 3 z4),.agg (cEv z5)]) [.lst .rd z4.reader.script,.tree z4.dec.plan.shapes,.lst .lev z4.dec.stack,.lst .ev z4.queue])∧Bc (!(decide (z5.kind=z11.kind)&&(decide (z5.field=z11.field)&&(decide (z5.bits=z11.bits)&&(decide (z5.len=z11.len)&&(decide (z5.text=z11.text)&&(decide (z5.code=z11.code)&&decide (z5.at_=z11.at_)))))))) z15 (Bc (!decide (z4.reads=q1.x.reads)) z15 (Bc (!decide (z4.reader.at_=q1.x.reader.at_)) z15 (Bc (!decide (((List.length z4.queue:Nat):Int)=0)) z15 ((wI (z7+1))∧z13.Nxt q1 [(4,.v (vP 0)),(5,.v (vP 5)),(8,.v (vI (z7+1)))] [.cells (Ar 1 2 3 4 z4),.lst .rd z4.reader.script,.tree z4.dec.plan.shapes,.lst .lev z4.dec.stack,.lst .ev z4.queue,.cells (cEv z11)]))))) ((Fp 30 [.agg z6] [] z3 [])∧Lf z3 z16 [] [])) ((Fp 30 [.agg z6] [] z3 [])∧Lf z3 z16 [] [])) ((Fp 30 [.agg z6] [] z3 [])∧Lf z3 z16 [] [])) ((Fp 30 [.agg z6] [] z3 [])∧Lf z3 z16 [] [])) ((Fp 30 [.agg z6] [] z3 [])∧Lf z3 z16 [] [])))))))) Q4 ?_
 refine⟨(Aot _ Q2),dsp (fun h1 p1=>?_) fun h1 p1=>?_⟩
 exact⟨rfl,rfl⟩
 refine⟨(Afr code Q2),fun o1 ho_o1=>?_⟩
 obtain ⟨hp_o1,hf_o1⟩:=ho_o1
 refine⟨hf_o1,(Ak1 o1.s (by have:=(hp_o1).shs;omega) (fun e he=>by have:=(hp_o1).flds e he;omega) (by have:=(hp_o1).dec.stack;omega) (by have:=(hp_o1).sc;omega) (by have:=(hp_o1).qu;(try simp only[List.length_append,List.length_cons,List.length_nil]);omega) (by have:=(hp_o1).da;omega)),(Ak0 o1.s (by have:=(hp_o1).shs;omega) (fun e he=>by have:=(hp_o1).flds e he;omega) (by have:=(hp_o1).dec.stack;omega) (by have:=(hp_o1).sc;omega) (by have:=(hp_o1).qu;(try simp only[List.length_append,List.length_cons,List.length_nil]);omega) (by have:=(hp_o1).da;omega)),fun h2=>have q2:=An h2;have p2:=(Ci dT (Ci dT (Ci dT (Ci dT (Ci dT (Ci dT dF)))))).1 q2;?_,fun h2=>have q2:=Am h2;have p2:=(Ch dT (Ch dT (Ch dT (Ch dT (Ch dT (Ch dT dT)))))).1 q2;?_⟩
 refine⟨(sB ?_),rfl⟩
 rotate_left
 refine⟨Q80,(Aio (Dp o1.s).dec (Dp o1.s).dec (rfl) (by have:=((Qq hp_o1 Q2).1).shs;omega) (fun e he=>by have:=((Qq hp_o1 Q2).1).flds e he;omega) (by have:=((Qq hp_o1 Q2).1).dec.stack;omega)),Q30,(Ad1 o1.s (by have:=(hp_o1).da;omega) (by have:=(hp_o1).sc;omega) (by have:=(hp_o1).dec.stack;omega) (by have:=(hp_o1).shs;omega)),fun h3=>have q3:=An h3;?_,fun h3=>have q3:=Am h3;?_⟩
 have hpn:=Z9 q3
 refine⟨fun h4=>have p4:=(Ch dT (Ch dT (Ch dT (Ch dT (Ch dT (Ch dT dT)))))).1 h4;?_,fun h4=>have p4:=(Ci dT (Ci dT (Ci dT (Ci dT (Ci dT (Ci dT dF)))))).1 h4;?_⟩
 refine⟨(Ny o1.s (by have:=(hp_o1).da;omega) (by have:=(hp_o1).sc;omega) (by have:=(hp_o1).dec.stack;omega) (by have:=(hp_o1).shs;omega)),(sB ?_),rfl⟩
 rotate_left
 refine⟨(sB ?_),rfl⟩
 rotate_left
 have hpm:=Vs q3
 have hpk:Dn (Dp o1.s)=true:=by rw[hpm.1];exact Anh q3 (by have:=hp_o1.re;omega)
 refine⟨Bj (j:=(⟨(Dp o1.s),0⟩:Gn)) Q9 rfl (by dsimp only[Fe];exact⟨rfl,by omega⟩),fun (q1:Gn) hq_q1=>?_⟩
 have hi_q1:q1.x=Dp o1.s∧q1.i≤3:=hq_q1
 obtain ⟨v1,v2⟩:=hi_q1
 refine dsp (fun h4 p4=>?_) fun h4 p4=>?_
 refine⟨(Yw (J0 o1.s)),fun h5=>?_,fun h5=>?_⟩
 refine dsp (fun h6 p6=>?_) fun h6 p6=>?_
 refine dsp (fun h7 p7=>?_) fun h7 p7=>?_
 have hpg:=Afp (s:=q1.x) (by rw[v1];exact hpk) (List.eq_nil_of_length_eq_zero (by omega)) (by omega)
 have hpj:=Vs (s:=q1.x) (by rw[v1];exact hpk)
 have hpa:Dp q1.x=q1.x:=by rw[hpj.1];exact hpg.1
 have hpe:J0 q1.x=q1.x.dec.end_:=by rw[hpj.2];exact hpg.2
 refine⟨fun h8=>have p8:=(Ch dT (Ch dT (Ch dT (Ch dT (Ch dT (Ch dT dT)))))).1 h8;?_,fun h8=>have p8:=(Ci dT (Ci dT (Ci dT (Ci dT (Ci dT (Ci dT dF)))))).1 h8;?_⟩
 refine⟨(Ak1 q1.x Q55 (fun e he=>by have:=((v1▸(Qq hp_o1 Q2).1:StrK 7 q1.x)).flds e he;omega) Q50 Q56 (by have:=((v1▸(Qq hp_o1 Q2).1:StrK 7 q1.x)).qu;(try simp only[List.length_append,List.length_cons,List.length_nil]);omega) Q57),fun h9=>have q9:=An h9;have p9:=(Ci dT (Ci dT (Ci dT (Ci dT (Ci dT (Ci dT dF)))))).1 q9;?_,fun h9=>have q9:=Am h9;have p9:=(Ch dT (Ch dT (Ch dT (Ch dT (Ch dT (Ch dT dT)))))).1 q9;?_⟩
 refine⟨(sB ?_),rfl⟩
 rotate_left
 refine⟨fun h10=>have q10:=An h10;have p10:=of_decide_eq_false q10;?_,fun h10=>have q10:=Am h10;have p10:=of_decide_eq_true q10;?_⟩
 refine⟨(sB ?_),rfl⟩
 rotate_left
 refine⟨fun h11=>have q11:=An h11;have p11:=of_decide_eq_false q11;?_,fun h11=>have q11:=Am h11;have p11:=of_decide_eq_true q11;?_⟩
 refine⟨(sB ?_),rfl⟩
 rotate_left
 refine⟨fun h12=>have q12:=An h12;have p12:=of_decide_eq_false q12;?_,fun h12=>have q12:=Am h12;have p12:=of_decide_eq_true q12;?_⟩
 refine⟨(sB ?_),rfl⟩
 rotate_left
 exact⟨(Ad Q2 Q2),A5 (j:=(⟨(Dp q1.x),q1.i+1⟩:Gn)) Q9 rfl (by dsimp only[Fe];exact⟨by rw[v1] at hpa ⊢;exact hpa,by omega⟩) (by dsimp only[Fe];omega)⟩
 refine⟨(Ny q1.x Q57 Q56 Q50 Q55),(sB ?_),rfl⟩
 rotate_left
 refine⟨(Ny q1.x Q57 Q56 Q50 Q55),(sB ?_),rfl⟩
 rotate_left
 refine⟨(Ny q1.x Q57 Q56 Q50 Q55),(sB ?_),rfl⟩
 rotate_left
 refine⟨(Ny q1.x Q57 Q56 Q50 Q55),(sB ?_),rfl⟩
 rotate_left
 refine⟨(Ny q1.x Q57 Q56 Q50 Q55),(sB ?_),rfl⟩
 rotate_left
 all_goals first|(rfl)|((rw[v1];exact hpk))|((exfalso;apply p4<;>rw[hpn.2]<;>rfl))|((simp[hpn.2,ev0, *];done))|((exfalso;simp_all;done))|((simp_all;done))|(grind)
end Go.Proofs.YtphecbmdhbphgaaGreat.Ax
namespace Go.Proofs.YtphecbmdhbphgaaGreat.Ax
open Go.ChangeShapes Go.WideShapes Go.ChangeAt Go.RowKit
theorem Aip:Tryz.prog.cellsOf 5=1:=by kernel_rfl
theorem Apu {H:Type} {tok:TypeId×Value→H} {w:World} {sp:Nat→Bool} {held:Bool} (fuel:Nat) (cs:List Value) (x:DataW H×List MemPlace) (hl:cs.length=1) (h:DataW.trod tok Tryz.prog w 0 sp held fuel 5 cs=some x): ∃y:Int,All2 Rep0 (enc .u8 y) cs∧(0≤y∧y≤255):=by
 obtain ⟨i,rfl,_,hw⟩:=DataW.trod_int Tryz.underlying5 h
 exact⟨i,.cons rfl .nil,bounds_u8 hw⟩
end Go.Proofs.YtphecbmdhbphgaaGreat.Ax
