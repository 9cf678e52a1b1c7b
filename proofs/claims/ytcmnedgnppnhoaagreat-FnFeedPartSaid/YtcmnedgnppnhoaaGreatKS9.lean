/- Drawn scans, states, events. A byte keeps a decoder right. Whole inputs. Models: modes. Drawn decoders. Opening what the laws are handed. -/
import Derived.Test.YtcmnedgnppnhoaaGreatKS7
import Derived.Test.YtcmnedgnppnhoaaGreatKS1
import Derived.Test.YtcmnedgnppnhoaaGreatKS5
import Derived.Test.YtcmnedgnppnhoaaGreatKS8
import Derived.Test.YtcmnedgnppnhoaaGreatKS6
import Derived.Test.YtcmnedgnppnhoaaGreatKB4
set_option linter.unusedSimpArgs false
set_option linter.unusedVariables false
namespace Go.Proofs.YtcmnedgnppnhoaaGreat.Ax
open Go.RowKit
theorem Amh {e:Ev} (h:e.text.length≤1000) (hb:0≤e.bits∧e.bits≤18446744073709551615):EvB e:=⟨Nat.le_trans h (by decide),hb⟩
theorem EvB.like {e x:Ev} (h:EvB e) (ht:x.text=e.text) (hb:x.bits=e.bits):EvB x:=by unfold EvB;rw[ht,hb];exact h
structure Dd where
 e:Ev
 c1:Cur
def Uw (c:Cur) (o:Dd):Prop:=Fun Tryz.prog 167 [vP 0] [.cells (Ak c)] (.v (.agg (cEv o.e))) [.cells (Ak o.c1)]
def P7 (c:Cur) (o:Dd):Prop:=((EvB o.e)∧(List.length (o.e).text≤4)∧(Aw o.c1))∧Uw c o
theorem Afa (c:Cur) (hp1:Aw c): ∃o:Dd,P7 c o:=by
 have hN:Bf=274877906944:=rfl
 refine Bv Tryz.func167 Q4 Q4 (w:=let zi:Int→C:= .int .i64;let z13:List C:=[.str [],zi 0,zi 0];(.intro (Aa c 10) fun o1=>let z8:=Aa o1.c1 12;.seg [.call [0] (.v (vI o1.x)) [.cells (Ak o1.c1)],.as 7 (.v (vI (1+o1.x)))] (.br (.intro (Aa o1.c1 40) fun o2=> .seg [.call [0] (.v (vI o2.x)) [.cells (Ak o2.c1)]] (.leaf (⟨(⟨1+o1.x,0,0,o2.x,[],0,0⟩:Ev),o2.c1⟩:Dd) [0])) (.br (.intro z8 fun o2=> .seg [.call [0] (.v (vI o2.x)) [.cells (Ak o2.c1)],.as 20 (.v (vI (1+o2.x)))] (.intro (B7 o2.c1) fun o3=> .seg [.call [0] (.v (.c (.int .u64 o3.x))) [.cells (Ak o3.c1)]] (.leaf (⟨(⟨1+o1.x,1+o2.x,o3.x,0,[],0,0⟩:Ev),o3.c1⟩:Dd) [0]))) (.br (.intro z8 fun o2=> .seg [.br true,.call [0] (.v (vI o2.x)) [.cells (Ak o2.c1)],.as 30 (.v (vI (1+o2.x)))] (.intro (Aa o2.c1 12) fun o3=> .seg [.call [0] (.v (vI o3.x)) [.cells (Ak o3.c1)]] (.leaf (⟨(⟨1+o1.x,1+o2.x,0,o3.x,[],0,0⟩:Ev),o3.c1⟩:Dd) [0]))) (.br (.intro z8 fun o2=> .seg [.call [0] (.v (vI o2.x)) [.cells (Ak o2.c1)],.as 30 (.v (vI (1+o2.x)))] (.intro (Aa o2.c1 12) fun o3=> .seg [.call [0] (.v (vI o3.x)) [.cells (Ak o3.c1)]] (.leaf (⟨(⟨1+o1.x,1+o2.x,0,o3.x,[],0,0⟩:Ev),o3.c1⟩:Dd) [0]))) (.br (.seg [.ty .str,.pubS 38] (.intro (Hi o1.c1 [[97],[98,99],[195,169],[255]]) fun o2=> .seg [.call [0] (.v (vT o2.t)) [.cells (Ak o2.c1)]] (.leaf (⟨(⟨1+o1.x,0,0,0,o2.t,0,0⟩:Ev),o2.c1⟩:Dd) [0]))) (.br (.intro (Aa o1.c1 99) fun o2=> .seg [.call [0] (.v (vI o2.x)) [.cells (Ak o2.c1)]] (.leaf (⟨(⟨1+o1.x,0,0,0,[],0,o2.x⟩:Ev),o2.c1⟩:Dd) [0])) (.br (.intro (Aa o1.c1 99) fun o2=> .seg [.call [0] (.v (vI o2.x)) [.cells (Ak o2.c1)]] (.intro (Aa o2.c1 10) fun o3=> .seg [.call [0] (.v (vI o3.x)) [.cells (Ak o3.c1)],.as 53 (.v (vI (1+o3.x)))] (.leaf (⟨(⟨1+o1.x,0,0,0,[],1+o3.x,o2.x⟩:Ev),o3.c1⟩:Dd) [0]))) (.leaf (⟨(⟨1+o1.x,0,0,0,[],0,0⟩:Ev),o1.c1⟩:Dd) [0])))))))),In (Aa c 10) fun o1=>(let z9:=1+o1.x;let z10:=decide (1+o1.x=3);let z11:=Aa o1.c1 12;let z12:=(⟨1+o1.x,0,0,0,[],0,0⟩:Ev);(Ai c 10 o1)∧((.v (vI (IntKind.i64.wrap z9)):S)= .v (vI z9))∧((decide (1+o1.x=1))=true→In (Aa o1.c1 40) fun o2=>(let z1:=(⟨1+o1.x,0,0,o2.x,[],0,0⟩:Ev);(Ai o1.c1 40 o2)∧((EvB z1)∧(List.length (z1).text≤4)∧(Aw o2.c1))∧(.v (.agg (zi z9::zi 0:: .int .u64 0::zi o2.x::z13)):S)= .v (.agg (zi z9::zi 0:: .int .u64 0::zi o2.x::z13))∧([.cells (Ak o2.c1)]:List Blk)=[.cells (Ak o2.c1)]))∧((decide (1+o1.x=1))=false→((decide (1+o1.x=2))=true→In z11 fun o2=>((Ai o1.c1 12 o2)∧((.v (vI (IntKind.i64.wrap (1+o2.x))):S)= .v (vI (1+o2.x)))∧In (B7 o2.c1) fun o3=>(let z2:=(⟨1+o1.x,1+o2.x,o3.x,0,[],0,0⟩:Ev);(D7 o2.c1 o3)∧((EvB z2)∧(List.length (z2).text≤4)∧(Aw o3.c1))∧(.v (.agg (zi z9::zi (1+o2.x):: .int .u64 o3.x::zi 0::z13)):S)= .v (.agg (zi z9::zi (1+o2.x):: .int .u64 o3.x::zi 0::z13))∧([.cells (Ak o3.c1)]:List Blk)=[.cells (Ak o3.c1)])))∧((decide (1+o1.x=2))=false→(z10=true→In z11 fun o2=>((z10=true)∧(Ai o1.c1 12 o2)∧((.v (vI (IntKind.i64.wrap (1+o2.x))):S)= .v (vI (1+o2.x)))∧In (Aa o2.c1 12) fun o3=>(let z3:=(⟨1+o1.x,1+o2.x,0,o3.x,[],0,0⟩:Ev);(Ai o2.c1 12 o3)∧((EvB z3)∧(List.length (z3).text≤4)∧(Aw o3.c1))∧(.v (.agg (zi z9::zi (1+o2.x):: .int .u64 0::zi o3.x::z13)):S)= .v (.agg (zi z9::zi (1+o2.x):: .int .u64 0::zi o3.x::z13))∧([.cells (Ak o3.c1)]:List Blk)=[.cells (Ak o3.c1)])))∧(z10=false→((decide (1+o1.x=6))=true→In z11 fun o2=>((Ai o1.c1 12 o2)∧((.v (vI (IntKind.i64.wrap (1+o2.x))):S)= .v (vI (1+o2.x)))∧In (Aa o2.c1 12) fun o3=>(let z4:=(⟨1+o1.x,1+o2.x,0,o3.x,[],0,0⟩:Ev);(Ai o2.c1 12 o3)∧((EvB z4)∧(List.length (z4).text≤4)∧(Aw o3.c1))∧(.v (.agg (zi z9::zi (1+o2.x):: .int .u64 0::zi o3.x::z13)):S)= .v (.agg (zi z9::zi (1+o2.x):: .int .u64 0::zi o3.x::z13))∧([.cells (Ak o3.c1)]:List Blk)=[.cells (Ak o3.c1)])))∧((decide (1+o1.x=6))=false→((decide (1+o1.x=4))=true→In (Hi o1.c1 [[97],[98,99],[195,169],[255]]) fun o2=>(let z5:=(⟨1+o1.x,0,0,0,o2.t,0,0⟩:Ev);(Qv o1.c1 [[97],[98,99],[195,169],[255]] o2)∧((EvB z5)∧(List.length (z5).text≤4)∧(Aw o2.c1))∧(.v (.agg [zi z9,zi 0,.int .u64 0,zi 0,.str o2.t,zi 0,zi 0]):S)= .v (.agg [zi z9,zi 0,.int .u64 0,zi 0,.str o2.t,zi 0,zi 0])∧([.cells (Ak o2.c1)]:List Blk)=[.cells (Ak o2.c1)]))∧((decide (1+o1.x=4))=false→((decide (1+o1.x=9))=true→In (Aa o1.c1 99) fun o2=>(let z6:=(⟨1+o1.x,0,0,0,[],0,o2.x⟩:Ev);(Ai o1.c1 99 o2)∧((EvB z6)∧(List.length (z6).text≤4)∧(Aw o2.c1))∧(.v (.agg [zi z9,zi 0,.int .u64 0,zi 0,.str [],zi 0,zi o2.x]):S)= .v (.agg [zi z9,zi 0,.int .u64 0,zi 0,.str [],zi 0,zi o2.x])∧([.cells (Ak o2.c1)]:List Blk)=[.cells (Ak o2.c1)]))∧((decide (1+o1.x=9))=false→((decide (1+o1.x=10))=true→In (Aa o1.c1 99) fun o2=>((Ai o1.c1 99 o2)∧In (Aa o2.c1 10) fun o3=>(let z7:=(⟨1+o1.x,0,0,0,[],1+o3.x,o2.x⟩:Ev);(Ai o2.c1 10 o3)∧((.v (vI (IntKind.i64.wrap (1+o3.x))):S)= .v (vI (1+o3.x)))∧((EvB z7)∧(List.length (z7).text≤4)∧(Aw o3.c1))∧(.v (.agg [zi z9,zi 0,.int .u64 0,zi 0,.str [],zi (1+o3.x),zi o2.x]):S)= .v (.agg [zi z9,zi 0,.int .u64 0,zi 0,.str [],zi (1+o3.x),zi o2.x])∧([.cells (Ak o3.c1)]:List Blk)=[.cells (Ak o3.c1)])))∧((decide (1+o1.x=10))=false→((EvB z12)∧(List.length (z12).text≤4)∧(Aw o1.c1))∧(.v (.agg (zi z9::zi 0:: .int .u64 0::zi 0::z13)):S)= .v (.agg (zi z9::zi 0:: .int .u64 0::zi 0::z13))∧([.cells (Ak o1.c1)]:List Blk)=[.cells (Ak o1.c1)])))))))))) Q4 ?_
 refine⟨(Ao c 10 Q0),fun o1 ho_o1=>?_⟩
 obtain ⟨⟨hp_o1_0,hp_o1_1,hp_o1_2,hp_o1_3⟩,hf_o1⟩:=ho_o1
 refine⟨hf_o1,(Ae Q2 Q2),dsp (fun h1 p1=>?_) fun h1 p1=>?_⟩
 refine⟨(Ao o1.c1 40 Q0),fun o2 ho_o2=>?_⟩
 obtain ⟨⟨hp_o2_0,hp_o2_1,hp_o2_2,hp_o2_3⟩,hf_o2⟩:=ho_o2
 exact⟨hf_o2,⟨Q21,Q33,Q0⟩,rfl,rfl⟩
 refine dsp (fun h2 p2=>?_) fun h2 p2=>?_
 refine⟨(Ao o1.c1 12 Q0),fun o2 ho_o2=>?_⟩
 obtain ⟨⟨hp_o2_0,hp_o2_1,hp_o2_2,hp_o2_3⟩,hf_o2⟩:=ho_o2
 refine⟨hf_o2,(Ae Q2 Q2),(G3 o2.c1 Q0),fun o3 ho_o3=>?_⟩
 obtain ⟨⟨hp_o3_0,hp_o3_1⟩,hf_o3⟩:=ho_o3
 exact⟨hf_o3,⟨Q21,Q33,Q0⟩,rfl,rfl⟩
 refine dsp (fun h3 p3=>?_) fun h3 p3=>?_
 refine⟨(Ao o1.c1 12 Q0),fun o2 ho_o2=>?_⟩
 refine⟨h3,?_⟩
 obtain ⟨⟨hp_o2_0,hp_o2_1,hp_o2_2,hp_o2_3⟩,hf_o2⟩:=ho_o2
 refine⟨hf_o2,(Ae Q2 Q2),(Ao o2.c1 12 Q0),fun o3 ho_o3=>?_⟩
 obtain ⟨⟨hp_o3_0,hp_o3_1,hp_o3_2,hp_o3_3⟩,hf_o3⟩:=ho_o3
 exact⟨hf_o3,⟨Q21,Q33,Q0⟩,rfl,rfl⟩
 refine dsp (fun h4 p4=>?_) fun h4 p4=>?_
 refine⟨(Ao o1.c1 12 Q0),fun o2 ho_o2=>?_⟩
 obtain ⟨⟨hp_o2_0,hp_o2_1,hp_o2_2,hp_o2_3⟩,hf_o2⟩:=ho_o2
 refine⟨hf_o2,(Ae Q2 Q2),(Ao o2.c1 12 Q0),fun o3 ho_o3=>?_⟩
 obtain ⟨⟨hp_o3_0,hp_o3_1,hp_o3_2,hp_o3_3⟩,hf_o3⟩:=ho_o3
 exact⟨hf_o3,⟨Q21,Q33,Q0⟩,rfl,rfl⟩
 refine dsp (fun h5 p5=>?_) fun h5 p5=>?_
 refine⟨(Zm o1.c1 [[97],[98,99],[195,169],[255]] Q0 Q6 Q6),fun o2 ho_o2=>?_⟩
 obtain ⟨⟨hp_o2_0,hp_o2_1⟩,hf_o2⟩:=ho_o2
 exact⟨hf_o2,⟨Q21,Q33,Q0⟩,rfl,rfl⟩
 refine dsp (fun h6 p6=>?_) fun h6 p6=>?_
 refine⟨(Ao o1.c1 99 Q0),fun o2 ho_o2=>?_⟩
 obtain ⟨⟨hp_o2_0,hp_o2_1,hp_o2_2,hp_o2_3⟩,hf_o2⟩:=ho_o2
 exact⟨hf_o2,⟨Q21,Q33,Q0⟩,rfl,rfl⟩
 refine dsp (fun h7 p7=>?_) fun h7 p7=>?_
 refine⟨(Ao o1.c1 99 Q0),fun o2 ho_o2=>?_⟩
 obtain ⟨⟨hp_o2_0,hp_o2_1,hp_o2_2,hp_o2_3⟩,hf_o2⟩:=ho_o2
 refine⟨hf_o2,(Ao o2.c1 10 Q0),fun o3 ho_o3=>?_⟩
 obtain ⟨⟨hp_o3_0,hp_o3_1,hp_o3_2,hp_o3_3⟩,hf_o3⟩:=ho_o3
 exact⟨hf_o3,(Ae Q2 Q2),⟨Q21,Q33,Q0⟩,rfl,rfl⟩
 exact⟨⟨Q21,Q33,Q0⟩,rfl,rfl⟩
structure Dx where
 e:Ev
 c1:Cur
def W5 (c:Cur) (o:Dx):Prop:=Fun Tryz.prog 116 [vP 0] [.cells (Ak c)] (.v (.agg (cEv o.e))) [.cells (Ak o.c1)]
def R7 (c:Cur) (o:Dx):Prop:=((EvB o.e)∧(List.length (o.e).text≤4)∧(Aw o.c1))∧W5 c o
theorem Ah6 (c:Cur) (hp1:Aw c): ∃o:Dx,R7 c o:=by
 have hN:Bf=274877906944:=rfl
 refine Bv Tryz.func116 Q4 Q4 (w:=let zi:Int→C:= .int .i64;(.intro (P7 c) fun o1=> .seg [.call [0] (.v (.agg (cEv o1.e))) [.cells (Ak o1.c1)]] (.intro (Aa o1.c1 14) fun o2=> .seg [.call [0] (.v (vI o2.x)) [.cells (Ak o2.c1)]] (.br (.intro (Aa o2.c1 13) fun o3=> .seg [.call [0] (.v (vI o3.x)) [.cells (Ak o3.c1)],.as 12 (.v (vI (o3.x-1)))] (.leaf (⟨(⟨o3.x-1,o1.e.field,o1.e.bits,o1.e.len,o1.e.text,o1.e.code,o1.e.at_⟩:Ev),o3.c1⟩:Dx) [0])) (.br (.intro (P1 o2.c1) fun o3=> .seg [.call [0] (.v (vI o3.x)) [.cells (Ak o3.c1)]] (.leaf (⟨(⟨o1.e.kind,o3.x,o1.e.bits,o1.e.len,o1.e.text,o1.e.code,o1.e.at_⟩:Ev),o3.c1⟩:Dx) [0])) (.br (.intro (Kp o2.c1) fun o3=> .seg [.call [0] (.v (vI o3.x)) [.cells (Ak o3.c1)]] (.leaf (⟨(⟨o1.e.kind,o1.e.field,o1.e.bits,o3.x,o1.e.text,o1.e.code,o1.e.at_⟩:Ev),o3.c1⟩:Dx) [0])) (.br (.seg [.ty .str,.pubS 27] (.intro (Hi o2.c1 [[],[120]]) fun o3=> .seg [.call [0] (.v (vT o3.t)) [.cells (Ak o3.c1)]] (.leaf (⟨(⟨o1.e.kind,o1.e.field,o1.e.bits,o1.e.len,o3.t,o1.e.code,o1.e.at_⟩:Ev),o3.c1⟩:Dx) [0]))) (.br (.seg [.ty .int,.pubS 33] (.intro (A6 o2.c1 [0,(-1),11,20]) fun o3=> .seg [.call [0] (.v (vI o3.x)) [.cells (Ak o3.c1)]] (.leaf (⟨(⟨o1.e.kind,o1.e.field,o1.e.bits,o1.e.len,o1.e.text,o3.x,o1.e.at_⟩:Ev),o3.c1⟩:Dx) [0]))) (.br (.intro (Kp o2.c1) fun o3=> .seg [.call [0] (.v (vI o3.x)) [.cells (Ak o3.c1)]] (.leaf (⟨(⟨o1.e.kind,o1.e.field,o1.e.bits,o1.e.len,o1.e.text,o1.e.code,o3.x⟩:Ev),o3.c1⟩:Dx) [0])) (.br (.intro (B7 o2.c1) fun o3=> .seg [.call [0] (.v (.c (.int .u64 o3.x))) [.cells (Ak o3.c1)]] (.leaf (⟨(⟨o1.e.kind,o1.e.field,o3.x,o1.e.len,o1.e.text,o1.e.code,o1.e.at_⟩:Ev),o3.c1⟩:Dx) [0])) (.leaf (⟨o1.e,o2.c1⟩:Dx) [0]))))))))),In (P7 c) fun o1=>((Uw c o1)∧In (Aa o1.c1 14) fun o2=>((Ai o1.c1 14 o2)∧((decide (o2.x=0))=true→In (Aa o2.c1 13) fun o3=>(let z1:=(⟨o3.x-1,o1.e.field,o1.e.bits,o1.e.len,o1.e.text,o1.e.code,o1.e.at_⟩:Ev);(Ai o2.c1 13 o3)∧((.v (vI (IntKind.i64.wrap (o3.x-1))):S)= .v (vI (o3.x-1)))∧((EvB z1)∧(List.length (z1).text≤4)∧(Aw o3.c1))∧(.v (.agg [zi (o3.x-1),zi o1.e.field,.int .u64 o1.e.bits,zi o1.e.len,.str o1.e.text,zi o1.e.code,zi o1.e.at_]):S)= .v (.agg [zi (o3.x-1),zi o1.e.field,.int .u64 o1.e.bits,zi o1.e.len,.str o1.e.text,zi o1.e.code,zi o1.e.at_])∧([.cells (Ak o3.c1)]:List Blk)=[.cells (Ak o3.c1)]))∧((decide (o2.x=0))=false→((decide (o2.x=1))=true→In (P1 o2.c1) fun o3=>(let z2:=(⟨o1.e.kind,o3.x,o1.e.bits,o1.e.len,o1.e.text,o1.e.code,o1.e.at_⟩:Ev);(Ur o2.c1 o3)∧((EvB z2)∧(List.length (z2).text≤4)∧(Aw o3.c1))∧(.v (.agg [zi o1.e.kind,zi o3.x,.int .u64 o1.e.bits,zi o1.e.len,.str o1.e.text,zi o1.e.code,zi o1.e.at_]):S)= .v (.agg [zi o1.e.kind,zi o3.x,.int .u64 o1.e.bits,zi o1.e.len,.str o1.e.text,zi o1.e.code,zi o1.e.at_])∧([.cells (Ak o3.c1)]:List Blk)=[.cells (Ak o3.c1)]))∧((decide (o2.x=1))=false→((decide (o2.x=2))=true→In (Kp o2.c1) fun o3=>(let z3:=(⟨o1.e.kind,o1.e.field,o1.e.bits,o3.x,o1.e.text,o1.e.code,o1.e.at_⟩:Ev);(Rx o2.c1 o3)∧((EvB z3)∧(List.length (z3).text≤4)∧(Aw o3.c1))∧(.v (.agg [zi o1.e.kind,zi o1.e.field,.int .u64 o1.e.bits,zi o3.x,.str o1.e.text,zi o1.e.code,zi o1.e.at_]):S)= .v (.agg [zi o1.e.kind,zi o1.e.field,.int .u64 o1.e.bits,zi o3.x,.str o1.e.text,zi o1.e.code,zi o1.e.at_])∧([.cells (Ak o3.c1)]:List Blk)=[.cells (Ak o3.c1)]))∧((decide (o2.x=2))=false→((decide (o2.x=3))=true→In (Hi o2.c1 [[],[120]]) fun o3=>(let z4:=(⟨o1.e.kind,o1.e.field,o1.e.bits,o1.e.len,o3.t,o1.e.code,o1.e.at_⟩:Ev);(Qv o2.c1 [[],[120]] o3)∧((EvB z4)∧(List.length (z4).text≤4)∧(Aw o3.c1))∧(.v (.agg [zi o1.e.kind,zi o1.e.field,.int .u64 o1.e.bits,zi o1.e.len,.str o3.t,zi o1.e.code,zi o1.e.at_]):S)= .v (.agg [zi o1.e.kind,zi o1.e.field,.int .u64 o1.e.bits,zi o1.e.len,.str o3.t,zi o1.e.code,zi o1.e.at_])∧([.cells (Ak o3.c1)]:List Blk)=[.cells (Ak o3.c1)]))∧((decide (o2.x=3))=false→((decide (o2.x=4))=true→In (A6 o2.c1 [0,(-1),11,20]) fun o3=>(let z5:=(⟨o1.e.kind,o1.e.field,o1.e.bits,o1.e.len,o1.e.text,o3.x,o1.e.at_⟩:Ev);(B6 o2.c1 [0,(-1),11,20] o3)∧((EvB z5)∧(List.length (z5).text≤4)∧(Aw o3.c1))∧(.v (.agg [zi o1.e.kind,zi o1.e.field,.int .u64 o1.e.bits,zi o1.e.len,.str o1.e.text,zi o3.x,zi o1.e.at_]):S)= .v (.agg [zi o1.e.kind,zi o1.e.field,.int .u64 o1.e.bits,zi o1.e.len,.str o1.e.text,zi o3.x,zi o1.e.at_])∧([.cells (Ak o3.c1)]:List Blk)=[.cells (Ak o3.c1)]))∧((decide (o2.x=4))=false→((decide (o2.x=5))=true→In (Kp o2.c1) fun o3=>(let z6:=(⟨o1.e.kind,o1.e.field,o1.e.bits,o1.e.len,o1.e.text,o1.e.code,o3.x⟩:Ev);(Rx o2.c1 o3)∧((EvB z6)∧(List.length (z6).text≤4)∧(Aw o3.c1))∧(.v (.agg [zi o1.e.kind,zi o1.e.field,.int .u64 o1.e.bits,zi o1.e.len,.str o1.e.text,zi o1.e.code,zi o3.x]):S)= .v (.agg [zi o1.e.kind,zi o1.e.field,.int .u64 o1.e.bits,zi o1.e.len,.str o1.e.text,zi o1.e.code,zi o3.x])∧([.cells (Ak o3.c1)]:List Blk)=[.cells (Ak o3.c1)]))∧((decide (o2.x=5))=false→((decide (o2.x=6))=true→In (B7 o2.c1) fun o3=>(let z7:=(⟨o1.e.kind,o1.e.field,o3.x,o1.e.len,o1.e.text,o1.e.code,o1.e.at_⟩:Ev);(D7 o2.c1 o3)∧((EvB z7)∧(List.length (z7).text≤4)∧(Aw o3.c1))∧(.v (.agg [zi o1.e.kind,zi o1.e.field,.int .u64 o3.x,zi o1.e.len,.str o1.e.text,zi o1.e.code,zi o1.e.at_]):S)= .v (.agg [zi o1.e.kind,zi o1.e.field,.int .u64 o3.x,zi o1.e.len,.str o1.e.text,zi o1.e.code,zi o1.e.at_])∧([.cells (Ak o3.c1)]:List Blk)=[.cells (Ak o3.c1)]))∧((decide (o2.x=6))=false→((EvB o1.e)∧(List.length (o1.e).text≤4)∧(Aw o2.c1))∧(.v (.agg (cEv o1.e)):S)= .v (.agg (cEv o1.e))∧([.cells (Ak o2.c1)]:List Blk)=[.cells (Ak o2.c1)]))))))))))) Q4 ?_
 refine⟨(Afa c Q0),fun o1 ho_o1=>?_⟩
 obtain ⟨⟨hp_o1_0,hp_o1_1,hp_o1_2⟩,hf_o1⟩:=ho_o1
 refine⟨hf_o1,(Ao o1.c1 14 Q0),fun o2 ho_o2=>?_⟩
 obtain ⟨⟨hp_o2_0,hp_o2_1,hp_o2_2,hp_o2_3⟩,hf_o2⟩:=ho_o2
 refine⟨hf_o2,dsp (fun h1 p1=>?_) fun h1 p1=>?_⟩
 refine⟨(Ao o2.c1 13 Q0),fun o3 ho_o3=>?_⟩
 obtain ⟨⟨hp_o3_0,hp_o3_1,hp_o3_2,hp_o3_3⟩,hf_o3⟩:=ho_o3
 exact⟨hf_o3,(Ae Q2 Q2),⟨Q17,Q36,Q0⟩,rfl,rfl⟩
 refine dsp (fun h2 p2=>?_) fun h2 p2=>?_
 refine⟨(Ae5 o2.c1 Q0),fun o3 ho_o3=>?_⟩
 obtain ⟨hp_o3,hf_o3⟩:=ho_o3
 exact⟨hf_o3,⟨Q17,Q36,Q0⟩,rfl,rfl⟩
 refine dsp (fun h3 p3=>?_) fun h3 p3=>?_
 refine⟨(Aa3 o2.c1 Q0),fun o3 ho_o3=>?_⟩
 obtain ⟨hp_o3,hf_o3⟩:=ho_o3
 exact⟨hf_o3,⟨Q17,Q36,Q0⟩,rfl,rfl⟩
 refine dsp (fun h4 p4=>?_) fun h4 p4=>?_
 refine⟨(Zm o2.c1 [[],[120]] Q0 Q6 Q6),fun o3 ho_o3=>?_⟩
 obtain ⟨⟨hp_o3_0,hp_o3_1⟩,hf_o3⟩:=ho_o3
 exact⟨hf_o3,⟨Q17,Q36,Q0⟩,rfl,rfl⟩
 refine dsp (fun h5 p5=>?_) fun h5 p5=>?_
 refine⟨(Cu o2.c1 [0,(-1),11,20] Q0 Q6 Q6),fun o3 ho_o3=>?_⟩
 obtain ⟨⟨hp_o3_0,hp_o3_1⟩,hf_o3⟩:=ho_o3
 exact⟨hf_o3,⟨Q17,Q36,Q0⟩,rfl,rfl⟩
 refine dsp (fun h6 p6=>?_) fun h6 p6=>?_
 refine⟨(Aa3 o2.c1 Q0),fun o3 ho_o3=>?_⟩
 obtain ⟨hp_o3,hf_o3⟩:=ho_o3
 exact⟨hf_o3,⟨Q17,Q36,Q0⟩,rfl,rfl⟩
 refine dsp (fun h7 p7=>?_) fun h7 p7=>?_
 refine⟨(G3 o2.c1 Q0),fun o3 ho_o3=>?_⟩
 obtain ⟨⟨hp_o3_0,hp_o3_1⟩,hf_o3⟩:=ho_o3
 exact⟨hf_o3,⟨Q17,Q36,Q0⟩,rfl,rfl⟩
 exact⟨⟨Q17,Q36,Q0⟩,rfl,rfl⟩
structure J7 where
 s:Scn
 c1:Cur
def Yi (c:Cur) (o:J7):Prop:=Fun Tryz.prog 114 [vP 0] [.cells (Ak c)] (.v (.agg (Kx o.s))) [.cells (Ak o.c1)]
def T0 (c:Cur) (o:J7):Prop:=(((0:Int)≤(o.s).bits∧(o.s).bits≤18446744073709551615)∧(Aw o.c1))∧Yi c o
structure Nt where
 c:Cur
 s:Scn
 i:Nat
def Ga (o1:Ct):Fam:=⟨Nt,fun q1=>[(0,.v (vP 0)),(2,.v (vP 1)),(3,.v (vP 2)),(4,.v (vI o1.x)),(5,.v (vI ((q1.i:Nat):Int)))],fun q1=>[.cells (Ak q1.c),.cells [.int .u64 0,.int .i64 0],.cells (Kx q1.s)],fun q1=>Aw q1.c∧q1.i≤9∧((0:Int)≤(q1.s).bits∧(q1.s).bits≤18446744073709551615),fun q1=>10-q1.i⟩
theorem Aj7 (c:Cur) (hp1:Aw c): ∃o:J7,T0 c o:=by
 have hN:Bf=274877906944:=rfl
 refine Bv Tryz.func114 Q4 Q4 (w:=let zi:Int→C:= .int .i64;let z3:= -9223372036854775808;(.intro (Aa c 10) fun o1=> .seg [.call [0] (.v (vI o1.x)) [.cells (Ak o1.c1)],.at 0,.keep [0,2,3,4,5],.sel [0,1,2]] (.loop (Ga o1) fun q1=> .br (.intro (Aa q1.c 128) fun o2=> .seg [.ord (os 9 [2,4,8]) [0],.call [0] (.v (vI o2.x)) [.cells (Ak o2.c1)],.as 18 (.v (vI (128+o2.x))),.call [] (.tup [.agg (Kx (Af q1.s (128+o2.x)).1),vI (Af q1.s (128+o2.x)).2]) [],.as 13 (.v (vI (((q1.i:Nat):Int)+1))),.at 0,.keep [0,2,3,4,5],.sel [0,1,2]] (.next)) (.intro (Aa q1.c 10) fun o2=> .seg [.call [0] (.v (vI o2.x)) [.cells (Ak o2.c1)]] (.br (.seg [.ty .int,.pubS 27] (.intro (A6 o2.c1 [(-1),0,9,10,11,9223372036854775807,z3]) fun o3=> .seg [.call [0] (.v (vI o3.x)) [.cells (Ak o3.c1)]] (.leaf (⟨(⟨q1.s.bits,o3.x⟩:Scn),o3.c1⟩:J7) [0]))) (.br (.intro (B7 o2.c1) fun o3=> .seg [.call [0] (.v (.c (.int .u64 o3.x))) [.cells (Ak o3.c1)]] (.leaf (⟨(⟨o3.x,q1.s.have_⟩:Scn),o3.c1⟩:J7) [0])) (.leaf (⟨q1.s,o2.c1⟩:J7) [0]))))),In (Aa c 10) fun o1=>((Ai c 10 o1)∧(Ga o1).Has [(0,.v (vP 0)),(2,.v (vP 1)),(3,.v (vP 2)),(4,.v (vI o1.x)),(5,.v (vI 0))] [.cells (Ak o1.c1),.cells [.int .u64 0,zi 0],.cells [.int .u64 0,zi 0]]∧∀q1,(Ga o1).inv q1→(let z2:=((q1.i:Nat):Int);((decide (z2<o1.x))=true→In (Aa q1.c 128) fun o2=>(let z1:=Af q1.s (128+o2.x);(Ai q1.c 128 o2)∧((.v (vI (IntKind.i64.wrap (128+o2.x))):S)= .v (vI (128+o2.x)))∧(Fun Tryz.prog 129 [.agg (Kx q1.s),vI (128+o2.x)] [] (.tup [.agg (Kx z1.1),vI z1.2]) [])∧((.v (vI (IntKind.i64.wrap (z2+1))):S)= .v (vI (z2+1)))∧(Ga o1).Nxt q1 [(0,.v (vP 0)),(2,.v (vP 1)),(3,.v (vP 2)),(4,.v (vI o1.x)),(5,.v (vI (z2+1)))] [.cells (Ak o2.c1),.cells [.int .u64 0,zi 0],.cells (Kx z1.1)]))∧((decide (z2<o1.x))=false→In (Aa q1.c 10) fun o2=>((Ai q1.c 10 o2)∧((decide (o2.x=0))=true→In (A6 o2.c1 [(-1),0,9,10,11,9223372036854775807,z3]) fun o3=>((B6 o2.c1 [(-1),0,9,10,11,9223372036854775807,z3] o3)∧(((0:Int)≤((⟨q1.s.bits,o3.x⟩:Scn)).bits∧((⟨q1.s.bits,o3.x⟩:Scn)).bits≤18446744073709551615)∧(Aw o3.c1))∧(.v (.agg [.int .u64 q1.s.bits,zi o3.x]):S)= .v (.agg [.int .u64 q1.s.bits,zi o3.x])∧([.cells (Ak o3.c1)]:List Blk)=[.cells (Ak o3.c1)]))∧((decide (o2.x=0))=false→((decide (o2.x=1))=true→In (B7 o2.c1) fun o3=>((D7 o2.c1 o3)∧(((0:Int)≤((⟨o3.x,q1.s.have_⟩:Scn)).bits∧((⟨o3.x,q1.s.have_⟩:Scn)).bits≤18446744073709551615)∧(Aw o3.c1))∧(.v (.agg [.int .u64 o3.x,zi q1.s.have_]):S)= .v (.agg [.int .u64 o3.x,zi q1.s.have_])∧([.cells (Ak o3.c1)]:List Blk)=[.cells (Ak o3.c1)]))∧((decide (o2.x=1))=false→(((0:Int)≤(q1.s).bits∧(q1.s).bits≤18446744073709551615)∧(Aw o2.c1))∧(.v (.agg (Kx q1.s)):S)= .v (.agg (Kx q1.s))∧([.cells (Ak o2.c1)]:List Blk)=[.cells (Ak o2.c1)])))))))) Q4 ?_
 refine⟨(Ao c 10 Q0),fun o1 ho_o1=>?_⟩
 obtain ⟨⟨hp_o1_0,hp_o1_1,hp_o1_2,hp_o1_3⟩,hf_o1⟩:=ho_o1
 refine⟨hf_o1,Bi (j:=(⟨o1.c1,(⟨0,0⟩:Scn),0⟩:Nt)) Q10 Q10 (by dsimp only[Ga];exact⟨by assumption,by omega,by decide⟩),fun (q1:Nt) hq_q1=>?_⟩
 have hi_q1:Aw q1.c∧q1.i≤9∧((0:Int)≤(q1.s).bits∧(q1.s).bits≤18446744073709551615):=hq_q1
 obtain ⟨v1,v2,v3⟩:=hi_q1
 refine dsp (fun h1 p1=>?_) fun h1 p1=>?_
 refine⟨(Ao q1.c 128 Q0),fun o2 ho_o2=>?_⟩
 obtain ⟨⟨hp_o2_0,hp_o2_1,hp_o2_2,hp_o2_3⟩,hf_o2⟩:=ho_o2
 exact⟨hf_o2,(Ae Q2 Q2),(J5 q1.s _ Q2),(Ae Q2 Q2),A5 (j:=(⟨o2.c1,(Af q1.s (128+o2.x)).1,q1.i+1⟩:Nt)) Q10 rfl (by dsimp only[Ga];exact⟨by assumption,by omega,Qi v3.1 v3.2⟩) (by dsimp only[Ga];omega)⟩
 refine⟨(Ao q1.c 10 Q0),fun o2 ho_o2=>?_⟩
 obtain ⟨⟨hp_o2_0,hp_o2_1,hp_o2_2,hp_o2_3⟩,hf_o2⟩:=ho_o2
 refine⟨hf_o2,dsp (fun h2 p2=>?_) fun h2 p2=>?_⟩
 refine⟨(Cu o2.c1 [(-1),0,9,10,11,9223372036854775807,(-9223372036854775808)] Q0 Q6 Q6),fun o3 ho_o3=>?_⟩
 obtain ⟨⟨hp_o3_0,hp_o3_1⟩,hf_o3⟩:=ho_o3
 exact⟨hf_o3,⟨Q2,Q0⟩,rfl,rfl⟩
 refine dsp (fun h3 p3=>?_) fun h3 p3=>?_
 refine⟨(G3 o2.c1 Q0),fun o3 ho_o3=>?_⟩
 obtain ⟨⟨hp_o3_0,hp_o3_1⟩,hf_o3⟩:=ho_o3
 exact⟨hf_o3,⟨Q2,Q0⟩,rfl,rfl⟩
 exact⟨⟨Q2,Q0⟩,rfl,rfl⟩
structure Mb where
 x:Int
 c1:Cur
def Yj (c:Cur) (o:Mb):Prop:=Fun Tryz.prog 53 [vP 0] [.cells (Ak c)] (.v (vI o.x)) [.cells (Ak o.c1)]
def T3 (c:Cur) (o:Mb):Prop:=((Aw o.c1))∧Yj c o
theorem Aj8 (c:Cur) (hp1:Aw c): ∃o:Mb,T3 c o:=by
 have hN:Bf=274877906944:=rfl
 refine Bv Tryz.func53 Q4 Q4 (w:=let z1:= -9223372036854775808;(.intro (Ar c 12) fun o1=> .seg [.call [0] (.v (vB o1.p)) [.cells (Ak o1.c1)]] (.br (.seg [.ty .int,.pubS 6] (.intro (A6 o1.c1 [(-1),256,9223372036854775807,z1]) fun o2=> .seg [.call [0] (.v (vI o2.x)) [.cells (Ak o2.c1)]] (.leaf (⟨o2.x,o2.c1⟩:Mb) [0]))) (.intro (Aa o1.c1 256) fun o2=> .seg [.call [0] (.v (vI o2.x)) [.cells (Ak o2.c1)],.ty .int,.pubS 11] (.intro (A6 o2.c1 [0,1,2,127,128,129,255,o2.x]) fun o3=> .seg [.call [0] (.v (vI o3.x)) [.cells (Ak o3.c1)]] (.leaf (⟨o3.x,o3.c1⟩:Mb) [0])))),In (Ar c 12) fun o1=>((Bg c 12 o1)∧(o1.p=true→In (A6 o1.c1 [(-1),256,9223372036854775807,z1]) fun o2=>((B6 o1.c1 [(-1),256,9223372036854775807,z1] o2)∧((Aw o2.c1))∧(.v (vI o2.x):S)= .v (vI o2.x)∧([.cells (Ak o2.c1)]:List Blk)=[.cells (Ak o2.c1)]))∧(o1.p=false→In (Aa o1.c1 256) fun o2=>((Ai o1.c1 256 o2)∧In (A6 o2.c1 [0,1,2,127,128,129,255,o2.x]) fun o3=>((B6 o2.c1 [0,1,2,127,128,129,255,o2.x] o3)∧((Aw o3.c1))∧(.v (vI o3.x):S)= .v (vI o3.x)∧([.cells (Ak o3.c1)]:List Blk)=[.cells (Ak o3.c1)])))))) Q4 ?_
 refine⟨(B1 c 12 Q0),fun o1 ho_o1=>?_⟩
 obtain ⟨hp_o1,hf_o1⟩:=ho_o1
 refine⟨hf_o1,fun h1=>?_,fun h1=>?_⟩
 refine⟨(Cu o1.c1 [(-1),256,9223372036854775807,(-9223372036854775808)] Q0 Q6 Q6),fun o2 ho_o2=>?_⟩
 obtain ⟨⟨hp_o2_0,hp_o2_1⟩,hf_o2⟩:=ho_o2
 exact⟨hf_o2,Q0,rfl,rfl⟩
 refine⟨(Ao o1.c1 256 Q0),fun o2 ho_o2=>?_⟩
 obtain ⟨⟨hp_o2_0,hp_o2_1,hp_o2_2,hp_o2_3⟩,hf_o2⟩:=ho_o2
 refine⟨hf_o2,(Cu o2.c1 [0,1,2,127,128,129,255,o2.x] Q0 Q6 Q6),fun o3 ho_o3=>?_⟩
 obtain ⟨⟨hp_o3_0,hp_o3_1⟩,hf_o3⟩:=ho_o3
 exact⟨hf_o3,Q0,rfl,rfl⟩
theorem Afb (s:List UInt8) (hp1:List.length s≤Bf):Fun Tryz.prog 165 [vT s] [] (.v (.agg (H9 (Rt utf0 s)))) []:=by
 have hN:Bf=274877906944:=rfl
 refine Aq Tryz.func165 Q4 Q4 (w:=let z1:=H9 (Rt (⟨0,0,0⟩:Utf) s);(.seg [.call [] (.tup [.agg z1,vI (Uk (⟨0,0,0⟩:Utf) s)]) []] (.leaf () []),(Fun Tryz.prog 202 [.agg [.int .i64 0,.int .i64 0,.int .i64 0],vT s] [] (.tup [.agg z1,vI (Uk (⟨0,0,0⟩:Utf) s)]) [])∧(.v (.agg z1):S)= .v (.agg (H9 (Rt utf0 s)))∧([]:List Blk)=[])) Q4 ?_
 refine⟨(Aha (⟨0,0,0⟩:Utf) _ Q2),?_⟩
 have hm1:Rt utf0 s=(Rt (⟨0,0,0⟩:Utf) s):=by rfl
 exact⟨Q7,rfl⟩
structure Gb where
 u:Utf
 c1:Cur
def W6 (c:Cur) (o:Gb):Prop:=Fun Tryz.prog 115 [vP 0] [.cells (Ak c)] (.v (.agg (H9 o.u))) [.cells (Ak o.c1)]
def R8 (c:Cur) (o:Gb):Prop:=((Aw o.c1))∧W6 c o
theorem Ah7 (c:Cur) (hp1:Aw c): ∃o:Gb,R8 c o:=by
 have hN:Bf=274877906944:=rfl
 refine Bv Tryz.func115 Q4 Q4 (w:=let zi:Int→C:= .int .i64;(.intro (L8 c) fun o1=>let z1:=Rt utf0 o1.t;.seg [.call [0] (.v (vT o1.t)) [.cells (Ak o1.c1)],.call [] (.v (.agg (H9 z1))) []] (.intro (Aa o1.c1 12) fun o2=> .seg [.call [0] (.v (vI o2.x)) [.cells (Ak o2.c1)]] (.br (.intro (Aa o2.c1 6) fun o3=> .seg [.call [0] (.v (vI o3.x)) [.cells (Ak o3.c1)],.as 13 (.v (vI (o3.x-1)))] (.leaf (⟨(⟨o3.x-1,z1.low,z1.high⟩:Utf),o3.c1⟩:Gb) [0])) (.br (.seg [.ty .int,.pubS 18] (.intro (A6 o2.c1 [0,128,144,160,(-1)]) fun o3=> .seg [.call [0] (.v (vI o3.x)) [.cells (Ak o3.c1)]] (.leaf (⟨(⟨z1.want,o3.x,z1.high⟩:Utf),o3.c1⟩:Gb) [0]))) (.br (.seg [.ty .int,.pubS 24] (.intro (A6 o2.c1 [0,143,159,191,255]) fun o3=> .seg [.call [0] (.v (vI o3.x)) [.cells (Ak o3.c1)]] (.leaf (⟨(⟨z1.want,z1.low,o3.x⟩:Utf),o3.c1⟩:Gb) [0]))) (.leaf (⟨z1,o2.c1⟩:Gb) [0]))))),In (L8 c) fun o1=>(let z2:=Rt utf0 o1.t;(Tz c o1)∧(Fun Tryz.prog 165 [vT o1.t] [] (.v (.agg (H9 z2))) [])∧In (Aa o1.c1 12) fun o2=>((Ai o1.c1 12 o2)∧((decide (o2.x=0))=true→In (Aa o2.c1 6) fun o3=>((Ai o2.c1 6 o3)∧((.v (vI (IntKind.i64.wrap (o3.x-1))):S)= .v (vI (o3.x-1)))∧((Aw o3.c1))∧(.v (.agg [zi (o3.x-1),zi z2.low,zi z2.high]):S)= .v (.agg [zi (o3.x-1),zi z2.low,zi z2.high])∧([.cells (Ak o3.c1)]:List Blk)=[.cells (Ak o3.c1)]))∧((decide (o2.x=0))=false→((decide (o2.x=1))=true→In (A6 o2.c1 [0,128,144,160,(-1)]) fun o3=>((B6 o2.c1 [0,128,144,160,(-1)] o3)∧((Aw o3.c1))∧(.v (.agg [zi z2.want,zi o3.x,zi z2.high]):S)= .v (.agg [zi z2.want,zi o3.x,zi z2.high])∧([.cells (Ak o3.c1)]:List Blk)=[.cells (Ak o3.c1)]))∧((decide (o2.x=1))=false→((decide (o2.x=2))=true→In (A6 o2.c1 [0,143,159,191,255]) fun o3=>((B6 o2.c1 [0,143,159,191,255] o3)∧((Aw o3.c1))∧(.v (.agg [zi z2.want,zi z2.low,zi o3.x]):S)= .v (.agg [zi z2.want,zi z2.low,zi o3.x])∧([.cells (Ak o3.c1)]:List Blk)=[.cells (Ak o3.c1)]))∧((decide (o2.x=2))=false→((Aw o2.c1))∧(.v (.agg (H9 z2)):S)= .v (.agg (H9 z2))∧([.cells (Ak o2.c1)]:List Blk)=[.cells (Ak o2.c1)]))))))) Q4 ?_
 refine⟨(Ady c Q0),fun o1 ho_o1=>?_⟩
 obtain ⟨⟨hp_o1_0,hp_o1_1⟩,hf_o1⟩:=ho_o1
 refine⟨hf_o1,(Afb _ Q2),(Ao o1.c1 12 Q0),fun o2 ho_o2=>?_⟩
 obtain ⟨⟨hp_o2_0,hp_o2_1,hp_o2_2,hp_o2_3⟩,hf_o2⟩:=ho_o2
 refine⟨hf_o2,dsp (fun h1 p1=>?_) fun h1 p1=>?_⟩
 refine⟨(Ao o2.c1 6 Q0),fun o3 ho_o3=>?_⟩
 obtain ⟨⟨hp_o3_0,hp_o3_1,hp_o3_2,hp_o3_3⟩,hf_o3⟩:=ho_o3
 exact⟨hf_o3,(Ae Q2 Q2),Q0,rfl,rfl⟩
 refine dsp (fun h2 p2=>?_) fun h2 p2=>?_
 refine⟨(Cu o2.c1 [0,128,144,160,(-1)] Q0 Q6 Q6),fun o3 ho_o3=>?_⟩
 obtain ⟨⟨hp_o3_0,hp_o3_1⟩,hf_o3⟩:=ho_o3
 exact⟨hf_o3,Q0,rfl,rfl⟩
 refine dsp (fun h3 p3=>?_) fun h3 p3=>?_
 refine⟨(Cu o2.c1 [0,143,159,191,255] Q0 Q6 Q6),fun o3 ho_o3=>?_⟩
 obtain ⟨⟨hp_o3_0,hp_o3_1⟩,hf_o3⟩:=ho_o3
 exact⟨hf_o3,Q0,rfl,rfl⟩
 exact⟨Q0,rfl,rfl⟩
theorem Com.start {d:Dcd} (h:Com d) {a:Int} (ha:0≤a∧a≤d.at_):Com (Dj d a):=by
 refine⟨B5 h.lv rfl rfl,h.at_,?_,h.ut,h.wi,h.fl,h.en⟩
 show 0≤(if d.scan.have_=0∧(d.mode=1∨d.mode=2∨d.mode=4) then a else d.start)∧(if d.scan.have_=0∧(d.mode=1∨d.mode=2∨d.mode=4) then a else d.start)≤d.at_
 split
 ·exact ha
 ·exact h.st
theorem Com.scan {d:Dcd} (h:Com d) (s:Scn):Com (D3 d s):=⟨B5 h.lv rfl rfl,h.at_,h.st,h.ut,h.wi,h.fl,h.en⟩
theorem Ah8 {s:Scn} {b:Int} (h0:0≤s.bits) (h:(Af s b).2=0):Db (Af s b).1=true:=by
 unfold Af at h ⊢
 split at h
 ·simp at h
 ·rename_i hc
  rw[if_neg hc]
  simp only[not_or] at hc
  have hs:Db s=true:=by simpa using hc.1
  have hb:=As (show Am b 0 255=true by simpa using hc.2.1)
  have hk:=Sw hs h0
  have hb2: ¬b<128:=fun hx=>by rw[if_pos hx] at h;simp at h
  have h9:s.have_≠9:=fun e=>hc.2.2 ⟨e,by omega⟩
  obtain ⟨u,hv⟩:=s
  simp only at h0 hk h9 ⊢
  obtain ⟨k,rfl⟩:=Int.eq_ofNat_of_zero_le hk.1
  have hk9:k<9:=by omega
  have hu:=hk.2.2
  rw[Int.toNat_natCast] at hu ⊢
  have hp:(0:Int)<2 ^ (7*(k+1)):=Int.pow_pos (by decide)
  have hp2:(2:Int) ^ (7*(k+1))=2 ^ (7*k)*128:=by rw[show 7*(k+1)=7*k+7 by omega,Int.pow_add];rfl
  have hp0:(0:Int)<2 ^ (7*k):=Int.pow_pos (by decide)
  have hm:b % 128*2 ^ (7*k)≤127*2 ^ (7*k):=Int.mul_le_mul_of_nonneg_right (by omega) (by omega)
  have hm0:0≤b % 128*2 ^ (7*k):=Int.mul_nonneg (by omega) (by omega)
  simp only[Db,Am,Bool.and_eq_true,decide_eq_true_eq]
  refine⟨⟨by omega,by omega⟩,?_⟩
  rw[show min (Int.toNat (7*((k:Int)+1))) 64=7*(k+1) by omega,Int.fdiv_eq_ediv_of_nonneg _ (Int.le_of_lt hp)]
  exact Int.ediv_eq_zero_of_lt Q2 Q2
theorem Aoy {d:Dcd} {o:List Ev} {b a:Int} (h:Com d) (hb:0≤d.scan.bits∧d.scan.bits≤18446744073709551615) (ha:0≤a∧a≤d.at_) (h1:d.mode=1→d.stack=[]) (hn:d.mode≠1→0<d.stack.length) (hk:Jd d=true)
  (hm:((d.mode=1∨d.mode=2∨d.mode=3∨d.mode=4)∧d.want=0)∨(d.mode=8∧Ay (Bw d.field.kind)=0∧0≤d.want∧d.want≤Di d)):B9 (Bp ⟨d,o⟩ b a).d=true:=by
 have hcs:=h.start ha
 have hbt:=Gt h.lv
 have hbb:=Qi (b:=b) hb.1 hb.2
 unfold Bp
 simp only
 split
 ·exact hcs.fail (by decide) ha.1
 ·split
  ·rename_i hc
   have hsn:=Ah8 hb.1 hc
   unfold St
   simp only
   split
   ·exact(hcs.scan _).fail (by decide) h.at_.1
   ·rename_i hx
    simp only[not_or,not_and] at hx
    have hcc:=hcs.scan (Af d.scan b).1
    refine J0 hcc.lv (show 1≤d.mode∧d.mode≤9 by omega) hcc.at_ hcc.st hcc.ut hcc.wi hcc.fl ?_ ?_ ?_ hk ?_
    ·show (if d.mode=9 then _ else _)=true
     rw[if_neg (by omega)];exact decide_eq_true h.en
    ·show (if d.mode=1 then decide (d.stack=[]) else if d.mode=9 then true else decide (1≤Di d))=true
     split
     ·rename_i hm1;exact decide_eq_true (h1 hm1)
     ·rename_i hm1
      rw[if_neg (by omega)];exact decide_eq_true (by have:=hx.1 hm1;omega)
    ·show (if d.mode=6∨d.mode=7∨d.mode=8 then Am d.want 1 (Di d) else decide (d.want=0))=true
     split
     ·have:=hx.2 (by omega)
      simp only[Am,Bool.and_eq_true,decide_eq_true_eq];omega
     ·exact decide_eq_true (by omega)
    ·have hw:Bq (D3 (Dj d a) (Af d.scan b).1)=0:=by
      show (if d.mode=5 then Ay d.wire else if d.mode=8 then Ay (Bw d.field.kind) else 0)=0
      rw[if_neg (by omega)]
      split<;>omega
     unfold Kj
     rw[hw,if_neg (by decide)]
     show (if d.mode=6∨d.mode=7∨d.mode=9 then decide ((Af d.scan b).1=scn0) else Db (Af d.scan b).1)=true
     rw[if_neg (by omega)]
     exact hsn
  ·split
   ·rename_i hm1
    exact Aj5 (hcs.scan _) (show d.want=0 by omega) hbb.1
   ·split
    ·rename_i hm1
     exact Aox (hcs.scan _) (show d.want=0 by omega)
    ·split
     ·rename_i hm1
      refine Anf (hcs.scan _) (show d.want=0 by omega) hbb.1 ?_
      unfold Jd at hk
      rw[if_neg (by omega),if_neg (by omega),if_neg (by omega),if_pos hm1] at hk
      simp only[Bool.and_eq_true,decide_eq_true_eq,Ak5,Bool.or_eq_true] at hk
      rw[hk.1] at hk
      exact hk.2
     ·rename_i hc1 hc2 hc3 hc4 hc5
      have hcc:=hcs.scan scn0
      refine Fz ⟨⟨B5 hcc.lv rfl rfl,hcc.at_,hcc.st,hcc.ut,hcc.wi,hcc.fl,hcc.en⟩,rfl,hn hc3,?_⟩
      rcases hm with hm|hm
      ·exact .inl ⟨by show (if d.mode=8 then (8:Int) else 2)=2;rw[if_neg (by omega)],hm.2⟩
      ·refine .inr (.inr (.inr ⟨by show (if d.mode=8 then (8:Int) else 2)=8;rw[if_pos hm.1],?_,hm.2.2.1,hm.2.2.2,?_⟩))
       ·unfold Jd at hk
        rw[if_neg (by omega),if_pos hm.1] at hk
        exact hk
       ·right;show Ay (Bw d.field.kind)≤d.want;omega
theorem Aj9 {s:Scn} {b w:Int} (h:0≤s.have_∧s.have_+1<w) (hw:w≤8) (hf:Int.fdiv s.bits (2 ^ min (Int.toNat (8*s.have_)) 64)=0) (hb:0≤b∧b≤255):(Bu s b).have_=s.have_+1∧Int.fdiv (Bu s b).bits (2 ^ min (Int.toNat (8*(s.have_+1))) 64)=0:=by
 obtain ⟨u,hv⟩:=s
 simp only at h hf
 unfold Bu
 rw[if_pos ⟨by simp only[Am,Bool.and_eq_true,decide_eq_true_eq];omega,by simp only[Am,Bool.and_eq_true,decide_eq_true_eq];omega⟩]
 refine⟨rfl,?_⟩
 simp only
 obtain ⟨k,rfl⟩:=Int.eq_ofNat_of_zero_le h.1
 have hk:k<7:=by omega
 rw[show min (Int.toNat (8*(k:Int))) 64=8*k by omega] at hf ⊢
 rw[show min (Int.toNat (8*((k:Int)+1))) 64=8*(k+1) by omega]
 have hp0:(0:Int)<2 ^ (8*k):=Int.pow_pos (by decide)
 have hp:(0:Int)<2 ^ (8*(k+1)):=Int.pow_pos (by decide)
 have hp2:(2:Int) ^ (8*(k+1))=2 ^ (8*k)*256:=by rw[show 8*(k+1)=8*k+8 by omega,Int.pow_add];rfl
 have hp3:(2:Int) ^ (8*(k+1))≤2 ^ 56:=by
  rcases (show k=0∨k=1∨k=2∨k=3∨k=4∨k=5∨k=6 by omega) with rfl|rfl|rfl|rfl|rfl|rfl|rfl<;>decide
 have hp56:(2:Int) ^ 56=72057594037927936:=rfl
 rw[Int.fdiv_eq_ediv_of_nonneg _ (Int.le_of_lt hp0)] at hf
 have hd:=Int.mul_ediv_add_emod u (2 ^ (8*k))
 rw[hf,Int.mul_zero,Int.zero_add] at hd
 have hu0:=Int.emod_nonneg u (show (2:Int) ^ (8*k)≠0 by omega)
 have hu1:=Int.emod_lt_of_pos u hp0
 have hm:b*2 ^ (8*k)≤255*2 ^ (8*k):=Int.mul_le_mul_of_nonneg_right (by omega) (by omega)
 have hm0:0≤b*2 ^ (8*k):=Int.mul_nonneg (by omega) (by omega)
 rw[Int.fdiv_eq_ediv_of_nonneg _ (Int.le_of_lt hp),IntKind.wrap_u64,IntKind.wrap_u64]
 have e1:b*2 ^ (8*k) % 18446744073709551616=b*2 ^ (8*k):=Int.emod_eq_of_lt hm0 (by omega)
 rw[e1,Int.emod_eq_of_lt (by omega) (by omega)]
 exact Int.ediv_eq_zero_of_lt Q2 Q2
theorem Aoz {d:Dcd} {o:List Ev} {b:Int} (h:Com d) (hn:0<d.stack.length) (hk:Jd d=true) (hb:0≤b∧b≤255) (h0:0≤d.scan.have_∧d.scan.have_≤Bq d-1) (hf:Int.fdiv d.scan.bits (2 ^ min (Int.toNat (8*d.scan.have_)) 64)=0) (hr:Bq d-d.scan.have_-1≤Po d)
  (hm:(d.mode=5∧d.want=0)∨(d.mode=8∧0≤d.want∧d.want≤Di d)):B9 (C7 ⟨d,o⟩ b).d=true:=by
 have hbt:=Gt h.lv
 have hwb:0≤Bq d∧Bq d≤8:=by
  have h1:=Eb d.wire
  have h2:=Eb (Bw d.field.kind)
  unfold Bq
  split
  ·omega
  ·split<;>omega
 have hro:Po d=if d.mode=8 then d.want else Di d:=rfl
 unfold C7
 simp only
 split
 ·rename_i hx
  have h1:d.scan.have_+1<Bq d:=by
   unfold Bu at hx
   rw[if_pos ⟨by simp only[Am,Bool.and_eq_true,decide_eq_true_eq];omega,by simp only[Am,Bool.and_eq_true,decide_eq_true_eq];omega⟩] at hx
   exact hx
  have hfn:=Aj9 ⟨h0.1,h1⟩ hwb.2 hf hb
  have hcc:=h.scan (Bu d.scan b)
  refine J0 hcc.lv (show 1≤d.mode∧d.mode≤9 by omega) hcc.at_ hcc.st hcc.ut hcc.wi hcc.fl ?_ ?_ ?_ hk ?_
  ·show (if d.mode=9 then _ else _)=true
   rw[if_neg (by omega)];exact decide_eq_true h.en
  ·show (if d.mode=1 then decide (d.stack=[]) else if d.mode=9 then true else decide (1≤Di d))=true
   rw[if_neg (by omega),if_neg (by omega)]
   refine decide_eq_true ?_
   split at hro<;>omega
  ·show (if d.mode=6∨d.mode=7∨d.mode=8 then Am d.want 1 (Di d) else decide (d.want=0))=true
   split
   ·rw[if_pos (by omega)] at hro
    simp only[Am,Bool.and_eq_true,decide_eq_true_eq];omega
   ·exact decide_eq_true (by omega)
  ·have hw:Bq (D3 d (Bu d.scan b))=Bq d:=rfl
   have hrr:Po (D3 d (Bu d.scan b))=Po d:=rfl
   have hss:(D3 d (Bu d.scan b)).scan=Bu d.scan b:=rfl
   unfold Kj
   rw[hw,if_pos (by omega),hrr,hss,hfn.1]
   simp only[Am,Bool.and_eq_true,decide_eq_true_eq]
   exact⟨⟨⟨by omega,by omega⟩,hfn.2⟩,by omega⟩
 ·have hcc:=h.scan scn0
  have hcv:Com (Bm ⟨D3 d scn0,o⟩ (Bu d.scan b).bits).d:=⟨B5 hcc.lv rfl rfl,hcc.at_,hcc.st,hcc.ut,hcc.wi,hcc.fl,hcc.en⟩
  split
  ·exact hcv.fail (by decide) h.at_.1
  ·rename_i hx
   refine Fz ⟨hcv,rfl,hn,?_⟩
   rcases hm with hm|hm
   ·exact .inl ⟨by show (if d.mode=8 then (8:Int) else 2)=2;rw[if_neg (by omega)],hm.2⟩
   ·have hw:Bq d=Ay (Bw d.field.kind):=by unfold Bq;rw[if_neg (by omega),if_pos hm.1]
    refine .inr (.inr (.inr ⟨by show (if d.mode=8 then (8:Int) else 2)=8;rw[if_pos hm.1],?_,hm.2.1,hm.2.2,?_⟩))
    ·unfold Jd at hk
     rw[if_neg (by omega),if_pos hm.1] at hk
     exact hk
    ·show d.want=0∨Ay (Bw d.field.kind)≤d.want
     omega
theorem Ang {d:Dcd} {o:List Ev} {b:Int} (h:Com d) (h1:1≤d.at_) (hm:d.mode=6) (hk:F8 d.field.kind=true) (hw:0≤d.want∧d.want≤Di d) (hn:0<d.stack.length) (hs:d.scan=scn0):B9 (Dy ⟨d,o⟩ b).d=true:=by
 unfold Dy
 simp only
 split
 ·split
  ·exact h.fail (by decide) (by omega)
  ·rename_i u hu
   exact Fz ⟨⟨B5 h.lv rfl rfl,h.at_,h.st,Aek hu,h.wi,h.fl,h.en⟩,hs,hn,.inr (.inl ⟨hm,hk,hw.1,hw.2⟩)⟩
 ·exact Fz ⟨h,hs,hn,.inr (.inl ⟨hm,hk,hw.1,hw.2⟩)⟩
theorem Ami {u:Int} {k:Nat} (hk:k≤64) (h:Int.fdiv u (2 ^ k)=0):0≤u∧u≤18446744073709551615:=by
 have hp0:(0:Int)<2 ^ k:=Int.pow_pos (by decide)
 rw[Int.fdiv_eq_ediv_of_nonneg _ (Int.le_of_lt hp0)] at h
 have hd:=Int.mul_ediv_add_emod u (2 ^ k)
 rw[h,Int.mul_zero,Int.zero_add] at hd
 have hu0:=Int.emod_nonneg u (show (2:Int) ^ k≠0 by omega)
 have hu1:=Int.emod_lt_of_pos u hp0
 have hp:(2:Nat) ^ k≤2 ^ 64:=Nat.pow_le_pow_right (by decide) hk
 have hc:((2 ^ k:Nat):Int)=(2:Int) ^ k:=by simp
 have h64:(2:Nat) ^ 64=18446744073709551616:=rfl
 omega
theorem Mc {d:Dcd} (h:B9 d=true):0≤d.scan.bits∧d.scan.bits≤18446744073709551615:=by
 have hs:=(Hf h).2.2.2.2.2.2.2.2.2.2.2
 unfold Kj at hs
 split at hs
 ·simp only[Bool.and_eq_true,decide_eq_true_eq] at hs
  exact Ami (Nat.min_le_right _ _) hs.1.2
 ·split at hs
  ·have e:d.scan=scn0:=of_decide_eq_true hs
   rw[e];decide
  ·simp only[Db,Bool.and_eq_true,decide_eq_true_eq] at hs
   exact Ami (Nat.min_le_right _ _) hs.2
theorem Ah9 {d:Dcd} (h:d.stack.length≠0):Di (Ci d)=Di d-1:=by
 show (List.getD (Ci d).stack ((Ci d).stack.length-1) Apo).left=_
 rw[Km]
 unfold Ci
 simp only
 rw[if_neg h,List.getD_eq_getElem?_getD,List.getElem?_set_self (by omega)]
 rfl
theorem Anh {d:Dcd} {o:List Ev} {b:Int} (hok:B9 d=true) (h9:d.mode≠9) (hat:d.at_<1000000000) (hb:0≤b∧b≤255):B9 (Dn ⟨d,o⟩ b).d=true:=by
 obtain ⟨lv,hm,hat0,hst,hut,hwi,hfl,hen,hsk,hwd,hkd,hsc⟩:=Hf hok
 have hbits:=Mc hok
 have hs:=U9 hok h9
 have hms:=(U8 hok hbits).step hs.1 hs.2.1 hs.2.2.1
 have hw:=Ab7 hwd
 have hc:Com (Ci d):=⟨hms.lv,(show 0≤d.at_+1∧d.at_+1≤1000000000 by omega),(show 0≤d.start∧d.start≤d.at_+1 by omega),hut,hwi,hfl,hs.2.2.2.2⟩
 have hk:Jd (Ci d)=true:=hkd
 have htp:d.mode≠1→1≤Di d:=fun h1=>by unfold Jh at hsk;rw[if_neg h1,if_neg h9] at hsk;exact of_decide_eq_true hsk
 have hn:d.mode≠1→0<d.stack.length:=fun h1=>by
  have:=htp h1
  by_cases h0:d.stack.length=0
  ·rw[Y8 (List.eq_nil_of_length_eq_zero h0)] at this;omega
  ·omega
 have hns:d.mode≠1→0<(Ci d).stack.length:=fun h1=>by rw[Km];exact hn h1
 have ht:d.mode≠1→Di (Ci d)=Di d-1:=fun h1=>Ah9 (by have:=hn h1;omega)
 have hwa:(Ci d).want=if d.mode=6∨d.mode=7∨d.mode=8 then d.want-1 else d.want:=rfl
 have hwb:=Eb (Bw d.field.kind)
 unfold Dn
 simp only
 split
 ·rename_i h6
  have hw1:=hw.1 (by omega)
  rw[if_pos (by omega)] at hwa
  have ht:=ht (by omega)
  refine Ang hc (show 1≤d.at_+1 by omega) h6 ?_ Q2 (hns Q2) ?_
  ·unfold Jd at hkd;rw[if_pos h6] at hkd;exact hkd
  ·unfold Kj Bq at hsc
   rw[if_neg (show¬d.mode=5 by omega),if_neg (show¬d.mode=8 by omega),if_neg (by decide),if_pos (by omega)] at hsc
   exact of_decide_eq_true hsc
 ·split
  ·rename_i h6 h7
   have hw1:=hw.1 (by omega)
   rw[if_pos (by omega)] at hwa
   have ht:=ht (by omega)
   refine Fz ⟨hc,?_,hns Q2,.inr (.inr (.inl ⟨h7,by show 0≤(Ci d).want;omega,by show (Ci d).want≤Di (Ci d);omega⟩))⟩
   unfold Kj Bq at hsc
   rw[if_neg (show¬d.mode=5 by omega),if_neg (show¬d.mode=8 by omega),if_neg (by decide),if_pos (by omega)] at hsc
   exact of_decide_eq_true hsc
  ·rename_i h6 h7
   split
   ·rename_i h0
    unfold Kj at hsc
    rw[if_pos h0] at hsc
    simp only[Bool.and_eq_true,decide_eq_true_eq] at hsc
    have hh:=As hsc.1.1
    have hwe:Bq (Ci d)=Bq d:=rfl
    have hmm:d.mode=5∨d.mode=8:=by unfold Bq at h0;split at h0<;>(try split at h0)<;>omega
    have ht:=ht (by omega)
    have hr1:Po d=if d.mode=8 then d.want else Di d:=rfl
    have hr2:Po (Ci d)=if d.mode=8 then (Ci d).want else Di (Ci d):=rfl
    refine Aoz hc (hns Q2) hk hb (by rw[hwe];exact hh) hsc.1.2 ?_ ?_
    ·rw[hwe]
     show Bq d-d.scan.have_-1≤Po (Ci d)
     rcases hmm with h5|h8
     ·rw[if_neg (by omega)] at hr1 hr2;omega
     ·rw[if_pos h8] at hr1 hr2;rw[if_pos (by omega)] at hwa;omega
    ·rcases hmm with h5|h8
     ·rw[if_neg (by omega)] at hwa
      exact .inl ⟨h5,by rw[hwa];exact hw.2 Q2⟩
     ·rw[if_pos (by omega)] at hwa
      have hw1:=hw.1 (by omega)
      exact .inr ⟨h8,by omega,by omega⟩
   ·rename_i h0
    have h5:d.mode≠5:=fun h5=>by
     unfold Jd at hkd
     rw[if_neg (by omega),if_neg (by omega),if_neg (by omega),if_neg (by omega),if_pos h5] at hkd
     simp only[Bool.and_eq_true,decide_eq_true_eq] at hkd
     unfold Bq at h0
     rw[if_pos h5] at h0
     omega
    refine Aoy hc hbits (show 0≤d.at_∧d.at_≤d.at_+1 by omega) (fun h1=>?_) hns hk ?_
    ·unfold Jh at hsk
     rw[if_pos (show d.mode=1 from h1)] at hsk
     have e:d.stack=[]:=of_decide_eq_true hsk
     exact List.eq_nil_of_length_eq_zero (by rw[Km,e];rfl)
    ·by_cases h8:d.mode=8
     ·rw[if_pos (by omega)] at hwa
      have hw1:=hw.1 (by omega)
      have ht:=ht (by omega)
      refine .inr ⟨h8,?_,by omega,by omega⟩
      unfold Bq at h0
      rw[if_neg (by omega),if_pos h8] at h0
      show Ay (Bw d.field.kind)=0
      omega
     ·rw[if_neg (by omega)] at hwa
      exact .inl ⟨(show d.mode=1∨d.mode=2∨d.mode=3∨d.mode=4 by omega),by rw[hwa];exact hw.2 Q2⟩
def Kt (o:List Ev) (m:Mac):Mac:=⟨m.d,o++m.out⟩
theorem Fi (o:List Ev) (m:Mac) (c a:Int):A1 (Kt o m) c a=Kt o (A1 m c a):=by simp[A1,Kt,List.append_assoc]
theorem Yk (o:List Ev) (m:Mac):Az (Kt o m)=(Az m).map (Kt o):=by
 have hd:(Kt o m).d=m.d:=rfl
 unfold Az
 rw[hd]
 split
 ·split<;>simp[A1,Kt,List.append_assoc]
 ·split
  ·simp[Kt]
  ·split
   ·split<;>simp[Kt,List.append_assoc]
   ·rfl
theorem Lm (o:List Ev): ∀(m:Mac),Ad (Kt o m)=Kt o (Ad m):=by
 suffices ∀(k:Nat) (m:Mac),wM m≤k→Ad (Kt o m)=Kt o (Ad m) from fun m=>this _ m (Nat.le_refl _)
 intro k
 induction k with
 |zero=>
  intro m hk
  have hp:=Yk o m
  cases h:Az m with
  |none=>rw[Br h];rw[h] at hp;exact Br hp
  |some q=>have:=(Bz h).1;omega
 |succ k ih=>
  intro m hk
  have hp:=Yk o m
  cases h:Az m with
  |none=>rw[Br h];rw[h] at hp;exact Br hp
  |some q=>
   rw[h] at hp
   rw[Ca h,Ca hp]
   exact ih q (by have:=(Bz h).1;omega)
theorem Et {o:List Ev} {d:Dcd} {p r:List Ev} (h:r=o++p):Ad ⟨d,r⟩=Kt o (Ad ⟨d,p⟩):=by subst h;exact Lm o ⟨d,p⟩
theorem Afc (o:List Ev) (m:Mac) (u:Int):Ce (Kt o m) u=Kt o (Ce m u):=by
 have hd:(Kt o m).d=m.d:=rfl
 unfold Ce
 rw[hd]
 split
 ·exact Fi _ _ _ _
 ·exact Et (List.append_assoc _ _ _)
theorem Aka (o:List Ev) (m:Mac) (u:Int):D2 (Kt o m) u=Kt o (D2 m u):=by
 have hd:(Kt o m).d=m.d:=rfl
 unfold D2
 rw[hd]
 split
 ·exact Fi _ _ _ _
 ·split
  ·exact Fi _ _ _ _
  ·split
   ·exact Fi _ _ _ _
   ·split
    ·simp[A1,Kt,List.append_assoc]
    ·rfl
theorem Aia (o:List Ev) (m:Mac) (u:Int):Cd (Kt o m) u=Kt o (Cd m u):=by
 have hd:(Kt o m).d=m.d:=rfl
 unfold Cd
 rw[hd]
 split
 ·exact Fi _ _ _ _
 ·split
  ·exact Et rfl
  ·split
   ·split
    ·exact Fi _ _ _ _
    ·exact Et (List.append_assoc _ _ _)
   ·split
    ·exact Et (List.append_assoc _ _ _)
    ·split
     ·exact Fi _ _ _ _
     ·exact Et rfl
theorem T4 (o:List Ev) (m:Mac) (u:Int):Bm (Kt o m) u=Kt o (Bm m u):=by
 unfold Bm Kt
 simp only
 by_cases h:m.d.field=fld0<;>simp[h,List.append_assoc]
theorem Akb (o:List Ev) (m:Mac) (b a:Int):Bp (Kt o m) b a=Kt o (Bp m b a):=by
 have hd:(Kt o m).d=m.d:=rfl
 have hq: ∀d:Dcd,(⟨d,(Kt o m).out⟩:Mac)=Kt o ⟨d,m.out⟩:=fun _=>rfl
 unfold Bp
 simp only[hd,hq]
 split
 ·exact Fi _ _ _ _
 ·split
  ·unfold St
   rw[hd]
   split
   ·exact Fi _ _ _ _
   ·rfl
  ·split
   ·exact Afc _ _ _
   ·split
    ·exact Aka _ _ _
    ·split
     ·exact Aia _ _ _
     ·rw[T4,Lm]
theorem Akc (o:List Ev) (m:Mac) (b:Int):C7 (Kt o m) b=Kt o (C7 m b):=by
 have hd:(Kt o m).d=m.d:=rfl
 have hq: ∀d:Dcd,(⟨d,(Kt o m).out⟩:Mac)=Kt o ⟨d,m.out⟩:=fun _=>rfl
 unfold C7
 simp only[hd,hq]
 split
 ·rfl
 ·split
  ·rw[T4,Fi]
  ·rw[T4,Lm]
theorem Aib (o:List Ev) (m:Mac) (b:Int):Dy (Kt o m) b=Kt o (Dy m b):=by
 have hd:(Kt o m).d=m.d:=rfl
 unfold Dy
 rw[hd]
 split
 ·split
  ·exact Fi _ _ _ _
  ·exact Et (List.append_assoc _ _ _)
 ·exact Et (List.append_assoc _ _ _)
theorem Aic (o:List Ev) (m:Mac) (b:Int):Dn (Kt o m) b=Kt o (Dn m b):=by
 have hd:(Kt o m).d=m.d:=rfl
 have hq: ∀d:Dcd,(⟨d,(Kt o m).out⟩:Mac)=Kt o ⟨d,m.out⟩:=fun _=>rfl
 unfold Dn
 simp only[hd,hq]
 split
 ·exact Aib _ _ _
 ·split
  ·exact Lm _ _
  ·split
   ·exact Akc _ _ _
   ·exact Akb _ _ _ _
def R9 (m:Mac) (b:Int):Mac:=⟨(Bc m.d b).d,m.out++(Bc m.d b).out⟩
def Cs (m:Mac) (s:List UInt8):Mac:=s.foldl (fun m b=>R9 m (b.toNat:Int)) m
theorem Aa8 (m:Mac):Cs m []=m:=rfl
theorem Hk (m:Mac) (b:UInt8) (r:List UInt8):Cs m (b::r)=Cs (R9 m (b.toNat:Int)) r:=List.foldl_cons ..
theorem Afd {d:Dcd} {b:Int} (hok:B9 d=true) (ht:D0 d=true) (hb:0≤b∧b≤255):Bc d b=Dn ⟨d,[]⟩ b:=by
 unfold Bc
 rw[if_pos ⟨hok,ht,by simp only[Am,Bool.and_eq_true,decide_eq_true_eq];exact hb⟩]
theorem Afe {m:Mac} {b:Int} (hok:B9 m.d=true) (ht:D0 m.d=true) (hb:0≤b∧b≤255):R9 m b=Dn m b:=by
 have h:=Aic m.out ⟨m.d,[]⟩ b
 have e:Kt m.out ⟨m.d,[]⟩=m:=by cases m;simp[Kt]
 rw[e] at h
 unfold R9
 rw[Afd hok ht hb,h];rfl
theorem Zn {d:Dcd} {b:Int} (h:B9 d=false∨D0 d=false):Bc d b=⟨d,[]⟩:=by
 unfold Bc
 rw[if_neg]
 rintro ⟨h1,h2,-⟩
 rcases h with h|h
 ·rw[h] at h1;cases h1
 ·rw[h] at h2;cases h2
theorem Ad0 {m:Mac} {b:Int} (h:B9 m.d=false∨D0 m.d=false):R9 m b=m:=by
 unfold R9
 rw[Zn h]
 cases m;simp
theorem Zo {d:Dcd} (h:D0 d=true):d.mode≠9∧d.at_<1000000000:=by
 simpa only[D0,Bool.and_eq_true,Bool.not_eq_true',decide_eq_false_iff_not,decide_eq_true_eq] using h
theorem Ta {d:Dcd} {b:Int} (hok:B9 d=true):B9 (Bc d b).d=true:=by
 unfold Bc
 split
 ·rename_i h
  have ht:=Zo h.2.1
  exact Anh hok ht.1 ht.2 (As h.2.2)
 ·exact hok
theorem Aa9 {m:Mac} (h:B9 m.d=false): ∀s:List UInt8,Cs m s=m
 |[]=>rfl
 |b::r=>by rw[Hk,Ad0 (.inl h)];exact Aa9 h r
theorem Zp {m:Mac} (h:D0 m.d=false): ∀s:List UInt8,Cs m s=m
 |[]=>rfl
 |b::r=>by rw[Hk,Ad0 (.inr h)];exact Zp h r
theorem Aff {m:Mac} (h:D0 m.d=false) (s r:List UInt8):Cs m s=Cs m r:=by rw[Zp h,Zp h]
theorem H7 {d:Dcd} {b:Int} :(Bc d b).d.plan=d.plan∧((Bc d b).d.stack.length:Int)≤max (d.stack.length:Int) 8∧(Bc d b).out.length≤14∧((0≤d.scan.bits∧d.scan.bits≤18446744073709551615)→0≤(Bc d b).d.scan.bits∧(Bc d b).d.scan.bits≤18446744073709551615):=by
 cases hok:B9 d with
 |false=>rw[Zn (.inl hok)];exact⟨rfl,by simp only;omega,by simp,fun h=>h⟩
 |true=>
  have h1:=Ta (b:=b) hok
  have h2:=By (Hf hok).1
  have h3:=By (Hf h1).1
  exact⟨Aem.1,by omega,by have:=Ag3 (d:=d) (b:=b);omega,fun _=>Mc h1⟩
theorem Ap4 (b:UInt8):(0:Int)≤(b.toNat:Int)∧(b.toNat:Int)≤255:=by have:=b.toNat_lt;omega
theorem Tb: ∀(s:List UInt8) (m:Mac),(Cs m s).d.plan=m.d.plan∧((Cs m s).d.stack.length:Int)≤max (m.d.stack.length:Int) 8∧(Cs m s).out.length≤m.out.length+14*s.length∧((0≤m.d.scan.bits∧m.d.scan.bits≤18446744073709551615)→0≤(Cs m s).d.scan.bits∧(Cs m s).d.scan.bits≤18446744073709551615)
 |[],m=>⟨rfl,by show (m.d.stack.length:Int)≤_;omega,Nat.le_refl _,fun h=>h⟩
 |b::r,m=>by
  have h1:=H7 (d:=m.d) (b:=(b.toNat:Int))
  have h2:=Tb r (R9 m (b.toNat:Int))
  rw[Hk]
  have e1:(R9 m (b.toNat:Int)).d=(Bc m.d (b.toNat:Int)).d:=rfl
  have e2:(R9 m (b.toNat:Int)).out.length=m.out.length+(Bc m.d (b.toNat:Int)).out.length:=by simp[R9]
  rw[e1,e2] at h2
  refine⟨h2.1.trans h1.1,by omega,by simp only[List.length_cons];omega,fun h=>h2.2.2.2 (h1.2.2.2 h)⟩
structure Bxi where
 v:List Int
theorem Zq {p:Pln} :(Fw p).plan.shapes.length≤6∧(∀e∈(Fw p).plan.shapes,e.fields.length≤1048576)∧(Fw p).stack.length≤8∧(0≤(Fw p).scan.bits∧(Fw p).scan.bits≤18446744073709551615):=by
 unfold Fw
 split
 ·rename_i h
  have ht:=B8 h
  exact⟨ht.1,Ei ht.2.1,by simp,by simp⟩
 ·exact⟨by simp,fun e he=>(by cases he),by simp,by simp⟩
structure Bxn where
 v:Int
structure DecB (d:Dcd):Prop where
 pln:d.plan.shapes=[]∨PlnG ⟨d.plan.shapes,d.plan.root,1,d.plan.most⟩
 deep:d.plan.deep≤4
 stack:d.stack.length≤300000
 bits:0≤d.scan.bits∧d.scan.bits≤18446744073709551615
theorem DecB.shs {d:Dcd} (h:DecB d):d.plan.shapes.length≤3:=by
 rcases h.pln with h|h
 ·rw[h];simp
 ·exact h.sch.1.2
theorem DecB.flds {d:Dcd} (h:DecB d): ∀e∈d.plan.shapes,e.fields.length≤5:=fun e he=>by
 rcases h.pln with h|h
 ·rw[h] at he;cases he
 ·exact(h.sch.2 e he).1
theorem DecB.good {d:Dcd} (h:DecB d) (hp:Ez d.plan=true):PlnG d.plan:=by
 have ht:=B8 hp
 rcases h.pln with h2|h2
 ·rw[h2] at ht;simp at ht;omega
 ·exact⟨h2.sch,h2.root,by have:=h.deep;omega,h2.most⟩
theorem DecB.like {d x:Dcd} (h:DecB d) (h1:x.plan=d.plan) (h2:x.stack.length≤300000) (h3:0≤x.scan.bits∧x.scan.bits≤18446744073709551615):DecB x:=
 ⟨by rw[h1];exact h.pln,by rw[h1];exact h.deep,h2,h3⟩
theorem Zr {p:Pln} (h:PlnG p):DecB (Fw p):=by
 have hd:=h.deep
 unfold Fw;split
 ·exact⟨.inr ⟨h.sch,h.root,by show (1:Int)≤1∧(1:Int)≤4;decide,h.most⟩,hd.2,by simp,by show (0:Int)≤0∧(0:Int)≤18446744073709551615;decide⟩
 ·exact⟨.inl rfl,by show (0:Int)≤4;decide,by simp,by show (0:Int)≤0∧(0:Int)≤18446744073709551615;decide⟩
theorem Ani {d:Dcd} (h:DecB d) (s:List UInt8):DecB (Cs ⟨d,[]⟩ s).d:=by
 have hl:=Tb s ⟨d,[]⟩
 have hs:=h.stack
 exact h.like hl.1 (by have:=hl.2.1;dsimp only at this;omega) (hl.2.2.2 h.bits)
theorem Sa {d:Dcd} {b:Int} (h:DecB d):DecB (Bc d b).d:=by
 have hl:=H7 (d:=d) (b:=b)
 have hs:=h.stack
 exact h.like hl.1 Q2 (hl.2.2.2 h.bits)
structure H8 where
 d:Dcd
 c1:Cur
def Ux (c:Cur) (o:H8):Prop:=Fun Tryz.prog 112 [vP 0] [.cells (Ak c)] (.v (.agg (Ac 1 2 o.d))) [.cells (Ak o.c1),.tree o.d.plan.shapes,.lst .lev o.d.stack]
def P8 (c:Cur) (o:H8):Prop:=((DecB o.d)∧(List.length (o.d).stack≤8)∧(Aw o.c1))∧Ux c o
structure G7 where
 c:Cur
 d:Dcd
 i:Nat
def Fq (o2:Gm) (o3:Ct):Fam:=⟨G7,fun q1=>[(0,.v (vP 0)),(2,.v (vP 1)),(4,.v (vP 2)),(6,.v (vT o2.t)),(7,.v (vI o3.x)),(8,.v (vI ((q1.i:Nat):Int)))],fun q1=>[.cells (Ak q1.c),.cells [.nil,.int .i64 0,.int .i64 0,.int .i64 0,.int .i64 0,.nil,.int .u64 0,.int .i64 0,.int .i64 0,.int .i64 0,.int .i64 0,.int .i64 0,.bool false,.bool false,.int .i64 0,.int .i64 0,.int .i64 0,.int .i64 0,.int .i64 0,.int .i64 0,.int .i64 0,.int .i64 0,.int .u64 0,.int .i64 0,.str [],.int .i64 0,.int .i64 0],.cells (Ac 3 4 q1.d),.tree q1.d.plan.shapes,.lst .lev q1.d.stack],fun q1=>Aw q1.c∧DecB q1.d∧q1.i≤List.length o2.t∧List.length (q1.d).stack≤8,fun q1=>List.length o2.t+1-q1.i⟩
theorem Afg (c:Cur) (hp1:Aw c): ∃o:H8,P8 c o:=by
 have hN:Bf=274877906944:=rfl
 refine Bv Tryz.func112 Q4 Q4 (w:=let zi:Int→C:= .int .i64;let z12:List C:=[.nil,zi 0,zi 0,zi 0,zi 0,.nil,.int .u64 0,zi 0,zi 0,zi 0,zi 0,zi 0,.bool false,.bool false,zi 0,zi 0,zi 0,zi 0,zi 0,zi 0,zi 0,zi 0,.int .u64 0,zi 0,.str [],zi 0,zi 0];(.intro (R4 c) fun o1=> .seg [.call [0] (.v (.agg (N6 o1.p))) [.cells (Ak o1.c1)],.call [] (.tup [.agg (Ac 0 1 (Fw o1.p)),vB (Ez o1.p)]) [.tree (Fw o1.p).plan.shapes,.lst .lev (Fw o1.p).stack]] (.intro (H6 o1.c1 o1.p) fun o2=>let z9:=((List.length o2.t:Nat):Int)+1;.seg [.call [0] (.v (vT o2.t)) [.cells (Ak o2.c1)],.as 24 (.v (vI z9))] (.intro (Aa o2.c1 z9) fun o3=> .seg [.call [0] (.v (vI o3.x)) [.cells (Ak o3.c1)],.at 0,.keep [0,2,4,6,7,8],.sel [0,1,5,3,4]] (.loop (Fq o2 o3) fun q1=> .br (.intro (fun (x1:UInt8)=>o2.t[q1.i]? =some x1) fun x1=>let z2:=Bc q1.d ((UInt8.toNat x1:Nat):Int);.seg [.tree (fr (.two 5 (fr (.one 9 (.one 10 (.first 11 (.done)))) 6 3) 9 (.one 5 (fr (.one 10 (.first 11 (.done))) 6 3))) 0 5) 12 [],.ch x1,.as 36 (.v (vI ((UInt8.toNat x1:Nat):Int))),.call [] (.tup [.agg (Ac 0 1 z2.d),vO 2]) [.tree z2.d.plan.shapes,.lst .lev z2.d.stack,.lst .ev z2.out],.at 0,.keep [0,2,4,6,7,8,9],.sel [0,1,2,3,4,8,5,6],.call [] (.tup [.agg (Ac 0 1 z2.d),vO 2]) [.tree z2.d.plan.shapes,.lst .lev z2.d.stack,.lst .ev z2.out],.at 0,.keep [0,2,4,6,7,8,9],.sel [0,1,2,3,4,5,6,7]] (.br (.intro (Ar q1.c 4) fun o4=> .seg [.call [0] (.v (vB o4.p)) [.cells (Ak o4.c1)]] (.br (.leaf (⟨q1.d,o4.c1⟩:H8) [0,3,4]) (.seg [.as 30 (.v (vI (((q1.i:Nat):Int)+1))),.at 0,.keep [0,2,4,6,7,8],.sel [0,1,2,6,7]] (.next)))) (.seg [.as 30 (.v (vI (((q1.i:Nat):Int)+1))),.at 0,.keep [0,2,4,6,7,8],.sel [0,1,2,6,7]] (.next)))) (.leaf (⟨q1.d,q1.c⟩:H8) [0,3,4])))),In (R4 c) fun o1=>(let z11:=Fw o1.p;(W1 c o1)∧(Fun Tryz.prog 35 [.agg (N6 o1.p)] [] (.tup [.agg (Ac 0 1 z11),vB (Ez o1.p)]) [.tree z11.plan.shapes,.lst .lev z11.stack])∧In (H6 o1.c1 o1.p) fun o2=>(let z10:=((List.length o2.t:Nat):Int)+1;(P6 o1.c1 o1.p o2)∧((.v (vI (IntKind.i64.wrap z10)):S)= .v (vI z10))∧In (Aa o2.c1 z10) fun o3=>(let z8:=Fq o2 o3;(Ai o2.c1 z10 o3)∧z8.Has [(0,.v (vP 0)),(2,.v (vP 1)),(4,.v (vP 2)),(6,.v (vT o2.t)),(7,.v (vI o3.x)),(8,.v (vI 0))] [.cells (Ak o3.c1),.cells z12,.cells (Ac 3 4 z11),.tree z11.plan.shapes,.lst .lev z11.stack]∧∀q1,z8.inv q1→(let z5:=((q1.i:Nat):Int);let z6:List Blk:=[.cells (Ak q1.c),.tree q1.d.plan.shapes,.lst .lev q1.d.stack];let z7:=Ac 1 2 q1.d;((decide (z5<o3.x))=true→(∃(x1:UInt8),o2.t[q1.i]? =some x1)∧∀(x1:UInt8),(o2.t[q1.i]? =some x1)→(let z4:=((UInt8.toNat x1:Nat):Int);let z3:=Bc q1.d z4;(o2.t[q1.i]? =some x1)∧((0:Int)≤z5)∧(o2.t[q1.i]? =some x1)∧((0:Int)≤z5)∧((.v (vI (IntKind.i64.wrap (z4))):S)= .v (vI z4))∧((.v (vI (IntKind.i64.wrap (z4))):S)= .v (vI z4))∧(Fun Tryz.prog 18 [.agg (Bt q1.d),vI z4] [] (.tup [.agg (Ac 0 1 z3.d),vO 2]) [.tree z3.d.plan.shapes,.lst .lev z3.d.stack,.lst .ev z3.out])∧(Fun Tryz.prog 18 [.agg (Bt q1.d),vI z4] [] (.tup [.agg (Ac 0 1 z3.d),vO 2]) [.tree z3.d.plan.shapes,.lst .lev z3.d.stack,.lst .ev z3.out])∧(([.cells (Ak q1.c),.cells z12,.cells (Ac 3 4 q1.d),.tree q1.d.plan.shapes,.lst .lev q1.d.stack,.cells (Ac 6 7 z3.d),.tree z3.d.plan.shapes,.lst .lev z3.d.stack]:List Blk)=[.cells (Ak q1.c),.cells z12,.cells (Ac 3 4 q1.d),.tree q1.d.plan.shapes,.lst .lev q1.d.stack,.cells (Ac 6 7 z3.d),.tree z3.d.plan.shapes,.lst .lev z3.d.stack])∧(([(0,.v (vP 0)),(2,.v (vP 1)),(4,.v (vP 2)),(6,.v (vT o2.t)),(7,.v (vI o3.x)),(8,.v (vI z5)),(9,.v (vP 5))]:List (Nat×S))=[(0,.v (vP 0)),(2,.v (vP 1)),(4,.v (vP 2)),(6,.v (vT o2.t)),(7,.v (vI o3.x)),(8,.v (vI z5)),(9,.v (vP 5))])∧((decide (z3.d.mode=9))=true→In (Ar q1.c 4) fun o4=>(let z1:List Blk:=[.cells (Ak o4.c1),.tree q1.d.plan.shapes,.lst .lev q1.d.stack];(Bg q1.c 4 o4)∧((!o4.p)=true→((DecB q1.d)∧(List.length (q1.d).stack≤8)∧(Aw o4.c1))∧(.v (.agg z7):S)= .v (.agg z7)∧(z1:List Blk)=z1)∧((!o4.p)=false→((.v (vI (IntKind.i64.wrap (z5+1))):S)= .v (vI (z5+1)))∧z8.Nxt q1 [(0,.v (vP 0)),(2,.v (vP 1)),(4,.v (vP 2)),(6,.v (vT o2.t)),(7,.v (vI o3.x)),(8,.v (vI (z5+1)))] [.cells (Ak o4.c1),.cells z12,.cells (Ac 3 4 z3.d),.tree z3.d.plan.shapes,.lst .lev z3.d.stack])))∧((decide (z3.d.mode=9))=false→((.v (vI (IntKind.i64.wrap (z5+1))):S)= .v (vI (z5+1)))∧z8.Nxt q1 [(0,.v (vP 0)),(2,.v (vP 1)),(4,.v (vP 2)),(6,.v (vT o2.t)),(7,.v (vI o3.x)),(8,.v (vI (z5+1)))] [.cells (Ak q1.c),.cells z12,.cells (Ac 3 4 z3.d),.tree z3.d.plan.shapes,.lst .lev z3.d.stack])))∧((decide (z5<o3.x))=false→((DecB q1.d)∧(List.length (q1.d).stack≤8)∧(Aw q1.c))∧(.v (.agg z7):S)= .v (.agg z7)∧(z6:List Blk)=z6))))))) Q4 ?_
 refine⟨(Ah3 c Q0),fun o1 ho_o1=>?_⟩
 obtain ⟨⟨hp_o1_0,hp_o1_1⟩,hf_o1⟩:=ho_o1
 refine⟨hf_o1,(Ajp o1.p (by have:=hp_o1_0.sch.1;omega)),(Yh o1.c1 o1.p Q0 Q2),fun o2 ho_o2=>?_⟩
 obtain ⟨⟨hp_o2_0,hp_o2_1⟩,hf_o2⟩:=ho_o2
 refine⟨hf_o2,(Ae Q2 Q2),(Ao o2.c1 (((List.length o2.t:Nat):Int)+1) Q0),fun o3 ho_o3=>?_⟩
 obtain ⟨⟨hp_o3_0,hp_o3_1,hp_o3_2,hp_o3_3⟩,hf_o3⟩:=ho_o3
 refine⟨hf_o3,Bi (j:=(⟨o3.c1,(Fw o1.p),0⟩:G7)) Q10 rfl (by dsimp only[Fq];exact⟨by assumption,Zr Q83,by omega,Zq.2.2.1⟩),fun (q1:G7) hq_q1=>?_⟩
 have hi_q1:Aw q1.c∧DecB q1.d∧q1.i≤List.length o2.t∧List.length (q1.d).stack≤8:=hq_q1
 obtain ⟨v1,v2,v3,v4⟩:=hi_q1
 refine dsp (fun h1 p1=>?_) fun h1 p1=>?_
 refine⟨(Bh (l:=o2.t) (i:=q1.i) Q2),fun x1 hx1=>?_⟩
 have hb_x1:=UInt8.toNat_lt x1
 refine⟨hx1,Q2,hx1,Q2,(Ae Q2 Q2),(Ae Q2 Q2),(Tt q1.d _ (by have:=v2.shs;omega) (fun e he=>by have:=v2.flds e he;omega) (by have:=v2.stack;omega) (v2.bits)),(Tt q1.d _ (by have:=v2.shs;omega) (fun e he=>by have:=v2.flds e he;omega) (by have:=v2.stack;omega) (v2.bits)),rfl,rfl,dsp (fun h2 p2=>?_) fun h2 p2=>?_⟩
 refine⟨(B1 q1.c 4 Q0),fun o4 ho_o4=>?_⟩
 obtain ⟨hp_o4,hf_o4⟩:=ho_o4
 refine⟨hf_o4,fun h3=>have q3:=Ap h3;?_,fun h3=>have q3:=An h3;?_⟩
 exact⟨⟨(by first|assumption|exact Zr Q83|exact Sa Q83),(by first|exact v4|exact Zq.2.2.1|omega),Q0⟩,rfl,rfl⟩
 exact⟨(Ae Q2 Q2),A5 (j:=(⟨o4.c1,(Bc q1.d ((UInt8.toNat x1:Nat):Int)).d,q1.i+1⟩:G7)) Q10 rfl Q76 (by dsimp only[Fq];omega)⟩
 exact⟨(Ae Q2 Q2),A5 (j:=(⟨q1.c,(Bc q1.d ((UInt8.toNat x1:Nat):Int)).d,q1.i+1⟩:G7)) Q10 rfl Q76 (by dsimp only[Fq];omega)⟩
 exact⟨⟨(by first|assumption|exact Zr Q83|exact Sa Q83),(by first|exact v4|exact Zq.2.2.1|omega),Q0⟩,rfl,rfl⟩
structure Cv where
 d:Dcd
 c1:Cur
def Sb (c:Cur) (o:Cv):Prop:=Fun Tryz.prog 52 [vP 0] [.cells (Ak c)] (.v (.agg (Ac 1 2 o.d))) [.cells (Ak o.c1),.tree o.d.plan.shapes,.lst .lev o.d.stack]
def Ku (c:Cur) (o:Cv):Prop:=((DecB o.d)∧(Aw o.c1))∧Sb c o
theorem Aba (c:Cur) (hp1:Aw c): ∃o:Cv,Ku c o:=by
 have hN:Bf=274877906944:=rfl
 refine Bv Tryz.func52 Q4 Q4 (w:=let zi:Int→C:= .int .i64;(.intro (P8 c) fun o1=> .seg [.call [0] (.v (.agg (Ac 1 2 o1.d))) [.cells (Ak o1.c1),.tree o1.d.plan.shapes,.lst .lev o1.d.stack]] (.intro (Aa o1.c1 22) fun o2=> .seg [.call [0] (.v (vI o2.x)) [.cells (Ak o2.c1)]] (.br (.intro (Aa o2.c1 12) fun o3=> .seg [.call [0] (.v (vI o3.x)) [.cells (Ak o3.c1)],.as 12 (.v (vI (o3.x-1)))] (.leaf (⟨(⟨o1.d.plan,o3.x-1,o1.d.stack,o1.d.scan,o1.d.start,o1.d.at_,o1.d.field,o1.d.wire,o1.d.want,o1.d.utf,o1.d.end_⟩:Dcd),o3.c1⟩:Cv) [0,2,3])) (.br (.seg [.ty .int,.pubS 17] (.intro (A6 o2.c1 [0,1,5,2000,(-1)]) fun o3=> .seg [.call [0] (.v (vI o3.x)) [.cells (Ak o3.c1)]] (.leaf (⟨(⟨o1.d.plan,o1.d.mode,o1.d.stack,o1.d.scan,o1.d.start,o1.d.at_,o1.d.field,o1.d.wire,o3.x,o1.d.utf,o1.d.end_⟩:Dcd),o3.c1⟩:Cv) [0,2,3]))) (.br (.intro (Aa o2.c1 4) fun o3=> .intro (G2 o3.c1 [0,1,7,2000,2001,(-1)]) fun o4=>let z3:List Blk:=[.cells (Ak o4.c1),.lst .int [0,1,7,2000,2001,(-1)]];.seg [.tree (fr (.first 5 (.two 3 (.first 4 (.one 6 (.one 7 (.first 8 (.one 9 (.one 10 (.first 11 (.one 12 (.done))))))))) 6 (.one 3 (.first 4 (.one 7 (.first 8 (.one 9 (.one 10 (.first 11 (.one 12 (.done))))))))))) 0 3) 12 [0,3],.call [0] (.v (vI o3.x)) [.cells (Ak o3.c1)],.as 26 (.v (vI (o3.x-1))),.ty .int,.call [0,5] (.v (vI o4.x)) z3,.ty .lev,.ty .lev,.at 0,.keep [2,3],.sel [0,1,4,2,7],.ty .int,.call [0] (.v (vI o3.x)) [.cells (Ak o3.c1)],.as 26 (.v (vI (o3.x-1))),.call [0,5] (.v (vI o4.x)) z3,.ty .lev,.ty .lev,.at 0,.keep [2,3],.sel [0,1,4,2,7]] (.leaf (⟨(⟨o1.d.plan,o1.d.mode,o1.d.stack++[(⟨o3.x-1,o4.x⟩:Lev)],o1.d.scan,o1.d.start,o1.d.at_,o1.d.field,o1.d.wire,o1.d.want,o1.d.utf,o1.d.end_⟩:Dcd),o4.c1⟩:Cv) [0,3,4])) (.br (.intro (T0 o2.c1) fun o3=> .seg [.call [0] (.v (.agg (Kx o3.s))) [.cells (Ak o3.c1)]] (.leaf (⟨(⟨o1.d.plan,o1.d.mode,o1.d.stack,o3.s,o1.d.start,o1.d.at_,o1.d.field,o1.d.wire,o1.d.want,o1.d.utf,o1.d.end_⟩:Dcd),o3.c1⟩:Cv) [0,2,3])) (.br (.intro (Aa o2.c1 9) fun o3=> .seg [.call [0] (.v (vI o3.x)) [.cells (Ak o3.c1)],.as 43 (.v (vI (o3.x-1)))] (.leaf (⟨(⟨o1.d.plan,o1.d.mode,o1.d.stack,o1.d.scan,o1.d.start,o1.d.at_,o1.d.field,o3.x-1,o1.d.want,o1.d.utf,o1.d.end_⟩:Dcd),o3.c1⟩:Cv) [0,2,3])) (.br (.intro (Aa o2.c1 5) fun o3=> .seg [.call [0] (.v (vI o3.x)) [.cells (Ak o3.c1)],.as 49 (.v (vI (1+o3.x)))] (.intro (Aa o3.c1 8) fun o4=> .seg [.call [0] (.v (vI o4.x)) [.cells (Ak o4.c1)],.as 52 (.v (vI (1+o4.x)))] (.leaf (⟨(⟨o1.d.plan,o1.d.mode,o1.d.stack,o1.d.scan,o1.d.start,o1.d.at_,(⟨1+o3.x,1+o4.x,false,false,(-1)⟩:Fld),o1.d.wire,o1.d.want,o1.d.utf,o1.d.end_⟩:Dcd),o4.c1⟩:Cv) [0,2,3]))) (.br (.intro (R8 o2.c1) fun o3=> .seg [.call [0] (.v (.agg (H9 o3.u))) [.cells (Ak o3.c1)]] (.leaf (⟨(⟨o1.d.plan,o1.d.mode,o1.d.stack,o1.d.scan,o1.d.start,o1.d.at_,o1.d.field,o1.d.wire,o1.d.want,o3.u,o1.d.end_⟩:Dcd),o3.c1⟩:Cv) [0,2,3])) (.br (.intro (R7 o2.c1) fun o3=> .seg [.call [0] (.v (.agg (cEv o3.e))) [.cells (Ak o3.c1)]] (.leaf (⟨(⟨o1.d.plan,o1.d.mode,o1.d.stack,o1.d.scan,o1.d.start,o1.d.at_,o1.d.field,o1.d.wire,o1.d.want,o1.d.utf,o3.e⟩:Dcd),o3.c1⟩:Cv) [0,2,3])) (.br (.seg [.ty .int,.pubS 68] (.intro (A6 o2.c1 [0,1000000000,1000000001,(-1),9223372036854775807]) fun o3=> .seg [.call [0] (.v (vI o3.x)) [.cells (Ak o3.c1)]] (.leaf (⟨(⟨o1.d.plan,o1.d.mode,o1.d.stack,o1.d.scan,o1.d.start,o3.x,o1.d.field,o1.d.wire,o1.d.want,o1.d.utf,o1.d.end_⟩:Dcd),o3.c1⟩:Cv) [0,2,3]))) (.br (.seg [.ty .int,.pubS 79] (.intro (A6 o2.c1 [0,o1.d.at_,IntKind.i64.wrap (o1.d.at_+1),(-1)]) fun o3=> .seg [.call [0] (.v (vI o3.x)) [.cells (Ak o3.c1)]] (.leaf (⟨(⟨o1.d.plan,o1.d.mode,o1.d.stack,o1.d.scan,o3.x,o1.d.at_,o1.d.field,o1.d.wire,o1.d.want,o1.d.utf,o1.d.end_⟩:Dcd),o3.c1⟩:Cv) [0,2,3]))) (.br (.intro (Aa o2.c1 4) fun o3=> .seg [.call [0] (.v (vI o3.x)) [.cells (Ak o3.c1)]] (.leaf (⟨(⟨(⟨o1.d.plan.shapes,o1.d.plan.root,o3.x,o1.d.plan.most⟩:Pln),o1.d.mode,o1.d.stack,o1.d.scan,o1.d.start,o1.d.at_,o1.d.field,o1.d.wire,o1.d.want,o1.d.utf,o1.d.end_⟩:Dcd),o3.c1⟩:Cv) [0,2,3])) (.leaf (⟨o1.d,o2.c1⟩:Cv) [0,2,3]))))))))))))),In (P8 c) fun o1=>(let z18:=Ac 1 2 o1.d;(Ux c o1)∧In (Aa o1.c1 22) fun o2=>(let z17:List Blk:=[.cells (Ak o2.c1),.tree o1.d.plan.shapes,.lst .lev o1.d.stack];(Ai o1.c1 22 o2)∧((decide (o2.x=0))=true→In (Aa o2.c1 12) fun o3=>(let z1:List Blk:=[.cells (Ak o3.c1),.tree o1.d.plan.shapes,.lst .lev o1.d.stack];(Ai o2.c1 12 o3)∧((.v (vI (IntKind.i64.wrap (o3.x-1))):S)= .v (vI (o3.x-1)))∧((DecB (⟨o1.d.plan,o3.x-1,o1.d.stack,o1.d.scan,o1.d.start,o1.d.at_,o1.d.field,o1.d.wire,o1.d.want,o1.d.utf,o1.d.end_⟩:Dcd))∧(Aw o3.c1))∧(.v (.agg [.own 1,zi o1.d.plan.root,zi o1.d.plan.deep,zi o1.d.plan.most,zi (o3.x-1),.own 2,.int .u64 o1.d.scan.bits,zi o1.d.scan.have_,zi o1.d.start,zi o1.d.at_,zi o1.d.field.number,zi o1.d.field.kind,.bool o1.d.field.rep,.bool o1.d.field.packed,zi o1.d.field.msg,zi o1.d.wire,zi o1.d.want,zi o1.d.utf.want,zi o1.d.utf.low,zi o1.d.utf.high,zi o1.d.end_.kind,zi o1.d.end_.field,.int .u64 o1.d.end_.bits,zi o1.d.end_.len,.str o1.d.end_.text,zi o1.d.end_.code,zi o1.d.end_.at_]):S)= .v (.agg [.own 1,zi o1.d.plan.root,zi o1.d.plan.deep,zi o1.d.plan.most,zi (o3.x-1),.own 2,.int .u64 o1.d.scan.bits,zi o1.d.scan.have_,zi o1.d.start,zi o1.d.at_,zi o1.d.field.number,zi o1.d.field.kind,.bool o1.d.field.rep,.bool o1.d.field.packed,zi o1.d.field.msg,zi o1.d.wire,zi o1.d.want,zi o1.d.utf.want,zi o1.d.utf.low,zi o1.d.utf.high,zi o1.d.end_.kind,zi o1.d.end_.field,.int .u64 o1.d.end_.bits,zi o1.d.end_.len,.str o1.d.end_.text,zi o1.d.end_.code,zi o1.d.end_.at_])∧(z1:List Blk)=z1))∧((decide (o2.x=0))=false→((decide (o2.x=1))=true→In (A6 o2.c1 [0,1,5,2000,(-1)]) fun o3=>(let z2:List Blk:=[.cells (Ak o3.c1),.tree o1.d.plan.shapes,.lst .lev o1.d.stack];(B6 o2.c1 [0,1,5,2000,(-1)] o3)∧((DecB (⟨o1.d.plan,o1.d.mode,o1.d.stack,o1.d.scan,o1.d.start,o1.d.at_,o1.d.field,o1.d.wire,o3.x,o1.d.utf,o1.d.end_⟩:Dcd))∧(Aw o3.c1))∧(.v (.agg [.own 1,zi o1.d.plan.root,zi o1.d.plan.deep,zi o1.d.plan.most,zi o1.d.mode,.own 2,.int .u64 o1.d.scan.bits,zi o1.d.scan.have_,zi o1.d.start,zi o1.d.at_,zi o1.d.field.number,zi o1.d.field.kind,.bool o1.d.field.rep,.bool o1.d.field.packed,zi o1.d.field.msg,zi o1.d.wire,zi o3.x,zi o1.d.utf.want,zi o1.d.utf.low,zi o1.d.utf.high,zi o1.d.end_.kind,zi o1.d.end_.field,.int .u64 o1.d.end_.bits,zi o1.d.end_.len,.str o1.d.end_.text,zi o1.d.end_.code,zi o1.d.end_.at_]):S)= .v (.agg [.own 1,zi o1.d.plan.root,zi o1.d.plan.deep,zi o1.d.plan.most,zi o1.d.mode,.own 2,.int .u64 o1.d.scan.bits,zi o1.d.scan.have_,zi o1.d.start,zi o1.d.at_,zi o1.d.field.number,zi o1.d.field.kind,.bool o1.d.field.rep,.bool o1.d.field.packed,zi o1.d.field.msg,zi o1.d.wire,zi o3.x,zi o1.d.utf.want,zi o1.d.utf.low,zi o1.d.utf.high,zi o1.d.end_.kind,zi o1.d.end_.field,.int .u64 o1.d.end_.bits,zi o1.d.end_.len,.str o1.d.end_.text,zi o1.d.end_.code,zi o1.d.end_.at_])∧(z2:List Blk)=z2))∧((decide (o2.x=1))=false→((decide (o2.x=2))=true→In (Aa o2.c1 4) fun o3=>(let z8:=(.v (vI (IntKind.i64.wrap (o3.x-1))):S)= .v (vI (o3.x-1));In (G2 o3.c1 [0,1,7,2000,2001,(-1)]) fun o4=>(let z5:=(⟨o3.x-1,o4.x⟩:Lev);let z4:List Blk:=[.cells (Ak o4.c1),.cells [.nil,zi 0,zi 0,zi 0,zi 0,.nil,.int .u64 0,zi 0,zi 0,zi 0,zi 0,zi 0,.bool false,.bool false,zi 0,zi 0,zi 0,zi 0,zi 0,zi 0,zi 0,zi 0,.int .u64 0,zi 0,.str [],zi 0,zi 0],.cells (Ac 3 4 o1.d),.tree o1.d.plan.shapes,.lst .lev (o1.d.stack++[z5])];let z6:List Blk:=[.cells (Ak o4.c1),.tree o1.d.plan.shapes,.lst .lev (o1.d.stack++[z5])];let z7:=Ni o3.c1 [0,1,7,2000,2001,(-1)] o4;(Ai o2.c1 4 o3)∧z8∧z7∧(List.length o1.d.stack+List.length [z5]≤Bf)∧(Ai o2.c1 4 o3)∧z8∧z7∧(List.length o1.d.stack+List.length [z5]≤Bf)∧((z4:List Blk)=z4)∧(([(2,.v (vP 1)),(3,.v (vP 2))]:List (Nat×S))=[(2,.v (vP 1)),(3,.v (vP 2))])∧((DecB (⟨o1.d.plan,o1.d.mode,o1.d.stack++[z5],o1.d.scan,o1.d.start,o1.d.at_,o1.d.field,o1.d.wire,o1.d.want,o1.d.utf,o1.d.end_⟩:Dcd))∧(Aw o4.c1))∧(.v (.agg z18):S)= .v (.agg z18)∧(z6:List Blk)=z6)))∧((decide (o2.x=2))=false→((decide (o2.x=3))=true→In (T0 o2.c1) fun o3=>(let z9:List Blk:=[.cells (Ak o3.c1),.tree o1.d.plan.shapes,.lst .lev o1.d.stack];(Yi o2.c1 o3)∧((DecB (⟨o1.d.plan,o1.d.mode,o1.d.stack,o3.s,o1.d.start,o1.d.at_,o1.d.field,o1.d.wire,o1.d.want,o1.d.utf,o1.d.end_⟩:Dcd))∧(Aw o3.c1))∧(.v (.agg [.own 1,zi o1.d.plan.root,zi o1.d.plan.deep,zi o1.d.plan.most,zi o1.d.mode,.own 2,.int .u64 o3.s.bits,zi o3.s.have_,zi o1.d.start,zi o1.d.at_,zi o1.d.field.number,zi o1.d.field.kind,.bool o1.d.field.rep,.bool o1.d.field.packed,zi o1.d.field.msg,zi o1.d.wire,zi o1.d.want,zi o1.d.utf.want,zi o1.d.utf.low,zi o1.d.utf.high,zi o1.d.end_.kind,zi o1.d.end_.field,.int .u64 o1.d.end_.bits,zi o1.d.end_.len,.str o1.d.end_.text,zi o1.d.end_.code,zi o1.d.end_.at_]):S)= .v (.agg [.own 1,zi o1.d.plan.root,zi o1.d.plan.deep,zi o1.d.plan.most,zi o1.d.mode,.own 2,.int .u64 o3.s.bits,zi o3.s.have_,zi o1.d.start,zi o1.d.at_,zi o1.d.field.number,zi o1.d.field.kind,.bool o1.d.field.rep,.bool o1.d.field.packed,zi o1.d.field.msg,zi o1.d.wire,zi o1.d.want,zi o1.d.utf.want,zi o1.d.utf.low,zi o1.d.utf.high,zi o1.d.end_.kind,zi o1.d.end_.field,.int .u64 o1.d.end_.bits,zi o1.d.end_.len,.str o1.d.end_.text,zi o1.d.end_.code,zi o1.d.end_.at_])∧(z9:List Blk)=z9))∧((decide (o2.x=3))=false→((decide (o2.x=4))=true→In (Aa o2.c1 9) fun o3=>(let z10:List Blk:=[.cells (Ak o3.c1),.tree o1.d.plan.shapes,.lst .lev o1.d.stack];(Ai o2.c1 9 o3)∧((.v (vI (IntKind.i64.wrap (o3.x-1))):S)= .v (vI (o3.x-1)))∧((DecB (⟨o1.d.plan,o1.d.mode,o1.d.stack,o1.d.scan,o1.d.start,o1.d.at_,o1.d.field,o3.x-1,o1.d.want,o1.d.utf,o1.d.end_⟩:Dcd))∧(Aw o3.c1))∧(.v (.agg [.own 1,zi o1.d.plan.root,zi o1.d.plan.deep,zi o1.d.plan.most,zi o1.d.mode,.own 2,.int .u64 o1.d.scan.bits,zi o1.d.scan.have_,zi o1.d.start,zi o1.d.at_,zi o1.d.field.number,zi o1.d.field.kind,.bool o1.d.field.rep,.bool o1.d.field.packed,zi o1.d.field.msg,zi (o3.x-1),zi o1.d.want,zi o1.d.utf.want,zi o1.d.utf.low,zi o1.d.utf.high,zi o1.d.end_.kind,zi o1.d.end_.field,.int .u64 o1.d.end_.bits,zi o1.d.end_.len,.str o1.d.end_.text,zi o1.d.end_.code,zi o1.d.end_.at_]):S)= .v (.agg [.own 1,zi o1.d.plan.root,zi o1.d.plan.deep,zi o1.d.plan.most,zi o1.d.mode,.own 2,.int .u64 o1.d.scan.bits,zi o1.d.scan.have_,zi o1.d.start,zi o1.d.at_,zi o1.d.field.number,zi o1.d.field.kind,.bool o1.d.field.rep,.bool o1.d.field.packed,zi o1.d.field.msg,zi (o3.x-1),zi o1.d.want,zi o1.d.utf.want,zi o1.d.utf.low,zi o1.d.utf.high,zi o1.d.end_.kind,zi o1.d.end_.field,.int .u64 o1.d.end_.bits,zi o1.d.end_.len,.str o1.d.end_.text,zi o1.d.end_.code,zi o1.d.end_.at_])∧(z10:List Blk)=z10))∧((decide (o2.x=4))=false→((decide (o2.x=5))=true→In (Aa o2.c1 5) fun o3=>((Ai o2.c1 5 o3)∧((.v (vI (IntKind.i64.wrap (1+o3.x))):S)= .v (vI (1+o3.x)))∧In (Aa o3.c1 8) fun o4=>(let z11:List Blk:=[.cells (Ak o4.c1),.tree o1.d.plan.shapes,.lst .lev o1.d.stack];(Ai o3.c1 8 o4)∧((.v (vI (IntKind.i64.wrap (1+o4.x))):S)= .v (vI (1+o4.x)))∧((DecB (⟨o1.d.plan,o1.d.mode,o1.d.stack,o1.d.scan,o1.d.start,o1.d.at_,(⟨1+o3.x,1+o4.x,false,false,(-1)⟩:Fld),o1.d.wire,o1.d.want,o1.d.utf,o1.d.end_⟩:Dcd))∧(Aw o4.c1))∧(.v (.agg [.own 1,zi o1.d.plan.root,zi o1.d.plan.deep,zi o1.d.plan.most,zi o1.d.mode,.own 2,.int .u64 o1.d.scan.bits,zi o1.d.scan.have_,zi o1.d.start,zi o1.d.at_,zi (1+o3.x),zi (1+o4.x),.bool false,.bool false,zi (-1),zi o1.d.wire,zi o1.d.want,zi o1.d.utf.want,zi o1.d.utf.low,zi o1.d.utf.high,zi o1.d.end_.kind,zi o1.d.end_.field,.int .u64 o1.d.end_.bits,zi o1.d.end_.len,.str o1.d.end_.text,zi o1.d.end_.code,zi o1.d.end_.at_]):S)= .v (.agg [.own 1,zi o1.d.plan.root,zi o1.d.plan.deep,zi o1.d.plan.most,zi o1.d.mode,.own 2,.int .u64 o1.d.scan.bits,zi o1.d.scan.have_,zi o1.d.start,zi o1.d.at_,zi (1+o3.x),zi (1+o4.x),.bool false,.bool false,zi (-1),zi o1.d.wire,zi o1.d.want,zi o1.d.utf.want,zi o1.d.utf.low,zi o1.d.utf.high,zi o1.d.end_.kind,zi o1.d.end_.field,.int .u64 o1.d.end_.bits,zi o1.d.end_.len,.str o1.d.end_.text,zi o1.d.end_.code,zi o1.d.end_.at_])∧(z11:List Blk)=z11)))∧((decide (o2.x=5))=false→((decide (o2.x=6))=true→In (R8 o2.c1) fun o3=>(let z12:List Blk:=[.cells (Ak o3.c1),.tree o1.d.plan.shapes,.lst .lev o1.d.stack];(W6 o2.c1 o3)∧((DecB (⟨o1.d.plan,o1.d.mode,o1.d.stack,o1.d.scan,o1.d.start,o1.d.at_,o1.d.field,o1.d.wire,o1.d.want,o3.u,o1.d.end_⟩:Dcd))∧(Aw o3.c1))∧(.v (.agg [.own 1,zi o1.d.plan.root,zi o1.d.plan.deep,zi o1.d.plan.most,zi o1.d.mode,.own 2,.int .u64 o1.d.scan.bits,zi o1.d.scan.have_,zi o1.d.start,zi o1.d.at_,zi o1.d.field.number,zi o1.d.field.kind,.bool o1.d.field.rep,.bool o1.d.field.packed,zi o1.d.field.msg,zi o1.d.wire,zi o1.d.want,zi o3.u.want,zi o3.u.low,zi o3.u.high,zi o1.d.end_.kind,zi o1.d.end_.field,.int .u64 o1.d.end_.bits,zi o1.d.end_.len,.str o1.d.end_.text,zi o1.d.end_.code,zi o1.d.end_.at_]):S)= .v (.agg [.own 1,zi o1.d.plan.root,zi o1.d.plan.deep,zi o1.d.plan.most,zi o1.d.mode,.own 2,.int .u64 o1.d.scan.bits,zi o1.d.scan.have_,zi o1.d.start,zi o1.d.at_,zi o1.d.field.number,zi o1.d.field.kind,.bool o1.d.field.rep,.bool o1.d.field.packed,zi o1.d.field.msg,zi o1.d.wire,zi o1.d.want,zi o3.u.want,zi o3.u.low,zi o3.u.high,zi o1.d.end_.kind,zi o1.d.end_.field,.int .u64 o1.d.end_.bits,zi o1.d.end_.len,.str o1.d.end_.text,zi o1.d.end_.code,zi o1.d.end_.at_])∧(z12:List Blk)=z12))∧((decide (o2.x=6))=false→((decide (o2.x=7))=true→In (R7 o2.c1) fun o3=>(let z13:List Blk:=[.cells (Ak o3.c1),.tree o1.d.plan.shapes,.lst .lev o1.d.stack];(W5 o2.c1 o3)∧((DecB (⟨o1.d.plan,o1.d.mode,o1.d.stack,o1.d.scan,o1.d.start,o1.d.at_,o1.d.field,o1.d.wire,o1.d.want,o1.d.utf,o3.e⟩:Dcd))∧(Aw o3.c1))∧(.v (.agg [.own 1,zi o1.d.plan.root,zi o1.d.plan.deep,zi o1.d.plan.most,zi o1.d.mode,.own 2,.int .u64 o1.d.scan.bits,zi o1.d.scan.have_,zi o1.d.start,zi o1.d.at_,zi o1.d.field.number,zi o1.d.field.kind,.bool o1.d.field.rep,.bool o1.d.field.packed,zi o1.d.field.msg,zi o1.d.wire,zi o1.d.want,zi o1.d.utf.want,zi o1.d.utf.low,zi o1.d.utf.high,zi o3.e.kind,zi o3.e.field,.int .u64 o3.e.bits,zi o3.e.len,.str o3.e.text,zi o3.e.code,zi o3.e.at_]):S)= .v (.agg [.own 1,zi o1.d.plan.root,zi o1.d.plan.deep,zi o1.d.plan.most,zi o1.d.mode,.own 2,.int .u64 o1.d.scan.bits,zi o1.d.scan.have_,zi o1.d.start,zi o1.d.at_,zi o1.d.field.number,zi o1.d.field.kind,.bool o1.d.field.rep,.bool o1.d.field.packed,zi o1.d.field.msg,zi o1.d.wire,zi o1.d.want,zi o1.d.utf.want,zi o1.d.utf.low,zi o1.d.utf.high,zi o3.e.kind,zi o3.e.field,.int .u64 o3.e.bits,zi o3.e.len,.str o3.e.text,zi o3.e.code,zi o3.e.at_])∧(z13:List Blk)=z13))∧((decide (o2.x=7))=false→((decide (o2.x=8))=true→In (A6 o2.c1 [0,1000000000,1000000001,(-1),9223372036854775807]) fun o3=>(let z14:List Blk:=[.cells (Ak o3.c1),.tree o1.d.plan.shapes,.lst .lev o1.d.stack];(B6 o2.c1 [0,1000000000,1000000001,(-1),9223372036854775807] o3)∧((DecB (⟨o1.d.plan,o1.d.mode,o1.d.stack,o1.d.scan,o1.d.start,o3.x,o1.d.field,o1.d.wire,o1.d.want,o1.d.utf,o1.d.end_⟩:Dcd))∧(Aw o3.c1))∧(.v (.agg [.own 1,zi o1.d.plan.root,zi o1.d.plan.deep,zi o1.d.plan.most,zi o1.d.mode,.own 2,.int .u64 o1.d.scan.bits,zi o1.d.scan.have_,zi o1.d.start,zi o3.x,zi o1.d.field.number,zi o1.d.field.kind,.bool o1.d.field.rep,.bool o1.d.field.packed,zi o1.d.field.msg,zi o1.d.wire,zi o1.d.want,zi o1.d.utf.want,zi o1.d.utf.low,zi o1.d.utf.high,zi o1.d.end_.kind,zi o1.d.end_.field,.int .u64 o1.d.end_.bits,zi o1.d.end_.len,.str o1.d.end_.text,zi o1.d.end_.code,zi o1.d.end_.at_]):S)= .v (.agg [.own 1,zi o1.d.plan.root,zi o1.d.plan.deep,zi o1.d.plan.most,zi o1.d.mode,.own 2,.int .u64 o1.d.scan.bits,zi o1.d.scan.have_,zi o1.d.start,zi o3.x,zi o1.d.field.number,zi o1.d.field.kind,.bool o1.d.field.rep,.bool o1.d.field.packed,zi o1.d.field.msg,zi o1.d.wire,zi o1.d.want,zi o1.d.utf.want,zi o1.d.utf.low,zi o1.d.utf.high,zi o1.d.end_.kind,zi o1.d.end_.field,.int .u64 o1.d.end_.bits,zi o1.d.end_.len,.str o1.d.end_.text,zi o1.d.end_.code,zi o1.d.end_.at_])∧(z14:List Blk)=z14))∧((decide (o2.x=8))=false→((decide (o2.x=9))=true→In (A6 o2.c1 [0,o1.d.at_,IntKind.i64.wrap (o1.d.at_+1),(-1)]) fun o3=>(let z15:List Blk:=[.cells (Ak o3.c1),.tree o1.d.plan.shapes,.lst .lev o1.d.stack];(B6 o2.c1 [0,o1.d.at_,IntKind.i64.wrap (o1.d.at_+1),(-1)] o3)∧((DecB (⟨o1.d.plan,o1.d.mode,o1.d.stack,o1.d.scan,o3.x,o1.d.at_,o1.d.field,o1.d.wire,o1.d.want,o1.d.utf,o1.d.end_⟩:Dcd))∧(Aw o3.c1))∧(.v (.agg [.own 1,zi o1.d.plan.root,zi o1.d.plan.deep,zi o1.d.plan.most,zi o1.d.mode,.own 2,.int .u64 o1.d.scan.bits,zi o1.d.scan.have_,zi o3.x,zi o1.d.at_,zi o1.d.field.number,zi o1.d.field.kind,.bool o1.d.field.rep,.bool o1.d.field.packed,zi o1.d.field.msg,zi o1.d.wire,zi o1.d.want,zi o1.d.utf.want,zi o1.d.utf.low,zi o1.d.utf.high,zi o1.d.end_.kind,zi o1.d.end_.field,.int .u64 o1.d.end_.bits,zi o1.d.end_.len,.str o1.d.end_.text,zi o1.d.end_.code,zi o1.d.end_.at_]):S)= .v (.agg [.own 1,zi o1.d.plan.root,zi o1.d.plan.deep,zi o1.d.plan.most,zi o1.d.mode,.own 2,.int .u64 o1.d.scan.bits,zi o1.d.scan.have_,zi o3.x,zi o1.d.at_,zi o1.d.field.number,zi o1.d.field.kind,.bool o1.d.field.rep,.bool o1.d.field.packed,zi o1.d.field.msg,zi o1.d.wire,zi o1.d.want,zi o1.d.utf.want,zi o1.d.utf.low,zi o1.d.utf.high,zi o1.d.end_.kind,zi o1.d.end_.field,.int .u64 o1.d.end_.bits,zi o1.d.end_.len,.str o1.d.end_.text,zi o1.d.end_.code,zi o1.d.end_.at_])∧(z15:List Blk)=z15))∧((decide (o2.x=9))=false→((decide (o2.x=10))=true→In (Aa o2.c1 4) fun o3=>(let z16:List Blk:=[.cells (Ak o3.c1),.tree o1.d.plan.shapes,.lst .lev o1.d.stack];(Ai o2.c1 4 o3)∧((DecB (⟨(⟨o1.d.plan.shapes,o1.d.plan.root,o3.x,o1.d.plan.most⟩:Pln),o1.d.mode,o1.d.stack,o1.d.scan,o1.d.start,o1.d.at_,o1.d.field,o1.d.wire,o1.d.want,o1.d.utf,o1.d.end_⟩:Dcd))∧(Aw o3.c1))∧(.v (.agg [.own 1,zi o1.d.plan.root,zi o3.x,zi o1.d.plan.most,zi o1.d.mode,.own 2,.int .u64 o1.d.scan.bits,zi o1.d.scan.have_,zi o1.d.start,zi o1.d.at_,zi o1.d.field.number,zi o1.d.field.kind,.bool o1.d.field.rep,.bool o1.d.field.packed,zi o1.d.field.msg,zi o1.d.wire,zi o1.d.want,zi o1.d.utf.want,zi o1.d.utf.low,zi o1.d.utf.high,zi o1.d.end_.kind,zi o1.d.end_.field,.int .u64 o1.d.end_.bits,zi o1.d.end_.len,.str o1.d.end_.text,zi o1.d.end_.code,zi o1.d.end_.at_]):S)= .v (.agg [.own 1,zi o1.d.plan.root,zi o3.x,zi o1.d.plan.most,zi o1.d.mode,.own 2,.int .u64 o1.d.scan.bits,zi o1.d.scan.have_,zi o1.d.start,zi o1.d.at_,zi o1.d.field.number,zi o1.d.field.kind,.bool o1.d.field.rep,.bool o1.d.field.packed,zi o1.d.field.msg,zi o1.d.wire,zi o1.d.want,zi o1.d.utf.want,zi o1.d.utf.low,zi o1.d.utf.high,zi o1.d.end_.kind,zi o1.d.end_.field,.int .u64 o1.d.end_.bits,zi o1.d.end_.len,.str o1.d.end_.text,zi o1.d.end_.code,zi o1.d.end_.at_])∧(z16:List Blk)=z16))∧((decide (o2.x=10))=false→((DecB o1.d)∧(Aw o2.c1))∧(.v (.agg z18):S)= .v (.agg z18)∧(z17:List Blk)=z17))))))))))))))) Q4 ?_
 refine⟨(Afg c Q0),fun o1 ho_o1=>?_⟩
 obtain ⟨⟨hp_o1_0,hp_o1_1,hp_o1_2⟩,hf_o1⟩:=ho_o1
 refine⟨hf_o1,(Ao o1.c1 22 Q0),fun o2 ho_o2=>?_⟩
 obtain ⟨⟨hp_o2_0,hp_o2_1,hp_o2_2,hp_o2_3⟩,hf_o2⟩:=ho_o2
 refine⟨hf_o2,dsp (fun h1 p1=>?_) fun h1 p1=>?_⟩
 refine⟨(Ao o2.c1 12 Q0),fun o3 ho_o3=>?_⟩
 obtain ⟨⟨hp_o3_0,hp_o3_1,hp_o3_2,hp_o3_3⟩,hf_o3⟩:=ho_o3
 exact⟨hf_o3,(Ae Q2 Q2),⟨Q9,Q0⟩,rfl,rfl⟩
 refine dsp (fun h2 p2=>?_) fun h2 p2=>?_
 refine⟨(Cu o2.c1 [0,1,5,2000,(-1)] Q0 Q6 Q6),fun o3 ho_o3=>?_⟩
 obtain ⟨⟨hp_o3_0,hp_o3_1⟩,hf_o3⟩:=ho_o3
 exact⟨hf_o3,⟨Q9,Q0⟩,rfl,rfl⟩
 refine dsp (fun h3 p3=>?_) fun h3 p3=>?_
 refine⟨(Ao o2.c1 4 Q0),fun o3 ho_o3=>?_⟩
 obtain ⟨⟨hp_o3_0,hp_o3_1,hp_o3_2,hp_o3_3⟩,hf_o3⟩:=ho_o3
 refine⟨(W0 o3.c1 [0,1,7,2000,2001,(-1)] Q0 Q6 Q6),fun o4 ho_o4=>?_⟩
 obtain ⟨⟨hp_o4_0,hp_o4_1⟩,hf_o4⟩:=ho_o4
 exact⟨hf_o3,(Ae Q2 Q2),hf_o4,(by have:=hp_o1_0.stack;simp only[List.length_cons,List.length_nil];omega),hf_o3,(Ae Q2 Q2),hf_o4,(by have:=hp_o1_0.stack;simp only[List.length_cons,List.length_nil];omega),rfl,rfl,⟨Q9,Q0⟩,rfl,rfl⟩
 refine dsp (fun h4 p4=>?_) fun h4 p4=>?_
 refine⟨(Aj7 o2.c1 Q0),fun o3 ho_o3=>?_⟩
 obtain ⟨⟨hp_o3_0,hp_o3_1⟩,hf_o3⟩:=ho_o3
 exact⟨hf_o3,⟨Q9,Q0⟩,rfl,rfl⟩
 refine dsp (fun h5 p5=>?_) fun h5 p5=>?_
 refine⟨(Ao o2.c1 9 Q0),fun o3 ho_o3=>?_⟩
 obtain ⟨⟨hp_o3_0,hp_o3_1,hp_o3_2,hp_o3_3⟩,hf_o3⟩:=ho_o3
 exact⟨hf_o3,(Ae Q2 Q2),⟨Q9,Q0⟩,rfl,rfl⟩
 refine dsp (fun h6 p6=>?_) fun h6 p6=>?_
 refine⟨(Ao o2.c1 5 Q0),fun o3 ho_o3=>?_⟩
 obtain ⟨⟨hp_o3_0,hp_o3_1,hp_o3_2,hp_o3_3⟩,hf_o3⟩:=ho_o3
 refine⟨hf_o3,(Ae Q2 Q2),(Ao o3.c1 8 Q0),fun o4 ho_o4=>?_⟩
 obtain ⟨⟨hp_o4_0,hp_o4_1,hp_o4_2,hp_o4_3⟩,hf_o4⟩:=ho_o4
 exact⟨hf_o4,(Ae Q2 Q2),⟨Q9,Q0⟩,rfl,rfl⟩
 refine dsp (fun h7 p7=>?_) fun h7 p7=>?_
 refine⟨(Ah7 o2.c1 Q0),fun o3 ho_o3=>?_⟩
 obtain ⟨hp_o3,hf_o3⟩:=ho_o3
 exact⟨hf_o3,⟨Q9,Q0⟩,rfl,rfl⟩
 refine dsp (fun h8 p8=>?_) fun h8 p8=>?_
 refine⟨(Ah6 o2.c1 Q0),fun o3 ho_o3=>?_⟩
 obtain ⟨⟨hp_o3_0,hp_o3_1,hp_o3_2⟩,hf_o3⟩:=ho_o3
 exact⟨hf_o3,⟨Q9,Q0⟩,rfl,rfl⟩
 refine dsp (fun h9 p9=>?_) fun h9 p9=>?_
 refine⟨(Cu o2.c1 [0,1000000000,1000000001,(-1),9223372036854775807] Q0 Q6 Q6),fun o3 ho_o3=>?_⟩
 obtain ⟨⟨hp_o3_0,hp_o3_1⟩,hf_o3⟩:=ho_o3
 exact⟨hf_o3,⟨Q9,Q0⟩,rfl,rfl⟩
 refine dsp (fun h10 p10=>?_) fun h10 p10=>?_
 refine⟨(Cu o2.c1 [0,o1.d.at_,IntKind.i64.wrap (o1.d.at_+1),(-1)] Q0 Q6 Q6),fun o3 ho_o3=>?_⟩
 obtain ⟨⟨hp_o3_0,hp_o3_1⟩,hf_o3⟩:=ho_o3
 exact⟨hf_o3,⟨Q9,Q0⟩,rfl,rfl⟩
 refine dsp (fun h11 p11=>?_) fun h11 p11=>?_
 refine⟨(Ao o2.c1 4 Q0),fun o3 ho_o3=>?_⟩
 obtain ⟨⟨hp_o3_0,hp_o3_1,hp_o3_2,hp_o3_3⟩,hf_o3⟩:=ho_o3
 exact⟨hf_o3,⟨Q9,Q0⟩,rfl,rfl⟩
 exact⟨⟨Q9,Q0⟩,rfl,rfl⟩
structure E2 where
 d:Dcd
 b:Int
def Je (code:List Int) (o:E2):Prop:=Fun Tryz.prog 16 [.c (.seq .u8 code)] [] (.tup [.agg (Ac 0 1 o.d),vI o.b]) [.tree o.d.plan.shapes,.lst .lev o.d.stack]
def E3 (code:List Int) (o:E2):Prop:=((DecB o.d))∧Je code o
theorem Ri (code:List Int) (hp1:List.length code≤1048576): ∃o:E2,E3 code o:=by
 have hN:Bf=274877906944:=rfl
 refine Bv Tryz.func16 Q4 Q4 (w:=(.intro (Px code) fun o1=> .seg [.call [] (.v (vP 0)) [.cells (Ak o1.c1)]] (.intro (Ku o1.c1) fun o2=> .seg [.call [1] (.v (.agg (Ac 1 2 o2.d))) [.cells (Ak o2.c1),.tree o2.d.plan.shapes,.lst .lev o2.d.stack]] (.intro (T3 o2.c1) fun o3=> .seg [.call [1] (.v (vI o3.x)) [.cells (Ak o3.c1)]] (.leaf (⟨o2.d,o3.x⟩:E2) [2,3]))),In (Px code) fun o1=>((Wu code o1)∧In (Ku o1.c1) fun o2=>((Sb o1.c1 o2)∧In (T3 o2.c1) fun o3=>((Yj o2.c1 o3)∧((DecB o2.d))∧(.tup [.agg (Ac 0 1 o2.d),vI o3.x]:S)= .tup [.agg (Ac 0 1 o2.d),vI o3.x]∧([.tree o2.d.plan.shapes,.lst .lev o2.d.stack]:List Blk)=[.tree o2.d.plan.shapes,.lst .lev o2.d.stack]))))) Q4 ?_
 refine⟨(Aht code Q2),fun o1 ho_o1=>?_⟩
 obtain ⟨hp_o1,hf_o1⟩:=ho_o1
 refine⟨hf_o1,(Aba o1.c1 Q0),fun o2 ho_o2=>?_⟩
 obtain ⟨⟨hp_o2_0,hp_o2_1⟩,hf_o2⟩:=ho_o2
 refine⟨hf_o2,(Aj8 o2.c1 Q0),fun o3 ho_o3=>?_⟩
 obtain ⟨hp_o3,hf_o3⟩:=ho_o3
 exact⟨hf_o3,Q9,rfl,rfl⟩
end Go.Proofs.YtcmnedgnppnhoaaGreat.Ax
namespace Go.Proofs.YtcmnedgnppnhoaaGreat.Ax
open Go.ChangeShapes Go.WideShapes Go.ChangeAt Go.RowKit
theorem W7:Tryz.prog.cellsOf 5=1:=by kernel_rfl
theorem Apu {H:Type} {tok:TypeId×Value→H} {w:World} {sp:Nat→Bool} {held:Bool} (fuel:Nat) (cs:List Value) (x:DataW H×List MemPlace) (hl:cs.length=1) (h:DataW.trod tok Tryz.prog w 0 sp held fuel 5 cs=some x): ∃y:Int,All2 Rep0 (enc .u8 y) cs∧(0≤y∧y≤255):=by
 obtain ⟨i,rfl,_,hw⟩:=DataW.trod_int Tryz.underlying5 h
 exact⟨i,.cons rfl .nil,bounds_u8 hw⟩
end Go.Proofs.YtcmnedgnppnhoaaGreat.Ax
