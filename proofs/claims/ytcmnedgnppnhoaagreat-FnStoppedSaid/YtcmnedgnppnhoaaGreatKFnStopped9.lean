/- Drawn scans, states, events. A byte keeps a decoder right. Whole inputs. Models: modes. Drawn decoders. Drawn decoders and inputs. Models: merged events. Chunks. Chunks of an input. Ends of decoders. Whole inputs: the program. Whole inputs: the reference. The law FnStopped. Opening what the laws are handed. -/
import Derived.Test.YtcmnedgnppnhoaaGreatKFnStopped7
import Derived.Test.YtcmnedgnppnhoaaGreatKFnStopped1
import Derived.Test.YtcmnedgnppnhoaaGreatKFnStopped5
import Derived.Test.YtcmnedgnppnhoaaGreatKFnStopped8
import Derived.Test.YtcmnedgnppnhoaaGreatKFnStopped6
import Derived.Test.YtcmnedgnppnhoaaGreatKFnStopped4
import Derived.Test.YtcmnedgnppnhoaaGreatKB4
set_option linter.unusedSimpArgs false
set_option linter.unusedVariables false
namespace Go.Proofs.YtcmnedgnppnhoaaGreat.Ax
open Go.RowKit
theorem Ahw {e:Ev} (h:e.text.length≤1000) (hb:0≤e.bits∧e.bits≤18446744073709551615):EvB e:=⟨Nat.le_trans h (by decide),hb⟩
theorem EvB.like {e x:Ev} (h:EvB e) (ht:x.text=e.text) (hb:x.bits=e.bits):EvB x:=by unfold EvB;rw[ht,hb];exact h
structure C8 where
 e:Ev
 c1:Cur
def S3 (c:Cur) (o:C8):Prop:=Fun Tryz.prog 167 [vP 0] [.cells (Ak c)] (.v (.agg (cEv o.e))) [.cells (Ak o.c1)]
def N1 (c:Cur) (o:C8):Prop:=((EvB o.e)∧(List.length (o.e).text≤4)∧(Aw o.c1))∧S3 c o
theorem Acn (c:Cur) (hp1:Aw c): ∃o:C8,N1 c o:=by
 have hN:Bg=274877906944:=rfl
 refine Bw Tryz.func167 Q4 Q4 (w:=let zi:Int→C:= .int .i64;let z13:List C:=[.str [],zi 0,zi 0];(.intro (Aa c 10) fun o1=>let z8:=Aa o1.c1 12;.seg [.call [0] (.v (vI o1.x)) [.cells (Ak o1.c1)],.as 7 (.v (vI (1+o1.x)))] (.br (.intro (Aa o1.c1 40) fun o2=> .seg [.call [0] (.v (vI o2.x)) [.cells (Ak o2.c1)]] (.leaf (⟨(⟨1+o1.x,0,0,o2.x,[],0,0⟩:Ev),o2.c1⟩:C8) [0])) (.br (.intro z8 fun o2=> .seg [.call [0] (.v (vI o2.x)) [.cells (Ak o2.c1)],.as 20 (.v (vI (1+o2.x)))] (.intro (B2 o2.c1) fun o3=> .seg [.call [0] (.v (.c (.int .u64 o3.x))) [.cells (Ak o3.c1)]] (.leaf (⟨(⟨1+o1.x,1+o2.x,o3.x,0,[],0,0⟩:Ev),o3.c1⟩:C8) [0]))) (.br (.intro z8 fun o2=> .seg [.br true,.call [0] (.v (vI o2.x)) [.cells (Ak o2.c1)],.as 30 (.v (vI (1+o2.x)))] (.intro (Aa o2.c1 12) fun o3=> .seg [.call [0] (.v (vI o3.x)) [.cells (Ak o3.c1)]] (.leaf (⟨(⟨1+o1.x,1+o2.x,0,o3.x,[],0,0⟩:Ev),o3.c1⟩:C8) [0]))) (.br (.intro z8 fun o2=> .seg [.call [0] (.v (vI o2.x)) [.cells (Ak o2.c1)],.as 30 (.v (vI (1+o2.x)))] (.intro (Aa o2.c1 12) fun o3=> .seg [.call [0] (.v (vI o3.x)) [.cells (Ak o3.c1)]] (.leaf (⟨(⟨1+o1.x,1+o2.x,0,o3.x,[],0,0⟩:Ev),o3.c1⟩:C8) [0]))) (.br (.seg [.ty .str,.pubS 38] (.intro (Gv o1.c1 [[97],[98,99],[195,169],[255]]) fun o2=> .seg [.call [0] (.v (vT o2.t)) [.cells (Ak o2.c1)]] (.leaf (⟨(⟨1+o1.x,0,0,0,o2.t,0,0⟩:Ev),o2.c1⟩:C8) [0]))) (.br (.intro (Aa o1.c1 99) fun o2=> .seg [.call [0] (.v (vI o2.x)) [.cells (Ak o2.c1)]] (.leaf (⟨(⟨1+o1.x,0,0,0,[],0,o2.x⟩:Ev),o2.c1⟩:C8) [0])) (.br (.intro (Aa o1.c1 99) fun o2=> .seg [.call [0] (.v (vI o2.x)) [.cells (Ak o2.c1)]] (.intro (Aa o2.c1 10) fun o3=> .seg [.call [0] (.v (vI o3.x)) [.cells (Ak o3.c1)],.as 53 (.v (vI (1+o3.x)))] (.leaf (⟨(⟨1+o1.x,0,0,0,[],1+o3.x,o2.x⟩:Ev),o3.c1⟩:C8) [0]))) (.leaf (⟨(⟨1+o1.x,0,0,0,[],0,0⟩:Ev),o1.c1⟩:C8) [0])))))))),In (Aa c 10) fun o1=>(let z9:=1+o1.x;let z10:=decide (1+o1.x=3);let z11:=Aa o1.c1 12;let z12:=(⟨1+o1.x,0,0,0,[],0,0⟩:Ev);(Ai c 10 o1)∧((.v (vI (IntKind.i64.wrap z9)):S)= .v (vI z9))∧((decide (1+o1.x=1))=true→In (Aa o1.c1 40) fun o2=>(let z1:=(⟨1+o1.x,0,0,o2.x,[],0,0⟩:Ev);(Ai o1.c1 40 o2)∧((EvB z1)∧(List.length (z1).text≤4)∧(Aw o2.c1))∧(.v (.agg (zi z9::zi 0:: .int .u64 0::zi o2.x::z13)):S)= .v (.agg (zi z9::zi 0:: .int .u64 0::zi o2.x::z13))∧([.cells (Ak o2.c1)]:List Blk)=[.cells (Ak o2.c1)]))∧((decide (1+o1.x=1))=false→((decide (1+o1.x=2))=true→In z11 fun o2=>((Ai o1.c1 12 o2)∧((.v (vI (IntKind.i64.wrap (1+o2.x))):S)= .v (vI (1+o2.x)))∧In (B2 o2.c1) fun o3=>(let z2:=(⟨1+o1.x,1+o2.x,o3.x,0,[],0,0⟩:Ev);(Du o2.c1 o3)∧((EvB z2)∧(List.length (z2).text≤4)∧(Aw o3.c1))∧(.v (.agg (zi z9::zi (1+o2.x):: .int .u64 o3.x::zi 0::z13)):S)= .v (.agg (zi z9::zi (1+o2.x):: .int .u64 o3.x::zi 0::z13))∧([.cells (Ak o3.c1)]:List Blk)=[.cells (Ak o3.c1)])))∧((decide (1+o1.x=2))=false→(z10=true→In z11 fun o2=>((z10=true)∧(Ai o1.c1 12 o2)∧((.v (vI (IntKind.i64.wrap (1+o2.x))):S)= .v (vI (1+o2.x)))∧In (Aa o2.c1 12) fun o3=>(let z3:=(⟨1+o1.x,1+o2.x,0,o3.x,[],0,0⟩:Ev);(Ai o2.c1 12 o3)∧((EvB z3)∧(List.length (z3).text≤4)∧(Aw o3.c1))∧(.v (.agg (zi z9::zi (1+o2.x):: .int .u64 0::zi o3.x::z13)):S)= .v (.agg (zi z9::zi (1+o2.x):: .int .u64 0::zi o3.x::z13))∧([.cells (Ak o3.c1)]:List Blk)=[.cells (Ak o3.c1)])))∧(z10=false→((decide (1+o1.x=6))=true→In z11 fun o2=>((Ai o1.c1 12 o2)∧((.v (vI (IntKind.i64.wrap (1+o2.x))):S)= .v (vI (1+o2.x)))∧In (Aa o2.c1 12) fun o3=>(let z4:=(⟨1+o1.x,1+o2.x,0,o3.x,[],0,0⟩:Ev);(Ai o2.c1 12 o3)∧((EvB z4)∧(List.length (z4).text≤4)∧(Aw o3.c1))∧(.v (.agg (zi z9::zi (1+o2.x):: .int .u64 0::zi o3.x::z13)):S)= .v (.agg (zi z9::zi (1+o2.x):: .int .u64 0::zi o3.x::z13))∧([.cells (Ak o3.c1)]:List Blk)=[.cells (Ak o3.c1)])))∧((decide (1+o1.x=6))=false→((decide (1+o1.x=4))=true→In (Gv o1.c1 [[97],[98,99],[195,169],[255]]) fun o2=>(let z5:=(⟨1+o1.x,0,0,0,o2.t,0,0⟩:Ev);(Pm o1.c1 [[97],[98,99],[195,169],[255]] o2)∧((EvB z5)∧(List.length (z5).text≤4)∧(Aw o2.c1))∧(.v (.agg [zi z9,zi 0,.int .u64 0,zi 0,.str o2.t,zi 0,zi 0]):S)= .v (.agg [zi z9,zi 0,.int .u64 0,zi 0,.str o2.t,zi 0,zi 0])∧([.cells (Ak o2.c1)]:List Blk)=[.cells (Ak o2.c1)]))∧((decide (1+o1.x=4))=false→((decide (1+o1.x=9))=true→In (Aa o1.c1 99) fun o2=>(let z6:=(⟨1+o1.x,0,0,0,[],0,o2.x⟩:Ev);(Ai o1.c1 99 o2)∧((EvB z6)∧(List.length (z6).text≤4)∧(Aw o2.c1))∧(.v (.agg [zi z9,zi 0,.int .u64 0,zi 0,.str [],zi 0,zi o2.x]):S)= .v (.agg [zi z9,zi 0,.int .u64 0,zi 0,.str [],zi 0,zi o2.x])∧([.cells (Ak o2.c1)]:List Blk)=[.cells (Ak o2.c1)]))∧((decide (1+o1.x=9))=false→((decide (1+o1.x=10))=true→In (Aa o1.c1 99) fun o2=>((Ai o1.c1 99 o2)∧In (Aa o2.c1 10) fun o3=>(let z7:=(⟨1+o1.x,0,0,0,[],1+o3.x,o2.x⟩:Ev);(Ai o2.c1 10 o3)∧((.v (vI (IntKind.i64.wrap (1+o3.x))):S)= .v (vI (1+o3.x)))∧((EvB z7)∧(List.length (z7).text≤4)∧(Aw o3.c1))∧(.v (.agg [zi z9,zi 0,.int .u64 0,zi 0,.str [],zi (1+o3.x),zi o2.x]):S)= .v (.agg [zi z9,zi 0,.int .u64 0,zi 0,.str [],zi (1+o3.x),zi o2.x])∧([.cells (Ak o3.c1)]:List Blk)=[.cells (Ak o3.c1)])))∧((decide (1+o1.x=10))=false→((EvB z12)∧(List.length (z12).text≤4)∧(Aw o1.c1))∧(.v (.agg (zi z9::zi 0:: .int .u64 0::zi 0::z13)):S)= .v (.agg (zi z9::zi 0:: .int .u64 0::zi 0::z13))∧([.cells (Ak o1.c1)]:List Blk)=[.cells (Ak o1.c1)])))))))))) Q4 ?_
 refine⟨(An c 10 Q0),fun o1 ho_o1=>?_⟩
 obtain ⟨⟨hp_o1_0,hp_o1_1,hp_o1_2,hp_o1_3⟩,hf_o1⟩:=ho_o1
 refine⟨hf_o1,(Ae Q2 Q2),dsp (fun h1 p1=>?_) fun h1 p1=>?_⟩
 refine⟨(An o1.c1 40 Q0),fun o2 ho_o2=>?_⟩
 obtain ⟨⟨hp_o2_0,hp_o2_1,hp_o2_2,hp_o2_3⟩,hf_o2⟩:=ho_o2
 exact⟨hf_o2,⟨Q18,Q28,Q0⟩,rfl,rfl⟩
 refine dsp (fun h2 p2=>?_) fun h2 p2=>?_
 refine⟨(An o1.c1 12 Q0),fun o2 ho_o2=>?_⟩
 obtain ⟨⟨hp_o2_0,hp_o2_1,hp_o2_2,hp_o2_3⟩,hf_o2⟩:=ho_o2
 refine⟨hf_o2,(Ae Q2 Q2),(Ge o2.c1 Q0),fun o3 ho_o3=>?_⟩
 obtain ⟨⟨hp_o3_0,hp_o3_1⟩,hf_o3⟩:=ho_o3
 exact⟨hf_o3,⟨Q18,Q28,Q0⟩,rfl,rfl⟩
 refine dsp (fun h3 p3=>?_) fun h3 p3=>?_
 refine⟨(An o1.c1 12 Q0),fun o2 ho_o2=>?_⟩
 refine⟨h3,?_⟩
 obtain ⟨⟨hp_o2_0,hp_o2_1,hp_o2_2,hp_o2_3⟩,hf_o2⟩:=ho_o2
 refine⟨hf_o2,(Ae Q2 Q2),(An o2.c1 12 Q0),fun o3 ho_o3=>?_⟩
 obtain ⟨⟨hp_o3_0,hp_o3_1,hp_o3_2,hp_o3_3⟩,hf_o3⟩:=ho_o3
 exact⟨hf_o3,⟨Q18,Q28,Q0⟩,rfl,rfl⟩
 refine dsp (fun h4 p4=>?_) fun h4 p4=>?_
 refine⟨(An o1.c1 12 Q0),fun o2 ho_o2=>?_⟩
 obtain ⟨⟨hp_o2_0,hp_o2_1,hp_o2_2,hp_o2_3⟩,hf_o2⟩:=ho_o2
 refine⟨hf_o2,(Ae Q2 Q2),(An o2.c1 12 Q0),fun o3 ho_o3=>?_⟩
 obtain ⟨⟨hp_o3_0,hp_o3_1,hp_o3_2,hp_o3_3⟩,hf_o3⟩:=ho_o3
 exact⟨hf_o3,⟨Q18,Q28,Q0⟩,rfl,rfl⟩
 refine dsp (fun h5 p5=>?_) fun h5 p5=>?_
 refine⟨(Xf o1.c1 [[97],[98,99],[195,169],[255]] Q0 Q6 Q6),fun o2 ho_o2=>?_⟩
 obtain ⟨⟨hp_o2_0,hp_o2_1⟩,hf_o2⟩:=ho_o2
 exact⟨hf_o2,⟨Q18,Q28,Q0⟩,rfl,rfl⟩
 refine dsp (fun h6 p6=>?_) fun h6 p6=>?_
 refine⟨(An o1.c1 99 Q0),fun o2 ho_o2=>?_⟩
 obtain ⟨⟨hp_o2_0,hp_o2_1,hp_o2_2,hp_o2_3⟩,hf_o2⟩:=ho_o2
 exact⟨hf_o2,⟨Q18,Q28,Q0⟩,rfl,rfl⟩
 refine dsp (fun h7 p7=>?_) fun h7 p7=>?_
 refine⟨(An o1.c1 99 Q0),fun o2 ho_o2=>?_⟩
 obtain ⟨⟨hp_o2_0,hp_o2_1,hp_o2_2,hp_o2_3⟩,hf_o2⟩:=ho_o2
 refine⟨hf_o2,(An o2.c1 10 Q0),fun o3 ho_o3=>?_⟩
 obtain ⟨⟨hp_o3_0,hp_o3_1,hp_o3_2,hp_o3_3⟩,hf_o3⟩:=ho_o3
 exact⟨hf_o3,(Ae Q2 Q2),⟨Q18,Q28,Q0⟩,rfl,rfl⟩
 exact⟨⟨Q18,Q28,Q0⟩,rfl,rfl⟩
structure Dn where
 e:Ev
 c1:Cur
def U3 (c:Cur) (o:Dn):Prop:=Fun Tryz.prog 116 [vP 0] [.cells (Ak c)] (.v (.agg (cEv o.e))) [.cells (Ak o.c1)]
def Qh (c:Cur) (o:Dn):Prop:=((EvB o.e)∧(List.length (o.e).text≤4)∧(Aw o.c1))∧U3 c o
theorem Afa (c:Cur) (hp1:Aw c): ∃o:Dn,Qh c o:=by
 have hN:Bg=274877906944:=rfl
 refine Bw Tryz.func116 Q4 Q4 (w:=let zi:Int→C:= .int .i64;(.intro (N1 c) fun o1=> .seg [.call [0] (.v (.agg (cEv o1.e))) [.cells (Ak o1.c1)]] (.intro (Aa o1.c1 14) fun o2=> .seg [.call [0] (.v (vI o2.x)) [.cells (Ak o2.c1)]] (.br (.intro (Aa o2.c1 13) fun o3=> .seg [.call [0] (.v (vI o3.x)) [.cells (Ak o3.c1)],.as 12 (.v (vI (o3.x-1)))] (.leaf (⟨(⟨o3.x-1,o1.e.field,o1.e.bits,o1.e.len,o1.e.text,o1.e.code,o1.e.at_⟩:Ev),o3.c1⟩:Dn) [0])) (.br (.intro (Nv o2.c1) fun o3=> .seg [.call [0] (.v (vI o3.x)) [.cells (Ak o3.c1)]] (.leaf (⟨(⟨o1.e.kind,o3.x,o1.e.bits,o1.e.len,o1.e.text,o1.e.code,o1.e.at_⟩:Ev),o3.c1⟩:Dn) [0])) (.br (.intro (Ju o2.c1) fun o3=> .seg [.call [0] (.v (vI o3.x)) [.cells (Ak o3.c1)]] (.leaf (⟨(⟨o1.e.kind,o1.e.field,o1.e.bits,o3.x,o1.e.text,o1.e.code,o1.e.at_⟩:Ev),o3.c1⟩:Dn) [0])) (.br (.seg [.ty .str,.pubS 27] (.intro (Gv o2.c1 [[],[120]]) fun o3=> .seg [.call [0] (.v (vT o3.t)) [.cells (Ak o3.c1)]] (.leaf (⟨(⟨o1.e.kind,o1.e.field,o1.e.bits,o1.e.len,o3.t,o1.e.code,o1.e.at_⟩:Ev),o3.c1⟩:Dn) [0]))) (.br (.seg [.ty .int,.pubS 33] (.intro (Bb o2.c1 [0,(-1),11,20]) fun o3=> .seg [.call [0] (.v (vI o3.x)) [.cells (Ak o3.c1)]] (.leaf (⟨(⟨o1.e.kind,o1.e.field,o1.e.bits,o1.e.len,o1.e.text,o3.x,o1.e.at_⟩:Ev),o3.c1⟩:Dn) [0]))) (.br (.intro (Ju o2.c1) fun o3=> .seg [.call [0] (.v (vI o3.x)) [.cells (Ak o3.c1)]] (.leaf (⟨(⟨o1.e.kind,o1.e.field,o1.e.bits,o1.e.len,o1.e.text,o1.e.code,o3.x⟩:Ev),o3.c1⟩:Dn) [0])) (.br (.intro (B2 o2.c1) fun o3=> .seg [.call [0] (.v (.c (.int .u64 o3.x))) [.cells (Ak o3.c1)]] (.leaf (⟨(⟨o1.e.kind,o1.e.field,o3.x,o1.e.len,o1.e.text,o1.e.code,o1.e.at_⟩:Ev),o3.c1⟩:Dn) [0])) (.leaf (⟨o1.e,o2.c1⟩:Dn) [0]))))))))),In (N1 c) fun o1=>((S3 c o1)∧In (Aa o1.c1 14) fun o2=>((Ai o1.c1 14 o2)∧((decide (o2.x=0))=true→In (Aa o2.c1 13) fun o3=>(let z1:=(⟨o3.x-1,o1.e.field,o1.e.bits,o1.e.len,o1.e.text,o1.e.code,o1.e.at_⟩:Ev);(Ai o2.c1 13 o3)∧((.v (vI (IntKind.i64.wrap (o3.x-1))):S)= .v (vI (o3.x-1)))∧((EvB z1)∧(List.length (z1).text≤4)∧(Aw o3.c1))∧(.v (.agg [zi (o3.x-1),zi o1.e.field,.int .u64 o1.e.bits,zi o1.e.len,.str o1.e.text,zi o1.e.code,zi o1.e.at_]):S)= .v (.agg [zi (o3.x-1),zi o1.e.field,.int .u64 o1.e.bits,zi o1.e.len,.str o1.e.text,zi o1.e.code,zi o1.e.at_])∧([.cells (Ak o3.c1)]:List Blk)=[.cells (Ak o3.c1)]))∧((decide (o2.x=0))=false→((decide (o2.x=1))=true→In (Nv o2.c1) fun o3=>(let z2:=(⟨o1.e.kind,o3.x,o1.e.bits,o1.e.len,o1.e.text,o1.e.code,o1.e.at_⟩:Ev);(Sw o2.c1 o3)∧((EvB z2)∧(List.length (z2).text≤4)∧(Aw o3.c1))∧(.v (.agg [zi o1.e.kind,zi o3.x,.int .u64 o1.e.bits,zi o1.e.len,.str o1.e.text,zi o1.e.code,zi o1.e.at_]):S)= .v (.agg [zi o1.e.kind,zi o3.x,.int .u64 o1.e.bits,zi o1.e.len,.str o1.e.text,zi o1.e.code,zi o1.e.at_])∧([.cells (Ak o3.c1)]:List Blk)=[.cells (Ak o3.c1)]))∧((decide (o2.x=1))=false→((decide (o2.x=2))=true→In (Ju o2.c1) fun o3=>(let z3:=(⟨o1.e.kind,o1.e.field,o1.e.bits,o3.x,o1.e.text,o1.e.code,o1.e.at_⟩:Ev);(Qa o2.c1 o3)∧((EvB z3)∧(List.length (z3).text≤4)∧(Aw o3.c1))∧(.v (.agg [zi o1.e.kind,zi o1.e.field,.int .u64 o1.e.bits,zi o3.x,.str o1.e.text,zi o1.e.code,zi o1.e.at_]):S)= .v (.agg [zi o1.e.kind,zi o1.e.field,.int .u64 o1.e.bits,zi o3.x,.str o1.e.text,zi o1.e.code,zi o1.e.at_])∧([.cells (Ak o3.c1)]:List Blk)=[.cells (Ak o3.c1)]))∧((decide (o2.x=2))=false→((decide (o2.x=3))=true→In (Gv o2.c1 [[],[120]]) fun o3=>(let z4:=(⟨o1.e.kind,o1.e.field,o1.e.bits,o1.e.len,o3.t,o1.e.code,o1.e.at_⟩:Ev);(Pm o2.c1 [[],[120]] o3)∧((EvB z4)∧(List.length (z4).text≤4)∧(Aw o3.c1))∧(.v (.agg [zi o1.e.kind,zi o1.e.field,.int .u64 o1.e.bits,zi o1.e.len,.str o3.t,zi o1.e.code,zi o1.e.at_]):S)= .v (.agg [zi o1.e.kind,zi o1.e.field,.int .u64 o1.e.bits,zi o1.e.len,.str o3.t,zi o1.e.code,zi o1.e.at_])∧([.cells (Ak o3.c1)]:List Blk)=[.cells (Ak o3.c1)]))∧((decide (o2.x=3))=false→((decide (o2.x=4))=true→In (Bb o2.c1 [0,(-1),11,20]) fun o3=>(let z5:=(⟨o1.e.kind,o1.e.field,o1.e.bits,o1.e.len,o1.e.text,o3.x,o1.e.at_⟩:Ev);(B9 o2.c1 [0,(-1),11,20] o3)∧((EvB z5)∧(List.length (z5).text≤4)∧(Aw o3.c1))∧(.v (.agg [zi o1.e.kind,zi o1.e.field,.int .u64 o1.e.bits,zi o1.e.len,.str o1.e.text,zi o3.x,zi o1.e.at_]):S)= .v (.agg [zi o1.e.kind,zi o1.e.field,.int .u64 o1.e.bits,zi o1.e.len,.str o1.e.text,zi o3.x,zi o1.e.at_])∧([.cells (Ak o3.c1)]:List Blk)=[.cells (Ak o3.c1)]))∧((decide (o2.x=4))=false→((decide (o2.x=5))=true→In (Ju o2.c1) fun o3=>(let z6:=(⟨o1.e.kind,o1.e.field,o1.e.bits,o1.e.len,o1.e.text,o1.e.code,o3.x⟩:Ev);(Qa o2.c1 o3)∧((EvB z6)∧(List.length (z6).text≤4)∧(Aw o3.c1))∧(.v (.agg [zi o1.e.kind,zi o1.e.field,.int .u64 o1.e.bits,zi o1.e.len,.str o1.e.text,zi o1.e.code,zi o3.x]):S)= .v (.agg [zi o1.e.kind,zi o1.e.field,.int .u64 o1.e.bits,zi o1.e.len,.str o1.e.text,zi o1.e.code,zi o3.x])∧([.cells (Ak o3.c1)]:List Blk)=[.cells (Ak o3.c1)]))∧((decide (o2.x=5))=false→((decide (o2.x=6))=true→In (B2 o2.c1) fun o3=>(let z7:=(⟨o1.e.kind,o1.e.field,o3.x,o1.e.len,o1.e.text,o1.e.code,o1.e.at_⟩:Ev);(Du o2.c1 o3)∧((EvB z7)∧(List.length (z7).text≤4)∧(Aw o3.c1))∧(.v (.agg [zi o1.e.kind,zi o1.e.field,.int .u64 o3.x,zi o1.e.len,.str o1.e.text,zi o1.e.code,zi o1.e.at_]):S)= .v (.agg [zi o1.e.kind,zi o1.e.field,.int .u64 o3.x,zi o1.e.len,.str o1.e.text,zi o1.e.code,zi o1.e.at_])∧([.cells (Ak o3.c1)]:List Blk)=[.cells (Ak o3.c1)]))∧((decide (o2.x=6))=false→((EvB o1.e)∧(List.length (o1.e).text≤4)∧(Aw o2.c1))∧(.v (.agg (cEv o1.e)):S)= .v (.agg (cEv o1.e))∧([.cells (Ak o2.c1)]:List Blk)=[.cells (Ak o2.c1)]))))))))))) Q4 ?_
 refine⟨(Acn c Q0),fun o1 ho_o1=>?_⟩
 obtain ⟨⟨hp_o1_0,hp_o1_1,hp_o1_2⟩,hf_o1⟩:=ho_o1
 refine⟨hf_o1,(An o1.c1 14 Q0),fun o2 ho_o2=>?_⟩
 obtain ⟨⟨hp_o2_0,hp_o2_1,hp_o2_2,hp_o2_3⟩,hf_o2⟩:=ho_o2
 refine⟨hf_o2,dsp (fun h1 p1=>?_) fun h1 p1=>?_⟩
 refine⟨(An o2.c1 13 Q0),fun o3 ho_o3=>?_⟩
 obtain ⟨⟨hp_o3_0,hp_o3_1,hp_o3_2,hp_o3_3⟩,hf_o3⟩:=ho_o3
 exact⟨hf_o3,(Ae Q2 Q2),⟨Q16,Q31,Q0⟩,rfl,rfl⟩
 refine dsp (fun h2 p2=>?_) fun h2 p2=>?_
 refine⟨(Ach o2.c1 Q0),fun o3 ho_o3=>?_⟩
 obtain ⟨hp_o3,hf_o3⟩:=ho_o3
 exact⟨hf_o3,⟨Q16,Q31,Q0⟩,rfl,rfl⟩
 refine dsp (fun h3 p3=>?_) fun h3 p3=>?_
 refine⟨(Ym o2.c1 Q0),fun o3 ho_o3=>?_⟩
 obtain ⟨hp_o3,hf_o3⟩:=ho_o3
 exact⟨hf_o3,⟨Q16,Q31,Q0⟩,rfl,rfl⟩
 refine dsp (fun h4 p4=>?_) fun h4 p4=>?_
 refine⟨(Xf o2.c1 [[],[120]] Q0 Q6 Q6),fun o3 ho_o3=>?_⟩
 obtain ⟨⟨hp_o3_0,hp_o3_1⟩,hf_o3⟩:=ho_o3
 exact⟨hf_o3,⟨Q16,Q31,Q0⟩,rfl,rfl⟩
 refine dsp (fun h5 p5=>?_) fun h5 p5=>?_
 refine⟨(C4 o2.c1 [0,(-1),11,20] Q0 Q6 Q6),fun o3 ho_o3=>?_⟩
 obtain ⟨⟨hp_o3_0,hp_o3_1⟩,hf_o3⟩:=ho_o3
 exact⟨hf_o3,⟨Q16,Q31,Q0⟩,rfl,rfl⟩
 refine dsp (fun h6 p6=>?_) fun h6 p6=>?_
 refine⟨(Ym o2.c1 Q0),fun o3 ho_o3=>?_⟩
 obtain ⟨hp_o3,hf_o3⟩:=ho_o3
 exact⟨hf_o3,⟨Q16,Q31,Q0⟩,rfl,rfl⟩
 refine dsp (fun h7 p7=>?_) fun h7 p7=>?_
 refine⟨(Ge o2.c1 Q0),fun o3 ho_o3=>?_⟩
 obtain ⟨⟨hp_o3_0,hp_o3_1⟩,hf_o3⟩:=ho_o3
 exact⟨hf_o3,⟨Q16,Q31,Q0⟩,rfl,rfl⟩
 exact⟨⟨Q16,Q31,Q0⟩,rfl,rfl⟩
structure Jf where
 s:Scn
 c1:Cur
def We (c:Cur) (o:Jf):Prop:=Fun Tryz.prog 114 [vP 0] [.cells (Ak c)] (.v (.agg (J0 o.s))) [.cells (Ak o.c1)]
def Sa (c:Cur) (o:Jf):Prop:=(((0:Int)≤(o.s).bits∧(o.s).bits≤18446744073709551615)∧(Aw o.c1))∧We c o
structure Mu where
 c:Cur
 s:Scn
 i:Nat
def Fr (o1:Cp):Fam:=⟨Mu,fun q1=>[(0,.v (vP 0)),(2,.v (vP 1)),(3,.v (vP 2)),(4,.v (vI o1.x)),(5,.v (vI ((q1.i:Nat):Int)))],fun q1=>[.cells (Ak q1.c),.cells [.int .u64 0,.int .i64 0],.cells (J0 q1.s)],fun q1=>Aw q1.c∧q1.i≤9∧((0:Int)≤(q1.s).bits∧(q1.s).bits≤18446744073709551615),fun q1=>10-q1.i⟩
theorem Ag0 (c:Cur) (hp1:Aw c): ∃o:Jf,Sa c o:=by
 have hN:Bg=274877906944:=rfl
 refine Bw Tryz.func114 Q4 Q4 (w:=let zi:Int→C:= .int .i64;let z3:= -9223372036854775808;(.intro (Aa c 10) fun o1=> .seg [.call [0] (.v (vI o1.x)) [.cells (Ak o1.c1)],.at 0,.keep [0,2,3,4,5],.sel [0,1,2]] (.loop (Fr o1) fun q1=> .br (.intro (Aa q1.c 128) fun o2=> .seg [.ord (os 9 [2,4,8]) [0],.call [0] (.v (vI o2.x)) [.cells (Ak o2.c1)],.as 18 (.v (vI (128+o2.x))),.call [] (.tup [.agg (J0 (Af q1.s (128+o2.x)).1),vI (Af q1.s (128+o2.x)).2]) [],.as 13 (.v (vI (((q1.i:Nat):Int)+1))),.at 0,.keep [0,2,3,4,5],.sel [0,1,2]] (.next)) (.intro (Aa q1.c 10) fun o2=> .seg [.call [0] (.v (vI o2.x)) [.cells (Ak o2.c1)]] (.br (.seg [.ty .int,.pubS 27] (.intro (Bb o2.c1 [(-1),0,9,10,11,9223372036854775807,z3]) fun o3=> .seg [.call [0] (.v (vI o3.x)) [.cells (Ak o3.c1)]] (.leaf (⟨(⟨q1.s.bits,o3.x⟩:Scn),o3.c1⟩:Jf) [0]))) (.br (.intro (B2 o2.c1) fun o3=> .seg [.call [0] (.v (.c (.int .u64 o3.x))) [.cells (Ak o3.c1)]] (.leaf (⟨(⟨o3.x,q1.s.have_⟩:Scn),o3.c1⟩:Jf) [0])) (.leaf (⟨q1.s,o2.c1⟩:Jf) [0]))))),In (Aa c 10) fun o1=>((Ai c 10 o1)∧(Fr o1).Has [(0,.v (vP 0)),(2,.v (vP 1)),(3,.v (vP 2)),(4,.v (vI o1.x)),(5,.v (vI 0))] [.cells (Ak o1.c1),.cells [.int .u64 0,zi 0],.cells [.int .u64 0,zi 0]]∧∀q1,(Fr o1).inv q1→(let z2:=((q1.i:Nat):Int);((decide (z2<o1.x))=true→In (Aa q1.c 128) fun o2=>(let z1:=Af q1.s (128+o2.x);(Ai q1.c 128 o2)∧((.v (vI (IntKind.i64.wrap (128+o2.x))):S)= .v (vI (128+o2.x)))∧(Fun Tryz.prog 129 [.agg (J0 q1.s),vI (128+o2.x)] [] (.tup [.agg (J0 z1.1),vI z1.2]) [])∧((.v (vI (IntKind.i64.wrap (z2+1))):S)= .v (vI (z2+1)))∧(Fr o1).Nxt q1 [(0,.v (vP 0)),(2,.v (vP 1)),(3,.v (vP 2)),(4,.v (vI o1.x)),(5,.v (vI (z2+1)))] [.cells (Ak o2.c1),.cells [.int .u64 0,zi 0],.cells (J0 z1.1)]))∧((decide (z2<o1.x))=false→In (Aa q1.c 10) fun o2=>((Ai q1.c 10 o2)∧((decide (o2.x=0))=true→In (Bb o2.c1 [(-1),0,9,10,11,9223372036854775807,z3]) fun o3=>((B9 o2.c1 [(-1),0,9,10,11,9223372036854775807,z3] o3)∧(((0:Int)≤((⟨q1.s.bits,o3.x⟩:Scn)).bits∧((⟨q1.s.bits,o3.x⟩:Scn)).bits≤18446744073709551615)∧(Aw o3.c1))∧(.v (.agg [.int .u64 q1.s.bits,zi o3.x]):S)= .v (.agg [.int .u64 q1.s.bits,zi o3.x])∧([.cells (Ak o3.c1)]:List Blk)=[.cells (Ak o3.c1)]))∧((decide (o2.x=0))=false→((decide (o2.x=1))=true→In (B2 o2.c1) fun o3=>((Du o2.c1 o3)∧(((0:Int)≤((⟨o3.x,q1.s.have_⟩:Scn)).bits∧((⟨o3.x,q1.s.have_⟩:Scn)).bits≤18446744073709551615)∧(Aw o3.c1))∧(.v (.agg [.int .u64 o3.x,zi q1.s.have_]):S)= .v (.agg [.int .u64 o3.x,zi q1.s.have_])∧([.cells (Ak o3.c1)]:List Blk)=[.cells (Ak o3.c1)]))∧((decide (o2.x=1))=false→(((0:Int)≤(q1.s).bits∧(q1.s).bits≤18446744073709551615)∧(Aw o2.c1))∧(.v (.agg (J0 q1.s)):S)= .v (.agg (J0 q1.s))∧([.cells (Ak o2.c1)]:List Blk)=[.cells (Ak o2.c1)])))))))) Q4 ?_
 refine⟨(An c 10 Q0),fun o1 ho_o1=>?_⟩
 obtain ⟨⟨hp_o1_0,hp_o1_1,hp_o1_2,hp_o1_3⟩,hf_o1⟩:=ho_o1
 refine⟨hf_o1,Bk (j:=(⟨o1.c1,(⟨0,0⟩:Scn),0⟩:Mu)) Q10 Q10 (by dsimp only[Fr];exact⟨by assumption,by omega,by decide⟩),fun (q1:Mu) hq_q1=>?_⟩
 have hi_q1:Aw q1.c∧q1.i≤9∧((0:Int)≤(q1.s).bits∧(q1.s).bits≤18446744073709551615):=hq_q1
 obtain ⟨v1,v2,v3⟩:=hi_q1
 refine dsp (fun h1 p1=>?_) fun h1 p1=>?_
 refine⟨(An q1.c 128 Q0),fun o2 ho_o2=>?_⟩
 obtain ⟨⟨hp_o2_0,hp_o2_1,hp_o2_2,hp_o2_3⟩,hf_o2⟩:=ho_o2
 exact⟨hf_o2,(Ae Q2 Q2),(Jd q1.s _ Q2),(Ae Q2 Q2),Bd (j:=(⟨o2.c1,(Af q1.s (128+o2.x)).1,q1.i+1⟩:Mu)) Q10 rfl (by dsimp only[Fr];exact⟨by assumption,by omega,N9 v3.1 v3.2⟩) (by dsimp only[Fr];omega)⟩
 refine⟨(An q1.c 10 Q0),fun o2 ho_o2=>?_⟩
 obtain ⟨⟨hp_o2_0,hp_o2_1,hp_o2_2,hp_o2_3⟩,hf_o2⟩:=ho_o2
 refine⟨hf_o2,dsp (fun h2 p2=>?_) fun h2 p2=>?_⟩
 refine⟨(C4 o2.c1 [(-1),0,9,10,11,9223372036854775807,(-9223372036854775808)] Q0 Q6 Q6),fun o3 ho_o3=>?_⟩
 obtain ⟨⟨hp_o3_0,hp_o3_1⟩,hf_o3⟩:=ho_o3
 exact⟨hf_o3,⟨Q2,Q0⟩,rfl,rfl⟩
 refine dsp (fun h3 p3=>?_) fun h3 p3=>?_
 refine⟨(Ge o2.c1 Q0),fun o3 ho_o3=>?_⟩
 obtain ⟨⟨hp_o3_0,hp_o3_1⟩,hf_o3⟩:=ho_o3
 exact⟨hf_o3,⟨Q2,Q0⟩,rfl,rfl⟩
 exact⟨⟨Q2,Q0⟩,rfl,rfl⟩
structure Ajb where
 x:Int
 c1:Cur
theorem Aco (s:List UInt8) (hp1:List.length s≤Bg):Fun Tryz.prog 165 [vT s] [] (.v (.agg (Hg (P7 utf0 s)))) []:=by
 have hN:Bg=274877906944:=rfl
 refine Ar Tryz.func165 Q4 Q4 (w:=let z1:=Hg (P7 (⟨0,0,0⟩:Utf) s);(.seg [.call [] (.tup [.agg z1,vI (Sq (⟨0,0,0⟩:Utf) s)]) []] (.leaf () []),(Fun Tryz.prog 202 [.agg [.int .i64 0,.int .i64 0,.int .i64 0],vT s] [] (.tup [.agg z1,vI (Sq (⟨0,0,0⟩:Utf) s)]) [])∧(.v (.agg z1):S)= .v (.agg (Hg (P7 utf0 s)))∧([]:List Blk)=[])) Q4 ?_
 refine⟨(Aeg (⟨0,0,0⟩:Utf) _ Q2),?_⟩
 have hm1:P7 utf0 s=(P7 (⟨0,0,0⟩:Utf) s):=by rfl
 exact⟨Q5,rfl⟩
structure Ft where
 u:Utf
 c1:Cur
def U4 (c:Cur) (o:Ft):Prop:=Fun Tryz.prog 115 [vP 0] [.cells (Ak c)] (.v (.agg (Hg o.u))) [.cells (Ak o.c1)]
def Qi (c:Cur) (o:Ft):Prop:=((Aw o.c1))∧U4 c o
theorem Afb (c:Cur) (hp1:Aw c): ∃o:Ft,Qi c o:=by
 have hN:Bg=274877906944:=rfl
 refine Bw Tryz.func115 Q4 Q4 (w:=let zi:Int→C:= .int .i64;(.intro (La c) fun o1=>let z1:=P7 utf0 o1.t;.seg [.call [0] (.v (vT o1.t)) [.cells (Ak o1.c1)],.call [] (.v (.agg (Hg z1))) []] (.intro (Aa o1.c1 12) fun o2=> .seg [.call [0] (.v (vI o2.x)) [.cells (Ak o2.c1)]] (.br (.intro (Aa o2.c1 6) fun o3=> .seg [.call [0] (.v (vI o3.x)) [.cells (Ak o3.c1)],.as 13 (.v (vI (o3.x-1)))] (.leaf (⟨(⟨o3.x-1,z1.low,z1.high⟩:Utf),o3.c1⟩:Ft) [0])) (.br (.seg [.ty .int,.pubS 18] (.intro (Bb o2.c1 [0,128,144,160,(-1)]) fun o3=> .seg [.call [0] (.v (vI o3.x)) [.cells (Ak o3.c1)]] (.leaf (⟨(⟨z1.want,o3.x,z1.high⟩:Utf),o3.c1⟩:Ft) [0]))) (.br (.seg [.ty .int,.pubS 24] (.intro (Bb o2.c1 [0,143,159,191,255]) fun o3=> .seg [.call [0] (.v (vI o3.x)) [.cells (Ak o3.c1)]] (.leaf (⟨(⟨z1.want,z1.low,o3.x⟩:Utf),o3.c1⟩:Ft) [0]))) (.leaf (⟨z1,o2.c1⟩:Ft) [0]))))),In (La c) fun o1=>(let z2:=P7 utf0 o1.t;(R9 c o1)∧(Fun Tryz.prog 165 [vT o1.t] [] (.v (.agg (Hg z2))) [])∧In (Aa o1.c1 12) fun o2=>((Ai o1.c1 12 o2)∧((decide (o2.x=0))=true→In (Aa o2.c1 6) fun o3=>((Ai o2.c1 6 o3)∧((.v (vI (IntKind.i64.wrap (o3.x-1))):S)= .v (vI (o3.x-1)))∧((Aw o3.c1))∧(.v (.agg [zi (o3.x-1),zi z2.low,zi z2.high]):S)= .v (.agg [zi (o3.x-1),zi z2.low,zi z2.high])∧([.cells (Ak o3.c1)]:List Blk)=[.cells (Ak o3.c1)]))∧((decide (o2.x=0))=false→((decide (o2.x=1))=true→In (Bb o2.c1 [0,128,144,160,(-1)]) fun o3=>((B9 o2.c1 [0,128,144,160,(-1)] o3)∧((Aw o3.c1))∧(.v (.agg [zi z2.want,zi o3.x,zi z2.high]):S)= .v (.agg [zi z2.want,zi o3.x,zi z2.high])∧([.cells (Ak o3.c1)]:List Blk)=[.cells (Ak o3.c1)]))∧((decide (o2.x=1))=false→((decide (o2.x=2))=true→In (Bb o2.c1 [0,143,159,191,255]) fun o3=>((B9 o2.c1 [0,143,159,191,255] o3)∧((Aw o3.c1))∧(.v (.agg [zi z2.want,zi z2.low,zi o3.x]):S)= .v (.agg [zi z2.want,zi z2.low,zi o3.x])∧([.cells (Ak o3.c1)]:List Blk)=[.cells (Ak o3.c1)]))∧((decide (o2.x=2))=false→((Aw o2.c1))∧(.v (.agg (Hg z2)):S)= .v (.agg (Hg z2))∧([.cells (Ak o2.c1)]:List Blk)=[.cells (Ak o2.c1)]))))))) Q4 ?_
 refine⟨(Abb c Q0),fun o1 ho_o1=>?_⟩
 obtain ⟨⟨hp_o1_0,hp_o1_1⟩,hf_o1⟩:=ho_o1
 refine⟨hf_o1,(Aco _ Q2),(An o1.c1 12 Q0),fun o2 ho_o2=>?_⟩
 obtain ⟨⟨hp_o2_0,hp_o2_1,hp_o2_2,hp_o2_3⟩,hf_o2⟩:=ho_o2
 refine⟨hf_o2,dsp (fun h1 p1=>?_) fun h1 p1=>?_⟩
 refine⟨(An o2.c1 6 Q0),fun o3 ho_o3=>?_⟩
 obtain ⟨⟨hp_o3_0,hp_o3_1,hp_o3_2,hp_o3_3⟩,hf_o3⟩:=ho_o3
 exact⟨hf_o3,(Ae Q2 Q2),Q0,rfl,rfl⟩
 refine dsp (fun h2 p2=>?_) fun h2 p2=>?_
 refine⟨(C4 o2.c1 [0,128,144,160,(-1)] Q0 Q6 Q6),fun o3 ho_o3=>?_⟩
 obtain ⟨⟨hp_o3_0,hp_o3_1⟩,hf_o3⟩:=ho_o3
 exact⟨hf_o3,Q0,rfl,rfl⟩
 refine dsp (fun h3 p3=>?_) fun h3 p3=>?_
 refine⟨(C4 o2.c1 [0,143,159,191,255] Q0 Q6 Q6),fun o3 ho_o3=>?_⟩
 obtain ⟨⟨hp_o3_0,hp_o3_1⟩,hf_o3⟩:=ho_o3
 exact⟨hf_o3,Q0,rfl,rfl⟩
 exact⟨Q0,rfl,rfl⟩
theorem Com.start {d:Dcd} (h:Com d) {a:Int} (ha:0≤a∧a≤d.at_):Com (Kz d a):=by
 refine⟨B1 h.lv rfl rfl,h.at_,?_,h.ut,h.wi,h.fl,h.en⟩
 show 0≤(if d.scan.have_=0∧(d.mode=1∨d.mode=2∨d.mode=4) then a else d.start)∧(if d.scan.have_=0∧(d.mode=1∨d.mode=2∨d.mode=4) then a else d.start)≤d.at_
 split
 ·exact ha
 ·exact h.st
theorem Com.scan {d:Dcd} (h:Com d) (s:Scn):Com (G6 d s):=⟨B1 h.lv rfl rfl,h.at_,h.st,h.ut,h.wi,h.fl,h.en⟩
theorem Afc {s:Scn} {b:Int} (h0:0≤s.bits) (h:(Af s b).2=0):C7 (Af s b).1=true:=by
 unfold Af at h ⊢
 split at h
 ·simp at h
 ·rename_i hc
  rw[if_neg hc]
  simp only[not_or] at hc
  have hs:C7 s=true:=by simpa using hc.1
  have hb:=As (show Am b 0 255=true by simpa using hc.2.1)
  have hk:=Tc hs h0
  have hb2: ¬b<128:=fun hx=>by rw[if_pos hx] at h;simp at h
  have h9:s.have_≠9:=fun e=>hc.2.2 ⟨e,by omega⟩
  obtain ⟨u,hv⟩:=s
  simp only at h0 hk h9 ⊢
  obtain ⟨k,rfl⟩:=Int.eq_ofNat_of_zero_le hk.1
  have hk9:k<9:=by omega
  have hu:=hk.2.2
  rw[Int.toNat_natCast] at hu ⊢
  have hp:(0:Int)<2 ^ (7*(k+1)):=Int.pow_pos (by decide)
  have hp2:(2:Int) ^ (7*(k+1))=2 ^ (7*k)*128:=by rw[show 7*(k+1)=7*k+7 by omega,Int.pow_add];rfl
  have hp0:(0:Int)<2 ^ (7*k):=Int.pow_pos (by decide)
  have hm:b % 128*2 ^ (7*k)≤127*2 ^ (7*k):=Int.mul_le_mul_of_nonneg_right (by omega) (by omega)
  have hm0:0≤b % 128*2 ^ (7*k):=Int.mul_nonneg (by omega) (by omega)
  simp only[C7,Am,Bool.and_eq_true,decide_eq_true_eq]
  refine⟨⟨by omega,by omega⟩,?_⟩
  rw[show min (Int.toNat (7*((k:Int)+1))) 64=7*(k+1) by omega,Int.fdiv_eq_ediv_of_nonneg _ (Int.le_of_lt hp)]
  exact Int.ediv_eq_zero_of_lt Q2 Q2
theorem Aka {d:Dcd} {o:List Ev} {b a:Int} (h:Com d) (hb:0≤d.scan.bits∧d.scan.bits≤18446744073709551615) (ha:0≤a∧a≤d.at_) (h1:d.mode=1→d.stack=[]) (hn:d.mode≠1→0<d.stack.length) (hk:Hk d=true)
  (hm:((d.mode=1∨d.mode=2∨d.mode=3∨d.mode=4)∧d.want=0)∨(d.mode=8∧Ay (Bs d.field.kind)=0∧0≤d.want∧d.want≤Dh d)):Cj (Bo ⟨d,o⟩ b a).d=true:=by
 have hcs:=h.start ha
 have hbt:=Gk h.lv
 have hbb:=N9 (b:=b) hb.1 hb.2
 unfold Bo
 simp only
 split
 ·exact hcs.fail (by decide) ha.1
 ·split
  ·rename_i hc
   have hsn:=Afc hb.1 hc
   unfold W1
   simp only
   split
   ·exact(hcs.scan _).fail (by decide) h.at_.1
   ·rename_i hx
    simp only[not_or,not_and] at hx
    have hcc:=hcs.scan (Af d.scan b).1
    refine H9 hcc.lv (show 1≤d.mode∧d.mode≤9 by omega) hcc.at_ hcc.st hcc.ut hcc.wi hcc.fl ?_ ?_ ?_ hk ?_
    ·show (if d.mode=9 then _ else _)=true
     rw[if_neg (by omega)];exact decide_eq_true h.en
    ·show (if d.mode=1 then decide (d.stack=[]) else if d.mode=9 then true else decide (1≤Dh d))=true
     split
     ·rename_i hm1;exact decide_eq_true (h1 hm1)
     ·rename_i hm1
      rw[if_neg (by omega)];exact decide_eq_true (by have:=hx.1 hm1;omega)
    ·show (if d.mode=6∨d.mode=7∨d.mode=8 then Am d.want 1 (Dh d) else decide (d.want=0))=true
     split
     ·have:=hx.2 (by omega)
      simp only[Am,Bool.and_eq_true,decide_eq_true_eq];omega
     ·exact decide_eq_true (by omega)
    ·have hw:Bp (G6 (Kz d a) (Af d.scan b).1)=0:=by
      show (if d.mode=5 then Ay d.wire else if d.mode=8 then Ay (Bs d.field.kind) else 0)=0
      rw[if_neg (by omega)]
      split<;>omega
     unfold J1
     rw[hw,if_neg (by decide)]
     show (if d.mode=6∨d.mode=7∨d.mode=9 then decide ((Af d.scan b).1=scn0) else C7 (Af d.scan b).1)=true
     rw[if_neg (by omega)]
     exact hsn
  ·split
   ·rename_i hm1
    exact Agy (hcs.scan _) (show d.want=0 by omega) hbb.1
   ·split
    ·rename_i hm1
     exact Aj9 (hcs.scan _) (show d.want=0 by omega)
    ·split
     ·rename_i hm1
      refine Aix (hcs.scan _) (show d.want=0 by omega) hbb.1 ?_
      unfold Hk at hk
      rw[if_neg (by omega),if_neg (by omega),if_neg (by omega),if_pos hm1] at hk
      simp only[Bool.and_eq_true,decide_eq_true_eq,Ahk,Bool.or_eq_true] at hk
      rw[hk.1] at hk
      exact hk.2
     ·rename_i hc1 hc2 hc3 hc4 hc5
      have hcc:=hcs.scan scn0
      refine Fj ⟨⟨B1 hcc.lv rfl rfl,hcc.at_,hcc.st,hcc.ut,hcc.wi,hcc.fl,hcc.en⟩,rfl,hn hc3,?_⟩
      rcases hm with hm|hm
      ·exact .inl ⟨by show (if d.mode=8 then (8:Int) else 2)=2;rw[if_neg (by omega)],hm.2⟩
      ·refine .inr (.inr (.inr ⟨by show (if d.mode=8 then (8:Int) else 2)=8;rw[if_pos hm.1],?_,hm.2.2.1,hm.2.2.2,?_⟩))
       ·unfold Hk at hk
        rw[if_neg (by omega),if_pos hm.1] at hk
        exact hk
       ·right;show Ay (Bs d.field.kind)≤d.want;omega
theorem Ag1 {s:Scn} {b w:Int} (h:0≤s.have_∧s.have_+1<w) (hw:w≤8) (hf:Int.fdiv s.bits (2 ^ min (Int.toNat (8*s.have_)) 64)=0) (hb:0≤b∧b≤255):(Br s b).have_=s.have_+1∧Int.fdiv (Br s b).bits (2 ^ min (Int.toNat (8*(s.have_+1))) 64)=0:=by
 obtain ⟨u,hv⟩:=s
 simp only at h hf
 unfold Br
 rw[if_pos ⟨by simp only[Am,Bool.and_eq_true,decide_eq_true_eq];omega,by simp only[Am,Bool.and_eq_true,decide_eq_true_eq];omega⟩]
 refine⟨rfl,?_⟩
 simp only
 obtain ⟨k,rfl⟩:=Int.eq_ofNat_of_zero_le h.1
 have hk:k<7:=by omega
 rw[show min (Int.toNat (8*(k:Int))) 64=8*k by omega] at hf ⊢
 rw[show min (Int.toNat (8*((k:Int)+1))) 64=8*(k+1) by omega]
 have hp0:(0:Int)<2 ^ (8*k):=Int.pow_pos (by decide)
 have hp:(0:Int)<2 ^ (8*(k+1)):=Int.pow_pos (by decide)
 have hp2:(2:Int) ^ (8*(k+1))=2 ^ (8*k)*256:=by rw[show 8*(k+1)=8*k+8 by omega,Int.pow_add];rfl
 have hp3:(2:Int) ^ (8*(k+1))≤2 ^ 56:=by
  rcases (show k=0∨k=1∨k=2∨k=3∨k=4∨k=5∨k=6 by omega) with rfl|rfl|rfl|rfl|rfl|rfl|rfl<;>decide
 have hp56:(2:Int) ^ 56=72057594037927936:=rfl
 rw[Int.fdiv_eq_ediv_of_nonneg _ (Int.le_of_lt hp0)] at hf
 have hd:=Int.mul_ediv_add_emod u (2 ^ (8*k))
 rw[hf,Int.mul_zero,Int.zero_add] at hd
 have hu0:=Int.emod_nonneg u (show (2:Int) ^ (8*k)≠0 by omega)
 have hu1:=Int.emod_lt_of_pos u hp0
 have hm:b*2 ^ (8*k)≤255*2 ^ (8*k):=Int.mul_le_mul_of_nonneg_right (by omega) (by omega)
 have hm0:0≤b*2 ^ (8*k):=Int.mul_nonneg (by omega) (by omega)
 rw[Int.fdiv_eq_ediv_of_nonneg _ (Int.le_of_lt hp),IntKind.wrap_u64,IntKind.wrap_u64]
 have e1:b*2 ^ (8*k) % 18446744073709551616=b*2 ^ (8*k):=Int.emod_eq_of_lt hm0 (by omega)
 rw[e1,Int.emod_eq_of_lt (by omega) (by omega)]
 exact Int.ediv_eq_zero_of_lt Q2 Q2
theorem Akb {d:Dcd} {o:List Ev} {b:Int} (h:Com d) (hn:0<d.stack.length) (hk:Hk d=true) (hb:0≤b∧b≤255) (h0:0≤d.scan.have_∧d.scan.have_≤Bp d-1) (hf:Int.fdiv d.scan.bits (2 ^ min (Int.toNat (8*d.scan.have_)) 64)=0) (hr:Bp d-d.scan.have_-1≤Nj d)
  (hm:(d.mode=5∧d.want=0)∨(d.mode=8∧0≤d.want∧d.want≤Dh d)):Cj (C9 ⟨d,o⟩ b).d=true:=by
 have hbt:=Gk h.lv
 have hwb:0≤Bp d∧Bp d≤8:=by
  have h1:=Dy d.wire
  have h2:=Dy (Bs d.field.kind)
  unfold Bp
  split
  ·omega
  ·split<;>omega
 have hro:Nj d=if d.mode=8 then d.want else Dh d:=rfl
 unfold C9
 simp only
 split
 ·rename_i hx
  have h1:d.scan.have_+1<Bp d:=by
   unfold Br at hx
   rw[if_pos ⟨by simp only[Am,Bool.and_eq_true,decide_eq_true_eq];omega,by simp only[Am,Bool.and_eq_true,decide_eq_true_eq];omega⟩] at hx
   exact hx
  have hfn:=Ag1 ⟨h0.1,h1⟩ hwb.2 hf hb
  have hcc:=h.scan (Br d.scan b)
  refine H9 hcc.lv (show 1≤d.mode∧d.mode≤9 by omega) hcc.at_ hcc.st hcc.ut hcc.wi hcc.fl ?_ ?_ ?_ hk ?_
  ·show (if d.mode=9 then _ else _)=true
   rw[if_neg (by omega)];exact decide_eq_true h.en
  ·show (if d.mode=1 then decide (d.stack=[]) else if d.mode=9 then true else decide (1≤Dh d))=true
   rw[if_neg (by omega),if_neg (by omega)]
   refine decide_eq_true ?_
   split at hro<;>omega
  ·show (if d.mode=6∨d.mode=7∨d.mode=8 then Am d.want 1 (Dh d) else decide (d.want=0))=true
   split
   ·rw[if_pos (by omega)] at hro
    simp only[Am,Bool.and_eq_true,decide_eq_true_eq];omega
   ·exact decide_eq_true (by omega)
  ·have hw:Bp (G6 d (Br d.scan b))=Bp d:=rfl
   have hrr:Nj (G6 d (Br d.scan b))=Nj d:=rfl
   have hss:(G6 d (Br d.scan b)).scan=Br d.scan b:=rfl
   unfold J1
   rw[hw,if_pos (by omega),hrr,hss,hfn.1]
   simp only[Am,Bool.and_eq_true,decide_eq_true_eq]
   exact⟨⟨⟨by omega,by omega⟩,hfn.2⟩,by omega⟩
 ·have hcc:=h.scan scn0
  have hcv:Com (Bn ⟨G6 d scn0,o⟩ (Br d.scan b).bits).d:=⟨B1 hcc.lv rfl rfl,hcc.at_,hcc.st,hcc.ut,hcc.wi,hcc.fl,hcc.en⟩
  split
  ·exact hcv.fail (by decide) h.at_.1
  ·rename_i hx
   refine Fj ⟨hcv,rfl,hn,?_⟩
   rcases hm with hm|hm
   ·exact .inl ⟨by show (if d.mode=8 then (8:Int) else 2)=2;rw[if_neg (by omega)],hm.2⟩
   ·have hw:Bp d=Ay (Bs d.field.kind):=by unfold Bp;rw[if_neg (by omega),if_pos hm.1]
    refine .inr (.inr (.inr ⟨by show (if d.mode=8 then (8:Int) else 2)=8;rw[if_pos hm.1],?_,hm.2.1,hm.2.2,?_⟩))
    ·unfold Hk at hk
     rw[if_neg (by omega),if_pos hm.1] at hk
     exact hk
    ·show d.want=0∨Ay (Bs d.field.kind)≤d.want
     omega
theorem Aiy {d:Dcd} {o:List Ev} {b:Int} (h:Com d) (h1:1≤d.at_) (hm:d.mode=6) (hk:Fq d.field.kind=true) (hw:0≤d.want∧d.want≤Dh d) (hn:0<d.stack.length) (hs:d.scan=scn0):Cj (Ef ⟨d,o⟩ b).d=true:=by
 unfold Ef
 simp only
 split
 ·split
  ·exact h.fail (by decide) (by omega)
  ·rename_i u hu
   exact Fj ⟨⟨B1 h.lv rfl rfl,h.at_,h.st,Abx hu,h.wi,h.fl,h.en⟩,hs,hn,.inr (.inl ⟨hm,hk,hw.1,hw.2⟩)⟩
 ·exact Fj ⟨h,hs,hn,.inr (.inl ⟨hm,hk,hw.1,hw.2⟩)⟩
theorem Ahx {u:Int} {k:Nat} (hk:k≤64) (h:Int.fdiv u (2 ^ k)=0):0≤u∧u≤18446744073709551615:=by
 have hp0:(0:Int)<2 ^ k:=Int.pow_pos (by decide)
 rw[Int.fdiv_eq_ediv_of_nonneg _ (Int.le_of_lt hp0)] at h
 have hd:=Int.mul_ediv_add_emod u (2 ^ k)
 rw[h,Int.mul_zero,Int.zero_add] at hd
 have hu0:=Int.emod_nonneg u (show (2:Int) ^ k≠0 by omega)
 have hu1:=Int.emod_lt_of_pos u hp0
 have hp:(2:Nat) ^ k≤2 ^ 64:=Nat.pow_le_pow_right (by decide) hk
 have hc:((2 ^ k:Nat):Int)=(2:Int) ^ k:=by simp
 have h64:(2:Nat) ^ 64=18446744073709551616:=rfl
 omega
theorem Sb {d:Dcd} (h:Cj d=true):0≤d.scan.bits∧d.scan.bits≤18446744073709551615:=by
 have hs:=(Rw h).2.2.2.2.2.2.2.2.2.2.2
 unfold J1 at hs
 split at hs
 ·simp only[Bool.and_eq_true,decide_eq_true_eq] at hs
  exact Ahx (Nat.min_le_right _ _) hs.1.2
 ·split at hs
  ·have e:d.scan=scn0:=of_decide_eq_true hs
   rw[e];decide
  ·simp only[C7,Bool.and_eq_true,decide_eq_true_eq] at hs
   exact Ahx (Nat.min_le_right _ _) hs.2
theorem Afd {d:Dcd} (h:d.stack.length≠0):Dh (Di d)=Dh d-1:=by
 show (List.getD (Di d).stack ((Di d).stack.length-1) Aku).left=_
 rw[Jr]
 unfold Di
 simp only
 rw[if_neg h,List.getD_eq_getElem?_getD,List.getElem?_set_self (by omega)]
 rfl
theorem Aiz {d:Dcd} {o:List Ev} {b:Int} (hok:Cj d=true) (h9:d.mode≠9) (hat:d.at_<1000000000) (hb:0≤b∧b≤255):Cj (D9 ⟨d,o⟩ b).d=true:=by
 obtain ⟨lv,hm,hat0,hst,hut,hwi,hfl,hen,hsk,hwd,hkd,hsc⟩:=Rw hok
 have hbits:=Sb hok
 have hs:=W4 hok h9
 have hms:=(W3 hok hbits).step hs.1 hs.2.1 hs.2.2.1
 have hw:=Zp hwd
 have hc:Com (Di d):=⟨hms.lv,(show 0≤d.at_+1∧d.at_+1≤1000000000 by omega),(show 0≤d.start∧d.start≤d.at_+1 by omega),hut,hwi,hfl,hs.2.2.2.2⟩
 have hk:Hk (Di d)=true:=hkd
 have htp:d.mode≠1→1≤Dh d:=fun h1=>by unfold J6 at hsk;rw[if_neg h1,if_neg h9] at hsk;exact of_decide_eq_true hsk
 have hn:d.mode≠1→0<d.stack.length:=fun h1=>by
  have:=htp h1
  by_cases h0:d.stack.length=0
  ·rw[W0 (List.eq_nil_of_length_eq_zero h0)] at this;omega
  ·omega
 have hns:d.mode≠1→0<(Di d).stack.length:=fun h1=>by rw[Jr];exact hn h1
 have ht:d.mode≠1→Dh (Di d)=Dh d-1:=fun h1=>Afd (by have:=hn h1;omega)
 have hwa:(Di d).want=if d.mode=6∨d.mode=7∨d.mode=8 then d.want-1 else d.want:=rfl
 have hwb:=Dy (Bs d.field.kind)
 unfold D9
 simp only
 split
 ·rename_i h6
  have hw1:=hw.1 (by omega)
  rw[if_pos (by omega)] at hwa
  have ht:=ht (by omega)
  refine Aiy hc (show 1≤d.at_+1 by omega) h6 ?_ Q2 (hns Q2) ?_
  ·unfold Hk at hkd;rw[if_pos h6] at hkd;exact hkd
  ·unfold J1 Bp at hsc
   rw[if_neg (show¬d.mode=5 by omega),if_neg (show¬d.mode=8 by omega),if_neg (by decide),if_pos (by omega)] at hsc
   exact of_decide_eq_true hsc
 ·split
  ·rename_i h6 h7
   have hw1:=hw.1 (by omega)
   rw[if_pos (by omega)] at hwa
   have ht:=ht (by omega)
   refine Fj ⟨hc,?_,hns Q2,.inr (.inr (.inl ⟨h7,by show 0≤(Di d).want;omega,by show (Di d).want≤Dh (Di d);omega⟩))⟩
   unfold J1 Bp at hsc
   rw[if_neg (show¬d.mode=5 by omega),if_neg (show¬d.mode=8 by omega),if_neg (by decide),if_pos (by omega)] at hsc
   exact of_decide_eq_true hsc
  ·rename_i h6 h7
   split
   ·rename_i h0
    unfold J1 at hsc
    rw[if_pos h0] at hsc
    simp only[Bool.and_eq_true,decide_eq_true_eq] at hsc
    have hh:=As hsc.1.1
    have hwe:Bp (Di d)=Bp d:=rfl
    have hmm:d.mode=5∨d.mode=8:=by unfold Bp at h0;split at h0<;>(try split at h0)<;>omega
    have ht:=ht (by omega)
    have hr1:Nj d=if d.mode=8 then d.want else Dh d:=rfl
    have hr2:Nj (Di d)=if d.mode=8 then (Di d).want else Dh (Di d):=rfl
    refine Akb hc (hns Q2) hk hb (by rw[hwe];exact hh) hsc.1.2 ?_ ?_
    ·rw[hwe]
     show Bp d-d.scan.have_-1≤Nj (Di d)
     rcases hmm with h5|h8
     ·rw[if_neg (by omega)] at hr1 hr2;omega
     ·rw[if_pos h8] at hr1 hr2;rw[if_pos (by omega)] at hwa;omega
    ·rcases hmm with h5|h8
     ·rw[if_neg (by omega)] at hwa
      exact .inl ⟨h5,by rw[hwa];exact hw.2 Q2⟩
     ·rw[if_pos (by omega)] at hwa
      have hw1:=hw.1 (by omega)
      exact .inr ⟨h8,by omega,by omega⟩
   ·rename_i h0
    have h5:d.mode≠5:=fun h5=>by
     unfold Hk at hkd
     rw[if_neg (by omega),if_neg (by omega),if_neg (by omega),if_neg (by omega),if_pos h5] at hkd
     simp only[Bool.and_eq_true,decide_eq_true_eq] at hkd
     unfold Bp at h0
     rw[if_pos h5] at h0
     omega
    refine Aka hc hbits (show 0≤d.at_∧d.at_≤d.at_+1 by omega) (fun h1=>?_) hns hk ?_
    ·unfold J6 at hsk
     rw[if_pos (show d.mode=1 from h1)] at hsk
     have e:d.stack=[]:=of_decide_eq_true hsk
     exact List.eq_nil_of_length_eq_zero (by rw[Jr,e];rfl)
    ·by_cases h8:d.mode=8
     ·rw[if_pos (by omega)] at hwa
      have hw1:=hw.1 (by omega)
      have ht:=ht (by omega)
      refine .inr ⟨h8,?_,by omega,by omega⟩
      unfold Bp at h0
      rw[if_neg (by omega),if_pos h8] at h0
      show Ay (Bs d.field.kind)=0
      omega
     ·rw[if_neg (by omega)] at hwa
      exact .inl ⟨(show d.mode=1∨d.mode=2∨d.mode=3∨d.mode=4 by omega),by rw[hwa];exact hw.2 Q2⟩
def Jy (o:List Ev) (m:Mac):Mac:=⟨m.d,o++m.out⟩
theorem E5 (o:List Ev) (m:Mac) (c a:Int):A0 (Jy o m) c a=Jy o (A0 m c a):=by simp[A0,Jy,List.append_assoc]
theorem Wf (o:List Ev) (m:Mac):A2 (Jy o m)=(A2 m).map (Jy o):=by
 have hd:(Jy o m).d=m.d:=rfl
 unfold A2
 rw[hd]
 split
 ·split<;>simp[A0,Jy,List.append_assoc]
 ·split
  ·simp[Jy]
  ·split
   ·split<;>simp[Jy,List.append_assoc]
   ·rfl
theorem Kq (o:List Ev): ∀(m:Mac),Ac (Jy o m)=Jy o (Ac m):=by
 suffices ∀(k:Nat) (m:Mac),wM m≤k→Ac (Jy o m)=Jy o (Ac m) from fun m=>this _ m (Nat.le_refl _)
 intro k
 induction k with
 |zero=>
  intro m hk
  have hp:=Wf o m
  cases h:A2 m with
  |none=>rw[B5 h];rw[h] at hp;exact B5 hp
  |some q=>have:=(Ca h).1;omega
 |succ k ih=>
  intro m hk
  have hp:=Wf o m
  cases h:A2 m with
  |none=>rw[B5 h];rw[h] at hp;exact B5 hp
  |some q=>
   rw[h] at hp
   rw[Cr h,Cr hp]
   exact ih q (by have:=(Ca h).1;omega)
theorem Ej {o:List Ev} {d:Dcd} {p r:List Ev} (h:r=o++p):Ac ⟨d,r⟩=Jy o (Ac ⟨d,p⟩):=by subst h;exact Kq o ⟨d,p⟩
theorem Acp (o:List Ev) (m:Mac) (u:Int):Cs (Jy o m) u=Jy o (Cs m u):=by
 have hd:(Jy o m).d=m.d:=rfl
 unfold Cs
 rw[hd]
 split
 ·exact E5 _ _ _ _
 ·exact Ej (List.append_assoc _ _ _)
theorem Ag2 (o:List Ev) (m:Mac) (u:Int):D6 (Jy o m) u=Jy o (D6 m u):=by
 have hd:(Jy o m).d=m.d:=rfl
 unfold D6
 rw[hd]
 split
 ·exact E5 _ _ _ _
 ·split
  ·exact E5 _ _ _ _
  ·split
   ·exact E5 _ _ _ _
   ·split
    ·simp[A0,Jy,List.append_assoc]
    ·rfl
theorem Afe (o:List Ev) (m:Mac) (u:Int):Cg (Jy o m) u=Jy o (Cg m u):=by
 have hd:(Jy o m).d=m.d:=rfl
 unfold Cg
 rw[hd]
 split
 ·exact E5 _ _ _ _
 ·split
  ·exact Ej rfl
  ·split
   ·split
    ·exact E5 _ _ _ _
    ·exact Ej (List.append_assoc _ _ _)
   ·split
    ·exact Ej (List.append_assoc _ _ _)
    ·split
     ·exact E5 _ _ _ _
     ·exact Ej rfl
theorem Sc (o:List Ev) (m:Mac) (u:Int):Bn (Jy o m) u=Jy o (Bn m u):=by
 unfold Bn Jy
 simp only
 by_cases h:m.d.field=fld0<;>simp[h,List.append_assoc]
theorem Ag3 (o:List Ev) (m:Mac) (b a:Int):Bo (Jy o m) b a=Jy o (Bo m b a):=by
 have hd:(Jy o m).d=m.d:=rfl
 have hq: ∀d:Dcd,(⟨d,(Jy o m).out⟩:Mac)=Jy o ⟨d,m.out⟩:=fun _=>rfl
 unfold Bo
 simp only[hd,hq]
 split
 ·exact E5 _ _ _ _
 ·split
  ·unfold W1
   rw[hd]
   split
   ·exact E5 _ _ _ _
   ·rfl
  ·split
   ·exact Acp _ _ _
   ·split
    ·exact Ag2 _ _ _
    ·split
     ·exact Afe _ _ _
     ·rw[Sc,Kq]
theorem Ag4 (o:List Ev) (m:Mac) (b:Int):C9 (Jy o m) b=Jy o (C9 m b):=by
 have hd:(Jy o m).d=m.d:=rfl
 have hq: ∀d:Dcd,(⟨d,(Jy o m).out⟩:Mac)=Jy o ⟨d,m.out⟩:=fun _=>rfl
 unfold C9
 simp only[hd,hq]
 split
 ·rfl
 ·split
  ·rw[Sc,E5]
  ·rw[Sc,Kq]
theorem Aff (o:List Ev) (m:Mac) (b:Int):Ef (Jy o m) b=Jy o (Ef m b):=by
 have hd:(Jy o m).d=m.d:=rfl
 unfold Ef
 rw[hd]
 split
 ·split
  ·exact E5 _ _ _ _
  ·exact Ej (List.append_assoc _ _ _)
 ·exact Ej (List.append_assoc _ _ _)
theorem Afg (o:List Ev) (m:Mac) (b:Int):D9 (Jy o m) b=Jy o (D9 m b):=by
 have hd:(Jy o m).d=m.d:=rfl
 have hq: ∀d:Dcd,(⟨d,(Jy o m).out⟩:Mac)=Jy o ⟨d,m.out⟩:=fun _=>rfl
 unfold D9
 simp only[hd,hq]
 split
 ·exact Aff _ _ _
 ·split
  ·exact Kq _ _
  ·split
   ·exact Ag4 _ _ _
   ·exact Ag3 _ _ _ _
def U5 (m:Mac) (b:Int):Mac:=⟨(B3 m.d b).d,m.out++(B3 m.d b).out⟩
def B8 (m:Mac) (s:List UInt8):Mac:=s.foldl (fun m b=>U5 m (b.toNat:Int)) m
theorem Ys (m:Mac):B8 m []=m:=rfl
theorem Ld (m:Mac) (b:UInt8) (r:List UInt8):B8 m (b::r)=B8 (U5 m (b.toNat:Int)) r:=List.foldl_cons ..
theorem Acq {d:Dcd} {b:Int} (hok:Cj d=true) (ht:Eb d=true) (hb:0≤b∧b≤255):B3 d b=D9 ⟨d,[]⟩ b:=by
 unfold B3
 rw[if_pos ⟨hok,ht,by simp only[Am,Bool.and_eq_true,decide_eq_true_eq];exact hb⟩]
theorem Acr {m:Mac} {b:Int} (hok:Cj m.d=true) (ht:Eb m.d=true) (hb:0≤b∧b≤255):U5 m b=D9 m b:=by
 have h:=Afg m.out ⟨m.d,[]⟩ b
 have e:Jy m.out ⟨m.d,[]⟩=m:=by cases m;simp[Jy]
 rw[e] at h
 unfold U5
 rw[Acq hok ht hb,h];rfl
theorem Abd {d:Dcd} {b:Int} (h:Cj d=false∨Eb d=false):B3 d b=⟨d,[]⟩:=by
 unfold B3
 rw[if_neg]
 rintro ⟨h1,h2,-⟩
 rcases h with h|h
 ·rw[h] at h1;cases h1
 ·rw[h] at h2;cases h2
theorem Abe {m:Mac} {b:Int} (h:Cj m.d=false∨Eb m.d=false):U5 m b=m:=by
 unfold U5
 rw[Abd h]
 cases m;simp
theorem Abf {d:Dcd} (h:Eb d=true):d.mode≠9∧d.at_<1000000000:=by
 simpa only[Eb,Bool.and_eq_true,Bool.not_eq_true',decide_eq_false_iff_not,decide_eq_true_eq] using h
theorem Abg {d:Dcd} {b:Int} (hok:Cj d=true):Cj (B3 d b).d=true:=by
 unfold B3
 split
 ·rename_i h
  have ht:=Abf h.2.1
  exact Aiz hok ht.1 ht.2 (As h.2.2)
 ·exact hok
theorem Yt {m:Mac} (h:Cj m.d=false): ∀s:List UInt8,B8 m s=m
 |[]=>rfl
 |b::r=>by rw[Ld,Abe (.inl h)];exact Yt h r
theorem Tp {m:Mac} (h:Eb m.d=false): ∀s:List UInt8,B8 m s=m
 |[]=>rfl
 |b::r=>by rw[Ld,Abe (.inr h)];exact Tp h r
theorem Acs {m:Mac} (h:Eb m.d=false) (s r:List UInt8):B8 m s=B8 m r:=by rw[Tp h,Tp h]
theorem N2 {d:Dcd} {b:Int} :(B3 d b).d.plan=d.plan∧((B3 d b).d.stack.length:Int)≤max (d.stack.length:Int) 8∧(B3 d b).out.length≤14∧((0≤d.scan.bits∧d.scan.bits≤18446744073709551615)→0≤(B3 d b).d.scan.bits∧(B3 d b).d.scan.bits≤18446744073709551615):=by
 cases hok:Cj d with
 |false=>rw[Abd (.inl hok)];exact⟨rfl,by simp only;omega,by simp,fun h=>h⟩
 |true=>
  have h1:=Abg (b:=b) hok
  have h2:=B0 (Rw hok).1
  have h3:=B0 (Rw h1).1
  exact⟨Aby.1,by omega,by have:=Ad9 (d:=d) (b:=b);omega,fun _=>Sb h1⟩
theorem Ak9 (b:UInt8):(0:Int)≤(b.toNat:Int)∧(b.toNat:Int)≤255:=by have:=b.toNat_lt;omega
theorem U6: ∀(s:List UInt8) (m:Mac),(B8 m s).d.plan=m.d.plan∧((B8 m s).d.stack.length:Int)≤max (m.d.stack.length:Int) 8∧(B8 m s).out.length≤m.out.length+14*s.length∧((0≤m.d.scan.bits∧m.d.scan.bits≤18446744073709551615)→0≤(B8 m s).d.scan.bits∧(B8 m s).d.scan.bits≤18446744073709551615)
 |[],m=>⟨rfl,by show (m.d.stack.length:Int)≤_;omega,Nat.le_refl _,fun h=>h⟩
 |b::r,m=>by
  have h1:=N2 (d:=m.d) (b:=(b.toNat:Int))
  have h2:=U6 r (U5 m (b.toNat:Int))
  rw[Ld]
  have e1:(U5 m (b.toNat:Int)).d=(B3 m.d (b.toNat:Int)).d:=rfl
  have e2:(U5 m (b.toNat:Int)).out.length=m.out.length+(B3 m.d (b.toNat:Int)).out.length:=by simp[U5]
  rw[e1,e2] at h2
  refine⟨h2.1.trans h1.1,by omega,by simp only[List.length_cons];omega,fun h=>h2.2.2.2 (h1.2.2.2 h)⟩
structure Bxi where
 v:List Int
theorem Xg {p:Pln} :(Fg p).plan.shapes.length≤6∧(∀e∈(Fg p).plan.shapes,e.fields.length≤1048576)∧(Fg p).stack.length≤8∧(0≤(Fg p).scan.bits∧(Fg p).scan.bits≤18446744073709551615):=by
 unfold Fg
 split
 ·rename_i h
  have ht:=B6 h
  exact⟨ht.1,D7 ht.2.1,by simp,by simp⟩
 ·exact⟨by simp,fun e he=>(by cases he),by simp,by simp⟩
structure Bxn where
 v:Int
structure DecB (d:Dcd):Prop where
 pln:d.plan.shapes=[]∨PlnG ⟨d.plan.shapes,d.plan.root,1,d.plan.most⟩
 deep:d.plan.deep≤4
 stack:d.stack.length≤300000
 bits:0≤d.scan.bits∧d.scan.bits≤18446744073709551615
theorem DecB.shs {d:Dcd} (h:DecB d):d.plan.shapes.length≤3:=by
 rcases h.pln with h|h
 ·rw[h];simp
 ·exact h.sch.1.2
theorem DecB.flds {d:Dcd} (h:DecB d): ∀e∈d.plan.shapes,e.fields.length≤5:=fun e he=>by
 rcases h.pln with h|h
 ·rw[h] at he;cases he
 ·exact(h.sch.2 e he).1
theorem DecB.good {d:Dcd} (h:DecB d) (hp:Es d.plan=true):PlnG d.plan:=by
 have ht:=B6 hp
 rcases h.pln with h2|h2
 ·rw[h2] at ht;simp at ht;omega
 ·exact⟨h2.sch,h2.root,by have:=h.deep;omega,h2.most⟩
theorem DecB.like {d x:Dcd} (h:DecB d) (h1:x.plan=d.plan) (h2:x.stack.length≤300000) (h3:0≤x.scan.bits∧x.scan.bits≤18446744073709551615):DecB x:=
 ⟨by rw[h1];exact h.pln,by rw[h1];exact h.deep,h2,h3⟩
theorem Xh {p:Pln} (h:PlnG p):DecB (Fg p):=by
 have hd:=h.deep
 unfold Fg;split
 ·exact⟨.inr ⟨h.sch,h.root,by show (1:Int)≤1∧(1:Int)≤4;decide,h.most⟩,hd.2,by simp,by show (0:Int)≤0∧(0:Int)≤18446744073709551615;decide⟩
 ·exact⟨.inl rfl,by show (0:Int)≤4;decide,by simp,by show (0:Int)≤0∧(0:Int)≤18446744073709551615;decide⟩
theorem Hn {d:Dcd} (h:DecB d) (s:List UInt8):DecB (B8 ⟨d,[]⟩ s).d:=by
 have hl:=U6 s ⟨d,[]⟩
 have hs:=h.stack
 exact h.like hl.1 (by have:=hl.2.1;dsimp only at this;omega) (hl.2.2.2 h.bits)
theorem Z5 {d:Dcd} {b:Int} (h:DecB d):DecB (B3 d b).d:=by
 have hl:=N2 (d:=d) (b:=b)
 have hs:=h.stack
 exact h.like hl.1 Q2 (hl.2.2.2 h.bits)
structure Hf where
 d:Dcd
 c1:Cur
def S4 (c:Cur) (o:Hf):Prop:=Fun Tryz.prog 112 [vP 0] [.cells (Ak c)] (.v (.agg (Ad 1 2 o.d))) [.cells (Ak o.c1),.tree o.d.plan.shapes,.lst .lev o.d.stack]
def N3 (c:Cur) (o:Hf):Prop:=((DecB o.d)∧(List.length (o.d).stack≤8)∧(Aw o.c1))∧S4 c o
structure Gi where
 c:Cur
 d:Dcd
 i:Nat
def Fc (o2:F0) (o3:Cp):Fam:=⟨Gi,fun q1=>[(0,.v (vP 0)),(2,.v (vP 1)),(4,.v (vP 2)),(6,.v (vT o2.t)),(7,.v (vI o3.x)),(8,.v (vI ((q1.i:Nat):Int)))],fun q1=>[.cells (Ak q1.c),.cells [.nil,.int .i64 0,.int .i64 0,.int .i64 0,.int .i64 0,.nil,.int .u64 0,.int .i64 0,.int .i64 0,.int .i64 0,.int .i64 0,.int .i64 0,.bool false,.bool false,.int .i64 0,.int .i64 0,.int .i64 0,.int .i64 0,.int .i64 0,.int .i64 0,.int .i64 0,.int .i64 0,.int .u64 0,.int .i64 0,.str [],.int .i64 0,.int .i64 0],.cells (Ad 3 4 q1.d),.tree q1.d.plan.shapes,.lst .lev q1.d.stack],fun q1=>Aw q1.c∧DecB q1.d∧q1.i≤List.length o2.t∧List.length (q1.d).stack≤8,fun q1=>List.length o2.t+1-q1.i⟩
theorem Acu (c:Cur) (hp1:Aw c): ∃o:Hf,N3 c o:=by
 have hN:Bg=274877906944:=rfl
 refine Bw Tryz.func112 Q4 Q4 (w:=let zi:Int→C:= .int .i64;let z12:List C:=[.nil,zi 0,zi 0,zi 0,zi 0,.nil,.int .u64 0,zi 0,zi 0,zi 0,zi 0,zi 0,.bool false,.bool false,zi 0,zi 0,zi 0,zi 0,zi 0,zi 0,zi 0,zi 0,.int .u64 0,zi 0,.str [],zi 0,zi 0];(.intro (Qe c) fun o1=> .seg [.call [0] (.v (.agg (M1 o1.p))) [.cells (Ak o1.c1)],.call [] (.tup [.agg (Ad 0 1 (Fg o1.p)),vB (Es o1.p)]) [.tree (Fg o1.p).plan.shapes,.lst .lev (Fg o1.p).stack]] (.intro (He o1.c1 o1.p) fun o2=>let z9:=((List.length o2.t:Nat):Int)+1;.seg [.call [0] (.v (vT o2.t)) [.cells (Ak o2.c1)],.as 24 (.v (vI z9))] (.intro (Aa o2.c1 z9) fun o3=> .seg [.call [0] (.v (vI o3.x)) [.cells (Ak o3.c1)],.at 0,.keep [0,2,4,6,7,8],.sel [0,1,5,3,4]] (.loop (Fc o2 o3) fun q1=> .br (.intro (fun (x1:UInt8)=>o2.t[q1.i]? =some x1) fun x1=>let z2:=B3 q1.d ((UInt8.toNat x1:Nat):Int);.seg [.tree (fr (.two 5 (fr (.one 9 (.one 10 (.first 11 (.done)))) 6 3) 9 (.one 5 (fr (.one 10 (.first 11 (.done))) 6 3))) 0 5) 12 [],.ch x1,.as 36 (.v (vI ((UInt8.toNat x1:Nat):Int))),.call [] (.tup [.agg (Ad 0 1 z2.d),vO 2]) [.tree z2.d.plan.shapes,.lst .lev z2.d.stack,.lst .ev z2.out],.at 0,.keep [0,2,4,6,7,8,9],.sel [0,1,2,3,4,8,5,6],.call [] (.tup [.agg (Ad 0 1 z2.d),vO 2]) [.tree z2.d.plan.shapes,.lst .lev z2.d.stack,.lst .ev z2.out],.at 0,.keep [0,2,4,6,7,8,9],.sel [0,1,2,3,4,5,6,7]] (.br (.intro (Aq q1.c 4) fun o4=> .seg [.call [0] (.v (vB o4.p)) [.cells (Ak o4.c1)]] (.br (.leaf (⟨q1.d,o4.c1⟩:Hf) [0,3,4]) (.seg [.as 30 (.v (vI (((q1.i:Nat):Int)+1))),.at 0,.keep [0,2,4,6,7,8],.sel [0,1,2,6,7]] (.next)))) (.seg [.as 30 (.v (vI (((q1.i:Nat):Int)+1))),.at 0,.keep [0,2,4,6,7,8],.sel [0,1,2,6,7]] (.next)))) (.leaf (⟨q1.d,q1.c⟩:Hf) [0,3,4])))),In (Qe c) fun o1=>(let z11:=Fg o1.p;(U0 c o1)∧(Fun Tryz.prog 35 [.agg (M1 o1.p)] [] (.tup [.agg (Ad 0 1 z11),vB (Es o1.p)]) [.tree z11.plan.shapes,.lst .lev z11.stack])∧In (He o1.c1 o1.p) fun o2=>(let z10:=((List.length o2.t:Nat):Int)+1;(N0 o1.c1 o1.p o2)∧((.v (vI (IntKind.i64.wrap z10)):S)= .v (vI z10))∧In (Aa o2.c1 z10) fun o3=>(let z8:=Fc o2 o3;(Ai o2.c1 z10 o3)∧z8.Has [(0,.v (vP 0)),(2,.v (vP 1)),(4,.v (vP 2)),(6,.v (vT o2.t)),(7,.v (vI o3.x)),(8,.v (vI 0))] [.cells (Ak o3.c1),.cells z12,.cells (Ad 3 4 z11),.tree z11.plan.shapes,.lst .lev z11.stack]∧∀q1,z8.inv q1→(let z5:=((q1.i:Nat):Int);let z6:List Blk:=[.cells (Ak q1.c),.tree q1.d.plan.shapes,.lst .lev q1.d.stack];let z7:=Ad 1 2 q1.d;((decide (z5<o3.x))=true→(∃(x1:UInt8),o2.t[q1.i]? =some x1)∧∀(x1:UInt8),(o2.t[q1.i]? =some x1)→(let z4:=((UInt8.toNat x1:Nat):Int);let z3:=B3 q1.d z4;(o2.t[q1.i]? =some x1)∧((0:Int)≤z5)∧(o2.t[q1.i]? =some x1)∧((0:Int)≤z5)∧((.v (vI (IntKind.i64.wrap (z4))):S)= .v (vI z4))∧((.v (vI (IntKind.i64.wrap (z4))):S)= .v (vI z4))∧(Fun Tryz.prog 18 [.agg (Bt q1.d),vI z4] [] (.tup [.agg (Ad 0 1 z3.d),vO 2]) [.tree z3.d.plan.shapes,.lst .lev z3.d.stack,.lst .ev z3.out])∧(Fun Tryz.prog 18 [.agg (Bt q1.d),vI z4] [] (.tup [.agg (Ad 0 1 z3.d),vO 2]) [.tree z3.d.plan.shapes,.lst .lev z3.d.stack,.lst .ev z3.out])∧(([.cells (Ak q1.c),.cells z12,.cells (Ad 3 4 q1.d),.tree q1.d.plan.shapes,.lst .lev q1.d.stack,.cells (Ad 6 7 z3.d),.tree z3.d.plan.shapes,.lst .lev z3.d.stack]:List Blk)=[.cells (Ak q1.c),.cells z12,.cells (Ad 3 4 q1.d),.tree q1.d.plan.shapes,.lst .lev q1.d.stack,.cells (Ad 6 7 z3.d),.tree z3.d.plan.shapes,.lst .lev z3.d.stack])∧(([(0,.v (vP 0)),(2,.v (vP 1)),(4,.v (vP 2)),(6,.v (vT o2.t)),(7,.v (vI o3.x)),(8,.v (vI z5)),(9,.v (vP 5))]:List (Nat×S))=[(0,.v (vP 0)),(2,.v (vP 1)),(4,.v (vP 2)),(6,.v (vT o2.t)),(7,.v (vI o3.x)),(8,.v (vI z5)),(9,.v (vP 5))])∧((decide (z3.d.mode=9))=true→In (Aq q1.c 4) fun o4=>(let z1:List Blk:=[.cells (Ak o4.c1),.tree q1.d.plan.shapes,.lst .lev q1.d.stack];(Bf q1.c 4 o4)∧((!o4.p)=true→((DecB q1.d)∧(List.length (q1.d).stack≤8)∧(Aw o4.c1))∧(.v (.agg z7):S)= .v (.agg z7)∧(z1:List Blk)=z1)∧((!o4.p)=false→((.v (vI (IntKind.i64.wrap (z5+1))):S)= .v (vI (z5+1)))∧z8.Nxt q1 [(0,.v (vP 0)),(2,.v (vP 1)),(4,.v (vP 2)),(6,.v (vT o2.t)),(7,.v (vI o3.x)),(8,.v (vI (z5+1)))] [.cells (Ak o4.c1),.cells z12,.cells (Ad 3 4 z3.d),.tree z3.d.plan.shapes,.lst .lev z3.d.stack])))∧((decide (z3.d.mode=9))=false→((.v (vI (IntKind.i64.wrap (z5+1))):S)= .v (vI (z5+1)))∧z8.Nxt q1 [(0,.v (vP 0)),(2,.v (vP 1)),(4,.v (vP 2)),(6,.v (vT o2.t)),(7,.v (vI o3.x)),(8,.v (vI (z5+1)))] [.cells (Ak q1.c),.cells z12,.cells (Ad 3 4 z3.d),.tree z3.d.plan.shapes,.lst .lev z3.d.stack])))∧((decide (z5<o3.x))=false→((DecB q1.d)∧(List.length (q1.d).stack≤8)∧(Aw q1.c))∧(.v (.agg z7):S)= .v (.agg z7)∧(z6:List Blk)=z6))))))) Q4 ?_
 refine⟨(Ae7 c Q0),fun o1 ho_o1=>?_⟩
 obtain ⟨⟨hp_o1_0,hp_o1_1⟩,hf_o1⟩:=ho_o1
 refine⟨hf_o1,(Agh o1.p (by have:=hp_o1_0.sch.1;omega)),(Wd o1.c1 o1.p Q0 Q2),fun o2 ho_o2=>?_⟩
 obtain ⟨⟨hp_o2_0,hp_o2_1⟩,hf_o2⟩:=ho_o2
 refine⟨hf_o2,(Ae Q2 Q2),(An o2.c1 (((List.length o2.t:Nat):Int)+1) Q0),fun o3 ho_o3=>?_⟩
 obtain ⟨⟨hp_o3_0,hp_o3_1,hp_o3_2,hp_o3_3⟩,hf_o3⟩:=ho_o3
 refine⟨hf_o3,Bk (j:=(⟨o3.c1,(Fg o1.p),0⟩:Gi)) Q10 rfl (by dsimp only[Fc];exact⟨by assumption,Xh Q76,by omega,Xg.2.2.1⟩),fun (q1:Gi) hq_q1=>?_⟩
 have hi_q1:Aw q1.c∧DecB q1.d∧q1.i≤List.length o2.t∧List.length (q1.d).stack≤8:=hq_q1
 obtain ⟨v1,v2,v3,v4⟩:=hi_q1
 refine dsp (fun h1 p1=>?_) fun h1 p1=>?_
 refine⟨(Bm (l:=o2.t) (i:=q1.i) Q2),fun x1 hx1=>?_⟩
 have hb_x1:=UInt8.toNat_lt x1
 refine⟨hx1,Q2,hx1,Q2,(Ae Q2 Q2),(Ae Q2 Q2),(Xb q1.d _ (by have:=v2.shs;omega) (fun e he=>by have:=v2.flds e he;omega) (by have:=v2.stack;omega) (v2.bits)),(Xb q1.d _ (by have:=v2.shs;omega) (fun e he=>by have:=v2.flds e he;omega) (by have:=v2.stack;omega) (v2.bits)),rfl,rfl,dsp (fun h2 p2=>?_) fun h2 p2=>?_⟩
 refine⟨(Bx q1.c 4 Q0),fun o4 ho_o4=>?_⟩
 obtain ⟨hp_o4,hf_o4⟩:=ho_o4
 refine⟨hf_o4,fun h3=>have q3:=Ap h3;?_,fun h3=>have q3:=Ao h3;?_⟩
 exact⟨⟨(by first|assumption|exact Xh Q76|exact Z5 Q76),(by first|exact v4|exact Xg.2.2.1|omega),Q0⟩,rfl,rfl⟩
 exact⟨(Ae Q2 Q2),Bd (j:=(⟨o4.c1,(B3 q1.d ((UInt8.toNat x1:Nat):Int)).d,q1.i+1⟩:Gi)) Q10 rfl Q66 (by dsimp only[Fc];omega)⟩
 exact⟨(Ae Q2 Q2),Bd (j:=(⟨q1.c,(B3 q1.d ((UInt8.toNat x1:Nat):Int)).d,q1.i+1⟩:Gi)) Q10 rfl Q66 (by dsimp only[Fc];omega)⟩
 exact⟨⟨(by first|assumption|exact Xh Q76|exact Z5 Q76),(by first|exact v4|exact Xg.2.2.1|omega),Q0⟩,rfl,rfl⟩
structure Cq where
 d:Dcd
 c1:Cur
def U7 (c:Cur) (o:Cq):Prop:=Fun Tryz.prog 52 [vP 0] [.cells (Ak c)] (.v (.agg (Ad 1 2 o.d))) [.cells (Ak o.c1),.tree o.d.plan.shapes,.lst .lev o.d.stack]
def Qj (c:Cur) (o:Cq):Prop:=((DecB o.d)∧(Aw o.c1))∧U7 c o
theorem Afh (c:Cur) (hp1:Aw c): ∃o:Cq,Qj c o:=by
 have hN:Bg=274877906944:=rfl
 refine Bw Tryz.func52 Q4 Q4 (w:=let zi:Int→C:= .int .i64;(.intro (N3 c) fun o1=> .seg [.call [0] (.v (.agg (Ad 1 2 o1.d))) [.cells (Ak o1.c1),.tree o1.d.plan.shapes,.lst .lev o1.d.stack]] (.intro (Aa o1.c1 22) fun o2=> .seg [.call [0] (.v (vI o2.x)) [.cells (Ak o2.c1)]] (.br (.intro (Aa o2.c1 12) fun o3=> .seg [.call [0] (.v (vI o3.x)) [.cells (Ak o3.c1)],.as 12 (.v (vI (o3.x-1)))] (.leaf (⟨(⟨o1.d.plan,o3.x-1,o1.d.stack,o1.d.scan,o1.d.start,o1.d.at_,o1.d.field,o1.d.wire,o1.d.want,o1.d.utf,o1.d.end_⟩:Dcd),o3.c1⟩:Cq) [0,2,3])) (.br (.seg [.ty .int,.pubS 17] (.intro (Bb o2.c1 [0,1,5,2000,(-1)]) fun o3=> .seg [.call [0] (.v (vI o3.x)) [.cells (Ak o3.c1)]] (.leaf (⟨(⟨o1.d.plan,o1.d.mode,o1.d.stack,o1.d.scan,o1.d.start,o1.d.at_,o1.d.field,o1.d.wire,o3.x,o1.d.utf,o1.d.end_⟩:Dcd),o3.c1⟩:Cq) [0,2,3]))) (.br (.intro (Aa o2.c1 4) fun o3=> .intro (Gd o3.c1 [0,1,7,2000,2001,(-1)]) fun o4=>let z3:List Blk:=[.cells (Ak o4.c1),.lst .int [0,1,7,2000,2001,(-1)]];.seg [.tree (fr (.first 5 (.two 3 (.first 4 (.one 6 (.one 7 (.first 8 (.one 9 (.one 10 (.first 11 (.one 12 (.done))))))))) 6 (.one 3 (.first 4 (.one 7 (.first 8 (.one 9 (.one 10 (.first 11 (.one 12 (.done))))))))))) 0 3) 12 [0,3],.call [0] (.v (vI o3.x)) [.cells (Ak o3.c1)],.as 26 (.v (vI (o3.x-1))),.ty .int,.call [0,5] (.v (vI o4.x)) z3,.ty .lev,.ty .lev,.at 0,.keep [2,3],.sel [0,1,4,2,7],.ty .int,.call [0] (.v (vI o3.x)) [.cells (Ak o3.c1)],.as 26 (.v (vI (o3.x-1))),.call [0,5] (.v (vI o4.x)) z3,.ty .lev,.ty .lev,.at 0,.keep [2,3],.sel [0,1,4,2,7]] (.leaf (⟨(⟨o1.d.plan,o1.d.mode,o1.d.stack++[(⟨o3.x-1,o4.x⟩:Lev)],o1.d.scan,o1.d.start,o1.d.at_,o1.d.field,o1.d.wire,o1.d.want,o1.d.utf,o1.d.end_⟩:Dcd),o4.c1⟩:Cq) [0,3,4])) (.br (.intro (Sa o2.c1) fun o3=> .seg [.call [0] (.v (.agg (J0 o3.s))) [.cells (Ak o3.c1)]] (.leaf (⟨(⟨o1.d.plan,o1.d.mode,o1.d.stack,o3.s,o1.d.start,o1.d.at_,o1.d.field,o1.d.wire,o1.d.want,o1.d.utf,o1.d.end_⟩:Dcd),o3.c1⟩:Cq) [0,2,3])) (.br (.intro (Aa o2.c1 9) fun o3=> .seg [.call [0] (.v (vI o3.x)) [.cells (Ak o3.c1)],.as 43 (.v (vI (o3.x-1)))] (.leaf (⟨(⟨o1.d.plan,o1.d.mode,o1.d.stack,o1.d.scan,o1.d.start,o1.d.at_,o1.d.field,o3.x-1,o1.d.want,o1.d.utf,o1.d.end_⟩:Dcd),o3.c1⟩:Cq) [0,2,3])) (.br (.intro (Aa o2.c1 5) fun o3=> .seg [.call [0] (.v (vI o3.x)) [.cells (Ak o3.c1)],.as 49 (.v (vI (1+o3.x)))] (.intro (Aa o3.c1 8) fun o4=> .seg [.call [0] (.v (vI o4.x)) [.cells (Ak o4.c1)],.as 52 (.v (vI (1+o4.x)))] (.leaf (⟨(⟨o1.d.plan,o1.d.mode,o1.d.stack,o1.d.scan,o1.d.start,o1.d.at_,(⟨1+o3.x,1+o4.x,false,false,(-1)⟩:Fld),o1.d.wire,o1.d.want,o1.d.utf,o1.d.end_⟩:Dcd),o4.c1⟩:Cq) [0,2,3]))) (.br (.intro (Qi o2.c1) fun o3=> .seg [.call [0] (.v (.agg (Hg o3.u))) [.cells (Ak o3.c1)]] (.leaf (⟨(⟨o1.d.plan,o1.d.mode,o1.d.stack,o1.d.scan,o1.d.start,o1.d.at_,o1.d.field,o1.d.wire,o1.d.want,o3.u,o1.d.end_⟩:Dcd),o3.c1⟩:Cq) [0,2,3])) (.br (.intro (Qh o2.c1) fun o3=> .seg [.call [0] (.v (.agg (cEv o3.e))) [.cells (Ak o3.c1)]] (.leaf (⟨(⟨o1.d.plan,o1.d.mode,o1.d.stack,o1.d.scan,o1.d.start,o1.d.at_,o1.d.field,o1.d.wire,o1.d.want,o1.d.utf,o3.e⟩:Dcd),o3.c1⟩:Cq) [0,2,3])) (.br (.seg [.ty .int,.pubS 68] (.intro (Bb o2.c1 [0,1000000000,1000000001,(-1),9223372036854775807]) fun o3=> .seg [.call [0] (.v (vI o3.x)) [.cells (Ak o3.c1)]] (.leaf (⟨(⟨o1.d.plan,o1.d.mode,o1.d.stack,o1.d.scan,o1.d.start,o3.x,o1.d.field,o1.d.wire,o1.d.want,o1.d.utf,o1.d.end_⟩:Dcd),o3.c1⟩:Cq) [0,2,3]))) (.br (.seg [.ty .int,.pubS 79] (.intro (Bb o2.c1 [0,o1.d.at_,IntKind.i64.wrap (o1.d.at_+1),(-1)]) fun o3=> .seg [.call [0] (.v (vI o3.x)) [.cells (Ak o3.c1)]] (.leaf (⟨(⟨o1.d.plan,o1.d.mode,o1.d.stack,o1.d.scan,o3.x,o1.d.at_,o1.d.field,o1.d.wire,o1.d.want,o1.d.utf,o1.d.end_⟩:Dcd),o3.c1⟩:Cq) [0,2,3]))) (.br (.intro (Aa o2.c1 4) fun o3=> .seg [.call [0] (.v (vI o3.x)) [.cells (Ak o3.c1)]] (.leaf (⟨(⟨(⟨o1.d.plan.shapes,o1.d.plan.root,o3.x,o1.d.plan.most⟩:Pln),o1.d.mode,o1.d.stack,o1.d.scan,o1.d.start,o1.d.at_,o1.d.field,o1.d.wire,o1.d.want,o1.d.utf,o1.d.end_⟩:Dcd),o3.c1⟩:Cq) [0,2,3])) (.leaf (⟨o1.d,o2.c1⟩:Cq) [0,2,3]))))))))))))),In (N3 c) fun o1=>(let z18:=Ad 1 2 o1.d;(S4 c o1)∧In (Aa o1.c1 22) fun o2=>(let z17:List Blk:=[.cells (Ak o2.c1),.tree o1.d.plan.shapes,.lst .lev o1.d.stack];(Ai o1.c1 22 o2)∧((decide (o2.x=0))=true→In (Aa o2.c1 12) fun o3=>(let z1:List Blk:=[.cells (Ak o3.c1),.tree o1.d.plan.shapes,.lst .lev o1.d.stack];(Ai o2.c1 12 o3)∧((.v (vI (IntKind.i64.wrap (o3.x-1))):S)= .v (vI (o3.x-1)))∧((DecB (⟨o1.d.plan,o3.x-1,o1.d.stack,o1.d.scan,o1.d.start,o1.d.at_,o1.d.field,o1.d.wire,o1.d.want,o1.d.utf,o1.d.end_⟩:Dcd))∧(Aw o3.c1))∧(.v (.agg [.own 1,zi o1.d.plan.root,zi o1.d.plan.deep,zi o1.d.plan.most,zi (o3.x-1),.own 2,.int .u64 o1.d.scan.bits,zi o1.d.scan.have_,zi o1.d.start,zi o1.d.at_,zi o1.d.field.number,zi o1.d.field.kind,.bool o1.d.field.rep,.bool o1.d.field.packed,zi o1.d.field.msg,zi o1.d.wire,zi o1.d.want,zi o1.d.utf.want,zi o1.d.utf.low,zi o1.d.utf.high,zi o1.d.end_.kind,zi o1.d.end_.field,.int .u64 o1.d.end_.bits,zi o1.d.end_.len,.str o1.d.end_.text,zi o1.d.end_.code,zi o1.d.end_.at_]):S)= .v (.agg [.own 1,zi o1.d.plan.root,zi o1.d.plan.deep,zi o1.d.plan.most,zi (o3.x-1),.own 2,.int .u64 o1.d.scan.bits,zi o1.d.scan.have_,zi o1.d.start,zi o1.d.at_,zi o1.d.field.number,zi o1.d.field.kind,.bool o1.d.field.rep,.bool o1.d.field.packed,zi o1.d.field.msg,zi o1.d.wire,zi o1.d.want,zi o1.d.utf.want,zi o1.d.utf.low,zi o1.d.utf.high,zi o1.d.end_.kind,zi o1.d.end_.field,.int .u64 o1.d.end_.bits,zi o1.d.end_.len,.str o1.d.end_.text,zi o1.d.end_.code,zi o1.d.end_.at_])∧(z1:List Blk)=z1))∧((decide (o2.x=0))=false→((decide (o2.x=1))=true→In (Bb o2.c1 [0,1,5,2000,(-1)]) fun o3=>(let z2:List Blk:=[.cells (Ak o3.c1),.tree o1.d.plan.shapes,.lst .lev o1.d.stack];(B9 o2.c1 [0,1,5,2000,(-1)] o3)∧((DecB (⟨o1.d.plan,o1.d.mode,o1.d.stack,o1.d.scan,o1.d.start,o1.d.at_,o1.d.field,o1.d.wire,o3.x,o1.d.utf,o1.d.end_⟩:Dcd))∧(Aw o3.c1))∧(.v (.agg [.own 1,zi o1.d.plan.root,zi o1.d.plan.deep,zi o1.d.plan.most,zi o1.d.mode,.own 2,.int .u64 o1.d.scan.bits,zi o1.d.scan.have_,zi o1.d.start,zi o1.d.at_,zi o1.d.field.number,zi o1.d.field.kind,.bool o1.d.field.rep,.bool o1.d.field.packed,zi o1.d.field.msg,zi o1.d.wire,zi o3.x,zi o1.d.utf.want,zi o1.d.utf.low,zi o1.d.utf.high,zi o1.d.end_.kind,zi o1.d.end_.field,.int .u64 o1.d.end_.bits,zi o1.d.end_.len,.str o1.d.end_.text,zi o1.d.end_.code,zi o1.d.end_.at_]):S)= .v (.agg [.own 1,zi o1.d.plan.root,zi o1.d.plan.deep,zi o1.d.plan.most,zi o1.d.mode,.own 2,.int .u64 o1.d.scan.bits,zi o1.d.scan.have_,zi o1.d.start,zi o1.d.at_,zi o1.d.field.number,zi o1.d.field.kind,.bool o1.d.field.rep,.bool o1.d.field.packed,zi o1.d.field.msg,zi o1.d.wire,zi o3.x,zi o1.d.utf.want,zi o1.d.utf.low,zi o1.d.utf.high,zi o1.d.end_.kind,zi o1.d.end_.field,.int .u64 o1.d.end_.bits,zi o1.d.end_.len,.str o1.d.end_.text,zi o1.d.end_.code,zi o1.d.end_.at_])∧(z2:List Blk)=z2))∧((decide (o2.x=1))=false→((decide (o2.x=2))=true→In (Aa o2.c1 4) fun o3=>(let z8:=(.v (vI (IntKind.i64.wrap (o3.x-1))):S)= .v (vI (o3.x-1));In (Gd o3.c1 [0,1,7,2000,2001,(-1)]) fun o4=>(let z5:=(⟨o3.x-1,o4.x⟩:Lev);let z4:List Blk:=[.cells (Ak o4.c1),.cells [.nil,zi 0,zi 0,zi 0,zi 0,.nil,.int .u64 0,zi 0,zi 0,zi 0,zi 0,zi 0,.bool false,.bool false,zi 0,zi 0,zi 0,zi 0,zi 0,zi 0,zi 0,zi 0,.int .u64 0,zi 0,.str [],zi 0,zi 0],.cells (Ad 3 4 o1.d),.tree o1.d.plan.shapes,.lst .lev (o1.d.stack++[z5])];let z6:List Blk:=[.cells (Ak o4.c1),.tree o1.d.plan.shapes,.lst .lev (o1.d.stack++[z5])];let z7:=Mi o3.c1 [0,1,7,2000,2001,(-1)] o4;(Ai o2.c1 4 o3)∧z8∧z7∧(List.length o1.d.stack+List.length [z5]≤Bg)∧(Ai o2.c1 4 o3)∧z8∧z7∧(List.length o1.d.stack+List.length [z5]≤Bg)∧((z4:List Blk)=z4)∧(([(2,.v (vP 1)),(3,.v (vP 2))]:List (Nat×S))=[(2,.v (vP 1)),(3,.v (vP 2))])∧((DecB (⟨o1.d.plan,o1.d.mode,o1.d.stack++[z5],o1.d.scan,o1.d.start,o1.d.at_,o1.d.field,o1.d.wire,o1.d.want,o1.d.utf,o1.d.end_⟩:Dcd))∧(Aw o4.c1))∧(.v (.agg z18):S)= .v (.agg z18)∧(z6:List Blk)=z6)))∧((decide (o2.x=2))=false→((decide (o2.x=3))=true→In (Sa o2.c1) fun o3=>(let z9:List Blk:=[.cells (Ak o3.c1),.tree o1.d.plan.shapes,.lst .lev o1.d.stack];(We o2.c1 o3)∧((DecB (⟨o1.d.plan,o1.d.mode,o1.d.stack,o3.s,o1.d.start,o1.d.at_,o1.d.field,o1.d.wire,o1.d.want,o1.d.utf,o1.d.end_⟩:Dcd))∧(Aw o3.c1))∧(.v (.agg [.own 1,zi o1.d.plan.root,zi o1.d.plan.deep,zi o1.d.plan.most,zi o1.d.mode,.own 2,.int .u64 o3.s.bits,zi o3.s.have_,zi o1.d.start,zi o1.d.at_,zi o1.d.field.number,zi o1.d.field.kind,.bool o1.d.field.rep,.bool o1.d.field.packed,zi o1.d.field.msg,zi o1.d.wire,zi o1.d.want,zi o1.d.utf.want,zi o1.d.utf.low,zi o1.d.utf.high,zi o1.d.end_.kind,zi o1.d.end_.field,.int .u64 o1.d.end_.bits,zi o1.d.end_.len,.str o1.d.end_.text,zi o1.d.end_.code,zi o1.d.end_.at_]):S)= .v (.agg [.own 1,zi o1.d.plan.root,zi o1.d.plan.deep,zi o1.d.plan.most,zi o1.d.mode,.own 2,.int .u64 o3.s.bits,zi o3.s.have_,zi o1.d.start,zi o1.d.at_,zi o1.d.field.number,zi o1.d.field.kind,.bool o1.d.field.rep,.bool o1.d.field.packed,zi o1.d.field.msg,zi o1.d.wire,zi o1.d.want,zi o1.d.utf.want,zi o1.d.utf.low,zi o1.d.utf.high,zi o1.d.end_.kind,zi o1.d.end_.field,.int .u64 o1.d.end_.bits,zi o1.d.end_.len,.str o1.d.end_.text,zi o1.d.end_.code,zi o1.d.end_.at_])∧(z9:List Blk)=z9))∧((decide (o2.x=3))=false→((decide (o2.x=4))=true→In (Aa o2.c1 9) fun o3=>(let z10:List Blk:=[.cells (Ak o3.c1),.tree o1.d.plan.shapes,.lst .lev o1.d.stack];(Ai o2.c1 9 o3)∧((.v (vI (IntKind.i64.wrap (o3.x-1))):S)= .v (vI (o3.x-1)))∧((DecB (⟨o1.d.plan,o1.d.mode,o1.d.stack,o1.d.scan,o1.d.start,o1.d.at_,o1.d.field,o3.x-1,o1.d.want,o1.d.utf,o1.d.end_⟩:Dcd))∧(Aw o3.c1))∧(.v (.agg [.own 1,zi o1.d.plan.root,zi o1.d.plan.deep,zi o1.d.plan.most,zi o1.d.mode,.own 2,.int .u64 o1.d.scan.bits,zi o1.d.scan.have_,zi o1.d.start,zi o1.d.at_,zi o1.d.field.number,zi o1.d.field.kind,.bool o1.d.field.rep,.bool o1.d.field.packed,zi o1.d.field.msg,zi (o3.x-1),zi o1.d.want,zi o1.d.utf.want,zi o1.d.utf.low,zi o1.d.utf.high,zi o1.d.end_.kind,zi o1.d.end_.field,.int .u64 o1.d.end_.bits,zi o1.d.end_.len,.str o1.d.end_.text,zi o1.d.end_.code,zi o1.d.end_.at_]):S)= .v (.agg [.own 1,zi o1.d.plan.root,zi o1.d.plan.deep,zi o1.d.plan.most,zi o1.d.mode,.own 2,.int .u64 o1.d.scan.bits,zi o1.d.scan.have_,zi o1.d.start,zi o1.d.at_,zi o1.d.field.number,zi o1.d.field.kind,.bool o1.d.field.rep,.bool o1.d.field.packed,zi o1.d.field.msg,zi (o3.x-1),zi o1.d.want,zi o1.d.utf.want,zi o1.d.utf.low,zi o1.d.utf.high,zi o1.d.end_.kind,zi o1.d.end_.field,.int .u64 o1.d.end_.bits,zi o1.d.end_.len,.str o1.d.end_.text,zi o1.d.end_.code,zi o1.d.end_.at_])∧(z10:List Blk)=z10))∧((decide (o2.x=4))=false→((decide (o2.x=5))=true→In (Aa o2.c1 5) fun o3=>((Ai o2.c1 5 o3)∧((.v (vI (IntKind.i64.wrap (1+o3.x))):S)= .v (vI (1+o3.x)))∧In (Aa o3.c1 8) fun o4=>(let z11:List Blk:=[.cells (Ak o4.c1),.tree o1.d.plan.shapes,.lst .lev o1.d.stack];(Ai o3.c1 8 o4)∧((.v (vI (IntKind.i64.wrap (1+o4.x))):S)= .v (vI (1+o4.x)))∧((DecB (⟨o1.d.plan,o1.d.mode,o1.d.stack,o1.d.scan,o1.d.start,o1.d.at_,(⟨1+o3.x,1+o4.x,false,false,(-1)⟩:Fld),o1.d.wire,o1.d.want,o1.d.utf,o1.d.end_⟩:Dcd))∧(Aw o4.c1))∧(.v (.agg [.own 1,zi o1.d.plan.root,zi o1.d.plan.deep,zi o1.d.plan.most,zi o1.d.mode,.own 2,.int .u64 o1.d.scan.bits,zi o1.d.scan.have_,zi o1.d.start,zi o1.d.at_,zi (1+o3.x),zi (1+o4.x),.bool false,.bool false,zi (-1),zi o1.d.wire,zi o1.d.want,zi o1.d.utf.want,zi o1.d.utf.low,zi o1.d.utf.high,zi o1.d.end_.kind,zi o1.d.end_.field,.int .u64 o1.d.end_.bits,zi o1.d.end_.len,.str o1.d.end_.text,zi o1.d.end_.code,zi o1.d.end_.at_]):S)= .v (.agg [.own 1,zi o1.d.plan.root,zi o1.d.plan.deep,zi o1.d.plan.most,zi o1.d.mode,.own 2,.int .u64 o1.d.scan.bits,zi o1.d.scan.have_,zi o1.d.start,zi o1.d.at_,zi (1+o3.x),zi (1+o4.x),.bool false,.bool false,zi (-1),zi o1.d.wire,zi o1.d.want,zi o1.d.utf.want,zi o1.d.utf.low,zi o1.d.utf.high,zi o1.d.end_.kind,zi o1.d.end_.field,.int .u64 o1.d.end_.bits,zi o1.d.end_.len,.str o1.d.end_.text,zi o1.d.end_.code,zi o1.d.end_.at_])∧(z11:List Blk)=z11)))∧((decide (o2.x=5))=false→((decide (o2.x=6))=true→In (Qi o2.c1) fun o3=>(let z12:List Blk:=[.cells (Ak o3.c1),.tree o1.d.plan.shapes,.lst .lev o1.d.stack];(U4 o2.c1 o3)∧((DecB (⟨o1.d.plan,o1.d.mode,o1.d.stack,o1.d.scan,o1.d.start,o1.d.at_,o1.d.field,o1.d.wire,o1.d.want,o3.u,o1.d.end_⟩:Dcd))∧(Aw o3.c1))∧(.v (.agg [.own 1,zi o1.d.plan.root,zi o1.d.plan.deep,zi o1.d.plan.most,zi o1.d.mode,.own 2,.int .u64 o1.d.scan.bits,zi o1.d.scan.have_,zi o1.d.start,zi o1.d.at_,zi o1.d.field.number,zi o1.d.field.kind,.bool o1.d.field.rep,.bool o1.d.field.packed,zi o1.d.field.msg,zi o1.d.wire,zi o1.d.want,zi o3.u.want,zi o3.u.low,zi o3.u.high,zi o1.d.end_.kind,zi o1.d.end_.field,.int .u64 o1.d.end_.bits,zi o1.d.end_.len,.str o1.d.end_.text,zi o1.d.end_.code,zi o1.d.end_.at_]):S)= .v (.agg [.own 1,zi o1.d.plan.root,zi o1.d.plan.deep,zi o1.d.plan.most,zi o1.d.mode,.own 2,.int .u64 o1.d.scan.bits,zi o1.d.scan.have_,zi o1.d.start,zi o1.d.at_,zi o1.d.field.number,zi o1.d.field.kind,.bool o1.d.field.rep,.bool o1.d.field.packed,zi o1.d.field.msg,zi o1.d.wire,zi o1.d.want,zi o3.u.want,zi o3.u.low,zi o3.u.high,zi o1.d.end_.kind,zi o1.d.end_.field,.int .u64 o1.d.end_.bits,zi o1.d.end_.len,.str o1.d.end_.text,zi o1.d.end_.code,zi o1.d.end_.at_])∧(z12:List Blk)=z12))∧((decide (o2.x=6))=false→((decide (o2.x=7))=true→In (Qh o2.c1) fun o3=>(let z13:List Blk:=[.cells (Ak o3.c1),.tree o1.d.plan.shapes,.lst .lev o1.d.stack];(U3 o2.c1 o3)∧((DecB (⟨o1.d.plan,o1.d.mode,o1.d.stack,o1.d.scan,o1.d.start,o1.d.at_,o1.d.field,o1.d.wire,o1.d.want,o1.d.utf,o3.e⟩:Dcd))∧(Aw o3.c1))∧(.v (.agg [.own 1,zi o1.d.plan.root,zi o1.d.plan.deep,zi o1.d.plan.most,zi o1.d.mode,.own 2,.int .u64 o1.d.scan.bits,zi o1.d.scan.have_,zi o1.d.start,zi o1.d.at_,zi o1.d.field.number,zi o1.d.field.kind,.bool o1.d.field.rep,.bool o1.d.field.packed,zi o1.d.field.msg,zi o1.d.wire,zi o1.d.want,zi o1.d.utf.want,zi o1.d.utf.low,zi o1.d.utf.high,zi o3.e.kind,zi o3.e.field,.int .u64 o3.e.bits,zi o3.e.len,.str o3.e.text,zi o3.e.code,zi o3.e.at_]):S)= .v (.agg [.own 1,zi o1.d.plan.root,zi o1.d.plan.deep,zi o1.d.plan.most,zi o1.d.mode,.own 2,.int .u64 o1.d.scan.bits,zi o1.d.scan.have_,zi o1.d.start,zi o1.d.at_,zi o1.d.field.number,zi o1.d.field.kind,.bool o1.d.field.rep,.bool o1.d.field.packed,zi o1.d.field.msg,zi o1.d.wire,zi o1.d.want,zi o1.d.utf.want,zi o1.d.utf.low,zi o1.d.utf.high,zi o3.e.kind,zi o3.e.field,.int .u64 o3.e.bits,zi o3.e.len,.str o3.e.text,zi o3.e.code,zi o3.e.at_])∧(z13:List Blk)=z13))∧((decide (o2.x=7))=false→((decide (o2.x=8))=true→In (Bb o2.c1 [0,1000000000,1000000001,(-1),9223372036854775807]) fun o3=>(let z14:List Blk:=[.cells (Ak o3.c1),.tree o1.d.plan.shapes,.lst .lev o1.d.stack];(B9 o2.c1 [0,1000000000,1000000001,(-1),9223372036854775807] o3)∧((DecB (⟨o1.d.plan,o1.d.mode,o1.d.stack,o1.d.scan,o1.d.start,o3.x,o1.d.field,o1.d.wire,o1.d.want,o1.d.utf,o1.d.end_⟩:Dcd))∧(Aw o3.c1))∧(.v (.agg [.own 1,zi o1.d.plan.root,zi o1.d.plan.deep,zi o1.d.plan.most,zi o1.d.mode,.own 2,.int .u64 o1.d.scan.bits,zi o1.d.scan.have_,zi o1.d.start,zi o3.x,zi o1.d.field.number,zi o1.d.field.kind,.bool o1.d.field.rep,.bool o1.d.field.packed,zi o1.d.field.msg,zi o1.d.wire,zi o1.d.want,zi o1.d.utf.want,zi o1.d.utf.low,zi o1.d.utf.high,zi o1.d.end_.kind,zi o1.d.end_.field,.int .u64 o1.d.end_.bits,zi o1.d.end_.len,.str o1.d.end_.text,zi o1.d.end_.code,zi o1.d.end_.at_]):S)= .v (.agg [.own 1,zi o1.d.plan.root,zi o1.d.plan.deep,zi o1.d.plan.most,zi o1.d.mode,.own 2,.int .u64 o1.d.scan.bits,zi o1.d.scan.have_,zi o1.d.start,zi o3.x,zi o1.d.field.number,zi o1.d.field.kind,.bool o1.d.field.rep,.bool o1.d.field.packed,zi o1.d.field.msg,zi o1.d.wire,zi o1.d.want,zi o1.d.utf.want,zi o1.d.utf.low,zi o1.d.utf.high,zi o1.d.end_.kind,zi o1.d.end_.field,.int .u64 o1.d.end_.bits,zi o1.d.end_.len,.str o1.d.end_.text,zi o1.d.end_.code,zi o1.d.end_.at_])∧(z14:List Blk)=z14))∧((decide (o2.x=8))=false→((decide (o2.x=9))=true→In (Bb o2.c1 [0,o1.d.at_,IntKind.i64.wrap (o1.d.at_+1),(-1)]) fun o3=>(let z15:List Blk:=[.cells (Ak o3.c1),.tree o1.d.plan.shapes,.lst .lev o1.d.stack];(B9 o2.c1 [0,o1.d.at_,IntKind.i64.wrap (o1.d.at_+1),(-1)] o3)∧((DecB (⟨o1.d.plan,o1.d.mode,o1.d.stack,o1.d.scan,o3.x,o1.d.at_,o1.d.field,o1.d.wire,o1.d.want,o1.d.utf,o1.d.end_⟩:Dcd))∧(Aw o3.c1))∧(.v (.agg [.own 1,zi o1.d.plan.root,zi o1.d.plan.deep,zi o1.d.plan.most,zi o1.d.mode,.own 2,.int .u64 o1.d.scan.bits,zi o1.d.scan.have_,zi o3.x,zi o1.d.at_,zi o1.d.field.number,zi o1.d.field.kind,.bool o1.d.field.rep,.bool o1.d.field.packed,zi o1.d.field.msg,zi o1.d.wire,zi o1.d.want,zi o1.d.utf.want,zi o1.d.utf.low,zi o1.d.utf.high,zi o1.d.end_.kind,zi o1.d.end_.field,.int .u64 o1.d.end_.bits,zi o1.d.end_.len,.str o1.d.end_.text,zi o1.d.end_.code,zi o1.d.end_.at_]):S)= .v (.agg [.own 1,zi o1.d.plan.root,zi o1.d.plan.deep,zi o1.d.plan.most,zi o1.d.mode,.own 2,.int .u64 o1.d.scan.bits,zi o1.d.scan.have_,zi o3.x,zi o1.d.at_,zi o1.d.field.number,zi o1.d.field.kind,.bool o1.d.field.rep,.bool o1.d.field.packed,zi o1.d.field.msg,zi o1.d.wire,zi o1.d.want,zi o1.d.utf.want,zi o1.d.utf.low,zi o1.d.utf.high,zi o1.d.end_.kind,zi o1.d.end_.field,.int .u64 o1.d.end_.bits,zi o1.d.end_.len,.str o1.d.end_.text,zi o1.d.end_.code,zi o1.d.end_.at_])∧(z15:List Blk)=z15))∧((decide (o2.x=9))=false→((decide (o2.x=10))=true→In (Aa o2.c1 4) fun o3=>(let z16:List Blk:=[.cells (Ak o3.c1),.tree o1.d.plan.shapes,.lst .lev o1.d.stack];(Ai o2.c1 4 o3)∧((DecB (⟨(⟨o1.d.plan.shapes,o1.d.plan.root,o3.x,o1.d.plan.most⟩:Pln),o1.d.mode,o1.d.stack,o1.d.scan,o1.d.start,o1.d.at_,o1.d.field,o1.d.wire,o1.d.want,o1.d.utf,o1.d.end_⟩:Dcd))∧(Aw o3.c1))∧(.v (.agg [.own 1,zi o1.d.plan.root,zi o3.x,zi o1.d.plan.most,zi o1.d.mode,.own 2,.int .u64 o1.d.scan.bits,zi o1.d.scan.have_,zi o1.d.start,zi o1.d.at_,zi o1.d.field.number,zi o1.d.field.kind,.bool o1.d.field.rep,.bool o1.d.field.packed,zi o1.d.field.msg,zi o1.d.wire,zi o1.d.want,zi o1.d.utf.want,zi o1.d.utf.low,zi o1.d.utf.high,zi o1.d.end_.kind,zi o1.d.end_.field,.int .u64 o1.d.end_.bits,zi o1.d.end_.len,.str o1.d.end_.text,zi o1.d.end_.code,zi o1.d.end_.at_]):S)= .v (.agg [.own 1,zi o1.d.plan.root,zi o3.x,zi o1.d.plan.most,zi o1.d.mode,.own 2,.int .u64 o1.d.scan.bits,zi o1.d.scan.have_,zi o1.d.start,zi o1.d.at_,zi o1.d.field.number,zi o1.d.field.kind,.bool o1.d.field.rep,.bool o1.d.field.packed,zi o1.d.field.msg,zi o1.d.wire,zi o1.d.want,zi o1.d.utf.want,zi o1.d.utf.low,zi o1.d.utf.high,zi o1.d.end_.kind,zi o1.d.end_.field,.int .u64 o1.d.end_.bits,zi o1.d.end_.len,.str o1.d.end_.text,zi o1.d.end_.code,zi o1.d.end_.at_])∧(z16:List Blk)=z16))∧((decide (o2.x=10))=false→((DecB o1.d)∧(Aw o2.c1))∧(.v (.agg z18):S)= .v (.agg z18)∧(z17:List Blk)=z17))))))))))))))) Q4 ?_
 refine⟨(Acu c Q0),fun o1 ho_o1=>?_⟩
 obtain ⟨⟨hp_o1_0,hp_o1_1,hp_o1_2⟩,hf_o1⟩:=ho_o1
 refine⟨hf_o1,(An o1.c1 22 Q0),fun o2 ho_o2=>?_⟩
 obtain ⟨⟨hp_o2_0,hp_o2_1,hp_o2_2,hp_o2_3⟩,hf_o2⟩:=ho_o2
 refine⟨hf_o2,dsp (fun h1 p1=>?_) fun h1 p1=>?_⟩
 refine⟨(An o2.c1 12 Q0),fun o3 ho_o3=>?_⟩
 obtain ⟨⟨hp_o3_0,hp_o3_1,hp_o3_2,hp_o3_3⟩,hf_o3⟩:=ho_o3
 exact⟨hf_o3,(Ae Q2 Q2),⟨Q8,Q0⟩,rfl,rfl⟩
 refine dsp (fun h2 p2=>?_) fun h2 p2=>?_
 refine⟨(C4 o2.c1 [0,1,5,2000,(-1)] Q0 Q6 Q6),fun o3 ho_o3=>?_⟩
 obtain ⟨⟨hp_o3_0,hp_o3_1⟩,hf_o3⟩:=ho_o3
 exact⟨hf_o3,⟨Q8,Q0⟩,rfl,rfl⟩
 refine dsp (fun h3 p3=>?_) fun h3 p3=>?_
 refine⟨(An o2.c1 4 Q0),fun o3 ho_o3=>?_⟩
 obtain ⟨⟨hp_o3_0,hp_o3_1,hp_o3_2,hp_o3_3⟩,hf_o3⟩:=ho_o3
 refine⟨(Uz o3.c1 [0,1,7,2000,2001,(-1)] Q0 Q6 Q6),fun o4 ho_o4=>?_⟩
 obtain ⟨⟨hp_o4_0,hp_o4_1⟩,hf_o4⟩:=ho_o4
 exact⟨hf_o3,(Ae Q2 Q2),hf_o4,(by have:=hp_o1_0.stack;simp only[List.length_cons,List.length_nil];omega),hf_o3,(Ae Q2 Q2),hf_o4,(by have:=hp_o1_0.stack;simp only[List.length_cons,List.length_nil];omega),rfl,rfl,⟨Q8,Q0⟩,rfl,rfl⟩
 refine dsp (fun h4 p4=>?_) fun h4 p4=>?_
 refine⟨(Ag0 o2.c1 Q0),fun o3 ho_o3=>?_⟩
 obtain ⟨⟨hp_o3_0,hp_o3_1⟩,hf_o3⟩:=ho_o3
 exact⟨hf_o3,⟨Q8,Q0⟩,rfl,rfl⟩
 refine dsp (fun h5 p5=>?_) fun h5 p5=>?_
 refine⟨(An o2.c1 9 Q0),fun o3 ho_o3=>?_⟩
 obtain ⟨⟨hp_o3_0,hp_o3_1,hp_o3_2,hp_o3_3⟩,hf_o3⟩:=ho_o3
 exact⟨hf_o3,(Ae Q2 Q2),⟨Q8,Q0⟩,rfl,rfl⟩
 refine dsp (fun h6 p6=>?_) fun h6 p6=>?_
 refine⟨(An o2.c1 5 Q0),fun o3 ho_o3=>?_⟩
 obtain ⟨⟨hp_o3_0,hp_o3_1,hp_o3_2,hp_o3_3⟩,hf_o3⟩:=ho_o3
 refine⟨hf_o3,(Ae Q2 Q2),(An o3.c1 8 Q0),fun o4 ho_o4=>?_⟩
 obtain ⟨⟨hp_o4_0,hp_o4_1,hp_o4_2,hp_o4_3⟩,hf_o4⟩:=ho_o4
 exact⟨hf_o4,(Ae Q2 Q2),⟨Q8,Q0⟩,rfl,rfl⟩
 refine dsp (fun h7 p7=>?_) fun h7 p7=>?_
 refine⟨(Afb o2.c1 Q0),fun o3 ho_o3=>?_⟩
 obtain ⟨hp_o3,hf_o3⟩:=ho_o3
 exact⟨hf_o3,⟨Q8,Q0⟩,rfl,rfl⟩
 refine dsp (fun h8 p8=>?_) fun h8 p8=>?_
 refine⟨(Afa o2.c1 Q0),fun o3 ho_o3=>?_⟩
 obtain ⟨⟨hp_o3_0,hp_o3_1,hp_o3_2⟩,hf_o3⟩:=ho_o3
 exact⟨hf_o3,⟨Q8,Q0⟩,rfl,rfl⟩
 refine dsp (fun h9 p9=>?_) fun h9 p9=>?_
 refine⟨(C4 o2.c1 [0,1000000000,1000000001,(-1),9223372036854775807] Q0 Q6 Q6),fun o3 ho_o3=>?_⟩
 obtain ⟨⟨hp_o3_0,hp_o3_1⟩,hf_o3⟩:=ho_o3
 exact⟨hf_o3,⟨Q8,Q0⟩,rfl,rfl⟩
 refine dsp (fun h10 p10=>?_) fun h10 p10=>?_
 refine⟨(C4 o2.c1 [0,o1.d.at_,IntKind.i64.wrap (o1.d.at_+1),(-1)] Q0 Q6 Q6),fun o3 ho_o3=>?_⟩
 obtain ⟨⟨hp_o3_0,hp_o3_1⟩,hf_o3⟩:=ho_o3
 exact⟨hf_o3,⟨Q8,Q0⟩,rfl,rfl⟩
 refine dsp (fun h11 p11=>?_) fun h11 p11=>?_
 refine⟨(An o2.c1 4 Q0),fun o3 ho_o3=>?_⟩
 obtain ⟨⟨hp_o3_0,hp_o3_1,hp_o3_2,hp_o3_3⟩,hf_o3⟩:=ho_o3
 exact⟨hf_o3,⟨Q8,Q0⟩,rfl,rfl⟩
 exact⟨⟨Q8,Q0⟩,rfl,rfl⟩
structure Acx where
 d:Dcd
 b:Int
structure D8 where
 d:Dcd
 t:List UInt8
def N4 (code:List Int) (o:D8):Prop:=Fun Tryz.prog 25 [.c (.seq .u8 code)] [] (.tup [.agg (Bt o.d),vT o.t]) []
def Jz (code:List Int) (o:D8):Prop:=((DecB o.d)∧(List.length (o.t:List UInt8)≤200000))∧N4 code o
theorem Xi (code:List Int) (hp1:List.length code≤1048576): ∃o:D8,Jz code o:=by
 have hN:Bg=274877906944:=rfl
 refine Bw Tryz.func25 Q4 Q4 (w:=let z6:=fr (.one 3 (.one 4 (.two 5 (.one 6 (.first 7 (.done))) 6 (.one 5 (.first 7 (.done)))))) 0 3;(.intro (Ut code) fun o1=> .seg [.call [] (.v (vP 0)) [.cells (Ak o1.c1)]] (.intro (Qj o1.c1) fun o2=> .seg [.call [1] (.v (.agg (Ad 1 2 o2.d))) [.cells (Ak o2.c1),.tree o2.d.plan.shapes,.lst .lev o2.d.stack]] (.br (.seg [.call [] (.v (vB (Es o2.d.plan))) []] (.br (.intro (He o2.c1 o2.d.plan) fun o3=> .seg [.at 5,.pub 4 0,.tree (fr (.one 4 (.one 5 (.first 6 (.done)))) 0 4) 5 [1],.call [1] (.v (vT o3.t)) [.cells (Ak o3.c1)],.at 0,.pub 0 5] (.leaf (⟨o2.d,o3.t⟩:D8) [])) (.intro (Aa o2.c1 12) fun o3=> .intro (Bh o3.c1 o3.x) fun o4=> .seg [.tree z6 8 [0,1],.call [1] (.v (vI o3.x)) [.cells (Ak o3.c1)],.call [1] (.v (vO 1)) [.cells (Ak o4.c1),.lst .u8 o4.l],.at 0,.keep [2,3],.sel [0,2,3],.at 0,.keep [2,3],.sel [0,2,3],.at 0,.pub 0 0,.pub 0 5] (.leaf (⟨o2.d,List.map Bc o4.l⟩:D8) [])))) (.intro (Aa o2.c1 12) fun o3=> .intro (Bh o3.c1 o3.x) fun o4=> .seg [.tree z6 8 [0,1],.call [1] (.v (vI o3.x)) [.cells (Ak o3.c1)],.call [1] (.v (vO 1)) [.cells (Ak o4.c1),.lst .u8 o4.l],.at 0,.keep [2,3],.sel [0,2,3],.at 0,.keep [2,3],.sel [0,2,3],.at 0,.pub 0 0,.pub 0 5] (.leaf (⟨o2.d,List.map Bc o4.l⟩:D8) [])))),In (Ut code) fun o1=>((Yn code o1)∧In (Qj o1.c1) fun o2=>(let z3:List Blk:=[.cells (Ad 1 2 o2.d),.tree o2.d.plan.shapes,.lst .lev o2.d.stack];let z4:=Bt o2.d;let z5:=Es o2.d.plan;(U7 o1.c1 o2)∧((decide (o2.d.mode=1))=true→(Fun Tryz.prog 34 [.agg (M1 o2.d.plan)] [] (.v (vB z5)) [])∧(z5=true→In (He o2.c1 o2.d.plan) fun o3=>((N0 o2.c1 o2.d.plan o3)∧((DecB o2.d)∧(List.length (o3.t:List UInt8)≤200000))∧(.tup [.agg z4,vT o3.t]:S)= .tup [.agg z4,vT o3.t]∧([]:List Blk)=[]))∧(z5=false→In (Aa o2.c1 12) fun o3=>(In (Bh o3.c1 o3.x) fun o4=>(let z1:=List.map Bc o4.l;(Ai o2.c1 12 o3)∧(Ch o3.c1 o3.x o4)∧((z3:List Blk)=z3)∧(([(2,.v (vP 0)),(3,.v (vT z1))]:List (Nat×S))=[(2,.v (vP 0)),(3,.v (vT z1))])∧((DecB o2.d)∧(List.length (z1:List UInt8)≤200000))∧(.tup [.agg z4,vT z1]:S)= .tup [.agg z4,vT z1]∧([]:List Blk)=[]))))∧((decide (o2.d.mode=1))=false→In (Aa o2.c1 12) fun o3=>(In (Bh o3.c1 o3.x) fun o4=>(let z2:=List.map Bc o4.l;(Ai o2.c1 12 o3)∧(Ch o3.c1 o3.x o4)∧((z3:List Blk)=z3)∧(([(2,.v (vP 0)),(3,.v (vT z2))]:List (Nat×S))=[(2,.v (vP 0)),(3,.v (vT z2))])∧((DecB o2.d)∧(List.length (z2:List UInt8)≤200000))∧(.tup [.agg z4,vT z2]:S)= .tup [.agg z4,vT z2]∧([]:List Blk)=[]))))))) Q4 ?_
 refine⟨(Aip code Q68),fun o1 ho_o1=>?_⟩
 obtain ⟨hp_o1,hf_o1⟩:=ho_o1
 refine⟨hf_o1,(Afh o1.c1 Q0),fun o2 ho_o2=>?_⟩
 obtain ⟨⟨hp_o2_0,hp_o2_1⟩,hf_o2⟩:=ho_o2
 refine⟨hf_o2,dsp (fun h1 p1=>?_) fun h1 p1=>?_⟩
 refine⟨(Tf o2.d.plan),fun h2=>have p2:=B6 h2;?_,fun h2=>?_⟩
 refine⟨(Wd o2.c1 o2.d.plan Q0 (DecB.good Q76 Q76)),fun o3 ho_o3=>?_⟩
 obtain ⟨⟨hp_o3_0,hp_o3_1⟩,hf_o3⟩:=ho_o3
 exact⟨hf_o3,⟨Q76,Q68⟩,rfl,rfl⟩
 refine⟨(An o2.c1 12 Q0),fun o3 ho_o3=>?_⟩
 obtain ⟨⟨hp_o3_0,hp_o3_1,hp_o3_2,hp_o3_3⟩,hf_o3⟩:=ho_o3
 refine⟨(Dm o3.c1 o3.x Q0 Q2),fun o4 ho_o4=>?_⟩
 obtain ⟨⟨hp_o4_0,hp_o4_1⟩,hf_o4⟩:=ho_o4
 exact⟨hf_o3,hf_o4,rfl,rfl,⟨Q76,Q68⟩,rfl,rfl⟩
 refine⟨(An o2.c1 12 Q0),fun o3 ho_o3=>?_⟩
 obtain ⟨⟨hp_o3_0,hp_o3_1,hp_o3_2,hp_o3_3⟩,hf_o3⟩:=ho_o3
 refine⟨(Dm o3.c1 o3.x Q0 Q2),fun o4 ho_o4=>?_⟩
 obtain ⟨⟨hp_o4_0,hp_o4_1⟩,hf_o4⟩:=ho_o4
 exact⟨hf_o3,hf_o4,rfl,rfl,⟨Q76,Q68⟩,rfl,rfl⟩
structure Ahy where
 d:Dcd
 t:List UInt8
def tx:List Ev→Nat
 |[]=>0
 |e::r=>e.text.length+tx r
def Ag5 (a:Int):Ev:=⟨9,0,0,0,[],0,a⟩
def Gx (d:Dcd):Bool:=Cj d&&decide (d.mode=1)&&decide (d.scan.have_=0)
def Le (d:Dcd):Mac:=if Cj d=false∨d.mode=9 then ⟨d,[]⟩ else if d.mode=1∧d.scan.have_=0 then ⟨⟨d.plan,9,d.stack,d.scan,d.start,d.at_,d.field,d.wire,d.want,d.utf,Ag5 d.at_⟩,[Ag5 d.at_]⟩ else ⟨A1 d 10 d.at_,[A3 10 d.at_]⟩
def Ro (d:Dcd) (c:Int):Mac:=if Cj d=true∧d.mode≠9∧1≤c then ⟨A1 d c d.at_,[A3 c d.at_]⟩ else ⟨d,[]⟩
theorem Ai0 {d:Dcd} (h:d.mode=9):(∀s:List UInt8,B8 ⟨d,[]⟩ s=⟨d,[]⟩)∧Le d=⟨d,[]⟩∧∀c,Ro d c=⟨d,[]⟩:=by
 refine⟨fun s=>?_,?_,fun c=>?_⟩
 ·exact Tp (m:=⟨d,[]⟩) (by simp[Eb,h]) s
 ·unfold Le;rw[if_pos (.inr h)]
 ·unfold Ro;rw[if_neg (fun hc=>hc.2.1 h)]
theorem Afi (d:Dcd) (hp1:List.length (d).plan.shapes≤1048576) (hp2: ∀e∈(d).plan.shapes,List.length e.fields≤1048576) (hp3:List.length (d).stack≤1048576) (hp4:(0:Int)≤(d).scan.bits∧(d).scan.bits≤18446744073709551615):Fun Tryz.prog 92 [.agg (Bt d)] [] (.v (vB (Gx d))) []:=by
 have hN:Bg=274877906944:=rfl
 refine Ar Tryz.func92 Q4 Q4 (w:=(.seg [.call [] (.v (vB (Cj d))) []] (.br (.br (.leaf () []) (.leaf () [])) (.leaf () [])),(Fun Tryz.prog 21 [.agg (Bt d)] [] (.v (vB (Cj d))) [])∧((Cj d)=true→((decide (d.mode=1))=true→(.v (vB (decide (d.scan.have_=0))):S)= .v (vB (Gx d))∧([]:List Blk)=[])∧((decide (d.mode=1))=false→(.v (vB false):S)= .v (vB (Gx d))∧([]:List Blk)=[]))∧((Cj d)=false→(.v (vB false):S)= .v (vB (Gx d))∧([]:List Blk)=[]))) Q4 ?_
 refine⟨(W8 d Q2 Q2),fun h1=>?_,fun h1=>?_⟩
 refine dsp (fun h2 p2=>?_) fun h2 p2=>?_
 refine⟨(sB ?_),rfl⟩
 rotate_left
 refine⟨(sB ?_),rfl⟩
 rotate_left
 refine⟨(sB ?_),rfl⟩
 rotate_left
 all_goals first|(simp[Gx, *];done)|(simp_all[Gx];done)|(grind[Gx])
theorem Ag6 (d:Dcd) (hp1:List.length (d).plan.shapes≤1048576) (hp2: ∀e∈(d).plan.shapes,List.length e.fields≤1048576) (hp3:List.length (d).stack≤1048576) (hp4:(0:Int)≤(d).scan.bits∧(d).scan.bits≤18446744073709551615):Fun Tryz.prog 28 [.agg (Bt d)] [] (.tup [.agg (Ad 0 1 (Le d).d),vO 2]) [.tree (Le d).d.plan.shapes,.lst .lev (Le d).d.stack,.lst .ev (Le d).out]:=by
 have hN:Bg=274877906944:=rfl
 refine Ar Tryz.func28 Q4 Q4 (w:=let zi:Int→C:= .int .i64;let z1:List C:=[.own 1,zi d.plan.root,zi d.plan.deep,zi d.plan.most,zi 9,.own 2,.int .u64 d.scan.bits,zi d.scan.have_,zi d.start,zi d.at_,zi d.field.number,zi d.field.kind,.bool d.field.rep,.bool d.field.packed,zi d.field.msg,zi d.wire,zi d.want,zi d.utf.want,zi d.utf.low,zi d.utf.high,zi 9,zi 0,.int .u64 0,zi 0,.str [],zi 0,zi d.at_,.own 4];let z2:List C:=[zi 9,zi 0,.int .u64 0,zi 0,.str [],zi 0,zi d.at_];let z7:=Ad 0 1 (Le d).d;let z8:=([]:List Ev);let z3:=A0 (⟨d,z8⟩:Mac) 10 d.at_;let z5:List Blk:=[.cells (Ab 1 2 4 z3),.tree z3.d.plan.shapes,.lst .lev z3.d.stack,.dead,.lst .ev z3.out];let z6:=([.tree d.plan.shapes,.lst .lev d.stack,.lst .ev z8]:List Blk);let z9:=z8++[(⟨9,0,0,0,[],0,d.at_⟩:Ev)];let z4:List Blk:=[.cells z1,.tree d.plan.shapes,.lst .lev d.stack,.dead,.lst .ev z9];let z10:=Ad 0 1 d;(.seg [.call [] (.v (.agg z10)) [.tree d.plan.shapes,.lst .lev d.stack],.call [] (.v (vB (Cj d))) []] (.br (.seg [.at 8,.mk 4 27 .ev,.ord (os 10 [8]) [1]] (.leaf () [2,3,5])) (.br (.seg [.at 8,.mk 4 27 .ev,.ord (os 10 [8]) [1]] (.leaf () [2,3,5])) (.seg [.call [] (.v (vB (Gx d))) []] (.br (.seg [.at 6,.mk 4 27 .ev,.ord (os 13 [8,12]) [4],.call [4,2,3,5] (.tup []) z4,.ord (os 10 [8]) [1]] (.leaf () [2,3,6])) (.seg [.at 3,.mk 4 27 .ev,.call [4,2,3,5] (.tup []) z5,.ord (os 10 [8]) [1]] (.leaf () [2,3,6])))))),(Fun Tryz.prog 54 [.agg (Bt d)] [] (.v (.agg z10)) [.tree d.plan.shapes,.lst .lev d.stack])∧(Fun Tryz.prog 21 [.agg (Bt d)] [] (.v (vB (Cj d))) [])∧((!(Cj d))=true→(.tup [.agg z10,vO 2]:S)= .tup [.agg z7,vO 2]∧z6=[.tree (Le d).d.plan.shapes,.lst .lev (Le d).d.stack,.lst .ev (Le d).out])∧((!(Cj d))=false→((decide (d.mode=9))=true→(.tup [.agg z10,vO 2]:S)= .tup [.agg z7,vO 2]∧z6=[.tree (Le d).d.plan.shapes,.lst .lev (Le d).d.stack,.lst .ev (Le d).out])∧((decide (d.mode=9))=false→(Fun Tryz.prog 92 [.agg (Bt d)] [] (.v (vB (Gx d))) [])∧((Gx d)=true→(Fun Tryz.prog 93 [vP 0,.agg z2] [.cells [.own 1,zi d.plan.root,zi d.plan.deep,zi d.plan.most,zi 9,.own 2,.int .u64 d.scan.bits,zi d.scan.have_,zi d.start,zi d.at_,zi d.field.number,zi d.field.kind,.bool d.field.rep,.bool d.field.packed,zi d.field.msg,zi d.wire,zi d.want,zi d.utf.want,zi d.utf.low,zi d.utf.high,zi 9,zi 0,.int .u64 0,zi 0,.str [],zi 0,zi d.at_,.own 3],.tree d.plan.shapes,.lst .lev d.stack,.lst .ev z8] (.tup []) z4)∧(.tup [.agg (.own 0::zi d.plan.root::zi d.plan.deep::zi d.plan.most::zi 9:: .own 1:: .int .u64 d.scan.bits::zi d.scan.have_::zi d.start::zi d.at_::zi d.field.number::zi d.field.kind:: .bool d.field.rep:: .bool d.field.packed::zi d.field.msg::zi d.wire::zi d.want::zi d.utf.want::zi d.utf.low::zi d.utf.high::z2),vO 2]:S)= .tup [.agg z7,vO 2]∧([.tree d.plan.shapes,.lst .lev d.stack,.lst .ev z9]:List Blk)=[.tree (Le d).d.plan.shapes,.lst .lev (Le d).d.stack,.lst .ev (Le d).out])∧((Gx d)=false→(Fun Tryz.prog 94 [vP 0,vI 10,vI d.at_] [.cells [.own 1,zi d.plan.root,zi d.plan.deep,zi d.plan.most,zi d.mode,.own 2,.int .u64 d.scan.bits,zi d.scan.have_,zi d.start,zi d.at_,zi d.field.number,zi d.field.kind,.bool d.field.rep,.bool d.field.packed,zi d.field.msg,zi d.wire,zi d.want,zi d.utf.want,zi d.utf.low,zi d.utf.high,zi d.end_.kind,zi d.end_.field,.int .u64 d.end_.bits,zi d.end_.len,.str d.end_.text,zi d.end_.code,zi d.end_.at_,.own 3],.tree d.plan.shapes,.lst .lev d.stack,.lst .ev z8] (.tup []) z5)∧(.tup [.agg (Ad 0 1 z3.d),vO 2]:S)= .tup [.agg z7,vO 2]∧([.tree z3.d.plan.shapes,.lst .lev z3.d.stack,.lst .ev z3.out]:List Blk)=[.tree (Le d).d.plan.shapes,.lst .lev (Le d).d.stack,.lst .ev (Le d).out]))))) Q4 ?_
 refine⟨(Un d Q2 (hp2) Q2),(W8 d Q2 Q2),fun h1=>have q1:=Ap h1;?_,fun h1=>have q1:=Ao h1;?_⟩
 refine have hm1:(Le d).d=d:=?_;?_
 rotate_left
 refine have hm2:(Le d).out=([]:List Ev):=?_;?_
 rotate_left
 exact⟨Q5,Q9⟩
 refine dsp (fun h2 p2=>?_) fun h2 p2=>?_
 refine have hm1:(Le d).d=d:=?_;?_
 rotate_left
 refine have hm2:(Le d).out=([]:List Ev):=?_;?_
 rotate_left
 exact⟨Q5,Q9⟩
 refine⟨(Afi d Q2 (hp2) Q2 Q2),fun h3=>?_,fun h3=>?_⟩
 refine⟨(E1 (⟨(⟨d.plan,9,d.stack,d.scan,d.start,d.at_,d.field,d.wire,d.want,d.utf,(⟨9,0,0,0,[],0,d.at_⟩:Ev)⟩:Dcd),([]:List Ev)⟩:Mac) (⟨9,0,0,0,[],0,d.at_⟩:Ev) Q15),?_⟩
 refine have hm1:(Le d).d=(⟨d.plan,9,d.stack,d.scan,d.start,d.at_,d.field,d.wire,d.want,d.utf,(⟨9,0,0,0,[],0,d.at_⟩:Ev)⟩:Dcd):=?_;?_
 rotate_left
 refine have hm2:(Le d).out=([]:List Ev)++[(⟨9,0,0,0,[],0,d.at_⟩:Ev)]:=?_;?_
 rotate_left
 exact⟨Q5,Q9⟩
 refine⟨(B4 (⟨d,([]:List Ev)⟩:Mac) _ _ Q15),?_⟩
 refine have hm1:(Le d).d=(A0 (⟨d,([]:List Ev)⟩:Mac) 10 d.at_).d:=?_;?_
 rotate_left
 refine have hm2:(Le d).out=(A0 (⟨d,([]:List Ev)⟩:Mac) 10 d.at_).out:=?_;?_
 rotate_left
 exact⟨Q5,Q9⟩
 all_goals first|(simp_all[Le,Gx,A0,A1,Ag5];done)|(grind[Le,Gx,A0,A1,Ag5])
theorem Ai1 (d:Dcd) (c:Int) (hp1:List.length (d).plan.shapes≤1048576) (hp2: ∀e∈(d).plan.shapes,List.length e.fields≤1048576) (hp3:List.length (d).stack≤1048576) (hp4:(0:Int)≤(d).scan.bits∧(d).scan.bits≤18446744073709551615):Fun Tryz.prog 29 [.agg (Bt d),vI c] [] (.tup [.agg (Ad 0 1 (Ro d c).d),vO 2]) [.tree (Ro d c).d.plan.shapes,.lst .lev (Ro d c).d.stack,.lst .ev (Ro d c).out]:=by
 have hN:Bg=274877906944:=rfl
 refine Ar Tryz.func29 Q4 Q4 (w:=let zi:Int→C:= .int .i64;let z1:=A0 (⟨d,([]:List Ev)⟩:Mac) c d.at_;let z2:=([.tree d.plan.shapes,.lst .lev d.stack,.lst .ev ([]:List Ev)]:List Blk);let z3:=Ro d c;let z4:List Blk:=[.cells (Ab 1 2 4 z1),.tree z1.d.plan.shapes,.lst .lev z1.d.stack,.dead,.lst .ev z1.out];let z5:=(.tup [.agg (Ad 0 1 d),vO 2]:S);let z6:=Ad 0 1 z3.d;(.seg [.call [] (.v (.agg (Ad 0 1 d))) [.tree d.plan.shapes,.lst .lev d.stack],.call [] (.v (vB (Cj d))) []] (.br (.br (.br (.seg [.at 4,.mk 4 27 .ev,.call [4,2,3,5] (.tup []) z4,.ord (os 10 [8]) [1]] (.leaf () [2,3,6])) (.seg [.at 5,.mk 4 27 .ev,.ord (os 10 [8]) [1]] (.leaf () [2,3,5]))) (.seg [.at 5,.mk 4 27 .ev,.ord (os 10 [8]) [1]] (.leaf () [2,3,5]))) (.seg [.at 5,.mk 4 27 .ev,.ord (os 10 [8]) [1]] (.leaf () [2,3,5]))),(Fun Tryz.prog 54 [.agg (Bt d)] [] (.v (.agg (Ad 0 1 d))) [.tree d.plan.shapes,.lst .lev d.stack])∧(Fun Tryz.prog 21 [.agg (Bt d)] [] (.v (vB (Cj d))) [])∧((Cj d)=true→((!decide (d.mode=9))=true→((decide (1≤c))=true→(Fun Tryz.prog 94 [vP 0,vI c,vI d.at_] [.cells [.own 1,zi d.plan.root,zi d.plan.deep,zi d.plan.most,zi d.mode,.own 2,.int .u64 d.scan.bits,zi d.scan.have_,zi d.start,zi d.at_,zi d.field.number,zi d.field.kind,.bool d.field.rep,.bool d.field.packed,zi d.field.msg,zi d.wire,zi d.want,zi d.utf.want,zi d.utf.low,zi d.utf.high,zi d.end_.kind,zi d.end_.field,.int .u64 d.end_.bits,zi d.end_.len,.str d.end_.text,zi d.end_.code,zi d.end_.at_,.own 3],.tree d.plan.shapes,.lst .lev d.stack,.lst .ev ([]:List Ev)] (.tup []) z4)∧(.tup [.agg (Ad 0 1 z1.d),vO 2]:S)= .tup [.agg z6,vO 2]∧([.tree z1.d.plan.shapes,.lst .lev z1.d.stack,.lst .ev z1.out]:List Blk)=[.tree z3.d.plan.shapes,.lst .lev z3.d.stack,.lst .ev z3.out])∧((decide (1≤c))=false→z5= .tup [.agg z6,vO 2]∧z2=[.tree z3.d.plan.shapes,.lst .lev z3.d.stack,.lst .ev z3.out]))∧((!decide (d.mode=9))=false→z5= .tup [.agg z6,vO 2]∧z2=[.tree z3.d.plan.shapes,.lst .lev z3.d.stack,.lst .ev z3.out]))∧((Cj d)=false→z5= .tup [.agg z6,vO 2]∧z2=[.tree z3.d.plan.shapes,.lst .lev z3.d.stack,.lst .ev z3.out]))) Q4 ?_
 refine⟨(Un d Q2 (hp2) Q2),(W8 d Q2 Q2),fun h1=>?_,fun h1=>?_⟩
 refine⟨fun h2=>have q2:=Ap h2;have p2:=of_decide_eq_false q2;?_,fun h2=>have q2:=Ao h2;have p2:=of_decide_eq_true q2;?_⟩
 refine dsp (fun h3 p3=>?_) fun h3 p3=>?_
 refine⟨(B4 (⟨d,([]:List Ev)⟩:Mac) _ _ Q15),?_⟩
 refine have hm1:(Ro d c).d=(A0 (⟨d,([]:List Ev)⟩:Mac) c d.at_).d:=?_;?_
 rotate_left
 refine have hm2:(Ro d c).out=(A0 (⟨d,([]:List Ev)⟩:Mac) c d.at_).out:=?_;?_
 rotate_left
 exact⟨Q5,Q9⟩
 refine have hm1:(Ro d c).d=d:=?_;?_
 rotate_left
 refine have hm2:(Ro d c).out=([]:List Ev):=?_;?_
 rotate_left
 exact⟨Q5,Q9⟩
 refine have hm1:(Ro d c).d=d:=?_;?_
 rotate_left
 refine have hm2:(Ro d c).out=([]:List Ev):=?_;?_
 rotate_left
 exact⟨Q5,Q9⟩
 refine have hm1:(Ro d c).d=d:=?_;?_
 rotate_left
 refine have hm2:(Ro d c).out=([]:List Ev):=?_;?_
 rotate_left
 exact⟨Q5,Q9⟩
 all_goals first|(simp_all[Ro,A0,A1];done)|(grind[Ro,A0,A1])
theorem Wg  :Fun Tryz.prog 91 [] [] (.tup []) []:=by
 have hN:Bg=274877906944:=rfl
 refine Ar Tryz.func91 Q4 Q4 (w:=(.leaf () [],(.tup []:S)= .tup []∧([]:List Blk)=[])) Q4 ?_
 exact⟨rfl,rfl⟩
structure Lf where
 m:Mac
 v:Nat
def Lg (m:Mac) (s:List UInt8):Fam:=⟨Lf,fun q1=>[(0,.v (vP 0)),(1,.v (vT s)),(2,.v (.c (.fn 91 []))),(8,.v (vI ((List.length s:Nat):Int))),(9,.v (vI ((q1.v:Nat):Int)))],fun q1=>[.cells (Ab 4 5 6 q1.m),.dead,.dead,.dead,.tree q1.m.d.plan.shapes,.lst .lev q1.m.d.stack,.lst .ev q1.m.out],fun q1=>q1.v≤List.length s∧B8 q1.m (List.drop q1.v s)=B8 m s∧Cj (q1.m).d=true∧List.length (q1.m).out≤List.length m.out+14*q1.v,fun q1=>List.length s-q1.v⟩
theorem Ai2 (m:Mac) (s:List UInt8) (hp1:Cj (m).d=true) (hp2:List.length (m).out≤1000000) (hp3:List.length s≤1048576):Fun Tryz.prog 90 [vP 0,vT s,.c (.fn 91 [])] [.cells (Ab 1 2 3 m),.tree m.d.plan.shapes,.lst .lev m.d.stack,.lst .ev m.out] (.tup []) [.cells (Ab 4 5 6 (B8 m s)),.dead,.dead,.dead,.tree (B8 m s).d.plan.shapes,.lst .lev (B8 m s).d.stack,.lst .ev (B8 m s).out]:=by
 have hN:Bg=274877906944:=rfl
 refine Ar Tryz.func90 Q4 Q4 (w:=let z6:=((List.length s:Nat):Int);let z7:=Lg m s;(.seg [.at 0,.cut 0 0,.cut 0 5,.cut 0 27,.keep [0,1,2,8,9],.sel [0,1,2,3,4,5,6]] (.loop z7 fun q1=> .br (.seg [.call [] (.v (vB (Eb q1.m.d))) []] (.br (.intro (fun (x1:UInt8)=>s[q1.v]? =some x1) fun x1=>let z1:=D9 q1.m ((UInt8.toNat x1:Nat):Int);.seg [.ch x1,.as 21 (.v (vI ((UInt8.toNat x1:Nat):Int))),.call [0,4,5,6] (.tup []) [.cells (Ab 4 5 6 z1),.dead,.dead,.dead,.tree z1.d.plan.shapes,.lst .lev z1.d.stack,.lst .ev z1.out],.call [] (.tup []) [],.as 25 (.v (vI (((q1.v:Nat):Int)+1))),.at 0,.keep [0,1,2,8,9],.sel [0,1,2,3,7,8,9]] (.next)) (.seg [.call [] (.tup []) [],.as 25 (.v (vI (((q1.v:Nat):Int)+1))),.at 0,.keep [0,1,2,8,9],.sel [0,1,2,3,4,5,6]] (.next)))) (.leaf () [0,1,2,3,4,5,6])),z7.Has [(0,.v (vP 0)),(1,.v (vT s)),(2,.v (.c (.fn 91 []))),(8,.v (vI z6)),(9,.v (vI 0))] [.cells (Ab 4 5 6 m),.dead,.dead,.dead,.tree m.d.plan.shapes,.lst .lev m.d.stack,.lst .ev m.out]∧∀q1,z7.inv q1→(let z4:=((q1.v:Nat):Int);let z5:List Blk:=[.cells (Ab 4 5 6 q1.m),.dead,.dead,.dead,.tree q1.m.d.plan.shapes,.lst .lev q1.m.d.stack,.lst .ev q1.m.out];((decide (z4<z6))=true→(Fun Tryz.prog 55 [.agg (Bt q1.m.d)] [] (.v (vB (Eb q1.m.d))) [])∧((Eb q1.m.d)=true→(∃(x1:UInt8),s[q1.v]? =some x1)∧∀(x1:UInt8),(s[q1.v]? =some x1)→(let z3:=((UInt8.toNat x1:Nat):Int);let z2:=D9 q1.m z3;(s[q1.v]? =some x1)∧((0:Int)≤z4)∧((.v (vI (IntKind.i64.wrap (z3))):S)= .v (vI z3))∧(Fun Tryz.prog 57 [vP 0,vI z3] [.cells (Ab 1 2 3 q1.m),.tree q1.m.d.plan.shapes,.lst .lev q1.m.d.stack,.lst .ev q1.m.out] (.tup []) [.cells (Ab 4 5 6 z2),.dead,.dead,.dead,.tree z2.d.plan.shapes,.lst .lev z2.d.stack,.lst .ev z2.out])∧(Fun Tryz.prog 91 [] [] (.tup []) [])∧((.v (vI (IntKind.i64.wrap (z4+1))):S)= .v (vI (z4+1)))∧z7.Nxt q1 [(0,.v (vP 0)),(1,.v (vT s)),(2,.v (.c (.fn 91 []))),(8,.v (vI z6)),(9,.v (vI (z4+1)))] [.cells (Ab 4 5 6 z2),.dead,.dead,.dead,.tree z2.d.plan.shapes,.lst .lev z2.d.stack,.lst .ev z2.out]))∧((Eb q1.m.d)=false→(Fun Tryz.prog 91 [] [] (.tup []) [])∧((.v (vI (IntKind.i64.wrap (z4+1))):S)= .v (vI (z4+1)))∧z7.Nxt q1 [(0,.v (vP 0)),(1,.v (vT s)),(2,.v (.c (.fn 91 []))),(8,.v (vI z6)),(9,.v (vI (z4+1)))] z5))∧((decide (z4<z6))=false→(.tup []:S)= .tup []∧(z5:List Blk)=[.cells (Ab 4 5 6 (B8 m s)),.dead,.dead,.dead,.tree (B8 m s).d.plan.shapes,.lst .lev (B8 m s).d.stack,.lst .ev (B8 m s).out])))) Q4 ?_
 refine⟨Bk (j:=(⟨m,0⟩:Lf)) Q10 rfl (by dsimp only[Lg];exact⟨by omega,rfl,hp1,by omega⟩),fun (q1:Lf) hq_q1=>?_⟩
 have hi_q1:q1.v≤List.length s∧B8 q1.m (List.drop q1.v s)=B8 m s∧Cj (q1.m).d=true∧List.length (q1.m).out≤List.length m.out+14*q1.v:=hq_q1
 obtain ⟨v1,v2,v3,v4⟩:=hi_q1
 have hbt:=Sb v3
 have hmw:=W3 v3 hbt
 have hlv:=B0 hmw.lv
 have hpt:=B6 hlv.1
 refine dsp (fun h1 p1=>?_) fun h1 p1=>?_
 refine⟨(Ain q1.m.d),fun h2=>?_,fun h2=>?_⟩
 have hta:Eb q1.m.d=true:=h2
 have htk:=Abf hta
 have hst:=W4 v3 htk.1
 refine⟨(Bm (l:=s) (i:=q1.v) Q2),fun x1 hx1=>?_⟩
 have hb_x1:=UInt8.toNat_lt x1
 rw[Ez hx1,Ld] at v2
 have hub:=Ak9 x1
 have hsm:=Acr (m:=q1.m) v3 hta hub
 exact⟨hx1,Q2,(Ae Q2 Q2),(Ajw q1.m _ (hmw) Q2 Q2 Q2 Q2 (hst.2.2.1)),(Wg),(Ae Q2 Q2),Bd (j:=(⟨(D9 q1.m ((UInt8.toNat x1:Nat):Int)),q1.v+1⟩:Lf)) Q10 rfl Q44 (by dsimp only[Lg];omega)⟩
 have hnt:Eb q1.m.d=false:=h2
 exact⟨(Wg),(Ae Q2 Q2),Bd (j:=(⟨q1.m,q1.v+1⟩:Lf)) Q10 rfl Q44 (by dsimp only[Lg];omega)⟩
 rw[List.drop_eq_nil_of_le (by omega),Ys] at v2
 refine have hm1:B8 m s=q1.m:=?_;?_
 rotate_left
 exact⟨rfl,Q5⟩
 all_goals first|((rw[←v2];done))|(rfl)|(grind)
theorem Yu (d:Dcd) (s:List UInt8) (hp1:List.length (d).plan.shapes≤1048576) (hp2: ∀e∈(d).plan.shapes,List.length e.fields≤1048576) (hp3:List.length (d).stack≤1048576) (hp4:(0:Int)≤(d).scan.bits∧(d).scan.bits≤18446744073709551615) (hp5:List.length s≤1048576):Fun Tryz.prog 26 [.agg (Bt d),vT s] [] (.tup [.agg (Ad 0 1 (B8 ⟨d,[]⟩ s).d),vO 2]) [.tree (B8 ⟨d,[]⟩ s).d.plan.shapes,.lst .lev (B8 ⟨d,[]⟩ s).d.stack,.lst .ev (B8 ⟨d,[]⟩ s).out]:=by
 have hN:Bg=274877906944:=rfl
 refine Ar Tryz.func26 Q4 Q4 (w:=let zi:Int→C:= .int .i64;let z1:=B8 (⟨d,([]:List Ev)⟩:Mac) s;let z2:List Blk:=[.cells (Ab 4 5 6 z1),.dead,.dead,.dead,.tree z1.d.plan.shapes,.lst .lev z1.d.stack,.lst .ev z1.out];let z3:=B8 ⟨d,[]⟩ s;(.seg [.call [] (.v (.agg (Ad 0 1 d))) [.tree d.plan.shapes,.lst .lev d.stack],.call [] (.v (vB (Cj d))) []] (.br (.seg [.at 4,.mk 4 27 .ev,.call [4,2,3,5] (.tup []) z2,.ord (os 10 [8]) [1]] (.leaf () [6,7,8])) (.seg [.ord (os 10 [8]) [1],.at 0,.mkS 5 .ev] (.leaf () [2,3,5]))),(Fun Tryz.prog 54 [.agg (Bt d)] [] (.v (.agg (Ad 0 1 d))) [.tree d.plan.shapes,.lst .lev d.stack])∧(Fun Tryz.prog 21 [.agg (Bt d)] [] (.v (vB (Cj d))) [])∧((Cj d)=true→(Fun Tryz.prog 90 [vP 0,vT s,.c (.fn 91 [])] [.cells [.own 1,zi d.plan.root,zi d.plan.deep,zi d.plan.most,zi d.mode,.own 2,.int .u64 d.scan.bits,zi d.scan.have_,zi d.start,zi d.at_,zi d.field.number,zi d.field.kind,.bool d.field.rep,.bool d.field.packed,zi d.field.msg,zi d.wire,zi d.want,zi d.utf.want,zi d.utf.low,zi d.utf.high,zi d.end_.kind,zi d.end_.field,.int .u64 d.end_.bits,zi d.end_.len,.str d.end_.text,zi d.end_.code,zi d.end_.at_,.own 3],.tree d.plan.shapes,.lst .lev d.stack,.lst .ev ([]:List Ev)] (.tup []) z2)∧(.tup [.agg (Ad 0 1 z1.d),vO 2]:S)= .tup [.agg (Ad 0 1 z3.d),vO 2]∧([.tree z1.d.plan.shapes,.lst .lev z1.d.stack,.lst .ev z1.out]:List Blk)=[.tree z3.d.plan.shapes,.lst .lev z3.d.stack,.lst .ev z3.out])∧((Cj d)=false→(.tup [.agg (Ad 0 1 d),vO 2]:S)= .tup [.agg (Ad 0 1 z3.d),vO 2]∧([.tree d.plan.shapes,.lst .lev d.stack,.lst .ev ([]:List Ev)]:List Blk)=[.tree z3.d.plan.shapes,.lst .lev z3.d.stack,.lst .ev z3.out]))) Q4 ?_
 refine⟨(Un d Q2 (hp2) Q2),(W8 d Q2 Q2),fun h1=>?_,fun h1=>?_⟩
 refine⟨(Ai2 (⟨d,([]:List Ev)⟩:Mac) _ Q7 Q15 Q2),?_⟩
 refine have hm1:(B8 ⟨d,[]⟩ s).d=(B8 (⟨d,([]:List Ev)⟩:Mac) s).d:=?_;?_
 rotate_left
 refine have hm2:(B8 ⟨d,[]⟩ s).out=(B8 (⟨d,([]:List Ev)⟩:Mac) s).out:=?_;?_
 rotate_left
 exact⟨Q5,Q9⟩
 have hbad:B8 ⟨d,[]⟩ s=⟨d,[]⟩:=Yt (m:=⟨d,[]⟩) (by simpa using h1) s
 refine have hm1:(B8 ⟨d,[]⟩ s).d=d:=?_;?_
 rotate_left
 refine have hm2:(B8 ⟨d,[]⟩ s).out=([]:List Ev):=?_;?_
 rotate_left
 exact⟨Q5,Q9⟩
 all_goals first|(rfl)|((rw[hbad];done))|(grind)
structure Kr where
 d:Dcd
 out:List Ev
 i:Nat
def Ks (d:Dcd) (s:List UInt8):Fam:=⟨Kr,fun q1=>[(1,.v (vT s)),(2,.v (vP 0)),(4,.v (vP 3)),(6,.v (vO 4)),(7,.v (vI ((q1.i:Nat):Int)))],fun q1=>[.cells (Ad 1 2 q1.d),.tree q1.d.plan.shapes,.lst .lev q1.d.stack,.cells [.nil,.int .i64 0,.int .i64 0,.int .i64 0,.int .i64 0,.nil,.int .u64 0,.int .i64 0,.int .i64 0,.int .i64 0,.int .i64 0,.int .i64 0,.bool false,.bool false,.int .i64 0,.int .i64 0,.int .i64 0,.int .i64 0,.int .i64 0,.int .i64 0,.int .i64 0,.int .i64 0,.int .u64 0,.int .i64 0,.str [],.int .i64 0,.int .i64 0],.lst .ev q1.out],fun q1=>q1.i≤List.length s∧B8 ⟨q1.d,q1.out⟩ (List.drop q1.i s)=B8 ⟨d,[]⟩ s∧(q1.d).plan=d.plan∧List.length (q1.d).stack≤1048576∧((0:Int)≤(q1.d).scan.bits∧(q1.d).scan.bits≤18446744073709551615)∧List.length q1.out≤14*q1.i,fun q1=>List.length s-q1.i⟩
theorem Afj (d:Dcd) (s:List UInt8) (hp1:List.length (d).plan.shapes≤1048576) (hp2: ∀e∈(d).plan.shapes,List.length e.fields≤1048576) (hp3:List.length (d).stack≤1048576) (hp4:(0:Int)≤(d).scan.bits∧(d).scan.bits≤18446744073709551615) (hp5:List.length s≤1048576):Fun Tryz.prog 27 [.agg (Bt d),vT s] [] (.tup [.agg (Ad 0 1 (B8 ⟨d,[]⟩ s).d),vO 2]) [.tree (B8 ⟨d,[]⟩ s).d.plan.shapes,.lst .lev (B8 ⟨d,[]⟩ s).d.stack,.lst .ev (B8 ⟨d,[]⟩ s).out]:=by
 have hN:Bg=274877906944:=rfl
 refine Ar Tryz.func27 Q4 Q4 (w:=let zi:Int→C:= .int .i64;let z5:List C:=[.nil,zi 0,zi 0,zi 0,zi 0,.nil,.int .u64 0,zi 0,zi 0,zi 0,zi 0,zi 0,.bool false,.bool false,zi 0,zi 0,zi 0,zi 0,zi 0,zi 0,zi 0,zi 0,.int .u64 0,zi 0,.str [],zi 0,zi 0];let z6:=Ks d s;let z7:=B8 ⟨d,[]⟩ s;(.seg [.call [] (.v (.agg (Ad 0 1 d))) [.tree d.plan.shapes,.lst .lev d.stack],.ty .ev,.at 0,.keep [1,2,4,6,7],.sel [0,2,3,1,4]] (.loop z6 fun q1=> .br (.intro (fun (x1:UInt8)=>s[q1.i]? =some x1) fun x1=>let z1:=B3 q1.d ((UInt8.toNat x1:Nat):Int);.seg [.tree (fr (.two 5 (fr (.one 9 (.one 10 (.first 11 (.done)))) 6 3) 9 (.one 5 (fr (.one 10 (.first 11 (.done))) 6 3))) 0 5) 12 [],.ch x1,.as 24 (.v (vI ((UInt8.toNat x1:Nat):Int))),.call [] (.tup [.agg (Ad 0 1 z1.d),vO 2]) [.tree z1.d.plan.shapes,.lst .lev z1.d.stack,.lst .ev z1.out],.at 0,.keep [1,2,4,6,7,8,9],.sel [0,1,2,3,4,8,5,6,7],.call [] (.tup [.agg (Ad 0 1 z1.d),vO 2]) [.tree z1.d.plan.shapes,.lst .lev z1.d.stack,.lst .ev z1.out],.at 0,.keep [1,2,4,6,7,8,9],.sel [0,1,2,3,4,5,6,7,8],.ty .ev,.as 18 (.v (vI (((q1.i:Nat):Int)+1))),.at 0,.keep [1,2,4,6,7],.sel [0,6,7,3,9]] (.next)) (.leaf () [1,2,4])),(Fun Tryz.prog 58 [.agg (Bt d)] [] (.v (.agg (Ad 0 1 d))) [.tree d.plan.shapes,.lst .lev d.stack])∧z6.Has [(1,.v (vT s)),(2,.v (vP 0)),(4,.v (vP 3)),(6,.v (vO 4)),(7,.v (vI 0))] [.cells (Ad 1 2 d),.tree d.plan.shapes,.lst .lev d.stack,.cells z5,.lst .ev ([]:List Ev)]∧∀q1,z6.inv q1→(let z4:=((q1.i:Nat):Int);((decide (z4<((List.length s:Nat):Int)))=true→(∃(x1:UInt8),s[q1.i]? =some x1)∧∀(x1:UInt8),(s[q1.i]? =some x1)→(let z3:=((UInt8.toNat x1:Nat):Int);let z2:=B3 q1.d z3;(s[q1.i]? =some x1)∧((0:Int)≤z4)∧(s[q1.i]? =some x1)∧((0:Int)≤z4)∧((.v (vI (IntKind.i64.wrap (z3))):S)= .v (vI z3))∧((.v (vI (IntKind.i64.wrap (z3))):S)= .v (vI z3))∧(Fun Tryz.prog 18 [.agg (Bt q1.d),vI z3] [] (.tup [.agg (Ad 0 1 z2.d),vO 2]) [.tree z2.d.plan.shapes,.lst .lev z2.d.stack,.lst .ev z2.out])∧(Fun Tryz.prog 18 [.agg (Bt q1.d),vI z3] [] (.tup [.agg (Ad 0 1 z2.d),vO 2]) [.tree z2.d.plan.shapes,.lst .lev z2.d.stack,.lst .ev z2.out])∧(([.cells (Ad 1 2 q1.d),.tree q1.d.plan.shapes,.lst .lev q1.d.stack,.cells z5,.lst .ev q1.out,.cells (Ad 6 7 z2.d),.tree z2.d.plan.shapes,.lst .lev z2.d.stack,.lst .ev z2.out]:List Blk)=[.cells (Ad 1 2 q1.d),.tree q1.d.plan.shapes,.lst .lev q1.d.stack,.cells z5,.lst .ev q1.out,.cells (Ad 6 7 z2.d),.tree z2.d.plan.shapes,.lst .lev z2.d.stack,.lst .ev z2.out])∧(([(1,.v (vT s)),(2,.v (vP 0)),(4,.v (vP 3)),(6,.v (vO 4)),(7,.v (vI z4)),(8,.v (vP 5)),(9,.v (vO 8))]:List (Nat×S))=[(1,.v (vT s)),(2,.v (vP 0)),(4,.v (vP 3)),(6,.v (vO 4)),(7,.v (vI z4)),(8,.v (vP 5)),(9,.v (vO 8))])∧(List.length q1.out+List.length z2.out≤Bg)∧((.v (vI (IntKind.i64.wrap (z4+1))):S)= .v (vI (z4+1)))∧z6.Nxt q1 [(1,.v (vT s)),(2,.v (vP 0)),(4,.v (vP 3)),(6,.v (vO 4)),(7,.v (vI (z4+1)))] [.cells (Ad 1 2 z2.d),.tree z2.d.plan.shapes,.lst .lev z2.d.stack,.cells z5,.lst .ev (q1.out++z2.out)]))∧((decide (z4<((List.length s:Nat):Int)))=false→(.tup [.agg (Ad 0 1 q1.d),vO 2]:S)= .tup [.agg (Ad 0 1 z7.d),vO 2]∧([.tree q1.d.plan.shapes,.lst .lev q1.d.stack,.lst .ev q1.out]:List Blk)=[.tree z7.d.plan.shapes,.lst .lev z7.d.stack,.lst .ev z7.out])))) Q4 ?_
 refine⟨(Nn d Q2 ((by first|(exact hsf)|(exact hp2))) Q2),Bk (j:=(⟨d,([]:List Ev),0⟩:Kr)) Q10 rfl (by dsimp only[Ks];exact⟨by omega,rfl,rfl,hp3,hp4,by simp⟩),fun (q1:Kr) hq_q1=>?_⟩
 have hi_q1:q1.i≤List.length s∧B8 ⟨q1.d,q1.out⟩ (List.drop q1.i s)=B8 ⟨d,[]⟩ s∧(q1.d).plan=d.plan∧List.length (q1.d).stack≤1048576∧((0:Int)≤(q1.d).scan.bits∧(q1.d).scan.bits≤18446744073709551615)∧List.length q1.out≤14*q1.i:=hq_q1
 obtain ⟨v1,v2,v3,v4,v5,v6⟩:=hi_q1
 have hsl:List.length q1.d.plan.shapes=List.length d.plan.shapes:=by rw[v3]
 have hsf: ∀e∈q1.d.plan.shapes,List.length e.fields≤1048576:=by rw[v3];exact hp2
 refine dsp (fun h1 p1=>?_) fun h1 p1=>?_
 refine⟨(Bm (l:=s) (i:=q1.i) Q2),fun x1 hx1=>?_⟩
 have hb_x1:=UInt8.toNat_lt x1
 rw[Ez hx1,Ld] at v2
 have hub:=Ak9 x1
 have hl:=N2 (d:=q1.d) (b:=((x1.toNat:Nat):Int))
 exact⟨hx1,Q2,hx1,Q2,(Ae Q2 Q2),(Ae Q2 Q2),(Xb q1.d _ Q2 ((by first|(exact hsf)|(exact hp2))) Q2 Q2),(Xb q1.d _ Q2 ((by first|(exact hsf)|(exact hp2))) Q2 Q2),rfl,rfl,Q2,(Ae Q2 Q2),Bd (j:=(⟨(B3 q1.d ((UInt8.toNat x1:Nat):Int)).d,q1.out++(B3 q1.d ((UInt8.toNat x1:Nat):Int)).out,q1.i+1⟩:Kr)) Q10 rfl (by dsimp only[Ks];exact⟨by omega,by rw[←v2];rfl,hl.1.trans v3,by omega,hl.2.2.2 v5,by rw[List.length_append];omega⟩) (by dsimp only[Ks];omega)⟩
 rw[List.drop_eq_nil_of_le (by omega),Ys] at v2
 refine have hm1:(B8 ⟨d,[]⟩ s).d=q1.d:=?_;?_
 rotate_left
 refine have hm2:(B8 ⟨d,[]⟩ s).out=q1.out:=?_;?_
 rotate_left
 exact⟨Q5,Q9⟩
 all_goals first|(rfl)|((rw[←v2];done))|(grind)
theorem Z6 (code:List Int) (hp1:((List.length code:Nat):Int)≤9223372036854775807):Fun Tryz.prog 6 [.c (.seq .u8 code)] [] (.v (vB true)) []:=by
 have hN:Bg=274877906944:=rfl
 refine Ar Tryz.func6 Q4 Q4 (w:=let z3:=decide (1048576<((List.length code:Nat):Int));let z4:=([]:List Blk);let z5:=(.v (vB false):S);let z6:=(.v (vB true):S);(.seg [.call [] (.v (vB z3)) []] (.br (.leaf () []) (.intro (Jz code) fun o1=>let z1:=B8 ⟨o1.d,[]⟩ o1.t;.seg [.call [] (.tup [.agg (Bt o1.d),vT o1.t]) [],.call [] (.tup [.agg (Ad 0 1 z1.d),vO 2]) [.tree z1.d.plan.shapes,.lst .lev z1.d.stack,.lst .ev z1.out],.call [] (.tup [.agg (Ad 0 1 z1.d),vO 2]) [.tree z1.d.plan.shapes,.lst .lev z1.d.stack,.lst .ev z1.out],.call [] (.v (vB true)) [],.br false,.call [] (.v (vB (decide (z1.out=z1.out)))) [],.br false] (.br (.leaf () []) (.seg [.call [] (.tup [.agg (Ad 0 1 (B8 ⟨z1.d,[]⟩ [97,98,99,0,255]).d),vO 2]) [.tree (B8 ⟨z1.d,[]⟩ [97,98,99,0,255]).d.plan.shapes,.lst .lev (B8 ⟨z1.d,[]⟩ [97,98,99,0,255]).d.stack,.lst .ev (B8 ⟨z1.d,[]⟩ [97,98,99,0,255]).out],.call [] (.tup [.agg (Ad 0 1 (Le z1.d).d),vO 2]) [.tree (Le z1.d).d.plan.shapes,.lst .lev (Le z1.d).d.stack,.lst .ev (Le z1.d).out],.call [] (.tup [.agg (Ad 0 1 (Ro z1.d 20).d),vO 2]) [.tree (Ro z1.d 20).d.plan.shapes,.lst .lev (Ro z1.d 20).d.stack,.lst .ev (Ro z1.d 20).out]] (.br (.br (.br (.seg [.call [] (.v (vB true)) [],.br true,.call [] (.v (vB true)) [],.br true,.call [] (.v (vB true)) []] (.leaf () [])) (.leaf () [])) (.leaf () [])) (.leaf () [])))))),(Fun Tryz.prog 9 [.c (.seq .u8 code)] [] (.v (vB z3)) [])∧(z3=true→z6= .v (vB true)∧z4=[])∧(z3=false→In (Jz code) fun o1=>(let z2:=B8 ⟨o1.d,[]⟩ o1.t;(N4 code o1)∧(Fun Tryz.prog 26 [.agg (Bt o1.d),vT o1.t] [] (.tup [.agg (Ad 0 1 z2.d),vO 2]) [.tree z2.d.plan.shapes,.lst .lev z2.d.stack,.lst .ev z2.out])∧(Fun Tryz.prog 27 [.agg (Bt o1.d),vT o1.t] [] (.tup [.agg (Ad 0 1 z2.d),vO 2]) [.tree z2.d.plan.shapes,.lst .lev z2.d.stack,.lst .ev z2.out])∧(Fun Tryz.prog 19 [.agg (Bt z2.d),.agg (Bt z2.d)] [] (.v (vB true)) [])∧((!true)=false)∧(Fun Tryz.prog 15 [.c (.seq .ev z2.out),.c (.seq .ev z2.out)] [] (.v (vB (decide (z2.out=z2.out)))) [])∧((!(decide (z2.out=z2.out)))=false)∧((!decide (z2.d.mode=9))=true→z6= .v (vB true)∧z4=[])∧((!decide (z2.d.mode=9))=false→(Fun Tryz.prog 26 [.agg (Bt z2.d),vT [97,98,99,0,255]] [] (.tup [.agg (Ad 0 1 (B8 ⟨z2.d,[]⟩ [97,98,99,0,255]).d),vO 2]) [.tree (B8 ⟨z2.d,[]⟩ [97,98,99,0,255]).d.plan.shapes,.lst .lev (B8 ⟨z2.d,[]⟩ [97,98,99,0,255]).d.stack,.lst .ev (B8 ⟨z2.d,[]⟩ [97,98,99,0,255]).out])∧(Fun Tryz.prog 28 [.agg (Bt z2.d)] [] (.tup [.agg (Ad 0 1 (Le z2.d).d),vO 2]) [.tree (Le z2.d).d.plan.shapes,.lst .lev (Le z2.d).d.stack,.lst .ev (Le z2.d).out])∧(Fun Tryz.prog 29 [.agg (Bt z2.d),vI 20] [] (.tup [.agg (Ad 0 1 (Ro z2.d 20).d),vO 2]) [.tree (Ro z2.d 20).d.plan.shapes,.lst .lev (Ro z2.d 20).d.stack,.lst .ev (Ro z2.d 20).out])∧((decide (((List.length (B8 ⟨z2.d,[]⟩ [97,98,99,0,255]).out:Nat):Int)=0))=true→((decide (((List.length (Le z2.d).out:Nat):Int)=0))=true→((decide (((List.length (Ro z2.d 20).out:Nat):Int)=0))=true→(Fun Tryz.prog 19 [.agg (Bt (B8 ⟨z2.d,[]⟩ [97,98,99,0,255]).d),.agg (Bt z2.d)] [] (.v (vB true)) [])∧(true=true)∧(Fun Tryz.prog 19 [.agg (Bt (Le z2.d).d),.agg (Bt z2.d)] [] (.v (vB true)) [])∧(true=true)∧(Fun Tryz.prog 19 [.agg (Bt (Ro z2.d 20).d),.agg (Bt z2.d)] [] (.v (vB true)) [])∧z6= .v (vB true)∧z4=[])∧((decide (((List.length (Ro z2.d 20).out:Nat):Int)=0))=false→z5= .v (vB true)∧z4=[]))∧((decide (((List.length (Le z2.d).out:Nat):Int)=0))=false→z5= .v (vB true)∧z4=[]))∧((decide (((List.length (B8 ⟨z2.d,[]⟩ [97,98,99,0,255]).out:Nat):Int)=0))=false→z5= .v (vB true)∧z4=[])))))) Q4 ?_
 refine⟨(Aj5 _ Q2),dsp (fun h1 p1=>?_) fun h1 p1=>?_⟩
 exact⟨rfl,rfl⟩
 refine⟨(Xi code Q2),fun o1 ho_o1=>?_⟩
 obtain ⟨⟨hp_o1_0,hp_o1_1⟩,hf_o1⟩:=ho_o1
 refine⟨hf_o1,(Yu o1.d _ (by have:=(hp_o1_0).shs;omega) (fun e he=>by have:=(hp_o1_0).flds e he;omega) (by have:=(hp_o1_0).stack;omega) ((hp_o1_0).bits) Q2),(Afj o1.d _ (by have:=(hp_o1_0).shs;omega) (fun e he=>by have:=(hp_o1_0).flds e he;omega) (by have:=(hp_o1_0).stack;omega) ((hp_o1_0).bits) Q2),(Rm (B8 ⟨o1.d,[]⟩ o1.t).d (B8 ⟨o1.d,[]⟩ o1.t).d (rfl) Q72 (fun e he=>by have:=(Hn hp_o1_0 o1.t).flds e he;omega) Q70),Q24,(Aex _ _ Q67 Q67),Q75,fun h2=>have q2:=Ap h2;have p2:=of_decide_eq_false q2;?_,fun h2=>have q2:=Ao h2;have p2:=of_decide_eq_true q2;?_⟩
 exact⟨rfl,rfl⟩
 have hst:=Ai0 p2
 refine⟨(Yu (B8 ⟨o1.d,[]⟩ o1.t).d _ Q72 (fun e he=>by have:=(Hn hp_o1_0 o1.t).flds e he;omega) Q70 ((Hn hp_o1_0 o1.t).bits) Q6),(Ag6 (B8 ⟨o1.d,[]⟩ o1.t).d Q72 (fun e he=>by have:=(Hn hp_o1_0 o1.t).flds e he;omega) Q70 ((Hn hp_o1_0 o1.t).bits)),(Ai1 (B8 ⟨o1.d,[]⟩ o1.t).d _ Q72 (fun e he=>by have:=(Hn hp_o1_0 o1.t).flds e he;omega) Q70 ((Hn hp_o1_0 o1.t).bits)),dsp (fun h3 p3=>?_) fun h3 p3=>?_⟩
 refine dsp (fun h4 p4=>?_) fun h4 p4=>?_
 refine dsp (fun h5 p5=>?_) fun h5 p5=>?_
 exact⟨(Rm (B8 ⟨(B8 ⟨o1.d,[]⟩ o1.t).d,[]⟩ [97,98,99,0,255]).d (B8 ⟨o1.d,[]⟩ o1.t).d (by rw[hst.1]) Q65 Q58 Q64),Q24,(Rm (Le (B8 ⟨o1.d,[]⟩ o1.t).d).d (B8 ⟨o1.d,[]⟩ o1.t).d (by rw[hst.2.1]) Q65 Q58 Q64),Q24,(Rm (Ro (B8 ⟨o1.d,[]⟩ o1.t).d 20).d (B8 ⟨o1.d,[]⟩ o1.t).d (by rw[hst.2.2]) Q65 Q58 Q64),rfl,rfl⟩
 refine⟨(sB ?_),rfl⟩
 rotate_left
 refine⟨(sB ?_),rfl⟩
 rotate_left
 refine⟨(sB ?_),rfl⟩
 rotate_left
 all_goals first|((simp[hst.1,hst.2.1,hst.2.2];done))|((exfalso;simp[hst.1,hst.2.1,hst.2.2] at p3;done))|((exfalso;simp[hst.1,hst.2.1,hst.2.2] at p4;done))|((exfalso;simp[hst.1,hst.2.1,hst.2.2] at p5;done))|(rfl)
end Go.Proofs.YtcmnedgnppnhoaaGreat.Ax
namespace Go.Proofs.YtcmnedgnppnhoaaGreat.Ax
open Go.ChangeShapes Go.WideShapes Go.ChangeAt Go.RowKit
theorem Afk:Tryz.prog.cellsOf 5=1:=by kernel_rfl
theorem Ame {H:Type} {tok:TypeId×Value→H} {w:World} {sp:Nat→Bool} {held:Bool} (fuel:Nat) (cs:List Value) (x:DataW H×List MemPlace) (hl:cs.length=1) (h:DataW.trod tok Tryz.prog w 0 sp held fuel 5 cs=some x): ∃y:Int,All2 Rep0 (enc .u8 y) cs∧(0≤y∧y≤255):=by
 obtain ⟨i,rfl,_,hw⟩:=DataW.trod_int Tryz.underlying5 h
 exact⟨i,.cons rfl .nil,bounds_u8 hw⟩
end Go.Proofs.YtcmnedgnppnhoaaGreat.Ax
